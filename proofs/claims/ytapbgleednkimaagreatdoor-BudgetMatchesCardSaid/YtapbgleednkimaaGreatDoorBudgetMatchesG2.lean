/- Contracts: the words of a text are numbers; the reader of any kind, and what goes with it. -/
import Derived.Test.YtapbgleednkimaaGreatDoorBudgetMatchesG1
set_option linter.all false
set_option maxRecDepth 100000
set_option maxHeartbeats 40000000
open List renaming length_append->Al,all_append->Cl,append_assoc->Ac,getElem?_append_left->Bm,length->Jn,all_eq_true->Cb,mem_of_getElem?->Af,getElem?_map->Ap,getElem?_cons_succ->Bl,range->Ba,length_cons->Ak,length_map->Ag,mem_cons->Cr,map_cons->Ah,map_nil->Av,map_append->Bh,length_nil->An,take_zero->Ds,flatMap_nil->Fw,append_nil->Ao,length_take->Ay,take_add_one->Bx,take_length->Ct,mem_append->Cf,mem_flatMap->Ey,cons_append->Ai,nil_append->Aj,flatMap_append->Gp,flatMap_cons->Cc,take_append_drop->Cu,getElem?_eq_getElem->Ad,getD->Bc,idxOf_append->Ff,range_succ->Fq,any_append->Jb,map_singleton->Jo,replicate->Ae,all_cons->Cv,getElem?_cons_zero->Cg,getElem?_set_self->Ck,getElem?_set->Dy,mem_or_eq_of_mem_set->Hk,size_toArray->Dj
open Bool renaming and_eq_true->Aw,false_eq_true->Aq,not_eq_true'->Io,true_and->Co,and_self->Bz,not_true->Be,not_false->Az,false_and->Es,true->Jr,false->Js
open Nat renaming le_trans->As,lt_of_lt_of_le->Bk,le_refl->Ab,zero_le->Au,zero_add->Bg,add_assoc->Cn,reduceAdd->Ax,min_eq_left->Dk,not_lt_zero->Ed,eq_zero_or_pos->Du,mul_one->Ce,mul_le_mul->Gn,pow_le_pow_right->Ho,reduceSub->Bf,lt_trichotomy->Fk
open ByteArray renaming ext->Gi,size->Fa
open Option renaming getD->Hc,toList_some->Dq,getD_some->Di,some->Jp,none->Jq
open Int renaming toNat_natCast->Bq,le_refl->Dw,reduceToNat->Hs
open Classical renaming byContradiction->Cd
namespace Go.Am.Ar
open Go.Am.PV renaming aa->Zj
open Go.Am renaming jc->P1,lg->P2,kq->P3,ep->P4,bl.under->P5,fy->P6,dr->P7,bf->P8,pev->P9,iw->P10,bd->P11,jl->P12,dw->P13,fY->P14,AO.effect->P15
open List renaming replicate->L1
section
variable {tab:FuncId->Option AF} (T:HasA tab){M:Mem}{K:PV->Mem->Prop}
include T
end
structure At (tab:FuncId->Option AF) (i:In) (jid b L:Nat) (StF:Mem->Nat->Mem->Prop) (m:Nat) (Mm:Mem):Prop where
 J:pt tab jid b L i StF
 at_:∃A X Z,Mm=(A++X)++Z/\A.length=b/\A.all (aI b)=Jr/\StF A m (A++X)
def jq(u:Mem):Prop:=u.all (aI u.length)=Jr
section
variable {tab:FuncId->Option AF} {i:In} {jid b L:Nat} {StF:Mem->Nat->Mem->Prop} {m:Nat} {Mm:Mem}
def At.len(h:At tab i jid b L StF m Mm):b<=L/\L<=Mm.length:=by obtain⟨A,X,Z,rfl,h1,h2,h3⟩:=h.at_;have:=(h.J.X A h1 h2).len _ _ h3;simp only[Al]at this ⊢;omega
def At.more(h:At tab i jid b L StF m Mm)(Y:Mem):At tab i jid b L StF m (Mm++Y):=by obtain⟨A,X,Z,rfl,h1,h2,h3⟩:=h.at_;exact⟨h.J,A,X,Z++Y,by simp,h1,h2,h3⟩
def At.step(h:At tab i jid b L StF m Mm)(hc:jq Mm){k:Int}{K:PV->Mem->Prop}(a4:0<=k)(a5:k<=9223372036854775807)(a6:∀m,¬i.je m)
  (hk:∀u E U,m<=u->(u:Int)<=m+k->(U=Jr↔i.done u)->(U=Js->(u:Int)=m+k)->(∀j,m<=j->j<u->¬i.done j)->At tab i jid b L StF u E->jq E->(E.length=Mm.length/\∀k,k<b->E[k]? =Mm[k]?)->
   (∀{i2:In} {y b2 L2:Nat} {StF2:Mem->Nat->Mem->Prop} {m2:Nat},At tab i2 y b2 L2 StF2 m2 Mm->L<=b2\/L2<=b->At tab i2 y b2 L2 StF2 m2 E)->K (.tuple [.bool U,p64 0]) E):
  au tab 18 [.ptr jid 0 0,p64 k] Mm K:=by
 obtain⟨A,X,Z,rfl,h1,h2,h3⟩:=h.at_;have JX:=h.J.X A h1 h2;have hL:=JX.len _ _ h3;refine JX.step m (A++X) h3 Z k K a4 a5 (fun u E U p1 p2 p3 p4 p5 p6=>?_) fun u E _ _ _ p _=>absurd p (a6 u);have I:=JX.len _ _ p6;have V:=JX.cut _ _ p6;obtain⟨Y,rfl⟩:=h.J.pre A u E p6;have hlen:((A++Y)++Z).length=((A++X)++Z).length:=by simp only[Al]at hL I ⊢;omega
 have a7:jq ((A++Y)++Z):=by unfold jq at hc ⊢;rw[hlen,Cl,fJ (by simp only[Al]at hL ⊢;omega) V];rw[Cl,Aw]at hc;rw[hc.2];rfl
 refine hk u _ U p1 p2 p3 p4 (fun j a1 a2=>(p5 j a1 a2).1) ⟨h.J,A,Y,Z,rfl,h1,h2,p6⟩ a7 ⟨hlen,fun k hk=>?_⟩ ?_
 ·rw[Ac,Ac,Bm (by omega),Bm (by omega)]
 intro i2 y b2 L2 StF2 m2 g B;obtain⟨M,G,Z2,e,T,g2,g3⟩:=g.at_;have a9:=(g.J.X M T g2).len _ _ g3;refine⟨g.J,?_⟩;rcases B with B | B
 ·--the O b0 a0 behind
  obtain⟨S,Q⟩:∃S,M=(A++X)++S:=by
   have e':(A++X)++Z=M++(G++Z2):=by rw[e,Ac]
   rcases List.append_eq_append_iff.1 e' with⟨S,q,_⟩ | ⟨S,q,_⟩
   ·exact⟨S,q⟩
   ·have:=congrArg Jn q;simp only[Al]at this hL;have R:S.length=0:=by omega
    exact⟨[],by rw[q,List.length_eq_zero_iff.1 R];simp⟩
  have hZ:Z=S++(G++Z2):=by
   have e2:(A++X)++Z=(A++X)++(S++(G++Z2)):=by rw[e,Q];simp
   exact List.append_cancel_left e2
  refine⟨(A++Y)++S,G,Z2,by rw[hZ];simp,?_,?_,?_⟩
  ·rw[<-T,Q];simp only[Al]at hL I ⊢;omega
  ·rw[Q,Cl,Aw]at g2;rw[Cl,g2.2,fJ (by rw[<-T,Q];simp only[Al]at hL ⊢;omega) V];rfl
  ·rw[Ac,<-Ac];refine g.J.bas M _ m2 G T ?_ g3;rw[<-T,Q];simp only[Al]at hL I ⊢;omega
 ·--the O b0 a0 in a3
  obtain⟨S,Q⟩:∃S,A=(M++G)++S:=by
   have e':(M++G)++Z2=A++(X++Z):=by rw[<-e,Ac]
   rcases List.append_eq_append_iff.1 e' with⟨S,q,_⟩ | ⟨S,q,_⟩
   ·exact⟨S,q⟩
   ·have:=congrArg Jn q;simp only[Al]at this a9;have R:S.length=0:=by omega
    exact⟨[],by rw[q,List.length_eq_zero_iff.1 R];simp⟩
  exact⟨M,G,S++Y++Z,by rw[Q];simp,T,g2,g3⟩
def At.sav(h:At tab i jid b L StF m Mm)(hm:m<=2147483647){K:PV->Mem->Prop}(u:K (.str (i.mn m)) Mm):au tab 23 [.ptr jid 0 0] Mm K:=by obtain⟨A,X,Z,rfl,h1,h2,h3⟩:=h.at_;exact h.J.sav A h1 h2 m _ h3 hm Z K u
def At.res(h:At tab i jid b L StF m Mm){K:PV->Mem->Prop}(u:∀r,i.rp m r->K r.pv Mm):au tab 20 [.ptr jid 0 0] Mm K:=by obtain⟨A,X,Z,rfl,h1,h2,h3⟩:=h.at_;exact(h.J.X A h1 h2).res m _ h3 Z K u
variable (T:HasA tab)
include T
def At.ou(h:At tab i jid b L StF m Mm){K:PV->Mem->Prop}(u:K (p64 (m:Int)) Mm):au tab 22 [.ptr jid 0 0] Mm K:=by obtain⟨A,X,Z,rfl,h1,h2,h3⟩:=h.at_;exact(h.J.X A h1 h2).ou T h3 u
end
mutual
def V6(m:Nat):∀v:PV,v.under m=Jr->v.age.under m=Jr
 | .sl _ _ _ _ cs,h=>by simp only[PV.age,PV.under]at*;exact mD m cs h
 | .cp cs _,h=>by simp only[PV.age,PV.under]at*;exact mD m cs h
 | .agg cs,h=>by simp only[PV.age,PV.under]at*;exact mD m cs h
 | .tuple cs,h=>by simp only[PV.age,PV.under]at*;exact mD m cs h
 | .func _ f c,h=>by simp only[PV.age,PV.under,Aw]at*;exact⟨mD m f h.1,mD m c h.2⟩
 | .yld _ f,h=>by simp only[PV.age,PV.under,Aw]at*;exact⟨h.1,mD m f h.2⟩
 | .iface _ v,h=>by simp only[PV.age,PV.under]at*;exact V6 m v h
 | Zj,h=>h
 | .bool _,h=>h
 | .int _ _,h=>h
 | .str _,h=>h
 | .aq,h=>h
 | .ai,h=>h
 | .bc,h=>h
 | .al,h=>h
 | .ae,h=>h
 | .ptr _ _ _,h=>h
 | .ref _ _ _ _ _,h=>h
 | .map _,h=>h
def mD(m:Nat):∀l:List PV,aD m l=Jr->aD m (eD l)=Jr
 | [],h=>h
 | v::l,h=>by simp only[eD,aD,Aw]at*;exact⟨V6 m v h.1,mD m l h.2⟩
end
mutual
def VI(m:Nat):∀v:PV,v.under m=Jr->v.age.jnk.under m=Jr
 | .sl _ _ _ _ cs,h=>by simp only[PV.age,PV.jnk,PV.under,Aq,if_false]at*;exact nC m cs h
 | .cp cs _,h=>by simp only[PV.age,PV.jnk,PV.under]
 | .agg cs,h=>by simp only[PV.age,PV.jnk,PV.under]at*;exact nC m cs h
 | .tuple cs,h=>by simp only[PV.age,PV.jnk,PV.under]at*;exact nC m cs h
 | .func _ f c,h=>by simp only[PV.age,PV.jnk,PV.under,Aw]at*;exact⟨nC m f h.1,nC m c h.2⟩
 | .yld _ f,h=>by simp only[PV.age,PV.jnk,PV.under,Aw]at*;exact⟨h.1,nC m f h.2⟩
 | .iface _ v,h=>by simp only[PV.age,PV.jnk,PV.under]at*;exact VI m v h
 | Zj,h=>h
 | .bool _,h=>h
 | .int _ _,h=>h
 | .str _,h=>h
 | .aq,h=>h
 | .ai,h=>h
 | .bc,h=>h
 | .al,h=>h
 | .ae,h=>h
 | .ptr _ _ _,h=>h
 | .ref _ _ _ _ _,h=>h
 | .map _,h=>h
def nC(m:Nat):∀l:List PV,aD m l=Jr->aD m (gW (eD l))=Jr
 | [],h=>h
 | v::l,h=>by simp only[eD,gW,aD,Aw]at*;exact⟨VI m v h.1,nC m l h.2⟩
end
def aFr{n:Nat}{o:bl}(h:aI n o=Jr):aI n (bl.kx eD o)=Jr:=by
 cases o with
 | cells g v cs=>exact mD n cs h
 | map v u=>
  show aI n (if u.all (fun p=>iA p.1&&iA p.2)=Jr then .map v u else .gone)=Jr;by_cases hf:u.all (fun p=>iA p.1&&iA p.2)=Jr
  ·rw[if_pos hf];exact h
  ·rw[if_neg hf];rfl
 | gone=>rfl
 | loop v r=>rfl
def aFp{n:Nat}{o:bl}(h:aI n o=Jr):aI n (bl.kx gW (bl.kx eD o))=Jr:=by
 cases o with
 | cells g v cs=>exact nC n cs h
 | map v u=>
  show aI n (bl.kx gW (if u.all (fun p=>iA p.1&&iA p.2)=Jr then .map v u else .gone))=Jr;by_cases hf:u.all (fun p=>iA p.1&&iA p.2)=Jr
  ·rw[if_pos hf];show aI n (if u.all (fun p=>iA p.1&&iA p.2)=Jr then .map v u else .gone)=Jr;rw[if_pos hf];exact h
  ·rw[if_neg hf];rfl
 | gone=>rfl
 | loop v r=>rfl
def O1{n:Nat}{A:Mem}(h:A.all (aI n)=Jr):(agM A).all (aI n)=Jr:=by rw[Cb]at*;intro o u;obtain⟨p,y,rfl⟩:=List.mem_map.1 u;exact aFr (h p y)
def O0{n:Nat}{A:Mem}(h:A.all (aI n)=Jr):(jkM (agM A)).all (aI n)=Jr:=by rw[Cb]at*;intro o u;obtain⟨p,y,rfl⟩:=List.mem_map.1 u;obtain⟨q,B,rfl⟩:=List.mem_map.1 y;exact aFp (h q B)
structure Stb (StF:Mem->Nat->Mem->Prop):Prop where
 age:∀A m M,StF A m M->StF (agM A) m (agM M)
 jnk:∀A m M,StF A m M->StF (jkM (agM A)) m (jkM (agM M))
section
variable {tab:FuncId->Option AF} {i:In} {jid b L:Nat} {StF:Mem->Nat->Mem->Prop} {m:Nat} {Mm:Mem}
def At.age(h:At tab i jid b L StF m Mm)(S:Stb StF):At tab i jid b L StF m (agM Mm):=by obtain⟨A,X,Z,rfl,h1,h2,h3⟩:=h.at_;exact⟨h.J,agM A,agM X,agM Z,by simp[agM],by simp[agM,h1],O1 h2,by have:=S.age _ _ _ h3;simpa [agM]using this⟩
def At.jna(h:At tab i jid b L StF m Mm)(S:Stb StF):At tab i jid b L StF m (jkM (agM Mm)):=by obtain⟨A,X,Z,rfl,h1,h2,h3⟩:=h.at_;exact⟨h.J,jkM (agM A),jkM (agM X),jkM (agM Z),by simp[agM,jkM],by simp[agM,jkM,h1],O0 h2,by have:=S.jnk _ _ _ h3;simpa [agM,jkM]using this⟩
def jq.age(h:jq Mm):jq (agM Mm):=by unfold jq at*;rw[show(agM Mm).length=Mm.length by simp[agM]];exact O1 h
def jq.jna(h:jq Mm):jq (jkM (agM Mm)):=by unfold jq at*;rw[show(jkM (agM Mm)).length=Mm.length by simp[agM,jkM]];exact O0 h
end
def aEk{N:NF} :Stb (fun A=>StD A N):=⟨fun _ _ _ h=>aF4 h,fun _ _ _ h=>aF3 h⟩
def aEj{D:DF} :Stb (fun A=>StM A D):=⟨fun _ _ _ h=>aF2 h,fun _ _ _ h=>aF1 h⟩
def aAE{ow pr:List Int}{su:List (List Int)} :Stb (fun A=>StP A ow pr su):=⟨fun _ _ _ h=>aF0 h,fun _ _ _ h=>aFZ h⟩
mutual
def ygV:PV->Bool
 | .sl _ own _ _ cs=>own&&ygL cs
 | .agg cs=>ygL cs
 | .tuple cs=>ygL cs
 | .iface _ v=>ygV v
 | .cp _ _=>Js
 | .yld _ _=>Js
 | .func _ _ _=>Js
 | .bool _=>Jr
 | .int _ _=>Jr
 | .str _=>Jr
 | .aq=>Jr
 | .ai=>Jr
 | .bc=>Jr
 | .al=>Jr
 | .ae=>Jr
 | .aa=>Jr
 | .ptr _ _ _=>Jr
 | .ref _ _ _ _ _=>Jr
 | .map _=>Jr
def ygL:List PV->Bool
 | []=>Jr
 | v::l=>ygV v&&ygL l
def odV:PV->Bool
 | .sl fl own _ _ cs=> !fl&& !own&&odL cs
 | .agg cs=>odL cs
 | .tuple cs=>odL cs
 | .iface _ _=>Js
 | .cp _ _=>Js
 | .yld _ _=>Js
 | .func _ _ _=>Js
 | .bool _=>Jr
 | .int _ _=>Jr
 | .str _=>Jr
 | .aq=>Jr
 | .ai=>Jr
 | .bc=>Jr
 | .al=>Jr
 | .ae=>Jr
 | .aa=>Jr
 | .ptr _ _ _=>Js
 | .ref _ _ _ _ _=>Js
 | .map _=>Js
def odL:List PV->Bool
 | []=>Jr
 | v::l=>odV v&&odL l
end
def tA:∀(l:List PV),ygL l=Jr↔∀v∈l,ygV v=Jr
 | []=>by simp[ygL]
 | v::l=>by simp[ygL,tA l]
def IZ:∀(l:List PV),odL l=Jr↔∀v∈l,odV v=Jr
 | []=>by simp[odL]
 | v::l=>by simp[odL,IZ l]
def HN{l:List PV}(h:ygL l=Jr){i:Nat}{y:PV}(u:l[i]? =Jp y):ygV y=Jr:=(tA l).1 h y (Af u)
def BH{l:List PV}(h:odL l=Jr){i:Nat}{y:PV}(u:l[i]? =Jp y):odV y=Jr:=(IZ l).1 h y (Af u)
def Q7{w w':PWd}(h0:w'.n0<=w.n0)(I:∀b o,w.imm b=Jp o->w.n0<=b->w'.imm b=Jp o)(he:∀id e,w.env id=Jp e->w'.env id=Jp e){v:PV}{x:AV}(h:az w v x):ygV v=Jr->az w' v x:=by
 induction h with
 | aa x=>intro _;exact .aa x
 | bool b=>intro _;exact .bool b
 | int k n=>intro _;exact .int k n
 | str s=>intro _;exact .str s
 | aq=>intro _;exact .aq
 | ai=>intro _;exact .ai
 | bc=>intro _;exact .bc
 | al=>intro _;exact .al
 | ae=>intro _;exact .ae
 | sl h1 h2 h3 B E M O u=>intro hb;simp only[ygV,Aw]at hb;obtain⟨G,J⟩:=E hb.1;exact .sl (I _ _ h1 G) h2 h3 B (fun _=>⟨As h0 G,J⟩) (fun q=>by rw[hb.1]at q;cases q) fun i y z p q=>u i y z p q (HN hb.2 p)
 | slN=>intro _;exact .slN
 | agg h1 h2 u=>intro hb;simp only[ygV]at hb;exact .agg h1 fun i y z p q=>u i y z p q (HN hb p)
 | tuple h1 h2 u=>intro hb;simp only[ygV]at hb;exact .tuple h1 fun i y z p q=>u i y z p q (HN hb p)
 | ptr h1 h2 h3=>intro _;exact .ptr (he _ _ h1) h2 h3
 | jo x q h1 h2=>intro _;exact .jo x q (he _ _ h1) h2
 | cp h1 h2 h3 u=>intro hb;simp[ygV]at hb
 | ref h1 h2 h3=>intro _;exact .ref (he _ _ h1) h2 h3
 | jk h1 h2 h3=>intro _;exact .jk (he _ _ h1) h2 h3
 | kj x q h1 h2=>intro _;exact .kj x q (he _ _ h1) h2
 | map h1 h2 h3=>intro _;exact .map (he _ _ h1) h2 h3
 | lj x q h1 h2=>intro _;exact .lj x q (he _ _ h1) h2
 | func h1 h2 h3 B E K L=>intro hb;simp[ygV]at hb
 | yld h1 h2 h3 B E u=>intro hb;simp[ygV]at hb
 | ll x q h1 h2=>intro hb;simp[ygV]at hb
 | iface h u=>intro hb;simp only[ygV]at hb;exact .iface (u hb)
def aAX{w w':PWd}(h0:w.n0<=w'.n0)(G:∀b o,w.imm b=Jp o->b<w.n0->w'.imm b=Jp o){v:PV}{x:AV}(h:az w v x):odV v=Jr->az w' v x:=by
 induction h with
 | aa x=>intro _;exact .aa x
 | bool b=>intro _;exact .bool b
 | int k n=>intro _;exact .int k n
 | str s=>intro _;exact .str s
 | aq=>intro _;exact .aq
 | ai=>intro _;exact .ai
 | bc=>intro _;exact .bc
 | al=>intro _;exact .al
 | ae=>intro _;exact .ae
 | @sl fl own sz n cs I b ver rw J off h1 h2 h3 B E K O u=>intro hb;simp only[odV,Aw,Io]at hb;obtain⟨⟨rfl,rfl⟩,hb⟩:=hb;have q:=K rfl rfl;exact .sl (G _ _ h1 q) h2 h3 B (fun q=>by cases q) (fun _ _=>Bk q h0) fun i y z p q=>u i y z p q (BH hb p)
 | slN=>intro _;exact .slN
 | agg h1 h2 u=>intro hb;simp only[odV]at hb;exact .agg h1 fun i y z p q=>u i y z p q (BH hb p)
 | tuple h1 h2 u=>intro hb;simp only[odV]at hb;exact .tuple h1 fun i y z p q=>u i y z p q (BH hb p)
 | ptr h1 h2 h3=>intro hb;simp[odV]at hb
 | jo x q h1 h2=>intro hb;simp[odV]at hb
 | cp h1 h2 h3 u=>intro hb;simp[odV]at hb
 | ref h1 h2 h3=>intro hb;simp[odV]at hb
 | jk h1 h2 h3=>intro hb;simp[odV]at hb
 | kj x q h1 h2=>intro hb;simp[odV]at hb
 | map h1 h2 h3=>intro hb;simp[odV]at hb
 | lj x q h1 h2=>intro hb;simp[odV]at hb
 | func h1 h2 h3 B E L M=>intro hb;simp[odV]at hb
 | yld h1 h2 h3 B E u=>intro hb;simp[odV]at hb
 | ll x q h1 h2=>intro hb;simp[odV]at hb
 | iface h u=>intro hb;simp[odV]at hb
def aEx{w1 w2 w:PWd}{h:H}(K:∀b o,w1.imm b=Jp o->h.get b=Jp o)(L:∀b o,w2.imm b=Jp o->h.get b=Jp o)(h0:w.n0=w1.n0)(M:∀b o,w1.imm b=Jp o->b<w2.n0->w.imm b=Jp o){v:PV}{x:AV}(hv:az w1 v x):v.br=Jr->az w2 v.age x->az w v x:=by
 induction hv with
 | aa x=>intro _ _;exact .aa x
 | bool b=>intro _ _;exact .bool b
 | int k n=>intro _ _;exact .int k n
 | str s=>intro _ _;exact .str s
 | aq=>intro _ _;exact .aq
 | ai=>intro _ _;exact .ai
 | bc=>intro _ _;exact .bc
 | al=>intro _ _;exact .al
 | ae=>intro _ _;exact .ae
 | @sl fl own sz n cs O b ver rw Q off h1 h2 h3 G I h7 h6 B=>
  intro hb u;simp only[PV.br,Aw]at hb;obtain⟨R,S⟩:=I hb.1;simp only[PV.age]at u;generalize T:eD cs=q at u
  cases u with
  | @sl _ _ _ _ _ _ _ mj U jz _ J E g3 g4 g5 V Y=>subst T;have e:=(K _ _ h1).symm.trans (L _ _ J);cases e;refine .sl (M _ _ h1 (V rfl rfl)) h2 h3 G (fun _=>⟨by rw[h0];exact R,S⟩) (fun q=>by rw[hb.1]at q;cases q) fun i y z p q=>B i y z p q (lF hb.2 p) ?_;exact Y i y.age z (by rw[gP,Ap,p];rfl) q
 | slN=>intro _ _;exact .slN
 | agg h1 h2 B=>
  intro hb u;simp only[PV.br]at hb;simp only[PV.age]at u
  cases u with
  | agg J E=>exact .agg h1 (fun i y z p q=>B i y z p q (lF hb p) (E i y.age z (by rw[gP,Ap,p];rfl) q))
 | tuple h1 h2 B=>
  intro hb u;simp only[PV.br]at hb;simp only[PV.age]at u
  cases u with
  | tuple J E=>exact .tuple h1 (fun i y z p q=>B i y z p q (lF hb p) (E i y.age z (by rw[gP,Ap,p];rfl) q))
 | ptr h1 h2 h3=>intro hb;simp[PV.br]at hb
 | jo x q h1 h2=>intro hb;simp[PV.br]at hb
 | cp h1 h2 h3 B=>intro hb;simp[PV.br]at hb
 | ref h1 h2 h3=>intro hb;simp[PV.br]at hb
 | jk h1 h2 h3=>intro hb;simp[PV.br]at hb
 | kj x q h1 h2=>intro hb;simp[PV.br]at hb
 | map h1 h2 h3=>intro hb;simp[PV.br]at hb
 | lj x q h1 h2=>intro hb;simp[PV.br]at hb
 | func h1 h2 h3 G I Z a0=>intro hb;simp[PV.br]at hb
 | yld h1 h2 h3 G I B=>intro hb;simp[PV.br]at hb
 | ll x q h1 h2=>intro hb;simp[PV.br]at hb
 | iface h B=>intro hb;simp[PV.br]at hb
def wrC:AC->Option (List Nat)
 | .region os=>Jp (os.filterMap aw.dst)
 | .seq x y=>match wrC x,wrC y with
  | some a,Jp b=>Jp (a++b)
  | _,_=>Jq
 | _=>Jq
def KY:∀(a:List AV) (t:Nat) (v:AV),(cr a t v).length=a.length
 | [],t,v=>rfl
 | _::a,0,v=>rfl
 | x::a,t+1,v=>by simp[cr,KY a t v]
def vL:∀(a:List AV) (t s:Nat) (v:AV),s≠t->bu (cr a t v) s=bu a s
 | [],t,s,v,h=>rfl
 | _::a,0,0,v,h=>absurd rfl h
 | _::a,0,s+1,v,h=>rfl
 | _::a,t+1,0,v,h=>rfl
 | _::a,t+1,s+1,v,h=>vL a t s v fun q=>h (by rw[q])
def aA2(a:List AV)(d:Option Nat)(v:AV):(put a d v).length=a.length/\∀t,d≠Jp t->bu (put a d v) t=bu a t:=by
 cases d with
 | none=>exact⟨rfl,fun _ _=>rfl⟩
 | some d=>exact⟨KY a d v,fun t h=>vL a d t v fun q=>h (by rw[q])⟩
def HH{L:Rec} :∀(os:List aw) {a u:List AV} {h h2:H},j4 L os a h=Jp (u,h2)->u.length=a.length/\∀t,t∉os.filterMap aw.dst->bu u t=bu a t
 | [],a,u,h,h2,e=>by simp only[j4]at e;cases e;exact⟨rfl,fun _ _=>rfl⟩
 | o::os,a,u,h,h2,e=>by
  simp only[j4]at e;have y:∀v B,j4 L os (put a o.dst v) B=Jp (u,h2)->u.length=a.length/\∀t,t∉(o::os).filterMap aw.dst->bu u t=bu a t:=fun v B e=>by obtain⟨E,G⟩:=HH os e;obtain⟨I,J⟩:=aA2 a o.dst v;refine⟨E.trans I,fun t ht=>?_⟩;rw[List.mem_filterMap]at ht;rw[G t fun q=>ht ?_,J t fun q=>ht ⟨o,by simp,q⟩];obtain⟨x,K,hd⟩:=List.mem_filterMap.1 q;exact⟨x,by simp[K],hd⟩
  split at e
  ·split at e
   ·exact y _ _ e
   ·cases e
  ·exact y _ _ e
  ·cases e
def rJ{L:Rec} :∀(c:AC) {D:List Nat} {a u:List AV} {h h2:H} {e:Ex},wrC c=Jp D->bC L c a h=Jp (e,u,h2)->u.length=a.length/\∀t,t∉D->bu u t=bu a t
 | .region os,D,a,u,h,h2,e,hw,he=>by
  simp only[wrC]at hw;cases hw;simp only[bC]at he;split at he
  ·rename_i J h1 B;cases he;exact HH os B
  ·cases he
 | .seq x y,D,a,u,h,h2,e,hw,he=>by
  simp only[wrC]at hw;split at hw
  ·rename_i Q R I K;cases hw;simp only[bC]at he;split at he
   ·rename_i J h1 B;obtain⟨E,G⟩:=rJ x I B;obtain⟨M,O⟩:=rJ y K he;exact⟨M.trans E,fun t ht=>by rw[O t fun q=>ht (by simp[q]),G t fun q=>ht (by simp[q])]⟩
   ·obtain⟨E,G⟩:=rJ x I he;exact⟨E,fun t ht=>G t fun q=>ht (by simp[q])⟩
  ·cases hw
 | .skip,D,a,u,h,h2,e,hw,he=>by simp[wrC]at hw
 | .ff _,D,a,u,h,h2,e,hw,he=>by simp[wrC]at hw
 | .cond _ _ _,D,a,u,h,h2,e,hw,he=>by simp[wrC]at hw
 | .block _ _,D,a,u,h,h2,e,hw,he=>by simp[wrC]at hw
 | .loop _ _,D,a,u,h,h2,e,hw,he=>by simp[wrC]at hw
 | .exit _,D,a,u,h,h2,e,hw,he=>by simp[wrC]at hw
 | .ret,D,a,u,h,h2,e,hw,he=>by simp[wrC]at hw
 | .rangeFunc _ _ _ _,D,a,u,h,h2,e,hw,he=>by simp[wrC]at hw
def kI:∀(a:List AV) (i:Nat),i<a.length->a[i]? =Jp (bu a i)
 | [],i,h=>absurd h (by simp)
 | v::a,0,h=>rfl
 | v::a,i+1,h=>by rw[Bl];exact kI a i (by simpa using h)
def aI8{L:Rec}{c:AC}{a:List AV}{h:H}{y J B Pr:List AV->H->Prop}{K E:Nat->List AV->H->Prop}(h1:W L c a h y J K)(h2:W L c a h B Pr E):W L c a h (fun a h=>y a h/\B a h) Pr E:=by
 unfold W at*;obtain⟨e,M,O,G,Q⟩:=h1;obtain⟨R,S,T,I,u⟩:=h2;rw[G]at I;cases I;refine⟨e,M,O,G,?_⟩
 cases e with
 | normal=>exact⟨Q,u⟩
 | ret=>exact u
 | exit i=>exact u
def aH3{L:Rec}{c:AC}{a:List AV}{h:H}{B E:List AV->H->Prop}{G:Nat->List AV->H->Prop}{D:List Nat}(J:wrC c=Jp D)(h1:W L c a h B E G):W L c a h (fun u h2=>B u h2/\u.length=a.length/\∀t,t∉D->bu u t=bu a t) E G:=by
 unfold W at*;obtain⟨e,K,M,I,y⟩:=h1;refine⟨e,K,M,I,?_⟩
 cases e with
 | normal=>exact⟨y,rJ c J I⟩
 | ret=>exact y
 | exit i=>exact y
def yjV(v:PV):PV:=if ygV v=Jr then v else .aa
def JA(D:List Nat)(q:Nat)(vq:PV)(b:List PV):List PV:=(Ba b.length).map fun t=>if t=q then vq else if D.contains t=Jr then .aa else yjV (bf b t)
def Q9:∀{a b:List PV},db a b->a.length=b.length/\∀t,bf b t= .aa\/bf a t=bf b t
 | [],[],_=>⟨rfl,fun t=> .inr rfl⟩
 | x::a,y::b,⟨h1,h2⟩=>by
  obtain⟨l,k⟩:=Q9 h2;refine⟨by simp[l],fun t=>?_⟩
  match t with
  | 0=>exact h1
  | t+1=>exact k t
 | [],_::_,h=>h.elim
 | _::_,[],h=>h.elim
def aGy:∀{a b:List PV},a.length=b.length->(∀(t:Nat) (x y:PV),a[t]? =Jp x->b[t]? =Jp y->y= .aa\/x=y)->db a b
 | [],[],_,_=>trivial
 | x::a,y::b,h,k=>⟨k 0 x y rfl rfl,aGy (by simpa using h) fun t x y h1 h2=>k (t+1) x y h1 h2⟩
 | [],_::_,h,_=>by simp at h
 | _::_,[],h,_=>by simp at h
def YM{D:List Nat}{q:Nat}{u:PV}{a b:List PV}(h:db a b):db (JA D q u a) (JA D q u b):=by
 obtain⟨l,k⟩:=Q9 h;unfold JA;rw[l];refine aGy (by simp) fun t x y B E=>?_;rw[Ap]at B E
 cases hr:(Ba b.length)[t]? with
 | none=>rw[hr]at B;cases B
 | some i=>
  rw[hr]at B E;cases B;cases E;show(if i=q then u else if D.contains i=Jr then .aa else yjV (bf b i))= .aa\/(if i=q then u else if D.contains i=Jr then .aa else yjV (bf a i))=if i=q then u else if D.contains i=Jr then .aa else yjV (bf b i)
  split
  ·exact .inr rfl
  ·split
   ·exact .inl rfl
   ·rcases k i with e | e
    ·left;rw[e];rfl
    ·right;rw[e]
def rR:bl->bl
 | .cells g v cs=> .cells g v (cs.map yjV)
 | .map v u=>if u.all (fun p=>ygV p.1&&ygV p.2)=Jr then .map v u else .gone
 | _=> .gone
def I9(y:List PV):Mem->Mem
 | .cells g v _:: .cells B E u::N=> .cells g v y:: .cells B E (u.map fun _=>Zj)::N.map rR
 | _=>[]
def aFG{w:PWd}{h:H}{M:Mem}(s:PSt w h M):PSt {w with n0:=h.next,id0:=M.length} h (M.map (bl.po eD)):=by
 let w':PWd:={w with n0:=h.next,id0:=M.length}
 have hb:∀b o,w.imm b=Jp o->b<w'.n0:=fun b o hb=>s.ij hb;have J:∀{l:List PV} {E:List AV},ak w l E->ak w' (eD l) E:=fun h=>h.age hb (fun _ _ h=>h) fun _ _ h=>h;refine⟨s.imm,fun id e he=>by simpa using s.env id e he,s.blk,?_,fun i j x h1 h2=>s.inj i j x (yF (fun _=>rfl) h1) (yF (fun _=>rfl) h2),?_,Ab _⟩
 ·intro id o K;obtain⟨G,h1,rfl⟩:=ND K;have r:=s.obj id G h1
  cases G with
  | cells g ver cs=>
   obtain⟨e,L,O,u⟩:=r;refine⟨e,L,O,?_⟩
   cases y:e.blk with
   | none=>rw[y]at u;have u:cs=[]:=u;subst u;show eD []=[];simp[eD]
   | some b=>rw[y]at u;obtain⟨B,Q,R⟩:=u;exact⟨B,Q,J R⟩
  | _=>trivial
 ·intro i x hl;have hl:=yF (w:=w) (w':=w') (fun _=>rfl) hl;refine⟨(s.sep i x hl).1,fun I=>?_⟩;have:=hl.lt;have I:M.length<=i:=I;omega
def aHi{w w':PWd}(h0:w'.n0<=w.n0)(u:∀b o,w.imm b=Jp o->w.n0<=b->w'.imm b=Jp o)(he:∀id e,w.env id=Jp e->w'.env id=Jp e){v:PV}{x:AV}(h:az w v x):az w' (yjV v) x:=by
 unfold yjV;split
 ·rename_i c;exact Q7 h0 u he h c
 ·exact .aa _
section
variable {tab:FuncId->Option AF}
def aDF{x y z:AC}{a:List PV}{M:Mem}{Qn Qr:List PV->Mem->Prop}{Qe:Nat->List PV->Mem->Prop}{D:List Nat}{n p pc q vc v1:Nat}{vq:PV}{cc cs:List PV}
  (hM:M.length=2) (b3:iS cs=Jr) (b4:odL cc=Jr) (hD:wrC y=Jp D) (hq:odV vq=Jr) (b5:q∉D)
  (h1:fL tab 2 x a M (fun b N=>b.length=n/\bf b q=vq/\bf b p= .ptr 1 0 0/\bf b pc= .ptr 0 0 0/\N[1]? =Jp (.cells 0 v1 cs)/\N[0]? =Jp (.cells 0 vc cc)) (fun _ _=>True) fun _ _ _=>True)
  (h2:fL tab 2 x (eD a) (M.map (bl.po eD)) (fun b N=>bf b p= .ptr 1 0 0/\bf b pc= .ptr 0 0 0/\(∃v2 O U N',N= .cells 0 O U:: .cells 0 v2 (eD cs)::N')/\lB tab z (JA D q vq b) (I9 cc N) Qn Qr Qe) Qr Qe)
  (b6:∀(w:PWd) (h:H) (a':List AV) (M':Mem),PSt w h M'->M'[1]? =Jp (.cells 0 v1 cs)->az w (.ptr 1 0 0) (bu a' p)->a'.length=n->W (lim tab) y a' h (fun _ h2=>Ov3 w h h2) (fun _ _=>False) fun _ _ _=>False):
  lB tab (.seq x (.seq y z)) a M Qn Qr Qe:=by
 intro w h a' s ha;have s0:PSt {w with id0:=2} h M:=by have:=s.here;rwa [hM]at this
 have W1:=h1 {w with id0:=2} h a' (Ab _) (by rw[hM];exact Ab _) s0 (ha.eqv (w:=w) (w':={w with id0:=2}) rfl (fun _ _ h=>h) fun _ _ h=>h);have sA:PSt {w with n0:=h.next,id0:=2} h (M.map (bl.po eD)):=by have:=aFG s;rwa [hM]at this
 have W2:=h2 {w with n0:=h.next,id0:=2} h a' (Ab _) (by simp[hM]) sA (ha.age (w:=w) (w':={w with n0:=h.next,id0:=2}) (fun b o hb=>s.ij hb) (fun _ _ h=>h) fun _ _ h=>h);rw[eX];refine hU (aI8 W1 W2) ?_ ?_ ?_;rotate_left
 ·rintro a1 g1 ⟨E,b2,N2,_,p1,p2,p3⟩;exact⟨E,b2,N2,p1,p2,p3⟩
 ·rintro i a1 g1 ⟨E,b2,N2,_,p1,p2,p3⟩;exact⟨E,b2,N2,p1,p2,p3⟩
 rintro a1 g1 ⟨⟨J,b1,N1,t1,Q,r1,b7,b8,c0,c8,c9,d0⟩,⟨E,b2,N2,t2,S,r2,d4,d5,⟨v2,O,U,N',rfl⟩,d6⟩⟩;have n1:J.n0=w.n0:=t1.le.n0;have n2:E.n0=h.next:=t2.le.n0;have d2:E.id0=2:=t2.le.id0;have hn:=s.base;rw[cQ,eX]
 --the box of what is written over
 have x1:=r1.bu p;rw[c0]at x1;have x2:=r2.bu p;rw[d4]at x2;obtain⟨e1,k1,T,y1,y2,y3,y4,y5,y6,y7⟩:=Q.iu c9 x1;obtain⟨e2,k2,a7,z1,z2,z3,z4,z5,z6,z7⟩:=S.iu (id:=1) (g:=0) (ver:=v2) (cs:=eD cs) rfl x2;rw[y1]at z1;cases z1;have e0:T=a7:=by rw[y5]at z5;injection z5 with z5;injection z5 with _ _ z5
 subst e0
 --the law's argument
 have a9:=r1.bu pc;rw[c8]at a9;have b0:=r2.bu pc;rw[d5]at b0;obtain⟨g7,kc,Y,c1,c2,c3,c4,c5,c6,c7⟩:=Q.iu d0 a9;obtain⟨e3,g8,a4,f1,f2,f3,f4,f5,f6,f7⟩:=S.iu (id:=0) (g:=0) (ver:=O) (cs:=U) rfl b0;rw[c1]at f1;cases f1;have e4:Y=a4:=by rw[c5]at f5;injection f5 with f5;injection f5 with _ _ f5
 subst e4
 let wr:PWd:={J with imm:=fun b=>if b<h.next then J.imm b else Jq,env:=fun i=>if i=1 then Jp e1 else Jq,id0:=2}
 have e5:∀b o,wr.imm b=Jp o->J.imm b=Jp o/\b<h.next:=fun b o hb=>by
  have hb:(if b<h.next then J.imm b else Jq)=Jp o:=hb;split at hb
  ·rename_i q;exact⟨hb,q⟩
  ·cases hb
 have e6:ak wr cs T:=⟨y6.len,fun i u v K pv=>by refine aEx (w1:=J) (w2:=E) (w:=wr) Q.imm S.imm rfl (fun b o hb hlt=>?_) (y6.get i u v K pv) (lF b3 K) (z6.get i u.age v (by rw[gP,Ap,K];rfl) pv);show(if b<h.next then J.imm b else Jq)=Jp o;rw[if_pos (by rw[<-n2];exact hlt)];exact hb⟩;have lv:∀i b,af wr [.gone,.cells 0 v1 cs] i b->i=1/\b=k1:=by
  rintro i b ⟨o,e,B,V,G,L⟩
  match i,B with
  | 0,B=>simp at B;exact absurd B.symm V
  | 1,B=>have G:(if(1:Nat)=1 then Jp e1 else Jq)=Jp e:=G;rw[if_pos rfl]at G;cases G;rw[y4]at L;cases L;exact⟨rfl,rfl⟩
  | i+2,B=>simp at B
 have e7:PSt wr g1 [.gone,.cells 0 v1 cs]:=by
  refine⟨fun b o hb=>Q.imm b o (e5 b o hb).1,fun i e he=>?_,fun i e b he hb=>?_,fun i o I=>?_,fun i j b B V=>by rw[(lv i b B).1,(lv j b V).1],fun i b u=>?_,by show J.n0<=_;exact Q.base⟩
  ·have he:(if i=1 then Jp e1 else Jq)=Jp e:=he;split at he
   ·rename_i q;subst q;simp
   ·cases he
  ·have he:(if i=1 then Jp e1 else Jq)=Jp e:=he;split at he
   ·cases he;exact Q.blk 1 e1 b y2 hb
   ·cases he
  ·match i,I with
   | 0,I=>simp at I;subst I;trivial
   | 1,I=>simp at I;subst I;exact⟨e1,rfl,y3,by rw[y4];exact⟨T,y5,e6⟩⟩
   | i+2,I=>simp at I
  ·obtain⟨rfl,rfl⟩:=lv i b u;refine⟨?_,fun q=>absurd q (by show ¬2<=1;omega)⟩;show(if b<h.next then J.imm b else Jq)=Jq;split
   ·exact(Q.sep 1 b y7).1
   ·rfl
 have Wy:=b6 wr g1 a1 _ e7 rfl (by rw[y1];exact .ptr (e:=e1) rfl y3 y4) (by rw[<-b7];exact r1.len.symm);refine hU (aH3 hD Wy) ?_ (fun _ _ q=>q.elim) fun _ _ _ q=>q.elim;rintro a2 g2 ⟨ov,kl,kt⟩;rw[cQ]
 let Z:PWd:={n0:=h.next,id0:=N'.length+2,env:=E.env,imm:=fun b=>if b<w.n0 then J.imm b else if b<h.next then Jq else E.imm b}
 have i3:∀b o,E.imm b=Jp o->E.n0<=b->Z.imm b=Jp o:=fun b o hb g9=>by show(if b<w.n0 then J.imm b else if b<h.next then Jq else E.imm b)=Jp o;rw[if_neg (by omega),if_neg (by omega)];exact hb
 have a0:∀b,h.next<=b->b<g1.next->g2.get b=g1.get b:=fun b h1 h2=>ov.fc b h2 (.inr (by show(if b<h.next then J.imm b else Jq)=Jq;rw[if_neg (by omega)]));have a3:∀b,J.imm b=Jq->b<g1.next->g2.get b=g1.get b:=fun b h1 h2=>ov.fc b h2 (.inr (by show(if b<h.next then J.imm b else Jq)=Jq;rw[h1];split<;>rfl));have yj:∀{v:PV} {x:AV},az E v x->az Z (yjV v) x:=fun h=>aHi (w:=E) (w':=Z) (by rw[n2];exact Ab _) i3 (fun _ _ h=>h) h;have e8:ak Z cc Y:=⟨c6.len,fun i u v K pv=>aAX (w:=J) (w':=Z) (by rw[n1];exact hn) (fun b o hb hlt=>by
  show(if b<w.n0 then J.imm b else if b<h.next then Jq else E.imm b)=Jp o;rw[if_pos (by omega)];exact hb) (c6.get i u v K pv) (BH b4 K)⟩
 have R:∀i b,af Z (I9 cc (.cells 0 O U:: .cells 0 v2 (eD cs)::N')) i b->af E (.cells 0 O U:: .cells 0 v2 (eD cs)::N') i b:=by
  rintro i b ⟨o,e,B,V,G,L⟩
  match i,B with
  | 0,B=>exact⟨_,e,rfl,by simp,G,L⟩
  | 1,B=>exact⟨_,e,rfl,by simp,G,L⟩
  | i+2,B=>have B:(N'.map rR)[i]? =Jp o:=B;rw[Ap]at B;obtain⟨o',a5,rfl⟩:=Option.map_eq_some_iff.1 B;exact⟨o',e,a5,fun q=>V (by rw[q];rfl),G,L⟩
 refine d6 Z g2 a2 ⟨fun b o hb=>?_,fun i e he=>?_,fun i e b he hb=>Bk (S.blk i e b he hb) ov.next,fun i o I=>?_,fun i j b B V=>S.inj i j b (R i b B) (R j b V),fun i b u=>?_,?_⟩ ⟨?_,fun i u v K pv=>?_⟩
 ·have hb:(if b<w.n0 then J.imm b else if b<h.next then Jq else E.imm b)=Jp o:=hb;split at hb
  ·rename_i q;rw[ov.fc b (Q.ij hb) (.inl (by show b<J.n0;rw[n1];exact q))];exact Q.imm b o hb
  ·split at hb
   ·cases hb
   ·rename_i q;rw[a0 b (by omega) (S.ij hb)];exact S.imm b o hb
 ·have:=S.env i e he;simpa [I9]using this
 ·match i,I with
  | 0,I=>have I:Jp (bl.cells 0 O cc)=Jp o:=I;cases I;refine⟨e3,f2,f3,?_⟩;rw[f4];exact⟨Y,by rw[a3 kc ((Q.sep 0 kc c7).1) (c7.next Q)];exact f5,e8⟩
  | 1,I=>have I:Jp (bl.cells 0 v2 ((eD cs).map fun _=>PV.aa))=Jp o:=I;cases I;refine⟨e2,z2,z3,?_⟩;rw[z4];refine⟨T,by rw[a3 k1 ((Q.sep 1 k1 y7).1) (y7.next Q)];exact z5,by simpa using z6.len,fun i u v K pv=>?_⟩;rw[Ap]at K;obtain⟨_,_,rfl⟩:=Option.map_eq_some_iff.1 K;exact .aa _
  | i+2,I=>
   have I:(N'.map rR)[i]? =Jp o:=I;rw[Ap]at I;obtain⟨o',a5,rfl⟩:=Option.map_eq_some_iff.1 I;have r:=S.obj (i+2) o' a5;have br:∀e b,E.env (i+2)=Jp e->e.blk=Jp b->o'≠ .gone->g2.get b=g1.get b:=fun e b he hb g0=>by have l:af E (.cells 0 O U:: .cells 0 v2 (eD cs)::N') (i+2) b:=⟨o',e,a5,g0,he,hb⟩;refine a0 b ?_ (S.blk _ e b he hb);have:=(S.sep _ b l).2 (by rw[d2];omega);rw[n2]at this;exact this
   cases o' with
   | cells g v g3=>
    obtain⟨e,B,V,G⟩:=r;refine⟨e,B,V,?_⟩
    cases a6:e.blk with
    | none=>rw[a6]at G;have G:g3=[]:=G;subst G;rfl
    | some b=>rw[a6]at G;obtain⟨bb,L,u5⟩:=G;refine⟨bb,by rw[br e b B a6 (by simp)];exact L,by simpa using u5.len,fun j uu vv K pv=>?_⟩;rw[Ap]at K;obtain⟨u0,g4,rfl⟩:=Option.map_eq_some_iff.1 K;exact yj (u5.get j u0 vv g4 pv)
   | map v es=>
    show kg Z g2 (i+2) (if _ then _ else _);split
    ·rename_i g5;obtain⟨e,b,B,V,G,g6,L,u5⟩:=r;refine⟨e,b,B,V,G,g6,by rw[br e b B G (by simp)];exact L,u5.len,fun j uu vv K pv=>?_⟩;have hy:=(List.all_eq_true.1 g5) uu (Af K);rw[Aw]at hy;have:=u5.get j uu vv K pv;exact⟨Q7 (w:=E) (w':=Z) (by rw[n2];exact Ab _) i3 (fun _ _ h=>h) this.1 hy.1,Q7 (w:=E) (w':=Z) (by rw[n2];exact Ab _) i3 (fun _ _ h=>h) this.2 hy.2⟩
    ·trivial
   | loop v r=>trivial
   | gone=>trivial
 ·have l2:=R i b u;refine⟨?_,fun q=>?_⟩
  ·show(if b<w.n0 then J.imm b else if b<h.next then Jq else E.imm b)=Jq;split
   ·match i,l2 with
    | 0,l2=>obtain⟨o,e,B,V,G,L⟩:=l2;rw[f2]at G;cases G;rw[f4]at L;cases L;exact(Q.sep 0 kc c7).1
    | 1,l2=>obtain⟨o,e,B,V,G,L⟩:=l2;rw[z2]at G;cases G;rw[z4]at L;cases L;exact(Q.sep 1 k1 y7).1
    | i+2,l2=>have:=(S.sep _ b l2).2 (by rw[d2];omega);rw[n2]at this;omega
   ·split
    ·rfl
    ·exact(S.sep i b l2).1
  ·have q:N'.length+2<=i:=q;have:=l2.lt;simp only[Ak]at this;omega
 ·show h.next<=g2.next;have:=S.base;rw[n2]at this;exact As this ov.next
 ·unfold JA;rw[Ag,List.length_range,kl];exact r2.len
 ·unfold JA at K;rw[Ap]at K;obtain⟨t,ht,rfl⟩:=Option.map_eq_some_iff.1 K;have hi:i<b2.length:=by have:=aF ht;simpa using this
  rw[List.getElem?_range hi]at ht;cases ht;have e:=kI a2 i (by rw[kl,<-r2.len];exact hi);rw[pv]at e;cases e;split
  ·rename_i hc;subst hc;rw[kt _ b5];have:=r1.bu i;rw[b8]at this;exact aAX (w:=J) (w':=Z) (by rw[n1];exact hn) (fun b o hb hlt=>by
    show(if b<w.n0 then J.imm b else if b<h.next then Jq else E.imm b)=Jp o;rw[if_pos (by omega)];exact hb) this hq
  ·split
   ·exact .aa _
   ·rename_i hc;rw[kt i (by simpa using hc)];exact yj (r2.bu i)
end
structure nv (tab:FuncId->Option AF) (i:In) (A:Mem) (K:PV->Mem->Prop):Prop where
 bad:i.chk≠0->K (.tuple [.aq,p64 i.chk]) A
 ok:i.chk=0->∀jid b L StF A0 M0,pt tab jid b L i StF->A0.length=b->A0.all (aI b)=Jr->StF A0 0 M0->(∃X,A0=A++X)->Stb StF->(∃Z,M0=A0++Z/\Z.map rR=Z)->K (.tuple [.ptr jid 0 0,p64 0]) M0
def aD9{l:List PV}(h:ygL l=Jr):l.map yjV=l:=by rw[List.map_congr_left (g:=id) fun v hv=>by unfold yjV;rw[if_pos ((tA l).1 h v hv)];rfl];simp
def iE{g v:Nat}{cs:List PV}(h:ygL cs=Jr):rR (.cells g v cs)= .cells g v cs:=by show bl.cells g v (cs.map yjV)=_;rw[aD9 h]
def GN:rR .gone= .gone:=rfl
def aBV{v:Nat}{u:List (PV×PV)}(h:u.all (fun p=>ygV p.1&&ygV p.2)=Jr):rR (.map v u)= .map v u:=by show(if u.all (fun p=>ygV p.1&&ygV p.2)=Jr then bl.map v u else .gone)=_;rw[if_pos h]
def vE{α:Type}(f:α->PV)(h:∀a,ygV (f a)=Jr)(l:List α):ygL (l.map f)=Jr:=(tA _).2 fun v hv=>by obtain⟨a,_,rfl⟩:=List.mem_map.1 hv;exact h a
def aAo(f:Bool)(k:IntKind)(u:List Int):ygV (slI f Jr k u)=Jr:=by unfold slI;simp only[ygV,Co];exact vE _ (fun _=>rfl) _
def aGO(f:Bool)(u:List Eg):ygV (slE f Jr u)=Jr:=by unfold slE;simp only[ygV,Co];refine(tA _).2 fun v hv=>?_;unfold egL at hv;obtain⟨e,_,hv⟩:=List.mem_flatMap.1 hv;simp only[Cr,List.not_mem_nil,or_false]at hv;rcases hv with rfl | rfl | rfl | rfl<;>rfl
def pC(k:IntKind)(u:List Int):ygL (u.map (PV.int k))=Jr:=vE _ (fun _=>rfl) _
def mI(u:List Bool):ygL (u.map PV.bool)=Jr:=vE _ (fun _=>rfl) _
def mZ(f:Bool)(k:IntKind)(u:List (List Int)):ygL (u.map (slI f Jr k))=Jr:=vE _ (fun _=>aAo ..) _
def tB(u:List Eg):ygL (egL u)=Jr:=by have:=aGO Js u;simpa only[slE,ygV,Co]using this
def aGP(u:List Ms):ygL (msL u)=Jr:=(tA _).2 fun v hv=>by rcases wG v hv with⟨b,rfl⟩ | ⟨n,rfl⟩<;>rfl
def UD{v:PV}(h:iA v=Jr):ygV v=Jr:=by cases v<;>first | rfl | simp[iA]at h
def aG2{α:Type} [DecidableEq α](κ:α->ByteArray)(S:List α)(k:Nat):(smE (lY κ k S)).all (fun p=>ygV p.1&&ygV p.2)=Jr:=by have h:=vV κ S k;rw[Cb]at*;intro p u;have:=h p u;rw[Aw]at*;exact⟨UD this.1,UD this.2⟩
def aGQ{n:Nat}{D:DF}{y B k:Nat}{u:Int} :([.cells 0 y [p64 D.vs,p64 D.st,slR Js Jr Js Jr .i64 D.nx,slB Js Jr D.fi,p64 k,slI Js Jr .i64 (bF D k)],.cells 0 B [.iface 122 (.ptr n 0 0),p64 u]]:Mem).map rR=[.cells 0 y [p64 D.vs,p64 D.st,slR Js Jr Js Jr .i64 D.nx,slB Js Jr D.fi,p64 k,slI Js Jr .i64 (bF D k)],.cells 0 B [.iface 122 (.ptr n 0 0),p64 u]]:=by simp only[Ah,Av];rw[iE (by simp only[ygL,ygV,pC,mI,mZ,tB,Bz,Co]),iE (by simp only[ygL,ygV,pC,mI,mZ,tB,Bz,Co])]
def aEa{n:Nat}{ow pr:List Int}{su:List (List Int)}{y:List Ms}{B E G:Nat}{d:Bool}{u:Int} :(msM n Js Jr Js Jr Js Jr Js Jr ow pr su y B E G d u).map rR=msM n Js Jr Js Jr Js Jr Js Jr ow pr su y B E G d u:=by simp only[msM,Ah,Av,GN];rw[iE (by simp only[ygL,ygV,pC,mI,mZ,tB,Bz,Co]),iE (aGP y),iE (by simp only[ygL,ygV,pC,mI,mZ,tB,Bz,Co])]
def aGR{n:Nat}{N:NF}{q:Nat->Nat}{S:List (BitVec 64)}{rows:List (List Int)}{y:List Bool}{v:Nat}{u:Int} :(iH n Js Jr Js Jr Js Jr Js Jr N q S rows y++[bl.cells 0 v [.iface 116 (.ptr (n+4) 0 0),p64 u]]).map rR=iH n Js Jr Js Jr Js Jr Js Jr N q S rows y++[bl.cells 0 v [.iface 116 (.ptr (n+4) 0 0),p64 u]]:=by simp only[iH,Bh,Ah,Av,GN];rw[iE (cs:=csD Js Jr S) (vE (fun a:BitVec 64=>slW Js Jr (jU a)) (fun a=>aAo Js .u64 (wI (jU a))) S),iE (cs:=clD Js Jr S) (mZ ..),aBV (aG2 ..),iE (by simp only[ygL,ygV,pC,mI,mZ,tB,Bz,Co]),iE (cs:=rows.map (slI Js Jr .i64)) (mZ ..),iE (mI ..),iE (by simp only[ygL,ygV,pC,mI,mZ,tB,Bz,Co])]
section
variable {tab:FuncId->Option AF} (T:HasA tab){M:Mem}{K:PV->Mem->Prop}
include T
def aIy{A Y:Mem}{N:NF}{K:PV->Mem->Prop}{q:Nat->Nat}{v:Nat}(u:gF N=0)(B:BnN N)(h:nv tab (.n N) A K)(y:(A++Y).all (aI (A++Y).length)=Jr):K (.tuple [.ptr ((A++Y).length+7) 0 0,p64 0]) (lS (A++Y) Js Jr Js Jr Js Jr Js Jr N q [gC N] [] [] v 0):=
 h.ok u _ _ _ _ (A++Y) _ (N3 T u B) rfl y ⟨⟨by omega,by show [gC N].length<=4096;simp⟩,Js,Jr,Js,Jr,Js,Jr,Js,Jr,q,v,rfl⟩ ⟨Y,rfl⟩ aEk ⟨_,rfl,aGR ..⟩
def aIA{A Y:Mem}{D:DF}{K:PV->Mem->Prop}{v:Nat}(y:fE D=0)(B:BnD D)(u:D.nx.length<=99)(h:nv tab (.d D) A K)(E:(A++Y).all (aI (A++Y).length)=Jr):K (.tuple [.ptr ((A++Y).length+1) 0 0,p64 0]) (nK (A++Y) Js Jr Js Jr Js Jr Js Jr D v 0 0 0):=
 h.ok y _ _ _ _ (A++Y) _ (NZ T y B u) rfl E ⟨fun j G=>by omega,Js,Jr,Js,Jr,Js,Jr,Js,Jr,v,0,rfl⟩ ⟨Y,rfl⟩ aEj ⟨_,rfl,aGQ ..⟩
def aIz{A Y:Mem}{ow pr:List Int}{su:List (List Int)}{u:List Ms}{b:Bool}{K:PV->Mem->Prop}{v1 v2:Nat}(y:eF ow pr su=0)(B:Bnd ow pr su)(E:ow.length<=99)(J:∀x∈ow,0<=x)(G:vD ow pr su 0 u b 0)(h:nv tab (.g ow pr su) A K)(L:(A++Y).all (aI (A++Y).length)=Jr):K (.tuple [.ptr ((A++Y).length+3) 0 0,p64 0]) (kM (A++Y) Js Jr Js Jr Js Jr Js Jr ow pr su u v1 v2 0 b 0):=by
 rcases G with⟨a,_⟩ | ⟨_,a,_⟩ | ⟨_,_,O,I,Q,_⟩
 ·exact absurd y a
 ·omega
 ·refine h.ok y _ _ _ _ (A++Y) _ (GT T y B E J) rfl L ⟨Au _,Js,Jr,Js,Jr,Js,Jr,Js,Jr,u,v1,v2,0,b,O,I,?_,rfl⟩ ⟨Y,rfl⟩ aAE ⟨_,rfl,aEa ..⟩;rw[Q,I];exact Iff.rfl
def aAG{A:Mem}{K:PV->Mem->Prop}{f o:Bool}{i:In}(u:i.Bn)(O:i.Pos)(hA:A.all (aI A.length)=Jr)(h:nv tab i A K):au tab 11 [.agg (i.cs f o)] A K:=by
 cases i with
 | n N=>refine aAJ T u hA h.bad fun y B E q v h1 h2=>?_;have:=aIy T (Y:=[B,E]) (q:=q) (v:=v) y u h (G5 (n:=A.length+2) hA (by simp[h1,h2]) rfl);simpa only[Al,Ak,An,Bg,Cn,Ax]using this
 | d D=>refine aAI T u.1 (fun _=>u.2) hA h.bad fun y G B E v h0 h1 h2=>?_;have:=aIA T (Y:=[G,B,E]) (v:=v) y u.1 u.2 h (G5 (n:=A.length+3) hA (by simp[h0,h1,h2]) rfl);simpa only[Al,Ak,An,Bg,Cn,Ax]using this
 | g ow pr su=>refine aAH T u.1 hA h.bad fun y G B E J L Q b h0 h1 h2 I=>?_;have:=aIz T (Y:=[G,B,E]) (v1:=J) (v2:=L) y u.1 u.2 O I h (G5 (n:=A.length+3) hA (by simp[h0,h1,h2]) rfl);simpa only[Al,Ak,An,Bg,Cn,Ax]using this
end
structure RF where
 l:List Nat
 sh:Bool
 od:Bool
def RF.next(r:RF):Nat×RF:=match r.l with
 | []=>(0,⟨[],Jr,r.od⟩)
 | n::l=>(n,⟨l,r.sh,r.od⟩)
def RF.small(k:Nat)(r:RF):Nat×RF:=if k<r.next.1 then(0,⟨r.next.2.l,r.next.2.sh,Jr⟩)else(r.next.1,r.next.2)
def RF.list(n:Nat)(r:RF):List Int×RF:=if r.l.length<n then([],⟨r.l,Jr,r.od⟩)else((r.l.take n).map fun n:Nat=>(n:Int),⟨r.l.drop n,r.sh,r.od⟩)
def pU{σ:Type}(f:σ->RF->σ×RF):Nat->σ->RF->σ×RF
 | 0,s,r=>(s,r)
 | n+1,s,r=>if r.sh=Jr then(s,r)else pU f n (f s r).1 (f s r).2
def OU(r:RF):Eg×RF:=
 let a:=r.next;let b:=a.2.next;let c:=b.2.small 255;let d:=c.2.small 255
 (⟨a.1,b.1,c.1,d.1⟩,d.2)
def RF.nfa(r:RF):NF×RF:=
 let a:=r.next;let b:=a.2.next;let c:=b.2.next;let d:=RF.list c.1 c.2;let e:=d.2.next;let f:=RF.list e.1 e.2;let g:=f.2.next
 let h:=pU (fun u r=>(u++[(OU r).1],(OU r).2)) g.1 [] g.2
 (⟨a.1,b.1,d.1,f.1,h.1⟩,h.2)
def RF.dfa(r:RF):DF×RF:=
 let a:=r.next;let b:=a.2.next;let c:=b.2.next
 let d:=pU (fun u r=>(u++[(RF.list (2^(min a.1 6)) r).1],(RF.list (2^(min a.1 6)) r).2)) c.1 [] c.2
 let e:=pU (fun u r=>(u++[decide ((r.small 1).1=1)],(r.small 1).2)) c.1 [] d.2
 (⟨a.1,b.1,d.1,e.1⟩,e.2)
def RF.ie(r:RF):(List Int×List Int×List (List Int))×RF:=
 let c:=r.next
 let d:=pU (fun u r=>(u++[((r.small 255).1:Int)],(r.small 255).2)) c.1 [] c.2
 let e:=pU (fun u r=>(u++[(r.next.1:Int)],r.next.2)) c.1 [] d.2
 let f:=pU (fun u r=>(u++[(RF.list r.next.1 r.next.2).1],(RF.list r.next.1 r.next.2).2)) c.1 [] e.2
 ((d.1,e.1,f.1),f.2)
def aGx(k:List UInt8)(r:RF):In×RF:=
 if k=kwD then(.n r.nfa.1,r.nfa.2)else if k=kwM then(.d r.dfa.1,r.dfa.2)else(.g r.ie.1.1 r.ie.1.2.1 r.ie.1.2.2,r.ie.2)
def Rl(r:RS)(p:RF):Prop:=(r.e=0/\p.sh=Js/\p.l=r.l/\(p.od=Jr↔r.late≠0))\/(r.e≠0/\p.sh=Jr)
def Eo(r:RS):Prop:=(r.e=0\/r.e=3)/\(r.late=0\/r.late=1)
structure Pr {α:Type} (r:RS) (x:α×RS) (y:α×RF):Prop where
 rl:Rl x.2 y.2
 mo:x.2.e=0->x.2.late=0->r.e=0/\r.late=0
 v:x.2.e=0->x.2.late=0->x.1=y.1
 eo:Eo r->Eo x.2
def Rl.bad{r:RS}{p:RF}(h:Rl r p)(he:r.e≠0):p.sh=Jr:=by
 rcases h with⟨a,_⟩ | ⟨_,b⟩
 ·exact absurd a he
 ·exact b
def Rl.next{r:RS}{p:RF}(h:Rl r p):Pr r r.next p.next/\(r.next.2.e=0->p.next.1=r.next.1):=by
 obtain⟨l,e,la⟩:=r;obtain⟨u,s,o⟩:=p;rcases h with⟨h1,h2,h3,y⟩ | ⟨h1,h2⟩
 ·simp only at h1 h2 h3 y;subst h1 h2 h3
  cases u with
  | nil=>exact⟨⟨.inr ⟨by simp[RS.next],rfl⟩,fun e=>by simp[RS.next]at e,fun e=>by simp[RS.next]at e,fun h=>⟨.inr rfl,h.2⟩⟩,fun _=>rfl⟩
  | cons n l=>exact⟨⟨.inl ⟨rfl,rfl,rfl,y⟩,fun a b=>⟨a,b⟩,fun _ _=>rfl,fun h=>h⟩,fun _=>rfl⟩
 ·simp only at h1 h2;subst h2;have a:(RS.next ⟨l,e,la⟩).2.e=e:=by
   cases l with
   | nil=>simp only[RS.next];rw[if_neg h1]
   | cons=>rfl
  have b:(RS.next ⟨l,e,la⟩).2.e≠0:=by rw[a];exact h1
  refine⟨⟨.inr ⟨b,?_⟩,fun h=>absurd h b,fun h=>absurd h b,fun h=>⟨by rw[a];exact h.1,?_⟩⟩,fun h=>absurd h b⟩
  ·cases u<;>rfl
  ·cases l<;>exact h.2
def Rl.small{r:RS}{p:RF}(h:Rl r p)(k:Nat):Pr r (r.small k) (p.small k):=by
 obtain⟨h1,h2⟩:=h.next;unfold RS.small RF.small;rcases h1.rl with⟨u,y,B,E⟩ | ⟨u,y⟩
 ·have hv:=h2 u;rw[hv];by_cases c:k<r.next.1
  ·simp only[if_pos c];exact⟨.inl ⟨u,y,B,by simp⟩,(fun _ h=>by cases h),(fun _ h=>by cases h),fun h=>⟨(h1.eo h).1,.inr rfl⟩⟩
  ·simp only[if_neg c];exact⟨.inl ⟨u,y,B,E⟩,h1.mo,fun _ _=>by simp only;omega,h1.eo⟩
 ·refine⟨.inr ⟨u,?_⟩,fun h=>absurd h u,fun h=>absurd h u,fun h=>⟨(h1.eo h).1,?_⟩⟩
  ·split<;>exact y
  ·simp only;split
   ·exact .inr rfl
   ·exact(h1.eo h).2
def pT{σ:Type}(f:σ->RS->σ×RS):∀(n:Nat) (s:σ) {r:RS},r.e≠0->fI f n s r=(s,r)
 | 0,s,r,h=>rfl
 | n+1,s,r,h=>by unfold fI;rw[if_neg h]
def G3{σ:Type}(f:σ->RF->σ×RF):∀(n:Nat) (s:σ) {r:RF},r.sh=Jr->pU f n s r=(s,r)
 | 0,s,r,h=>rfl
 | n+1,s,r,h=>by unfold pU;rw[if_pos h]
def Rl.qy{σ:Type}{f:σ->RS->σ×RS}{g:σ->RF->σ×RF}
  (hf:∀s t r p,Rl r p->Rl (f s r).2 (g t p).2/\((f s r).2.e=0->(f s r).2.late=0->(r.e=0/\r.late=0)/\(s=t->(f s r).1=(g t p).1))/\(Eo r->Eo (f s r).2)):
  ∀(n:Nat) (s t:σ) (r:RS) (p:RF),Rl r p->(r.e=0->r.late=0->s=t)->Pr r (fI f n s r) (pU g n t p)
 | 0,s,t,r,p,h,hv=>⟨h,fun a b=>⟨a,b⟩,hv,fun h=>h⟩
 | n+1,s,t,r,p,h,hv=>by
  unfold fI pU;have E:=h;rcases h with⟨y,B,J,K⟩ | ⟨y,B⟩
  ·rw[if_pos y,if_neg (by rw[B];decide)];obtain⟨G,u,I⟩:=hf s t r p E;have:=Rl.qy hf n (f s r).1 (g t p).1 _ _ G fun e l=>(u e l).2 (hv (u e l).1.1 (u e l).1.2);exact⟨this.rl,fun e l=>(u (this.mo e l).1 (this.mo e l).2).1,this.v,fun h=>this.eo (I h)⟩
  ·rw[if_neg y,if_pos B];exact⟨E,fun a b=>⟨a,b⟩,hv,fun h=>h⟩
def Rl.each{σ:Type}{f:σ->RS->σ×RS}{g:σ->RF->σ×RF}{r:RS}{p:RF}(h:Rl r p)(s:σ){n n':Nat}(u:r.e=0->n'=n)
  (hf:∀s t r p,Rl r p->Rl (f s r).2 (g t p).2/\((f s r).2.e=0->(f s r).2.late=0->(r.e=0/\r.late=0)/\(s=t->(f s r).1=(g t p).1))/\(Eo r->Eo (f s r).2)):
  Pr r (fI f n s r) (pU g n' s p):=by
 by_cases c:r.e=0
 ·rw[u c];exact Rl.qy hf n s s r p h fun _ _=>rfl
 ·rw[pT f n s c,G3 g n' s (h.bad c)];exact⟨h,fun a b=>⟨a,b⟩,fun _ _=>rfl,fun h=>h⟩
def NH:∀(n:Nat) (l:List Nat) (u:List Int) (la:Int),n<=l.length->fI (fun u r=>(u++[((RS.next r).1:Int)],(RS.next r).2)) n u ⟨l,0,la⟩=(u++(l.take n).map (fun n:Nat=>(n:Int)),⟨l.drop n,0,la⟩)
 | 0,l,u,la,h=>by simp[fI]
 | n+1,[],u,la,h=>by simp at h
 | n+1,x::l,u,la,h=>by unfold fI;rw[if_pos rfl];have:=NH n l (u++[(x:Int)]) la (by simpa using h);simp only[RS.next]at this ⊢;rw[this];simp
def GO:∀(n:Nat) (l:List Nat) (u:List Int) (la:Int),l.length<n->(fI (fun u r=>(u++[((RS.next r).1:Int)],(RS.next r).2)) n u ⟨l,0,la⟩).2.e≠0
 | 0,l,u,la,h=>by simp at h
 | n+1,[],u,la,h=>by
  unfold fI;rw[if_pos rfl];have:(RS.next ⟨[],0,la⟩).2.e≠0:=by simp[RS.next]
  rw[pT _ n _ this];exact this
 | n+1,x::l,u,la,h=>by unfold fI;rw[if_pos rfl];exact GO n l (u++[(x:Int)]) la (by simpa using h)
def Eo.next{r:RS}(h:Eo r):Eo r.next.2:=by
 obtain⟨l,e,la⟩:=r
 cases l with
 | nil=>
  refine⟨?_,h.2⟩;simp only[RS.next];split
  ·exact .inr rfl
  ·exact h.1
 | cons=>exact h
def Eo.each{σ:Type}{f:σ->RS->σ×RS}(hf:∀s r,Eo r->Eo (f s r).2):∀(n:Nat) (s:σ) (r:RS),Eo r->Eo (fI f n s r).2
 | 0,s,r,h=>h
 | n+1,s,r,h=>by
  unfold fI;split
  ·exact Eo.each hf n _ _ (hf s r h)
  ·exact h
def Rl.list{r:RS}{p:RF}(h:Rl r p){n n':Nat}(K:r.e=0->n'=n):Pr r (RS.list n r) (RF.list n' p):=by
 have L:=h;have y:Eo r->Eo (RS.list n r).2:=Eo.each (f:=fun E r=>(E++[((RS.next r).1:Int)],(RS.next r).2)) (fun s r h=>h.next) n [] r;have M:=Rd.list n r;rcases h with⟨u,B,I,J⟩ | ⟨u,B⟩
 ·rw[K u];obtain⟨l,e,la⟩:=r;obtain⟨G,s,o⟩:=p;simp only at u B I J;subst u B I;by_cases c:G.length<n
  ·have:=GO n G [] la c;refine⟨.inr ⟨this,?_⟩,fun q=>absurd q this,fun q=>absurd q this,y⟩;unfold RF.list;rw[if_pos c]
  ·have:=NH n G [] la (by omega);unfold RS.list RF.list at*;rw[this]at y ⊢;rw[if_neg c];exact⟨.inl ⟨rfl,rfl,rfl,J⟩,fun a b=>⟨a,b⟩,fun _ _=>by simp,y⟩
 ·have e:RS.list n r=([],r):=pT _ n _ u;rw[e]at y ⊢;refine⟨.inr ⟨u,?_⟩,fun q=>absurd q u,fun q=>absurd q u,y⟩;unfold RF.list;split
  ·rfl
  ·exact B
def Rl.oo{r:RS}{p:RF}(h:Rl r p):Pr r (mA r) (OU p):=by
 have h1:=h.next.1;have h2:=h1.rl.next.1;have h3:=h2.rl.small 255;have u:=h3.rl.small 255;refine⟨u.rl,fun e l=>?_,fun e l=>?_,fun q=>u.eo (h3.eo (h2.eo (h1.eo q)))⟩
 ·obtain⟨y,B⟩:=u.mo e l;obtain⟨E,G⟩:=h3.mo y B;obtain⟨I,J⟩:=h2.mo E G;exact h1.mo I J
 ·obtain⟨y,B⟩:=u.mo e l;obtain⟨E,G⟩:=h3.mo y B;obtain⟨I,J⟩:=h2.mo E G;have K:=h1.v I J;have L:=h2.v E G;have M:=h3.v y B;have O:=u.v e l;show Eg.mk _ _ _ _=Eg.mk _ _ _ _;rw[K,L,M,O]
def UN{r:RS}(h:r.next.1<=6):r.vars=r.next:=by unfold RS.vars;rw[if_neg (by omega)]
def Rl.nfa{r:RS}{p:RF}(h:Rl r p)(hv:r.next.1<=6):Pr r r.nfa p.nfa:=by
 obtain⟨h1,_⟩:=h.next;obtain⟨h2,_⟩:=h1.rl.next;obtain⟨h3,V⟩:=h2.rl.next;have B:=h3.rl.list V;obtain⟨J,Y⟩:=B.rl.next;have E:=J.rl.list Y;obtain⟨K,Z⟩:=E.rl.next;have G:=K.rl.each (f:=fun u r=>(u++[(mA r).1],(mA r).2)) (g:=fun u r=>(u++[(OU r).1],(OU r).2)) ([]:List Eg) Z fun s t r p h=>
  ⟨h.oo.rl,fun e l=>⟨h.oo.mo e l,fun q=>by simp only;rw[q,h.oo.v e l]⟩,h.oo.eo⟩
 have I:=UN hv;have y:∀e l,(r.e=0/\r.late=0)/\r.nfa.1=p.nfa.1:=fun(e:r.nfa.2.e=0) (l:r.nfa.2.late=0)=>by unfold RS.nfa at e l;simp only[I]at e l;obtain⟨e7,l7⟩:=G.mo e l;obtain⟨L,M⟩:=K.mo e7 l7;obtain⟨e5,l5⟩:=E.mo L M;obtain⟨O,Q⟩:=J.mo e5 l5;obtain⟨e3,l3⟩:=B.mo O Q;obtain⟨R,S⟩:=h3.mo e3 l3;obtain⟨T,U⟩:=h2.mo R S;refine⟨h1.mo T U,?_⟩;unfold RS.nfa RF.nfa;simp only[I];rw[NF.mk.injEq];exact⟨congrArg _ (h1.v T U),congrArg _ (h2.v R S),B.v O Q,E.v L M,G.v e l⟩
 refine⟨?_,fun e l=>(y e l).1,fun e l=>(y e l).2,?_⟩
 ·unfold RS.nfa RF.nfa;simp only[I];exact G.rl
 ·intro q;unfold RS.nfa;simp only[I];exact G.eo (K.eo (E.eo (J.eo (B.eo (h3.eo (h2.eo (h1.eo q)))))))
def Rl.dfa{r:RS}{p:RF}(h:Rl r p)(hv:r.next.1<=6):Pr r r.dfa p.dfa:=by
 obtain⟨h1,L⟩:=h.next;obtain⟨h2,v2⟩:=h1.rl.next;obtain⟨h3,M⟩:=h2.rl.next;have G:=UN hv;have hK:r.next.2.e=0->p.next.1=r.next.1:=L
 --rows
 have I:Pr r.next.2.next.2.next.2 (fI (fun u y=>(u++[(RS.list (2^(min r.next.1 6)) y).1],(RS.list (2^(min r.next.1 6)) y).2)) r.next.2.next.2.next.1 [] r.next.2.next.2.next.2)
   (pU (fun u y=>(u++[(RF.list (2^(min p.next.1 6)) y).1],(RF.list (2^(min p.next.1 6)) y).2)) p.next.2.next.2.next.1 [] p.next.2.next.2.next.2):=by
  by_cases c:r.next.2.e=0
  ·rw[L c];exact h3.rl.each ([]:List (List Int)) M fun s t y p' Y=>by have:=Y.list (n:=2^(min r.next.1 6)) (n':=2^(min r.next.1 6)) fun _=>rfl;exact⟨this.rl,fun e l=>⟨this.mo e l,fun q=>by simp only;rw[q,this.v e l]⟩,this.eo⟩
  ·have b2:r.next.2.next.2.e≠0:=fun q=>by
    rcases h2.rl with⟨_,B,_⟩ | ⟨K,_⟩
    ·have:=h1.rl.bad c;have e:p.next.2.next.2.sh=Jr:=by unfold RF.next at this ⊢;split<;>first | rfl | exact this
     rw[e]at B;cases B
    ·exact K q
   have O:r.next.2.next.2.next.2.e≠0:=fun q=>by
    rcases h3.rl with⟨_,B,_⟩ | ⟨K,_⟩
    ·have:=h2.rl.bad b2;have e:p.next.2.next.2.next.2.sh=Jr:=by
      conv=>lhs;unfold RF.next
      split<;>first | rfl | exact this
     rw[e]at B;cases B
    ·exact K q
   rw[pT _ _ _ O,G3 _ _ _ (h3.rl.bad O)];exact⟨h3.rl,fun a b=>⟨a,b⟩,fun _ _=>rfl,fun h=>h⟩
 have hn:∀{f:List (List Int)->RS->List (List Int)×RS} {n:Nat} {s:List (List Int)} {r:RS},(fI f n s r).2.e=0->r.e=0:=fun {f n s r} e=>by
  by_cases c:r.e=0
  ·exact c
  ·rw[pT f n s c]at e;exact e
 have J:=I.rl.each (f:=fun u r=>(u++[decide ((RS.small 1 r).1=1)],(RS.small 1 r).2)) (g:=fun u r=>(u++[decide ((RF.small 1 r).1=1)],(RF.small 1 r).2)) ([]:List Bool) (n:=r.next.2.next.2.next.1) (n':=p.next.2.next.2.next.1) (fun e=>M (hn e)) fun s t r p h=>by have:=h.small 1;exact⟨this.rl,fun e l=>⟨this.mo e l,fun q=>by simp only;rw[q,this.v e l]⟩,this.eo⟩
 have E:∀e l,(r.e=0/\r.late=0)/\r.dfa.1=p.dfa.1:=fun(e:r.dfa.2.e=0) (l:r.dfa.2.late=0)=>by unfold RS.dfa at e l;simp only[G]at e l;obtain⟨Q,R⟩:=J.mo e l;obtain⟨e3,l3⟩:=I.mo Q R;obtain⟨S,T⟩:=h3.mo e3 l3;obtain⟨U,V⟩:=h2.mo S T;refine⟨h1.mo U V,?_⟩;unfold RS.dfa RF.dfa;simp only[G];rw[DF.mk.injEq];exact⟨congrArg _ (h1.v U V),congrArg _ (h2.v S T),I.v Q R,J.v e l⟩
 refine⟨?_,fun e l=>(E e l).1,fun e l=>(E e l).2,?_⟩
 ·unfold RS.dfa RF.dfa;simp only[G];exact J.rl
 ·intro q;unfold RS.dfa;simp only[G];exact J.eo (I.eo (h3.eo (h2.eo (h1.eo q))))
def Rl.ie{r:RS}{p:RF}(h:Rl r p):Pr r r.ie p.ie:=by
 obtain⟨h1,E⟩:=h.next;have G:∀{σ:Type} {f:σ->RS->σ×RS} {n:Nat} {s:σ} {r:RS},(fI f n s r).2.e=0->r.e=0:=fun {σ f n s r} e=>by
  by_cases c:r.e=0
  ·exact c
  ·rw[pT f n s c]at e;exact e
 have h2:=h1.rl.each (f:=fun u r=>(u++[((RS.small 255 r).1:Int)],(RS.small 255 r).2)) (g:=fun u r=>(u++[((RF.small 255 r).1:Int)],(RF.small 255 r).2)) ([]:List Int) E fun s t r p h=>by have:=h.small 255;exact⟨this.rl,fun e l=>⟨this.mo e l,fun q=>by simp only;rw[q,this.v e l]⟩,this.eo⟩
 have h3:=h2.rl.each (f:=fun u r=>(u++[((RS.next r).1:Int)],(RS.next r).2)) (g:=fun u r=>(u++[((RF.next r).1:Int)],(RF.next r).2)) ([]:List Int) (n:=r.next.1) (n':=p.next.1) (fun e=>E (G e)) fun s t r p h=>by have:=h.next.1;exact⟨this.rl,fun e l=>⟨this.mo e l,fun q=>by simp only;rw[q,this.v e l]⟩,this.eo⟩
 have B:=h3.rl.each (f:=fun u r=>(u++[(RS.list (RS.next r).1 (RS.next r).2).1],(RS.list (RS.next r).1 (RS.next r).2).2)) (g:=fun u r=>(u++[(RF.list (RF.next r).1 (RF.next r).2).1],(RF.list (RF.next r).1 (RF.next r).2).2)) ([]:List (List Int)) (n:=r.next.1) (n':=p.next.1) (fun e=>E (G (G e))) fun s t r p h=>by obtain⟨a,b⟩:=h.next;have:=a.rl.list b;exact⟨this.rl,fun e l=>⟨a.mo (this.mo e l).1 (this.mo e l).2,fun q=>by simp only;rw[q,this.v e l]⟩,fun q=>this.eo (a.eo q)⟩
 have y:∀e l,(r.e=0/\r.late=0)/\r.ie.1=p.ie.1:=fun(e:r.ie.2.e=0) (l:r.ie.2.late=0)=>by obtain⟨I,J⟩:=B.mo e l;obtain⟨K,L⟩:=h3.mo I J;obtain⟨O,Q⟩:=h2.mo K L;refine⟨h1.mo O Q,?_⟩;show Prod.mk _ (Prod.mk _ _)=Prod.mk _ (Prod.mk _ _);rw[Prod.mk.injEq,Prod.mk.injEq];exact⟨h2.v K L,h3.v I J,B.v e l⟩
 exact⟨B.rl,fun e l=>(y e l).1,fun e l=>(y e l).2,fun q=>B.eo (h3.eo (h2.eo (h1.eo q)))⟩
def Rl.jt{k:List UInt8}{r:RS}{p:RF}(h:Rl r p)(hv:k=kwD\/k=kwM->r.next.1<=6):Pr r (jt k r) (aGx k p):=by
 unfold Ar.jt aGx;by_cases u:k=kwD
 ·rw[if_pos u,if_pos u];have:=h.nfa (hv (.inl u));exact⟨this.rl,this.mo,fun e l=>congrArg In.n (this.v e l),this.eo⟩
 rw[if_neg u,if_neg u];by_cases y:k=kwM
 ·rw[if_pos y,if_pos y];have:=h.dfa (hv (.inr y));exact⟨this.rl,this.mo,fun e l=>congrArg In.d (this.v e l),this.eo⟩
 rw[if_neg y,if_neg y];have:=h.ie;exact⟨this.rl,this.mo,fun e l=>by have q:=this.v e l;show In.g _ _ _=In.g _ _ _;rw[q],this.eo⟩
abbrev kC(l:List UInt8):PV:= .str ⟨l.toArray⟩
def FR(l:List UInt8):(⟨l.toArray⟩:ByteArray).size=l.length:=by show l.toArray.size=_;simp
def aHY(a b:List UInt8):(⟨a.toArray⟩:ByteArray)++⟨b.toArray⟩=⟨(a++b).toArray⟩:=by apply Gi;rw[ByteArray.data_append];simp
def BC{a b:List UInt8}(h:a.length+b.length<=9223372036854775807):eE .add (kC a) (kC b)=Jp (kC (a++b)):=by unfold eE;simp only[eZ,i7];rw[if_neg (by rw[FR,FR];show ¬_>(9223372036854775807:Int);omega),aHY];rfl
def DW(n:Nat):(E4 n).length<=20:=JO 20 n
def ra:ByteArray:=⟨#[48,49,50,51,52,53,54,55,56,57]⟩
def OY{n:Nat}(h:n<10):ra.extract n (n+1)=⟨[UInt8.ofNat (48+n)].toArray⟩:=by
 match n,h with
 | 0,_=>rfl
 | 1,_=>rfl
 | 2,_=>rfl
 | 3,_=>rfl
 | 4,_=>rfl
 | 5,_=>rfl
 | 6,_=>rfl
 | 7,_=>rfl
 | 8,_=>rfl
 | 9,_=>rfl
 | n+10,h=>omega
def wdT(x:Int):List UInt8:=32::E4 x.toNat
def jM(l:List Int):List UInt8:=l.flatMap wdT
def KI(a b:List Int):jM (a++b)=jM a++jM b:=by simp[jM]
def FF(x:Int)(b:List Int):jM (x::b)=wdT x++jM b:=by simp[jM]
def HO(x:Int):(wdT x).length<=21:=by have:=DW x.toNat;unfold wdT;rw[Ak];omega
def B3(l:List Int):(jM l).length<=21*l.length:=by
 induction l with
 | nil=>simp[jM]
 | cons x l u=>have:=HO x;rw[FF,Al,Ak];omega
def HV(i:In)(u:Nat):i.txt u=i.kw++jM ((u:Int)::i.dp):=by unfold In.txt;show i.kw++(((u:Int)::i.dp).map fun n=>E4 n.toNat).flatMap (fun x=>32::x)=_;rw[List.flatMap_map];rfl
section
variable {tab:FuncId->Option AF} (T:HasA tab){M:Mem}{K:PV->Mem->Prop}
include T
def aCE:∀(n:Nat) {M:Mem} {K:PV->Mem->Prop},n<=9223372036854775806->K (kC (Lib.decDigits n)) M->au tab 110 [p64 n] M K:=by
 intro n
 induction n using Nat.strongRecOn with
 | ind n J=>
  intro M K h u;refine aB T.h110 (by simp only[PP,simprocAttr]) ?_;simp only[af110,PP,simprocAttr];refine QIf.intro (fun c=>?_) fun c=>?_
  ·have y:n<10:=by omega
   have B:IntKind.i64.wrap ((n:Int)+1)=((n+1:Nat):Int):=aA (by show _<1000000000000;omega);rw[Lib.decDigits,dif_pos y]at u;have e:=OY y;simp only[PP,simprocAttr,c,B,PT,Hc];refine⟨⟨by omega,by omega,?_⟩,?_⟩
   ·show((n+1:Nat):Int)<=((10:Nat):Int);omega
   ·have E:kC [UInt8.ofNat (48+n)]= .str (ra.extract n (n+1)):=by rw[e]
    rw[E]at u;exact u
  ·have y:¬n<10:=by omega
   have G:eE .quo (.int .i64 n) (.int .i64 10)=Jp (.int .i64 ((n / 10:Nat):Int)):=by
    have w:IntKind.i64.wrap ((n:Int) / 10)=(n:Int) / 10:=by rw[wrap64]<;>omega
    have t:(n:Int).tdiv 10=(n:Int) / 10:=Int.tdiv_eq_ediv_of_nonneg (by omega);simp[eE,eZ,i7,eY,gG,bd,w,t]
   have L:eE .rem (.int .i64 n) (.int .i64 10)=Jp (.int .i64 ((n % 10:Nat):Int)):=by have t:(n:Int).tmod 10=(n:Int) % 10:=Int.tmod_eq_emod_of_nonneg (by omega);simp[eE,eZ,i7,eY,gG,bd,t]
   have B:IntKind.i64.wrap (((n % 10:Nat):Int)+1)=((n % 10+1:Nat):Int):=aA (by show _<1000000000000;omega);rw[Lib.decDigits,dif_neg y]at u;have e:=OY (n:=n % 10) (by omega);simp only[PP,simprocAttr,c,G];refine J (n / 10) (by omega) (by omega) ?_;simp only[PP,simprocAttr,c,G,L,B,PT,Hc];refine⟨⟨by omega,by omega,?_⟩,?_⟩
   ·show((n % 10+1:Nat):Int)<=((10:Nat):Int);omega
   ·have hl:(Lib.decDigits (n / 10)).length+1<=9223372036854775807:=by have:=DW (n / 10);rw[JQ (by omega)]at this;omega
    have I:=BC (a:=Lib.decDigits (n / 10)) (b:=[UInt8.ofNat (48+n % 10)]) hl;have E:(.str ((⟨#[48,49,50,51,52,53,54,55,56,57]⟩:ByteArray).extract (n % 10) (n % 10+1)):PV)=kC [UInt8.ofNat (48+n % 10)]:=congrArg PV.str e;rw[<-E]at I;simp only[PP,simprocAttr,PT,I];exact u
def C2{x:Int}(h0:0<=x)(h1:x<=9223372036854775806)(u:K (kC (wdT x)) M):au tab 64 [p64 x] M K:=by
 obtain⟨n,rfl⟩:∃n:Nat,x=n:=⟨x.toNat,by omega⟩;have hl:=DW n;rw[JQ (by omega)]at hl;have y:=BC (a:=[32]) (b:=Lib.decDigits n) (by simp;omega);have e:wdT (n:Int)=[32]++Lib.decDigits n:=by
  unfold wdT;rw[Bq,JQ (by omega)];rfl
 rw[e]at u;refine aB T.h64 (by simp only[PP,simprocAttr]) ?_;simp only[af64,PP,simprocAttr];refine aCE T n (by omega) ?_;have B:eE .add (.str ⟨#[32]⟩) (kC (Lib.decDigits n))=Jp (kC ([32]++Lib.decDigits n)):=y;simp only[PP,simprocAttr,PT,B];exact u
def xZ{f o:Bool}{l:List Int}(hl:l.length<=100000000)(hs:∀x∈l,0<=x/\x<=2147483647)(B:K (kC (jM (fD l))) M):au tab 65 [slI f o .i64 l] M K:=by
 refine aB T.h65 (by simp only[PP,simprocAttr]) ?_;simp only[af65,PP,simprocAttr];refine C2 T (by omega) (by omega) ?_;simp only[PP,simprocAttr,PT];refine fT (fun(k:Nat)=>k<=l.length) (fun k=>(slI f o .i64 l:: .aa:: .aa::kC (wdT l.length++jM (l.take k))::p64 k::zj 17)) (fun _=>[]) (fun k=>l.length-k) 0 (by omega) ?_ (by simp only[Ds,jM,Fw,Ao,PW]);intro k E G;refine aH (by kernel_rfl) ?_;simp only[PP,simprocAttr];refine QIf.intro (fun c=>?_) fun c=>?_
 ·have u:k<l.length:=by omega
  have I:(0:Int)<=k:=by omega
  have wk:=aA (k:=k) (by show _<1000000000000;omega);obtain⟨x,g⟩:=aK u;obtain⟨J,L⟩:=hs x (Af g);simp only[PP,simprocAttr,c,I,g];refine C2 T J (by omega) ?_;have hb:(wdT l.length++jM (l.take k)).length+(wdT x).length<=9223372036854775807:=by
   have a:=HO l.length;have b:=B3 (l.take k);have c:=HO x;rw[Ay]at b;rw[Al];omega
  have y:=BC hb;have e:wdT l.length++jM (l.take k)++wdT x=wdT l.length++jM (l.take (k+1)):=by rw[Bx,g,KI];simp[jM]
  rw[e]at y;simp only[PP,simprocAttr,PT,y,wk];exact aG (G (k+1) (by omega) (by omega))
 ·obtain rfl:k=l.length:=by omega
  simp only[PP,simprocAttr,c,PT];rw[Ct,<-FF];exact B
end
abbrev jbN(f o:Bool)(N:NF)(u:Int):List PV:=
 [p64 1,p64 N.vs,p64 N.n,slI f o .i64 N.st,slI f o .i64 N.fi,slE f o N.es,p64 0,p64 0,slR f o f o .i64 [],slB f o [],slI f o .u8 [],slI f o .i64 [],slR f o f o .i64 [],p64 u]
def kT{kw:List UInt8}{L L':List Int}(u:kw.length<=20)(hL:L.length+L'.length<=200000000):eE .add (kC (kw++jM L)) (kC (jM L'))=Jp (kC (kw++jM (L++L'))):=by have a:=B3 L;have b:=B3 L';rw[BC (by rw[Al];omega),Ac,<-KI]
section
variable {tab:FuncId->Option AF} (T:HasA tab){M:Mem}{K:PV->Mem->Prop}
include T
def fQ{x:Int}(h:0<=x/\x<=2147483647)(u:K (kC (jM [x])) M):au tab 64 [p64 x] M K:=
 C2 T h.1 (by omega) (by simpa [jM]using u)
def aEq{f o:Bool}{N:NF}{u:Nat}(hs:∀x∈(In.n N).dp,mG x)(hu:u<=2147483647)(S:(In.n N).dp.length<=100000000)(U:K (kC (In.txt (.n N) u)) M):au tab 24 [.agg (jbN f o N u)] M K:=by
 rw[HV]at U;unfold mG at hs;have V:=tP N.es;have B:∀x,x∈[N.vs,N.n]\/x∈N.st\/x∈N.fi\/(∃e∈N.es,x∈egN e)->0<=x/\x<=2147483647:=fun x y=>hs x (by
  unfold In.dp fD;simp only[Cf,Cr,Ey];rcases y with y | y | y | y
  ·simp at y;rcases y with rfl | rfl<;>simp
  ·simp[y]
  ·simp[y]
  ·exact .inr (.inr y))
 have hlen:N.st.length+N.fi.length+4*N.es.length+5<=100000000:=by unfold In.dp fD at S;simp only[Al,Ak,An,V]at S;omega
 have E:(fD N.st).length=N.st.length+1:=by simp[fD]
 have I:(fD N.fi).length=N.fi.length+1:=by simp[fD]
 have Y:eE .add (.str ⟨#[100,101,116,101,114,109,105,110,105,122,101]⟩) (kC (jM [(u:Int)]))=Jp (kC (kwD++jM ([]++[(u:Int)]))):=kT (kw:=kwD) (L:=[]) (by decide) (by simp);refine aB T.h24 (by simp only[PP,simprocAttr,aZ]) ?_;simp only[af24,PP,simprocAttr,PT];refine fQ T ⟨by omega,by omega⟩ ?_;simp only[PP,simprocAttr,PT,Y];refine fQ T (B N.vs (.inl (by simp))) ?_;simp only[PP,simprocAttr,PT];rw[kT (by decide) (by simp)];simp only[PP,simprocAttr,PT];refine fQ T (B N.n (.inl (by simp))) ?_;simp only[PP,simprocAttr,PT];rw[kT (by decide) (by simp)];simp only[PP,simprocAttr,PT];refine xZ T (by omega) (fun x y=>B x (.inr (.inl y))) ?_;simp only[PP,simprocAttr,PT];rw[kT (by decide) (by simp[E];omega)];simp only[PP,simprocAttr,PT];refine xZ T (by omega) (fun x y=>B x (.inr (.inr (.inl y)))) ?_;simp only[PP,simprocAttr,PT];rw[kT (by decide) (by simp[E,I];omega)];simp only[PP,simprocAttr,PT];refine fQ T ⟨by omega,by omega⟩ ?_;simp only[PP,simprocAttr,PT];rw[kT (by decide) (by simp[E,I];omega)];simp only[PP,simprocAttr,PT];obtain⟨O,J⟩:∃O:List Int,O=(u:Int)::N.vs::N.n::(fD N.st++fD N.fi++[(N.es.length:Int)]):=⟨_,rfl⟩;have G:O.length=N.st.length+N.fi.length+6:=by rw[J];simp[E,I];omega
 refine iN (fun(i:Nat) (Z:Mem)=>i<=N.es.length) (fun i Z=>(.aa:: .ptr 0 0 0:: .aa::kC (kwD++jM (O++(N.es.take i).flatMap egN))::p64 i::zj 212)) (fun i Z=> .cells 0 0 (jbN f o N u)::Z) (fun i Z=>N.es.length-i) 0 [] (by omega) ?_ ?_;rotate_left
 ·rw[J];simp only[Ds,Fw,PW,Ao,Ac,Ai,Aj]
 intro i Z a0 ih;refine aH (by kernel_rfl) ?_;simp only[PP,simprocAttr,PT];refine QIf.intro (fun c=>?_) fun c=>?_
 ·obtain⟨e,Q⟩:=aK (xs:=N.es) (k:=i) (by omega);have i0:(0:Int)<=i:=by omega
  have wi:=aA (k:=i) (by show _<1000000000000;omega);have h4:=oA Q;have R:i*4+4<=(egL N.es).length:=by rw[kN];exact OQ Q
  have hm:=Af Q;have y:=fun x (y:x∈egN e)=>B x (.inr (.inr (.inr ⟨e,hm,y⟩)));have hp:=y e.ps (by simp[egN]);have hg:=y e.ng (by simp[egN]);have w1:IntKind.i64.wrap e.ps=e.ps:=by rw[wrap64]<;>omega
  have w2:IntKind.i64.wrap e.ng=e.ng:=by rw[wrap64]<;>omega
  have ht:((N.es.take i).flatMap egN).length=4*i:=by rw[tP,Ay,Dk (by omega)]
  simp only[PP,simprocAttr,PT,c,i0,h4,R,gk,gk0,sk,sk0];refine fQ T (y e.fr (by simp[egN])) ?_;simp only[PP,simprocAttr,PT,gk,gk0,sk,sk0];rw[kT (by decide) (by simp[ht,G];omega)];simp only[PP,simprocAttr,PT,gk,gk0,sk,sk0];refine fQ T (y e.to (by simp[egN])) ?_;simp only[PP,simprocAttr,PT,gk,gk0,sk,sk0];rw[kT (by decide) (by simp[ht,G];omega)];simp only[PP,simprocAttr,PT,gk,gk0,sk,sk0,w1];refine fQ T hp ?_;simp only[PP,simprocAttr,PT,gk,gk0,sk,sk0];rw[kT (by decide) (by simp[ht,G];omega)];simp only[PP,simprocAttr,PT,gk,gk0,sk,sk0,w2];refine fQ T hg ?_;simp only[PP,simprocAttr,PT,gk,gk0,sk,sk0];rw[kT (by decide) (by simp[ht,G];omega)];simp only[PP,simprocAttr,PT,gk,gk0,sk,sk0,wi];have:=ih (i+1) (Z++[.cells 0 1 (egC e)]) (by omega) (by omega);rw[Bx,Q,Gp]at this;refine bZ this ?_ rfl;simp only[egN,Cc,Fw,Dq,Ac,Ai,Aj,Ao,PW]
 ·obtain rfl:i=N.es.length:=by omega
  simp only[PP,simprocAttr,PT,c];rw[Ct];have e2:O++N.es.flatMap egN=(u:Int)::(In.n N).dp:=by rw[J];simp[In.dp]
  rw[e2];exact U
abbrev jbD(f o:Bool)(D:DF)(u:Int):List PV:=
 [p64 2,p64 0,p64 0,slI f o .i64 [],slI f o .i64 [],slE f o [],p64 D.vs,p64 D.st,slR f o f o .i64 D.nx,slB f o D.fi,slI f o .u8 [],slI f o .i64 [],slR f o f o .i64 [],p64 u]
omit T in
def Y0{α:Type}(l:List (List α))(i:Nat):(l.take i).flatten.length<=l.flatten.length:=by have:=congrArg Jn (congrArg List.flatten (Cu i l));rw[List.flatten_append,Al]at this;omega
def aEr{f o:Bool}{D:DF}{u:Nat}(hs:∀x∈(In.d D).dp,mG x)(hu:u<=2147483647)(hn:(In.d D).dp.length<=100000000)(hD:D.nx.length<=100000000)(hk:K (kC (In.txt (.d D) u)) M):au tab 24 [.agg (jbD f o D u)] M K:=by
 rw[HV]at hk;unfold mG at hs;have B:∀x,x∈[D.vs,D.st,(D.nx.length:Int)]\/(∃r∈D.nx,x∈r)->0<=x/\x<=2147483647:=fun x J=>hs x (by
  unfold In.dp;simp only[Cf,List.mem_flatten];rcases J with J | J
  ·exact .inl (.inl J)
  ·exact .inl (.inr J))
 have hlen:D.nx.flatten.length+D.fi.length+3<=100000000:=by unfold In.dp at hn;simp only[Al,Ak,An,Ag]at hn;omega
 have qk:eE .add (.str ⟨#[109,105,110,105,109,105,122,101]⟩) (kC (jM [(u:Int)]))=Jp (kC (kwM++jM ([]++[(u:Int)]))):=kT (kw:=kwM) (L:=[]) (by decide) (by simp);refine aB T.h24 (by simp only[PP,simprocAttr,aZ]) ?_;simp only[af24,PP,simprocAttr,PT];refine fQ T ⟨by omega,by omega⟩ ?_;simp only[PP,simprocAttr,PT,qk];refine fQ T (B D.vs (.inl (by simp))) ?_;simp only[PP,simprocAttr,PT];rw[kT (by decide) (by simp)];simp only[PP,simprocAttr,PT];refine fQ T (B D.st (.inl (by simp))) ?_;simp only[PP,simprocAttr,PT];rw[kT (by decide) (by simp)];simp only[PP,simprocAttr,PT];refine fQ T (B D.nx.length (.inl (by simp))) ?_;simp only[PP,simprocAttr,PT];rw[kT (by decide) (by simp)];simp only[PP,simprocAttr,PT];obtain⟨E,I⟩:∃E:List Int,E=[(u:Int),D.vs,D.st,(D.nx.length:Int)]:=⟨_,rfl⟩;have O:E.length=4:=by rw[I];rfl
 refine fT (fun(i:Nat)=>i<=D.nx.length) (fun i=>(.aa:: .ptr 0 0 0::zj 4++kC (kwM++jM (E++(D.nx.take i).flatten))::p64 i::zj 209)) (fun i=>[.cells 0 0 (jbD f o D u)]) (fun i=>D.nx.length-i) 0 (by omega) ?_ ?_;rotate_left
 ·rw[I];simp only[Ds,List.flatten_nil,PW,Ao,Ac,Ai,Aj]
 intro i U V;refine aH (by kernel_rfl) ?_;simp only[PP,simprocAttr,PT];refine QIf.intro (fun c=>?_) fun c=>?_
 ·obtain⟨r,R⟩:=aK (xs:=D.nx) (k:=i) (by omega);have Q:(0:Int)<=i:=by omega
  have S:=aA (k:=i) (by show _<1000000000000;omega);have Y:=Af R;have G:(D.nx.take (i+1)).flatten=(D.nx.take i).flatten++r:=by rw[Bx,R];simp
  have hb:=Y0 D.nx (i+1);rw[G,Al]at hb;simp only[PP,simprocAttr,PT,c];refine fT (fun(x:Nat)=>x<=r.length) (fun x=>(.aa:: .ptr 0 0 0::zj 4++kC (kwM++jM (E++((D.nx.take i).flatten++r.take x)))::p64 i::p64 x::zj 208)) (fun x=>[.cells 0 0 (jbD f o D u)]) (fun x=>r.length-x) 0 (by omega) ?_ (by simp only[Ds,PW,Ao]);intro x J Z;refine aH (by kernel_rfl) ?_;simp only[PP,simprocAttr,PT,c,Q,R];refine QIf.intro (fun d=>?_) fun d=>?_
  ·obtain⟨y,gy⟩:=aK (xs:=r) (k:=x) (by omega);have x0:(0:Int)<=x:=by omega
   have wx:=aA (k:=x) (by show _<1000000000000;omega);simp only[PP,simprocAttr,PT,c,d,Q,x0,R,gy];refine fQ T (B y (.inr ⟨r,Y,Af gy⟩)) ?_;simp only[PP,simprocAttr,PT];rw[kT (by decide) (by simp only[Al,Ak,An,Ay,Ag,O];omega)];simp only[PP,simprocAttr,PT,wx];have:=Z (x+1) (by omega) (by omega);rw[Bx,gy]at this;refine bZ this ?_ rfl;simp only[Dq,Ac,PW]
  ·obtain rfl:x=r.length:=by omega
   rw[Ct,<-G];simp only[PP,simprocAttr,PT,d,S];exact aG (V (i+1) (by omega) (by omega))
 ·obtain rfl:i=D.nx.length:=by omega
  rw[Ct];simp only[PP,simprocAttr,PT,c];refine fT (fun(i:Nat)=>i<=D.fi.length) (fun i=>(.aa:: .ptr 0 0 0::zj 4++kC (kwM++jM (E++(D.nx.flatten++(D.fi.take i).map b2I))):: .aa:: .aa::p64 i::zj 207)) (fun i=>[.cells 0 0 (jbD f o D u)]) (fun i=>D.fi.length-i) 0 (by omega) ?_ (by simp only[Ds,Av,PW,Ao]);intro i U V;refine aH (by kernel_rfl) ?_;simp only[PP,simprocAttr,PT];refine QIf.intro (fun d=>?_) fun d=>?_
  ·obtain⟨b,gb⟩:=aK (xs:=D.fi) (k:=i) (by omega);have Q:(0:Int)<=i:=by omega
   have S:=aA (k:=i) (by show _<1000000000000;omega);have hl:(E++(D.nx.flatten++(D.fi.take i).map b2I)).length+1<=200000000:=by simp only[Al,Ak,An,Ay,Ag,O];omega
   have q1:eE .add (kC (kwM++jM (E++(D.nx.flatten++(D.fi.take i).map b2I)))) (.str ⟨#[32,49]⟩)=Jp (kC (kwM++jM ((E++(D.nx.flatten++(D.fi.take i).map b2I))++[1]))):=kT (L':=[1]) (by decide) hl;have q0:eE .add (kC (kwM++jM (E++(D.nx.flatten++(D.fi.take i).map b2I)))) (.str ⟨#[32,48]⟩)=Jp (kC (kwM++jM ((E++(D.nx.flatten++(D.fi.take i).map b2I))++[0]))):=kT (L':=[0]) (by decide) hl;have:=V (i+1) (by omega) (by omega);rw[Bx,gb,Bh]at this
   cases b with
   | true=>simp only[PP,simprocAttr,PT,d,Q,gb,q1,S];refine bZ this ?_ rfl;simp only[Dq,Ah,Av,b2I,if_true,Ac,PW]
   | false=>simp only[PP,simprocAttr,PT,d,Q,gb,q0,S];refine bZ this ?_ rfl;simp only[Dq,Ah,Av,b2I,Aq,if_false,Ac,PW]
  ·obtain rfl:i=D.fi.length:=by omega
   rw[Ct];simp only[PP,simprocAttr,PT,d];have e2:E++(D.nx.flatten++D.fi.map b2I)=(u:Int)::(In.d D).dp:=by rw[I];simp[In.dp]
   rw[e2];exact hk
abbrev jbG(f o:Bool)(ow pr:List Int)(su:List (List Int))(u:Int):List PV:=
 [p64 3,p64 0,p64 0,slI f o .i64 [],slI f o .i64 [],slE f o [],p64 0,p64 0,slR f o f o .i64 [],slB f o [],slI f o .u8 ow,slI f o .i64 pr,slR f o f o .i64 su,p64 u]
omit T in
def YR(l:List (List Int))(i:Nat):((l.take i).flatMap fD).length<=(l.flatMap fD).length:=by have:=congrArg (fun l=>(List.flatMap fD l).length) (Cu i l);simp only[Gp,Al]at this;omega
def aEp{f o:Bool}{ow pr:List Int}{su:List (List Int)}{u:Nat}(hs:∀x∈(In.g ow pr su).dp,mG x)(hu:u<=2147483647)(hn:(In.g ow pr su).dp.length<=100000000)(a2:su.length<=100000000)(hk:K (kC (In.txt (.g ow pr su) u)) M):au tab 24 [.agg (jbG f o ow pr su u)] M K:=by
 rw[HV]at hk;unfold mG at hs;have y:∀x,x=(ow.length:Int)\/x∈ow\/x∈pr\/(∃r∈su,x∈fD r)->0<=x/\x<=2147483647:=fun x B=>hs x (by
  unfold In.dp;simp only[Cf,Cr,Ey];rcases B with B | B | B | B
  ·exact .inl (.inl (.inl B))
  ·exact .inl (.inl (.inr B))
  ·exact .inl (.inr B)
  ·exact .inr B)
 have hlen:ow.length+pr.length+(su.flatMap fD).length+1<=100000000:=by unfold In.dp at hn;simp only[Al,Ak]at hn;omega
 have qk:eE .add (.str ⟨#[109,101,97,115,117,114,101,115]⟩) (kC (jM [(u:Int)]))=Jp (kC (kwP++jM ([]++[(u:Int)]))):=kT (kw:=kwP) (L:=[]) (by decide) (by simp);refine aB T.h24 (by simp only[PP,simprocAttr,aZ]) ?_;simp only[af24,PP,simprocAttr,PT];refine fQ T ⟨by omega,by omega⟩ ?_;simp only[PP,simprocAttr,PT,qk];refine fQ T (y ow.length (.inl rfl)) ?_;simp only[PP,simprocAttr,PT];rw[kT (by decide) (by simp)];simp only[PP,simprocAttr,PT];obtain⟨G,I⟩:∃G:List Int,G=[(u:Int),(ow.length:Int)]:=⟨_,rfl⟩;have J:G.length=2:=by rw[I];rfl
 refine fT (fun(i:Nat)=>i<=ow.length) (fun i=>(.aa:: .ptr 0 0 0::zj 8++kC (kwP++jM (G++ow.take i))::p64 i::zj 205)) (fun i=>[.cells 0 0 (jbG f o ow pr su u)]) (fun i=>ow.length-i) 0 (by omega) ?_ ?_;rotate_left
 ·rw[I];simp only[Ds,PW,Ao,Ac,Ai,Aj]
 intro i a3 ih;refine aH (by kernel_rfl) ?_;simp only[PP,simprocAttr,PT];refine QIf.intro (fun c=>?_) fun c=>?_
 ·obtain⟨x,O⟩:=aK (xs:=ow) (k:=i) (by omega);have Q:(0:Int)<=i:=by omega
  have R:=aA (k:=i) (by show _<1000000000000;omega);have B:=y x (.inr (.inl (Af O)));have wx:IntKind.i64.wrap x=x:=by rw[wrap64]<;>omega
  simp only[PP,simprocAttr,PT,c,Q,O,wx];refine fQ T B ?_;simp only[PP,simprocAttr,PT];rw[kT (by decide) (by simp[J];omega)];simp only[PP,simprocAttr,PT,R];have:=ih (i+1) (by omega) (by omega);rw[Bx,O]at this;refine bZ this ?_ rfl;simp only[Dq,Ac,PW]
 obtain rfl:i=ow.length:=by omega
 rw[Ct];simp only[PP,simprocAttr,PT,c];refine fT (fun(i:Nat)=>i<=pr.length) (fun i=>(.aa:: .ptr 0 0 0::zj 8++kC (kwP++jM (G++(ow++pr.take i))):: .aa::p64 i::zj 204)) (fun i=>[.cells 0 0 (jbG f o ow pr su u)]) (fun i=>pr.length-i) 0 (by omega) ?_ (by simp only[Ds,PW,Ao]);intro i a0 S;refine aH (by kernel_rfl) ?_;simp only[PP,simprocAttr,PT];refine QIf.intro (fun d=>?_) fun d=>?_
 ·obtain⟨x,O⟩:=aK (xs:=pr) (k:=i) (by omega);have Q:(0:Int)<=i:=by omega
  have R:=aA (k:=i) (by show _<1000000000000;omega);simp only[PP,simprocAttr,PT,d,Q,O];refine fQ T (y x (.inr (.inr (.inl (Af O))))) ?_;simp only[PP,simprocAttr,PT];rw[kT (by decide) (by simp[J];omega)];simp only[PP,simprocAttr,PT,R];have:=S (i+1) (by omega) (by omega);rw[Bx,O]at this;refine bZ this ?_ rfl;simp only[Dq,Ac,PW]
 obtain rfl:i=pr.length:=by omega
 rw[Ct];simp only[PP,simprocAttr,PT,d];refine fT (fun(i:Nat)=>i<=su.length) (fun i=>(.aa:: .ptr 0 0 0::zj 8++kC (kwP++jM (G++(ow++(pr++(su.take i).flatMap fD)))):: .aa:: .aa::p64 i::zj 203)) (fun i=>[.cells 0 0 (jbG f o ow pr su u)]) (fun i=>su.length-i) 0 (by omega) ?_ (by simp only[Ds,Fw,PW,Ao]);intro i a1 U;refine aH (by kernel_rfl) ?_;simp only[PP,simprocAttr,PT];refine QIf.intro (fun e=>?_) fun e=>?_
 ·obtain⟨r,V⟩:=aK (xs:=su) (k:=i) (by omega);have Q:(0:Int)<=i:=by omega
  have R:=aA (k:=i) (by show _<1000000000000;omega);have Y:=Af V;have hb:=YR su (i+1);have E:(su.take (i+1)).flatMap fD=(su.take i).flatMap fD++fD r:=by rw[Bx,V];simp
  rw[E,Al]at hb;have Z:(fD r).length=r.length+1:=by simp[fD]
  simp only[PP,simprocAttr,PT,e,Q,V];refine xZ T (by omega) (fun x B=>y x (.inr (.inr (.inr ⟨r,Y,by simp[fD,B]⟩)))) ?_;simp only[PP,simprocAttr,PT];rw[kT (by decide) (by simp only[Al,Ak,An,Ay,Ag,J,Z];omega)];simp only[PP,simprocAttr,PT,R];have:=U (i+1) (by omega) (by omega);rw[E]at this;refine bZ this ?_ rfl;simp only[Ac,PW]
 obtain rfl:i=su.length:=by omega
 rw[Ct];simp only[PP,simprocAttr,PT,e];have e2:G++(ow++(pr++su.flatMap fD))=(u:Int)::(In.g ow pr su).dp:=by rw[I];simp[In.dp]
 rw[e2];exact hk
omit T in
def In.qq{i:In}(h0:i.chk=0){m:Nat}{r:Res}(h:i.rp m r):∀x∈r.ms,x.fit:=by
 cases i with
 | n N=>obtain⟨rfl,_⟩:=h;exact fun x u=>by cases u
 | d D=>have h:r=_:=h;subst h;exact fun x u=>by cases u
 | g ow pr su=>obtain⟨B,rfl,y,_⟩:=h;exact fun x u=>(y.ok x u).fit (BJ (rU (jB h0)).1)
omit T in
def In.rp_eq{i:In}{m:Nat}{r q:Res}(h:i.rp m r)(u:i.rp m q):r=q:=by
 cases i with
 | n N=>obtain⟨rfl,_⟩:=h;obtain⟨rfl,_⟩:=u;rfl
 | d D=>have h:r=_:=h;have u:q=_:=u;rw[h,u]
 | g ow pr su=>obtain⟨G,rfl,I,J⟩:=h;obtain⟨y,rfl,B,E⟩:=u;have:G=y:=I.eq B (fun v _=>by rw[J,E]);rw[this]
end
def aHG{n:Nat}{L:(Nat->Nat)->Nat->Nat}{m:Nat->Nat}(h:¬rS n L m):∃v,nj n L m v:=by
 have:∀k,k<=n->(∀u,u<k->L m u<=m u)\/∃v,nj n L m v:=by
  intro k
  induction k with
  | zero=>exact fun _=> .inl fun u y=>absurd y (Ed _)
  | succ k B=>
   intro E;rcases B (by omega)with q | q
   ·by_cases c:L m k<=m k
    ·refine .inl fun u y=>?_;by_cases e:u=k
     ·rw[e];exact c
     ·exact q u (by omega)
    ·exact .inr ⟨k,by omega,by omega,q⟩
   ·exact .inr q
 rcases this n (Ab _)with q | q
 ·exact absurd q h
 ·exact q
def VK{n:Nat}{L:(Nat->Nat)->Nat->Nat} :∀{m:Nat},(∀j,j<m->¬rS n L (itN n L j))->m<=rP n (itN n L m)
 | 0,_=>Au _
 | m+1,h=>by have u:=VK (m:=m) fun j y=>h j (by omega);obtain⟨v,hv⟩:=aHG (h m (by omega));have e:itN n L (m+1)=oY (itN n L m) v (L (itN n L m) v):=qK hv;have:=vR (n:=n) (m:=itN n L m) (v:=v) (x:=L (itN n L m) v) hv.1 hv.2.1;rw[e];omega
def In.four:In->Prop
 | .g ow _ _=>ow.length<=4
 | _=>True
def Y2(k:Int)(N:NF)(D:DF)(ow pr:List Int)(su:List (List Int)):(E2 k N D ow pr su).four:=by
 unfold E2;split
 ·trivial
 ·split
  ·trivial
  ·show(ow.take 4).length<=4;rw[Ay];omega
def Q5{D:DF}{m:Nat}(h:∀j,j<m->bF D (j+1)≠bF D j):m<=D.nx.length:=by
 rcases Du D.nx.length with q | q
 ·rcases Du m with p | p
  ·omega
  ·have e:bF D (0+1)=bF D 0:=by rw[List.length_eq_zero_iff.1 ((fF D 0).trans q),List.length_eq_zero_iff.1 ((fF D (0+1)).trans q)]
   exact absurd e (h 0 p)
 ·exact Nat.le_of_lt (CN q h)
section
variable {tab:FuncId->Option AF} (T:HasA tab){M:Mem}{K:PV->Mem->Prop}
include T
end
section
variable {N:NF} {rs0 rs:List (List Bool)} {ch:Bool} {done done':Nat->Nat->Prop} {p q:Nat}
end
section
variable {tab:FuncId->Option AF} (T:HasA tab){M:Mem}{K:PV->Mem->Prop}
include T
omit T in
def HM(id g:Nat)(cs:List PV):∀a:List PV,jn id g cs a a
 | []=>trivial
 | _::a=>⟨.inr (.inl rfl),HM id g cs a⟩
omit T in
def QF{id g:Nat}{cs:List PV}{α:Type}{f y:α->PV} :∀l:List α,(∀u∈l,f u=y u\/∃sz off n,f u= .ref id g sz off n/\off+n*sz<=cs.length/\y u= .sl Js Jr sz n (dQ cs off (n*sz)))->jn id g cs (l.map f) (l.map y)
 | [],_=>trivial
 | x::l,h=>⟨.inr (h x (by simp)),QF l fun u B=>h u (by simp[B])⟩
end
def rwN(D:DF)(s:Nat):List Int:=(D.nx[s]?).getD []
def nxA(D:DF)(s x:Nat):Nat:=((rwN D s).getD x 0).toNat
def dfN(D:DF):Nat->Nat->Nat->Bool
 | 0,s,t=> !decide (D.fi.getD s Js=D.fi.getD t Js)
 | k+1,s,t=>dfN D k s t||(Ba (rwN D s).length).any fun x=>dfN D k (nxA D s x) (nxA D t x)
def aHx{a b:Bool}(h:a=Jr↔¬b=Jr):a= !b:=by cases a<;>cases b<;>simp_all
def SO{D:DF}(C:OkD D):∀(k:Nat) {s t:Nat},s<D.nx.length->t<D.nx.length->dfN D k s t= !decide ((bF D k).getD s 0=(bF D k).getD t 0)
 | 0,s,t,hs,ht=>by unfold dfN bF;rw[JV hs,JV ht];congr 1;rw[decide_eq_decide];generalize D.fi.getD s Js=a;generalize D.fi.getD t Js=b;generalize D.fi.getD 0 Js=c;cases a<;>cases b<;>cases c<;>decide
 | k+1,s,t,hs,ht=>by
  obtain⟨B,E⟩:∃r,D.nx[s]? =Jp r:=⟨_,Ad hs⟩;obtain⟨G,J⟩:∃r,D.nx[t]? =Jp r:=⟨_,Ad ht⟩;have Q:=C.r B (Af E);have R:=C.r G (Af J);have hl:B.length=G.length:=by have:=Q.1;have:=R.1;omega
  have S:rwN D s=B:=by unfold rwN;rw[E];rfl
  have Y:rwN D t=G:=by unfold rwN;rw[J];rfl
  have lt:∀(r:List Int) x,x<r.length->(∀y∈r,0<=y/\y<D.nx.length)->(r.getD x 0).toNat<D.nx.length:=fun r x u h=>by have:=h (r.getD x 0) (by rw[Bc,Ad u];exact List.getElem_mem u);omega
  unfold dfN;rw[SO C k hs ht,S];refine aHx ?_;rw[decide_eq_true_eq];have T:=xV (nx:=D.nx) (c:=bF D k) hs;have U:=xV (nx:=D.nx) (c:=bF D k) ht;have K:(bF D (k+1)).getD s 0=(bF D (k+1)).getD t 0↔fG D.nx (bF D k) s=fG D.nx (bF D k) t:=by
   constructor
   ·intro h;have h:(rfN D.nx (bF D k)).getD s 0=(rfN D.nx (bF D k)).getD t 0:=h;rw[T,U]at h;have Z:fG D.nx (bF D k) s∈fv (fG D.nx (bF D k)) D.nx.length:=(jZ _ _ _).2 ⟨s,hs,rfl⟩;have m2:fG D.nx (bF D k) t∈fv (fG D.nx (bF D k)) D.nx.length:=(jZ _ _ _).2 ⟨t,ht,rfl⟩;have E:=nW Z;have J:=nW m2;have e:ixF (fv (fG D.nx (bF D k)) D.nx.length) (fG D.nx (bF D k) s)=ixF (fv (fG D.nx (bF D k)) D.nx.length) (fG D.nx (bF D k) t):=by omega
    rw[e,J]at E;exact(Option.some.inj E).symm
   ·intro h;show(rfN D.nx (bF D k)).getD s 0=(rfN D.nx (bF D k)).getD t 0;rw[T,U,h]
  rw[K];unfold fG;rw[E,J];simp only[Di,List.cons.injEq,Bool.or_eq_true,List.any_eq_true,List.mem_range,Io,decide_eq_false_iff_not];have u:∀x,x<B.length->(dfN D k (nxA D s x) (nxA D t x)=Jr↔¬(bF D k).getD (B.getD x 0).toNat 0=(bF D k).getD (G.getD x 0).toNat 0):=fun x u=>by unfold nxA;rw[S,Y,SO C k (lt B x u Q.2) (lt G x (by omega) R.2)];simp
  constructor
  ·rintro(h | ⟨x,L,O⟩) ⟨I,M⟩
   ·exact h I
   ·refine(u x L).1 O ?_;have:=congrArg (fun l:List Int=>l.getD x 0) M;simp only[Bc,Ap,Ad L,Ad (show x<G.length by omega),Option.map_some,Di]at this ⊢;exact this
  ·intro h;refine Cd fun V=>h ⟨?_,?_⟩
   ·exact Classical.not_not.1 fun q=>V (.inl q)
   ·refine List.ext_getElem (by simp[hl]) fun x I M=>?_;simp only[Ag]at I M;have:¬dfN D k (nxA D s x) (nxA D t x)=Jr:=fun q=>V (.inr ⟨x,I,q⟩);rw[u x I]at this;have:=Classical.not_not.1 this;simp only[Bc,Ad I,Ad M,Di]at this;simpa [Bc]using this
def aCw{α:Type} [DecidableEq α](f:Nat->α)(n:Nat):∀d,∃r,fv f (n+d)=fv f n++r
 | 0=>⟨[],by simp⟩
 | d+1=>by
  obtain⟨r,h⟩:=aCw f n d;show ∃r,gH (fv f (n+d)) (f (n+d))=_;unfold gH;split
  ·exact⟨r,h⟩
  ·exact⟨r++[f (n+d)],by rw[h,Ac]⟩
def yE(c:List Int)(s:Nat):Nat:=(fv (fun y=>c.getD y 0) s).length
def aE4{c:List Int}{s t:Nat}(ht:t<s)(h:c.getD t 0=c.getD s 0):yE c (s+1)=yE c s:=by unfold yE;show(gH _ _).length=_;rw[sV,if_pos ((jZ _ _ _).2 ⟨t,ht,h.symm⟩)]
def aE5{c:List Int}{s n:Nat}(B:QI n c)(hs:s<n)(h:∀t,t<s->¬c.getD t 0=c.getD s 0):c.getD s 0=yE c s/\yE c (s+1)=yE c s+1:=by
 have hm:c.getD s 0∉fv (fun y=>c.getD y 0) s:=fun q=>by obtain⟨t,ht,e⟩:=(jZ _ _ _).1 q;exact h t ht e.symm
 have u:fv (fun y=>c.getD y 0) (s+1)=fv (fun y=>c.getD y 0) s++[c.getD s 0]:=by show gH _ _=_;unfold gH;rw[if_neg hm]
 refine⟨?_,?_⟩
 ·obtain⟨r,hr⟩:=aCw (fun y=>c.getD y 0) (s+1) (n-(s+1));rw[show s+1+(n-(s+1))=n by omega,u]at hr;rw[<-B.2 s hs,hr];unfold ixF yE;rw[Ac,Ff,if_neg hm];simp
 ·unfold yE;rw[u];simp
def aEu{D:DF}(k:Nat):bF D (min k D.nx.length)=bF D k:=by
 by_cases h:k<=D.nx.length
 ·rw[Dk h]
 ·rw[Nat.min_eq_right (by omega)];have:∃j,j<=D.nx.length/\bF D (j+1)=bF D j:=Cd fun q=>by
   have:=Q5 (D:=D) (m:=D.nx.length+1) fun j u e=>q ⟨j,by omega,e⟩;omega
  obtain⟨j,h1,h2⟩:=this;have a:=tF h2 (D.nx.length-j);have b:=tF h2 (k-j);rw[show j+(D.nx.length-j)=D.nx.length by omega]at a;rw[show j+(k-j)=k by omega]at b;rw[a,b]
def dmN(D:DF)(j:Nat):List (List Bool):=fX D.nx.length fun s=>fX D.nx.length fun t=>dfN D j s t
def DZ{n t:Nat}(g:Nat->Bool)(b:Bool)(h:t<n):((fX n g).map PV.bool).set t (.bool b)=(fX n fun u=>if u=t then b else g u).map PV.bool:=by rw[<-vM b h,List.map_set]
def V5{n t:Nat}(g:Nat->Bool)(h:t<n):((fX n g).map PV.bool)[t]? =Jp (.bool (g t)):=by rw[Ap,jR h];rfl
def aGF{D:DF}{j s:Nat}(h:s<D.nx.length):(dmN D j)[s]? =Jp (fX D.nx.length fun t=>dfN D j s t):=jR h
def aCD{D:DF}{j n:Nat}(h:n=D.nx.length):(fX n fun u=>if u<n then slB Js Jr (fX n fun t=>dfN D j u t)else PV.ai)=(dmN D j).map (slB Js Jr):=by subst h;unfold dmN;rw[CB];exact kB fun u y=>by rw[if_pos y]
def aCC(m n k:Nat)(g:Nat->Nat->Bool):aD m (fX n fun u=>if u<k then slB Js Jr (fX n (g u))else PV.ai)=Jr:=(fW _ _).2 fun v hv=>by
 obtain⟨u,_,rfl⟩:=CA hv;split
 ·exact xG _ _ _ _ _ _
 ·simp[PV.under]
def VQ{a b:List PV}{n s v w:Nat}{g:Nat->Nat->Bool}(hs:s<n)(hw:db a b)(hb:aD 1 b=Jr):
  GStep 0 a [.cells 0 v (fX n fun u=>if u=s then .ref 1 0 1 0 n else if u<s then slB Js Jr (fX n (g u))else .ai),.cells 0 w ((fX n (g s)).map .bool)] b [.cells 0 v (fX n fun u=>if u<s+1 then slB Js Jr (fX n (g u))else .ai)]:=by
 refine GStep.trans (GStep.jd (b:=a) (cj2:=fX n fun u=>if u<s+1 then slB Js Jr (fX n (g u))else .ai) 1 0 (Au _) rfl rfl (by omega) (HM _ _ _ _) (QF _ fun u G=>?_) rfl) (GStep.drop 1 (Au _) (by simp) hw hb ?_ rfl)
 ·by_cases y:u=s
  ·right;refine⟨1,0,n,by rw[if_pos y],by rw[Ag,fB];omega,?_⟩;rw[if_pos (by omega),Ce,cN _ _ (by rw[Ag,fB])];unfold slB;rw[fB,y]
  ·left;rw[if_neg y];by_cases B:u<s
   ·rw[if_pos B,if_pos (by omega)]
   ·rw[if_neg B,if_neg (by omega)]
 ·show(bl.under 1 _&&Jr)=Jr;rw[Bool.and_true];exact aCC _ _ _ _
section
variable {tab:FuncId->Option AF} (T:HasA tab){M:Mem}{K:PV->Mem->Prop}
include T
def aCF{G I J L f3 O:Bool}{D:DF}{k:Nat}(C:OkD D)(B:BnD D)(hk:K (vW Js Jr Js Jr (dmN D (min k D.nx.length))) M):
  au tab 103 [.agg (dfC G I J L f3 O D),p64 k] M K:=by
 obtain⟨n,hn⟩:∃n:Nat,n=D.nx.length:=⟨_,rfl⟩;have n1:=C.n1;have hf:=C.f;have b0:(0:Int)<=n:=by omega
 have b1:(n:Int)*24<=140737488355328:=by omega
 have b3:(n:Int)*1<=140737488355328:=by omega
 have b2:(n:Int)<=9223372036854775807:=by omega
 refine eC T.h103 (by simp only[PP,simprocAttr]) ?_;simp only[af103];refine aE (aC ?_);simp only[PP,simprocAttr];refine cK (GStep.dz (b:=(.aa::p64 k:: .cp (dfC G I J L f3 O D) 0::zj 127)) 0 (Au _) rfl (by simp only[mX,mY,Ai,Aj,iD,gJ,gI,iC]) rfl) ?_;refine cK (GStep.drop (b:=(.aa::p64 k:: .cp (dfC G I J L f3 O D) 0::zj 127)) 0 (Au _) (Au _) (by simp only[PW]) (by simp only[PP,simprocAttr,PV.under]) rfl rfl) ?_;refine aE (aC ?_);simp only[PP,simprocAttr,<-hn];refine aE (aC ?_);simp only[PP,simprocAttr];refine⟨⟨b0,Dw _,b1,b2⟩,?_⟩;refine aE (qB (Qn:=fun b N=>db b (.aa::p64 k:: .cp (dfC G I J L f3 O D) 0:: .aa:: .aa::p64 n:: .ref 0 0 1 0 n::zj 123)/\∃v,N=[.cells 0 v ((dmN D 0).map (slB Js Jr))]) ?_ ?_ (fun _ _ h=>h) fun _ _ _ h=>h)
 ·refine aE (aC ?_);simp only[PP,simprocAttr];refine sX ?_;refine iN (fun(s v:Nat)=>s<=n) (fun s v=>(.aa::p64 k:: .cp (dfC G I J L f3 O D) 0:: .aa:: .aa::p64 n:: .ref 0 0 1 0 n::p64 s::zj 122)) (fun s v=>[.cells 0 v (fX n fun u=>if u<s then slB Js Jr (fX n fun t=>dfN D 0 u t)else .ai)]) (fun s v=>n-s) 0 0 (by omega) ?_ (by simp only[PW]) (by rw[vO];rfl);intro s v hs ih;refine aH (by kernel_rfl) ?_;simp only[PP,simprocAttr];refine QIf.intro (fun c=>?_) fun c=>?_
  ·have E:s<n:=by omega
   have s0:(0:Int)<=s:=by omega
   have sn:(s:Int)<n:=by omega
   have s1:s+1<=n:=E;have a7:=aA (k:=s) (by show _<1000000000000;omega);have a9:=fB n fun u=>if u<s then slB Js Jr (fX n fun t=>dfN D 0 u t)else PV.ai
   simp only[PP,simprocAttr,c,b0,b2,b3,s0,sn,s1,a9,vM _ E,Dw];obtain⟨R,hR⟩:∃R,R=fX n fun u=>if u=s then PV.ref 1 0 1 0 n else if u<s then slB Js Jr (fX n fun t=>dfN D 0 u t)else .ai:=⟨_,rfl⟩
   have V:R[s]? =Jp (.ref 1 0 1 0 n):=by rw[hR,jR E,if_pos rfl]
   have Y:R.length=n:=by rw[hR];exact fB _ _
   rw[<-hR];refine iN (fun(t w:Nat)=>t<=n) (fun t w=>(.aa::p64 k:: .cp (dfC G I J L f3 O D) 0:: .aa:: .aa::p64 n:: .ref 0 0 1 0 n::p64 s::p64 t::zj 121)) (fun t w=>[.cells 0 (v+1) R,.cells 0 w ((fX n fun u=>if u<t then dfN D 0 s u else Js).map .bool)]) (fun t w=>n-t) 0 0 (by omega) ?_ (by simp only[PW]) (by rw[CB];simp[vO]);intro t w ht b4;refine aH (by kernel_rfl) ?_;simp only[PP,simprocAttr];refine QIf.intro (fun d=>?_) fun d=>?_
   ·have Q:t<n:=by omega
    have t0:(0:Int)<=t:=by omega
    have tn:(t:Int)<n:=by omega
    have t1:t+1<=n:=Q;have hwt:=aA (k:=t) (by show _<1000000000000;omega);have d0:(s:Int)<D.fi.length:=by omega
    have d4:(t:Int)<D.fi.length:=by omega
    obtain⟨x,gx⟩:=aK (xs:=D.fi) (k:=s) (by omega);obtain⟨y,gy⟩:=aK (xs:=D.fi) (k:=t) (by omega);have Z:=fB n fun u=>if u<t then dfN D 0 s u else Js
    simp only[PP,simprocAttr,d,s0,sn,t0,tn,t1,V,Y,d0,d4,gx,gy,Z,DZ _ _ Q,hwt];have e3:(fX n fun u=>if u=t then !(x==y)else if u<t then dfN D 0 s u else Js)=fX n fun u=>if u<t+1 then dfN D 0 s u else Js:=kB fun u hu=>by
     by_cases q:u=t
     ·subst q;rw[if_pos rfl,if_pos (by omega)];unfold dfN;rw[Bc,gx,Bc,gy];cases x<;>cases y<;>rfl
     ·rw[if_neg q];by_cases q2:u<t
      ·rw[if_pos q2,if_pos (by omega)]
      ·rw[if_neg q2,if_neg (by omega)]
    rw[e3];exact bZ (b4 (t+1) (w+1) (by omega) (by omega)) (by simp only[PW]) rfl
   ·obtain rfl:t=n:=by omega
    have e1:(fX t fun u=>if u<t then dfN D 0 s u else Js)=fX t (dfN D 0 s):=kB fun u hu=>by rw[if_pos hu]
    rw[e1,hR];simp only[PP,simprocAttr,d,a7];refine cK (VQ (b:=(.aa::p64 k:: .cp (dfC G I J L f3 O D) 0:: .aa:: .aa::p64 t:: .ref 0 0 1 0 t::p64 ((s+1:Nat):Int)::zj 122)) E (by simp only[PW]) (by simp only[PP,simprocAttr,PV.under])) ?_;exact aG (ih (s+1) (v+1) (by omega) (by omega))
  ·obtain rfl:s=n:=by omega
   simp only[PP,simprocAttr,c];exact⟨(by simp only[PW]),v,by rw[aCD hn]⟩
 rintro b N ⟨hw,v,rfl⟩;refine aG ?_ hw;have hfz:∀j,vW Js Jr Js Jr (dmN D j)= .sl Js Jr 1 n (dQ ((dmN D j).map (slB Js Jr)) 0 (n*1)):=fun j=>by rw[Ce,cN _ _ (by simp[dmN,fB,hn])];unfold vW dmN;rw[fB,hn]
 have c3:∀j,0+n*1<=((dmN D j).map (slB Js Jr)).length:=fun j=>by simp[dmN,fB,hn]
 refine cK (GStep.freeze (b:=(.aa::p64 k:: .cp (dfC G I J L f3 O D) 0:: .aa:: .aa::p64 n::vW Js Jr Js Jr (dmN D 0)::zj 123)) 0 (Au _) rfl (by simp only[mX,mY,Ai,Aj,qF,lQ,sZ (c3 0) (hfz 0),oN]) rfl) ?_;have S:∀m j,aD m ((dmN D j).map (slB Js Jr))=Jr:=fun m j=>iT _ (slB Js Jr) (fun x=>xG _ _ _ _ _ _) _;refine cK (GStep.drop (b:=(.aa::p64 k:: .cp (dfC G I J L f3 O D) 0:: .aa:: .aa::p64 n::vW Js Jr Js Jr (dmN D 0)::zj 123)) 0 (Au _) (Au _) (by simp only[PW]) (by simp only[PP,simprocAttr,PV.under,S]) rfl rfl) ?_;refine aC ?_;simp only[PP,simprocAttr];refine fT (fun(j:Nat)=>j<=min k n) (fun j=>(.aa::p64 k:: .cp (dfC G I J L f3 O D) 0:: .aa:: .aa::p64 n::vW Js Jr Js Jr (dmN D j):: .aa:: .aa::p64 j::zj 120)) (fun j=>[]) (fun j=>min k n-j) 0 (by omega) ?_;intro j hj ih;refine aH (by kernel_rfl) ?_;by_cases c1:j<k;rotate_left
 ·obtain rfl:j=min k n:=by omega
  have a6:¬((min k n:Nat):Int)<k:=by omega
  simp only[PP,simprocAttr,a6,S];rw[hn];exact hk
 have a6:(j:Int)<k:=by omega
 by_cases c2:j<n;rotate_left
 ·obtain rfl:j=min k n:=by omega
  have b5:¬((min k n:Nat):Int)<n:=by omega
  simp only[PP,simprocAttr,a6,b5,S];rw[hn];exact hk
 have b5:(j:Int)<n:=by omega
 have d5:=aA (k:=j) (by show _<1000000000000;omega);simp only[PP,simprocAttr,a6,b5,b0,b1,b2,Dw];refine iN (fun(s v:Nat)=>s<=n) (fun s v=>(.aa::p64 k:: .cp (dfC G I J L f3 O D) 0:: .aa:: .aa::p64 n::vW Js Jr Js Jr (dmN D j):: .aa:: .aa::p64 j:: .ref 0 0 1 0 n::p64 s::zj 118)) (fun s v=>[.cells 0 v (fX n fun u=>if u<s then slB Js Jr (fX n fun t=>dfN D (j+1) u t)else .ai)]) (fun s v=>n-s) 0 0 (by omega) ?_ (by simp only[PW]) (by rw[vO];rfl);intro s v hs b4;refine aH (by kernel_rfl) ?_;simp only[PP,simprocAttr];refine QIf.intro (fun c=>?_) fun c=>?_;rotate_left
 ·obtain rfl:s=n:=by omega
  simp only[PP,simprocAttr,c,d5];rw[aCD hn];refine aG (b:=(.aa::p64 k:: .cp (dfC G I J L f3 O D) 0:: .aa:: .aa::p64 s:: .ref 0 0 1 0 s:: .aa:: .aa::p64 ((j+1:Nat):Int)::zj 120)) ?_;refine cK (GStep.freeze (b:=(.aa::p64 k:: .cp (dfC G I J L f3 O D) 0:: .aa:: .aa::p64 s::vW Js Jr Js Jr (dmN D (j+1)):: .aa:: .aa::p64 ((j+1:Nat):Int)::zj 120)) 0 (Au _) rfl (by simp only[mX,mY,Ai,Aj,qF,lQ,sZ (c3 (j+1)) (hfz (j+1)),oN]) rfl) ?_;refine cK (GStep.drop (b:=(.aa::p64 k:: .cp (dfC G I J L f3 O D) 0:: .aa:: .aa::p64 s::vW Js Jr Js Jr (dmN D (j+1)):: .aa:: .aa::p64 ((j+1:Nat):Int)::zj 120)) 0 (Au _) (Au _) (by simp only[PW]) (by simp only[PP,simprocAttr,PV.under,S]) rfl rfl) ?_;exact aG (ih (j+1) (by omega) (by omega))
 have E:s<n:=by omega
 have s0:(0:Int)<=s:=by omega
 have sn:(s:Int)<n:=by omega
 have s1:s+1<=n:=E;have a7:=aA (k:=s) (by show _<1000000000000;omega);have a9:=fB n fun u=>if u<s then slB Js Jr (fX n fun t=>dfN D (j+1) u t)else PV.ai
 simp only[PP,simprocAttr,c,b0,b2,b3,s0,sn,s1,a9,vM _ E,Dw];obtain⟨R,hR⟩:∃R,R=fX n fun u=>if u=s then PV.ref 1 0 1 0 n else if u<s then slB Js Jr (fX n fun t=>dfN D (j+1) u t)else .ai:=⟨_,rfl⟩
 have V:R[s]? =Jp (.ref 1 0 1 0 n):=by rw[hR,jR E,if_pos rfl]
 have Y:R.length=n:=by rw[hR];exact fB _ _
 rw[<-hR];have f5:(dmN D j).length=n:=by simp[dmN,fB,hn]
 have d6:∀i:Nat,i<n->(i:Int)<(dmN D j).length:=fun i h=>by omega
 have c4:∀{i:Nat},i<n->(dmN D j)[i]? =Jp (fX n fun t=>dfN D j i t):=fun {i} h=>by rw[hn];exact aGF (by omega)
 have e0:=c4 E;obtain⟨U,g1⟩:=aK (xs:=D.nx) (k:=s) (by omega);have b6:(s:Int)<D.nx.length:=by omega
 have q1:=C.r U (Af g1);have f6:U.length<1000000000000:=B.r U (Af g1);have e1:rwN D s=U:=by unfold rwN;rw[g1];rfl
 refine iN (fun(t w:Nat)=>t<=n) (fun t w=>(.aa::p64 k:: .cp (dfC G I J L f3 O D) 0:: .aa:: .aa::p64 n::vW Js Jr Js Jr (dmN D j):: .aa:: .aa::p64 j:: .ref 0 0 1 0 n::p64 s::p64 t::zj 117)) (fun t w=>[.cells 0 (v+1) R,.cells 0 w ((fX n fun u=>if u<t then dfN D (j+1) s u else Js).map .bool)]) (fun t w=>n-t) 0 0 (by omega) ?_ (by simp only[PW]) (by rw[CB];simp[vO]);intro t w ht e5;refine aH (by kernel_rfl) ?_;simp only[PP,simprocAttr];refine QIf.intro (fun d=>?_) fun d=>?_;rotate_left
 ·obtain rfl:t=n:=by omega
  have e1:(fX t fun u=>if u<t then dfN D (j+1) s u else Js)=fX t (dfN D (j+1) s):=kB fun u hu=>by rw[if_pos hu]
  rw[e1,hR];simp only[PP,simprocAttr,d,a7];refine cK (VQ (b:=(.aa::p64 k:: .cp (dfC G I J L f3 O D) 0:: .aa:: .aa::p64 t::vW Js Jr Js Jr (dmN D j):: .aa:: .aa::p64 j:: .ref 0 0 1 0 t::p64 ((s+1:Nat):Int)::zj 118)) E (by simp only[PW]) (by simp only[PP,simprocAttr,PV.under,S])) ?_;exact aG (b4 (s+1) (v+1) (by omega) (by omega))
 have Q:t<n:=by omega
 have t0:(0:Int)<=t:=by omega
 have tn:(t:Int)<n:=by omega
 have t1:t+1<=n:=Q;have hwt:=aA (k:=t) (by show _<1000000000000;omega);obtain⟨r2,g2⟩:=aK (xs:=D.nx) (k:=t) (by omega);have c5:(t:Int)<D.nx.length:=by omega
 have q2:=C.r r2 (Af g2);have f7:U.length=r2.length:=by have:=q1.1;have:=q2.1;omega
 have e2:rwN D t=r2:=by unfold rwN;rw[g2];rfl
 have Z:=fB n fun u=>if u<t then dfN D (j+1) s u else Js
 have g0:=V5 (dfN D j s) Q;have b8:=fB n (dfN D j s);simp only[PP,simprocAttr,d,s0,sn,t0,tn,t1,V,Y,d6 s E,e0,b8,jR Q,Z,DZ _ _ Q];refine iN (fun(x w:Nat)=>x<=U.length) (fun x w=>(.aa::p64 k:: .cp (dfC G I J L f3 O D) 0:: .aa:: .aa::p64 n::vW Js Jr Js Jr (dmN D j):: .aa:: .aa::p64 j:: .ref 0 0 1 0 n::p64 s::p64 t::p64 x::zj 116)) (fun x w=>[.cells 0 (v+1) R,.cells 0 w ((fX n fun u=>if u=t then(dfN D j s t||(Ba x).any fun y=>dfN D j (nxA D s y) (nxA D t y))else if u<t then dfN D (j+1) s u else Js).map .bool)]) (fun x w=>U.length-x) 0 (w+1) (by omega) ?_ (by simp only[PW]) (by simp);intro x w hx e6;refine aH (by kernel_rfl) ?_;simp only[PP,simprocAttr,s0,b6,g1];refine QIf.intro (fun e=>?_) fun e=>?_;rotate_left
 ·obtain rfl:x=U.length:=by omega
  have e3:(fX n fun u=>if u=t then(dfN D j s t||(Ba U.length).any fun y=>dfN D j (nxA D s y) (nxA D t y))else if u<t then dfN D (j+1) s u else Js)=fX n fun u=>if u<t+1 then dfN D (j+1) s u else Js:=kB fun u hu=>by
   by_cases q:u=t
   ·subst q;rw[if_pos rfl,if_pos (by omega),<-e1];rfl
   ·rw[if_neg q];by_cases q2:u<t
    ·rw[if_pos q2,if_pos (by omega)]
    ·rw[if_neg q2,if_neg (by omega)]
  rw[e3];simp only[PP,simprocAttr,e,hwt];exact bZ (e5 (t+1) w (by omega) (by omega)) (by simp only[PW]) rfl
 have e7:x<U.length:=by omega
 have x0:(0:Int)<=x:=by omega
 have c6:(x:Int)<U.length:=by omega
 have c7:(x:Int)<r2.length:=by omega
 have c8:=aA (k:=x) (by show _<1000000000000;omega);obtain⟨a,ga⟩:=aK (xs:=U) (k:=x) e7;obtain⟨b,gb⟩:=aK (xs:=r2) (k:=x) (by omega);obtain⟨a0,a1⟩:=q1.2 a (Af ga);obtain⟨c9,g3⟩:=q2.2 b (Af gb);have e8:a.toNat<n:=by omega
 have b7:b.toNat<n:=by omega
 have am:a<(dmN D j).length:=by omega
 have bm:b<n:=by omega
 have a4:=c4 e8;have a2:=fB n (dfN D j a.toNat);have f4:=V5 (dfN D j a.toNat) b7;have na:nxA D s x=a.toNat:=by unfold nxA;rw[e1,Bc,ga];rfl
 have nb:nxA D t x=b.toNat:=by unfold nxA;rw[e2,Bc,gb];rfl
 have c0:(dfN D j s t||(Ba (x+1)).any fun y=>dfN D j (nxA D s y) (nxA D t y))=((dfN D j s t||(Ba x).any fun y=>dfN D j (nxA D s y) (nxA D t y))||dfN D j a.toNat b.toNat):=by rw[Fq,Jb];simp[na,nb,Bool.or_assoc]
 have a5:=fB n fun u=>if u=t then(dfN D j s t||(Ba x).any fun y=>dfN D j (nxA D s y) (nxA D t y))else if u<t then dfN D (j+1) s u else Js
 have a3:=e6 (x+1);rw[c0]at a3
 cases hv:dfN D j a.toNat b.toNat with
 | true=>
  rw[hv,Bool.or_true]at a3;have e4:(fX n fun u=>if u=t then Jr else if u=t then(dfN D j s t||(Ba x).any fun y=>dfN D j (nxA D s y) (nxA D t y))else if u<t then dfN D (j+1) s u else Js)=fX n fun u=>if u=t then Jr else if u<t then dfN D (j+1) s u else Js:=kB fun u hu=>by
   by_cases q:u=t
   ·rw[if_pos q,if_pos q]
   ·rw[if_neg q,if_neg q,if_neg q]
  simp only[PP,simprocAttr,e,s0,sn,t0,tn,t1,x0,c6,c7,V,Y,b6,c5,g1,g2,ga,gb,a0,am,c9,bm,a4,a2,jR b7,hv,a5,DZ _ _ Q,c8];rw[e4];exact bZ (a3 (w+1) (by omega) (by omega)) (by simp only[PW]) rfl
 | false=>rw[hv,Bool.or_false]at a3;simp only[PP,simprocAttr,e,s0,sn,t0,tn,t1,x0,c6,c7,V,Y,b6,c5,g1,g2,ga,gb,a0,am,c9,bm,a4,a2,jR b7,hv,a5,c8];exact bZ (a3 w (by omega) (by omega)) (by simp only[PW]) rfl
def F2{f1 o1 f2 o2 f3 o3:Bool}{D:DF}{k:Nat}(hc:fE D=0)(B:BnD D)(hk:K (.tuple [slI Js Jr .i64 (bF D k),p64 0]) M):
  au tab 55 [.agg (dfC f1 o1 f2 o2 f3 o3 D),p64 k] M K:=by
 have C:=gm.1 hc;have n1:=C.n1;rw[<-aEu]at hk;obtain⟨j,hj⟩:∃j,j=min k D.nx.length:=⟨_,rfl⟩;rw[<-hj]at hk;obtain⟨a1,R⟩:=CP D j;have a2:∀{s t:Nat},s<D.nx.length->t<D.nx.length->dfN D j s t= !decide ((bF D j).getD s 0=(bF D j).getD t 0):=fun {s t} hs ht=>SO C j hs ht;have a3:∀{s:Nat},s<D.nx.length->(dmN D j)[s]? =Jp (fX D.nx.length fun t=>dfN D j s t):=fun {s} h=>aGF h;have G:(dmN D j).length=D.nx.length:=by simp[dmN,fB]
 have a4:∀{s:Nat},s<D.nx.length->yE (bF D j) s<=s:=fun {s} _=>SJ _ s;refine eC T.h55 (by simp only[PP,simprocAttr]) ?_;simp only[af55];refine aE (aC ?_);simp only[PP,simprocAttr];refine aE (aC ?_);simp only[PP,simprocAttr];refine GC T B ?_;simp only[PP,simprocAttr,hc];refine aE (aC ?_);simp only[PP,simprocAttr];refine aE (aC ?_);simp only[PP,simprocAttr];refine aCF T C B ?_;rw[<-hj];simp only[PP,simprocAttr];refine aE (aC ?_);simp only[PP,simprocAttr];refine cK (GStep.nil 8 1 rfl rfl rfl) ?_;refine aC ?_;simp only[PP,simprocAttr];refine iN (fun(s g:Nat)=>s<=D.nx.length) (fun s g=>(zj 7++vW Js Jr Js Jr (dmN D j):: .ref 1 g 1 0 s::p64 (yE (bF D j) s)::p64 s::zj 41)) (fun s g=>[.cells 0 0 (dfC f1 o1 f2 o2 f3 o3 D),.cells g 0 (((bF D j).take s).map p64)]) (fun s g=>D.nx.length-s) 0 0 (by omega) ?_ (by simp only[yE,fv,An,PW]);intro s g hs ih;refine aH (by kernel_rfl) ?_;simp only[PP,simprocAttr,G];refine QIf.intro (fun c=>?_) fun c=>?_;rotate_left
 ·obtain rfl:s=D.nx.length:=by omega
  have I:(bF D j).take D.nx.length=bF D j:=List.take_of_length_le (by rw[fF];exact Ab _);have hfz:uO (Jp (bl.cells g 0 ((bF D j).map p64))) g 1 0 D.nx.length=Jp (slI Js Jr .i64 (bF D j)):=by
   rw[gT (by simp[fF]) (b9 _ _ _),Ce,cN _ _ (by simp[fF])];simp only[slI,fF]
  rw[I];simp only[PP,simprocAttr,c,hfz];exact hk
 have y:s<D.nx.length:=by omega
 have s0:(0:Int)<=s:=by omega
 have S:=aA (k:=s) (by show _<1000000000000;omega);have a5:s<(bF D j).length:=by rw[fF];exact y
 obtain⟨v,gv⟩:=aK a5;have U:(bF D j).getD s 0=v:=by rw[Bc,gv];rfl
 have I:((bF D j).take (s+1)).map p64=((bF D j).take s).map p64++[p64 v]:=by rw[Bx,gv];simp
 have J:=a3 y;have L:=fB D.nx.length (dfN D j s);have b1:(s+1)*8<=140737488355328:=by omega
 have b2:s+1<=9223372036854775807:=by omega
 have b3:s<=((bF D j).take s).length:=by simp;omega
 have V:dQ (((bF D j).take s).map p64) 0 s=((bF D j).take s).map p64:=cN _ _ (by simp;omega);have b0:=a4 y;simp only[PP,simprocAttr,c];refine fT (fun(t:Nat)=>t<=s/\∀u,u<t->¬(bF D j).getD u 0=(bF D j).getD s 0) (fun t=>(zj 7++vW Js Jr Js Jr (dmN D j):: .ref 1 g 1 0 s::p64 (yE (bF D j) s)::p64 s::p64 t::zj 40)) (fun t=>[.cells 0 0 (dfC f1 o1 f2 o2 f3 o3 D),.cells g 0 (((bF D j).take s).map p64)]) (fun t=>s-t) 0 ⟨Au _,fun u h=>absurd h (Ed _)⟩ ?_;intro t ⟨ht,Y⟩ a6;refine aH (by kernel_rfl) ?_;have t0:(0:Int)<=t:=by omega
 have tn:(t:Int)<D.nx.length:=by omega
 have hwt:=aA (k:=t) (by show _<1000000000000;omega);have O:=jR (f:=dfN D j s) (show t<D.nx.length by omega);have hd:=a2 y (show t<D.nx.length by omega);by_cases he:(bF D j).getD t 0=(bF D j).getD s 0;rotate_left
 ·have Q:t<s:=by
   rcases Nat.lt_or_ge t s with q | q
   ·exact q
   ·obtain rfl:t=s:=by omega
    exact absurd rfl he
  rw[decide_eq_false fun q=>he q.symm]at hd;simp only[PP,simprocAttr,G,c,s0,t0,tn,J,L,O,hd,hwt];exact aG (a6 (t+1) ⟨by omega,fun u hu=>by
   by_cases q:u=t
   ·subst q;exact he
   ·exact Y u (by omega)⟩ (by omega)) (by simp only[PW])
 rw[decide_eq_true he.symm]at hd;by_cases Q:t<s
 ·have E:(t:Int)<s:=by omega
  obtain⟨v',Z⟩:=aK (xs:=bF D j) (k:=t) (by omega);have e:v'=v:=by rw[<-U,<-he,Bc,Z];rfl
  subst e;have a0:((bF D j).take s)[t]? =Jp v':=by rw[List.getElem?_take,if_pos Q];exact Z
  have a7:=aE4 Q he;have:=ih (s+1) (g+1) (by omega) (by omega);rw[a7,I]at this;have b4:(t:Int)<(((bF D j).take s).map p64).length:=by simp;omega
  simp only[PP,simprocAttr,G,c,s0,t0,tn,J,L,O,hd,E,a0,b1,b2,b3,b4,V,S];exact bZ this (by simp only[PW]) rfl
 ·obtain rfl:t=s:=by omega
  have E:¬(t:Int)<t:=by omega
  obtain⟨h1,h2⟩:=aE5 ⟨a1,R⟩ y Y;have a9:=aA (k:=yE (bF D j) t) (by show _<1000000000000;omega);rw[U]at h1;have:=ih (t+1) (g+1) (by omega) (by omega);rw[h2,I,h1]at this;simp only[PP,simprocAttr,G,c,s0,t0,tn,J,L,O,hd,E,b1,b2,b3,V,S,a9];exact bZ this (by simp only[PW]) rfl
end
abbrev YW(u:List (List Int))(s:List Int):Nat:= @List.idxOf _ instBEqOfDecidableEq s u
def bh.slR{f:Bool}{u:List (List Int)} :bh (slR f Jr Js Jr .i64 u) (slR Js Jr Js Jr .i64 u):=bh.sl f 1 _ _
section
variable {tab:FuncId->Option AF} (T:HasA tab){M:Mem}{K:PV->Mem->Prop}
include T
def LX{f o J L O Q:Bool}{u:List (List Int)}{s:List Int}(hm:u.length<=5000)(E:∀r∈u,r.length<big)(B:K (p64 (VO u s)) M):
  au tab 101 [slR f o J L .i64 u,slI O Q .i64 s] M K:=by
 refine aB T.h101 (by simp only[PP,simprocAttr]) ?_;simp only[af101,PP,simprocAttr];refine fT (fun(k:Nat)=>k<=u.length/\(s∈u->k<=YW u s)) (fun k=>(slR f o J L .i64 u::slI O Q .i64 s::zj 3++p64 k::zj 13)) (fun _=>[]) (fun k=>u.length-k) 0 ⟨by omega,fun _=>Au _⟩ ?_;intro k ⟨R,G⟩ S;refine aH (by kernel_rfl) ?_;simp only[PP,simprocAttr];unfold VO at B;refine QIf.intro (fun c=>?_) fun c=>?_
 ·have I:k<u.length:=by omega
  obtain⟨r,g⟩:=aK I;have U:(0:Int)<=k:=by omega
  have wk:=aA (k:=k) (by show _<1000000000000;omega);simp only[PP,simprocAttr,c,U,g];refine nD T (E r (Af g)) ?_;by_cases e:r=s
  ·subst e;have y:=Af g;have:=GX g;have:=G y;obtain rfl:k=YW u r:=by unfold YW at*;omega
   rw[if_pos y]at B;simp only[PP,simprocAttr];exact B
  ·simp only[PP,simprocAttr,e,wk];refine aG (S (k+1) ⟨by omega,fun h=>?_⟩ (by omega));have h1:=G h;have h2:=yL h;refine Cd fun q=>?_;have:k=YW u s:=by omega
   have h2:u[YW u s]? =Jp s:=h2;rw[<-this,g]at h2;exact e (Option.some.inj h2)
 ·have:s∉u:=fun h=>by have h1:=G h;have h2:YW u s<u.length:=aF (yL h);omega
  rw[if_neg this]at B;simp only[PP,simprocAttr,c];exact B
def XL{B E:Bool}{id g ver n:Nat}{o:List (BitVec 64)}{b:BitVec 64}(I:M[id]? =Jp (.cells g ver ((dP o).map (slI Js Jr .i64))))(J:n=o.length)(hl:o.length<=5000)(L:K (p64 (if b∈o then((o.idxOf b:Nat):Int)else-1)) M):
  au tab 101 [.ref id g 1 0 n,slI B E .i64 (jA (eW b))] M K:=by
 have u:(dP o).length=o.length:=by simp[dP]
 subst J;refine mE (args2:=[slR Jr Js Js Jr .i64 (dP o),slI B E .i64 (jA (eW b))]) ?_ (LX T (by omega) (fun r hr=>?_) ⟨rfl,?_⟩)
 ·have:=jf.ref (sz:=1) (off:=0) (n:=o.length) (cs2:=(dP o).map (slI Js Jr .i64)) I (by simp[u]) (cM _ _ _ _ _) (cN _ _ (by simp[u])) (jf.same (v:=slI B E .i64 (jA (eW b))) (by simp only[PP,simprocAttr]) jf.nil);rw[slR,u];exact this
 ·obtain⟨y,_,rfl⟩:=List.mem_map.1 hr;have:(eW y).length<=64:=by unfold eW;exact As (List.length_filter_le _ _) (by simp)
  show _<1000000000000;simp;omega
 ·rw[DP];exact L
def F6{f o u B:Bool}{S:List (BitVec 64)}{b:BitVec 64}(hl:S.length<=5000)(E:K (p64 (if b∈S then((S.idxOf b:Nat):Int)else-1)) M):
  au tab 101 [slR f o Js Jr .i64 (dP S),slI u B .i64 (jA (eW b))] M K:=by
 refine LX T (by simp[dP];omega) (fun r hr=>?_) (by rw[DP];exact E);obtain⟨y,_,rfl⟩:=List.mem_map.1 hr;have:=G9 y;show _<1000000000000;simp;omega
def aIF{f1 o1 f2 o2 f3 o3:Bool}{N:NF}{u:Int}(hc:gF N=0)(B:BnN N)(hu:u<=9000000000000000000)
  (hk:∀m:Nat,((m:Int)<=u\/m=0)->(∀j,j<m->¬(In.n N).done j/\¬(In.n N).je j)->m<=(stK N m).length->(stK N m).length<=4096->(u<=m\/(In.n N).done m)->K (.tuple [CQ Js N.vs (rwK N m) (fnK N m) (dP (stK N m)) [] [],p64 m,.bool Js]) M)
  (b4:∀m:Nat,(m:Int)<u->(∀j,j<m->¬(In.n N).done j/\¬(In.n N).je j)->m<=(stK N m).length->(stK N m).length<=4096->(In.n N).je m->K (.tuple [CQ Js N.vs (rwK N m) (fnK N m) (dP (stK N m)) [] [],p64 m,.bool Jr]) M):
  au tab 54 [.agg (nfC f1 o1 f2 o2 f3 o3 N),p64 u] M K:=by
 have C:=nI hc;have d6:=MD C.st C.n64;have res:∀(k:Nat) (e:PV) (b:Bool),bh e (slR Js Jr Js Jr .i64 (dP (stK N k)))->bh (.tuple [.agg [p64 N.vs,p64 0,slR Js Jr Js Jr .i64 (rwK N k),slB Js Jr (fnK N k),e,.ai,.ai],p64 k,.bool b]) (.tuple [CQ Js N.vs (rwK N k) (fnK N k) (dP (stK N k)) [] [],p64 k,.bool b]):=fun k e b he=>by
  refine bh.tuple rfl fun i y z p q=>?_
  match i,p,q with
  | 0,p,q=>cases p;cases q;exact xE (bh.refl _) (bh.refl _) he (bh.ai _ _ _) (bh.ai _ _ _)
  | 1,p,q=>cases p;cases q;exact bh.refl _
  | 2,p,q=>cases p;cases q;exact bh.refl _
  | i+3,p,q=>simp at p
 refine kR (eC T.h54 (by simp only[PP,simprocAttr,aZ]) ?_);simp only[af54];refine aE (aC ?_);simp only[PP,simprocAttr];refine aE (aC ?_);simp only[PP,simprocAttr];refine lK T (by show _<1000000000000;omega) ?_;simp only[PP,simprocAttr];have b5:dP [gC N]=[N.st]:=by simp[dP,CF C]
 refine cK (GStep.wkO 2 (g:=0) (ver:=1) (cs:=[p64 N.vs,p64 0,.ai,.ai,slR Jr Jr Js Jr .i64 [N.st],.ai,.ai]) (cs2:=[p64 N.vs,p64 0,.ai,.ai,slR Js Jr Js Jr .i64 [N.st],.ai,.ai]) rfl (fun w e2 h=>ak.wkAt (a:=[p64 N.vs,p64 0,.ai,.ai,slR Jr Jr Js Jr .i64 [N.st],.ai,.ai]) (v':=slR Js Jr Js Jr .i64 [N.st]) 4 (bh.sl _ _ _ _) h) rfl) ?_;refine cK (GStep.lh 2 2 1 (g:=0) (ver:=1) (cs:=[p64 N.vs,p64 0,.ai,.ai,slR Js Jr Js Jr .i64 [N.st],.ai,.ai]) rfl rfl rfl) ?_;refine cK (GStep.lh 2 3 1 (g:=0) (ver:=1) (cs:=[p64 N.vs,p64 0,.ref 3 0 1 0 0,.ai,slR Js Jr Js Jr .i64 [N.st],.ai,.ai]) rfl rfl rfl) ?_;refine aC ?_;simp only[PP,simprocAttr];refine nL (fun(k g v:Nat)=>k<=(stK N k).length/\(stK N k).length<=4096/\((k:Int)<=u\/k=0)/\∀j,j<k->¬(In.n N).done j/\¬(In.n N).je j) (fun k g v=>(.aa::p64 u:: .ptr 0 0 0:: .aa:: .ptr 1 0 0:: .aa:: .aa:: .ptr 2 0 0::p64 k::zj 107))
  (fun k g v=>[.cells 0 0 (nfC f1 o1 f2 o2 f3 o3 N),.cells 0 0 [p64 0,p64 0,.ai,.ai,.ai,.ai,.ai],.cells 0 v [p64 N.vs,p64 0,.ref 3 g 1 0 k,.ref 4 g 1 0 k,slR Js Jr Js Jr .i64 (dP (stK N k)),.ai,.ai],.cells g 0 ((rwK N k).map (slI Js Jr .i64)),.cells g 0 ((fnK N k).map PV.bool)])
  (fun k g v=>u.toNat-k) 0 0 1 ⟨by omega,by simp[iI],.inr rfl,fun j h=>absurd h (Ed _)⟩ ?_ (by simp only[PW]) (by rw[show dP (stK N 0)=[N.st]from b5];rfl)
 intro k g v ⟨J,h4,a7,G⟩ ih;have U:(rwK N k).length=k:=pK J;have b6:=BP J;have I:(dP (stK N k)).length=(stK N k).length:=by simp[dP]
 refine aH (by kernel_rfl) ?_;have hfz:uO (Jp (bl.cells g 0 ((fnK N k).map PV.bool))) g 1 0 k=Jp (slB Js Jr (fnK N k)):=by
  rw[gT (by simp;omega) (eK _ _),Ce,cN _ _ (by simp;omega)];simp only[slB,b6]
 have L:uO (Jp (bl.cells g 0 ((rwK N k).map (slI Js Jr .i64)))) g 1 0 k=Jp (slR Js Jr Js Jr .i64 (rwK N k)):=by rw[gT (by simp[U]) (cM _ _ _ _ _),Ce,cN _ _ (by simp[U])];simp only[slR,U]
 by_cases c1:k<(stK N k).length;rotate_left
 ·have V:¬(k:Int)<(stK N k).length:=by omega
  have:=hk k a7 G J h4 (.inr (Nat.not_lt.1 c1));simp only[PP,simprocAttr,I,V,hfz,L];exact⟨_,res k _ Js (by simp only[slR,I];exact bh.refl _),this⟩
 have V:(k:Int)<(stK N k).length:=by omega
 by_cases c2:(k:Int)<u;rotate_left
 ·have:=hk k a7 G J h4 (.inl (by omega));simp only[PP,simprocAttr,I,V,c2,hfz,L];exact⟨_,res k _ Js (by simp only[slR,I];exact bh.refl _),this⟩
 obtain⟨a,ga⟩:=aK c1;have k0:(0:Int)<=k:=by omega
 have wk:=aA (k:=k) (by show _<1000000000000;omega);have e3:=C.oh;simp only[PP,simprocAttr,I,V,c2];refine cK (GStep.nil 10 1 rfl rfl rfl) ?_;simp only[PP,simprocAttr];refine aF5 ?_;refine nL (fun(j O:Nat) (o:List (BitVec 64))=>j<=aS N/\o=gB (aJ N) a j (stK N k)) (fun j O o=>(.aa::p64 u:: .ptr 0 0 0:: .aa:: .ptr 1 0 0:: .aa:: .aa:: .ptr 2 0 0::p64 k::slR Js Jr Js Jr .i64 (dP o):: .ref 5 O 1 0 j::p64 j::zj 104))
  (fun j O o=>[.cells 0 0 (nfC f1 o1 f2 o2 f3 o3 N),.cells 0 0 [p64 0,p64 0,.ai,.ai,.ai,.ai,.ai],.cells 0 v [p64 N.vs,p64 0,.ref 3 g 1 0 k,.ref 4 g 1 0 k,slR Js Jr Js Jr .i64 (dP (stK N k)),.ai,.ai],.cells g 0 ((rwK N k).map (slI Js Jr .i64)),.cells g 0 ((fnK N k).map PV.bool),.cells O 0 ((mF (aJ N) j o a).map p64)])
  (fun j O o=>aS N-j) 0 0 (stK N k) ⟨by omega,rfl⟩ ?_ (by simp only[slR,I,PW]) (by simp[mF])
 intro j O o ⟨e4,Y⟩ a9;refine aH (by kernel_rfl) ?_;simp only[PP,simprocAttr];refine yH T (by have:=C.v0;omega) (by have:=C.v6;omega) ?_;rw[show((2:Int)^N.vs.toNat)=((aS N:Nat):Int) by simp];simp only[PP,simprocAttr];have b7:=KJ (aJ N) a (stK N k) j;rw[<-Y]at b7;have e5:k<o.length:=by
  obtain⟨r,e⟩:=lU (aJ N) a j (stK N k);rw[Y,e];simp;omega
 have E:(dP o).length=o.length:=by simp[dP]
 have Q:(k:Int)<o.length:=by omega
 have Z:(dP o)[k]? =Jp (jA (eW a)):=by obtain⟨r,e⟩:=lU (aJ N) a j (stK N k);unfold dP;rw[Ap,Y,e,Bm c1,ga];rfl
 refine QIf.intro (fun d=>?_) fun d=>?_
 ·have e6:j<aS N:=by omega
  have j0:(0:Int)<=j:=by omega
  have wj:=aA (k:=j) (by show _<1000000000000;omega);have w8:IntKind.u8.wrap (j:Int)=j:=UE (by omega);have e7:(mF (aJ N) j o a).length=j:=by simp[mF]
  simp only[PP,simprocAttr,d,k0,E,Q,Z,w8];refine Q3 T C B (by omega) ?_;simp only[PP,simprocAttr];refine F6 T (by omega) ?_;have b8:∀x,x<j->aJ N a x∈o:=fun x hx=>by rw[Y];exact(oE _ _ _ j _).2 (.inr ⟨x,hx,rfl⟩)
  have b1:(j+1)*8<=140737488355328:=by omega
  have b2:j+1<=9223372036854775807:=by omega
  have b3:j<=(mF (aJ N) j o a).length:=by omega
  have a0:dQ ((mF (aJ N) j o a).map p64) 0 j=(mF (aJ N) j o a).map p64:=cN _ _ (by simp[mF]);have R:∀o',mF (aJ N) (j+1) o' a=mF (aJ N) j o' a++[((o'.idxOf (aJ N a j):Nat):Int)]:=fun o'=>by unfold mF;rw[Fq,Bh];rfl
  by_cases hm:aJ N a j∈o
  ·have e:gB (aJ N) a (j+1) (stK N k)=o:=by show gH _ _=_;rw[<-Y];unfold gH;rw[if_pos hm]
   have:=a9 (j+1) (O+1) o ⟨by omega,e.symm⟩ (by omega);have a1:¬((o.idxOf (aJ N a j):Nat):Int)<0:=by omega
   rw[if_pos hm];simp only[PP,simprocAttr,a1];refine F6 T (by omega) ?_;rw[if_pos hm];simp only[PP,simprocAttr,b1,b2,b3,wj,a0];refine bZ this (by simp only[PW]) ?_;rw[R,Bh];rfl
  ·have e:gB (aJ N) a (j+1) (stK N k)=o++[aJ N a j]:=by show gH _ _=_;rw[<-Y];unfold gH;rw[if_neg hm]
   have:=a9 (j+1) (O+1) (o++[aJ N a j]) ⟨by omega,e.symm⟩ (by omega);have d1:o.length*24<=140737488355328:=by omega
   have d2:o.length<=9223372036854775807:=by omega
   have c1:(o.length+1)*24<=140737488355328:=by omega
   have c2:o.length+1<=9223372036854775807:=by omega
   have c3:o.length<=(dP o).length:=by simp[dP]
   have c0:(-1:Int)<0:=by omega
   have c4:dQ ((dP o).map (slI Js Jr .i64)) 0 o.length=(dP o).map (slI Js Jr .i64):=cN _ _ (by simp[dP]);rw[if_neg hm];have hz:¬o.length=0:=by omega
   simp only[PP,simprocAttr,c0,E,c1,c2,c3,d1,d2,c4,hz];have c5:dP (o++[aJ N a j])=dP o++[jA (eW (aJ N a j))]:=by simp[dP]
   have a2:slI Js Jr .i64 (jA (eW (aJ N a j)))= .sl Js Jr 1 (eW (aJ N a j)).length ((jA (eW (aJ N a j))).map (PV.int .i64)):=by simp only[slI,Ag]
   have b0:(o++[aJ N a j]).idxOf (aJ N a j)=o.length:=by rw[Ff,if_neg hm];simp
   have c6:(dP o).map (slI Js Jr .i64)++[.sl Js Jr 1 (eW (aJ N a j)).length ((jA (eW (aJ N a j))).map (PV.int .i64))]=(dP (o++[aJ N a j])).map (slI Js Jr .i64):=by rw[c5,Bh,Jo,a2]
   rw[c6];refine XL T (o:=o++[aJ N a j]) (ver:=0) rfl (by simp) (by simp;omega) ?_;rw[if_pos (by simp),b0];simp only[PP,simprocAttr,b1,b2,b3,wj,a0];have c7:slR Js Jr Js Jr .i64 (dP (o++[aJ N a j]))= .sl Js Jr 1 (o.length+1) (dQ ((dP (o++[aJ N a j])).map (slI Js Jr .i64)) 0 ((o.length+1)*1)):=by
    rw[Ce,cN _ _ (by simp[dP])];simp[slR,dP]
   refine aG (b:=(.aa::p64 u:: .ptr 0 0 0:: .aa:: .ptr 1 0 0:: .aa:: .aa:: .ptr 2 0 0::p64 k:: .ref 6 1 1 0 (o.length+1):: .ref 5 (O+1) 1 0 (j+1)::p64 ((j+1:Nat):Int)::zj 104)) ?_;refine cK (GStep.freeze (b:=(.aa::p64 u:: .ptr 0 0 0:: .aa:: .ptr 1 0 0:: .aa:: .aa:: .ptr 2 0 0::p64 k::slR Js Jr Js Jr .i64 (dP (o++[aJ N a j])):: .ref 5 (O+1) 1 0 (j+1)::p64 ((j+1:Nat):Int)::zj 104)) 6 (Au _) rfl (by simp only[mX,mY,Ai,Aj,qF,lQ];rw[sZ (by simp[dP]) c7];simp only[mX,mY,Ai,Aj,qF,lQ,oN]) rfl) ?_;refine cK (GStep.drop (b:=(.aa::p64 u:: .ptr 0 0 0:: .aa:: .ptr 1 0 0:: .aa:: .aa:: .ptr 2 0 0::p64 k::slR Js Jr Js Jr .i64 (dP (o++[aJ N a j])):: .ref 5 (O+1) 1 0 (j+1)::p64 ((j+1:Nat):Int)::zj 104)) 6 (Au _) (by simp) (by simp only[PW]) (by simp only[PP,simprocAttr,PV.under]) (by simp only[PP,simprocAttr,fN,aZ,PV.under]) rfl) ?_;refine bZ this (by simp only[PW]) ?_;rw[R,LU b8,b0,Bh];rfl
 ·obtain rfl:j=aS N:=by omega
  have S:o=stK N (k+1):=by rw[Y,show stK N (k+1)=_ from kP ga]
  simp only[PP,simprocAttr,d];refine Gh.step (GStep.freeze (b:=(.aa::p64 u:: .ptr 0 0 0:: .aa:: .ptr 1 0 0:: .aa:: .aa:: .ptr 2 0 0::p64 k::slR Js Jr Js Jr .i64 (dP o):: .sl Js Jr 1 (aS N) ((mF (aJ N) (aS N) o a).map p64)::zj 105)) 5 (Au _) rfl (by simp only[mX,mY,Ai,Aj,oN,qF,lQ,sZ,Ce,Bg,Ag,v8,Ab,cN _ _ (XK (aJ N) (aS N) o a)]) rfl) (Gh.same ?_);simp only[PP,simprocAttr,E];refine QIf.intro (fun e=>?_) fun e=>?_
  ·have hF:(In.n N).je k:=⟨c1,by rw[<-S];omega⟩;have:=b4 k c2 G J h4 hF;simp only[PP,simprocAttr,hfz,L];exact⟨_,res k _ Jr (bh.refl _),this⟩
  simp only[PP,simprocAttr,E,Q];refine⟨⟨by omega,by omega,by omega⟩,?_⟩;rw[cN _ _ (by simp[U])];have e0:=MD C.fi C.n64;refine iN (fun(i:Nat) (f:Bool)=>i<=N.fi.length/\f=(N.fi.take i).any fun q=>a.getLsbD q.toNat) (fun i f=>(.aa::p64 u:: .ptr 0 0 0:: .aa:: .ptr 1 0 0:: .aa:: .aa:: .ptr 2 0 0::p64 k::slR Js Jr Js Jr .i64 (dP o)::zj 3++ .bool f::p64 i::zj 101))
   (fun i f=>[.cells 0 0 (nfC f1 o1 f2 o2 f3 o3 N),.cells 0 0 [p64 0,p64 0,.ai,.ai,.ai,.ai,.ai],.cells 0 (v+1+1) [p64 N.vs,p64 0,.ref 3 (g+1) 1 0 (k+1),.ref 4 g 1 0 k,slR Js Jr Js Jr .i64 (dP o),.ai,.ai],.cells (g+1) 0 ((rwK N k).map (slI Js Jr .i64)++[.sl Js Jr 1 (aS N) ((mF (aJ N) (aS N) o a).map p64)]),.cells g 0 ((fnK N k).map PV.bool),.gone])
   (fun i f=>N.fi.length-i) 0 Js ⟨by omega,by simp⟩ ?_ (by simp only[slR,E,PW]) (by simp only[slR,E])
  intro i f ⟨e8,hf⟩ c8;refine aH (by kernel_rfl) ?_;simp only[PP,simprocAttr];refine QIf.intro (fun q=>?_) fun q=>?_
  ·have hi:i<N.fi.length:=by omega
   obtain⟨x,gx⟩:=aK hi;have x0:=(m9 C.fi x (Af gx)).1;have i0:(0:Int)<=i:=by omega
   have wi:=aA (k:=i) (by show _<1000000000000;omega);have c9:((N.fi.take (i+1)).any fun q=>a.getLsbD q.toNat)=(((N.fi.take i).any fun q=>a.getLsbD q.toNat)||a.getLsbD x.toNat):=by
    rw[Bx,gx,Jb];simp
   have:=c8 (i+1) (f||a.getLsbD x.toNat) ⟨by omega,by rw[c9,hf]⟩ (by omega)
   cases f with
   | true=>rw[Bool.true_or]at this;simp only[PP,simprocAttr,q,wi];exact aG this
   | false=>rw[Bool.false_or]at this;simp only[PP,simprocAttr,q,wi,k0,E,Q,Z,i0,gx];refine DH T (by simp;show _<1000000000000;exact Nat.lt_of_le_of_lt (G9 a) (by decide)) ?_;rw[M9 x0];simp only[PP,simprocAttr,wi];exact aG this
  ·obtain rfl:i=N.fi.length:=by omega
   rw[Ct]at hf;have hf:f=E1 N a:=hf;subst hf;have d0:(k+1)*1<=140737488355328:=by omega
   have a3:k+1<=140737488355328:=by omega
   have d4:k+1<=9223372036854775807:=by omega
   have d5:k<=(fnK N k).length:=by omega
   simp only[PP,simprocAttr,q,wk,d0,a3,d4,d5];rw[cN _ _ (by simp;omega)];have a4:rwK N (k+1)=rwK N k++[mF (aJ N) (aS N) o a]:=by rw[Y];exact uG ga
   have a5:=OI ga;have a6:slI Js Jr .i64 (mF (aJ N) (aS N) o a)= .sl Js Jr 1 (aS N) ((mF (aJ N) (aS N) o a).map p64):=by simp only[slI,v8]
   refine cK (GStep.drop (b:=(.aa::p64 u:: .ptr 0 0 0:: .aa:: .ptr 1 0 0:: .aa:: .aa:: .ptr 2 0 0::p64 ((k+1:Nat):Int)::zj 107)) 5 (Au _) (by simp) (by simp only[PW]) (by simp only[PP,simprocAttr,PV.under]) (by simp only[PP,simprocAttr,fN,aZ,PV.under]) rfl) ?_;refine bZ (ih (k+1) (g+1) (v+1+1+1) ⟨by rw[<-S];omega,by rw[<-S];omega,.inl (by omega),fun j hj=>?_⟩ (by omega)) (by simp only[PW]) ?_
   ·by_cases q:j<k
    ·exact G j q
    ·obtain rfl:j=k:=by omega
     exact⟨fun h=>by have h:(stK N j).length<=j:=h;omega,fun h=>by have h:4096<(stK N (j+1)).length:=h.2;rw[<-S]at h;omega⟩
   ·rw[<-S,a4,a5,Bh,Bh,Jo,Jo,a6];rfl
omit T in
def K2{ow pr:List Int}{u:List Ms}(y:im (aY pr) ow.length u):rP ow.length (Nf (aY pr) u)<=ow.length*mT (aY pr):=BB y.bnd
def GE{R S U Y f3 Z f4 o4:Bool}{ow pr:List Int}{su:List (List Int)}{n:Int}(V:Valid ow pr su)(B:Bnd ow pr su)(ho:∀x∈ow,0<=x)(a5:ow.length*mT (aY pr)<=4000000000000000000)(hn: -1<=n)(a7:n<=9223372036854775807)
  (hk:∀u b,im (aY pr) ow.length u->LI ow.length (mT (aY pr)) (gL ow pr su) (Nf (aY pr) u)->(b=Jr↔rS ow.length (gL ow pr su) (Nf (aY pr) u))->(0<=n->Nf (aY pr) u=itN ow.length (gL ow pr su) n.toNat)->(n<0->b=Jr)->K (.tuple [slM Js Jr u,.bool b]) M):
  au tab 56 [gmP R S U Y f3 Z f4 o4 ow pr su,p64 n] M K:=by
 have n0:=V.n0;have n1:=V.n1;have hL:=tC V;have b0:(0:Int)<=ow.length:=by omega
 have a3:(ow.length:Int)*72<=140737488355328:=by omega
 have b2:(ow.length:Int)<=9223372036854775807:=by omega
 refine aB T.h56 (by simp only[PP,simprocAttr,PN,PV.under]) ?_;simp only[af56,PP,simprocAttr,PN,b0,a3,b2,Dw];have O:∀(ver:Nat) (u:List Ms),im (aY pr) ow.length u->∀l:List PV,aD 0 l=Jr->jf [.cells 0 0 [slI R S .u8 ow,slI U Y .i64 pr,slR f3 Z f4 o4 .i64 su],.cells 0 ver (msL u)] (gmP R S U Y f3 Z f4 o4 ow pr su:: .ref 1 0 9 0 ow.length::l) (gmP R S U Y f3 Z f4 o4 ow pr su::slM Jr Js u::l):=fun ver u E l hl=>by
  have rest:∀l:List PV,aD 0 l=Jr->jf [.cells 0 0 [slI R S .u8 ow,slI U Y .i64 pr,slR f3 Z f4 o4 .i64 su],.cells 0 ver (msL u)] l l:=by
   intro l
   induction l with
   | nil=>intro _;exact .nil
   | cons x l ih=>intro h;rw[jG,Aw]at h;exact .same h.1 (ih h.2)
  refine .same (by simp only[PP,simprocAttr]) ?_;rw[<-E.l];exact .ref rfl (by rw[mV];omega) (gZ _ _) (kJ u) (rest l hl)
 refine nL (fun(j ver:Nat) (u:List Ms)=>im (aY pr) ow.length u/\Nf (aY pr) u=itN ow.length (gL ow pr su) j/\j<=rP ow.length (Nf (aY pr) u)/\(0<=n->(j:Int)<=n))
  (fun j ver u=>(.aa::p64 n:: .ptr 0 0 0::zj 3++ .ref 1 0 9 0 ow.length::p64 j::zj 28))
  (fun j ver u=>[.cells 0 0 [slI R S .u8 ow,slI U Y .i64 pr,slR f3 Z f4 o4 .i64 su],.cells 0 ver (msL u)]) (fun j _ u=>ow.length*mT (aY pr)-rP ow.length (Nf (aY pr) u)) 0 0 (Ae ow.length mz) ⟨im.zero (lZ pr) _,WI _ _,Au _,fun h=>h⟩ ?_
 intro j ver u ⟨E,hN,hj,a1⟩ ih;have I:=E.l;have a6:=K2 (ow:=ow) E;have hI:LI ow.length (mT (aY pr)) (gL ow pr su) (Nf (aY pr) u):=by rw[hN];exact JF hL j
 have jb:j<=4000000000000000000:=by omega
 refine aH (by kernel_rfl) ?_;simp only[PP,simprocAttr];refine QIf.intro (fun c=>?_) fun c=>?_
 ·simp only[PP,simprocAttr,c];have L:n=(j:Int):=by omega
  refine mE (O ver u E [] rfl) (zH T V B ho E (fun v q=>⟨rfl,?_⟩) fun q=>⟨rfl,?_⟩)
  ·have G:¬(v:Int)<0:=by omega
   simp only[PP,simprocAttr,PN,G,OD I];refine hk u Js E hI ⟨fun h=>(by cases h),fun h=>?_⟩ (fun _=>by rw[hN,L];rfl) (fun h=>by omega);have:=h v q.1;have:=q.2.1;omega
  ·simp only[PP,simprocAttr,PN,OD I];exact hk u Jr E hI ⟨fun _=>q,fun _=>rfl⟩ (fun _=>by rw[hN,L];rfl) fun h=>rfl
 ·have a4:IntKind.i64.wrap ((j:Int)+1)=((j+1:Nat):Int):=by rw[wrap64 (x:=(j:Int)+1) (by omega) (by omega)];omega
  simp only[PP,simprocAttr,c];refine mE (O ver u E [] rfl) (zH T V B ho E (fun v q=>⟨rfl,?_⟩) fun q=>⟨rfl,?_⟩)
  ·have G:¬(v:Int)<0:=by omega
   have v0:(0:Int)<=v:=by omega
   have hv:=q.1;have vn:(v:Int)<ow.length:=by omega
   have v9:v*9+9<=ow.length*9:=by omega
   have vl:v<u.length:=by omega
   simp only[PP,simprocAttr,PN,G];refine mE (O ver u E [p64 v] (by simp only[PP,simprocAttr])) (F5 T V B ho E hv fun y y1 y2=>⟨by simp only[PV.flat,PV.mw,sJ],?_⟩);have a0:=xX (l:=u) y vl;simp only[PP,simprocAttr,PN,v0,vn,v9,I,a0,a4];have a9:=vR (n:=ow.length) (m:=Nf (aY pr) u) (v:=v) (x:=gL ow pr su (Nf (aY pr) u) v) hv q.2.1;have a2:=E.set (k:=v) y1;have Q:=K2 (ow:=ow) a2;have J:Nf (aY pr) (u.set v y)=oY (Nf (aY pr) u) v (gL ow pr su (Nf (aY pr) u) v):=by rw[T5 vl,y2]
   rw[J]at Q;refine aG (ih (j+1) (ver+1) (u.set v y) ⟨a2,?_,by rw[J];omega,fun h=>by have:=a1 h;omega⟩ (by rw[J];omega));show _=uF ow.length (gL ow pr su) (itN ow.length (gL ow pr su) j);rw[J,hN,qK (by rw[<-hN];exact q)]
  ·simp only[PP,simprocAttr,PN,OD I];refine hk u Jr E hI ⟨fun _=>q,fun _=>rfl⟩ (fun h=>?_) fun h=>rfl;rw[hN]at q ⊢;obtain⟨d,hd⟩:∃d,n.toNat=j+d:=⟨n.toNat-j,by have:=a1 h;omega⟩;rw[hd,JG q]
end
def aGp(i:In)(u:Int)(M:Mem)(K:PV->Mem->Prop):Prop:=
 ∀m:Nat,((m:Int)<=u\/m=0)->(∀j,j<m->¬i.done j/\¬i.je j)->∀r,i.rp m r->∀b fl:Bool,(b=Jr↔i.done m)->(fl=Jr->i.je m)->(fl=Js->u<=m\/i.done m)->K (.tuple [r.pv,p64 m,.bool b,.bool fl]) M
def aGH{ow pr:List Int}{su:List (List Int)}(V:Valid ow pr su)(h:ow.length<=99):ow.length*mT (aY pr)<=4000000000000000000:=by
 have h2:mT (aY pr)<=100^8:=by
  have:=aB2 99 (ns:=aY pr) fun n u=>by have:=VE pr n u;have:=V.p;omega
  rw[lZ]at this;exact this
 have h3:=Gn h h2;have B:99*100^8<=4000000000000000000:=by decide
 omega
section
variable {tab:FuncId->Option AF} (T:HasA tab){M:Mem}{K:PV->Mem->Prop}
include T
def aEz{f o:Bool}{N:NF}{u I:Int}(J:gF N=0)(B:BnN N)(L:u<=9000000000000000000)(G:aGp (.n N) u M K):au tab 19 [.agg (jbN f o N I),p64 u] M K:=by
 refine eC T.h19 (by simp only[PP,simprocAttr,aZ]) ?_;simp only[af19];refine aC ?_;simp only[PP,simprocAttr];refine aIF T J B L (fun m h1 h2 h3 y E=>?_) fun m h1 h2 h3 y E=>?_
 ·have:=G m h1 h2 ⟨N.vs,rwK N m,fnK N m,dP (stK N m),[],[]⟩ ⟨rfl,h3,y⟩ (decide ((m:Int)=(dP (stK N m)).length)) Js (by rw[decide_eq_true_eq];show _↔(stK N m).length<=m;simp[dP];omega) (fun h=>by cases h) fun _=>E;simp only[PP,simprocAttr,PN];exact this
 ·have:=G m (.inl (by omega)) h2 ⟨N.vs,rwK N m,fnK N m,dP (stK N m),[],[]⟩ ⟨rfl,h3,y⟩ (decide ((m:Int)=(dP (stK N m)).length)) Jr (by
   rw[decide_eq_true_eq];show _↔(stK N m).length<=m;simp[dP];omega) (fun _=>E) (fun h=>by cases h)
  simp only[PP,simprocAttr,PN];exact this
def aEA{f o:Bool}{D:DF}{u L:Int}(I:fE D=0)(B:BnD D)(O:aGp (.d D) u M K):au tab 19 [.agg (jbD f o D L),p64 u] M K:=by
 have Y:=(gm.1 I).n1;have J:∀k,(bF D k).length<big:=fun k=>by rw[fF];show _<1000000000000;omega
 refine kR (eC T.h19 (by simp only[PP,simprocAttr,aZ]) ?_);simp only[af19];refine aC ?_;simp only[PP,simprocAttr];refine F2 (k:=0) T I B ?_;simp only[PP,simprocAttr];have res:∀(m:Nat) (b:Bool),bh (.tuple [.agg [p64 0,p64 0,.ai,.ai,.ai,slI Js Jr .i64 (bF D m),.ai],p64 m,.bool b,.bool Js]) (.tuple [Res.pv ⟨0,[],[],[],bF D m,[]⟩,p64 m,.bool b,.bool Js]):=fun m b=>by
  refine bh.tuple rfl fun i y z p q=>?_
  match i,p,q with
  | 0,p,q=>cases p;cases q;exact xE (bh.ai _ _ _) (bh.ai _ _ _) (bh.ai _ _ _) (bh.refl _) (bh.ai _ _ _)
  | 1,p,q=>cases p;cases q;exact bh.refl _
  | 2,p,q=>cases p;cases q;exact bh.refl _
  | 3,p,q=>cases p;cases q;exact bh.refl _
  | i+4,p,q=>simp at p
 refine fT (fun(n:Nat)=>((n:Int)<=u\/n=0)/\∀j,j<n->bF D (j+1)≠bF D j) (fun n=>(.aa::p64 u:: .ptr 0 0 0:: .aa:: .ptr 1 0 0::zj 6++p64 n::slI Js Jr .i64 (bF D n)::zj 83)) (fun n=>[.cells 0 0 (jbD f o D L),.cells 0 0 [p64 0,p64 0,.ai,.ai,.ai,.ai,.ai]]) (fun n=>D.nx.length-n) 0 ⟨.inr rfl,fun j h=>absurd h (Ed _)⟩ ?_;intro n ⟨Q,G⟩ U;have V:=Q5 G;refine aH (by kernel_rfl) ?_;have R:=aA (k:=n) (by show _<1000000000000;omega);simp only[PP,simprocAttr,R];refine F2 (k:=n+1) T I B ?_;simp only[PP,simprocAttr];refine nD T (J n) ?_;have pre:∀j,j<n->¬(In.d D).done j/\¬(In.d D).je j:=fun j S=>⟨G j S,fun q=>q⟩;by_cases e:bF D n=bF D (n+1)
 ·have:=O n Q pre ⟨0,[],[],[],bF D n,[]⟩ rfl Jr Js ⟨fun _=>e.symm,fun _=>rfl⟩ (fun h=>by cases h) fun _=> .inr e.symm;simp only[PP,simprocAttr,e];rw[<-e];exact⟨_,res n Jr,this⟩
 ·simp only[PP,simprocAttr,e];refine QIf.intro (fun c=>?_) fun c=>?_
  ·have:=O n Q pre ⟨0,[],[],[],bF D n,[]⟩ rfl Js Js ⟨(fun h=>by cases h),fun h=>absurd h.symm e⟩ (fun h=>by cases h) fun _=> .inl c;simp only[PP,simprocAttr,c];exact⟨_,res n Js,this⟩
  ·have E:∀j,j<n+1->bF D (j+1)≠bF D j:=fun j S=>by
    by_cases q:j<n
    ·exact G j q
    ·obtain rfl:j=n:=by omega
     exact fun h=>e h.symm
   have:=Q5 E;simp only[PP,simprocAttr,c,R];exact aG (U (n+1) ⟨.inl (by omega),E⟩ (by omega))
def aEy{f o:Bool}{ow pr:List Int}{su:List (List Int)}{u Y:Int}(hc:eF ow pr su=0)(B:Bnd ow pr su)(Z:∀x∈ow,0<=x)(J:ow.length<=99)(hu:u<=9000000000000000000)(hk:aGp (.g ow pr su) u M K):au tab 19 [.agg (jbG f o ow pr su Y),p64 u] M K:=by
 have V:=jB hc;refine kR (eC T.h19 (by simp only[PP,simprocAttr,aZ]) ?_);simp only[af19];refine aC ?_;simp only[PP,simprocAttr];have res:∀(m:Nat) (E:List Ms) (b:Bool),bh (.tuple [.agg [p64 0,p64 0,.ai,.ai,.ai,.ai,slM Js Jr E],p64 m,.bool b,.bool Js]) (.tuple [Res.pv ⟨0,[],[],[],[],E⟩,p64 m,.bool b,.bool Js]):=fun m E b=>by
  refine bh.tuple rfl fun i y z p q=>?_
  match i,p,q with
  | 0,p,q=>cases p;cases q;exact xE (bh.ai _ _ _) (bh.ai _ _ _) (bh.ai _ _ _) (bh.ai _ _ _) (bh.refl _)
  | 1,p,q=>cases p;cases q;exact bh.refl _
  | 2,p,q=>cases p;cases q;exact bh.refl _
  | 3,p,q=>cases p;cases q;exact bh.refl _
  | i+4,p,q=>simp at p
 refine fT (fun(n:Nat)=>((n:Int)<=u\/n=0)/\∀j,j<n->¬(In.g ow pr su).done j) (fun n=>(.aa::p64 u:: .ptr 0 0 0:: .aa:: .ptr 1 0 0::zj 11++p64 n::zj 79)) (fun n=>[.cells 0 0 (jbG f o ow pr su Y),.cells 0 0 [p64 0,p64 0,.ai,.ai,.ai,.ai,.ai]]) (fun n=>u.toNat-n) 0 ⟨.inr rfl,fun j h=>absurd h (Ed _)⟩ ?_;intro n ⟨hn,L⟩ ih;have pre:∀j,j<n->¬(In.g ow pr su).done j/\¬(In.g ow pr su).je j:=fun j hj=>⟨L j hj,fun q=>q⟩;have a0:(n:Int)<=9000000000000000000:=by omega
 refine aH (by kernel_rfl) ?_;simp only[PP,simprocAttr,PN];have fin:(u<=n\/(In.g ow pr su).done n)->∀(E:List Ms) (b:Bool),im (aY pr) ow.length E->(b=Jr↔rS ow.length (gL ow pr su) (Nf (aY pr) E))->Nf (aY pr) E=itN ow.length (gL ow pr su) n->K (.tuple [Res.pv ⟨0,[],[],[],[],E⟩,p64 n,.bool b,.bool Js]) M:=fun R E b Q hb G=>
  hk n hn pre ⟨0,[],[],[],[],E⟩ ⟨E,rfl,Q,G⟩ b Js (by rw[hb,G];exact Iff.rfl) (fun h=>by cases h) fun _=>R
 have n0:(0:Int)<=n:=by omega
 have I:(u<=n\/(In.g ow pr su).done n)->∀{S:Mem} {U:PV->Mem->Prop},(∀(E:List Ms) (b:Bool),(∃r',bh (.tuple [.agg [p64 0,p64 0,.ai,.ai,.ai,.ai,slM Js Jr E],p64 n,.bool b,.bool Js]) r'/\K r' M)->U (.tuple [slM Js Jr E,.bool b]) S)->au tab 56 [gmP f o f o f o f o ow pr su,p64 n] S U:=fun R {S U} O=>
  GE T V B Z (aGH V J) (by omega) (by omega) fun E b Q hI hb G _=>O E b ⟨_,res n E b,fin R E b Q hb (by have:=G n0;simpa using this)⟩
 refine QIf.intro (fun c=>?_) fun c=>?_
 ·simp only[PP,simprocAttr,PN,c];refine GE T V B Z (aGH V J) (by omega) (by omega) fun E b Q hI hb G _=>?_;have G:=G n0;rw[Bq]at G;have hd:b=Jr↔(In.g ow pr su).done n:=by rw[hb,G];exact Iff.rfl
  cases b with
  | true=>simp only[PP,simprocAttr,PN];refine I (.inr (hd.1 rfl)) fun E b O=>?_;simp only[PP,simprocAttr,PN];exact O
  | false=>
   have wn:IntKind.i64.wrap ((n:Int)+1)=((n+1:Nat):Int):=by rw[wrap64 (x:=(n:Int)+1) (by omega) (by omega)];omega
   simp only[PP,simprocAttr,PN,wn];exact aG (ih (n+1) ⟨.inl (by omega),fun j hj=>by
    by_cases q:j<n
    ·exact L j q
    ·obtain rfl:j=n:=by omega
     exact fun h=>by have:=hd.2 h;cases this⟩ (by omega)) (by simp only[PW])
 ·simp only[PP,simprocAttr,PN,c];refine I (.inl (by omega)) fun E b O=>?_;simp only[PP,simprocAttr,PN];exact O
end
end Go.Am.Ar
--P14
namespace Go.Am.Ar
open Go.Am.PV renaming aa->Zj
open Go.Am renaming jc->P1,lg->P2,kq->P3,ep->P4,bl.under->P5,fy->P6,dr->P7,bf->P8,pev->P9,iw->P10,bd->P11,jl->P12,dw->P13,fY->P14,AO.effect->P15
open List renaming replicate->L1
section
variable {tab:FuncId->Option AF} (T:HasA tab){M:Mem}{K:PV->Mem->Prop}
include T
end
end Go.Am.Ar
--P14
namespace Go.Am.Ar
open Go.Am.PV renaming aa->Zj
open Go.Am renaming jc->P1,lg->P2,kq->P3,ep->P4,bl.under->P5,fy->P6,dr->P7,bf->P8,pev->P9,iw->P10,bd->P11,jl->P12,dw->P13,fY->P14,AO.effect->P15
open List renaming replicate->L1
def jbI(f o:Bool)(i:In)(u:Int):List PV:=match i with
 | .n N=>jbN f o N u
 | .d D=>jbD f o D u
 | .g ow pr su=>jbG f o ow pr su u
section
variable {tab:FuncId->Option AF} (T:HasA tab){M:Mem}{K:PV->Mem->Prop}
include T
def aAZ{f o:Bool}{i:In}{u:Int}(y:i.Bw)(B:K (p64 i.chk) M):au tab 12 [.agg (jbI f o i u)] M K:=by
 cases i with
 | n N=>refine aB T.h12 (by simp only[jbI,PP,P14,simprocAttr,aZ]) ?_;simp only[af12,jbI,PP,P14,simprocAttr];refine aCS T y ?_;simp only[PP,P14,simprocAttr];exact B
 | d D=>refine aB T.h12 (by simp only[jbI,PP,P14,simprocAttr,aZ]) ?_;simp only[af12,jbI,PP,P14,simprocAttr];refine GC T y ?_;simp only[PP,P14,simprocAttr];exact B
 | g ow pr su=>refine aB T.h12 (by simp only[jbI,PP,P14,simprocAttr,aZ]) ?_;simp only[af12,jbI,PP,P14,simprocAttr];refine Q8 T y ?_;simp only[PP,P14,simprocAttr];exact B
def aA0{f o:Bool}{i:In}{u I:Int}(B:i.chk=0)(y:i.Bn)(J:i.Pos)(G:u<=9000000000000000000)(E:aGp i u M K):au tab 19 [.agg (jbI f o i I),p64 u] M K:=by
 cases i with
 | n N=>exact aEz T B y G E
 | d D=>exact aEA T B y.1 E
 | g ow pr su=>exact aEy T B y.1 J y.2 G E
def aHb{f o:Bool}{i:In}{u:Nat}(y:i.chk=0)(B:i.Bn)(I:i.Pos)(E:u<=2147483647)(G:K (.str (i.mn u)) M):au tab 24 [.agg (jbI f o i u)] M K:=by
 have hs:=In.ls y B I;have hl:=In.lu y
 cases i with
 | n N=>exact aEq T hs E (by omega) G
 | d D=>exact aEr T hs E (by omega) (by have:=B.2;omega) G
 | g ow pr su=>exact aEp T hs E (by omega) (by have:=B.2;have:=(jB y).s;omega) G
end
end Go.Am.Ar
--P14
namespace Go.Am.Ar
open Go.Am.PV renaming aa->Zj
open Go.Am renaming jc->P1,lg->P2,kq->P3,ep->P4,bl.under->P5,fy->P6,dr->P7,bf->P8,pev->P9,iw->P10,bd->P11,jl->P12,dw->P13,fY->P14,AO.effect->P15
open List renaming replicate->L1
section
variable {tab:FuncId->Option AF} (T:HasA tab){M:Mem}{K:PV->Mem->Prop}
include T
def NW{f o:Bool}{i:In}{u:Int}(B:K (.agg (jbI f o i u)) M):au tab 13 [.agg (i.cs f o),p64 u] M K:=by
 have hw:IntKind.i64.wrap (i.k+1)=i.k+1:=by cases i<;>rfl
 have hf:∀(E:Mem) (y:List Eg),gD 0 E (slE f o y)=Jp (slE f o y):=fun E y=>by unfold gD;simp only[aZ,if_true]
 have e:([p64 (i.k+1),p64 i.N.vs,p64 i.N.n,slI f o .i64 i.N.st,slI f o .i64 i.N.fi,slE f o i.N.es,p64 i.D.vs,p64 i.D.st,slR f o f o .i64 i.D.nx,slB f o i.D.fi,slI f o .u8 i.ow,slI f o .i64 i.pr,slR f o f o .i64 i.su,p64 u]:List PV)=jbI f o i u:=by cases i<;>rfl
 refine aB T.h13 (by simp only[In.cs,csC,PP,P14,simprocAttr,aZ]) ?_;simp only[af13,In.cs,csC,PP,P14,simprocAttr,hw,hf];rw[<-e]at B;exact B
end
def aGN{n:Nat}{l:List PV}(h:aD n l=Jr):aD n (l.map yjV)=Jr:=(fW n _).2 fun v hv=>by
 obtain⟨u,y,rfl⟩:=List.mem_map.1 hv;unfold yjV;split
 ·exact(fW n l).1 h u y
 ·rfl
def aBW{n:Nat}{o:bl}(h:aI n o=Jr):aI n (rR o)=Jr:=by
 cases o with
 | cells g v cs=>exact aGN h
 | map v u=>
  show aI n (if u.all (fun p=>ygV p.1&&ygV p.2)=Jr then .map v u else .gone)=Jr;by_cases c:u.all (fun p=>ygV p.1&&ygV p.2)=Jr
  ·rw[if_pos c];exact h
  ·rw[if_neg c];rfl
 | gone=>rfl
 | loop v r=>rfl
def YL{n:Nat}{A:Mem}(h:A.all (aI n)=Jr):(A.map rR).all (aI n)=Jr:=by rw[Cb]at*;intro o u;obtain⟨p,y,rfl⟩:=List.mem_map.1 u;exact aBW (h p y)
def aCf(n:Nat)(l:List PV):aD n (l.map fun _=>PV.aa)=Jr:=(fW n _).2 fun v hv=>by obtain⟨_,_,rfl⟩:=List.mem_map.1 hv;rfl
def aIu{K:FuncId->Option AF}{i:In}{M b L:Nat}{StF:Mem->Nat->Mem->Prop}{I E X Z:Mem}{O Q:Nat}{y R u:List PV}
  (J:pt K M b L i StF) (hb:I.length=b) (B:I.all (aI b)=Jr) (V:StF I 0 E) (S:I=[.cells 0 O R,.cells 0 Q u]++X) (Y:E=I++Z) (hz:Z.map rR=Z) (T:∀n,aD n y=Jr):
  At K i M b L StF 0 (I9 y E)/\(I9 y E)[0]? =Jp (.cells 0 O y)/\(I9 y E)[1]? =Jp (.cells 0 Q (u.map fun _=>Zj))/\jq (I9 y E):=by
 have e:I9 y E=(.cells 0 O y:: .cells 0 Q (u.map fun _=>PV.aa)::X.map rR)++Z:=by rw[Y,S];show _::_::(X++Z).map rR=_;rw[Bh,hz];rfl
 have hl:(bl.cells 0 O y:: .cells 0 Q (u.map fun _=>PV.aa)::X.map rR).length=b:=by rw[<-hb,S];simp
 have U:(bl.cells 0 O y:: .cells 0 Q (u.map fun _=>PV.aa)::X.map rR:Mem).all (aI b)=Jr:=by rw[S,Cl,Aw]at B;rw[Cv,Cv,YL B.2];show(aD b y&&(aD b (u.map fun _=>PV.aa)&&Jr))=Jr;rw[T,aCf];rfl
 rw[Y]at V;have G:=J.bas I _ 0 Z hb hl V;refine⟨⟨J,_,Z,[],by rw[e,Ao],hl,U,G⟩,by rw[e];rfl,by rw[e];rfl,?_⟩;have hL:=(J.X _ hl U).len _ _ G;have hC:=(J.X _ hl U).cut _ _ G;unfold jq;rw[e,hL];exact hC
def aDz{L:Rec}{x y z:AC}{a:List AV}{h:H}{u B:List AV->H->Prop}{E:Nat->List AV->H->Prop} :W L (.seq x (.seq y z)) a h u B E=W L (.seq (.seq x y) z) a h u B E:=by rw[eX,eX,eX];congr 1;funext G h1;rw[cQ,cQ,eX]
def aDy{L:Rec}{x y y':AC}{a:List AV}{h:H}{u B:List AV->H->Prop}{E:Nat->List AV->H->Prop}(he:∀G h1,W L y G h1 u B E=W L y' G h1 u B E):W L (.seq x y) a h u B E=W L (.seq x y') a h u B E:=by rw[eX,eX];congr 1;funext G h1;rw[cQ,cQ,he]
section
variable {tab:FuncId->Option AF} {a:List PV} {M:Mem} {Qn Qr:List PV->Mem->Prop} {Qe:Nat->List PV->Mem->Prop}
def aFY{u y B E G z:AC}(h:lB tab (.seq (.seq u y) (.seq (.seq B (.seq E G)) z)) a M Qn Qr Qe):lB tab (.seq u (.seq y (.seq B (.seq E (.seq G z))))) a M Qn Qr Qe:=by
 intro w hh I s J;have:=h w hh I s J;rw[aDz];rw[aDy (x:= .seq u y) (y':= .seq (.seq B (.seq E G)) z) fun L h1=>?_]
 ·exact this
 ·rw[<-aDz];exact aDy fun O h2=>aDz
end
def aB0:∀u:List Nat,mT u<=2^u.sum
 | []=>by simp[mT]
 | n::u=>by have h1:=aB0 u;have h2:n+1<=2^n:=Nat.lt_two_pow_self;show(n+1)*mT u<=_;rw[List.sum_cons,Nat.pow_add];exact Gn h2 h1
def aJh(x:Int):(if(x==1)=Jr then 1 else 0)+(if(x==3)=Jr then 1 else 0)+(if(x==5)=Jr then 1 else 0)+(if(x==7)=Jr then 1 else 0)+(if(x==9)=Jr then 1 else 0)+(if(x==11)=Jr then 1 else 0)+(if(x==13)=Jr then 1 else 0)+(if(x==15)=Jr then 1 else 0)<=1:=by
 simp only[beq_iff_eq];by_cases h1:x=1
 ·subst h1;decide
 by_cases h2:x=3
 ·subst h2;decide
 by_cases h3:x=5
 ·subst h3;decide
 by_cases u:x=7
 ·subst u;decide
 by_cases y:x=9
 ·subst y;decide
 by_cases B:x=11
 ·subst B;decide
 by_cases E:x=13
 ·subst E;decide
 by_cases G:x=15
 ·subst G;decide
 simp[h1,h2,h3,u,y,B,E,G]
def aI4:∀pr:List Int,pr.count 1+pr.count 3+pr.count 5+pr.count 7+pr.count 9+pr.count 11+pr.count 13+pr.count 15<=pr.length
 | []=>by simp
 | x::pr=>by have h1:=aI4 pr;have h2:=aJh x;simp only[List.count_cons,Ak];omega
def aB8(pr:List Int):(aY pr).sum<=pr.length:=by
 have e:(aY pr).sum=pr.count 1+pr.count 3+pr.count 5+pr.count 7+pr.count 9+pr.count 11+pr.count 13+pr.count 15:=by
  have u:Ba 8=[0,1,2,3,4,5,6,7]:=by decide
  simp[aY,fX,u];omega
 rw[e];exact aI4 pr
def In.pq{i:In}(h0:i.chk=0)(y:i.Bn)(B:i.few)(u:i.four){m:Nat}(h:∀j,j<=m->¬i.done j):m<100000:=by
 cases i with
 | n N=>
  have h1:=aAK (nI h0) m;have h3:N.n.toNat<=12:=by have:N.n<=12:=B;omega
  have u:=Ho (n:=2) (by omega) h3;have E:¬(stK N m).length<=m:=h m (Ab _);omega
 | d D=>
  rcases Du D.nx.length with q | q
  ·have e:bF D (0+1)=bF D 0:=by rw[List.length_eq_zero_iff.1 ((fF D 0).trans q),List.length_eq_zero_iff.1 ((fF D (0+1)).trans q)]
   exact absurd e (h 0 (Au _))
  ·have h1:=CN q (m:=m) fun j G=>h j (by omega);have:=y.2;omega
 | g ow pr su=>
  have V:=jB h0;have u:ow.length<=4:=u;have h1:=VK (n:=ow.length) (L:=gL ow pr su) (m:=m) fun j G=>h j (by omega);have h2:=BB (n:=ow.length) (m:=itN ow.length (gL ow pr su) m) (JF (tC V) m).bnd;have h3:mT (aY pr)<=16:=by
   have a:=aB0 (aY pr);have b:=aB8 pr;have c:=V.p;have d:=Ho (n:=2) (by omega) (show(aY pr).sum<=4 by omega);omega
  have E:=Gn u h3;omega
section
variable {tab:FuncId->Option AF} (T:HasA tab){M:Mem}{K:PV->Mem->Prop}
include T
def MS{w:PWd}{h h1:H}(hw:∀b o,w.imm b=Jp o->b<h.next){f:Bool}{u:List Int}{v:AV}(hr:az w (slI f Jr .u8 u) v)(hm:u.length<big)(J:Ov3 w h h1){Q:AV->H->Prop}(V:∀h2,Ov3 w h h2->Kp w h1 h2->Q (.tuple []) h2):
  C (lim tab) 50 [v] h1 Q:=by
 have G:cS 12 [0,2]=[1,3,4,5,6,7,8,9,10,11]:=rfl;rw[EN T.h50];simp only[af50,fS,eG,fU,cA,eV,eB,dO,cD,true_and,AO.effect,eH,cJ,eX,dT,eL,bB,aX,bX,bT,bW,bU,bV,aO,aP,aQ,bO,a8,cC,cQ,bM,fR,eI,dU,eA,dV,dE,dW,eJ,dX,d8,d7,dM,eT,dL,aM,d9,bH,dG,bA,eU,eQ,dI,bR,f9,bS,cF,bP,aT,dH,aR,dK,cG,aU,aL,dJ,bQ,eP,cI,eM,cP,cO,bY,bI,dN,aW,aN,bJ,dD,bK,bL,put,cr,bu,ev,bnd,be,fC,cE,hH,dF,dC,cT,cV,dB,cU,cW,cY,cZ,dA,dZ,cR,Ak,An,Ae,Ai,Aj,Ao,Ah,Av,Ax,Bf,ite_true,ite_false,if_true,if_false,Aq,reduceIte,decide_true,decide_false,Be,Az,beq_self_eq_true,Ag,ne_eq,not_true_eq_false,not_false_eq_true];rw[lE];simp only[G,be,cr];rcases U4 hr with⟨rfl,Y⟩ | ⟨fl,b,off,ver,Z,rfl,e1,e2,e3,e4⟩
 ·rw[iF];have hlt:¬(0:Int)<0:=by omega
  simp only[fS,eG,fU,cA,eV,eB,dO,cD,true_and,AO.effect,eH,cJ,eX,dT,eL,bB,aX,bX,bT,bW,bU,bV,aO,aP,aQ,bO,a8,cC,cQ,bM,fR,eI,dU,eA,dV,dE,dW,eJ,dX,d8,d7,dM,eT,dL,aM,d9,bH,dG,bA,eU,eQ,dI,bR,f9,bS,cF,bP,aT,dH,aR,dK,cG,aU,aL,dJ,bQ,eP,cI,eM,cP,cO,bY,bI,dN,aW,aN,bJ,dD,bK,bL,put,cr,bu,ev,bnd,be,fC,cE,hH,dF,dC,cT,cV,dB,cU,cW,cY,cZ,dA,dZ,cR,Ak,An,Ae,Ai,Aj,Ao,Ah,Av,Ax,Bf,ite_true,ite_false,if_true,if_false,Aq,reduceIte,decide_true,decide_false,Be,Az,beq_self_eq_true,Ag,ne_eq,not_true_eq_false,not_false_eq_true,hlt];exact V h1 J (.refl w h1)
 ·refine(?_:∀(m k:Nat) (E:H),k+m=u.length->Ov3 w h E->Kp w h1 E->W (lim tab) (.loop ?sc ?x) [.slice fl 1 b off u.length,.aa,i64 k,.aa,.aa,.aa,.aa,.aa,.aa,.aa,.aa,.aa] E ?q1 ?q2 ?q3) u.length 0 h1 (by simp) J (.refl w h1);intro m
  induction m with
  | zero=>
   intro k E hk hv B;rw[iF];have hlt:¬(k:Int)<u.length:=by omega
   simp only[fS,eG,fU,cA,eV,eB,dO,cD,true_and,AO.effect,eH,cJ,eX,dT,eL,bB,aX,bX,bT,bW,bU,bV,aO,aP,aQ,bO,a8,cC,cQ,bM,fR,eI,dU,eA,dV,dE,dW,eJ,dX,d8,d7,dM,eT,dL,aM,d9,bH,dG,bA,eU,eQ,dI,bR,f9,bS,cF,bP,aT,dH,aR,dK,cG,aU,aL,dJ,bQ,eP,cI,eM,cP,cO,bY,bI,dN,aW,aN,bJ,dD,bK,bL,put,cr,bu,ev,bnd,be,fC,cE,hH,dF,dC,cT,cV,dB,cU,cW,cY,cZ,dA,dZ,cR,Ak,An,Ae,Ai,Aj,Ao,Ah,Av,Ax,Bf,ite_true,ite_false,if_true,if_false,Aq,reduceIte,decide_true,decide_false,Be,Az,beq_self_eq_true,Ag,ne_eq,not_true_eq_false,not_false_eq_true,hlt];exact V E hv B
  | succ m ih=>
   intro k E hk hv B;rw[iF];have hlt:(k:Int)<u.length:=by omega
   have h0:(0:Int)<=k:=by omega
   have L:=aA (k:=k) (by omega);obtain⟨y,z,O,hz,R⟩:=e4 k (by simp;omega);have S:∃n,z= .int .u8 n:=by
    rw[Ap]at O;obtain⟨x,Y⟩:=aK (xs:=u) (k:=k) (by omega);rw[Y]at O;cases O;exact⟨x,gX R⟩
   obtain⟨nz,rfl⟩:=S;obtain⟨h2,hp,U,I⟩:=sI hw hv e1 e2 (p:=off+k) (xs:=[.int .u8 201]) (aF hz) rfl (fun i J=>by
    have:i=0:=by simpa using J
    subst this;exact⟨_,_,hz,rfl,.inr (.inl ⟨_,_,_,rfl,rfl⟩)⟩)
   simp only[fS,eG,fU,cA,eV,eB,dO,cD,true_and,AO.effect,eH,cJ,eX,dT,eL,bB,aX,bX,bT,bW,bU,bV,aO,aP,aQ,bO,a8,cC,cQ,bM,fR,eI,dU,eA,dV,dE,dW,eJ,dX,d8,d7,dM,eT,dL,aM,d9,bH,dG,bA,eU,eQ,dI,bR,f9,bS,cF,bP,aT,dH,aR,dK,cG,aU,aL,dJ,bQ,eP,cI,eM,cP,cO,bY,bI,dN,aW,aN,bJ,dD,bK,bL,put,cr,bu,ev,bnd,be,fC,cE,hH,dF,dC,cT,cV,dB,cU,cW,cY,cZ,dA,dZ,cR,Ak,An,Ae,Ai,Aj,Ao,Ah,Av,Ax,Bf,ite_true,ite_false,if_true,if_false,Aq,reduceIte,decide_true,decide_false,Be,Az,beq_self_eq_true,Ag,ne_eq,not_true_eq_false,not_false_eq_true,qU,hlt,h0,true_and,and_self,Bq,Ce,AV.cells,hp,L];rw[lE];simp only[G,be,cr];exact ih (k+1) h2 (by omega) U (B.trans I)
def R4{w:PWd}{h h1:H}(hw:∀b o,w.imm b=Jp o->b<h.next){f1 f2 f3 f4:Bool}{ow pr:List Int}{su:List (List Int)}(B:Bnd ow pr su){y:List AV}(E:ak w [slI f1 Jr .u8 ow,slI f2 Jr .i64 pr,slR f3 Jr f4 Jr .i64 su] y)(hv:Ov3 w h h1){Q:AV->H->Prop}(hq:∀h2,Ov3 w h h2->Kp w h1 h2->Q (.tuple []) h2):
  C (lim tab) 16 [.agg y] h1 Q:=by
 match y,E with
 | [I,J,L],E=>
 have Y:=E.hd;have Z:=E.tl.hd;have r3:=E.tl.tl.hd;have o1:I.one=Jr:=gK Y rfl;have o2:J.one=Jr:=gK Z rfl;have o3:L.one=Jr:=gK r3 rfl;have O:[I,J,L].all AV.one=Jr:=by simp[o1,o2,o3]
 rw[EN T.h16];have w1:=hv.alloc hw (.cells 0 Jr [I,J,L]);have G:w.imm h1.next=Jq:=by
  cases E:w.imm h1.next with
  | none=>rfl
  | some o=>have:=hw _ _ E;have:=hv.next;omega
 have u:∀{R:H},Kp w (h1.alloc (.cells 0 Jr [I,J,L])) R->∀i,f0 R h1.next i=[I,J,L][i]? :=by intro R hk i;unfold f0;rw[hk.fc h1.next (by simp) (.inr G),H.ah]
 have b1:=u (.refl w _);simp only[af16,fS,eG,fU,cA,eV,eB,dO,cD,true_and,AO.effect,eH,cJ,eX,dT,eL,bB,aX,bX,bT,bW,bU,bV,aO,aP,aQ,bO,a8,cC,cQ,bM,fR,eI,dU,eA,dV,dE,dW,eJ,dX,d8,d7,dM,eT,dL,aM,d9,bH,dG,bA,eU,eQ,dI,bR,f9,bS,cF,bP,aT,dH,aR,dK,cG,aU,aL,dJ,bQ,eP,cI,eM,cP,cO,bY,bI,dN,aW,aN,bJ,dD,bK,bL,put,cr,bu,ev,bnd,be,fC,cE,hH,dF,dC,cT,cV,dB,cU,cW,cY,cZ,dA,dZ,cR,Ak,An,Ae,Ai,Aj,Ao,Ah,Av,Ax,Bf,ite_true,ite_false,if_true,if_false,Aq,reduceIte,decide_true,decide_false,Be,Az,beq_self_eq_true,Ag,ne_eq,not_true_eq_false,not_false_eq_true,AV.cells,O,b1,Cg,Bl];refine MS T hw Y B.o w1 fun h2 S k2=>?_;have b2:=u k2;simp only[fS,eG,fU,cA,eV,eB,dO,cD,true_and,AO.effect,eH,cJ,eX,dT,eL,bB,aX,bX,bT,bW,bU,bV,aO,aP,aQ,bO,a8,cC,cQ,bM,fR,eI,dU,eA,dV,dE,dW,eJ,dX,d8,d7,dM,eT,dL,aM,d9,bH,dG,bA,eU,eQ,dI,bR,f9,bS,cF,bP,aT,dH,aR,dK,cG,aU,aL,dJ,bQ,eP,cI,eM,cP,cO,bY,bI,dN,aW,aN,bJ,dD,bK,bL,put,cr,bu,ev,bnd,be,fC,cE,hH,dF,dC,cT,cV,dB,cU,cW,cY,cZ,dA,dZ,cR,Ak,An,Ae,Ai,Aj,Ao,Ah,Av,Ax,Bf,ite_true,ite_false,if_true,if_false,Aq,reduceIte,decide_true,decide_false,Be,Az,beq_self_eq_true,Ag,ne_eq,not_true_eq_false,not_false_eq_true,b2,Cg,Bl];refine oC T hw Z B.p S fun h3 U k3=>?_;have b3:=u (k2.trans k3);simp only[fS,eG,fU,cA,eV,eB,dO,cD,true_and,AO.effect,eH,cJ,eX,dT,eL,bB,aX,bX,bT,bW,bU,bV,aO,aP,aQ,bO,a8,cC,cQ,bM,fR,eI,dU,eA,dV,dE,dW,eJ,dX,d8,d7,dM,eT,dL,aM,d9,bH,dG,bA,eU,eQ,dI,bR,f9,bS,cF,bP,aT,dH,aR,dK,cG,aU,aL,dJ,bQ,eP,cI,eM,cP,cO,bY,bI,dN,aW,aN,bJ,dD,bK,bL,put,cr,bu,ev,bnd,be,fC,cE,hH,dF,dC,cT,cV,dB,cU,cW,cY,cZ,dA,dZ,cR,Ak,An,Ae,Ai,Aj,Ao,Ah,Av,Ax,Bf,ite_true,ite_false,if_true,if_false,Aq,reduceIte,decide_true,decide_false,Be,Az,beq_self_eq_true,Ag,ne_eq,not_true_eq_false,not_false_eq_true,b3,Cg,Bl];refine uJ T hw r3 B.s B.r U fun h4 V k4=>?_;simp only[fS,eG,fU,cA,eV,eB,dO,cD,true_and,AO.effect,eH,cJ,eX,dT,eL,bB,aX,bX,bT,bW,bU,bV,aO,aP,aQ,bO,a8,cC,cQ,bM,fR,eI,dU,eA,dV,dE,dW,eJ,dX,d8,d7,dM,eT,dL,aM,d9,bH,dG,bA,eU,eQ,dI,bR,f9,bS,cF,bP,aT,dH,aR,dK,cG,aU,aL,dJ,bQ,eP,cI,eM,cP,cO,bY,bI,dN,aW,aN,bJ,dD,bK,bL,put,cr,bu,ev,bnd,be,fC,cE,hH,dF,dC,cT,cV,dB,cU,cW,cY,cZ,dA,dZ,cR,Ak,An,Ae,Ai,Aj,Ao,Ah,Av,Ax,Bf,ite_true,ite_false,if_true,if_false,Aq,reduceIte,decide_true,decide_false,Be,Az,beq_self_eq_true,Ag,ne_eq,not_true_eq_false,not_false_eq_true];exact hq _ V ((Kp.alloc w h1 _).trans (k2.trans (k3.trans k4)))
def R5{y E f3 G:Bool}{ow pr:List Int}{su:List (List Int)}(B:Bnd ow pr su):QG tab 16 [gmP y Jr E Jr f3 Jr G Jr ow pr su]:=fun w h h1 u hb hr hv=>by
 match u,hr with
 | [v],hr=>obtain⟨I,rfl,h2⟩:=lX hr.hd;exact R4 T hb B h2 hv fun h2 a b=>⟨a,b⟩
omit T in
def MG(fl:Bool)(size b o n:Nat)(k:IntKind)(j:Int)(K:AV->Prop):FD size (.slice fl size b o n) (.int k j) K=((0<=j/\j<n)/\K (.ptr b (o+j.toNat*size))):=by unfold FD;rw[aN,cO];simp
def aHo{w:PWd}{h h1:H}(hw:∀b o,w.imm b=Jp o->b<h.next){r:Res}(S:r.Sm){Y:List AV}(E:ak w [p64 r.vs,p64 0,slR Js Jr Js Jr .i64 r.rows,slB Js Jr r.de,slR Js Jr Js Jr .i64 r.kh,slI Js Jr .i64 r.cls,slM Js Jr r.ms] Y)(hv:Ov3 w h h1){Q:AV->H->Prop}(hq:∀h2,Ov3 w h h2->Kp w h1 h2->Q (.tuple []) h2):
  C (lim tab) 25 [.agg Y] h1 Q:=by
 match Y,E with
 | [G,I,J,L,R,U,V],E=>
 have r1:=E.hd;have r2:=E.tl.hd;have r3:=E.tl.tl.hd;have r4:=E.tl.tl.tl.hd;have r5:=E.tl.tl.tl.tl.hd;have r6:=E.tl.tl.tl.tl.tl.hd;have r7:=E.tl.tl.tl.tl.tl.tl.hd;have hd:ak w (dfC Js Jr Js Jr Js Jr ⟨r.vs,0,r.rows,r.de⟩) [G,I,J,L]:= .cons r1 (.cons r2 (.cons r3 (.cons r4 (.nil w))));have Bd:BnD ⟨r.vs,0,r.rows,r.de⟩:=⟨S.w,S.wr,S.f⟩;have o1:G.one=Jr:=gK r1 rfl;have o2:I.one=Jr:=gK r2 rfl;have o3:J.one=Jr:=gK r3 rfl;have o4:L.one=Jr:=gK r4 rfl;have o5:R.one=Jr:=gK r5 rfl;have o6:U.one=Jr:=gK r6 rfl;have o7:V.one=Jr:=gK r7 rfl;have a1:[G,I,J,L,R,U,V].all AV.one=Jr:=by simp[o1,o2,o3,o4,o5,o6,o7]
 have a3:cS 24 [1,2]=[0,3,4,5,6,7,8,9,10,11,12,13,14,15,16,17,18,19,20,21,22,23]:=rfl;rw[EN T.h25];have w1:=hv.alloc hw (.cells 0 Jr [G,I,J,L,R,U,V]);have Z:w.imm h1.next=Jq:=by
  cases E:w.imm h1.next with
  | none=>rfl
  | some o=>have:=hw _ _ E;have:=hv.next;omega
 have a4:∀{B:H},Kp w (h1.alloc (.cells 0 Jr [G,I,J,L,R,U,V])) B->B.get h1.next=Jp (.cells 0 Jr [G,I,J,L,R,U,V]):=by intro B hk;rw[hk.fc h1.next (by simp) (.inr Z),H.ah]
 have u:∀{B:H},Kp w (h1.alloc (.cells 0 Jr [G,I,J,L,R,U,V])) B->∀i,f0 B h1.next i=[G,I,J,L,R,U,V][i]? :=by intro B hk i;unfold f0;rw[a4 hk]
 have a6:dY (h1.alloc (.cells 0 Jr [G,I,J,L,R,U,V])) h1.next 0 4=Jp [G,I,J,L]:=by unfold dY;rw[a4 (.refl w _)];rfl
 simp only[af25,fS,eG,fU,cA,eV,eB,dO,cD,true_and,AO.effect,eH,cJ,eX,dT,eL,bB,aX,bX,bT,bW,bU,bV,aO,aP,aQ,bO,a8,cC,cQ,bM,fR,eI,dU,eA,dV,dE,dW,eJ,dX,d8,d7,dM,eT,dL,aM,d9,bH,dG,bA,eU,eQ,dI,bR,f9,bS,cF,bP,aT,dH,aR,dK,cG,aU,aL,dJ,bQ,eP,cI,eM,cP,cO,bY,bI,dN,aW,aN,bJ,dD,bK,bL,put,cr,bu,ev,bnd,be,fC,cE,hH,dF,dC,cT,cV,dB,cU,cW,cY,cZ,dA,dZ,cR,Ak,An,Ae,Ai,Aj,Ao,Ah,Av,Ax,Bf,ite_true,ite_false,if_true,if_false,Aq,reduceIte,decide_true,decide_false,Be,Az,beq_self_eq_true,Ag,ne_eq,not_true_eq_false,not_false_eq_true,AV.cells,a1,a6,Cg,Bl];refine GL T hw Bd hd w1 fun h2 a7 k2=>?_;have b2:=u k2;simp only[fS,eG,fU,cA,eV,eB,dO,cD,true_and,AO.effect,eH,cJ,eX,dT,eL,bB,aX,bX,bT,bW,bU,bV,aO,aP,aQ,bO,a8,cC,cQ,bM,fR,eI,dU,eA,dV,dE,dW,eJ,dX,d8,d7,dM,eT,dL,aM,d9,bH,dG,bA,eU,eQ,dI,bR,f9,bS,cF,bP,aT,dH,aR,dK,cG,aU,aL,dJ,bQ,eP,cI,eM,cP,cO,bY,bI,dN,aW,aN,bJ,dD,bK,bL,put,cr,bu,ev,bnd,be,fC,cE,hH,dF,dC,cT,cV,dB,cU,cW,cY,cZ,dA,dZ,cR,Ak,An,Ae,Ai,Aj,Ao,Ah,Av,Ax,Bf,ite_true,ite_false,if_true,if_false,Aq,reduceIte,decide_true,decide_false,Be,Az,beq_self_eq_true,Ag,ne_eq,not_true_eq_false,not_false_eq_true,b2,Cg,Bl];refine uJ T hw r5 S.s S.sr a7 fun h3 a9 k3=>?_;have b3:=u (k2.trans k3);simp only[fS,eG,fU,cA,eV,eB,dO,cD,true_and,AO.effect,eH,cJ,eX,dT,eL,bB,aX,bX,bT,bW,bU,bV,aO,aP,aQ,bO,a8,cC,cQ,bM,fR,eI,dU,eA,dV,dE,dW,eJ,dX,d8,d7,dM,eT,dL,aM,d9,bH,dG,bA,eU,eQ,dI,bR,f9,bS,cF,bP,aT,dH,aR,dK,cG,aU,aL,dJ,bQ,eP,cI,eM,cP,cO,bY,bI,dN,aW,aN,bJ,dD,bK,bL,put,cr,bu,ev,bnd,be,fC,cE,hH,dF,dC,cT,cV,dB,cU,cW,cY,cZ,dA,dZ,cR,Ak,An,Ae,Ai,Aj,Ao,Ah,Av,Ax,Bf,ite_true,ite_false,if_true,if_false,Aq,reduceIte,decide_true,decide_false,Be,Az,beq_self_eq_true,Ag,ne_eq,not_true_eq_false,not_false_eq_true,b3,Cg,Bl];refine oC T hw r6 S.c a9 fun h4 a5 k4=>?_;have b4:=u (k2.trans (k3.trans k4));simp only[fS,eG,fU,cA,eV,eB,dO,cD,true_and,AO.effect,eH,cJ,eX,dT,eL,bB,aX,bX,bT,bW,bU,bV,aO,aP,aQ,bO,a8,cC,cQ,bM,fR,eI,dU,eA,dV,dE,dW,eJ,dX,d8,d7,dM,eT,dL,aM,d9,bH,dG,bA,eU,eQ,dI,bR,f9,bS,cF,bP,aT,dH,aR,dK,cG,aU,aL,dJ,bQ,eP,cI,eM,cP,cO,bY,bI,dN,aW,aN,bJ,dD,bK,bL,put,cr,bu,ev,bnd,be,fC,cE,hH,dF,dC,cT,cV,dB,cU,cW,cY,cZ,dA,dZ,cR,Ak,An,Ae,Ai,Aj,Ao,Ah,Av,Ax,Bf,ite_true,ite_false,if_true,if_false,Aq,reduceIte,decide_true,decide_false,Be,Az,beq_self_eq_true,Ag,ne_eq,not_true_eq_false,not_false_eq_true];rw[lE];simp only[a3,be,cr];have b8:r.ms.length<1000000000000:=S.m;have k0:=(Kp.alloc w h1 (.cells 0 Jr [G,I,J,L,R,U,V])).trans (k2.trans (k3.trans k4));have kb:=k2.trans (k3.trans k4);rcases aBv r7 with⟨rfl,hx⟩ | ⟨fl,b,off,ver,c0,rfl,e1,e2,e3,e4⟩
 ·rw[iF];have hlt:¬(0:Int)<0:=by omega
  simp only[fS,eG,fU,cA,eV,eB,dO,cD,true_and,AO.effect,eH,cJ,eX,dT,eL,bB,aX,bX,bT,bW,bU,bV,aO,aP,aQ,bO,a8,cC,cQ,bM,fR,eI,dU,eA,dV,dE,dW,eJ,dX,d8,d7,dM,eT,dL,aM,d9,bH,dG,bA,eU,eQ,dI,bR,f9,bS,cF,bP,aT,dH,aR,dK,cG,aU,aL,dJ,bQ,eP,cI,eM,cP,cO,bY,bI,dN,aW,aN,bJ,dD,bK,bL,put,cr,bu,ev,bnd,be,fC,cE,hH,dF,dC,cT,cV,dB,cU,cW,cY,cZ,dA,dZ,cR,Ak,An,Ae,Ai,Aj,Ao,Ah,Av,Ax,Bf,ite_true,ite_false,if_true,if_false,Aq,reduceIte,decide_true,decide_false,Be,Az,beq_self_eq_true,Ag,ne_eq,not_true_eq_false,not_false_eq_true,b4,Cg,Bl,hlt];exact hq h4 a5 k0
 ·rw[mV]at e3 e4;refine(?_:∀(m k:Nat) (B:H),k+m=r.ms.length->Ov3 w h B->Kp w h4 B->W (lim tab) (.loop ?sc ?x) [.aa,.ptr h1.next 0,i64 k,.aa,.aa,.aa,.aa,.aa,.aa,.aa,.aa,.aa,.aa,.aa,.aa,.aa,.aa,.aa,.aa,.aa,.aa,.aa,.aa,.aa] B ?q1 ?q2 ?q3) r.ms.length 0 h4 (by simp) a5 (.refl w h4);intro m
  induction m with
  | zero=>
   intro k B hk a0 O;have b5:=u (kb.trans O);rw[iF];have hlt:¬(k:Int)<r.ms.length:=by omega
   simp only[fS,eG,fU,cA,eV,eB,dO,cD,true_and,AO.effect,eH,cJ,eX,dT,eL,bB,aX,bX,bT,bW,bU,bV,aO,aP,aQ,bO,a8,cC,cQ,bM,fR,eI,dU,eA,dV,dE,dW,eJ,dX,d8,d7,dM,eT,dL,aM,d9,bH,dG,bA,eU,eQ,dI,bR,f9,bS,cF,bP,aT,dH,aR,dK,cG,aU,aL,dJ,bQ,eP,cI,eM,cP,cO,bY,bI,dN,aW,aN,bJ,dD,bK,bL,put,cr,bu,ev,bnd,be,fC,cE,hH,dF,dC,cT,cV,dB,cU,cW,cY,cZ,dA,dZ,cR,Ak,An,Ae,Ai,Aj,Ao,Ah,Av,Ax,Bf,ite_true,ite_false,if_true,if_false,Aq,reduceIte,decide_true,decide_false,Be,Az,beq_self_eq_true,Ag,ne_eq,not_true_eq_false,not_false_eq_true,b5,Cg,Bl,hlt];exact hq B a0 (k0.trans O)
  | succ m ih=>
   intro k B hk a0 O;have b5:=u (kb.trans O);rw[iF];have hlt:(k:Int)<r.ms.length:=by omega
   have h0:(0:Int)<=k:=by omega
   have b0:=aA (k:=k) (by show _<1000000000000;omega);obtain⟨x,hx⟩:=aK (xs:=r.ms) (k:=k) (by omega);obtain⟨y,z,hy,hz,b1⟩:=e4 (k*9) (by omega);obtain⟨nz,rfl⟩:∃q,z= .bool q:=by
    rw[aE1 hx]at hy;cases hy;exact⟨_,kZ b1⟩
   obtain⟨b6,hp,b7,a2⟩:=sI hw a0 e1 e2 (p:=off+k*9) (xs:=[.bool Jr]) (aF hz) rfl (fun i hi=>by
    have:i=0:=by simpa using hi
    subst this;exact⟨_,_,hz,rfl,.inr (.inr ⟨_,_,rfl,rfl⟩)⟩)
   simp only[fS,eG,fU,cA,eV,eB,dO,cD,true_and,AO.effect,eH,cJ,eX,dT,eL,bB,aX,bX,bT,bW,bU,bV,aO,aP,aQ,bO,a8,cC,cQ,bM,fR,eI,dU,eA,dV,dE,dW,eJ,dX,d8,d7,dM,eT,dL,aM,d9,bH,dG,bA,eU,eQ,dI,bR,f9,bS,cF,bP,aT,dH,aR,dK,cG,aU,aL,dJ,bQ,eP,cI,eM,cP,cO,bY,bI,dN,aW,aN,bJ,dD,bK,bL,put,cr,bu,ev,bnd,be,fC,cE,hH,dF,dC,cT,cV,dB,cU,cW,cY,cZ,dA,dZ,cR,Ak,An,Ae,Ai,Aj,Ao,Ah,Av,Ax,Bf,ite_true,ite_false,if_true,if_false,Aq,reduceIte,decide_true,decide_false,Be,Az,beq_self_eq_true,Ag,ne_eq,not_true_eq_false,not_false_eq_true,b5,Cg,Bl,MG,hlt,h0,true_and,and_self,Bq,Nat.add_zero,AV.cells,hp,b0];rw[lE];simp only[a3,be,cr];exact ih (k+1) b6 (by omega) b7 (O.trans a2)
def YD{r:Res}(S:r.Sm):QG tab 25 [r.pv]:=fun w h h1 u hb hr hv=>by
 match u,hr with
 | [v],hr=>have hr:=hr.hd;unfold Res.pv at hr;obtain⟨y,rfl,h2⟩:=lX hr;exact aHo T hb S h2 hv fun h2 a b=>⟨a,b⟩
def aG9{r:Res}(u:r.Sm)(hf:∀x∈r.ms,x.fit)(J:K (.bool Jr) M):au tab 21 [r.pv,r.pv] M K:=by
 have U:r.ms.length<1000000000000:=u.m;have B:BnD ⟨r.vs,0,r.rows,r.de⟩:=⟨u.w,u.wr,u.f⟩;refine aB T.h21 (by simp only[Res.pv,PP,simprocAttr,PN]) ?_;simp only[Res.pv,af21,PP,simprocAttr,PN];refine aCy T (D:=⟨r.vs,0,r.rows,r.de⟩) (D':=⟨r.vs,0,r.rows,r.de⟩) B fun b hb=>?_;obtain rfl:b=Jr:=hb.2 rfl;simp only[PP,simprocAttr,PN];refine oU T u.s u.sr ?_;simp only[PP,simprocAttr,PN];refine nD T u.c ?_;simp only[PP,simprocAttr,PN];refine fT (fun(k:Nat)=>k<=r.ms.length) (fun k=>(.aa:: .aa:: .ptr 0 0 0:: .ptr 1 0 0:: .aa::p64 k::zj 49)) (fun k=>[.cells 0 0 [p64 r.vs,p64 0,slR Js Jr Js Jr .i64 r.rows,slB Js Jr r.de,slR Js Jr Js Jr .i64 r.kh,slI Js Jr .i64 r.cls,slM Js Jr r.ms],.cells 0 0 [p64 r.vs,p64 0,slR Js Jr Js Jr .i64 r.rows,slB Js Jr r.de,slR Js Jr Js Jr .i64 r.kh,slI Js Jr .i64 r.cls,slM Js Jr r.ms]]) (fun k=>r.ms.length-k) 0 (by omega) ?_;intro k L O;refine aH (by kernel_rfl) ?_;simp only[PP,simprocAttr];refine QIf.intro (fun d=>?_) fun d=>?_
 ·have y:k<r.ms.length:=by omega
  have Q:(0:Int)<=k:=by omega
  have E:=aA (k:=k) (by show _<1000000000000;omega);obtain⟨x,G⟩:=aK (xs:=r.ms) (k:=k) y;have R:=jT G;have S:=t7 G;have I:=hf x (Af G);simp only[PP,simprocAttr,PN,d,Q,R,S,U3 I I,E];exact aG (O (k+1) (by omega) (by omega))
 ·simp only[PP,simprocAttr,d];exact J
end
def uC{α:Type}(f:α->PV)(h:∀a,(f a).br=Jr)(l:List α):iS (l.map f)=Jr:=by
 induction l with
 | nil=>rfl
 | cons a l u=>rw[Ah];simp only[iS,h,u,Bz]
def KH(k:IntKind)(u:List Int):iS (u.map (PV.int k))=Jr:=uC _ (fun _=>rfl) _
def WN(u:List Bool):iS (u.map PV.bool)=Jr:=uC _ (fun _=>rfl) _
def aAn(f:Bool)(k:IntKind)(u:List (List Int)):iS (u.map (slI f Jr k))=Jr:=uC _ (fun r=>by simp only[PV.br,KH,Bz]) _
def aD8(u:List Eg):iS (egL u)=Jr:=by
 unfold egL
 induction u with
 | nil=>rfl
 | cons e u y=>rw[Cc];simp only[Ai,Aj,iS,PV.br,y,Bz]
def aCH(i:In):iS (i.cs Js Jr)=Jr:=by simp only[In.cs,csC,iS,PV.br,KH,WN,aAn,aD8,Bz]
def I0{α:Type}(f:α->PV)(h:∀a,odV (f a)=Jr)(l:List α):odL (l.map f)=Jr:=(IZ _).2 fun v hv=>by obtain⟨a,_,rfl⟩:=List.mem_map.1 hv;exact h a
def IY(k:IntKind)(u:List Int):odL (u.map (PV.int k))=Jr:=I0 _ (fun _=>rfl) _
def aBE(u:List Bool):odL (u.map PV.bool)=Jr:=I0 _ (fun _=>rfl) _
def aEU(k:IntKind)(u:List (List Int)):odL (u.map (slI Js Js k))=Jr:=I0 _ (fun r=>by simp only[odV,IY,Az,Bz]) _
def aHr(u:List Eg):odL (egL u)=Jr:=by
 unfold egL
 induction u with
 | nil=>rfl
 | cons e u y=>rw[Cc];simp only[Ai,Aj,odL,odV,y,Bz]
def aHR(k:Int)(N:NF)(D:DF)(ow pr:List Int)(su:List (List Int)):odL (csC Js Js k N D ow pr su)=Jr:=by simp only[csC,odL,odV,IY,aBE,aEU,aHr,Az,Bz]
def aCx{k:Int}{N:NF}{D:DF}{ow pr:List Int}{su:List (List Int)}(h:∀x∈ow,0<=x):(E2 k N D ow pr su).Pos:=by
 unfold E2;split
 ·trivial
 ·split
  ·trivial
  ·exact fun x u=>h x (List.mem_of_mem_take u)
def JR(i:In)(f o:Bool):eD (i.cs f o)=i.cs Js Js:=by simp only[In.cs,csC,eD,PV.age,iK,iZ,lP,wZ,slI,slB,slR,slE]
def aHQ(i:In):gW (i.cs Js Js)=i.cs Js Js:=by simp only[In.cs,csC,gW,PV.jnk,mO,rB,rA,N6,slI,slB,slR,slE,Aq,if_false]
def VH:∀n:Nat,gW (zj n)=zj n
 | 0=>rfl
 | n+1=>by show PV.jnk .aa::gW (zj n)= .aa::zj n;rw[VH n];rfl
def aA1:∀{a b:List PV},db a b->db (gW a) (gW b)
 | [],[],h=>h
 | x::a,y::b,⟨h1,h2⟩=>⟨by rcases h1 with rfl | rfl<;>simp[PV.jnk],aA1 h2⟩
 | [],_::_,h=>h.elim
 | _::_,[],h=>h.elim
def aFt(f o:Bool)(k:Int)(N:NF)(D:DF)(ow pr:List Int)(su:List (List Int)):eD (csC f o k N D ow pr su)=csC Js Js k N D ow pr su:=by simp only[csC,eD,PV.age,iK,iZ,lP,wZ,slI,slB,slR,slE]
def JS(n:Nat)(f o:Bool)(k:Int)(N:NF)(D:DF)(ow pr:List Int)(su:List (List Int)):aD n (csC f o k N D ow pr su)=Jr:=by simp[csC,aD,PV.under,fN,b9,cM,eK]
def L6{a b:List PV}{t:Nat}{v:PV}(h:db a b)(hb:bf b t=v)(hv:v≠Zj):bf a t=v:=by
 rcases(Q9 h).2 t with e | e
 ·exact absurd (hb.symm.trans e) hv
 ·exact e.trans hb
abbrev aIS:List PV:=[Zj,Zj,Zj,Zj,Zj,Zj,Zj,Zj,Zj,Zj,Zj,Zj,Zj]
section
variable {tab:FuncId->Option AF}
def KC{a:List PV}{M:Mem}{Q:List PV->Mem->Prop}{f u p id gg o ver:Nat}{I:List Nat}{cs:List PV}{os:List aw}
  (J:bf a p= .ptr id gg o) (K:M[id]? =Jp (.cells gg ver cs)) (h:OvX tab (.region os) (dr a u (.ptr id gg (o+f))) M Q):
  OvX tab (.region (⟨Jp u,.fieldAddr f (.tmp p),Jq,I⟩::os)) a M Q:=by
 intro w hh h1 B s E hv;have G:=E.bu p;rw[J]at G;obtain⟨e,b,L,O,R,S,T,U,V,Y⟩:=s.iu K G;have y:ev B (.tmp p)= .ptr b o:=O;have:=h w hh h1 (cr B u (.ptr b (o+f))) s (E.cr u (.ptr R S T)) hv;rw[cJ]at this;rw[cJ,dU,aR,y,cP,dV];exact this
def JZ:∀n:Nat,eD (zj n)=zj n
 | 0=>rfl
 | n+1=>by show PV.age .aa::eD (zj n)= .aa::zj n;rw[JZ n];rfl
def WkR(n:Nat)(R:List PV->Mem->Prop)(b:List PV)(N:Mem):Prop:=∃f,db b f/\b.length=n/\R f N
structure TwoK (tab:FuncId->Option AF) (i:In) (cc:List PV) (o:Bool) (Fb:List PV) (Fo:Nat->List PV) (R:List PV->Mem->Prop):Prop where
 bad:i.chk≠0->R Fb [.cells 0 0 cc,.cells 0 1 (i.cs Js o)]
 ok:i.chk=0->∀jid b L StF A0 M0,pt tab jid b L i StF->A0.length=b->A0.all (aI b)=Jr->StF A0 0 M0->(∃X,A0=[.cells 0 0 cc,.cells 0 1 (i.cs Js o)]++X)->Stb StF->(∃Z,M0=A0++Z/\Z.map rR=Z)->R (Fo jid) M0
def aDC{i:In}{cc F Fb:List PV}{Fo:Nat->List PV}{x y z:AC}{D:List Nat}{q p pc n:Nat}{vq:PV}{U V:List PV->Mem->Prop}{Y:Nat->List PV->Mem->Prop}
  (a0:odL cc=Jr) (a1:eD cc=cc) (a3:∀n,aD n cc=Jr) (hD:wrC y=Jp D) (hq:odV vq=Jr) (a4:vq≠Zj) (a5:q∉D) (a6:eD F=F) (a7:p<n)
  (G:bf Fb p= .ptr 1 0 0/\bf Fb pc= .ptr 0 0 0/\bf Fb q=vq) (I:∀B,bf (Fo B) p= .ptr 1 0 0/\bf (Fo B) pc= .ptr 0 0 0/\bf (Fo B) q=vq)
  (a9:JA D q vq Fb=Fb) (b0:∀B,JA D q vq (Fo B)=Fo B)
  (hw:∀(o:Bool) (R Rr:List PV->Mem->Prop) (Re:Nat->List PV->Mem->Prop),TwoK tab i cc o Fb Fo R->fL tab 2 x F [.cells 0 0 cc,.cells 0 1 (i.cs Js o)] (WkR n R) Rr Re)
  (b1:∀M':Mem,M'[1]? =Jp (.cells 0 1 (i.cs Js Jr))->OvX tab y ((zj n).set p (.ptr 1 0 0)) M' fun _ _=>True)
  (b2:i.chk≠0->lB tab z Fb [.cells 0 0 cc,.cells 0 1 aIS] U V Y)
  (b3:i.chk=0->∀B b L StF M,Stb StF->At tab i B b L StF 0 M->2<=b->M[0]? =Jp (.cells 0 0 cc)->M[1]? =Jp (.cells 0 1 aIS)->jq M->lB tab z (Fo B) M U V Y):
  lB tab (.seq x (.seq y z)) F [.cells 0 0 cc,.cells 0 1 (i.cs Js Jr)] U V Y:=by
 refine aDF (n:=n) (p:=p) (pc:=pc) (q:=q) (vq:=vq) (vc:=0) (v1:=1) (cc:=cc) (cs:=i.cs Js Jr) rfl (aCH i) a0 hD hq a5 ?_ ?_ ?_
 ·refine qB (hw Jr (fun f N=>(bf f p= .ptr 1 0 0/\bf f pc= .ptr 0 0 0/\bf f q=vq)/\N[1]? =Jp (.cells 0 1 (i.cs Js Jr))/\N[0]? =Jp (.cells 0 0 cc)) _ _ ⟨fun _=>⟨G,rfl,rfl⟩,fun _ B b L StF A0 M0 J hb E hS ⟨X,K⟩ _ ⟨Z,O,_⟩=>⟨I B,by rw[O,K];rfl,by rw[O,K];rfl⟩⟩) ?_ (fun _ _ h=>h) fun _ _ _ h=>h;rintro b N ⟨f,h1,h2,⟨Q,g2,g3⟩,g4,g5⟩;exact⟨h2,L6 h1 g3 a4,L6 h1 Q (by simp),L6 h1 g2 (by simp),g4,g5⟩
 ·have e:List.map (bl.po eD) [.cells 0 0 cc,.cells 0 1 (i.cs Js Jr)]=[.cells 0 0 cc,.cells 0 1 (i.cs Js Js)]:=by show [bl.cells 0 0 (eD cc),.cells 0 1 (eD (i.cs Js Jr))]=_;rw[a1,JR]
  rw[a6,e];refine qB (hw Js (fun f N=>(bf f p= .ptr 1 0 0/\bf f pc= .ptr 0 0 0)/\(∃v2 b4 b5 N',N= .cells 0 b4 b5:: .cells 0 v2 (eD (i.cs Js Jr))::N')/\lB tab z (JA D q vq f) (I9 cc N) U V Y) _ _ ⟨fun h0=>⟨⟨G.1,G.2.1⟩,⟨1,0,cc,[],by rw[JR]⟩,?_⟩,fun h0 B b L StF A0 M0 J hb E hS ⟨X,K⟩ S ⟨Z,O,hz⟩=>⟨⟨(I B).1,(I B).2.1⟩,⟨1,0,cc,X++Z,by rw[JR,O,K];rfl⟩,?_⟩⟩) ?_ (fun _ _ h=>h) fun _ _ _ h=>h
  ·rw[a9];exact b2 h0
  ·rw[b0];obtain⟨a,g0,Q,c⟩:=aIu J hb E hS K O hz a3;exact b3 h0 B b L StF _ S a (by rw[<-hb,K];simp) g0 Q c
  rintro b N ⟨f,h1,h2,⟨Q,g2⟩,g4,g5⟩;exact⟨L6 h1 Q (by simp),L6 h1 g2 (by simp),g4,kQ g5 (YM h1) rfl⟩
 ·intro w h a' M' s hM hr hl;refine hU (b1 M' hM w h h a' s ⟨by simp[zj,hl],fun i u v T pv=>?_⟩ (.refl s.imm)) (fun a2 h2 ⟨b,r,o,q⟩=>o) (fun _ _ q=>q) fun _ _ _ q=>q;by_cases e:i=p
  ·subst e;rw[Ck (by simp[zj,a7])]at T;cases T;have:=kI a' i (by omega);rw[this]at pv;cases pv;exact hr
  ·rw[List.getElem?_set_ne fun q=>e q.symm]at T;unfold zj at T;have:=List.eq_of_mem_replicate (Af T);subst this;exact .aa _
def J4{c:AC}{a:List PV}{M:Mem}{u Qn' y:List PV->Mem->Prop}{B:Nat->List PV->Mem->Prop}(h:lB tab c a M Qn' y B)(E:∀b N,Qn' b N->u b N):lB tab c a M u y B:=
 fun w hh G s I=>hU (h w hh G s I) (fun _ _ ⟨J,b,N,K,L,q⟩=>⟨J,b,N,K,L,E _ _ q⟩) (fun _ _ q=>q) fun _ _ _ q=>q
def HL{c:AC}{a:List PV}{M:Mem}{B E:List PV->Mem->Prop}{G:Nat->List PV->Mem->Prop}(k:Nat)(h:lB tab c a (M.set k .gone) B E G):lB tab c a M B E G:=by
 intro w hh I s J;have y:∀i x,af w (M.set k .gone) i x->af w M i x:=by
  rintro i x ⟨o,e,h1,h2,h3,K⟩;rw[Dy]at h1;split at h1
  ·split at h1
   ·cases h1;exact absurd rfl h2
   ·cases h1
  ·exact⟨o,e,h1,h2,h3,K⟩
 refine h w hh I ⟨s.imm,fun id e he=>by simpa using s.env id e he,s.blk,fun id o u=>?_,fun i j x h1 h2=>s.inj i j x (y _ _ h1) (y _ _ h2),fun i x hl=>s.sep i x (y _ _ hl),s.base⟩ J;rw[Dy]at u;split at u
 ·split at u
  ·cases u;trivial
  ·cases u
 ·exact s.obj id o u
def At.set{i:In}{jid b L m k:Nat}{StF:Mem->Nat->Mem->Prop}{Mm:Mem}{o:bl}(h:At tab i jid b L StF m Mm)(B:k<b)(u:aI b o=Jr):At tab i jid b L StF m (Mm.set k o):=by
 obtain⟨A,X,Z,rfl,h1,h2,h3⟩:=h.at_;have hA:(A.set k o).all (aI b)=Jr:=by
  rw[Cb]at*;intro x y;rcases Hk y with q | q
  ·exact h2 x q
  ·rw[q];exact u
 exact⟨h.J,A.set k o,X,Z,by rw[Ac,Ac,List.set_append_left _ _ (by omega)],by simp[h1],hA,h.J.bas A _ m X h1 (by simp[h1]) h3⟩
def jq.set{u:Mem}{k:Nat}{o:bl}(h:jq u)(y:aI u.length o=Jr):jq (u.set k o):=by
 unfold jq at*;rw[List.length_set];rw[Cb]at*;intro x B;rcases Hk B with q | q
 ·exact h x q
 ·rw[q];exact y
def jq.more{u Y:Mem}(h:jq u)(y:Y.all (aI u.length)=Jr):jq (u++Y):=by unfold jq at*;rw[Cl,fJ (by simp) h,fJ (by simp) y];rfl
end
end Go.Am.Ar
--P14
namespace Go.Am.Ar
open Go.Am.PV renaming aa->Zj
open Go.Am renaming jc->P1,lg->P2,kq->P3,ep->P4,bl.under->P5,fy->P6,dr->P7,bf->P8,pev->P9,iw->P10,bd->P11,jl->P12,dw->P13,fY->P14,AO.effect->P15
open List renaming replicate->L1
def D0:DF:=⟨0,0,[[0]],[Jr]⟩
def wF{id g:Nat}{cs:List PV} :∀a:List PV,jn id g cs a a
 | []=>trivial
 | x::a=>⟨.inr (.inl rfl),wF a⟩
def aFa:(iV 32 [100,101,116,101,114,109,105,110,105,122,101]=[[100,101,116,101,114,109,105,110,105,122,101]])/\(iV 32 [115,111,114,116,32,49]=[[115,111,114,116],[49]])/\(iV 32 [109,105,110,105,109,105,122,101,32,48,32,49,32,48]=[[109,105,110,105,109,105,122,101],[48],[49],[48]])/\(iV 32 [109,105,110,105,109,105,122,101,32,48,32,48,32,48,32,49,32,48,32,49,32,49]=[[109,105,110,105,109,105,122,101],[48],[48],[48],[49],[48],[49],[49]])/\(iV 32 [109,105,110,105,109,105,122,101,32,48,32,48,32,48,32,49,32,48,32,49]=[[109,105,110,105,109,105,122,101],[48],[48],[48],[49],[48],[49]])/\(iV 32 [109,105,110,105,109,105,122,101,32,49,32,48,32,48,32,49,32,48,32,49]=[[109,105,110,105,109,105,122,101],[49],[48],[48],[49],[48],[49]])/\
  (∀x,fZ 2 (.str ⟨#[109,105,110,105,109,105,122,101]⟩) [(.str ⟨#[100,101,116,101,114,109,105,110,105,122,101]⟩,x)]=Jp Jq)/\(∀x y,fZ 2 (.str ⟨#[109,101,97,115,117,114,101,115]⟩) [(.str ⟨#[100,101,116,101,114,109,105,110,105,122,101]⟩,x),(.str ⟨#[109,105,110,105,109,105,122,101]⟩,y)]=Jp Jq)/\
  (∀x y,kK 2 (.str ⟨#[109,105,110,105,109,105,122,101]⟩) (.str ⟨#[109,105,110,105,109,105,122,101]⟩) y [(.str ⟨#[100,101,116,101,114,109,105,110,105,122,101]⟩,x)]=[(.str ⟨#[100,101,116,101,114,109,105,110,105,122,101]⟩,x),(.str ⟨#[109,105,110,105,109,105,122,101]⟩,y)])/\(∀x y z,kK 2 (.str ⟨#[109,101,97,115,117,114,101,115]⟩) (.str ⟨#[109,101,97,115,117,114,101,115]⟩) z [(.str ⟨#[100,101,116,101,114,109,105,110,105,122,101]⟩,x),(.str ⟨#[109,105,110,105,109,105,122,101]⟩,y)]=[(.str ⟨#[100,101,116,101,114,109,105,110,105,122,101]⟩,x),(.str ⟨#[109,105,110,105,109,105,122,101]⟩,y),(.str ⟨#[109,101,97,115,117,114,101,115]⟩,z)])/\
  (∀x y z,fZ 2 (.str ⟨#[100,101,116,101,114,109,105,110,105,122,101]⟩) [(.str ⟨#[100,101,116,101,114,109,105,110,105,122,101]⟩,x),(.str ⟨#[109,105,110,105,109,105,122,101]⟩,y),(.str ⟨#[109,101,97,115,117,114,101,115]⟩,z)]=Jp (Jp x))/\(∀x y z,fZ 2 (.str ⟨#[109,105,110,105,109,105,122,101]⟩) [(.str ⟨#[100,101,116,101,114,109,105,110,105,122,101]⟩,x),(.str ⟨#[109,105,110,105,109,105,122,101]⟩,y),(.str ⟨#[109,101,97,115,117,114,101,115]⟩,z)]=Jp (Jp y))/\(∀x y z,fZ 2 (.str ⟨#[115,111,114,116]⟩) [(.str ⟨#[100,101,116,101,114,109,105,110,105,122,101]⟩,x),(.str ⟨#[109,105,110,105,109,105,122,101]⟩,y),(.str ⟨#[109,101,97,115,117,114,101,115]⟩,z)]=Jp Jq)/\
  eE .shl (.int .i64 1) (.int .i64 0)=Jp (.int .i64 1)/\tZ (.int .i64 0) [.int .i64 1]=Jp (.int .i64 0)/\tZ (.int .i64 1) [.int .i64 1]=Jp (.int .i64 1)/\tZ (.int .i64 0) [.int .i64 6]=Jp (.int .i64 0):=by
 refine⟨rfl,rfl,rfl,rfl,rfl,rfl,fun x=>rfl,fun x y=>rfl,fun x y=>rfl,fun x y z=>rfl,fun x y z=>rfl,fun x y z=>rfl,fun x y z=>rfl,rfl,rfl,rfl,rfl⟩
section
variable {tab:FuncId->Option AF} (T:HasA tab){M:Mem}{K:PV->Mem->Prop}
include T
def aGG{t:ByteArray}(ht:t=⟨#[48]⟩\/t=⟨#[49]⟩)(u:K (.bool Jr) M):au tab 76 [.str t] M K:=by
 have e (x y:ByteArray) (b:Bool) (h:decide (x=y)=b):eE .eql (.str x) (.str y)=Jp (.bool b):=by rw[aEh,h]
 have B:=e ⟨#[48]⟩ ⟨#[]⟩ Js rfl;have E:=e ⟨#[49]⟩ ⟨#[]⟩ Js rfl;have G:=e ⟨(dig 20 0).toArray⟩ ⟨#[48]⟩ Jr rfl;have I:=e ⟨(dig 20 1).toArray⟩ ⟨#[49]⟩ Jr rfl;have J:eE .shl (.int .u64 1) (.int .u64 31)=Jp (.int .u64 2147483648):=rfl;refine aB T.h76 (by simp only[PP,P14,simprocAttr,PT]) ?_;rcases ht with rfl | rfl<;>
 ·simp only[af76,PP,P14,simprocAttr,PT,PI]
  repeat (first
  | exact u
  | refine⟨by decide,?_⟩
  | ((first
   | refine aHJ T (by decide) ?_
   | refine aV T.h130 ?_
   | refine aV T.h171 ?_
   | refine aV T.h201 ?_
   | refine aV T.h200 ?_
   | refine tU ?_);simp only[qR,af130,af171,af201,af200,PP,P14,simprocAttr,PT,PI,IntKind.wrap,IntKind.signed,IntKind.bits,Fa,Dj,Es,Co,B,E,G,I,J]))
def BR{t:ByteArray}{e:Int}(ht:t=⟨#[100,101,116,101,114,109,105,110,105,122,101]⟩/\e=3\/t=⟨#[115,111,114,116,32,49]⟩/\e=6\/t=⟨#[109,105,110,105,109,105,122,101,32,48,32,49,32,48]⟩/\e=3\/t=⟨#[109,105,110,105,109,105,122,101,32,48,32,48,32,48,32,49,32,48,32,49,32,49]⟩/\e=5)(u:K (p64 e) M):au tab 53 [.str t] M K:=by
 refine eC T.h53 (by simp only[PP,P14,simprocAttr,PT]) ?_;simp only[af53];refine aC ?_;rcases ht with⟨rfl,rfl⟩ | ⟨rfl,rfl⟩ | ⟨rfl,rfl⟩ | ⟨rfl,rfl⟩<;>
 ·simp only[PP,P14,simprocAttr];refine aV T.h27 ?_;simp only[af27,PP,P14,simprocAttr,PT,PI,eq_self,IntKind.wrap,IntKind.signed,IntKind.bits,Fa,Dj,Es,Co,Bq,Hs,aFa]
  repeat (first
  | exact u
  | refine⟨by decide,?_⟩
  | ((first
   | refine LA T (c:=32) (by decide) ?_
   | refine aGG T (by simp) ?_
   | refine BT (n:=0) T (by decide) rfl ?_
   | refine BT (n:=1) T (by decide) rfl ?_
   | refine aV T.h75 ?_
   | refine aV T.h74 ?_
   | refine aV T.h129 ?_
   | refine aV T.h77 ?_
   | refine aV T.h72 ?_
   | refine aV T.h122 ?_
   | refine aV T.h123 ?_
   | refine aV T.h116 ?_
   | refine aV T.h117 ?_
   | refine aV T.h170 ?_
   | refine aV T.h118 ?_
   | refine aV T.h120 ?_
   | refine tU ?_);simp only[qR,af75,af74,af129,af77,af72,af122,af123,af116,af117,af170,af118,af120,PP,P14,simprocAttr,PT,PI,eq_self,IntKind.wrap,IntKind.signed,IntKind.bits,Fa,Dj,Es,Co,Bq,Hs,aFa]))
def OL{t:ByteArray}{u:Nat}{e:Int}(ht:t=⟨#[109,105,110,105,109,105,122,101,32,48,32,48,32,48,32,49,32,48,32,49]⟩/\u=0/\e=0\/t=⟨#[109,105,110,105,109,105,122,101,32,49,32,48,32,48,32,49,32,48,32,49]⟩/\u=1/\e=1)(V:K (p64 e) M):au tab 53 [.str t] M K:=by
 refine eC T.h53 (by simp only[PP,P14,simprocAttr,PT]) ?_;simp only[af53];refine aC ?_;have Y:(In.d D0).done 0:=by show bF D0 1=bF D0 0;decide+kernel
 have Z:(In.d D0).chk=0:=by show fE D0=0;decide+kernel
 rcases ht with⟨rfl,B,he⟩ | ⟨rfl,B,he⟩<;>
 ·simp only[PP,P14,simprocAttr];refine jV T.h27 ?_;simp only[af27]
  iterate 9
   refine aE (aC ?_);simp only[PP,P14,simprocAttr,PT,PI,eq_self,IntKind.wrap,IntKind.signed,IntKind.bits,Fa,Dj,Es,Co,Bq,Hs,aFa]
   repeat (first
   | refine⟨by decide,?_⟩
   | ((first
    | refine LA T (c:=32) (by decide) ?_
    | refine aGG T (by simp) ?_
    | refine BT (n:=0) T (by decide) rfl ?_
    | refine BT (n:=1) T (by decide) rfl ?_
    | refine aV T.h75 ?_
    | refine aV T.h74 ?_
    | refine aV T.h129 ?_
    | refine aV T.h77 ?_
    | refine aV T.h72 ?_
    | refine aV T.h122 ?_
    | refine aV T.h123 ?_
    | refine aV T.h116 ?_
    | refine aV T.h117 ?_
    | refine aV T.h170 ?_
    | refine aV T.h118 ?_
    | refine aV T.h120 ?_
    | refine tU ?_);simp only[qR,af75,af74,af129,af77,af72,af122,af123,af116,af117,af170,af118,af120,PP,P14,simprocAttr,PT,PI,eq_self,IntKind.wrap,IntKind.signed,IntKind.bits,Fa,Dj,Es,Co,Bq,Hs,aFa]))
  refine aG (b:=(zj 5++ .ptr 0 0 0:: .aa:: .aa::p64 u:: .func (.func 124) [] [.ptr 3 0 0]::zj 95)) ?_ (by subst B;simp only[PW]);refine cK (GStep.jd (b:=(zj 5++ .ptr 0 0 0:: .aa:: .aa::p64 u:: .func (.func 124) [] [.ptr 3 0 0]::zj 95)) (cj2:=[.sl Js Jr 1 1 [p64 0]]) 6 7 (Au _) rfl rfl (by decide) (wF _) ⟨.inr (.inr ⟨1,0,1,rfl,by decide,rfl⟩),trivial⟩ rfl) ?_;refine cK (GStep.jd (b:=(zj 5++ .ptr 0 0 0:: .aa:: .aa::p64 u:: .func (.func 124) [] [.ptr 3 0 0]::zj 95)) (cj2:=[p64 0,p64 0,.sl Js Jr 1 1 [.sl Js Jr 1 1 [p64 0]],.ref 8 0 1 0 1]) 7 3 (Au _) rfl rfl (by decide) (wF _) ⟨.inr (.inl rfl),.inr (.inl rfl),.inr (.inr ⟨1,0,1,rfl,by decide,rfl⟩),.inr (.inl rfl),trivial⟩ rfl) ?_;refine cK (GStep.jd (b:=(zj 5++ .ptr 0 0 0:: .aa:: .aa::p64 u:: .func (.func 124) [] [.ptr 3 0 0]::zj 95)) (cj2:=dfC Js Jr Js Jr Js Jr D0) 8 3 (Au _) rfl rfl (by decide) (wF _) ⟨.inr (.inl rfl),.inr (.inl rfl),.inr (.inl rfl),.inr (.inr ⟨1,0,1,rfl,by decide,rfl⟩),trivial⟩ rfl) ?_;refine aE (aC ?_);simp only[PP,P14,simprocAttr];refine aI6 T (q:=3) (i:= .d D0) (⟨by decide,by decide,by decide⟩:BnD D0) (fun _=>(by decide:(1:Nat)<=99)) trivial rfl (by decide) ⟨fun I=>absurd Z I,fun I a0 b L StF A0 M0 J E G hS hX=>?_⟩;have O:=J.X A0 E G;simp only[PP,P14,simprocAttr];refine aE (aC ?_);simp only[PP,P14,simprocAttr];refine aE (aC ?_);simp only[PP,P14,simprocAttr];refine O.step0 hS (by omega) (by omega) (fun m Q bb p1 p2 p3 R S p6=>?_) fun m Q p1 p2 p3 R S=>R.elim;obtain rfl:m=0:=by
   rcases Du m with q | q
   ·exact q
   ·exact absurd Y (S 0 (Ab _) q).1
  obtain⟨vj,wj,U,gj⟩:=O.job 0 Q p6;simp only[PP,P14,simprocAttr,gj];subst B he;simp only[PP,P14,simprocAttr];try refine aC ?_
  try simp only[PP,P14,simprocAttr,MI]
  exact V
end
end Go.Am.Ar
--P14
namespace Go.Am.Ar
open Go.Am.PV renaming aa->Zj
open Go.Am renaming jc->P1,lg->P2,kq->P3,ep->P4,bl.under->P5,fy->P6,dr->P7,bf->P8,pev->P9,iw->P10,bd->P11,jl->P12,dw->P13,fY->P14,AO.effect->P15
open List renaming replicate->L1
def N0:NF:=⟨1,3,[0],[2],[⟨0,0,0,0⟩,⟨0,1,1,0⟩,⟨1,2,0,0⟩]⟩
def aBN:gF N0=0:=by decide+kernel
def aJi:BnN N0:=⟨by decide,by decide,by decide,by decide⟩
def aIM:rwK N0 0=[]/\fnK N0 0=[]/\dP (stK N0 0)=[[0]]:=by decide+kernel
def aIL:rwK N0 2=[[0,1],[2,3]]/\fnK N0 2=[Js,Js]/\dP (stK N0 2)=[[0],[0,1],[0,2],[0,1,2]]:=by decide+kernel
def aHA:(stK N0 0).length=1/\(stK N0 1).length=2/\(stK N0 2).length=4/\(stK N0 3).length=4/\(stK N0 4).length=4:=by decide+kernel
def aHz:(In.n N0).mn 2=⟨#[100,101,116,101,114,109,105,110,105,122,101,32,50,32,49,32,51,32,49,32,48,32,49,32,50,32,51,32,48,32,48,32,48,32,48,32,48,32,49,32,49,32,48,32,49,32,50,32,48,32,48]⟩:=by decide+kernel
def aBM(m:Nat):¬(In.n N0).je m:=In.oe (i:= .n N0) aBN (by show(3:Int)<=12;omega) m
section
variable {tab:FuncId->Option AF} (T:HasA tab){M:Mem}{K:PV->Mem->Prop}
include T
def aIY(u:K (.agg (nfC Jr Jr Jr Jr Jr Jr N0)) M):au tab 51 [] M K:=by refine aB T.h51 (by simp only[PP,P14,simprocAttr]) ?_;simp only[af51,PP,P14,simprocAttr];exact u
def W7{k:Int}(u:K (.tuple [.bool Js,p64 12]) M):au tab 18 [.aq,p64 k] M K:=by refine aV T.h18 ?_;simp only[af18,PP,P14,simprocAttr,PI];exact u
def JW(hA:tab 17=Jp (.fn af17))(hk:K (.bool Jr) M):au tab 17 [] M K:=by
 obtain⟨l0,l1,l2,l3,l4⟩:=aHA;obtain⟨U,V,Y⟩:=aIM;obtain⟨Z,a0,a1⟩:=aIL;refine eC hA (by simp only[PP,P14,simprocAttr]) ?_;simp only[af17];refine aE (aC ?_);simp only[PP,P14,simprocAttr];refine aE (aC ?_);simp only[PP,P14,simprocAttr];refine aIY T ?_;simp only[PP,P14,simprocAttr];refine aGt T aJi rfl ⟨fun hc=>absurd aBN hc,fun _ a3 b L St A0 M0 J hb E hS hX=>?_⟩;have B:=J.X A0 hb E;have hL:=B.len _ _ hS;simp only[PP,P14,simprocAttr];refine aE (aC ?_);simp only[PP,P14,simprocAttr];refine aE (aC ?_);simp only[PP,P14,simprocAttr];refine B.res0 hS fun r hr=>?_;obtain⟨rfl,_⟩:=hr;rw[U,V,Y];have G:∀(I:Mem) (x:bl),I.length=L->(I++[x])[L]? =Jp x:=fun I x h=>by rw[<-h,gk0];rfl
 have O:∀(I:Mem) (x y:bl),I.length=L->(I++[x]).set L y=I++[y]:=fun I x y h=>by rw[<-h,sk0];rfl
 have v1:N0.vs=1:=rfl;simp only[PP,P14,simprocAttr,Res.pv,v1,hL,G _ _ hL,O _ _ _ hL];refine aE (aC ?_);simp only[PP,P14,simprocAttr,G _ _ hL,O _ _ _ hL];refine nD (xs:=[0]) (ys:=[0]) T (by decide) ?_;simp only[PP,P14,simprocAttr,G _ _ hL,O _ _ _ hL,eq_self];refine aE (aC ?_);simp only[PP,P14,simprocAttr];refine B.step _ _ hS _ _ _ (by omega) (by omega) (fun R M1 b1 p1 p2 p3 p4 p5 S=>?_) fun m M' _ _ _ p _=>absurd p (aBM m);have d0:¬(In.n N0).done 0:=by show ¬(stK N0 0).length<=0;omega
 have d1:¬(In.n N0).done 1:=by show ¬(stK N0 1).length<=1;omega
 have d2:¬(In.n N0).done 2:=by show ¬(stK N0 2).length<=2;omega
 have d3:¬(In.n N0).done 3:=by show ¬(stK N0 3).length<=3;omega
 have d4:(In.n N0).done 4:=by show(stK N0 4).length<=4;omega
 obtain⟨rfl,rfl⟩:R=2/\b1=Js:=by
  have hb:b1=Js:=by
   cases b1 with
   | false=>rfl
   | true=>
    have:=p3.1 rfl;have h3:R=0\/R=1\/R=2:=by omega
    rcases h3 with rfl | rfl | rfl
    ·exact absurd this d0
    ·exact absurd this d1
    ·exact absurd this d2
  exact⟨by have:=p4 hb;omega,hb⟩
 have u:=B.len _ _ S;simp only[PP,P14,simprocAttr];refine aE (aC ?_);simp only[PP,P14,simprocAttr];refine B.res _ _ S _ _ fun r hr=>?_;obtain⟨rfl,_⟩:=hr;rw[Z,a0,a1];simp only[PP,P14,simprocAttr,Res.pv,v1,G _ _ u,O _ _ _ u];refine aE (aC ?_);simp only[PP,P14,simprocAttr,G _ _ u,O _ _ _ u];refine oU (xs:=[[0],[0,1],[0,2],[0,1,2]]) (ys:=[[0],[0,1],[0,2],[0,1,2]]) T (by decide) (by decide) ?_;simp only[PP,P14,simprocAttr,G _ _ u,O _ _ _ u,eq_self];refine oU (xs:=[[0,1],[2,3]]) (ys:=[[0,1],[2,3]]) T (by decide) (by decide) ?_;simp only[PP,P14,simprocAttr,G _ _ u,O _ _ _ u,eq_self];refine OO (xs:=[Js,Js]) (ys:=[Js,Js]) T (by decide) ?_;simp only[PP,P14,simprocAttr,G _ _ u,O _ _ _ u,eq_self];refine J.sav A0 hb E 2 _ S (by omega) _ _ ?_;have q1:eE .neq (.str ((In.n N0).mn 2)) (.str ⟨#[100,101,116,101,114,109,105,110,105,122,101,32,50,32,49,32,51,32,49,32,48,32,49,32,50,32,51,32,48,32,48,32,48,32,48,32,48,32,49,32,49,32,48,32,49,32,50,32,48,32,48]⟩)=Jp (.bool Js):=by rw[<-aHz,UT];simp
 simp only[PP,P14,simprocAttr,PT,q1];refine aE (aC ?_);simp only[PP,P14,simprocAttr];refine B.step _ _ S _ _ _ (by omega) (by omega) (fun Q M2 b2 t1 t2 t3 t4 t5 t6=>?_) fun m M' _ _ _ p _=>absurd p (aBM m);obtain⟨rfl,rfl⟩:Q=4/\b2=Jr:=by
  have h4:Q<=4:=Cd fun q=>(t5 4 (by omega) (by omega)).1 d4;have hb:b2=Jr:=by
   cases b2 with
   | true=>rfl
   | false=>have:=t4 rfl;omega
  have:=t3.1 hb;have h3:Q=2\/Q=3\/Q=4:=by omega
  rcases h3 with rfl | rfl | rfl
  ·exact absurd this d2
  ·exact absurd this d3
  ·exact⟨rfl,hb⟩
 simp only[PP,P14,simprocAttr];refine aE (aC ?_);simp only[PP,P14,simprocAttr];refine B.step _ _ t6 _ _ _ (by omega) (by omega) (fun m3 M3 b3 u1 u2 u3 u4 u5 u6=>?_) fun m M' _ _ _ p _=>absurd p (aBM m);obtain rfl:m3=4:=by omega
 obtain rfl:b3=Jr:=u3.2 d4;simp only[PP,P14,simprocAttr];refine aE (aC ?_);simp only[PP,P14,simprocAttr];refine aE (aC ?_);simp only[PP,P14,simprocAttr];refine W7 T ?_;simp only[PP,P14,simprocAttr];obtain⟨vj,wj,a2,gj⟩:=B.job _ _ u6;refine aE (aC ?_);simp only[PP,P14,simprocAttr];refine FT T (fM gj _) (by omega) ?_;simp only[PP,P14,simprocAttr];refine aE (aC ?_);simp only[PP,P14,simprocAttr];refine B.ou T u6 ?_;simp only[PP,P14,simprocAttr];refine aC ?_;simp only[PP,P14,simprocAttr];refine BR (e:=3) T (.inl ⟨rfl,rfl⟩) ?_;simp only[PP,P14,simprocAttr];refine BR (e:=6) T (.inr (.inl ⟨rfl,rfl⟩)) ?_;simp only[PP,P14,simprocAttr];refine BR (e:=3) T (.inr (.inr (.inl ⟨rfl,rfl⟩))) ?_;simp only[PP,P14,simprocAttr];refine BR (e:=5) T (.inr (.inr (.inr ⟨rfl,rfl⟩))) ?_;simp only[PP,P14,simprocAttr];refine OL T (.inl ⟨rfl,rfl,rfl⟩) ?_;simp only[PP,P14,simprocAttr];refine OL T (.inr ⟨rfl,rfl,rfl⟩) ?_;simp only[PP,P14,simprocAttr];exact hk
end
def In.Bw.all{i:In}(h:i.Bw):BnN i.N/\BnD i.D/\Bnd i.ow i.pr i.su:=by
 have b:(0:Nat)<big:=by decide
 have u:BnN ⟨0,0,[],[],[]⟩:=⟨b,b,b,fun x h=>by cases h⟩;have y:BnD ⟨0,0,[],[]⟩:=⟨b,(fun x h=>by cases h),b⟩;have B:Bnd [] [] []:=⟨b,b,b,fun x h=>by cases h⟩
 cases i with
 | n N=>exact⟨h,y,B⟩
 | d D=>exact⟨u,h,B⟩
 | g ow pr su=>exact⟨u,y,h⟩
def aBQ{D:Nat->Prop}(he:∀m,(∀j,j<=m->¬D j)->m<100000){m y B:Nat}{x u:Int}{G:Bool}(R:0<=x)(L:∀j,j<m->¬D j)(S:(y:Int)<=m+x)(M:G=Jr↔D y)(O:G=Js->(y:Int)=m+x)(Q:∀j,m<=j->j<y->¬D j)
  (T:u=m+min x 1048576) (U:(B:Int)<=u\/B=0) (J:∀j,j<B->¬D j) (E:u<=B\/D B):B=y:=by
 have K:∀j,j<y->¬D j:=fun j I=>by
  by_cases q:j<m
  ·exact L j q
  ·exact Q j (by omega) I
 rcases Fk B y with q | q | q
 ·have hd:=K B q;rcases E with E | E
  ·have:=he B fun j I=>K j (by omega);omega
  ·exact absurd E hd
 ·exact q
 ·have hd:=J y q
  cases G with
  | true=>exact absurd (M.1 rfl) hd
  | false=>have h1:=O rfl;have:=he y fun j I=>J j (by omega);omega
abbrev rsL(r:Res):List PV:=[p64 r.vs,p64 0,slR Js Jr Js Jr .i64 r.rows,slB Js Jr r.de,slR Js Jr Js Jr .i64 r.kh,slI Js Jr .i64 r.cls,slM Js Jr r.ms]
def aEs(n v:Nat)(r:Res):aI n (.cells 0 v (rsL r))=Jr:=r.nk n
structure MtS where
 t:Nat
 m:Nat
 v:Nat
 f:Bool
 o:Bool
 M:Mem
structure MtI (tab:FuncId->Option AF) (i:In) (cc:List PV) (jid b L:Nat) (StF:Mem->Nat->Mem->Prop) (s:MtS):Prop where
 t10:s.t<=10
 at_:At tab i jid b L StF s.m s.M
 cm:jq s.M
 g1:s.M[1]? =Jp (.cells 0 s.v (i.cs s.f s.o))
 nd:∀j,j<s.m->¬i.done j
section
variable {tab:FuncId->Option AF} (T:HasA tab){M:Mem}{K:PV->Mem->Prop}
include T
def YO{k:Int}{N:NF}{D:DF}{ow pr:List Int}{su:List (List Int)}{E:List Int}(hN:∀x∈N.es,(0<=x.ps/\x.ps<=255)/\(0<=x.ng/\x.ng<=255))(hO:∀x∈ow,0<=x)(b1:∀x∈E,x<=9223372036854775807):
  Top tab (af3).body (jl [.agg (csC Js Js k N D ow pr su),slI Js Js .i64 E] (af3).ntmps) [] (xA (af3).results) (xA (af3).results):=by
 obtain⟨Q,hF⟩:=aFh k N D ow pr su hN;have hP:=aCx (k:=k) (N:=N) (D:=D) (pr:=pr) (su:=su) hO;have h4:=Y2 k N D ow pr su;simp only[af3];refine aDD ?_;refine gE (gA ?_);simp only[PP,simprocAttr,aZ];refine gE (gA ?_);simp only[PP,simprocAttr,aZ];refine OJ T ?_;simp only[PP,simprocAttr,aZ];generalize hi:E2 k N D ow pr su=i at*;refine kQ (b:=(.aa::slI Js Js .i64 E:: .ptr 0 0 0:: .aa:: .bool Js:: .ptr 1 0 0::zj 134)) (N:=[.cells 0 0 (csC Js Js k N D ow pr su),.cells 0 1 (i.cs Js Jr)]) ?_ (by simp only[PW]) rfl;refine aFY (aDC (n:=140) (p:=5) (pc:=2) (q:=1) (vq:=slI Js Js .i64 E) (cc:=csC Js Js k N D ow pr su) (i:=i) (Fb:=(.aa::slI Js Js .i64 E:: .ptr 0 0 0:: .aa:: .bool Js:: .ptr 1 0 0:: .aq::p64 i.chk::zj 132)) (Fo:=fun u=>(.aa::slI Js Js .i64 E:: .ptr 0 0 0:: .aa:: .bool Js:: .ptr 1 0 0:: .ptr u 0 0::p64 0::zj 132)) (aHR ..) (aFt ..) (fun _=>JS ..) rfl ?_ (by simp[slI]) (by decide) ?_ (by decide) ⟨rfl,rfl,rfl⟩ (fun _=>⟨rfl,rfl,rfl⟩) ?_ (fun u=>?_) (fun o R Rr Re hk=>?_) (fun M' hM=>?_) (fun y=>?_) fun y u b L StF Mm G b2 c4 g0 g1 b3=>?_)
 ·simp only[slI,odV,IY,Az,Bz]
 ·simp only[mX,mY,Ai,Aj,eD,PV.age,JZ,slI,iK]
 ·rfl
 ·rfl
 ·have b4:([bl.cells 0 0 (csC Js Js k N D ow pr su),bl.cells 0 1 (i.cs Js o)]:Mem).all (aI 2)=Jr:=by simp[aI,aD,PV.under,fN,b9,cM,eK]
  refine aE (aC ?_);simp only[PP,simprocAttr,aZ];refine aAG T Q hP b4 ⟨fun y=>?_,fun y u b L StF A0 M0 J hb a0 hS hX G hZ=>?_⟩
  ·simp only[PP,simprocAttr,aZ];refine aE (aC ?_);simp only[PP,simprocAttr,aZ];refine OJ T ?_;rw[hi];simp only[PP,simprocAttr,aZ];refine NW T ?_;simp only[PP,simprocAttr];refine aAZ T Q.w.1 ?_;simp only[PP,simprocAttr,PI,y];refine aC ?_;simp only[PP,simprocAttr];exact⟨_,(by simp only[PW]),rfl,hk.bad y⟩
  ·have JX:=J.X A0 hb a0;obtain⟨jv,jw,a7,a3⟩:=JX.job 0 M0 hS;have b5:=hk.ok y u b L StF A0 M0 J hb a0 hS hX G hZ;obtain⟨X,hX⟩:=hX;obtain⟨Z,hZ,_⟩:=hZ;have g0:M0[0]? =Jp (.cells 0 0 (csC Js Js k N D ow pr su)):=by rw[hZ,hX];rfl
   have g1:M0[1]? =Jp (.cells 0 1 (i.cs Js o)):=by rw[hZ,hX];rfl
   simp only[PP,simprocAttr,aZ];refine aE (aC ?_);simp only[PP,simprocAttr,aZ,g0,g1];refine OJ T ?_;rw[hi];simp only[PP,simprocAttr,aZ];refine NW T ?_;simp only[PP,simprocAttr];refine aAZ T Q.w.1 ?_;simp only[PP,simprocAttr,PI,y,a3];refine aC ?_;simp only[PP,simprocAttr,g0,g1];exact⟨_,(by simp only[PW]),rfl,b5⟩
 ·obtain⟨bN,bD,bG⟩:=Q.w.1.all;have hl:(i.cs Js Jr).length=13:=rfl;refine WH (KC (gg:=0) (ver:=1) (o:=0) rfl hM (BZ (gg:=0) (ver:=1) (cs:=i.cs Js Jr) rfl hM (by rw[hl];decide) rfl (YE T bN) ?_));refine WH (KC (gg:=0) (ver:=1) (o:=0) rfl hM (BZ (gg:=0) (ver:=1) (cs:=i.cs Js Jr) rfl hM (by rw[hl];decide) rfl (YF T bD) ?_));exact KC (gg:=0) (ver:=1) (o:=0) rfl hM (BZ (gg:=0) (ver:=1) (cs:=i.cs Js Jr) rfl hM (by rw[hl];decide) rfl (R5 T bG) trivial)
 ·refine gE (gA ?_);simp only[PP,simprocAttr,aZ];refine OJ T ?_;rw[hi];simp only[PP,simprocAttr,aZ];refine gE (gA ?_);simp only[PP,simprocAttr,y];refine JW T T.qd ?_;simp only[PP,simprocAttr];unfold xA;simp only[PP,simprocAttr]
 ·refine gE (gA ?_);simp only[PP,simprocAttr,aZ,g0,g1];refine OJ T ?_;rw[hi];simp only[PP,simprocAttr,aZ,g1];have l0:=List.getElem?_eq_some_iff.1 g1;have c1:=b3.set (k:=1) (o:= .cells 0 2 (i.cs Js Jr)) (JS ..);have a1:=b2.set (k:=1) (o:= .cells 0 2 (i.cs Js Jr)) (by omega) (JS ..);have q1:(Mm.set 1 (.cells 0 2 (i.cs Js Jr)))[1]? =Jp (.cells 0 2 (i.cs Js Jr)):=Ck l0.1;refine kQ (b:=(.aa::slI Js Js .i64 E::zj 3++ .ptr 1 0 0:: .ptr u 0 0::p64 0::zj 132)) (N:=Mm.set 1 (.cells 0 2 (i.cs Js Jr))) ?_ (by simp only[PW]) rfl;generalize Mm.set 1 (.cells 0 2 (i.cs Js Jr))=M1 at*;refine gE (gA ?_);simp only[PP,simprocAttr];refine gE (gA ?_);simp only[PP,simprocAttr];have nf:i.chk=0->∀m,¬i.je m:=fun y=>In.oe y hF;refine gE (gE (gA ?_));simp only[PP,simprocAttr];refine ED ?_;refine Z1 (fun s=>MtI tab i (csC Js Js k N D ow pr su) u b L StF s) (fun s=>(.aa::slI Js Js .i64 E::zj 3++ .ptr 1 0 0:: .ptr u 0 0:: .aa::p64 s.m::p64 s.t::zj 130)) (fun s=>s.M) (fun s=>10-s.t) ⟨0,0,2,Js,Jr,M1⟩ ⟨Au _,a1,c1,q1,fun j h=>absurd h (Ed _)⟩ (by simp only[PW]) rfl ?_;intro s I ih;refine TI (by kernel_rfl) ?_;have g:=I.g1;have hA:=I.at_;have hb:=hA.len;have a9:∀m,(∀j,j<m->¬i.done j)->m<=100000:=fun m h=>by
   rcases Du m with q | q
   ·omega
   ·have:=In.pq y Q hF h4 (m:=m-1) fun j hj=>h j (by omega);omega
  have hm:=a9 s.m I.nd;refine gE (gA ?_);simp only[PP,simprocAttr];by_cases d1:(s.t:Int)<=E.length
  ·by_cases d2:(s.t:Int)<10
   ·simp only[PP,simprocAttr,d1,d2];refine gE (ED ?_);refine gE (gA ?_);simp only[PP,simprocAttr];refine gE (J4 (Qn':=fun bb Nm=>∃x:Int,x<=9223372036854775807/\db bb (.aa::slI Js Js .i64 E::zj 3++ .ptr 1 0 0:: .ptr u 0 0:: .aa::p64 s.m::p64 s.t::p64 x::zj 129)/\Nm=s.M) (gA ?_) ?_)
    ·simp only[PP,simprocAttr];by_cases d3:(s.t:Int)<E.length
     ·have i0:(0:Int)<=s.t:=by omega
      obtain⟨x,gx⟩:=aK (xs:=E) (k:=s.t) (by omega);simp only[PP,simprocAttr,d3,i0,gx];exact⟨x,b1 x (Af gx),(by simp only[PW])⟩
     ·simp only[PP,simprocAttr,d3];exact⟨0,by omega,(by simp only[PW])⟩
    rintro bb Nm ⟨x,hx,S,rfl⟩;refine kQ ?_ S rfl;refine gE (J4 (Qn':=fun bb Nm=>∃(O:Nat) (bo:Bool) (er:Int),MtI tab i (csC Js Js k N D ow pr su) u b L StF ⟨s.t,O,s.v,s.f,s.o,Nm⟩/\(x<0->O=s.m/\bo=Js/\er=1)/\(0<=x->er=0/\(O:Int)<=s.m+x/\(bo=Jr↔i.done O)/\(bo=Js->(O:Int)=s.m+x)/\∀j,s.m<=j->j<O->¬i.done j)/\db bb (.aa::slI Js Js .i64 E::zj 3++ .ptr 1 0 0:: .ptr u 0 0:: .aa::p64 s.m::p64 s.t::p64 x:: .bool bo::p64 er::zj 127)) (gA ?_) ?_)
    ·simp only[PP,simprocAttr];by_cases B:x<0
     ·obtain⟨A,X,Z,e,h1,h2,h3⟩:=hA.at_;obtain⟨jv,jw,a7,a3⟩:=(hA.J.X A h1 h2).job _ _ h3;refine FT T (by rw[e];exact fM a3 Z) B ?_;simp only[PP,simprocAttr];exact⟨s.m,Js,1,I,fun _=>⟨rfl,rfl,rfl⟩,fun h=>absurd B (by omega),(by simp only[PW])⟩
     ·refine hA.step I.cm (by omega) hx (nf y) fun U M' bo p1 p2 p3 p4 p5 a2 c2 hl _=>?_;simp only[PP,simprocAttr];exact⟨U,bo,0,⟨I.t10,a2,c2,(hl.2 1 (by omega)).trans g,fun j hj=>by
       by_cases q:j<s.m
       ·exact I.nd j q
       ·exact p5 j (by omega) hj⟩,fun h=>absurd h B,fun _=>⟨rfl,p2,p3,p4,p5⟩,(by simp only[PW])⟩
    rintro bb Nm ⟨O,bo,er,I2,b6,b7,S⟩;refine kQ ?_ S rfl;refine gE (J4 (Qn':=fun bb Nm=>MtI tab i (csC Js Js k N D ow pr su) u b L StF ⟨s.t,O,s.v,s.f,s.o,Nm⟩/\db bb (.aa::slI Js Js .i64 E::zj 3++ .ptr 1 0 0:: .ptr u 0 0:: .aa::p64 O::p64 s.t::zj 130)) (gA ?_) ?_)
    ·have g2:=I2.g1;simp only at g2;simp only[PP,simprocAttr];refine QIf.intro (fun B=>?_) fun B=>?_
     ·obtain⟨rfl,rfl,rfl⟩:=b6 B;simp only[PP,simprocAttr,B];exact⟨I2,(by simp only[PW])⟩
     ·obtain⟨rfl,p2,p3,p4,p5⟩:=b7 (by omega);simp only[PP,simprocAttr,B,g2];refine NW T ?_;have e2:IntKind.i64.wrap ((s.m:Int)+min x 1048576)=s.m+min x 1048576:=by rw[wrap64]<;>omega
      simp only[PP,simprocAttr,CW,e2];refine aA0 T y Q hP (by omega) fun U q1 q2 r hr b fl hb a4 a5=>?_;have b8:fl=Js:=by
       cases fl with
       | false=>rfl
       | true=>exact absurd (a4 rfl) (nf y _)
      subst b8;obtain rfl:=aBQ (fun m h=>In.pq y Q hF h4 h) (by omega) I.nd p2 p3 p4 p5 rfl q1 (fun j hj=>(q2 j hj).1) (a5 rfl);have c0:b=bo:=by rw[Bool.eq_iff_iff,hb,p3]
      subst c0;simp only[PP,simprocAttr,gk0,sk0,Res.pv,CQ];have l1:=(List.getElem?_eq_some_iff.1 g2).1;exact⟨⟨I2.t10,I2.at_.more _,I2.cm.more (by simp only[Cv,List.all_nil,aEs,Bz]),(Bm l1).trans g2,I2.nd⟩,(by simp only[PW])⟩
    rintro bb Nm ⟨I3,S⟩;refine kQ ?_ S rfl;refine Z3 (b:=(.aa::slI Js Js .i64 E::zj 3++ .ptr 1 0 0:: .ptr u 0 0:: .aa::p64 O::p64 s.t::zj 130)) ?_ rfl ?_
    ·simp only[mX,mY,Ai,Aj,eD,PV.age,JZ,slI,iK]
    have a6:=I3.at_.age G;have aj:=I3.at_.jna G;have cj:=I3.cm.jna;have g4:(agM Nm)[1]? =Jp (.cells 0 s.v (i.cs Js Js)):=by have g:=I3.g1;simp only at g;rw[Ap,g,<-JR i s.f s.o];rfl
    change lB tab _ _ (agM Nm) _ _ _;generalize agM Nm=N4 at*;refine gE (gA ?_);simp only[PP,simprocAttr];refine a6.res fun r hr=>?_;simp only[PP,simprocAttr,gk0,sk0,Res.pv,CQ];have l4:=(List.getElem?_eq_some_iff.1 g4).1;have g5:∀Y:Mem,(N4++Y)[1]? =Jp (.cells 0 s.v (i.cs Js Js)):=fun Y=>(Bm l4).trans g4;have c3:O<=100000:=a9 O I3.nd;have gj:(jkM N4)[1]? =Jp (.cells 0 s.v (i.cs Js Js)):=by rw[Ap,g4];show Jp (bl.cells 0 s.v (gW (i.cs Js Js)))=_;rw[aHQ]
    refine gE (gA ?_);simp only[PP,simprocAttr,g5];refine NW T ?_;simp only[PP,simprocAttr];refine aA0 T y Q hP (by omega) fun U q1 q2 r' V b' fl c5 a4 a5=>?_;obtain rfl:U=O:=by
     cases fl with
     | true=>exact absurd (a4 rfl) (nf y _)
     | false=>
      rcases Fk U O with q | q | q
      ·rcases a5 rfl with h | h
       ·omega
       ·exact absurd h (I3.nd U q)
      ·exact q
      ·omega
    obtain rfl:=In.rp_eq V hr;simp only[PP,simprocAttr,gk0,sk0,gk,sk,Res.pv,CQ,Ac];refine gE (gA ?_);simp only[PP,simprocAttr,gk0,gk];refine aG9 T (r:=r') (In.qp y Q V) (In.qq y V) ?_;have q1:eE .neq (.str (i.mn U)) (.str (i.mn U))=Jp (.bool Js):=by rw[UT];simp
    simp only[PP,simprocAttr];refine(a6.more _).ou T ?_;simp only[PP,simprocAttr,eq_self];refine(a6.more _).sav (As c3 (by decide)) ?_;simp only[PP,simprocAttr,g5];refine NW T ?_;simp only[PP,simprocAttr];refine aHb T y Q hP (by omega) ?_;simp only[PP,simprocAttr,q1];refine aDE (BZ (gg:=0) (o:=0) (ver:=1) (cs:=rsL r') rfl (by rw[gk0];rfl) (by simp) rfl (YD T (In.qp y Q V)) ?_);have e4:(N4++[bl.cells 0 1 (rsL r'),.cells 0 1 (rsL r')]).map (bl.kx gW)=jkM N4++[.cells 0 1 (gW (rsL r')),.cells 0 1 (gW (rsL r'))]:=by
     rw[Bh];rfl
    refine kQ (b:=gW (.aa::slI Js Js .i64 E::zj 3++ .ptr 1 0 0:: .ptr u 0 0:: .aa::p64 U::p64 s.t::zj 130)) ?_ (aA1 (by simp only[PP,simprocAttr,PW])) e4;refine HL (jkM N4).length ?_;refine HL ((jkM N4).length+1) ?_;simp only[sk0,sk,mX,mY,Ai,Aj,List.set_cons_zero,List.set_cons_succ,gW,PV.jnk,VH,BN,mO,slI];refine gA ?_;have hw:=aA (k:=s.t) (by show _<1000000000000;omega);simp only[PP,simprocAttr,hw];refine kQ (ih ⟨s.t+1,U,s.v,Js,Js,jkM N4++[.gone,.gone]⟩ ⟨by show s.t+1<=10;omega,aj.more _,cj.more (by simp[aI]),(Bm (List.getElem?_eq_some_iff.1 gj).1).trans gj,I3.nd⟩ (by show 10-(s.t+1)<10-s.t;omega)) (by simp only[PW]) rfl
   ·simp only[PP,simprocAttr,d1,d2];refine gA ?_;simp only[PP,simprocAttr];refine JW T T.qd ?_;simp only[PP,simprocAttr];unfold xA;simp only[PP,simprocAttr]
  ·simp only[PP,simprocAttr,d1];refine gA ?_;simp only[PP,simprocAttr];refine JW T T.qd ?_;simp only[PP,simprocAttr];unfold xA;simp only[PP,simprocAttr]
end
abbrev aHF:Ty:= .pair (.slice (.int .u8)) (.pair (.slice (.int .i64)) (.pair (.slice (.slice (.int .i64))) .unit))
def aC2{k:IntKind}{v:AV}{h:H}(hs:ShV (.slice (.int k)) v h):∃(u:List Int),az (wH h) (slI Js Js k u) v/\u.length<=9223372036854775807/\∀x∈u,k.min<=x/\x<=k.max:=by obtain⟨y,hs,rfl⟩:=hs;obtain⟨v,u,rfl,p,q,r⟩:=pH hs;exact⟨u,p,q,r⟩
def aAV{u:FuncId->Option AF}{g:FuncId}{args:List AV}{h:H}(B:C (lim u) g args h fun v _=>v= .bool Jr):∃n y,(run u n).call g args h=Jp (.bool Jr,y):=by unfold C at B;obtain⟨v,y,he,rfl⟩:=B;obtain⟨n,E⟩:=(kL u).1 he;exact⟨n,y,E⟩
def aIE{A B:Ty}{args:List AV}{h:H}(hs:aDG [A,B] args h):∃a b,args=[a,b]/\ShV A a h/\ShV B b h:=by
 match args,hs with
 | [a,b],⟨h1,h2,_⟩=>exact⟨a,b,rfl,h1,h2⟩
abbrev my:Ty:= .pair (.int .i64) (.pair (.int .i64) (.pair (.int .u8) (.pair (.int .u8) .unit)))
abbrev aIK:Ty:= .pair (.int .i64) (.pair (.int .i64) (.pair (.slice (.int .i64)) (.pair (.slice (.int .i64)) (.pair (.slice my) .unit))))
def aEn{h:H}{cs:List AV}(hs:Sh my cs h):∃e:Eg,e.fit/\cs.length=4/\ak (wH h) (egC e) cs:=by obtain⟨O,Q,rfl,⟨a,rfl,y,B⟩,R,S,rfl,⟨b,rfl,E,G⟩,T,U,rfl,⟨p,rfl,I,J⟩,V,K,rfl,⟨q,rfl,L,M⟩,u⟩:=hs;have u:K=[]:=u;subst u;exact⟨⟨a,b,p,q⟩,⟨⟨y,B⟩,⟨E,G⟩,⟨I,J⟩,⟨L,M⟩⟩,rfl,.cons (.int _ _) (.cons (.int _ _) (.cons (.int _ _) (.cons (.int _ _) (.nil _))))⟩
def aAO{h:H} :∀{n:Nat} {cells:List AV},cells.length=n*4->(∀i,i<n->Sh my ((cells.drop (i*4)).take 4) h)->∃u:List Eg,u.length=n/\ak (wH h) (egL u) cells/\∀x∈u,x.fit
 | 0,cells,hl,_=>by have:cells=[]:=List.length_eq_zero_iff.1 (by simpa using hl);subst this;exact⟨[],rfl,.nil _,fun x B=>by cases B⟩
 | n+1,cells,hl,hs=>by
  obtain⟨x,B,_,G⟩:=aEn (by simpa using hs 0 (by omega));obtain⟨u,I,J,K⟩:=aAO (n:=n) (cells:=cells.drop 4) (by simp;omega) (fun i L=>by
   have:=hs (i+1) (by omega);rw[List.drop_drop,show 4+i*4=(i+1)*4 by omega];exact this)
  refine⟨x::u,by simp[I],?_,fun y E=>?_⟩
  ·have:=G.append J;rw[Cu]at this;exact this
  ·rcases List.mem_cons.1 E with rfl | E
   ·exact B
   ·exact K y E
def aAP{cs:List AV}{h:H}(hs:Sh (.slice my) cs h):∃v,∃u:List Eg,cs=[v]/\az (wH h) (slE Js Js u) v/\u.length<=9223372036854775807/\∀x∈u,x.fit:=by
 rcases hs with rfl | ⟨b,n,cells,rfl,h2,h3,E,G⟩
 ·exact⟨.ag,[],rfl,.slN,by simp,fun x I=>by cases I⟩
 ·have J:my.size=4:=rfl;rw[J]at E G;obtain⟨u,B,r,K⟩:=aAO E G;refine⟨_,u,rfl,?_,by rw[B];simpa [maxLen]using h2,K⟩;have hl:=r.len;have:=az.sl (fl:=false) (own:=false) (sz:=4) (n:=n) (cs:=egL u) (fl':=Js) (off:=0) (show(wH h).imm b=_ from h3) (by omega) (by rw[kN,B]) (fun q=>by cases q) (fun q=>by cases q) (fun _ _=>H.bj h3) (fun i y z p q=>r.get i y z p (by simpa using q));rw[<-B]at this;rw[<-B];exact this
section
variable {tab:FuncId->Option AF} (T:HasA tab){M:Mem}{K:PV->Mem->Prop}
include T
omit T in
def XH{cs:List AV}{h:H}(hs:Sh (.slice .bool) cs h):∃v,∃u:List Bool,cs=[v]/\az (wH h) (slB Js Js u) v/\u.length<=9223372036854775807:=by
 obtain⟨v,cells,rfl,h1,h2,h3⟩:=aAN rfl hs;have:∀cells:List AV,(∀c∈cells,Sh .bool [c] h)->∃u:List Bool,cells=u.map AV.bool:=by
  intro cells
  induction cells with
  | nil=>intro _;exact⟨[],rfl⟩
  | cons c cells G=>intro B;obtain⟨u,e⟩:=G fun I J=>B I (List.mem_cons_of_mem _ J);obtain⟨b,L⟩:=B c (by simp);cases L;exact⟨b::u,by simp[e]⟩
 obtain⟨u,rfl⟩:=this cells h2;refine⟨v,u,rfl,?_,by simpa using h1⟩;have:=h3 (u.map PV.bool) ⟨by simp,fun i y z p q=>by
  rw[Ap]at p q
  cases E:u[i]? with
  | none=>rw[E]at p;cases p
  | some x=>rw[E]at p q;cases p;cases q;exact .bool x⟩
 simpa using this
end
abbrev aI3:Ty:= .pair (.int .i64) (.pair (.int .i64) (.pair (.slice (.slice (.int .i64))) (.pair (.slice .bool) .unit)))
section
variable {tab:FuncId->Option AF} (T:HasA tab){M:Mem}{K:PV->Mem->Prop}
include T
end
abbrev caseTy:Ty:= .pair (.int .i64) (.pair aIK (.pair aI3 (.pair aHF .unit)))
def aC3{v:AV}{h:H}(hs:ShV caseTy v h):∃(k:Int) (N:NF) (D:DF) (ow pr:List Int) (su:List (List Int)),az (wH h) (.agg (csC Js Js k N D ow pr su)) v/\(∀x∈N.es,(0<=x.ps/\x.ps<=255)/\(0<=x.ng/\x.ng<=255))/\∀x∈ow,0<=x:=by obtain⟨O,hs,rfl⟩:=hs;obtain⟨Q,R,rfl,⟨k,rfl,k1,k2⟩,d1,d2,rfl,S,d3,d4,rfl,hd,d5,T,rfl,hg,h0⟩:=hs;have h0:T=[]:=h0;subst h0;obtain⟨Q,R,rfl,⟨a,rfl,a1,a2⟩,c3,c4,rfl,⟨b,rfl,b1,b2⟩,c5,c6,rfl,h3,c7,c8,rfl,U,c9,E,rfl,V,G⟩:=S;have G:E=[]:=G;subst G;obtain⟨vo,st,rfl,Y,q1,r1⟩:=pH h3;obtain⟨vp,Z,rfl,p2,q2,r2⟩:=pH U;obtain⟨vs,es,rfl,p3,q3,K⟩:=aAP V;obtain⟨e1,e2,rfl,⟨L,rfl,a0,a3⟩,e3,e4,rfl,⟨M,rfl,a4,a5⟩,e5,e6,rfl,I,e7,e8,rfl,J,u⟩:=hd;have u:e8=[]:=u;subst u;obtain⟨vn,nx,rfl,p4,q4,r4⟩:=LO I;obtain⟨vf,fb,rfl,p5,q5⟩:=XH J;obtain⟨g1,g2,rfl,g3,g4,g5,rfl,g6,g7,g8,rfl,g9,y⟩:=hg;have y:g8=[]:=y;subst y;obtain⟨vw,ow,rfl,p6,q6,r6⟩:=pH g3;obtain⟨vq,pr,rfl,p7,q7,r7⟩:=pH g6;obtain⟨vr,su,rfl,p8,q8,r8⟩:=LO g9;refine⟨k,⟨a,b,st,Z,es⟩,⟨L,M,nx,fb⟩,ow,pr,su,?_,fun x B=>⟨(K x B).2.2.1,(K x B).2.2.2⟩,fun x B=>(r6 x B).1⟩;have:=ak.cons (.int .i64 k) (.cons (.int .i64 a) (.cons (.int .i64 b) (.cons Y (.cons p2 (.cons p3 (.cons (.int .i64 L) (.cons (.int .i64 M) (.cons p4 (.cons p5 (.cons p6 (.cons p7 (.cons p8 (.nil (wH h))))))))))))));exact .agg this.len this.get
def bmatches_all{u:FuncId->Option AF}(T:HasA u)(args:List AV)(h:H)(hs:aDG [caseTy,.slice (.int .i64)] args h):
  ∃n y,(run u n).call 3 args h=Jp (.bool Jr,y):=by
 obtain⟨a,b,rfl,B,hb⟩:=aIE hs;obtain⟨k,N,D,ow,pr,su,E,G,I⟩:=aC3 B;obtain⟨l,J,K,hl⟩:=aC2 hb;exact aAV (SE T.h3 (.cons E (.cons J (.nil _))) (YO T G I fun x L=>(hl x L).2))
end Go.Am.Ar

