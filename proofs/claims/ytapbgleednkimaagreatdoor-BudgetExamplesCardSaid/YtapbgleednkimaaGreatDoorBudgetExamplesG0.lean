/- Contracts of the small functions that games are checked with, and what goes with it. -/
import Derived.Test.YtapbgleednkimaaGreatDoorBudgetExamplesCode
set_option linter.all false
set_option maxRecDepth 10000
set_option maxHeartbeats 40000000
open List renaming drop_eq_getElem_cons->Ed,getElem?_eq_getElem->Ad,take_add_one->Ce,getD->At,drop_eq_nil_of_le->Bp,getElem_mem->Cw,mem_cons->Ck,mem_filter->Dy,length_cons->Ao,mem_map->Em,flatMap_cons->Br,length_append->Aj,all_append->Bl,take_append_drop->Cm,set_eq_take_append_cons_drop->Hw,append_assoc->Ab,drop_left->Fv,getElem?_append_right->Bo,set_append_right->Dc,getElem?_take->Bc,getElem?_drop->Bf,mem_of_getElem?->Ae,getElem?_eq_none->Bi,length_take->Ay,range->Av,range_succ->Fc,getElem?_map->Ap,getElem?_range->Dv,replicate->Ag,getElem?_append_left->Bh,foldl_cons->Du,cons_append->Ak,nil_append->An,set_cons_succ->Dq,replicate_succ->Fb,length_nil->Bb,map->Ie,length_map->Al,take_of_length_le->Ba,filter_append->Fx,getElem?_of_mem->Db,any_eq_true->Fm,map_cons->Ai,replicate_succ'->Ia,idxOf_append->Et,map_congr_left->Di,nodup_append->Gu,map_append->Ax,mem_append->Bz,mem_singleton->Bk,drop_zero->Fa,length_filter_le->Ff,range_zero->Gv,filter_nil->Ii,append_nil->Bm,take_zero->Ij,map_nil->Bd,take_left'->Au,drop_length->Gg,take_length->Df,getElem?_cons_succ->Bv,set_cons_zero->Ct,mem_cons_of_mem->Dh,map_set->Ir,drop_of_length_le->Eu,count_le_length->Gz
open Int renaming cast_ofNat_Int->En,le_refl->Cc,tdiv_eq_ediv_of_nonneg->Fs,tmod_eq_emod_of_nonneg->Fw,toNat->Cq,toNat_natCast->Ca
open Nat renaming lt_irrefl->Hv,add_assoc->Cf,add_comm->Cy,lt_of_le_of_lt->Gp,le_trans->Ah,le_refl->Ac,sub_self->Cs,lt_or_ge->Az,mod_lt->Dl,lt_trichotomy->Gf,mod_eq_of_lt->Fh,pow_lt_pow_right->Ic,zero_le->Af,reduceAdd->Cl,div_div_eq_div_mul->Hz,zero_add->Aw,add_zero->Dk,min_eq_left->Da,succ_pos->Il,mul_le_mul_left->Im,mul_add->Gx,mul_assoc->Gy,min_le_left->Fo,mul_le_mul_right->Dg,add_mul->Cx,mul_comm->Co,le_total->Ip
open BitVec renaming ofInt->Be,eq_of_getLsbD_eq->Er,twoPow->Cp,getLsbD_twoPow->Gr,eq_of_toNat_eq->Fe,getLsbD_of_ge->Es,getLsbD_and->Ig,ofNat->Ih
open Classical renaming byContradiction->Bq
open Option renaming map_some->Cr,getD->De,toList_some->Ft,some->Iz,none->Ja
open Bool renaming false_eq_true->Bs,and_eq_true->Aq,or_eq_true->Dz,eq_iff_iff->Fg,true->Jb,false->Jc
open And renaming intro->Aa
namespace Go.Am.Ar
open Go.Am.PV renaming ae->Zj
open Go.Am renaming jd->P1,ku->P2,kg->P3,ec->P4,bp.under->P5,gi->P6,di->P7,bu->P8,pev->P9,iy->P10,ay->P11,jq->P12,dq->P13,cG->P14,AO.effect->P15
open List renaming replicate->L1
attribute [simp] gE gF
abbrev big:Nat:=1000000000000
def aC{k:Nat}(h:k<big):IntKind.i64.wrap ((k:Int)+1)=((k+1:Nat):Int):=by have h:k<1000000000000:=h;rw[wrap64 (by omega) (by omega)];omega
def dO{α:Type}{u:List α}{k:Nat}(h:k<u.length):u.drop k=u[k]::u.drop (k+1):=Ed h
def aM{α:Type}{xs:List α}{k:Nat}(h:k<xs.length):∃x,xs[k]? =Iz x:=⟨xs[k],Ad h⟩
def f7{α:Type}{u:List α}{k:Nat}{x:α}(h:u[k]? =Iz x):u.drop k=x::u.drop (k+1):=by have y:=aI h;rw[Ed y];rw[Ad y]at h;cases h;rfl
def bV{α:Type}{u:List α}{k:Nat}{x:α}(h:u[k]? =Iz x):u.take (k+1)=u.take k++[x]:=by simp[Ce,h]
def getD_some{u:List Int}{k:Nat}{x:Int}(h:u[k]? =Iz x):u.getD k 0=x:=by simp[At,h]
def eA(n:Int):Int->List Int->Bool
  | _,[]=>Jb
  | u,v::l=>if v<=u then Jc else if n<=v then Jc else eA n v l
section
variable {tab:FuncId->Option AF} (T:HasA tab){M:Mem}{K:PV->Mem->Prop}
include T
def IB{f o:Bool}{y:List Int}{n:Int}(hm:y.length<big)(G:K (.bool (eA n (-1) y)) M):
    ai tab 151 [slI f o .i64 y,p64 n] M K:=by
  refine aF T.h151 (by simp only[PP,simprocAttr]) ?_;simp only[af151,PP,simprocAttr];refine cL (fun(k:Nat) (u:Int)=>k<=y.length/\K (.bool (eA n u (y.drop k))) M) (fun k u=>(.ae::p64 n::zj 3++p64 u:: .ae:: .ae::slI f o .i64 y::p64 y.length::p64 k::zj 13)) (fun _ _=>[]) (fun k _=>y.length-k) 0 (-1) ⟨by omega,G⟩ ?_;intro k u ⟨G,B⟩ I;refine aH (by kernel_rfl) ?_;simp only[PP,simprocAttr];refine QIf.intro (fun c=>?_) fun c=>?_
  · have E:k<y.length:=by omega
    rw[dO E]at B;have hw:=aC (k:=k) (by omega);have hg:y[k]? =Iz y[k]:=Ad E;have h0:(0:Int)<=k:=by omega
    simp only[PP,simprocAttr,eA,c,hg,hw,h0]at B ⊢;refine QIf.intro (fun h1=>?_) fun h1=>?_
    · simp only[PP,simprocAttr,h1]at B ⊢;exact B
    · simp only[PP,simprocAttr,h1]at B ⊢;refine QIf.intro (fun h2=>?_) fun h2=>?_
      · simp only[PP,simprocAttr,h2]at B ⊢;exact B
      · simp only[PP,simprocAttr,h2,hw]at B ⊢;exact aE (I (k+1) _ ⟨by omega,B⟩ (by omega))
  · simp only[PP,simprocAttr,c];rw[Bp (by omega)]at B;exact B
abbrev gmP(u y B E G I J L:Bool)(ow pr:List Int)(su:List (List Int)):PV:= .agg [slI u y .u8 ow,slI B E .i64 pr,slR G I J L .i64 su]
structure Bnd (ow pr:List Int) (su:List (List Int)):Prop where
  o:ow.length<big
  p:pr.length<big
  s:su.length<big
  r:∀row∈su,row.length<big
def f8(ow pr:List Int):Nat->List (List Int)->Int
  | _,[]=>0
  | k,row::rest=>if 1<ow.getD k 0 then 6 else if pr.getD k 0<0 then 1 else if 16<pr.getD k 0 then 1 else if(row.length:Int)=0 then 13 else if eA ow.length (-1) row=Jc then 8 else f8 ow pr (k+1) rest
def bK(ow pr:List Int)(su:List (List Int)):Int:=
  if(ow.length:Int)=0 then 3 else if 4096<(ow.length:Int)then 10 else if(pr.length:Int)=ow.length then(if(su.length:Int)=ow.length then f8 ow pr 0 su else 2)else 2
omit T in
def NP{ow pr:List Int}{su:List (List Int)}(h:bK ow pr su=0):0<ow.length/\ow.length<=4096/\pr.length=ow.length/\su.length=ow.length/\f8 ow pr 0 su=0:=by
  unfold bK at h;split at h
  · simp at h
  · split at h
    · simp at h
    · split at h
      · split at h
        · exact⟨by omega,by omega,by omega,by omega,h⟩
        · simp at h
      · simp at h
def FW{Z o1 f2 o2 I J L O:Bool}{ow pr:List Int}{su:List (List Int)}(B:Bnd ow pr su)(u:K (p64 (bK ow pr su)) M):
    ai tab 88 [gmP Z o1 f2 o2 I J L O ow pr su] M K:=by
  refine aF T.h88 (by simp only[PP,simprocAttr]) ?_;simp only[af88,PP,simprocAttr,bK]at u ⊢;refine QIf.intro (fun Q=>?_) fun Q=>?_
  · simp only[PP,simprocAttr,Q]at u ⊢;exact u
  simp only[PP,simprocAttr,Q]at u ⊢;refine QIf.intro (fun R=>?_) fun R=>?_
  · simp only[PP,simprocAttr,R]at u ⊢;exact u
  simp only[PP,simprocAttr,R]at u ⊢;refine QIf.intro (fun S=>?_) fun S=>?_;rotate_left
  · simp only[PP,simprocAttr,S]at u ⊢;exact u
  simp only[PP,simprocAttr,S]at u ⊢;refine QIf.intro (fun U=>?_) fun U=>?_;rotate_left
  · simp only[PP,simprocAttr,U]at u ⊢;exact u
  simp only[PP,simprocAttr,U]at u ⊢;have d4:su.length=ow.length:=by omega
  refine cM (fun(k:Nat)=>k<=su.length/\K (p64 (f8 ow pr k (su.drop k))) M) (fun k=>(.ae:: .ptr 0 0 0:: .ae::p64 ow.length::zj 25++slR I J L O .i64 su::p64 ow.length::p64 k::zj 36)) (fun _=>[.cells 0 0 [slI Z o1 .u8 ow,slI f2 o2 .i64 pr,slR I J L O .i64 su]]) (fun k=>su.length-k) 0 ⟨by omega,u⟩ ?_ (by simp only[PW,En,d4]);intro k ⟨a0,u⟩ ih;refine aH (by kernel_rfl) ?_;simp only[PP,simprocAttr];refine QIf.intro (fun c=>?_) fun c=>?_
  · have y:k<su.length:=by omega
    have g1:su[k]? =Iz su[k]:=Ad y;have g2:ow[k]? =Iz ow[k]:=Ad (by omega);have G:pr[k]? =Iz pr[k]:=Ad (by omega);have h0:(0:Int)<=k:=by omega
    have hw:=aC (k:=k) (by have:=B.s;omega);have e2:ow.getD k 0=ow[k]:=by simp[At,g2]
    have e3:pr.getD k 0=pr[k]:=by simp[At,G]
    rw[dO y]at u;have V:(k:Int)<su.length:=by omega
    have E:(k:Int)<pr.length:=by omega
    simp only[PP,simprocAttr,f8,c,g1,g2,G,h0,e2,e3,V,E]at u ⊢;refine QIf.intro (fun h1=>?_) fun h1=>?_
    · simp only[PP,simprocAttr,h1]at u ⊢;exact u
    simp only[PP,simprocAttr,h1,G,E,h0]at u ⊢;refine QIf.intro (fun h2=>?_) fun h2=>?_
    · simp only[PP,simprocAttr,h2]at u ⊢;exact u
    simp only[PP,simprocAttr,h2,G,E,h0]at u ⊢;refine QIf.intro (fun h3=>?_) fun h3=>?_
    · simp only[PP,simprocAttr,h3]at u ⊢;exact u
    simp only[PP,simprocAttr,h3]at u ⊢;refine QIf.intro (fun Y=>?_) fun Y=>?_
    · simp only[PP,simprocAttr,Y]at u ⊢;exact u
    simp only[PP,simprocAttr,Y]at u ⊢;refine IB T (B.r _ (Cw y)) ?_;simp only[PP,simprocAttr];by_cases h5:eA ow.length (-1) su[k]=Jb
    · simp only[PP,simprocAttr,h5,hw]at u ⊢;exact aE (ih (k+1) ⟨by omega,u⟩ (by omega))
    · simp only[PP,simprocAttr,h5]at u ⊢;exact u
  · simp only[PP,simprocAttr,c];rw[Bp (by omega)]at u;exact u
def jF{f o J L:Bool}{xs ys:List Int}(hm:xs.length<big)(G:K (.bool (decide (xs=ys))) M):
    ai tab 29 [slI f o .i64 xs,slI J L .i64 ys] M K:=by
  refine aF T.h29 (by simp only[PP,simprocAttr]) ?_;simp only[af29,PP,simprocAttr];refine QIf.intro (fun E=>?_) fun E=>?_
  · simp only[PP,simprocAttr,E];have hl:xs.length=ys.length:=by omega
    refine cM (fun(k:Nat)=>k<=xs.length/\K (.bool (decide (xs.drop k=ys.drop k))) M) (fun k=>(slI f o .i64 xs::slI J L .i64 ys::zj 3++p64 k::zj 20)) (fun _=>[]) (fun k=>xs.length-k) 0 ⟨by omega,G⟩ ?_;intro k ⟨O,u⟩ Q;refine aH (by kernel_rfl) ?_;simp only[PP,simprocAttr];refine QIf.intro (fun c=>?_) fun c=>?_
    · have y:k<xs.length:=by omega
      have B:k<ys.length:=by omega
      rw[dO y,dO B]at u;have hw:=aC (k:=k) (by omega);have R:xs[k]? =Iz xs[k]:=Ad y;have S:ys[k]? =Iz ys[k]:=Ad B;have h0:(0:Int)<=k:=by omega
      have U:(k:Int)<ys.length:=by omega
      simp only[PP,simprocAttr,c,R,S,hw,h0,U]at u ⊢;refine QIf.intro (fun h1=>?_) fun h1=>?_
      · simp only[PP,simprocAttr,h1,hw,List.cons.injEq]at u ⊢;exact aE (Q (k+1) ⟨by omega,u⟩ (by omega))
      · simp only[PP,simprocAttr,h1,List.cons.injEq]at u ⊢;exact u
    · simp only[PP,simprocAttr,c];rw[Bp (by omega),Bp (by omega)]at u;simp only[PP,simprocAttr]at u;exact u
  · simp only[PP,simprocAttr,E];have I:¬xs=ys:=by rintro rfl;exact E rfl
    simp only[PP,simprocAttr,I]at G;exact G
def zF{f o:Bool}{u:List Int}{v:Int}(hm:u.length<big)(G:K (.bool (decide (v∈u))) M):
    ai tab 102 [slI f o .i64 u,p64 v] M K:=by
  refine aF T.h102 (by simp only[PP,simprocAttr]) ?_;simp only[af102,PP,simprocAttr];refine cM (fun(k:Nat)=>k<=u.length/\K (.bool (decide (v∈u.drop k))) M) (fun k=>(slI f o .i64 u::p64 v::zj 3++p64 k::zj 12)) (fun _=>[]) (fun k=>u.length-k) 0 ⟨by omega,G⟩ ?_;intro k ⟨I,y⟩ J;refine aH (by kernel_rfl) ?_;simp only[PP,simprocAttr];refine QIf.intro (fun c=>?_) fun c=>?_
  · have B:k<u.length:=by omega
    rw[dO B]at y;have hw:=aC (k:=k) (by omega);have L:u[k]? =Iz u[k]:=Ad B;have h0:(0:Int)<=k:=by omega
    simp only[PP,simprocAttr,c,L,hw,h0,Ck]at y ⊢;refine QIf.intro (fun h1=>?_) fun h1=>?_
    · simp only[PP,simprocAttr,h1]at y ⊢;exact y
    · have E:¬v=u[k]:=fun e=>h1 e.symm;simp only[PP,simprocAttr,h1,E,hw]at y ⊢;exact aE (J (k+1) ⟨by omega,y⟩ (by omega))
  · simp only[PP,simprocAttr,c];rw[Bp (by omega)]at y;simp only[PP,simprocAttr,List.not_mem_nil]at y;exact y
def fU{f o:Bool}{u:List Int}(hm:u.length<big)(y:K (slI Jc Jb .i64 u) M):
    ai tab 36 [slI f o .i64 u] M K:=by
  refine aF T.h36 (by simp only[PP,simprocAttr]) ?_;have hb:u.length<1000000000000:=hm;have B:u.length*8<=140737488355328:=by omega
  have E:u.length<=9223372036854775807:=by omega
  simp only[af36,PP,simprocAttr,B,E];exact y
def vM{f o:Bool}{u:List Int}(hm:u.length<big)(y:K (slI Jc Jb .u8 u) M):
    ai tab 39 [slI f o .u8 u] M K:=by
  refine aF T.h39 (by simp only[PP,simprocAttr]) ?_;have hb:u.length<1000000000000:=hm;have B:u.length<=140737488355328:=by omega
  have E:u.length<=9223372036854775807:=by omega
  simp only[af39,PP,simprocAttr,B,E];exact y
def lA{f o J L O Q R S:Bool}{xs ys:List (List Int)}(hm:xs.length<big)(hr:∀r∈xs,r.length<big)(G:K (.bool (decide (xs=ys))) M):
    ai tab 33 [slR f o O Q .i64 xs,slR J L R S .i64 ys] M K:=by
  refine aF T.h33 (by simp only[PP,simprocAttr]) ?_;simp only[af33,PP,simprocAttr];refine QIf.intro (fun E=>?_) fun E=>?_
  · simp only[PP,simprocAttr,E];have hl:xs.length=ys.length:=by omega
    refine cM (fun(k:Nat)=>k<=xs.length/\K (.bool (decide (xs.drop k=ys.drop k))) M) (fun k=>(slR f o O Q .i64 xs::slR J L R S .i64 ys::zj 3++p64 k::zj 21)) (fun _=>[]) (fun k=>xs.length-k) 0 ⟨by omega,G⟩ ?_;intro k ⟨U,u⟩ V;refine aH (by kernel_rfl) ?_;simp only[PP,simprocAttr];refine QIf.intro (fun c=>?_) fun c=>?_
    · have y:k<xs.length:=by omega
      have B:k<ys.length:=by omega
      rw[dO y,dO B]at u;have hw:=aC (k:=k) (by omega);have Y:xs[k]? =Iz xs[k]:=Ad y;have Z:ys[k]? =Iz ys[k]:=Ad B;have h0:(0:Int)<=k:=by omega
      have cy:(k:Int)<ys.length:=by omega
      simp only[PP,simprocAttr,c,Y,Z,hw,h0,cy]at u ⊢;refine jF T (hr _ (Cw y)) ?_;by_cases h1:xs[k]=ys[k]
      · simp only[PP,simprocAttr,h1,hw,List.cons.injEq]at u ⊢;exact aE (V (k+1) ⟨by omega,u⟩ (by omega))
      · simp only[PP,simprocAttr,h1,List.cons.injEq]at u ⊢;exact u
    · simp only[PP,simprocAttr,c];rw[Bp (by omega),Bp (by omega)]at u;simp only[PP,simprocAttr]at u;exact u
  · simp only[PP,simprocAttr,E];have I:¬xs=ys:=by rintro rfl;exact E rfl
    simp only[PP,simprocAttr,I]at G;exact G
end
def jV:Int->List Int->Int
  | m,[]=>m
  | m,x::l=>jV (max m x) l
section
variable {tab:FuncId->Option AF} (T:HasA tab){M:Mem}{K:PV->Mem->Prop}
include T
def aBO{f o:Bool}{y:List Int}{n:Int}(hm:y.length<big)(Q:K (.bool (eA n (-1) y)) M):
    ai tab 99 [slI f o .i64 y,p64 n] M K:=by
  refine aF T.h99 (by simp only[PP,simprocAttr]) ?_;simp only[af99,PP,simprocAttr];refine cL (fun(k:Nat) (u:Int)=>k<=y.length/\-1<=u/\((k=0/\u= -1)\/(0<k/\y[k-1]? =Iz u))/\K (.bool (eA n u (y.drop k))) M) (fun k u=>(slI f o .i64 y::p64 n::zj 3++p64 k::zj 35)) (fun _ _=>[]) (fun k _=>y.length-k) 0 (-1) ⟨by omega,by omega,.inl ⟨rfl,rfl⟩,Q⟩ ?_;intro k u ⟨R,S,U,B⟩ O;refine aH (by kernel_rfl) ?_;simp only[PP,simprocAttr];refine QIf.intro (fun c=>?_) fun c=>?_
  · have E:k<y.length:=by omega
    rw[dO E]at B;have hw:=aC (k:=k) (by omega);have I:y[k]? =Iz y[k]:=Ad E;have h0:(0:Int)<=k:=by omega
    simp only[PP,simprocAttr,c,I,hw,h0,eA]at B ⊢;refine QIf.intro (fun h1=>?_) fun h1=>?_
    · have:y[k]<=u:=by omega
      simp only[PP,simprocAttr,h1,this]at B ⊢;exact B
    simp only[PP,simprocAttr,h1,I,c,h0]at B ⊢;refine QIf.intro (fun h2=>?_) fun h2=>?_
    · by_cases h3:y[k]<=u
      · simp only[PP,simprocAttr,h2,h3]at B ⊢;exact B
      · simp only[PP,simprocAttr,h2,h3]at B ⊢;exact B
    simp only[PP,simprocAttr,h2,I,c,h0]at B ⊢;rcases U with⟨rfl,rfl⟩ | ⟨V,G⟩
    · have h3:¬y[0]<=-1:=by omega
      have J:IntKind.i64.wrap 1=1:=by decide
      simp only[PP,simprocAttr,h3,J,Int.lt_irrefl,Hv]at B ⊢;exact aE (O 1 y[0] ⟨by omega,by omega,.inr ⟨by omega,by simp⟩,B⟩ (by omega))
    · have Y:(0:Int)<k:=by omega
      have L:IntKind.i64.wrap ((k:Int)-1)=((k-1:Nat):Int):=by
        have:k<1000000000000:=by have:y.length<1000000000000:=hm;omega
        rw[wrap64 (by omega) (by omega)];omega
      have Z:((k-1:Nat):Int)<y.length:=by omega
      have c3:(0:Int)<=((k-1:Nat):Int):=by omega
      simp only[PP,simprocAttr,Y,I,c,h0,L,Z,c3,G]at B ⊢;by_cases h3:y[k]<=u
      · simp only[PP,simprocAttr,h3]at B ⊢;exact B
      · simp only[PP,simprocAttr,h3,hw]at B ⊢;exact aE (O (k+1) y[k] ⟨by omega,by omega,.inr ⟨by omega,by simp[E]⟩,B⟩ (by omega))
  · simp only[PP,simprocAttr,c];rw[Bp (by omega)]at B;exact B
def L0{U V Y Z f3 o3 f4 o4:Bool}{ow pr:List Int}{su:List (List Int)}(B:Bnd ow pr su)(u:K (p64 (bK ow pr su)) M):
    ai tab 45 [gmP U V Y Z f3 o3 f4 o4 ow pr su] M K:=by
  refine aF T.h45 (by simp only[PP,simprocAttr]) ?_;simp only[af45,PP,simprocAttr,bK]at u ⊢;refine QIf.intro (fun J=>?_) fun J=>?_
  · simp only[PP,simprocAttr,J]at u ⊢;exact u
  simp only[PP,simprocAttr,J]at u ⊢;refine QIf.intro (fun L=>?_) fun L=>?_
  · simp only[PP,simprocAttr,L]at u ⊢;exact u
  simp only[PP,simprocAttr,L]at u ⊢;refine QIf.intro (fun O=>?_) fun O=>?_;rotate_left
  · simp only[PP,simprocAttr,O]at u ⊢;exact u
  simp only[PP,simprocAttr,O]at u ⊢;refine QIf.intro (fun Q=>?_) fun Q=>?_;rotate_left
  · simp only[PP,simprocAttr,Q]at u ⊢;exact u
  simp only[PP,simprocAttr,Q]at u ⊢;have d4:su.length=ow.length:=by omega
  refine cM (fun(k:Nat)=>k<=su.length/\K (p64 (f8 ow pr k (su.drop k))) M) (fun k=>(.ae:: .ptr 0 0 0:: .ae::p64 ow.length::p64 k::zj 59)) (fun _=>[.cells 0 0 [slI U V .u8 ow,slI Y Z .i64 pr,slR f3 o3 f4 o4 .i64 su]]) (fun k=>su.length-k) 0 ⟨by omega,u⟩ ?_ (by simp only[PW,En,d4]);intro k ⟨a0,u⟩ ih;refine aH (by kernel_rfl) ?_;simp only[PP,simprocAttr];refine QIf.intro (fun c=>?_) fun c=>?_
  · have y:k<su.length:=by omega
    have R:su[k]? =Iz su[k]:=Ad y;have g2:ow[k]? =Iz ow[k]:=Ad (by omega);have I:pr[k]? =Iz pr[k]:=Ad (by omega);have h0:(0:Int)<=k:=by omega
    have hw:=aC (k:=k) (by have:=B.s;omega);have e2:ow.getD k 0=ow[k]:=by simp[At,g2]
    have e3:pr.getD k 0=pr[k]:=by simp[At,I]
    rw[dO y]at u;have E:(k:Int)<su.length:=by omega
    have G:(k:Int)<pr.length:=by omega
    simp only[PP,simprocAttr,f8,c,R,g2,I,h0,e2,e3,E,G]at u ⊢;refine QIf.intro (fun h1=>?_) fun h1=>?_
    · simp only[PP,simprocAttr,h1]at u ⊢;exact u
    simp only[PP,simprocAttr,h1,I,G,h0]at u ⊢;refine QIf.intro (fun h2=>?_) fun h2=>?_
    · simp only[PP,simprocAttr,h2]at u ⊢;exact u
    simp only[PP,simprocAttr,h2,I,G,h0]at u ⊢;refine QIf.intro (fun h3=>?_) fun h3=>?_
    · simp only[PP,simprocAttr,h3]at u ⊢;exact u
    simp only[PP,simprocAttr,h3,R,E,h0]at u ⊢;refine QIf.intro (fun S=>?_) fun S=>?_
    · simp only[PP,simprocAttr,S]at u ⊢;exact u
    simp only[PP,simprocAttr,S,R,E,h0]at u ⊢;refine aBO T (B.r _ (Cw y)) ?_;simp only[PP,simprocAttr];by_cases h5:eA ow.length (-1) su[k]=Jb
    · simp only[PP,simprocAttr,h5,hw]at u ⊢;exact aE (ih (k+1) ⟨by omega,u⟩ (by omega))
    · simp only[PP,simprocAttr,h5]at u ⊢;exact u
  · simp only[PP,simprocAttr,c];rw[Bp (by omega)]at u;exact u
def aF2{f o:Bool}{x:Int}{u:List Int}(hm:(x::u).length<big)(y:K (p64 (jV x u)) M):
    ai tab 157 [slI f o .i64 (x::u)] M K:=by
  refine aF T.h157 (by simp only[PP,simprocAttr]) ?_;have E:¬((u.length+1:Nat):Int)<1:=by omega
  have G:(0:Int)<((u.length+1:Nat):Int):=by omega
  simp only[af157,PP,simprocAttr,E,G];have I:u.length+1<1000000000000:=hm;refine cL (fun(k:Nat) (m:Int)=>k<=u.length/\K (p64 (jV m (u.drop k))) M) (fun k m=>(slI f o .i64 (x::u):: .ae:: .ae::p64 m::p64 ((k+1:Nat):Int)::zj 20)) (fun _ _=>[]) (fun k _=>u.length-k) 0 x ⟨by omega,y⟩ ?_;intro k m ⟨J,y⟩ L;refine aH (by kernel_rfl) ?_;simp only[PP,simprocAttr];refine QIf.intro (fun c=>?_) fun c=>?_
  · have B:k<u.length:=by omega
    have O:u[k]? =Iz u[k]:=Ad B;have h0:(0:Int)<=((k+1:Nat):Int):=by omega
    have hw:=aC (k:=k+1) (by show _<1000000000000;omega);rw[dO B]at y;simp only[PP,simprocAttr,c,O,h0,hw,jV]at y ⊢;exact aE (L (k+1) _ ⟨by omega,y⟩ (by omega))
  · rw[Bp (by omega)]at y;simp only[PP,simprocAttr,c,jV]at y ⊢;exact y
end
abbrev gz:PV:= .agg [.aa,.aa,.aa]
def pV{ow pr:List Int} :∀{su:List (List Int)} {k:Nat},f8 ow pr k su=0->∀(i:Nat) (u:i<su.length),0<=pr.getD (k+i) 0/\pr.getD (k+i) 0<=16/\ow.getD (k+i) 0<=1/\0<su[i].length/\eA ow.length (-1) su[i]=Jb
  | [],k,h,i,u=>by simp at u
  | row::su,k,h,i,u=>by
    unfold f8 at h;split at h
    · simp at h
    · split at h
      · simp at h
      · split at h
        · simp at h
        · split at h
          · simp at h
          · split at h
            · simp at h
            · rename_i h1 h2 h3 B y
              cases i with
              | zero=>exact⟨by simpa using h2,by simpa using h3,by simpa using h1,by simp only[List.getElem_cons_zero];omega,by simpa using y⟩
              | succ i=>have:=pV h i (by simpa using u);simpa [Cf,Cy 1 i]using this
structure Valid (ow pr:List Int) (su:List (List Int)):Prop where
  n0:0<ow.length
  n1:ow.length<=4096
  p:pr.length=ow.length
  s:su.length=ow.length
  row:∀(i:Nat) (hi:i<su.length),0<=pr.getD i 0/\pr.getD i 0<=16/\ow.getD i 0<=1/\0<su[i].length/\eA ow.length (-1) su[i]=Jb
def eZ{ow pr:List Int}{su:List (List Int)}(h:bK ow pr su=0):Valid ow pr su:=by obtain⟨h1,h2,h3,u,y⟩:=NP h;exact⟨h1,h2,h3,u,fun i B=>by simpa using pV y i B⟩
def qC:∀(n:Nat) (l:List Nat),l.Nodup->(∀x∈l,x<n)->l.length<=n
  | 0,l,_,h=>by
    cases l with
    | nil=>simp
    | cons x l=>have:=h x (by simp);omega
  | n+1,l,hd,h=>by
    have:=qC n (l.filter fun x=>x !=n) (hd.filter _) (fun x u=>by
      rw[Dy]at u;have:=h x u.1;have:x≠n:=by simpa using u.2
      omega)
    have h2:l.length<=(l.filter fun x=>x !=n).length+1:=by
      clear this h
      induction l with
      | nil=>simp
      | cons x l B=>
        rw[List.nodup_cons]at hd;by_cases e:x=n
        · subst e;have:l.filter (fun y=>y !=x)=l:=by rw[List.filter_eq_self];intro y E;have:y≠x:=fun q=>hd.1 (q▸E);simpa using this
          simp[this]
        · have:=B hd.2;have u:(x !=n)=Jb:=by simpa using e
          simp only[List.filter_cons,u,if_true,Ao];omega
    omega
def XD{k:IntKind}{x y:Int}(h:y≠0):bL .rem (.int k x) (.int k y)=Iz (.int k (x.tmod y)):=by simp[bL,bQ,eY,ay,h,bR,dH]
abbrev bE(l:List Nat):List Int:=l.map fun(v:Nat)=>(v:Int)
def IX{l:List Nat}{v:Nat} :(v:Int)∈bE l↔v∈l:=by rw[Em];exact⟨fun⟨a,h1,h2⟩=>by rw[show v=a by omega];exact h1,fun h=>⟨v,h,rfl⟩⟩
def iP{n:Int} :∀{l:List Int} {u:Int},eA n u l=Jb->l.Pairwise (· < ·)/\∀x∈l,u<x/\x<n
  | [],_,_=>⟨.nil,fun x y=>by cases y⟩
  | v::l,u,h=>by
    unfold eA at h;split at h
    · simp at h
    · split at h
      · simp at h
      · obtain⟨h1,h2⟩:=iP h;refine⟨.cons (fun x y=>(h2 x y).1) h1,fun x y=>?_⟩;rcases List.mem_cons.1 y with rfl | y
        · omega
        · have:=h2 x y;omega
def G1{ow pr:List Int}{su:List (List Int)}(V:Valid ow pr su){v:Nat}{u:Int}(hv:v<ow.length)(h:u∈su.getD v []):0<=u/\u<ow.length:=by
  have y:v<su.length:=by have:=V.s;omega
  obtain⟨_,_,_,_,B⟩:=V.row v y;rw[At,Ad y]at h;have:=(iP B).2 u h;omega
section
variable {tab:FuncId->Option AF} (T:HasA tab){M:Mem}{K:PV->Mem->Prop}
include T
end
structure Eg where
  fr:Int
  to:Int
  ps:Int
  ng:Int
  deriving DecidableEq,Inhabited
abbrev egC(e:Eg):List PV:=[.int .i64 e.fr,.int .i64 e.to,.int .u8 e.ps,.int .u8 e.ng]
def egL(l:List Eg):List PV:=l.flatMap egC
abbrev slE(f o:Bool)(l:List Eg):PV:= .sl f o 4 l.length (egL l)
def QZ:egL []=[]:=rfl
def eW(l:List Eg):(egL l).length=l.length*4:=by
  unfold egL
  induction l with
  | nil=>rfl
  | cons x l u=>rw[Br,Aj,u];simp;omega
def w6(l:List Eg):(egL l).all PV.one=Jb:=by
  unfold egL
  induction l with
  | nil=>rfl
  | cons x l u=>rw[Br,Bl,u];rfl
def bS(m:Nat)(l:List Eg):aD m (egL l)=Jb:=by
  unfold egL
  induction l with
  | nil=>exact gP _
  | cons x l u=>rw[Br,lF,u];simp[eL,gP,B3]
def aV(m:Nat)(f o:Bool)(sz n:Nat)(l:List Eg):PV.under m (.sl f o sz n (egL l))=Jb:=by simp only[PV.under];exact bS m l
def Q0(l:List Eg)(x:Eg):egL l++egC x=egL (l++[x]):=by simp[egL]
def UI{l:List Eg}{k:Nat}{x:Eg}(h:l[k]? =Iz x):∃a b,egL l=a++egC x++b/\a.length=k*4/\(∀y,egL (l.set k y)=a++egC y++b):=by
  obtain⟨u,e⟩:=List.getElem?_eq_some_iff.1 h;refine⟨egL (l.take k),egL (l.drop (k+1)),?_,?_,fun y=>?_⟩
  · conv=>lhs;rw[<-Cm k l,Ed u,e]
    simp[egL]
  · rw[eW];simp;omega
  · rw[Hw,if_pos u];simp[egL]
def oA{l:List Eg}{k:Nat}{x:Eg}(h:l[k]? =Iz x):aZ (egL l) (k*4) 4=egC x:=by obtain⟨a,b,h1,h2,_⟩:=UI h;unfold aZ;rw[h1,<-h2,Ab,Fv];rfl
def m7{l:List Eg}{n:Nat}(h:l.length=n):aZ (egL l) 0 (n*4)=egL l:=aK _ _ (by rw[eW,h])
def QY{l:List Eg}{k:Nat}{x:Eg}(h:l[k]? =Iz x):k*4+4<=l.length*4:=by have:=aI h;omega
def Eg.fit(e:Eg):Prop:=(-9223372036854775808<=e.fr/\e.fr<=9223372036854775807)/\(-9223372036854775808<=e.to/\e.to<=9223372036854775807)/\(0<=e.ps/\e.ps<=255)/\(0<=e.ng/\e.ng<=255)
structure NF where
  vs:Int
  n:Int
  st:List Int
  fi:List Int
  es:List Eg
abbrev nfC(u y B E G I:Bool)(N:NF):List PV:=[p64 N.vs,p64 N.n,slI u y .i64 N.st,slI B E .i64 N.fi,slE G I N.es]
structure BnN (N:NF):Prop where
  s:N.st.length<big
  f:N.fi.length<big
  e:N.es.length<big
  b:∀x∈N.es,(0<=x.ps/\x.ps<=255)/\(0<=x.ng/\x.ng<=255)
def aAp(x y:Int):Int:=((x.toNat&&& y.toNat:Nat):Int)
def bOr(x y:Int):Int:=((x.toNat||| y.toNat:Nat):Int)
def jH(v p n:Int):Int:=if v<0 then 7 else if 6<v then 7 else if 2^v.toNat<=p then 7 else if 2^v.toNat<=n then 7 else if aAp p n=0 then 0 else 2
def kN(v n:Int):List Eg->Int
  | []=>0
  | e::l=>if e.fr<0\/n<=e.fr\/e.to<0\/n<=e.to then 8 else if jH v e.ps e.ng=0 then kN v n l else jH v e.ps e.ng
def dA(N:NF):Int:=
  if N.vs<0\/6<N.vs then 7 else if N.n<0 then 1 else if 64<N.n\/512<(N.es.length:Int)then 4 else if eA N.n (-1) N.st=Jb/\eA N.n (-1) N.fi=Jb then kN N.vs N.n N.es else 8
def E7{x:Int}(h:0<=x/\x<=255):(Be 8 x).toNat=x.toNat:=by rw[BitVec.toNat_ofInt];omega
def pQ{x:Nat}(h:x<256):IntKind.u8.wrap (x:Int)=x:=by simp only[IntKind.wrap,IntKind.signed,IntKind.bits];simp;omega
def iQ{x y:Int}(u:0<=x/\x<=255)(B:0<=y/\y<=255):bL .and (.int .u8 x) (.int .u8 y)=Iz (.int .u8 (aAp x y)):=by
  have h1:=E7 u;have h2:=E7 B;have h3:x.toNat&&& y.toNat<256:=Gp Nat.and_le_left (by omega);have e:IntKind.u8.wrap ((Be IntKind.u8.bits x&&& Be IntKind.u8.bits y).toNat:Int)=aAp x y:=by
    show IntKind.u8.wrap ((Be 8 x&&& Be 8 y).toNat:Int)=_;rw[BitVec.toNat_and,h1,h2,pQ h3];rfl
  simp only[bL,bQ,eY,bR,dH,e];rfl
def X8{a b:Nat}(u:a<256)(hb:b<256):a||| b<256:=Nat.or_lt_two_pow (n:=8) u hb
def XU{x y:Int}(u:0<=x/\x<=255)(B:0<=y/\y<=255):bL .or (.int .u8 x) (.int .u8 y)=Iz (.int .u8 (bOr x y)):=by
  have h1:=E7 u;have h2:=E7 B;have h3:x.toNat||| y.toNat<256:=X8 (by omega) (by omega);have e:IntKind.u8.wrap ((Be IntKind.u8.bits x||| Be IntKind.u8.bits y).toNat:Int)=bOr x y:=by
    show IntKind.u8.wrap ((Be 8 x||| Be 8 y).toNat:Int)=_;rw[BitVec.toNat_or,h1,h2,pQ h3];rfl
  simp only[bL,bQ,eY,bR,dH,e];rfl
def aFS{v:Int}(h0:¬v<0)(u:¬6<v):bL .shl (.int .i64 1) (.int .i64 v)=Iz (.int .i64 (2^v.toNat)):=by
  have:v=0\/v=1\/v=2\/v=3\/v=4\/v=5\/v=6:=by omega
  rcases this with rfl | rfl | rfl | rfl | rfl | rfl | rfl<;>rfl
def NX{v:Nat}{p n:Int}(y:0<=p)(B:0<=n):(2:Int)^v<=bOr p n↔(2^v<=p\/2^v<=n):=by
  have u:(2^v<=p.toNat||| n.toNat)↔(2^v<=p.toNat\/2^v<=n.toNat):=by
    constructor
    · intro h;refine Bq fun q=>?_;rw[not_or,Nat.not_le,Nat.not_le]at q;have:=Nat.or_lt_two_pow q.1 q.2;omega
    · rintro(h | h)
      · exact Ah h Nat.left_le_or
      · exact Ah h Nat.right_le_or
  have e:((2^v:Nat):Int)=2^v:=by simp
  unfold bOr;rw[<-e];constructor
  · intro h;rcases u.1 (by omega)with q | q
    · exact .inl (by omega)
    · exact .inr (by omega)
  · intro h;have:=u.2 (by omega);omega
section
variable {tab:FuncId->Option AF} (T:HasA tab){M:Mem}{K:PV->Mem->Prop}
include T
def CE{f o:Bool}{y:List Int}{n:Int}(hm:y.length<big)(Q:K (.bool (eA n (-1) y)) M):
    ai tab 96 [slI f o .i64 y,p64 n] M K:=by
  refine aF T.h96 (by simp only[PP,simprocAttr]) ?_;simp only[af96,PP,simprocAttr];refine cL (fun(k:Nat) (u:Int)=>k<=y.length/\-1<=u/\((k=0/\u= -1)\/(0<k/\y[k-1]? =Iz u))/\K (.bool (eA n u (y.drop k))) M) (fun k u=>(slI f o .i64 y::p64 n::zj 3++p64 k::zj 35)) (fun _ _=>[]) (fun k _=>y.length-k) 0 (-1) ⟨by omega,by omega,.inl ⟨rfl,rfl⟩,Q⟩ ?_;intro k u ⟨R,S,U,B⟩ O;refine aH (by kernel_rfl) ?_;simp only[PP,simprocAttr];refine QIf.intro (fun c=>?_) fun c=>?_
  · have E:k<y.length:=by omega
    rw[dO E]at B;have hw:=aC (k:=k) (by omega);have I:y[k]? =Iz y[k]:=Ad E;have h0:(0:Int)<=k:=by omega
    simp only[PP,simprocAttr,c,I,hw,h0,eA]at B ⊢;refine QIf.intro (fun h1=>?_) fun h1=>?_
    · have:y[k]<=u:=by omega
      simp only[PP,simprocAttr,h1,this]at B ⊢;exact B
    simp only[PP,simprocAttr,h1,I,c,h0]at B ⊢;refine QIf.intro (fun h2=>?_) fun h2=>?_
    · by_cases h3:y[k]<=u
      · simp only[PP,simprocAttr,h2,h3]at B ⊢;exact B
      · simp only[PP,simprocAttr,h2,h3]at B ⊢;exact B
    simp only[PP,simprocAttr,h2,I,c,h0]at B ⊢;rcases U with⟨rfl,rfl⟩ | ⟨V,G⟩
    · have h3:¬y[0]<=-1:=by omega
      have J:IntKind.i64.wrap 1=1:=by decide
      simp only[PP,simprocAttr,h3,J,Int.lt_irrefl,Hv]at B ⊢;exact aE (O 1 y[0] ⟨by omega,by omega,.inr ⟨by omega,by simp⟩,B⟩ (by omega))
    · have Y:(0:Int)<k:=by omega
      have L:IntKind.i64.wrap ((k:Int)-1)=((k-1:Nat):Int):=by
        have:k<1000000000000:=by have:y.length<1000000000000:=hm;omega
        rw[wrap64 (by omega) (by omega)];omega
      have Z:((k-1:Nat):Int)<y.length:=by omega
      have c3:(0:Int)<=((k-1:Nat):Int):=by omega
      simp only[PP,simprocAttr,Y,I,c,h0,L,Z,c3,G]at B ⊢;by_cases h3:y[k]<=u
      · simp only[PP,simprocAttr,h3]at B ⊢;exact B
      · simp only[PP,simprocAttr,h3,hw]at B ⊢;exact aE (O (k+1) y[k] ⟨by omega,by omega,.inr ⟨by omega,by simp[E]⟩,B⟩ (by omega))
  · simp only[PP,simprocAttr,c];rw[Bp (by omega)]at B;exact B
def G2{G I J L O Q f o:Bool}{N:NF}{y:List Int}(hm:y.length<big)(R:K (.bool (eA N.n (-1) y)) M):
    ai tab 138 [.agg (nfC G I J L O Q N),slI f o .i64 y] M K:=by
  refine aF T.h138 (by simp only[PP,simprocAttr,aV]) ?_;simp only[af138,PP,simprocAttr];refine cL (fun(k:Nat) (u:Int)=>k<=y.length/\K (.bool (eA N.n u (y.drop k))) M) (fun k u=>(.ae:: .ae:: .ptr 0 0 0:: .ae:: .ae::p64 u:: .ae:: .ae::slI f o .i64 y::p64 y.length::p64 k::zj 14)) (fun _ _=>[.cells 0 0 (nfC G I J L O Q N)]) (fun k _=>y.length-k) 0 (-1) ⟨by omega,R⟩ ?_;intro k u ⟨R,B⟩ S;refine aH (by kernel_rfl) ?_;simp only[PP,simprocAttr];refine QIf.intro (fun c=>?_) fun c=>?_
  · have E:k<y.length:=by omega
    rw[dO E]at B;have hw:=aC (k:=k) (by omega);have hg:y[k]? =Iz y[k]:=Ad E;have h0:(0:Int)<=k:=by omega
    simp only[PP,simprocAttr,eA,c,hg,hw,h0]at B ⊢;refine QIf.intro (fun h1=>?_) fun h1=>?_
    · simp only[PP,simprocAttr,h1]at B ⊢;exact B
    · simp only[PP,simprocAttr,h1]at B ⊢;refine QIf.intro (fun h2=>?_) fun h2=>?_
      · simp only[PP,simprocAttr,h2]at B ⊢;exact B
      · simp only[PP,simprocAttr,h2,hw]at B ⊢;exact aE (S (k+1) _ ⟨by omega,B⟩ (by omega))
  · simp only[PP,simprocAttr,c];rw[Bp (by omega)]at B;exact B
def aE6{v p n:Int}(B:0<=p/\p<=255)(E:0<=n/\n<=255)(u:K (p64 (jH v p n)) M):
    ai tab 139 [.agg [p8 p,p8 n],p64 v] M K:=by
  refine aF T.h139 (by simp only[PP,simprocAttr]) ?_;simp only[af139,PP,simprocAttr];refine QIf.intro (fun y=>?_) fun y=>?_
  · simp only[PP,simprocAttr,y,jH]at u ⊢;exact u
  · simp only[PP,simprocAttr,y];refine QIf.intro (fun G=>?_) fun G=>?_
    · simp only[PP,simprocAttr,y,G,jH]at u ⊢;exact u
    · have hw:IntKind.i64.wrap (bOr p n)=bOr p n:=wrap64 (by unfold bOr;omega) (by have:=X8 (a:=p.toNat) (b:=n.toNat) (by omega) (by omega);unfold bOr;omega);simp only[PP,simprocAttr,G,XU B E,iQ B E,aFS y G,hw];refine QIf.intro (fun I=>?_) fun I=>?_
      · have e:jH v p n=7:=by
          unfold jH;rw[if_neg y,if_neg G];rcases(NX B.1 E.1).1 I with q | q
          · rw[if_pos q]
          · rw[if_pos q];split<;>rfl
        rw[e]at u;simp only[PP,simprocAttr,I];exact u
      · have L:¬(2:Int)^v.toNat<=p:=fun q=>I ((NX B.1 E.1).2 (.inl q));have O:¬(2:Int)^v.toNat<=n:=fun q=>I ((NX B.1 E.1).2 (.inr q));simp only[PP,simprocAttr,I,iQ B E];unfold jH at u;rw[if_neg y,if_neg G,if_neg L,if_neg O]at u;refine QIf.intro (fun J=>?_) fun J=>?_
        · rw[if_pos J]at u;simp only[PP,simprocAttr,J];exact u
        · rw[if_neg J]at u;simp only[PP,simprocAttr,J];exact u
end
section
variable (M l:Mem) (i:Nat) (x:bp)
def gk:(M++l)[M.length+i]? =l[i]? :=by rw[Bo (by omega)];congr 1;omega
def gk0:(M++l)[M.length]? =l[0]? :=by rw[Bo (Ac _),Cs]
def sk:(M++l).set (M.length+i) x=M++l.set i x:=by rw[Dc _ _ (by omega)];congr 2;omega
def sk0:(M++l).set M.length x=M++l.set 0 x:=by rw[Dc _ _ (Ac _),Cs]
end
def ID(k:IntKind)(a b:Int):yL (.int k a) [.int k b]=Iz (.int k (min a b)):=by
  simp[yL,bQ,fI,kY,AN,ay];by_cases h:b<a
  · rw[if_pos h];omega
  · rw[if_neg h];omega
def qL{v n:Int}{e:Eg}{l:List Eg}(h:e.fr<0\/n<=e.fr\/e.to<0\/n<=e.to):kN v n (e::l)=8:=by unfold kN;rw[if_pos h]
def tZ{v n:Int}{e:Eg}{l:List Eg}(h:¬(e.fr<0\/n<=e.fr\/e.to<0\/n<=e.to)):kN v n (e::l)=if jH v e.ps e.ng=0 then kN v n l else jH v e.ps e.ng:=by show(if _ then _ else _)=_;rw[if_neg h]
section
variable {tab:FuncId->Option AF} (T:HasA tab){M:Mem}{K:PV->Mem->Prop}
include T
def tT{v:Int}(h0:¬v<0)(B:¬6<v)(u:K (p64 (2^v.toNat)) M):ai tab 98 [p64 v] M K:=by
  refine aF T.h98 (by simp only[PP,simprocAttr]) ?_;have y:bL .shl (.int .i64 1) (.int .u64 (IntKind.u64.wrap v))=Iz (.int .i64 (2^v.toNat)):=by
    have:v=0\/v=1\/v=2\/v=3\/v=4\/v=5\/v=6:=by omega
    rcases this with rfl | rfl | rfl | rfl | rfl | rfl | rfl<;>rfl
  simp only[af98,PP,simprocAttr,y];exact u
def aCQ{v p n:Int}(L:0<=p/\p<=255)(O:0<=n/\n<=255)(u:K (p64 (jH v p n)) M):
    ai tab 160 [.agg [p8 p,p8 n],p64 v] M K:=by
  refine aF T.h160 (by simp only[PP,simprocAttr]) ?_;simp only[af160,PP,simprocAttr];refine QIf.intro (fun y=>?_) fun y=>?_
  · simp only[PP,simprocAttr,y,jH]at u ⊢;exact u
  · simp only[PP,simprocAttr,y];refine QIf.intro (fun B=>?_) fun B=>?_
    · simp only[PP,simprocAttr,y,B,jH]at u ⊢;exact u
    · simp only[PP,simprocAttr,B];refine tT T y B ?_;have Q:IntKind.i64.wrap p=p:=wrap64 (by omega) (by omega);have J:IntKind.i64.wrap n=n:=wrap64 (by omega) (by omega);unfold jH at u;rw[if_neg y,if_neg B]at u;simp only[PP,simprocAttr,Q,J];refine QIf.intro (fun E=>?_) fun E=>?_
      · rw[if_pos E]at u;simp only[PP,simprocAttr,E];exact u
      · rw[if_neg E]at u;simp only[PP,simprocAttr,E,J];refine QIf.intro (fun G=>?_) fun G=>?_
        · rw[if_pos G]at u;simp only[PP,simprocAttr,G];exact u
        · rw[if_neg G]at u;simp only[PP,simprocAttr,G,iQ L O];refine QIf.intro (fun I=>?_) fun I=>?_
          · rw[if_pos I]at u;simp only[PP,simprocAttr,I];exact u
          · rw[if_neg I]at u;simp only[PP,simprocAttr,I];exact u
def ZZ{f o:Bool}{v n:Int}{u:List Eg}(hm:u.length<big)(hb:∀x∈u,(0<=x.ps/\x.ps<=255)/\(0<=x.ng/\x.ng<=255))(U:K (p64 (kN v n u)) M):
    ai tab 97 [slE f o u,p64 v,p64 n] M K:=by
  refine aF T.h97 (by simp only[PP,simprocAttr,aV]) ?_;simp only[af97,PP,simprocAttr];refine cM (fun(k:Nat)=>k<=u.length/\K (p64 (kN v n (u.drop k))) M) (fun k=>(slE f o u::p64 v::p64 n::zj 4++p64 k::zj 55)) (fun _=>[]) (fun k=>u.length-k) 0 ⟨by omega,U⟩ ?_;intro k ⟨V,y⟩ Y;refine aH (by kernel_rfl) ?_;simp only[PP,simprocAttr];refine QIf.intro (fun c=>?_) fun c=>?_
  · have S:k<u.length:=by omega
    obtain⟨e,O⟩:=aM S;rw[f7 O]at y;have hw:=aC (k:=k) (by omega);have h0:(0:Int)<=k:=by omega
    have B:(k:Int)<u.length:=by omega
    have Q:=oA O;have Z:=QY O;have E:(egL u)[k*4]? =Iz (p64 e.fr):=by have:=congrArg (fun(l:List PV)=>l[0]?) Q;simpa [aZ,Bc,Bf]using this
    have G:(egL u)[k*4+1]? =Iz (p64 e.to):=by have:=congrArg (fun(l:List PV)=>l[1]?) Q;simpa [aZ,Bc,Bf]using this
    have I:(egL u)[k*4+2]? =Iz (p8 e.ps):=by have:=congrArg (fun(l:List PV)=>l[2]?) Q;simpa [aZ,Bc,Bf]using this
    have J:(egL u)[k*4+3]? =Iz (p8 e.ng):=by have:=congrArg (fun(l:List PV)=>l[3]?) Q;simpa [aZ,Bc,Bf]using this
    obtain⟨b1,b2⟩:=hb e (Ae O);have bad:(e.fr<0\/n<=e.fr\/e.to<0\/n<=e.to)->K (p64 8) M:=fun h=>by rw[qL h]at y;exact y
    simp only[PP,simprocAttr,c,h0,B,E,G,I,J];refine QIf.intro (fun d1=>?_) fun d1=>?_
    · simp only[PP,simprocAttr,d1];exact bad (.inl d1)
    simp only[PP,simprocAttr,d1,h0,B,E,G,I,J];refine QIf.intro (fun d2=>?_) fun d2=>?_
    · simp only[PP,simprocAttr,d2];exact bad (.inr (.inl d2))
    simp only[PP,simprocAttr,d2,h0,B,E,G,I,J];refine QIf.intro (fun d3=>?_) fun d3=>?_
    · simp only[PP,simprocAttr,d3];exact bad (.inr (.inr (.inl d3)))
    simp only[PP,simprocAttr,d3,h0,B,E,G,I,J];refine QIf.intro (fun R=>?_) fun R=>?_
    · simp only[PP,simprocAttr,R];exact bad (.inr (.inr (.inr R)))
    rw[tZ (by rintro(h | h | h | h)<;>contradiction)]at y;simp only[PP,simprocAttr,R,h0,B,E,G,I,J];refine aCQ T b1 b2 ?_;simp only[PP,simprocAttr];refine QIf.intro (fun L=>?_) fun L=>?_
    · rw[if_pos L]at y;simp only[PP,simprocAttr,L,hw];exact aE (Y (k+1) ⟨by omega,y⟩ (by omega))
    · rw[if_neg L]at y;simp only[PP,simprocAttr,L];exact y
  · simp only[PP,simprocAttr,c];rw[Bp (by omega)]at y;exact y
end
abbrev Wd:=List (BitVec 64)
def wAt(a:Wd)(i:Nat):BitVec 64:=a.getD i 0#64
def kB{a:Wd}{i:Nat}(h:a.length<=i):wAt a i=0#64:=by unfold wAt;rw[At,Bi h];rfl
def qX{a:Wd}{i:Nat}{x:BitVec 64}(h:a[i]? =Iz x):wAt a i=x:=by unfold wAt;rw[At,h];rfl
def gA(a:Wd):Nat->Nat
  | 0=>0
  | n+1=>if wAt a n=0#64 then gA a n else n+1
def rA(a:Wd):∀n,gA a n<=n
  | 0=>Ac _
  | n+1=>by
    unfold gA;split
    · exact Nat.le_succ_of_le (rA a n)
    · exact Ac _
def xJ(a:Wd):∀n i,gA a n<=i->i<n->wAt a i=0#64
  | 0,i,_,h=>by omega
  | n+1,i,h1,h2=>by
    unfold gA at h1;split at h1
    · rename_i h;by_cases e:i=n
      · subst e;exact h
      · exact xJ a n i h1 (by omega)
    · omega
def sV(a:Wd):∀n,gA a n=0\/wAt a (gA a n-1)≠0#64
  | 0=> .inl rfl
  | n+1=>by
    unfold gA;split
    · exact sV a n
    · rename_i h;exact .inr h
def sW(a:Wd):Wd:=a.take (gA a a.length)
def WI(a:Wd):(sW a).length<=a.length:=by unfold sW;rw[Ay];omega
def EA(a:Wd)(i:Nat):wAt (sW a) i=wAt a i:=by
  have u:=rA a a.length;rcases Az i (gA a a.length)with h | h
  · unfold wAt sW;rw[At,At,Bc,if_pos h]
  · rw[kB (by unfold sW;rw[Ay];omega)];rcases Az i a.length with q | q
    · exact(xJ a _ i h q).symm
    · exact(kB q).symm
def lK(op:BitVec 64->BitVec 64->BitVec 64)(a b:Wd)(n:Nat):Wd:=(Av n).map fun i=>op (wAt a i) (wAt b i)
def cmb(op:BitVec 64->BitVec 64->BitVec 64)(a b:Wd):Wd:=sW (lK op a b (min (max a.length b.length) 64))
def mE(op:BitVec 64->BitVec 64->BitVec 64)(a b:Wd)(n:Nat):(lK op a b n).length=n:=by simp[lK]
def UO(op:BitVec 64->BitVec 64->BitVec 64)(a b:Wd)(n:Nat):lK op a b (n+1)=lK op a b n++[op (wAt a n) (wAt b n)]:=by simp[lK,Fc]
def aCW(op:BitVec 64->BitVec 64->BitVec 64)(a b:Wd):(cmb op a b).length<=64:=by have:=WI (lK op a b (min (max a.length b.length) 64));rw[mE]at this;unfold cmb;omega
def Z7{op:BitVec 64->BitVec 64->BitVec 64}(h0:op 0#64 0#64=0#64){a b:Wd}(u:a.length<=64)(hb:b.length<=64)(i:Nat):wAt (cmb op a b) i=op (wAt a i) (wAt b i):=by
  unfold cmb;rw[EA];rcases Az i (min (max a.length b.length) 64)with h | h
  · refine qX ?_;simp only[lK,Ap,Dv h,Cr]
  · rw[kB (by rw[mE];exact h),kB (a:=a) (by omega),kB (a:=b) (by omega),h0]
def bit(a:Wd)(k:Nat):Bool:=(wAt a (k / 64)).getLsbD (k % 64)
def NU{a b:Wd}(u:a.length<=64)(hb:b.length<=64)(k:Nat):bit (cmb (· ||| ·) a b) k=(bit a k||bit b k):=by unfold bit;rw[Z7 (by simp) u hb];simp
def vP{a b:Wd}(u:a.length<=64)(hb:b.length<=64)(k:Nat):bit (cmb (· &&& ·) a b) k=(bit a k&&bit b k):=by unfold bit;rw[Z7 (by simp) u hb];simp
def Q7{op:BitVec 64->BitVec 64->BitVec 64}(a b:Wd):(cmb op a b).length=0↔∀k,bit (cmb op a b) k=Jc:=by
  constructor
  · intro h k;unfold bit;rw[kB (by omega)];simp
  · intro h;have hl:(cmb op a b).length=gA (lK op a b (min (max a.length b.length) 64)) (min (max a.length b.length) 64):=by have:=rA (lK op a b (min (max a.length b.length) 64)) (min (max a.length b.length) 64);unfold cmb sW;rw[Ay,mE];omega
    rcases sV (lK op a b (min (max a.length b.length) 64)) (min (max a.length b.length) 64)with e | e
    · rw[hl,e]
    · exfalso;rw[<-EA]at e;apply e;apply Er;intro j u;have:=h (64*(gA (lK op a b (min (max a.length b.length) 64)) (min (max a.length b.length) 64)-1)+j);unfold bit at this;rw[show(64*(gA (lK op a b (min (max a.length b.length) 64)) (min (max a.length b.length) 64)-1)+j) / 64=gA (lK op a b (min (max a.length b.length) 64)) (min (max a.length b.length) 64)-1 by omega,show(64*(gA (lK op a b (min (max a.length b.length) 64)) (min (max a.length b.length) 64)-1)+j) % 64=j by omega]at this;unfold cmb at this;rw[this];simp
def nS(k:Nat):Wd:=Ag (k / 64) 0#64++[Cp 64 (k % 64)]
def lQ(k:Nat):(nS k).length=k / 64+1:=by simp[nS]
def AH(k j:Nat):bit (nS k) j=decide (j=k):=by
  have u:j % 64<64:=Dl _ (by omega);unfold bit;rcases Gf (j / 64) (k / 64)with h | h | h
  · rw[qX (x:=0#64) (by unfold nS;rw[Bh (by simpa using h)];simp[h])];have:j≠k:=by rintro rfl;omega
    simp[this]
  · rw[qX (x:=Cp 64 (k % 64)) (by unfold nS;rw[Bo (by simp;omega)];simp[h])];rw[Gr];by_cases e:j=k
    · subst e;simp[u]
    · have:k % 64≠j % 64:=by omega
      simp[e,this]
  · rw[kB (by rw[lQ];omega)];have:j≠k:=by rintro rfl;omega
    simp[this]
def qW(a:Wd)(k:Nat):Wd:=cmb (· ||| ·) a (nS k)
def ofL(l:List Nat):Wd:=l.foldl qW []
def E6:∀(l:List Nat) (a:Wd),a.length<=64->(∀x∈l,x<4096)->(l.foldl qW a).length<=64/\∀k,bit (l.foldl qW a) k=(bit a k||decide (k∈l))
  | [],a,u,_=>⟨u,by simp⟩
  | x::l,a,u,h=>by
    have E:=h x (by simp);have hs:(nS x).length<=64:=by rw[lQ];omega
    obtain⟨h1,h2⟩:=E6 l (qW a x) (aCW _ _ _) (fun y B=>h y (by simp[B]));refine⟨h1,fun k=>?_⟩;rw[Du,h2,qW,NU u hs,AH];simp[Bool.or_assoc]
def aCd{l:List Nat}(h:∀x∈l,x<4096):(ofL l).length<=64:=(E6 l [] (by simp) h).1
def aC0{l:List Nat}(h:∀x∈l,x<4096)(k:Nat):bit (ofL l) k=decide (k∈l):=by have:=(E6 l [] (by simp) h).2 k;unfold ofL;rw[this];simp[bit,wAt]
abbrev wI(a:Wd):List Int:=a.map fun b=>((b.toNat:Nat):Int)
def oX{n:Nat}(h:n<18446744073709551616):IntKind.u64.wrap (n:Int)=(n:Int):=by simp only[IntKind.wrap,IntKind.signed,IntKind.bits];simp;omega
def NR(b:BitVec 64):Be 64 ((b.toNat:Nat):Int)=b:=by rw[BitVec.ofInt_natCast];simp
def qB(a b:BitVec 64):bL .and (.int .u64 ((a.toNat:Nat):Int)) (.int .u64 ((b.toNat:Nat):Int))=Iz (.int .u64 (((a&&& b).toNat:Nat):Int)):=by have h:=oX (a&&& b).isLt;simp only[bL,bQ,eY,bR,dH,IntKind.bits,NR,Bs,if_false,if_true];show Iz (PV.int .u64 (IntKind.u64.wrap (((a&&& b).toNat:Nat):Int)))=_;rw[h]
def C5(a b:BitVec 64):bL .or (.int .u64 ((a.toNat:Nat):Int)) (.int .u64 ((b.toNat:Nat):Int))=Iz (.int .u64 (((a||| b).toNat:Nat):Int)):=by have h:=oX (a||| b).isLt;simp only[bL,bQ,eY,bR,dH,IntKind.bits,NR,Bs,if_false,if_true];show Iz (PV.int .u64 (IntKind.u64.wrap (((a||| b).toNat:Nat):Int)))=_;rw[h]
def yP{k:Nat}(h:k<64):bL .shl (.int .u64 1) (.int .i64 (k:Int))=Iz (.int .u64 (((Cp 64 k).toNat:Nat):Int)):=by
  have h2:(Cp 64 k).toNat=2^k:=by rw[BitVec.toNat_twoPow,Fh (Ic (by omega) h)]
  have h3:=oX (n:=2^k) (Ic (n:=64) (by omega) h);have u:min ((k:Int).toNat) 64=k:=by omega
  simp only[bL,bQ,eY,bR,sL,IntKind.bits,u,h2];rw[if_pos trivial,if_neg (by omega),show(1:Int)*2^k=((2^k:Nat):Int) by simp,h3];rfl
end Go.Am.Ar
--P14
namespace Go.Am.Ar
open Go.Am.PV renaming ae->Zj
open Go.Am renaming jd->P1,ku->P2,kg->P3,ec->P4,bp.under->P5,gi->P6,di->P7,bu->P8,pev->P9,iy->P10,ay->P11,jq->P12,dq->P13,cG->P14,AO.effect->P15
open List renaming replicate->L1
section
variable {tab:FuncId->Option AF} (T:HasA tab){M:Mem}{K:PV->Mem->Prop}
include T
def WA{v:Int}(u:K (.bool (decide (0<=v/\v<=6))) M):ai tab 95 [p64 v] M K:=by
  refine aF T.h95 (by simp only[PP,P14,simprocAttr]) ?_;simp only[af95,PP,P14,simprocAttr];refine QIf.intro (fun y=>?_) fun y=>?_
  · simp only[PP,P14,simprocAttr,y]at u ⊢;exact u
  · simp only[PP,P14,simprocAttr,y]at u ⊢;exact u
def aAf{O Q R S U V:Bool}{N:NF}(B:BnN N)(u:K (p64 (dA N)) M):
    ai tab 43 [.agg (nfC O Q R S U V N)] M K:=by
  refine aF T.h43 (by simp only[PP,P14,simprocAttr,aV]) ?_;simp only[af43,PP,P14,simprocAttr];refine WA T ?_;unfold dA at u;by_cases I:N.vs<0\/6<N.vs
  · rw[if_pos I]at u;have e:¬(0<=N.vs/\N.vs<=6):=by omega
    simp only[PP,P14,simprocAttr,e];exact u
  rw[if_neg I]at u;have e:0<=N.vs/\N.vs<=6:=by omega
  simp only[PP,P14,simprocAttr,e];refine QIf.intro (fun y=>?_) fun y=>?_
  · rw[if_pos y]at u;simp only[PP,P14,simprocAttr,y];exact u
  rw[if_neg y]at u;simp only[PP,P14,simprocAttr,y];have four:(64<N.n\/512<(N.es.length:Int))->K (p64 4) M:=fun h=>by rw[if_pos h]at u;exact u
  refine QIf.intro (fun E=>?_) fun E=>?_
  · simp only[PP,P14,simprocAttr,E];exact four (.inl E)
  simp only[PP,P14,simprocAttr,E];refine QIf.intro (fun G=>?_) fun G=>?_
  · simp only[PP,P14,simprocAttr,G];exact four (.inr G)
  rw[if_neg (by rintro(h | h)<;>contradiction)]at u;simp only[PP,P14,simprocAttr,G];refine CE T B.s ?_
  cases J:eA N.n (-1) N.st with
  | false=>rw[J]at u;simp only[PP,P14,simprocAttr]at u ⊢;exact u
  | true=>
    rw[J]at u;simp only[PP,P14,simprocAttr];refine CE T B.f ?_
    cases L:eA N.n (-1) N.fi with
    | false=>rw[L]at u;simp only[PP,P14,simprocAttr]at u ⊢;exact u
    | true=>rw[L]at u;simp only[PP,P14,simprocAttr]at u ⊢;refine ZZ T B.e B.b ?_;simp only[PP,P14,simprocAttr];exact u
def aFb{B E G I J L:Bool}{N:NF}(u:K (.bool (decide (N.vs<0\/6<N.vs))) M):ai tab 134 [.cp (nfC B E G I J L N) 0] M K:=by
  refine aF T.h134 (by simp only[PP,P14,simprocAttr,PV.under,bS]) ?_;simp only[af134,PP,P14,simprocAttr];refine QIf.intro (fun y=>?_) fun y=>?_
  · simp only[PP,P14,simprocAttr,y]at u ⊢;exact u
  · simp only[PP,P14,simprocAttr,y]at u ⊢;exact u
def aFa{u y B E G I:Bool}{N:NF}(J:K (.bool (decide (N.n<0))) M):ai tab 135 [.cp (nfC u y B E G I N) 0] M K:=by refine aF T.h135 (by simp only[PP,P14,simprocAttr,PV.under,bS]) ?_;simp only[af135,PP,P14,simprocAttr];exact J
def aE9{B E G I J L:Bool}{N:NF}(u:K (.bool (decide (64<N.n\/512<(N.es.length:Int)))) M):ai tab 136 [.cp (nfC B E G I J L N) 0] M K:=by
  refine aF T.h136 (by simp only[PP,P14,simprocAttr,PV.under,bS]) ?_;simp only[af136,PP,P14,simprocAttr];refine QIf.intro (fun y=>?_) fun y=>?_
  · simp only[PP,P14,simprocAttr,y]at u ⊢;exact u
  · simp only[PP,P14,simprocAttr,y]at u ⊢;exact u
def aE8{G I J L O Q:Bool}{N:NF}(B:BnN N)(u:K (.bool (decide (¬(eA N.n (-1) N.st=Jb/\eA N.n (-1) N.fi=Jb)))) M):ai tab 137 [.cp (nfC G I J L O Q N) 0] M K:=by
  refine aF T.h137 (by simp only[PP,P14,simprocAttr,PV.under,bS]) ?_;simp only[af137,PP,P14,simprocAttr];refine G2 T B.s ?_
  cases y:eA N.n (-1) N.st with
  | false=>rw[y]at u;simp only[PP,P14,simprocAttr]at u ⊢;exact u
  | true=>
    rw[y]at u;simp only[PP,P14,simprocAttr];refine G2 T B.f ?_
    cases E:eA N.n (-1) N.fi with
    | false=>rw[E]at u;simp only[PP,P14,simprocAttr]at u ⊢;exact u
    | true=>rw[E]at u;simp only[PP,P14,simprocAttr]at u ⊢;exact u
def CK{E I J L u y:Bool}{N:NF}(B:BnN N)(O:K (p64 (dA N)) M):
    ai tab 79 [.agg (nfC E I J L u y N)] M K:=by
  refine bD T.h79 (by simp only[PP,P14,simprocAttr,aV]) ?_;simp only[af79];refine aA (aB ?_);simp only[PP,P14,simprocAttr];refine aU (GStep.dw (b:=(.ae:: .cp (nfC E I J L u y N) 0::p64 0::zj 60)) 0 (Af _) rfl (by simp only[gE,gF,Ak,An,dQ,cU,cT,dP]) rfl) ?_;refine aA (aB ?_);simp only[PP,P14,simprocAttr];refine cL (fun(k:Nat) (G:Mem)=>k<=4/\(0<k->¬(N.vs<0\/6<N.vs))/\(1<k->¬(N.n<0))/\(2<k->¬(64<N.n\/512<(N.es.length:Int)))/\(3<k->¬(¬(eA N.n (-1) N.st=Jb/\eA N.n (-1) N.fi=Jb))))
    (fun k G=>(.ae:: .cp (nfC E I J L u y N) 0::zj 14++ .sl Jb Jb 2 4 [.func (.func 134) [] [.cp (nfC E I J L u y N) 0],p64 7,.func (.func 135) [] [.cp (nfC E I J L u y N) 0],p64 1,.func (.func 136) [] [.cp (nfC E I J L u y N) 0],p64 4,.func (.func 137) [] [.cp (nfC E I J L u y N) 0],p64 8]::p64 4::p64 k::zj 44)) (fun _ G=>G) (fun k _=>4-k) 0 [.gone] ⟨by omega,by omega,by omega,by omega,by omega⟩ ?_
  intro k G ⟨a0,R,i2,i3,i4⟩ ih;have w1:IntKind.i64.wrap 1=1:=rfl;have w2:IntKind.i64.wrap 2=2:=rfl;have w3:IntKind.i64.wrap 3=3:=rfl;have w4:IntKind.i64.wrap 4=4:=rfl;unfold dA at O;have S:(N.vs<0\/6<N.vs)->K (p64 7) M:=fun h=>by rw[if_pos h]at O;exact O
  have U:0<k->(N.n<0)->K (p64 1) M:=fun h0 h=>by rw[if_neg (R h0),if_pos h]at O;exact O
  have V:1<k->(64<N.n\/512<(N.es.length:Int))->K (p64 4) M:=fun h0 h=>by rw[if_neg (R (by omega)),if_neg (i2 h0),if_pos h]at O;exact O
  have Y:2<k->(¬(eA N.n (-1) N.st=Jb/\eA N.n (-1) N.fi=Jb))->K (p64 8) M:=fun h0 h=>by rw[if_neg (R (by omega)),if_neg (i2 (by omega)),if_neg (i3 h0),if_neg h]at O;exact O
  have Z:3<k->K (p64 (kN N.vs N.n N.es)) M:=fun h=>by rw[if_neg (R (by omega)),if_neg (i2 (by omega)),if_neg (i3 (by omega)),if_pos (Classical.not_not.1 (i4 h))]at O;exact O
  have a1:k=0\/k=1\/k=2\/k=3\/k=4:=by omega
  rcases a1 with rfl | rfl | rfl | rfl | rfl
  · refine aH (by kernel_rfl) ?_;simp only[PP,P14,simprocAttr,Ab,gk0,sk0];refine aFb T ?_;by_cases q:(N.vs<0\/6<N.vs)
    · simp only[PP,P14,simprocAttr,q,Ab,gk,gk0,sk,sk0,decide_true];exact S q
    · simp only[PP,P14,simprocAttr,q,Ab,gk,gk0,sk,sk0,decide_false,w1,w2,w3,w4];refine aR (ih 1 (G++[.cells 0 1 [.func (.func 134) [] [.cp (nfC E I J L u y N) 0],p64 7]]) ⟨by omega,fun _=>q,fun h=>absurd h (by omega),fun h=>absurd h (by omega),fun h=>absurd h (by omega)⟩ (by omega)) (by simp only[PW]) rfl
  · refine aH (by kernel_rfl) ?_;simp only[PP,P14,simprocAttr,Ab,gk0,sk0];refine aFa T ?_;by_cases q:(N.n<0)
    · simp only[PP,P14,simprocAttr,q,Ab,gk,gk0,sk,sk0,decide_true];exact U (by omega) q
    · simp only[PP,P14,simprocAttr,q,Ab,gk,gk0,sk,sk0,decide_false,w1,w2,w3,w4];refine aR (ih 2 (G++[.cells 0 1 [.func (.func 135) [] [.cp (nfC E I J L u y N) 0],p64 1]]) ⟨by omega,fun _=>R (by omega),fun _=>q,fun h=>absurd h (by omega),fun h=>absurd h (by omega)⟩ (by omega)) (by simp only[PW]) rfl
  · refine aH (by kernel_rfl) ?_;simp only[PP,P14,simprocAttr,Ab,gk0,sk0];refine aE9 T ?_;by_cases q:(64<N.n\/512<(N.es.length:Int))
    · simp only[PP,P14,simprocAttr,q,Ab,gk,gk0,sk,sk0,decide_true];exact V (by omega) q
    · simp only[PP,P14,simprocAttr,q,Ab,gk,gk0,sk,sk0,decide_false,w1,w2,w3,w4];refine aR (ih 3 (G++[.cells 0 1 [.func (.func 136) [] [.cp (nfC E I J L u y N) 0],p64 4]]) ⟨by omega,fun _=>R (by omega),fun _=>i2 (by omega),fun _=>q,fun h=>absurd h (by omega)⟩ (by omega)) (by simp only[PW]) rfl
  · refine aH (by kernel_rfl) ?_;simp only[PP,P14,simprocAttr,Ab,gk0,sk0];refine aE8 T B ?_;by_cases q:(¬(eA N.n (-1) N.st=Jb/\eA N.n (-1) N.fi=Jb))
    · simp only[PP,P14,simprocAttr,q,Ab,gk,gk0,sk,sk0,decide_true];exact Y (by omega) q
    · simp only[PP,P14,simprocAttr,q,Ab,gk,gk0,sk,sk0,decide_false,w1,w2,w3,w4];refine aR (ih 4 (G++[.cells 0 1 [.func (.func 137) [] [.cp (nfC E I J L u y N) 0],p64 8]]) ⟨by omega,fun _=>R (by omega),fun _=>i2 (by omega),fun _=>i3 (by omega),fun _=>q⟩ (by omega)) (by simp only[PW]) rfl
  · have hg:=Z (by omega);refine aH (by kernel_rfl) ?_;simp only[PP,P14,simprocAttr];refine aB ?_;simp only[PP,P14,simprocAttr];refine cL (fun(k:Nat) (G:Mem)=>k<=N.es.length/\K (p64 (kN N.vs N.n (N.es.drop k))) M) (fun k G=>(.ae:: .cp (nfC E I J L u y N) 0::zj 27++slE u y N.es::p64 N.es.length::p64 k::zj 31)) (fun _ G=>G) (fun k _=>N.es.length-k) 0 G ⟨by omega,hg⟩ ?_;intro k G ⟨a0,Q⟩ ih;refine aH (by kernel_rfl) ?_;simp only[PP,P14,simprocAttr];refine QIf.intro (fun c=>?_) fun c=>?_
    · have a2:k<N.es.length:=by omega
      obtain⟨e,ge⟩:=aM a2;rw[f7 ge]at Q;have hw:=aC (k:=k) (by have:=B.e;omega);have h0:(0:Int)<=k:=by omega
      have h4:=oA ge;have a3:k*4+4<=(egL N.es).length:=by rw[eW];exact QY ge
      obtain⟨b1,b2⟩:=B.b e (Ae ge);have bad:(e.fr<0\/N.n<=e.fr\/e.to<0\/N.n<=e.to)->K (p64 8) M:=fun h=>by rw[qL h]at Q;exact Q
      simp only[PP,P14,simprocAttr,c,h0,h4,a3,Ab,gk,gk0,sk,sk0,ID];refine QIf.intro (fun d1=>?_) fun d1=>?_
      · simp only[PP,P14,simprocAttr,d1];exact bad (by omega)
      simp only[PP,P14,simprocAttr,d1,Ab,gk,gk0,sk,sk0];refine QIf.intro (fun d2=>?_) fun d2=>?_
      · simp only[PP,P14,simprocAttr,d2];exact bad (by omega)
      rw[tZ (by omega)]at Q;simp only[PP,P14,simprocAttr,d2,Ab,gk,gk0,sk,sk0];refine aE6 T b1 b2 ?_;simp only[PP,P14,simprocAttr];refine QIf.intro (fun d5=>?_) fun d5=>?_
      · rw[if_pos d5]at Q;simp only[PP,P14,simprocAttr,d5,hw];exact aE (ih (k+1) _ ⟨by omega,Q⟩ (by omega))
      · rw[if_neg d5]at Q;simp only[PP,P14,simprocAttr,d5];exact Q
    · simp only[PP,P14,simprocAttr,c];rw[Bp (by omega)]at Q;exact Q
end
def vZ(u y:Int)(x:Nat):Bool:=decide (aAp x u=u)&&decide (aAp x y=0)
structure NOk (N:NF):Prop where
  v0:0<=N.vs
  v6:N.vs<=6
  n0:0<=N.n
  n64:N.n<=64
  qb:N.es.length<=512
  st:eA N.n (-1) N.st=Jb
  fi:eA N.n (-1) N.fi=Jb
  ed:∀e∈N.es,0<=e.fr/\e.fr<N.n/\0<=e.to/\e.to<N.n/\jH N.vs e.ps e.ng=0
def vL{v n:Int} :∀{l:List Eg},kN v n l=0->∀e∈l,0<=e.fr/\e.fr<n/\0<=e.to/\e.to<n/\jH v e.ps e.ng=0
  | [],_,e,h=>by cases h
  | x::l,h,e,he=>by
    by_cases c:x.fr<0\/n<=x.fr\/x.to<0\/n<=x.to
    · rw[qL c]at h;cases h
    · rw[tZ c]at h;by_cases d:jH v x.ps x.ng=0
      · rw[if_pos d]at h;rcases List.mem_cons.1 he with rfl | he
        · exact⟨by omega,by omega,by omega,by omega,d⟩
        · exact vL h e he
      · rw[if_neg d]at h;exact absurd h d
def kJ{N:NF}(h:dA N=0):NOk N:=by
  unfold dA at h;split at h
  · cases h
  · split at h
    · cases h
    · split at h
      · cases h
      · split at h
        · rename_i y B E u;exact⟨by omega,by omega,by omega,by omega,by omega,u.1,u.2,vL h⟩
        · cases h
def H9{v:Int}(u:v<=6):2^v.toNat<=64:=by
  have:v.toNat=0\/v.toNat=1\/v.toNat=2\/v.toNat=3\/v.toNat=4\/v.toNat=5\/v.toNat=6:=by omega
  rcases this with h | h | h | h | h | h | h<;>rw[h]<;>decide
def KW{u:FuncId->Option AF}(id:Nat)(first args:List PV)(M:Mem)(K:PV->Mem->Prop):BA u (.yld id first) args M K=((∃ver r,M[id]? =Iz (.loop ver r))/\OD u id (first++args) M K):=rfl
section
variable {tab:FuncId->Option AF} (T:HasA tab){M:Mem}{K:PV->Mem->Prop}
include T
def aF6{u B:Int}{x:Nat}(I:0<=u/\u<=255)(J:0<=B/\B<=255)(L:x<256)(E:K (.bool (vZ u B x)) M):
    ai tab 214 [.agg [p8 u,p8 B],p8 x] M K:=by
  refine aF T.h214 (by simp only[PP,simprocAttr]) ?_;have h1:=iQ (x:=x) (y:=u) (by omega) I;have h2:=iQ (x:=x) (y:=B) (by omega) J;simp only[af214,PP,simprocAttr,h1,h2];refine QIf.intro (fun G=>?_) fun G=>?_
  · simp only[PP,simprocAttr,G,h2,vZ]at E ⊢;exact E
  · simp only[PP,simprocAttr,G,vZ]at E ⊢;exact E
end
abbrev oF(b:BitVec 64):PV:= .int .u64 ((b.toNat:Nat):Int)
abbrev slW(f o:Bool)(a:Wd):PV:= .sl f o 1 a.length ((wI a).map (PV.int .u64))
def V8{a:Wd}{i:Nat}(h:i<a.length):(wI a)[i]? =Iz (((wAt a i).toNat:Nat):Int):=by rw[Ap,Ad h,qX (Ad h)];rfl
def aEv{x y:Int}(h:y≠0):bL .quo (.int .i64 x) (.int .i64 y)=Iz (.int .i64 (IntKind.i64.wrap (x.tdiv y))):=by simp[bL,bQ,eY,ay,h,bR,dH]
def gY{k:IntKind}{x y:Int} :yL (.int k x) [.int k y]=Iz (.int k (min x y)):=by simp[yL,bQ,fI,kY,AN,ay];split<;>omega
def SC{j:Nat}(h:j<4000000000000):IntKind.i64.wrap (((j+1:Nat):Int)-1)=(j:Int):=by rw[wrap64 (by omega) (by omega)];omega
def aEW{g ver m:Nat}{W:Wd}(h:m<=W.length):pN (Iz (.cells g ver ((wI W).map (PV.int .u64)))) g 1 0 m=Iz (slW Jc Jb (W.take m)):=by
  rw[cQ (by simp;omega) (aL _ _ _)];have h1:aZ ((wI W).map (PV.int .u64)) 0 (m*1)=(wI (W.take m)).map (PV.int .u64):=by simp[aZ,List.map_take]
  have h2:(W.take m).length=m:=by rw[Ay];omega
  rw[h1];unfold slW;rw[h2]
def QA{α:Type}(z x:α):∀n:Nat,(z::Ag n z).set n x=Ag n z++[x]
  | 0=>rfl
  | n+1=>by rw[Dq,Fb,QA z x n];rfl
section
variable {tab:FuncId->Option AF} (T:HasA tab){M:Mem}{K:PV->Mem->Prop}
include T
def aAj{f o:Bool}{a:Wd}{i:Nat}(u:K (oF (wAt a i)) M):
    ai tab 215 [slW f o a,p64 i] M K:=by
  refine aF T.h215 (by simp only[PP,simprocAttr]) ?_;simp only[af215,PP,simprocAttr];refine QIf.intro (fun c=>?_) fun c=>?_
  · have y:i<a.length:=by omega
    have B:(0:Int)<=i:=by omega
    have g:=V8 y;rw[Ap]at g;simp only[PP,simprocAttr,c,g,B];exact u
  · rw[kB (by omega)]at u;simp only[PP,simprocAttr,c];exact u
def Q8{id g off n ver:Nat}{cs:List PV}(u:M[id]? =Iz (.cells g ver cs))(y:K (.ref id g 1 off n) M):
    ai tab 216 [.ref id g 1 off n] M K:=by
  refine aN T.h216 ?_;have e:((n:Int)-0).toNat=n:=by omega
  have B:(0:Int)<=n:=by omega
  simp only[af216,PP,simprocAttr,u,e,B,Cc];exact y
def DQ{U V Y Z:Bool}{a b:Wd}{g:FuncId}(op:BitVec 64->BitVec 64->BitVec 64)(ha:a.length<big)(hb:b.length<big)
    (Q:∀(M:Mem) (K:PV->Mem->Prop) (x y:BitVec 64),K (oF (op x y)) M->ai tab g [oF x,oF y] M K) (hk:K (slW Jc Jb (cmb op a b)) M):
    ai tab 182 [slW U V a,slW Y Z b,.func (.func g) [] []] M K:=by
  refine aF T.h182 (by simp only[PP,simprocAttr]) ?_;simp only[af182,PP,simprocAttr];have hn:min (max (a.length:Int) b.length) 64=((min (max a.length b.length) 64:Nat):Int):=by omega
  have G:K (slW Jc Jb (sW (lK op a b (min (max a.length b.length) 64)))) M:=hk;generalize a1:min (max a.length b.length) 64=n at hn G;have a0:n<=64:=by omega
  simp only[PP,simprocAttr,gY,hn];refine aU (GStep.nil 8 1 rfl rfl rfl) ?_;simp only[di,Ak,An,Ao,Bb,Cl];refine cL (fun(i E:Nat)=>i<=n)
    (fun i E=>(slW U V a::slW Y Z b:: .func (.func g) [] []::zj 4++ .func (.func 215) [] []:: .ref 0 E 1 0 i::zj 6++p64 n::p64 i::zj 35))
    (fun i E=>[.cells E 0 ((wI (lK op a b i)).map (PV.int .u64))])
    (fun i _=>n-i) 0 0 (by omega) ?_
  intro i E hi ih;refine aH (by kernel_rfl) ?_;simp only[PP,simprocAttr];refine QIf.intro (fun c=>?_) fun c=>?_
  · have J:i<n:=by omega
    have hw:=aC (k:=i) (by show _<1000000000000;omega);have b1:(i+1)*8<=140737488355328:=by omega
    have b2:i<=9223372036854775806:=by omega
    have b3:i<=(lK op a b i).length:=by rw[mE];omega
    have R:aZ (Ie (PV.int .u64) (wI (lK op a b i))) 0 i=Ie (PV.int .u64) (wI (lK op a b i)):=aK _ _ (by rw[Al,Al,mE]);simp only[PP,simprocAttr,c];refine aAj T ?_;simp only[PP,simprocAttr];refine aAj T ?_;simp only[PP,simprocAttr];refine Q _ _ _ _ ?_;simp only[PP,simprocAttr,b1,b2,b3,R,hw];exact aR (ih (i+1) (E+1) (by omega) (by omega)) (by simp only[PW]) (by rw[UO];simp)
  · have J:i=n:=by omega
    subst J;simp only[PP,simprocAttr,c];have L:=mE op a b i;generalize lK op a b i=W at G L ⊢;refine cM (fun(m:Nat)=>m<=i/\gA W m=gA W W.length)
      (fun m=>(zj 8++ .ref 0 E 1 0 m::zj 43)) (fun m=>[.cells E 0 ((wI W).map (PV.int .u64))]) (fun m=>m) i ⟨by omega,by rw[L]⟩ ?_
    intro m ⟨hm,B⟩ S;have u:gA W m=m->K (slW Jc Jb (W.take m)) M:=fun e=>by have O:K (slW Jc Jb (W.take (gA W W.length))) M:=G;rw[<-B,e]at O;exact O
    refine aH (by kernel_rfl) ?_;simp only[PP,simprocAttr];refine QIf.intro (fun d=>?_) fun d=>?_
    · obtain⟨j,rfl⟩:∃j,m=j+1:=⟨m-1,by omega⟩;have hw:=SC (j:=j) (by omega);have j0:(0:Int)<=j:=by omega
      have j1:(j:Int)<((j+1:Nat):Int):=by omega
      have gj:=V8 (a:=W) (i:=j) (by omega);rw[Ap]at gj;have e2:((j:Int)-0).toNat=j:=by omega
      have j2:(j:Int)<=((j+1:Nat):Int):=by omega
      simp only[PP,simprocAttr,hw,j0,j1,gj,d];have et:gA W (j+1)=if wAt W j=0#64 then gA W j else j+1:=rfl
      rw[et]at B u;refine QIf.intro (fun e=>?_) fun e=>?_
      · have hz:wAt W j=0#64:=Fe (by simpa using e);rw[if_pos hz]at B;simp only[PP,simprocAttr,e,hw,j0,j2,e2];exact aE (S j ⟨by omega,B⟩ (by omega))
      · have hz:¬wAt W j=0#64:=fun h=>e (by rw[h];rfl);rw[if_neg hz]at u;have I:=u rfl;simp only[PP,simprocAttr,e];refine Q8 T rfl ?_;simp only[PP,simprocAttr,aEW (W:=W) (m:=j+1) (by omega)];exact I
    · have:m=0:=by omega
      subst this;have I:=u rfl;simp only[PP,simprocAttr,d];refine Q8 T rfl ?_;simp only[PP,simprocAttr,aEW (W:=W) (m:=0) (by omega)];exact I
def aFT{x y:BitVec 64}(u:K (oF (x||| y)) M):ai tab 211 [oF x,oF y] M K:=by refine aF T.h211 (by simp only[PP,simprocAttr]) ?_;simp only[af211,PP,simprocAttr,C5];exact u
def aFg{x y:BitVec 64}(u:K (oF (x&&& y)) M):ai tab 183 [oF x,oF y] M K:=by refine aF T.h183 (by simp only[PP,simprocAttr]) ?_;simp only[af183,PP,simprocAttr,qB];exact u
def aBB{u B E G:Bool}{a b:Wd}(I:a.length<big)(hb:b.length<big)(J:K (slW Jc Jb (cmb (fun x y=>x||| y) a b)) M):
    ai tab 175 [slW u B a,slW E G b] M K:=by
  refine aF T.h175 (by simp only[PP,simprocAttr]) ?_;simp only[af175,PP,simprocAttr];refine DQ T (fun x y=>x||| y) I hb (fun M K x y h=>aFT T h) ?_;simp only[PP,simprocAttr];exact J
def JO{u B E G:Bool}{a b:Wd}(I:a.length<big)(hb:b.length<big)(J:K (slW Jc Jb (cmb (fun x y=>x&&& y) a b)) M):
    ai tab 146 [slW u B a,slW E G b] M K:=by
  refine aF T.h146 (by simp only[PP,simprocAttr]) ?_;simp only[af146,PP,simprocAttr];refine DQ T (fun x y=>x&&& y) I hb (fun M K x y h=>aFg T h) ?_;simp only[PP,simprocAttr];exact J
def HL{k:Nat}(h:k<4096)(B:K (slW Jc Jb (nS k)) M):ai tab 176 [p64 k] M K:=by
  refine aF T.h176 (by simp only[PP,simprocAttr]) ?_;have E:¬(k:Int)<0:=by omega
  have k1:¬(4095:Int)<k:=by omega
  have u:(64:Int)≠0:=by omega
  have G:IntKind.i64.wrap ((k:Int).tdiv 64)=((k / 64:Nat):Int):=by rw[Fs (by omega),wrap64 (by omega) (by omega)];omega
  have I:(k:Int).tmod 64=((k % 64:Nat):Int):=by rw[Fw (by omega)];omega
  have J:=aC (k:=k / 64) (by show _<1000000000000;omega);have L:(0:Int)<=((k / 64+1:Nat):Int):=by omega
  have O:((k / 64+1:Nat):Int)*8<=140737488355328:=by omega
  have Q:((k / 64+1:Nat):Int)<=9223372036854775807:=by omega
  have R:(0:Int)<=((k / 64:Nat):Int):=by omega
  have S:((k / 64:Nat):Int)<((k / 64+1:Nat):Int):=by omega
  have V:k / 64+1<=k / 64+1:=Ac _;have y:=yP (k:=k % 64) (Dl _ (by omega));simp only[af176,PP,simprocAttr,E,k1,XD u,aEv u,G,I,J,L,O,Q,R,S,y,Cc];have U:Ag (k / 64) (PV.int .u64 0)++[PV.int .u64 (((Cp 64 (k % 64)).toNat:Nat):Int)]=(wI (nS k)).map (PV.int .u64):=by
    simp[nS]
  have hl:=lQ k;rw[QA,U];have ht:(nS k).take (k / 64+1)=nS k:=Ba (by omega);simp only[PP,simprocAttr,aEW (W:=nS k) (m:=k / 64+1) (by omega),ht];exact B
def aD4{f o:Bool}{a:Wd}{k:Nat}(u:a.length<big)(h:k<4096)(y:K (slW Jc Jb (qW a k)) M):ai tab 140 [slW f o a,p64 k] M K:=by refine aF T.h140 (by simp only[PP,simprocAttr]) ?_;simp only[af140,PP,simprocAttr];refine HL T h ?_;simp only[PP,simprocAttr];refine aBB T u (by rw[lQ];show _<1000000000000;omega) ?_;simp only[PP,simprocAttr];exact y
def FN{u B E G:Bool}{a b:Wd}(I:a.length<big)(hb:b.length<big)(J:K (.bool (decide (0<(cmb (fun x y=>x&&& y) a b).length))) M):
    ai tab 85 [slW u B a,slW E G b] M K:=by
  refine aF T.h85 (by simp only[PP,simprocAttr]) ?_;simp only[af85,PP,simprocAttr];refine JO T I hb ?_;simp only[PP,simprocAttr,Int.natCast_pos];exact J
end
abbrev rK(f o y B:Bool)(u:List (List Bool)):PV:= .sl f o 1 u.length (u.map (slB y B))
def aAr{a:Wd}{k:Nat}(u:a.length<=64)(B:k<4096):decide (0<(cmb (fun x y=>x&&& y) a (nS k)).length)=bit a k:=by
  have hs:(nS k).length<=64:=by rw[lQ];omega
  cases hb:bit a k with
  | true=>refine decide_eq_true (Nat.pos_of_ne_zero fun h=>?_);have:=(Q7 a (nS k)).1 h k;rw[vP u hs,AH,hb]at this;simp at this
  | false=>
    refine decide_eq_false fun h=>?_;have:(cmb (fun x y=>x&&& y) a (nS k)).length=0:=(Q7 a (nS k)).2 fun j=>by
      rw[vP u hs,AH];by_cases e:j=k
      · subst e;rw[hb];rfl
      · simp[e]
    omega
section
variable {tab:FuncId->Option AF} (T:HasA tab){M:Mem}{K:PV->Mem->Prop}
include T
def aCY{f o:Bool}{a:Wd}{k:Nat}(y:a.length<=64)(u:k<4096)(B:K (.bool (bit a k)) M):
    ai tab 181 [slW f o a,p64 k] M K:=by
  refine aF T.h181 (by simp only[PP,simprocAttr]) ?_;simp only[af181,PP,simprocAttr];refine HL T u ?_;simp only[PP,simprocAttr];refine FN T (by show _<1000000000000;omega) (by show _<1000000000000;rw[lQ];omega) ?_;simp only[PP,simprocAttr,aAr y u];exact B
end
def jA{n:Int}{l:List Int}(h:eA n (-1) l=Jb):∀x∈l,0<=x/\x<n:=fun x u=>by have:=(iP h).2 x u;omega
def faW(l:List Int):Wd:=ofL (l.map Cq)
def aDU{N:NF}(C:NOk N){l:List Int}(h:eA N.n (-1) l=Jb):(∀x∈l.map Cq,x<4096)/\(faW l).length<=64/\∀k:Nat,bit (faW l) k=decide ((k:Int)∈l):=by
  have hm:=jA h;have B:=C.n64;have h1:∀x∈l.map Cq,x<4096:=fun x E=>by obtain⟨y,u,rfl⟩:=List.mem_map.1 E;have:=hm y u;omega
  refine⟨h1,aCd h1,fun k=>?_⟩;rw[faW,aC0 h1,decide_eq_decide,Em];exact⟨fun⟨y,u,e⟩=>by have:=hm y u;rw[show(k:Int)=y by omega];exact u,fun G=>⟨k,G,by simp⟩⟩
def IC{n:Int}{l:List Int}(h:eA n (-1) l=Jb)(G:n<=64):l.length<=64:=by
  obtain⟨h1,h2⟩:=iP h;have u:∀(l:List Int) (a:Int),l.Pairwise (· < ·)->(∀x∈l,a<x/\x<n)->(l.length:Int)<=max 0 (n-a-1):=by
    intro l
    induction l with
    | nil=>intro a _ _;simp;omega
    | cons x l B=>intro a E y;have h1:=List.pairwise_cons.1 E;have h2:=B x h1.2 fun z hz=>⟨h1.1 z hz,(y z (by simp[hz])).2⟩;have h3:=y x (by simp);rw[Ao];omega
  have:=u l (-1) h1 h2;omega
section
variable {tab:FuncId->Option AF} (T:HasA tab){M:Mem}{K:PV->Mem->Prop}
include T
end
def lW(u:List Eg)(x:Nat):List Eg:=u.filter fun e=>vZ e.ps e.ng x
def aGk(u:List Eg)(s:Wd)(x:Nat)(o:Wd):Prop:=o.length<=64/\∀k:Nat,bit o k=Jb↔∃e∈lW u x,bit s e.fr.toNat=Jb/\e.to=k
def aAk{a:Wd}{k:Nat}(y:a.length<=64)(B:k<4096):(qW a k).length<=64/\∀j,bit (qW a k) j=(bit a j||decide (j=k)):=by have:=E6 [k] a y (fun x u=>by simp at u;subst u;exact B);refine⟨this.1,fun j=>?_⟩;have h:=this.2 j;simpa using h
section
variable {tab:FuncId->Option AF} (T:HasA tab){M:Mem}{K:PV->Mem->Prop}
include T
def M5{u y B E G I:Bool}{N:NF}{x:Nat}(L:K (.func (.func 213) [] [.cp (nfC u y B E G I N) 0,.cp [p8 x] 0]) M):
    ai tab 180 [.agg (nfC u y B E G I N),p8 x] M K:=by
  refine bD T.h180 (by simp only[PP,simprocAttr,aV]) ?_;simp only[af180];refine aA (aB ?_);simp only[PP,simprocAttr];refine aU (GStep.dw (b:=(.ae:: .ae:: .cp (nfC u y B E G I N) 0:: .ptr 1 0 0:: .ae:: .ae::[])) 0 (Af _) rfl (by simp only[gE,gF,Ak,An,dQ,cU,cT,dP]) rfl) ?_;refine aU (GStep.dw (b:=(.ae:: .ae:: .cp (nfC u y B E G I N) 0:: .cp [p8 x] 0:: .ae:: .ae::[])) 1 (Af _) rfl (by simp only[gE,gF,Ak,An,dQ,cU,cT,dP]) rfl) ?_;refine aB ?_;have e:∀J:Mem,fG 0 J (.func (.func 213) [] [.cp (nfC u y B E G I N) 0,.cp [p8 x] 0])=Iz (.func (.func 213) [] [.cp (nfC u y B E G I N) 0,.cp [p8 x] 0]):=fun J=>uZ (M:=J) (by simp only[PP,simprocAttr,PV.under,bS]);simp only[PP,simprocAttr,e];exact L
def YV{L:Nat}{f1 o1 f2 o2 U V:Bool}{N:NF}{x:Nat}(hx:x<256)(he:N.es.length<1000000000000)(B:∀e∈N.es,(0<=e.ps/\e.ps<=255)/\(0<=e.ng/\e.ng<=255))(J:Nat->Mem->Prop)(h0:J 0 M)(hg:∀k G o,J k G->J k (G++[o]))
    (hl:∀k G,J k G->∃ver r,G[L]? =Iz (.loop ver r))
    (hy:∀k G e,J k G->(lW N.es x)[k]? =Iz e->∀Y:PV->Mem->Prop,(∀E,J (k+1) E->Y (.bool Jb) E)->OD tab L [.agg (egC e)] G Y)
    (hk:∀G,J (lW N.es x).length G->K (.tuple []) G):
    ai tab 213 [.yld L [],.cp (nfC f1 o1 f2 o2 U V N) 0,.cp [p8 x] 0] M K:=by
  refine aN T.h213 ?_;simp only[af213,PP,simprocAttr];refine cL (fun(i:Nat) (G:Mem)=>i<=N.es.length/\J (lW (N.es.take i) x).length G) (fun i G=>(.yld L []:: .ae:: .cp [p8 x] 0::zj 4++slE U V N.es::p64 N.es.length::p64 i::zj 17)) (fun _ G=>G) (fun i _=>N.es.length-i) 0 M ⟨by omega,h0⟩ ?_;intro i G ⟨a0,y⟩ Z;refine aH (by kernel_rfl) ?_;simp only[PP,simprocAttr];refine QIf.intro (fun c=>?_) fun c=>?_;rotate_left
  · have hi:i=N.es.length:=by omega
    subst hi;rw[Ba (Ac _)]at y;simp only[PP,simprocAttr,c];exact hk G y
  have O:i<N.es.length:=by omega
  obtain⟨e,I⟩:=aM O;have hw:=aC (k:=i) (by show _<1000000000000;omega);have i0:(0:Int)<=i:=by omega
  have h4:=oA I;have Q:i*4+4<=(egL N.es).length:=by rw[eW];exact QY I
  obtain⟨b1,b2⟩:=B e (Ae I);have u:lW (N.es.take (i+1)) x=lW (N.es.take i) x++if vZ e.ps e.ng x=Jb then [e]else []:=by unfold lW;rw[Ce,I,Fx];congr 1;by_cases q:vZ e.ps e.ng x=Jb<;>simp[q]
  simp only[PP,simprocAttr,c,i0,h4,Q,Ab,gk,gk0,sk,sk0];refine aF6 T b1 b2 hx ?_
  cases q:vZ e.ps e.ng x with
  | false=>rw[q]at u;simp only[PP,simprocAttr,hw];refine aR (Z (i+1) (G++[.cells 0 1 (egC e)]) ⟨by omega,?_⟩ (by omega)) (by simp only[PW]) rfl;rw[u];simp;exact hg _ _ _ y
  | true=>
    rw[q]at u;have R:(lW N.es x)[(lW (N.es.take i) x).length]? =Iz e:=by
      have:lW N.es x=lW (N.es.take (i+1)) x++lW (N.es.drop (i+1)) x:=by unfold lW;rw[<-Fx,Cm]
      rw[this,u,Ab,Bo (Ac _),Cs];simp
    simp only[PP,simprocAttr,Ab,gk,gk0,sk,sk0,KW];refine⟨hl _ _ (hg _ _ _ y),?_⟩;refine hy _ _ e (hg _ _ _ y) R _ fun E S=>?_;simp only[PP,simprocAttr,hw];refine aE (Z (i+1) E ⟨by omega,?_⟩ (by omega));rw[u];simpa using S
end
def O7(u:Int)(w:List Int):Int:=if 64<(w.length:Int)then 4 else if w.any (fun x=>decide (2^u.toNat<=x))=Jb then 1 else 0
section
variable {tab:FuncId->Option AF} (T:HasA tab){M:Mem}{K:PV->Mem->Prop}
include T
def aEQ{f o:Bool}{u:List Int}{g:FuncId}{B:List PV}{F:Int->Bool}(hm:u.length<1000000000000)(V:aD 0 B=Jb)
    (hf:∀x∈u,∀(R:Mem) (S:PV->Mem->Prop),S (.bool (F x)) R->ai tab g (p8 x::B) R S)
    (G:(∀x∈u,F x=Jc)->K (p64 (-1)) M) (I:∀(k:Nat) (x:Int),x∈u->F x=Jb->K (p64 k) M):
    ai tab 212 [slI f o .u8 u,.func (.func g) [] B] M K:=by
  refine aF T.h212 (by simp only[PP,simprocAttr,PV.under,V]) ?_;simp only[af212,PP,simprocAttr];refine cM (fun(k:Nat)=>k<=u.length/\∀j,j<k->∀x,u[j]? =Iz x->F x=Jc) (fun k=>(slI f o .u8 u:: .func (.func g) [] B::zj 5++p64 u.length::p64 k::zj 10))
    (fun k=>[]) (fun k=>u.length-k) 0 ⟨by omega,by intro j h;omega⟩ ?_
  intro k ⟨Y,hd⟩ Z;refine aH (by kernel_rfl) ?_;simp only[PP,simprocAttr];refine QIf.intro (fun c=>?_) fun c=>?_
  · have J:k<u.length:=by omega
    have k0:(0:Int)<=k:=by omega
    have L:=aC (k:=k) (by show _<1000000000000;omega);obtain⟨x,E⟩:=aM (xs:=u) (k:=k) J;simp only[PP,simprocAttr,c,k0,E];refine hf x (Ae E) _ _ ?_
    cases U:F x with
    | true=>simp only[PP,simprocAttr];exact I k x (Ae E) U
    | false=>
      simp only[PP,simprocAttr,L];refine aE (Z (k+1) ⟨by omega,fun j O y Q=>?_⟩ (by omega));by_cases e:j=k
      · subst e;rw[E]at Q;cases Q;exact U
      · exact hd j (by omega) y Q
  · simp only[PP,simprocAttr,c];exact G fun x hx=>by obtain⟨j,O⟩:=Db hx;exact hd j (by have:=aI O;omega) x O
def aCV{f o:Bool}{y:List Int}{g:FuncId}{u:List PV}{F:Int->Bool}(hm:y.length<1000000000000)(G:aD 0 u=Jb)
    (hf:∀x∈y,∀(I:Mem) (J:PV->Mem->Prop),J (.bool (F x)) I->ai tab g (p8 x::u) I J)
    (B:(∀x∈y,F x=Jc)->K (.bool Jc) M) (E:(∃x,x∈y/\F x=Jb)->K (.bool Jb) M):
    ai tab 178 [slI f o .u8 y,.func (.func g) [] u] M K:=by
  refine aF T.h178 (by simp only[PP,simprocAttr,PV.under,G]) ?_;simp only[af178,PP,simprocAttr];refine aEQ T hm G hf (fun h=>?_) fun k x L O=>?_
  · have e:¬(0:Int)<=-1:=by omega
    simp only[PP,simprocAttr,e];exact B h
  · have e:(0:Int)<=k:=by omega
    simp only[PP,simprocAttr,e];exact E ⟨x,L,O⟩
def aBy{u y B E G I:Bool}{N:NF}{x:Int}(C:NOk N)(L:0<=x/\x<=255)(J:K (.bool (decide (2^N.vs.toNat<=x))) M):ai tab 179 [p8 x,.cp (nfC u y B E G I N) 0] M K:=by refine aF T.h179 (by simp only[PP,simprocAttr,PV.under,bS]) ?_;have O:=C.v0;have Q:=C.v6;have w:IntKind.i64.wrap x=x:=wrap64 (by omega) (by omega);have sh:=aFS (v:=N.vs) (by omega) (by omega);simp only[af179,PP,simprocAttr,w,sh];exact J
def aD3{E G I J L O Q R:Bool}{N:NF}{w:List Int}(C:NOk N)(hw:∀x∈w,0<=x/\x<=255)(hl:w.length<1000000000000)(u:K (p64 (O7 N.vs w)) M):
    ai tab 143 [.agg (nfC E G I J L O N),slI Q R .u8 w] M K:=by
  refine bD T.h143 (by simp only[PP,simprocAttr,aV]) ?_;simp only[af143];refine aA (aB ?_);simp only[PP,simprocAttr];refine aU (GStep.dw (b:=(.ae::slI Q R .u8 w:: .cp (nfC E G I J L O N) 0:: .ae::p64 0::zj 8)) 0 (Af _) rfl (by simp only[gE,gF,Ak,An,dQ,cU,cT,dP]) rfl) ?_;refine aB ?_;simp only[PP,simprocAttr];unfold O7 at u;refine QIf.intro (fun c=>?_) fun c=>?_
  · rw[if_pos c]at u;simp only[PP,simprocAttr,c];exact u
  rw[if_neg c]at u;simp only[PP,simprocAttr,c];refine aCV T (F:=fun x=>decide (2^N.vs.toNat<=x)) hl (by simp only[PP,simprocAttr,PV.under,bS]) (fun x y U V B=>aBy T C (hw x y) B) (fun h=>?_) (fun⟨x,y,S⟩=>?_)
  · rw[if_neg (by rw[Bool.not_eq_true,List.any_eq_false];intro x y;rw[h x y];decide)]at u;simp only[PP,simprocAttr];exact u
  · rw[if_pos (List.any_eq_true.2 ⟨x,y,S⟩)]at u;simp only[PP,simprocAttr];exact u
end
def bM(x:BitVec 64):List Nat:=(Av 64).filter fun k=>x.getLsbD k
def ff{x:BitVec 64}{k:Nat} :k∈bM x↔x.getLsbD k=Jb:=by
  unfold bM;rw[Dy,List.mem_range];constructor
  · exact fun h=>h.2
  · intro h;refine⟨Bq fun q=>?_,h⟩;rw[Es _ _ (by omega)]at h;cases h
def UU{x y:BitVec 64}(h:bM x=bM y):x=y:=by refine Er fun i u=>?_;have h1:=ff (x:=x) (k:=i);have h2:=ff (x:=y) (k:=i);rw[h]at h1;exact Bool.eq_iff_iff.2 (h1.symm.trans h2)
def aCh{x:BitVec 64}{k:Nat}(h1:x.getLsbD k=Jb)(h2:∀j,j<k->x.getLsbD j=Jc)(i:Nat):(-x).getLsbD i=if i<k then Jc else if i=k then Jb else(decide (i<64)&& !x.getLsbD i):=by
  have E:k<64:=by refine Bq fun q=>?_;rw[Es _ _ (by omega)]at h1;cases h1
  rw[BitVec.getLsbD_neg];by_cases u:i<k
  · rw[if_pos u,h2 i u];have:¬∃j,j<i/\x.getLsbD j=Jb:=by rintro⟨j,a,b⟩;rw[h2 j (by omega)]at b;cases b
    simp[this]
  · rw[if_neg u];by_cases y:i=k
    · subst y;rw[if_pos rfl,h1];have:¬∃j,j<i/\x.getLsbD j=Jb:=by rintro⟨j,a,b⟩;rw[h2 j a]at b;cases b
      simp[this]
    · rw[if_neg y];have:∃j,j<i/\x.getLsbD j=Jb:=⟨k,by omega,h1⟩;by_cases B:i<64
      · simp[this,B]
      · rw[Es x _ (by omega)];simp[B]
def KH{x:BitVec 64}{k:Nat}(h1:x.getLsbD k=Jb)(h2:∀j,j<k->x.getLsbD j=Jc):x&&& -x=Cp 64 k:=by
  have E:k<64:=by refine Bq fun q=>?_;rw[Es _ _ (by omega)]at h1;cases h1
  refine Er fun i B=>?_;rw[Ig,aCh h1 h2,Gr];by_cases u:i<k
  · have:¬k=i:=by omega
    simp[u,this]
  · by_cases y:i=k
    · subst y;simp[h1,B]
    · have:¬k=i:=by omega
      cases G:x.getLsbD i<;>simp[u,y,this]
def WE:((Av 64).all fun k=>tzTab[2^k*285870213051353865 % 18446744073709551616 / 288230376151711744]? ==Iz k)=Jb:=by decide+kernel
def GU(x:Int):IntKind.u64.wrap x=x % 18446744073709551616:=by simp only[IntKind.wrap,IntKind.signed,IntKind.bits];simp
def aCg(x:BitVec 64):Be 64 (IntKind.u64.wrap (-((x.toNat:Nat):Int)))= -x:=by rw[GU];have hl:=x.isLt;apply Fe;rw[BitVec.toNat_ofInt,BitVec.toNat_neg];omega
def aFI{x:BitVec 64}{k:Nat}(h1:x.getLsbD k=Jb)(h2:∀j,j<k->x.getLsbD j=Jc):tzF ((x.toNat:Nat):Int)=k:=by
  have u:k<64:=by refine Bq fun q=>?_;rw[Es _ _ (by omega)]at h1;cases h1
  have y:¬((x.toNat:Nat):Int)=0:=by
    intro h;have:x=0#64:=by apply Fe;simp;omega
    rw[this]at h1;simp at h1
  have B:PK ((x.toNat:Nat):Int)=((2^k:Nat):Int):=by unfold PK;have E:Be IntKind.u64.bits ((x.toNat:Nat):Int)=x:=NR x;have G:Be IntKind.u64.bits (IntKind.u64.wrap (-((x.toNat:Nat):Int)))= -x:=aCg x;rw[E,G];have I:=KH h1 h2;show IntKind.u64.wrap ((((x&&& -x).toNat:Nat):Int))=_;rw[I,oX (BitVec.isLt _),BitVec.toNat_twoPow,Fh (Ic (by omega) u)]
  have J:tzIdx ((x.toNat:Nat):Int)=((2^k*285870213051353865 % 18446744073709551616 / 288230376151711744:Nat):Int):=by unfold tzIdx;rw[B,GU];omega
  have ht:=List.all_eq_true.1 WE k (List.mem_range.2 u);unfold tzF;rw[if_neg y,J,Ca];rw[beq_iff_eq]at ht;rw[ht];rfl
section
variable {tab:FuncId->Option AF} (T:HasA tab){M:Mem}{K:PV->Mem->Prop}
include T
def aGn{x:BitVec 64}{k:Nat}(B:tzF ((x.toNat:Nat):Int)=k)(E:K (p64 k) M):ai tab 185 [oF x] M K:=by
  intro w h u h0 s y
  match u,y with
  | [v],y=>
  have hv:=dK y.hd;subst hv;unfold C;refine⟨.int .i64 k,h,?_,w,p64 k,M,dx.refl (Ac _) w h,s,.int _ _,E⟩;rw[rU];simp only[gD,T.tz,primTz,EX,B]
omit T in
def NF.ext'{N u:NF}(h1:N.vs=u.vs)(h2:N.n=u.n)(h3:N.st=u.st)(y:N.fi=u.fi)(B:N.es=u.es):N=u:=by cases N;cases u;simp_all
def J3{f o O Q:Bool}{xs ys:List Bool}(hm:xs.length<big)(E:K (.bool (decide (xs=ys))) M):
    ai tab 52 [slB f o xs,slB O Q ys] M K:=by
  refine aF T.h52 (by simp only[PP,simprocAttr]) ?_;simp only[af52,PP,simprocAttr];refine QIf.intro (fun B=>?_) fun B=>?_
  · simp only[PP,simprocAttr,B];have hl:xs.length=ys.length:=by omega
    refine cM (fun(k:Nat)=>k<=xs.length/\K (.bool (decide (xs.drop k=ys.drop k))) M) (fun k=>(slB f o xs::slB O Q ys::zj 3++p64 k::zj 20)) (fun _=>[]) (fun k=>xs.length-k) 0 ⟨by omega,E⟩ ?_;intro k ⟨U,u⟩ V;refine aH (by kernel_rfl) ?_;simp only[PP,simprocAttr];refine QIf.intro (fun c=>?_) fun c=>?_
    · have G:k<xs.length:=by omega
      have I:k<ys.length:=by omega
      obtain⟨x,R⟩:=aM G;obtain⟨y,S⟩:=aM I;rw[f7 R,f7 S]at u;have hw:=aC (k:=k) (by omega);have h0:(0:Int)<=k:=by omega
      have Y:(k:Int)<ys.length:=by omega
      simp only[PP,simprocAttr,c,R,S,hw,h0,Y];by_cases e:x=y
      · subst e;simp only[PP,simprocAttr,hw,List.cons.injEq]at u ⊢;exact aE (V (k+1) ⟨by omega,u⟩ (by omega))
      · have J:(x==y)=Jc:=by simp[e]
        simp only[PP,simprocAttr,J,e,List.cons.injEq]at u ⊢;exact u
    · simp only[PP,simprocAttr,c];rw[Bp (by omega),Bp (by omega)]at u;simp only[PP,simprocAttr]at u;exact u
  · have L:xs≠ys:=fun e=>B (by rw[e]);simp only[PP,simprocAttr,B];rw[decide_eq_false L]at E;exact E
def aCR{f o:Bool}{u:List Eg}(hm:u.length<big)(y:K (.ref M.length 0 4 0 u.length) (M++[.cells 0 0 (egL u)])):
    ai tab 37 [slE f o u] M K:=by
  refine aN T.h37 ?_;have hm:u.length<1000000000000:=hm;have B:u.length*24<=140737488355328:=by omega
  have E:u.length<=9223372036854775807:=by omega
  simp only[af37,PP,simprocAttr,B,E,w6];exact y
end
structure DF where
  vs:Int
  st:Int
  nx:List (List Int)
  fi:List Bool
abbrev dfC(u y B E G I:Bool)(D:DF):List PV:=[p64 D.vs,p64 D.st,slR u y B E .i64 D.nx,slB G I D.fi]
structure BnD (D:DF):Prop where
  n:D.nx.length<big
  r:∀r∈D.nx,r.length<big
  f:D.fi.length<big
def AK(n:Int)(r:List Int):Bool:=r.any fun t=>decide (t<0\/n<=t)
def nY(v n:Int):List (List Int)->Int
  | []=>0
  | r::l=>if(r.length:Int)=2^v.toNat then(if AK n r=Jb then 8 else nY v n l)else 2
def bZ(D:DF):Int:=
  if D.vs<0\/6<D.vs then 7 else if(D.nx.length:Int)=0 then 3 else if 4096<(D.nx.length:Int)then 4 else if ¬(D.fi.length:Int)=D.nx.length then 2 else if D.st<0\/(D.nx.length:Int)<=D.st then 8 else nY D.vs D.nx.length D.nx
def jU:Int->List Int->Int
  | m,[]=>m
  | m,x::l=>jU (min m x) l
def vB:∀(l:List Int) (m:Int),jU m l<0↔m<0\/∃t∈l,t<0
  | [],m=>by simp[jU]
  | x::l,m=>by
    unfold jU;rw[vB l];simp only[Ck];constructor
    · rintro(h | ⟨t,h1,h2⟩)
      · by_cases h3:m<0
        · exact .inl h3
        · exact .inr ⟨x,.inl rfl,by omega⟩
      · exact .inr ⟨t,.inr h1,h2⟩
    · rintro(h | ⟨t,rfl | h1,h2⟩)
      · exact .inl (by omega)
      · exact .inl (by omega)
      · exact .inr ⟨t,h1,h2⟩
def yZ{n:Int} :∀(l:List Int) (m:Int),n<=jV m l↔n<=m\/∃t∈l,n<=t
  | [],m=>by simp[jV]
  | x::l,m=>by
    unfold jV;rw[yZ l];simp only[Ck];constructor
    · rintro(h | ⟨t,h1,h2⟩)
      · by_cases h3:n<=m
        · exact .inl h3
        · exact .inr ⟨x,.inl rfl,by omega⟩
      · exact .inr ⟨t,.inr h1,h2⟩
    · rintro(h | ⟨t,rfl | h1,h2⟩)
      · exact .inl (by omega)
      · exact .inl (by omega)
      · exact .inr ⟨t,h1,h2⟩
def lj{n x:Int}{l:List Int} :AK n (x::l)=Jb↔jU x l<0\/n<=jV x l:=by
  rw[vB,yZ];unfold AK;simp only[Fm,Ck,decide_eq_true_eq];constructor
  · rintro⟨t,rfl | h1,h | h⟩
    · exact .inl (.inl h)
    · exact .inr (.inl h)
    · exact .inl (.inr ⟨t,h1,h⟩)
    · exact .inr (.inr ⟨t,h1,h⟩)
  · rintro((h | ⟨t,h1,h⟩) | (h | ⟨t,h1,h⟩))
    · exact⟨x,.inl rfl,.inl h⟩
    · exact⟨t,.inr h1,.inl h⟩
    · exact⟨x,.inl rfl,.inr h⟩
    · exact⟨t,.inr h1,.inr h⟩
def wL{v:Int}(h0:¬v<0)(u:¬6<v):bL .shl (.int .i64 1) (.int .i64 v)=Iz (.int .i64 (2^v.toNat)):=by
  have:v=0\/v=1\/v=2\/v=3\/v=4\/v=5\/v=6:=by omega
  rcases this with rfl | rfl | rfl | rfl | rfl | rfl | rfl<;>rfl
def XG(v:Int):(0:Int)<2^v.toNat:=Int.pow_pos (by decide)
section
variable {tab:FuncId->Option AF} (T:HasA tab){M:Mem}{K:PV->Mem->Prop}
include T
def aF1{f o:Bool}{x:Int}{u:List Int}(hm:(x::u).length<big)(y:K (p64 (jU x u)) M):
    ai tab 156 [slI f o .i64 (x::u)] M K:=by
  refine aF T.h156 (by simp only[PP,simprocAttr]) ?_;have E:¬((u.length+1:Nat):Int)<1:=by omega
  have G:(0:Int)<((u.length+1:Nat):Int):=by omega
  simp only[af156,PP,simprocAttr,E,G];have I:u.length+1<1000000000000:=hm;refine cL (fun(k:Nat) (m:Int)=>k<=u.length/\K (p64 (jU m (u.drop k))) M) (fun k m=>(slI f o .i64 (x::u):: .ae:: .ae::p64 m::p64 ((k+1:Nat):Int)::zj 20)) (fun _ _=>[]) (fun k _=>u.length-k) 0 x ⟨by omega,y⟩ ?_;intro k m ⟨J,y⟩ L;refine aH (by kernel_rfl) ?_;simp only[PP,simprocAttr];refine QIf.intro (fun c=>?_) fun c=>?_
  · have B:k<u.length:=by omega
    have O:u[k]? =Iz u[k]:=Ad B;have h0:(0:Int)<=((k+1:Nat):Int):=by omega
    have hw:=aC (k:=k+1) (by show _<1000000000000;omega);rw[dO B]at y;simp only[PP,simprocAttr,c,O,h0,hw,jU,ID]at y ⊢;exact aE (L (k+1) _ ⟨by omega,y⟩ (by omega))
  · rw[Bp (by omega)]at y;simp only[PP,simprocAttr,c,jU]at y ⊢;exact y
def KA{U V Y Z f3 o3:Bool}{D:DF}(B:BnD D)(u:K (p64 (bZ D)) M):
    ai tab 92 [.agg (dfC U V Y Z f3 o3 D)] M K:=by
  refine aF T.h92 (by simp only[PP,simprocAttr]) ?_;simp only[af92,PP,simprocAttr];unfold bZ at u;refine QIf.intro (fun E=>?_) fun E=>?_
  · rw[if_pos (.inl E)]at u;simp only[PP,simprocAttr,E];exact u
  simp only[PP,simprocAttr,E];refine QIf.intro (fun G=>?_) fun G=>?_
  · rw[if_pos (.inr G)]at u;simp only[PP,simprocAttr,G];exact u
  rw[if_neg (by omega)]at u;simp only[PP,simprocAttr,G];refine QIf.intro (fun I=>?_) fun I=>?_
  · rw[if_pos I]at u;simp only[PP,simprocAttr,I];exact u
  rw[if_neg I]at u;simp only[PP,simprocAttr,I];refine QIf.intro (fun J=>?_) fun J=>?_
  · rw[if_pos J]at u;simp only[PP,simprocAttr,J];exact u
  rw[if_neg J]at u;simp only[PP,simprocAttr,J];refine QIf.intro (fun L=>?_) fun L=>?_;rotate_left
  · rw[if_pos L]at u;simp only[PP,simprocAttr,L];exact u
  rw[if_neg (Classical.not_not.2 L)]at u;simp only[PP,simprocAttr,L];refine QIf.intro (fun O=>?_) fun O=>?_
  · rw[if_pos (.inl O)]at u;simp only[PP,simprocAttr,O];exact u
  simp only[PP,simprocAttr,O];refine QIf.intro (fun Q=>?_) fun Q=>?_
  · rw[if_pos (.inr Q)]at u;simp only[PP,simprocAttr,Q];exact u
  rw[if_neg (by omega)]at u;simp only[PP,simprocAttr,Q];have hl:=wL E G;refine cM (fun(k:Nat)=>k<=D.nx.length/\K (p64 (nY D.vs D.nx.length (D.nx.drop k))) M) (fun k=>(.ae:: .ptr 0 0 0:: .ae::p64 D.nx.length::zj 37++slR U V Y Z .i64 D.nx::p64 D.nx.length::p64 k::zj 19)) (fun _=>[.cells 0 0 (dfC U V Y Z f3 o3 D)]) (fun k=>D.nx.length-k) 0 ⟨by omega,u⟩ ?_;intro k ⟨a1,y⟩ ih;refine aH (by kernel_rfl) ?_;simp only[PP,simprocAttr];refine QIf.intro (fun c=>?_) fun c=>?_
  · have a0:k<D.nx.length:=by omega
    obtain⟨r,g⟩:=aM a0;have h0:(0:Int)<=(k:Int):=by omega
    have hB:D.nx.length<1000000000000:=B.n;have hw:=aC (k:=k) (by show _<1000000000000;omega);rw[f7 g]at y;simp only[PP,simprocAttr,c,g,h0,hl];unfold nY at y;refine QIf.intro (fun e=>?_) fun e=>?_;rotate_left
    · rw[if_neg e]at y;simp only[PP,simprocAttr,e];exact y
    rw[if_pos e]at y;simp only[PP,simprocAttr,e]
    cases r with
    | nil=>have:=XG D.vs;simp at e;omega
    | cons x l=>
      have hx:(x::l).length<big:=B.r _ (Ae g);refine aF1 T hx ?_;simp only[PP,simprocAttr];refine QIf.intro (fun R=>?_) fun R=>?_
      · rw[if_pos (lj.2 (.inl R))]at y;simp only[PP,simprocAttr,R];exact y
      simp only[PP,simprocAttr,R];refine aF2 T hx ?_;simp only[PP,simprocAttr];refine QIf.intro (fun S=>?_) fun S=>?_
      · rw[if_pos (lj.2 (.inr S))]at y;simp only[PP,simprocAttr,S];exact y
      rw[if_neg (by rw[lj];omega)]at y;simp only[PP,simprocAttr,S,hw];exact aE (ih (k+1) ⟨by omega,y⟩ (by omega))
  · rw[Bp (by omega)]at y;simp only[PP,simprocAttr,c,nY]at y ⊢;exact y
def CX{S U V Y Z o3:Bool}{D:DF}(B:BnD D)(u:K (p64 (bZ D)) M):
    ai tab 44 [.agg (dfC S U V Y Z o3 D)] M K:=by
  refine aF T.h44 (by simp only[PP,simprocAttr]) ?_;simp only[af44,PP,simprocAttr];refine WA T ?_;unfold bZ at u;by_cases c1:D.vs<0\/6<D.vs
  · rw[if_pos c1]at u;have e:¬(0<=D.vs/\D.vs<=6):=by omega
    simp only[PP,simprocAttr,e];exact u
  rw[if_neg c1]at u;have e:0<=D.vs/\D.vs<=6:=by omega
  simp only[PP,simprocAttr,e];refine QIf.intro (fun G=>?_) fun G=>?_
  · rw[if_pos G]at u;simp only[PP,simprocAttr,G];exact u
  rw[if_neg G]at u;simp only[PP,simprocAttr,G];refine QIf.intro (fun I=>?_) fun I=>?_
  · rw[if_pos I]at u;simp only[PP,simprocAttr,I];exact u
  rw[if_neg I]at u;simp only[PP,simprocAttr,I];refine QIf.intro (fun J=>?_) fun J=>?_;rotate_left
  · rw[if_pos J]at u;simp only[PP,simprocAttr,J];exact u
  rw[if_neg (Classical.not_not.2 J)]at u;simp only[PP,simprocAttr,J];refine QIf.intro (fun O=>?_) fun O=>?_
  · rw[if_pos (.inl O)]at u;simp only[PP,simprocAttr,O];exact u
  simp only[PP,simprocAttr,O];refine QIf.intro (fun Q=>?_) fun Q=>?_
  · rw[if_pos (.inr Q)]at u;simp only[PP,simprocAttr,Q];exact u
  rw[if_neg (by omega)]at u;simp only[PP,simprocAttr,Q];have v0:¬D.vs<0:=by omega
  have v6:¬6<D.vs:=by omega
  have hB:D.nx.length<1000000000000:=B.n;refine cM (fun(k:Nat)=>k<=D.nx.length/\K (p64 (nY D.vs D.nx.length (D.nx.drop k))) M) (fun k=>(.ae:: .ptr 0 0 0:: .ae::p64 D.nx.length::p64 k::zj 72)) (fun _=>[.cells 0 0 (dfC S U V Y Z o3 D)]) (fun k=>D.nx.length-k) 0 ⟨by omega,u⟩ ?_;intro k ⟨a3,y⟩ ih;refine aH (by kernel_rfl) ?_;simp only[PP,simprocAttr];refine QIf.intro (fun c=>?_) fun c=>?_
  · have a0:k<D.nx.length:=by omega
    obtain⟨r,g⟩:=aM a0;have h0:(0:Int)<=(k:Int):=by omega
    have hw:=aC (k:=k) (by show _<1000000000000;omega);rw[f7 g]at y;simp only[PP,simprocAttr,c,g,h0];refine tT T v0 v6 ?_;simp only[PP,simprocAttr];unfold nY at y;refine QIf.intro (fun e=>?_) fun e=>?_;rotate_left
    · rw[if_neg e]at y;simp only[PP,simprocAttr,e];exact y
    rw[if_pos e]at y;simp only[PP,simprocAttr,e];have hr:r.length<1000000000000:=B.r _ (Ae g);refine cM (fun(j:Nat)=>j<=r.length/\(AK D.nx.length (r.drop j)=AK D.nx.length r)) (fun j=>(.ae:: .ptr 0 0 0:: .ae::p64 D.nx.length::p64 k::p64 j::zj 71)) (fun _=>[.cells 0 0 (dfC S U V Y Z o3 D)]) (fun j=>r.length-j) 0 ⟨by omega,rfl⟩ ?_;intro j ⟨a4,E⟩ a1;refine aH (by kernel_rfl) ?_;simp only[PP,simprocAttr,c,g,h0];refine QIf.intro (fun d=>?_) fun d=>?_
    · have a2:j<r.length:=by omega
      obtain⟨t,gt⟩:=aM a2;have j0:(0:Int)<=(j:Int):=by omega
      have wj:=aC (k:=j) (by show _<1000000000000;omega);rw[f7 gt]at E;simp only[PP,simprocAttr,c,g,h0,d,gt,j0];refine QIf.intro (fun L=>?_) fun L=>?_
      · rw[if_pos (by rw[<-E];simp[AK,L])]at y;simp only[PP,simprocAttr,L];exact y
      simp only[PP,simprocAttr,L,c,g,h0,d,gt,j0];refine QIf.intro (fun R=>?_) fun R=>?_
      · rw[if_pos (by rw[<-E];simp[AK,R])]at y;simp only[PP,simprocAttr,R];exact y
      simp only[PP,simprocAttr,R,wj];refine aE (a1 (j+1) ⟨by omega,?_⟩ (by omega));rw[<-E];simp[AK,L];omega
    · rw[Bp (by omega)]at E;rw[if_neg (by rw[<-E];simp[AK])]at y;simp only[PP,simprocAttr,d,hw];exact aE (ih (k+1) ⟨by omega,y⟩ (by omega))
  · rw[Bp (by omega)]at y;simp only[PP,simprocAttr,c,nY]at y ⊢;exact y
end
def digS:ByteArray:=⟨#[48,49,50,51,52,53,54,55,56,57,97,98,99,100,101,102,103,104,105,106,107,108,109,110,111,112,113,114,115,116,117,118,119,120,121,122]⟩
def smlS:ByteArray:=⟨#[48,48,48,49,48,50,48,51,48,52,48,53,48,54,48,55,48,56,48,57,49,48,49,49,49,50,49,51,49,52,49,53,49,54,49,55,49,56,49,57,50,48,50,49,50,50,50,51,50,52,50,53,50,54,50,55,50,56,50,57,51,48,51,49,51,50,51,51,51,52,51,53,51,54,51,55,51,56,51,57,52,48,52,49,52,50,52,51,52,52,52,53,52,54,52,55,52,56,52,57,53,48,53,49,53,50,53,51,53,52,53,53,53,54,53,55,53,56,53,57,54,48,54,49,54,50,54,51,54,52,54,53,54,54,54,55,54,56,54,57,55,48,55,49,55,50,55,51,55,52,55,53,55,54,55,55,55,56,55,57,56,48,56,49,56,50,56,51,56,52,56,53,56,54,56,55,56,56,56,57,57,48,57,49,57,50,57,51,57,52,57,53,57,54,57,55,57,56,57,57]⟩
def lZ(n:Nat):ByteArray:=if n<10 then digS.extract n (n+1)else smlS.extract (2*n) (2*n+2)
def ZM:((Av 100).all fun a=>(Av 100).all fun b=>decide (a=b)|| !((lZ a).data.toList==(lZ b).data.toList))=Jb:=by decide+kernel
def ZL{a b:Nat}(u:a<100)(hb:b<100)(h:lZ a=lZ b):a=b:=by have:=(List.all_eq_true.1 ((List.all_eq_true.1 ZM) a (List.mem_range.2 u))) b (List.mem_range.2 hb);rw[h]at this;simpa using this
section
variable {tab:FuncId->Option AF} (T:HasA tab){M:Mem}{K:PV->Mem->Prop}
include T
def PY{n:Nat}(G:n<100)(u:K (.str (lZ n)) M):
    ai tab 206 [p64 n] M K:=by
  refine aF T.h206 (by simp only[PP,simprocAttr]) ?_;simp only[af206,PP,simprocAttr];have y:IntKind.i64.wrap ((n:Int)+1)=((n+1:Nat):Int):=aC (by show _<1000000000000;omega);have B:IntKind.i64.wrap ((n:Int)*2)=((2*n:Nat):Int):=by rw[wrap64]<;>omega
  have E:IntKind.i64.wrap (((2*n:Nat):Int)+2)=((2*n+2:Nat):Int):=by rw[wrap64]<;>omega
  refine QIf.intro (fun c=>?_) fun c=>?_
  · simp only[PP,simprocAttr,c,y,PT,De];refine⟨⟨by omega,by omega,?_⟩,?_⟩
    · show((n+1:Nat):Int)<=((36:Nat):Int);omega
    · have e:lZ n=digS.extract n (n+1):=by unfold lZ;rw[if_pos (by omega)]
      rw[e]at u;exact u
  · simp only[PP,simprocAttr,c,B,E,PT,De];refine⟨⟨by omega,by omega,?_⟩,?_⟩
    · show((2*n+2:Nat):Int)<=((200:Nat):Int);omega
    · have e:lZ n=smlS.extract (2*n) (2*n+2):=by unfold lZ;rw[if_neg (by omega)]
      rw[e]at u;exact u
end
def uA(d:Nat):UInt8:=UInt8.ofNat (if d<10 then 48+d else 87+d)
def aGm(c:UInt8):Nat:=if c.toNat<58 then c.toNat-48 else c.toNat-87
def aCH:((Av 16).all fun d=>digS[d]? ==Iz (uA d)&&aGm (uA d)==d)=Jb:=by decide+kernel
def aCJ{d:Nat}(h:d<16):digS[d]? =Iz (uA d):=by have:=List.all_eq_true.1 aCH d (List.mem_range.2 h);rw[Aq,beq_iff_eq]at this;exact this.1
def vS(u:Nat):Nat->List UInt8
  | 0=>[]
  | c+1=>uA (u / 16^c % 16)::vS u c
def G0(u:Nat):∀c,(vS u c).length=c
  | 0=>rfl
  | c+1=>by simp[vS,G0 u c]
def cHf(u:Nat):Nat->Nat->Nat
  | c,0=>c
  | c,f+1=>if u / 16^c<16 then c else cHf u (c+1) f
def cH(u:Nat):Nat:=cHf u 0 15
def JP(u:Nat):List UInt8:=uA (u / 16^cH u)::vS u (cH u)
def aFc{u:Nat}(y:u<18446744073709551616):∀(f c:Nat),c+f=15->u / 16^cHf u c f<16/\cHf u c f<=15:=by
  intro f
  induction f with
  | zero=>
    intro c h;obtain rfl:c=15:=by omega
    have e:(16:Nat)^15*16=18446744073709551616:=by decide
    refine⟨Nat.div_lt_of_lt_mul ?_,Ac _⟩;show u<16^15*16;rw[e];exact y
  | succ f B=>
    intro c h;unfold cHf;split
    · rename_i q;exact⟨q,by omega⟩
    · exact B (c+1) (by omega)
def aGd(u c:Nat):u / 16^(c+1)=u / 16^c / 16:=by rw[Nat.pow_succ,Hz]
def aEy{u:Nat}(h:u<18446744073709551616):bL .and (.int .u64 (u:Int)) (.int .u64 15)=Iz (.int .u64 ((u % 16:Nat):Int)):=by
  have h1:=qB (Ih 64 u) 15#64;have y:(Ih 64 u).toNat=u:=by simp;omega
  have B:(Ih 64 u&&& 15#64).toNat=u % 16:=by rw[BitVec.toNat_and,y];exact Nat.and_two_pow_sub_one_eq_mod u 4
  rw[y,B]at h1;exact h1
def aFR(u:Nat):bL .shr (.int .u64 (u:Int)) (.int .u64 4)=Iz (.int .u64 ((u / 16:Nat):Int)):=by
  have:Int.fdiv (u:Int) 16=((u / 16:Nat):Int):=by rw[Int.fdiv_eq_ediv_of_nonneg _ (by omega)];rfl
  show Iz (PV.int .u64 (Int.fdiv (u:Int) 16))=_;rw[this]
abbrev gI(l:List UInt8):List PV:=l.map fun c=> .int .u8 ((c.toNat:Nat):Int)
def rH:∀l:List UInt8,eG (l.map fun c=> .int .u8 ((c.toNat:Nat):Int))=Iz l
  | []=>rfl
  | c::l=>by
    have h:=c.toNat_lt;have e:UInt8.ofNat c.toNat=c:=by simp
    simp only[Ai,eG,rH l];rw[if_pos (by omega),Ca,e]
def B6:∀l:List UInt8,fI (gI l)=Iz (l.map fun c=>AV.int .u8 ((c.toNat:Nat):Int))
  | []=>rfl
  | c::l=>by simp only[gI,Ai,fI,bQ,B6 l]
def S9(l:List UInt8):kG (gI l)=Iz l:=by unfold kG;rw[B6];exact rH l
def uU(z x:PV)(l:List PV)(m:Nat):(Ag (m+1) z++l).set m x=Ag m z++x::l:=by rw[List.set_append_left _ _ (by simp),Ia,Dc _ _ (by simp)];simp
section
variable {tab:FuncId->Option AF} (T:HasA tab){M:Mem}{K:PV->Mem->Prop}
include T
def L6(u:K (.bool Jb) M):ai tab 232 [p64 16] M K:=by refine aF T.h232 (by simp only[PP,simprocAttr]) ?_;have y:IntKind.i64.wrap (16-1)=15:=rfl;have B:bL .and (p64 16) (.int .i64 (IntKind.i64.wrap 15))=Iz (.int .i64 0):=rfl;simp only[af232,PP,simprocAttr,y,B];exact u
def aD7(u:K (p64 4) M):ai tab 233 [.int .u64 16] M K:=by refine aF T.h233 (by simp only[PP,simprocAttr]) ?_;simp only[af233,PP,simprocAttr];refine aGn T (x:=16#64) (k:=4) (aFI (by decide) (by decide)) ?_;simp only[PP,simprocAttr];exact u
def DK{K:PV->Mem->Prop}{u:Nat}(hu:u<18446744073709551616)(hk:∀o,K (.tuple [.ref 1 0 1 0 (JP u).length,.str ⟨#[]⟩]) [o,.cells 0 0 (gI (JP u))]):
    ai tab 209 [.aa,.int .u64 u,p64 16,.bool Jc,.bool Jb] [] K:=by
  refine aN T.h209 ?_;simp only[af209,PP,simprocAttr];refine L6 T ?_;have L:IntKind.u64.wrap 16=16:=rfl;have u4:IntKind.u64.wrap 4=4:=rfl;have Y:IntKind.u64.wrap (16-1)=15:=rfl;simp only[PP,simprocAttr,L];refine aD7 T ?_;have O:IntKind.u64.wrap 15=15:=rfl;simp only[PP,simprocAttr,L,u4,Y,O];have Q:∀d:Nat,d<16->(ByteArray.mk #[48,49,50,51,52,53,54,55,56,57,97,98,99,100,101,102,103,104,105,106,107,108,109,110,111,112,113,114,115,116,117,118,119,120,121,122])[d]? =Iz (uA d):=fun d hd=>aCJ hd;refine cL (fun(c v:Nat)=>c<=15/\cHf u c (15-c)=cH u) (fun c v=>(.aa:: .int .u64 ((u / 16^c:Nat):Int):: .ae:: .bool Jc:: .bool Jb::zj 5++ .aa:: .str ⟨#[]⟩:: .ptr 0 0 0::p64 (65-c:Nat):: .int .u64 4:: .int .u64 16:: .int .u64 15::zj 85))
    (fun c v=>[.cells 0 v (Ag (65-c) (.int .u8 0)++gI (vS u c))]) (fun c v=>15-c) 0 0 ⟨by omega,rfl⟩ ?_ (by simp only[Nat.pow_zero,Nat.div_one,Nat.sub_zero,En,PW])
  intro c v ⟨hc,R⟩ ih;have hq:u / 16^c<18446744073709551616:=Gp (Nat.div_le_self _ _) hu;have Z:IntKind.i64.wrap (((65-c:Nat):Int)-1)=((65-(c+1):Nat):Int):=by rw[wrap64 (by omega) (by omega)];omega
  obtain⟨m,hm⟩:∃m,65-c=m+1:=⟨65-c-1,by omega⟩;have G:65-(c+1)=m:=by omega
  have i0:(0:Int)<=(m:Int):=by omega
  have i1:(m:Int)<65:=by omega
  rw[hm,G]at Z;refine aH (by kernel_rfl) ?_;simp only[PP,simprocAttr];refine QIf.intro (fun d=>?_) fun d=>?_
  · have B:¬u / 16^c<16:=by omega
    have a2:c<15:=by
      refine Bq fun q=>?_;obtain rfl:c=15:=by omega
      have:=(aFc hu 0 15 rfl).1;exact B this
    have I:cHf u (c+1) (15-(c+1))=cH u:=by
      rw[<-R,show 15-c=15-(c+1)+1 by omega];show _=if _ then _ else _
      rw[if_neg B]
    have a0:=aEy hq;have s4:=aFR (u / 16^c);have E:=Q (u / 16^c % 16) (Dl _ (by decide));have k0:(0:Int)<=((u / 16^c % 16:Nat):Int):=by omega
    simp only[PP,simprocAttr,d,hm,Z,a0,s4,PT,E,k0,i0,i1];have J:((PV.int .u8 0)::(Ag m (.int .u8 0)++gI (vS u c))).set m (.int .u8 (((uA (u / 16^c % 16)).toNat:Nat):Int))=Ag m (.int .u8 0)++(.int .u8 (((uA (u / 16^c % 16)).toNat:Nat):Int))::gI (vS u c):=uU _ _ _ m;refine⟨by omega,aR (ih (c+1) (v+1) ⟨by omega,I⟩ (by omega)) (by simp only[aGd,G,PW]) ?_⟩;rw[J,G];rfl
  · have B:u / 16^c<16:=by omega
    have S:c=cH u:=by
      rw[<-R]
      cases hf:15-c with
      | zero=>rfl
      | succ f=>
        show c=if _ then _ else _
        rw[if_pos B]
    have E:=Q (u / 16^c) B;have k0:(0:Int)<=((u / 16^c:Nat):Int):=Int.natCast_nonneg _;have J:((PV.int .u8 0)::(Ag m (.int .u8 0)++gI (vS u c))).set m (.int .u8 (((uA (u / 16^c)).toNat:Nat):Int))=Ag m (.int .u8 0)++(.int .u8 (((uA (u / 16^c)).toNat:Nat):Int))::gI (vS u c):=uU _ _ _ m;have U:=G0 u c;have t1:(65-(m:Int)).toNat=c+1:=by omega
    have hl:gI (JP u)=PV.int .u8 (((uA (u / 16^c)).toNat:Nat):Int)::gI (vS u c):=by unfold JP;rw[<-S];rfl
    have hlen:(JP u).length=c+1:=by unfold JP;rw[<-S,Ao,U]
    have a1:aZ (Ag m (PV.int .u8 0)++PV.int .u8 (((uA (u / 16^c)).toNat:Nat):Int)::gI (vS u c)) m (c+1)=gI (JP u):=by rw[hl];unfold aZ;rw[List.drop_append_of_le_length (by simp),Bp (by simp),An,Ba (by simp[U])]
    have V:(gI (JP u)).all PV.one=Jb:=List.all_eq_true.2 fun x hx=>by obtain⟨y,_,rfl⟩:=List.mem_map.1 hx;rfl
    simp only[PP,simprocAttr,d,hm,Z,PT,E,k0,i0,i1,J,t1,a1,V];have:=hk (.cells 0 (v+1) (Ag m (.int .u8 0)++ .int .u8 (((uA (u / 16^c)).toNat:Nat):Int)::gI (vS u c)));rw[hlen]at this;exact⟨by omega,⟨by omega,by omega⟩,by omega,⟨by omega,by omega⟩,this⟩
omit T in
def WH(a:Wd):sW a=[]\/wAt (sW a) ((sW a).length-1)≠0#64:=by
  have u:=rA a a.length;have hl:(sW a).length=gA a a.length:=by unfold sW;rw[Ay];omega
  rcases sV a a.length with h | h
  · left;exact List.length_eq_zero_iff.1 (by omega)
  · right;rw[hl,EA];exact h
omit T in
def MZ(o:List Nat)(b:Nat):bE (o++[b])=bE o++[(b:Int)]:=by simp
def aAa{f o:Bool}{u:List Int}(hm:u.length<big)(y:∀g v,K (.ref M.length g 1 0 u.length) (M++[.cells g v (u.map p64)])):
    ai tab 59 [slI f o .i64 u] M K:=by
  have hb:u.length<1000000000000:=hm;have B:u.length*8<=140737488355328:=by omega
  have E:u.length<=9223372036854775807:=by omega
  refine cN (cA T.h59 ?_);simp only[af59];refine aA (aB ?_);simp only[PP,simprocAttr];refine aA (aB ?_);simp only[PP,simprocAttr];have G:(u.map p64).all PV.one=Jb:=sN _ _;refine QIf.intro (fun c=>?_) fun c=>?_
  · constructor
    · simp only[PP,simprocAttr];have:u=[]:=List.length_eq_zero_iff.1 c;subst this;exact Gh.step (GStep.nil 0 1 rfl rfl rfl) (Gh.same ⟨_,rfl,y 0 0⟩)
    · simp only[PP,simprocAttr];refine aA (pL ⟨[],rfl,?_⟩);simp only[PP,simprocAttr,Ab,gk,gk0,sk,sk0];exact⟨⟨B,E⟩,aB (by simp only[PP,simprocAttr];exact Gh.same ⟨_,rfl,y 1 0⟩)⟩
  · simp only[PP,simprocAttr];refine aA (pL ⟨[],rfl,?_⟩);simp only[PP,simprocAttr,Ab,gk,gk0,sk,sk0];exact⟨⟨B,E⟩,aB (by simp only[PP,simprocAttr];exact Gh.same ⟨_,rfl,y 1 0⟩)⟩
def aAb{f o:Bool}{u:List Eg}(hm:u.length<big)(B:∀g v,K (.ref M.length g 4 0 u.length) (M++[.cells g v (egL u)])):
    ai tab 153 [slE f o u] M K:=by
  have hb:u.length<1000000000000:=hm;have E:u.length*24<=140737488355328:=by omega
  have G:u.length<=9223372036854775807:=by omega
  refine cN (cA T.h153 ?_);simp only[af153];refine aA (aB ?_);simp only[PP,simprocAttr];refine aA (aB ?_);simp only[PP,simprocAttr];have y:(egL u).all PV.one=Jb:=w6 u;refine QIf.intro (fun c=>?_) fun c=>?_
  · constructor
    · simp only[PP,simprocAttr];have:u=[]:=List.length_eq_zero_iff.1 c;subst this;exact Gh.step (GStep.nil 0 4 rfl rfl rfl) (Gh.same ⟨_,rfl,B 0 0⟩)
    · simp only[PP,simprocAttr];refine aA (pL ⟨[],rfl,?_⟩);simp only[PP,simprocAttr,Ab,gk,gk0,sk,sk0,y];exact⟨⟨E,G⟩,aB (by simp only[PP,simprocAttr];exact Gh.same ⟨_,rfl,B 1 0⟩)⟩
  · simp only[PP,simprocAttr];refine aA (pL ⟨[],rfl,?_⟩);simp only[PP,simprocAttr,Ab,gk,gk0,sk,sk0,y];exact⟨⟨E,G⟩,aB (by simp only[PP,simprocAttr];exact Gh.same ⟨_,rfl,B 1 0⟩)⟩
end
section
variable {α:Type} [DecidableEq α]
def cR(o:List α)(b:α):List α:=if b∈o then o else o++[b]
def cJ(δ:α->Nat->α)(a:α):Nat->List α->List α
  | 0,o=>o
  | x+1,o=>cR (cJ δ a x o) (δ a x)
def dT(δ:α->Nat->α)(n:Nat)(u:α):Nat->List α
  | 0=>[u]
  | k+1=>match (dT δ n u k)[k]? with
    | some a=>cJ δ a n (dT δ n u k)
    | none=>dT δ n u k
def KK(o:List α)(b:α):∃r,cR o b=o++r:=by
  unfold cR;split
  · exact⟨[],by simp⟩
  · exact⟨[b],rfl⟩
def I0(o:List α)(b c:α):c∈cR o b↔c∈o\/c=b:=by
  unfold cR;split
  · constructor
    · exact .inl
    · rintro(h | rfl)
      · exact h
      · assumption
  · simp
def hH(δ:α->Nat->α)(a:α):∀(x:Nat) (o:List α),∃r,cJ δ a x o=o++r
  | 0,o=>⟨[],by simp[cJ]⟩
  | x+1,o=>by obtain⟨r,h⟩:=hH δ a x o;obtain⟨u,h2⟩:=KK (cJ δ a x o) (δ a x);exact⟨r++u,by unfold cJ;rw[h2,h,Ab]⟩
def kK(δ:α->Nat->α)(a c:α):∀(x:Nat) (o:List α),c∈cJ δ a x o↔c∈o\/∃y,y<x/\c=δ a y
  | 0,o=>by simp[cJ]
  | x+1,o=>by
    unfold cJ;rw[I0,kK δ a c x o];constructor
    · rintro((h | ⟨y,h1,h2⟩) | h)
      · exact .inl h
      · exact .inr ⟨y,by omega,h2⟩
      · exact .inr ⟨x,by omega,h⟩
    · rintro(h | ⟨y,h1,h2⟩)
      · exact .inl (.inl h)
      · by_cases e:y=x
        · subst e;exact .inr h2
        · exact .inl (.inr ⟨y,by omega,h2⟩)
def kL{a b:α}{o:List α}(h:b≠a):(a::o).idxOf b=o.idxOf b+1:=by rw[List.idxOf_cons];have:(a==b)=Jc:=beq_false_of_ne fun e=>h e.symm;rw[this];rfl
def tW{o r:List α}{b:α}(h:b∈o):(o++r).idxOf b=o.idxOf b:=by rw[Et,if_pos h]
def iI(δ:α->Nat->α)(n:Nat)(o:List α)(a:α):List Int:=(Av n).map fun x=>((o.idxOf (δ a x):Nat):Int)
def HS{δ:α->Nat->α}{n:Nat}{o r:List α}{a:α}(h:∀x,x<n->δ a x∈o):iI δ n (o++r) a=iI δ n o a:=
  Di fun x u=>by rw[tW (h x (List.mem_range.1 u))]
def jC(κ:α->ByteArray):Nat->List α->List (ByteArray×PV)
  | _,[]=>[]
  | k,a::o=>(κ a,p64 (k:Int))::jC κ (k+1) o
omit [DecidableEq α] in
def IQ(κ:α->ByteArray):∀(o:List α) (k:Nat),(jC κ k o).length=o.length
  | [],k=>rfl
  | a::o,k=>by simp[jC,IQ κ o]
omit [DecidableEq α] in
def tO(κ:α->ByteArray)(b:α):∀(o:List α) (k:Nat),jC κ k o++[(κ b,p64 ((k+o.length:Nat):Int))]=jC κ k (o++[b])
  | [],k=>rfl
  | a::o,k=>by show(κ a,p64 (k:Int))::(jC κ (k+1) o++_)=(κ a,p64 (k:Int))::jC κ (k+1) (o++[b]);rw[<-tO κ b o (k+1)];simp only[Ao];rw[show k+1+o.length=k+(o.length+1) by omega]
def o9{κ:α->ByteArray}{Dm:α->Prop}(u:∀a b,Dm a->Dm b->κ a=κ b->a=b){b:α}(hb:Dm b):∀(o:List α) (k:Nat),(∀a∈o,Dm a)->rJ (κ b) (jC κ k o)=if b∈o then Iz (p64 ((k+o.idxOf b:Nat):Int))else Ja
  | [],k,B=>rfl
  | a::o,k,B=>by
    unfold jC rJ;by_cases e:κ b=κ a
    · obtain rfl:=u b a hb (B a (by simp)) e;rw[if_pos rfl,if_pos (by simp)];simp
    · have y:b≠a:=fun h=>e (by rw[h]);rw[if_neg e,o9 u hb o (k+1) (fun c E=>B c (by simp[E]))];by_cases hm:b∈o
      · rw[if_pos hm,if_pos (by simp[hm]),kL y,show k+1+o.idxOf b=k+(o.idxOf b+1) by omega]
      · rw[if_neg hm,if_neg (by simp[hm,y])]
end
section
variable {tab:FuncId->Option AF} (T:HasA tab){M:Mem}{K:PV->Mem->Prop}
include T
variable {α:Type} [DecidableEq α]
end
section
variable {α:Type} [DecidableEq α]
def f9{δ:α->Nat->α}{n:Nat}{u a:α}{k:Nat}(h:(dT δ n u k)[k]? =Iz a):dT δ n u (k+1)=cJ δ a n (dT δ n u k):=by show(match (dT δ n u k)[k]? with | some a=>_ | none=>_)=_;rw[h]
def mI{δ:α->Nat->α}{n:Nat}{u:α}{k:Nat}(h:(dT δ n u k).length<=k):dT δ n u (k+1)=dT δ n u k:=by show(match (dT δ n u k)[k]? with | some a=>_ | none=>_)=_;rw[Bi h]
def aAn(δ:α->Nat->α)(n:Nat)(u:α)(k:Nat):∃r,dT δ n u (k+1)=dT δ n u k++r:=by
  rcases Az k (dT δ n u k).length with h | h
  · obtain⟨r,e⟩:=hH δ ((dT δ n u k)[k]) n (dT δ n u k);exact⟨r,by rw[f9 (Ad h),e]⟩
  · exact⟨[],by rw[mI h];simp⟩
def DV(δ:α->Nat->α)(n:Nat)(u:α)(k:Nat):∀d,∃r,dT δ n u (k+d)=dT δ n u k++r
  | 0=>⟨[],by simp⟩
  | d+1=>by obtain⟨r,h⟩:=DV δ n u k d;obtain⟨y,h2⟩:=aAn δ n u (k+d);exact⟨r++y,by rw[<-Cf,h2,h,Ab]⟩
def uE{δ:α->Nat->α}{n:Nat}{u:α} :∀{k i:Nat} {a:α},i<k->(dT δ n u k)[i]? =Iz a->∀x,x<n->δ a x∈dT δ n u k
  | 0,i,a,h,_,_,_=>by omega
  | k+1,i,a,h,g,x,B=>by
    rcases Az k (dT δ n u k).length with y | y
    · have gk:=Ad y;have e:=f9 gk;obtain⟨r,E⟩:=hH δ ((dT δ n u k)[k]) n (dT δ n u k);by_cases G:i=k
      · subst G;rw[e,E,Bh y,gk]at g;cases g;rw[e,kK];exact .inr ⟨x,B,rfl⟩
      · rw[e,E,Bh (by omega)]at g;have:=uE (k:=k) (by omega) g x B;rw[e,E];exact List.mem_append_left _ this
    · rw[mI y]at g ⊢;refine uE (k:=k) ?_ g x B;rcases Az i (dT δ n u k).length with q | q
      · omega
      · rw[Bi q]at g;cases g
def AU{o:List α}{b:α}(h:o.Nodup):(cR o b).Nodup:=by
  unfold cR;split
  · exact h
  · rename_i q;rw[Gu];refine⟨h,by simp,fun x B y u e=>?_⟩;simp at u;subst u;subst e;exact q B
def mN{δ:α->Nat->α}{a:α} :∀(x:Nat) {o:List α},o.Nodup->(cJ δ a x o).Nodup
  | 0,o,h=>h
  | x+1,o,h=>AU (mN x h)
def kP(δ:α->Nat->α)(n:Nat)(u:α):∀k,(dT δ n u k).Nodup
  | 0=>by simp[dT]
  | k+1=>by
    rcases Az k (dT δ n u k).length with y | y
    · rw[f9 (Ad y)];exact mN n (kP δ n u k)
    · rw[mI y];exact kP δ n u k
def V9{δ:α->Nat->α}{u:α->Prop}{a:α}{n:Nat}(B:∀x,x<n->u (δ a x)){o:List α}(E:∀c∈o,u c){j:Nat}(I:j<=n):∀c∈cJ δ a j o,u c:=by
  intro c G;rcases(kK δ a c j o).1 G with h | ⟨y,h1,rfl⟩
  · exact E c h
  · exact B y (by omega)
def sM{δ:α->Nat->α}{n:Nat}{a0:α}{Dm:α->Prop}(h0:Dm a0)(hs:∀a x,Dm a->x<n->Dm (δ a x)):∀k,∀c∈dT δ n a0 k,Dm c
  | 0=>by simp[dT,h0]
  | k+1=>by
    have y:=sM h0 hs k;rcases Az k (dT δ n a0 k).length with u | u
    · rw[f9 (Ad u)];exact V9 (fun x B=>hs _ x (y _ (Cw u)) B) y (Ac n)
    · rw[mI u];exact y
def uS(δ:α->Nat->α)(n:Nat)(u:α)(k:Nat):List (List Int):=((dT δ n u k).take k).map (iI δ n (dT δ n u k))
def lT{δ:α->Nat->α}{n:Nat}{u:α}{k:Nat}(h:k<=(dT δ n u k).length):(uS δ n u k).length=k:=by unfold uS;rw[Al,Ay];omega
def p9{δ:α->Nat->α}{n:Nat}{u a:α}{k:Nat}(h:(dT δ n u k)[k]? =Iz a):uS δ n u (k+1)=uS δ n u k++[iI δ n (cJ δ a n (dT δ n u k)) a]:=by
  have I:=aI h;obtain⟨r,y⟩:=hH δ a n (dT δ n u k);unfold uS;rw[f9 h];have B:(cJ δ a n (dT δ n u k)).take (k+1)=(dT δ n u k).take k++[a]:=by rw[y,List.take_append_of_le_length (by omega),Ce,h];rfl
  rw[B,Ax];congr 1;refine Di fun b hb=>?_;rw[y];refine HS fun x E=>?_;obtain⟨i,G,hb⟩:=List.mem_iff_getElem.1 hb;rw[Ay]at G;rw[List.getElem_take]at hb;exact uE (k:=k) (i:=i) (by omega) (by rw[Ad (by omega),hb]) x E
def aDO(δ:α->Nat->α)(n:Nat)(o:List α):List (List Int):=o.map (iI δ n o)
def yD{δ:α->Nat->α}{n:Nat}{u:α}{k:Nat}(h:(dT δ n u k).length<=k):uS δ n u k=aDO δ n (dT δ n u k):=by unfold uS aDO;rw[Ba h]
end
section
variable {α:Type} [DecidableEq α]
variable {tab:FuncId->Option AF} (T:HasA tab)
include T
end
structure OkD (D:DF):Prop where
  v0:0<=D.vs
  v6:D.vs<=6
  n0:0<D.nx.length
  n1:D.nx.length<=4096
  f:D.fi.length=D.nx.length
  s0:0<=D.st
  s1:D.st<D.nx.length
  r:∀r∈D.nx,(r.length:Int)=2^D.vs.toNat/\∀t∈r,0<=t/\t<D.nx.length
def jg{v n:Int} :∀{l:List (List Int)},nY v n l=0↔∀r∈l,(r.length:Int)=2^v.toNat/\∀t∈r,0<=t/\t<n
  | []=>by simp[nY]
  | r::l=>by
    unfold nY;by_cases h1:(r.length:Int)=2^v.toNat
    · rw[if_pos h1];by_cases h2:AK n r=Jb
      · rw[if_pos h2];constructor
        · intro h;exact absurd h (by decide)
        · intro h;unfold AK at h2;obtain⟨t,h3,y⟩:=List.any_eq_true.1 h2;have:=(h r (by simp)).2 t h3;simp only[decide_eq_true_eq]at y;omega
      · rw[if_neg h2,jg];constructor
        · intro h x u;rcases List.mem_cons.1 u with rfl | u
          · refine⟨h1,fun t ht=>Bq fun q=>h2 ?_⟩;exact List.any_eq_true.2 ⟨t,ht,by simp only[decide_eq_true_eq];omega⟩
          · exact h x u
        · intro h x u;exact h x (by simp[u])
    · rw[if_neg h1];constructor
      · intro h;exact absurd h (by decide)
      · intro h;exact absurd (h r (by simp)).1 h1
def fw{D:DF} :bZ D=0↔OkD D:=by
  unfold bZ;constructor
  · intro h;split at h;· exact absurd h (by decide)
    split at h;· exact absurd h (by decide)
    split at h;· exact absurd h (by decide)
    split at h;· exact absurd h (by decide)
    split at h;· exact absurd h (by decide)
    rename_i h1 h2 h3 u y;exact⟨by omega,by omega,by omega,by omega,by have:=Classical.not_not.1 u;omega,by omega,by omega,jg.1 h⟩
  · intro C;have h1:=C.v0;have h2:=C.v6;have h3:=C.n0;have u:=C.n1;have y:=C.f;have B:=C.s0;have E:=C.s1;rw[if_neg (by omega),if_neg (by omega),if_neg (by omega),if_neg (by omega),if_neg (by omega)];exact jg.2 C.r
def uQ(nx:List (List Int))(s x:Int):Int:=(((nx[s.toNat]?).getD [])[x.toNat]?).getD 0
def fiD(D:DF)(s:Int):Bool:=(D.fi[s.toNat]?).getD Jc
def OkD.step{D:DF}(C:OkD D){s x:Int}(s0:0<=s)(s1:s<D.nx.length)(B:0<=x)(E:x<2^D.vs.toNat):
    ∃r,D.nx[s.toNat]? =Iz r/\r[x.toNat]? =Iz (uQ D.nx s x)/\x<r.length/\0<=uQ D.nx s x/\uQ D.nx s x<D.nx.length:=by
  obtain⟨r,g⟩:=aM (xs:=D.nx) (k:=s.toNat) (by omega);obtain⟨h1,h2⟩:=C.r r (Ae g);obtain⟨t,u⟩:=aM (xs:=r) (k:=x.toNat) (by omega);have e:uQ D.nx s x=t:=by unfold uQ;rw[g];simp[u]
  rw[e];exact⟨r,g,u,by omega,h2 t (Ae u)⟩
def OkD.run{D:DF}(C:OkD D):∀(w:List Int),(∀x∈w,0<=x/\x<2^D.vs.toNat)->∀s:Int,0<=s->s<D.nx.length->0<=w.foldl (uQ D.nx) s/\w.foldl (uQ D.nx) s<D.nx.length
  | [],_,s,h0,h1=>⟨h0,h1⟩
  | x::w,hw,s,h0,h1=>by have u:=hw x (by simp);obtain⟨_,_,_,_,a,b⟩:=C.step h0 h1 u.1 u.2;exact OkD.run C w (fun y B=>hw y (by simp[B])) _ a b
def OkD.fin{D:DF}(C:OkD D){s:Int}(s0:0<=s)(s1:s<D.nx.length):D.fi[s.toNat]? =Iz (fiD D s)/\s<D.fi.length:=by obtain⟨b,g⟩:=aM (xs:=D.fi) (k:=s.toNat) (by have:=C.f;omega);exact⟨by unfold fiD;rw[g];rfl,by have:=C.f;omega⟩
section
variable {tab:FuncId->Option AF} (T:HasA tab){M:Mem}{K:PV->Mem->Prop}
include T
omit T in
def DF.ext'{D u:DF}(h1:D.vs=u.vs)(h2:D.st=u.st)(h3:D.nx=u.nx)(y:D.fi=u.fi):D=u:=by cases D;cases u;simp_all
def Q5{f o:Bool}{u:List Bool}(hm:u.length<big)(y:K (slB Jc Jb u) M):
    ai tab 38 [slB f o u] M K:=by
  refine aF T.h38 (by simp only[PP,simprocAttr]) ?_;have hb:u.length<1000000000000:=hm;have B:u.length<=140737488355328:=by omega
  have E:u.length<=9223372036854775807:=by omega
  simp only[af38,PP,simprocAttr,B,E];exact y
def ZX{L O Q R S U V Y Z p2 e3 p3:Bool}{D D':DF}(B:BnD D)(J:∀b:Bool,(b=Jb↔D=D')->K (.bool b) M):
    ai tab 32 [.agg (dfC L O Q R S U D),.agg (dfC V Y Z p2 e3 p3 D')] M K:=by
  refine aF T.h32 (by simp only[PP,simprocAttr]) ?_;simp only[af32,PP,simprocAttr];have y:¬(D=D')->K (.bool Jc) M:=fun h=>J Jc ⟨fun h=>by(cases h),fun e=>absurd e h⟩;refine QIf.intro (fun u=>?_) fun u=>?_;rotate_left
  · simp only[PP,simprocAttr,u];exact y (by rintro rfl;exact u rfl)
  simp only[PP,simprocAttr,u];by_cases E:D.st=D'.st;rotate_left
  · simp only[PP,simprocAttr,E];exact y (by rintro rfl;exact E rfl)
  simp only[PP,simprocAttr,E];refine lA T B.n B.r ?_;by_cases G:D.nx=D'.nx;rotate_left
  · simp only[PP,simprocAttr,G];exact y (by rintro rfl;exact G rfl)
  simp only[PP,simprocAttr,G];refine J3 T B.f ?_;by_cases I:D.fi=D'.fi;rotate_left
  · simp only[PP,simprocAttr,I];exact y (by rintro rfl;exact I rfl)
  simp only[PP,simprocAttr,I];exact J Jb ⟨fun _=>DF.ext' u E G I,fun _=>rfl⟩
end
def oP(D:DF)(a x:Nat):Nat:=(uQ D.nx a x).toNat
abbrev lX(D:DF):Nat:=2^D.vs.toNat
def OkD.delta{D:DF}(C:OkD D){a x:Nat}(I:a<D.nx.length)(E:x<lX D):∃r,D.nx[a]? =Iz r/\r[x]? =Iz ((oP D a x:Nat):Int)/\(x:Int)<r.length/\oP D a x<D.nx.length:=by
  have u:(x:Int)<2^D.vs.toNat:=by
    have:((x:Nat):Int)<((2^D.vs.toNat:Nat):Int):=by exact_mod_cast E
    simpa using this
  obtain⟨r,y,B,G,J,K⟩:=C.step (s:=a) (x:=x) (by omega) (by omega) (by omega) u;simp only[Ca]at y B;refine⟨r,y,?_,G,?_⟩
  · rw[B];unfold oP;congr 1;omega
  · unfold oP;omega
section
variable {tab:FuncId->Option AF} (T:HasA tab){M:Mem}{K:PV->Mem->Prop}
include T
omit T in
def OkD.small{D:DF}(C:OkD D)(k:Nat):(dT (oP D) (lX D) D.st.toNat k).length<=D.nx.length:=
  qC _ _ (kP _ _ _ k) (sM (Dm:=fun a=>a<D.nx.length) (by have:=C.s0;have:=C.s1;omega) (fun a x u y=>(C.delta u y).choose_spec.2.2.2) k)
omit T in
def OkD.below{D:DF}(C:OkD D)(k:Nat):∀a∈dT (oP D) (lX D) D.st.toNat k,a<D.nx.length:=
  sM (Dm:=fun a=>a<D.nx.length) (by have:=C.s0;have:=C.s1;omega) (fun a x u y=>(C.delta u y).choose_spec.2.2.2) k
omit T in
def OkD.row{D:DF}(C:OkD D){a:Nat}(u:a<D.nx.length):∃r,D.nx[a]? =Iz r/\r.length=lX D/\∀x,x<lX D->r[x]? =Iz ((oP D a x:Nat):Int)/\oP D a x<D.nx.length:=by
  obtain⟨r,g⟩:=aM u;have h1:=(C.r r (Ae g)).1;have h2:((lX D:Nat):Int)=2^D.vs.toNat:=by simp
  refine⟨r,g,by omega,fun x B=>?_⟩;obtain⟨I,y,E,J,G⟩:=C.delta u B;rw[g]at y;cases y;exact⟨E,G⟩
end
section
variable {α β:Type} [DecidableEq α] [DecidableEq β]
omit [DecidableEq α] [DecidableEq β] in
def IY{φ:α->β}{Dm:α->Prop}(u:∀a b,Dm a->Dm b->φ a=φ b->a=b){o:List α}{b:α}(y:∀c∈o,Dm c)(hb:Dm b):φ b∈o.map φ↔b∈o:=by
  constructor
  · intro h;obtain⟨c,h1,h2⟩:=List.mem_map.1 h;rw[<-u c b (y c h1) hb h2];exact h1
  · intro h;exact List.mem_map.2 ⟨b,h,rfl⟩
def DG{φ:α->β}{Dm:α->Prop}(u:∀a b,Dm a->Dm b->φ a=φ b->a=b){b:α}(hb:Dm b):∀{o:List α},(∀c∈o,Dm c)->(o.map φ).idxOf (φ b)=o.idxOf b
  | [],_=>rfl
  | a::o,y=>by
    by_cases e:b=a
    · subst e;simp
    · have B:φ b≠φ a:=fun h=>e (u b a hb (y a (by simp)) h);rw[Ai,kL B,kL e,DG u hb (fun c E=>y c (by simp[E]))]
end
abbrev aO(N:NF):Nat:=2^N.vs.toNat
def aJ(N:NF)(a:BitVec 64)(x:Nat):BitVec 64:=(lW N.es x).foldl (fun u e=>if a.getLsbD e.fr.toNat=Jb then u||| Cp 64 e.to.toNat else u) 0#64
def JV(a:BitVec 64)(k:Nat):∀(l:List Eg) (u:BitVec 64),(∀e∈l,0<=e.to/\e.to<64)->
    ((l.foldl (fun u e=>if a.getLsbD e.fr.toNat=Jb then u||| Cp 64 e.to.toNat else u) u).getLsbD k=Jb↔u.getLsbD k=Jb\/∃e∈l,a.getLsbD e.fr.toNat=Jb/\e.to=k)
  | [],u,_=>by simp
  | e::l,u,h=>by
    have he:=h e (by simp);rw[Du,JV a k l _ fun e he=>h e (by simp[he])];by_cases c:a.getLsbD e.fr.toNat=Jb
    · rw[if_pos c,BitVec.getLsbD_or,Dz,Gr,Aq,decide_eq_true_eq,decide_eq_true_eq];constructor
      · rintro((h1 | ⟨h1,h2⟩) | ⟨y,h1,h2⟩)
        · exact .inl h1
        · exact .inr ⟨e,by simp,c,by omega⟩
        · exact .inr ⟨y,by simp[h1],h2⟩
      · rintro(h1 | ⟨y,h1,h2,h3⟩)
        · exact .inl (.inl h1)
        · rcases List.mem_cons.1 h1 with rfl | h1
          · exact .inl (.inr ⟨by omega,by omega⟩)
          · exact .inr ⟨y,h1,h2,h3⟩
    · rw[if_neg c];constructor
      · rintro(h1 | ⟨y,h1,h2⟩)
        · exact .inl h1
        · exact .inr ⟨y,by simp[h1],h2⟩
      · rintro(h1 | ⟨y,h1,h2,h3⟩)
        · exact .inl h1
        · rcases List.mem_cons.1 h1 with rfl | h1
          · exact absurd h2 c
          · exact .inr ⟨y,h1,h2,h3⟩
def I1{u:List Eg}{x:Nat}{e:Eg}(h:e∈lW u x):e∈u:=(List.mem_filter.1 h).1
def nH{N:NF}(C:NOk N)(a:BitVec 64)(x k:Nat):(aJ N a x).getLsbD k=Jb↔∃e∈lW N.es x,a.getLsbD e.fr.toNat=Jb/\e.to=k:=by unfold aJ;rw[JV a k _ _ fun e he=>by have:=C.ed e (I1 he);have:=C.n64;omega];simp
structure RB (s:Wd) (a:BitVec 64):Prop where
  len:s.length<=64
  lt:∀k,bit s k=Jb->k<64
  at0:wAt s 0=a
def RB.bit{s:Wd}{a:BitVec 64}(h:RB s a)(k:Nat):bit s k=a.getLsbD k:=by
  by_cases u:k<64
  · unfold Ar.bit;rw[show k / 64=0 by omega,show k % 64=k by omega,h.at0]
  · rw[Es _ _ (by omega)]
    cases hb:Ar.bit s k with
    | false=>rfl
    | true=>exact absurd (h.lt k hb) u
def RB.mk'{s:Wd}{a:BitVec 64}(hl:s.length<=64)(h:∀k,Ar.bit s k=Jb↔a.getLsbD k=Jb):RB s a:=by
  have lt:∀k,Ar.bit s k=Jb->k<64:=fun k u=>by refine Bq fun q=>?_;have:=(h k).1 u;rw[Es _ _ (by omega)]at this;cases this
  refine⟨hl,lt,Er fun i y=>?_⟩;have:=h i;unfold Ar.bit at this;rw[show i / 64=0 by omega,show i % 64=i by omega]at this;exact Bool.eq_iff_iff.2 this
def RB.next{N:NF}(C:NOk N){s o:Wd}{a:BitVec 64}{x:Nat}(h:RB s a)(u:aGk N.es s x o):RB o (aJ N a x):=by refine .mk' u.1 fun k=>?_;rw[u.2,nH C];simp only[h.bit]
def cY(N:NF):BitVec 64:=wAt (faW N.st) 0
def WP{N:NF}(C:NOk N):RB (faW N.st) (cY N):=by obtain⟨_,h2,h3⟩:=aDU C C.st;refine⟨h2,fun k u=>?_,rfl⟩;rw[h3,decide_eq_true_eq]at u;have:=jA C.st _ u;have:=C.n64;omega
def mU{N:NF}(C:NOk N)(k:Nat):(cY N).getLsbD k=Jb↔(k:Int)∈N.st:=by obtain⟨_,_,h3⟩:=aDU C C.st;rw[<-(WP C).bit,h3,decide_eq_true_eq]
def BQ(N:NF)(a:BitVec 64):Bool:=N.fi.any fun q=>a.getLsbD q.toNat
def a8(o:List (BitVec 64)):List (List Int):=o.map fun a=>bE (bM a)
def V6{u:Int}{x:Nat}(h:x<2^u.toNat):O7 u [(x:Int)]=0:=by
  have y:¬(2:Int)^u.toNat<=x:=by
    have:((2^u.toNat:Nat):Int)=2^u.toNat:=by simp
    omega
  unfold O7;rw[if_neg (by simp),if_neg (by simp[y])]
def NOk.nu{N:NF}(C:NOk N):aO N<=64:=H9 C.v6
section
variable {tab:FuncId->Option AF} (T:HasA tab){M:Mem}{K:PV->Mem->Prop}
include T
end
def aFG(o:Wd):Prop:=o=[]\/wAt o (o.length-1)≠0#64
def fN(a:BitVec 64):Wd:=if a=0#64 then []else [a]
def RB.one{o:Wd}{a:BitVec 64}(h:RB o a)(u:aFG o):o=fN a:=by
  have hz:∀i,0<i->wAt o i=0#64:=fun i E=>Er fun j G=>by
    cases B:(wAt o i).getLsbD j with
    | false=>simp
    | true=>
      have:Ar.bit o (64*i+j)=Jb:=by unfold Ar.bit;rw[show(64*i+j) / 64=i by omega,show(64*i+j) % 64=j by omega];exact B
      have:=h.lt _ this;omega
  have h0:=h.at0;unfold fN;rcases u with rfl | ht
  · have e:wAt ([]:Wd) 0=0#64:=kB (by simp);rw[e]at h0;rw[if_pos h0.symm]
  · have hl:o.length-1=0:=Bq fun q=>ht (hz _ (by omega));rw[hl,h0]at ht;rw[if_neg ht]
    match o,hl with
    | [],_=>have e:wAt ([]:Wd) 0=0#64:=kB (by simp);rw[e]at h0;exact absurd h0.symm ht
    | [x],_=>rw[<-h0];rfl
    | x::y::l,h=>simp at h
def aCc(a:BitVec 64):RB (fN a) a:=by
  unfold fN;by_cases h:a=0#64
  · rw[if_pos h];exact⟨by simp,fun k u=>by simp[Ar.bit,wAt]at u,by rw[h];rfl⟩
  · rw[if_neg h];refine⟨by simp,fun k u=>?_,rfl⟩;refine Bq fun q=>?_;have:wAt [a] (k / 64)=0#64:=kB (by simp;omega);unfold Ar.bit at u;rw[this]at u;simp at u
def YC(a:BitVec 64):(fN a).length<=1:=by unfold fN;split<;>simp
def jK(a:BitVec 64):ByteArray:=⟨(Key.lh ((fN a).map (·.toNat))).toArray⟩
section
variable {tab:FuncId->Option AF} (T:HasA tab){M:Mem}{K:PV->Mem->Prop}
include T
def aFh{Y Z f2 o2 f3 o3 f4 o4:Bool}{N:NF}{s:Wd}{x:Nat}(C:NOk N)(B:BnN N)(hs:s.length<=64)(hx:x<256)(hk:∀o,aGk N.es s x o->aFG o->K (slW Jc Jb o) M):
    ai tab 144 [.agg (nfC Y Z f2 o2 f3 o3 N),slW f4 o4 s,p8 x] M K:=by
  have a2:=C.n64;refine bD T.h144 (by simp only[PP,simprocAttr,aV]) ?_;simp only[af144];refine aA (aB ?_);simp only[PP,simprocAttr];refine aU (GStep.dw (b:=(.ae:: .ae::p8 x:: .cp (nfC Y Z f2 o2 f3 o3 N) 0:: .ptr 1 0 0:: .ae:: .ptr 2 0 0::zj 14)) 0 (Af _) rfl (by simp only[gE,gF,Ak,An,dQ,cU,cT,dP]) rfl) ?_;refine aU (GStep.dw (b:=(.ae:: .ae::p8 x:: .cp (nfC Y Z f2 o2 f3 o3 N) 0:: .cp [slW f4 o4 s] 0:: .ae:: .ptr 2 0 0::zj 14)) 1 (Af _) rfl (by simp only[gE,gF,Ak,An,dQ,cU,cT,dP]) rfl) ?_;refine aU (GStep.wkC (v':=slW Jc Jb []) 2 0 rfl (fun v h=>by cases h;exact bc.aa _ _ _) rfl) ?_;refine aB ?_;simp only[PP,simprocAttr];refine M5 T ?_;simp only[PP,simprocAttr];refine aE (b:=(zj 4++ .cp [slW f4 o4 s] 0:: .ae:: .ptr 2 0 0::zj 3++ .func (.func 213) [] [.cp (nfC Y Z f2 o2 f3 o3 N) 0,.cp [p8 x] 0]::zj 10)) ?_;refine oU rfl fun u q1 q2 q3 q4 q5 q6=>?_;simp only[PP,simprocAttr];refine YV T (L:=3) hx B.e B.b (fun k G=>∃ver v o y,G=[.gone,.gone,.cells 0 v [slW Jc Jb o],.loop ver u]++y/\(o.length<=64/\aFG o)/\∀j:Nat,bit o j=Jb↔∃e∈(lW N.es x).take k,bit s e.fr.toNat=Jb/\e.to=j)
    ⟨0,0,[],[],rfl,⟨by simp,.inl rfl⟩,fun j=>by simp[bit,wAt]⟩ ?_ ?_ ?_ ?_
  · rintro k G o ⟨ver,v,O,y,rfl,h⟩;exact⟨ver,v,O,y++[o],by simp only[Ab],h⟩
  · rintro k G ⟨ver,v,O,y,rfl,h⟩;exact⟨ver,u,rfl⟩
  · rintro k G e ⟨ver,v,o,y,rfl,⟨ho,I⟩,hb⟩ Q K' R;refine AZ (ver:=ver) (r:=u) rfl (by rw[q4];rfl) ?_;rw[q3,q4,q5];refine aB ?_;simp only[kW,PP,simprocAttr,Ab,gk,gk0,sk,sk0];have S:∀B,u.body=B->(⟨.ready,Ja,u.tmps,u.params,u.assign,B⟩:jl)=u:=fun B hB=>by cases u;simp_all
    refine⟨ver,u,rfl,q1,?_⟩;rw[q6];refine aB ?_;have a0:=Ae Q;have a1:e∈N.es:=(List.mem_filter.1 a0).1;obtain⟨e1,e2,e3,e4,_⟩:=C.ed e a1;have J:e.fr=((e.fr.toNat:Nat):Int):=by omega
    have U:e.to=((e.to.toNat:Nat):Int):=by omega
    have V:∀O:Wd,(∀j:Nat,bit O j=Jb↔(bit o j=Jb\/(bit s e.fr.toNat=Jb/\e.to=j)))->∀j:Nat,bit O j=Jb↔∃e∈(lW N.es x).take (k+1),bit s e.fr.toNat=Jb/\e.to=j:=fun O h j=>by
      rw[h,hb,Ce,Q];simp only[Ft,Bz,Bk];constructor
      · rintro(⟨z,h1,h2⟩ | h)
        · exact⟨z,.inl h1,h2⟩
        · exact⟨e,.inr rfl,h⟩
      · rintro⟨z,h1 | rfl,h2⟩
        · exact .inl ⟨z,h1,h2⟩
        · exact .inr h2
    simp only[PP,simprocAttr,Ab,gk,gk0,sk,sk0];rw[show PV.int .i64 e.fr=p64 ((e.fr.toNat:Nat):Int) by rw[<-J]];refine aCY T hs (by omega) ?_
    cases E:bit s e.fr.toNat with
    | false=>simp only[PP,simprocAttr,Ab,gk,gk0,sk,sk0];refine⟨ver+1,_,rfl,?_⟩;rw[if_pos rfl];refine R _ ⟨ver+1+1,v,o,y++[.cells 0 1 (egC e)],?_,⟨ho,I⟩,V o fun j=>by rw[E];simp⟩;simp only[PP,simprocAttr,Ab,gk,gk0,sk,sk0,S _ q6,<-J]
    | true=>
      simp only[PP,simprocAttr,Ab,gk,gk0,sk,sk0];rw[show PV.int .i64 e.to=p64 ((e.to.toNat:Nat):Int) by rw[<-U]];refine aD4 T (by show _<1000000000000;omega) (by omega) ?_;obtain⟨w1,w2⟩:=aAk (k:=e.to.toNat) ho (by omega);simp only[PP,simprocAttr,Ab,gk,gk0,sk,sk0];refine⟨ver+1,_,rfl,?_⟩;rw[if_pos rfl];refine R _ ⟨ver+1+1,v+1,qW o e.to.toNat,y++[.cells 0 1 (egC e)],?_,⟨w1,WH _⟩,V _ fun j=>?_⟩
      · simp only[PP,simprocAttr,Ab,gk,gk0,sk,sk0,S _ q6,<-J,<-U]
      · rw[w2,Dz,decide_eq_true_eq,E];constructor
        · rintro(h | h)
          · exact .inl h
          · exact .inr ⟨rfl,by omega⟩
        · rintro(h | ⟨_,h⟩)
          · exact .inl h
          · exact .inr (by omega)
  · rintro G ⟨ver,v,o,y,rfl,⟨ho,I⟩,hb⟩;refine⟨ver,u,rfl,by rw[q1];exact(by intro h;cases h),?_⟩;rw[q2];simp only[PP,simprocAttr,Ab,gk,gk0,sk,sk0];rw[Ba (Ac _)]at hb;exact hk o ⟨ho,hb⟩ I
def T1{I J L O Q R S U:Bool}{N:NF}{a:BitVec 64}{x:Nat}(E:dA N=0)(B:BnN N)(V:x<aO N)(Y:K (.tuple [slW Jc Jb (fN (aJ N a x)),p64 0]) M):
    ai tab 83 [.agg (nfC I J L O Q R N),slW S U (fN a),p8 x] M K:=by
  have C:=kJ E;have Z:=C.nu;have hr:=aCc a;refine aF T.h83 (by simp only[PP,simprocAttr,aV]) ?_;simp only[af83,PP,simprocAttr];refine CK T B ?_;simp only[PP,simprocAttr,E];refine aD3 T (w:=[(x:Int)]) C (fun y G=>by simp at G;subst G;omega) (by simp) ?_;rw[V6 V];simp only[PP,simprocAttr];refine aFh T C B hr.len (by omega) fun o ho u=>?_;rw[(hr.next C ho).one u];simp only[PP,simprocAttr];exact Y
end
section
variable {tab:FuncId->Option AF}
def iT{g:FuncId}{F:List AV->H->Option AV}(hg:tab g=Iz (.kq (bN F))){args:List PV}{M:Mem}{K:PV->Mem->Prop}{r:PV}
    (h:∀w hh u,PSt w hh M->ak w args u->∃v,F u hh=Iz v/\az w r v) (y:K r M):ai tab g args M K:=by
  intro w hh u h0 s B;obtain⟨v,hv,hr⟩:=h w hh u s B;unfold C;refine⟨v,hh,?_,w,r,M,dx.refl (Ac _) w hh,s,hr,y⟩;rw[rU];simp only[gD,hg,bN,hv]
def kV{w:PWd}{s:ByteArray}{x:AV}(h:az w (.str s) x):x= .str s:=by cases h;rfl
def CV{w:PWd} :∀{l:List (BitVec 64)} {u:List AV},ak w ((wI l).map (PV.int .u64)) u->Key.jf u=Iz (l.map (·.toNat))
  | [],[],h=>rfl
  | [],_::_,h=>by have:=h.len;simp[wI]at this
  | _::_,[],h=>by have:=h.len;simp[wI]at this
  | a::l,x::u,h=>by have h1:=dK h.hd;subst h1;have h2:=CV (l:=l) h.tl;have hlt:=a.isLt;unfold Key.jf;rw[h2];simp only[Ai];rw[if_pos ⟨by omega,by omega⟩];simp
def H2{w:PWd} :∀{l:List ByteArray} {u:List AV},ak w (l.map PV.str) u->dY u=Iz l
  | [],[],h=>rfl
  | [],_::_,h=>by have:=h.len;simp at this
  | _::_,[],h=>by have:=h.len;simp at this
  | a::l,x::u,h=>by have h1:=kV h.hd;subst h1;have h2:=H2 (l:=l) h.tl;unfold dY;rw[h2]
end
def QT(n:Int):ByteArray:=⟨(JN n).toArray⟩
section
variable {tab:FuncId->Option AF} (T:HasA tab){M:Mem}{K:PV->Mem->Prop}
include T
def aCA{n:Int}(h0: -9223372036854775808<=n)(h1:n<=9223372036854775807)(B:K (.str (QT n)) M):ai tab 106 [p64 n] M K:=by
  refine iT T.itoa (fun w hh u s y=>?_) B
  match u,y with
  | [v],y=>have:=dK y.hd;subst this;exact⟨.str (QT n),by unfold itoaF;simp only;rw[if_pos ⟨h0,h1⟩];rfl,.str _⟩
def aC2{t:ByteArray}{n:Int}(h0:t.size<=9223372036854775806)(h1:Lib.atoiAll t.data.toList= .ok n)(B:K (.tuple [p64 n,.af]) M):ai tab 132 [.str t] M K:=by
  refine iT T.atoi (fun w hh u s y=>?_) B
  match u,y with
  | [v],y=>have:=kV y.hd;subst this;refine⟨.tuple [.int .i64 n,.af],by show(if _ then _ else _)=_;rw[if_pos h0,h1],?_⟩;have:=ak.cons (az.int (w:=w) .i64 n) (.cons .af (.nil w));exact .tuple this.len this.get
def aEZ{n:Nat}(h:n<18446744073709551616)(B:K (.str ⟨(dig 20 n).toArray⟩) M):ai tab 131 [.int .u64 n,p64 10] M K:=by
  refine iT T.fmt (fun w hh u s y=>?_) B
  match u,y with
  | [v,G],y=>
    have:=dK y.hd;subst this;have:=dK y.tl.hd;subst this;have E:(n:Int)<18446744073709551616:=by omega
    refine⟨.str ⟨(dig 20 n).toArray⟩,?_,.str _⟩;unfold Proofs.YtapbgleednkimaaGreatDoor.Fmt.fmtF;simp only;rw[if_pos ⟨trivial,by omega,E⟩];rfl
def WK{a t:ByteArray}{x y k:Int}(h:t.size<=281474976710656)(E:k=1\/k=2)(G:∀I,K (.iface I Zj) M):
    ai tab 172 [.str a,.str t,p64 x,p64 y,.iface (Proofs.YtapbgleednkimaaGreatDoor.Lay.renNm.t 167) (p64 k)] M K:=by
  refine iT (r:= .iface (Proofs.YtapbgleednkimaaGreatDoor.Lay.renNm.t 168) .ae) T.toErr (fun w hh u s B=>?_) (G _)
  match u,B with
  | [Q,R,S,U,J],B=>
    have:=kV B.hd;subst this;have:=kV B.tl.hd;subst this;have:=dK B.tl.tl.hd;subst this;have:=dK B.tl.tl.tl.hd;subst this;have L:=B.tl.tl.tl.tl.hd
    match J,L with
    | _,.iface O=>have:=dK O;subst this;refine⟨.iface (Proofs.YtapbgleednkimaaGreatDoor.Lay.renNm.t 168) .ae,?_,.iface (.ae _)⟩;show(if _ then _ else _)=_;rw[if_pos ⟨h,rfl,E⟩]
def NS{f o:Bool}{a:BitVec 64}(I:K (.str (jK a)) M):ai tab 155 [slW f o (fN a)] M K:=by
  refine iT T.key (fun w hh u s y=>?_) I
  match u,y with
  | [v],y=>
    have hl:=YC a;rcases mY s y.hd with⟨rfl,h1,h2⟩ | ⟨J,b,off,ver,rw,B,rfl,_,S,L,O,Q,G,_⟩
    · refine⟨_,rfl,?_⟩;have:fN a=[]:=List.length_eq_zero_iff.1 h1;unfold jK;rw[this];exact .str _
    · by_cases hz:(fN a).length=0
      · refine⟨_,by show(if _ then _ else _)=_;rw[if_pos hz],?_⟩;have:fN a=[]:=List.length_eq_zero_iff.1 hz;unfold jK;rw[this];exact .str _
      · refine⟨.str (jK a),?_,.str _⟩;show(if _ then _ else _)=_;rw[if_neg hz,if_pos ⟨rfl,by omega⟩];have E:bH hh b off (fN a).length=Iz ((B.drop off).take (fN a).length):=by
          unfold bH;rw[L];simp only;rw[if_pos (by rw[<-Nat.mul_one (fN a).length,<-Q];exact O)]
        rw[E];have R:((wI (fN a)).map (PV.int .u64)).length=(fN a).length:=by simp[wI]
        rw[R]at G;have:=CV G;simp only[this];rfl
def aCx{id g ver:Nat}{u:List ByteArray}{y:ByteArray}(O:M[id]? =Iz (.cells g ver (u.map PV.str)))(h1:u.length<=140737488355328)
    (h2:(Lib.join (u.map (·.data.toList)) y.data.toList).length<=140737488355328) (Q:K (.str ⟨(Lib.join (u.map (·.data.toList)) y.data.toList).toArray⟩) M):ai tab 63 [.ref id g 1 0 u.length,.str y] M K:=by
  refine iT T.join (fun w hh B s E=>?_) Q
  match B,E with
  | [v,U],E=>
    have:=kV E.tl.hd;subst this;obtain⟨e,V,Y,R⟩:=s.gp O E.hd;rcases R with⟨rfl,h0,_,_,G⟩ | ⟨Z,b,I,rfl,p1,S,L,p4⟩
    · have:u=[]:=by simpa using G
      subst this;exact⟨_,rfl,.str _⟩
    · by_cases hz:u.length=0
      · refine⟨_,by show(if _ then _ else _)=_;rw[if_pos hz],?_⟩;have:u=[]:=List.length_eq_zero_iff.1 hz;subst this;exact .str _
      · refine⟨_,?_,.str _⟩;show(if _ then _ else _)=_;rw[if_neg hz,if_pos rfl];have J:bH hh b 0 u.length=Iz I:=by unfold bH;rw[S];have:=L.len;rw[Al]at this;simp only;rw[if_pos (by omega),Fa,Ba (by omega)]
        rw[J];have:=H2 L;simp only[this];rw[if_pos ⟨h1,h2⟩]
def WU{t:ByteArray}{c:UInt8}(h:t.size<4294967281)(I:K (.sl Jb Jb 1 (bP c t.data.toList).length ((bP c t.data.toList).map fun l=> .str ⟨l.toArray⟩)) M):
    ai tab 70 [.str t,.str ⟨#[c]⟩] M K:=by
  intro w hh u h0 s E
  match u,E with
  | [v,R],E=>
    have:=kV E.hd;subst this;have:=kV E.tl.hd;subst this;have J:splitF [.str t,.str ⟨#[c]⟩] hh=Iz ((bP c t.data.toList).map fun l=> .str ⟨l.toArray⟩):=by show(if _ then _ else _)=_;rw[if_pos h]
    unfold C;obtain⟨L,O,Q⟩:=s.jn (.cells 0 Jb ((bP c t.data.toList).map fun l=> .str ⟨l.toArray⟩));refine⟨.slice Jb 1 hh.next 0 ((bP c t.data.toList).map fun l=>AV.str ⟨l.toArray⟩).length,_,?_,_,_,M,O,L,?_,I⟩
    · rw[rU];simp only[gD,T.split,m8,J]
    · rw[Al];refine .sl Q (by simp) (by simp) (fun _ _=>rfl) (fun _=>⟨s.base,rfl⟩) (fun q=>by cases q) fun i y z B G=>?_;rw[Aw]at G;rw[Ap]at B G
      cases hb:(bP c t.data.toList)[i]? with
      | none=>rw[hb]at B;cases B
      | some b=>rw[hb]at B G;cases B;cases G;exact .str _
end
def MQ{a:BitVec 64}{k:Nat}(h:k<64):bL .shr (oF a) (p64 k)=Iz (oF (a>>>k)):=by
  have h1:¬((k:Int)<0):=by omega
  have h2:min ((k:Int).toNat) 64=k:=by omega
  have h3:((a.toNat:Nat):Int).fdiv (2^k)=(((a>>>k).toNat:Nat):Int):=by rw[Int.fdiv_eq_ediv_of_nonneg _ (by exact Int.pow_nonneg (by omega)),BitVec.toNat_ushiftRight,Nat.shiftRight_eq_div_pow];simp
  simp only[bL,bQ,eY,bR,sL,IntKind.bits,h1,h2,if_true,if_false,h3,Cr,ay]
def aCZ(a:BitVec 64)(k:Nat):((((a>>>k)&&& 1#64).toNat:Nat):Int)=if a.getLsbD k=Jb then 1 else 0:=by
  have h:(a>>>k)&&& 1#64=if a.getLsbD k=Jb then 1#64 else 0#64:=by
    refine Er fun i y=>?_;by_cases u:a.getLsbD k=Jb
    · rw[if_pos u,Ig,BitVec.getLsbD_ushiftRight];by_cases h0:i=0
      · subst h0;simp[u]
      · have:(1#64).getLsbD i=Jc:=by rw[BitVec.getLsbD_one];simp[h0]
        rw[this];simp
    · rw[if_neg u,Ig,BitVec.getLsbD_ushiftRight];by_cases h0:i=0
      · subst h0;simp at u;simp[u]
      · have:(1#64).getLsbD i=Jc:=by rw[BitVec.getLsbD_one];simp[h0]
        rw[this];simp
  rw[h];split<;>rfl
def mG(a:BitVec 64)(k:Nat):List Nat:=(Av k).filter fun j=>a.getLsbD j
def NT(a:BitVec 64)(k:Nat):mG a (k+1)=mG a k++if a.getLsbD k=Jb then [k]else []:=by unfold mG;rw[Fc,Fx];congr 1;by_cases h:a.getLsbD k=Jb<;>simp[h]
def UV(a:BitVec 64)(k:Nat):(mG a k).length<=k:=by unfold mG;exact Ah (Ff _ _) (by simp)
def orB(l:List Nat):BitVec 64:=l.foldl (fun w k=>w||| Cp 64 k) 0#64
def X6(l:List Nat)(k:Nat):orB (l++[k])=orB l||| Cp 64 k:=by unfold orB;rw[List.foldl_append];rfl
def X7(k:Nat):∀(l:List Nat) (w:BitVec 64),(∀x∈l,x<64)->((l.foldl (fun w k=>w||| Cp 64 k) w).getLsbD k=Jb↔w.getLsbD k=Jb\/k∈l)
  | [],w,_=>by simp
  | x::l,w,h=>by
    have B:=h x (by simp);rw[Du,X7 k l _ fun y u=>h y (by simp[u]),BitVec.getLsbD_or,Dz,Gr,Aq,decide_eq_true_eq,decide_eq_true_eq,Ck];constructor
    · rintro((h1 | ⟨h1,h2⟩) | h1)
      · exact .inl h1
      · exact .inr (.inl h2.symm)
      · exact .inr (.inr h1)
    · rintro(h1 | h1 | h1)
      · exact .inl (.inl h1)
      · exact .inl (.inr ⟨by omega,h1.symm⟩)
      · exact .inr h1
def aB5{l:List Nat}(h:∀x∈l,x<64)(k:Nat):(orB l).getLsbD k=Jb↔k∈l:=by unfold orB;rw[X7 k l _ h];simp
def C3{N:NF}(C:NOk N):∀q∈N.st,0<=q/\q<64:=fun q u=>by have:=jA C.st q u;have:=C.n64;omega
def TY{N:NF}(C:NOk N):orB (N.st.map Cq)=cY N:=by
  have h:=C3 C;refine Er fun i B=>?_;rw[Fg,aB5 (fun x u=>by obtain⟨q,y,rfl⟩:=List.mem_map.1 u;have:=h q y;omega),mU C];constructor
  · intro u;obtain⟨q,y,e⟩:=List.mem_map.1 u;have:=h q y;rw[show(i:Int)=q by omega];exact y
  · intro u;exact List.mem_map.2 ⟨i,u,by simp⟩
def sP{u:FuncId->Option AF}{g:FuncId}{args:List PV}{M:Mem}{K:PV->Mem->Prop}(hb:aD 0 args=Jb)(B:ai u g args [] fun r E=>∃y,fG 0 E r=Iz y/\K y M):ai u g args M K:=nM hb B
section
variable {tab:FuncId->Option AF} (T:HasA tab){M:Mem}{K:PV->Mem->Prop}
include T
def mF{f o:Bool}{u:List Int}(hm:u.length<big)(y:K (slI Jc Jb .i64 u) M):ai tab 59 [slI f o .i64 u] M K:=by refine sP (by simp only[PP,simprocAttr]) (aAa T hm fun g v=>⟨slI Jc Jb .i64 u,?_,y⟩);simp only[fG,cO];rw[eB (ver:=v) (Af _) rfl (by simp) (aL _ _ _),aK _ _ (by simp)]
def UR{f o:Bool}{u:List Eg}(hm:u.length<big)(y:K (slE Jc Jb u) M):ai tab 153 [slE f o u] M K:=by
  refine sP (by simp only[PP,simprocAttr,aV]) (aAb T hm fun g v=>⟨slE Jc Jb u,?_,y⟩);simp only[fG,cO];have:=eW u;have B:aD 0 (egL u)=Jb:=by
    exact bS 0 u
  rw[eB (ver:=v) (Af _) rfl (by simp[eW]) B,aK _ _ (by simp[eW])]
def RE{f o:Bool}{a:BitVec 64}(J:K (slI Jc Jb .i64 (bE (bM a))) M):ai tab 254 [slW f o (fN a)] M K:=by
  refine bD T.h254 (by simp only[PP,simprocAttr]) ?_;simp only[af254];refine aA (aB ?_);simp only[PP,simprocAttr];refine aU (GStep.nil 2 1 rfl rfl rfl) ?_;refine aB ?_;simp only[PP,simprocAttr];refine cL (fun(k:Nat) (g:Nat)=>k<=64) (fun k g=>(slW f o (fN a):: .ae:: .ref 0 g 1 0 (mG a k).length:: .ae::p64 k::zj 20)) (fun k g=>[.cells g 0 ((bE (mG a k)).map p64)]) (fun k _=>64-k) 0 0 (by omega) ?_ (by simp only[mG,Gv,Ii,PW]);intro k g I E;refine aH (by kernel_rfl) ?_;simp only[PP,simprocAttr];refine QIf.intro (fun c=>?_) fun c=>?_;rotate_left
  · obtain rfl:k=64:=by omega
    simp only[PP,simprocAttr,c];rw[aK _ _ (by simp)];have e:mG a 64=bM a:=rfl;rw[e];have L:(bE (bM a)).length=(bM a).length:=by simp
    rw[<-L];exact J
  have hlt:k<64:=by omega
  have hw:=aC (k:=k) (by show _<1000000000000;omega);have O:=UV a k;have Q:((mG a k).length+1)*8<=140737488355328:=by omega
  have R:(mG a k).length+1<=9223372036854775807:=by omega
  have hs:=NT a k;unfold fN;by_cases u:a=0#64
  · have B:a.getLsbD k=Jc:=by rw[u];simp
    rw[B]at hs;simp only[Bs,if_false,Bm]at hs;simp only[PP,simprocAttr,c,u,hw,if_true];have:=E (k+1) g (by omega) (by omega);rw[hs]at this;unfold fN at this;rw[u]at this;simp only[if_true]at this;exact aE this
  · have G:=MQ (a:=a) hlt;have y:bL .and (oF (a>>>k)) (.int .u64 1)=Iz (oF (a>>>k&&& 1#64)):=qB _ 1#64;have hb:=aCZ a k;simp only[PP,simprocAttr,c,u,hw,if_false,wI,G,y,hb]
    cases B:a.getLsbD k with
    | false=>rw[B]at hs;simp only[Bs,if_false,Bm]at hs;simp only[PP,simprocAttr,hw];have:=E (k+1) g (by omega) (by omega);rw[hs]at this;unfold fN at this;simp only[u,if_false,wI]at this;exact aE this
    | true=>
      rw[B,if_pos rfl]at hs;simp only[PP,simprocAttr,hw,Q,R];have:=E (k+1) (g+1) (by omega) (by omega);rw[hs]at this;unfold fN at this;simp only[u,if_false,wI]at this;have he:(mG a k++[k]).length=(mG a k).length+1:=by simp
      rw[he]at this;refine aR this (by simp only[PW]) ?_;rw[aK _ _ (by simp)];simp
def aFd{f o:Bool}{N:NF}(C:NOk N)(B:BnN N)(u:K (slW Jc Jb (fN (cY N))) M):ai tab 154 [slI f o .i64 N.st] M K:=by
  have E:=C3 C;have hb:N.st.length<1000000000000:=B.s;have Q:(((0#64:BitVec 64).toNat:Nat):Int)=0:=rfl;have R:orB []=0#64:=rfl;have S:oF 0#64= .int .u64 0:=rfl;refine fM (aF T.h154 (by simp only[PP,simprocAttr]) ?_);simp only[af154,PP,simprocAttr];refine cM (fun(k:Nat)=>k<=N.st.length) (fun k=>(zj 3++oF (orB ((N.st.map Cq).take k)):: .ae:: .ae::slI f o .i64 N.st::p64 N.st.length::p64 k::zj 12)) (fun _=>[]) (fun k=>N.st.length-k) 0 (by omega) ?_ (by simp only[Ij,R,S,PW]);intro k U V;refine aH (by kernel_rfl) ?_;simp only[PP,simprocAttr];refine QIf.intro (fun c=>?_) fun c=>?_;rotate_left
  · have G:k=N.st.length:=by omega
    subst G;rw[Ba (by simp),TY C];unfold fN at u;by_cases I:cY N=0#64
    · rw[I]at u ⊢;simp only[PP,simprocAttr,c,Q];exact⟨_,bc.aa _ _ _,u⟩
    · have hz:¬(((cY N).toNat:Nat):Int)=0:=fun h=>I (by apply Fe;simp;omega);rw[if_neg I]at u;simp only[PP,simprocAttr,c,hz];exact⟨_,bc.sl _ _ _ _,u⟩
  have hlt:k<N.st.length:=by omega
  have hw:=aC (k:=k) (by show _<1000000000000;omega);have Y:(0:Int)<=k:=by omega
  obtain⟨q,J⟩:=aM hlt;have Z:=E q (Ae J);have y:=yP (k:=q.toNat) (by omega);rw[show((q.toNat:Nat):Int)=q by omega]at y;have L:=C5 (orB ((N.st.map Cq).take k)) (Cp 64 q.toNat);have O:orB ((N.st.map Cq).take (k+1))=orB ((N.st.map Cq).take k)||| Cp 64 q.toNat:=by
    rw[<-X6,Ce,Ap,J];rfl
  simp only[PP,simprocAttr,c,Y,J,y,L,hw];have:=V (k+1) (by omega) (by omega);rw[O]at this;exact aE this
def ZQ{f o:Bool}{l:List Int}{q:Int}(hl:l.length<big)(E:∀r:Int,(0<=r↔q∈l)->K (p64 r) M):ai tab 259 [slI f o .i64 l,p64 q] M K:=by
  have hb:l.length<1000000000000:=hl;refine aF T.h259 (by simp only[PP,simprocAttr]) ?_;simp only[af259,PP,simprocAttr];refine cM (fun(k:Nat)=>k<=l.length/\q∉l.take k) (fun k=>(slI f o .i64 l::p64 q::zj 5++p64 l.length::p64 k::zj 10)) (fun _=>[]) (fun k=>l.length-k) 0 (by simp) ?_;intro k ⟨I,u⟩ J;refine aH (by kernel_rfl) ?_;simp only[PP,simprocAttr];refine QIf.intro (fun c=>?_) fun c=>?_;rotate_left
  · have y:k=l.length:=by omega
    subst y;rw[Ba (Ac _)]at u;simp only[PP,simprocAttr,c];exact E _ ⟨fun h=>absurd h (by omega),fun h=>absurd h u⟩
  have hlt:k<l.length:=by omega
  have hw:=aC (k:=k) (by show _<1000000000000;omega);have G:(0:Int)<=k:=by omega
  obtain⟨x,B⟩:=aM hlt;simp only[PP,simprocAttr,c,G,B];refine QIf.intro (fun d=>?_) fun d=>?_
  · simp only[PP,simprocAttr,d];exact E _ ⟨fun _=>by rw[d];exact Ae B,fun _=>G⟩
  · simp only[PP,simprocAttr,d,hw];refine aE (J (k+1) ⟨by omega,?_⟩ (by omega));rw[Ce,B];simp only[Ft,Bz,Bk];rintro(h | h)
    · exact u h
    · exact d h
def aCU{f o:Bool}{l:List Int}{q:Int}(hl:l.length<big)(u:K (.bool (decide (q∈l))) M):ai tab 257 [slI f o .i64 l,p64 q] M K:=by
  refine aF T.h257 (by simp only[PP,simprocAttr]) ?_;simp only[af257,PP,simprocAttr];refine ZQ T hl fun r hr=>?_;simp only[PP,simprocAttr];have:decide (0<=r)=decide (q∈l):=by simp only[hr]
  rw[this];exact u
end
def JA{a b:BitVec 64}(h:jK a=jK b):a=b:=by
  unfold jK fN at h;have h:Key.lh ((if a=0#64 then []else [a]).map (·.toNat))=Key.lh ((if b=0#64 then []else [b]).map (·.toNat)):=by have:=congrArg (fun x:ByteArray=>x.data.toList) h;simpa using this
  by_cases u:a=0#64<;>by_cases hb:b=0#64
  · rw[u,hb]
  · rw[if_pos u,if_neg hb]at h;simp[Key.lh]at h
  · rw[if_neg u,if_pos hb]at h;simp[Key.lh]at h
  · rw[if_neg u,if_neg hb]at h;simp only[Ai,Bd,Key.lh]at h;have:=List.append_inj_left' h rfl;exact Fe (ArK.oo a.isLt b.isLt this)
section
variable {α:Type} [DecidableEq α]
def frN(δ:α->Nat->α)(a:α)(S:List α)(x:Nat):List α:=(cJ δ a x S).drop S.length
def kM(δ:α->Nat->α)(a:α)(S:List α)(x:Nat):cJ δ a x S=S++frN δ a S x:=by obtain⟨r,h⟩:=hH δ a x S;unfold frN;rw[h,Fv]
def kF(δ:α->Nat->α)(a:α)(S:List α)(x:Nat):List Int:=(Av x).map fun y=>(((cJ δ a x S).idxOf (δ a y):Nat):Int)
def gH(δ:α->Nat->α)(a:α)(S:List α)(x:Nat):(kF δ a S x).length=x:=by simp[kF]
def CO(δ:α->Nat->α)(a:α)(S:List α)(x:Nat):kF δ a S (x+1)=kF δ a S x++[(((cJ δ a (x+1) S).idxOf (δ a x):Nat):Int)]:=by unfold kF;rw[Fc,Ax];congr 1;refine Di fun y u=>?_;have u:=List.mem_range.1 u;obtain⟨r,h⟩:=KK (cJ δ a x S) (δ a x);have h2:cJ δ a (x+1) S=cJ δ a x S++r:=h;rw[h2,tW];exact(kK δ a _ x S).2 (.inr ⟨y,u,rfl⟩)
def O9{δ:α->Nat->α}{a:α}{S:List α}{x:Nat}(h:δ a x∈S):frN δ a S (x+1)=frN δ a S x/\(cJ δ a (x+1) S).idxOf (δ a x)=S.idxOf (δ a x):=by
  have e:cJ δ a (x+1) S=cJ δ a x S:=by show cR _ _=_;unfold cR;rw[if_pos (by rw[kM];exact List.mem_append_left _ h)]
  refine⟨by unfold frN;rw[e],?_⟩;rw[e,kM,tW h]
def PB{δ:α->Nat->α}{a:α}{S:List α}{x:Nat}(h:δ a x∉S)(h2:δ a x∈frN δ a S x):frN δ a S (x+1)=frN δ a S x/\(cJ δ a (x+1) S).idxOf (δ a x)=S.length+(frN δ a S x).idxOf (δ a x):=by
  have e:cJ δ a (x+1) S=cJ δ a x S:=by show cR _ _=_;unfold cR;rw[if_pos (by rw[kM];exact List.mem_append_right _ h2)]
  refine⟨by unfold frN;rw[e],?_⟩;rw[e,kM,Et,if_neg h,Cy]
def PA{δ:α->Nat->α}{a:α}{S:List α}{x:Nat}(h:δ a x∉S)(h2:δ a x∉frN δ a S x):frN δ a S (x+1)=frN δ a S x++[δ a x]/\(cJ δ a (x+1) S).idxOf (δ a x)=S.length+(frN δ a S x).length:=by
  have e:cJ δ a (x+1) S=S++(frN δ a S x++[δ a x]):=by show cR _ _=_;unfold cR;rw[if_neg (by rw[kM,Bz];rintro(q | q);exact h q;exact h2 q),kM,Ab]
  refine⟨by have:=e;unfold frN at this ⊢;rw[this,Fv],?_⟩;rw[e,Et,if_neg h,Et,if_neg h2];simp only[List.idxOf_cons_self];omega
def qI(δ:α->Nat->α)(a:α)(S:List α):∀x,(frN δ a S x).length<=x
  | 0=>by simp[frN,cJ]
  | x+1=>by
    have u:=qI δ a S x;by_cases h:δ a x∈S
    · rw[(O9 h).1];omega
    · by_cases h2:δ a x∈frN δ a S x
      · rw[(PB h h2).1];omega
      · rw[(PA h h2).1];simp;omega
def UE(δ:α->Nat->α)(a:α){S:List α}(u:S.Nodup)(x:Nat):∀t∈frN δ a S x,t∉S:=fun t ht hs=>by have:=mN (δ:=δ) (a:=a) x u;rw[kM,Gu]at this;exact this.2.2 t hs t ht rfl
end
def IP{S:List (BitVec 64)}{t:BitVec 64}(k:Nat)(h:t∉S):fZ 2 (.str (jK t)) (.str (jK t)) (p64 ((k+S.length:Nat):Int)) (smE (jC jK k S))=smE (jC jK k (S++[t])):=by have hl:=o9 (κ:=jK) (Dm:=fun _=>True) (fun a b _ _ h=>JA h) (b:=t) trivial S k fun _ _=>trivial;rw[if_neg h]at hl;rw[ER _ _ _ hl,tO]
def tN(S:List (BitVec 64))(t:BitVec 64)(k:Nat):rJ (jK t) (jC jK k S)=if t∈S then Iz (p64 ((k+S.idxOf t:Nat):Int))else Ja:=
  o9 (κ:=jK) (Dm:=fun _=>True) (fun a b _ _ h=>JA h) trivial S k fun _ _=>trivial
def AG(a:BitVec 64):(bM a).length<=64:=by unfold bM;exact Ah (Ff _ _) (by simp)
def K5(id g:Nat)(cs a b:List PV):∀l:List PV,jm id g cs (l++a) (l++b)=jm id g cs a b
  | []=>rfl
  | x::l=>by rw[Ak,Ak,bJ,K5 id g cs a b l]
abbrev csD(f o:Bool)(S:List (BitVec 64)):List PV:=S.map fun a=>slW f o (fN a)
abbrev clD(f o:Bool)(S:List (BitVec 64)):List PV:=(a8 S).map (slI f o .i64)
def qD(a b c d e f g h i j:Nat):Nat->Nat
  | 0=>a | 1=>b | 2=>c | 3=>d | 4=>e | 5=>f | 6=>g | 7=>h | 8=>i | _=>j
def eJ(b:Nat)(y B E G I J f o:Bool)(N:NF)(q:Nat->Nat)(S:List (BitVec 64))(rows:List (List Int))(u:List Bool):Mem:=
  [.gone,.cells (q 0) (q 1) (csD f o S),.cells (q 2) (q 3) (clD f o S),.map (q 4) (smE (jC jK 0 S)),
   .cells 0 (q 5) [p64 N.vs,p64 N.n,slI y B .i64 N.st,slI E G .i64 N.fi,slE I J N.es,.ref (b + 1) (q 0) 1 0 S.length,.ref (b + 2) (q 2) 1 0 S.length,.map (b + 3),.ref (b + 5) (q 6) 1 0 rows.length,.ref (b + 6) (q 8) 1 0 u.length],
   .cells (q 6) (q 7) (rows.map (slI f o .i64)),.cells (q 8) (q 9) (u.map PV.bool)]
def GS(m:Nat)(f o:Bool)(S:List (BitVec 64)):aD m (csD f o S)=Jb:=dR m _ (fun a=>fC m _ _ 1 _ .u64 (wI (fN a))) S
def oO{A:Mem}(hA:A.all (aG A.length)=Jb)(E G I J K L f o:Bool)(N:NF)(q:Nat->Nat)(S:List (BitVec 64))(rows:List (List Int))(y:List Bool):
    (A++eJ A.length E G I J K L f o N q S rows y).all (aG (A.length+7))=Jb:=by
  have h1:=bC (n:=A.length+7) (by omega) hA;have h2:∀m,aG m (.map (q 4) (smE (jC jK 0 S)))=Jb:=fun m=>by
    refine aBI (fun p u=>?_) (q 4);have B:∀(S:List (BitVec 64)) (k:Nat),∀p∈jC jK k S,p.2.under m=Jb:=by
      intro S
      induction S with
      | nil=>intro k p u;cases u
      | cons a S M=>
        intro k p u;rcases List.mem_cons.1 u with rfl | u
        · simp[PV.under]
        · exact M _ p u
    exact B S 0 p u
  rw[Bl,h1];have h3:aD (A.length+7) (rows.map (slI f o .i64))=Jb:=dR _ _ (fun x=>fC _ _ _ 1 _ .i64 x) rows;have O:aD (A.length+7) (clD f o S)=Jb:=dR _ _ (fun x=>fC _ _ _ 1 _ .i64 x) _;have Q:aD (A.length+7) (y.map PV.bool)=Jb:=dR _ _ (fun x=>by simp[PV.under]) y;have R:=GS (A.length+7) f o S;simp only[eJ,List.all_cons,List.all_nil,h2,Bool.true_and,Bool.and_true];simp only[aG,h3,O,Q,R];simp[aD,PV.under,bS,aL]
def mC{A l:Mem}{u y B E G I f o:Bool}{N:NF}{q:Nat->Nat}{S:List (BitVec 64)}{rows:List (List Int)}{J:List Bool} :
    (A++(eJ A.length u y B E G I f o N q S rows J++l)).take (A.length+7)=A++eJ A.length u y B E G I f o N q S rows J:=by
  rw[<-Ab];exact Au (by simp[eJ])
section
variable {tab:FuncId->Option AF} (T:HasA tab){M:Mem}{K:PV->Mem->Prop}
include T
def Q2{A l:Mem}{K:PV->Mem->Prop}{u y B E G I f o:Bool}{N:NF}{q:Nat->Nat}{S:List (BitVec 64)}{rows:List (List Int)}{J:List Bool}(L:K (.bool (decide (rows.length<S.length))) (A++(eJ A.length u y B E G I f o N q S rows J++l))):
    ai tab 252 [.ptr (A.length+4) 0 0] (A++(eJ A.length u y B E G I f o N q S rows J++l)) K:=by
  refine aN T.h252 ?_;unfold eJ at L ⊢;simp only[af252,PP,simprocAttr,gk,gk0,sk,sk0];have e:decide ((rows.length:Int)<S.length)=decide (rows.length<S.length):=by simp only[Int.ofNat_lt]
  rw[e];exact L
def aGl{id v:Nat}{f o:Bool}{l:List Int}{x:Int}(u:M[id]? =Iz (.cells 0 v [slI f o .i64 l]))(hl:l.length<big)(y:K (.bool (decide (x∈l))) M):
    ai tab 256 [p64 x,.ptr id 0 0] M K:=by
  refine aN T.h256 ?_;simp only[af256,PP,simprocAttr,u];refine aCU T hl ?_;simp only[PP,simprocAttr];exact y
def aEP{id v:Nat}{f o I J:Bool}{l u:List Int}(Q:M[id]? =Iz (.cells 0 v [slI f o .i64 l]))(hl:l.length<big)(R:u.length<big)(L:∀r:Int,(0<=r↔∃x∈u,x∈l)->K (p64 r) M):
    ai tab 258 [slI I J .i64 u,.func (.func 256) [] [.ptr id 0 0]] M K:=by
  have hb:u.length<1000000000000:=R;refine aN T.h258 ?_;simp only[af258,PP,simprocAttr];refine cM (fun(k:Nat)=>k<=u.length/\∀x∈u.take k,x∉l) (fun k=>(slI I J .i64 u:: .func (.func 256) [] [.ptr id 0 0]::zj 5++p64 u.length::p64 k::zj 10)) (fun _=>M) (fun k=>u.length-k) 0 (by simp) ?_;intro k ⟨S,B⟩ U;refine aH (by kernel_rfl) ?_;simp only[PP,simprocAttr];refine QIf.intro (fun c=>?_) fun c=>?_;rotate_left
  · have E:k=u.length:=by omega
    subst E;rw[Ba (Ac _)]at B;simp only[PP,simprocAttr,c];exact L _ ⟨fun h=>absurd h (by omega),fun⟨x,h1,h2⟩=>absurd h2 (B x h1)⟩
  have hlt:k<u.length:=by omega
  have hw:=aC (k:=k) (by show _<1000000000000;omega);have O:(0:Int)<=k:=by omega
  obtain⟨x,G⟩:=aM hlt;simp only[PP,simprocAttr,c,O,G];refine aGl T Q hl ?_;by_cases d:x∈l
  · simp only[PP,simprocAttr,d];exact L _ ⟨fun _=>⟨x,Ae G,d⟩,fun _=>O⟩
  · simp only[PP,simprocAttr,d,hw];refine aE (U (k+1) ⟨by omega,?_⟩ (by omega));rw[Ce,G];simp only[Ft,Bz,Bk];rintro y (h | rfl)
    · exact B y h
    · exact d
def aCT{id v:Nat}{f o y B:Bool}{l u:List Int}{b:Bool}(E:M[id]? =Iz (.cells 0 v [slI f o .i64 l]))(hl:l.length<big)(G:u.length<big)(hb:b=Jb↔∃x∈u,x∈l)(I:K (.bool b) M):
    ai tab 255 [slI y B .i64 u,.func (.func 256) [] [.ptr id 0 0]] M K:=by
  refine aN T.h255 ?_;simp only[af255,PP,simprocAttr];refine aEP T E hl G fun r hr=>?_;simp only[PP,simprocAttr];have:decide (0<=r)=b:=by rw[Fg,decide_eq_true_eq,hr,hb]
  rw[this];exact I
def aCG{A:Mem}{K:PV->Mem->Prop}{f1 o1 f2 o2 f3 o3 f o:Bool}{N:NF}{q:Nat->Nat}{S:List (BitVec 64)}{rows:List (List Int)}{E:List Bool}(hc:dA N=0)(B:BnN N)(hA:A.all (aG A.length)=Jb)
    (hn:S.Nodup) (hl:S.length<=4096) (e4:E.length=rows.length)
    (c6:S.length<=rows.length->K (.tuple [.bool Jc,p64 0]) (A++eJ A.length f1 o1 f2 o2 f3 o3 f o N q S rows E))
    (c7:∀a,S[rows.length]? =Iz a->4096<(cJ (aJ N) a (aO N) S).length->K (.tuple [.bool Jc,p64 10]) (A++eJ A.length f1 o1 f2 o2 f3 o3 f o N q S rows E))
    (c8:∀a,S[rows.length]? =Iz a->(cJ (aJ N) a (aO N) S).length<=4096->∀q',K (.tuple [.bool Jb,p64 0]) (A++eJ A.length f1 o1 f2 o2 f3 o3 Jb Jc N q' (cJ (aJ N) a (aO N) S) (rows++[iI (aJ N) (aO N) (cJ (aJ N) a (aO N) S) a]) (E++[BQ N a]))):
    ai tab 253 [.ptr (A.length+4) 0 0] (A++eJ A.length f1 o1 f2 o2 f3 o3 f o N q S rows E) K:=by
  have C:=kJ hc;have a5:bL .shl (.int .i64 1) (.int .i64 N.vs)=Iz (.int .i64 ((aO N:Nat):Int)):=by rw[wL (by have:=C.v0;omega) (by have:=C.v6;omega)];simp
  refine cN (cA T.h253 ?_);simp only[af253];refine aB ?_;simp only[PP,simprocAttr,PT];refine Q2 T (l:=[]) ?_;simp only[PP,simprocAttr];by_cases c:rows.length<S.length;rotate_left
  · simp only[PP,simprocAttr,c];exact Gh.same ⟨_,rfl,c6 (by omega)⟩
  obtain⟨a,ga⟩:=aM c;have k0:(0:Int)<=rows.length:=by omega
  have k1:(rows.length:Int)<S.length:=by omega
  simp only[eJ,PP,simprocAttr,PT,gk,gk0,sk,sk0,c,k0,k1,ga,a5,Ab];refine aE (b:=(.ptr (A.length+4) 0 0::zj 3++slW f o (fN a):: .aa:: .aa:: .map (A.length+7)::zj 29++p64 (aO N:Nat)::p64 (0:Nat)::zj 130)) ?_;refine aU (GStep.nil (b:=(.ptr (A.length+4) 0 0::zj 3++slW f o (fN a):: .ref (A.length+8) 0 1 0 0:: .aa:: .map (A.length+7)::zj 29++p64 (aO N:Nat)::p64 (0:Nat)::zj 130)) 5 1 rfl (by simp only[PP,simprocAttr]) rfl) ?_;refine aU (GStep.nil (b:=(.ptr (A.length+4) 0 0::zj 3++slW f o (fN a):: .ref (A.length+8) 0 1 0 0:: .ref (A.length+9) 0 1 0 0:: .map (A.length+7)::zj 29++p64 (aO N:Nat)::p64 (0:Nat)::zj 130)) 6 1 rfl (by simp only[PP,simprocAttr]) rfl) ?_;refine vC (fun(x L O vm:Nat)=>x<=aO N) (fun x L O vm=>(.ptr (A.length+4) 0 0::zj 3++slW f o (fN a):: .ref (A.length+8) L 1 0 x:: .ref (A.length+9) O 1 0 (frN (aJ N) a S x).length:: .map (A.length+7)::zj 29++p64 (aO N:Nat)::p64 (x:Nat)::zj 130))
    (fun x L O vm=>A++(eJ A.length f1 o1 f2 o2 f3 o3 f o N q S rows E++[.map vm (smE (jC jK S.length (frN (aJ N) a S x))),.cells L 0 ((kF (aJ N) a S x).map p64),.cells O 0 (csD Jc Jb (frN (aJ N) a S x))])) (fun x L O vm=>aO N-x) 0 0 0 0 (by omega) ?_ (by simp only[frN,cJ,Gg,PW]) ?_
  rotate_left
  · simp only[eJ,frN,cJ,Gg,kF,Gv,jC,smE,Ab,PP,simprocAttr]
  intro x L O vm hx ih;refine aH (by kernel_rfl) ?_;have e7:=C.nu;have f4:=qI (aJ N) a S x;simp only[eJ,PP,simprocAttr,PT,gk,gk0,sk,sk0,Ab];refine QIf.intro (fun d=>?_) fun d=>?_
  · have c9:x<aO N:=by omega
    have d0:IntKind.u8.wrap (x:Int)=(x:Int):=by
      have:x<256:=by omega
      unfold IntKind.wrap;simp[IntKind.bits,IntKind.signed];omega
    have a1:=aC (k:=x) (by show _<1000000000000;omega);have a2:IntKind.i64.wrap ((S.length:Int)+(frN (aJ N) a S x).length)=((S.length+(frN (aJ N) a S x).length:Nat):Int):=by rw[wrap64]<;>omega
    have b1:(x+1)*8<=140737488355328:=by omega
    have b2:x+1<=9223372036854775807:=by omega
    have b3:x<=(kF (aJ N) a S x).length:=by rw[gH];exact Ac _
    have b4:((frN (aJ N) a S x).length+1)*24<=140737488355328:=by omega
    have b5:(frN (aJ N) a S x).length+1<=9223372036854775807:=by omega
    have G:=tN S (aJ N a x) 0;have I:=tN (frN (aJ N) a S x) (aJ N a x) S.length;have y:=CO (aJ N) a S x;simp only[eJ,PP,simprocAttr,PT,gk,gk0,sk,sk0,Ab,d,d0];refine T1 T hc B c9 ?_;simp only[eJ,PP,simprocAttr,PT,gk,gk0,sk,sk0,Ab];refine NS T ?_;simp only[eJ,PP,simprocAttr,PT,gk,gk0,sk,sk0,Ab];by_cases m1:aJ N a x∈S
    · rw[if_pos m1]at G;obtain⟨v1,v2⟩:=O9 m1;rw[v2]at y;simp only[eJ,PP,simprocAttr,PT,gk,gk0,sk,sk0,Ab,G,a1,b1,b2,b3];have:=ih (x+1) (L+1) O vm (by omega) (by omega);rw[v1,y]at this;refine aR this (by simp only[PW]) ?_;simp only[eJ,Ab,PP,simprocAttr];rw[aK _ _ (by simp[gH])]
    · rw[if_neg m1]at G;by_cases m2:aJ N a x∈frN (aJ N) a S x
      · rw[if_pos m2]at I;obtain⟨v1,v2⟩:=PB m1 m2;rw[v2]at y;simp only[eJ,PP,simprocAttr,PT,gk,gk0,sk,sk0,Ab,G,I,a1,b1,b2,b3];have:=ih (x+1) (L+1) O vm (by omega) (by omega);rw[v1,y]at this;refine aR this (by simp only[PW]) ?_;simp only[eJ,Ab,PP,simprocAttr];rw[aK _ _ (by simp[gH])]
      · rw[if_neg m2]at I;obtain⟨v1,v2⟩:=PA m1 m2;rw[v2]at y;have J:=IP S.length m2;simp only[eJ,PP,simprocAttr,PT,gk,gk0,sk,sk0,Ab,G,I,a1,a2,J,b1,b2,b3,b4,b5];have:=ih (x+1) (L+1) (O+1) (vm+1) (by omega) (by omega);rw[v1,y]at this;have e1:(frN (aJ N) a S x++[aJ N a x]).length=(frN (aJ N) a S x).length+1:=by simp
        rw[e1]at this;refine aR this (by simp only[PW]) ?_;simp only[eJ,Ab,PP,simprocAttr];rw[aK _ _ (by simp[gH])]
  obtain rfl:x=aO N:=by omega
  have a2:IntKind.i64.wrap ((S.length:Int)+(frN (aJ N) a S (aO N)).length)=((S.length+(frN (aJ N) a S (aO N)).length:Nat):Int):=by rw[wrap64]<;>omega
  have g0:(cJ (aJ N) a (aO N) S).length=S.length+(frN (aJ N) a S (aO N)).length:=by rw[kM,Aj]
  simp only[eJ,PP,simprocAttr,PT,gk,gk0,sk,sk0,Ab,d,a2];refine QIf.intro (fun e=>?_) fun e=>?_
  · simp only[PP,simprocAttr,e];refine Gh.step (GStep.fx (b:=[.tuple [.bool Jc,p64 10]]) (N:=A++eJ A.length f1 o1 f2 o2 f3 o3 f o N q S rows E) (A.length+7) (by simp) (by simp) (by simp only[PW]) ?_ ?_ ?_) (Gh.same ⟨_,rfl,c7 a ga (by omega)⟩)
    · simp[aD,PV.under]
    · exact(congrArg (fun M:Mem=>M.all (aG (A.length+7))) (mC (l:=[_,_,_]))).trans (oO hA ..)
    · exact mC (l:=[_,_,_])
  have d4:=UE (aJ N) a hn (aO N);have d5:(frN (aJ N) a S (aO N)).Nodup:=by have:=mN (δ:=aJ N) (a:=a) (aO N) hn;rw[kM,Gu]at this;exact this.2.1
  have d6:∀S:List (BitVec 64),(a8 S).length=S.length:=fun S=>by simp[a8]
  simp only[PP,simprocAttr,gk,gk0,e];have a6:=kM (aJ N) a S (aO N);generalize g1:frN (aJ N) a S (aO N)=u at*;refine aE (b:=(.ptr (A.length+4) 0 0::zj 3++slW f o (fN a):: .ref (A.length+8) L 1 0 (aO N)::zj 96++ .ref (A.length+9) O 1 0 u.length::p64 u.length::p64 (0:Nat)::zj 64)) ?_;refine aU (GStep.wkO (A.length+1) (cs2:=csD Jb Jc S) (by rw[gk];rfl) (fun w R h=>h.wkM fun x=>bc.sl0 _ _ _ _ _) rfl) ?_;refine aU (GStep.wkO (A.length+2) (cs2:=clD Jb Jc S) (by rw[sk,gk];rfl) (fun w R h=>h.wkM fun x=>bc.sl0 _ _ _ _ _) rfl) ?_;refine aU (GStep.wkO (A.length+5) (cs2:=rows.map (slI Jb Jc .i64)) (by rw[sk,sk,gk];rfl) (fun w R h=>h.wkM fun x=>bc.sl0 _ _ _ _ _) rfl) ?_;refine aF3 (fun(i U vs V vl Y Z:Nat)=>i<=u.length) (fun i U vs V vl Y Z=>(.ptr (A.length+4) 0 0::zj 3++slW f o (fN a):: .ref (A.length+8) L 1 0 (aO N)::zj 96++ .ref (A.length+9) O 1 0 u.length::p64 u.length::p64 (i:Nat)::zj 64))
    (fun i U vs V vl Y Z=>A++[.gone,.cells U vs (csD Jb Jc S++csD Jc Jb (u.take i)),.cells V vl (clD Jb Jc S++clD Jc Jb (u.take i)),.map Y (smE (jC jK 0 (S++u.take i))),.cells 0 Z [p64 N.vs,p64 N.n,slI f1 o1 .i64 N.st,slI f2 o2 .i64 N.fi,slE f3 o3 N.es,.ref (A.length+1) U 1 0 (S.length+i),.ref (A.length+2) V 1 0 (S.length+i),.map (A.length+3),.ref (A.length+5) (q 6) 1 0 rows.length,.ref (A.length+6) (q 8) 1 0 E.length],.cells (q 6) (q 7) (rows.map (slI Jb Jc .i64)),.cells (q 8) (q 9) (E.map PV.bool),.map vm (smE (jC jK S.length u)),.cells L 0 ((kF (aJ N) a S (aO N)).map p64),.cells O 0 (csD Jc Jb u)]) (fun i U vs V vl Y Z=>u.length-i) 0 (q 0) (q 1) (q 2) (q 3) (q 4) (q 5) (by omega) ?_ (by simp only[PW]) ?_
  rotate_left
  · have e0:clD Jc Jb []=[]:=rfl;simp only[sk,Ij,Bd,e0,Bm,Dk,PP,simprocAttr]
  intro i U vs V vl Y Z hi ih;refine aH (by kernel_rfl) ?_;simp only[PP,simprocAttr,PT,gk,gk0,sk,sk0];refine QIf.intro (fun c2=>?_) fun c2=>?_
  · have d7:i<u.length:=by omega
    obtain⟨t,gt⟩:=aM d7;have i0:(0:Int)<=i:=by omega
    have d8:=aC (k:=i) (by show _<1000000000000;omega);have a3:u.take (i+1)=u.take i++[t]:=bV gt;have b7:t∉S++u.take i:=by
      rw[Bz];rintro(h | h)
      · exact d4 t (Ae gt) h
      · have h2:=d5;rw[<-Cm i u,Gu]at h2;refine h2.2.2 t h t ?_ rfl;exact Ae (i:=0) (by rw[Bf];exact gt)
    have J:=IP 0 b7;have b8:=tN (S++u.take i) t 0;rw[if_neg b7]at b8;have d9:(S++u.take i).length=S.length+i:=by rw[Aj,Ay,Da (by omega)]
    rw[d9,Aw,Ab,<-a3]at J;have c0:(u.take i).length=i:=by rw[Ay,Da (by omega)]
    have a0:(A.length+1==A.length+4)=Jc:=by simp
    have a7:(A.length+2==A.length+4)=Jc:=by simp
    have c1:(S.length+i+1)*24<=140737488355328:=by omega
    have c3:S.length+i<=9223372036854775806:=by omega
    have e2:(csD Jb Jc S++csD Jc Jb (u.take i)).length=S.length+i:=by simp;omega
    have a9:(clD Jb Jc S++clD Jc Jb (u.take i)).length=S.length+i:=by simp[a8];omega
    simp only[PP,simprocAttr,PT,gk,gk0,sk,sk0,c2,i0,gt];refine NS T ?_;have c4:S.length+i<=S.length+i:=Ac _;simp only[PP,simprocAttr,PT,gk,gk0,sk,sk0,b8,J,c0,c4,c1,c3,a0];refine RE T ?_;simp only[PP,simprocAttr,PT,gk,gk0,sk,sk0,d6,c0,c4,c1,c3,a0,a7,d8];have:=ih (i+1) (U+1) 0 (V+1) 0 (Y+1) (Z+1+1) (by omega) (by omega);refine aR this (by simp only[PW]) ?_;have e5:csD Jc Jb (u.take (i+1))=csD Jc Jb (u.take i)++[slW Jc Jb (fN t)]:=by rw[a3];simp
    have e6:clD Jc Jb (u.take (i+1))=clD Jc Jb (u.take i)++[slI Jc Jb .i64 (bE (bM t))]:=by rw[a3];simp only[clD,a8,Ax,Ai,Bd]
    rw[aK _ _ e2.symm,aK _ _ a9.symm,e5,e6];simp only[Ab,Cf,Al,slW,slI]
  obtain rfl:i=u.length:=by omega
  rw[Df];simp only[PP,simprocAttr,PT,gk,gk0,sk,sk0,c2];refine RE T ?_;have n1:(rows.length+1)*24<=140737488355328:=by omega
  have n2:rows.length<=9223372036854775806:=by omega
  have n3:E.length+1<=140737488355328:=by omega
  have n4:E.length<=9223372036854775806:=by omega
  have n5:rows.length+1<=9223372036854775807:=by omega
  have n6:E.length+1<=9223372036854775807:=by omega
  simp only[PP,simprocAttr,PT,gk,gk0,sk,sk0,Ab,n1,n2,n5,n3,n4,n6];refine aCT T (v:=1) (f:=false) (o:=true) (l:=bE (bM a)) (b:=BQ N a) (by rw[gk];simp only[slI,Al,Bv,List.getElem?_cons_zero]) (by have:=AG a;simp;show _<1000000000000;omega) B.f ?_ ?_
  · unfold BQ;rw[Fm];constructor
    · rintro⟨x,h1,h2⟩;have:=jA C.fi x h1;exact⟨x,h1,List.mem_map.2 ⟨x.toNat,ff.2 h2,by omega⟩⟩
    · rintro⟨x,h1,h2⟩;obtain⟨k,h3,rfl⟩:=List.mem_map.1 h2;exact⟨_,h1,by rw[Ca];exact ff.1 h3⟩
  simp only[PP,simprocAttr,PT,gk,gk0,sk,sk0,Ab,n1,n2,n5,n3,n4,n6];have y:kF (aJ N) a S (aO N)=iI (aJ N) (aO N) (cJ (aJ N) a (aO N) S) a:=rfl;have a4:=gH (aJ N) a S (aO N);have c5:=c8 a ga (by omega) (qD U vs V vl Y (Z+1+1) (q 6+1) 0 (q 8+1) 0);rw[<-y,a6]at c5;refine Gh.step (GStep.ft (b:=[.tuple [.bool Jb,.int .i64 0]]) (cj2:=rows.map (slI Jb Jc .i64)++[slI Jc Jb .i64 (kF (aJ N) a S (aO N))]) (A.length+8) (A.length+5) (by omega) (by rw[gk];rfl) (by rw[gk];rfl) (by omega) ?_ ?_ rfl) ?_
  · simp only[gE,gF,Ak,An,bJ,cI]
  · rw[K5,fW (by simp[a4]) (by rw[aK _ _ (by simp[a4])];simp only[slI,a4]),cI];trivial
  simp only[gk,sk,Dq,Ct];refine Gh.step (GStep.wkO (A.length+1) (cs2:=csD Jb Jc (S++u)) (by rw[gk];rfl) (fun w R h=>h.wkA (fun x=>bc.refl _) fun x=>bc.sl0 _ _ _ _ _) rfl) ?_;simp only[gk,sk,Dq,Ct];refine Gh.step (GStep.wkO (A.length+2) (cs2:=clD Jb Jc (S++u)) (by rw[gk];rfl) (fun w R h=>by
    have e:clD Jb Jc (S++u)=(a8 S++a8 u).map (slI Jb Jc .i64):=by simp only[clD,a8,Ax]
    rw[e];exact h.wkA (fun x=>bc.refl _) fun x=>bc.sl0 _ _ _ _ _) rfl) ?_
  simp only[gk,sk,Dq,Ct];refine Gh.step (GStep.wkO (A.length+5) (cs2:=(rows++[kF (aJ N) a S (aO N)]).map (slI Jb Jc .i64)) (by rw[gk];rfl) (fun w R h=>ak.wkA (ys:=[kF (aJ N) a S (aO N)]) (f2:=slI Jc Jb .i64) (fun x=>bc.refl _) (fun x=>bc.sl0 _ _ _ _ _) h) rfl) ?_;simp only[gk,sk,Dq,Ct];have e3:S.length+u.length=(S++u).length:=by simp
  have b0:rows.length+1=(rows++[kF (aJ N) a S (aO N)]).length:=by simp
  have b6:E.length+1=(E++[BQ N a]).length:=by simp
  rw[e3,b0,b6];have ef:E.map PV.bool++[.bool (BQ N a)]=(E++[BQ N a]).map PV.bool:=by simp
  rw[ef];refine Gh.step (GStep.fx (b:=[.tuple [.bool Jb,p64 0]]) (N:=A++eJ A.length f1 o1 f2 o2 f3 o3 Jb Jc N (qD U vs V vl Y (Z+1+1) (q 6+1) 0 (q 8+1) 0) (S++u) (rows++[kF (aJ N) a S (aO N)]) (E++[BQ N a])) (A.length+7) (Ac _) (by simp) (by simp only[PW]) (by simp[aD,PV.under]) ?_ ?_) (Gh.same ⟨_,rfl,c5⟩)
  · exact(congrArg (fun M:Mem=>M.all (aG (A.length+7))) (mC (q:=qD U vs V vl Y (Z+1+1) (q 6+1) 0 (q 8+1) 0) (l:=[_,_,_,_]))).trans (oO hA ..)
  · exact mC (q:=qD U vs V vl Y (Z+1+1) (q 6+1) 0 (q 8+1) 0) (l:=[_,_,_,_])
def Y9{u B:Int}{x:Nat}(I:0<=u/\u<=255)(J:0<=B/\B<=255)(L:x<256)(E:K (.bool (vZ u B x)) M):
    ai tab 161 [p8 x,p8 u,p8 B] M K:=by
  refine aF T.h161 (by simp only[PP,simprocAttr]) ?_;have h1:=iQ (x:=x) (y:=u) (by omega) I;have h2:=iQ (x:=x) (y:=B) (by omega) J;simp only[af161,PP,simprocAttr,h1,h2];refine QIf.intro (fun G=>?_) fun G=>?_
  · simp only[PP,simprocAttr,G,h2,vZ]at E ⊢;exact E
  · simp only[PP,simprocAttr,G,vZ]at E ⊢;exact E
end
def oS(N:NF)(a:BitVec 64)(x q:Nat):List Nat:=(Av q).filter fun k=>(aJ N a x).getLsbD k
def edC(a:BitVec 64)(x q:Nat)(e:Eg):Bool:=decide (e.to=(q:Int))&&a.getLsbD e.fr.toNat&&vZ e.ps e.ng x
def UX(N:NF)(a:BitVec 64)(x q:Nat):oS N a x (q+1)=if(aJ N a x).getLsbD q=Jb then oS N a x q++[q]else oS N a x q:=by
  unfold oS;rw[Fc,Fx,List.filter_cons,Ii];by_cases h:(aJ N a x).getLsbD q=Jb
  · rw[if_pos h,if_pos h]
  · rw[if_neg h,if_neg h,Bm]
def aAw{N:NF}(C:NOk N)(a:BitVec 64)(x q:Nat):N.es.any (edC a x q)=(aJ N a x).getLsbD q:=by
  rw[Fg,nH C,Fm];unfold edC lW;simp only[Aq,decide_eq_true_eq,Dy];constructor
  · rintro⟨e,h1,⟨h2,h3⟩,u⟩;exact⟨e,⟨h1,u⟩,h3,h2⟩
  · rintro⟨e,⟨h1,u⟩,h3,h2⟩;exact⟨e,h1,⟨h2,h3⟩,u⟩
def aAv(N:NF)(a:BitVec 64)(x q:Nat):(oS N a x q).length<=q:=by unfold oS;exact Ah (Ff _ _) (by simp)
def aC7{N:NF}{a:BitVec 64}{x q k:Nat}(h:k∈oS N a x q):k<q:=by unfold oS at h;exact List.mem_range.1 (List.mem_filter.1 h).1
def aAx{N:NF}(C:NOk N)(a:BitVec 64)(x:Nat):oS N a x N.n.toNat=bM (aJ N a x):=by
  unfold oS bM;have u:=C.n64;have e:Av 64=Av N.n.toNat++(Av (64-N.n.toNat)).map (fun j=>N.n.toNat+j):=by
    refine List.ext_getElem? fun i=>?_;by_cases c:i<64
    · rw[Dv c];by_cases y:i<N.n.toNat
      · rw[Bh (by simp;omega),Dv y]
      · rw[Bo (by simp;omega),Ap,List.length_range,Dv (by omega)];simp only[Cr,Option.some.injEq];omega
    · rw[Bi (by simp;omega),Bi (by simp;omega)]
  rw[e,Fx];have z:((Av (64-N.n.toNat)).map fun j=>N.n.toNat+j).filter (fun k=>(aJ N a x).getLsbD k)=[]:=by rw[List.filter_eq_nil_iff];intro k B h;obtain⟨j,_,rfl⟩:=List.mem_map.1 B;obtain⟨e,h1,_,h3⟩:=(nH C a x _).1 h;have:=C.ed e (I1 h1);omega
  rw[z,Bm]
def IZ{a:BitVec 64}{x:Int}(h:0<=x):decide (x∈bE (bM a))=a.getLsbD x.toNat:=by
  rw[Fg,decide_eq_true_eq,<-ff];have e:x=((x.toNat:Nat):Int):=by omega
  rw[e,IX,Ca]
section
variable {tab:FuncId->Option AF} (T:HasA tab){M:Mem}{K:PV->Mem->Prop}
include T
def LW{U V Y Z f3 o3 E G:Bool}{N:NF}{a:BitVec 64}{x:Nat}(C:NOk N)(B:BnN N)(hx:x<256)(hk:K (slI Jc Jb .i64 (bE (bM (aJ N a x)))) M):
    ai tab 100 [.agg (nfC U V Y Z f3 o3 N),slI E G .i64 (bE (bM a)),p8 x] M K:=by
  have a6:=C.n64;have n0:=C.n0;have qb:=C.qb;have a7:(bM a).length<=64:=by unfold bM;exact Ah (Ff _ _) (by simp)
  refine bD T.ov (by simp only[PP,simprocAttr,aV]) ?_;simp only[af100];refine aA (aB ?_);simp only[PP,simprocAttr];refine aA (aB ?_);simp only[PP,simprocAttr];refine aU (GStep.nil 7 1 rfl rfl rfl) ?_;refine aB ?_;simp only[PP,simprocAttr];refine cL (fun(q g:Nat)=>(q:Int)<=N.n) (fun q g=>(.ae::slI E G .i64 (bE (bM a))::p8 x:: .ptr 0 0 0::zj 3++ .ref 1 g 1 0 (oS N a x q).length::p64 q::zj 49))
    (fun q g=>[.cells 0 0 (nfC U V Y Z f3 o3 N),.cells g 0 ((bE (oS N a x q)).map p64)]) (fun q g=>N.n.toNat-q) 0 0 (by omega) ?_ (by simp only[oS,Gv,Ii,Bb,PW])
  intro q g a9 ih;refine aH (by kernel_rfl) ?_;simp only[PP,simprocAttr];refine QIf.intro (fun c=>?_) fun c=>?_;rotate_left
  · obtain rfl:q=N.n.toNat:=by omega
    rw[aAx C];have hfz:pN (Iz (bp.cells g 0 ((bE (bM (aJ N a x))).map p64))) g 1 0 (bM (aJ N a x)).length=Iz (slI Jc Jb .i64 (bE (bM (aJ N a x)))):=by rw[cQ (by simp) (aL _ _ _),aK _ _ (by simp)];simp only[slI,Al]
    simp only[PP,simprocAttr,c,hfz];exact hk
  have b0:=aAv N a x q;have wq:=aC (k:=q) (by show _<1000000000000;omega);have a0:(aJ N a x).getLsbD q=N.es.any (edC a x q):=(aAw C a x q).symm;simp only[PP,simprocAttr,c];refine jE (fun(i g:Nat) (l:List Nat)=>i<=N.es.length/\l=oS N a x q++if(N.es.take i).any (edC a x q)=Jb then [q]else []) (fun i g l=>(.ae::slI E G .i64 (bE (bM a))::p8 x:: .ptr 0 0 0::zj 3++ .ref 1 g 1 0 l.length::p64 q::p64 i::zj 48))
    (fun i g l=>[.cells 0 0 (nfC U V Y Z f3 o3 N),.cells g 0 ((bE l).map p64)]) (fun i g l=>N.es.length-i) 0 g (oS N a x q) ⟨by omega,by simp⟩ ?_
  intro i g l ⟨b3,hl⟩ J;refine aH (by kernel_rfl) ?_;simp only[PP,simprocAttr];refine QIf.intro (fun d=>?_) fun d=>?_
  · have hi:i<N.es.length:=by omega
    obtain⟨e,S⟩:=aM hi;have i0:(0:Int)<=i:=by omega
    have O:=aC (k:=i) (by show _<1000000000000;omega);have h4:=oA S;have a1:i*4+4<=(egL N.es).length:=by rw[eW];exact QY S
    have Q:=Ae S;obtain⟨b1,b2⟩:=B.b e Q;obtain⟨e1,e2,e3,e4,_⟩:=C.ed e Q;have y:(N.es.take (i+1)).any (edC a x q)=((N.es.take i).any (edC a x q)||edC a x q e):=by rw[Ce,S,List.any_append];simp
    have a2:=IZ (a:=a) e1;have b4:l.length<=65:=by rw[hl,Aj];split<;>simp<;>omega
    have same:edC a x q e=Jc->l=oS N a x q++if(N.es.take (i+1)).any (edC a x q)=Jb then [q]else []:=fun h=>by rw[y,h,Bool.or_false];exact hl
    have go:=fun(h:edC a x q e=Jc)=>J (i+1) g l ⟨by omega,same h⟩ (by omega);simp only[PP,simprocAttr,d,i0,h4,a1];refine QIf.intro (fun R=>?_) fun R=>?_
    · have a3:decide (e.to=(q:Int))=Jb:=decide_eq_true R;simp only[PP,simprocAttr,R];refine zF T (by simp;show _<1000000000000;omega) ?_;rw[a2]
      cases c2:a.getLsbD e.fr.toNat with
      | false=>simp only[PP,simprocAttr,O];refine aU (GStep.drop (b:=(.ae::slI E G .i64 (bE (bM a))::p8 x:: .ptr 0 0 0::zj 3++ .ref 1 g 1 0 l.length::p64 q::p64 ((i+1:Nat):Int)::zj 48)) 2 (Af _) (by simp) (by simp only[PW]) (by simp only[PP,simprocAttr,PV.under]) (by simp only[PP,simprocAttr,bS,aV]) rfl) (go (by unfold edC;rw[c2];simp))
      | true=>
        simp only[PP,simprocAttr];refine Y9 T b1 b2 hx ?_
        cases c3:vZ e.ps e.ng x with
        | false=>simp only[PP,simprocAttr,O];refine aU (GStep.drop (b:=(.ae::slI E G .i64 (bE (bM a))::p8 x:: .ptr 0 0 0::zj 3++ .ref 1 g 1 0 l.length::p64 q::p64 ((i+1:Nat):Int)::zj 48)) 2 (Af _) (by simp) (by simp only[PW]) (by simp only[PP,simprocAttr,PV.under]) (by simp only[PP,simprocAttr,bS,aV]) rfl) (go (by unfold edC;rw[c3];simp))
        | true=>
          have a4:edC a x q e=Jb:=by unfold edC;rw[a3,c2,c3];rfl
          rw[a4,Bool.or_true]at y;simp only[PP,simprocAttr];refine iG (.ints rfl (Al _) (.same rfl .nil)) (zF T (by simp;show _<1000000000000;omega) ⟨rfl,?_⟩);have I:((q:Nat):Int)∈bE l↔q∈l:=IX;by_cases hm:q∈l
          · have L:=I.2 hm;have u:(N.es.take i).any (edC a x q)=Jb:=by refine Bq fun h=>?_;rw[if_neg h,Bm]at hl;rw[hl]at hm;exact absurd (aC7 hm) (by omega)
            have:=J (i+1) g l ⟨by omega,by rw[y,if_pos rfl,hl,if_pos u]⟩ (by omega);simp only[PP,simprocAttr,L,O];refine aU (GStep.drop (b:=(.ae::slI E G .i64 (bE (bM a))::p8 x:: .ptr 0 0 0::zj 3++ .ref 1 g 1 0 l.length::p64 q::p64 ((i+1:Nat):Int)::zj 48)) 2 (Af _) (by simp) (by simp only[PW]) (by simp only[PP,simprocAttr,PV.under]) (by simp only[PP,simprocAttr,bS,aV]) rfl) this
          · have L:¬((q:Nat):Int)∈bE l:=fun h=>hm (I.1 h);have u:¬(N.es.take i).any (edC a x q)=Jb:=fun h=>by rw[if_pos h]at hl;exact hm (by rw[hl];simp)
            have:=J (i+1) (g+1) (l++[q]) ⟨by omega,by rw[y,if_pos rfl,hl,if_neg u,Bm]⟩ (by omega);have k1:(l.length+1)*8<=140737488355328:=by omega
            have k2:l.length+1<=9223372036854775807:=by omega
            simp only[PP,simprocAttr,L,O,k1,k2];rw[aK _ _ (by simp)];refine aU (GStep.drop (b:=(.ae::slI E G .i64 (bE (bM a))::p8 x:: .ptr 0 0 0::zj 3++ .ref 1 (g+1) 1 0 (l++[q]).length::p64 q::p64 ((i+1:Nat):Int)::zj 48)) 2 (Af _) (by simp) (by simp only[Aj,Ao,Bb,Aw,PW]) (by simp only[PP,simprocAttr,PV.under]) (by simp only[PP,simprocAttr,bS,aV]) rfl) ?_;refine aR this (by simp only[PW]) ?_;rw[MZ,Ax];rfl
    · simp only[PP,simprocAttr,R,O];refine aU (GStep.drop (b:=(.ae::slI E G .i64 (bE (bM a))::p8 x:: .ptr 0 0 0::zj 3++ .ref 1 g 1 0 l.length::p64 q::p64 ((i+1:Nat):Int)::zj 48)) 2 (Af _) (by simp) (by simp only[PW]) (by simp only[PP,simprocAttr,PV.under]) (by simp only[PP,simprocAttr,bS,aV]) rfl) (go (by unfold edC;rw[decide_eq_false R];rfl))
  · obtain rfl:i=N.es.length:=by omega
    rw[Df,<-a0]at hl;have a5:l=oS N a x (q+1):=by rw[UX,hl];split<;>simp
    subst a5;simp only[PP,simprocAttr,d,wq];exact aE (ih (q+1) g (by omega) (by omega))
end
def wrap_u64{k:Nat}(h:k<4000000000000):IntKind.u64.wrap (k:Int)=(k:Int):=by simp only[IntKind.wrap,IntKind.signed,IntKind.bits];simp;omega
def zR:∀{l m:List Int},l.Pairwise (· < ·)->m.Pairwise (· < ·)->(∀x,x∈l↔x∈m)->l=m
  | [],[],_,_,_=>rfl
  | [],y::m,_,_,h=>by have:=(h y).2 (by simp);simp at this
  | x::l,[],_,_,h=>by have:=(h x).1 (by simp);simp at this
  | x::l,y::m,hl,hm,h=>by
    rw[List.pairwise_cons]at hl hm;have e:x=y:=by
      have h1:=(h x).1 (by simp);have h2:=(h y).2 (by simp);rcases List.mem_cons.1 h1 with h1 | h1
      · exact h1
      · rcases List.mem_cons.1 h2 with h2 | h2
        · exact h2.symm
        · have:=hl.1 y h2;have:=hm.1 x h1;omega
    subst e;congr 1;refine zR hl.2 hm.2 fun z=>?_;constructor
    · intro hz;rcases List.mem_cons.1 ((h z).1 (by simp[hz]))with e | e
      · have:=hl.1 z hz;omega
      · exact e
    · intro hz;rcases List.mem_cons.1 ((h z).2 (by simp[hz]))with e | e
      · have:=hm.1 z hz;omega
      · exact e
section
variable {α:Type} [DecidableEq α]
def tX{b:α} :∀{o:List α},b∈o->o[o.idxOf b]? =Iz b
  | [],h=>by simp at h
  | a::o,h=>by
    by_cases e:b=a
    · subst e;simp
    · rw[kL e];rw[Bv];exact tX ((List.mem_cons.1 h).resolve_left e)
def DH{b:α} :∀{o:List α} {k:Nat},o[k]? =Iz b->o.idxOf b<=k
  | [],k,h=>by simp at h
  | a::o,k,h=>by
    by_cases e:b=a
    · subst e;simp
    · rw[kL e]
      cases k with
      | zero=>simp at h;exact absurd h.symm e
      | succ k=>have:=DH (o:=o) (k:=k) (by simpa using h);omega
end
def GF{α:Type} [DecidableEq α](δ:α->Nat->α)(a:α)(o:List α):∀j,(cJ δ a j o).length<=o.length+j
  | 0=>Ac _
  | j+1=>by
    have u:=GF δ a o j;unfold cJ cR;split
    · omega
    · simp;omega
abbrev W0(u:List (List Int))(s:List Int):Nat:= @List.idxOf _ instBEqOfDecidableEq s u
def QX(u:List (List Int))(s:List Int):Int:=if s∈u then(W0 u s:Nat)else-1
def DU{a b:BitVec 64}(h:bE (bM a)=bE (bM b)):a=b:=by refine UU ?_;have:=congrArg (Ie Cq) h;simpa [List.map_map,Function.comp_def]using this
def zP(o:List (BitVec 64))(b:BitVec 64):QX (a8 o) (bE (bM b))=if b∈o then((o.idxOf b:Nat):Int)else-1:=by
  have u:=DG (φ:=fun a=>bE (bM a)) (Dm:=fun _:BitVec 64=>True) (fun a b _ _ h=>DU h) (b:=b) trivial (o:=o) fun _ _=>trivial;have hm:=IY (φ:=fun a=>bE (bM a)) (Dm:=fun _:BitVec 64=>True) (fun a b _ _ h=>DU h) (o:=o) (b:=b) (fun _ _=>trivial) trivial;unfold QX a8 W0;rw[u];by_cases h:b∈o
  · rw[if_pos h,if_pos (hm.2 h)]
  · rw[if_neg h,if_neg fun q=>h (hm.1 q)]
def xW{N:NF}(C:NOk N):bE (bM (cY N))=N.st:=by
  refine zR ?_ (iP C.st).1 fun x=>?_
  · rw[List.pairwise_map];exact((List.pairwise_lt_range (n:=64)).filter _).imp fun h=>by omega
  · constructor
    · intro h;obtain⟨k,h1,rfl⟩:=List.mem_map.1 h;exact(mU C k).1 (ff.1 h1)
    · intro h;have:=jA C.st x h;have e:x=((x.toNat:Nat):Int):=by omega
      rw[e]at h ⊢;exact List.mem_map.2 ⟨_,ff.2 ((mU C _).2 h),rfl⟩
def DT(a:BitVec 64):(bM a).length<=64:=by unfold bM;exact Ah (Ff _ _) (by simp)
def rO{α:Type} [DecidableEq α](δ:α->Nat->α)(n:Nat)(o:List α)(a:α):(iI δ n o a).length=n:=by simp[iI]
def S3{α:Type} [DecidableEq α](δ:α->Nat->α)(n:Nat)(o:List α)(a:α):n=((iI δ n o a).map p64).length:=by simp[iI]
section
variable {tab:FuncId->Option AF} (T:HasA tab){M:Mem}{K:PV->Mem->Prop}
include T
end
def iR(A:Mem)(y B E G I J f o:Bool)(N:NF)(q:Nat->Nat)(S:List (BitVec 64))(rows:List (List Int))(K:List Bool)(v:Nat)(u:Int):Mem:=
  A++(eJ A.length y B E G I J f o N q S rows K++[.cells 0 v [.iface 116 (.ptr (A.length+4) 0 0),p64 u]])
section
variable {tab:FuncId->Option AF} (T:HasA tab){M:Mem}{K:PV->Mem->Prop}
include T
def aEF{A:Mem}{K:PV->Mem->Prop}{y E G I J L:Bool}{N:NF}(O:dA N=0)(B:BnN N)(hA:A.all (aG A.length)=Jb)
    (Q:∀q,K (.ptr (A.length+4) 0 0) (A++eJ A.length Jc Jb Jc Jb Jc Jb Jc Jb N q [cY N] [] [])):ai tab 91 [.agg (nfC y E G I J L N)] A K:=by
  have C:=kJ O;refine cN (cA T.h91 ?_);simp only[af91];refine aA (aB ?_);simp only[PP,simprocAttr];refine aA (aB ?_);simp only[PP,simprocAttr,gk,gk0,sk,sk0,aV];refine mF T B.s ?_;simp only[PP,simprocAttr,gk,gk0,sk,sk0];refine mF T B.f ?_;simp only[PP,simprocAttr,gk,gk0,sk,sk0];refine UR T B.e ?_;simp only[PP,simprocAttr,gk,gk0,sk,sk0];refine aA (aB ?_);simp only[PP,simprocAttr,gk,gk0,sk,sk0];refine aFd T C B ?_;simp only[PP,simprocAttr,gk,gk0,sk,sk0];refine aA (OH [2,6] ?_);simp only[PP,simprocAttr,OI,F4,xB,O2,Option.some.injEq,exists_eq_left',gk,gk0,sk,sk0,Ab];refine mF T B.s ?_;simp only[PP,simprocAttr,OI,F4,xB,O2,Option.some.injEq,exists_eq_left',gk,gk0,sk,sk0,Ab,PT];refine NS T ?_;have R:cZ 2 (.str (jK (cY N))) []=Iz Ja:=rfl;have u:fZ 2 (.str (jK (cY N))) (.str (jK (cY N))) (.int .i64 0) []=smE (jC jK 0 [cY N]):=rfl;simp only[PP,simprocAttr,OI,F4,xB,O2,Option.some.injEq,exists_eq_left',gk,gk0,sk,sk0,Ab,PT,R,u];refine⟨by simp,aB ?_⟩;simp only[PP,simprocAttr];refine Gh.step (GStep.dy (A.length+4) 8 1 (by rw[gk];rfl) rfl rfl) ?_;simp only[gk,sk,Dq,Ct,Ab,Aj,Ao,Bb,Ak,An,Cl];refine Gh.step (GStep.dy (A.length+4) 9 1 (by rw[gk];rfl) rfl rfl) ?_;simp only[gk,sk,Dq,Ct,Ab,Aj,Ao,Bb,Ak,An,Cl];refine Gh.step (GStep.wkO (A.length+2) (cs2:=clD Jc Jb [cY N]) (by rw[gk];rfl) (fun w U h=>ak.wkM (xs:=a8 [cY N]) (f:=slI Jc Jb .i64) (fun x=>bc.refl _) (by
    have e:a8 [cY N]=[N.st]:=by rw[<-xW C];rfl
    rw[e];exact h)) rfl) ?_
  simp only[gk,sk,Dq,Ct];refine Gh.step (GStep.freeze (b:=[.ptr (A.length+4) 0 0]) A.length (Ac _) (by rw[gk0];rfl) (by simp only[gE,gF,Ak,An,bJ,cI]) rfl) (Gh.same ⟨_,rfl,?_⟩);simp only[sk0,Ct];exact Q (qD 0 0 0 0 1 0 0 0 0 0)
def G5{A:Mem}{K:PV->Mem->Prop}{u y E G I J:Bool}{N:NF}(B:BnN N)(hA:A.all (aG A.length)=Jb)
    (O:dA N≠0->K (.tuple [.al,p64 (dA N)]) A)
    (Q:dA N=0->∀X q v,aG (A.length+1) X=Jb->K (.tuple [.ptr (A.length+8) 0 0,p64 0]) (iR (A++[X]) Jc Jb Jc Jb Jc Jb Jc Jb N q [cY N] [] [] v 0)):
    ai tab 40 [.agg (nfC u y E G I J N)] A K:=by
  have R:(A++[bp.cells 0 0 (nfC u y E G I J N)]).all (aG (A++[bp.cells 0 0 (nfC u y E G I J N)]).length)=Jb:=by rw[Bl,bC (by simp) hA];simp[aG,aD,PV.under,bS,aL]
  refine cN (aN T.h40 ?_);simp only[af40,PP,simprocAttr,aV,gk0,sk0];refine CK T B ?_;by_cases L:dA N=0;rotate_left
  · simp only[PP,simprocAttr,L];refine Gh.step (GStep.fx (b:=[.tuple [.al,p64 (dA N)]]) (N:=A) A.length (Ac _) (by simp) (by simp only[PW]) (by simp[aD,PV.under]) ?_ (Au rfl)) (Gh.same ⟨_,rfl,O L⟩);exact(congrArg (fun M:Mem=>M.all (aG A.length)) (Au rfl)).trans hA
  simp only[PP,simprocAttr,L,gk0,sk0];refine aEF T L B R fun q=>?_;have h:=Q L (.cells 0 0 (nfC u y E G I J N)) q 0 (by simp[aG,aD,PV.under,bS,aL]);have hl:A.length+8=(A++[bp.cells 0 0 (nfC u y E G I J N)]).length+7:=by simp
  rw[hl]at h;generalize A++[bp.cells 0 0 (nfC u y E G I J N)]=S at*;simp only[PP,simprocAttr,eJ,gk,gk0,sk,sk0,nN,o8,jQ,Ab];exact Gh.same ⟨_,rfl,h⟩
end
structure qf (tab:FuncId->Option AF) (jid wid:Nat) (ty:TypeId) (fu fl:FuncId) (e:Int) (D F:Nat->Prop) (lft:Nat->Bool) (St:Nat->Mem->Prop):Prop where
  job:∀m M,St m M->∃v,M[jid]? =Iz (.cells 0 v [.iface ty (.ptr wid 0 0),p64 (m:Int)])
  sm:∀m M,St m M->m<4000000000000000000
  unit:∀m M,St m M->∀K:PV->Mem->Prop,(D m->∀M2,St m M2->K (.tuple [.bool Jc,p64 0]) M2)->(F m->∀M2,St m M2->K (.tuple [.bool Jc,p64 e]) M2)->
    (¬D m->¬F m->∀M2 v,M2[jid]? =Iz (.cells 0 v [.iface ty (.ptr wid 0 0),p64 (m:Int)])->St (m+1) (M2.set jid (.cells 0 (v+1) [.iface ty (.ptr wid 0 0),p64 ((m+1:Nat):Int)]))->K (.tuple [.bool Jb,p64 0]) M2)->ai tab fu [.ptr wid 0 0] M K
  left:∀m M,St m M->∀K:PV->Mem->Prop,(∀M2,St m M2->K (.bool (lft m)) M2)->ai tab fl [.ptr wid 0 0] M K
  py:(ty=116/\fu=253/\fl=252)\/(ty=122/\fu=261/\fl=260)\/(ty=125/\fu=265/\fl=264)
section
variable {tab:FuncId->Option AF} (T:HasA tab){M:Mem}{K:PV->Mem->Prop}
include T
def SR{y v:Nat}{E:TypeId}{w:PV}{u k:Int}(G:M[y]? =Iz (.cells 0 v [.iface E w,p64 u]))(B:k<0)(I:K (.tuple [.bool Jc,p64 1]) M):ai tab 18 [.ptr y 0 0,p64 k] M K:=by refine aN T.h18 ?_;simp only[af18,PP,simprocAttr,PI,G,B];exact I
def aCw{E R:Nat}{u:TypeId}{fu fl:FuncId}{e:Int}{D F:Nat->Prop}{O:Nat->Bool}{I:Nat->Mem->Prop}(J:qf tab E R u fu fl e D F O I)(he:e≠0){M:Mem}{K:PV->Mem->Prop}{n:Nat}{k:Int}(hS:I n M)(S:0<=k)(a0:k<=9223372036854775807)
    (hA:∀m B,n<=m->(m:Int)=n+k->(∀j,n<=j->j<m->¬D j/\¬F j)->I m B->K (.tuple [.bool (!O m),p64 0]) B)
    (hB:∀m B,n<=m->(m:Int)<n+k->(∀j,n<=j->j<m->¬D j/\¬F j)->D m->I m B->K (.tuple [.bool Jb,p64 0]) B)
    (hC:∀m B,n<=m->(m:Int)<n+k->(∀j,n<=j->j<m->¬D j/\¬F j)->F m->I m B->K (.tuple [.bool Jc,p64 e]) B):
    ai tab 18 [.ptr E 0 0,p64 k] M K:=by
  refine aN T.h18 ?_;obtain⟨v0,hM⟩:=J.job n M hS;have U:¬k<0:=by omega
  simp only[af18,PP,simprocAttr,PI,hM,U];have hu:(if(116:Int)=(u:Int)then Iz 253 else if(122:Int)=(u:Int)then Iz 261 else if(125:Int)=(u:Int)then Iz 265 else dU [] u)=Iz fu:=by rcases J.py with⟨rfl,rfl,rfl⟩ | ⟨rfl,rfl,rfl⟩ | ⟨rfl,rfl,rfl⟩<;>rfl
  have V:(if(116:Int)=(u:Int)then Iz 252 else if(122:Int)=(u:Int)then Iz 260 else if(125:Int)=(u:Int)then Iz 264 else dU [] u)=Iz fl:=by rcases J.py with⟨rfl,rfl,rfl⟩ | ⟨rfl,rfl,rfl⟩ | ⟨rfl,rfl,rfl⟩<;>rfl
  refine cL (fun(i:Nat) (N:Mem)=>(i:Int)<=k/\I (n+i) N/\∀j,n<=j->j<n+i->¬D j/\¬F j) (fun i N=>(.ptr E 0 0::zj 20++p64 k::p64 i::zj 28)) (fun i N=>N) (fun i _=>k.toNat-i) 0 M ⟨S,hS,fun j h1 h2=>by omega⟩ ?_;intro i N ⟨hi,y,Q⟩ ih;obtain⟨v,hN⟩:=J.job _ N y;refine aH (by kernel_rfl) ?_;simp only[PP,simprocAttr];refine QIf.intro (fun c=>?_) fun c=>?_
  · have a1:=J.sm _ N y;have Y:IntKind.i64.wrap ((i:Int)+1)=((i+1:Nat):Int):=by rw[wrap64]<;>omega
    have Z:IntKind.i64.wrap (((n+i:Nat):Int)+1)=((n+i+1:Nat):Int):=by rw[wrap64]<;>omega
    simp only[PP,simprocAttr,PI,hN,c,hu];refine J.unit _ N y _ (fun d L G=>?_) (fun d L G=>?_) fun d1 d2 L v2 h2 G=>?_
    · simp only[PP,simprocAttr];exact hB (n+i) L (by omega) (by omega) Q d G
    · simp only[PP,simprocAttr,he];exact hC (n+i) L (by omega) (by omega) Q d G
    · simp only[PP,simprocAttr,h2,Z,Y];refine aE (ih (i+1) _ ⟨by omega,G,fun j h3 h4=>?_⟩ (by omega));by_cases q:j=n+i
      · subst q;exact⟨d1,d2⟩
      · exact Q j h3 (by omega)
  · simp only[PP,simprocAttr,PI,hN,c,V];refine J.left _ N y _ fun L G=>?_;simp only[PP,simprocAttr];exact hA (n+i) L (by omega) (by omega) Q G
end
abbrev stK(N:NF)(m:Nat):List (BitVec 64):=dT (aJ N) (aO N) (cY N) m
abbrev rwK(N:NF)(m:Nat):List (List Int):=uS (aJ N) (aO N) (cY N) m
def fnK(N:NF)(m:Nat):List Bool:=((stK N m).take m).map (BQ N)
def JW{N:NF}{m:Nat}{a:BitVec 64}(h:(stK N m)[m]? =Iz a):fnK N (m+1)=fnK N m++[BQ N a]:=by
  have B:=aI h;obtain⟨r,u⟩:=hH (aJ N) a (aO N) (stK N m);unfold fnK;rw[show stK N (m+1)=cJ (aJ N) a (aO N) (stK N m)from f9 h];have y:(cJ (aJ N) a (aO N) (stK N m)).take (m+1)=(stK N m).take m++[a]:=by rw[u,List.take_append_of_le_length (by omega),Ce,h];rfl
  rw[y,Ax];rfl
def StD(A:Mem)(N:NF)(m:Nat)(M:Mem):Prop:=
  (m<=(stK N m).length/\(stK N m).length<=4096)/\∃(u y B E G I f o:Bool) (q:Nat->Nat) (v:Nat),M=iR A u y B E G I f o N q (stK N m) (rwK N m) (fnK N m) v m
def DD{A:Mem}{y B E G I J f o:Bool}{N:NF}{q:Nat->Nat}{S:List (BitVec 64)}{rows:List (List Int)}{K:List Bool}{v:Nat}{u:Int} :
    (iR A y B E G I J f o N q S rows K v u).take (A.length+7)=A++eJ A.length y B E G I J f o N q S rows K:=mC
def T9{A:Mem}{y B E G I J f o:Bool}{N:NF}{q:Nat->Nat}{S:List (BitVec 64)}{rows:List (List Int)}{K:List Bool}{v:Nat}{u:Int} :
    (iR A y B E G I J f o N q S rows K v u).drop (A.length+7)=[.cells 0 v [.iface 116 (.ptr (A.length+4) 0 0),p64 u]]:=by
  unfold iR;rw[<-Ab];exact List.drop_left' (by simp[eJ])
def wV{A:Mem}{y B E G I J f o:Bool}{N:NF}{q:Nat->Nat}{S:List (BitVec 64)}{rows:List (List Int)}{K:List Bool}{v:Nat}{u:Int} :
    (iR A y B E G I J f o N q S rows K v u)[A.length+7]? =Iz (.cells 0 v [.iface 116 (.ptr (A.length+4) 0 0),p64 u]):=by
  unfold iR;rw[gk];rfl
def ZJ{A:Mem}{y B E G I J f o:Bool}{N:NF}{q:Nat->Nat}{S:List (BitVec 64)}{rows:List (List Int)}{K:List Bool}{v L:Nat}{u M:Int} :
    (iR A y B E G I J f o N q S rows K v u).set (A.length+7) (.cells 0 L [.iface 116 (.ptr (A.length+4) 0 0),p64 M])=iR A y B E G I J f o N q S rows K L M:=by
  unfold iR;rw[sk];rfl
def JL{A:Mem}{y B E G I J f o:Bool}{N:NF}{q:Nat->Nat}{S:List (BitVec 64)}{rows:List (List Int)}{K:List Bool}{v:Nat}{u:Int} :
    (A++eJ A.length y B E G I J f o N q S rows K)++[.cells 0 v [.iface 116 (.ptr (A.length+4) 0 0),p64 u]]=iR A y B E G I J f o N q S rows K v u:=by
  unfold iR;rw[Ab]
def wX{N:NF}{m:Nat}(h:m<=(stK N m).length):(fnK N m).length=m:=by unfold fnK;rw[Al,Ay];omega
section
variable {tab:FuncId->Option AF} (T:HasA tab){M:Mem}{K:PV->Mem->Prop}
include T
def ZG{A:Mem}{N:NF}(hc:dA N=0)(B:BnN N)(hA:A.all (aG A.length)=Jb):
    qf tab (A.length+7) (A.length+4) 116 253 252 10 (fun m=>(stK N m).length<=m) (fun m=>m<(stK N m).length/\4096<(stK N (m+1)).length) (fun m=>decide (m<(stK N m).length)) (StD A N) where
  job:=by rintro m M ⟨_,f1,o1,f2,o2,f3,o3,f,o,q,v,rfl⟩;exact⟨v,wV⟩
  sm:=by rintro m M ⟨⟨h1,h2⟩,_⟩;omega
  unit:=by
    rintro m M ⟨⟨h1,h2⟩,f1,o1,f2,o2,f3,o3,f,o,q,v,rfl⟩ K k1 k2 k3;have hrl:(rwK N m).length=m:=lT h1;have hfl:=wX h1;have fin:∀(r:PV) (f1 o1 f2 o2 f3 o3 f o:Bool) (q:Nat->Nat) (S:List (BitVec 64)) (rows:List (List Int)) (db:List Bool),r.under (A.length+7)=Jb->K r (iR A f1 o1 f2 o2 f3 o3 f o N q S rows db v m)->
        r.under (A.length+7)=Jb/\(A++eJ A.length f1 o1 f2 o2 f3 o3 f o N q S rows db).length=A.length+7/\(A++eJ A.length f1 o1 f2 o2 f3 o3 f o N q S rows db).all (aG (A.length+7))=Jb/\K r ((A++eJ A.length f1 o1 f2 o2 f3 o3 f o N q S rows db)++[.cells 0 v [.iface 116 (.ptr (A.length+4) 0 0),p64 m]]):=
      fun r f1 o1 f2 o2 f3 o3 f o q S rows db hr hK=>⟨hr,by simp[eJ],oO hA ..,by rw[JL];exact hK⟩
    refine lE (m:=A.length+7) (by simp[iR,eJ]) (by simp[aD,PV.under]) (by rw[DD];exact oO hA ..) ?_;rw[DD,T9];refine aCG T hc B hA (kP _ _ _ m) h2 (by rw[hrl,hfl]) (fun h=>?_) (fun a ga h=>?_) fun a ga h q'=>?_
    · rw[hrl]at h;exact fin _ _ _ _ _ _ _ _ _ _ _ _ _ (by simp[PV.under,aD]) (k1 h _ ⟨⟨h1,h2⟩,_,_,_,_,_,_,_,_,_,_,rfl⟩)
    · rw[hrl]at ga;have hs:stK N (m+1)=cJ (aJ N) a (aO N) (stK N m):=f9 ga;rw[<-hs]at h;exact fin _ _ _ _ _ _ _ _ _ _ _ _ _ (by simp[PV.under,aD]) (k2 ⟨aI ga,h⟩ _ ⟨⟨h1,h2⟩,_,_,_,_,_,_,_,_,_,_,rfl⟩)
    · rw[hrl]at ga;have hs:stK N (m+1)=cJ (aJ N) a (aO N) (stK N m):=f9 ga;have hr:=p9 ga;have hf:=JW ga;have hlt:=aI ga;rw[<-hs]at h;refine fin _ _ _ _ _ _ _ _ _ _ _ _ _ (by simp[PV.under,aD]) (k3 (by omega) (fun q=>by omega) _ v wV ?_);rw[ZJ];refine⟨⟨?_,h⟩,f1,o1,f2,o2,f3,o3,Jb,Jc,q',v+1,?_⟩
      · obtain⟨r,e⟩:=hH (aJ N) a (aO N) (stK N m);by_cases hl:(stK N m).length=m
        · omega
        · rw[hs,e];simp;omega
      · rw[hs,show rwK N (m+1)=_ from hr,hf]
  left:=by rintro m M ⟨⟨h1,h2⟩,f1,o1,f2,o2,f3,o3,f,o,q,v,rfl⟩ K k;have hrl:(rwK N m).length=m:=lT h1;unfold iR;refine Q2 T ?_;rw[hrl];exact k _ ⟨⟨h1,h2⟩,_,_,_,_,_,_,_,_,_,_,rfl⟩
  py:= .inl ⟨rfl,rfl,rfl⟩
end
def itr(f:Nat->Nat)(v:Nat):Nat->Nat
  | 0=>v
  | j+1=>f (itr f v j)
def its(f:Nat->Nat)(v m:Nat):List Nat:=(Av m).map (itr f v)
section
variable {O:Nat->Int} {S:Nat->List Nat} {R:Nat->Int} {D:Nat->Prop} {p q:Int}
end
def mT:List Nat->Nat
  | []=>1
  | n::u=>(n+1)*mT u
def mr:List Nat->List Int->Nat
  | n::u,c::cs=>c.toNat+(n+1)*mr u cs
  | _,_=>0
def mOk:List Nat->List Int->Prop
  | n::u,c::cs=>0<=c/\c<=n/\mOk u cs
  | [],[]=>True
  | _,_=>False
def YX:∀u:List Nat,0<mT u
  | []=>by decide
  | n::u=>Nat.mul_pos (Il _) (YX u)
def QI:∀{u:List Nat} {cs:List Int},mOk u cs->cs.length=u.length
  | [],[],_=>rfl
  | n::u,c::cs,h=>by simp[QI h.2.2]
  | [],_::_,h=>h.elim
  | _::_,[],h=>h.elim
def C7:∀{u:List Nat} {cs:List Int},mOk u cs->mr u cs<mT u
  | [],[],_=>by decide
  | n::u,c::cs,⟨h0,h1,h2⟩=>by have:=C7 h2;have h3:(n+1)*(mr u cs+1)<=(n+1)*mT u:=Im _ this;rw[Gx]at h3;show c.toNat+(n+1)*mr u cs<(n+1)*mT u;omega
  | [],_::_,h=>h.elim
  | _::_,[],h=>h.elim
def YT:∀{u:List Nat} {cs ds:List Int},mOk u cs->mOk u ds->mr u cs=mr u ds->cs=ds
  | [],[],[],_,_,_=>rfl
  | n::u,c::cs,d::ds,⟨h0,h1,h2⟩,⟨I,J,B⟩,e=>by
    have e:c.toNat+(n+1)*mr u cs=d.toNat+(n+1)*mr u ds:=e;have y:=congrArg (· % (n+1)) e;simp only[Nat.add_mul_mod_self_left]at y;rw[Fh (by omega),Fh (by omega)]at y;have E:(n+1)*mr u cs=(n+1)*mr u ds:=by omega
    have G:=Nat.eq_of_mul_eq_mul_left (Il n) E;rw[YT h2 B G,show c=d by omega]
  | [],_::_,_,h,_,_=>h.elim
  | _::_,[],_,h,_,_=>h.elim
  | [],[],_::_,_,h,_=>h.elim
  | _::_,_::_,[],_,h,_=>h.elim
def YZ:∀{y:List Nat} {cs:List Int},cs.length=y.length->(∀(u:Nat) (c:Int) (n:Nat),cs[u]? =Iz c->y[u]? =Iz n->0<=c/\c<=n)->mOk y cs
  | [],[],_,_=>trivial
  | n::y,c::cs,hl,h=>⟨(h 0 c n rfl rfl).1,(h 0 c n rfl rfl).2,YZ (by simpa using hl) fun u c n h1 h2=>h (u+1) c n (by simpa using h1) (by simpa using h2)⟩
  | [],_::_,h,_=>by simp at h
  | _::_,[],h,_=>by simp at h
def QJ:∀{E:List Nat} {cs:List Int},mOk E cs->∀{u:Nat} {c:Int} {n:Nat},cs[u]? =Iz c->E[u]? =Iz n->0<=c/\c<=n
  | n::E,c::cs,⟨h0,h1,h2⟩,0,x,y,B,G=>by simp at B G;subst B;subst G;exact⟨h0,h1⟩
  | n::E,c::cs,⟨h0,h1,h2⟩,u+1,x,y,B,G=>QJ h2 (by simpa using B) (by simpa using G)
  | [],[],_,_,_,_,B,_=>by simp at B
  | [],_::_,h,_,_,_,_,_=>h.elim
  | _::_,[],h,_,_,_,_,_=>h.elim
def mB(u:List Nat)(q:Nat):Nat:=mT (u.take q)
def Y0(u:List Nat)(q:Nat):0<mB u q:=YX _
def oJ:∀(u:List Nat) (q:Nat),mT u=mB u q*mT (u.drop q)
  | u,0=>by simp[mB,mT]
  | [],q+1=>by simp[mB,mT]
  | n::u,q+1=>by have h:=oJ u q;show(n+1)*mT u=(n+1)*mT (u.take q)*mT (u.drop q);rw[h,Gy];rfl
def aCs{u:List Nat}{q n:Nat}(h:u[q]? =Iz n):mB u (q+1)=mB u q*(n+1):=by
  induction u generalizing q with
  | nil=>simp at h
  | cons a u y=>
    cases q with
    | zero=>simp at h;subst h;simp[mB,mT]
    | succ q=>have:=y (q:=q) (by simpa using h);show(a+1)*mB u (q+1)=(a+1)*mB u q*(n+1);rw[this,Gy]
def oK:∀{u:List Nat} {cs:List Int} (q:Nat),mOk u cs->mOk (u.drop q) (cs.drop q)
  | u,cs,0,h=>by simpa using h
  | [],[],q+1,h=>by simpa using h
  | n::u,c::cs,q+1,h=>by simpa using oK q h.2.2
  | [],_::_,_+1,h=>h.elim
  | _::_,[],_+1,h=>h.elim
def FD:∀{u:List Nat} {cs:List Int} (q:Nat),mOk u cs->mr u cs / mB u q=mr (u.drop q) (cs.drop q)
  | u,cs,0,h=>by simp[mB,mT]
  | [],[],q+1,h=>by simp[mB,mT,mr]
  | n::u,c::cs,q+1,⟨h0,h1,h2⟩=>by show(c.toNat+(n+1)*mr u cs) / ((n+1)*mB u q)=mr (u.drop q) (cs.drop q);rw[<-Hz,Nat.add_mul_div_left _ _ (Il n),Nat.div_eq_of_lt (show c.toNat<n.succ by show c.toNat<n+1;omega),Aw,FD q h2]
  | [],_::_,_+1,h=>h.elim
  | _::_,[],_+1,h=>h.elim
def yY:∀(q:Nat) {u:List Nat} {ds:List Int},ds.length+q=u.length->mr u (Ag q 0++ds)=mB u q*mr (u.drop q) ds
  | 0,u,ds,h=>by simp[mB,mT]
  | q+1,[],ds,h=>by simp at h
  | q+1,n::u,ds,h=>by show(0:Int).toNat+(n+1)*mr u (Ag q 0++ds)=(n+1)*mB u q*mr (u.drop q) ds;rw[yY q (by simp at h;omega),Gy];simp
def tS:∀(q:Nat) {u:List Nat} {ds:List Int},q<=u.length->mOk (u.drop q) ds->mOk u (Ag q 0++ds)
  | 0,u,ds,_,h=>by simpa using h
  | q+1,[],ds,h,_=>by simp at h
  | q+1,n::u,ds,h,h2=>⟨by decide,by omega,tS q (by simpa using h) (by simpa using h2)⟩
structure Ms where
  top:Bool
  c:List Int
  h:c.length=8
def Ms.Ok(ns:List Nat)(x:Ms):Prop:=mOk ns x.c/\(x.top=Jb->x.c=Ag 8 0)
def Ms.num(u:List Nat)(x:Ms):Nat:=if x.top=Jb then mT u else mr u x.c
def mz:Ms:=⟨Jc,Ag 8 0,by simp⟩
def pj:Ms:=⟨Jb,Ag 8 0,by simp⟩
def Ms.ext'{x y:Ms}(h1:x.top=y.top)(h2:x.c=y.c):x=y:=by cases x;cases y;cases h1;cases h2;rfl
def FF:∀(u:List Nat),mOk u (Ag u.length 0)
  | []=>trivial
  | n::u=>⟨by decide,by omega,FF u⟩
def YS:∀(u:List Nat) (k:Nat),mr u (Ag k 0)=0
  | [],k=>by simp[mr]
  | n::u,0=>by simp[mr]
  | n::u,k+1=>by show(0:Int).toNat+(n+1)*mr u (Ag k 0)=0;rw[YS u k];simp
section
variable {ns:List Nat}
def Ms.pw{x:Ms}(h:x.Ok ns):x.num ns<=mT ns:=by
  unfold Ms.num;split
  · exact Ac _
  · exact Nat.le_of_lt (C7 h.1)
def Ms.lg{x:Ms}(h:x.Ok ns):x.num ns=mT ns↔x.top=Jb:=by
  unfold Ms.num;split
  · rename_i e;simp[e]
  · rename_i e;have:=C7 h.1;simp[e];omega
def Ms.inj{x y:Ms}(E:x.Ok ns)(G:y.Ok ns)(e:x.num ns=y.num ns):x=y:=by
  have h1:=Ms.lg E;have h2:=Ms.lg G;rw[e]at h1;have h3:x.top=Jb↔y.top=Jb:=h1.symm.trans h2
  cases u:x.top with
  | true=>have B:=h3.1 u;exact Ms.ext' (by rw[u,B]) (by rw[E.2 u,G.2 B])
  | false=>
    have B:y.top=Jc:=by
      cases q:y.top with
      | true=>rw[h3.2 q]at u;cases u
      | false=>rfl
    refine Ms.ext' (by rw[u,B]) (YT E.1 G.1 ?_);simpa [Ms.num,u,B]using e
def aFY(h:ns.length=8):mz.Ok ns:=⟨by show mOk ns (Ag 8 0);rw[<-h];exact FF ns,fun h=>by cases h⟩
def FC(h:ns.length=8):pj.Ok ns:=⟨by show mOk ns (Ag 8 0);rw[<-h];exact FF ns,fun _=>rfl⟩
def YO:mz.num ns=0:=by show(if Jc=Jb then _ else mr ns (Ag 8 0))=0;rw[if_neg (by decide),YS]
def IW:pj.num ns=mT ns:=if_pos rfl
end
def kS(a b:Int):Int:=if a<b then-1 else if b<a then 1 else 0
def kO:List Int->List Int->Int
  | c::cs,d::ds=>if kO cs ds=0 then kS c d else kO cs ds
  | _,_=>0
def wA(x y:Ms):Int:=if x.top=Jb then(if y.top=Jb then 0 else 1)else if y.top=Jb then-1 else kO x.c y.c
def nI{a b:Int}(h:a<b):kS a b= -1:=if_pos h
def nJ{a b:Int}(h:b<a):kS a b=1:=by unfold kS;rw[if_neg (by omega),if_pos h]
def uC(a:Int):kS a a=0:=by simp[kS]
def pI{a b:Int} :kS a b=0↔a=b:=by
  unfold kS;split
  · constructor<;>intro h<;>omega
  · split<;>constructor<;>intro h<;>omega
def pJ:∀{cs ds:List Int} (k:Nat),kO (cs.drop k) (ds.drop k)≠0->kO cs ds=kO (cs.drop k) (ds.drop k)
  | cs,ds,0,_=>by simp
  | [],ds,k+1,h=>by simp[kO]at h
  | _::_,[],k+1,h=>by simp[kO]at h
  | c::cs,d::ds,k+1,h=>by have h:kO (cs.drop k) (ds.drop k)≠0:=h;have:=pJ k h;show(if kO cs ds=0 then kS c d else kO cs ds)=kO (cs.drop k) (ds.drop k);rw[if_neg (by rw[this];exact h),this]
def Q6{cs ds:List Int}{k:Nat}{c d:Int}(u:cs[k]? =Iz c)(hd:ds[k]? =Iz d)(h:kO (cs.drop (k+1)) (ds.drop (k+1))=0):kO (cs.drop k) (ds.drop k)=kS c d:=by obtain⟨h1,y⟩:=List.getElem?_eq_some_iff.1 u;obtain⟨h2,B⟩:=List.getElem?_eq_some_iff.1 hd;rw[Ed h1,Ed h2];show(if kO _ _=0 then _ else _)=_;rw[if_pos h,y,B]
def Z6:∀{u:List Nat} {cs ds:List Int},mOk u cs->mOk u ds->kO cs ds=kS (mr u cs) (mr u ds)
  | [],[],[],_,_=>by simp[kO,kS,mr]
  | n::u,c::cs,d::ds,⟨h0,h1,h2⟩,⟨E,G,y⟩=>by
    have B:=Z6 h2 y;show(if kO cs ds=0 then kS c d else kO cs ds)=kS ((c.toNat+(n+1)*mr u cs:Nat):Int) ((d.toNat+(n+1)*mr u ds:Nat):Int);rw[B];split
    · rename_i e;rw[pI]at e;have e:mr u cs=mr u ds:=by omega
      rw[e];rcases Int.lt_trichotomy c d with q | q | q
      · rw[nI q,nI (by omega)]
      · rw[q,uC,uC]
      · rw[nJ q,nJ (by omega)]
    · rename_i e;rw[pI]at e;by_cases I:mr u cs<mr u ds
      · have:=Im (n+1) (show mr u cs+1<=mr u ds by omega);rw[Gx]at this;rw[nI (by omega),nI (by omega)]
      · have:=Im (n+1) (show mr u ds+1<=mr u cs by omega);rw[Gx]at this;rw[nJ (by omega),nJ (by omega)]
  | [],_::_,_,h,_=>h.elim
  | _::_,[],_,h,_=>h.elim
  | [],[],_::_,_,h=>h.elim
  | _::_,_::_,[],_,h=>h.elim
def pH{u:List Nat}{x y:Ms}(B:x.Ok u)(E:y.Ok u):wA x y=kS (x.num u) (y.num u):=by
  have h1:=C7 B.1;have h2:=C7 E.1;unfold wA Ms.num;split
  · split
    · rw[uC]
    · rw[nJ (by omega)]
  · split
    · rw[nI (by omega)]
    · exact Z6 B.1 E.1
def iD{a b:Int} :0<kS a b↔b<a:=by
  unfold kS;split
  · constructor<;>intro h<;>omega
  · split<;>constructor<;>intro h<;>omega
def sJ{a b:Int} :kS a b<0↔a<b:=by
  unfold kS;split
  · constructor<;>intro h<;>omega
  · split<;>constructor<;>intro h<;>omega
def vN(u:List Nat)(p x:Nat):Nat:=min (mT u) ((x / mB u (p / 2)+p % 2)*mB u (p / 2))
section
variable {ns:List Nat}
def aDK(p x:Nat):vN ns p x<=mT ns:=Fo _ _
def PG{p x y:Nat}(h:x<=y):vN ns p x<=vN ns p y:=by unfold vN;have h1:=Nat.div_le_div_right (c:=mB ns (p / 2)) h;have h2:=Dg (mB ns (p / 2)) (Nat.add_le_add_right h1 (p % 2));omega
def WB(p:Nat):vN ns p (mT ns)=mT ns:=by
  unfold vN;have h:=oJ ns (p / 2);have e:mT ns / mB ns (p / 2)=mT (ns.drop (p / 2)):=by rw[h,Nat.mul_div_cancel_left _ (Y0 _ _)]
  rw[e,Cx,Co (mT (ns.drop (p / 2)))];omega
def J8{q x:Nat}(h:x<mT ns):x / mB ns q<mT (ns.drop q):=by rw[Nat.div_lt_iff_lt_mul (Y0 _ _),Co,<-oJ];exact h
def B2{p x:Nat}(h:x<mT ns):vN ns p x=(x / mB ns (p / 2)+p % 2)*mB ns (p / 2):=by unfold vN;have h1:=J8 (q:=p / 2) h;have h2:(x / mB ns (p / 2)+p % 2)*mB ns (p / 2)<=mT (ns.drop (p / 2))*mB ns (p / 2):=Dg _ (by have:=Dl p (show 0<2 by decide);omega);rw[Co (mT _),<-oJ]at h2;omega
def fT{α:Type}{l:List α}{q:Nat}{x:α}(h:l[q]? =Iz x):l.drop q=x::l.drop (q+1):=by obtain⟨h1,e⟩:=List.getElem?_eq_some_iff.1 h;rw[Ed h1,e]
end
def GN(f:Nat->Nat):List Nat->Nat
  | []=>0
  | [a]=>f a
  | a::b::l=>min (f a) (GN f (b::l))
def D9(f:Nat->Nat):List Nat->Nat
  | []=>0
  | a::l=>max (f a) (D9 f l)
def qZ{f:Nat->Nat} :∀{l:List Nat},l≠[]->∃u∈l,GN f l=f u
  | [],h=>absurd rfl h
  | [a],_=>⟨a,by simp,rfl⟩
  | a::b::l,_=>by
    obtain⟨u,h1,h2⟩:=qZ (f:=f) (l:=b::l) (by simp);show ∃u∈a::b::l,min (f a) (GN f (b::l))=f u;rcases Ip (f a) (GN f (b::l))with h | h
    · exact⟨a,by simp,Da h⟩
    · exact⟨u,Dh _ h1,by rw[Nat.min_eq_right h,h2]⟩
def D7{f:Nat->Nat} :∀{l:List Nat} {u:Nat},u∈l->GN f l<=f u
  | [a],u,h=>by rw[Bk]at h;subst h;exact Ac _
  | a::b::l,u,h=>by
    show min (f a) (GN f (b::l))<=f u;rcases List.mem_cons.1 h with e | h
    · subst e;exact Fo _ _
    · exact Ah (Nat.min_le_right _ _) (D7 h)
def q9{f:Nat->Nat} :∀{l:List Nat},l≠[]->∃u∈l,D9 f l=f u
  | [],h=>absurd rfl h
  | [a],_=>⟨a,by simp,by simp[D9]⟩
  | a::b::l,_=>by
    obtain⟨u,h1,h2⟩:=q9 (f:=f) (l:=b::l) (by simp);show ∃u∈a::b::l,max (f a) (D9 f (b::l))=f u;rcases Ip (f a) (D9 f (b::l))with h | h
    · exact⟨u,Dh _ h1,by rw[Nat.max_eq_right h,h2]⟩
    · exact⟨a,by simp,Nat.max_eq_left h⟩
def D8{f:Nat->Nat} :∀{l:List Nat} {u:Nat},u∈l->f u<=D9 f l
  | a::l,u,h=>by
    show f u<=max (f a) (D9 f l);rcases List.mem_cons.1 h with e | h
    · subst e;exact Nat.le_max_left _ _
    · exact Ah (D8 h) (Nat.le_max_right _ _)
def PH{f:Nat->Nat}{l:List Nat}{y:Nat}(h1:∃u∈l,y=f u)(h2:∀u∈l,y<=f u):y=GN f l:=by obtain⟨u,B,e⟩:=h1;obtain⟨w,hw,E⟩:=qZ (f:=f) (l:=l) (fun q=>by rw[q]at B;cases B);have:=D7 (f:=f) B;have:=h2 w hw;omega
def PJ{f:Nat->Nat}{l:List Nat}{y:Nat}(h1:∃u∈l,y=f u)(h2:∀u∈l,f u<=y):y=D9 f l:=by obtain⟨u,B,e⟩:=h1;obtain⟨w,hw,E⟩:=q9 (f:=f) (l:=l) (fun q=>by rw[q]at B;cases B);have:=D8 (f:=f) B;have:=h2 w hw;omega
def lN(y:List Nat)(O:Nat->Int)(S:Nat->List Nat)(R:Nat->Int)(m:Nat->Nat)(v:Nat):Nat:=
  if O v=0 then GN (fun u=>vN y (R v).toNat (m u)) (S v)else D9 (fun u=>vN y (R v).toNat (m u)) (S v)
def lM(m:Nat->Nat)(v x:Nat):Nat->Nat:=fun u=>if u=v then x else m u
structure Lft (n T:Nat) (L:(Nat->Nat)->Nat->Nat):Prop where
  bnd:∀m v,v<n->L m v<=T
  mono:∀m m' v,v<n->(∀u,u<n->m u<=m' u)->L m v<=L m' v
def pP(n:Nat)(L:(Nat->Nat)->Nat->Nat)(m:Nat->Nat):Prop:=∀v,v<n->L m v<=m v
structure LI (n T:Nat) (L:(Nat->Nat)->Nat->Nat) (m:Nat->Nat):Prop where
  bnd:∀v,v<n->m v<=T
  up:∀v,v<n->m v<=L m v
  low:∀m',pP n L m'->∀v,v<n->m v<=m' v
def aEN{n:Nat}{ns:List Nat}{O:Nat->Int}{S:Nat->List Nat}{R:Nat->Int}(hS:∀v,v<n->S v≠[]/\∀u∈S v,u<n):Lft n (mT ns) (lN ns O S R) where
  bnd:=fun m v hv=>by
    unfold lN;split
    · obtain⟨u,_,e⟩:=qZ (f:=fun u=>vN ns (R v).toNat (m u)) (hS v hv).1;rw[e];exact aDK _ _
    · obtain⟨u,_,e⟩:=q9 (f:=fun u=>vN ns (R v).toNat (m u)) (hS v hv).1;rw[e];exact aDK _ _
  mono:=fun m m' v hv h=>by
    unfold lN;split
    · obtain⟨u,hu,e⟩:=qZ (f:=fun u=>vN ns (R v).toNat (m' u)) (hS v hv).1;rw[e];exact Ah (D7 hu) (PG (h u ((hS v hv).2 u hu)))
    · obtain⟨u,hu,e⟩:=q9 (f:=fun u=>vN ns (R v).toNat (m u)) (hS v hv).1;rw[e];exact Ah (PG (h u ((hS v hv).2 u hu))) (D8 (f:=fun u=>vN ns (R v).toNat (m' u)) hu)
section
variable {n T:Nat} {L:(Nat->Nat)->Nat->Nat} {m:Nat->Nat}
def LI.zero(hL:Lft n T L):LI n T L fun _=>0:=⟨fun _ _=>Af _,fun _ _=>Af _,fun _ _ _ _=>Af _⟩
def LI.step(hL:Lft n T L)(h:LI n T L m){v:Nat}(hv:v<n):LI n T L (lM m v (L m v)):=by
  have le:∀u,u<n->m u<=lM m v (L m v) u:=fun u y=>by
    unfold lM;split
    · rename_i e;subst e;exact h.up u y
    · exact Ac _
  refine⟨fun u y=>?_,fun u y=>?_,fun m' hm u y=>?_⟩
  · unfold lM;split
    · exact hL.bnd _ _ hv
    · exact h.bnd u y
  · have:=hL.mono m _ u y le;show(if u=v then L m v else m u)<=_;split
    · rename_i e;subst e;exact this
    · exact Ah (h.up u y) this
  · unfold lM;split
    · rename_i e;subst e;exact Ah (hL.mono m m' u y (h.low m' hm)) (hm u y)
    · exact h.low m' hm u y
def nV:Nat->(Nat->Nat)->Nat
  | 0,_=>0
  | n+1,m=>nV n m+m n
def EI:∀{n:Nat} {m:Nat->Nat},(∀v,v<n->m v<=T)->nV n m<=n*T
  | 0,_,_=>by simp[nV]
  | n+1,m,h=>by have:=EI (n:=n) (m:=m) (fun v hv=>h v (by omega));have:=h n (by omega);show nV n m+m n<=(n+1)*T;rw[Cx];omega
def xS:∀{n:Nat} {m m':Nat->Nat},(∀v,v<n->m v=m' v)->nV n m=nV n m'
  | 0,_,_,_=>rfl
  | n+1,m,m',h=>by show nV n m+m n=nV n m'+m' n;rw[xS (fun v hv=>h v (by omega)),h n (by omega)]
def xR:∀{n:Nat} {m:Nat->Nat} {v x:Nat},v<n->m v<x->nV n m<nV n (lM m v x)
  | 0,_,_,_,h,_=>by omega
  | n+1,m,v,x,h,y=>by
    show nV n m+m n<nV n (lM m v x)+lM m v x n;by_cases e:v=n
    · subst e;rw[xS (n:=v) (m:=lM m v x) (m':=m) (fun u E=>by unfold lM;rw[if_neg (by omega)])];unfold lM;rw[if_pos rfl];omega
    · have:=xR (n:=n) (m:=m) (v:=v) (x:=x) (by omega) y;have G:lM m v x n=m n:=by unfold lM;rw[if_neg (by omega)]
      omega
def np(n:Nat)(L:(Nat->Nat)->Nat->Nat)(m:Nat->Nat)(v:Nat):Prop:=v<n/\m v<L m v/\∀u,u<v->L m u<=m u
def np.eq{v u:Nat}(h:np n L m v)(k:np n L m u):v=u:=by
  rcases Gf v u with q | q | q
  · have:=k.2.2 v q;have:=h.2.1;omega
  · exact q
  · have:=h.2.2 u q;have:=k.2.1;omega
open Classical in
noncomputable def pZ(n:Nat)(L:(Nat->Nat)->Nat->Nat)(m:Nat->Nat):Nat->Nat:=
  if h:∃v,np n L m v then lM m (Classical.choose h) (L m (Classical.choose h))else m
def o5{v:Nat}(h:np n L m v):pZ n L m=lM m v (L m v):=by unfold pZ;have q:∃v,np n L m v:=⟨v,h⟩;rw[dif_pos q,(Classical.choose_spec q).eq h]
def WM(h:pP n L m):pZ n L m=m:=by unfold pZ;rw[dif_neg];rintro⟨v,h1,h2,_⟩;have:=h v h1;omega
noncomputable def itN(n:Nat)(L:(Nat->Nat)->Nat->Nat):Nat->Nat->Nat
  | 0=>fun _=>0
  | k+1=>pZ n L (itN n L k)
def M8(hL:Lft n T L):∀k,LI n T L (itN n L k)
  | 0=>LI.zero hL
  | k+1=>by
    have u:=M8 hL k;by_cases h:∃v,np n L (itN n L k) v
    · obtain⟨v,hv⟩:=h;show LI n T L (pZ n L (itN n L k));rw[o5 hv];exact u.step hL hv.1
    · show LI n T L (pZ n L (itN n L k));unfold pZ;rw[dif_neg h];exact u
def FL{k:Nat}(h:pP n L (itN n L k)):∀d,itN n L (k+d)=itN n L k
  | 0=>rfl
  | d+1=>by show pZ n L (itN n L (k+d))=_;rw[FL h d,WM h]
end
def msC(x:Ms):List PV:=PV.bool x.top::x.c.map (PV.int .i64)
def msL(l:List Ms):List PV:=l.flatMap msC
def aP(pr:List Int):List Nat:=cK 8 fun k=>pr.count ((2*k+1:Nat):Int)
def gT(l:List Nat):List PV:=l.map fun(n:Nat)=>p64 n
def jO(u y B E G I J K:Bool)(ow pr:List Int)(su:List (List Int)):List PV:=slI u y .u8 ow::slI B E .i64 pr::slR G I J K .i64 su::gT (aP pr)
abbrev slM(f o:Bool)(l:List Ms):PV:= .sl f o 9 l.length (msL l)
def Ms.put(x:Ms)(k:Nat)(c:Int):Ms:=⟨x.top,x.c.set k c,by simp[x.h]⟩
def jT(x:Ms):(msC x).length=9:=by simp[msC,x.h]
def iB(pr:List Int):(aP pr).length=8:=bT _ _
def rV(pr:List Int):(gT (aP pr)).length=8:=by simp[gT,iB]
def QH(x:Ms):(msC x).all PV.one=Jb:=by simp[msC,PV.one]
def Y6(l:List Nat):(gT l).all PV.one=Jb:=by simp[gT,PV.one]
def wR(m:Nat)(x:Ms):aD m (msC x)=Jb:=by unfold msC;rw[eL,aL];simp[PV.under]
def zB(m:Nat)(l:List Nat):aD m (gT l)=Jb:=by unfold gT;exact dR _ _ (fun _=>by simp[PV.under]) _
def aFZ(x:Ms):(msC x)[0]? =Iz (.bool x.top):=rfl
def tQ{x:Ms}{k:Nat}{c:Int}(h:x.c[k]? =Iz c):(msC x)[1+k]? =Iz (p64 c):=by rw[Cy];unfold msC;simp[h]
def pA(x:Ms)(k:Nat)(c:Int):(msC x).set (1+k) (p64 c)=msC (x.put k c):=by rw[Cy];unfold msC Ms.put;simp[Ir]
def XB(x:Ms):aZ (msC x) 0 9=msC x:=aK _ _ (jT x).symm
def S8(pr:List Int):aZ (gT (aP pr)) 0 8=gT (aP pr):=aK _ _ (rV pr).symm
def IA{a b:List PV}(h:a.length=b.length)(h2:2<=b.length):jL a 0 b=b:=by
  match b,h2 with
  | x::y::l,_=>show a.take 0++(x::y::l)++a.drop (0+(x::y::l).length)=x::y::l;rw[Eu (by rw[h];simp)];simp
def TG(x y:Ms):jL (msC y) 0 (msC x)=msC x:=IA (by rw[jT,jT]) (by rw[jT];decide)
def Y7:List Nat:=Ag 8 0
def z8:[p64 0,p64 0,p64 0,p64 0,p64 0,p64 0,p64 0,p64 0]=gT Y7:=rfl
def z9:PV.bool Jc::gT Y7=msC mz:=rfl
def z9t:(msC mz).set 0 (.bool Jb)=msC pj:=rfl
def L8(pr:List Int):jL (gT Y7) 0 (gT (aP pr))=gT (aP pr):=IA (by rw[rV];rfl) (by rw[rV];decide)
def wT{l:List Nat}{k n:Nat}(h:l[k]? =Iz n):(gT l)[k]? =Iz (p64 n):=by unfold gT;simp[h]
def I7(l:List Nat)(k n:Nat):(gT l).set k (p64 n)=gT (l.set k n):=by unfold gT;simp[Ir]
section
variable {f1 o1 f2 o2 f3 o3 f4 o4:Bool} {ow pr:List Int} {su:List (List Int)}
def aEe:(jO f1 o1 f2 o2 f3 o3 f4 o4 ow pr su)[0]? =Iz (slI f1 o1 .u8 ow):=rfl
def aEd:(jO f1 o1 f2 o2 f3 o3 f4 o4 ow pr su)[1]? =Iz (slI f2 o2 .i64 pr):=rfl
def aEc:(jO f1 o1 f2 o2 f3 o3 f4 o4 ow pr su)[2]? =Iz (slR f3 o3 f4 o4 .i64 su):=rfl
def PU{k n:Nat}(h:(aP pr)[k]? =Iz n):(jO f1 o1 f2 o2 f3 o3 f4 o4 ow pr su)[3+k]? =Iz (p64 n):=by rw[Cy];exact wT h
def rI(m:Nat):aD m (jO f1 o1 f2 o2 f3 o3 f4 o4 ow pr su)=Jb:=by unfold jO;simp only[eL,fC,lO,zB,Bool.and_self]
end
def TV(cs:List PV)(o:Nat):cB (.cp cs o)=[.cp cs o]:=(rfl)
def aEA(cs:List PV)(o:Nat):PV.one (.cp cs o)=Jb:=(rfl)
def T5:(gT Y7).length=8:=rfl
def TL(n:Nat)(M:Mem)(x:Ms):dS n M (msC x)=Iz (msC x):=jB (wR _ _)
def MB(n:Nat)(M:Mem)(l:List Nat):dS n M (gT l)=Iz (gT l):=jB (zB _ _)
def jS(l:List Ms):(msL l).length=l.length*9:=by
  unfold msL
  induction l with
  | nil=>rfl
  | cons x l u=>rw[Br,Aj,u,jT,Ao,Cx];omega
def aCl(l:List Ms):(msL l).all PV.one=Jb:=by
  unfold msL
  induction l with
  | nil=>rfl
  | cons x l u=>rw[Br,Bl,u,QH];rfl
def dM(m:Nat)(l:List Ms):aD m (msL l)=Jb:=by
  unfold msL
  induction l with
  | nil=>exact gP _
  | cons x l u=>rw[Br,lF,u,wR];rfl
def SG(m:Nat)(f o:Bool)(sz n:Nat)(l:List Ms):PV.under m (.sl f o sz n (msL l))=Jb:=by simp only[PV.under];exact dM m l
def aCm(l:List Ms)(x:Ms):msL l++msC x=msL (l++[x]):=by simp[msL]
def C6{l:List Ms}{k:Nat}{x:Ms}(h:l[k]? =Iz x):∃a b,msL l=a++msC x++b/\a.length=k*9/\(∀y,msL (l.set k y)=a++msC y++b):=by
  obtain⟨u,e⟩:=List.getElem?_eq_some_iff.1 h;refine⟨msL (l.take k),msL (l.drop (k+1)),?_,?_,fun y=>?_⟩
  · conv=>lhs;rw[<-Cm k l,Ed u,e]
    simp[msL]
  · rw[jS];simp;omega
  · rw[Hw,if_pos u];simp[msL]
def fA{l:List Ms}{k:Nat}{x:Ms}(h:l[k]? =Iz x):aZ (msL l) (k*9) 9=msC x:=by obtain⟨a,b,h1,h2,_⟩:=C6 h;unfold aZ;rw[h1,<-h2,Ab,Fv,Au (jT x)]
def tJ{l:List Ms}{k:Nat}(y:Ms)(h:k<l.length):jL (msL l) (k*9) (msC y)=msL (l.set k y):=by
  obtain⟨a,b,h1,h2,h3⟩:=C6 (Ad h);rw[h3,h1,<-h2];have e:msC y=PV.bool y.top::y.c.map (PV.int .i64):=rfl;have hl:(msC y).length=9:=jT y;have u:∃c cs,y.c.map (PV.int .i64)=c::cs:=by
    cases q:y.c.map (PV.int .i64)with
    | nil=>rw[e,q]at hl;simp at hl
    | cons c cs=>exact⟨c,cs,rfl⟩
  obtain⟨c,cs,q⟩:=u;have:jL (a++msC (l[k])++b) a.length (msC y)=(a++msC l[k]++b).take a.length++msC y++(a++msC l[k]++b).drop (a.length+(msC y).length):=by rw[e,q];rfl
  rw[this,hl,<-jT l[k],<-Aj,Fv,Ab a,Au rfl]
def XC(n:Nat):cG n (msC mz)=msL (Ag n mz):=by
  induction n with
  | zero=>rfl
  | succ n u=>show msC mz++cG n (msC mz)=_;rw[u,Fb];rfl
def pS{l:List Ms}{k:Nat}{x:Ms}(h:l[k]? =Iz x):k*9+9<=l.length*9:=by have:=aI h;omega
instance:DecidableEq Ms:=fun x y=>if h:x.top=y.top/\x.c=y.c then isTrue (Ms.ext' h.1 h.2)else isFalse fun e=>h (by subst e;exact⟨rfl,rfl⟩)
def Ms.fit(x:Ms):Prop:=∀c∈x.c,-9223372036854775808<=c/\c<=9223372036854775807
def xM:∀l:List Int,fI (l.map (PV.int .i64))=Iz (l.map (AV.int .i64))
  | []=>rfl
  | x::l=>by show(match bQ (PV.int .i64 x),fI (l.map (PV.int .i64))with | some x,Iz u=>Iz (x::u) | _,_=>Ja)=_;rw[xM l];rfl
def JF{c:Int}(h: -9223372036854775808<=c/\c<=9223372036854775807):T6 .i64 c=Jb:=by unfold T6;simp;exact h
def J4:∀{a b:List Int},a.length=b.length->(∀c∈a,-9223372036854775808<=c/\c<=9223372036854775807)->(∀c∈b,-9223372036854775808<=c/\c<=9223372036854775807)->fB (Ag a.length (Iz .i64)) (a.map (AV.int .i64)) (b.map (AV.int .i64))=Iz (decide (a=b))
  | [],[],_,_,_=>rfl
  | x::a,y::b,hl,u,hb=>by have B:=J4 (a:=a) (b:=b) (by simpa using hl) (fun c h=>u c (Dh _ h)) fun c h=>hb c (Dh _ h);rw[Ao,Fb,Ai,Ai];unfold fB;rw[if_pos ⟨rfl,rfl,JF (u x (by simp)),JF (hb y (by simp))⟩,B];simp only[Option.some.injEq,List.cons.injEq];by_cases e:x=y<;>by_cases E:a=b<;>simp[e,E]
  | [],_::_,h,_,_=>by simp at h
  | _::_,[],h,_,_=>by simp at h
def QD{x y:Ms}(B:x.fit)(E:y.fit):oD [Ja,Iz .i64,Iz .i64,Iz .i64,Iz .i64,Iz .i64,Iz .i64,Iz .i64,Iz .i64] (msC x) (msC y)=Iz (decide (x=y)):=by
  have h:=J4 (a:=x.c) (b:=y.c) (by rw[x.h,y.h]) B E;rw[x.h]at h;unfold oD msC;have u:∀z:Ms,fI (PV.bool z.top::z.c.map (PV.int .i64))=Iz (AV.bool z.top::z.c.map (AV.int .i64)):=fun z=>by
    show(match bQ (PV.bool z.top),fI (z.c.map (PV.int .i64))with | some x,Iz G=>Iz (x::G) | _,_=>Ja)=_;rw[xM];rfl
  rw[u x,u y];show fB (Ja::Ag 8 (Iz .i64)) (AV.bool x.top::x.c.map (AV.int .i64)) (AV.bool y.top::y.c.map (AV.int .i64))=_;unfold fB;rw[h];simp only[Option.some.injEq];by_cases e:x=y
  · subst e;simp
  · rw[decide_eq_false e];by_cases u:x.top=y.top
    · have:x.c≠y.c:=fun q=>e (Ms.ext' u q);simp[this]
    · have:(x.top==y.top)=Jc:=by simpa using u
      rw[this];rfl
def Ms.Ok.fit{ns:List Nat}{x:Ms}(h:x.Ok ns)(J:∀n∈ns,n<1000000000000):x.fit:=fun c K=>by
  obtain⟨k,I⟩:=Db K;have hl:=QI h.1;have y:k<ns.length:=by have:=aI I;omega
  have G:∀{ns:List Nat} {cs:List Int},mOk ns cs->∀{u:Nat} {c:Int} {n:Nat},cs[u]? =Iz c->ns[u]? =Iz n->0<=c/\c<=n:=by
    intro ns
    induction ns with
    | nil=>intro cs h u c n E B;simp at B
    | cons n ns L=>
      intro cs h u c m E B
      cases cs with
      | nil=>exact h.elim
      | cons a cs=>
        cases u with
        | zero=>simp at E B;subst E;subst B;exact⟨h.1,h.2.1⟩
        | succ u=>exact L h.2.2 (by simpa using E) (by simpa using B)
  have h1:=G h.1 I (Ad y);have h2:=J _ (Cw y);omega
def wS{pr:List Int}(hb:pr.length<1000000000000):∀n∈aP pr,n<1000000000000:=fun n u=>by obtain⟨v,_,rfl⟩:=xO u;have:pr.count ((2*v+1:Nat):Int)<=pr.length:=Gz;omega
def PN:=(Aa (Aa (Aa (Aa @jT (Aa @QH @wR)) (Aa (Aa @SG @aFZ) (Aa @XB @TG))) (Aa (Aa @z9 (Aa @z9t @jS)) (Aa (Aa @dM @aCl) (Aa @XC @rV)))) (Aa (Aa (Aa @Y6 (Aa @zB @T5)) (Aa (Aa @TL @MB) (Aa @S8 @L8))) (Aa (Aa @z8 (Aa @TV @aEA)) (Aa (Aa @rI @aEe) (Aa @aEd @aEc)))))
def Ms.get{x:Ms}{k:Nat}(h:k<8):∃c,x.c[k]? =Iz c:=aM (by rw[x.h];exact h)
def u7{j:Nat}(h:j<1000000000000):IntKind.i64.wrap ((j:Int)-1)=(j:Int)-1:=wrap64 (by omega) (by omega)
section
variable {tab:FuncId->Option AF} (T:HasA tab){M:Mem}{K:PV->Mem->Prop}
include T
def QU{a:Int}(u:K (.bool Jc) M):ai tab 133 [p64 a] M K:=by refine aF T.h133 (by simp only[PP,simprocAttr]) ?_;simp only[af133,PP,simprocAttr];exact u
def aGf{a b:Int}(u:K (p64 (kS a b)) M):ai tab 78 [p64 a,p64 b] M K:=by
  refine aF T.h78 (by simp only[PP,simprocAttr]) ?_;simp only[af78,PP,simprocAttr];refine QU T ?_;simp only[PP,simprocAttr];refine QU T ?_;simp only[PP,simprocAttr];refine QIf.intro (fun c=>?_) fun c=>?_
  · simp only[PP,simprocAttr,c];rw[nI c]at u;exact u
  · simp only[PP,simprocAttr,c];refine QIf.intro (fun d=>?_) fun d=>?_
    · simp only[PP,simprocAttr,d];rw[nJ d]at u;exact u
    · simp only[PP,simprocAttr,d];rw[show kS a b=0 from by rw[pI];omega]at u;exact u
def mD{x y:Ms}(u:K (p64 (wA x y)) M):ai tab 30 [.agg (msC x),.agg (msC y)] M K:=by
  refine aF T.h30 (by simp only[PP,simprocAttr,PN]) ?_;simp only[af30,PP,simprocAttr,PN];unfold wA at u
  cases E:x.top with
  | true=>
    rw[E,if_pos rfl]at u
    cases B:y.top with
    | true=>rw[B,if_pos rfl]at u;simp only[PP,simprocAttr,PN,E,B];exact u
    | false=>rw[B,if_neg (by decide)]at u;simp only[PP,simprocAttr,PN,E,B];exact u
  | false=>
    rw[E,if_neg (by decide)]at u
    cases B:y.top with
    | true=>rw[B,if_pos rfl]at u;simp only[PP,simprocAttr,PN,E,B];exact u
    | false=>
      rw[B,if_neg (by decide)]at u;simp only[PP,simprocAttr,PN,E,B];refine cM (fun(k:Int)=> -1<=k/\k<=7/\kO (x.c.drop (k+1).toNat) (y.c.drop (k+1).toNat)=0) (fun k=>(.ae:: .ae:: .ptr 0 0 0:: .ptr 1 0 0:: .ae::p64 k::zj 30))
        (fun k=>[.cells 0 0 (msC x),.cells 0 0 (msC y)]) (fun k=>(k+1).toNat) 7 ⟨by decide,by decide,by
          rw[Eu (by rw[x.h];decide)];rfl⟩ ?_
      intro k ⟨h1,h2,h3⟩ O;refine aH (by kernel_rfl) ?_;simp only[PP,simprocAttr];refine QIf.intro (fun c=>?_) fun c=>?_
      · obtain⟨j,rfl⟩:∃j:Nat,k=j:=⟨k.toNat,by omega⟩;have Q:(j:Int)<8:=by omega
        obtain⟨a,J⟩:=Ms.get (x:=x) (k:=j) (by omega);obtain⟨b,L⟩:=Ms.get (x:=y) (k:=j) (by omega);have R:=tQ J;have S:=tQ L;have G:=u7 (j:=j) (by omega);have U:((j:Int)+1).toNat=j+1:=by omega
        rw[U]at h3;have I:=Q6 J L h3;simp only[PP,simprocAttr,c,Q,R,S];refine aGf T ?_;simp only[PP,simprocAttr];by_cases e:kS a b=0
        · simp only[PP,simprocAttr,e,G];refine aE (O ((j:Int)-1) ⟨by omega,by omega,?_⟩ (by omega));rw[show((j:Int)-1+1).toNat=j by omega,I];exact e
        · simp only[PP,simprocAttr,e];rw[pJ j (by rw[I];exact e),I]at u;exact u
      · have:k= -1:=by omega
        subst this;have h3:kO x.c y.c=0:=by simpa using h3
        rw[h3]at u;simp only[PP,simprocAttr];exact u
def yH{x y:Ms}(u:K (p64 (wA x y)) M):ai tab 162 [.agg (msC x),.agg (msC y)] M K:=by
  refine aF T.h162 (by simp only[PP,simprocAttr,PN]) ?_;simp only[af162,PP,simprocAttr,PN];unfold wA at u
  cases G:x.top with
  | true=>
    rw[G,if_pos rfl]at u
    cases B:y.top with
    | true=>rw[B,if_pos rfl]at u;simp only[PP,simprocAttr,PN,G,B];exact u
    | false=>rw[B,if_neg (by decide)]at u;simp only[PP,simprocAttr,PN,G,B,show(Jb==Jc)=Jc from rfl];exact u
  | false=>
    rw[G,if_neg (by decide)]at u
    cases B:y.top with
    | true=>rw[B,if_pos rfl]at u;simp only[PP,simprocAttr,PN,G,B,show(Jc==Jb)=Jc from rfl];exact u
    | false=>
      rw[B,if_neg (by decide)]at u;simp only[PP,simprocAttr,PN,G,B];refine cM (fun(k:Int)=> -1<=k/\k<=7/\kO (x.c.drop (k+1).toNat) (y.c.drop (k+1).toNat)=0) (fun k=>(.ae:: .ae:: .ptr 0 0 0:: .ptr 1 0 0:: .ae::p64 k::zj 35))
        (fun k=>[.cells 0 0 (msC x),.cells 0 0 (msC y)]) (fun k=>(k+1).toNat) 7 ⟨by decide,by decide,by
          rw[Eu (by rw[x.h];decide)];rfl⟩ ?_
      intro k ⟨h1,h2,h3⟩ S;refine aH (by kernel_rfl) ?_;simp only[PP,simprocAttr];refine QIf.intro (fun c=>?_) fun c=>?_
      · obtain⟨j,rfl⟩:∃j:Nat,k=j:=⟨k.toNat,by omega⟩;have J:(j:Int)<8:=by omega
        obtain⟨a,L⟩:=Ms.get (x:=x) (k:=j) (by omega);obtain⟨b,O⟩:=Ms.get (x:=y) (k:=j) (by omega);have Q:=tQ L;have R:=tQ O;have I:=u7 (j:=j) (by omega);have U:((j:Int)+1).toNat=j+1:=by omega
        rw[U]at h3;have E:=Q6 L O h3;simp only[PP,simprocAttr,c,J,Q,R];refine QIf.intro (fun d=>?_) fun d=>?_
        · rw[nI d]at E;simp only[PP,simprocAttr,d];rw[pJ j (by rw[E];decide),E]at u;exact u
        · simp only[PP,simprocAttr,d,J,c,Q,R];refine QIf.intro (fun e=>?_) fun e=>?_
          · rw[nJ e]at E;simp only[PP,simprocAttr,e];rw[pJ j (by rw[E];decide),E]at u;exact u
          · simp only[PP,simprocAttr,e,I];refine aE (S ((j:Int)-1) ⟨by omega,by omega,?_⟩ (by omega));rw[show((j:Int)-1+1).toNat=j by omega,E,pI];omega
      · have:k= -1:=by omega
        subst this;have h3:kO x.c y.c=0:=by simpa using h3
        rw[h3]at u;simp only[PP,simprocAttr];exact u
end
def V3{l:List Int}{k:Nat} :(Ag k (0:Int)++l.drop k)[k]? =l[k]? :=by rw[Bo (by simp),List.length_replicate,Cs,Bf,Dk]
def K9{l:List Int}{k:Nat}(y:Int)(h:k<l.length):(Ag k (0:Int)++l.drop k).set k y=Ag k 0++y::l.drop (k+1):=by rw[Dc _ _ (by simp),List.length_replicate,Cs,Ed h,Ct]
def wD{l:List Int}{k:Nat}(h:k<l.length):(Ag k (0:Int)++l.drop k).set k 0=Ag (k+1) 0++l.drop (k+1):=by rw[K9 0 h,Ia,Ab];rfl
section
variable {ns:List Nat} {x y:Ms} {q k:Nat}
def tM(ht:x.top=Jc):x.num ns=mr ns x.c:=by unfold Ms.num;rw[ht,if_neg (by decide)]
def GG(h:x.Ok ns)(ht:x.top=Jc)(hl:ns.length=8)(E:q<=8)(u:y.top=Jc)(B:y.c=Ag q 0++x.c.drop q):y.Ok ns/\y.num ns=(x.num ns / mB ns q)*mB ns q:=by have h1:=oK q h.1;refine⟨⟨by rw[B];exact tS q (by omega) h1,fun e=>by rw[u]at e;cases e⟩,?_⟩;rw[tM u,tM ht,B,yY q (by simp[x.h];omega),FD q h.1,Co]
def BC(ns:List Nat)(x:Ms)(q k:Nat):Prop:=∀(i:Nat) (c:Int) (n:Nat),q<=i->i<k->x.c[i]? =Iz c->ns[i]? =Iz n->c=n
def WC(h:x.Ok ns)(hl:ns.length=8):∀{k:Nat},q<=k->k<=8->BC ns x q k->(mr (ns.drop k) (x.c.drop k)+1)*mB ns k=(mr (ns.drop q) (x.c.drop q)+1)*mB ns q
  | 0,h1,h2,hf=>by
    have:q=0:=by omega
    subst this;rfl
  | k+1,h1,h2,hf=>by
    by_cases e:q=k+1
    · subst e;rfl
    · rw[<-WC h hl (k:=k) (by omega) (by omega) (fun i c n a b=>hf i c n a (by omega))];obtain⟨n,u⟩:∃n,ns[k]? =Iz n:=⟨_,Ad (by omega)⟩;obtain⟨c,B⟩:=Ms.get (x:=x) (k:=k) (by omega);have E:=hf k c n (by omega) (by omega) B u;rw[aCs u,fT u,fT B];show _=(c.toNat+(n+1)*mr (ns.drop (k+1)) (x.c.drop (k+1))+1)*mB ns k;rw[E,Ca,show n+(n+1)*mr (ns.drop (k+1)) (x.c.drop (k+1))+1=(n+1)*(mr (ns.drop (k+1)) (x.c.drop (k+1))+1) by rw[Gx];omega];rw[Co (mB ns k),<-Gy,Co (n+1)]
def PE(h:x.Ok ns)(ht:x.top=Jc)(hl:ns.length=8)(I:q<=k)(J:k<8)(hf:BC ns x q k){c:Int}{n:Nat}(B:x.c[k]? =Iz c)(u:ns[k]? =Iz n)(hlt:c<n)(E:y.top=Jc)
    (G:y.c=Ag k 0++(c+1)::x.c.drop (k+1)):y.Ok ns/\y.num ns=(x.num ns / mB ns q+1)*mB ns q:=by
  have h1:=oK k h.1;rw[fT u,fT B]at h1;have hd:mOk (ns.drop k) ((c+1)::x.c.drop (k+1)):=by rw[fT u];exact⟨by have:=h1.1;omega,by omega,h1.2.2⟩
  refine⟨⟨by rw[G];exact tS k (by omega) hd,fun e=>by rw[E]at e;cases e⟩,?_⟩;rw[tM E,tM ht,G,yY k (by simp[x.h];omega),FD q h.1,<-WC h hl I (by omega) hf,Co,fT u,fT B];congr 1;show(c+1).toNat+(n+1)*_=c.toNat+(n+1)*_+1;have:=h1.1;omega
def GH(h:x.Ok ns)(ht:x.top=Jc)(hl:ns.length=8)(u:q<=8)(hf:BC ns x q 8):mT ns=(x.num ns / mB ns q+1)*mB ns q:=by rw[tM ht,FD q h.1,<-WC h hl u (Ac _) hf,Eu (by omega),oJ ns 8,Eu (by omega)];simp[mr,mT]
def Ms.ol(h:x.Ok ns)(ht:x.top=Jc):x.num ns<mT ns:=by rw[tM ht];exact C7 h.1
end
def aDs(pr:List Int):Prop:=pr.length<1000000000000/\∀x∈pr,0<=x/\x<=16
def nB(pr:List Int){q:Nat}(h:q<8):(aP pr)[q]? =Iz (pr.count ((2*q+1:Nat):Int)):=e8 h
def C9{pr:List Int}{k:Nat}{x:Int}(g:pr[k]? =Iz x)(h:x % 2=0):aP (pr.take (k+1))=aP (pr.take k):=fQ fun v hv=>by
  rw[bV g,List.count_append,List.count_singleton];have:¬(x==((2*v+1:Nat):Int))=Jb:=by simp;omega
  rw[if_neg this];rfl
def I6{pr:List Int}{k q:Nat}{x:Int}(g:pr[k]? =Iz x)(h:x=((2*q+1:Nat):Int))(u:q<8):(aP (pr.take k)).set q ((pr.take k).count ((2*q+1:Nat):Int)+1)=aP (pr.take (k+1)):=by
  unfold aP;rw[rB _ u];refine fQ fun v hv=>?_;rw[bV g,List.count_append,List.count_singleton];by_cases e:v=q
  · subst e;rw[if_pos rfl,if_pos (by simp[h])]
  · rw[if_neg e,if_neg (by simp[h];omega)];rfl
section
variable {tab:FuncId->Option AF} (T:HasA tab){M:Mem}{K:PV->Mem->Prop}
include T
def vA{E G u B I J L O:Bool}{ow pr:List Int}{su:List (List Int)}(P:aDs pr)(hk:K (.cp (jO E G u B I J L O ow pr su) 0) M):
    ai tab 89 [gmP E G u B I J L O ow pr su] M K:=by
  obtain⟨hn,hp⟩:=P;refine aA5 (by simp only[PP,simprocAttr]) ?_;refine aN T.h89 ?_;simp only[af89,PP,simprocAttr,PN];refine cL (fun(k ver:Nat)=>k<=pr.length) (fun k ver=>(zj 3++ .ptr 1 0 0::zj 6++slI u B .i64 pr::p64 pr.length::p64 k::zj 19))
    (fun k ver=>[.cells 0 0 [slI E G .u8 ow,slI u B .i64 pr,slR I J L O .i64 su],.cells 0 ver (slI E G .u8 ow::slI u B .i64 pr::slR I J L O .i64 su::gT (aP (pr.take k)))])
    (fun k _=>pr.length-k) 0 0 (by omega) ?_
  intro k ver a1 ih;refine aH (by kernel_rfl) ?_;simp only[PP,simprocAttr];refine QIf.intro (fun c=>?_) fun c=>?_
  · have Y:k<pr.length:=by omega
    have k0:(0:Int)<=k:=by omega
    have kn:(k:Int)<pr.length:=by omega
    have Q:=aC (k:=k) (by show _<1000000000000;omega);obtain⟨x,V⟩:=aM (xs:=pr) (k:=k) Y;obtain⟨x0,x1⟩:=hp x (Ae V);have R:x.tmod 2=x % 2:=Fw x0;simp only[PP,simprocAttr,c,k0,kn,V,XD (show(2:Int)≠0 by decide),R];refine QIf.intro (fun d=>?_) fun d=>?_
    · obtain⟨q,hq,S⟩:∃q:Nat,x=((2*q+1:Nat):Int)/\q<8:=⟨(x / 2).toNat,by omega,by omega⟩;have U:IntKind.i64.wrap (x.tdiv 2)=(q:Int):=by
        rw[Fs x0,wrap64 (by omega) (by omega)];omega
      have a2:(pr.take k).count ((2*q+1:Nat):Int)<=(pr.take k).length:=Gz;have a0:(pr.take k).length<=pr.length:=by simp;omega
      have gl:=wT (nB (pr.take k) S);have Z:=aC (k:=(pr.take k).count ((2*q+1:Nat):Int)) (by show _<1000000000000;omega);have g3:(slI E G .u8 ow::slI u B .i64 pr::slR I J L O .i64 su::gT (aP (pr.take k)))[3+q]? =Iz (p64 ((pr.take k).count ((2*q+1:Nat):Int))):=by rw[Cy];exact gl
      have g4:∀y:PV,(slI E G .u8 ow::slI u B .i64 pr::slR I J L O .i64 su::gT (aP (pr.take k))).set (3+q) y=slI E G .u8 ow::slI u B .i64 pr::slR I J L O .i64 su::(gT (aP (pr.take k))).set q y:=fun y=>by rw[Cy];rfl
      have q0:(0:Int)<=q:=by omega
      have q8:(q:Int)<8:=by omega
      have q3:3+q+1<=11:=by omega
      simp only[PP,simprocAttr,PN,d,k0,kn,oE _ _ _ (show(2:Int)≠0 by decide),U,q0,q8,q3,g3,g4,Z,Q];refine aR (ih (k+1) (ver+1) (by omega) (by omega)) (by simp only[PW]) ?_;rw[I7,I6 V hq S]
    · simp only[PP,simprocAttr,d,Q];refine aR (ih (k+1) ver (by omega) (by omega)) (by simp only[PW]) ?_;rw[C9 V (by omega)]
  · have:k=pr.length:=by omega
    subst this;simp only[PP,simprocAttr,c];refine⟨1,0,ver,jO E G u B I J L O ow pr su,rfl,?_,rI _,hk⟩;rw[Ba (Ac _)];rfl
def Y5{L O Q R S U V Y:Bool}{ow pr:List Int}{su:List (List Int)}(P:aDs pr)(hk:K (.agg (gT (aP pr))) M):
    ai tab 192 [gmP L O Q R S U V Y ow pr su] M K:=by
  obtain⟨hn,hp⟩:=P;refine aF T.h192 (by simp only[PP,simprocAttr]) ?_;simp only[af192,PP,simprocAttr,PN];refine cL (fun(k ver:Nat)=>k<=pr.length) (fun k ver=>(.ae:: .ptr 0 0 0:: .ptr 1 0 0:: .ptr 2 0 0::p64 k::zj 25))
    (fun k ver=>[.cells 0 0 [slI L O .u8 ow,slI Q R .i64 pr,slR S U V Y .i64 su],.cells 0 0 (gT Y7),.cells 0 ver (gT (aP (pr.take k)))])
    (fun k _=>pr.length-k) 0 0 (by omega) ?_
  intro k ver a1 Z;refine aH (by kernel_rfl) ?_;simp only[PP,simprocAttr];refine QIf.intro (fun c=>?_) fun c=>?_
  · have I:k<pr.length:=by omega
    have k0:(0:Int)<=k:=by omega
    have kn:(k:Int)<pr.length:=by omega
    have u:=aC (k:=k) (by show _<1000000000000;omega);obtain⟨x,y⟩:=aM (xs:=pr) (k:=k) I;obtain⟨x0,x1⟩:=hp x (Ae y);have B:x.tmod 2=x % 2:=Fw x0;simp only[PP,simprocAttr,c,k0,kn,y,XD (show(2:Int)≠0 by decide),B];refine QIf.intro (fun d=>?_) fun d=>?_
    · obtain⟨q,hq,E⟩:∃q:Nat,x=((2*q+1:Nat):Int)/\q<8:=⟨(x / 2).toNat,by omega,by omega⟩;have G:IntKind.i64.wrap (x.tdiv 2)=(q:Int):=by
        rw[Fs x0,wrap64 (by omega) (by omega)];omega
      have a2:(pr.take k).count ((2*q+1:Nat):Int)<=(pr.take k).length:=Gz;have a0:(pr.take k).length<=pr.length:=by simp;omega
      have gl:=wT (nB (pr.take k) E);have J:=aC (k:=(pr.take k).count ((2*q+1:Nat):Int)) (by show _<1000000000000;omega);have q0:(0:Int)<=q:=by omega
      have q8:(q:Int)<8:=by omega
      have q3:q+1<=8:=by omega
      simp only[PP,simprocAttr,PN,d,k0,kn,y,oE _ _ _ (show(2:Int)≠0 by decide),G,q0,q8,q3,gl,J,u];refine aR (Z (k+1) (ver+1) (by omega) (by omega)) (by simp only[PW]) ?_;rw[I7,I6 y hq E]
    · simp only[PP,simprocAttr,d,u];refine aR (Z (k+1) ver (by omega) (by omega)) (by simp only[PW]) ?_;rw[C9 y (by omega)]
  · have:k=pr.length:=by omega
    subst this;rw[Ba (Ac _)];simp only[PP,simprocAttr,PN,c];exact hk
omit T in
def aDP(p:Nat):((p:Int)).tmod 2=((p % 2:Nat):Int):=by rw[Fw (by omega)];omega
omit T in
def XE{p:Nat}(h:p<=16):IntKind.i64.wrap ((p:Int).tdiv 2)=((p / 2:Nat):Int):=by rw[Fs (by omega),wrap64 (by omega) (by omega)];omega
def aFH{U V Y Z f3 o3 f4 o4:Bool}{ow pr:List Int}{su:List (List Int)}{p:Nat}{x:Ms}(hb:pr.length<1000000000000)(hp:p<=16)(B:x.Ok (aP pr))
    (hk:∀y:Ms,y.Ok (aP pr)->y.num (aP pr)=vN (aP pr) p (x.num (aP pr))->K (.agg (msC y)) M):
    ai tab 219 [.cp (jO U V Y Z f3 o3 f4 o4 ow pr su) 0,p64 p,.agg (msC x)] M K:=by
  have h8:=iB pr;have hlt:=wS hb;refine aF T.h219 (by simp only[PP,simprocAttr,PN,PV.under]) ?_;simp only[af219,PP,simprocAttr,PN]
  cases ht:x.top with
  | true=>simp only[PP,simprocAttr,PN,ht];refine hk x B ?_;rw[(Ms.lg B).2 ht,WB]
  | false=>
    have E:=Ms.ol B ht;simp only[PP,simprocAttr,PN,ht,oE _ _ _ (show(2:Int)≠0 by decide),XE hp];refine jE (fun(k ver:Nat) (y:Ms)=>k<=p / 2/\y.top=Jc/\y.c=Ag k 0++x.c.drop k)
      (fun k ver y=>(.cp (jO U V Y Z f3 o3 f4 o4 ow pr su) 0::p64 p::zj 3++ .ptr 0 0 0:: .ptr 1 0 0::zj 6++p64 ((p / 2:Nat):Int)::p64 k::zj 41))
      (fun k ver y=>[.cells 0 ver (msC y),.cells 0 0 (msC mz)]) (fun k _ _=>p / 2-k) 0 0 x ⟨by omega,ht,by simp⟩ ?_
    intro k ver y ⟨a6,J,G⟩ ih;refine aH (by kernel_rfl) ?_;simp only[PP,simprocAttr];refine QIf.intro (fun c=>?_) fun c=>?_
    · have u:k<8:=by omega
      have O:(0:Int)<=k:=by omega
      have Q:(k:Int)<8:=by omega
      have R:1+k+1<=9:=by omega
      have I:=aC (k:=k) (by show _<1000000000000;omega);simp only[PP,simprocAttr,PN,c,O,Q,R,pA,I];refine aR (ih (k+1) (ver+1) (y.put k 0) ⟨by omega,J,?_⟩ (by omega)) (by simp only[PW]) rfl;show y.c.set k 0=_;rw[G];exact wD (by rw[x.h];exact u)
    · have a0:k=p / 2:=by omega
      subst a0;simp only[PP,simprocAttr,PN,c,XD (show(2:Int)≠0 by decide),aDP];obtain⟨z1,z2⟩:=GG B ht h8 (show p / 2<=8 by omega) J G;refine QIf.intro (fun d=>?_) fun d=>?_
      · have e0:p % 2=0:=by omega
        simp only[PP,simprocAttr,PN,d];exact hk y z1 (by rw[z2,B2 E,e0,Dk])
      · have e1:p % 2=1:=by omega
        simp only[PP,simprocAttr,PN,d,oE _ _ _ (show(2:Int)≠0 by decide),XE hp];refine jE (fun(k ver:Nat) (y:Ms)=>p / 2<=k/\k<=8/\y.top=Jc/\y.c=Ag k 0++x.c.drop k/\BC (aP pr) x (p / 2) k)
          (fun k ver y=>(.cp (jO U V Y Z f3 o3 f4 o4 ow pr su) 0::zj 4++ .ptr 0 0 0:: .ptr 1 0 0:: .ae::p64 k::zj 47))
          (fun k ver y=>[.cells 0 ver (msC y),.cells 0 0 (msC mz)]) (fun k _ _=>8-k) (p / 2) ver y ⟨Ac _,by omega,J,G,fun i c n a b=>by omega⟩ ?_
        clear ih c;intro k ver y ⟨S,a5,J,G,hf⟩ ih;refine aH (by kernel_rfl) ?_;simp only[PP,simprocAttr];refine QIf.intro (fun c=>?_) fun c=>?_
        · have u:k<8:=by omega
          have O:(0:Int)<=k:=by omega
          have Q:(k:Int)<8:=by omega
          have R:1+k+1<=9:=by omega
          have a3:¬(k:Int)=8:=by omega
          have I:=aC (k:=k) (by show _<1000000000000;omega);obtain⟨a,ga⟩:=Ms.get (x:=x) u;have gy:y.c[k]? =Iz a:=by rw[G,V3,ga]
          have L:=nB pr u;generalize pr.count ((2*k+1:Nat):Int)=n at L;have hn:=hlt n (Ae L);have g1:=tQ gy;have g2:(jO U V Y Z f3 o3 f4 o4 ow pr su)[3+k]? =Iz (p64 n):=PU L;have a7:0<=a/\a<=n:=by have:=oK k B.1;rw[fT L,fT ga]at this;exact⟨this.1,this.2.1⟩
          have a4:IntKind.i64.wrap (a+1)=a+1:=wrap64 (by omega) (by omega);simp only[PP,simprocAttr,PN,c,O,Q,R,g1,g2];refine QIf.intro (fun e=>?_) fun e=>?_
          · simp only[PP,simprocAttr,PN,e,c,O,Q,R,g1,a4,pA,a3];obtain⟨w1,w2⟩:=PE (y:=y.put k (a+1)) B ht h8 S u hf ga L e J (by show y.c.set k (a+1)=_;rw[G];exact K9 _ (by rw[x.h];exact u));exact hk _ w1 (by rw[w2,B2 E,e1])
          · simp only[PP,simprocAttr,PN,e,O,Q,R,pA,I];refine aR (ih (k+1) (ver+1) (y.put k 0) ⟨by omega,by omega,J,?_,fun i c m a1 a2 g5 g6=>?_⟩ (by omega)) (by simp only[PW]) rfl
            · show y.c.set k 0=_;rw[G];exact wD (by rw[x.h];exact u)
            · by_cases ei:i=k
              · subst ei;rw[ga]at g5;rw[L]at g6;cases g5;cases g6;omega
              · exact hf i c m a1 (by omega) g5 g6
        · have u:k=8:=by omega
          subst u;simp only[PP,simprocAttr,PN];refine hk pj (FC h8) ?_;rw[IW,B2 E,e1];exact GH B ht h8 (by omega) hf
def aEl{f1 o1 f2 o2 f3 o3 f4 o4:Bool}{ow pr:List Int}{su:List (List Int)}{p:Nat}{x:Ms}(P:aDs pr)(hp:p<=16)(B:x.Ok (aP pr))
    (V:∀y:Ms,y.Ok (aP pr)->y.num (aP pr)=vN (aP pr) p (x.num (aP pr))->K (.agg (msC y)) M):
    ai tab 163 [gmP f1 o1 f2 o2 f3 o3 f4 o4 ow pr su,p64 p,.agg (msC x)] M K:=by
  have Y:=iB pr;have hlt:=wS P.1;refine aF T.h163 (by simp only[PP,simprocAttr,PN,PV.under]) ?_;simp only[af163,PP,simprocAttr,PN]
  cases ht:x.top with
  | true=>simp only[PP,simprocAttr,PN,ht];refine V x B ?_;rw[(Ms.lg B).2 ht,WB]
  | false=>
    have E:=Ms.ol B ht;simp only[PP,simprocAttr,PN,ht];refine Y5 T P ?_;simp only[PP,simprocAttr,PN];refine jE (fun(k ver:Nat) (y:Ms)=>k<=p / 2/\y.top=Jc/\y.c=Ag k 0++x.c.drop k)
      (fun k ver y=>(.ae::p64 p::zj 3++ .ptr 1 0 0:: .ptr 2 0 0:: .ptr 3 0 0::p64 k::zj 50))
      (fun k ver y=>[.cells 0 0 [slI f1 o1 .u8 ow,slI f2 o2 .i64 pr,slR f3 o3 f4 o4 .i64 su],.cells 0 ver (msC y),.cells 0 0 (msC mz),.cells 0 1 (gT (aP pr))]) (fun k _ _=>p / 2-k) 0 0 x ⟨by omega,ht,by simp⟩ ?_
    intro k ver y ⟨a5,J,G⟩ Z;have O:IntKind.i64.wrap (IntKind.i64.wrap (2*(k:Int))+1)=2*(k:Int)+1:=by rw[wrap64 (x:=2*(k:Int)) (by omega) (by omega),wrap64 (x:=2*(k:Int)+1) (by omega) (by omega)]
    refine aH (by kernel_rfl) ?_;simp only[PP,simprocAttr,O];refine QIf.intro (fun c=>?_) fun c=>?_
    · have u:k<8:=by omega
      have Q:(0:Int)<=k:=by omega
      have R:(k:Int)<8:=by omega
      have S:1+k+1<=9:=by omega
      have I:=aC (k:=k) (by show _<1000000000000;omega);simp only[PP,simprocAttr,PN,c,Q,R,S,pA,I];refine aR (Z (k+1) (ver+1) (y.put k 0) ⟨by omega,J,?_⟩ (by omega)) (by simp only[PW]) rfl;show y.c.set k 0=_;rw[G];exact wD (by rw[x.h];exact u)
    · have a0:k=p / 2:=by omega
      subst a0;simp only[PP,simprocAttr,PN,c,XD (show(2:Int)≠0 by decide),aDP];obtain⟨z1,z2⟩:=GG B ht Y (show p / 2<=8 by omega) J G;refine QIf.intro (fun d=>?_) fun d=>?_
      · have e0:p % 2=0:=by omega
        simp only[PP,simprocAttr,PN,d];exact V y z1 (by rw[z2,B2 E,e0,Dk])
      · have e1:p % 2=1:=by omega
        simp only[PP,simprocAttr,PN,d,oE _ _ _ (show(2:Int)≠0 by decide),XE hp];refine jE (fun(k ver:Nat) (y:Ms)=>p / 2<=k/\k<=8/\y.top=Jc/\y.c=Ag k 0++x.c.drop k/\BC (aP pr) x (p / 2) k)
          (fun k ver y=>(zj 5++ .ptr 1 0 0:: .ptr 2 0 0:: .ptr 3 0 0:: .ae::p64 k::zj 49))
          (fun k ver y=>[.cells 0 0 [slI f1 o1 .u8 ow,slI f2 o2 .i64 pr,slR f3 o3 f4 o4 .i64 su],.cells 0 ver (msC y),.cells 0 0 (msC mz),.cells 0 1 (gT (aP pr))]) (fun k _ _=>8-k) (p / 2) ver y ⟨Ac _,by omega,J,G,fun i c n a b=>by omega⟩ ?_
        clear Z c O;intro k ver y ⟨U,a4,J,G,hf⟩ Z;refine aH (by kernel_rfl) ?_;simp only[PP,simprocAttr];refine QIf.intro (fun c=>?_) fun c=>?_
        · have u:k<8:=by omega
          have Q:(0:Int)<=k:=by omega
          have R:(k:Int)<8:=by omega
          have S:1+k+1<=9:=by omega
          have I:=aC (k:=k) (by show _<1000000000000;omega);obtain⟨a,ga⟩:=Ms.get (x:=x) u;have gy:y.c[k]? =Iz a:=by rw[G,V3,ga]
          have L:=nB pr u;generalize pr.count ((2*k+1:Nat):Int)=n at L;have hn:=hlt n (Ae L);have g1:=tQ gy;have g2:=wT L;have a6:0<=a/\a<=n:=by have:=oK k B.1;rw[fT L,fT ga]at this;exact⟨this.1,this.2.1⟩
          have a3:IntKind.i64.wrap (a+1)=a+1:=wrap64 (by omega) (by omega);simp only[PP,simprocAttr,PN,c,Q,R,S,g1,g2];refine QIf.intro (fun e=>?_) fun e=>?_
          · simp only[PP,simprocAttr,PN,e,c,Q,R,S,g1,a3,pA];obtain⟨w1,w2⟩:=PE (y:=y.put k (a+1)) B ht Y U u hf ga L e J (by show y.c.set k (a+1)=_;rw[G];exact K9 _ (by rw[x.h];exact u));exact V _ w1 (by rw[w2,B2 E,e1])
          · simp only[PP,simprocAttr,PN,e,Q,R,S,pA,I];refine aR (Z (k+1) (ver+1) (y.put k 0) ⟨by omega,by omega,J,?_,fun i c m a1 a2 g5 g6=>?_⟩ (by omega)) (by simp only[PW]) rfl
            · show y.c.set k 0=_;rw[G];exact wD (by rw[x.h];exact u)
            · by_cases ei:i=k
              · subst ei;rw[ga]at g5;rw[L]at g6;cases g5;cases g6;omega
              · exact hf i c m a1 (by omega) g5 g6
        · have u:k=8:=by omega
          subst u;simp only[PP,simprocAttr,PN];refine V pj (FC Y) ?_;rw[IW,B2 E,e1];exact GH B ht Y (by omega) hf
omit T in
def S7(x:Ms):aZ (msC x) 1 8=x.c.map (PV.int .i64):=by unfold aZ msC;rw[List.drop_succ_cons,Fa,Ba (by simp[x.h])]
omit T in
def aFU{pr:List Int}{x:Ms}(h:∀(k:Nat) (c:Int),k<8->x.c[k]? =Iz c->0<=c/\c<=(pr.count ((2*k+1:Nat):Int):Nat)):mOk (aP pr) x.c:=
  YZ (by rw[x.h,iB]) fun u c n h1 h2=>by
    have y:u<8:=by have:=aI h1;rwa [x.h]at this
    rw[nB pr y]at h2;cases h2;exact h u c y h1
omit T in
def YD{pr:List Int}{x:Ms}(h:x.Ok (aP pr)){k:Nat}{c:Int}(u:k<8)(g:x.c[k]? =Iz c):0<=c/\c<=(pr.count ((2*k+1:Nat):Int):Nat):=QJ h.1 g (nB pr u)
omit T in
def YP:pj.fit:=fun c u=>by have:=List.eq_of_mem_replicate (show c∈Ag 8 (0:Int)from u);omega
def aBz{G I J L O Q R S:Bool}{ow pr:List Int}{su:List (List Int)}{x:Ms}(hb:pr.length<1000000000000)
    (U:∀b:Bool,(b=Jb↔x.Ok (aP pr))->K (.bool b) M):
    ai tab 269 [.cp (jO G I J L O Q R S ow pr su) 0,.agg (msC x)] M K:=by
  have h8:=iB pr;have hlt:=wS hb;have V:x.Ok (aP pr)->K (.bool Jb) M:=fun h=>U Jb ⟨fun _=>h,fun _=>rfl⟩;have Z:¬x.Ok (aP pr)->K (.bool Jc) M:=fun h=>U Jc ⟨fun q=>(by cases q),fun q=>absurd q h⟩;refine aF T.h269 (by simp only[PP,simprocAttr,PN,PV.under]) ?_;simp only[af269,PP,simprocAttr,PN,S7];refine cM (fun(k:Nat)=>k<=8/\∀(i:Nat) (c:Int),i<k->x.c[i]? =Iz c->0<=c/\c<=(pr.count ((2*i+1:Nat):Int):Nat))
    (fun k=>(.cp (jO G I J L O Q R S ow pr su) 0:: .ae:: .ae:: .ptr 0 0 0::zj 4++ .agg (x.c.map (PV.int .i64))::p64 k::zj 24))
    (fun k=>[.cells 0 0 (msC x)]) (fun k=>8-k) 0 ⟨by omega,fun i c h=>by omega⟩ ?_
  intro k ⟨a0,hc⟩ ih;refine aH (by kernel_rfl) ?_;simp only[PP,simprocAttr];refine QIf.intro (fun c=>?_) fun c=>?_
  · have u:k<8:=by omega
    have k0:(0:Int)<=k:=by omega
    have k8:(k:Int)<8:=by omega
    have Y:=aC (k:=k) (by show _<1000000000000;omega);obtain⟨a,y⟩:=Ms.get (x:=x) u;have gn:=nB pr u;have g2:=PU (f1:=G) (o1:=I) (f2:=J) (o2:=L) (f3:=O) (o3:=Q) (f4:=R) (o4:=S) (ow:=ow) (su:=su) gn;simp only[PP,simprocAttr,PN,c,k0,k8,y];refine QIf.intro (fun d=>?_) fun d=>?_
    · simp only[PP,simprocAttr,d];exact Z fun h=>by have:=YD h u y;omega
    · simp only[PP,simprocAttr,PN,c,d,k0,k8,y,g2];refine QIf.intro (fun e=>?_) fun e=>?_
      · simp only[PP,simprocAttr,e];exact Z fun h=>by have:=YD h u y;omega
      · simp only[PP,simprocAttr,e,Y];refine aE (ih (k+1) ⟨by omega,fun i c' h1 h2=>?_⟩ (by omega));by_cases ei:i=k
        · subst ei;rw[y]at h2;cases h2;omega
        · exact hc i c' (by omega) h2
  · have u:k=8:=by omega
    subst u;have B:=aFU hc
    cases ht:x.top with
    | false=>simp only[PP,simprocAttr,PN,ht];exact V ⟨B,fun h=>by rw[ht]at h;cases h⟩
    | true=>
      have E:x.fit:=Ms.Ok.fit (x:=⟨Jc,x.c,x.h⟩) (ns:=aP pr) ⟨B,fun h=>by cases h⟩ hlt;simp only[PP,simprocAttr,PN,ht,QD E YP];refine U _ ?_;rw[decide_eq_true_eq];constructor
      · intro h;rw[h];exact FC h8
      · intro h;exact Ms.ext' ht (h.2 ht)
end
end Go.Am.Ar

