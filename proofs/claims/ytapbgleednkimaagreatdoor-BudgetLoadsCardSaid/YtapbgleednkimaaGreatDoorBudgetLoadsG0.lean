/- Contracts of the small functions that games are checked with, and what goes with it. -/
import Derived.Test.YtapbgleednkimaaGreatDoorBudgetLoadsCode
set_option linter.all false
set_option maxRecDepth 10000
open List renaming drop_eq_getElem_cons->Ek,getElem?_eq_getElem->Ad,take_add_one->Cp,getD->Ax,drop_eq_nil_of_le->Bz,getElem_mem->Df,mem_cons->Cu,mem_filter->Eh,length_cons->As,mem_map->Fe,flatMap_cons->Cd,length_append->An,all_append->Cc,take_append_drop->Cy,set_eq_take_append_cons_drop->Io,append_assoc->Ab,drop_left->Gk,getElem?_append_right->Bx,set_append_right->Dk,getElem?_take->Bc,getElem?_drop->Bg,mem_of_getElem?->Af,getElem?_eq_none->Bk,length_take->Bu,range->Aw,range_succ->Et,getElem?_map->Av,getElem?_range->Ee,replicate->Ah,getElem?_append_left->Bj,foldl_cons->Ed,cons_append->Al,nil_append->Aq,set_cons_succ->Ea,replicate_succ->Eu,length_nil->Bl,map->Gr,length_map->Ap,take_of_length_le->Be,filter_append->Gm,getElem?_of_mem->Dj,any_eq_true->Gd,map_cons->Ak,replicate_succ'->It,idxOf_append->Fl,map_congr_left->Dt,nodup_append->Hg,map_append->Ay,mem_append->Ci,mem_singleton->Bp,length_filter_le->Ft,range_zero->Hi,filter_nil->Iy,append_nil->Bv,take_zero->Iz,map_nil->Bq,take_left'->Bb,drop_length->Gx,take_length->En,getElem?_cons_succ->Cl,set_cons_zero->De,mem_cons_of_mem->Ds,map_set->Je,drop_of_length_le->Fm,count_le_length->Ho
open Int renaming cast_ofNat_Int->Fg,le_refl->Cq,tdiv_eq_ediv_of_nonneg->Gg,tmod_eq_emod_of_nonneg->Hf,toNat->Dc,toNat_natCast->Ck
open Nat renaming lt_irrefl->Im,add_assoc->Cs,add_comm->Dh,le_refl->Ac,lt_of_le_of_lt->Hc,le_trans->Aj,sub_self->Dd,lt_or_ge->Ba,mod_lt->Dx,lt_trichotomy->Gw,mod_eq_of_lt->Fx,pow_lt_pow_right->Iv,zero_le->Ai,reduceAdd->El,div_div_eq_div_mul->Is,zero_add->Az,add_zero->Dw,min_eq_left->Dv,succ_pos->Jb,mul_le_mul_left->Jc,mul_add->Hk,mul_assoc->Hm,min_le_left->Ge,mul_le_mul_right->Dr,add_mul->Dg,mul_comm->Da
open BitVec renaming ofInt->Bh,eq_of_getLsbD_eq->Fi,twoPow->Db,getLsbD_twoPow->He,eq_of_toNat_eq->Gl,getLsbD_of_ge->Fj,getLsbD_and->Iw,ofNat->Ix
open Classical renaming byContradiction->Cb
open Option renaming map_some->Cr,getD->Fk,toList_some->Gi,some->Jm,none->Jn
open Bool renaming false_eq_true->Bf,and_eq_true->Au,or_eq_true->Ei,eq_iff_iff->Gn,true->Jo,false->Jp
open And renaming intro->Aa
namespace Go.Am.Ar
open Go.Am.PV renaming aa->Zj
open Go.Am renaming jj->P1,mj->P2,ls->P3,fe->P4,cm.under->P5,ig->P6,du->P7,ct->P8,pev->P9,ji->P10,bd->P11,ll->P12,dv->P13,cK->P14,AO.effect->P15
open List renaming replicate->L1
attribute [simp] hP hU
abbrev big:Nat:=1000000000000
def aC{k:Nat}(h:k<big):IntKind.i64.wrap ((k:Int)+1)=((k+1:Nat):Int):=by have h:k<1000000000000:=h;rw[wrap64 (by omega) (by omega)];omega
def dJ{α:Type}{u:List α}{k:Nat}(h:k<u.length):u.drop k=u[k]::u.drop (k+1):=Ek h
def aM{α:Type}{xs:List α}{k:Nat}(h:k<xs.length):∃x,xs[k]? =Jm x:=⟨xs[k],Ad h⟩
def gB{α:Type}{u:List α}{k:Nat}{x:α}(h:u[k]? =Jm x):u.drop k=x::u.drop (k+1):=by have y:=aI h;rw[Ek y];rw[Ad y]at h;cases h;rfl
def bZ{α:Type}{u:List α}{k:Nat}{x:α}(h:u[k]? =Jm x):u.take (k+1)=u.take k++[x]:=by simp[Cp,h]
def getD_some{u:List Int}{k:Nat}{x:Int}(h:u[k]? =Jm x):u.getD k 0=x:=by simp[Ax,h]
def dZ(n:Int):Int->List Int->Bool
  | _,[]=>Jo
  | u,v::l=>if v<=u then Jp else if n<=v then Jp else dZ n v l
section
variable {tab:Tb} (T:HasA tab){M:Mem}{K:Kp}
include T
def J0{f o:Bool}{y:List Int}{n:Int}(hm:y.length<big)(G:K (.bool (dZ n (-1) y)) M):
    aj tab 151 [slI f o .i64 y,p64 n] M K:=by
  refine aF T.h151 (by simp only[PP,simprocAttr]) ?_;simp only[af151,PP,simprocAttr];refine cQ (fun(k:Nat) (u:Int)=>k<=y.length/\K (.bool (dZ n u (y.drop k))) M) (fun k u=>(.aa::p64 n::zj 3++p64 u:: .aa:: .aa::slI f o .i64 y::p64 y.length::p64 k::zj 13)) (fun _ _=>[]) (fun k _=>y.length-k) 0 (-1) ⟨by omega,G⟩ (by simp only[PW]) rfl ?_;intro k u ⟨G,B⟩ I;refine aH (by kernel_rfl) ?_;simp only[PP,simprocAttr];refine QIf.intro (fun c=>?_) fun c=>?_
  · have E:k<y.length:=by omega
    rw[dJ E]at B;have hw:=aC (k:=k) (by omega);have hg:y[k]? =Jm y[k]:=Ad E;have h0:(0:Int)<=k:=by omega
    simp only[PP,simprocAttr,dZ,c,hg,h0]at B ⊢;refine QIf.intro (fun h1=>?_) fun h1=>?_
    · simp only[PP,simprocAttr,h1]at B ⊢;exact B
    · simp only[PP,simprocAttr,h1]at B ⊢;refine QIf.intro (fun h2=>?_) fun h2=>?_
      · simp only[PP,simprocAttr,h2]at B ⊢;exact B
      · simp only[PP,simprocAttr,h2,hw]at B ⊢;exact aE (I (k+1) _ ⟨by omega,B⟩ (by omega)) (by simp only[PW])
  · simp only[PP,simprocAttr,c];rw[Bz (by omega)]at B;exact B
abbrev gmP(u y B E G I f4 J:Bool)(ow pr:List Int)(su:List (List Int)):PV:= .agg [slI u y .u8 ow,slI B E .i64 pr,slR G I f4 J .i64 su]
structure Bnd (ow pr:List Int) (su:List (List Int)):Prop where
  o:ow.length<big
  p:pr.length<big
  s:su.length<big
  r:∀row∈su,row.length<big
def gC(ow pr:List Int):Nat->List (List Int)->Int
  | _,[]=>0
  | k,row::rest=>if 1<ow.getD k 0 then 6 else if pr.getD k 0<0 then 1 else if 16<pr.getD k 0 then 1 else if(row.length:Int)=0 then 13 else if dZ ow.length (-1) row=Jp then 8 else gC ow pr (k+1) rest
def bO(ow pr:List Int)(su:List (List Int)):Int:=
  if(ow.length:Int)=0 then 3 else if 4096<(ow.length:Int)then 10 else if(pr.length:Int)=ow.length then(if(su.length:Int)=ow.length then gC ow pr 0 su else 2)else 2
omit T in
def QB{ow pr:List Int}{su:List (List Int)}(h:bO ow pr su=0):0<ow.length/\ow.length<=4096/\pr.length=ow.length/\su.length=ow.length/\gC ow pr 0 su=0:=by
  unfold bO at h;split at h
  · simp at h
  · split at h
    · simp at h
    · split at h
      · split at h
        · exact⟨by omega,by omega,by omega,by omega,h⟩
        · simp at h
      · simp at h
def HN{Y Z f2 o2 I J f4 L:Bool}{ow pr:List Int}{su:List (List Int)}(B:Bnd ow pr su)(u:K (p64 (bO ow pr su)) M):
    aj tab 88 [gmP Y Z f2 o2 I J f4 L ow pr su] M K:=by
  refine aF T.h88 (by simp only[PP,simprocAttr]) ?_;simp only[af88,PP,simprocAttr,bO]at u ⊢;refine QIf.intro (fun O=>?_) fun O=>?_
  · simp only[PP,simprocAttr,O]at u ⊢;exact u
  simp only[PP,simprocAttr,O]at u ⊢;refine QIf.intro (fun Q=>?_) fun Q=>?_
  · simp only[PP,simprocAttr,Q]at u ⊢;exact u
  simp only[PP,simprocAttr,Q]at u ⊢;refine QIf.intro (fun R=>?_) fun R=>?_;rotate_left
  · simp only[PP,simprocAttr,R]at u ⊢;exact u
  simp only[PP,simprocAttr,R]at u ⊢;refine QIf.intro (fun S=>?_) fun S=>?_;rotate_left
  · simp only[PP,simprocAttr,S]at u ⊢;exact u
  simp only[PP,simprocAttr,S]at u ⊢;have d4:su.length=ow.length:=by omega
  refine dN (fun(k:Nat)=>k<=su.length/\K (p64 (gC ow pr k (su.drop k))) M) (fun k=>(.aa:: .ptr 0 0 0:: .aa::p64 ow.length::zj 25++slR I J f4 L .i64 su::p64 ow.length::p64 k::zj 36)) (fun _=>[.cells 0 0 [slI Y Z .u8 ow,slI f2 o2 .i64 pr,slR I J f4 L .i64 su]]) (fun k=>su.length-k) 0 ⟨by omega,u⟩ (by simp only[PW]) rfl ?_;intro k ⟨a0,u⟩ ih;refine aH (by kernel_rfl) ?_;simp only[PP,simprocAttr];refine QIf.intro (fun c=>?_) fun c=>?_
  · have y:k<su.length:=by omega
    have g1:su[k]? =Jm su[k]:=Ad y;have g2:ow[k]? =Jm ow[k]:=Ad (by omega);have G:pr[k]? =Jm pr[k]:=Ad (by omega);have h0:(0:Int)<=k:=by omega
    have hw:=aC (k:=k) (by have:=B.s;omega);have e2:ow.getD k 0=ow[k]:=by simp[Ax,g2]
    have e3:pr.getD k 0=pr[k]:=by simp[Ax,G]
    rw[dJ y]at u;have U:(k:Int)<su.length:=by omega
    have E:(k:Int)<pr.length:=by omega
    simp only[PP,simprocAttr,gC,c,g1,g2,h0,e2,e3,U]at u ⊢;refine QIf.intro (fun h1=>?_) fun h1=>?_
    · simp only[PP,simprocAttr,h1]at u ⊢;exact u
    simp only[PP,simprocAttr,h1,G,E,h0]at u ⊢;refine QIf.intro (fun h2=>?_) fun h2=>?_
    · simp only[PP,simprocAttr,h2]at u ⊢;exact u
    simp only[PP,simprocAttr,h2,G,E,h0]at u ⊢;refine QIf.intro (fun h3=>?_) fun h3=>?_
    · simp only[PP,simprocAttr,h3]at u ⊢;exact u
    simp only[PP,simprocAttr,h3]at u ⊢;refine QIf.intro (fun V=>?_) fun V=>?_
    · simp only[PP,simprocAttr,V]at u ⊢;exact u
    simp only[PP,simprocAttr,V]at u ⊢;refine J0 T (B.r _ (Df y)) ?_;simp only[PP,simprocAttr];by_cases h5:dZ ow.length (-1) su[k]=Jo
    · simp only[PP,simprocAttr,h5,hw]at u ⊢;exact aE (ih (k+1) ⟨by omega,u⟩ (by omega)) (by simp only[PW])
    · simp only[PP,simprocAttr,h5]at u ⊢;exact u
  · simp only[PP,simprocAttr,c];rw[Bz (by omega)]at u;exact u
def lH{f o O Q:Bool}{u y:List Int}(hm:u.length<big)(J:K (.bool (decide (u=y))) M):
    aj tab 29 [slI f o .i64 u,slI O Q .i64 y] M K:=by
  refine aF T.h29 (by simp only[PP,simprocAttr]) ?_;simp only[af29,PP,simprocAttr];refine QIf.intro (fun I=>?_) fun I=>?_
  · simp only[PP,simprocAttr,I];have hl:u.length=y.length:=by omega
    refine dN (fun(k:Nat)=>k<=u.length/\K (.bool (decide (u.drop k=y.drop k))) M) (fun k=>(slI f o .i64 u::slI O Q .i64 y::zj 3++p64 k::zj 20)) (fun _=>[]) (fun k=>u.length-k) 0 ⟨by omega,J⟩ (by simp only[PW]) rfl ?_;intro k ⟨R,B⟩ S;refine aH (by kernel_rfl) ?_;simp only[PP,simprocAttr];refine QIf.intro (fun c=>?_) fun c=>?_
    · have E:k<u.length:=by omega
      have G:k<y.length:=by omega
      rw[dJ E,dJ G]at B;have hw:=aC (k:=k) (by omega);have U:u[k]? =Jm u[k]:=Ad E;have V:y[k]? =Jm y[k]:=Ad G;have h0:(0:Int)<=k:=by omega
      have Y:(k:Int)<y.length:=by omega
      simp only[PP,simprocAttr,c,U,V,h0,Y]at B ⊢;refine QIf.intro (fun h1=>?_) fun h1=>?_
      · simp only[PP,simprocAttr,h1,hw,List.cons.injEq]at B ⊢;exact aE (S (k+1) ⟨by omega,B⟩ (by omega)) (by simp only[PW])
      · simp only[PP,simprocAttr,h1,List.cons.injEq]at B ⊢;exact B
    · simp only[PP,simprocAttr,c];rw[Bz (by omega),Bz (by omega)]at B;simp only[PP,simprocAttr]at B;exact B
  · simp only[PP,simprocAttr,I];have L:¬u=y:=by rintro rfl;exact I rfl
    simp only[PP,simprocAttr,L]at J;exact J
def BA{f o:Bool}{u:List Int}{v:Int}(hm:u.length<big)(G:K (.bool (decide (v∈u))) M):
    aj tab 102 [slI f o .i64 u,p64 v] M K:=by
  refine aF T.h102 (by simp only[PP,simprocAttr]) ?_;simp only[af102,PP,simprocAttr];refine dN (fun(k:Nat)=>k<=u.length/\K (.bool (decide (v∈u.drop k))) M) (fun k=>(slI f o .i64 u::p64 v::zj 3++p64 k::zj 12)) (fun _=>[]) (fun k=>u.length-k) 0 ⟨by omega,G⟩ (by simp only[PW]) rfl ?_;intro k ⟨I,y⟩ J;refine aH (by kernel_rfl) ?_;simp only[PP,simprocAttr];refine QIf.intro (fun c=>?_) fun c=>?_
  · have B:k<u.length:=by omega
    rw[dJ B]at y;have hw:=aC (k:=k) (by omega);have L:u[k]? =Jm u[k]:=Ad B;have h0:(0:Int)<=k:=by omega
    simp only[PP,simprocAttr,c,L,h0,Cu]at y ⊢;refine QIf.intro (fun h1=>?_) fun h1=>?_
    · simp only[PP,simprocAttr,h1]at y ⊢;exact y
    · have E:¬v=u[k]:=fun e=>h1 e.symm;simp only[PP,simprocAttr,h1,E,hw]at y ⊢;exact aE (J (k+1) ⟨by omega,y⟩ (by omega)) (by simp only[PW])
  · simp only[PP,simprocAttr,c];rw[Bz (by omega)]at y;simp only[PP,simprocAttr,List.not_mem_nil]at y;exact y
def BT{f o:Bool}{u:List Int}(hm:u.length<big)(y:K (slI Jp Jo .i64 u) M):
    aj tab 36 [slI f o .i64 u] M K:=by
  refine aF T.h36 (by simp only[PP,simprocAttr]) ?_;have hb:u.length<1000000000000:=hm;have B:u.length*8<=140737488355328:=by omega
  have E:u.length<=9223372036854775807:=by omega
  simp only[af36,PP,simprocAttr,B,E];exact y
def wL{f o O Q R S U V:Bool}{u y:List (List Int)}(hm:u.length<big)(hr:∀r∈u,r.length<big)(J:K (.bool (decide (u=y))) M):
    aj tab 33 [slR f o R S .i64 u,slR O Q U V .i64 y] M K:=by
  refine aF T.h33 (by simp only[PP,simprocAttr]) ?_;simp only[af33,PP,simprocAttr];refine QIf.intro (fun I=>?_) fun I=>?_
  · simp only[PP,simprocAttr,I];have hl:u.length=y.length:=by omega
    refine dN (fun(k:Nat)=>k<=u.length/\K (.bool (decide (u.drop k=y.drop k))) M) (fun k=>(slR f o R S .i64 u::slR O Q U V .i64 y::zj 3++p64 k::zj 21)) (fun _=>[]) (fun k=>u.length-k) 0 ⟨by omega,J⟩ (by simp only[PW]) rfl ?_;intro k ⟨Y,B⟩ Z;refine aH (by kernel_rfl) ?_;simp only[PP,simprocAttr];refine QIf.intro (fun c=>?_) fun c=>?_
    · have E:k<u.length:=by omega
      have G:k<y.length:=by omega
      rw[dJ E,dJ G]at B;have hw:=aC (k:=k) (by omega);have q1:u[k]? =Jm u[k]:=Ad E;have q2:y[k]? =Jm y[k]:=Ad G;have h0:(0:Int)<=k:=by omega
      have cy:(k:Int)<y.length:=by omega
      simp only[PP,simprocAttr,c,q1,q2,h0,cy]at B ⊢;refine lH T (hr _ (Df E)) ?_;by_cases h1:u[k]=y[k]
      · simp only[PP,simprocAttr,h1,hw,List.cons.injEq]at B ⊢;exact aE (Z (k+1) ⟨by omega,B⟩ (by omega)) (by simp only[PW])
      · simp only[PP,simprocAttr,h1,List.cons.injEq]at B ⊢;exact B
    · simp only[PP,simprocAttr,c];rw[Bz (by omega),Bz (by omega)]at B;simp only[PP,simprocAttr]at B;exact B
  · simp only[PP,simprocAttr,I];have L:¬u=y:=by rintro rfl;exact I rfl
    simp only[PP,simprocAttr,L]at J;exact J
end
def jY:Int->List Int->Int
  | m,[]=>m
  | m,x::l=>jY (max m x) l
section
variable {tab:Tb} (T:HasA tab){M:Mem}{K:Kp}
include T
def aDE{f o:Bool}{y:List Int}{n:Int}(hm:y.length<big)(Q:K (.bool (dZ n (-1) y)) M):
    aj tab 99 [slI f o .i64 y,p64 n] M K:=by
  refine aF T.h99 (by simp only[PP,simprocAttr]) ?_;simp only[af99,PP,simprocAttr];refine cQ (fun(k:Nat) (u:Int)=>k<=y.length/\-1<=u/\((k=0/\u= -1)\/(0<k/\y[k-1]? =Jm u))/\K (.bool (dZ n u (y.drop k))) M) (fun k u=>(slI f o .i64 y::p64 n::zj 3++p64 k::zj 35)) (fun _ _=>[]) (fun k _=>y.length-k) 0 (-1) ⟨by omega,by omega,.inl ⟨rfl,rfl⟩,Q⟩ (by simp only[PW]) rfl ?_;intro k u ⟨R,S,U,B⟩ O;refine aH (by kernel_rfl) ?_;simp only[PP,simprocAttr];refine QIf.intro (fun c=>?_) fun c=>?_
  · have E:k<y.length:=by omega
    rw[dJ E]at B;have hw:=aC (k:=k) (by omega);have I:y[k]? =Jm y[k]:=Ad E;have h0:(0:Int)<=k:=by omega
    simp only[PP,simprocAttr,c,I,h0,dZ]at B ⊢;refine QIf.intro (fun h1=>?_) fun h1=>?_
    · have:y[k]<=u:=by omega
      simp only[PP,simprocAttr,h1,this]at B ⊢;exact B
    simp only[PP,simprocAttr,h1,I,c,h0]at B ⊢;refine QIf.intro (fun h2=>?_) fun h2=>?_
    · by_cases h3:y[k]<=u
      · simp only[PP,simprocAttr,h2,h3]at B ⊢;exact B
      · simp only[PP,simprocAttr,h2,h3]at B ⊢;exact B
    simp only[PP,simprocAttr,h2]at B ⊢;rcases U with⟨rfl,rfl⟩ | ⟨V,G⟩
    · have h3:¬y[0]<=-1:=by omega
      have J:IntKind.i64.wrap 1=1:=by decide
      simp only[PP,simprocAttr,h3,J,Int.lt_irrefl]at B ⊢;exact aE (O 1 y[0] ⟨by omega,by omega,.inr ⟨by omega,by simp⟩,B⟩ (by omega)) (by simp only[PW])
    · have Y:(0:Int)<k:=by omega
      have L:IntKind.i64.wrap ((k:Int)-1)=((k-1:Nat):Int):=by
        have:k<1000000000000:=by have:y.length<1000000000000:=hm;omega
        rw[wrap64 (by omega) (by omega)];omega
      have Z:((k-1:Nat):Int)<y.length:=by omega
      have c3:(0:Int)<=((k-1:Nat):Int):=by omega
      simp only[PP,simprocAttr,Y,I,c,h0,L,Z,c3,G]at B ⊢;by_cases h3:y[k]<=u
      · simp only[PP,simprocAttr,h3]at B ⊢;exact B
      · simp only[PP,simprocAttr,h3,hw]at B ⊢;exact aE (O (k+1) y[k] ⟨by omega,by omega,.inr ⟨by omega,by simp[E]⟩,B⟩ (by omega)) (by simp only[PW])
  · simp only[PP,simprocAttr,c];rw[Bz (by omega)]at B;exact B
def NV{U V Y Z f3 o3 f4 o4:Bool}{ow pr:List Int}{su:List (List Int)}(B:Bnd ow pr su)(u:K (p64 (bO ow pr su)) M):
    aj tab 45 [gmP U V Y Z f3 o3 f4 o4 ow pr su] M K:=by
  refine aF T.h45 (by simp only[PP,simprocAttr]) ?_;simp only[af45,PP,simprocAttr,bO]at u ⊢;refine QIf.intro (fun J=>?_) fun J=>?_
  · simp only[PP,simprocAttr,J]at u ⊢;exact u
  simp only[PP,simprocAttr,J]at u ⊢;refine QIf.intro (fun L=>?_) fun L=>?_
  · simp only[PP,simprocAttr,L]at u ⊢;exact u
  simp only[PP,simprocAttr,L]at u ⊢;refine QIf.intro (fun O=>?_) fun O=>?_;rotate_left
  · simp only[PP,simprocAttr,O]at u ⊢;exact u
  simp only[PP,simprocAttr,O]at u ⊢;refine QIf.intro (fun Q=>?_) fun Q=>?_;rotate_left
  · simp only[PP,simprocAttr,Q]at u ⊢;exact u
  simp only[PP,simprocAttr,Q]at u ⊢;have d4:su.length=ow.length:=by omega
  refine dN (fun(k:Nat)=>k<=su.length/\K (p64 (gC ow pr k (su.drop k))) M) (fun k=>(.aa:: .ptr 0 0 0:: .aa::p64 ow.length::p64 k::zj 59)) (fun _=>[.cells 0 0 [slI U V .u8 ow,slI Y Z .i64 pr,slR f3 o3 f4 o4 .i64 su]]) (fun k=>su.length-k) 0 ⟨by omega,u⟩ (by simp only[PW]) rfl ?_;intro k ⟨a0,u⟩ ih;refine aH (by kernel_rfl) ?_;simp only[PP,simprocAttr];refine QIf.intro (fun c=>?_) fun c=>?_
  · have y:k<su.length:=by omega
    have R:su[k]? =Jm su[k]:=Ad y;have g2:ow[k]? =Jm ow[k]:=Ad (by omega);have I:pr[k]? =Jm pr[k]:=Ad (by omega);have h0:(0:Int)<=k:=by omega
    have hw:=aC (k:=k) (by have:=B.s;omega);have e2:ow.getD k 0=ow[k]:=by simp[Ax,g2]
    have e3:pr.getD k 0=pr[k]:=by simp[Ax,I]
    rw[dJ y]at u;have E:(k:Int)<su.length:=by omega
    have G:(k:Int)<pr.length:=by omega
    simp only[PP,simprocAttr,gC,c,g2,h0,e2,e3]at u ⊢;refine QIf.intro (fun h1=>?_) fun h1=>?_
    · simp only[PP,simprocAttr,h1]at u ⊢;exact u
    simp only[PP,simprocAttr,h1,I,G,h0]at u ⊢;refine QIf.intro (fun h2=>?_) fun h2=>?_
    · simp only[PP,simprocAttr,h2]at u ⊢;exact u
    simp only[PP,simprocAttr,h2,I,G,h0]at u ⊢;refine QIf.intro (fun h3=>?_) fun h3=>?_
    · simp only[PP,simprocAttr,h3]at u ⊢;exact u
    simp only[PP,simprocAttr,h3,R,E,h0]at u ⊢;refine QIf.intro (fun S=>?_) fun S=>?_
    · simp only[PP,simprocAttr,S]at u ⊢;exact u
    simp only[PP,simprocAttr,S,R,E,h0]at u ⊢;refine aDE T (B.r _ (Df y)) ?_;simp only[PP,simprocAttr];by_cases h5:dZ ow.length (-1) su[k]=Jo
    · simp only[PP,simprocAttr,h5,hw]at u ⊢;exact aE (ih (k+1) ⟨by omega,u⟩ (by omega)) (by simp only[PW])
    · simp only[PP,simprocAttr,h5]at u ⊢;exact u
  · simp only[PP,simprocAttr,c];rw[Bz (by omega)]at u;exact u
def aIu{f o:Bool}{x:Int}{u:List Int}(hm:(x::u).length<big)(y:K (p64 (jY x u)) M):
    aj tab 157 [slI f o .i64 (x::u)] M K:=by
  refine aF T.h157 (by simp only[PP,simprocAttr]) ?_;have E:¬((u.length+1:Nat):Int)<1:=by omega
  have G:(0:Int)<((u.length+1:Nat):Int):=by omega
  simp only[af157,PP,simprocAttr,E,G];have I:u.length+1<1000000000000:=hm;refine cQ (fun(k:Nat) (m:Int)=>k<=u.length/\K (p64 (jY m (u.drop k))) M) (fun k m=>(slI f o .i64 (x::u):: .aa:: .aa::p64 m::p64 ((k+1:Nat):Int)::zj 20)) (fun _ _=>[]) (fun k _=>u.length-k) 0 x ⟨by omega,y⟩ (by simp only[PW]) rfl ?_;intro k m ⟨J,y⟩ L;refine aH (by kernel_rfl) ?_;simp only[PP,simprocAttr];refine QIf.intro (fun c=>?_) fun c=>?_
  · have B:k<u.length:=by omega
    have O:u[k]? =Jm u[k]:=Ad B;have h0:(0:Int)<=((k+1:Nat):Int):=by omega
    have hw:=aC (k:=k+1) (by show _<1000000000000;omega);rw[dJ B]at y;simp only[PP,simprocAttr,c,O,h0,hw,jY]at y ⊢;exact aE (L (k+1) _ ⟨by omega,y⟩ (by omega)) (by simp only[PW])
  · rw[Bz (by omega)]at y;simp only[PP,simprocAttr,c,jY]at y ⊢;exact y
end
abbrev gz:PV:= .agg [.ah,.ah,.ah]
def qL{ow pr:List Int} :∀{su:List (List Int)} {k:Nat},gC ow pr k su=0->∀(i:Nat) (u:i<su.length),0<=pr.getD (k+i) 0/\pr.getD (k+i) 0<=16/\ow.getD (k+i) 0<=1/\0<su[i].length/\dZ ow.length (-1) su[i]=Jo
  | [],k,h,i,u=>by simp at u
  | row::su,k,h,i,u=>by
    unfold gC at h;split at h
    · simp at h
    · split at h
      · simp at h
      · split at h
        · simp at h
        · split at h
          · simp at h
          · split at h
            · simp at h
            · rename_i h1 h2 h3 B y
              cases i with
              | zero=>exact⟨by simpa using h2,by simpa using h3,by simpa using h1,by simp only[List.getElem_cons_zero];omega,by simpa using y⟩
              | succ i=>have:=qL h i (by simpa using u);simpa [Cs,Dh 1 i]using this
structure Valid (ow pr:List Int) (su:List (List Int)):Prop where
  n0:0<ow.length
  n1:ow.length<=4096
  p:pr.length=ow.length
  s:su.length=ow.length
  row:∀(i:Nat) (hi:i<su.length),0<=pr.getD i 0/\pr.getD i 0<=16/\ow.getD i 0<=1/\0<su[i].length/\dZ ow.length (-1) su[i]=Jo
def eU{ow pr:List Int}{su:List (List Int)}(h:bO ow pr su=0):Valid ow pr su:=by obtain⟨h1,h2,h3,u,y⟩:=QB h;exact⟨h1,h2,h3,u,fun i B=>by simpa using qL y i B⟩
def zY:∀(n:Nat) (l:List Nat),l.Nodup->(∀x∈l,x<n)->l.length<=n
  | 0,l,_,h=>by
    cases l with
    | nil=>simp
    | cons x l=>have:=h x (by simp);omega
  | n+1,l,hd,h=>by
    have:=zY n (l.filter fun x=>x !=n) (hd.filter _) (fun x u=>by
      rw[Eh]at u;have:=h x u.1;have:x≠n:=by simpa using u.2
      omega)
    have h2:l.length<=(l.filter fun x=>x !=n).length+1:=by
      clear this h
      induction l with
      | nil=>simp
      | cons x l B=>
        rw[List.nodup_cons]at hd;by_cases e:x=n
        · subst e;have:l.filter (fun y=>y !=x)=l:=by rw[List.filter_eq_self];intro y E;have:y≠x:=fun q=>hd.1 (q▸E);simpa using this
          simp[this]
        · have:=B hd.2;have u:(x !=n)=Jo:=by simpa using e
          simp only[List.filter_cons,u,if_true,As];omega
    omega
def ZZ{k:IntKind}{x y:Int}(h:y≠0):cD .rem (.int k x) (.int k y)=Jm (.int k (x.tmod y)):=by simp[cD,cB,gI,bd,h,bW,dS]
abbrev bF(l:List Nat):List Int:=l.map fun(v:Nat)=>(v:Int)
def KL{l:List Nat}{v:Nat} :(v:Int)∈bF l↔v∈l:=by rw[Fe];exact⟨fun⟨a,h1,h2⟩=>by rw[show v=a by omega];exact h1,fun h=>⟨v,h,rfl⟩⟩
def iT{n:Int} :∀{l:List Int} {u:Int},dZ n u l=Jo->l.Pairwise (· < ·)/\∀x∈l,u<x/\x<n
  | [],_,_=>⟨.nil,fun x y=>by cases y⟩
  | v::l,u,h=>by
    unfold dZ at h;split at h
    · simp at h
    · split at h
      · simp at h
      · obtain⟨h1,h2⟩:=iT h;refine⟨.cons (fun x y=>(h2 x y).1) h1,fun x y=>?_⟩;rcases List.mem_cons.1 y with rfl | y
        · omega
        · have:=h2 x y;omega
def I0{ow pr:List Int}{su:List (List Int)}(V:Valid ow pr su){v:Nat}{u:Int}(hv:v<ow.length)(h:u∈su.getD v []):0<=u/\u<ow.length:=by
  have y:v<su.length:=by have:=V.s;omega
  obtain⟨_,_,_,_,B⟩:=V.row v y;rw[Ax,Ad y]at h;have:=(iT B).2 u h;omega
def kG{y:Tb}{g:FuncId}(hg:y g=Jm (.jr jC)){M:Mem}{K:Kp}(B:K (.bool Jo) M):aj y g [] M K:=by intro w h u h0 s E;have:u=[]:=List.length_eq_zero_iff.1 (by simpa using E.len.symm);subst this;unfold C;refine⟨.bool Jo,h,?_,w,.bool Jo,M,dr.refl (Ac _) w h,s,.bool Jo,B⟩;rw[oU];simp only[dH,hg,jC]
section
variable {tab:Tb} (T:HasA tab){M:Mem}{K:Kp}
include T
end
structure Eg where
  fr:Int
  to:Int
  ps:Int
  ng:Int
  deriving DecidableEq,Inhabited
abbrev egC(e:Eg):List PV:=[.int .i64 e.fr,.int .i64 e.to,.int .u8 e.ps,.int .u8 e.ng]
def egL(l:List Eg):List PV:=l.flatMap egC
abbrev slE(f o:Bool)(l:List Eg):PV:= .sl f o 4 l.length (egL l)
def TP:egL []=[]:=rfl
def gA(l:List Eg):(egL l).length=l.length*4:=by
  unfold egL
  induction l with
  | nil=>rfl
  | cons x l u=>rw[Cd,An,u];simp;omega
def HJ(l:List Eg):(egL l).all PV.one=Jo:=by
  unfold egL
  induction l with
  | nil=>rfl
  | cons x l u=>rw[Cd,Cc,u];rfl
def cF(m:Nat)(l:List Eg):aD m (egL l)=Jo:=by
  unfold egL
  induction l with
  | nil=>exact gS _
  | cons x l u=>rw[Cd,lL,u];simp[eJ,gS,DA]
def bD(m:Nat)(f o:Bool)(sz n:Nat)(l:List Eg):PV.under m (.sl f o sz n (egL l))=Jo:=by simp only[PV.under];exact cF m l
def TQ(l:List Eg)(x:Eg):egL l++egC x=egL (l++[x]):=by simp[egL]
def W8{l:List Eg}{k:Nat}{x:Eg}(h:l[k]? =Jm x):∃a b,egL l=a++egC x++b/\a.length=k*4/\(∀y,egL (l.set k y)=a++egC y++b):=by
  obtain⟨u,e⟩:=List.getElem?_eq_some_iff.1 h;refine⟨egL (l.take k),egL (l.drop (k+1)),?_,?_,fun y=>?_⟩
  · conv=>lhs;rw[<-Cy k l,Ek u,e]
    simp[egL]
  · rw[gA];simp;omega
  · rw[Io,if_pos u];simp[egL]
def oH{l:List Eg}{k:Nat}{x:Eg}(h:l[k]? =Jm x):aY (egL l) (k*4) 4=egC x:=by obtain⟨a,b,h1,h2,_⟩:=W8 h;unfold aY;rw[h1,<-h2,Ab,Gk];rfl
def nE{l:List Eg}{n:Nat}(h:l.length=n):aY (egL l) 0 (n*4)=egL l:=aK _ _ (by rw[gA,h])
def TO{l:List Eg}{k:Nat}{x:Eg}(h:l[k]? =Jm x):k*4+4<=l.length*4:=by have:=aI h;omega
def Eg.fit(e:Eg):Prop:=(-9223372036854775808<=e.fr/\e.fr<=9223372036854775807)/\(-9223372036854775808<=e.to/\e.to<=9223372036854775807)/\(0<=e.ps/\e.ps<=255)/\(0<=e.ng/\e.ng<=255)
structure NF where
  vs:Int
  n:Int
  st:List Int
  fi:List Int
  es:List Eg
abbrev nfC(u y B E G I:Bool)(N:NF):List PV:=[p64 N.vs,p64 N.n,slI u y .i64 N.st,slI B E .i64 N.fi,slE G I N.es]
structure BnN (N:NF):Prop where
  s:N.st.length<big
  f:N.fi.length<big
  e:N.es.length<big
  b:∀x∈N.es,(0<=x.ps/\x.ps<=255)/\(0<=x.ng/\x.ng<=255)
def aCg(x y:Int):Int:=((x.toNat&&& y.toNat:Nat):Int)
def bOr(x y:Int):Int:=((x.toNat||| y.toNat:Nat):Int)
def jI(v p n:Int):Int:=if v<0 then 7 else if 6<v then 7 else if 2^v.toNat<=p then 7 else if 2^v.toNat<=n then 7 else if aCg p n=0 then 0 else 2
def kY(v n:Int):List Eg->Int
  | []=>0
  | e::l=>if e.fr<0\/n<=e.fr\/e.to<0\/n<=e.to then 8 else if jI v e.ps e.ng=0 then kY v n l else jI v e.ps e.ng
def eB(N:NF):Int:=
  if N.vs<0\/6<N.vs then 7 else if N.n<0 then 1 else if 64<N.n\/512<(N.es.length:Int)then 4 else if dZ N.n (-1) N.st=Jo/\dZ N.n (-1) N.fi=Jo then kY N.vs N.n N.es else 8
def GM{x:Int}(h:0<=x/\x<=255):(Bh 8 x).toNat=x.toNat:=by rw[BitVec.toNat_ofInt];omega
def p9{x:Nat}(h:x<256):IntKind.u8.wrap (x:Int)=x:=by simp only[IntKind.wrap,IntKind.signed,IntKind.bits];simp;omega
def iU{x y:Int}(u:0<=x/\x<=255)(B:0<=y/\y<=255):cD .and (.int .u8 x) (.int .u8 y)=Jm (.int .u8 (aCg x y)):=by
  have h1:=GM u;have h2:=GM B;have h3:x.toNat&&& y.toNat<256:=Hc Nat.and_le_left (by omega);have e:IntKind.u8.wrap ((Bh IntKind.u8.bits x&&& Bh IntKind.u8.bits y).toNat:Int)=aCg x y:=by
    show IntKind.u8.wrap ((Bh 8 x&&& Bh 8 y).toNat:Int)=_;rw[BitVec.toNat_and,h1,h2,p9 h3];rfl
  simp only[cD,cB,gI,bW,dS,e];rfl
def aAr{a b:Nat}(u:a<256)(hb:b<256):a||| b<256:=Nat.or_lt_two_pow (n:=8) u hb
def aAg{x y:Int}(u:0<=x/\x<=255)(B:0<=y/\y<=255):cD .or (.int .u8 x) (.int .u8 y)=Jm (.int .u8 (bOr x y)):=by
  have h1:=GM u;have h2:=GM B;have h3:x.toNat||| y.toNat<256:=aAr (by omega) (by omega);have e:IntKind.u8.wrap ((Bh IntKind.u8.bits x||| Bh IntKind.u8.bits y).toNat:Int)=bOr x y:=by
    show IntKind.u8.wrap ((Bh 8 x||| Bh 8 y).toNat:Int)=_;rw[BitVec.toNat_or,h1,h2,p9 h3];rfl
  simp only[cD,cB,gI,bW,dS,e];rfl
def aIm{v:Int}(h0:¬v<0)(u:¬6<v):cD .shl (.int .i64 1) (.int .i64 v)=Jm (.int .i64 (2^v.toNat)):=by
  have:v=0\/v=1\/v=2\/v=3\/v=4\/v=5\/v=6:=by omega
  rcases this with rfl | rfl | rfl | rfl | rfl | rfl | rfl<;>rfl
def QK{v:Nat}{p n:Int}(y:0<=p)(B:0<=n):(2:Int)^v<=bOr p n↔(2^v<=p\/2^v<=n):=by
  have u:(2^v<=p.toNat||| n.toNat)↔(2^v<=p.toNat\/2^v<=n.toNat):=by
    constructor
    · intro h;refine Cb fun q=>?_;rw[not_or,Nat.not_le,Nat.not_le]at q;have:=Nat.or_lt_two_pow q.1 q.2;omega
    · rintro(h | h)
      · exact Aj h Nat.left_le_or
      · exact Aj h Nat.right_le_or
  have e:((2^v:Nat):Int)=2^v:=by simp
  unfold bOr;rw[<-e];constructor
  · intro h;rcases u.1 (by omega)with q | q
    · exact .inl (by omega)
    · exact .inr (by omega)
  · intro h;have:=u.2 (by omega);omega
section
variable {tab:Tb} (T:HasA tab){M:Mem}{K:Kp}
include T
def DN{f o:Bool}{y:List Int}{n:Int}(hm:y.length<big)(Q:K (.bool (dZ n (-1) y)) M):
    aj tab 96 [slI f o .i64 y,p64 n] M K:=by
  refine aF T.h96 (by simp only[PP,simprocAttr]) ?_;simp only[af96,PP,simprocAttr];refine cQ (fun(k:Nat) (u:Int)=>k<=y.length/\-1<=u/\((k=0/\u= -1)\/(0<k/\y[k-1]? =Jm u))/\K (.bool (dZ n u (y.drop k))) M) (fun k u=>(slI f o .i64 y::p64 n::zj 3++p64 k::zj 35)) (fun _ _=>[]) (fun k _=>y.length-k) 0 (-1) ⟨by omega,by omega,.inl ⟨rfl,rfl⟩,Q⟩ (by simp only[PW]) rfl ?_;intro k u ⟨R,S,U,B⟩ O;refine aH (by kernel_rfl) ?_;simp only[PP,simprocAttr];refine QIf.intro (fun c=>?_) fun c=>?_
  · have E:k<y.length:=by omega
    rw[dJ E]at B;have hw:=aC (k:=k) (by omega);have I:y[k]? =Jm y[k]:=Ad E;have h0:(0:Int)<=k:=by omega
    simp only[PP,simprocAttr,c,I,h0,dZ]at B ⊢;refine QIf.intro (fun h1=>?_) fun h1=>?_
    · have:y[k]<=u:=by omega
      simp only[PP,simprocAttr,h1,this]at B ⊢;exact B
    simp only[PP,simprocAttr,h1,I,c,h0]at B ⊢;refine QIf.intro (fun h2=>?_) fun h2=>?_
    · by_cases h3:y[k]<=u
      · simp only[PP,simprocAttr,h2,h3]at B ⊢;exact B
      · simp only[PP,simprocAttr,h2,h3]at B ⊢;exact B
    simp only[PP,simprocAttr,h2]at B ⊢;rcases U with⟨rfl,rfl⟩ | ⟨V,G⟩
    · have h3:¬y[0]<=-1:=by omega
      have J:IntKind.i64.wrap 1=1:=by decide
      simp only[PP,simprocAttr,h3,J,Int.lt_irrefl]at B ⊢;exact aE (O 1 y[0] ⟨by omega,by omega,.inr ⟨by omega,by simp⟩,B⟩ (by omega)) (by simp only[PW])
    · have Y:(0:Int)<k:=by omega
      have L:IntKind.i64.wrap ((k:Int)-1)=((k-1:Nat):Int):=by
        have:k<1000000000000:=by have:y.length<1000000000000:=hm;omega
        rw[wrap64 (by omega) (by omega)];omega
      have Z:((k-1:Nat):Int)<y.length:=by omega
      have c3:(0:Int)<=((k-1:Nat):Int):=by omega
      simp only[PP,simprocAttr,Y,I,c,h0,L,Z,c3,G]at B ⊢;by_cases h3:y[k]<=u
      · simp only[PP,simprocAttr,h3]at B ⊢;exact B
      · simp only[PP,simprocAttr,h3,hw]at B ⊢;exact aE (O (k+1) y[k] ⟨by omega,by omega,.inr ⟨by omega,by simp[E]⟩,B⟩ (by omega)) (by simp only[PW])
  · simp only[PP,simprocAttr,c];rw[Bz (by omega)]at B;exact B
def I2{G I J L O Q f o:Bool}{N:NF}{y:List Int}(hm:y.length<big)(R:K (.bool (dZ N.n (-1) y)) M):
    aj tab 138 [.agg (nfC G I J L O Q N),slI f o .i64 y] M K:=by
  refine aF T.h138 (by simp only[PP,simprocAttr,bD]) ?_;simp only[af138,PP,simprocAttr];refine cQ (fun(k:Nat) (u:Int)=>k<=y.length/\K (.bool (dZ N.n u (y.drop k))) M) (fun k u=>(.aa:: .aa:: .ptr 0 0 0:: .aa:: .aa::p64 u:: .aa:: .aa::slI f o .i64 y::p64 y.length::p64 k::zj 14)) (fun _ _=>[.cells 0 0 (nfC G I J L O Q N)]) (fun k _=>y.length-k) 0 (-1) ⟨by omega,R⟩ (by simp only[PW]) rfl ?_;intro k u ⟨R,B⟩ S;refine aH (by kernel_rfl) ?_;simp only[PP,simprocAttr];refine QIf.intro (fun c=>?_) fun c=>?_
  · have E:k<y.length:=by omega
    rw[dJ E]at B;have hw:=aC (k:=k) (by omega);have hg:y[k]? =Jm y[k]:=Ad E;have h0:(0:Int)<=k:=by omega
    simp only[PP,simprocAttr,dZ,c,hg,h0]at B ⊢;refine QIf.intro (fun h1=>?_) fun h1=>?_
    · simp only[PP,simprocAttr,h1]at B ⊢;exact B
    · simp only[PP,simprocAttr,h1]at B ⊢;refine QIf.intro (fun h2=>?_) fun h2=>?_
      · simp only[PP,simprocAttr,h2]at B ⊢;exact B
      · simp only[PP,simprocAttr,h2,hw]at B ⊢;exact aE (S (k+1) _ ⟨by omega,B⟩ (by omega)) (by simp only[PW])
  · simp only[PP,simprocAttr,c];rw[Bz (by omega)]at B;exact B
def aHB{v p n:Int}(B:0<=p/\p<=255)(E:0<=n/\n<=255)(u:K (p64 (jI v p n)) M):
    aj tab 139 [.agg [p8 p,p8 n],p64 v] M K:=by
  refine aF T.h139 (by simp only[PP,simprocAttr]) ?_;simp only[af139,PP,simprocAttr];refine QIf.intro (fun y=>?_) fun y=>?_
  · simp only[PP,simprocAttr,y,jI]at u ⊢;exact u
  · simp only[PP,simprocAttr,y];refine QIf.intro (fun G=>?_) fun G=>?_
    · simp only[PP,simprocAttr,y,G,jI]at u ⊢;exact u
    · have hw:IntKind.i64.wrap (bOr p n)=bOr p n:=wrap64 (by unfold bOr;omega) (by have:=aAr (a:=p.toNat) (b:=n.toNat) (by omega) (by omega);unfold bOr;omega);simp only[PP,simprocAttr,G,aAg B E,aIm y G,hw];refine QIf.intro (fun I=>?_) fun I=>?_
      · have e:jI v p n=7:=by
          unfold jI;rw[if_neg y,if_neg G];rcases(QK B.1 E.1).1 I with q | q
          · rw[if_pos q]
          · rw[if_pos q];split<;>rfl
        rw[e]at u;simp only[PP,simprocAttr,I];exact u
      · have L:¬(2:Int)^v.toNat<=p:=fun q=>I ((QK B.1 E.1).2 (.inl q));have O:¬(2:Int)^v.toNat<=n:=fun q=>I ((QK B.1 E.1).2 (.inr q));simp only[PP,simprocAttr,I,iU B E];unfold jI at u;rw[if_neg y,if_neg G,if_neg L,if_neg O]at u;refine QIf.intro (fun J=>?_) fun J=>?_
        · rw[if_pos J]at u;simp only[PP,simprocAttr,J];exact u
        · rw[if_neg J]at u;simp only[PP,simprocAttr,J];exact u
end
section
variable (M l:Mem) (i:Nat) (x:cm)
def gk:(M++l)[M.length+i]? =l[i]? :=by rw[Bx (by omega)];congr 1;omega
def gk0:(M++l)[M.length]? =l[0]? :=by rw[Bx (Ac _),Dd]
def sk:(M++l).set (M.length+i) x=M++l.set i x:=by rw[Dk _ _ (by omega)];congr 2;omega
def sk0:(M++l).set M.length x=M++l.set 0 x:=by rw[Dk _ _ (Ac _),Dd]
end
def J2(k:IntKind)(a b:Int):zK (.int k a) [.int k b]=Jm (.int k (min a b)):=by
  simp[zK,cB,fT,lF,B5,bd];by_cases h:b<a
  · rw[if_pos h];omega
  · rw[if_neg h];omega
def rB{v n:Int}{e:Eg}{l:List Eg}(h:e.fr<0\/n<=e.fr\/e.to<0\/n<=e.to):kY v n (e::l)=8:=by unfold kY;rw[if_pos h]
def uV{v n:Int}{e:Eg}{l:List Eg}(h:¬(e.fr<0\/n<=e.fr\/e.to<0\/n<=e.to)):kY v n (e::l)=if jI v e.ps e.ng=0 then kY v n l else jI v e.ps e.ng:=by show(if _ then _ else _)=_;rw[if_neg h]
section
variable {tab:Tb} (T:HasA tab){M:Mem}{K:Kp}
include T
def uN{v:Int}(h0:¬v<0)(B:¬6<v)(u:K (p64 (2^v.toNat)) M):aj tab 98 [p64 v] M K:=by
  refine aF T.h98 (by simp only[PP,simprocAttr]) ?_;have y:cD .shl (.int .i64 1) (.int .u64 (IntKind.u64.wrap v))=Jm (.int .i64 (2^v.toNat)):=by
    have:v=0\/v=1\/v=2\/v=3\/v=4\/v=5\/v=6:=by omega
    rcases this with rfl | rfl | rfl | rfl | rfl | rfl | rfl<;>rfl
  simp only[af98,PP,simprocAttr,y];exact u
def aE2{v p n:Int}(L:0<=p/\p<=255)(O:0<=n/\n<=255)(u:K (p64 (jI v p n)) M):
    aj tab 160 [.agg [p8 p,p8 n],p64 v] M K:=by
  refine aF T.h160 (by simp only[PP,simprocAttr]) ?_;simp only[af160,PP,simprocAttr];refine QIf.intro (fun y=>?_) fun y=>?_
  · simp only[PP,simprocAttr,y,jI]at u ⊢;exact u
  · simp only[PP,simprocAttr,y];refine QIf.intro (fun B=>?_) fun B=>?_
    · simp only[PP,simprocAttr,y,B,jI]at u ⊢;exact u
    · simp only[PP,simprocAttr,B];refine uN T y B ?_;have Q:IntKind.i64.wrap p=p:=wrap64 (by omega) (by omega);have J:IntKind.i64.wrap n=n:=wrap64 (by omega) (by omega);unfold jI at u;rw[if_neg y,if_neg B]at u;simp only[PP,simprocAttr,Q];refine QIf.intro (fun E=>?_) fun E=>?_
      · rw[if_pos E]at u;simp only[PP,simprocAttr,E];exact u
      · rw[if_neg E]at u;simp only[PP,simprocAttr,E,J];refine QIf.intro (fun G=>?_) fun G=>?_
        · rw[if_pos G]at u;simp only[PP,simprocAttr,G];exact u
        · rw[if_neg G]at u;simp only[PP,simprocAttr,G,iU L O];refine QIf.intro (fun I=>?_) fun I=>?_
          · rw[if_pos I]at u;simp only[PP,simprocAttr,I];exact u
          · rw[if_neg I]at u;simp only[PP,simprocAttr,I];exact u
def aBQ{f o:Bool}{v n:Int}{u:List Eg}(hm:u.length<big)(hb:∀x∈u,(0<=x.ps/\x.ps<=255)/\(0<=x.ng/\x.ng<=255))(U:K (p64 (kY v n u)) M):
    aj tab 97 [slE f o u,p64 v,p64 n] M K:=by
  refine aF T.h97 (by simp only[PP,simprocAttr,bD]) ?_;simp only[af97,PP,simprocAttr];refine dN (fun(k:Nat)=>k<=u.length/\K (p64 (kY v n (u.drop k))) M) (fun k=>(slE f o u::p64 v::p64 n::zj 4++p64 k::zj 55)) (fun _=>[]) (fun k=>u.length-k) 0 ⟨by omega,U⟩ (by simp only[PW]) rfl ?_;intro k ⟨V,y⟩ Y;refine aH (by kernel_rfl) ?_;simp only[PP,simprocAttr];refine QIf.intro (fun c=>?_) fun c=>?_
  · have S:k<u.length:=by omega
    obtain⟨e,O⟩:=aM S;rw[gB O]at y;have hw:=aC (k:=k) (by omega);have h0:(0:Int)<=k:=by omega
    have B:(k:Int)<u.length:=by omega
    have Q:=oH O;have Z:=TO O;have E:(egL u)[k*4]? =Jm (p64 e.fr):=by have:=congrArg (fun(l:List PV)=>l[0]?) Q;simpa [aY,Bc,Bg]using this
    have G:(egL u)[k*4+1]? =Jm (p64 e.to):=by have:=congrArg (fun(l:List PV)=>l[1]?) Q;simpa [aY,Bc,Bg]using this
    have I:(egL u)[k*4+2]? =Jm (p8 e.ps):=by have:=congrArg (fun(l:List PV)=>l[2]?) Q;simpa [aY,Bc,Bg]using this
    have J:(egL u)[k*4+3]? =Jm (p8 e.ng):=by have:=congrArg (fun(l:List PV)=>l[3]?) Q;simpa [aY,Bc,Bg]using this
    obtain⟨b1,b2⟩:=hb e (Af O);have bad:(e.fr<0\/n<=e.fr\/e.to<0\/n<=e.to)->K (p64 8) M:=fun h=>by rw[rB h]at y;exact y
    simp only[PP,simprocAttr,c,h0,E];refine QIf.intro (fun d1=>?_) fun d1=>?_
    · simp only[PP,simprocAttr,d1];exact bad (.inl d1)
    simp only[PP,simprocAttr,d1,h0,B,E];refine QIf.intro (fun d2=>?_) fun d2=>?_
    · simp only[PP,simprocAttr,d2];exact bad (.inr (.inl d2))
    simp only[PP,simprocAttr,d2,h0,B,G];refine QIf.intro (fun d3=>?_) fun d3=>?_
    · simp only[PP,simprocAttr,d3];exact bad (.inr (.inr (.inl d3)))
    simp only[PP,simprocAttr,d3,h0,B,G];refine QIf.intro (fun R=>?_) fun R=>?_
    · simp only[PP,simprocAttr,R];exact bad (.inr (.inr (.inr R)))
    rw[uV (by rintro(h | h | h | h)<;>contradiction)]at y;simp only[PP,simprocAttr,R,h0,B,I,J];refine aE2 T b1 b2 ?_;simp only[PP,simprocAttr];refine QIf.intro (fun L=>?_) fun L=>?_
    · rw[if_pos L]at y;simp only[PP,simprocAttr,L,hw];exact aE (Y (k+1) ⟨by omega,y⟩ (by omega)) (by simp only[PW])
    · rw[if_neg L]at y;simp only[PP,simprocAttr,L];exact y
  · simp only[PP,simprocAttr,c];rw[Bz (by omega)]at y;exact y
end
abbrev Wd:=List (BitVec 64)
def wAt(a:Wd)(i:Nat):BitVec 64:=a.getD i 0#64
def kJ{a:Wd}{i:Nat}(h:a.length<=i):wAt a i=0#64:=by unfold wAt;rw[Ax,Bk h];rfl
def rQ{a:Wd}{i:Nat}{x:BitVec 64}(h:a[i]? =Jm x):wAt a i=x:=by unfold wAt;rw[Ax,h];rfl
def gE(a:Wd):Nat->Nat
  | 0=>0
  | n+1=>if wAt a n=0#64 then gE a n else n+1
def rU(a:Wd):∀n,gE a n<=n
  | 0=>Ac _
  | n+1=>by
    unfold gE;split
    · exact Nat.le_succ_of_le (rU a n)
    · exact Ac _
def yJ(a:Wd):∀n i,gE a n<=i->i<n->wAt a i=0#64
  | 0,i,_,h=>by omega
  | n+1,i,h1,h2=>by
    unfold gE at h1;split at h1
    · rename_i h;by_cases e:i=n
      · subst e;exact h
      · exact yJ a n i h1 (by omega)
    · omega
def tN(a:Wd):∀n,gE a n=0\/wAt a (gE a n-1)≠0#64
  | 0=> .inl rfl
  | n+1=>by
    unfold gE;split
    · exact tN a n
    · rename_i h;exact .inr h
def tO(a:Wd):Wd:=a.take (gE a a.length)
def Y4(a:Wd):(tO a).length<=a.length:=by unfold tO;rw[Bu];omega
def FO(a:Wd)(i:Nat):wAt (tO a) i=wAt a i:=by
  have u:=rU a a.length;rcases Ba i (gE a a.length)with h | h
  · unfold wAt tO;rw[Ax,Ax,Bc,if_pos h]
  · rw[kJ (by unfold tO;rw[Bu];omega)];rcases Ba i a.length with q | q
    · exact(yJ a _ i h q).symm
    · exact(kJ q).symm
def lT(op:BitVec 64->BitVec 64->BitVec 64)(a b:Wd)(n:Nat):Wd:=(Aw n).map fun i=>op (wAt a i) (wAt b i)
def cmb(op:BitVec 64->BitVec 64->BitVec 64)(a b:Wd):Wd:=tO (lT op a b (min (max a.length b.length) 64))
def mM(op:BitVec 64->BitVec 64->BitVec 64)(a b:Wd)(n:Nat):(lT op a b n).length=n:=by simp[lT]
def XE(op:BitVec 64->BitVec 64->BitVec 64)(a b:Wd)(n:Nat):lT op a b (n+1)=lT op a b n++[op (wAt a n) (wAt b n)]:=by simp[lT,Et]
def aE7(op:BitVec 64->BitVec 64->BitVec 64)(a b:Wd):(cmb op a b).length<=64:=by have:=Y4 (lT op a b (min (max a.length b.length) 64));rw[mM]at this;unfold cmb;omega
def aBY{op:BitVec 64->BitVec 64->BitVec 64}(h0:op 0#64 0#64=0#64){a b:Wd}(u:a.length<=64)(hb:b.length<=64)(i:Nat):wAt (cmb op a b) i=op (wAt a i) (wAt b i):=by
  unfold cmb;rw[FO];rcases Ba i (min (max a.length b.length) 64)with h | h
  · refine rQ ?_;simp only[lT,Av,Ee h,Cr]
  · rw[kJ (by rw[mM];exact h),kJ (a:=a) (by omega),kJ (a:=b) (by omega),h0]
def bit(a:Wd)(k:Nat):Bool:=(wAt a (k / 64)).getLsbD (k % 64)
def QG{a b:Wd}(u:a.length<=64)(hb:b.length<=64)(k:Nat):bit (cmb (· ||| ·) a b) k=(bit a k||bit b k):=by unfold bit;rw[aBY (by simp) u hb];simp
def wO{a b:Wd}(u:a.length<=64)(hb:b.length<=64)(k:Nat):bit (cmb (· &&& ·) a b) k=(bit a k&&bit b k):=by unfold bit;rw[aBY (by simp) u hb];simp
def TY{op:BitVec 64->BitVec 64->BitVec 64}(a b:Wd):(cmb op a b).length=0↔∀k,bit (cmb op a b) k=Jp:=by
  constructor
  · intro h k;unfold bit;rw[kJ (by omega)];simp
  · intro h;have hl:(cmb op a b).length=gE (lT op a b (min (max a.length b.length) 64)) (min (max a.length b.length) 64):=by have:=rU (lT op a b (min (max a.length b.length) 64)) (min (max a.length b.length) 64);unfold cmb tO;rw[Bu,mM];omega
    rcases tN (lT op a b (min (max a.length b.length) 64)) (min (max a.length b.length) 64)with e | e
    · rw[hl,e]
    · exfalso;rw[<-FO]at e;apply e;apply Fi;intro j u;have:=h (64*(gE (lT op a b (min (max a.length b.length) 64)) (min (max a.length b.length) 64)-1)+j);unfold bit at this;rw[show(64*(gE (lT op a b (min (max a.length b.length) 64)) (min (max a.length b.length) 64)-1)+j) / 64=gE (lT op a b (min (max a.length b.length) 64)) (min (max a.length b.length) 64)-1 by omega,show(64*(gE (lT op a b (min (max a.length b.length) 64)) (min (max a.length b.length) 64)-1)+j) % 64=j by omega]at this;unfold cmb at this;rw[this];simp
def nY(k:Nat):Wd:=Ah (k / 64) 0#64++[Db 64 (k % 64)]
def lY(k:Nat):(nY k).length=k / 64+1:=by simp[nY]
def B0(k j:Nat):bit (nY k) j=decide (j=k):=by
  have u:j % 64<64:=Dx _ (by omega);unfold bit;rcases Gw (j / 64) (k / 64)with h | h | h
  · rw[rQ (x:=0#64) (by unfold nY;rw[Bj (by simpa using h)];simp[h])];have:j≠k:=by rintro rfl;omega
    simp[this]
  · rw[rQ (x:=Db 64 (k % 64)) (by unfold nY;rw[Bx (by simp;omega)];simp[h])];rw[He];by_cases e:j=k
    · subst e;simp[u]
    · have:k % 64≠j % 64:=by omega
      simp[e,this]
  · rw[kJ (by rw[lY];omega)];have:j≠k:=by rintro rfl;omega
    simp[this]
def rP(a:Wd)(k:Nat):Wd:=cmb (· ||| ·) a (nY k)
def ofL(l:List Nat):Wd:=l.foldl rP []
def GL:∀(l:List Nat) (a:Wd),a.length<=64->(∀x∈l,x<4096)->(l.foldl rP a).length<=64/\∀k,bit (l.foldl rP a) k=(bit a k||decide (k∈l))
  | [],a,u,_=>⟨u,by simp⟩
  | x::l,a,u,h=>by
    have E:=h x (by simp);have hs:(nY x).length<=64:=by rw[lY];omega
    obtain⟨h1,h2⟩:=GL l (rP a x) (aE7 _ _ _) (fun y B=>h y (by simp[B]));refine⟨h1,fun k=>?_⟩;rw[Ed,h2,rP,QG u hs,B0];simp[Bool.or_assoc]
def aD3{l:List Nat}(h:∀x∈l,x<4096):(ofL l).length<=64:=(GL l [] (by simp) h).1
def aFc{l:List Nat}(h:∀x∈l,x<4096)(k:Nat):bit (ofL l) k=decide (k∈l):=by have:=(GL l [] (by simp) h).2 k;unfold ofL;rw[this];simp[bit,wAt]
abbrev wI(a:Wd):List Int:=a.map fun b=>((b.toNat:Nat):Int)
def pC{n:Nat}(h:n<18446744073709551616):IntKind.u64.wrap (n:Int)=(n:Int):=by simp only[IntKind.wrap,IntKind.signed,IntKind.bits];simp;omega
def QD(b:BitVec 64):Bh 64 ((b.toNat:Nat):Int)=b:=by rw[BitVec.ofInt_natCast];simp
def qS(a b:BitVec 64):cD .and (.int .u64 ((a.toNat:Nat):Int)) (.int .u64 ((b.toNat:Nat):Int))=Jm (.int .u64 (((a&&& b).toNat:Nat):Int)):=by have h:=pC (a&&& b).isLt;simp only[cD,cB,gI,bW,dS,IntKind.bits,QD,Bf,if_false,if_true];show Jm (PV.int .u64 (IntKind.u64.wrap (((a&&& b).toNat:Nat):Int)))=_;rw[h]
def EJ(a b:BitVec 64):cD .or (.int .u64 ((a.toNat:Nat):Int)) (.int .u64 ((b.toNat:Nat):Int))=Jm (.int .u64 (((a||| b).toNat:Nat):Int)):=by have h:=pC (a||| b).isLt;simp only[cD,cB,gI,bW,dS,IntKind.bits,QD,Bf,if_false,if_true];show Jm (PV.int .u64 (IntKind.u64.wrap (((a||| b).toNat:Nat):Int)))=_;rw[h]
def zO{k:Nat}(h:k<64):cD .shl (.int .u64 1) (.int .i64 (k:Int))=Jm (.int .u64 (((Db 64 k).toNat:Nat):Int)):=by
  have h2:(Db 64 k).toNat=2^k:=by rw[BitVec.toNat_twoPow,Fx (Iv (by omega) h)]
  have h3:=pC (n:=2^k) (Iv (n:=64) (by omega) h);have u:min ((k:Int).toNat) 64=k:=by omega
  simp only[cD,cB,gI,bW,tD,IntKind.bits,u,h2];rw[if_pos trivial,if_neg (by omega),show(1:Int)*2^k=((2^k:Nat):Int) by simp,h3];rfl
end Go.Am.Ar
--P14
namespace Go.Am.Ar
open Go.Am.PV renaming aa->Zj
open Go.Am renaming jj->P1,mj->P2,ls->P3,fe->P4,cm.under->P5,ig->P6,du->P7,ct->P8,pev->P9,ji->P10,bd->P11,ll->P12,dv->P13,cK->P14,AO.effect->P15
open List renaming replicate->L1
section
variable {tab:Tb} (T:HasA tab){M:Mem}{K:Kp}
include T
def YX{v:Int}(u:K (.bool (decide (0<=v/\v<=6))) M):aj tab 95 [p64 v] M K:=by
  refine aF T.h95 (by simp only[PP,simprocAttr]) ?_;simp only[af95,PP,simprocAttr];refine QIf.intro (fun y=>?_) fun y=>?_
  · simp only[PP,simprocAttr,y]at u ⊢;exact u
  · simp only[PP,simprocAttr,y]at u ⊢;exact u
def aB6{O Q R S U V:Bool}{N:NF}(B:BnN N)(u:K (p64 (eB N)) M):
    aj tab 43 [.agg (nfC O Q R S U V N)] M K:=by
  refine aF T.h43 (by simp only[PP,simprocAttr,bD]) ?_;simp only[af43,PP,simprocAttr];refine YX T ?_;unfold eB at u;by_cases I:N.vs<0\/6<N.vs
  · rw[if_pos I]at u;have e:¬(0<=N.vs/\N.vs<=6):=by omega
    simp only[PP,simprocAttr,e];exact u
  rw[if_neg I]at u;have e:0<=N.vs/\N.vs<=6:=by omega
  simp only[PP,simprocAttr,e];refine QIf.intro (fun y=>?_) fun y=>?_
  · rw[if_pos y]at u;simp only[PP,simprocAttr,y];exact u
  rw[if_neg y]at u;simp only[PP,simprocAttr,y];have four:(64<N.n\/512<(N.es.length:Int))->K (p64 4) M:=fun h=>by rw[if_pos h]at u;exact u
  refine QIf.intro (fun E=>?_) fun E=>?_
  · simp only[PP,simprocAttr,E];exact four (.inl E)
  simp only[PP,simprocAttr,E];refine QIf.intro (fun G=>?_) fun G=>?_
  · simp only[PP,simprocAttr,G];exact four (.inr G)
  rw[if_neg (by rintro(h | h)<;>contradiction)]at u;simp only[PP,simprocAttr,G];refine DN T B.s ?_
  cases J:dZ N.n (-1) N.st with
  | false=>rw[J]at u;simp only[PP,simprocAttr]at u ⊢;exact u
  | true=>
    rw[J]at u;simp only[PP,simprocAttr];refine DN T B.f ?_
    cases L:dZ N.n (-1) N.fi with
    | false=>rw[L]at u;simp only[PP,simprocAttr]at u ⊢;exact u
    | true=>rw[L]at u;simp only[PP,simprocAttr]at u ⊢;refine aBQ T B.e B.b ?_;simp only[PP,simprocAttr];exact u
def aHG{B E G I J L:Bool}{N:NF}(u:K (.bool (decide (N.vs<0\/6<N.vs))) M):aj tab 134 [.cp (nfC B E G I J L N) 0] M K:=by
  refine aF T.h134 (by simp only[PP,simprocAttr,PV.under,cF]) ?_;simp only[af134,PP,simprocAttr];refine QIf.intro (fun y=>?_) fun y=>?_
  · simp only[PP,simprocAttr,y]at u ⊢;exact u
  · simp only[PP,simprocAttr,y]at u ⊢;exact u
def aHF{u y B E G I:Bool}{N:NF}(J:K (.bool (decide (N.n<0))) M):aj tab 135 [.cp (nfC u y B E G I N) 0] M K:=by refine aF T.h135 (by simp only[PP,simprocAttr,PV.under,cF]) ?_;simp only[af135,PP,simprocAttr];exact J
def aHE{B E G I J L:Bool}{N:NF}(u:K (.bool (decide (64<N.n\/512<(N.es.length:Int)))) M):aj tab 136 [.cp (nfC B E G I J L N) 0] M K:=by
  refine aF T.h136 (by simp only[PP,simprocAttr,PV.under,cF]) ?_;simp only[af136,PP,simprocAttr];refine QIf.intro (fun y=>?_) fun y=>?_
  · simp only[PP,simprocAttr,y]at u ⊢;exact u
  · simp only[PP,simprocAttr,y]at u ⊢;exact u
def aHD{G I J L O Q:Bool}{N:NF}(B:BnN N)(u:K (.bool (decide (¬(dZ N.n (-1) N.st=Jo/\dZ N.n (-1) N.fi=Jo)))) M):aj tab 137 [.cp (nfC G I J L O Q N) 0] M K:=by
  refine aF T.h137 (by simp only[PP,simprocAttr,PV.under,cF]) ?_;simp only[af137,PP,simprocAttr];refine I2 T B.s ?_
  cases y:dZ N.n (-1) N.st with
  | false=>rw[y]at u;simp only[PP,simprocAttr]at u ⊢;exact u
  | true=>
    rw[y]at u;simp only[PP,simprocAttr];refine I2 T B.f ?_
    cases E:dZ N.n (-1) N.fi with
    | false=>rw[E]at u;simp only[PP,simprocAttr]at u ⊢;exact u
    | true=>rw[E]at u;simp only[PP,simprocAttr]at u ⊢;exact u
def DV{E I J L u y:Bool}{N:NF}(B:BnN N)(O:K (p64 (eB N)) M):
    aj tab 79 [.agg (nfC E I J L u y N)] M K:=by
  refine bQ T.h79 (by simp only[PP,simprocAttr,bD]) ?_;simp only[af79];refine aA (aB ?_);simp only[PP,simprocAttr];refine aU (GStep.ff (b:=(.aa:: .cp (nfC E I J L u y N) 0::p64 0::zj 60)) 0 (Ai _) rfl (by simp only[hP,hU,fE,eD,eC,fD]) rfl) ?_;refine aA (aB ?_);simp only[PP,P14,simprocAttr];refine cQ (fun(k:Nat) (G:Mem)=>k<=4/\(0<k->¬(N.vs<0\/6<N.vs))/\(1<k->¬(N.n<0))/\(2<k->¬(64<N.n\/512<(N.es.length:Int)))/\(3<k->¬(¬(dZ N.n (-1) N.st=Jo/\dZ N.n (-1) N.fi=Jo))))
    (fun k G=>(.aa:: .cp (nfC E I J L u y N) 0::zj 14++ .sl Jo Jo 2 4 [.func (.func 134) [] [.cp (nfC E I J L u y N) 0],p64 7,.func (.func 135) [] [.cp (nfC E I J L u y N) 0],p64 1,.func (.func 136) [] [.cp (nfC E I J L u y N) 0],p64 4,.func (.func 137) [] [.cp (nfC E I J L u y N) 0],p64 8]::p64 4::p64 k::zj 44)) (fun _ G=>G) (fun k _=>4-k) 0 [.gone] ⟨by omega,by omega,by omega,by omega,by omega⟩ (by simp only[PW]) rfl ?_
  intro k G ⟨a0,R,i2,i3,i4⟩ ih;have w1:IntKind.i64.wrap 1=1:=rfl;have w2:IntKind.i64.wrap 2=2:=rfl;have w3:IntKind.i64.wrap 3=3:=rfl;have w4:IntKind.i64.wrap 4=4:=rfl;unfold eB at O;have S:(N.vs<0\/6<N.vs)->K (p64 7) M:=fun h=>by rw[if_pos h]at O;exact O
  have U:0<k->(N.n<0)->K (p64 1) M:=fun h0 h=>by rw[if_neg (R h0),if_pos h]at O;exact O
  have V:1<k->(64<N.n\/512<(N.es.length:Int))->K (p64 4) M:=fun h0 h=>by rw[if_neg (R (by omega)),if_neg (i2 h0),if_pos h]at O;exact O
  have Y:2<k->(¬(dZ N.n (-1) N.st=Jo/\dZ N.n (-1) N.fi=Jo))->K (p64 8) M:=fun h0 h=>by rw[if_neg (R (by omega)),if_neg (i2 (by omega)),if_neg (i3 h0),if_neg h]at O;exact O
  have Z:3<k->K (p64 (kY N.vs N.n N.es)) M:=fun h=>by rw[if_neg (R (by omega)),if_neg (i2 (by omega)),if_neg (i3 (by omega)),if_pos (Classical.not_not.1 (i4 h))]at O;exact O
  have a1:k=0\/k=1\/k=2\/k=3\/k=4:=by omega
  rcases a1 with rfl | rfl | rfl | rfl | rfl
  · refine aH (by kernel_rfl) ?_;simp only[PP,simprocAttr,gk0,sk0];refine aHG T ?_;by_cases q:(N.vs<0\/6<N.vs)
    · simp only[PP,simprocAttr,q,gk0];exact S q
    · simp only[PP,simprocAttr,q,w1];refine aR (ih 1 (G++[.cells 0 1 [.func (.func 134) [] [.cp (nfC E I J L u y N) 0],p64 7]]) ⟨by omega,fun _=>q,fun h=>absurd h (by omega),fun h=>absurd h (by omega),fun h=>absurd h (by omega)⟩ (by omega)) (by simp only[PW]) rfl
  · refine aH (by kernel_rfl) ?_;simp only[PP,simprocAttr,gk0,sk0];refine aHF T ?_;by_cases q:(N.n<0)
    · simp only[PP,simprocAttr,q,gk0];exact U (by omega) q
    · simp only[PP,simprocAttr,q,w2];refine aR (ih 2 (G++[.cells 0 1 [.func (.func 135) [] [.cp (nfC E I J L u y N) 0],p64 1]]) ⟨by omega,fun _=>R (by omega),fun _=>q,fun h=>absurd h (by omega),fun h=>absurd h (by omega)⟩ (by omega)) (by simp only[PW]) rfl
  · refine aH (by kernel_rfl) ?_;simp only[PP,simprocAttr,gk0,sk0];refine aHE T ?_;by_cases q:(64<N.n\/512<(N.es.length:Int))
    · simp only[PP,simprocAttr,q,gk0];exact V (by omega) q
    · simp only[PP,simprocAttr,q,w3];refine aR (ih 3 (G++[.cells 0 1 [.func (.func 136) [] [.cp (nfC E I J L u y N) 0],p64 4]]) ⟨by omega,fun _=>R (by omega),fun _=>i2 (by omega),fun _=>q,fun h=>absurd h (by omega)⟩ (by omega)) (by simp only[PW]) rfl
  · refine aH (by kernel_rfl) ?_;simp only[PP,simprocAttr,gk0,sk0];refine aHD T B ?_;by_cases q:(¬(dZ N.n (-1) N.st=Jo/\dZ N.n (-1) N.fi=Jo))
    · simp only[PP,simprocAttr,q,gk0];exact Y (by omega) q
    · simp only[PP,simprocAttr,q,w4];refine aR (ih 4 (G++[.cells 0 1 [.func (.func 137) [] [.cp (nfC E I J L u y N) 0],p64 8]]) ⟨by omega,fun _=>R (by omega),fun _=>i2 (by omega),fun _=>i3 (by omega),fun _=>q⟩ (by omega)) (by simp only[PW]) rfl
  · have hg:=Z (by omega);refine aH (by kernel_rfl) ?_;simp only[PP,simprocAttr];refine aB ?_;simp only[PP,simprocAttr];refine cQ (fun(k:Nat) (G:Mem)=>k<=N.es.length/\K (p64 (kY N.vs N.n (N.es.drop k))) M) (fun k G=>(.aa:: .cp (nfC E I J L u y N) 0::zj 27++slE u y N.es::p64 N.es.length::p64 k::zj 31)) (fun _ G=>G) (fun k _=>N.es.length-k) 0 G ⟨by omega,hg⟩ (by simp only[PW]) rfl ?_;intro k G ⟨a0,Q⟩ ih;refine aH (by kernel_rfl) ?_;simp only[PP,simprocAttr];refine QIf.intro (fun c=>?_) fun c=>?_
    · have a2:k<N.es.length:=by omega
      obtain⟨e,ge⟩:=aM a2;rw[gB ge]at Q;have hw:=aC (k:=k) (by have:=B.e;omega);have h0:(0:Int)<=k:=by omega
      have h4:=oH ge;have a3:k*4+4<=(egL N.es).length:=by rw[gA];exact TO ge
      obtain⟨b1,b2⟩:=B.b e (Af ge);have bad:(e.fr<0\/N.n<=e.fr\/e.to<0\/N.n<=e.to)->K (p64 8) M:=fun h=>by rw[rB h]at Q;exact Q
      simp only[PP,simprocAttr,c,h0,h4,a3,gk0,sk0,J2];refine QIf.intro (fun d1=>?_) fun d1=>?_
      · simp only[PP,simprocAttr,d1];exact bad (by omega)
      simp only[PP,simprocAttr,d1,gk0];refine QIf.intro (fun d2=>?_) fun d2=>?_
      · simp only[PP,simprocAttr,d2];exact bad (by omega)
      rw[uV (by omega)]at Q;simp only[PP,simprocAttr,d2,gk0];refine aHB T b1 b2 ?_;simp only[PP,simprocAttr];refine QIf.intro (fun d5=>?_) fun d5=>?_
      · rw[if_pos d5]at Q;simp only[PP,simprocAttr,d5,hw];exact aE (ih (k+1) _ ⟨by omega,Q⟩ (by omega)) (by simp only[PW])
      · rw[if_neg d5]at Q;simp only[PP,simprocAttr,d5];exact Q
    · simp only[PP,simprocAttr,c];rw[Bz (by omega)]at Q;exact Q
end
def wZ(u y:Int)(x:Nat):Bool:=decide (aCg x u=u)&&decide (aCg x y=0)
structure NOk (N:NF):Prop where
  v0:0<=N.vs
  v6:N.vs<=6
  n0:0<=N.n
  n64:N.n<=64
  rq:N.es.length<=512
  st:dZ N.n (-1) N.st=Jo
  fi:dZ N.n (-1) N.fi=Jo
  ed:∀e∈N.es,0<=e.fr/\e.fr<N.n/\0<=e.to/\e.to<N.n/\jI N.vs e.ps e.ng=0
def wM{v n:Int} :∀{l:List Eg},kY v n l=0->∀e∈l,0<=e.fr/\e.fr<n/\0<=e.to/\e.to<n/\jI v e.ps e.ng=0
  | [],_,e,h=>by cases h
  | x::l,h,e,he=>by
    by_cases c:x.fr<0\/n<=x.fr\/x.to<0\/n<=x.to
    · rw[rB c]at h;cases h
    · rw[uV c]at h;by_cases d:jI v x.ps x.ng=0
      · rw[if_pos d]at h;rcases List.mem_cons.1 he with rfl | he
        · exact⟨by omega,by omega,by omega,by omega,d⟩
        · exact wM h e he
      · rw[if_neg d]at h;exact absurd h d
def lR{N:NF}(h:eB N=0):NOk N:=by
  unfold eB at h;split at h
  · cases h
  · split at h
    · cases h
    · split at h
      · cases h
      · split at h
        · rename_i y B E u;exact⟨by omega,by omega,by omega,by omega,by omega,u.1,u.2,wM h⟩
        · cases h
def JY{v:Int}(u:v<=6):2^v.toNat<=64:=by
  have:v.toNat=0\/v.toNat=1\/v.toNat=2\/v.toNat=3\/v.toNat=4\/v.toNat=5\/v.toNat=6:=by omega
  rcases this with h | h | h | h | h | h | h<;>rw[h]<;>decide
def MO{u:Tb}(id:Nat)(first args:List PV)(M:Mem)(K:Kp):CG u (.yld id first) args M K=((∃ver r,M[id]? =Jm (.loop ver r))/\Q0 u id (first++args) M K):=rfl
section
variable {tab:Tb} (T:HasA tab){M:Mem}{K:Kp}
include T
def aIQ{u B:Int}{x:Nat}(I:0<=u/\u<=255)(J:0<=B/\B<=255)(L:x<256)(E:K (.bool (wZ u B x)) M):
    aj tab 214 [.agg [p8 u,p8 B],p8 x] M K:=by
  refine aF T.h214 (by simp only[PP,simprocAttr]) ?_;have h1:=iU (x:=x) (y:=u) (by omega) I;have h2:=iU (x:=x) (y:=B) (by omega) J;simp only[af214,PP,simprocAttr,h1];refine QIf.intro (fun G=>?_) fun G=>?_
  · simp only[PP,simprocAttr,G,h2,wZ]at E ⊢;exact E
  · simp only[PP,simprocAttr,G,wZ]at E ⊢;exact E
end
abbrev oL(b:BitVec 64):PV:= .int .u64 ((b.toNat:Nat):Int)
abbrev slW(f o:Bool)(a:Wd):PV:= .sl f o 1 a.length ((wI a).map (PV.int .u64))
def YV{a:Wd}{i:Nat}(h:i<a.length):(wI a)[i]? =Jm (((wAt a i).toNat:Nat):Int):=by rw[Av,Ad h,rQ (Ad h)];rfl
def aGL{x y:Int}(h:y≠0):cD .quo (.int .i64 x) (.int .i64 y)=Jm (.int .i64 (IntKind.i64.wrap (x.tdiv y))):=by simp[cD,cB,gI,bd,h,bW,dS]
def EH{k:IntKind}{x y:Int} :zK (.int k x) [.int k y]=Jm (.int k (min x y)):=by simp[zK,cB,fT,lF,B5,bd];split<;>omega
def UP{j:Nat}(h:j<4000000000000):IntKind.i64.wrap (((j+1:Nat):Int)-1)=(j:Int):=by rw[wrap64 (by omega) (by omega)];omega
def aHq{g ver m:Nat}{W:Wd}(h:m<=W.length):sV (Jm (.cells g ver ((wI W).map (PV.int .u64)))) g 1 0 m=Jm (slW Jp Jo (W.take m)):=by
  rw[dO (by simp;omega) (aO _ _ _)];have h1:aY ((wI W).map (PV.int .u64)) 0 (m*1)=(wI (W.take m)).map (PV.int .u64):=by simp[aY,List.map_take]
  have h2:(W.take m).length=m:=by rw[Bu];omega
  rw[h1];unfold slW;rw[h2]
def SP{α:Type}(z x:α):∀n:Nat,(z::Ah n z).set n x=Ah n z++[x]
  | 0=>rfl
  | n+1=>by rw[Ea,Eu,SP z x n];rfl
section
variable {tab:Tb} (T:HasA tab){M:Mem}{K:Kp}
include T
def aCa{f o:Bool}{a:Wd}{i:Nat}(u:K (oL (wAt a i)) M):
    aj tab 215 [slW f o a,p64 i] M K:=by
  refine aF T.h215 (by simp only[PP,simprocAttr]) ?_;simp only[af215,PP,simprocAttr];refine QIf.intro (fun c=>?_) fun c=>?_
  · have y:i<a.length:=by omega
    have B:(0:Int)<=i:=by omega
    have g:=YV y;rw[Av]at g;simp only[PP,simprocAttr,c,g,B];exact u
  · rw[kJ (by omega)]at u;simp only[PP,simprocAttr,c];exact u
def TZ{id g off n ver:Nat}{cs:List PV}(u:M[id]? =Jm (.cells g ver cs))(y:K (.ref id g 1 off n) M):
    aj tab 216 [.ref id g 1 off n] M K:=by
  refine aT T.h216 ?_;have e:((n:Int)-0).toNat=n:=by omega
  have B:(0:Int)<=n:=by omega
  simp only[af216,PP,simprocAttr,u,e,B,Cq];exact y
def E8{U V Y Z:Bool}{a b:Wd}{g:FuncId}(op:BitVec 64->BitVec 64->BitVec 64)(ha:a.length<big)(hb:b.length<big)
    (Q:∀(M:Mem) (K:Kp) (x y:BitVec 64),K (oL (op x y)) M->aj tab g [oL x,oL y] M K) (hk:K (slW Jp Jo (cmb op a b)) M):
    aj tab 182 [slW U V a,slW Y Z b,.func (.func g) [] []] M K:=by
  refine aF T.h182 (by simp only[PP,simprocAttr]) ?_;simp only[af182,PP,simprocAttr];have hn:min (max (a.length:Int) b.length) 64=((min (max a.length b.length) 64:Nat):Int):=by omega
  have G:K (slW Jp Jo (tO (lT op a b (min (max a.length b.length) 64)))) M:=hk;generalize a1:min (max a.length b.length) 64=n at hn G;have a0:n<=64:=by omega
  simp only[PP,simprocAttr,EH,hn];refine aU (GStep.nil 8 1 rfl rfl rfl) ?_;simp only[du,Aq,Bl];refine cQ (fun(i E:Nat)=>i<=n)
    (fun i E=>(slW U V a::slW Y Z b:: .func (.func g) [] []::zj 4++ .func (.func 215) [] []:: .ref 0 E 1 0 i::zj 6++p64 n::p64 i::zj 35))
    (fun i E=>[.cells E 0 ((wI (lT op a b i)).map (PV.int .u64))])
    (fun i _=>n-i) 0 0 (by omega) (by simp only[PW]) rfl ?_
  intro i E hi ih;refine aH (by kernel_rfl) ?_;simp only[PP,simprocAttr];refine QIf.intro (fun c=>?_) fun c=>?_
  · have J:i<n:=by omega
    have hw:=aC (k:=i) (by show _<1000000000000;omega);have b1:(i+1)*8<=140737488355328:=by omega
    have b2:i<=9223372036854775806:=by omega
    have b3:i<=(lT op a b i).length:=by rw[mM];omega
    have R:aY (Gr (PV.int .u64) (wI (lT op a b i))) 0 i=Gr (PV.int .u64) (wI (lT op a b i)):=aK _ _ (by rw[Ap,Ap,mM]);simp only[PP,simprocAttr,c];refine aCa T ?_;simp only[PP,simprocAttr];refine aCa T ?_;simp only[PP,simprocAttr];refine Q _ _ _ _ ?_;simp only[PP,simprocAttr,b1,b2,b3,R,hw];exact aR (ih (i+1) (E+1) (by omega) (by omega)) (by simp only[PW]) (by rw[XE];simp)
  · have J:i=n:=by omega
    subst J;simp only[PP,simprocAttr,c];have L:=mM op a b i;generalize lT op a b i=W at G L ⊢;refine dN (fun(m:Nat)=>m<=i/\gE W m=gE W W.length)
      (fun m=>(zj 8++ .ref 0 E 1 0 m::zj 43)) (fun m=>[.cells E 0 ((wI W).map (PV.int .u64))]) (fun m=>m) i ⟨by omega,by rw[L]⟩ (by simp only[PW]) rfl ?_
    intro m ⟨hm,B⟩ S;have u:gE W m=m->K (slW Jp Jo (W.take m)) M:=fun e=>by have O:K (slW Jp Jo (W.take (gE W W.length))) M:=G;rw[<-B,e]at O;exact O
    refine aH (by kernel_rfl) ?_;simp only[PP,simprocAttr];refine QIf.intro (fun d=>?_) fun d=>?_
    · obtain⟨j,rfl⟩:∃j,m=j+1:=⟨m-1,by omega⟩;have hw:=UP (j:=j) (by omega);have j0:(0:Int)<=j:=by omega
      have j1:(j:Int)<((j+1:Nat):Int):=by omega
      have gj:=YV (a:=W) (i:=j) (by omega);rw[Av]at gj;have e2:((j:Int)-0).toNat=j:=by omega
      have j2:(j:Int)<=((j+1:Nat):Int):=by omega
      simp only[PP,simprocAttr,hw,j0,j1,gj,d];have et:gE W (j+1)=if wAt W j=0#64 then gE W j else j+1:=rfl
      rw[et]at B u;refine QIf.intro (fun e=>?_) fun e=>?_
      · have hz:wAt W j=0#64:=Gl (by simpa using e);rw[if_pos hz]at B;simp only[PP,simprocAttr,e,hw,j0,j2,e2];exact aE (S j ⟨by omega,B⟩ (by omega)) (by simp only[PW])
      · have hz:¬wAt W j=0#64:=fun h=>e (by rw[h];rfl);rw[if_neg hz]at u;have I:=u rfl;simp only[PP,simprocAttr,e];refine TZ T rfl ?_;simp only[PP,simprocAttr,aHq (W:=W) (m:=j+1) (by omega)];exact I
    · have:m=0:=by omega
      subst this;have I:=u rfl;simp only[PP,simprocAttr];refine TZ T rfl ?_;simp only[PP,simprocAttr,aHq (W:=W) (m:=0) (by omega)];exact I
def aIn{x y:BitVec 64}(u:K (oL (x||| y)) M):aj tab 211 [oL x,oL y] M K:=by refine aF T.h211 (by simp only[PP,simprocAttr]) ?_;simp only[af211,PP,simprocAttr,EJ];exact u
def aHK{x y:BitVec 64}(u:K (oL (x&&& y)) M):aj tab 183 [oL x,oL y] M K:=by refine aF T.h183 (by simp only[PP,simprocAttr]) ?_;simp only[af183,PP,simprocAttr,qS];exact u
def aDq{u B E G:Bool}{a b:Wd}(I:a.length<big)(hb:b.length<big)(J:K (slW Jp Jo (cmb (fun x y=>x||| y) a b)) M):
    aj tab 175 [slW u B a,slW E G b] M K:=by
  refine aF T.h175 (by simp only[PP,simprocAttr]) ?_;simp only[af175,PP,simprocAttr];refine E8 T (fun x y=>x||| y) I hb (fun M K x y h=>aIn T h) ?_;simp only[PP,simprocAttr];exact J
def LM{u B E G:Bool}{a b:Wd}(I:a.length<big)(hb:b.length<big)(J:K (slW Jp Jo (cmb (fun x y=>x&&& y) a b)) M):
    aj tab 146 [slW u B a,slW E G b] M K:=by
  refine aF T.h146 (by simp only[PP,simprocAttr]) ?_;simp only[af146,PP,simprocAttr];refine E8 T (fun x y=>x&&& y) I hb (fun M K x y h=>aHK T h) ?_;simp only[PP,simprocAttr];exact J
def JE{k:Nat}(h:k<4096)(B:K (slW Jp Jo (nY k)) M):aj tab 176 [p64 k] M K:=by
  refine aF T.h176 (by simp only[PP,simprocAttr]) ?_;have E:¬(k:Int)<0:=by omega
  have k1:¬(4095:Int)<k:=by omega
  have u:(64:Int)≠0:=by omega
  have G:IntKind.i64.wrap ((k:Int).tdiv 64)=((k / 64:Nat):Int):=by rw[Gg (by omega),wrap64 (by omega) (by omega)];omega
  have I:(k:Int).tmod 64=((k % 64:Nat):Int):=by rw[Hf (by omega)];omega
  have J:=aC (k:=k / 64) (by show _<1000000000000;omega);have L:(0:Int)<=((k / 64+1:Nat):Int):=by omega
  have O:((k / 64+1:Nat):Int)*8<=140737488355328:=by omega
  have Q:((k / 64+1:Nat):Int)<=9223372036854775807:=by omega
  have R:(0:Int)<=((k / 64:Nat):Int):=by omega
  have S:((k / 64:Nat):Int)<((k / 64+1:Nat):Int):=by omega
  have V:k / 64+1<=k / 64+1:=Ac _;have y:=zO (k:=k % 64) (Dx _ (by omega));simp only[af176,PP,simprocAttr,E,k1,ZZ u,aGL u,G,I,J,L,O,Q,R,S,y,Cq];have U:Ah (k / 64) (PV.int .u64 0)++[PV.int .u64 (((Db 64 (k % 64)).toNat:Nat):Int)]=(wI (nY k)).map (PV.int .u64):=by
    simp[nY]
  have hl:=lY k;rw[SP,U];have ht:(nY k).take (k / 64+1)=nY k:=Be (by omega);simp only[PP,simprocAttr,aHq (W:=nY k) (m:=k / 64+1) (by omega),ht];exact B
def aGk{f o:Bool}{a:Wd}{k:Nat}(u:a.length<big)(h:k<4096)(y:K (slW Jp Jo (rP a k)) M):aj tab 140 [slW f o a,p64 k] M K:=by refine aF T.h140 (by simp only[PP,simprocAttr]) ?_;simp only[af140,PP,simprocAttr];refine JE T h ?_;simp only[PP,simprocAttr];refine aDq T u (by rw[lY];show _<1000000000000;omega) ?_;simp only[PP,simprocAttr];exact y
def HD{u B E G:Bool}{a b:Wd}(I:a.length<big)(hb:b.length<big)(J:K (.bool (decide (0<(cmb (fun x y=>x&&& y) a b).length))) M):
    aj tab 85 [slW u B a,slW E G b] M K:=by
  refine aF T.h85 (by simp only[PP,simprocAttr]) ?_;simp only[af85,PP,simprocAttr];refine LM T I hb ?_;simp only[PP,simprocAttr,Int.natCast_pos];exact J
end
abbrev sE(f o y B:Bool)(u:List (List Bool)):PV:= .sl f o 1 u.length (u.map (slB y B))
def aCi{a:Wd}{k:Nat}(u:a.length<=64)(B:k<4096):decide (0<(cmb (fun x y=>x&&& y) a (nY k)).length)=bit a k:=by
  have hs:(nY k).length<=64:=by rw[lY];omega
  cases hb:bit a k with
  | true=>refine decide_eq_true (Nat.pos_of_ne_zero fun h=>?_);have:=(TY a (nY k)).1 h k;rw[wO u hs,B0,hb]at this;simp at this
  | false=>
    refine decide_eq_false fun h=>?_;have:(cmb (fun x y=>x&&& y) a (nY k)).length=0:=(TY a (nY k)).2 fun j=>by
      rw[wO u hs,B0];by_cases e:j=k
      · subst e;rw[hb];rfl
      · simp[e]
    omega
section
variable {tab:Tb} (T:HasA tab){M:Mem}{K:Kp}
include T
def aE9{f o:Bool}{a:Wd}{k:Nat}(y:a.length<=64)(u:k<4096)(B:K (.bool (bit a k)) M):
    aj tab 181 [slW f o a,p64 k] M K:=by
  refine aF T.h181 (by simp only[PP,simprocAttr]) ?_;simp only[af181,PP,simprocAttr];refine JE T u ?_;simp only[PP,simprocAttr];refine HD T (by show _<1000000000000;omega) (by show _<1000000000000;rw[lY];omega) ?_;simp only[PP,simprocAttr,aCi y u];exact B
end
def kO{n:Int}{l:List Int}(h:dZ n (-1) l=Jo):∀x∈l,0<=x/\x<n:=fun x u=>by have:=(iT h).2 x u;omega
def faW(l:List Int):Wd:=ofL (l.map Dc)
def aGa{N:NF}(C:NOk N){l:List Int}(h:dZ N.n (-1) l=Jo):(∀x∈l.map Dc,x<4096)/\(faW l).length<=64/\∀k:Nat,bit (faW l) k=decide ((k:Int)∈l):=by
  have hm:=kO h;have B:=C.n64;have h1:∀x∈l.map Dc,x<4096:=fun x E=>by obtain⟨y,u,rfl⟩:=List.mem_map.1 E;have:=hm y u;omega
  refine⟨h1,aD3 h1,fun k=>?_⟩;rw[faW,aFc h1,decide_eq_decide,Fe];exact⟨fun⟨y,u,e⟩=>by have:=hm y u;rw[show(k:Int)=y by omega];exact u,fun G=>⟨k,G,by simp⟩⟩
def J1{n:Int}{l:List Int}(h:dZ n (-1) l=Jo)(G:n<=64):l.length<=64:=by
  obtain⟨h1,h2⟩:=iT h;have u:∀(l:List Int) (a:Int),l.Pairwise (· < ·)->(∀x∈l,a<x/\x<n)->(l.length:Int)<=max 0 (n-a-1):=by
    intro l
    induction l with
    | nil=>intro a _ _;simp;omega
    | cons x l B=>intro a E y;have h1:=List.pairwise_cons.1 E;have h2:=B x h1.2 fun z hz=>⟨h1.1 z hz,(y z (by simp[hz])).2⟩;have h3:=y x (by simp);rw[As];omega
  have:=u l (-1) h1 h2;omega
section
variable {tab:Tb} (T:HasA tab){M:Mem}{K:Kp}
include T
end
def nH(u:List Eg)(x:Nat):List Eg:=u.filter fun e=>wZ e.ps e.ng x
def aI5(u:List Eg)(s:Wd)(x:Nat)(o:Wd):Prop:=o.length<=64/\∀k:Nat,bit o k=Jo↔∃e∈nH u x,bit s e.fr.toNat=Jo/\e.to=k
def aCb{a:Wd}{k:Nat}(y:a.length<=64)(B:k<4096):(rP a k).length<=64/\∀j,bit (rP a k) j=(bit a j||decide (j=k)):=by have:=GL [k] a y (fun x u=>by simp at u;subst u;exact B);refine⟨this.1,fun j=>?_⟩;have h:=this.2 j;simpa using h
section
variable {tab:Tb} (T:HasA tab){M:Mem}{K:Kp}
include T
def OZ{u y B E G I:Bool}{N:NF}{x:Nat}(L:K (.func (.func 213) [] [.cp (nfC u y B E G I N) 0,.cp [p8 x] 0]) M):
    aj tab 180 [.agg (nfC u y B E G I N),p8 x] M K:=by
  refine bQ T.h180 (by simp only[PP,simprocAttr,bD]) ?_;simp only[af180];refine aA (aB ?_);simp only[PP,simprocAttr];refine aU (GStep.ff (b:=(.aa:: .aa:: .cp (nfC u y B E G I N) 0:: .ptr 1 0 0:: .aa:: .aa::[])) 0 (Ai _) rfl (by simp only[fE,eD,eC,fD]) rfl) ?_;refine aU (GStep.ff (b:=(.aa:: .aa:: .cp (nfC u y B E G I N) 0:: .cp [p8 x] 0:: .aa:: .aa::[])) 1 (Ai _) rfl (by simp only[fE,eC,fD]) rfl) ?_;refine aB ?_;have e:∀J:Mem,fP 0 J (.func (.func 213) [] [.cp (nfC u y B E G I N) 0,.cp [p8 x] 0])=Jm (.func (.func 213) [] [.cp (nfC u y B E G I N) 0,.cp [p8 x] 0]):=fun J=>vW (M:=J) (by simp only[PP,simprocAttr,PV.under,cF]);simp only[PP,simprocAttr,e];exact L
set_option maxHeartbeats 1000000 in
def aAM{L:Nat}{f1 o1 f2 o2 U V:Bool}{N:NF}{x:Nat}(hx:x<256)(he:N.es.length<1000000000000)(B:∀e∈N.es,(0<=e.ps/\e.ps<=255)/\(0<=e.ng/\e.ng<=255))(J:Nat->Mem->Prop)(h0:J 0 M)(hg:∀k G o,J k G->J k (G++[o]))
    (hl:∀k G,J k G->∃ver r,G[L]? =Jm (.loop ver r))
    (hy:∀k G e,J k G->(nH N.es x)[k]? =Jm e->∀Y:Kp,(∀E,J (k+1) E->Y (.bool Jo) E)->Q0 tab L [.agg (egC e)] G Y)
    (hk:∀G,J (nH N.es x).length G->K (.tuple []) G):
    aj tab 213 [.yld L [],.cp (nfC f1 o1 f2 o2 U V N) 0,.cp [p8 x] 0] M K:=by
  refine aT T.h213 ?_;simp only[af213,PP,simprocAttr];refine cQ (fun(i:Nat) (G:Mem)=>i<=N.es.length/\J (nH (N.es.take i) x).length G) (fun i G=>(.yld L []:: .aa:: .cp [p8 x] 0::zj 4++slE U V N.es::p64 N.es.length::p64 i::zj 17)) (fun _ G=>G) (fun i _=>N.es.length-i) 0 M ⟨by omega,h0⟩ (by simp only[PW]) rfl ?_;intro i G ⟨a0,y⟩ Z;refine aH (by kernel_rfl) ?_;simp only[PP,simprocAttr];refine QIf.intro (fun c=>?_) fun c=>?_;rotate_left
  · have hi:i=N.es.length:=by omega
    subst hi;rw[Be (Ac _)]at y;simp only[PP,simprocAttr,c];exact hk G y
  have O:i<N.es.length:=by omega
  obtain⟨e,I⟩:=aM O;have hw:=aC (k:=i) (by show _<1000000000000;omega);have i0:(0:Int)<=i:=by omega
  have h4:=oH I;have Q:i*4+4<=(egL N.es).length:=by rw[gA];exact TO I
  obtain⟨b1,b2⟩:=B e (Af I);have u:nH (N.es.take (i+1)) x=nH (N.es.take i) x++if wZ e.ps e.ng x=Jo then [e]else []:=by unfold nH;rw[Cp,I,Gm];congr 1;by_cases q:wZ e.ps e.ng x=Jo<;>simp[q]
  simp only[PP,simprocAttr,c,i0,h4,Q,gk0,sk0];refine aIQ T b1 b2 hx ?_
  cases q:wZ e.ps e.ng x with
  | false=>rw[q]at u;simp only[PP,simprocAttr,hw];refine aR (Z (i+1) (G++[.cells 0 1 (egC e)]) ⟨by omega,?_⟩ (by omega)) (by simp only[PW]) rfl;rw[u];simp;exact hg _ _ _ y
  | true=>
    rw[q]at u;have R:(nH N.es x)[(nH (N.es.take i) x).length]? =Jm e:=by
      have:nH N.es x=nH (N.es.take (i+1)) x++nH (N.es.drop (i+1)) x:=by unfold nH;rw[<-Gm,Cy]
      rw[this,u,Ab,Bx (Ac _),Dd];simp
    simp only[PP,simprocAttr,gk0,MO];refine⟨hl _ _ (hg _ _ _ y),?_⟩;refine hy _ _ e (hg _ _ _ y) R _ fun E S=>?_;simp only[PP,simprocAttr,hw];refine aE (Z (i+1) E ⟨by omega,?_⟩ (by omega)) (by simp only[PW]);rw[u];simpa using S
end
def RZ(u:Int)(w:List Int):Int:=if 64<(w.length:Int)then 4 else if w.any (fun x=>decide (2^u.toNat<=x))=Jo then 1 else 0
section
variable {tab:Tb} (T:HasA tab){M:Mem}{K:Kp}
include T
def aHj{f o:Bool}{u:List Int}{g:FuncId}{B:List PV}{F:Int->Bool}(hm:u.length<1000000000000)(V:aD 0 B=Jo)
    (hf:∀x∈u,∀(R:Mem) (S:Kp),S (.bool (F x)) R->aj tab g (p8 x::B) R S)
    (G:(∀x∈u,F x=Jp)->K (p64 (-1)) M) (I:∀(k:Nat) (x:Int),x∈u->F x=Jo->K (p64 k) M):
    aj tab 212 [slI f o .u8 u,.func (.func g) [] B] M K:=by
  refine aF T.h212 (by simp only[PP,simprocAttr,PV.under,V]) ?_;simp only[af212,PP,simprocAttr];refine dN (fun(k:Nat)=>k<=u.length/\∀j,j<k->∀x,u[j]? =Jm x->F x=Jp) (fun k=>(slI f o .u8 u:: .func (.func g) [] B::zj 5++p64 u.length::p64 k::zj 10))
    (fun k=>[]) (fun k=>u.length-k) 0 ⟨by omega,by intro j h;omega⟩ (by simp only[PW]) rfl ?_
  intro k ⟨Y,hd⟩ Z;refine aH (by kernel_rfl) ?_;simp only[PP,simprocAttr];refine QIf.intro (fun c=>?_) fun c=>?_
  · have J:k<u.length:=by omega
    have k0:(0:Int)<=k:=by omega
    have L:=aC (k:=k) (by show _<1000000000000;omega);obtain⟨x,E⟩:=aM (xs:=u) (k:=k) J;simp only[PP,simprocAttr,c,k0,E];refine hf x (Af E) _ _ ?_
    cases U:F x with
    | true=>simp only[PP,simprocAttr];exact I k x (Af E) U
    | false=>
      simp only[PP,simprocAttr,L];refine aE (Z (k+1) ⟨by omega,fun j O y Q=>?_⟩ (by omega)) (by simp only[PW]);by_cases e:j=k
      · subst e;rw[E]at Q;cases Q;exact U
      · exact hd j (by omega) y Q
  · simp only[PP,simprocAttr,c];exact G fun x hx=>by obtain⟨j,O⟩:=Dj hx;exact hd j (by have:=aI O;omega) x O
def aE6{f o:Bool}{y:List Int}{g:FuncId}{u:List PV}{F:Int->Bool}(hm:y.length<1000000000000)(G:aD 0 u=Jo)
    (hf:∀x∈y,∀(I:Mem) (J:Kp),J (.bool (F x)) I->aj tab g (p8 x::u) I J)
    (B:(∀x∈y,F x=Jp)->K (.bool Jp) M) (E:(∃x,x∈y/\F x=Jo)->K (.bool Jo) M):
    aj tab 178 [slI f o .u8 y,.func (.func g) [] u] M K:=by
  refine aF T.h178 (by simp only[PP,simprocAttr,PV.under,G]) ?_;simp only[af178,PP,simprocAttr];refine aHj T hm G hf (fun h=>?_) fun k x L O=>?_
  · have e:¬(0:Int)<=-1:=by omega
    simp only[PP,simprocAttr,e];exact B h
  · have e:(0:Int)<=k:=by omega
    simp only[PP,simprocAttr,e];exact E ⟨x,L,O⟩
def aDn{u y B E G I:Bool}{N:NF}{x:Int}(C:NOk N)(L:0<=x/\x<=255)(J:K (.bool (decide (2^N.vs.toNat<=x))) M):aj tab 179 [p8 x,.cp (nfC u y B E G I N) 0] M K:=by refine aF T.h179 (by simp only[PP,simprocAttr,PV.under,cF]) ?_;have O:=C.v0;have Q:=C.v6;have w:IntKind.i64.wrap x=x:=wrap64 (by omega) (by omega);have sh:=aIm (v:=N.vs) (by omega) (by omega);simp only[af179,PP,simprocAttr,w,sh];exact J
def aGj{E G I J L O f4 Q:Bool}{N:NF}{w:List Int}(C:NOk N)(hw:∀x∈w,0<=x/\x<=255)(hl:w.length<1000000000000)(u:K (p64 (RZ N.vs w)) M):
    aj tab 143 [.agg (nfC E G I J L O N),slI f4 Q .u8 w] M K:=by
  refine bQ T.h143 (by simp only[PP,simprocAttr,bD]) ?_;simp only[af143];refine aA (aB ?_);simp only[PP,simprocAttr];refine aU (GStep.ff (b:=(.aa::slI f4 Q .u8 w:: .cp (nfC E G I J L O N) 0:: .aa::p64 0::zj 8)) 0 (Ai _) rfl (by simp only[hP,hU,fE,eD,eC,fD]) rfl) ?_;refine aB ?_;simp only[PP,simprocAttr];unfold RZ at u;refine QIf.intro (fun c=>?_) fun c=>?_
  · rw[if_pos c]at u;simp only[PP,simprocAttr,c];exact u
  rw[if_neg c]at u;simp only[PP,simprocAttr,c];refine aE6 T (F:=fun x=>decide (2^N.vs.toNat<=x)) hl (by simp only[PP,simprocAttr,PV.under,cF]) (fun x y S U B=>aDn T C (hw x y) B) (fun h=>?_) (fun⟨x,y,R⟩=>?_)
  · rw[if_neg (by rw[Bool.not_eq_true,List.any_eq_false];intro x y;rw[h x y];decide)]at u;simp only[PP,simprocAttr];exact u
  · rw[if_pos (List.any_eq_true.2 ⟨x,y,R⟩)]at u;simp only[PP,simprocAttr];exact u
end
def bJ(x:BitVec 64):List Nat:=(Aw 64).filter fun k=>x.getLsbD k
def fj{x:BitVec 64}{k:Nat} :k∈bJ x↔x.getLsbD k=Jo:=by
  unfold bJ;rw[Eh,List.mem_range];constructor
  · exact fun h=>h.2
  · intro h;refine⟨Cb fun q=>?_,h⟩;rw[Fj _ _ (by omega)]at h;cases h
def XK{x y:BitVec 64}(h:bJ x=bJ y):x=y:=by refine Fi fun i u=>?_;have h1:=fj (x:=x) (k:=i);have h2:=fj (x:=y) (k:=i);rw[h]at h1;exact Bool.eq_iff_iff.2 (h1.symm.trans h2)
def aD7{x:BitVec 64}{k:Nat}(h1:x.getLsbD k=Jo)(h2:∀j,j<k->x.getLsbD j=Jp)(i:Nat):(-x).getLsbD i=if i<k then Jp else if i=k then Jo else(decide (i<64)&& !x.getLsbD i):=by
  have E:k<64:=by refine Cb fun q=>?_;rw[Fj _ _ (by omega)]at h1;cases h1
  rw[BitVec.getLsbD_neg];by_cases u:i<k
  · rw[if_pos u,h2 i u];have:¬∃j,j<i/\x.getLsbD j=Jo:=by rintro⟨j,a,b⟩;rw[h2 j (by omega)]at b;cases b
    simp[this]
  · rw[if_neg u];by_cases y:i=k
    · subst y;rw[if_pos rfl,h1];have:¬∃j,j<i/\x.getLsbD j=Jo:=by rintro⟨j,a,b⟩;rw[h2 j a]at b;cases b
      simp[this]
    · rw[if_neg y];have:∃j,j<i/\x.getLsbD j=Jo:=⟨k,by omega,h1⟩;by_cases B:i<64
      · simp[this,B]
      · rw[Fj x _ (by omega)];simp[B]
def L9{x:BitVec 64}{k:Nat}(h1:x.getLsbD k=Jo)(h2:∀j,j<k->x.getLsbD j=Jp):x&&& -x=Db 64 k:=by
  have E:k<64:=by refine Cb fun q=>?_;rw[Fj _ _ (by omega)]at h1;cases h1
  refine Fi fun i B=>?_;rw[Iw,aD7 h1 h2,He];by_cases u:i<k
  · have:¬k=i:=by omega
    simp[u,this]
  · by_cases y:i=k
    · subst y;simp[h1,B]
    · have:¬k=i:=by omega
      cases G:x.getLsbD i<;>simp[u,y,this]
def Y0:((Aw 64).all fun k=>tzTab[2^k*285870213051353865 % 18446744073709551616 / 288230376151711744]? ==Jm k)=Jo:=by decide+kernel
def IQ(x:Int):IntKind.u64.wrap x=x % 18446744073709551616:=by simp only[IntKind.wrap,IntKind.signed,IntKind.bits];simp
def aD6(x:BitVec 64):Bh 64 (IntKind.u64.wrap (-((x.toNat:Nat):Int)))= -x:=by rw[IQ];have hl:=x.isLt;apply Gl;rw[BitVec.toNat_ofInt,BitVec.toNat_neg];omega
def aId{x:BitVec 64}{k:Nat}(h1:x.getLsbD k=Jo)(h2:∀j,j<k->x.getLsbD j=Jp):tzF ((x.toNat:Nat):Int)=k:=by
  have u:k<64:=by refine Cb fun q=>?_;rw[Fj _ _ (by omega)]at h1;cases h1
  have y:¬((x.toNat:Nat):Int)=0:=by
    intro h;have:x=0#64:=by apply Gl;simp;omega
    rw[this]at h1;simp at h1
  have B:SH ((x.toNat:Nat):Int)=((2^k:Nat):Int):=by unfold SH;have E:Bh IntKind.u64.bits ((x.toNat:Nat):Int)=x:=QD x;have G:Bh IntKind.u64.bits (IntKind.u64.wrap (-((x.toNat:Nat):Int)))= -x:=aD6 x;rw[E,G];have I:=L9 h1 h2;show IntKind.u64.wrap ((((x&&& -x).toNat:Nat):Int))=_;rw[I,pC (BitVec.isLt _),BitVec.toNat_twoPow,Fx (Iv (by omega) u)]
  have J:tzIdx ((x.toNat:Nat):Int)=((2^k*285870213051353865 % 18446744073709551616 / 288230376151711744:Nat):Int):=by unfold tzIdx;rw[B,IQ];omega
  have ht:=List.all_eq_true.1 Y0 k (List.mem_range.2 u);unfold tzF;rw[if_neg y,J,Ck];rw[beq_iff_eq]at ht;rw[ht];rfl
section
variable {tab:Tb} (T:HasA tab){M:Mem}{K:Kp}
include T
def aI8{x:BitVec 64}{k:Nat}(B:tzF ((x.toNat:Nat):Int)=k)(E:K (p64 k) M):aj tab 185 [oL x] M K:=by
  intro w h u h0 s y
  match u,y with
  | [v],y=>
  have hv:=dC y.hd;subst hv;unfold C;refine⟨.int .i64 k,h,?_,w,p64 k,M,dr.refl (Ac _) w h,s,.int _ _,E⟩;rw[oU];simp only[dH,T.tz,primTz,sM,B]
omit T in
def NF.ext'{N u:NF}(h1:N.vs=u.vs)(h2:N.n=u.n)(h3:N.st=u.st)(y:N.fi=u.fi)(B:N.es=u.es):N=u:=by cases N;cases u;simp_all
def aBO{f o R S:Bool}{u B:List Bool}(hm:u.length<big)(I:K (.bool (decide (u=B))) M):
    aj tab 52 [slB f o u,slB R S B] M K:=by
  refine aF T.h52 (by simp only[PP,simprocAttr]) ?_;simp only[af52,PP,simprocAttr];refine QIf.intro (fun G=>?_) fun G=>?_
  · simp only[PP,simprocAttr,G];have hl:u.length=B.length:=by omega
    refine dN (fun(k:Nat)=>k<=u.length/\K (.bool (decide (u.drop k=B.drop k))) M) (fun k=>(slB f o u::slB R S B::zj 3++p64 k::zj 20)) (fun _=>[]) (fun k=>u.length-k) 0 ⟨by omega,I⟩ (by simp only[PW]) rfl ?_;intro k ⟨Y,E⟩ Z;refine aH (by kernel_rfl) ?_;simp only[PP,simprocAttr];refine QIf.intro (fun c=>?_) fun c=>?_
    · have J:k<u.length:=by omega
      have L:k<B.length:=by omega
      obtain⟨x,U⟩:=aM J;obtain⟨y,V⟩:=aM L;rw[gB U,gB V]at E;have hw:=aC (k:=k) (by omega);have h0:(0:Int)<=k:=by omega
      have cy:(k:Int)<B.length:=by omega
      simp only[PP,simprocAttr,c,U,V,h0,cy];by_cases e:x=y
      · subst e;simp only[PP,simprocAttr,hw,List.cons.injEq]at E ⊢;exact aE (Z (k+1) ⟨by omega,E⟩ (by omega)) (by simp only[PW])
      · have O:(x==y)=Jp:=by simp[e]
        simp only[PP,simprocAttr,O,e,List.cons.injEq]at E ⊢;exact E
    · simp only[PP,simprocAttr,c];rw[Bz (by omega),Bz (by omega)]at E;simp only[PP,simprocAttr]at E;exact E
  · have Q:u≠B:=fun e=>G (by rw[e]);simp only[PP,simprocAttr,G];rw[decide_eq_false Q]at I;exact I
end
structure DF where
  vs:Int
  st:Int
  nx:List (List Int)
  fi:List Bool
abbrev dfC(u y B E G I:Bool)(D:DF):List PV:=[p64 D.vs,p64 D.st,slR u y B E .i64 D.nx,slB G I D.fi]
structure BnD (D:DF):Prop where
  n:D.nx.length<big
  r:∀r∈D.nx,r.length<big
  f:D.fi.length<big
def B3(n:Int)(r:List Int):Bool:=r.any fun t=>decide (t<0\/n<=t)
def oE(v n:Int):List (List Int)->Int
  | []=>0
  | r::l=>if(r.length:Int)=2^v.toNat then(if B3 n r=Jo then 8 else oE v n l)else 2
def cN(D:DF):Int:=
  if D.vs<0\/6<D.vs then 7 else if(D.nx.length:Int)=0 then 3 else if 4096<(D.nx.length:Int)then 4 else if ¬(D.fi.length:Int)=D.nx.length then 2 else if D.st<0\/(D.nx.length:Int)<=D.st then 8 else oE D.vs D.nx.length D.nx
def jX:Int->List Int->Int
  | m,[]=>m
  | m,x::l=>jX (min m x) l
def v8:∀(l:List Int) (m:Int),jX m l<0↔m<0\/∃t∈l,t<0
  | [],m=>by simp[jX]
  | x::l,m=>by
    unfold jX;rw[v8 l];simp only[Cu];constructor
    · rintro(h | ⟨t,h1,h2⟩)
      · by_cases h3:m<0
        · exact .inl h3
        · exact .inr ⟨x,.inl rfl,by omega⟩
      · exact .inr ⟨t,.inr h1,h2⟩
    · rintro(h | ⟨t,rfl | h1,h2⟩)
      · exact .inl (by omega)
      · exact .inl (by omega)
      · exact .inr ⟨t,h1,h2⟩
def AB{n:Int} :∀(l:List Int) (m:Int),n<=jY m l↔n<=m\/∃t∈l,n<=t
  | [],m=>by simp[jY]
  | x::l,m=>by
    unfold jY;rw[AB l];simp only[Cu];constructor
    · rintro(h | ⟨t,h1,h2⟩)
      · by_cases h3:n<=m
        · exact .inl h3
        · exact .inr ⟨x,.inl rfl,by omega⟩
      · exact .inr ⟨t,.inr h1,h2⟩
    · rintro(h | ⟨t,rfl | h1,h2⟩)
      · exact .inl (by omega)
      · exact .inl (by omega)
      · exact .inr ⟨t,h1,h2⟩
def me{n x:Int}{l:List Int} :B3 n (x::l)=Jo↔jX x l<0\/n<=jY x l:=by
  rw[v8,AB];unfold B3;simp only[Gd,Cu,decide_eq_true_eq];constructor
  · rintro⟨t,rfl | h1,h | h⟩
    · exact .inl (.inl h)
    · exact .inr (.inl h)
    · exact .inl (.inr ⟨t,h1,h⟩)
    · exact .inr (.inr ⟨t,h1,h⟩)
  · rintro((h | ⟨t,h1,h⟩) | (h | ⟨t,h1,h⟩))
    · exact⟨x,.inl rfl,.inl h⟩
    · exact⟨t,.inr h1,.inl h⟩
    · exact⟨x,.inl rfl,.inr h⟩
    · exact⟨t,.inr h1,.inr h⟩
def xI{v:Int}(h0:¬v<0)(u:¬6<v):cD .shl (.int .i64 1) (.int .i64 v)=Jm (.int .i64 (2^v.toNat)):=by
  have:v=0\/v=1\/v=2\/v=3\/v=4\/v=5\/v=6:=by omega
  rcases this with rfl | rfl | rfl | rfl | rfl | rfl | rfl<;>rfl
def Z2(v:Int):(0:Int)<2^v.toNat:=Int.pow_pos (by decide)
section
variable {tab:Tb} (T:HasA tab){M:Mem}{K:Kp}
include T
def aIt{f o:Bool}{x:Int}{u:List Int}(hm:(x::u).length<big)(y:K (p64 (jX x u)) M):
    aj tab 156 [slI f o .i64 (x::u)] M K:=by
  refine aF T.h156 (by simp only[PP,simprocAttr]) ?_;have E:¬((u.length+1:Nat):Int)<1:=by omega
  have G:(0:Int)<((u.length+1:Nat):Int):=by omega
  simp only[af156,PP,simprocAttr,E,G];have I:u.length+1<1000000000000:=hm;refine cQ (fun(k:Nat) (m:Int)=>k<=u.length/\K (p64 (jX m (u.drop k))) M) (fun k m=>(slI f o .i64 (x::u):: .aa:: .aa::p64 m::p64 ((k+1:Nat):Int)::zj 20)) (fun _ _=>[]) (fun k _=>u.length-k) 0 x ⟨by omega,y⟩ (by simp only[PW]) rfl ?_;intro k m ⟨J,y⟩ L;refine aH (by kernel_rfl) ?_;simp only[PP,simprocAttr];refine QIf.intro (fun c=>?_) fun c=>?_
  · have B:k<u.length:=by omega
    have O:u[k]? =Jm u[k]:=Ad B;have h0:(0:Int)<=((k+1:Nat):Int):=by omega
    have hw:=aC (k:=k+1) (by show _<1000000000000;omega);rw[dJ B]at y;simp only[PP,simprocAttr,c,O,h0,hw,jX,J2]at y ⊢;exact aE (L (k+1) _ ⟨by omega,y⟩ (by omega)) (by simp only[PW])
  · rw[Bz (by omega)]at y;simp only[PP,simprocAttr,c,jX]at y ⊢;exact y
def L4{U V Y Z f3 o3:Bool}{D:DF}(B:BnD D)(u:K (p64 (cN D)) M):
    aj tab 92 [.agg (dfC U V Y Z f3 o3 D)] M K:=by
  refine aF T.h92 (by simp only[PP,simprocAttr]) ?_;simp only[af92,PP,simprocAttr];unfold cN at u;refine QIf.intro (fun E=>?_) fun E=>?_
  · rw[if_pos (.inl E)]at u;simp only[PP,simprocAttr,E];exact u
  simp only[PP,simprocAttr,E];refine QIf.intro (fun G=>?_) fun G=>?_
  · rw[if_pos (.inr G)]at u;simp only[PP,simprocAttr,G];exact u
  rw[if_neg (by omega)]at u;simp only[PP,simprocAttr,G];refine QIf.intro (fun I=>?_) fun I=>?_
  · rw[if_pos I]at u;simp only[PP,simprocAttr,I];exact u
  rw[if_neg I]at u;simp only[PP,simprocAttr,I];refine QIf.intro (fun J=>?_) fun J=>?_
  · rw[if_pos J]at u;simp only[PP,simprocAttr,J];exact u
  rw[if_neg J]at u;simp only[PP,simprocAttr,J];refine QIf.intro (fun L=>?_) fun L=>?_;rotate_left
  · rw[if_pos L]at u;simp only[PP,simprocAttr,L];exact u
  rw[if_neg (Classical.not_not.2 L)]at u;simp only[PP,simprocAttr,L];refine QIf.intro (fun O=>?_) fun O=>?_
  · rw[if_pos (.inl O)]at u;simp only[PP,simprocAttr,O];exact u
  simp only[PP,simprocAttr,O];refine QIf.intro (fun Q=>?_) fun Q=>?_
  · rw[if_pos (.inr Q)]at u;simp only[PP,simprocAttr,Q];exact u
  rw[if_neg (by omega)]at u;simp only[PP,simprocAttr,Q];have hl:=xI E G;refine dN (fun(k:Nat)=>k<=D.nx.length/\K (p64 (oE D.vs D.nx.length (D.nx.drop k))) M) (fun k=>(.aa:: .ptr 0 0 0:: .aa::p64 D.nx.length::zj 37++slR U V Y Z .i64 D.nx::p64 D.nx.length::p64 k::zj 19)) (fun _=>[.cells 0 0 (dfC U V Y Z f3 o3 D)]) (fun k=>D.nx.length-k) 0 ⟨by omega,u⟩ (by simp only[PW]) rfl ?_;intro k ⟨a1,y⟩ ih;refine aH (by kernel_rfl) ?_;simp only[PP,simprocAttr];refine QIf.intro (fun c=>?_) fun c=>?_
  · have a0:k<D.nx.length:=by omega
    obtain⟨r,g⟩:=aM a0;have h0:(0:Int)<=(k:Int):=by omega
    have hB:D.nx.length<1000000000000:=B.n;have hw:=aC (k:=k) (by show _<1000000000000;omega);rw[gB g]at y;simp only[PP,simprocAttr,c,g,h0,hl];unfold oE at y;refine QIf.intro (fun e=>?_) fun e=>?_;rotate_left
    · rw[if_neg e]at y;simp only[PP,simprocAttr,e];exact y
    rw[if_pos e]at y;simp only[PP,simprocAttr,e]
    cases r with
    | nil=>have:=Z2 D.vs;simp at e;omega
    | cons x l=>
      have hx:(x::l).length<big:=B.r _ (Af g);refine aIt T hx ?_;simp only[PP,simprocAttr];refine QIf.intro (fun R=>?_) fun R=>?_
      · rw[if_pos (me.2 (.inl R))]at y;simp only[PP,simprocAttr,R];exact y
      simp only[PP,simprocAttr,R];refine aIu T hx ?_;simp only[PP,simprocAttr];refine QIf.intro (fun S=>?_) fun S=>?_
      · rw[if_pos (me.2 (.inr S))]at y;simp only[PP,simprocAttr,S];exact y
      rw[if_neg (by rw[me];omega)]at y;simp only[PP,simprocAttr,S,hw];exact aE (ih (k+1) ⟨by omega,y⟩ (by omega)) (by simp only[PW])
  · rw[Bz (by omega)]at y;simp only[PP,simprocAttr,c,oE]at y ⊢;exact y
def D9{S U V Y Z o3:Bool}{D:DF}(B:BnD D)(u:K (p64 (cN D)) M):
    aj tab 44 [.agg (dfC S U V Y Z o3 D)] M K:=by
  refine aF T.h44 (by simp only[PP,simprocAttr]) ?_;simp only[af44,PP,simprocAttr];refine YX T ?_;unfold cN at u;by_cases c1:D.vs<0\/6<D.vs
  · rw[if_pos c1]at u;have e:¬(0<=D.vs/\D.vs<=6):=by omega
    simp only[PP,simprocAttr,e];exact u
  rw[if_neg c1]at u;have e:0<=D.vs/\D.vs<=6:=by omega
  simp only[PP,simprocAttr,e];refine QIf.intro (fun G=>?_) fun G=>?_
  · rw[if_pos G]at u;simp only[PP,simprocAttr,G];exact u
  rw[if_neg G]at u;simp only[PP,simprocAttr,G];refine QIf.intro (fun I=>?_) fun I=>?_
  · rw[if_pos I]at u;simp only[PP,simprocAttr,I];exact u
  rw[if_neg I]at u;simp only[PP,simprocAttr,I];refine QIf.intro (fun J=>?_) fun J=>?_;rotate_left
  · rw[if_pos J]at u;simp only[PP,simprocAttr,J];exact u
  rw[if_neg (Classical.not_not.2 J)]at u;simp only[PP,simprocAttr,J];refine QIf.intro (fun O=>?_) fun O=>?_
  · rw[if_pos (.inl O)]at u;simp only[PP,simprocAttr,O];exact u
  simp only[PP,simprocAttr,O];refine QIf.intro (fun Q=>?_) fun Q=>?_
  · rw[if_pos (.inr Q)]at u;simp only[PP,simprocAttr,Q];exact u
  rw[if_neg (by omega)]at u;simp only[PP,simprocAttr,Q];have v0:¬D.vs<0:=by omega
  have v6:¬6<D.vs:=by omega
  have hB:D.nx.length<1000000000000:=B.n;refine dN (fun(k:Nat)=>k<=D.nx.length/\K (p64 (oE D.vs D.nx.length (D.nx.drop k))) M) (fun k=>(.aa:: .ptr 0 0 0:: .aa::p64 D.nx.length::p64 k::zj 72)) (fun _=>[.cells 0 0 (dfC S U V Y Z o3 D)]) (fun k=>D.nx.length-k) 0 ⟨by omega,u⟩ (by simp only[PW]) rfl ?_;intro k ⟨a3,y⟩ ih;refine aH (by kernel_rfl) ?_;simp only[PP,simprocAttr];refine QIf.intro (fun c=>?_) fun c=>?_
  · have a0:k<D.nx.length:=by omega
    obtain⟨r,g⟩:=aM a0;have h0:(0:Int)<=(k:Int):=by omega
    have hw:=aC (k:=k) (by show _<1000000000000;omega);rw[gB g]at y;simp only[PP,simprocAttr,c,g,h0];refine uN T v0 v6 ?_;simp only[PP,simprocAttr];unfold oE at y;refine QIf.intro (fun e=>?_) fun e=>?_;rotate_left
    · rw[if_neg e]at y;simp only[PP,simprocAttr,e];exact y
    rw[if_pos e]at y;simp only[PP,simprocAttr,e];have hr:r.length<1000000000000:=B.r _ (Af g);refine dN (fun(j:Nat)=>j<=r.length/\(B3 D.nx.length (r.drop j)=B3 D.nx.length r)) (fun j=>(.aa:: .ptr 0 0 0:: .aa::p64 D.nx.length::p64 k::p64 j::zj 71)) (fun _=>[.cells 0 0 (dfC S U V Y Z o3 D)]) (fun j=>r.length-j) 0 ⟨by omega,rfl⟩ (by simp only[PW]) rfl ?_;intro j ⟨a4,E⟩ a1;refine aH (by kernel_rfl) ?_;simp only[PP,simprocAttr,c,g,h0];refine QIf.intro (fun d=>?_) fun d=>?_
    · have a2:j<r.length:=by omega
      obtain⟨t,gt⟩:=aM a2;have j0:(0:Int)<=(j:Int):=by omega
      have wj:=aC (k:=j) (by show _<1000000000000;omega);rw[gB gt]at E;simp only[PP,simprocAttr,c,g,h0,d,gt,j0];refine QIf.intro (fun L=>?_) fun L=>?_
      · rw[if_pos (by rw[<-E];simp[B3,L])]at y;simp only[PP,simprocAttr,L];exact y
      simp only[PP,simprocAttr,L,c,g,h0,d,gt,j0];refine QIf.intro (fun R=>?_) fun R=>?_
      · rw[if_pos (by rw[<-E];simp[B3,R])]at y;simp only[PP,simprocAttr,R];exact y
      simp only[PP,simprocAttr,R,wj];refine aE (a1 (j+1) ⟨by omega,?_⟩ (by omega)) (by simp only[PW]);rw[<-E];simp[B3,L];omega
    · rw[Bz (by omega)]at E;rw[if_neg (by rw[<-E];simp[B3])]at y;simp only[PP,simprocAttr,d,hw];exact aE (ih (k+1) ⟨by omega,y⟩ (by omega)) (by simp only[PW])
  · rw[Bz (by omega)]at y;simp only[PP,simprocAttr,c,oE]at y ⊢;exact y
end
def digS:ByteArray:=⟨#[48,49,50,51,52,53,54,55,56,57,97,98,99,100,101,102,103,104,105,106,107,108,109,110,111,112,113,114,115,116,117,118,119,120,121,122]⟩
def smlS:ByteArray:=⟨#[48,48,48,49,48,50,48,51,48,52,48,53,48,54,48,55,48,56,48,57,49,48,49,49,49,50,49,51,49,52,49,53,49,54,49,55,49,56,49,57,50,48,50,49,50,50,50,51,50,52,50,53,50,54,50,55,50,56,50,57,51,48,51,49,51,50,51,51,51,52,51,53,51,54,51,55,51,56,51,57,52,48,52,49,52,50,52,51,52,52,52,53,52,54,52,55,52,56,52,57,53,48,53,49,53,50,53,51,53,52,53,53,53,54,53,55,53,56,53,57,54,48,54,49,54,50,54,51,54,52,54,53,54,54,54,55,54,56,54,57,55,48,55,49,55,50,55,51,55,52,55,53,55,54,55,55,55,56,55,57,56,48,56,49,56,50,56,51,56,52,56,53,56,54,56,55,56,56,56,57,57,48,57,49,57,50,57,51,57,52,57,53,57,54,57,55,57,56,57,57]⟩
def mI(n:Nat):ByteArray:=if n<10 then digS.extract n (n+1)else smlS.extract (2*n) (2*n+2)
def aBx:((Aw 100).all fun a=>(Aw 100).all fun b=>decide (a=b)|| !((mI a).data.toList==(mI b).data.toList))=Jo:=by decide+kernel
def aBw{a b:Nat}(u:a<100)(hb:b<100)(h:mI a=mI b):a=b:=by have:=(List.all_eq_true.1 ((List.all_eq_true.1 aBx) a (List.mem_range.2 u))) b (List.mem_range.2 hb);rw[h]at this;simpa using this
section
variable {tab:Tb} (T:HasA tab){M:Mem}{K:Kp}
include T
def SM{n:Nat}(G:n<100)(u:K (.str (mI n)) M):
    aj tab 206 [p64 n] M K:=by
  refine aF T.h206 (by simp only[PP,simprocAttr]) ?_;simp only[af206,PP,simprocAttr];have y:IntKind.i64.wrap ((n:Int)+1)=((n+1:Nat):Int):=aC (by show _<1000000000000;omega);have B:IntKind.i64.wrap ((n:Int)*2)=((2*n:Nat):Int):=by rw[wrap64]<;>omega
  have E:IntKind.i64.wrap (((2*n:Nat):Int)+2)=((2*n+2:Nat):Int):=by rw[wrap64]<;>omega
  refine QIf.intro (fun c=>?_) fun c=>?_
  · simp only[PP,simprocAttr,c,y,PT,Fk];refine⟨⟨by omega,by omega,?_⟩,?_⟩
    · show((n+1:Nat):Int)<=((36:Nat):Int);omega
    · have e:mI n=digS.extract n (n+1):=by unfold mI;rw[if_pos (by omega)]
      rw[e]at u;exact u
  · simp only[PP,simprocAttr,c,B,E,PT,Fk];refine⟨⟨by omega,by omega,?_⟩,?_⟩
    · show((2*n+2:Nat):Int)<=((200:Nat):Int);omega
    · have e:mI n=smlS.extract (2*n) (2*n+2):=by unfold mI;rw[if_neg (by omega)]
      rw[e]at u;exact u
end
def uY(d:Nat):UInt8:=UInt8.ofNat (if d<10 then 48+d else 87+d)
def aI7(c:UInt8):Nat:=if c.toNat<58 then c.toNat-48 else c.toNat-87
def aEU:((Aw 16).all fun d=>digS[d]? ==Jm (uY d)&&aI7 (uY d)==d)=Jo:=by decide+kernel
def aEW{d:Nat}(h:d<16):digS[d]? =Jm (uY d):=by have:=List.all_eq_true.1 aEU d (List.mem_range.2 h);rw[Au,beq_iff_eq]at this;exact this.1
def wS(u:Nat):Nat->List UInt8
  | 0=>[]
  | c+1=>uY (u / 16^c % 16)::wS u c
def IY(u:Nat):∀c,(wS u c).length=c
  | 0=>rfl
  | c+1=>by simp[wS,IY u c]
def cHf(u:Nat):Nat->Nat->Nat
  | c,0=>c
  | c,f+1=>if u / 16^c<16 then c else cHf u (c+1) f
def cH(u:Nat):Nat:=cHf u 0 15
def LN(u:Nat):List UInt8:=uY (u / 16^cH u)::wS u (cH u)
def aHH{u:Nat}(y:u<18446744073709551616):∀(f c:Nat),c+f=15->u / 16^cHf u c f<16/\cHf u c f<=15:=by
  intro f
  induction f with
  | zero=>
    intro c h;obtain rfl:c=15:=by omega
    have e:(16:Nat)^15*16=18446744073709551616:=by decide
    refine⟨Nat.div_lt_of_lt_mul ?_,Ac _⟩;show u<16^15*16;rw[e];exact y
  | succ f B=>
    intro c h;unfold cHf;split
    · rename_i q;exact⟨q,by omega⟩
    · exact B (c+1) (by omega)
def aIX(u c:Nat):u / 16^(c+1)=u / 16^c / 16:=by rw[Nat.pow_succ,Is]
def aGO{u:Nat}(h:u<18446744073709551616):cD .and (.int .u64 (u:Int)) (.int .u64 15)=Jm (.int .u64 ((u % 16:Nat):Int)):=by
  have h1:=qS (Ix 64 u) 15#64;have y:(Ix 64 u).toNat=u:=by simp;omega
  have B:(Ix 64 u&&& 15#64).toNat=u % 16:=by rw[BitVec.toNat_and,y];exact Nat.and_two_pow_sub_one_eq_mod u 4
  rw[y,B]at h1;exact h1
def aIl(u:Nat):cD .shr (.int .u64 (u:Int)) (.int .u64 4)=Jm (.int .u64 ((u / 16:Nat):Int)):=by
  have:Int.fdiv (u:Int) 16=((u / 16:Nat):Int):=by rw[Int.fdiv_eq_ediv_of_nonneg _ (by omega)];rfl
  show Jm (PV.int .u64 (Int.fdiv (u:Int) 16))=_;rw[this]
abbrev gM(l:List UInt8):List PV:=l.map fun c=> .int .u8 ((c.toNat:Nat):Int)
def sB:∀l:List UInt8,eW (l.map fun c=> .int .u8 ((c.toNat:Nat):Int))=Jm l
  | []=>rfl
  | c::l=>by
    have h:=c.toNat_lt;have e:UInt8.ofNat c.toNat=c:=by simp
    simp only[Ak,eW,sB l];rw[if_pos (by omega),Ck,e]
def DD:∀l:List UInt8,fT (gM l)=Jm (l.map fun c=>AV.int .u8 ((c.toNat:Nat):Int))
  | []=>rfl
  | c::l=>by simp only[gM,Ak,fT,cB,DD l]
def VL(l:List UInt8):mF (gM l)=Jm l:=by unfold mF;rw[DD];exact sB l
def vR(z x:PV)(l:List PV)(m:Nat):(Ah (m+1) z++l).set m x=Ah m z++x::l:=by rw[List.set_append_left _ _ (by simp),It,Dk _ _ (by simp)];simp
section
variable {tab:Tb} (T:HasA tab){M:Mem}{K:Kp}
include T
def N0(u:K (.bool Jo) M):aj tab 232 [p64 16] M K:=by refine aF T.h232 (by simp only[PP,simprocAttr]) ?_;have y:IntKind.i64.wrap (16-1)=15:=rfl;have B:cD .and (p64 16) (.int .i64 (IntKind.i64.wrap 15))=Jm (.int .i64 0):=rfl;simp only[af232,PP,simprocAttr,B];exact u
def aGn(u:K (p64 4) M):aj tab 233 [.int .u64 16] M K:=by refine aF T.h233 (by simp only[PP,simprocAttr]) ?_;simp only[af233,PP,simprocAttr];refine aI8 T (x:=16#64) (k:=4) (aId (by decide) (by decide)) ?_;simp only[PP,simprocAttr];exact u
set_option maxHeartbeats 1000000 in
def E4{K:Kp}{u:Nat}(hu:u<18446744073709551616)(hk:∀o,K (.tuple [.ref 1 0 1 0 (LN u).length,.str ⟨#[]⟩]) [o,.cells 0 0 (gM (LN u))]):
    aj tab 209 [.ah,.int .u64 u,p64 16,.bool Jp,.bool Jo] [] K:=by
  refine aT T.h209 ?_;simp only[af209,PP,simprocAttr];refine N0 T ?_;have L:IntKind.u64.wrap 16=16:=rfl;have u4:IntKind.u64.wrap 4=4:=rfl;have Y:IntKind.u64.wrap (16-1)=15:=rfl;simp only[PP,simprocAttr,L];refine aGn T ?_;have O:IntKind.u64.wrap 15=15:=rfl;simp only[PP,simprocAttr,L,u4,O];have Q:∀d:Nat,d<16->(ByteArray.mk #[48,49,50,51,52,53,54,55,56,57,97,98,99,100,101,102,103,104,105,106,107,108,109,110,111,112,113,114,115,116,117,118,119,120,121,122])[d]? =Jm (uY d):=fun d hd=>aEW hd;refine cQ (fun(c v:Nat)=>c<=15/\cHf u c (15-c)=cH u) (fun c v=>(.ah:: .int .u64 ((u / 16^c:Nat):Int):: .aa:: .bool Jp:: .bool Jo::zj 5++ .ah:: .str ⟨#[]⟩:: .ptr 0 0 0::p64 (65-c:Nat):: .int .u64 4:: .int .u64 16:: .int .u64 15::zj 85))
    (fun c v=>[.cells 0 v (Ah (65-c) (.int .u8 0)++gM (wS u c))]) (fun c v=>15-c) 0 0 ⟨by omega,rfl⟩ (by simp only[Nat.pow_zero,Nat.div_one,Nat.sub_zero,Fg,PW]) rfl ?_
  intro c v ⟨hc,R⟩ ih;have hq:u / 16^c<18446744073709551616:=Hc (Nat.div_le_self _ _) hu;have Z:IntKind.i64.wrap (((65-c:Nat):Int)-1)=((65-(c+1):Nat):Int):=by rw[wrap64 (by omega) (by omega)];omega
  obtain⟨m,hm⟩:∃m,65-c=m+1:=⟨65-c-1,by omega⟩;have G:65-(c+1)=m:=by omega
  have i0:(0:Int)<=(m:Int):=by omega
  have i1:(m:Int)<65:=by omega
  rw[hm,G]at Z;refine aH (by kernel_rfl) ?_;simp only[PP,simprocAttr];refine QIf.intro (fun d=>?_) fun d=>?_
  · have B:¬u / 16^c<16:=by omega
    have a2:c<15:=by
      refine Cb fun q=>?_;obtain rfl:c=15:=by omega
      have:=(aHH hu 0 15 rfl).1;exact B this
    have I:cHf u (c+1) (15-(c+1))=cH u:=by
      rw[<-R,show 15-c=15-(c+1)+1 by omega];show _=if _ then _ else _
      rw[if_neg B]
    have a0:=aGO hq;have s4:=aIl (u / 16^c);have E:=Q (u / 16^c % 16) (Dx _ (by decide));have k0:(0:Int)<=((u / 16^c % 16:Nat):Int):=by omega
    simp only[PP,simprocAttr,d,hm,Z,a0,s4,PT,E,k0,i0,i1];have J:((PV.int .u8 0)::(Ah m (.int .u8 0)++gM (wS u c))).set m (.int .u8 (((uY (u / 16^c % 16)).toNat:Nat):Int))=Ah m (.int .u8 0)++(.int .u8 (((uY (u / 16^c % 16)).toNat:Nat):Int))::gM (wS u c):=vR _ _ _ m;refine⟨by omega,aR (ih (c+1) (v+1) ⟨by omega,I⟩ (by omega)) (by simp only[aIX,G,PW]) ?_⟩;rw[J,G];rfl
  · have B:u / 16^c<16:=by omega
    have S:c=cH u:=by
      rw[<-R]
      cases hf:15-c with
      | zero=>rfl
      | succ f=>
        show c=if _ then _ else _
        rw[if_pos B]
    have E:=Q (u / 16^c) B;have k0:(0:Int)<=((u / 16^c:Nat):Int):=Int.natCast_nonneg _;have J:((PV.int .u8 0)::(Ah m (.int .u8 0)++gM (wS u c))).set m (.int .u8 (((uY (u / 16^c)).toNat:Nat):Int))=Ah m (.int .u8 0)++(.int .u8 (((uY (u / 16^c)).toNat:Nat):Int))::gM (wS u c):=vR _ _ _ m;have U:=IY u c;have t1:(65-(m:Int)).toNat=c+1:=by omega
    have hl:gM (LN u)=PV.int .u8 (((uY (u / 16^c)).toNat:Nat):Int)::gM (wS u c):=by unfold LN;rw[<-S];rfl
    have hlen:(LN u).length=c+1:=by unfold LN;rw[<-S,As,U]
    have a1:aY (Ah m (PV.int .u8 0)++PV.int .u8 (((uY (u / 16^c)).toNat:Nat):Int)::gM (wS u c)) m (c+1)=gM (LN u):=by rw[hl];unfold aY;rw[List.drop_append_of_le_length (by simp),Bz (by simp),Aq,Be (by simp[U])]
    have V:(gM (LN u)).all PV.one=Jo:=List.all_eq_true.2 fun x hx=>by obtain⟨y,_,rfl⟩:=List.mem_map.1 hx;rfl
    simp only[PP,simprocAttr,d,hm,Z,PT,E,k0,i0,i1,J,t1,a1,V];have:=hk (.cells 0 (v+1) (Ah m (.int .u8 0)++ .int .u8 (((uY (u / 16^c)).toNat:Nat):Int)::gM (wS u c)));rw[hlen]at this;exact⟨by omega,⟨by omega,by omega⟩,by omega,⟨by omega,by omega⟩,this⟩
omit T in
def Y3(a:Wd):tO a=[]\/wAt (tO a) ((tO a).length-1)≠0#64:=by
  have u:=rU a a.length;have hl:(tO a).length=gE a a.length:=by unfold tO;rw[Bu];omega
  rcases tN a a.length with h | h
  · left;exact List.length_eq_zero_iff.1 (by omega)
  · right;rw[hl,FO];exact h
omit T in
def OY(o:List Nat)(b:Nat):bF (o++[b])=bF o++[(b:Int)]:=by simp
def aB1{f o:Bool}{u:List Int}(hm:u.length<big)(y:∀g v,K (.ref M.length g 1 0 u.length) (M++[.cells g v (u.map p64)])):
    aj tab 59 [slI f o .i64 u] M K:=by
  have hb:u.length<1000000000000:=hm;have B:u.length*8<=140737488355328:=by omega
  have E:u.length<=9223372036854775807:=by omega
  refine dI (cA T.h59 ?_);simp only[af59];refine aA (aB ?_);simp only[PP,simprocAttr];refine aA (aB ?_);simp only[PP,simprocAttr];have G:(u.map p64).all PV.one=Jo:=tE _ _;refine QIf.intro (fun c=>?_) fun c=>?_
  · constructor
    · simp only[PP,simprocAttr];have:u=[]:=List.length_eq_zero_iff.1 c;subst this;exact Gh.step (GStep.nil 0 1 rfl rfl rfl) (Gh.same ⟨_,rfl,y 0 0⟩)
    · simp only[PP,simprocAttr];refine aA (pW ⟨[],rfl,?_⟩);simp only[PP,simprocAttr,gk0,sk0];exact⟨⟨B,E⟩,aB (by simp only[PP,simprocAttr];exact Gh.same ⟨_,rfl,y 1 0⟩)⟩
  · simp only[PP,simprocAttr];refine aA (pW ⟨[],rfl,?_⟩);simp only[PP,simprocAttr,gk0,sk0];exact⟨⟨B,E⟩,aB (by simp only[PP,simprocAttr];exact Gh.same ⟨_,rfl,y 1 0⟩)⟩
def aB2{f o:Bool}{u:List Eg}(hm:u.length<big)(B:∀g v,K (.ref M.length g 4 0 u.length) (M++[.cells g v (egL u)])):
    aj tab 153 [slE f o u] M K:=by
  have hb:u.length<1000000000000:=hm;have E:u.length*24<=140737488355328:=by omega
  have G:u.length<=9223372036854775807:=by omega
  refine dI (cA T.h153 ?_);simp only[af153];refine aA (aB ?_);simp only[PP,simprocAttr];refine aA (aB ?_);simp only[PP,simprocAttr];have y:(egL u).all PV.one=Jo:=HJ u;refine QIf.intro (fun c=>?_) fun c=>?_
  · constructor
    · simp only[PP,simprocAttr];have:u=[]:=List.length_eq_zero_iff.1 c;subst this;exact Gh.step (GStep.nil 0 4 rfl rfl rfl) (Gh.same ⟨_,rfl,B 0 0⟩)
    · simp only[PP,simprocAttr];refine aA (pW ⟨[],rfl,?_⟩);simp only[PP,simprocAttr,gk0,sk0,y];exact⟨⟨E,G⟩,aB (by simp only[PP,simprocAttr];exact Gh.same ⟨_,rfl,B 1 0⟩)⟩
  · simp only[PP,simprocAttr];refine aA (pW ⟨[],rfl,?_⟩);simp only[PP,simprocAttr,gk0,sk0,y];exact⟨⟨E,G⟩,aB (by simp only[PP,simprocAttr];exact Gh.same ⟨_,rfl,B 1 0⟩)⟩
end
section
variable {α:Type} [DecidableEq α]
def cO(o:List α)(b:α):List α:=if b∈o then o else o++[b]
def cI(δ:α->Nat->α)(a:α):Nat->List α->List α
  | 0,o=>o
  | x+1,o=>cO (cI δ a x o) (δ a x)
def dQ(δ:α->Nat->α)(n:Nat)(u:α):Nat->List α
  | 0=>[u]
  | k+1=>match (dQ δ n u k)[k]? with
    | some a=>cI δ a n (dQ δ n u k)
    | none=>dQ δ n u k
def MC(o:List α)(b:α):∃r,cO o b=o++r:=by
  unfold cO;split
  · exact⟨[],by simp⟩
  · exact⟨[b],rfl⟩
def KQ(o:List α)(b c:α):c∈cO o b↔c∈o\/c=b:=by
  unfold cO;split
  · constructor
    · exact .inl
    · rintro(h | rfl)
      · exact h
      · assumption
  · simp
def iB(δ:α->Nat->α)(a:α):∀(x:Nat) (o:List α),∃r,cI δ a x o=o++r
  | 0,o=>⟨[],by simp[cI]⟩
  | x+1,o=>by obtain⟨r,h⟩:=iB δ a x o;obtain⟨u,h2⟩:=MC (cI δ a x o) (δ a x);exact⟨r++u,by unfold cI;rw[h2,h,Ab]⟩
def kU(δ:α->Nat->α)(a c:α):∀(x:Nat) (o:List α),c∈cI δ a x o↔c∈o\/∃y,y<x/\c=δ a y
  | 0,o=>by simp[cI]
  | x+1,o=>by
    unfold cI;rw[KQ,kU δ a c x o];constructor
    · rintro((h | ⟨y,h1,h2⟩) | h)
      · exact .inl h
      · exact .inr ⟨y,by omega,h2⟩
      · exact .inr ⟨x,by omega,h⟩
    · rintro(h | ⟨y,h1,h2⟩)
      · exact .inl (.inl h)
      · by_cases e:y=x
        · subst e;exact .inr h2
        · exact .inl (.inr ⟨y,by omega,h2⟩)
def kW{a b:α}{o:List α}(h:b≠a):(a::o).idxOf b=o.idxOf b+1:=by rw[List.idxOf_cons];have:(a==b)=Jp:=beq_false_of_ne fun e=>h e.symm;rw[this];rfl
def uR{o r:List α}{b:α}(h:b∈o):(o++r).idxOf b=o.idxOf b:=by rw[Fl,if_pos h]
def iM(δ:α->Nat->α)(n:Nat)(o:List α)(a:α):List Int:=(Aw n).map fun x=>((o.idxOf (δ a x):Nat):Int)
def JK{δ:α->Nat->α}{n:Nat}{o r:List α}{a:α}(h:∀x,x<n->δ a x∈o):iM δ n (o++r) a=iM δ n o a:=
  Dt fun x u=>by rw[uR (h x (List.mem_range.1 u))]
def jE(κ:α->ByteArray):Nat->List α->List (ByteArray×PV)
  | _,[]=>[]
  | k,a::o=>(κ a,p64 (k:Int))::jE κ (k+1) o
omit [DecidableEq α] in
def KG(κ:α->ByteArray):∀(o:List α) (k:Nat),(jE κ k o).length=o.length
  | [],k=>rfl
  | a::o,k=>by simp[jE,KG κ o]
omit [DecidableEq α] in
def uH(κ:α->ByteArray)(b:α):∀(o:List α) (k:Nat),jE κ k o++[(κ b,p64 ((k+o.length:Nat):Int))]=jE κ k (o++[b])
  | [],k=>rfl
  | a::o,k=>by show(κ a,p64 (k:Int))::(jE κ (k+1) o++_)=(κ a,p64 (k:Int))::jE κ (k+1) (o++[b]);rw[<-uH κ b o (k+1)];simp only[As];rw[show k+1+o.length=k+(o.length+1) by omega]
def pL{κ:α->ByteArray}{Dm:α->Prop}(u:∀a b,Dm a->Dm b->κ a=κ b->a=b){b:α}(hb:Dm b):∀(o:List α) (k:Nat),(∀a∈o,Dm a)->sD (κ b) (jE κ k o)=if b∈o then Jm (p64 ((k+o.idxOf b:Nat):Int))else Jn
  | [],k,B=>rfl
  | a::o,k,B=>by
    unfold jE sD;by_cases e:κ b=κ a
    · obtain rfl:=u b a hb (B a (by simp)) e;rw[if_pos rfl,if_pos (by simp)];simp
    · have y:b≠a:=fun h=>e (by rw[h]);rw[if_neg e,pL u hb o (k+1) (fun c E=>B c (by simp[E]))];by_cases hm:b∈o
      · rw[if_pos hm,if_pos (by simp[hm]),kW y,show k+1+o.idxOf b=k+(o.idxOf b+1) by omega]
      · rw[if_neg hm,if_neg (by simp[hm,y])]
end
section
variable {tab:Tb} (T:HasA tab){M:Mem}{K:Kp}
include T
variable {α:Type} [DecidableEq α]
end
section
variable {α:Type} [DecidableEq α]
def gD{δ:α->Nat->α}{n:Nat}{u a:α}{k:Nat}(h:(dQ δ n u k)[k]? =Jm a):dQ δ n u (k+1)=cI δ a n (dQ δ n u k):=by show(match (dQ δ n u k)[k]? with | some a=>_ | none=>_)=_;rw[h]
def mQ{δ:α->Nat->α}{n:Nat}{u:α}{k:Nat}(h:(dQ δ n u k).length<=k):dQ δ n u (k+1)=dQ δ n u k:=by show(match (dQ δ n u k)[k]? with | some a=>_ | none=>_)=_;rw[Bk h]
def aCe(δ:α->Nat->α)(n:Nat)(u:α)(k:Nat):∃r,dQ δ n u (k+1)=dQ δ n u k++r:=by
  rcases Ba k (dQ δ n u k).length with h | h
  · obtain⟨r,e⟩:=iB δ ((dQ δ n u k)[k]) n (dQ δ n u k);exact⟨r,by rw[gD (Ad h),e]⟩
  · exact⟨[],by rw[mQ h];simp⟩
def FC(δ:α->Nat->α)(n:Nat)(u:α)(k:Nat):∀d,∃r,dQ δ n u (k+d)=dQ δ n u k++r
  | 0=>⟨[],by simp⟩
  | d+1=>by obtain⟨r,h⟩:=FC δ n u k d;obtain⟨y,h2⟩:=aCe δ n u (k+d);exact⟨r++y,by rw[<-Cs,h2,h,Ab]⟩
def u9{δ:α->Nat->α}{n:Nat}{u:α} :∀{k i:Nat} {a:α},i<k->(dQ δ n u k)[i]? =Jm a->∀x,x<n->δ a x∈dQ δ n u k
  | 0,i,a,h,_,_,_=>by omega
  | k+1,i,a,h,g,x,B=>by
    rcases Ba k (dQ δ n u k).length with y | y
    · have gk:=Ad y;have e:=gD gk;obtain⟨r,E⟩:=iB δ ((dQ δ n u k)[k]) n (dQ δ n u k);by_cases G:i=k
      · subst G;rw[e,E,Bj y,gk]at g;cases g;rw[e,kU];exact .inr ⟨x,B,rfl⟩
      · rw[e,E,Bj (by omega)]at g;have:=u9 (k:=k) (by omega) g x B;rw[e,E];exact List.mem_append_left _ this
    · rw[mQ y]at g ⊢;refine u9 (k:=k) ?_ g x B;rcases Ba i (dQ δ n u k).length with q | q
      · omega
      · rw[Bk q]at g;cases g
def B8{o:List α}{b:α}(h:o.Nodup):(cO o b).Nodup:=by
  unfold cO;split
  · exact h
  · rename_i q;rw[Hg];refine⟨h,by simp,fun x B y u e=>?_⟩;simp at u;subst u;subst e;exact q B
def mW{δ:α->Nat->α}{a:α} :∀(x:Nat) {o:List α},o.Nodup->(cI δ a x o).Nodup
  | 0,o,h=>h
  | x+1,o,h=>B8 (mW x h)
def nS(δ:α->Nat->α)(n:Nat)(u:α):∀k,(dQ δ n u k).Nodup
  | 0=>by simp[dQ]
  | k+1=>by
    rcases Ba k (dQ δ n u k).length with y | y
    · rw[gD (Ad y)];exact mW n (nS δ n u k)
    · rw[mQ y];exact nS δ n u k
def YW{δ:α->Nat->α}{u:α->Prop}{a:α}{n:Nat}(B:∀x,x<n->u (δ a x)){o:List α}(E:∀c∈o,u c){j:Nat}(I:j<=n):∀c∈cI δ a j o,u c:=by
  intro c G;rcases(kU δ a c j o).1 G with h | ⟨y,h1,rfl⟩
  · exact E c h
  · exact B y (by omega)
def B2{δ:α->Nat->α}{n:Nat}{y:α}{Dm:α->Prop}(h0:Dm y)(hs:∀a x,Dm a->x<n->Dm (δ a x)):∀k,∀c∈dQ δ n y k,Dm c
  | 0=>by simp[dQ,h0]
  | k+1=>by
    have B:=B2 h0 hs k;rcases Ba k (dQ δ n y k).length with u | u
    · rw[gD (Ad u)];exact YW (fun x E=>hs _ x (B _ (Df u)) E) B (Ac n)
    · rw[mQ u];exact B
def vP(δ:α->Nat->α)(n:Nat)(u:α)(k:Nat):List (List Int):=((dQ δ n u k).take k).map (iM δ n (dQ δ n u k))
def mC{δ:α->Nat->α}{n:Nat}{u:α}{k:Nat}(h:k<=(dQ δ n u k).length):(vP δ n u k).length=k:=by unfold vP;rw[Ap,Bu];omega
def qR{δ:α->Nat->α}{n:Nat}{u a:α}{k:Nat}(h:(dQ δ n u k)[k]? =Jm a):vP δ n u (k+1)=vP δ n u k++[iM δ n (cI δ a n (dQ δ n u k)) a]:=by
  have I:=aI h;obtain⟨r,y⟩:=iB δ a n (dQ δ n u k);unfold vP;rw[gD h];have B:(cI δ a n (dQ δ n u k)).take (k+1)=(dQ δ n u k).take k++[a]:=by rw[y,List.take_append_of_le_length (by omega),Cp,h];rfl
  rw[B,Ay];congr 1;refine Dt fun b hb=>?_;rw[y];refine JK fun x E=>?_;obtain⟨i,G,hb⟩:=List.mem_iff_getElem.1 hb;rw[Bu]at G;rw[List.getElem_take]at hb;exact u9 (k:=k) (i:=i) (by omega) (by rw[Ad (by omega),hb]) x E
def aF0(δ:α->Nat->α)(n:Nat)(o:List α):List (List Int):=o.map (iM δ n o)
def zC{δ:α->Nat->α}{n:Nat}{u:α}{k:Nat}(h:(dQ δ n u k).length<=k):vP δ n u k=aF0 δ n (dQ δ n u k):=by unfold vP aF0;rw[Be h]
end
section
variable {α:Type} [DecidableEq α]
variable {tab:Tb} (T:HasA tab)
include T
end
structure OkD (D:DF):Prop where
  v0:0<=D.vs
  v6:D.vs<=6
  n0:0<D.nx.length
  n1:D.nx.length<=4096
  f:D.fi.length=D.nx.length
  s0:0<=D.st
  s1:D.st<D.nx.length
  r:∀r∈D.nx,(r.length:Int)=2^D.vs.toNat/\∀t∈r,0<=t/\t<D.nx.length
def jn{v n:Int} :∀{l:List (List Int)},oE v n l=0↔∀r∈l,(r.length:Int)=2^v.toNat/\∀t∈r,0<=t/\t<n
  | []=>by simp[oE]
  | r::l=>by
    unfold oE;by_cases h1:(r.length:Int)=2^v.toNat
    · rw[if_pos h1];by_cases h2:B3 n r=Jo
      · rw[if_pos h2];constructor
        · intro h;exact absurd h (by decide)
        · intro h;unfold B3 at h2;obtain⟨t,h3,y⟩:=List.any_eq_true.1 h2;have:=(h r (by simp)).2 t h3;simp only[decide_eq_true_eq]at y;omega
      · rw[if_neg h2,jn];constructor
        · intro h x u;rcases List.mem_cons.1 u with rfl | u
          · refine⟨h1,fun t ht=>Cb fun q=>h2 ?_⟩;exact List.any_eq_true.2 ⟨t,ht,by simp only[decide_eq_true_eq];omega⟩
          · exact h x u
        · intro h x u;exact h x (by simp[u])
    · rw[if_neg h1];constructor
      · intro h;exact absurd h (by decide)
      · intro h;exact absurd (h r (by simp)).1 h1
def fx{D:DF} :cN D=0↔OkD D:=by
  unfold cN;constructor
  · intro h;split at h;· exact absurd h (by decide)
    split at h;· exact absurd h (by decide)
    split at h;· exact absurd h (by decide)
    split at h;· exact absurd h (by decide)
    split at h;· exact absurd h (by decide)
    rename_i h1 h2 h3 u y;exact⟨by omega,by omega,by omega,by omega,by have:=Classical.not_not.1 u;omega,by omega,by omega,jn.1 h⟩
  · intro C;have h1:=C.v0;have h2:=C.v6;have h3:=C.n0;have u:=C.n1;have y:=C.f;have B:=C.s0;have E:=C.s1;rw[if_neg (by omega),if_neg (by omega),if_neg (by omega),if_neg (by omega),if_neg (by omega)];exact jn.2 C.r
def vM(nx:List (List Int))(s x:Int):Int:=(((nx[s.toNat]?).getD [])[x.toNat]?).getD 0
def fiD(D:DF)(s:Int):Bool:=(D.fi[s.toNat]?).getD Jp
def OkD.step{D:DF}(C:OkD D){s x:Int}(s0:0<=s)(s1:s<D.nx.length)(B:0<=x)(E:x<2^D.vs.toNat):
    ∃r,D.nx[s.toNat]? =Jm r/\r[x.toNat]? =Jm (vM D.nx s x)/\x<r.length/\0<=vM D.nx s x/\vM D.nx s x<D.nx.length:=by
  obtain⟨r,g⟩:=aM (xs:=D.nx) (k:=s.toNat) (by omega);obtain⟨h1,h2⟩:=C.r r (Af g);obtain⟨t,u⟩:=aM (xs:=r) (k:=x.toNat) (by omega);have e:vM D.nx s x=t:=by unfold vM;rw[g];simp[u]
  rw[e];exact⟨r,g,u,by omega,h2 t (Af u)⟩
def OkD.run{D:DF}(C:OkD D):∀(w:List Int),(∀x∈w,0<=x/\x<2^D.vs.toNat)->∀s:Int,0<=s->s<D.nx.length->0<=w.foldl (vM D.nx) s/\w.foldl (vM D.nx) s<D.nx.length
  | [],_,s,h0,h1=>⟨h0,h1⟩
  | x::w,hw,s,h0,h1=>by have u:=hw x (by simp);obtain⟨_,_,_,_,a,b⟩:=C.step h0 h1 u.1 u.2;exact OkD.run C w (fun y B=>hw y (by simp[B])) _ a b
def OkD.fin{D:DF}(C:OkD D){s:Int}(s0:0<=s)(s1:s<D.nx.length):D.fi[s.toNat]? =Jm (fiD D s)/\s<D.fi.length:=by obtain⟨b,g⟩:=aM (xs:=D.fi) (k:=s.toNat) (by have:=C.f;omega);exact⟨by unfold fiD;rw[g];rfl,by have:=C.f;omega⟩
section
variable {tab:Tb} (T:HasA tab){M:Mem}{K:Kp}
include T
omit T in
def DF.ext'{D u:DF}(h1:D.vs=u.vs)(h2:D.st=u.st)(h3:D.nx=u.nx)(y:D.fi=u.fi):D=u:=by cases D;cases u;simp_all
def aBN{L O Q R S U V Y Z p2 e3 p3:Bool}{D D':DF}(B:BnD D)(J:∀b:Bool,(b=Jo↔D=D')->K (.bool b) M):
    aj tab 32 [.agg (dfC L O Q R S U D),.agg (dfC V Y Z p2 e3 p3 D')] M K:=by
  refine aF T.h32 (by simp only[PP,simprocAttr]) ?_;simp only[af32,PP,simprocAttr];have y:¬(D=D')->K (.bool Jp) M:=fun h=>J Jp ⟨fun h=>by(cases h),fun e=>absurd e h⟩;refine QIf.intro (fun u=>?_) fun u=>?_;rotate_left
  · simp only[PP,simprocAttr,u];exact y (by rintro rfl;exact u rfl)
  simp only[PP,simprocAttr,u];by_cases E:D.st=D'.st;rotate_left
  · simp only[PP,simprocAttr,E];exact y (by rintro rfl;exact E rfl)
  simp only[PP,simprocAttr,E];refine wL T B.n B.r ?_;by_cases G:D.nx=D'.nx;rotate_left
  · simp only[PP,simprocAttr,G];exact y (by rintro rfl;exact G rfl)
  simp only[PP,simprocAttr,G];refine aBO T B.f ?_;by_cases I:D.fi=D'.fi;rotate_left
  · simp only[PP,simprocAttr,I];exact y (by rintro rfl;exact I rfl)
  simp only[PP,simprocAttr,I];exact J Jo ⟨fun _=>DF.ext' u E G I,fun _=>rfl⟩
end
def oZ(D:DF)(a x:Nat):Nat:=(vM D.nx a x).toNat
abbrev mG(D:DF):Nat:=2^D.vs.toNat
def OkD.delta{D:DF}(C:OkD D){a x:Nat}(I:a<D.nx.length)(E:x<mG D):∃r,D.nx[a]? =Jm r/\r[x]? =Jm ((oZ D a x:Nat):Int)/\(x:Int)<r.length/\oZ D a x<D.nx.length:=by
  have u:(x:Int)<2^D.vs.toNat:=by
    have:((x:Nat):Int)<((2^D.vs.toNat:Nat):Int):=by exact_mod_cast E
    simpa using this
  obtain⟨r,y,B,G,J,K⟩:=C.step (s:=a) (x:=x) (by omega) (by omega) (by omega) u;simp only[Ck]at y B;refine⟨r,y,?_,G,?_⟩
  · rw[B];unfold oZ;congr 1;omega
  · unfold oZ;omega
section
variable {tab:Tb} (T:HasA tab){M:Mem}{K:Kp}
include T
omit T in
def OkD.small{D:DF}(C:OkD D)(k:Nat):(dQ (oZ D) (mG D) D.st.toNat k).length<=D.nx.length:=
  zY _ _ (nS _ _ _ k) (B2 (Dm:=fun a=>a<D.nx.length) (by have:=C.s0;have:=C.s1;omega) (fun a x u y=>(C.delta u y).choose_spec.2.2.2) k)
omit T in
def OkD.below{D:DF}(C:OkD D)(k:Nat):∀a∈dQ (oZ D) (mG D) D.st.toNat k,a<D.nx.length:=
  B2 (Dm:=fun a=>a<D.nx.length) (by have:=C.s0;have:=C.s1;omega) (fun a x u y=>(C.delta u y).choose_spec.2.2.2) k
omit T in
def OkD.row{D:DF}(C:OkD D){a:Nat}(u:a<D.nx.length):∃r,D.nx[a]? =Jm r/\r.length=mG D/\∀x,x<mG D->r[x]? =Jm ((oZ D a x:Nat):Int)/\oZ D a x<D.nx.length:=by
  obtain⟨r,g⟩:=aM u;have h1:=(C.r r (Af g)).1;have h2:((mG D:Nat):Int)=2^D.vs.toNat:=by simp
  refine⟨r,g,by omega,fun x B=>?_⟩;obtain⟨I,y,E,J,G⟩:=C.delta u B;rw[g]at y;cases y;exact⟨E,G⟩
end
section
variable {α β:Type} [DecidableEq α] [DecidableEq β]
omit [DecidableEq α] [DecidableEq β] in
def KN{φ:α->β}{Dm:α->Prop}(u:∀a b,Dm a->Dm b->φ a=φ b->a=b){o:List α}{b:α}(y:∀c∈o,Dm c)(hb:Dm b):φ b∈o.map φ↔b∈o:=by
  constructor
  · intro h;obtain⟨c,h1,h2⟩:=List.mem_map.1 h;rw[<-u c b (y c h1) hb h2];exact h1
  · intro h;exact List.mem_map.2 ⟨b,h,rfl⟩
def E0{φ:α->β}{Dm:α->Prop}(u:∀a b,Dm a->Dm b->φ a=φ b->a=b){b:α}(hb:Dm b):∀{o:List α},(∀c∈o,Dm c)->(o.map φ).idxOf (φ b)=o.idxOf b
  | [],_=>rfl
  | a::o,y=>by
    by_cases e:b=a
    · subst e;simp
    · have B:φ b≠φ a:=fun h=>e (u b a hb (y a (by simp)) h);rw[Ak,kW B,kW e,E0 u hb (fun c E=>y c (by simp[E]))]
end
abbrev aL(N:NF):Nat:=2^N.vs.toNat
def aJ(N:NF)(a:BitVec 64)(x:Nat):BitVec 64:=(nH N.es x).foldl (fun u e=>if a.getLsbD e.fr.toNat=Jo then u||| Db 64 e.to.toNat else u) 0#64
def LT(a:BitVec 64)(k:Nat):∀(l:List Eg) (u:BitVec 64),(∀e∈l,0<=e.to/\e.to<64)->
    ((l.foldl (fun u e=>if a.getLsbD e.fr.toNat=Jo then u||| Db 64 e.to.toNat else u) u).getLsbD k=Jo↔u.getLsbD k=Jo\/∃e∈l,a.getLsbD e.fr.toNat=Jo/\e.to=k)
  | [],u,_=>by simp
  | e::l,u,h=>by
    have he:=h e (by simp);rw[Ed,LT a k l _ fun e he=>h e (by simp[he])];by_cases c:a.getLsbD e.fr.toNat=Jo
    · rw[if_pos c,BitVec.getLsbD_or,Ei,He,Au,decide_eq_true_eq,decide_eq_true_eq];constructor
      · rintro((h1 | ⟨h1,h2⟩) | ⟨y,h1,h2⟩)
        · exact .inl h1
        · exact .inr ⟨e,by simp,c,by omega⟩
        · exact .inr ⟨y,by simp[h1],h2⟩
      · rintro(h1 | ⟨y,h1,h2,h3⟩)
        · exact .inl (.inl h1)
        · rcases List.mem_cons.1 h1 with rfl | h1
          · exact .inl (.inr ⟨by omega,by omega⟩)
          · exact .inr ⟨y,h1,h2,h3⟩
    · rw[if_neg c];constructor
      · rintro(h1 | ⟨y,h1,h2⟩)
        · exact .inl h1
        · exact .inr ⟨y,by simp[h1],h2⟩
      · rintro(h1 | ⟨y,h1,h2,h3⟩)
        · exact .inl h1
        · rcases List.mem_cons.1 h1 with rfl | h1
          · exact absurd h2 c
          · exact .inr ⟨y,h1,h2,h3⟩
def KR{u:List Eg}{x:Nat}{e:Eg}(h:e∈nH u x):e∈u:=(List.mem_filter.1 h).1
def rD{N:NF}(C:NOk N)(a:BitVec 64)(x k:Nat):(aJ N a x).getLsbD k=Jo↔∃e∈nH N.es x,a.getLsbD e.fr.toNat=Jo/\e.to=k:=by unfold aJ;rw[LT a k _ _ fun e he=>by have:=C.ed e (KR he);have:=C.n64;omega];simp
structure RB (s:Wd) (a:BitVec 64):Prop where
  len:s.length<=64
  lt:∀k,bit s k=Jo->k<64
  at0:wAt s 0=a
def RB.bit{s:Wd}{a:BitVec 64}(h:RB s a)(k:Nat):bit s k=a.getLsbD k:=by
  by_cases u:k<64
  · unfold Ar.bit;rw[show k / 64=0 by omega,show k % 64=k by omega,h.at0]
  · rw[Fj _ _ (by omega)]
    cases hb:Ar.bit s k with
    | false=>rfl
    | true=>exact absurd (h.lt k hb) u
def RB.mk'{s:Wd}{a:BitVec 64}(hl:s.length<=64)(h:∀k,Ar.bit s k=Jo↔a.getLsbD k=Jo):RB s a:=by
  have lt:∀k,Ar.bit s k=Jo->k<64:=fun k u=>by refine Cb fun q=>?_;have:=(h k).1 u;rw[Fj _ _ (by omega)]at this;cases this
  refine⟨hl,lt,Fi fun i y=>?_⟩;have:=h i;unfold Ar.bit at this;rw[show i / 64=0 by omega,show i % 64=i by omega]at this;exact Bool.eq_iff_iff.2 this
def RB.next{N:NF}(C:NOk N){s o:Wd}{a:BitVec 64}{x:Nat}(h:RB s a)(u:aI5 N.es s x o):RB o (aJ N a x):=by refine .mk' u.1 fun k=>?_;rw[u.2,rD C];simp only[h.bit]
def dL(N:NF):BitVec 64:=wAt (faW N.st) 0
def ZD{N:NF}(C:NOk N):RB (faW N.st) (dL N):=by obtain⟨_,h2,h3⟩:=aGa C C.st;refine⟨h2,fun k u=>?_,rfl⟩;rw[h3,decide_eq_true_eq]at u;have:=kO C.st _ u;have:=C.n64;omega
def qQ{N:NF}(C:NOk N)(k:Nat):(dL N).getLsbD k=Jo↔(k:Int)∈N.st:=by obtain⟨_,_,h3⟩:=aGa C C.st;rw[<-(ZD C).bit,h3,decide_eq_true_eq]
def CZ(N:NF)(a:BitVec 64):Bool:=N.fi.any fun q=>a.getLsbD q.toNat
def aZ(o:List (BitVec 64)):List (List Int):=o.map fun a=>bF (bJ a)
def YT{u:Int}{x:Nat}(h:x<2^u.toNat):RZ u [(x:Int)]=0:=by
  have y:¬(2:Int)^u.toNat<=x:=by
    have:((2^u.toNat:Nat):Int)=2^u.toNat:=by simp
    omega
  unfold RZ;rw[if_neg (by simp),if_neg (by simp[y])]
def NOk.pf{N:NF}(C:NOk N):aL N<=64:=JY C.v6
section
variable {tab:Tb} (T:HasA tab){M:Mem}{K:Kp}
include T
end
def aIb(o:Wd):Prop:=o=[]\/wAt o (o.length-1)≠0#64
def fQ(a:BitVec 64):Wd:=if a=0#64 then []else [a]
def RB.one{o:Wd}{a:BitVec 64}(h:RB o a)(u:aIb o):o=fQ a:=by
  have hz:∀i,0<i->wAt o i=0#64:=fun i E=>Fi fun j G=>by
    cases B:(wAt o i).getLsbD j with
    | false=>simp
    | true=>
      have:Ar.bit o (64*i+j)=Jo:=by unfold Ar.bit;rw[show(64*i+j) / 64=i by omega,show(64*i+j) % 64=j by omega];exact B
      have:=h.lt _ this;omega
  have h0:=h.at0;unfold fQ;rcases u with rfl | ht
  · have e:wAt ([]:Wd) 0=0#64:=kJ (by simp);rw[e]at h0;rw[if_pos h0.symm]
  · have hl:o.length-1=0:=Cb fun q=>ht (hz _ (by omega));rw[hl,h0]at ht;rw[if_neg ht]
    match o,hl with
    | [],_=>have e:wAt ([]:Wd) 0=0#64:=kJ (by simp);rw[e]at h0;exact absurd h0.symm ht
    | [x],_=>rw[<-h0];rfl
    | x::y::l,h=>simp at h
def aD2(a:BitVec 64):RB (fQ a) a:=by
  unfold fQ;by_cases h:a=0#64
  · rw[if_pos h];exact⟨by simp,fun k u=>by simp[Ar.bit,wAt]at u,by rw[h];rfl⟩
  · rw[if_neg h];refine⟨by simp,fun k u=>?_,rfl⟩;refine Cb fun q=>?_;have:wAt [a] (k / 64)=0#64:=kJ (by simp;omega);unfold Ar.bit at u;rw[this]at u;simp at u
def aAv(a:BitVec 64):(fQ a).length<=1:=by unfold fQ;split<;>simp
def jM(a:BitVec 64):ByteArray:=⟨(Key.mc ((fQ a).map (·.toNat))).toArray⟩
section
variable {tab:Tb} (T:HasA tab){M:Mem}{K:Kp}
include T
set_option maxHeartbeats 1000000 in
def aHL{Y Z f2 o2 f3 o3 f4 o4:Bool}{N:NF}{s:Wd}{x:Nat}(C:NOk N)(B:BnN N)(hs:s.length<=64)(hx:x<256)(hk:∀o,aI5 N.es s x o->aIb o->K (slW Jp Jo o) M):
    aj tab 144 [.agg (nfC Y Z f2 o2 f3 o3 N),slW f4 o4 s,p8 x] M K:=by
  have a2:=C.n64;refine bQ T.h144 (by simp only[PP,simprocAttr,bD]) ?_;simp only[af144];refine aA (aB ?_);simp only[PP,simprocAttr];refine aU (GStep.ff (b:=(.aa:: .aa::p8 x:: .cp (nfC Y Z f2 o2 f3 o3 N) 0:: .ptr 1 0 0:: .aa:: .ptr 2 0 0::zj 14)) 0 (Ai _) rfl (by simp only[hP,hU,fE,eD,eC,fD]) rfl) ?_;refine aU (GStep.ff (b:=(.aa:: .aa::p8 x:: .cp (nfC Y Z f2 o2 f3 o3 N) 0:: .cp [slW f4 o4 s] 0:: .aa:: .ptr 2 0 0::zj 14)) 1 (Ai _) rfl (by simp only[hP,hU,fE,eC,fD]) rfl) ?_;refine aU (GStep.wkC (v':=slW Jp Jo []) 2 0 rfl (fun v h=>by cases h;exact bo.ah _ _ _) rfl) ?_;refine aB ?_;simp only[PP,simprocAttr];refine OZ T ?_;simp only[PP,simprocAttr];refine aE (b:=(zj 4++ .cp [slW f4 o4 s] 0:: .aa:: .ptr 2 0 0::zj 3++ .func (.func 213) [] [.cp (nfC Y Z f2 o2 f3 o3 N) 0,.cp [p8 x] 0]::zj 10)) ?_ (by simp only[PW]);refine o9 rfl fun u q1 q2 q3 q4 q5 q6=>?_;simp only[PP,simprocAttr];refine aAM T (L:=3) hx B.e B.b (fun k G=>∃ver v o y,G=[.gone,.gone,.cells 0 v [slW Jp Jo o],.loop ver u]++y/\(o.length<=64/\aIb o)/\∀j:Nat,bit o j=Jo↔∃e∈(nH N.es x).take k,bit s e.fr.toNat=Jo/\e.to=j)
    ⟨0,0,[],[],rfl,⟨by simp,.inl rfl⟩,fun j=>by simp[bit,wAt]⟩ ?_ ?_ ?_ ?_
  · rintro k G o ⟨ver,v,O,y,rfl,h⟩;exact⟨ver,v,O,y++[o],by simp only[Ab],h⟩
  · rintro k G ⟨ver,v,O,y,rfl,h⟩;exact⟨ver,u,rfl⟩
  · rintro k G e ⟨ver,v,o,y,rfl,⟨ho,I⟩,hb⟩ Q K' R;refine CC (ver:=ver) (r:=u) rfl (by rw[q4];rfl) ?_;rw[q3,q4,q5];refine aB ?_;simp only[lD,PP,simprocAttr,gk0,sk0];have S:∀B,u.body=B->(⟨.ready,Jn,u.tmps,u.params,u.assign,B⟩:ju)=u:=fun B hB=>by cases u;simp_all
    refine⟨ver,u,rfl,q1,?_⟩;rw[q6];refine aB ?_;have a0:=Af Q;have a1:e∈N.es:=(List.mem_filter.1 a0).1;obtain⟨e1,e2,e3,e4,_⟩:=C.ed e a1;have J:e.fr=((e.fr.toNat:Nat):Int):=by omega
    have U:e.to=((e.to.toNat:Nat):Int):=by omega
    have V:∀O:Wd,(∀j:Nat,bit O j=Jo↔(bit o j=Jo\/(bit s e.fr.toNat=Jo/\e.to=j)))->∀j:Nat,bit O j=Jo↔∃e∈(nH N.es x).take (k+1),bit s e.fr.toNat=Jo/\e.to=j:=fun O h j=>by
      rw[h,hb,Cp,Q];simp only[Gi,Ci,Bp];constructor
      · rintro(⟨z,h1,h2⟩ | h)
        · exact⟨z,.inl h1,h2⟩
        · exact⟨e,.inr rfl,h⟩
      · rintro⟨z,h1 | rfl,h2⟩
        · exact .inl ⟨z,h1,h2⟩
        · exact .inr h2
    simp only[PP,simprocAttr,gk0];rw[show PV.int .i64 e.fr=p64 ((e.fr.toNat:Nat):Int) by rw[<-J]];refine aE9 T hs (by omega) ?_
    cases E:bit s e.fr.toNat with
    | false=>simp only[PP,simprocAttr];refine⟨ver+1,_,rfl,?_⟩;rw[if_pos rfl];refine R _ ⟨ver+1+1,v,o,y++[.cells 0 1 (egC e)],?_,⟨ho,I⟩,V o fun j=>by rw[E];simp⟩;simp only[PP,simprocAttr,S _ q6,<-J]
    | true=>
      simp only[PP,simprocAttr,gk0];rw[show PV.int .i64 e.to=p64 ((e.to.toNat:Nat):Int) by rw[<-U]];refine aGk T (by show _<1000000000000;omega) (by omega) ?_;obtain⟨w1,w2⟩:=aCb (k:=e.to.toNat) ho (by omega);simp only[PP,simprocAttr];refine⟨ver+1,_,rfl,?_⟩;rw[if_pos rfl];refine R _ ⟨ver+1+1,v+1,rP o e.to.toNat,y++[.cells 0 1 (egC e)],?_,⟨w1,Y3 _⟩,V _ fun j=>?_⟩
      · simp only[PP,simprocAttr,S _ q6,<-J,<-U]
      · rw[w2,Ei,decide_eq_true_eq,E];constructor
        · rintro(h | h)
          · exact .inl h
          · exact .inr ⟨rfl,by omega⟩
        · rintro(h | ⟨_,h⟩)
          · exact .inl h
          · exact .inr (by omega)
  · rintro G ⟨ver,v,o,y,rfl,⟨ho,I⟩,hb⟩;refine⟨ver,u,rfl,by rw[q1];exact(by intro h;cases h),?_⟩;rw[q2];simp only[PP,simprocAttr];rw[Be (Ac _)]at hb;exact hk o ⟨ho,hb⟩ I
def WC{I J L O Q R f4 S:Bool}{N:NF}{a:BitVec 64}{x:Nat}(E:eB N=0)(B:BnN N)(U:x<aL N)(V:K (.tuple [slW Jp Jo (fQ (aJ N a x)),p64 0]) M):
    aj tab 83 [.agg (nfC I J L O Q R N),slW f4 S (fQ a),p8 x] M K:=by
  have C:=lR E;have Y:=C.pf;have hr:=aD2 a;refine aF T.h83 (by simp only[PP,simprocAttr,bD]) ?_;simp only[af83,PP,simprocAttr];refine DV T B ?_;simp only[PP,simprocAttr,E];refine aGj T (w:=[(x:Int)]) C (fun y G=>by simp at G;subst G;omega) (by simp) ?_;rw[YT U];simp only[PP,simprocAttr];refine aHL T C B hr.len (by omega) fun o Z u=>?_;rw[(hr.next C Z).one u];simp only[PP,simprocAttr];exact V
end
section
variable {tab:Tb}
def kH{g:FuncId}{F:List AV->H->Option AV}(hg:tab g=Jm (.jr (bH F))){args:List PV}{M:Mem}{K:Kp}{r:PV}
    (h:∀w hh u,PSt w hh M->al w args u->∃v,F u hh=Jm v/\az w r v) (y:K r M):aj tab g args M K:=by
  intro w hh u h0 s B;obtain⟨v,hv,hr⟩:=h w hh u s B;unfold C;refine⟨v,hh,?_,w,r,M,dr.refl (Ac _) w hh,s,hr,y⟩;rw[oU];simp only[dH,hg,bH,hv]
def nB{w:PWd}{s:ByteArray}{x:AV}(h:az w (.str s) x):x= .str s:=by cases h;rfl
def D7{w:PWd} :∀{l:List (BitVec 64)} {u:List AV},al w ((wI l).map (PV.int .u64)) u->Key.jm u=Jm (l.map (·.toNat))
  | [],[],h=>rfl
  | [],_::_,h=>by have:=h.len;simp[wI]at this
  | _::_,[],h=>by have:=h.len;simp[wI]at this
  | a::l,x::u,h=>by have h1:=dC h.hd;subst h1;have h2:=D7 (l:=l) h.tl;have hlt:=a.isLt;unfold Key.jm;rw[h2];simp only[Ak];rw[if_pos ⟨by omega,by omega⟩];simp
def JQ{w:PWd} :∀{l:List ByteArray} {u:List AV},al w (l.map PV.str) u->dX u=Jm l
  | [],[],h=>rfl
  | [],_::_,h=>by have:=h.len;simp at this
  | _::_,[],h=>by have:=h.len;simp at this
  | a::l,x::u,h=>by have h1:=nB h.hd;subst h1;have h2:=JQ (l:=l) h.tl;unfold dX;rw[h2]
end
def TG(n:Int):ByteArray:=⟨(LL n).toArray⟩
section
variable {tab:Tb} (T:HasA tab){M:Mem}{K:Kp}
include T
def aEH{n:Int}(h0: -9223372036854775808<=n)(h1:n<=9223372036854775807)(B:K (.str (TG n)) M):aj tab 106 [p64 n] M K:=by
  refine kH T.itoa (fun w hh u s y=>?_) B
  match u,y with
  | [v],y=>have:=dC y.hd;subst this;exact⟨.str (TG n),by unfold itoaF;simp only;rw[if_pos ⟨h0,h1⟩];rfl,.str _⟩
def aFe{t:ByteArray}{n:Int}(h0:t.size<=9223372036854775806)(h1:Lib.atoiAll t.data.toList= .ok n)(B:K (.tuple [p64 n,.ae]) M):aj tab 132 [.str t] M K:=by
  refine kH T.atoi (fun w hh u s y=>?_) B
  match u,y with
  | [v],y=>have:=nB y.hd;subst this;refine⟨.tuple [.int .i64 n,.ae],by show(if _ then _ else _)=_;rw[if_pos h0,h1],?_⟩;have:=al.cons (az.int (w:=w) .i64 n) (.cons .ae (.nil w));exact .tuple this.len this.get
def aHt{n:Nat}(h:n<18446744073709551616)(B:K (.str ⟨(dig 20 n).toArray⟩) M):aj tab 131 [.int .u64 n,p64 10] M K:=by
  refine kH T.fmt (fun w hh u s y=>?_) B
  match u,y with
  | [v,G],y=>
    have:=dC y.hd;subst this;have:=dC y.tl.hd;subst this;have E:(n:Int)<18446744073709551616:=by omega
    refine⟨.str ⟨(dig 20 n).toArray⟩,?_,.str _⟩;unfold Proofs.YtapbgleednkimaaGreatDoor.Fmt.fmtF;simp only;rw[if_pos ⟨trivial,by omega,E⟩];rfl
def Y6{a t:ByteArray}{x y k:Int}(h:t.size<=281474976710656)(E:k=1\/k=2)(G:∀I,K (.iface I Zj) M):
    aj tab 172 [.str a,.str t,p64 x,p64 y,.iface (Proofs.YtapbgleednkimaaGreatDoor.Lay.renNm.t 167) (p64 k)] M K:=by
  refine kH (r:= .iface (Proofs.YtapbgleednkimaaGreatDoor.Lay.renNm.t 168) .aa) T.toErr (fun w hh u s B=>?_) (G _)
  match u,B with
  | [Q,R,S,U,J],B=>
    have:=nB B.hd;subst this;have:=nB B.tl.hd;subst this;have:=dC B.tl.tl.hd;subst this;have:=dC B.tl.tl.tl.hd;subst this;have L:=B.tl.tl.tl.tl.hd
    match J,L with
    | _,.iface O=>have:=dC O;subst this;refine⟨.iface (Proofs.YtapbgleednkimaaGreatDoor.Lay.renNm.t 168) .aa,?_,.iface (.aa _)⟩;show(if _ then _ else _)=_;rw[if_pos ⟨h,rfl,E⟩]
def QE{f o:Bool}{a:BitVec 64}(I:K (.str (jM a)) M):aj tab 155 [slW f o (fQ a)] M K:=by
  refine kH T.key (fun w hh u s y=>?_) I
  match u,y with
  | [v],y=>
    have hl:=aAv a;rcases nC s y.hd with⟨rfl,h1,h2⟩ | ⟨J,b,off,ver,rw,B,rfl,_,S,L,O,Q,G,_⟩
    · refine⟨_,rfl,?_⟩;have:fQ a=[]:=List.length_eq_zero_iff.1 h1;unfold jM;rw[this];exact .str _
    · by_cases hz:(fQ a).length=0
      · refine⟨_,by show(if _ then _ else _)=_;rw[if_pos hz],?_⟩;have:fQ a=[]:=List.length_eq_zero_iff.1 hz;unfold jM;rw[this];exact .str _
      · refine⟨.str (jM a),?_,.str _⟩;show(if _ then _ else _)=_;rw[if_neg hz,if_pos ⟨rfl,by omega⟩];have E:bB hh b off (fQ a).length=Jm ((B.drop off).take (fQ a).length):=by
          unfold bB;rw[L];simp only;rw[if_pos (by rw[<-Nat.mul_one (fQ a).length,<-Q];exact O)]
        rw[E];have R:((wI (fQ a)).map (PV.int .u64)).length=(fQ a).length:=by simp[wI]
        rw[R]at G;have:=D7 G;simp only[this];rfl
def aEF{id g ver:Nat}{u:List ByteArray}{y:ByteArray}(O:M[id]? =Jm (.cells g ver (u.map PV.str)))(h1:u.length<=140737488355328)
    (h2:(Lib.join (u.map (·.data.toList)) y.data.toList).length<=140737488355328) (Q:K (.str ⟨(Lib.join (u.map (·.data.toList)) y.data.toList).toArray⟩) M):aj tab 63 [.ref id g 1 0 u.length,.str y] M K:=by
  refine kH T.join (fun w hh B s E=>?_) Q
  match B,E with
  | [v,U],E=>
    have:=nB E.tl.hd;subst this;obtain⟨e,V,Y,R⟩:=s.ij O E.hd;rcases R with⟨rfl,h0,_,_,G⟩ | ⟨Z,b,I,rfl,p1,S,L,p4⟩
    · have:u=[]:=by simpa using G
      subst this;exact⟨_,rfl,.str _⟩
    · by_cases hz:u.length=0
      · refine⟨_,by show(if _ then _ else _)=_;rw[if_pos hz],?_⟩;have:u=[]:=List.length_eq_zero_iff.1 hz;subst this;exact .str _
      · refine⟨_,?_,.str _⟩;show(if _ then _ else _)=_;rw[if_neg hz,if_pos rfl];have J:bB hh b 0 u.length=Jm I:=by unfold bB;rw[S];have:=L.len;rw[Ap]at this;simp only;rw[if_pos (by omega),List.drop_zero,Be (by omega)]
        rw[J];have:=JQ L;simp only[this];rw[if_pos ⟨h1,h2⟩]
def ZH{t:ByteArray}{c:UInt8}(h:t.size<4294967281)(I:K (.sl Jo Jo 1 (bL c t.data.toList).length ((bL c t.data.toList).map fun l=> .str ⟨l.toArray⟩)) M):
    aj tab 70 [.str t,.str ⟨#[c]⟩] M K:=by
  intro w hh u h0 s E
  match u,E with
  | [v,R],E=>
    have:=nB E.hd;subst this;have:=nB E.tl.hd;subst this;have J:splitF [.str t,.str ⟨#[c]⟩] hh=Jm ((bL c t.data.toList).map fun l=> .str ⟨l.toArray⟩):=by show(if _ then _ else _)=_;rw[if_pos h]
    unfold C;obtain⟨L,O,Q⟩:=s.mf (.cells 0 Jo ((bL c t.data.toList).map fun l=> .str ⟨l.toArray⟩));refine⟨.slice Jo 1 hh.next 0 ((bL c t.data.toList).map fun l=>AV.str ⟨l.toArray⟩).length,_,?_,_,_,M,O,L,?_,I⟩
    · rw[oU];simp only[dH,T.split,jL,J]
    · rw[Ap];refine .sl Q (by simp) (by simp) (fun _ _=>rfl) (fun _=>⟨s.base,rfl⟩) (fun q=>by cases q) fun i y z B G=>?_;rw[Az]at G;rw[Av]at B G
      cases hb:(bL c t.data.toList)[i]? with
      | none=>rw[hb]at B;cases B
      | some b=>rw[hb]at B G;cases B;cases G;exact .str _
end
def OJ{a:BitVec 64}{k:Nat}(h:k<64):cD .shr (oL a) (p64 k)=Jm (oL (a>>>k)):=by
  have h1:¬((k:Int)<0):=by omega
  have h2:min ((k:Int).toNat) 64=k:=by omega
  have h3:((a.toNat:Nat):Int).fdiv (2^k)=(((a>>>k).toNat:Nat):Int):=by rw[Int.fdiv_eq_ediv_of_nonneg _ (by exact Int.pow_nonneg (by omega)),BitVec.toNat_ushiftRight,Nat.shiftRight_eq_div_pow];simp
  simp only[cD,cB,gI,bW,tD,IntKind.bits,h1,h2,if_true,if_false,h3,Cr,bd]
def aFb(a:BitVec 64)(k:Nat):((((a>>>k)&&& 1#64).toNat:Nat):Int)=if a.getLsbD k=Jo then 1 else 0:=by
  have h:(a>>>k)&&& 1#64=if a.getLsbD k=Jo then 1#64 else 0#64:=by
    refine Fi fun i y=>?_;by_cases u:a.getLsbD k=Jo
    · rw[if_pos u,Iw,BitVec.getLsbD_ushiftRight];by_cases h0:i=0
      · subst h0;simp[u]
      · have:(1#64).getLsbD i=Jp:=by rw[BitVec.getLsbD_one];simp[h0]
        rw[this];simp
    · rw[if_neg u,Iw,BitVec.getLsbD_ushiftRight];by_cases h0:i=0
      · subst h0;simp at u;simp[u]
      · have:(1#64).getLsbD i=Jp:=by rw[BitVec.getLsbD_one];simp[h0]
        rw[this];simp
  rw[h];split<;>rfl
def mO(a:BitVec 64)(k:Nat):List Nat:=(Aw k).filter fun j=>a.getLsbD j
def QF(a:BitVec 64)(k:Nat):mO a (k+1)=mO a k++if a.getLsbD k=Jo then [k]else []:=by unfold mO;rw[Et,Gm];congr 1;by_cases h:a.getLsbD k=Jo<;>simp[h]
def XL(a:BitVec 64)(k:Nat):(mO a k).length<=k:=by unfold mO;exact Aj (Ft _ _) (by simp)
def orB(l:List Nat):BitVec 64:=l.foldl (fun w k=>w||| Db 64 k) 0#64
def aAp(l:List Nat)(k:Nat):orB (l++[k])=orB l||| Db 64 k:=by unfold orB;rw[List.foldl_append];rfl
def aAq(k:Nat):∀(l:List Nat) (w:BitVec 64),(∀x∈l,x<64)->((l.foldl (fun w k=>w||| Db 64 k) w).getLsbD k=Jo↔w.getLsbD k=Jo\/k∈l)
  | [],w,_=>by simp
  | x::l,w,h=>by
    have B:=h x (by simp);rw[Ed,aAq k l _ fun y u=>h y (by simp[u]),BitVec.getLsbD_or,Ei,He,Au,decide_eq_true_eq,decide_eq_true_eq,Cu];constructor
    · rintro((h1 | ⟨h1,h2⟩) | h1)
      · exact .inl h1
      · exact .inr (.inl h2.symm)
      · exact .inr (.inr h1)
    · rintro(h1 | h1 | h1)
      · exact .inl (.inl h1)
      · exact .inl (.inr ⟨by omega,h1.symm⟩)
      · exact .inr h1
def aDV{l:List Nat}(h:∀x∈l,x<64)(k:Nat):(orB l).getLsbD k=Jo↔k∈l:=by unfold orB;rw[aAq k l _ h];simp
def EG{N:NF}(C:NOk N):∀q∈N.st,0<=q/\q<64:=fun q u=>by have:=kO C.st q u;have:=C.n64;omega
def V9{N:NF}(C:NOk N):orB (N.st.map Dc)=dL N:=by
  have h:=EG C;refine Fi fun i B=>?_;rw[Gn,aDV (fun x u=>by obtain⟨q,y,rfl⟩:=List.mem_map.1 u;have:=h q y;omega),qQ C];constructor
  · intro u;obtain⟨q,y,e⟩:=List.mem_map.1 u;have:=h q y;rw[show(i:Int)=q by omega];exact y
  · intro u;exact List.mem_map.2 ⟨i,u,by simp⟩
def CD{u:Tb}{g:FuncId}{args:List PV}{M:Mem}{K:Kp}(hb:aD 0 args=Jo)(B:aj u g args [] fun r E=>∃y,fP 0 E r=Jm y/\K y M):aj u g args M K:=rO hb B
section
variable {tab:Tb} (T:HasA tab){M:Mem}{K:Kp}
include T
def mN{f o:Bool}{u:List Int}(hm:u.length<big)(y:K (slI Jp Jo .i64 u) M):aj tab 59 [slI f o .i64 u] M K:=by refine CD (by simp only[PP,simprocAttr]) (aB1 T hm fun g v=>⟨slI Jp Jo .i64 u,?_,y⟩);simp only[fP,cP];rw[eT (ver:=v) (Ai _) rfl (by simp) (aO _ _ _),aK _ _ (by simp)]
def XH{f o:Bool}{u:List Eg}(hm:u.length<big)(y:K (slE Jp Jo u) M):aj tab 153 [slE f o u] M K:=by
  refine CD (by simp only[PP,simprocAttr,bD]) (aB2 T hm fun g v=>⟨slE Jp Jo u,?_,y⟩);simp only[fP,cP];have:=gA u;have B:aD 0 (egL u)=Jo:=by
    exact cF 0 u
  rw[eT (ver:=v) (Ai _) rfl (by simp[gA]) B,aK _ _ (by simp[gA])]
set_option maxHeartbeats 1000000 in
def T3{f o:Bool}{a:BitVec 64}(J:K (slI Jp Jo .i64 (bF (bJ a))) M):aj tab 254 [slW f o (fQ a)] M K:=by
  refine bQ T.h254 (by simp only[PP,simprocAttr]) ?_;simp only[af254];refine aA (aB ?_);simp only[PP,simprocAttr];refine aU (GStep.nil 2 1 rfl rfl rfl) ?_;refine aB ?_;simp only[PP,simprocAttr];refine cQ (fun(k:Nat) (g:Nat)=>k<=64) (fun k g=>(slW f o (fQ a):: .aa:: .ref 0 g 1 0 (mO a k).length:: .aa::p64 k::zj 20)) (fun k g=>[.cells g 0 ((bF (mO a k)).map p64)]) (fun k _=>64-k) 0 0 (by omega) (by simp only[mO,Hi,Iy,PW]) rfl ?_;intro k g I E;refine aH (by kernel_rfl) ?_;simp only[PP,simprocAttr];refine QIf.intro (fun c=>?_) fun c=>?_;rotate_left
  · obtain rfl:k=64:=by omega
    simp only[PP,simprocAttr];rw[aK _ _ (by simp)];have e:mO a 64=bJ a:=rfl;rw[e];have L:(bF (bJ a)).length=(bJ a).length:=by simp
    rw[<-L];exact J
  have hlt:k<64:=by omega
  have hw:=aC (k:=k) (by show _<1000000000000;omega);have O:=XL a k;have Q:((mO a k).length+1)*8<=140737488355328:=by omega
  have R:(mO a k).length+1<=9223372036854775807:=by omega
  have hs:=QF a k;unfold fQ;by_cases u:a=0#64
  · have B:a.getLsbD k=Jp:=by rw[u];simp
    rw[B]at hs;simp only[Bf,if_false,Bv]at hs;simp only[PP,simprocAttr,c,u,hw];have:=E (k+1) g (by omega) (by omega);rw[hs]at this;unfold fQ at this;rw[u]at this;simp only[if_true]at this;exact aE this (by simp only[PW])
  · have G:=OJ (a:=a) hlt;have y:cD .and (oL (a>>>k)) (.int .u64 1)=Jm (oL (a>>>k&&& 1#64)):=qS _ 1#64;have hb:=aFb a k;simp only[PP,simprocAttr,c,u,wI,G,y,hb]
    cases B:a.getLsbD k with
    | false=>rw[B]at hs;simp only[Bf,if_false,Bv]at hs;simp only[PP,simprocAttr,hw];have:=E (k+1) g (by omega) (by omega);rw[hs]at this;unfold fQ at this;simp only[u,if_false]at this;exact aE this (by simp only[PW])
    | true=>
      rw[B,if_pos rfl]at hs;simp only[PP,simprocAttr,hw,Q,R];have:=E (k+1) (g+1) (by omega) (by omega);rw[hs]at this;unfold fQ at this;simp only[u,if_false]at this;have he:(mO a k++[k]).length=(mO a k).length+1:=by simp
      rw[he]at this;refine aR this (by simp only[PW]) ?_;rw[aK _ _ (by simp)];simp
set_option maxHeartbeats 1000000 in
def aHI{f o:Bool}{N:NF}(C:NOk N)(B:BnN N)(u:K (slW Jp Jo (fQ (dL N))) M):aj tab 154 [slI f o .i64 N.st] M K:=by
  have E:=EG C;have hb:N.st.length<1000000000000:=B.s;have Q:(((0#64:BitVec 64).toNat:Nat):Int)=0:=rfl;have R:orB []=0#64:=rfl;have S:oL 0#64= .int .u64 0:=rfl;refine iK (aF T.h154 (by simp only[PP,simprocAttr]) ?_);simp only[af154,PP,simprocAttr];refine dN (fun(k:Nat)=>k<=N.st.length) (fun k=>(zj 3++oL (orB ((N.st.map Dc).take k)):: .aa:: .aa::slI f o .i64 N.st::p64 N.st.length::p64 k::zj 12)) (fun _=>[]) (fun k=>N.st.length-k) 0 (by omega) (by simp only[Iz,R,S,PW]) rfl ?_;intro k U V;refine aH (by kernel_rfl) ?_;simp only[PP,simprocAttr];refine QIf.intro (fun c=>?_) fun c=>?_;rotate_left
  · have G:k=N.st.length:=by omega
    subst G;rw[Be (by simp),V9 C];unfold fQ at u;by_cases I:dL N=0#64
    · rw[I]at u ⊢;simp only[PP,simprocAttr,c];exact⟨_,bo.ah _ _ _,u⟩
    · have hz:¬(((dL N).toNat:Nat):Int)=0:=fun h=>I (by apply Gl;simp;omega);rw[if_neg I]at u;simp only[PP,simprocAttr,c,hz];exact⟨_,bo.sl _ _ _ _,u⟩
  have hlt:k<N.st.length:=by omega
  have hw:=aC (k:=k) (by show _<1000000000000;omega);have Y:(0:Int)<=k:=by omega
  obtain⟨q,J⟩:=aM hlt;have Z:=E q (Af J);have y:=zO (k:=q.toNat) (by omega);rw[show((q.toNat:Nat):Int)=q by omega]at y;have L:=EJ (orB ((N.st.map Dc).take k)) (Db 64 q.toNat);have O:orB ((N.st.map Dc).take (k+1))=orB ((N.st.map Dc).take k)||| Db 64 q.toNat:=by
    rw[<-aAp,Cp,Av,J];rfl
  simp only[PP,simprocAttr,c,Y,J,y,L,hw];have:=V (k+1) (by omega) (by omega);rw[O]at this;exact aE this (by simp only[PW])
def aBB{f o:Bool}{l:List Int}{q:Int}(hl:l.length<big)(E:∀r:Int,(0<=r↔q∈l)->K (p64 r) M):aj tab 259 [slI f o .i64 l,p64 q] M K:=by
  have hb:l.length<1000000000000:=hl;refine aF T.h259 (by simp only[PP,simprocAttr]) ?_;simp only[af259,PP,simprocAttr];refine dN (fun(k:Nat)=>k<=l.length/\q∉l.take k) (fun k=>(slI f o .i64 l::p64 q::zj 5++p64 l.length::p64 k::zj 10)) (fun _=>[]) (fun k=>l.length-k) 0 (by simp) (by simp only[PW]) rfl ?_;intro k ⟨I,u⟩ J;refine aH (by kernel_rfl) ?_;simp only[PP,simprocAttr];refine QIf.intro (fun c=>?_) fun c=>?_;rotate_left
  · have y:k=l.length:=by omega
    subst y;rw[Be (Ac _)]at u;simp only[PP,simprocAttr,c];exact E _ ⟨fun h=>absurd h (by omega),fun h=>absurd h u⟩
  have hlt:k<l.length:=by omega
  have hw:=aC (k:=k) (by show _<1000000000000;omega);have G:(0:Int)<=k:=by omega
  obtain⟨x,B⟩:=aM hlt;simp only[PP,simprocAttr,c,G,B];refine QIf.intro (fun d=>?_) fun d=>?_
  · simp only[PP,simprocAttr,d];exact E _ ⟨fun _=>by rw[d];exact Af B,fun _=>G⟩
  · simp only[PP,simprocAttr,d,hw];refine aE (J (k+1) ⟨by omega,?_⟩ (by omega)) (by simp only[PW]);rw[Cp,B];simp only[Gi,Ci,Bp];rintro(h | h)
    · exact u h
    · exact d h
def aE5{f o:Bool}{l:List Int}{q:Int}(hl:l.length<big)(u:K (.bool (decide (q∈l))) M):aj tab 257 [slI f o .i64 l,p64 q] M K:=by
  refine aF T.h257 (by simp only[PP,simprocAttr]) ?_;simp only[af257,PP,simprocAttr];refine aBB T hl fun r hr=>?_;simp only[PP,simprocAttr];have:decide (0<=r)=decide (q∈l):=by simp only[hr]
  rw[this];exact u
end
def K4{a b:BitVec 64}(h:jM a=jM b):a=b:=by
  unfold jM fQ at h;have h:Key.mc ((if a=0#64 then []else [a]).map (·.toNat))=Key.mc ((if b=0#64 then []else [b]).map (·.toNat)):=by have:=congrArg (fun x:ByteArray=>x.data.toList) h;simpa using this
  by_cases u:a=0#64<;>by_cases hb:b=0#64
  · rw[u,hb]
  · rw[if_pos u,if_neg hb]at h;simp[Key.mc]at h
  · rw[if_neg u,if_pos hb]at h;simp[Key.mc]at h
  · rw[if_neg u,if_neg hb]at h;simp only[Ak,Bq,Key.mc]at h;have:=List.append_inj_left' h rfl;exact Gl (ArK.qk a.isLt b.isLt this)
section
variable {α:Type} [DecidableEq α]
def frN(δ:α->Nat->α)(a:α)(S:List α)(x:Nat):List α:=(cI δ a x S).drop S.length
def kX(δ:α->Nat->α)(a:α)(S:List α)(x:Nat):cI δ a x S=S++frN δ a S x:=by obtain⟨r,h⟩:=iB δ a x S;unfold frN;rw[h,Gk]
def kN(δ:α->Nat->α)(a:α)(S:List α)(x:Nat):List Int:=(Aw x).map fun y=>(((cI δ a x S).idxOf (δ a y):Nat):Int)
def gK(δ:α->Nat->α)(a:α)(S:List α)(x:Nat):(kN δ a S x).length=x:=by simp[kN]
def DZ(δ:α->Nat->α)(a:α)(S:List α)(x:Nat):kN δ a S (x+1)=kN δ a S x++[(((cI δ a (x+1) S).idxOf (δ a x):Nat):Int)]:=by unfold kN;rw[Et,Ay];congr 1;refine Dt fun y u=>?_;have u:=List.mem_range.1 u;obtain⟨r,h⟩:=MC (cI δ a x S) (δ a x);have h2:cI δ a (x+1) S=cI δ a x S++r:=h;rw[h2,uR];exact(kU δ a _ x S).2 (.inr ⟨y,u,rfl⟩)
def R8{δ:α->Nat->α}{a:α}{S:List α}{x:Nat}(h:δ a x∈S):frN δ a S (x+1)=frN δ a S x/\(cI δ a (x+1) S).idxOf (δ a x)=S.idxOf (δ a x):=by
  have e:cI δ a (x+1) S=cI δ a x S:=by show cO _ _=_;unfold cO;rw[if_pos (by rw[kX];exact List.mem_append_left _ h)]
  refine⟨by unfold frN;rw[e],?_⟩;rw[e,kX,uR h]
def SA{δ:α->Nat->α}{a:α}{S:List α}{x:Nat}(h:δ a x∉S)(h2:δ a x∈frN δ a S x):frN δ a S (x+1)=frN δ a S x/\(cI δ a (x+1) S).idxOf (δ a x)=S.length+(frN δ a S x).idxOf (δ a x):=by
  have e:cI δ a (x+1) S=cI δ a x S:=by show cO _ _=_;unfold cO;rw[if_pos (by rw[kX];exact List.mem_append_right _ h2)]
  refine⟨by unfold frN;rw[e],?_⟩;rw[e,kX,Fl,if_neg h,Dh]
def R9{δ:α->Nat->α}{a:α}{S:List α}{x:Nat}(h:δ a x∉S)(h2:δ a x∉frN δ a S x):frN δ a S (x+1)=frN δ a S x++[δ a x]/\(cI δ a (x+1) S).idxOf (δ a x)=S.length+(frN δ a S x).length:=by
  have e:cI δ a (x+1) S=S++(frN δ a S x++[δ a x]):=by show cO _ _=_;unfold cO;rw[if_neg (by rw[kX,Ci];rintro(q | q);exact h q;exact h2 q),kX,Ab]
  refine⟨by have:=e;unfold frN at this ⊢;rw[this,Gk],?_⟩;rw[e,Fl,if_neg h,Fl,if_neg h2];simp only[List.idxOf_cons_self];omega
def qZ(δ:α->Nat->α)(a:α)(S:List α):∀x,(frN δ a S x).length<=x
  | 0=>by simp[frN,cI]
  | x+1=>by
    have u:=qZ δ a S x;by_cases h:δ a x∈S
    · rw[(R8 h).1];omega
    · by_cases h2:δ a x∈frN δ a S x
      · rw[(SA h h2).1];omega
      · rw[(R9 h h2).1];simp;omega
def W4(δ:α->Nat->α)(a:α){S:List α}(u:S.Nodup)(x:Nat):∀t∈frN δ a S x,t∉S:=fun t ht hs=>by have:=mW (δ:=δ) (a:=a) x u;rw[kX,Hg]at this;exact this.2.2 t hs t ht rfl
end
def KF{S:List (BitVec 64)}{t:BitVec 64}(k:Nat)(h:t∉S):f7 2 (.str (jM t)) (.str (jM t)) (p64 ((k+S.length:Nat):Int)) (smE (jE jM k S))=smE (jE jM k (S++[t])):=by have hl:=pL (κ:=jM) (Dm:=fun _=>True) (fun a b _ _ h=>K4 h) (b:=t) trivial S k fun _ _=>trivial;rw[if_neg h]at hl;rw[F5 _ _ _ hl,uH]
def uG(S:List (BitVec 64))(t:BitVec 64)(k:Nat):sD (jM t) (jE jM k S)=if t∈S then Jm (p64 ((k+S.idxOf t:Nat):Int))else Jn:=
  pL (κ:=jM) (Dm:=fun _=>True) (fun a b _ _ h=>K4 h) trivial S k fun _ _=>trivial
def BZ(a:BitVec 64):(bJ a).length<=64:=by unfold bJ;exact Aj (Ft _ _) (by simp)
def MX(id g:Nat)(cs a b:List PV):∀l:List PV,jx id g cs (l++a) (l++b)=jx id g cs a b
  | []=>rfl
  | x::l=>by rw[Al,Al,bI,MX id g cs a b l]
abbrev csD(f o:Bool)(S:List (BitVec 64)):List PV:=S.map fun a=>slW f o (fQ a)
abbrev clD(f o:Bool)(S:List (BitVec 64)):List PV:=(aZ S).map (slI f o .i64)
def qD(a b c d e f g h i j:Nat):Nat->Nat
  | 0=>a | 1=>b | 2=>c | 3=>d | 4=>e | 5=>f | 6=>g | 7=>h | 8=>i | _=>j
def eG(b:Nat)(y B E G I J f o:Bool)(N:NF)(q:Nat->Nat)(S:List (BitVec 64))(rows:List (List Int))(u:List Bool):Mem:=
  [.gone,.cells (q 0) (q 1) (csD f o S),.cells (q 2) (q 3) (clD f o S),.map (q 4) (smE (jE jM 0 S)),
   .cells 0 (q 5) [p64 N.vs,p64 N.n,slI y B .i64 N.st,slI E G .i64 N.fi,slE I J N.es,.ref (b + 1) (q 0) 1 0 S.length,.ref (b + 2) (q 2) 1 0 S.length,.map (b + 3),.ref (b + 5) (q 6) 1 0 rows.length,.ref (b + 6) (q 8) 1 0 u.length],
   .cells (q 6) (q 7) (rows.map (slI f o .i64)),.cells (q 8) (q 9) (u.map PV.bool)]
def IO(m:Nat)(f o:Bool)(S:List (BitVec 64)):aD m (csD f o S)=Jo:=dK m _ (fun a=>e8 m _ _ 1 _ .u64 (wI (fQ a))) S
def oY{A:Mem}(hA:A.all (aG A.length)=Jo)(E G I J K L f o:Bool)(N:NF)(q:Nat->Nat)(S:List (BitVec 64))(rows:List (List Int))(y:List Bool):
    (A++eG A.length E G I J K L f o N q S rows y).all (aG (A.length+7))=Jo:=by
  have h1:=bE (n:=A.length+7) (by omega) hA;have h2:∀m,aG m (.map (q 4) (smE (jE jM 0 S)))=Jo:=fun m=>by
    refine aDy (fun p u=>?_) (q 4);have B:∀(S:List (BitVec 64)) (k:Nat),∀p∈jE jM k S,p.2.under m=Jo:=by
      intro S
      induction S with
      | nil=>intro k p u;cases u
      | cons a S M=>
        intro k p u;rcases List.mem_cons.1 u with rfl | u
        · simp[PV.under]
        · exact M _ p u
    exact B S 0 p u
  rw[Cc,h1];have h3:aD (A.length+7) (rows.map (slI f o .i64))=Jo:=dK _ _ (fun x=>e8 _ _ _ 1 _ .i64 x) rows;have O:aD (A.length+7) (clD f o S)=Jo:=dK _ _ (fun x=>e8 _ _ _ 1 _ .i64 x) _;have Q:aD (A.length+7) (y.map PV.bool)=Jo:=dK _ _ (fun x=>by simp[PV.under]) y;have R:=IO (A.length+7) f o S;simp only[eG,List.all_cons,List.all_nil,h2,Bool.true_and,Bool.and_true];simp only[aG,h3,O,Q,R];simp[aD,PV.under,cF,aO]
def mK{A l:Mem}{u y B E G I f o:Bool}{N:NF}{q:Nat->Nat}{S:List (BitVec 64)}{rows:List (List Int)}{J:List Bool} :
    (A++(eG A.length u y B E G I f o N q S rows J++l)).take (A.length+7)=A++eG A.length u y B E G I f o N q S rows J:=by
  rw[<-Ab];exact Bb (by simp[eG])
section
variable {tab:Tb} (T:HasA tab){M:Mem}{K:Kp}
include T
def TU{A l:Mem}{K:Kp}{u y B E G I f o:Bool}{N:NF}{q:Nat->Nat}{S:List (BitVec 64)}{rows:List (List Int)}{J:List Bool}(L:K (.bool (decide (rows.length<S.length))) (A++(eG A.length u y B E G I f o N q S rows J++l))):
    aj tab 252 [.ptr (A.length+4) 0 0] (A++(eG A.length u y B E G I f o N q S rows J++l)) K:=by
  refine aT T.h252 ?_;unfold eG at L ⊢;simp only[af252,PP,simprocAttr,gk];have e:decide ((rows.length:Int)<S.length)=decide (rows.length<S.length):=by simp only[Int.ofNat_lt]
  rw[e];exact L
def aI6{id v:Nat}{f o:Bool}{l:List Int}{x:Int}(u:M[id]? =Jm (.cells 0 v [slI f o .i64 l]))(hl:l.length<big)(y:K (.bool (decide (x∈l))) M):
    aj tab 256 [p64 x,.ptr id 0 0] M K:=by
  refine aT T.h256 ?_;simp only[af256,PP,simprocAttr,u];refine aE5 T hl ?_;simp only[PP,simprocAttr];exact y
def aHi{id v:Nat}{f o I J:Bool}{l u:List Int}(Q:M[id]? =Jm (.cells 0 v [slI f o .i64 l]))(hl:l.length<big)(R:u.length<big)(L:∀r:Int,(0<=r↔∃x∈u,x∈l)->K (p64 r) M):
    aj tab 258 [slI I J .i64 u,.func (.func 256) [] [.ptr id 0 0]] M K:=by
  have hb:u.length<1000000000000:=R;refine aT T.h258 ?_;simp only[af258,PP,simprocAttr];refine dN (fun(k:Nat)=>k<=u.length/\∀x∈u.take k,x∉l) (fun k=>(slI I J .i64 u:: .func (.func 256) [] [.ptr id 0 0]::zj 5++p64 u.length::p64 k::zj 10)) (fun _=>M) (fun k=>u.length-k) 0 (by simp) (by simp only[PW]) rfl ?_;intro k ⟨S,B⟩ U;refine aH (by kernel_rfl) ?_;simp only[PP,simprocAttr];refine QIf.intro (fun c=>?_) fun c=>?_;rotate_left
  · have E:k=u.length:=by omega
    subst E;rw[Be (Ac _)]at B;simp only[PP,simprocAttr,c];exact L _ ⟨fun h=>absurd h (by omega),fun⟨x,h1,h2⟩=>absurd h2 (B x h1)⟩
  have hlt:k<u.length:=by omega
  have hw:=aC (k:=k) (by show _<1000000000000;omega);have O:(0:Int)<=k:=by omega
  obtain⟨x,G⟩:=aM hlt;simp only[PP,simprocAttr,c,O,G];refine aI6 T Q hl ?_;by_cases d:x∈l
  · simp only[PP,simprocAttr,d];exact L _ ⟨fun _=>⟨x,Af G,d⟩,fun _=>O⟩
  · simp only[PP,simprocAttr,d,hw];refine aE (U (k+1) ⟨by omega,?_⟩ (by omega)) (by simp only[PW]);rw[Cp,G];simp only[Gi,Ci,Bp];rintro y (h | rfl)
    · exact B y h
    · exact d
def aE4{id v:Nat}{f o y B:Bool}{l u:List Int}{b:Bool}(E:M[id]? =Jm (.cells 0 v [slI f o .i64 l]))(hl:l.length<big)(G:u.length<big)(hb:b=Jo↔∃x∈u,x∈l)(I:K (.bool b) M):
    aj tab 255 [slI y B .i64 u,.func (.func 256) [] [.ptr id 0 0]] M K:=by
  refine aT T.h255 ?_;simp only[af255,PP,simprocAttr];refine aHi T E hl G fun r hr=>?_;simp only[PP,simprocAttr];have:decide (0<=r)=b:=by rw[Gn,decide_eq_true_eq,hr,hb]
  rw[this];exact I
set_option maxHeartbeats 2000000 in
def aET{A:Mem}{K:Kp}{f1 o1 f2 o2 f3 o3 f o:Bool}{N:NF}{q:Nat->Nat}{S:List (BitVec 64)}{rows:List (List Int)}{E:List Bool}(hc:eB N=0)(B:BnN N)(hA:A.all (aG A.length)=Jo)
    (hn:S.Nodup) (hl:S.length<=4096) (e7:E.length=rows.length)
    (c7:S.length<=rows.length->K (.tuple [.bool Jp,p64 0]) (A++eG A.length f1 o1 f2 o2 f3 o3 f o N q S rows E))
    (c8:∀a,S[rows.length]? =Jm a->4096<(cI (aJ N) a (aL N) S).length->K (.tuple [.bool Jp,p64 10]) (A++eG A.length f1 o1 f2 o2 f3 o3 f o N q S rows E))
    (c9:∀a,S[rows.length]? =Jm a->(cI (aJ N) a (aL N) S).length<=4096->∀q',K (.tuple [.bool Jo,p64 0]) (A++eG A.length f1 o1 f2 o2 f3 o3 Jo Jp N q' (cI (aJ N) a (aL N) S) (rows++[iM (aJ N) (aL N) (cI (aJ N) a (aL N) S) a]) (E++[CZ N a]))):
    aj tab 253 [.ptr (A.length+4) 0 0] (A++eG A.length f1 o1 f2 o2 f3 o3 f o N q S rows E) K:=by
  have C:=lR hc;have a5:cD .shl (.int .i64 1) (.int .i64 N.vs)=Jm (.int .i64 ((aL N:Nat):Int)):=by rw[xI (by have:=C.v0;omega) (by have:=C.v6;omega)];simp
  refine dI (cA T.h253 ?_);simp only[af253];refine aB ?_;simp only[PP,simprocAttr];refine TU T (l:=[]) ?_;simp only[PP,simprocAttr];by_cases c:rows.length<S.length;rotate_left
  · simp only[PP,simprocAttr,c];exact Gh.same ⟨_,rfl,c7 (by omega)⟩
  obtain⟨a,ga⟩:=aM c;have k0:(0:Int)<=rows.length:=by omega
  have k1:(rows.length:Int)<S.length:=by omega
  simp only[eG,PP,simprocAttr,PT,gk,c,k0,k1,ga,a5,Ab];refine aE (b:=(.ptr (A.length+4) 0 0::zj 3++slW f o (fQ a):: .ah:: .ah:: .map (A.length+7)::zj 29++p64 (aL N:Nat)::p64 (0:Nat)::zj 130)) ?_ (by simp only[PW]);refine aU (GStep.nil (b:=(.ptr (A.length+4) 0 0::zj 3++slW f o (fQ a):: .ref (A.length+8) 0 1 0 0:: .ah:: .map (A.length+7)::zj 29++p64 (aL N:Nat)::p64 (0:Nat)::zj 130)) 5 1 rfl (by simp only[PP,simprocAttr]) rfl) ?_;refine aU (GStep.nil (b:=(.ptr (A.length+4) 0 0::zj 3++slW f o (fQ a):: .ref (A.length+8) 0 1 0 0:: .ref (A.length+9) 0 1 0 0:: .map (A.length+7)::zj 29++p64 (aL N:Nat)::p64 (0:Nat)::zj 130)) 6 1 rfl (by simp only[PP,simprocAttr]) rfl) ?_;refine wA (fun(x L O vm:Nat)=>x<=aL N) (fun x L O vm=>(.ptr (A.length+4) 0 0::zj 3++slW f o (fQ a):: .ref (A.length+8) L 1 0 x:: .ref (A.length+9) O 1 0 (frN (aJ N) a S x).length:: .map (A.length+7)::zj 29++p64 (aL N:Nat)::p64 (x:Nat)::zj 130))
    (fun x L O vm=>A++(eG A.length f1 o1 f2 o2 f3 o3 f o N q S rows E++[.map vm (smE (jE jM S.length (frN (aJ N) a S x))),.cells L 0 ((kN (aJ N) a S x).map p64),.cells O 0 (csD Jp Jo (frN (aJ N) a S x))])) (fun x L O vm=>aL N-x) 0 0 0 0 (by omega) (by simp only[frN,cI,Gx,PW]) ?_ ?_
  · simp only[eG,frN,cI,Gx,kN,Hi,jE,smE,Ab,PP,simprocAttr]
  intro x L O vm hx ih;refine aH (by kernel_rfl) ?_;have f8:=C.pf;have g0:=qZ (aJ N) a S x;simp only[eG,PP,simprocAttr];refine QIf.intro (fun d=>?_) fun d=>?_
  · have d0:x<aL N:=by omega
    have d4:IntKind.u8.wrap (x:Int)=(x:Int):=by
      have:x<256:=by omega
      unfold IntKind.wrap;simp[IntKind.bits,IntKind.signed];omega
    have a1:=aC (k:=x) (by show _<1000000000000;omega);have a2:IntKind.i64.wrap ((S.length:Int)+(frN (aJ N) a S x).length)=((S.length+(frN (aJ N) a S x).length:Nat):Int):=by rw[wrap64]<;>omega
    have b1:(x+1)*8<=140737488355328:=by omega
    have b2:x+1<=9223372036854775807:=by omega
    have b3:x<=(kN (aJ N) a S x).length:=by rw[gK];exact Ac _
    have b4:((frN (aJ N) a S x).length+1)*24<=140737488355328:=by omega
    have b5:(frN (aJ N) a S x).length+1<=9223372036854775807:=by omega
    have G:=uG S (aJ N a x) 0;have I:=uG (frN (aJ N) a S x) (aJ N a x) S.length;have y:=DZ (aJ N) a S x;simp only[PP,simprocAttr,gk,d,d4];refine WC T hc B d0 ?_;simp only[PP,simprocAttr];refine QE T ?_;simp only[PP,simprocAttr,PT,gk];by_cases m1:aJ N a x∈S
    · rw[if_pos m1]at G;obtain⟨v1,v2⟩:=R8 m1;rw[v2]at y;simp only[PP,simprocAttr,PT,gk,sk,G,a1,b1,b2,b3];have:=ih (x+1) (L+1) O vm (by omega) (by omega);rw[v1,y]at this;refine aR this (by simp only[PW]) ?_;simp only[eG,PP,simprocAttr];rw[aK _ _ (by simp[gK])]
    · rw[if_neg m1]at G;by_cases m2:aJ N a x∈frN (aJ N) a S x
      · rw[if_pos m2]at I;obtain⟨v1,v2⟩:=SA m1 m2;rw[v2]at y;simp only[PP,simprocAttr,PT,gk,sk,G,I,a1,b1,b2,b3];have:=ih (x+1) (L+1) O vm (by omega) (by omega);rw[v1,y]at this;refine aR this (by simp only[PW]) ?_;simp only[eG,PP,simprocAttr];rw[aK _ _ (by simp[gK])]
      · rw[if_neg m2]at I;obtain⟨v1,v2⟩:=R9 m1 m2;rw[v2]at y;have J:=KF S.length m2;simp only[PP,simprocAttr,PT,gk,sk,G,I,a1,a2,J,b1,b2,b3,b4,b5];have:=ih (x+1) (L+1) (O+1) (vm+1) (by omega) (by omega);rw[v1,y]at this;have e1:(frN (aJ N) a S x++[aJ N a x]).length=(frN (aJ N) a S x).length+1:=by simp
        rw[e1]at this;refine aR this (by simp only[PW]) ?_;simp only[eG,PP,simprocAttr];rw[aK _ _ (by simp[gK])]
  obtain rfl:x=aL N:=by omega
  have a2:IntKind.i64.wrap ((S.length:Int)+(frN (aJ N) a S (aL N)).length)=((S.length+(frN (aJ N) a S (aL N)).length:Nat):Int):=by rw[wrap64]<;>omega
  have g1:(cI (aJ N) a (aL N) S).length=S.length+(frN (aJ N) a S (aL N)).length:=by rw[kX,An]
  simp only[PP,simprocAttr,gk,d,a2];refine QIf.intro (fun e=>?_) fun e=>?_
  · simp only[PP,simprocAttr,e];refine Gh.step (GStep.im (b:=[.tuple [.bool Jp,p64 10]]) (N:=A++eG A.length f1 o1 f2 o2 f3 o3 f o N q S rows E) (A.length+7) (by simp) (by simp) (by simp only[PW]) ?_ ?_ ?_) (Gh.same ⟨_,rfl,c8 a ga (by omega)⟩)
    · simp[aD,PV.under]
    · exact(congrArg (fun M:Mem=>M.all (aG (A.length+7))) (mK (l:=[_,_,_]))).trans (oY hA ..)
    · exact mK (l:=[_,_,_])
  have d5:=W4 (aJ N) a hn (aL N);have d6:(frN (aJ N) a S (aL N)).Nodup:=by have:=mW (δ:=aJ N) (a:=a) (aL N) hn;rw[kX,Hg]at this;exact this.2.1
  have d7:∀S:List (BitVec 64),(aZ S).length=S.length:=fun S=>by simp[aZ]
  simp only[PP,simprocAttr,gk,e];have a6:=kX (aJ N) a S (aL N);generalize g2:frN (aJ N) a S (aL N)=u at*;refine aE (b:=(.ptr (A.length+4) 0 0::zj 3++slW f o (fQ a):: .ref (A.length+8) L 1 0 (aL N)::zj 96++ .ref (A.length+9) O 1 0 u.length::p64 u.length::p64 (0:Nat)::zj 64)) ?_ (by simp only[PW]);refine aU (GStep.wkO (A.length+1) (cs2:=csD Jo Jp S) (by rw[gk];rfl) (fun w R h=>h.wkM fun x=>bo.sl0 _ _ _ _ _) rfl) ?_;refine aU (GStep.wkO (A.length+2) (cs2:=clD Jo Jp S) (by rw[sk,gk];rfl) (fun w R h=>h.wkM fun x=>bo.sl0 _ _ _ _ _) rfl) ?_;refine aU (GStep.wkO (A.length+5) (cs2:=rows.map (slI Jo Jp .i64)) (by rw[sk,sk,gk];rfl) (fun w R h=>h.wkM fun x=>bo.sl0 _ _ _ _ _) rfl) ?_;refine aIv (fun(i U vs V vl Y Z:Nat)=>i<=u.length) (fun i U vs V vl Y Z=>(.ptr (A.length+4) 0 0::zj 3++slW f o (fQ a):: .ref (A.length+8) L 1 0 (aL N)::zj 96++ .ref (A.length+9) O 1 0 u.length::p64 u.length::p64 (i:Nat)::zj 64))
    (fun i U vs V vl Y Z=>A++[.gone,.cells U vs (csD Jo Jp S++csD Jp Jo (u.take i)),.cells V vl (clD Jo Jp S++clD Jp Jo (u.take i)),.map Y (smE (jE jM 0 (S++u.take i))),.cells 0 Z [p64 N.vs,p64 N.n,slI f1 o1 .i64 N.st,slI f2 o2 .i64 N.fi,slE f3 o3 N.es,.ref (A.length+1) U 1 0 (S.length+i),.ref (A.length+2) V 1 0 (S.length+i),.map (A.length+3),.ref (A.length+5) (q 6) 1 0 rows.length,.ref (A.length+6) (q 8) 1 0 E.length],.cells (q 6) (q 7) (rows.map (slI Jo Jp .i64)),.cells (q 8) (q 9) (E.map PV.bool),.map vm (smE (jE jM S.length u)),.cells L 0 ((kN (aJ N) a S (aL N)).map p64),.cells O 0 (csD Jp Jo u)]) (fun i U vs V vl Y Z=>u.length-i) 0 (q 0) (q 1) (q 2) (q 3) (q 4) (q 5) (by omega) (by simp only[PW]) ?_ ?_
  · have e0:clD Jp Jo []=[]:=rfl;simp only[sk,Iz,Bq,e0,Bv,Dw,PP,simprocAttr]
  intro i U vs V vl Y Z hi ih;refine aH (by kernel_rfl) ?_;simp only[PP,simprocAttr];refine QIf.intro (fun c2=>?_) fun c2=>?_
  · have d8:i<u.length:=by omega
    obtain⟨t,gt⟩:=aM d8;have i0:(0:Int)<=i:=by omega
    have d9:=aC (k:=i) (by show _<1000000000000;omega);have a3:u.take (i+1)=u.take i++[t]:=bZ gt;have b7:t∉S++u.take i:=by
      rw[Ci];rintro(h | h)
      · exact d5 t (Af gt) h
      · have h2:=d6;rw[<-Cy i u,Hg]at h2;refine h2.2.2 t h t ?_ rfl;exact Af (i:=0) (by rw[Bg];exact gt)
    have J:=KF 0 b7;have c0:=uG (S++u.take i) t 0;rw[if_neg b7]at c0;have e2:(S++u.take i).length=S.length+i:=by rw[An,Bu,Dv (by omega)]
    rw[e2,Az,Ab,<-a3]at J;have c1:(u.take i).length=i:=by rw[Bu,Dv (by omega)]
    have a0:(A.length+1==A.length+4)=Jp:=by simp
    have a7:(A.length+2==A.length+4)=Jp:=by simp
    have c3:(S.length+i+1)*24<=140737488355328:=by omega
    have c4:S.length+i<=9223372036854775806:=by omega
    have e3:(csD Jo Jp S++csD Jp Jo (u.take i)).length=S.length+i:=by simp;omega
    have a9:(clD Jo Jp S++clD Jp Jo (u.take i)).length=S.length+i:=by simp[aZ];omega
    simp only[PP,simprocAttr,gk,c2,i0,gt];refine QE T ?_;have c5:S.length+i<=S.length+i:=Ac _;simp only[PP,simprocAttr,PT,gk,sk,c0,J,c1,c5,c3,c4,a0];refine T3 T ?_;simp only[PP,simprocAttr,gk,sk,d7,c1,c5,c3,c4,d9];have:=ih (i+1) (U+1) 0 (V+1) 0 (Y+1) (Z+1+1) (by omega) (by omega);refine aR this (by simp only[PW]) ?_;have e5:csD Jp Jo (u.take (i+1))=csD Jp Jo (u.take i)++[slW Jp Jo (fQ t)]:=by rw[a3];simp
    have e6:clD Jp Jo (u.take (i+1))=clD Jp Jo (u.take i)++[slI Jp Jo .i64 (bF (bJ t))]:=by rw[a3];simp only[clD,aZ,Ay,Ak,Bq]
    rw[aK _ _ e3.symm,aK _ _ a9.symm,e5,e6];simp only[Ab,Cs,Ap,slW,slI]
  obtain rfl:i=u.length:=by omega
  rw[En];simp only[PP,simprocAttr,c2];refine T3 T ?_;have n1:(rows.length+1)*24<=140737488355328:=by omega
  have n2:rows.length<=9223372036854775806:=by omega
  have n3:E.length+1<=140737488355328:=by omega
  have n4:E.length<=9223372036854775806:=by omega
  have n5:rows.length+1<=9223372036854775807:=by omega
  have n6:E.length+1<=9223372036854775807:=by omega
  simp only[PP,simprocAttr,gk,sk,Ab,n1,n5];refine aE4 T (v:=1) (f:=false) (o:=true) (l:=bF (bJ a)) (b:=CZ N a) (by rw[gk];simp only[slI,Ap,Cl,List.getElem?_cons_zero]) (by have:=BZ a;simp;show _<1000000000000;omega) B.f ?_ ?_
  · unfold CZ;rw[Gd];constructor
    · rintro⟨x,h1,h2⟩;have:=kO C.fi x h1;exact⟨x,h1,List.mem_map.2 ⟨x.toNat,fj.2 h2,by omega⟩⟩
    · rintro⟨x,h1,h2⟩;obtain⟨k,h3,rfl⟩:=List.mem_map.1 h2;exact⟨_,h1,by rw[Ck];exact fj.1 h3⟩
  simp only[PP,simprocAttr,gk,sk,n3,n6];have y:kN (aJ N) a S (aL N)=iM (aJ N) (aL N) (cI (aJ N) a (aL N) S) a:=rfl;have a4:=gK (aJ N) a S (aL N);have c6:=c9 a ga (by omega) (qD U vs V vl Y (Z+1+1) (q 6+1) 0 (q 8+1) 0);rw[<-y,a6]at c6;refine Gh.step (GStep.fw (b:=[.tuple [.bool Jo,.int .i64 0]]) (cj2:=rows.map (slI Jo Jp .i64)++[slI Jp Jo .i64 (kN (aJ N) a S (aL N))]) (A.length+8) (A.length+5) (by omega) (by rw[gk];rfl) (by rw[gk];rfl) (by omega) ?_ ?_ rfl) ?_
  · simp only[bI,cG]
  · rw[MX,f0 (by simp[a4]) (by rw[aK _ _ (by simp[a4])];simp only[slI,a4]),cG];trivial
  simp only[sk,Ea,De];refine Gh.step (GStep.wkO (A.length+1) (cs2:=csD Jo Jp (S++u)) (by rw[gk];rfl) (fun w R h=>h.wkA (fun x=>bo.refl _) fun x=>bo.sl0 _ _ _ _ _) rfl) ?_;simp only[sk,Ea,De];refine Gh.step (GStep.wkO (A.length+2) (cs2:=clD Jo Jp (S++u)) (by rw[gk];rfl) (fun w R h=>by
    have e:clD Jo Jp (S++u)=(aZ S++aZ u).map (slI Jo Jp .i64):=by simp only[clD,aZ,Ay]
    rw[e];exact h.wkA (fun x=>bo.refl _) fun x=>bo.sl0 _ _ _ _ _) rfl) ?_
  simp only[sk,Ea,De];refine Gh.step (GStep.wkO (A.length+5) (cs2:=(rows++[kN (aJ N) a S (aL N)]).map (slI Jo Jp .i64)) (by rw[gk];rfl) (fun w R h=>al.wkA (ys:=[kN (aJ N) a S (aL N)]) (f2:=slI Jp Jo .i64) (fun x=>bo.refl _) (fun x=>bo.sl0 _ _ _ _ _) h) rfl) ?_;simp only[sk,Ea,De];have e4:S.length+u.length=(S++u).length:=by simp
  have b0:rows.length+1=(rows++[kN (aJ N) a S (aL N)]).length:=by simp
  have b6:E.length+1=(E++[CZ N a]).length:=by simp
  rw[e4,b0,b6];have ef:E.map PV.bool++[.bool (CZ N a)]=(E++[CZ N a]).map PV.bool:=by simp
  rw[ef];refine Gh.step (GStep.im (b:=[.tuple [.bool Jo,p64 0]]) (N:=A++eG A.length f1 o1 f2 o2 f3 o3 Jo Jp N (qD U vs V vl Y (Z+1+1) (q 6+1) 0 (q 8+1) 0) (S++u) (rows++[kN (aJ N) a S (aL N)]) (E++[CZ N a])) (A.length+7) (Ac _) (by simp) (by simp only[PW]) (by simp[aD,PV.under]) ?_ ?_) (Gh.same ⟨_,rfl,c6⟩)
  · exact(congrArg (fun M:Mem=>M.all (aG (A.length+7))) (mK (q:=qD U vs V vl Y (Z+1+1) (q 6+1) 0 (q 8+1) 0) (l:=[_,_,_,_]))).trans (oY hA ..)
  · exact mK (q:=qD U vs V vl Y (Z+1+1) (q 6+1) 0 (q 8+1) 0) (l:=[_,_,_,_])
def aA0{u B:Int}{x:Nat}(I:0<=u/\u<=255)(J:0<=B/\B<=255)(L:x<256)(E:K (.bool (wZ u B x)) M):
    aj tab 161 [p8 x,p8 u,p8 B] M K:=by
  refine aF T.h161 (by simp only[PP,simprocAttr]) ?_;have h1:=iU (x:=x) (y:=u) (by omega) I;have h2:=iU (x:=x) (y:=B) (by omega) J;simp only[af161,PP,simprocAttr,h1];refine QIf.intro (fun G=>?_) fun G=>?_
  · simp only[PP,simprocAttr,G,h2,wZ]at E ⊢;exact E
  · simp only[PP,simprocAttr,G,wZ]at E ⊢;exact E
end
def o7(N:NF)(a:BitVec 64)(x q:Nat):List Nat:=(Aw q).filter fun k=>(aJ N a x).getLsbD k
def edC(a:BitVec 64)(x q:Nat)(e:Eg):Bool:=decide (e.to=(q:Int))&&a.getLsbD e.fr.toNat&&wZ e.ps e.ng x
def XN(N:NF)(a:BitVec 64)(x q:Nat):o7 N a x (q+1)=if(aJ N a x).getLsbD q=Jo then o7 N a x q++[q]else o7 N a x q:=by
  unfold o7;rw[Et,Gm,List.filter_cons,Iy];by_cases h:(aJ N a x).getLsbD q=Jo
  · rw[if_pos h,if_pos h]
  · rw[if_neg h,if_neg h,Bv]
def aCn{N:NF}(C:NOk N)(a:BitVec 64)(x q:Nat):N.es.any (edC a x q)=(aJ N a x).getLsbD q:=by
  rw[Gn,rD C,Gd];unfold edC nH;simp only[Au,decide_eq_true_eq,Eh];constructor
  · rintro⟨e,h1,⟨h2,h3⟩,u⟩;exact⟨e,⟨h1,u⟩,h3,h2⟩
  · rintro⟨e,⟨h1,u⟩,h3,h2⟩;exact⟨e,h1,⟨h2,h3⟩,u⟩
def aCm(N:NF)(a:BitVec 64)(x q:Nat):(o7 N a x q).length<=q:=by unfold o7;exact Aj (Ft _ _) (by simp)
def aFk{N:NF}{a:BitVec 64}{x q k:Nat}(h:k∈o7 N a x q):k<q:=by unfold o7 at h;exact List.mem_range.1 (List.mem_filter.1 h).1
def aCo{N:NF}(C:NOk N)(a:BitVec 64)(x:Nat):o7 N a x N.n.toNat=bJ (aJ N a x):=by
  unfold o7 bJ;have u:=C.n64;have e:Aw 64=Aw N.n.toNat++(Aw (64-N.n.toNat)).map (fun j=>N.n.toNat+j):=by
    refine List.ext_getElem? fun i=>?_;by_cases c:i<64
    · rw[Ee c];by_cases y:i<N.n.toNat
      · rw[Bj (by simp;omega),Ee y]
      · rw[Bx (by simp;omega),Av,List.length_range,Ee (by omega)];simp only[Cr,Option.some.injEq];omega
    · rw[Bk (by simp;omega),Bk (by simp;omega)]
  rw[e,Gm];have z:((Aw (64-N.n.toNat)).map fun j=>N.n.toNat+j).filter (fun k=>(aJ N a x).getLsbD k)=[]:=by rw[List.filter_eq_nil_iff];intro k B h;obtain⟨j,_,rfl⟩:=List.mem_map.1 B;obtain⟨e,h1,_,h3⟩:=(rD C a x _).1 h;have:=C.ed e (KR h1);omega
  rw[z,Bv]
def KP{a:BitVec 64}{x:Int}(h:0<=x):decide (x∈bF (bJ a))=a.getLsbD x.toNat:=by
  rw[Gn,decide_eq_true_eq,<-fj];have e:x=((x.toNat:Nat):Int):=by omega
  rw[e,KL,Ck]
section
variable {tab:Tb} (T:HasA tab){M:Mem}{K:Kp}
include T
set_option maxHeartbeats 2000000 in
def NR{S U V Y Z o3 f4 E:Bool}{N:NF}{a:BitVec 64}{x:Nat}(C:NOk N)(B:BnN N)(hx:x<256)(hk:K (slI Jp Jo .i64 (bF (bJ (aJ N a x)))) M):
    aj tab 100 [.agg (nfC S U V Y Z o3 N),slI f4 E .i64 (bF (bJ a)),p8 x] M K:=by
  have a6:=C.n64;have n0:=C.n0;have rq:=C.rq;have a7:(bJ a).length<=64:=by unfold bJ;exact Aj (Ft _ _) (by simp)
  refine bQ T.qp (by simp only[PP,simprocAttr,bD]) ?_;simp only[af100];refine aA (aB ?_);simp only[PP,simprocAttr];refine aA (aB ?_);simp only[PP,simprocAttr];refine aU (GStep.nil 7 1 rfl rfl rfl) ?_;refine aB ?_;simp only[PP,simprocAttr];refine cQ (fun(q g:Nat)=>(q:Int)<=N.n) (fun q g=>(.aa::slI f4 E .i64 (bF (bJ a))::p8 x:: .ptr 0 0 0::zj 3++ .ref 1 g 1 0 (o7 N a x q).length::p64 q::zj 49))
    (fun q g=>[.cells 0 0 (nfC S U V Y Z o3 N),.cells g 0 ((bF (o7 N a x q)).map p64)]) (fun q g=>N.n.toNat-q) 0 0 (by omega) (by simp only[o7,Hi,Iy,Bl,PW]) rfl ?_
  intro q g a9 ih;refine aH (by kernel_rfl) ?_;simp only[PP,simprocAttr];refine QIf.intro (fun c=>?_) fun c=>?_;rotate_left
  · obtain rfl:q=N.n.toNat:=by omega
    rw[aCo C];have hfz:sV (Jm (cm.cells g 0 ((bF (bJ (aJ N a x))).map p64))) g 1 0 (bJ (aJ N a x)).length=Jm (slI Jp Jo .i64 (bF (bJ (aJ N a x)))):=by rw[dO (by simp) (aO _ _ _),aK _ _ (by simp)];simp only[slI,Ap]
    simp only[PP,simprocAttr,c,hfz];exact hk
  have b0:=aCm N a x q;have wq:=aC (k:=q) (by show _<1000000000000;omega);have a0:(aJ N a x).getLsbD q=N.es.any (edC a x q):=(aCn C a x q).symm;simp only[PP,simprocAttr,c];refine kV (fun(i g:Nat) (l:List Nat)=>i<=N.es.length/\l=o7 N a x q++if(N.es.take i).any (edC a x q)=Jo then [q]else []) (fun i g l=>(.aa::slI f4 E .i64 (bF (bJ a))::p8 x:: .ptr 0 0 0::zj 3++ .ref 1 g 1 0 l.length::p64 q::p64 i::zj 48))
    (fun i g l=>[.cells 0 0 (nfC S U V Y Z o3 N),.cells g 0 ((bF l).map p64)]) (fun i g l=>N.es.length-i) 0 g (o7 N a x q) ⟨by omega,by simp⟩ (by simp only[PW]) rfl ?_
  intro i g l ⟨b3,hl⟩ I;refine aH (by kernel_rfl) ?_;simp only[PP,simprocAttr];refine QIf.intro (fun d=>?_) fun d=>?_
  · have hi:i<N.es.length:=by omega
    obtain⟨e,R⟩:=aM hi;have i0:(0:Int)<=i:=by omega
    have L:=aC (k:=i) (by show _<1000000000000;omega);have h4:=oH R;have a1:i*4+4<=(egL N.es).length:=by rw[gA];exact TO R
    have O:=Af R;obtain⟨b1,b2⟩:=B.b e O;obtain⟨e1,e2,e3,e4,_⟩:=C.ed e O;have y:(N.es.take (i+1)).any (edC a x q)=((N.es.take i).any (edC a x q)||edC a x q e):=by rw[Cp,R,List.any_append];simp
    have a2:=KP (a:=a) e1;have b4:l.length<=65:=by rw[hl,An];split<;>simp<;>omega
    have same:edC a x q e=Jp->l=o7 N a x q++if(N.es.take (i+1)).any (edC a x q)=Jo then [q]else []:=fun h=>by rw[y,h,Bool.or_false];exact hl
    have go:=fun(h:edC a x q e=Jp)=>I (i+1) g l ⟨by omega,same h⟩ (by omega);simp only[PP,simprocAttr,d,i0,h4,a1];refine QIf.intro (fun Q=>?_) fun Q=>?_
    · have a3:decide (e.to=(q:Int))=Jo:=decide_eq_true Q;simp only[PP,simprocAttr,Q];refine BA T (by simp;show _<1000000000000;omega) ?_;rw[a2]
      cases c2:a.getLsbD e.fr.toNat with
      | false=>simp only[PP,simprocAttr,L];refine aU (GStep.drop (b:=(.aa::slI f4 E .i64 (bF (bJ a))::p8 x:: .ptr 0 0 0::zj 3++ .ref 1 g 1 0 l.length::p64 q::p64 ((i+1:Nat):Int)::zj 48)) 2 (Ai _) (by simp) (by simp only[PW]) (by simp only[PP,simprocAttr,PV.under]) (by simp only[PP,simprocAttr,bD]) rfl) (go (by unfold edC;rw[c2];simp))
      | true=>
        simp only[PP,simprocAttr];refine aA0 T b1 b2 hx ?_
        cases c3:wZ e.ps e.ng x with
        | false=>simp only[PP,simprocAttr,L];refine aU (GStep.drop (b:=(.aa::slI f4 E .i64 (bF (bJ a))::p8 x:: .ptr 0 0 0::zj 3++ .ref 1 g 1 0 l.length::p64 q::p64 ((i+1:Nat):Int)::zj 48)) 2 (Ai _) (by simp) (by simp only[PW]) (by simp only[PP,simprocAttr,PV.under]) (by simp only[PP,simprocAttr,bD]) rfl) (go (by unfold edC;rw[c3];simp))
        | true=>
          have a4:edC a x q e=Jo:=by unfold edC;rw[a3,c2,c3];rfl
          rw[a4,Bool.or_true]at y;simp only[PP,simprocAttr];refine iL (.ints rfl (Ap _) (.same rfl .nil)) (BA T (by simp;show _<1000000000000;omega) ⟨rfl,?_⟩);have G:((q:Nat):Int)∈bF l↔q∈l:=KL;by_cases hm:q∈l
          · have J:=G.2 hm;have u:(N.es.take i).any (edC a x q)=Jo:=by refine Cb fun h=>?_;rw[if_neg h,Bv]at hl;rw[hl]at hm;exact absurd (aFk hm) (by omega)
            have:=I (i+1) g l ⟨by omega,by rw[y,if_pos rfl,hl,if_pos u]⟩ (by omega);simp only[PP,simprocAttr,J,L];refine aU (GStep.drop (b:=(.aa::slI f4 E .i64 (bF (bJ a))::p8 x:: .ptr 0 0 0::zj 3++ .ref 1 g 1 0 l.length::p64 q::p64 ((i+1:Nat):Int)::zj 48)) 2 (Ai _) (by simp) (by simp only[PW]) (by simp only[PP,simprocAttr,PV.under]) (by simp only[PP,simprocAttr,bD]) rfl) this
          · have J:¬((q:Nat):Int)∈bF l:=fun h=>hm (G.1 h);have u:¬(N.es.take i).any (edC a x q)=Jo:=fun h=>by rw[if_pos h]at hl;exact hm (by rw[hl];simp)
            have:=I (i+1) (g+1) (l++[q]) ⟨by omega,by rw[y,if_pos rfl,hl,if_neg u,Bv]⟩ (by omega);have k1:(l.length+1)*8<=140737488355328:=by omega
            have k2:l.length+1<=9223372036854775807:=by omega
            simp only[PP,simprocAttr,J,L,k1,k2];rw[aK _ _ (by simp)];refine aU (GStep.drop (b:=(.aa::slI f4 E .i64 (bF (bJ a))::p8 x:: .ptr 0 0 0::zj 3++ .ref 1 (g+1) 1 0 (l++[q]).length::p64 q::p64 ((i+1:Nat):Int)::zj 48)) 2 (Ai _) (by simp) (by simp only[An,As,Bl,Az,PW]) (by simp only[PP,simprocAttr,PV.under]) (by simp only[PP,simprocAttr,bD]) rfl) ?_;refine aR this (by simp only[PW]) ?_;rw[OY,Ay];rfl
    · simp only[PP,simprocAttr,Q,L];refine aU (GStep.drop (b:=(.aa::slI f4 E .i64 (bF (bJ a))::p8 x:: .ptr 0 0 0::zj 3++ .ref 1 g 1 0 l.length::p64 q::p64 ((i+1:Nat):Int)::zj 48)) 2 (Ai _) (by simp) (by simp only[PW]) (by simp only[PP,simprocAttr,PV.under]) (by simp only[PP,simprocAttr,bD]) rfl) (go (by unfold edC;rw[decide_eq_false Q];rfl))
  · obtain rfl:i=N.es.length:=by omega
    rw[En,<-a0]at hl;have a5:l=o7 N a x (q+1):=by rw[XN,hl];split<;>simp
    subst a5;simp only[PP,simprocAttr,d,wq];exact aE (ih (q+1) g (by omega) (by omega)) (by simp only[PW])
end
def wrap_u64{k:Nat}(h:k<4000000000000):IntKind.u64.wrap (k:Int)=(k:Int):=by simp only[IntKind.wrap,IntKind.signed,IntKind.bits];simp;omega
def BL:∀{l m:List Int},l.Pairwise (· < ·)->m.Pairwise (· < ·)->(∀x,x∈l↔x∈m)->l=m
  | [],[],_,_,_=>rfl
  | [],y::m,_,_,h=>by have:=(h y).2 (by simp);simp at this
  | x::l,[],_,_,h=>by have:=(h x).1 (by simp);simp at this
  | x::l,y::m,hl,hm,h=>by
    rw[List.pairwise_cons]at hl hm;have e:x=y:=by
      have h1:=(h x).1 (by simp);have h2:=(h y).2 (by simp);rcases List.mem_cons.1 h1 with h1 | h1
      · exact h1
      · rcases List.mem_cons.1 h2 with h2 | h2
        · exact h2.symm
        · have:=hl.1 y h2;have:=hm.1 x h1;omega
    subst e;congr 1;refine BL hl.2 hm.2 fun z=>?_;constructor
    · intro hz;rcases List.mem_cons.1 ((h z).1 (by simp[hz]))with e | e
      · have:=hl.1 z hz;omega
      · exact e
    · intro hz;rcases List.mem_cons.1 ((h z).2 (by simp[hz]))with e | e
      · have:=hm.1 z hz;omega
      · exact e
section
variable {α:Type} [DecidableEq α]
def uS{b:α} :∀{o:List α},b∈o->o[o.idxOf b]? =Jm b
  | [],h=>by simp at h
  | a::o,h=>by
    by_cases e:b=a
    · subst e;simp
    · rw[kW e];rw[Cl];exact uS ((List.mem_cons.1 h).resolve_left e)
def E1{b:α} :∀{o:List α} {k:Nat},o[k]? =Jm b->o.idxOf b<=k
  | [],k,h=>by simp at h
  | a::o,k,h=>by
    by_cases e:b=a
    · subst e;simp
    · rw[kW e]
      cases k with
      | zero=>simp at h;exact absurd h.symm e
      | succ k=>have:=E1 (o:=o) (k:=k) (by simpa using h);omega
end
def IB{α:Type} [DecidableEq α](δ:α->Nat->α)(a:α)(o:List α):∀j,(cI δ a j o).length<=o.length+j
  | 0=>Ac _
  | j+1=>by
    have u:=IB δ a o j;unfold cI cO;split
    · omega
    · simp;omega
abbrev ZN(u:List (List Int))(s:List Int):Nat:= @List.idxOf _ instBEqOfDecidableEq s u
def TL(u:List (List Int))(s:List Int):Int:=if s∈u then(ZN u s:Nat)else-1
def FB{a b:BitVec 64}(h:bF (bJ a)=bF (bJ b)):a=b:=by refine XK ?_;have:=congrArg (Gr Dc) h;simpa [List.map_map,Function.comp_def]using this
def BK(o:List (BitVec 64))(b:BitVec 64):TL (aZ o) (bF (bJ b))=if b∈o then((o.idxOf b:Nat):Int)else-1:=by
  have u:=E0 (φ:=fun a=>bF (bJ a)) (Dm:=fun _:BitVec 64=>True) (fun a b _ _ h=>FB h) (b:=b) trivial (o:=o) fun _ _=>trivial;have hm:=KN (φ:=fun a=>bF (bJ a)) (Dm:=fun _:BitVec 64=>True) (fun a b _ _ h=>FB h) (o:=o) (b:=b) (fun _ _=>trivial) trivial;unfold TL aZ ZN;rw[u];by_cases h:b∈o
  · rw[if_pos h,if_pos (hm.2 h)]
  · rw[if_neg h,if_neg fun q=>h (hm.1 q)]
def yV{N:NF}(C:NOk N):bF (bJ (dL N))=N.st:=by
  refine BL ?_ (iT C.st).1 fun x=>?_
  · rw[List.pairwise_map];exact((List.pairwise_lt_range (n:=64)).filter _).imp fun h=>by omega
  · constructor
    · intro h;obtain⟨k,h1,rfl⟩:=List.mem_map.1 h;exact(qQ C k).1 (fj.1 h1)
    · intro h;have:=kO C.st x h;have e:x=((x.toNat:Nat):Int):=by omega
      rw[e]at h ⊢;exact List.mem_map.2 ⟨_,fj.2 ((qQ C _).2 h),rfl⟩
def FA(a:BitVec 64):(bJ a).length<=64:=by unfold bJ;exact Aj (Ft _ _) (by simp)
def sJ{α:Type} [DecidableEq α](δ:α->Nat->α)(n:Nat)(o:List α)(a:α):(iM δ n o a).length=n:=by simp[iM]
def VF{α:Type} [DecidableEq α](δ:α->Nat->α)(n:Nat)(o:List α)(a:α):n=((iM δ n o a).map p64).length:=by simp[iM]
section
variable {tab:Tb} (T:HasA tab){M:Mem}{K:Kp}
include T
end
def jH(A:Mem)(y B E G I J f o:Bool)(N:NF)(q:Nat->Nat)(S:List (BitVec 64))(rows:List (List Int))(K:List Bool)(v:Nat)(u:Int):Mem:=
  A++(eG A.length y B E G I J f o N q S rows K++[.cells 0 v [.iface 116 (.ptr (A.length+4) 0 0),p64 u]])
section
variable {tab:Tb} (T:HasA tab){M:Mem}{K:Kp}
include T
set_option maxHeartbeats 2000000 in
def aGV{A:Mem}{K:Kp}{y E G I J L:Bool}{N:NF}(O:eB N=0)(B:BnN N)(hA:A.all (aG A.length)=Jo)
    (Q:∀q,K (.ptr (A.length+4) 0 0) (A++eG A.length Jp Jo Jp Jo Jp Jo Jp Jo N q [dL N] [] [])):aj tab 91 [.agg (nfC y E G I J L N)] A K:=by
  have C:=lR O;refine dI (cA T.h91 ?_);simp only[af91];refine aA (aB ?_);simp only[PP,simprocAttr];refine aA (aB ?_);simp only[PP,simprocAttr,gk0];refine mN T B.s ?_;simp only[PP,simprocAttr,gk0];refine mN T B.f ?_;simp only[PP,simprocAttr,gk0];refine XH T B.e ?_;simp only[PP,simprocAttr,gk0,sk0];refine aA (aB ?_);simp only[PP,simprocAttr,gk0];refine aHI T C B ?_;simp only[PP,simprocAttr];refine aA (Q3 [2,6] ?_);simp only[PP,simprocAttr,Q4,H1,RT,Option.some.injEq,exists_eq_left',gk0,Ab];refine mN T B.s ?_;simp only[PP,simprocAttr,H1,yA,RT,Option.some.injEq,exists_eq_left',Ab,PT];refine QE T ?_;have R:cU 2 (.str (jM (dL N))) []=Jm Jn:=rfl;have u:f7 2 (.str (jM (dL N))) (.str (jM (dL N))) (.int .i64 0) []=smE (jE jM 0 [dL N]):=rfl;simp only[PP,simprocAttr,gk,sk,Ab,PT,R,u];refine⟨by simp,aB ?_⟩;simp only[PP,simprocAttr];refine Gh.step (GStep.ew (A.length+4) 8 1 (by rw[gk];rfl) rfl rfl) ?_;simp only[sk,Ea,De,Ab,An,As,Bl,Al,Aq,El];refine Gh.step (GStep.ew (A.length+4) 9 1 (by rw[gk];rfl) rfl rfl) ?_;simp only[sk,Ea,De,Ab,An,As,Bl,Al,Aq,El];refine Gh.step (GStep.wkO (A.length+2) (cs2:=clD Jp Jo [dL N]) (by rw[gk];rfl) (fun w U h=>al.wkM (xs:=aZ [dL N]) (f:=slI Jp Jo .i64) (fun x=>bo.refl _) (by
    have e:aZ [dL N]=[N.st]:=by rw[<-yV C];rfl
    rw[e];exact h)) rfl) ?_
  simp only[sk,Ea,De];refine Gh.step (GStep.freeze (b:=[.ptr (A.length+4) 0 0]) A.length (Ac _) (by rw[gk0];rfl) (by simp only[bI,cG]) rfl) (Gh.same ⟨_,rfl,?_⟩);simp only[sk0,De];exact Q (qD 0 0 0 0 1 0 0 0 0 0)
set_option maxHeartbeats 2000000 in
def ZG{A:Mem}{K:Kp}{u y E G I J:Bool}{N:NF}(B:BnN N)(hA:A.all (aG A.length)=Jo)
    (O:eB N≠0->K (.tuple [.au,p64 (eB N)]) A)
    (Q:eB N=0->∀X q v,aG (A.length+1) X=Jo->K (.tuple [.ptr (A.length+8) 0 0,p64 0]) (jH (A++[X]) Jp Jo Jp Jo Jp Jo Jp Jo N q [dL N] [] [] v 0)):
    aj tab 40 [.agg (nfC u y E G I J N)] A K:=by
  have R:(A++[cm.cells 0 0 (nfC u y E G I J N)]).all (aG (A++[cm.cells 0 0 (nfC u y E G I J N)]).length)=Jo:=by rw[Cc,bE (by simp) hA];simp[aG,aD,PV.under,cF,aO]
  refine dI (aT T.h40 ?_);simp only[af40,PP,simprocAttr,gk0];refine DV T B ?_;by_cases L:eB N=0;rotate_left
  · simp only[PP,simprocAttr,L];refine Gh.step (GStep.im (b:=[.tuple [.au,p64 (eB N)]]) (N:=A) A.length (Ac _) (by simp) (by simp only[PW]) (by simp[aD,PV.under]) ?_ (Bb rfl)) (Gh.same ⟨_,rfl,O L⟩);exact(congrArg (fun M:Mem=>M.all (aG A.length)) (Bb rfl)).trans hA
  simp only[PP,simprocAttr,L,gk0];refine aGV T L B R fun q=>?_;have h:=Q L (.cells 0 0 (nfC u y E G I J N)) q 0 (by simp[aG,aD,PV.under,cF,aO]);have hl:A.length+8=(A++[cm.cells 0 0 (nfC u y E G I J N)]).length+7:=by simp
  rw[hl]at h;generalize A++[cm.cells 0 0 (nfC u y E G I J N)]=S at*;simp only[PP,simprocAttr,eG,nT,pJ,jU,Ab];exact Gh.same ⟨_,rfl,h⟩
end
structure rz (tab:Tb) (jid wid:Nat) (ty:TypeId) (fu fl:FuncId) (e:Int) (D F:Nat->Prop) (lft:Nat->Bool) (St:Nat->Mem->Prop):Prop where
  job:∀m M,St m M->∃v,M[jid]? =Jm (.cells 0 v [.iface ty (.ptr wid 0 0),p64 (m:Int)])
  sm:∀m M,St m M->m<4000000000000000000
  unit:∀m M,St m M->∀K:Kp,(D m->∀M2,St m M2->K (.tuple [.bool Jp,p64 0]) M2)->(F m->∀M2,St m M2->K (.tuple [.bool Jp,p64 e]) M2)->
    (¬D m->¬F m->∀M2 v,M2[jid]? =Jm (.cells 0 v [.iface ty (.ptr wid 0 0),p64 (m:Int)])->St (m+1) (M2.set jid (.cells 0 (v+1) [.iface ty (.ptr wid 0 0),p64 ((m+1:Nat):Int)]))->K (.tuple [.bool Jo,p64 0]) M2)->aj tab fu [.ptr wid 0 0] M K
  left:∀m M,St m M->∀K:Kp,(∀M2,St m M2->K (.bool (lft m)) M2)->aj tab fl [.ptr wid 0 0] M K
  rj:(ty=116/\fu=253/\fl=252)\/(ty=122/\fu=261/\fl=260)\/(ty=125/\fu=265/\fl=264)
section
variable {tab:Tb} (T:HasA tab){M:Mem}{K:Kp}
include T
set_option maxHeartbeats 1000000 in
def aEE{E R:Nat}{u:TypeId}{fu fl:FuncId}{e:Int}{D F:Nat->Prop}{O:Nat->Bool}{I:Nat->Mem->Prop}(J:rz tab E R u fu fl e D F O I)(he:e≠0){M:Mem}{K:Kp}{n:Nat}{k:Int}(hS:I n M)(S:0<=k)(a0:k<=9223372036854775807)
    (hA:∀m B,n<=m->(m:Int)=n+k->(∀j,n<=j->j<m->¬D j/\¬F j)->I m B->K (.tuple [.bool (!O m),p64 0]) B)
    (hB:∀m B,n<=m->(m:Int)<n+k->(∀j,n<=j->j<m->¬D j/\¬F j)->D m->I m B->K (.tuple [.bool Jo,p64 0]) B)
    (hC:∀m B,n<=m->(m:Int)<n+k->(∀j,n<=j->j<m->¬D j/\¬F j)->F m->I m B->K (.tuple [.bool Jp,p64 e]) B):
    aj tab 18 [.ptr E 0 0,p64 k] M K:=by
  refine aT T.h18 ?_;obtain⟨v0,hM⟩:=J.job n M hS;have U:¬k<0:=by omega
  simp only[af18,PP,simprocAttr,PI,hM,U];have hu:(if(116:Int)=(u:Int)then Jm 253 else if(122:Int)=(u:Int)then Jm 261 else if(125:Int)=(u:Int)then Jm 265 else dT [] u)=Jm fu:=by rcases J.rj with⟨rfl,rfl,rfl⟩ | ⟨rfl,rfl,rfl⟩ | ⟨rfl,rfl,rfl⟩<;>rfl
  have V:(if(116:Int)=(u:Int)then Jm 252 else if(122:Int)=(u:Int)then Jm 260 else if(125:Int)=(u:Int)then Jm 264 else dT [] u)=Jm fl:=by rcases J.rj with⟨rfl,rfl,rfl⟩ | ⟨rfl,rfl,rfl⟩ | ⟨rfl,rfl,rfl⟩<;>rfl
  refine cQ (fun(i:Nat) (N:Mem)=>(i:Int)<=k/\I (n+i) N/\∀j,n<=j->j<n+i->¬D j/\¬F j) (fun i N=>(.ptr E 0 0::zj 20++p64 k::p64 i::zj 28)) (fun i N=>N) (fun i _=>k.toNat-i) 0 M ⟨S,hS,fun j h1 h2=>by omega⟩ (by simp only[PW]) rfl ?_;intro i N ⟨hi,y,Q⟩ ih;obtain⟨v,hN⟩:=J.job _ N y;refine aH (by kernel_rfl) ?_;simp only[PP,simprocAttr];refine QIf.intro (fun c=>?_) fun c=>?_
  · have a1:=J.sm _ N y;have Y:IntKind.i64.wrap ((i:Int)+1)=((i+1:Nat):Int):=by rw[wrap64]<;>omega
    have Z:IntKind.i64.wrap (((n+i:Nat):Int)+1)=((n+i+1:Nat):Int):=by rw[wrap64]<;>omega
    simp only[PP,simprocAttr,PI,hN,c,hu];refine J.unit _ N y _ (fun d L G=>?_) (fun d L G=>?_) fun d1 d2 L v2 h2 G=>?_
    · simp only[PP,simprocAttr];exact hB (n+i) L (by omega) (by omega) Q d G
    · simp only[PP,simprocAttr,he];exact hC (n+i) L (by omega) (by omega) Q d G
    · simp only[PP,simprocAttr,h2,Z,Y];refine aE (ih (i+1) _ ⟨by omega,G,fun j h3 h4=>?_⟩ (by omega)) (by simp only[PW]);by_cases q:j=n+i
      · subst q;exact⟨d1,d2⟩
      · exact Q j h3 (by omega)
  · simp only[PP,simprocAttr,PI,hN,c,V];refine J.left _ N y _ fun L G=>?_;simp only[PP,simprocAttr];exact hA (n+i) L (by omega) (by omega) Q G
end
abbrev stK(N:NF)(m:Nat):List (BitVec 64):=dQ (aJ N) (aL N) (dL N) m
abbrev rwK(N:NF)(m:Nat):List (List Int):=vP (aJ N) (aL N) (dL N) m
def fnK(N:NF)(m:Nat):List Bool:=((stK N m).take m).map (CZ N)
def LU{N:NF}{m:Nat}{a:BitVec 64}(h:(stK N m)[m]? =Jm a):fnK N (m+1)=fnK N m++[CZ N a]:=by
  have B:=aI h;obtain⟨r,u⟩:=iB (aJ N) a (aL N) (stK N m);unfold fnK;rw[show stK N (m+1)=cI (aJ N) a (aL N) (stK N m)from gD h];have y:(cI (aJ N) a (aL N) (stK N m)).take (m+1)=(stK N m).take m++[a]:=by rw[u,List.take_append_of_le_length (by omega),Cp,h];rfl
  rw[y,Ay];rfl
def StD(A:Mem)(N:NF)(m:Nat)(M:Mem):Prop:=
  (m<=(stK N m).length/\(stK N m).length<=4096)/\∃(u y B E G I f o:Bool) (q:Nat->Nat) (v:Nat),M=jH A u y B E G I f o N q (stK N m) (rwK N m) (fnK N m) v m
def EY{A:Mem}{y B E G I J f o:Bool}{N:NF}{q:Nat->Nat}{S:List (BitVec 64)}{rows:List (List Int)}{K:List Bool}{v:Nat}{u:Int} :
    (jH A y B E G I J f o N q S rows K v u).take (A.length+7)=A++eG A.length y B E G I J f o N q S rows K:=mK
def WY{A:Mem}{y B E G I J f o:Bool}{N:NF}{q:Nat->Nat}{S:List (BitVec 64)}{rows:List (List Int)}{K:List Bool}{v:Nat}{u:Int} :
    (jH A y B E G I J f o N q S rows K v u).drop (A.length+7)=[.cells 0 v [.iface 116 (.ptr (A.length+4) 0 0),p64 u]]:=by
  unfold jH;rw[<-Ab];exact List.drop_left' (by simp[eG])
def xU{A:Mem}{y B E G I J f o:Bool}{N:NF}{q:Nat->Nat}{S:List (BitVec 64)}{rows:List (List Int)}{K:List Bool}{v:Nat}{u:Int} :
    (jH A y B E G I J f o N q S rows K v u)[A.length+7]? =Jm (.cells 0 v [.iface 116 (.ptr (A.length+4) 0 0),p64 u]):=by
  unfold jH;rw[gk];rfl
def aBu{A:Mem}{y B E G I J f o:Bool}{N:NF}{q:Nat->Nat}{S:List (BitVec 64)}{rows:List (List Int)}{K:List Bool}{v L:Nat}{u M:Int} :
    (jH A y B E G I J f o N q S rows K v u).set (A.length+7) (.cells 0 L [.iface 116 (.ptr (A.length+4) 0 0),p64 M])=jH A y B E G I J f o N q S rows K L M:=by
  unfold jH;rw[sk];rfl
def LJ{A:Mem}{y B E G I J f o:Bool}{N:NF}{q:Nat->Nat}{S:List (BitVec 64)}{rows:List (List Int)}{K:List Bool}{v:Nat}{u:Int} :
    (A++eG A.length y B E G I J f o N q S rows K)++[.cells 0 v [.iface 116 (.ptr (A.length+4) 0 0),p64 u]]=jH A y B E G I J f o N q S rows K v u:=by
  unfold jH;rw[Ab]
def xW{N:NF}{m:Nat}(h:m<=(stK N m).length):(fnK N m).length=m:=by unfold fnK;rw[Ap,Bu];omega
section
variable {tab:Tb} (T:HasA tab){M:Mem}{K:Kp}
include T
def aBr{A:Mem}{N:NF}(hc:eB N=0)(B:BnN N)(hA:A.all (aG A.length)=Jo):
    rz tab (A.length+7) (A.length+4) 116 253 252 10 (fun m=>(stK N m).length<=m) (fun m=>m<(stK N m).length/\4096<(stK N (m+1)).length) (fun m=>decide (m<(stK N m).length)) (StD A N) where
  job:=by rintro m M ⟨_,f1,o1,f2,o2,f3,o3,f,o,q,v,rfl⟩;exact⟨v,xU⟩
  sm:=by rintro m M ⟨⟨h1,h2⟩,_⟩;omega
  unit:=by
    rintro m M ⟨⟨h1,h2⟩,f1,o1,f2,o2,f3,o3,f,o,q,v,rfl⟩ K k1 k2 k3;have hrl:(rwK N m).length=m:=mC h1;have hfl:=xW h1;have fin:∀(r:PV) (f1 o1 f2 o2 f3 o3 f o:Bool) (q:Nat->Nat) (S:List (BitVec 64)) (rows:List (List Int)) (dd:List Bool),r.under (A.length+7)=Jo->K r (jH A f1 o1 f2 o2 f3 o3 f o N q S rows dd v m)->
        r.under (A.length+7)=Jo/\(A++eG A.length f1 o1 f2 o2 f3 o3 f o N q S rows dd).length=A.length+7/\(A++eG A.length f1 o1 f2 o2 f3 o3 f o N q S rows dd).all (aG (A.length+7))=Jo/\K r ((A++eG A.length f1 o1 f2 o2 f3 o3 f o N q S rows dd)++[.cells 0 v [.iface 116 (.ptr (A.length+4) 0 0),p64 m]]):=
      fun r f1 o1 f2 o2 f3 o3 f o q S rows dd hr hK=>⟨hr,by simp[eG],oY hA ..,by rw[LJ];exact hK⟩
    refine lK (m:=A.length+7) (by simp[jH,eG]) (by simp[aD,PV.under]) (by rw[EY];exact oY hA ..) ?_;rw[EY,WY];refine aET T hc B hA (nS _ _ _ m) h2 (by rw[hrl,hfl]) (fun h=>?_) (fun a ga h=>?_) fun a ga h q'=>?_
    · rw[hrl]at h;exact fin _ _ _ _ _ _ _ _ _ _ _ _ _ (by simp[PV.under,aD]) (k1 h _ ⟨⟨h1,h2⟩,_,_,_,_,_,_,_,_,_,_,rfl⟩)
    · rw[hrl]at ga;have hs:stK N (m+1)=cI (aJ N) a (aL N) (stK N m):=gD ga;rw[<-hs]at h;exact fin _ _ _ _ _ _ _ _ _ _ _ _ _ (by simp[PV.under,aD]) (k2 ⟨aI ga,h⟩ _ ⟨⟨h1,h2⟩,_,_,_,_,_,_,_,_,_,_,rfl⟩)
    · rw[hrl]at ga;have hs:stK N (m+1)=cI (aJ N) a (aL N) (stK N m):=gD ga;have hr:=qR ga;have hf:=LU ga;have hlt:=aI ga;rw[<-hs]at h;refine fin _ _ _ _ _ _ _ _ _ _ _ _ _ (by simp[PV.under,aD]) (k3 (by omega) (fun q=>by omega) _ v xU ?_);rw[aBu];refine⟨⟨?_,h⟩,f1,o1,f2,o2,f3,o3,Jo,Jp,q',v+1,?_⟩
      · obtain⟨r,e⟩:=iB (aJ N) a (aL N) (stK N m);by_cases hl:(stK N m).length=m
        · omega
        · rw[hs,e];simp;omega
      · rw[hs,show rwK N (m+1)=_ from hr,hf]
  left:=by rintro m M ⟨⟨h1,h2⟩,f1,o1,f2,o2,f3,o3,f,o,q,v,rfl⟩ K k;have hrl:(rwK N m).length=m:=mC h1;unfold jH;refine TU T ?_;rw[hrl];exact k _ ⟨⟨h1,h2⟩,_,_,_,_,_,_,_,_,_,_,rfl⟩
  rj:= .inl ⟨rfl,rfl,rfl⟩
end
def itr(f:Nat->Nat)(v:Nat):Nat->Nat
  | 0=>v
  | j+1=>f (itr f v j)
def its(f:Nat->Nat)(v m:Nat):List Nat:=(Aw m).map (itr f v)
section
variable {O:Nat->Int} {S:Nat->List Nat} {R:Nat->Int} {D:Nat->Prop} {p q:Int}
end
def mT:List Nat->Nat
  | []=>1
  | n::u=>(n+1)*mT u
def mr:List Nat->List Int->Nat
  | n::u,c::cs=>c.toNat+(n+1)*mr u cs
  | _,_=>0
def mOk:List Nat->List Int->Prop
  | n::u,c::cs=>0<=c/\c<=n/\mOk u cs
  | [],[]=>True
  | _,_=>False
def aAO:∀u:List Nat,0<mT u
  | []=>by decide
  | n::u=>Nat.mul_pos (Jb _) (aAO u)
def S1:∀{u:List Nat} {cs:List Int},mOk u cs->cs.length=u.length
  | [],[],_=>rfl
  | n::u,c::cs,h=>by simp[S1 h.2.2]
  | [],_::_,h=>h.elim
  | _::_,[],h=>h.elim
def EN:∀{u:List Nat} {cs:List Int},mOk u cs->mr u cs<mT u
  | [],[],_=>by decide
  | n::u,c::cs,⟨h0,h1,h2⟩=>by have:=EN h2;have h3:(n+1)*(mr u cs+1)<=(n+1)*mT u:=Jc _ this;rw[Hk]at h3;show c.toNat+(n+1)*mr u cs<(n+1)*mT u;omega
  | [],_::_,h=>h.elim
  | _::_,[],h=>h.elim
def aAK:∀{u:List Nat} {cs ds:List Int},mOk u cs->mOk u ds->mr u cs=mr u ds->cs=ds
  | [],[],[],_,_,_=>rfl
  | n::u,c::cs,d::ds,⟨h0,h1,h2⟩,⟨I,J,B⟩,e=>by
    have e:c.toNat+(n+1)*mr u cs=d.toNat+(n+1)*mr u ds:=e;have y:=congrArg (· % (n+1)) e;simp only[Nat.add_mul_mod_self_left]at y;rw[Fx (by omega),Fx (by omega)]at y;have E:(n+1)*mr u cs=(n+1)*mr u ds:=by omega
    have G:=Nat.eq_of_mul_eq_mul_left (Jb n) E;rw[aAK h2 B G,show c=d by omega]
  | [],_::_,_,h,_,_=>h.elim
  | _::_,[],_,h,_,_=>h.elim
  | [],[],_::_,_,h,_=>h.elim
  | _::_,_::_,[],_,h,_=>h.elim
def aAQ:∀{y:List Nat} {cs:List Int},cs.length=y.length->(∀(u:Nat) (c:Int) (n:Nat),cs[u]? =Jm c->y[u]? =Jm n->0<=c/\c<=n)->mOk y cs
  | [],[],_,_=>trivial
  | n::y,c::cs,hl,h=>⟨(h 0 c n rfl rfl).1,(h 0 c n rfl rfl).2,aAQ (by simpa using hl) fun u c n h1 h2=>h (u+1) c n (by simpa using h1) (by simpa using h2)⟩
  | [],_::_,h,_=>by simp at h
  | _::_,[],h,_=>by simp at h
def S2:∀{E:List Nat} {cs:List Int},mOk E cs->∀{u:Nat} {c:Int} {n:Nat},cs[u]? =Jm c->E[u]? =Jm n->0<=c/\c<=n
  | n::E,c::cs,⟨h0,h1,h2⟩,0,x,y,B,G=>by simp at B G;subst B;subst G;exact⟨h0,h1⟩
  | n::E,c::cs,⟨h0,h1,h2⟩,u+1,x,y,B,G=>S2 h2 (by simpa using B) (by simpa using G)
  | [],[],_,_,_,_,B,_=>by simp at B
  | [],_::_,h,_,_,_,_,_=>h.elim
  | _::_,[],h,_,_,_,_,_=>h.elim
def mB(u:List Nat)(q:Nat):Nat:=mT (u.take q)
def aAR(u:List Nat)(q:Nat):0<mB u q:=aAO _
def oR:∀(u:List Nat) (q:Nat),mT u=mB u q*mT (u.drop q)
  | u,0=>by simp[mB,mT]
  | [],q+1=>by simp[mB,mT]
  | n::u,q+1=>by have h:=oR u q;show(n+1)*mT u=(n+1)*mT (u.take q)*mT (u.drop q);rw[h,Hm];rfl
def aEi{u:List Nat}{q n:Nat}(h:u[q]? =Jm n):mB u (q+1)=mB u q*(n+1):=by
  induction u generalizing q with
  | nil=>simp at h
  | cons a u y=>
    cases q with
    | zero=>simp at h;subst h;simp[mB,mT]
    | succ q=>have:=y (q:=q) (by simpa using h);show(a+1)*mB u (q+1)=(a+1)*mB u q*(n+1);rw[this,Hm]
def oS:∀{u:List Nat} {cs:List Int} (q:Nat),mOk u cs->mOk (u.drop q) (cs.drop q)
  | u,cs,0,h=>by simpa using h
  | [],[],q+1,h=>by simpa using h
  | n::u,c::cs,q+1,h=>by simpa using oS q h.2.2
  | [],_::_,_+1,h=>h.elim
  | _::_,[],_+1,h=>h.elim
def GU:∀{u:List Nat} {cs:List Int} (q:Nat),mOk u cs->mr u cs / mB u q=mr (u.drop q) (cs.drop q)
  | u,cs,0,h=>by simp[mB,mT]
  | [],[],q+1,h=>by simp[mB,mT,mr]
  | n::u,c::cs,q+1,⟨h0,h1,h2⟩=>by show(c.toNat+(n+1)*mr u cs) / ((n+1)*mB u q)=mr (u.drop q) (cs.drop q);rw[<-Is,Nat.add_mul_div_left _ _ (Jb n),Nat.div_eq_of_lt (show c.toNat<n.succ by show c.toNat<n+1;omega),Az,GU q h2]
  | [],_::_,_+1,h=>h.elim
  | _::_,[],_+1,h=>h.elim
def AA:∀(q:Nat) {u:List Nat} {ds:List Int},ds.length+q=u.length->mr u (Ah q 0++ds)=mB u q*mr (u.drop q) ds
  | 0,u,ds,h=>by simp[mB,mT]
  | q+1,[],ds,h=>by simp at h
  | q+1,n::u,ds,h=>by show(0:Int).toNat+(n+1)*mr u (Ah q 0++ds)=(n+1)*mB u q*mr (u.drop q) ds;rw[AA q (by simp at h;omega),Hm];simp
def uL:∀(q:Nat) {u:List Nat} {ds:List Int},q<=u.length->mOk (u.drop q) ds->mOk u (Ah q 0++ds)
  | 0,u,ds,_,h=>by simpa using h
  | q+1,[],ds,h,_=>by simp at h
  | q+1,n::u,ds,h,h2=>⟨by decide,by omega,uL q (by simpa using h) (by simpa using h2)⟩
structure Ms where
  top:Bool
  c:List Int
  h:c.length=8
def Ms.Ok(ns:List Nat)(x:Ms):Prop:=mOk ns x.c/\(x.top=Jo->x.c=Ah 8 0)
def Ms.num(u:List Nat)(x:Ms):Nat:=if x.top=Jo then mT u else mr u x.c
def mz:Ms:=⟨Jp,Ah 8 0,by simp⟩
def qz:Ms:=⟨Jo,Ah 8 0,by simp⟩
def Ms.ext'{x y:Ms}(h1:x.top=y.top)(h2:x.c=y.c):x=y:=by cases x;cases y;cases h1;cases h2;rfl
def GW:∀(u:List Nat),mOk u (Ah u.length 0)
  | []=>trivial
  | n::u=>⟨by decide,by omega,GW u⟩
def aAJ:∀(u:List Nat) (k:Nat),mr u (Ah k 0)=0
  | [],k=>by simp[mr]
  | n::u,0=>by simp[mr]
  | n::u,k+1=>by show(0:Int).toNat+(n+1)*mr u (Ah k 0)=0;rw[aAJ u k];simp
section
variable {ns:List Nat}
def Ms.ri{x:Ms}(h:x.Ok ns):x.num ns<=mT ns:=by
  unfold Ms.num;split
  · exact Ac _
  · exact Nat.le_of_lt (EN h.1)
def Ms.mb{x:Ms}(h:x.Ok ns):x.num ns=mT ns↔x.top=Jo:=by
  unfold Ms.num;split
  · rename_i e;simp[e]
  · rename_i e;have:=EN h.1;simp[e];omega
def Ms.inj{x y:Ms}(E:x.Ok ns)(G:y.Ok ns)(e:x.num ns=y.num ns):x=y:=by
  have h1:=Ms.mb E;have h2:=Ms.mb G;rw[e]at h1;have h3:x.top=Jo↔y.top=Jo:=h1.symm.trans h2
  cases u:x.top with
  | true=>have B:=h3.1 u;exact Ms.ext' (by rw[u,B]) (by rw[E.2 u,G.2 B])
  | false=>
    have B:y.top=Jp:=by
      cases q:y.top with
      | true=>rw[h3.2 q]at u;cases u
      | false=>rfl
    refine Ms.ext' (by rw[u,B]) (aAK E.1 G.1 ?_);simpa [Ms.num,u,B]using e
def aIq(h:ns.length=8):mz.Ok ns:=⟨by show mOk ns (Ah 8 0);rw[<-h];exact GW ns,fun h=>by cases h⟩
def GT(h:ns.length=8):qz.Ok ns:=⟨by show mOk ns (Ah 8 0);rw[<-h];exact GW ns,fun _=>rfl⟩
def aAF:mz.num ns=0:=by show(if Jp=Jo then _ else mr ns (Ah 8 0))=0;rw[if_neg (by decide),aAJ]
def KK:qz.num ns=mT ns:=if_pos rfl
end
def lB(a b:Int):Int:=if a<b then-1 else if b<a then 1 else 0
def kZ:List Int->List Int->Int
  | c::cs,d::ds=>if kZ cs ds=0 then lB c d else kZ cs ds
  | _,_=>0
def w7(x y:Ms):Int:=if x.top=Jo then(if y.top=Jo then 0 else 1)else if y.top=Jo then-1 else kZ x.c y.c
def nO{a b:Int}(h:a<b):lB a b= -1:=if_pos h
def nP{a b:Int}(h:b<a):lB a b=1:=by unfold lB;rw[if_neg (by omega),if_pos h]
def u6(a:Int):lB a a=0:=by simp[lB]
def pS{a b:Int} :lB a b=0↔a=b:=by
  unfold lB;split
  · constructor<;>intro h<;>omega
  · split<;>constructor<;>intro h<;>omega
def pT:∀{cs ds:List Int} (k:Nat),kZ (cs.drop k) (ds.drop k)≠0->kZ cs ds=kZ (cs.drop k) (ds.drop k)
  | cs,ds,0,_=>by simp
  | [],ds,k+1,h=>by simp[kZ]at h
  | _::_,[],k+1,h=>by simp[kZ]at h
  | c::cs,d::ds,k+1,h=>by have h:kZ (cs.drop k) (ds.drop k)≠0:=h;have:=pT k h;show(if kZ cs ds=0 then lB c d else kZ cs ds)=kZ (cs.drop k) (ds.drop k);rw[if_neg (by rw[this];exact h),this]
def TX{cs ds:List Int}{k:Nat}{c d:Int}(u:cs[k]? =Jm c)(hd:ds[k]? =Jm d)(h:kZ (cs.drop (k+1)) (ds.drop (k+1))=0):kZ (cs.drop k) (ds.drop k)=lB c d:=by obtain⟨h1,y⟩:=List.getElem?_eq_some_iff.1 u;obtain⟨h2,B⟩:=List.getElem?_eq_some_iff.1 hd;rw[Ek h1,Ek h2];show(if kZ _ _=0 then _ else _)=_;rw[if_pos h,y,B]
def aBX:∀{u:List Nat} {cs ds:List Int},mOk u cs->mOk u ds->kZ cs ds=lB (mr u cs) (mr u ds)
  | [],[],[],_,_=>by simp[kZ,lB,mr]
  | n::u,c::cs,d::ds,⟨h0,h1,h2⟩,⟨E,G,y⟩=>by
    have B:=aBX h2 y;show(if kZ cs ds=0 then lB c d else kZ cs ds)=lB ((c.toNat+(n+1)*mr u cs:Nat):Int) ((d.toNat+(n+1)*mr u ds:Nat):Int);rw[B];split
    · rename_i e;rw[pS]at e;have e:mr u cs=mr u ds:=by omega
      rw[e];rcases Int.lt_trichotomy c d with q | q | q
      · rw[nO q,nO (by omega)]
      · rw[q,u6,u6]
      · rw[nP q,nP (by omega)]
    · rename_i e;rw[pS]at e;by_cases I:mr u cs<mr u ds
      · have:=Jc (n+1) (show mr u cs+1<=mr u ds by omega);rw[Hk]at this;rw[nO (by omega),nO (by omega)]
      · have:=Jc (n+1) (show mr u ds+1<=mr u cs by omega);rw[Hk]at this;rw[nP (by omega),nP (by omega)]
  | [],_::_,_,h,_=>h.elim
  | _::_,[],_,h,_=>h.elim
  | [],[],_::_,_,h=>h.elim
  | _::_,_::_,[],_,h=>h.elim
def pR{u:List Nat}{x y:Ms}(B:x.Ok u)(E:y.Ok u):w7 x y=lB (x.num u) (y.num u):=by
  have h1:=EN B.1;have h2:=EN E.1;unfold w7 Ms.num;split
  · split
    · rw[u6]
    · rw[nP (by omega)]
  · split
    · rw[nO (by omega)]
    · exact aBX B.1 E.1
def iH{a b:Int} :0<lB a b↔b<a:=by
  unfold lB;split
  · constructor<;>intro h<;>omega
  · split<;>constructor<;>intro h<;>omega
def tC{a b:Int} :lB a b<0↔a<b:=by
  unfold lB;split
  · constructor<;>intro h<;>omega
  · split<;>constructor<;>intro h<;>omega
def vN(u:List Nat)(p x:Nat):Nat:=min (mT u) ((x / mB u (p / 2)+p % 2)*mB u (p / 2))
section
variable {ns:List Nat}
def aFW(p x:Nat):vN ns p x<=mT ns:=Ge _ _
def SE{p x y:Nat}(h:x<=y):vN ns p x<=vN ns p y:=by unfold vN;have h1:=Nat.div_le_div_right (c:=mB ns (p / 2)) h;have h2:=Dr (mB ns (p / 2)) (Nat.add_le_add_right h1 (p % 2));omega
def YY(p:Nat):vN ns p (mT ns)=mT ns:=by
  unfold vN;have h:=oR ns (p / 2);have e:mT ns / mB ns (p / 2)=mT (ns.drop (p / 2)):=by rw[h,Nat.mul_div_cancel_left _ (aAR _ _)]
  rw[e,Dg,Da (mT (ns.drop (p / 2)))];omega
def L2{q x:Nat}(h:x<mT ns):x / mB ns q<mT (ns.drop q):=by rw[Nat.div_lt_iff_lt_mul (aAR _ _),Da,<-oR];exact h
def C9{p x:Nat}(h:x<mT ns):vN ns p x=(x / mB ns (p / 2)+p % 2)*mB ns (p / 2):=by unfold vN;have h1:=L2 (q:=p / 2) h;have h2:(x / mB ns (p / 2)+p % 2)*mB ns (p / 2)<=mT (ns.drop (p / 2))*mB ns (p / 2):=Dr _ (by have:=Dx p (show 0<2 by decide);omega);rw[Da (mT _),<-oR]at h2;omega
def fX{α:Type}{l:List α}{q:Nat}{x:α}(h:l[q]? =Jm x):l.drop q=x::l.drop (q+1):=by obtain⟨h1,e⟩:=List.getElem?_eq_some_iff.1 h;rw[Ek h1,e]
end
def IJ(f:Nat->Nat):List Nat->Nat
  | []=>0
  | [a]=>f a
  | a::b::l=>min (f a) (IJ f (b::l))
def FN(f:Nat->Nat):List Nat->Nat
  | []=>0
  | a::l=>max (f a) (FN f l)
def rS{f:Nat->Nat} :∀{l:List Nat},l≠[]->∃u∈l,IJ f l=f u
  | [],h=>absurd rfl h
  | [a],_=>⟨a,by simp,rfl⟩
  | a::b::l,_=>by
    obtain⟨u,h1,h2⟩:=rS (f:=f) (l:=b::l) (by simp);show ∃u∈a::b::l,min (f a) (IJ f (b::l))=f u;rcases Nat.le_total (f a) (IJ f (b::l))with h | h
    · exact⟨a,by simp,Dv h⟩
    · exact⟨u,Ds _ h1,by rw[Nat.min_eq_right h,h2]⟩
def FL{f:Nat->Nat} :∀{l:List Nat} {u:Nat},u∈l->IJ f l<=f u
  | [a],u,h=>by rw[Bp]at h;subst h;exact Ac _
  | a::b::l,u,h=>by
    show min (f a) (IJ f (b::l))<=f u;rcases List.mem_cons.1 h with e | h
    · subst e;exact Ge _ _
    · exact Aj (Nat.min_le_right _ _) (FL h)
def rT{f:Nat->Nat} :∀{l:List Nat},l≠[]->∃u∈l,FN f l=f u
  | [],h=>absurd rfl h
  | [a],_=>⟨a,by simp,by simp[FN]⟩
  | a::b::l,_=>by
    obtain⟨u,h1,h2⟩:=rT (f:=f) (l:=b::l) (by simp);show ∃u∈a::b::l,max (f a) (FN f (b::l))=f u;rcases Nat.le_total (f a) (FN f (b::l))with h | h
    · exact⟨u,Ds _ h1,by rw[Nat.max_eq_right h,h2]⟩
    · exact⟨a,by simp,Nat.max_eq_left h⟩
def FM{f:Nat->Nat} :∀{l:List Nat} {u:Nat},u∈l->f u<=FN f l
  | a::l,u,h=>by
    show f u<=max (f a) (FN f l);rcases List.mem_cons.1 h with e | h
    · subst e;exact Nat.le_max_left _ _
    · exact Aj (FM h) (Nat.le_max_right _ _)
def SF{f:Nat->Nat}{l:List Nat}{y:Nat}(h1:∃u∈l,y=f u)(h2:∀u∈l,y<=f u):y=IJ f l:=by obtain⟨u,B,e⟩:=h1;obtain⟨w,hw,E⟩:=rS (f:=f) (l:=l) (fun q=>by rw[q]at B;cases B);have:=FL (f:=f) B;have:=h2 w hw;omega
def SG{f:Nat->Nat}{l:List Nat}{y:Nat}(h1:∃u∈l,y=f u)(h2:∀u∈l,f u<=y):y=FN f l:=by obtain⟨u,B,e⟩:=h1;obtain⟨w,hw,E⟩:=rT (f:=f) (l:=l) (fun q=>by rw[q]at B;cases B);have:=FM (f:=f) B;have:=h2 w hw;omega
def lN(y:List Nat)(O:Nat->Int)(S:Nat->List Nat)(R:Nat->Int)(m:Nat->Nat)(v:Nat):Nat:=
  if O v=0 then IJ (fun u=>vN y (R v).toNat (m u)) (S v)else FN (fun u=>vN y (R v).toNat (m u)) (S v)
def lV(m:Nat->Nat)(v x:Nat):Nat->Nat:=fun u=>if u=v then x else m u
structure Lft (n T:Nat) (L:(Nat->Nat)->Nat->Nat):Prop where
  bnd:∀m v,v<n->L m v<=T
  mono:∀m m' v,v<n->(∀u,u<n->m u<=m' u)->L m v<=L m' v
def pZ(n:Nat)(L:(Nat->Nat)->Nat->Nat)(m:Nat->Nat):Prop:=∀v,v<n->L m v<=m v
structure LI (n T:Nat) (L:(Nat->Nat)->Nat->Nat) (m:Nat->Nat):Prop where
  bnd:∀v,v<n->m v<=T
  up:∀v,v<n->m v<=L m v
  low:∀m',pZ n L m'->∀v,v<n->m v<=m' v
def aG2{n:Nat}{ns:List Nat}{O:Nat->Int}{S:Nat->List Nat}{R:Nat->Int}(hS:∀v,v<n->S v≠[]/\∀u∈S v,u<n):Lft n (mT ns) (lN ns O S R) where
  bnd:=fun m v hv=>by
    unfold lN;split
    · obtain⟨u,_,e⟩:=rS (f:=fun u=>vN ns (R v).toNat (m u)) (hS v hv).1;rw[e];exact aFW _ _
    · obtain⟨u,_,e⟩:=rT (f:=fun u=>vN ns (R v).toNat (m u)) (hS v hv).1;rw[e];exact aFW _ _
  mono:=fun m m' v hv h=>by
    unfold lN;split
    · obtain⟨u,hu,e⟩:=rS (f:=fun u=>vN ns (R v).toNat (m' u)) (hS v hv).1;rw[e];exact Aj (FL hu) (SE (h u ((hS v hv).2 u hu)))
    · obtain⟨u,hu,e⟩:=rT (f:=fun u=>vN ns (R v).toNat (m u)) (hS v hv).1;rw[e];exact Aj (SE (h u ((hS v hv).2 u hu))) (FM (f:=fun u=>vN ns (R v).toNat (m' u)) hu)
section
variable {n T:Nat} {L:(Nat->Nat)->Nat->Nat} {m:Nat->Nat}
def LI.zero(hL:Lft n T L):LI n T L fun _=>0:=⟨fun _ _=>Ai _,fun _ _=>Ai _,fun _ _ _ _=>Ai _⟩
def LI.step(hL:Lft n T L)(h:LI n T L m){v:Nat}(hv:v<n):LI n T L (lV m v (L m v)):=by
  have le:∀u,u<n->m u<=lV m v (L m v) u:=fun u y=>by
    unfold lV;split
    · rename_i e;subst e;exact h.up u y
    · exact Ac _
  refine⟨fun u y=>?_,fun u y=>?_,fun m' hm u y=>?_⟩
  · unfold lV;split
    · exact hL.bnd _ _ hv
    · exact h.bnd u y
  · have:=hL.mono m _ u y le;show(if u=v then L m v else m u)<=_;split
    · rename_i e;subst e;exact this
    · exact Aj (h.up u y) this
  · unfold lV;split
    · rename_i e;subst e;exact Aj (hL.mono m m' u y (h.low m' hm)) (hm u y)
    · exact h.low m' hm u y
def oB:Nat->(Nat->Nat)->Nat
  | 0,_=>0
  | n+1,m=>oB n m+m n
def FV:∀{n:Nat} {m:Nat->Nat},(∀v,v<n->m v<=T)->oB n m<=n*T
  | 0,_,_=>by simp[oB]
  | n+1,m,h=>by have:=FV (n:=n) (m:=m) (fun v hv=>h v (by omega));have:=h n (by omega);show oB n m+m n<=(n+1)*T;rw[Dg];omega
def yS:∀{n:Nat} {m m':Nat->Nat},(∀v,v<n->m v=m' v)->oB n m=oB n m'
  | 0,_,_,_=>rfl
  | n+1,m,m',h=>by show oB n m+m n=oB n m'+m' n;rw[yS (fun v hv=>h v (by omega)),h n (by omega)]
def yR:∀{n:Nat} {m:Nat->Nat} {v x:Nat},v<n->m v<x->oB n m<oB n (lV m v x)
  | 0,_,_,_,h,_=>by omega
  | n+1,m,v,x,h,y=>by
    show oB n m+m n<oB n (lV m v x)+lV m v x n;by_cases e:v=n
    · subst e;rw[yS (n:=v) (m:=lV m v x) (m':=m) (fun u E=>by unfold lV;rw[if_neg (by omega)])];unfold lV;rw[if_pos rfl];omega
    · have:=yR (n:=n) (m:=m) (v:=v) (x:=x) (by omega) y;have G:lV m v x n=m n:=by unfold lV;rw[if_neg (by omega)]
      omega
def ot(n:Nat)(L:(Nat->Nat)->Nat->Nat)(m:Nat->Nat)(v:Nat):Prop:=v<n/\m v<L m v/\∀u,u<v->L m u<=m u
def ot.eq{v u:Nat}(h:ot n L m v)(k:ot n L m u):v=u:=by
  rcases Gw v u with q | q | q
  · have:=k.2.2 v q;have:=h.2.1;omega
  · exact q
  · have:=h.2.2 u q;have:=k.2.1;omega
open Classical in
noncomputable def qP(n:Nat)(L:(Nat->Nat)->Nat->Nat)(m:Nat->Nat):Nat->Nat:=
  if h:∃v,ot n L m v then lV m (Classical.choose h) (L m (Classical.choose h))else m
def pG{v:Nat}(h:ot n L m v):qP n L m=lV m v (L m v):=by unfold qP;have q:∃v,ot n L m v:=⟨v,h⟩;rw[dif_pos q,(Classical.choose_spec q).eq h]
def ZB(h:pZ n L m):qP n L m=m:=by unfold qP;rw[dif_neg];rintro⟨v,h1,h2,_⟩;have:=h v h1;omega
noncomputable def itN(n:Nat)(L:(Nat->Nat)->Nat->Nat):Nat->Nat->Nat
  | 0=>fun _=>0
  | k+1=>qP n L (itN n L k)
def PE(hL:Lft n T L):∀k,LI n T L (itN n L k)
  | 0=>LI.zero hL
  | k+1=>by
    have u:=PE hL k;by_cases h:∃v,ot n L (itN n L k) v
    · obtain⟨v,hv⟩:=h;show LI n T L (qP n L (itN n L k));rw[pG hv];exact u.step hL hv.1
    · show LI n T L (qP n L (itN n L k));unfold qP;rw[dif_neg h];exact u
def G9{k:Nat}(h:pZ n L (itN n L k)):∀d,itN n L (k+d)=itN n L k
  | 0=>rfl
  | d+1=>by show qP n L (itN n L (k+d))=_;rw[G9 h d,ZB h]
end
def msC(x:Ms):List PV:=PV.bool x.top::x.c.map (PV.int .i64)
def msL(l:List Ms):List PV:=l.flatMap msC
def aP(pr:List Int):List Nat:=cJ 8 fun k=>pr.count ((2*k+1:Nat):Int)
def gW(l:List Nat):List PV:=l.map fun(n:Nat)=>p64 n
def jS(u y B E G I f4 J:Bool)(ow pr:List Int)(su:List (List Int)):List PV:=slI u y .u8 ow::slI B E .i64 pr::slR G I f4 J .i64 su::gW (aP pr)
abbrev slM(f o:Bool)(l:List Ms):PV:= .sl f o 9 l.length (msL l)
def Ms.put(x:Ms)(k:Nat)(c:Int):Ms:=⟨x.top,x.c.set k c,by simp[x.h]⟩
def jW(x:Ms):(msC x).length=9:=by simp[msC,x.h]
def iF(pr:List Int):(aP pr).length=8:=bN _ _
def sO(pr:List Int):(gW (aP pr)).length=8:=by simp[gW,iF]
def S0(x:Ms):(msC x).all PV.one=Jo:=by simp[msC,PV.one]
def aAX(l:List Nat):(gW l).all PV.one=Jo:=by simp[gW,PV.one]
def xO(m:Nat)(x:Ms):aD m (msC x)=Jo:=by unfold msC;rw[eJ,aO];simp[PV.under]
def AJ(m:Nat)(l:List Nat):aD m (gW l)=Jo:=by unfold gW;exact dK _ _ (fun _=>by simp[PV.under]) _
def aIr(x:Ms):(msC x)[0]? =Jm (.bool x.top):=rfl
def uJ{x:Ms}{k:Nat}{c:Int}(h:x.c[k]? =Jm c):(msC x)[1+k]? =Jm (p64 c):=by rw[Dh];unfold msC;simp[h]
def pM(x:Ms)(k:Nat)(c:Int):(msC x).set (1+k) (p64 c)=msC (x.put k c):=by rw[Dh];unfold msC Ms.put;simp[Je]
def ZX(x:Ms):aY (msC x) 0 9=msC x:=aK _ _ (jW x).symm
def VK(pr:List Int):aY (gW (aP pr)) 0 8=gW (aP pr):=aK _ _ (sO pr).symm
def JZ{a b:List PV}(h:a.length=b.length)(h2:2<=b.length):jO a 0 b=b:=by
  match b,h2 with
  | x::y::l,_=>show a.take 0++(x::y::l)++a.drop (0+(x::y::l).length)=x::y::l;rw[Fm (by rw[h];simp)];simp
def VT(x y:Ms):jO (msC y) 0 (msC x)=msC x:=JZ (by rw[jW,jW]) (by rw[jW];decide)
def aAY:List Nat:=Ah 8 0
def z8:[p64 0,p64 0,p64 0,p64 0,p64 0,p64 0,p64 0,p64 0]=gW aAY:=rfl
def z9:PV.bool Jp::gW aAY=msC mz:=rfl
def z9t:(msC mz).set 0 (.bool Jo)=msC qz:=rfl
def N2(pr:List Int):jO (gW aAY) 0 (gW (aP pr))=gW (aP pr):=JZ (by rw[sO];rfl) (by rw[sO];decide)
def xQ{l:List Nat}{k n:Nat}(h:l[k]? =Jm n):(gW l)[k]? =Jm (p64 n):=by unfold gW;simp[h]
def KY(l:List Nat)(k n:Nat):(gW l).set k (p64 n)=gW (l.set k n):=by unfold gW;simp[Je]
section
variable {f1 o1 f2 o2 f3 o3 f4 o4:Bool} {ow pr:List Int} {su:List (List Int)}
def aGs:(jS f1 o1 f2 o2 f3 o3 f4 o4 ow pr su)[0]? =Jm (slI f1 o1 .u8 ow):=rfl
def aGr:(jS f1 o1 f2 o2 f3 o3 f4 o4 ow pr su)[1]? =Jm (slI f2 o2 .i64 pr):=rfl
def aGq:(jS f1 o1 f2 o2 f3 o3 f4 o4 ow pr su)[2]? =Jm (slR f3 o3 f4 o4 .i64 su):=rfl
def SL{k n:Nat}(h:(aP pr)[k]? =Jm n):(jS f1 o1 f2 o2 f3 o3 f4 o4 ow pr su)[3+k]? =Jm (p64 n):=by rw[Dh];exact xQ h
def sC(m:Nat):aD m (jS f1 o1 f2 o2 f3 o3 f4 o4 ow pr su)=Jo:=by unfold jS;simp only[eJ,e8,lW,AJ,Bool.and_self]
end
def V6(cs:List PV)(o:Nat):bY (.cp cs o)=[.cp cs o]:=(rfl)
def aGQ(cs:List PV)(o:Nat):PV.one (.cp cs o)=Jo:=(rfl)
def WH:(gW aAY).length=8:=rfl
def VY(n:Nat)(M:Mem)(x:Ms):dM n M (msC x)=Jm (msC x):=jD (xO _ _)
def N5(n:Nat)(M:Mem)(l:List Nat):dM n M (gW l)=Jm (gW l):=jD (AJ _ _)
def jV(l:List Ms):(msL l).length=l.length*9:=by
  unfold msL
  induction l with
  | nil=>rfl
  | cons x l u=>rw[Cd,An,u,jW,As,Dg];omega
def aEb(l:List Ms):(msL l).all PV.one=Jo:=by
  unfold msL
  induction l with
  | nil=>rfl
  | cons x l u=>rw[Cd,Cc,u,S0];rfl
def dE(m:Nat)(l:List Ms):aD m (msL l)=Jo:=by
  unfold msL
  induction l with
  | nil=>exact gS _
  | cons x l u=>rw[Cd,lL,u,xO];rfl
def UT(m:Nat)(f o:Bool)(sz n:Nat)(l:List Ms):PV.under m (.sl f o sz n (msL l))=Jo:=by simp only[PV.under];exact dE m l
def aEc(l:List Ms)(x:Ms):msL l++msC x=msL (l++[x]):=by simp[msL]
def EM{l:List Ms}{k:Nat}{x:Ms}(h:l[k]? =Jm x):∃a b,msL l=a++msC x++b/\a.length=k*9/\(∀y,msL (l.set k y)=a++msC y++b):=by
  obtain⟨u,e⟩:=List.getElem?_eq_some_iff.1 h;refine⟨msL (l.take k),msL (l.drop (k+1)),?_,?_,fun y=>?_⟩
  · conv=>lhs;rw[<-Cy k l,Ek u,e]
    simp[msL]
  · rw[jV];simp;omega
  · rw[Io,if_pos u];simp[msL]
def eY{l:List Ms}{k:Nat}{x:Ms}(h:l[k]? =Jm x):aY (msL l) (k*9) 9=msC x:=by obtain⟨a,b,h1,h2,_⟩:=EM h;unfold aY;rw[h1,<-h2,Ab,Gk,Bb (jW x)]
def uC{l:List Ms}{k:Nat}(y:Ms)(h:k<l.length):jO (msL l) (k*9) (msC y)=msL (l.set k y):=by
  obtain⟨a,b,h1,h2,h3⟩:=EM (Ad h);rw[h3,h1,<-h2];have e:msC y=PV.bool y.top::y.c.map (PV.int .i64):=rfl;have hl:(msC y).length=9:=jW y;have u:∃c cs,y.c.map (PV.int .i64)=c::cs:=by
    cases q:y.c.map (PV.int .i64)with
    | nil=>rw[e,q]at hl;simp at hl
    | cons c cs=>exact⟨c,cs,rfl⟩
  obtain⟨c,cs,q⟩:=u;have:jO (a++msC (l[k])++b) a.length (msC y)=(a++msC l[k]++b).take a.length++msC y++(a++msC l[k]++b).drop (a.length+(msC y).length):=by rw[e,q];rfl
  rw[this,hl,<-jW l[k],<-An,Gk,Ab a,Bb rfl]
def ZY(n:Nat):cK n (msC mz)=msL (Ah n mz):=by
  induction n with
  | zero=>rfl
  | succ n u=>show msC mz++cK n (msC mz)=_;rw[u,Eu];rfl
def qF{l:List Ms}{k:Nat}{x:Ms}(h:l[k]? =Jm x):k*9+9<=l.length*9:=by have:=aI h;omega
instance:DecidableEq Ms:=fun x y=>if h:x.top=y.top/\x.c=y.c then isTrue (Ms.ext' h.1 h.2)else isFalse fun e=>h (by subst e;exact⟨rfl,rfl⟩)
def Ms.fit(x:Ms):Prop:=∀c∈x.c,-9223372036854775808<=c/\c<=9223372036854775807
def yM:∀l:List Int,fT (l.map (PV.int .i64))=Jm (l.map (AV.int .i64))
  | []=>rfl
  | x::l=>by show(match cB (PV.int .i64 x),fT (l.map (PV.int .i64))with | some x,Jm u=>Jm (x::u) | _,_=>Jn)=_;rw[yM l];rfl
def LA{c:Int}(h: -9223372036854775808<=c/\c<=9223372036854775807):WT .i64 c=Jo:=by unfold WT;simp;exact h
def LY:∀{a b:List Int},a.length=b.length->(∀c∈a,-9223372036854775808<=c/\c<=9223372036854775807)->(∀c∈b,-9223372036854775808<=c/\c<=9223372036854775807)->eZ (Ah a.length (Jm .i64)) (a.map (AV.int .i64)) (b.map (AV.int .i64))=Jm (decide (a=b))
  | [],[],_,_,_=>rfl
  | x::a,y::b,hl,u,hb=>by have B:=LY (a:=a) (b:=b) (by simpa using hl) (fun c h=>u c (Ds _ h)) fun c h=>hb c (Ds _ h);rw[As,Eu,Ak,Ak];unfold eZ;rw[if_pos ⟨rfl,rfl,LA (u x (by simp)),LA (hb y (by simp))⟩,B];simp only[Option.some.injEq,List.cons.injEq];by_cases e:x=y<;>by_cases E:a=b<;>simp[e,E]
  | [],_::_,h,_,_=>by simp at h
  | _::_,[],h,_,_=>by simp at h
def SS{x y:Ms}(B:x.fit)(E:y.fit):oJ [Jn,Jm .i64,Jm .i64,Jm .i64,Jm .i64,Jm .i64,Jm .i64,Jm .i64,Jm .i64] (msC x) (msC y)=Jm (decide (x=y)):=by
  have h:=LY (a:=x.c) (b:=y.c) (by rw[x.h,y.h]) B E;rw[x.h]at h;unfold oJ msC;have u:∀z:Ms,fT (PV.bool z.top::z.c.map (PV.int .i64))=Jm (AV.bool z.top::z.c.map (AV.int .i64)):=fun z=>by
    show(match cB (PV.bool z.top),fT (z.c.map (PV.int .i64))with | some x,Jm G=>Jm (x::G) | _,_=>Jn)=_;rw[yM];rfl
  rw[u x,u y];show eZ (Jn::Ah 8 (Jm .i64)) (AV.bool x.top::x.c.map (AV.int .i64)) (AV.bool y.top::y.c.map (AV.int .i64))=_;unfold eZ;rw[h];simp only[Option.some.injEq];by_cases e:x=y
  · subst e;simp
  · rw[decide_eq_false e];by_cases u:x.top=y.top
    · have:x.c≠y.c:=fun q=>e (Ms.ext' u q);simp[this]
    · have:(x.top==y.top)=Jp:=by simpa using u
      rw[this];rfl
def Ms.Ok.fit{ns:List Nat}{x:Ms}(h:x.Ok ns)(J:∀n∈ns,n<1000000000000):x.fit:=fun c K=>by
  obtain⟨k,I⟩:=Dj K;have hl:=S1 h.1;have y:k<ns.length:=by have:=aI I;omega
  have G:∀{ns:List Nat} {cs:List Int},mOk ns cs->∀{u:Nat} {c:Int} {n:Nat},cs[u]? =Jm c->ns[u]? =Jm n->0<=c/\c<=n:=by
    intro ns
    induction ns with
    | nil=>intro cs h u c n E B;simp at B
    | cons n ns L=>
      intro cs h u c m E B
      cases cs with
      | nil=>exact h.elim
      | cons a cs=>
        cases u with
        | zero=>simp at E B;subst E;subst B;exact⟨h.1,h.2.1⟩
        | succ u=>exact L h.2.2 (by simpa using E) (by simpa using B)
  have h1:=G h.1 I (Ad y);have h2:=J _ (Df y);omega
def xP{pr:List Int}(hb:pr.length<1000000000000):∀n∈aP pr,n<1000000000000:=fun n u=>by obtain⟨v,_,rfl⟩:=yO u;have:pr.count ((2*v+1:Nat):Int)<=pr.length:=Ho;omega
def PN:=(Aa (Aa (Aa (Aa @jW (Aa @S0 @xO)) (Aa (Aa @UT @aIr) (Aa @ZX @VT))) (Aa (Aa @z9 (Aa @z9t @jV)) (Aa (Aa @dE @aEb) (Aa @ZY @sO)))) (Aa (Aa (Aa @aAX (Aa @AJ @WH)) (Aa (Aa @VY @N5) (Aa @VK @N2))) (Aa (Aa @z8 (Aa @V6 @aGQ)) (Aa (Aa @sC @aGs) (Aa @aGr @aGq)))))
def Ms.get{x:Ms}{k:Nat}(h:k<8):∃c,x.c[k]? =Jm c:=aM (by rw[x.h];exact h)
def vX{j:Nat}(h:j<1000000000000):IntKind.i64.wrap ((j:Int)-1)=(j:Int)-1:=wrap64 (by omega) (by omega)
section
variable {tab:Tb} (T:HasA tab){M:Mem}{K:Kp}
include T
def TI{a:Int}(u:K (.bool Jp) M):aj tab 133 [p64 a] M K:=by refine aF T.h133 (by simp only[PP,simprocAttr]) ?_;simp only[af133,PP,simprocAttr];exact u
def aIZ{a b:Int}(u:K (p64 (lB a b)) M):aj tab 78 [p64 a,p64 b] M K:=by
  refine aF T.h78 (by simp only[PP,simprocAttr]) ?_;simp only[af78,PP,simprocAttr];refine TI T ?_;simp only[PP,simprocAttr];refine TI T ?_;simp only[PP,simprocAttr];refine QIf.intro (fun c=>?_) fun c=>?_
  · simp only[PP,simprocAttr,c];rw[nO c]at u;exact u
  · simp only[PP,simprocAttr,c];refine QIf.intro (fun d=>?_) fun d=>?_
    · simp only[PP,simprocAttr,d];rw[nP d]at u;exact u
    · simp only[PP,simprocAttr,d];rw[show lB a b=0 from by rw[pS];omega]at u;exact u
def mL{x y:Ms}(u:K (p64 (w7 x y)) M):aj tab 30 [.agg (msC x),.agg (msC y)] M K:=by
  refine aF T.h30 (by simp only[PP,simprocAttr,PN]) ?_;simp only[af30,PP,simprocAttr,PN];unfold w7 at u
  cases E:x.top with
  | true=>
    rw[E,if_pos rfl]at u
    cases B:y.top with
    | true=>rw[B,if_pos rfl]at u;simp only[PP,simprocAttr,PN,B];exact u
    | false=>rw[B,if_neg (by decide)]at u;simp only[PP,simprocAttr,PN,E,B];exact u
  | false=>
    rw[E,if_neg (by decide)]at u
    cases B:y.top with
    | true=>rw[B,if_pos rfl]at u;simp only[PP,simprocAttr,PN,E,B];exact u
    | false=>
      rw[B,if_neg (by decide)]at u;simp only[PP,simprocAttr,PN,E,B];refine dN (fun(k:Int)=> -1<=k/\k<=7/\kZ (x.c.drop (k+1).toNat) (y.c.drop (k+1).toNat)=0) (fun k=>(.aa:: .aa:: .ptr 0 0 0:: .ptr 1 0 0:: .aa::p64 k::zj 30))
        (fun k=>[.cells 0 0 (msC x),.cells 0 0 (msC y)]) (fun k=>(k+1).toNat) 7 ⟨by decide,by decide,by
          rw[Fm (by rw[x.h];decide)];rfl⟩ (by simp only[PW]) rfl ?_
      intro k ⟨h1,h2,h3⟩ O;refine aH (by kernel_rfl) ?_;simp only[PP,simprocAttr];refine QIf.intro (fun c=>?_) fun c=>?_
      · obtain⟨j,rfl⟩:∃j:Nat,k=j:=⟨k.toNat,by omega⟩;have Q:(j:Int)<8:=by omega
        obtain⟨a,J⟩:=Ms.get (x:=x) (k:=j) (by omega);obtain⟨b,L⟩:=Ms.get (x:=y) (k:=j) (by omega);have R:=uJ J;have S:=uJ L;have G:=vX (j:=j) (by omega);have U:((j:Int)+1).toNat=j+1:=by omega
        rw[U]at h3;have I:=TX J L h3;simp only[PP,simprocAttr,c,Q,R,S];refine aIZ T ?_;simp only[PP,simprocAttr];by_cases e:lB a b=0
        · simp only[PP,simprocAttr,e,G];refine aE (O ((j:Int)-1) ⟨by omega,by omega,?_⟩ (by omega)) (by simp only[PW]);rw[show((j:Int)-1+1).toNat=j by omega,I];exact e
        · simp only[PP,simprocAttr,e];rw[pT j (by rw[I];exact e),I]at u;exact u
      · have:k= -1:=by omega
        subst this;have h3:kZ x.c y.c=0:=by simpa using h3
        rw[h3]at u;simp only[PP,simprocAttr];exact u
def zG{x y:Ms}(u:K (p64 (w7 x y)) M):aj tab 162 [.agg (msC x),.agg (msC y)] M K:=by
  refine aF T.h162 (by simp only[PP,simprocAttr,PN]) ?_;simp only[af162,PP,simprocAttr,PN];unfold w7 at u
  cases G:x.top with
  | true=>
    rw[G,if_pos rfl]at u
    cases B:y.top with
    | true=>rw[B,if_pos rfl]at u;simp only[PP,simprocAttr,PN,G,B];exact u
    | false=>rw[B,if_neg (by decide)]at u;simp only[PP,simprocAttr,PN,G,B,show(Jo==Jp)=Jp from rfl];exact u
  | false=>
    rw[G,if_neg (by decide)]at u
    cases B:y.top with
    | true=>rw[B,if_pos rfl]at u;simp only[PP,simprocAttr,PN,G,B,show(Jp==Jo)=Jp from rfl];exact u
    | false=>
      rw[B,if_neg (by decide)]at u;simp only[PP,simprocAttr,PN,B];refine dN (fun(k:Int)=> -1<=k/\k<=7/\kZ (x.c.drop (k+1).toNat) (y.c.drop (k+1).toNat)=0) (fun k=>(.aa:: .aa:: .ptr 0 0 0:: .ptr 1 0 0:: .aa::p64 k::zj 35))
        (fun k=>[.cells 0 0 (msC x),.cells 0 0 (msC y)]) (fun k=>(k+1).toNat) 7 ⟨by decide,by decide,by
          rw[Fm (by rw[x.h];decide)];rfl⟩ (by simp only[PW]) rfl ?_
      intro k ⟨h1,h2,h3⟩ S;refine aH (by kernel_rfl) ?_;simp only[PP,simprocAttr];refine QIf.intro (fun c=>?_) fun c=>?_
      · obtain⟨j,rfl⟩:∃j:Nat,k=j:=⟨k.toNat,by omega⟩;have J:(j:Int)<8:=by omega
        obtain⟨a,L⟩:=Ms.get (x:=x) (k:=j) (by omega);obtain⟨b,O⟩:=Ms.get (x:=y) (k:=j) (by omega);have Q:=uJ L;have R:=uJ O;have I:=vX (j:=j) (by omega);have U:((j:Int)+1).toNat=j+1:=by omega
        rw[U]at h3;have E:=TX L O h3;simp only[PP,simprocAttr,c,J,Q,R];refine QIf.intro (fun d=>?_) fun d=>?_
        · rw[nO d]at E;simp only[PP,simprocAttr,d];rw[pT j (by rw[E];decide),E]at u;exact u
        · simp only[PP,simprocAttr,d,J,c,Q,R];refine QIf.intro (fun e=>?_) fun e=>?_
          · rw[nP e]at E;simp only[PP,simprocAttr,e];rw[pT j (by rw[E];decide),E]at u;exact u
          · simp only[PP,simprocAttr,e,I];refine aE (S ((j:Int)-1) ⟨by omega,by omega,?_⟩ (by omega)) (by simp only[PW]);rw[show((j:Int)-1+1).toNat=j by omega,E,pS];omega
      · have:k= -1:=by omega
        subst this;have h3:kZ x.c y.c=0:=by simpa using h3
        rw[h3]at u;simp only[PP,simprocAttr];exact u
end
def YQ{l:List Int}{k:Nat} :(Ah k (0:Int)++l.drop k)[k]? =l[k]? :=by rw[Bx (by simp),List.length_replicate,Dd,Bg,Dw]
def M6{l:List Int}{k:Nat}(y:Int)(h:k<l.length):(Ah k (0:Int)++l.drop k).set k y=Ah k 0++y::l.drop (k+1):=by rw[Dk _ _ (by simp),List.length_replicate,Dd,Ek h,De]
def xB{l:List Int}{k:Nat}(h:k<l.length):(Ah k (0:Int)++l.drop k).set k 0=Ah (k+1) 0++l.drop (k+1):=by rw[M6 0 h,It,Ab];rfl
section
variable {ns:List Nat} {x y:Ms} {q k:Nat}
def uF(ht:x.top=Jp):x.num ns=mr ns x.c:=by unfold Ms.num;rw[ht,if_neg (by decide)]
def IC(h:x.Ok ns)(ht:x.top=Jp)(hl:ns.length=8)(E:q<=8)(u:y.top=Jp)(B:y.c=Ah q 0++x.c.drop q):y.Ok ns/\y.num ns=(x.num ns / mB ns q)*mB ns q:=by have h1:=oS q h.1;refine⟨⟨by rw[B];exact uL q (by omega) h1,fun e=>by rw[u]at e;cases e⟩,?_⟩;rw[uF u,uF ht,B,AA q (by simp[x.h];omega),GU q h.1,Da]
def CI(ns:List Nat)(x:Ms)(q k:Nat):Prop:=∀(i:Nat) (c:Int) (n:Nat),q<=i->i<k->x.c[i]? =Jm c->ns[i]? =Jm n->c=n
def YZ(h:x.Ok ns)(hl:ns.length=8):∀{k:Nat},q<=k->k<=8->CI ns x q k->(mr (ns.drop k) (x.c.drop k)+1)*mB ns k=(mr (ns.drop q) (x.c.drop q)+1)*mB ns q
  | 0,h1,h2,hf=>by
    have:q=0:=by omega
    subst this;rfl
  | k+1,h1,h2,hf=>by
    by_cases e:q=k+1
    · subst e;rfl
    · rw[<-YZ h hl (k:=k) (by omega) (by omega) (fun i c n a b=>hf i c n a (by omega))];obtain⟨n,u⟩:∃n,ns[k]? =Jm n:=⟨_,Ad (by omega)⟩;obtain⟨c,B⟩:=Ms.get (x:=x) (k:=k) (by omega);have E:=hf k c n (by omega) (by omega) B u;rw[aEi u,fX u,fX B];show _=(c.toNat+(n+1)*mr (ns.drop (k+1)) (x.c.drop (k+1))+1)*mB ns k;rw[E,Ck,show n+(n+1)*mr (ns.drop (k+1)) (x.c.drop (k+1))+1=(n+1)*(mr (ns.drop (k+1)) (x.c.drop (k+1))+1) by rw[Hk];omega];rw[Da (mB ns k),<-Hm,Da (n+1)]
def SC(h:x.Ok ns)(ht:x.top=Jp)(hl:ns.length=8)(I:q<=k)(J:k<8)(hf:CI ns x q k){c:Int}{n:Nat}(B:x.c[k]? =Jm c)(u:ns[k]? =Jm n)(hlt:c<n)(E:y.top=Jp)
    (G:y.c=Ah k 0++(c+1)::x.c.drop (k+1)):y.Ok ns/\y.num ns=(x.num ns / mB ns q+1)*mB ns q:=by
  have h1:=oS k h.1;rw[fX u,fX B]at h1;have hd:mOk (ns.drop k) ((c+1)::x.c.drop (k+1)):=by rw[fX u];exact⟨by have:=h1.1;omega,by omega,h1.2.2⟩
  refine⟨⟨by rw[G];exact uL k (by omega) hd,fun e=>by rw[E]at e;cases e⟩,?_⟩;rw[uF E,uF ht,G,AA k (by simp[x.h];omega),GU q h.1,<-YZ h hl I (by omega) hf,Da,fX u,fX B];congr 1;show(c+1).toNat+(n+1)*_=c.toNat+(n+1)*_+1;have:=h1.1;omega
def ID(h:x.Ok ns)(ht:x.top=Jp)(hl:ns.length=8)(u:q<=8)(hf:CI ns x q 8):mT ns=(x.num ns / mB ns q+1)*mB ns q:=by rw[uF ht,GU q h.1,<-YZ h hl u (Ac _) hf,Fm (by omega),oR ns 8,Fm (by omega)];simp[mr,mT]
def Ms.qg(h:x.Ok ns)(ht:x.top=Jp):x.num ns<mT ns:=by rw[uF ht];exact EN h.1
end
def aFE(pr:List Int):Prop:=pr.length<1000000000000/\∀x∈pr,0<=x/\x<=16
def nI(pr:List Int){q:Nat}(h:q<8):(aP pr)[q]? =Jm (pr.count ((2*q+1:Nat):Int)):=eV h
def EP{pr:List Int}{k:Nat}{x:Int}(g:pr[k]? =Jm x)(h:x % 2=0):aP (pr.take (k+1))=aP (pr.take k):=fU fun v hv=>by
  rw[bZ g,List.count_append,List.count_singleton];have:¬(x==((2*v+1:Nat):Int))=Jo:=by simp;omega
  rw[if_neg this];rfl
def KX{pr:List Int}{k q:Nat}{x:Int}(g:pr[k]? =Jm x)(h:x=((2*q+1:Nat):Int))(u:q<8):(aP (pr.take k)).set q ((pr.take k).count ((2*q+1:Nat):Int)+1)=aP (pr.take (k+1)):=by
  unfold aP;rw[rW _ u];refine fU fun v hv=>?_;rw[bZ g,List.count_append,List.count_singleton];by_cases e:v=q
  · subst e;rw[if_pos rfl,if_pos (by simp[h])]
  · rw[if_neg e,if_neg (by simp[h];omega)];rfl
section
variable {tab:Tb} (T:HasA tab){M:Mem}{K:Kp}
include T
def vZ{E G u B I J f4 L:Bool}{ow pr:List Int}{su:List (List Int)}(P:aFE pr)(hk:K (.cp (jS E G u B I J f4 L ow pr su) 0) M):
    aj tab 89 [gmP E G u B I J f4 L ow pr su] M K:=by
  obtain⟨hn,hp⟩:=P;refine aCW (by simp only[PP,simprocAttr]) ?_;refine aT T.h89 ?_;simp only[af89,PP,simprocAttr,PN];refine cQ (fun(k ver:Nat)=>k<=pr.length) (fun k ver=>(zj 3++ .ptr 1 0 0::zj 6++slI u B .i64 pr::p64 pr.length::p64 k::zj 19))
    (fun k ver=>[.cells 0 0 [slI E G .u8 ow,slI u B .i64 pr,slR I J f4 L .i64 su],.cells 0 ver (slI E G .u8 ow::slI u B .i64 pr::slR I J f4 L .i64 su::gW (aP (pr.take k)))])
    (fun k _=>pr.length-k) 0 0 (by omega) (by simp only[PW]) rfl ?_
  intro k ver a1 Z;refine aH (by kernel_rfl) ?_;simp only[PP,simprocAttr];refine QIf.intro (fun c=>?_) fun c=>?_
  · have V:k<pr.length:=by omega
    have k0:(0:Int)<=k:=by omega
    have kn:(k:Int)<pr.length:=by omega
    have O:=aC (k:=k) (by show _<1000000000000;omega);obtain⟨x,U⟩:=aM (xs:=pr) (k:=k) V;obtain⟨x0,x1⟩:=hp x (Af U);have Q:x.tmod 2=x % 2:=Hf x0;simp only[PP,simprocAttr,c,k0,U,ZZ (show(2:Int)≠0 by decide),Q];refine QIf.intro (fun d=>?_) fun d=>?_
    · obtain⟨q,hq,R⟩:∃q:Nat,x=((2*q+1:Nat):Int)/\q<8:=⟨(x / 2).toNat,by omega,by omega⟩;have S:IntKind.i64.wrap (x.tdiv 2)=(q:Int):=by
        rw[Gg x0,wrap64 (by omega) (by omega)];omega
      have a2:(pr.take k).count ((2*q+1:Nat):Int)<=(pr.take k).length:=Ho;have a0:(pr.take k).length<=pr.length:=by simp;omega
      have gl:=xQ (nI (pr.take k) R);have Y:=aC (k:=(pr.take k).count ((2*q+1:Nat):Int)) (by show _<1000000000000;omega);have g3:(slI E G .u8 ow::slI u B .i64 pr::slR I J f4 L .i64 su::gW (aP (pr.take k)))[3+q]? =Jm (p64 ((pr.take k).count ((2*q+1:Nat):Int))):=by rw[Dh];exact gl
      have g4:∀y:PV,(slI E G .u8 ow::slI u B .i64 pr::slR I J f4 L .i64 su::gW (aP (pr.take k))).set (3+q) y=slI E G .u8 ow::slI u B .i64 pr::slR I J f4 L .i64 su::(gW (aP (pr.take k))).set q y:=fun y=>by rw[Dh];rfl
      have q0:(0:Int)<=q:=by omega
      have q8:(q:Int)<8:=by omega
      have q3:3+q+1<=11:=by omega
      simp only[PP,simprocAttr,PN,d,oK _ _ _ (show(2:Int)≠0 by decide),S,q0,q8,q3,g3,g4,Y,O];refine aR (Z (k+1) (ver+1) (by omega) (by omega)) (by simp only[PW]) ?_;rw[KY,KX U hq R]
    · simp only[PP,simprocAttr,d,O];refine aR (Z (k+1) ver (by omega) (by omega)) (by simp only[PW]) ?_;rw[EP U (by omega)]
  · have:k=pr.length:=by omega
    subst this;simp only[PP,simprocAttr,c];refine⟨1,0,ver,jS E G u B I J f4 L ow pr su,rfl,?_,sC _,hk⟩;rw[Be (Ac _)];rfl
def aAW{L O Q R S U f4 V:Bool}{ow pr:List Int}{su:List (List Int)}(P:aFE pr)(hk:K (.agg (gW (aP pr))) M):
    aj tab 192 [gmP L O Q R S U f4 V ow pr su] M K:=by
  obtain⟨hn,hp⟩:=P;refine aF T.h192 (by simp only[PP,simprocAttr]) ?_;simp only[af192,PP,simprocAttr,PN];refine cQ (fun(k ver:Nat)=>k<=pr.length) (fun k ver=>(.aa:: .ptr 0 0 0:: .ptr 1 0 0:: .ptr 2 0 0::p64 k::zj 25))
    (fun k ver=>[.cells 0 0 [slI L O .u8 ow,slI Q R .i64 pr,slR S U f4 V .i64 su],.cells 0 0 (gW aAY),.cells 0 ver (gW (aP (pr.take k)))])
    (fun k _=>pr.length-k) 0 0 (by omega) (by simp only[PW]) rfl ?_
  intro k ver a1 Y;refine aH (by kernel_rfl) ?_;simp only[PP,simprocAttr];refine QIf.intro (fun c=>?_) fun c=>?_
  · have I:k<pr.length:=by omega
    have Z:(0:Int)<=k:=by omega
    have kn:(k:Int)<pr.length:=by omega
    have u:=aC (k:=k) (by show _<1000000000000;omega);obtain⟨x,y⟩:=aM (xs:=pr) (k:=k) I;obtain⟨x0,x1⟩:=hp x (Af y);have B:x.tmod 2=x % 2:=Hf x0;simp only[PP,simprocAttr,c,Z,y,ZZ (show(2:Int)≠0 by decide),B];refine QIf.intro (fun d=>?_) fun d=>?_
    · obtain⟨q,hq,E⟩:∃q:Nat,x=((2*q+1:Nat):Int)/\q<8:=⟨(x / 2).toNat,by omega,by omega⟩;have G:IntKind.i64.wrap (x.tdiv 2)=(q:Int):=by
        rw[Gg x0,wrap64 (by omega) (by omega)];omega
      have a2:(pr.take k).count ((2*q+1:Nat):Int)<=(pr.take k).length:=Ho;have a0:(pr.take k).length<=pr.length:=by simp;omega
      have gl:=xQ (nI (pr.take k) E);have J:=aC (k:=(pr.take k).count ((2*q+1:Nat):Int)) (by show _<1000000000000;omega);have q0:(0:Int)<=q:=by omega
      have q8:(q:Int)<8:=by omega
      have q3:q+1<=8:=by omega
      simp only[PP,simprocAttr,PN,d,Z,kn,y,oK _ _ _ (show(2:Int)≠0 by decide),G,q0,q8,q3,gl,J,u];refine aR (Y (k+1) (ver+1) (by omega) (by omega)) (by simp only[PW]) ?_;rw[KY,KX y hq E]
    · simp only[PP,simprocAttr,d,u];refine aR (Y (k+1) ver (by omega) (by omega)) (by simp only[PW]) ?_;rw[EP y (by omega)]
  · have:k=pr.length:=by omega
    subst this;rw[Be (Ac _)];simp only[PP,simprocAttr,PN,c];exact hk
omit T in
def aF2(p:Nat):((p:Int)).tmod 2=((p % 2:Nat):Int):=by rw[Hf (by omega)];omega
omit T in
def Z0{p:Nat}(h:p<=16):IntKind.i64.wrap ((p:Int).tdiv 2)=((p / 2:Nat):Int):=by rw[Gg (by omega),wrap64 (by omega) (by omega)];omega
set_option maxHeartbeats 1000000 in
def aIc{U V Y Z f3 o3 f4 o4:Bool}{ow pr:List Int}{su:List (List Int)}{p:Nat}{x:Ms}(hb:pr.length<1000000000000)(hp:p<=16)(B:x.Ok (aP pr))
    (hk:∀y:Ms,y.Ok (aP pr)->y.num (aP pr)=vN (aP pr) p (x.num (aP pr))->K (.agg (msC y)) M):
    aj tab 219 [.cp (jS U V Y Z f3 o3 f4 o4 ow pr su) 0,p64 p,.agg (msC x)] M K:=by
  have h8:=iF pr;have hlt:=xP hb;refine aF T.h219 (by simp only[PP,simprocAttr,PN,PV.under]) ?_;simp only[af219,PP,simprocAttr,PN]
  cases ht:x.top with
  | true=>simp only[PP,simprocAttr,PN];refine hk x B ?_;rw[(Ms.mb B).2 ht,YY]
  | false=>
    have E:=Ms.qg B ht;simp only[PP,simprocAttr,oK _ _ _ (show(2:Int)≠0 by decide),Z0 hp];refine kV (fun(k ver:Nat) (y:Ms)=>k<=p / 2/\y.top=Jp/\y.c=Ah k 0++x.c.drop k)
      (fun k ver y=>(.cp (jS U V Y Z f3 o3 f4 o4 ow pr su) 0::p64 p::zj 3++ .ptr 0 0 0:: .ptr 1 0 0::zj 6++p64 ((p / 2:Nat):Int)::p64 k::zj 41))
      (fun k ver y=>[.cells 0 ver (msC y),.cells 0 0 (msC mz)]) (fun k _ _=>p / 2-k) 0 0 x ⟨by omega,ht,by simp⟩ (by simp only[PW]) rfl ?_
    intro k ver y ⟨a6,J,G⟩ ih;refine aH (by kernel_rfl) ?_;simp only[PP,simprocAttr];refine QIf.intro (fun c=>?_) fun c=>?_
    · have u:k<8:=by omega
      have O:(0:Int)<=k:=by omega
      have Q:(k:Int)<8:=by omega
      have R:1+k+1<=9:=by omega
      have I:=aC (k:=k) (by show _<1000000000000;omega);simp only[PP,simprocAttr,PN,c,O,Q,R,pM,I];refine aR (ih (k+1) (ver+1) (y.put k 0) ⟨by omega,J,?_⟩ (by omega)) (by simp only[PW]) rfl;show y.c.set k 0=_;rw[G];exact xB (by rw[x.h];exact u)
    · have a0:k=p / 2:=by omega
      subst a0;simp only[PP,simprocAttr,c,ZZ (show(2:Int)≠0 by decide),aF2];obtain⟨z1,z2⟩:=IC B ht h8 (show p / 2<=8 by omega) J G;refine QIf.intro (fun d=>?_) fun d=>?_
      · have e0:p % 2=0:=by omega
        simp only[PP,simprocAttr,PN,d];exact hk y z1 (by rw[z2,C9 E,e0,Dw])
      · have e1:p % 2=1:=by omega
        simp only[PP,simprocAttr,d,oK _ _ _ (show(2:Int)≠0 by decide),Z0 hp];refine kV (fun(k ver:Nat) (y:Ms)=>p / 2<=k/\k<=8/\y.top=Jp/\y.c=Ah k 0++x.c.drop k/\CI (aP pr) x (p / 2) k)
          (fun k ver y=>(.cp (jS U V Y Z f3 o3 f4 o4 ow pr su) 0::zj 4++ .ptr 0 0 0:: .ptr 1 0 0:: .aa::p64 k::zj 47))
          (fun k ver y=>[.cells 0 ver (msC y),.cells 0 0 (msC mz)]) (fun k _ _=>8-k) (p / 2) ver y ⟨Ac _,by omega,J,G,fun i c n a b=>by omega⟩ (by simp only[PW]) rfl ?_
        clear ih c;intro k ver y ⟨S,a5,J,G,hf⟩ ih;refine aH (by kernel_rfl) ?_;simp only[PP,simprocAttr];refine QIf.intro (fun c=>?_) fun c=>?_
        · have u:k<8:=by omega
          have O:(0:Int)<=k:=by omega
          have Q:(k:Int)<8:=by omega
          have R:1+k+1<=9:=by omega
          have a3:¬(k:Int)=8:=by omega
          have I:=aC (k:=k) (by show _<1000000000000;omega);obtain⟨a,ga⟩:=Ms.get (x:=x) u;have gy:y.c[k]? =Jm a:=by rw[G,YQ,ga]
          have L:=nI pr u;generalize pr.count ((2*k+1:Nat):Int)=n at L;have hn:=hlt n (Af L);have g1:=uJ gy;have g2:(jS U V Y Z f3 o3 f4 o4 ow pr su)[3+k]? =Jm (p64 n):=SL L;have a7:0<=a/\a<=n:=by have:=oS k B.1;rw[fX L,fX ga]at this;exact⟨this.1,this.2.1⟩
          have a4:IntKind.i64.wrap (a+1)=a+1:=wrap64 (by omega) (by omega);simp only[PP,simprocAttr,c,O,g1,g2];refine QIf.intro (fun e=>?_) fun e=>?_
          · simp only[PP,simprocAttr,PN,e,c,O,R,g1,a4,pM,a3];obtain⟨w1,w2⟩:=SC (y:=y.put k (a+1)) B ht h8 S u hf ga L e J (by show y.c.set k (a+1)=_;rw[G];exact M6 _ (by rw[x.h];exact u));exact hk _ w1 (by rw[w2,C9 E,e1])
          · simp only[PP,simprocAttr,PN,e,O,Q,R,pM,I];refine aR (ih (k+1) (ver+1) (y.put k 0) ⟨by omega,by omega,J,?_,fun i c m a1 a2 g5 g6=>?_⟩ (by omega)) (by simp only[PW]) rfl
            · show y.c.set k 0=_;rw[G];exact xB (by rw[x.h];exact u)
            · by_cases ei:i=k
              · subst ei;rw[ga]at g5;rw[L]at g6;cases g5;cases g6;omega
              · exact hf i c m a1 (by omega) g5 g6
        · have u:k=8:=by omega
          subst u;simp only[PP,simprocAttr,PN];refine hk qz (GT h8) ?_;rw[KK,C9 E,e1];exact ID B ht h8 (by omega) hf
set_option maxHeartbeats 1000000 in
def aGA{f1 o1 f2 o2 f3 o3 f4 o4:Bool}{ow pr:List Int}{su:List (List Int)}{p:Nat}{x:Ms}(P:aFE pr)(hp:p<=16)(B:x.Ok (aP pr))
    (V:∀y:Ms,y.Ok (aP pr)->y.num (aP pr)=vN (aP pr) p (x.num (aP pr))->K (.agg (msC y)) M):
    aj tab 163 [gmP f1 o1 f2 o2 f3 o3 f4 o4 ow pr su,p64 p,.agg (msC x)] M K:=by
  have Y:=iF pr;have hlt:=xP P.1;refine aF T.h163 (by simp only[PP,simprocAttr,PN,PV.under]) ?_;simp only[af163,PP,simprocAttr,PN]
  cases ht:x.top with
  | true=>simp only[PP,simprocAttr,PN];refine V x B ?_;rw[(Ms.mb B).2 ht,YY]
  | false=>
    have E:=Ms.qg B ht;simp only[PP,simprocAttr];refine aAW T P ?_;simp only[PP,simprocAttr,PN];refine kV (fun(k ver:Nat) (y:Ms)=>k<=p / 2/\y.top=Jp/\y.c=Ah k 0++x.c.drop k)
      (fun k ver y=>(.aa::p64 p::zj 3++ .ptr 1 0 0:: .ptr 2 0 0:: .ptr 3 0 0::p64 k::zj 50))
      (fun k ver y=>[.cells 0 0 [slI f1 o1 .u8 ow,slI f2 o2 .i64 pr,slR f3 o3 f4 o4 .i64 su],.cells 0 ver (msC y),.cells 0 0 (msC mz),.cells 0 1 (gW (aP pr))]) (fun k _ _=>p / 2-k) 0 0 x ⟨by omega,ht,by simp⟩ (by simp only[PW]) rfl ?_
    intro k ver y ⟨a5,J,G⟩ Z;have O:IntKind.i64.wrap (IntKind.i64.wrap (2*(k:Int))+1)=2*(k:Int)+1:=by rw[wrap64 (x:=2*(k:Int)) (by omega) (by omega),wrap64 (x:=2*(k:Int)+1) (by omega) (by omega)]
    refine aH (by kernel_rfl) ?_;simp only[PP,simprocAttr,O];refine QIf.intro (fun c=>?_) fun c=>?_
    · have u:k<8:=by omega
      have Q:(0:Int)<=k:=by omega
      have R:(k:Int)<8:=by omega
      have S:1+k+1<=9:=by omega
      have I:=aC (k:=k) (by show _<1000000000000;omega);simp only[PP,simprocAttr,PN,c,Q,R,S,pM,I];refine aR (Z (k+1) (ver+1) (y.put k 0) ⟨by omega,J,?_⟩ (by omega)) (by simp only[PW]) rfl;show y.c.set k 0=_;rw[G];exact xB (by rw[x.h];exact u)
    · have a0:k=p / 2:=by omega
      subst a0;simp only[PP,simprocAttr,c,ZZ (show(2:Int)≠0 by decide),aF2];obtain⟨z1,z2⟩:=IC B ht Y (show p / 2<=8 by omega) J G;refine QIf.intro (fun d=>?_) fun d=>?_
      · have e0:p % 2=0:=by omega
        simp only[PP,simprocAttr,PN,d];exact V y z1 (by rw[z2,C9 E,e0,Dw])
      · have e1:p % 2=1:=by omega
        simp only[PP,simprocAttr,d,oK _ _ _ (show(2:Int)≠0 by decide),Z0 hp];refine kV (fun(k ver:Nat) (y:Ms)=>p / 2<=k/\k<=8/\y.top=Jp/\y.c=Ah k 0++x.c.drop k/\CI (aP pr) x (p / 2) k)
          (fun k ver y=>(zj 5++ .ptr 1 0 0:: .ptr 2 0 0:: .ptr 3 0 0:: .aa::p64 k::zj 49))
          (fun k ver y=>[.cells 0 0 [slI f1 o1 .u8 ow,slI f2 o2 .i64 pr,slR f3 o3 f4 o4 .i64 su],.cells 0 ver (msC y),.cells 0 0 (msC mz),.cells 0 1 (gW (aP pr))]) (fun k _ _=>8-k) (p / 2) ver y ⟨Ac _,by omega,J,G,fun i c n a b=>by omega⟩ (by simp only[PW]) rfl ?_
        clear Z c O;intro k ver y ⟨U,a4,J,G,hf⟩ Z;refine aH (by kernel_rfl) ?_;simp only[PP,simprocAttr];refine QIf.intro (fun c=>?_) fun c=>?_
        · have u:k<8:=by omega
          have Q:(0:Int)<=k:=by omega
          have R:(k:Int)<8:=by omega
          have S:1+k+1<=9:=by omega
          have I:=aC (k:=k) (by show _<1000000000000;omega);obtain⟨a,ga⟩:=Ms.get (x:=x) u;have gy:y.c[k]? =Jm a:=by rw[G,YQ,ga]
          have L:=nI pr u;generalize pr.count ((2*k+1:Nat):Int)=n at L;have hn:=hlt n (Af L);have g1:=uJ gy;have g2:=xQ L;have a6:0<=a/\a<=n:=by have:=oS k B.1;rw[fX L,fX ga]at this;exact⟨this.1,this.2.1⟩
          have a3:IntKind.i64.wrap (a+1)=a+1:=wrap64 (by omega) (by omega);simp only[PP,simprocAttr,c,Q,g1,g2];refine QIf.intro (fun e=>?_) fun e=>?_
          · simp only[PP,simprocAttr,PN,e,c,Q,S,g1,a3,pM];obtain⟨w1,w2⟩:=SC (y:=y.put k (a+1)) B ht Y U u hf ga L e J (by show y.c.set k (a+1)=_;rw[G];exact M6 _ (by rw[x.h];exact u));exact V _ w1 (by rw[w2,C9 E,e1])
          · simp only[PP,simprocAttr,PN,e,Q,R,S,pM,I];refine aR (Z (k+1) (ver+1) (y.put k 0) ⟨by omega,by omega,J,?_,fun i c m a1 a2 g5 g6=>?_⟩ (by omega)) (by simp only[PW]) rfl
            · show y.c.set k 0=_;rw[G];exact xB (by rw[x.h];exact u)
            · by_cases ei:i=k
              · subst ei;rw[ga]at g5;rw[L]at g6;cases g5;cases g6;omega
              · exact hf i c m a1 (by omega) g5 g6
        · have u:k=8:=by omega
          subst u;simp only[PP,simprocAttr,PN];refine V qz (GT Y) ?_;rw[KK,C9 E,e1];exact ID B ht Y (by omega) hf
end
end Go.Am.Ar

