/- Contracts of the small functions that games are checked with, and what goes with it. -/
import Derived.Test.YtapbgleednkimaaGreatDoorBudgetMatchesCode
set_option linter.all false
set_option maxRecDepth 10000
set_option maxHeartbeats 40000000
open List renaming drop_eq_getElem_cons->Ee,getElem?_eq_getElem->Ad,take_add_one->Bx,getD->Bc,drop_eq_nil_of_le->Ca,getElem_mem->Df,mem_cons->Cr,mem_filter->Ek,length_cons->Ak,mem_map->Ew,flatMap_cons->Cc,length_append->Al,all_append->Cl,take_append_drop->Cu,append_assoc->Ac,drop_left->Gj,getElem?_append_left->Bm,getElem?_take->Bp,getElem?_append_right->Bv,getElem?_drop->Br,length_take->Ay,length_nil->An,replicate->Ae,cons_append->Ai,nil_append->Aj,append_nil->Ao,map_cons->Ah,map_nil->Av,length_map->Ag,getElem?_map->Ap,getElem?_cons_zero->Cg,getElem?_cons_succ->Bl,set_append_right->Dn,mem_of_getElem?->Af,getElem?_eq_none->Bu,range->Ba,range_succ->Fq,getElem?_range->Eb,foldl_cons->Fx,any_eq_true->Gc,map->Gk,set_cons_succ->Dv,take_of_length_le->Bo,filter_append->Gl,idxOf_append->Ff,map_congr_left->Cq,nodup_append->Hd,map_append->Bh,mem_append->Cf,mem_singleton->Ch,length_filter_le->Fu,range_zero->He,filter_nil->Ja,take_zero->Ds,take_left'->Bj,drop_length->Gv,take_length->Ct,set_cons_zero->Dc
open Int renaming cast_ofNat_Int->Ez,toNat_natCast->Bq,le_refl->Dw,toNat->Db
open Nat renaming lt_irrefl->Ik,add_assoc->Cn,add_comm->Dh,lt_of_le_of_lt->Gz,not_le->Iv,le_trans->As,lt_of_lt_of_le->Bk,le_refl->Ab,reduceAdd->Ax,reduceSub->Bf,mul_one->Ce,sub_self->Dr,lt_or_ge->Bi,mod_lt->Ea,mod_eq_of_lt->Fy,pow_lt_pow_right->Iw,zero_le->Au,zero_add->Bg,min_eq_left->Dk
open BitVec renaming ofInt->Bs,eq_of_getLsbD_eq->Fc,twoPow->Da,getLsbD_twoPow->Hb,eq_of_toNat_eq->Fs,getLsbD_of_ge->Fe,getLsbD_and->Iy,ofNat->Iz
open Classical renaming byContradiction->Cd
open Bool renaming and_eq_true->Aw,false_eq_true->Aq,not_true->Be,not_false->Az,or_eq_true->El,eq_iff_iff->Fg,true->Jr,false->Js
open Option renaming map_some->Dd,getD->Hc,toList_some->Dq,some->Jp,none->Jq
namespace Go.Am.Ar
open Go.Am.PV renaming aa->Zj
open Go.Am renaming jc->P1,lg->P2,kq->P3,ep->P4,bl.under->P5,fy->P6,dr->P7,bf->P8,pev->P9,iw->P10,bd->P11,jl->P12,dw->P13,fY->P14,AO.effect->P15
open List renaming replicate->L1
attribute [simp] mX mY
abbrev big:Nat:=1000000000000
def aA{k:Nat}(h:k<big):IntKind.i64.wrap ((k:Int)+1)=((k+1:Nat):Int):=by have h:k<1000000000000:=h;rw[wrap64 (by omega) (by omega)];omega
def iB{α:Type}{u:List α}{k:Nat}(h:k<u.length):u.drop k=u[k]::u.drop (k+1):=Ee h
def aK{α:Type}{xs:List α}{k:Nat}(h:k<xs.length):∃x,xs[k]? =Jp x:=⟨xs[k],Ad h⟩
def mP{α:Type}{u:List α}{k:Nat}{x:α}(h:u[k]? =Jp x):u.drop k=x::u.drop (k+1):=by have y:=aF h;rw[Ee y];rw[Ad y]at h;cases h;rfl
def fK{α:Type}{u:List α}{k:Nat}{x:α}(h:u[k]? =Jp x):u.take (k+1)=u.take k++[x]:=by simp[Bx,h]
def getD_some{u:List Int}{k:Nat}{x:Int}(h:u[k]? =Jp x):u.getD k 0=x:=by simp[Bc,h]
def iX(n:Int):Int->List Int->Bool
  | _,[]=>Jr
  | u,v::l=>if v<=u then Js else if n<=v then Js else iX n v l
section
variable {tab:FuncId->Option AF} (T:HasA tab){M:Mem}{K:PV->Mem->Prop}
include T
def MC{f o:Bool}{y:List Int}{n:Int}(hm:y.length<big)(G:K (.bool (iX n (-1) y)) M):
    au tab 151 [slI f o .i64 y,p64 n] M K:=by
  refine aB T.h151 (by simp only[PP,simprocAttr]) ?_;simp only[af151,PP,simprocAttr];refine iN (fun(k:Nat) (u:Int)=>k<=y.length/\K (.bool (iX n u (y.drop k))) M) (fun k u=>(.aa::p64 n::zj 3++p64 u:: .aa:: .aa::slI f o .i64 y::p64 y.length::p64 k::zj 13)) (fun _ _=>[]) (fun k _=>y.length-k) 0 (-1) ⟨by omega,G⟩ ?_;intro k u ⟨G,B⟩ I;refine aH (by kernel_rfl) ?_;simp only[PP,simprocAttr];refine QIf.intro (fun c=>?_) fun c=>?_
  · have E:k<y.length:=by omega
    rw[iB E]at B;have hw:=aA (k:=k) (by omega);have hg:y[k]? =Jp y[k]:=Ad E;have h0:(0:Int)<=k:=by omega
    simp only[PP,simprocAttr,iX,c,hg,hw,h0]at B ⊢;refine QIf.intro (fun h1=>?_) fun h1=>?_
    · simp only[PP,simprocAttr,h1]at B ⊢;exact B
    · simp only[PP,simprocAttr,h1]at B ⊢;refine QIf.intro (fun h2=>?_) fun h2=>?_
      · simp only[PP,simprocAttr,h2]at B ⊢;exact B
      · simp only[PP,simprocAttr,h2,hw]at B ⊢;exact aG (I (k+1) _ ⟨by omega,B⟩ (by omega))
  · simp only[PP,simprocAttr,c];rw[Ca (by omega)]at B;exact B
abbrev gmP(u y B E f3 G I J:Bool)(ow pr:List Int)(su:List (List Int)):PV:= .agg [slI u y .u8 ow,slI B E .i64 pr,slR f3 G I J .i64 su]
structure Bnd (ow pr:List Int) (su:List (List Int)):Prop where
  o:ow.length<big
  p:pr.length<big
  s:su.length<big
  r:∀row∈su,row.length<big
def kO(ow pr:List Int):Nat->List (List Int)->Int
  | _,[]=>0
  | k,row::rest=>if 1<ow.getD k 0 then 6 else if pr.getD k 0<0 then 1 else if 16<pr.getD k 0 then 1 else if(row.length:Int)=0 then 13 else if iX ow.length (-1) row=Js then 8 else kO ow pr (k+1) rest
def eF(ow pr:List Int)(su:List (List Int)):Int:=
  if(ow.length:Int)=0 then 3 else if 4096<(ow.length:Int)then 10 else if(pr.length:Int)=ow.length then(if(su.length:Int)=ow.length then kO ow pr 0 su else 2)else 2
omit T in
def SV{ow pr:List Int}{su:List (List Int)}(h:eF ow pr su=0):0<ow.length/\ow.length<=4096/\pr.length=ow.length/\su.length=ow.length/\kO ow pr 0 su=0:=by
  unfold eF at h;split at h
  · simp at h
  · split at h
    · simp at h
    · split at h
      · split at h
        · exact⟨by omega,by omega,by omega,by omega,h⟩
        · simp at h
      · simp at h
def JU{Y Z f2 o2 f3 I J L:Bool}{ow pr:List Int}{su:List (List Int)}(B:Bnd ow pr su)(u:K (p64 (eF ow pr su)) M):
    au tab 88 [gmP Y Z f2 o2 f3 I J L ow pr su] M K:=by
  refine aB T.h88 (by simp only[PP,simprocAttr]) ?_;simp only[af88,PP,simprocAttr,eF]at u ⊢;refine QIf.intro (fun O=>?_) fun O=>?_
  · simp only[PP,simprocAttr,O]at u ⊢;exact u
  simp only[PP,simprocAttr,O]at u ⊢;refine QIf.intro (fun Q=>?_) fun Q=>?_
  · simp only[PP,simprocAttr,Q]at u ⊢;exact u
  simp only[PP,simprocAttr,Q]at u ⊢;refine QIf.intro (fun R=>?_) fun R=>?_;rotate_left
  · simp only[PP,simprocAttr,R]at u ⊢;exact u
  simp only[PP,simprocAttr,R]at u ⊢;refine QIf.intro (fun S=>?_) fun S=>?_;rotate_left
  · simp only[PP,simprocAttr,S]at u ⊢;exact u
  simp only[PP,simprocAttr,S]at u ⊢;have d4:su.length=ow.length:=by omega
  refine fT (fun(k:Nat)=>k<=su.length/\K (p64 (kO ow pr k (su.drop k))) M) (fun k=>(.aa:: .ptr 0 0 0:: .aa::p64 ow.length::zj 25++slR f3 I J L .i64 su::p64 ow.length::p64 k::zj 36)) (fun _=>[.cells 0 0 [slI Y Z .u8 ow,slI f2 o2 .i64 pr,slR f3 I J L .i64 su]]) (fun k=>su.length-k) 0 ⟨by omega,u⟩ ?_ (by simp only[PW,Ez,d4]);intro k ⟨a0,u⟩ ih;refine aH (by kernel_rfl) ?_;simp only[PP,simprocAttr];refine QIf.intro (fun c=>?_) fun c=>?_
  · have y:k<su.length:=by omega
    have g1:su[k]? =Jp su[k]:=Ad y;have g2:ow[k]? =Jp ow[k]:=Ad (by omega);have G:pr[k]? =Jp pr[k]:=Ad (by omega);have h0:(0:Int)<=k:=by omega
    have hw:=aA (k:=k) (by have:=B.s;omega);have e2:ow.getD k 0=ow[k]:=by simp[Bc,g2]
    have e3:pr.getD k 0=pr[k]:=by simp[Bc,G]
    rw[iB y]at u;have U:(k:Int)<su.length:=by omega
    have E:(k:Int)<pr.length:=by omega
    simp only[PP,simprocAttr,kO,c,g1,g2,G,h0,e2,e3,U,E]at u ⊢;refine QIf.intro (fun h1=>?_) fun h1=>?_
    · simp only[PP,simprocAttr,h1]at u ⊢;exact u
    simp only[PP,simprocAttr,h1,G,E,h0]at u ⊢;refine QIf.intro (fun h2=>?_) fun h2=>?_
    · simp only[PP,simprocAttr,h2]at u ⊢;exact u
    simp only[PP,simprocAttr,h2,G,E,h0]at u ⊢;refine QIf.intro (fun h3=>?_) fun h3=>?_
    · simp only[PP,simprocAttr,h3]at u ⊢;exact u
    simp only[PP,simprocAttr,h3]at u ⊢;refine QIf.intro (fun V=>?_) fun V=>?_
    · simp only[PP,simprocAttr,V]at u ⊢;exact u
    simp only[PP,simprocAttr,V]at u ⊢;refine MC T (B.r _ (Df y)) ?_;simp only[PP,simprocAttr];by_cases h5:iX ow.length (-1) su[k]=Jr
    · simp only[PP,simprocAttr,h5,hw]at u ⊢;exact aG (ih (k+1) ⟨by omega,u⟩ (by omega))
    · simp only[PP,simprocAttr,h5]at u ⊢;exact u
  · simp only[PP,simprocAttr,c];rw[Ca (by omega)]at u;exact u
def nD{f o J L:Bool}{xs ys:List Int}(hm:xs.length<big)(G:K (.bool (decide (xs=ys))) M):
    au tab 29 [slI f o .i64 xs,slI J L .i64 ys] M K:=by
  refine aB T.h29 (by simp only[PP,simprocAttr]) ?_;simp only[af29,PP,simprocAttr];refine QIf.intro (fun E=>?_) fun E=>?_
  · simp only[PP,simprocAttr,E];have hl:xs.length=ys.length:=by omega
    refine fT (fun(k:Nat)=>k<=xs.length/\K (.bool (decide (xs.drop k=ys.drop k))) M) (fun k=>(slI f o .i64 xs::slI J L .i64 ys::zj 3++p64 k::zj 20)) (fun _=>[]) (fun k=>xs.length-k) 0 ⟨by omega,G⟩ ?_;intro k ⟨O,u⟩ Q;refine aH (by kernel_rfl) ?_;simp only[PP,simprocAttr];refine QIf.intro (fun c=>?_) fun c=>?_
    · have y:k<xs.length:=by omega
      have B:k<ys.length:=by omega
      rw[iB y,iB B]at u;have hw:=aA (k:=k) (by omega);have R:xs[k]? =Jp xs[k]:=Ad y;have S:ys[k]? =Jp ys[k]:=Ad B;have h0:(0:Int)<=k:=by omega
      have U:(k:Int)<ys.length:=by omega
      simp only[PP,simprocAttr,c,R,S,hw,h0,U]at u ⊢;refine QIf.intro (fun h1=>?_) fun h1=>?_
      · simp only[PP,simprocAttr,h1,hw,List.cons.injEq]at u ⊢;exact aG (Q (k+1) ⟨by omega,u⟩ (by omega))
      · simp only[PP,simprocAttr,h1,List.cons.injEq]at u ⊢;exact u
    · simp only[PP,simprocAttr,c];rw[Ca (by omega),Ca (by omega)]at u;simp only[PP,simprocAttr]at u;exact u
  · simp only[PP,simprocAttr,E];have I:¬xs=ys:=by rintro rfl;exact E rfl
    simp only[PP,simprocAttr,I]at G;exact G
def DH{f o:Bool}{u:List Int}{v:Int}(hm:u.length<big)(G:K (.bool (decide (v∈u))) M):
    au tab 102 [slI f o .i64 u,p64 v] M K:=by
  refine aB T.h102 (by simp only[PP,simprocAttr]) ?_;simp only[af102,PP,simprocAttr];refine fT (fun(k:Nat)=>k<=u.length/\K (.bool (decide (v∈u.drop k))) M) (fun k=>(slI f o .i64 u::p64 v::zj 3++p64 k::zj 12)) (fun _=>[]) (fun k=>u.length-k) 0 ⟨by omega,G⟩ ?_;intro k ⟨I,y⟩ J;refine aH (by kernel_rfl) ?_;simp only[PP,simprocAttr];refine QIf.intro (fun c=>?_) fun c=>?_
  · have B:k<u.length:=by omega
    rw[iB B]at y;have hw:=aA (k:=k) (by omega);have L:u[k]? =Jp u[k]:=Ad B;have h0:(0:Int)<=k:=by omega
    simp only[PP,simprocAttr,c,L,hw,h0,Cr]at y ⊢;refine QIf.intro (fun h1=>?_) fun h1=>?_
    · simp only[PP,simprocAttr,h1]at y ⊢;exact y
    · have E:¬v=u[k]:=fun e=>h1 e.symm;simp only[PP,simprocAttr,h1,E,hw]at y ⊢;exact aG (J (k+1) ⟨by omega,y⟩ (by omega))
  · simp only[PP,simprocAttr,c];rw[Ca (by omega)]at y;simp only[PP,simprocAttr,List.not_mem_nil]at y;exact y
def lK{f o:Bool}{u:List Int}(hm:u.length<big)(y:K (slI Js Jr .i64 u) M):
    au tab 36 [slI f o .i64 u] M K:=by
  refine aB T.h36 (by simp only[PP,simprocAttr]) ?_;have hb:u.length<1000000000000:=hm;have B:u.length*8<=140737488355328:=by omega
  have E:u.length<=9223372036854775807:=by omega
  simp only[af36,PP,simprocAttr,B,E];exact y
def zZ{f o:Bool}{u:List Int}(hm:u.length<big)(y:K (slI Js Jr .u8 u) M):
    au tab 39 [slI f o .u8 u] M K:=by
  refine aB T.h39 (by simp only[PP,simprocAttr]) ?_;have hb:u.length<1000000000000:=hm;have B:u.length<=140737488355328:=by omega
  have E:u.length<=9223372036854775807:=by omega
  simp only[af39,PP,simprocAttr,B,E];exact y
def oU{f o J L O Q R S:Bool}{xs ys:List (List Int)}(hm:xs.length<big)(hr:∀r∈xs,r.length<big)(G:K (.bool (decide (xs=ys))) M):
    au tab 33 [slR f o O Q .i64 xs,slR J L R S .i64 ys] M K:=by
  refine aB T.h33 (by simp only[PP,simprocAttr]) ?_;simp only[af33,PP,simprocAttr];refine QIf.intro (fun E=>?_) fun E=>?_
  · simp only[PP,simprocAttr,E];have hl:xs.length=ys.length:=by omega
    refine fT (fun(k:Nat)=>k<=xs.length/\K (.bool (decide (xs.drop k=ys.drop k))) M) (fun k=>(slR f o O Q .i64 xs::slR J L R S .i64 ys::zj 3++p64 k::zj 21)) (fun _=>[]) (fun k=>xs.length-k) 0 ⟨by omega,G⟩ ?_;intro k ⟨U,u⟩ V;refine aH (by kernel_rfl) ?_;simp only[PP,simprocAttr];refine QIf.intro (fun c=>?_) fun c=>?_
    · have y:k<xs.length:=by omega
      have B:k<ys.length:=by omega
      rw[iB y,iB B]at u;have hw:=aA (k:=k) (by omega);have Y:xs[k]? =Jp xs[k]:=Ad y;have Z:ys[k]? =Jp ys[k]:=Ad B;have h0:(0:Int)<=k:=by omega
      have cy:(k:Int)<ys.length:=by omega
      simp only[PP,simprocAttr,c,Y,Z,hw,h0,cy]at u ⊢;refine nD T (hr _ (Df y)) ?_;by_cases h1:xs[k]=ys[k]
      · simp only[PP,simprocAttr,h1,hw,List.cons.injEq]at u ⊢;exact aG (V (k+1) ⟨by omega,u⟩ (by omega))
      · simp only[PP,simprocAttr,h1,List.cons.injEq]at u ⊢;exact u
    · simp only[PP,simprocAttr,c];rw[Ca (by omega),Ca (by omega)]at u;simp only[PP,simprocAttr]at u;exact u
  · simp only[PP,simprocAttr,E];have I:¬xs=ys:=by rintro rfl;exact E rfl
    simp only[PP,simprocAttr,I]at G;exact G
end
def nR:Int->List Int->Int
  | m,[]=>m
  | m,x::l=>nR (max m x) l
section
variable {tab:FuncId->Option AF} (T:HasA tab){M:Mem}{K:PV->Mem->Prop}
include T
def aEw{f o:Bool}{y:List Int}{n:Int}(hm:y.length<big)(Q:K (.bool (iX n (-1) y)) M):
    au tab 99 [slI f o .i64 y,p64 n] M K:=by
  refine aB T.h99 (by simp only[PP,simprocAttr]) ?_;simp only[af99,PP,simprocAttr];refine iN (fun(k:Nat) (u:Int)=>k<=y.length/\-1<=u/\((k=0/\u= -1)\/(0<k/\y[k-1]? =Jp u))/\K (.bool (iX n u (y.drop k))) M) (fun k u=>(slI f o .i64 y::p64 n::zj 3++p64 k::zj 35)) (fun _ _=>[]) (fun k _=>y.length-k) 0 (-1) ⟨by omega,by omega,.inl ⟨rfl,rfl⟩,Q⟩ ?_;intro k u ⟨R,S,U,B⟩ O;refine aH (by kernel_rfl) ?_;simp only[PP,simprocAttr];refine QIf.intro (fun c=>?_) fun c=>?_
  · have E:k<y.length:=by omega
    rw[iB E]at B;have hw:=aA (k:=k) (by omega);have I:y[k]? =Jp y[k]:=Ad E;have h0:(0:Int)<=k:=by omega
    simp only[PP,simprocAttr,c,I,hw,h0,iX]at B ⊢;refine QIf.intro (fun h1=>?_) fun h1=>?_
    · have:y[k]<=u:=by omega
      simp only[PP,simprocAttr,h1,this]at B ⊢;exact B
    simp only[PP,simprocAttr,h1,I,c,h0]at B ⊢;refine QIf.intro (fun h2=>?_) fun h2=>?_
    · by_cases h3:y[k]<=u
      · simp only[PP,simprocAttr,h2,h3]at B ⊢;exact B
      · simp only[PP,simprocAttr,h2,h3]at B ⊢;exact B
    simp only[PP,simprocAttr,h2,I,c,h0]at B ⊢;rcases U with⟨rfl,rfl⟩ | ⟨V,G⟩
    · have h3:¬y[0]<=-1:=by omega
      have J:IntKind.i64.wrap 1=1:=by decide
      simp only[PP,simprocAttr,h3,J,Int.lt_irrefl,Ik]at B ⊢;exact aG (O 1 y[0] ⟨by omega,by omega,.inr ⟨by omega,by simp⟩,B⟩ (by omega))
    · have Y:(0:Int)<k:=by omega
      have L:IntKind.i64.wrap ((k:Int)-1)=((k-1:Nat):Int):=by
        have:k<1000000000000:=by have:y.length<1000000000000:=hm;omega
        rw[wrap64 (by omega) (by omega)];omega
      have Z:((k-1:Nat):Int)<y.length:=by omega
      have c3:(0:Int)<=((k-1:Nat):Int):=by omega
      simp only[PP,simprocAttr,Y,I,c,h0,L,Z,c3,G]at B ⊢;by_cases h3:y[k]<=u
      · simp only[PP,simprocAttr,h3]at B ⊢;exact B
      · simp only[PP,simprocAttr,h3,hw]at B ⊢;exact aG (O (k+1) y[k] ⟨by omega,by omega,.inr ⟨by omega,by simp[E]⟩,B⟩ (by omega))
  · simp only[PP,simprocAttr,c];rw[Ca (by omega)]at B;exact B
def Q8{U V Y Z f3 o3 f4 o4:Bool}{ow pr:List Int}{su:List (List Int)}(B:Bnd ow pr su)(u:K (p64 (eF ow pr su)) M):
    au tab 45 [gmP U V Y Z f3 o3 f4 o4 ow pr su] M K:=by
  refine aB T.h45 (by simp only[PP,simprocAttr]) ?_;simp only[af45,PP,simprocAttr,eF]at u ⊢;refine QIf.intro (fun J=>?_) fun J=>?_
  · simp only[PP,simprocAttr,J]at u ⊢;exact u
  simp only[PP,simprocAttr,J]at u ⊢;refine QIf.intro (fun L=>?_) fun L=>?_
  · simp only[PP,simprocAttr,L]at u ⊢;exact u
  simp only[PP,simprocAttr,L]at u ⊢;refine QIf.intro (fun O=>?_) fun O=>?_;rotate_left
  · simp only[PP,simprocAttr,O]at u ⊢;exact u
  simp only[PP,simprocAttr,O]at u ⊢;refine QIf.intro (fun Q=>?_) fun Q=>?_;rotate_left
  · simp only[PP,simprocAttr,Q]at u ⊢;exact u
  simp only[PP,simprocAttr,Q]at u ⊢;have d4:su.length=ow.length:=by omega
  refine fT (fun(k:Nat)=>k<=su.length/\K (p64 (kO ow pr k (su.drop k))) M) (fun k=>(.aa:: .ptr 0 0 0:: .aa::p64 ow.length::p64 k::zj 59)) (fun _=>[.cells 0 0 [slI U V .u8 ow,slI Y Z .i64 pr,slR f3 o3 f4 o4 .i64 su]]) (fun k=>su.length-k) 0 ⟨by omega,u⟩ ?_ (by simp only[PW,Ez,d4]);intro k ⟨a0,u⟩ ih;refine aH (by kernel_rfl) ?_;simp only[PP,simprocAttr];refine QIf.intro (fun c=>?_) fun c=>?_
  · have y:k<su.length:=by omega
    have R:su[k]? =Jp su[k]:=Ad y;have g2:ow[k]? =Jp ow[k]:=Ad (by omega);have I:pr[k]? =Jp pr[k]:=Ad (by omega);have h0:(0:Int)<=k:=by omega
    have hw:=aA (k:=k) (by have:=B.s;omega);have e2:ow.getD k 0=ow[k]:=by simp[Bc,g2]
    have e3:pr.getD k 0=pr[k]:=by simp[Bc,I]
    rw[iB y]at u;have E:(k:Int)<su.length:=by omega
    have G:(k:Int)<pr.length:=by omega
    simp only[PP,simprocAttr,kO,c,R,g2,I,h0,e2,e3,E,G]at u ⊢;refine QIf.intro (fun h1=>?_) fun h1=>?_
    · simp only[PP,simprocAttr,h1]at u ⊢;exact u
    simp only[PP,simprocAttr,h1,I,G,h0]at u ⊢;refine QIf.intro (fun h2=>?_) fun h2=>?_
    · simp only[PP,simprocAttr,h2]at u ⊢;exact u
    simp only[PP,simprocAttr,h2,I,G,h0]at u ⊢;refine QIf.intro (fun h3=>?_) fun h3=>?_
    · simp only[PP,simprocAttr,h3]at u ⊢;exact u
    simp only[PP,simprocAttr,h3,R,E,h0]at u ⊢;refine QIf.intro (fun S=>?_) fun S=>?_
    · simp only[PP,simprocAttr,S]at u ⊢;exact u
    simp only[PP,simprocAttr,S,R,E,h0]at u ⊢;refine aEw T (B.r _ (Df y)) ?_;simp only[PP,simprocAttr];by_cases h5:iX ow.length (-1) su[k]=Jr
    · simp only[PP,simprocAttr,h5,hw]at u ⊢;exact aG (ih (k+1) ⟨by omega,u⟩ (by omega))
    · simp only[PP,simprocAttr,h5]at u ⊢;exact u
  · simp only[PP,simprocAttr,c];rw[Ca (by omega)]at u;exact u
def aIQ{f o:Bool}{x:Int}{u:List Int}(hm:(x::u).length<big)(y:K (p64 (nR x u)) M):
    au tab 157 [slI f o .i64 (x::u)] M K:=by
  refine aB T.h157 (by simp only[PP,simprocAttr]) ?_;have E:¬((u.length+1:Nat):Int)<1:=by omega
  have G:(0:Int)<((u.length+1:Nat):Int):=by omega
  simp only[af157,PP,simprocAttr,E,G];have I:u.length+1<1000000000000:=hm;refine iN (fun(k:Nat) (m:Int)=>k<=u.length/\K (p64 (nR m (u.drop k))) M) (fun k m=>(slI f o .i64 (x::u):: .aa:: .aa::p64 m::p64 ((k+1:Nat):Int)::zj 20)) (fun _ _=>[]) (fun k _=>u.length-k) 0 x ⟨by omega,y⟩ ?_;intro k m ⟨J,y⟩ L;refine aH (by kernel_rfl) ?_;simp only[PP,simprocAttr];refine QIf.intro (fun c=>?_) fun c=>?_
  · have B:k<u.length:=by omega
    have O:u[k]? =Jp u[k]:=Ad B;have h0:(0:Int)<=((k+1:Nat):Int):=by omega
    have hw:=aA (k:=k+1) (by show _<1000000000000;omega);rw[iB B]at y;simp only[PP,simprocAttr,c,O,h0,hw,nR]at y ⊢;exact aG (L (k+1) _ ⟨by omega,y⟩ (by omega))
  · rw[Ca (by omega)]at y;simp only[PP,simprocAttr,c,nR]at y ⊢;exact y
end
abbrev gz:PV:= .agg [.ai,.ai,.ai]
def uB{ow pr:List Int} :∀{su:List (List Int)} {k:Nat},kO ow pr k su=0->∀(i:Nat) (u:i<su.length),0<=pr.getD (k+i) 0/\pr.getD (k+i) 0<=16/\ow.getD (k+i) 0<=1/\0<su[i].length/\iX ow.length (-1) su[i]=Jr
  | [],k,h,i,u=>by simp at u
  | row::su,k,h,i,u=>by
    unfold kO at h;split at h
    · simp at h
    · split at h
      · simp at h
      · split at h
        · simp at h
        · split at h
          · simp at h
          · split at h
            · simp at h
            · rename_i h1 h2 h3 B y
              cases i with
              | zero=>exact⟨by simpa using h2,by simpa using h3,by simpa using h1,by simp only[List.getElem_cons_zero];omega,by simpa using y⟩
              | succ i=>have:=uB h i (by simpa using u);simpa [Cn,Dh 1 i]using this
structure Valid (ow pr:List Int) (su:List (List Int)):Prop where
  n0:0<ow.length
  n1:ow.length<=4096
  p:pr.length=ow.length
  s:su.length=ow.length
  row:∀(i:Nat) (hi:i<su.length),0<=pr.getD i 0/\pr.getD i 0<=16/\ow.getD i 0<=1/\0<su[i].length/\iX ow.length (-1) su[i]=Jr
def jB{ow pr:List Int}{su:List (List Int)}(h:eF ow pr su=0):Valid ow pr su:=by obtain⟨h1,h2,h3,u,y⟩:=SV h;exact⟨h1,h2,h3,u,fun i B=>by simpa using uB y i B⟩
def uK:∀(n:Nat) (l:List Nat),l.Nodup->(∀x∈l,x<n)->l.length<=n
  | 0,l,_,h=>by
    cases l with
    | nil=>simp
    | cons x l=>have:=h x (by simp);omega
  | n+1,l,hd,h=>by
    have:=uK n (l.filter fun x=>x !=n) (hd.filter _) (fun x u=>by
      rw[Ek]at u;have:=h x u.1;have:x≠n:=by simpa using u.2
      omega)
    have h2:l.length<=(l.filter fun x=>x !=n).length+1:=by
      clear this h
      induction l with
      | nil=>simp
      | cons x l B=>
        rw[List.nodup_cons]at hd;by_cases e:x=n
        · subst e;have:l.filter (fun y=>y !=x)=l:=by rw[List.filter_eq_self];intro y E;have:y≠x:=fun q=>hd.1 (q▸E);simpa using this
          simp[this]
        · have:=B hd.2;have u:(x !=n)=Jr:=by simpa using e
          simp only[List.filter_cons,u,if_true,Ak];omega
    omega
def aA6{k:IntKind}{x y:Int}(h:y≠0):eE .rem (.int k x) (.int k y)=Jp (.int k (x.tmod y)):=by simp[eE,eZ,i7,bd,h,eY,gG]
abbrev jA(l:List Nat):List Int:=l.map fun(v:Nat)=>(v:Int)
def M7{l:List Nat}{v:Nat} :(v:Int)∈jA l↔v∈l:=by rw[Ew];exact⟨fun⟨a,h1,h2⟩=>by rw[show v=a by omega];exact h1,fun h=>⟨v,h,rfl⟩⟩
def mM{n:Int} :∀{l:List Int} {u:Int},iX n u l=Jr->l.Pairwise (· < ·)/\∀x∈l,u<x/\x<n
  | [],_,_=>⟨.nil,fun x y=>by cases y⟩
  | v::l,u,h=>by
    unfold iX at h;split at h
    · simp at h
    · split at h
      · simp at h
      · obtain⟨h1,h2⟩:=mM h;refine⟨.cons (fun x y=>(h2 x y).1) h1,fun x y=>?_⟩;rcases List.mem_cons.1 y with rfl | y
        · omega
        · have:=h2 x y;omega
def K4{ow pr:List Int}{su:List (List Int)}(V:Valid ow pr su){v:Nat}{u:Int}(hv:v<ow.length)(h:u∈su.getD v []):0<=u/\u<ow.length:=by
  have y:v<su.length:=by have:=V.s;omega
  obtain⟨_,_,_,_,B⟩:=V.row v y;rw[Bc,Ad y]at h;have:=(mM B).2 u h;omega
section
variable {tab:FuncId->Option AF} (T:HasA tab){M:Mem}{K:PV->Mem->Prop}
include T
end
structure Eg where
  fr:Int
  to:Int
  ps:Int
  ng:Int
  deriving DecidableEq,Inhabited
abbrev egC(e:Eg):List PV:=[.int .i64 e.fr,.int .i64 e.to,.int .u8 e.ps,.int .u8 e.ng]
def egL(l:List Eg):List PV:=l.flatMap egC
abbrev slE(f o:Bool)(l:List Eg):PV:= .sl f o 4 l.length (egL l)
def kN(l:List Eg):(egL l).length=l.length*4:=by
  unfold egL
  induction l with
  | nil=>rfl
  | cons x l u=>rw[Cc,Al,u];simp;omega
def VP(l:List Eg):(egL l).all PV.one=Jr:=by
  unfold egL
  induction l with
  | nil=>rfl
  | cons x l u=>rw[Cc,Cl,u];rfl
def fN(m:Nat)(l:List Eg):aD m (egL l)=Jr:=by
  unfold egL
  induction l with
  | nil=>exact lG _
  | cons x l u=>rw[Cc,oZ,u];simp[jG,lG,FH]
def aZ(m:Nat)(f o:Bool)(sz n:Nat)(l:List Eg):PV.under m (.sl f o sz n (egL l))=Jr:=by simp only[PV.under];exact fN m l
def Y3{l:List Eg}{k:Nat}{x:Eg}(h:l[k]? =Jp x):∃a b,egL l=a++egC x++b/\a.length=k*4/\(∀y,egL (l.set k y)=a++egC y++b):=by
  obtain⟨u,e⟩:=List.getElem?_eq_some_iff.1 h;refine⟨egL (l.take k),egL (l.drop (k+1)),?_,?_,fun y=>?_⟩
  · conv=>lhs;rw[<-Cu k l,Ee u,e]
    simp[egL]
  · rw[kN];simp;omega
  · rw[List.set_eq_take_append_cons_drop,if_pos u];simp[egL]
def oA{l:List Eg}{k:Nat}{x:Eg}(h:l[k]? =Jp x):dQ (egL l) (k*4) 4=egC x:=by obtain⟨a,b,h1,h2,_⟩:=Y3 h;unfold dQ;rw[h1,<-h2,Ac,Gj];rfl
def OQ{l:List Eg}{k:Nat}{x:Eg}(h:l[k]? =Jp x):k*4+4<=l.length*4:=by have:=aF h;omega
def Eg.fit(e:Eg):Prop:=(-9223372036854775808<=e.fr/\e.fr<=9223372036854775807)/\(-9223372036854775808<=e.to/\e.to<=9223372036854775807)/\(0<=e.ps/\e.ps<=255)/\(0<=e.ng/\e.ng<=255)
structure NF where
  vs:Int
  n:Int
  st:List Int
  fi:List Int
  es:List Eg
abbrev nfC(u y B E f3 G:Bool)(N:NF):List PV:=[p64 N.vs,p64 N.n,slI u y .i64 N.st,slI B E .i64 N.fi,slE f3 G N.es]
structure BnN (N:NF):Prop where
  s:N.st.length<big
  f:N.fi.length<big
  e:N.es.length<big
  b:∀x∈N.es,(0<=x.ps/\x.ps<=255)/\(0<=x.ng/\x.ng<=255)
def aC1(x y:Int):Int:=((x.toNat&&& y.toNat:Nat):Int)
def bOr(x y:Int):Int:=((x.toNat||| y.toNat:Nat):Int)
def nF(v p n:Int):Int:=if v<0 then 7 else if 6<v then 7 else if 2^v.toNat<=p then 7 else if 2^v.toNat<=n then 7 else if aC1 p n=0 then 0 else 2
def oJ(v n:Int):List Eg->Int
  | []=>0
  | e::l=>if e.fr<0\/n<=e.fr\/e.to<0\/n<=e.to then 8 else if nF v e.ps e.ng=0 then oJ v n l else nF v e.ps e.ng
def gF(N:NF):Int:=
  if N.vs<0\/6<N.vs then 7 else if N.n<0 then 1 else if 64<N.n\/512<(N.es.length:Int)then 4 else if iX N.n (-1) N.st=Jr/\iX N.n (-1) N.fi=Jr then oJ N.vs N.n N.es else 8
def IX{x:Int}(h:0<=x/\x<=255):(Bs 8 x).toNat=x.toNat:=by rw[BitVec.toNat_ofInt];omega
def UE{x:Nat}(h:x<256):IntKind.u8.wrap (x:Int)=x:=by simp only[IntKind.wrap,IntKind.signed,IntKind.bits];simp;omega
def mN{x y:Int}(u:0<=x/\x<=255)(B:0<=y/\y<=255):eE .and (.int .u8 x) (.int .u8 y)=Jp (.int .u8 (aC1 x y)):=by
  have h1:=IX u;have h2:=IX B;have h3:x.toNat&&& y.toNat<256:=Gz Nat.and_le_left (by omega);have e:IntKind.u8.wrap ((Bs IntKind.u8.bits x&&& Bs IntKind.u8.bits y).toNat:Int)=aC1 x y:=by
    show IntKind.u8.wrap ((Bs 8 x&&& Bs 8 y).toNat:Int)=_;rw[BitVec.toNat_and,h1,h2,UE h3];rfl
  simp only[eE,eZ,i7,eY,gG,e];rfl
def aBy{a b:Nat}(u:a<256)(hb:b<256):a||| b<256:=Nat.or_lt_two_pow (n:=8) u hb
def aBm{x y:Int}(u:0<=x/\x<=255)(B:0<=y/\y<=255):eE .or (.int .u8 x) (.int .u8 y)=Jp (.int .u8 (bOr x y)):=by
  have h1:=IX u;have h2:=IX B;have h3:x.toNat||| y.toNat<256:=aBy (by omega) (by omega);have e:IntKind.u8.wrap ((Bs IntKind.u8.bits x||| Bs IntKind.u8.bits y).toNat:Int)=bOr x y:=by
    show IntKind.u8.wrap ((Bs 8 x||| Bs 8 y).toNat:Int)=_;rw[BitVec.toNat_or,h1,h2,UE h3];rfl
  simp only[eE,eZ,i7,eY,gG,e];rfl
def aIH{v:Int}(h0:¬v<0)(u:¬6<v):eE .shl (.int .i64 1) (.int .i64 v)=Jp (.int .i64 (2^v.toNat)):=by
  have:v=0\/v=1\/v=2\/v=3\/v=4\/v=5\/v=6:=by omega
  rcases this with rfl | rfl | rfl | rfl | rfl | rfl | rfl<;>rfl
def S3{v:Nat}{p n:Int}(y:0<=p)(B:0<=n):(2:Int)^v<=bOr p n↔(2^v<=p\/2^v<=n):=by
  have u:(2^v<=p.toNat||| n.toNat)↔(2^v<=p.toNat\/2^v<=n.toNat):=by
    constructor
    · intro h;refine Cd fun q=>?_;rw[not_or,Iv,Iv]at q;have:=Nat.or_lt_two_pow q.1 q.2;omega
    · rintro(h | h)
      · exact As h Nat.left_le_or
      · exact As h Nat.right_le_or
  have e:((2^v:Nat):Int)=2^v:=by simp
  unfold bOr;rw[<-e];constructor
  · intro h;rcases u.1 (by omega)with q | q
    · exact .inl (by omega)
    · exact .inr (by omega)
  · intro h;have:=u.2 (by omega);omega
section
variable {tab:FuncId->Option AF} (T:HasA tab){M:Mem}{K:PV->Mem->Prop}
include T
def FU{f o:Bool}{y:List Int}{n:Int}(hm:y.length<big)(Q:K (.bool (iX n (-1) y)) M):
    au tab 96 [slI f o .i64 y,p64 n] M K:=by
  refine aB T.h96 (by simp only[PP,simprocAttr]) ?_;simp only[af96,PP,simprocAttr];refine iN (fun(k:Nat) (u:Int)=>k<=y.length/\-1<=u/\((k=0/\u= -1)\/(0<k/\y[k-1]? =Jp u))/\K (.bool (iX n u (y.drop k))) M) (fun k u=>(slI f o .i64 y::p64 n::zj 3++p64 k::zj 35)) (fun _ _=>[]) (fun k _=>y.length-k) 0 (-1) ⟨by omega,by omega,.inl ⟨rfl,rfl⟩,Q⟩ ?_;intro k u ⟨R,S,U,B⟩ O;refine aH (by kernel_rfl) ?_;simp only[PP,simprocAttr];refine QIf.intro (fun c=>?_) fun c=>?_
  · have E:k<y.length:=by omega
    rw[iB E]at B;have hw:=aA (k:=k) (by omega);have I:y[k]? =Jp y[k]:=Ad E;have h0:(0:Int)<=k:=by omega
    simp only[PP,simprocAttr,c,I,hw,h0,iX]at B ⊢;refine QIf.intro (fun h1=>?_) fun h1=>?_
    · have:y[k]<=u:=by omega
      simp only[PP,simprocAttr,h1,this]at B ⊢;exact B
    simp only[PP,simprocAttr,h1,I,c,h0]at B ⊢;refine QIf.intro (fun h2=>?_) fun h2=>?_
    · by_cases h3:y[k]<=u
      · simp only[PP,simprocAttr,h2,h3]at B ⊢;exact B
      · simp only[PP,simprocAttr,h2,h3]at B ⊢;exact B
    simp only[PP,simprocAttr,h2,I,c,h0]at B ⊢;rcases U with⟨rfl,rfl⟩ | ⟨V,G⟩
    · have h3:¬y[0]<=-1:=by omega
      have J:IntKind.i64.wrap 1=1:=by decide
      simp only[PP,simprocAttr,h3,J,Int.lt_irrefl,Ik]at B ⊢;exact aG (O 1 y[0] ⟨by omega,by omega,.inr ⟨by omega,by simp⟩,B⟩ (by omega))
    · have Y:(0:Int)<k:=by omega
      have L:IntKind.i64.wrap ((k:Int)-1)=((k-1:Nat):Int):=by
        have:k<1000000000000:=by have:y.length<1000000000000:=hm;omega
        rw[wrap64 (by omega) (by omega)];omega
      have Z:((k-1:Nat):Int)<y.length:=by omega
      have c3:(0:Int)<=((k-1:Nat):Int):=by omega
      simp only[PP,simprocAttr,Y,I,c,h0,L,Z,c3,G]at B ⊢;by_cases h3:y[k]<=u
      · simp only[PP,simprocAttr,h3]at B ⊢;exact B
      · simp only[PP,simprocAttr,h3,hw]at B ⊢;exact aG (O (k+1) y[k] ⟨by omega,by omega,.inr ⟨by omega,by simp[E]⟩,B⟩ (by omega))
  · simp only[PP,simprocAttr,c];rw[Ca (by omega)]at B;exact B
def K5{G I J L f3 O f o:Bool}{N:NF}{y:List Int}(hm:y.length<big)(Q:K (.bool (iX N.n (-1) y)) M):
    au tab 138 [.agg (nfC G I J L f3 O N),slI f o .i64 y] M K:=by
  refine aB T.h138 (by simp only[PP,simprocAttr,aZ]) ?_;simp only[af138,PP,simprocAttr];refine iN (fun(k:Nat) (u:Int)=>k<=y.length/\K (.bool (iX N.n u (y.drop k))) M) (fun k u=>(.aa:: .aa:: .ptr 0 0 0:: .aa:: .aa::p64 u:: .aa:: .aa::slI f o .i64 y::p64 y.length::p64 k::zj 14)) (fun _ _=>[.cells 0 0 (nfC G I J L f3 O N)]) (fun k _=>y.length-k) 0 (-1) ⟨by omega,Q⟩ ?_;intro k u ⟨Q,B⟩ R;refine aH (by kernel_rfl) ?_;simp only[PP,simprocAttr];refine QIf.intro (fun c=>?_) fun c=>?_
  · have E:k<y.length:=by omega
    rw[iB E]at B;have hw:=aA (k:=k) (by omega);have hg:y[k]? =Jp y[k]:=Ad E;have h0:(0:Int)<=k:=by omega
    simp only[PP,simprocAttr,iX,c,hg,hw,h0]at B ⊢;refine QIf.intro (fun h1=>?_) fun h1=>?_
    · simp only[PP,simprocAttr,h1]at B ⊢;exact B
    · simp only[PP,simprocAttr,h1]at B ⊢;refine QIf.intro (fun h2=>?_) fun h2=>?_
      · simp only[PP,simprocAttr,h2]at B ⊢;exact B
      · simp only[PP,simprocAttr,h2,hw]at B ⊢;exact aG (R (k+1) _ ⟨by omega,B⟩ (by omega))
  · simp only[PP,simprocAttr,c];rw[Ca (by omega)]at B;exact B
def aHP{v p n:Int}(B:0<=p/\p<=255)(E:0<=n/\n<=255)(u:K (p64 (nF v p n)) M):
    au tab 139 [.agg [p8 p,p8 n],p64 v] M K:=by
  refine aB T.h139 (by simp only[PP,simprocAttr]) ?_;simp only[af139,PP,simprocAttr];refine QIf.intro (fun y=>?_) fun y=>?_
  · simp only[PP,simprocAttr,y,nF]at u ⊢;exact u
  · simp only[PP,simprocAttr,y];refine QIf.intro (fun G=>?_) fun G=>?_
    · simp only[PP,simprocAttr,y,G,nF]at u ⊢;exact u
    · have hw:IntKind.i64.wrap (bOr p n)=bOr p n:=wrap64 (by unfold bOr;omega) (by have:=aBy (a:=p.toNat) (b:=n.toNat) (by omega) (by omega);unfold bOr;omega);simp only[PP,simprocAttr,G,aBm B E,mN B E,aIH y G,hw];refine QIf.intro (fun I=>?_) fun I=>?_
      · have e:nF v p n=7:=by
          unfold nF;rw[if_neg y,if_neg G];rcases(S3 B.1 E.1).1 I with q | q
          · rw[if_pos q]
          · rw[if_pos q];split<;>rfl
        rw[e]at u;simp only[PP,simprocAttr,I];exact u
      · have L:¬(2:Int)^v.toNat<=p:=fun q=>I ((S3 B.1 E.1).2 (.inl q));have O:¬(2:Int)^v.toNat<=n:=fun q=>I ((S3 B.1 E.1).2 (.inr q));simp only[PP,simprocAttr,I,mN B E];unfold nF at u;rw[if_neg y,if_neg G,if_neg L,if_neg O]at u;refine QIf.intro (fun J=>?_) fun J=>?_
        · rw[if_pos J]at u;simp only[PP,simprocAttr,J];exact u
        · rw[if_neg J]at u;simp only[PP,simprocAttr,J];exact u
end
def aBe(sz:Nat)(fl:Bool)(b o n:Nat)(kd:IntKind)(j:Int)(K:AV->Prop):FD sz (.slice fl sz b o n) (.int kd j) K=((True/\0<=j/\j<n)/\K (.ptr b (o+j.toNat*sz))):=by unfold FD;rw[aN,cO];simp
def aBv{w:PWd}{f:Bool}{sz:Nat}{cs:List PV}{n:Nat}{v:AV}(hr:az w (.sl f Jr sz n cs) v):(v= .ag/\n=0)\/∃fl b off ver u,v= .slice fl sz b off n/\w.imm b=Jp (.cells ver Jr u)/\w.n0<=b/\off+cs.length<=u.length/\∀(i:Nat),i<cs.length->∃y z,cs[i]? =Jp y/\u[off+i]? =Jp z/\az w y z:=by
  cases hr with
  | slN=>exact .inl ⟨rfl,rfl⟩
  | sl h1 h2 h3 K I L J=>obtain⟨E,rfl⟩:=I rfl;refine .inr ⟨_,_,_,_,_,rfl,h1,E,h2,fun i G=>?_⟩;have B:_+i<_:=Bk (Nat.add_lt_add_left G _) h2;exact⟨cs[i],_,Ad G,Ad B,J i _ _ (Ad G) (Ad B)⟩
def ShA(z u:AV):Prop:=u=z\/(∃k n y,z= .int k n/\u= .int k y)\/∃b B,z= .bool b/\u= .bool B
structure Ov3 (w:PWd) (h h':H):Prop where
  next:h.next<=h'.next
  fc:∀x,x<h.next->x<w.n0\/w.imm x=Jq->h'.get x=h.get x
  cells:∀x ver bcs,w.imm x=Jp (.cells ver Jr bcs)->w.n0<=x->∃mj jz,h'.get x=Jp (.cells mj Jr jz)/\jz.length=bcs.length/\∀(i:Nat) (z:AV),bcs[i]? =Jp z->∃z',jz[i]? =Jp z'/\ShA z z'
def Ov3.refl{w:PWd}{h:H}(hw:∀b o,w.imm b=Jp o->h.get b=Jp o):Ov3 w h h:=
  ⟨Ab _,fun _ _ _=>rfl,fun x ver bcs u _=>⟨ver,bcs,hw x _ u,rfl,fun i z hz=>⟨z,hz,.inl rfl⟩⟩⟩
def Ov3.alloc{w:PWd}{h h':H}(hw:∀b o,w.imm b=Jp o->b<h.next)(hv:Ov3 w h h')(o:cq):Ov3 w h (h'.alloc o):=
  ⟨As hv.next (by simp),fun x u y=>by rw[H.ay,if_neg (by have:=hv.next;omega)];exact hv.fc x u y,fun x ver bcs u B=>by
    obtain⟨E,G,I,J,K⟩:=hv.cells x ver bcs u B;exact⟨E,G,by rw[H.ay,if_neg (by have:=hv.next;have:=hw x _ u;omega)];exact I,J,K⟩⟩
def Ov3.two{w:PWd}{h h':H}(o:Ov3 w h h'):Ov2 w h h':=⟨o.next,o.fc,fun x ver bcs h1 h2=>by
  obtain⟨v,b,u,y,B⟩:=o.cells x ver bcs h1 h2;refine⟨v,b,u,y,fun i z hz E hb=>?_⟩;obtain⟨z',G,I⟩:=B i z hz;rcases I with rfl | ⟨k,n,_,rfl,_⟩ | ⟨b,_,rfl,_⟩
  · exact G
  · exact absurd rfl (E k n)
  · exact absurd rfl (hb b)⟩
def sI{w:PWd}{h L:H}(hw:∀b o,w.imm b=Jp o->b<h.next)(hv:Ov3 w h L){b ver:Nat}{B:List AV}(M:w.imm b=Jp (.cells ver Jr B))(S:w.n0<=b){p:Nat}{xs:List AV}(hp:p+xs.length<=B.length)(T:xs.all AV.one=Jr)(hz:∀i,i<xs.length->∃z x,B[p+i]? =Jp z/\xs[i]? =Jp x/\ShA z x):
    ∃h2,gV L b p xs=Jp h2/\Ov3 w h h2/\Kp w L h2:=by
  obtain⟨U,G,Q,V,Y⟩:=hv.cells b ver B M S;have E:p+xs.length<=G.length:=by omega
  have hlen:(over G p xs).length=G.length:=by rw[sH _ _ _ E];simp;omega
  refine⟨L.set b (.cells (U+1) Jr (over G p xs)),?_,⟨?_,?_,?_⟩,⟨Ab _,?_⟩⟩
  · unfold gV;rw[Q];simp only;rw[if_pos (by simp only[Aw,decide_eq_true_eq];exact⟨E,T⟩)]
  · exact hv.next
  · intro y I u;have:y≠b:=by
      rintro rfl;rcases u with u | u
      · omega
      · rw[M]at u;cases u
    rw[H.bp this];exact hv.fc y I u
  · intro y Z jz I hn;by_cases e:y=b
    · subst e;rw[M]at I;cases I;refine⟨_,_,H.get_set_same Q,by rw[hlen,V],fun i z R=>?_⟩;rw[sH _ _ _ E];by_cases J:i<p\/p+xs.length<=i
      · obtain⟨z',K,O⟩:=Y i z R;refine⟨z',?_,O⟩;rcases J with q | q
        · rw[Ac,Bm (by simp;omega),Bp,if_pos q];exact K
        · rw[Bv (by simp;omega),Br];simp only[Al,Ay];rw[show p+xs.length+(i-(min p G.length+xs.length))=i by omega];exact K
      · rw[not_or,Nat.not_lt,Iv]at J;obtain⟨z0,x,K,O,g3⟩:=hz (i-p) (by omega);rw[show p+(i-p)=i by omega,R]at K;cases K;refine⟨x,?_,g3⟩;rw[Bm (by simp;omega),Bv (by simp;omega),Ay,show min p G.length=p by omega];exact O
    · obtain⟨v3,b3,r1,r2,r3⟩:=hv.cells y Z jz I hn;exact⟨v3,b3,by rw[H.bp e];exact r1,r2,r3⟩
  · intro y I u;have:y≠b:=by
      rintro rfl;rcases u with u | u
      · omega
      · rw[M]at u;cases u
    exact H.bp this
section
variable {tab:FuncId->Option AF} (T:HasA tab){M:Mem}{K:PV->Mem->Prop}
include T
def oC{w:PWd}{h h1:H}(hw:∀b o,w.imm b=Jp o->b<h.next){f:Bool}{u:List Int}{v:AV}(hr:az w (slI f Jr .i64 u) v)(hm:u.length<big)(J:Ov3 w h h1){Q:AV->H->Prop}(V:∀h2,Ov3 w h h2->Kp w h1 h2->Q (.tuple []) h2):
    C (lim tab) 46 [v] h1 Q:=by
  have G:cS 12 [0,2]=[1,3,4,5,6,7,8,9,10,11]:=rfl;rw[EN T.h46];simp only[af46,fS,eG,fU,cA,eV,eB,dO,cD,true_and,AO.effect,eH,cJ,eX,dT,eL,bB,aX,bX,bT,bW,bU,bV,aO,aP,aQ,bO,a8,cC,cQ,bM,fR,eI,dU,eA,dV,dE,dW,eJ,dX,d8,d7,dM,eT,dL,aM,d9,bH,dG,bA,eU,eQ,dI,bR,f9,bS,cF,bP,aT,dH,aR,dK,cG,aU,aL,dJ,bQ,eP,cI,eM,cP,cO,bY,bI,dN,aW,aN,bJ,dD,bK,bL,put,cr,bu,ev,bnd,be,fC,cE,hH,dF,dC,cT,cV,dB,cU,cW,cY,cZ,dA,dZ,cR,Ak,An,Ae,Ai,Aj,Ao,Ah,Av,Ax,Bf,ite_true,ite_false,if_true,if_false,Aq,reduceIte,decide_true,decide_false,Be,Az,beq_self_eq_true,Ag,ne_eq,not_true_eq_false,not_false_eq_true];rw[lE];simp only[G,be,cr];rcases U4 hr with⟨rfl,Y⟩ | ⟨fl,b,off,ver,Z,rfl,e1,e2,e3,e4⟩
  · rw[iF];have hlt:¬(0:Int)<0:=by omega
    simp only[fS,eG,fU,cA,eV,eB,dO,cD,true_and,AO.effect,eH,cJ,eX,dT,eL,bB,aX,bX,bT,bW,bU,bV,aO,aP,aQ,bO,a8,cC,cQ,bM,fR,eI,dU,eA,dV,dE,dW,eJ,dX,d8,d7,dM,eT,dL,aM,d9,bH,dG,bA,eU,eQ,dI,bR,f9,bS,cF,bP,aT,dH,aR,dK,cG,aU,aL,dJ,bQ,eP,cI,eM,cP,cO,bY,bI,dN,aW,aN,bJ,dD,bK,bL,put,cr,bu,ev,bnd,be,fC,cE,hH,dF,dC,cT,cV,dB,cU,cW,cY,cZ,dA,dZ,cR,Ak,An,Ae,Ai,Aj,Ao,Ah,Av,Ax,Bf,ite_true,ite_false,if_true,if_false,Aq,reduceIte,decide_true,decide_false,Be,Az,beq_self_eq_true,Ag,ne_eq,not_true_eq_false,not_false_eq_true,hlt];exact V h1 J (.refl w h1)
  · refine(?_:∀(m k:Nat) (E:H),k+m=u.length->Ov3 w h E->Kp w h1 E->W (lim tab) (.loop ?sc ?x) [.slice fl 1 b off u.length,.aa,i64 k,.aa,.aa,.aa,.aa,.aa,.aa,.aa,.aa,.aa] E ?q1 ?q2 ?q3) u.length 0 h1 (by simp) J (.refl w h1);intro m
    induction m with
    | zero=>
      intro k E hk hv B;rw[iF];have hlt:¬(k:Int)<u.length:=by omega
      simp only[fS,eG,fU,cA,eV,eB,dO,cD,true_and,AO.effect,eH,cJ,eX,dT,eL,bB,aX,bX,bT,bW,bU,bV,aO,aP,aQ,bO,a8,cC,cQ,bM,fR,eI,dU,eA,dV,dE,dW,eJ,dX,d8,d7,dM,eT,dL,aM,d9,bH,dG,bA,eU,eQ,dI,bR,f9,bS,cF,bP,aT,dH,aR,dK,cG,aU,aL,dJ,bQ,eP,cI,eM,cP,cO,bY,bI,dN,aW,aN,bJ,dD,bK,bL,put,cr,bu,ev,bnd,be,fC,cE,hH,dF,dC,cT,cV,dB,cU,cW,cY,cZ,dA,dZ,cR,Ak,An,Ae,Ai,Aj,Ao,Ah,Av,Ax,Bf,ite_true,ite_false,if_true,if_false,Aq,reduceIte,decide_true,decide_false,Be,Az,beq_self_eq_true,Ag,ne_eq,not_true_eq_false,not_false_eq_true,hlt];exact V E hv B
    | succ m ih=>
      intro k E hk hv B;rw[iF];have hlt:(k:Int)<u.length:=by omega
      have h0:(0:Int)<=k:=by omega
      have L:=aA (k:=k) (by omega);obtain⟨y,z,O,hz,R⟩:=e4 k (by simp;omega);have S:∃n,z= .int .i64 n:=by
        rw[Ap]at O;obtain⟨x,Y⟩:=aK (xs:=u) (k:=k) (by omega);rw[Y]at O;cases O;exact⟨x,gX R⟩
      obtain⟨nz,rfl⟩:=S;obtain⟨h2,hp,U,I⟩:=sI hw hv e1 e2 (p:=off+k) (xs:=[i64 (-77)]) (aF hz) rfl (fun i J=>by
        have:i=0:=by simpa using J
        subst this;exact⟨_,_,hz,rfl,.inr (.inl ⟨_,_,_,rfl,rfl⟩)⟩)
      simp only[fS,eG,fU,cA,eV,eB,dO,cD,true_and,AO.effect,eH,cJ,eX,dT,eL,bB,aX,bX,bT,bW,bU,bV,aO,aP,aQ,bO,a8,cC,cQ,bM,fR,eI,dU,eA,dV,dE,dW,eJ,dX,d8,d7,dM,eT,dL,aM,d9,bH,dG,bA,eU,eQ,dI,bR,f9,bS,cF,bP,aT,dH,aR,dK,cG,aU,aL,dJ,bQ,eP,cI,eM,cP,cO,bY,bI,dN,aW,aN,bJ,dD,bK,bL,put,cr,bu,ev,bnd,be,fC,cE,hH,dF,dC,cT,cV,dB,cU,cW,cY,cZ,dA,dZ,cR,Ak,An,Ae,Ai,Aj,Ao,Ah,Av,Ax,Bf,ite_true,ite_false,if_true,if_false,Aq,reduceIte,decide_true,decide_false,Be,Az,beq_self_eq_true,Ag,ne_eq,not_true_eq_false,not_false_eq_true,qU,hlt,h0,true_and,and_self,Bq,Ce,AV.cells,hp,L];rw[lE];simp only[G,be,cr];exact ih (k+1) h2 (by omega) U (B.trans I)
def MR{w:PWd}{h h1:H}(hw:∀b o,w.imm b=Jp o->b<h.next){f:Bool}{u:List Eg}{v:AV}(hr:az w (slE f Jr u) v)(hm:u.length<big)(E:Ov3 w h h1){Q:AV->H->Prop}(hq:∀h2,Ov3 w h h2->Kp w h1 h2->Q (.tuple []) h2):
    C (lim tab) 47 [v] h1 Q:=by
  have I:cS 13 [0,2]=[1,3,4,5,6,7,8,9,10,11,12]:=rfl;rw[EN T.h47];simp only[af47,fS,eG,fU,cA,eV,eB,dO,cD,true_and,AO.effect,eH,cJ,eX,dT,eL,bB,aX,bX,bT,bW,bU,bV,aO,aP,aQ,bO,a8,cC,cQ,bM,fR,eI,dU,eA,dV,dE,dW,eJ,dX,d8,d7,dM,eT,dL,aM,d9,bH,dG,bA,eU,eQ,dI,bR,f9,bS,cF,bP,aT,dH,aR,dK,cG,aU,aL,dJ,bQ,eP,cI,eM,cP,cO,bY,bI,dN,aW,aN,bJ,dD,bK,bL,put,cr,bu,ev,bnd,be,fC,cE,hH,dF,dC,cT,cV,dB,cU,cW,cY,cZ,dA,dZ,cR,Ak,An,Ae,Ai,Aj,Ao,Ah,Av,Ax,Bf,ite_true,ite_false,if_true,if_false,Aq,reduceIte,decide_true,decide_false,Be,Az,beq_self_eq_true,Ag,ne_eq,not_true_eq_false,not_false_eq_true];rw[lE];simp only[I,be,cr];rcases aBv hr with⟨rfl,hx⟩ | ⟨fl,b,off,ver,J,rfl,e1,e2,e3,e4⟩
  · rw[iF];have hlt:¬(0:Int)<0:=by omega
    simp only[fS,eG,fU,cA,eV,eB,dO,cD,true_and,AO.effect,eH,cJ,eX,dT,eL,bB,aX,bX,bT,bW,bU,bV,aO,aP,aQ,bO,a8,cC,cQ,bM,fR,eI,dU,eA,dV,dE,dW,eJ,dX,d8,d7,dM,eT,dL,aM,d9,bH,dG,bA,eU,eQ,dI,bR,f9,bS,cF,bP,aT,dH,aR,dK,cG,aU,aL,dJ,bQ,eP,cI,eM,cP,cO,bY,bI,dN,aW,aN,bJ,dD,bK,bL,put,cr,bu,ev,bnd,be,fC,cE,hH,dF,dC,cT,cV,dB,cU,cW,cY,cZ,dA,dZ,cR,Ak,An,Ae,Ai,Aj,Ao,Ah,Av,Ax,Bf,ite_true,ite_false,if_true,if_false,Aq,reduceIte,decide_true,decide_false,Be,Az,beq_self_eq_true,Ag,ne_eq,not_true_eq_false,not_false_eq_true,hlt];exact hq h1 E (.refl w h1)
  · refine(?_:∀(m k:Nat) (G:H),k+m=u.length->Ov3 w h G->Kp w h1 G->W (lim tab) (.loop ?sc ?x) [.slice fl 4 b off u.length,.aa,i64 k,.aa,.aa,.aa,.aa,.aa,.aa,.aa,.aa,.aa,.aa] G ?q1 ?q2 ?q3) u.length 0 h1 (by simp) E (.refl w h1);intro m
    induction m with
    | zero=>
      intro k G hk hv B;rw[iF];have hlt:¬(k:Int)<u.length:=by omega
      simp only[fS,eG,fU,cA,eV,eB,dO,cD,true_and,AO.effect,eH,cJ,eX,dT,eL,bB,aX,bX,bT,bW,bU,bV,aO,aP,aQ,bO,a8,cC,cQ,bM,fR,eI,dU,eA,dV,dE,dW,eJ,dX,d8,d7,dM,eT,dL,aM,d9,bH,dG,bA,eU,eQ,dI,bR,f9,bS,cF,bP,aT,dH,aR,dK,cG,aU,aL,dJ,bQ,eP,cI,eM,cP,cO,bY,bI,dN,aW,aN,bJ,dD,bK,bL,put,cr,bu,ev,bnd,be,fC,cE,hH,dF,dC,cT,cV,dB,cU,cW,cY,cZ,dA,dZ,cR,Ak,An,Ae,Ai,Aj,Ao,Ah,Av,Ax,Bf,ite_true,ite_false,if_true,if_false,Aq,reduceIte,decide_true,decide_false,Be,Az,beq_self_eq_true,Ag,ne_eq,not_true_eq_false,not_false_eq_true,hlt];exact hq G hv B
    | succ m ih=>
      intro k G hk hv B;rw[iF];have hlt:(k:Int)<u.length:=by omega
      have h0:(0:Int)<=k:=by omega
      have R:=aA (k:=k) (by omega);have L:(egL u).length=u.length*4:=kN u;obtain⟨e,ge⟩:=aK (xs:=u) (k:=k) (by omega);have h4:=oA ge;have hint:∀i,i<4->∃z x,J[off+k*4+i]? =Jp z/\[AV.int .i64 (-7),.int .i64 0,.int .u8 0,.int .u8 0][i]? =Jp x/\ShA z x:=fun i E=>by
        obtain⟨y,z,hy,hz,S⟩:=e4 (k*4+i) (by rw[L];omega);have:(egC e)[i]? =Jp y:=by
          rw[<-h4];unfold dQ;rw[Bp,if_pos E,Br];exact hy
        have U:J[off+k*4+i]? =Jp z:=by rw[Cn];exact hz
        have V:i=0\/i=1\/i=2\/i=3:=by omega
        rcases V with rfl | rfl | rfl | rfl<;>(simp only[egC,Cg,Bl,Option.some.injEq]at this;subst this;exact⟨_,_,U,rfl,.inr (.inl ⟨_,_,_,gX S,rfl⟩)⟩)
      obtain⟨h2,hp,Y,O⟩:=sI hw hv e1 e2 (p:=off+k*4) (xs:=[.int .i64 (-7),.int .i64 0,.int .u8 0,.int .u8 0]) (by have:=e3;rw[L]at this;simp;omega) rfl (fun i E=>hint i (by simpa using E));have Z:∀a:List AV,uA a [AV.int .i64 0,AV.int .i64 0,AV.int .u8 0,AV.int .u8 0] [(0,1,AR.const (AV.int .i64 (-7)))]=Jp [.int .i64 (-7),.int .i64 0,.int .u8 0,.int .u8 0]:=fun a=>rfl;simp only[fS,eG,fU,cA,eV,eB,dO,cD,true_and,AO.effect,eH,cJ,eX,dT,eL,bB,aX,bX,bT,bW,bU,bV,aO,aP,aQ,bO,a8,cC,cQ,bM,fR,eI,dU,eA,dV,dE,dW,eJ,dX,d8,d7,dM,eT,dL,aM,d9,bH,dG,bA,eU,eQ,dI,bR,f9,bS,cF,bP,aT,dH,aR,dK,cG,aU,aL,dJ,bQ,eP,cI,eM,cP,cO,bY,bI,dN,aW,aN,bJ,dD,bK,bL,put,cr,bu,ev,bnd,be,fC,cE,hH,dF,dC,cT,cV,dB,cU,cW,cY,cZ,dA,dZ,cR,Ak,An,Ae,Ai,Aj,Ao,Ah,Av,Ax,Bf,ite_true,ite_false,if_true,if_false,Aq,reduceIte,decide_true,decide_false,Be,Az,beq_self_eq_true,Ag,ne_eq,not_true_eq_false,not_false_eq_true,aBe,hlt,h0,true_and,and_self,Bq,Ce,AV.cells,Z,hp,R];rw[lE];simp only[I,be,cr];exact ih (k+1) h2 (by omega) Y (B.trans O)
def YC{w:PWd}{h h1:H}(hw:∀b o,w.imm b=Jp o->b<h.next){f1 f2 f3:Bool}{N:NF}(B:BnN N){E:List AV}(y:ak w (nfC f1 Jr f2 Jr f3 Jr N) E)(hv:Ov3 w h h1){Q:AV->H->Prop}(hq:∀h2,Ov3 w h h2->Kp w h1 h2->Q (.tuple []) h2):
    C (lim tab) 14 [.agg E] h1 Q:=by
  match E,y with
  | [I,J,L,O,R],y=>
  have r1:=y.hd;have r2:=y.tl.hd;have r3:=y.tl.tl.hd;have r4:=y.tl.tl.tl.hd;have r5:=y.tl.tl.tl.tl.hd;have o1:I.one=Jr:=gK r1 rfl;have o2:J.one=Jr:=gK r2 rfl;have o3:L.one=Jr:=gK r3 rfl;have o4:O.one=Jr:=gK r4 rfl;have o5:R.one=Jr:=gK r5 rfl;have S:[I,J,L,O,R].all AV.one=Jr:=by simp[o1,o2,o3,o4,o5]
  rw[EN T.h14];have w1:=hv.alloc hw (.cells 0 Jr [I,J,L,O,R]);have G:w.imm h1.next=Jq:=by
    cases y:w.imm h1.next with
    | none=>rfl
    | some o=>have:=hw _ _ y;have:=hv.next;omega
  have u:∀{U:H},Kp w (h1.alloc (.cells 0 Jr [I,J,L,O,R])) U->∀i,f0 U h1.next i=[I,J,L,O,R][i]? :=by intro U hk i;unfold f0;rw[hk.fc h1.next (by simp) (.inr G),H.ah]
  have b1:=u (.refl w _);simp only[af14,fS,eG,fU,cA,eV,eB,dO,cD,true_and,AO.effect,eH,cJ,eX,dT,eL,bB,aX,bX,bT,bW,bU,bV,aO,aP,aQ,bO,a8,cC,cQ,bM,fR,eI,dU,eA,dV,dE,dW,eJ,dX,d8,d7,dM,eT,dL,aM,d9,bH,dG,bA,eU,eQ,dI,bR,f9,bS,cF,bP,aT,dH,aR,dK,cG,aU,aL,dJ,bQ,eP,cI,eM,cP,cO,bY,bI,dN,aW,aN,bJ,dD,bK,bL,put,cr,bu,ev,bnd,be,fC,cE,hH,dF,dC,cT,cV,dB,cU,cW,cY,cZ,dA,dZ,cR,Ak,An,Ae,Ai,Aj,Ao,Ah,Av,Ax,Bf,ite_true,ite_false,if_true,if_false,Aq,reduceIte,decide_true,decide_false,Be,Az,beq_self_eq_true,Ag,ne_eq,not_true_eq_false,not_false_eq_true,AV.cells,S,b1,Cg,Bl];refine oC T hw r3 B.s w1 fun h2 V k2=>?_;have b2:=u k2;simp only[fS,eG,fU,cA,eV,eB,dO,cD,true_and,AO.effect,eH,cJ,eX,dT,eL,bB,aX,bX,bT,bW,bU,bV,aO,aP,aQ,bO,a8,cC,cQ,bM,fR,eI,dU,eA,dV,dE,dW,eJ,dX,d8,d7,dM,eT,dL,aM,d9,bH,dG,bA,eU,eQ,dI,bR,f9,bS,cF,bP,aT,dH,aR,dK,cG,aU,aL,dJ,bQ,eP,cI,eM,cP,cO,bY,bI,dN,aW,aN,bJ,dD,bK,bL,put,cr,bu,ev,bnd,be,fC,cE,hH,dF,dC,cT,cV,dB,cU,cW,cY,cZ,dA,dZ,cR,Ak,An,Ae,Ai,Aj,Ao,Ah,Av,Ax,Bf,ite_true,ite_false,if_true,if_false,Aq,reduceIte,decide_true,decide_false,Be,Az,beq_self_eq_true,Ag,ne_eq,not_true_eq_false,not_false_eq_true,b2,Cg,Bl];refine oC T hw r4 B.f V fun h3 Y k3=>?_;have b3:=u (k2.trans k3);simp only[fS,eG,fU,cA,eV,eB,dO,cD,true_and,AO.effect,eH,cJ,eX,dT,eL,bB,aX,bX,bT,bW,bU,bV,aO,aP,aQ,bO,a8,cC,cQ,bM,fR,eI,dU,eA,dV,dE,dW,eJ,dX,d8,d7,dM,eT,dL,aM,d9,bH,dG,bA,eU,eQ,dI,bR,f9,bS,cF,bP,aT,dH,aR,dK,cG,aU,aL,dJ,bQ,eP,cI,eM,cP,cO,bY,bI,dN,aW,aN,bJ,dD,bK,bL,put,cr,bu,ev,bnd,be,fC,cE,hH,dF,dC,cT,cV,dB,cU,cW,cY,cZ,dA,dZ,cR,Ak,An,Ae,Ai,Aj,Ao,Ah,Av,Ax,Bf,ite_true,ite_false,if_true,if_false,Aq,reduceIte,decide_true,decide_false,Be,Az,beq_self_eq_true,Ag,ne_eq,not_true_eq_false,not_false_eq_true,b3,Cg,Bl];refine MR T hw r5 B.e Y fun h4 Z k4=>?_;simp only[fS,eG,fU,cA,eV,eB,dO,cD,true_and,AO.effect,eH,cJ,eX,dT,eL,bB,aX,bX,bT,bW,bU,bV,aO,aP,aQ,bO,a8,cC,cQ,bM,fR,eI,dU,eA,dV,dE,dW,eJ,dX,d8,d7,dM,eT,dL,aM,d9,bH,dG,bA,eU,eQ,dI,bR,f9,bS,cF,bP,aT,dH,aR,dK,cG,aU,aL,dJ,bQ,eP,cI,eM,cP,cO,bY,bI,dN,aW,aN,bJ,dD,bK,bL,put,cr,bu,ev,bnd,be,fC,cE,hH,dF,dC,cT,cV,dB,cU,cW,cY,cZ,dA,dZ,cR,Ak,An,Ae,Ai,Aj,Ao,Ah,Av,Ax,Bf,ite_true,ite_false,if_true,if_false,Aq,reduceIte,decide_true,decide_false,Be,Az,beq_self_eq_true,Ag,ne_eq,not_true_eq_false,not_false_eq_true];exact hq _ Z ((Kp.alloc w h1 _).trans ((k2.trans k3).trans k4))
def MT{w:PWd}{h h1:H}(hw:∀b o,w.imm b=Jp o->b<h.next){f:Bool}{u:List Bool}{v:AV}(hr:az w (slB f Jr u) v)(hm:u.length<big)(L:Ov3 w h h1){Q:AV->H->Prop}(hq:∀h2,Ov3 w h h2->Kp w h1 h2->Q (.tuple []) h2):
    C (lim tab) 49 [v] h1 Q:=by
  have I:cS 17 [0,2]=[1,3,4,5,6,7,8,9,10,11,12,13,14,15,16]:=rfl;rw[EN T.h49];simp only[af49,fS,eG,fU,cA,eV,eB,dO,cD,true_and,AO.effect,eH,cJ,eX,dT,eL,bB,aX,bX,bT,bW,bU,bV,aO,aP,aQ,bO,a8,cC,cQ,bM,fR,eI,dU,eA,dV,dE,dW,eJ,dX,d8,d7,dM,eT,dL,aM,d9,bH,dG,bA,eU,eQ,dI,bR,f9,bS,cF,bP,aT,dH,aR,dK,cG,aU,aL,dJ,bQ,eP,cI,eM,cP,cO,bY,bI,dN,aW,aN,bJ,dD,bK,bL,put,cr,bu,ev,bnd,be,fC,cE,hH,dF,dC,cT,cV,dB,cU,cW,cY,cZ,dA,dZ,cR,Ak,An,Ae,Ai,Aj,Ao,Ah,Av,Ax,Bf,ite_true,ite_false,if_true,if_false,Aq,reduceIte,decide_true,decide_false,Be,Az,beq_self_eq_true,Ag,ne_eq,not_true_eq_false,not_false_eq_true];rw[lE];simp only[I,be,cr];rcases U4 hr with⟨rfl,hx⟩ | ⟨fl,b,off,ver,O,rfl,e1,e2,e3,e4⟩
  · rw[iF];have hlt:¬(0:Int)<0:=by omega
    simp only[fS,eG,fU,cA,eV,eB,dO,cD,true_and,AO.effect,eH,cJ,eX,dT,eL,bB,aX,bX,bT,bW,bU,bV,aO,aP,aQ,bO,a8,cC,cQ,bM,fR,eI,dU,eA,dV,dE,dW,eJ,dX,d8,d7,dM,eT,dL,aM,d9,bH,dG,bA,eU,eQ,dI,bR,f9,bS,cF,bP,aT,dH,aR,dK,cG,aU,aL,dJ,bQ,eP,cI,eM,cP,cO,bY,bI,dN,aW,aN,bJ,dD,bK,bL,put,cr,bu,ev,bnd,be,fC,cE,hH,dF,dC,cT,cV,dB,cU,cW,cY,cZ,dA,dZ,cR,Ak,An,Ae,Ai,Aj,Ao,Ah,Av,Ax,Bf,ite_true,ite_false,if_true,if_false,Aq,reduceIte,decide_true,decide_false,Be,Az,beq_self_eq_true,Ag,ne_eq,not_true_eq_false,not_false_eq_true,hlt];exact hq h1 L (.refl w h1)
  · refine(?_:∀(m k:Nat) (B:H),k+m=u.length->Ov3 w h B->Kp w h1 B->W (lim tab) (.loop ?sc ?x) [.slice fl 1 b off u.length,.aa,i64 k,.aa,.aa,.aa,.aa,.aa,.aa,.aa,.aa,.aa,.aa,.aa,.aa,.aa,.aa] B ?q1 ?q2 ?q3) u.length 0 h1 (by simp) L (.refl w h1);intro m
    induction m with
    | zero=>
      intro k B hk hv E;rw[iF];have hlt:¬(k:Int)<u.length:=by omega
      simp only[fS,eG,fU,cA,eV,eB,dO,cD,true_and,AO.effect,eH,cJ,eX,dT,eL,bB,aX,bX,bT,bW,bU,bV,aO,aP,aQ,bO,a8,cC,cQ,bM,fR,eI,dU,eA,dV,dE,dW,eJ,dX,d8,d7,dM,eT,dL,aM,d9,bH,dG,bA,eU,eQ,dI,bR,f9,bS,cF,bP,aT,dH,aR,dK,cG,aU,aL,dJ,bQ,eP,cI,eM,cP,cO,bY,bI,dN,aW,aN,bJ,dD,bK,bL,put,cr,bu,ev,bnd,be,fC,cE,hH,dF,dC,cT,cV,dB,cU,cW,cY,cZ,dA,dZ,cR,Ak,An,Ae,Ai,Aj,Ao,Ah,Av,Ax,Bf,ite_true,ite_false,if_true,if_false,Aq,reduceIte,decide_true,decide_false,Be,Az,beq_self_eq_true,Ag,ne_eq,not_true_eq_false,not_false_eq_true,hlt];exact hq B hv E
    | succ m ih=>
      intro k B hk hv E;rw[iF];have hlt:(k:Int)<u.length:=by omega
      have h0:(0:Int)<=k:=by omega
      have R:=aA (k:=k) (by omega);obtain⟨y,z,S,hz,U⟩:=e4 k (by simp;omega);have V:∃Y,z= .bool Y:=by
        rw[Ap]at S;obtain⟨x,hx⟩:=aK (xs:=u) (k:=k) (by omega);rw[hx]at S;cases S;exact⟨x,kZ U⟩
      obtain⟨Y,rfl⟩:=V;obtain⟨v2,b2,q1,q2,q3⟩:=hv.cells b ver O e1 e2;obtain⟨z',g1,g2⟩:=q3 _ _ hz;have Z:∃G,z'= .bool G:=by
        rcases g2 with rfl | ⟨k,n,_,h,_⟩ | ⟨b,G,_,rfl⟩
        · exact⟨Y,rfl⟩
        · cases h
        · exact⟨G,rfl⟩
      obtain⟨G,rfl⟩:=Z;have a0:f0 B b (off+k)=Jp (.bool G):=by unfold f0;rw[q1];exact g1
      obtain⟨h2,hp,a1,J⟩:=sI hw hv e1 e2 (p:=off+k) (xs:=[.bool !G]) (aF hz) rfl (fun i L=>by
        have:i=0:=by simpa using L
        subst this;exact⟨_,_,hz,rfl,.inr (.inr ⟨_,_,rfl,rfl⟩)⟩)
      simp only[fS,eG,fU,cA,eV,eB,dO,cD,true_and,AO.effect,eH,cJ,eX,dT,eL,bB,aX,bX,bT,bW,bU,bV,aO,aP,aQ,bO,a8,cC,cQ,bM,fR,eI,dU,eA,dV,dE,dW,eJ,dX,d8,d7,dM,eT,dL,aM,d9,bH,dG,bA,eU,eQ,dI,bR,f9,bS,cF,bP,aT,dH,aR,dK,cG,aU,aL,dJ,bQ,eP,cI,eM,cP,cO,bY,bI,dN,aW,aN,bJ,dD,bK,bL,put,cr,bu,ev,bnd,be,fC,cE,hH,dF,dC,cT,cV,dB,cU,cW,cY,cZ,dA,dZ,cR,Ak,An,Ae,Ai,Aj,Ao,Ah,Av,Ax,Bf,ite_true,ite_false,if_true,if_false,Aq,reduceIte,decide_true,decide_false,Be,Az,beq_self_eq_true,Ag,ne_eq,not_true_eq_false,not_false_eq_true,qU,hlt,h0,true_and,and_self,Bq,Ce,AV.cells,a0,hp,R];rw[lE];simp only[I,be,cr];exact ih (k+1) h2 (by omega) a1 (E.trans J)
end
section
variable (M l:Mem) (i:Nat) (x:bl)
def gk:(M++l)[M.length+i]? =l[i]? :=by rw[Bv (by omega)];congr 1;omega
def gk0:(M++l)[M.length]? =l[0]? :=by rw[Bv (Ab _),Dr]
def sk:(M++l).set (M.length+i) x=M++l.set i x:=by rw[Dn _ _ (by omega)];congr 2;omega
def sk0:(M++l).set M.length x=M++l.set 0 x:=by rw[Dn _ _ (Ab _),Dr]
end
def CW(k:IntKind)(a b:Int):tZ (.int k a) [.int k b]=Jp (.int k (min a b)):=by
  simp[tZ,eZ,kA,oI,D8,bd];by_cases h:b<a
  · rw[if_pos h];omega
  · rw[if_neg h];omega
def uR{v n:Int}{e:Eg}{l:List Eg}(h:e.fr<0\/n<=e.fr\/e.to<0\/n<=e.to):oJ v n (e::l)=8:=by unfold oJ;rw[if_pos h]
def yM{v n:Int}{e:Eg}{l:List Eg}(h:¬(e.fr<0\/n<=e.fr\/e.to<0\/n<=e.to)):oJ v n (e::l)=if nF v e.ps e.ng=0 then oJ v n l else nF v e.ps e.ng:=by show(if _ then _ else _)=_;rw[if_neg h]
section
variable {tab:FuncId->Option AF} (T:HasA tab){M:Mem}{K:PV->Mem->Prop}
include T
def yH{v:Int}(h0:¬v<0)(B:¬6<v)(u:K (p64 (2^v.toNat)) M):au tab 98 [p64 v] M K:=by
  refine aB T.h98 (by simp only[PP,simprocAttr]) ?_;have y:eE .shl (.int .i64 1) (.int .u64 (IntKind.u64.wrap v))=Jp (.int .i64 (2^v.toNat)):=by
    have:v=0\/v=1\/v=2\/v=3\/v=4\/v=5\/v=6:=by omega
    rcases this with rfl | rfl | rfl | rfl | rfl | rfl | rfl<;>rfl
  simp only[af98,PP,simprocAttr,y];exact u
def aFs{v p n:Int}(L:0<=p/\p<=255)(O:0<=n/\n<=255)(u:K (p64 (nF v p n)) M):
    au tab 160 [.agg [p8 p,p8 n],p64 v] M K:=by
  refine aB T.h160 (by simp only[PP,simprocAttr]) ?_;simp only[af160,PP,simprocAttr];refine QIf.intro (fun y=>?_) fun y=>?_
  · simp only[PP,simprocAttr,y,nF]at u ⊢;exact u
  · simp only[PP,simprocAttr,y];refine QIf.intro (fun B=>?_) fun B=>?_
    · simp only[PP,simprocAttr,y,B,nF]at u ⊢;exact u
    · simp only[PP,simprocAttr,B];refine yH T y B ?_;have Q:IntKind.i64.wrap p=p:=wrap64 (by omega) (by omega);have J:IntKind.i64.wrap n=n:=wrap64 (by omega) (by omega);unfold nF at u;rw[if_neg y,if_neg B]at u;simp only[PP,simprocAttr,Q,J];refine QIf.intro (fun E=>?_) fun E=>?_
      · rw[if_pos E]at u;simp only[PP,simprocAttr,E];exact u
      · rw[if_neg E]at u;simp only[PP,simprocAttr,E,J];refine QIf.intro (fun G=>?_) fun G=>?_
        · rw[if_pos G]at u;simp only[PP,simprocAttr,G];exact u
        · rw[if_neg G]at u;simp only[PP,simprocAttr,G,mN L O];refine QIf.intro (fun I=>?_) fun I=>?_
          · rw[if_pos I]at u;simp only[PP,simprocAttr,I];exact u
          · rw[if_neg I]at u;simp only[PP,simprocAttr,I];exact u
def aCB{f o:Bool}{v n:Int}{u:List Eg}(hm:u.length<big)(hb:∀x∈u,(0<=x.ps/\x.ps<=255)/\(0<=x.ng/\x.ng<=255))(U:K (p64 (oJ v n u)) M):
    au tab 97 [slE f o u,p64 v,p64 n] M K:=by
  refine aB T.h97 (by simp only[PP,simprocAttr,aZ]) ?_;simp only[af97,PP,simprocAttr];refine fT (fun(k:Nat)=>k<=u.length/\K (p64 (oJ v n (u.drop k))) M) (fun k=>(slE f o u::p64 v::p64 n::zj 4++p64 k::zj 55)) (fun _=>[]) (fun k=>u.length-k) 0 ⟨by omega,U⟩ ?_;intro k ⟨V,y⟩ Y;refine aH (by kernel_rfl) ?_;simp only[PP,simprocAttr];refine QIf.intro (fun c=>?_) fun c=>?_
  · have S:k<u.length:=by omega
    obtain⟨e,O⟩:=aK S;rw[mP O]at y;have hw:=aA (k:=k) (by omega);have h0:(0:Int)<=k:=by omega
    have B:(k:Int)<u.length:=by omega
    have Q:=oA O;have Z:=OQ O;have E:(egL u)[k*4]? =Jp (p64 e.fr):=by have:=congrArg (fun(l:List PV)=>l[0]?) Q;simpa [dQ,Bp,Br]using this
    have G:(egL u)[k*4+1]? =Jp (p64 e.to):=by have:=congrArg (fun(l:List PV)=>l[1]?) Q;simpa [dQ,Bp,Br]using this
    have I:(egL u)[k*4+2]? =Jp (p8 e.ps):=by have:=congrArg (fun(l:List PV)=>l[2]?) Q;simpa [dQ,Bp,Br]using this
    have J:(egL u)[k*4+3]? =Jp (p8 e.ng):=by have:=congrArg (fun(l:List PV)=>l[3]?) Q;simpa [dQ,Bp,Br]using this
    obtain⟨b1,b2⟩:=hb e (Af O);have bad:(e.fr<0\/n<=e.fr\/e.to<0\/n<=e.to)->K (p64 8) M:=fun h=>by rw[uR h]at y;exact y
    simp only[PP,simprocAttr,c,h0,B,E,G,I,J];refine QIf.intro (fun d1=>?_) fun d1=>?_
    · simp only[PP,simprocAttr,d1];exact bad (.inl d1)
    simp only[PP,simprocAttr,d1,h0,B,E,G,I,J];refine QIf.intro (fun d2=>?_) fun d2=>?_
    · simp only[PP,simprocAttr,d2];exact bad (.inr (.inl d2))
    simp only[PP,simprocAttr,d2,h0,B,E,G,I,J];refine QIf.intro (fun d3=>?_) fun d3=>?_
    · simp only[PP,simprocAttr,d3];exact bad (.inr (.inr (.inl d3)))
    simp only[PP,simprocAttr,d3,h0,B,E,G,I,J];refine QIf.intro (fun R=>?_) fun R=>?_
    · simp only[PP,simprocAttr,R];exact bad (.inr (.inr (.inr R)))
    rw[yM (by rintro(h | h | h | h)<;>contradiction)]at y;simp only[PP,simprocAttr,R,h0,B,E,G,I,J];refine aFs T b1 b2 ?_;simp only[PP,simprocAttr];refine QIf.intro (fun L=>?_) fun L=>?_
    · rw[if_pos L]at y;simp only[PP,simprocAttr,L,hw];exact aG (Y (k+1) ⟨by omega,y⟩ (by omega))
    · rw[if_neg L]at y;simp only[PP,simprocAttr,L];exact y
  · simp only[PP,simprocAttr,c];rw[Ca (by omega)]at y;exact y
end
abbrev Wd:=List (BitVec 64)
def wAt(a:Wd)(i:Nat):BitVec 64:=a.getD i 0#64
def nX{a:Wd}{i:Nat}(h:a.length<=i):wAt a i=0#64:=by unfold wAt;rw[Bc,Bu h];rfl
def vG{a:Wd}{i:Nat}{x:BitVec 64}(h:a[i]? =Jp x):wAt a i=x:=by unfold wAt;rw[Bc,h];rfl
def kS(a:Wd):Nat->Nat
  | 0=>0
  | n+1=>if wAt a n=0#64 then kS a n else n+1
def vK(a:Wd):∀n,kS a n<=n
  | 0=>Ab _
  | n+1=>by
    unfold kS;split
    · exact Nat.le_succ_of_le (vK a n)
    · exact Ab _
def B6(a:Wd):∀n i,kS a n<=i->i<n->wAt a i=0#64
  | 0,i,_,h=>by omega
  | n+1,i,h1,h2=>by
    unfold kS at h1;split at h1
    · rename_i h;by_cases e:i=n
      · subst e;exact h
      · exact B6 a n i h1 (by omega)
    · omega
def xH(a:Wd):∀n,kS a n=0\/wAt a (kS a n-1)≠0#64
  | 0=> .inl rfl
  | n+1=>by
    unfold kS;split
    · exact xH a n
    · rename_i h;exact .inr h
def xI(a:Wd):Wd:=a.take (kS a a.length)
def aAB(a:Wd):(xI a).length<=a.length:=by unfold xI;rw[Ay];omega
def HY(a:Wd)(i:Nat):wAt (xI a) i=wAt a i:=by
  have u:=vK a a.length;rcases Bi i (kS a a.length)with h | h
  · unfold wAt xI;rw[Bc,Bc,Bp,if_pos h]
  · rw[nX (by unfold xI;rw[Ay];omega)];rcases Bi i a.length with q | q
    · exact(B6 a _ i h q).symm
    · exact(nX q).symm
def pB(op:BitVec 64->BitVec 64->BitVec 64)(a b:Wd)(n:Nat):Wd:=(Ba n).map fun i=>op (wAt a i) (wAt b i)
def cmb(op:BitVec 64->BitVec 64->BitVec 64)(a b:Wd):Wd:=xI (pB op a b (min (max a.length b.length) 64))
def pX(op:BitVec 64->BitVec 64->BitVec 64)(a b:Wd)(n:Nat):(pB op a b n).length=n:=by simp[pB]
def Y8(op:BitVec 64->BitVec 64->BitVec 64)(a b:Wd)(n:Nat):pB op a b (n+1)=pB op a b n++[op (wAt a n) (wAt b n)]:=by simp[pB,Fq]
def aFy(op:BitVec 64->BitVec 64->BitVec 64)(a b:Wd):(cmb op a b).length<=64:=by have:=aAB (pB op a b (min (max a.length b.length) 64));rw[pX]at this;unfold cmb;omega
def aCK{op:BitVec 64->BitVec 64->BitVec 64}(h0:op 0#64 0#64=0#64){a b:Wd}(u:a.length<=64)(hb:b.length<=64)(i:Nat):wAt (cmb op a b) i=op (wAt a i) (wAt b i):=by
  unfold cmb;rw[HY];rcases Bi i (min (max a.length b.length) 64)with h | h
  · refine vG ?_;simp only[pB,Ap,Eb h,Dd]
  · rw[nX (by rw[pX];exact h),nX (a:=a) (by omega),nX (a:=b) (by omega),h0]
def bit(a:Wd)(k:Nat):Bool:=(wAt a (k / 64)).getLsbD (k % 64)
def S0{a b:Wd}(u:a.length<=64)(hb:b.length<=64)(k:Nat):bit (cmb (· ||| ·) a b) k=(bit a k||bit b k):=by unfold bit;rw[aCK (by simp) u hb];simp
def AB{a b:Wd}(u:a.length<=64)(hb:b.length<=64)(k:Nat):bit (cmb (· &&& ·) a b) k=(bit a k&&bit b k):=by unfold bit;rw[aCK (by simp) u hb];simp
def VY{op:BitVec 64->BitVec 64->BitVec 64}(a b:Wd):(cmb op a b).length=0↔∀k,bit (cmb op a b) k=Js:=by
  constructor
  · intro h k;unfold bit;rw[nX (by omega)];simp
  · intro h;have hl:(cmb op a b).length=kS (pB op a b (min (max a.length b.length) 64)) (min (max a.length b.length) 64):=by have:=vK (pB op a b (min (max a.length b.length) 64)) (min (max a.length b.length) 64);unfold cmb xI;rw[Ay,pX];omega
    rcases xH (pB op a b (min (max a.length b.length) 64)) (min (max a.length b.length) 64)with e | e
    · rw[hl,e]
    · exfalso;rw[<-HY]at e;apply e;apply Fc;intro j u;have:=h (64*(kS (pB op a b (min (max a.length b.length) 64)) (min (max a.length b.length) 64)-1)+j);unfold bit at this;rw[show(64*(kS (pB op a b (min (max a.length b.length) 64)) (min (max a.length b.length) 64)-1)+j) / 64=kS (pB op a b (min (max a.length b.length) 64)) (min (max a.length b.length) 64)-1 by omega,show(64*(kS (pB op a b (min (max a.length b.length) 64)) (min (max a.length b.length) 64)-1)+j) % 64=j by omega]at this;unfold cmb at this;rw[this];simp
def rQ(k:Nat):Wd:=Ae (k / 64) 0#64++[Da 64 (k % 64)]
def pG(k:Nat):(rQ k).length=k / 64+1:=by simp[rQ]
def D4(k j:Nat):bit (rQ k) j=decide (j=k):=by
  have u:j % 64<64:=Ea _ (by omega);unfold bit;rcases Nat.lt_trichotomy (j / 64) (k / 64)with h | h | h
  · rw[vG (x:=0#64) (by unfold rQ;rw[Bm (by simpa using h)];simp[h])];have:j≠k:=by rintro rfl;omega
    simp[this]
  · rw[vG (x:=Da 64 (k % 64)) (by unfold rQ;rw[Bv (by simp;omega)];simp[h])];rw[Hb];by_cases e:j=k
    · subst e;simp[u]
    · have:k % 64≠j % 64:=by omega
      simp[e,this]
  · rw[nX (by rw[pG];omega)];have:j≠k:=by rintro rfl;omega
    simp[this]
def vF(a:Wd)(k:Nat):Wd:=cmb (· ||| ·) a (rQ k)
def ofL(l:List Nat):Wd:=l.foldl vF []
def IW:∀(l:List Nat) (a:Wd),a.length<=64->(∀x∈l,x<4096)->(l.foldl vF a).length<=64/\∀k,bit (l.foldl vF a) k=(bit a k||decide (k∈l))
  | [],a,u,_=>⟨u,by simp⟩
  | x::l,a,u,h=>by
    have E:=h x (by simp);have hs:(rQ x).length<=64:=by rw[pG];omega
    obtain⟨h1,h2⟩:=IW l (vF a x) (aFy _ _ _) (fun y B=>h y (by simp[B]));refine⟨h1,fun k=>?_⟩;rw[Fx,h2,vF,S0 u hs,D4];simp[Bool.or_assoc]
def aET{l:List Nat}(h:∀x∈l,x<4096):(ofL l).length<=64:=(IW l [] (by simp) h).1
def aFC{l:List Nat}(h:∀x∈l,x<4096)(k:Nat):bit (ofL l) k=decide (k∈l):=by have:=(IW l [] (by simp) h).2 k;unfold ofL;rw[this];simp[bit,wAt]
abbrev wI(a:Wd):List Int:=a.map fun b=>((b.toNat:Nat):Int)
def tD{n:Nat}(h:n<18446744073709551616):IntKind.u64.wrap (n:Int)=(n:Int):=by simp only[IntKind.wrap,IntKind.signed,IntKind.bits];simp;omega
def SX(b:BitVec 64):Bs 64 ((b.toNat:Nat):Int)=b:=by rw[BitVec.ofInt_natCast];simp
def uI(a b:BitVec 64):eE .and (.int .u64 ((a.toNat:Nat):Int)) (.int .u64 ((b.toNat:Nat):Int))=Jp (.int .u64 (((a&&& b).toNat:Nat):Int)):=by have h:=tD (a&&& b).isLt;simp only[eE,eZ,i7,eY,gG,IntKind.bits,SX,Aq,if_false,if_true];show Jp (PV.int .u64 (IntKind.u64.wrap (((a&&& b).toNat:Nat):Int)))=_;rw[h]
def GK(a b:BitVec 64):eE .or (.int .u64 ((a.toNat:Nat):Int)) (.int .u64 ((b.toNat:Nat):Int))=Jp (.int .u64 (((a||| b).toNat:Nat):Int)):=by have h:=tD (a||| b).isLt;simp only[eE,eZ,i7,eY,gG,IntKind.bits,SX,Aq,if_false,if_true];show Jp (PV.int .u64 (IntKind.u64.wrap (((a||| b).toNat:Nat):Int)))=_;rw[h]
def CZ{k:Nat}(h:k<64):eE .shl (.int .u64 1) (.int .i64 (k:Int))=Jp (.int .u64 (((Da 64 k).toNat:Nat):Int)):=by
  have h2:(Da 64 k).toNat=2^k:=by rw[BitVec.toNat_twoPow,Fy (Iw (by omega) h)]
  have h3:=tD (n:=2^k) (Iw (n:=64) (by omega) h);have u:min ((k:Int).toNat) 64=k:=by omega
  simp only[eE,eZ,i7,eY,wW,IntKind.bits,u,h2];rw[if_pos trivial,if_neg (by omega),show(1:Int)*2^k=((2^k:Nat):Int) by simp,h3];rfl
end Go.Am.Ar
--P14
namespace Go.Am.Ar
open Go.Am.PV renaming aa->Zj
open Go.Am renaming jc->P1,lg->P2,kq->P3,ep->P4,bl.under->P5,fy->P6,dr->P7,bf->P8,pev->P9,iw->P10,bd->P11,jl->P12,dw->P13,fY->P14,AO.effect->P15
open List renaming replicate->L1
section
variable {tab:FuncId->Option AF} (T:HasA tab){M:Mem}{K:PV->Mem->Prop}
include T
def aAu{v:Int}(u:K (.bool (decide (0<=v/\v<=6))) M):au tab 95 [p64 v] M K:=by
  refine aB T.h95 (by simp only[PP,P14,simprocAttr]) ?_;simp only[af95,PP,P14,simprocAttr];refine QIf.intro (fun y=>?_) fun y=>?_
  · simp only[PP,P14,simprocAttr,y]at u ⊢;exact u
  · simp only[PP,P14,simprocAttr,y]at u ⊢;exact u
def aCS{O Q R S f3 U:Bool}{N:NF}(B:BnN N)(u:K (p64 (gF N)) M):
    au tab 43 [.agg (nfC O Q R S f3 U N)] M K:=by
  refine aB T.h43 (by simp only[PP,P14,simprocAttr,aZ]) ?_;simp only[af43,PP,P14,simprocAttr];refine aAu T ?_;unfold gF at u;by_cases I:N.vs<0\/6<N.vs
  · rw[if_pos I]at u;have e:¬(0<=N.vs/\N.vs<=6):=by omega
    simp only[PP,P14,simprocAttr,e];exact u
  rw[if_neg I]at u;have e:0<=N.vs/\N.vs<=6:=by omega
  simp only[PP,P14,simprocAttr,e];refine QIf.intro (fun y=>?_) fun y=>?_
  · rw[if_pos y]at u;simp only[PP,P14,simprocAttr,y];exact u
  rw[if_neg y]at u;simp only[PP,P14,simprocAttr,y];have four:(64<N.n\/512<(N.es.length:Int))->K (p64 4) M:=fun h=>by rw[if_pos h]at u;exact u
  refine QIf.intro (fun E=>?_) fun E=>?_
  · simp only[PP,P14,simprocAttr,E];exact four (.inl E)
  simp only[PP,P14,simprocAttr,E];refine QIf.intro (fun G=>?_) fun G=>?_
  · simp only[PP,P14,simprocAttr,G];exact four (.inr G)
  rw[if_neg (by rintro(h | h)<;>contradiction)]at u;simp only[PP,P14,simprocAttr,G];refine FU T B.s ?_
  cases J:iX N.n (-1) N.st with
  | false=>rw[J]at u;simp only[PP,P14,simprocAttr]at u ⊢;exact u
  | true=>
    rw[J]at u;simp only[PP,P14,simprocAttr];refine FU T B.f ?_
    cases L:iX N.n (-1) N.fi with
    | false=>rw[L]at u;simp only[PP,P14,simprocAttr]at u ⊢;exact u
    | true=>rw[L]at u;simp only[PP,P14,simprocAttr]at u ⊢;refine aCB T B.e B.b ?_;simp only[PP,P14,simprocAttr];exact u
def aHV{B E G I f3 J:Bool}{N:NF}(u:K (.bool (decide (N.vs<0\/6<N.vs))) M):au tab 134 [.cp (nfC B E G I f3 J N) 0] M K:=by
  refine aB T.h134 (by simp only[PP,P14,simprocAttr,PV.under,fN]) ?_;simp only[af134,PP,P14,simprocAttr];refine QIf.intro (fun y=>?_) fun y=>?_
  · simp only[PP,P14,simprocAttr,y]at u ⊢;exact u
  · simp only[PP,P14,simprocAttr,y]at u ⊢;exact u
def aHU{u y B E f3 G:Bool}{N:NF}(I:K (.bool (decide (N.n<0))) M):au tab 135 [.cp (nfC u y B E f3 G N) 0] M K:=by refine aB T.h135 (by simp only[PP,P14,simprocAttr,PV.under,fN]) ?_;simp only[af135,PP,P14,simprocAttr];exact I
def aHT{B E G I f3 J:Bool}{N:NF}(u:K (.bool (decide (64<N.n\/512<(N.es.length:Int)))) M):au tab 136 [.cp (nfC B E G I f3 J N) 0] M K:=by
  refine aB T.h136 (by simp only[PP,P14,simprocAttr,PV.under,fN]) ?_;simp only[af136,PP,P14,simprocAttr];refine QIf.intro (fun y=>?_) fun y=>?_
  · simp only[PP,P14,simprocAttr,y]at u ⊢;exact u
  · simp only[PP,P14,simprocAttr,y]at u ⊢;exact u
def aHS{G I J L f3 O:Bool}{N:NF}(B:BnN N)(u:K (.bool (decide (¬(iX N.n (-1) N.st=Jr/\iX N.n (-1) N.fi=Jr)))) M):au tab 137 [.cp (nfC G I J L f3 O N) 0] M K:=by
  refine aB T.h137 (by simp only[PP,P14,simprocAttr,PV.under,fN]) ?_;simp only[af137,PP,P14,simprocAttr];refine K5 T B.s ?_
  cases y:iX N.n (-1) N.st with
  | false=>rw[y]at u;simp only[PP,P14,simprocAttr]at u ⊢;exact u
  | true=>
    rw[y]at u;simp only[PP,P14,simprocAttr];refine K5 T B.f ?_
    cases E:iX N.n (-1) N.fi with
    | false=>rw[E]at u;simp only[PP,P14,simprocAttr]at u ⊢;exact u
    | true=>rw[E]at u;simp only[PP,P14,simprocAttr]at u ⊢;exact u
def FZ{y E I J f3 u:Bool}{N:NF}(B:BnN N)(L:K (p64 (gF N)) M):
    au tab 79 [.agg (nfC y E I J f3 u N)] M K:=by
  refine eC T.h79 (by simp only[PP,P14,simprocAttr,aZ]) ?_;simp only[af79];refine aE (aC ?_);simp only[PP,P14,simprocAttr];refine cK (GStep.dz (b:=(.aa:: .cp (nfC y E I J f3 u N) 0::p64 0::zj 60)) 0 (Au _) rfl (by simp only[mX,mY,Ai,Aj,iD,gJ,gI,iC]) rfl) ?_;refine aE (aC ?_);simp only[PP,P14,simprocAttr];refine iN (fun(k:Nat) (G:Mem)=>k<=4/\(0<k->¬(N.vs<0\/6<N.vs))/\(1<k->¬(N.n<0))/\(2<k->¬(64<N.n\/512<(N.es.length:Int)))/\(3<k->¬(¬(iX N.n (-1) N.st=Jr/\iX N.n (-1) N.fi=Jr))))
    (fun k G=>(.aa:: .cp (nfC y E I J f3 u N) 0::zj 14++ .sl Jr Jr 2 4 [.func (.func 134) [] [.cp (nfC y E I J f3 u N) 0],p64 7,.func (.func 135) [] [.cp (nfC y E I J f3 u N) 0],p64 1,.func (.func 136) [] [.cp (nfC y E I J f3 u N) 0],p64 4,.func (.func 137) [] [.cp (nfC y E I J f3 u N) 0],p64 8]::p64 4::p64 k::zj 44)) (fun _ G=>G) (fun k _=>4-k) 0 [.gone] ⟨by omega,by omega,by omega,by omega,by omega⟩ ?_
  intro k G ⟨a0,Q,i2,i3,i4⟩ Z;have w1:IntKind.i64.wrap 1=1:=rfl;have w2:IntKind.i64.wrap 2=2:=rfl;have w3:IntKind.i64.wrap 3=3:=rfl;have w4:IntKind.i64.wrap 4=4:=rfl;unfold gF at L;have R:(N.vs<0\/6<N.vs)->K (p64 7) M:=fun h=>by rw[if_pos h]at L;exact L
  have S:0<k->(N.n<0)->K (p64 1) M:=fun h0 h=>by rw[if_neg (Q h0),if_pos h]at L;exact L
  have U:1<k->(64<N.n\/512<(N.es.length:Int))->K (p64 4) M:=fun h0 h=>by rw[if_neg (Q (by omega)),if_neg (i2 h0),if_pos h]at L;exact L
  have V:2<k->(¬(iX N.n (-1) N.st=Jr/\iX N.n (-1) N.fi=Jr))->K (p64 8) M:=fun h0 h=>by rw[if_neg (Q (by omega)),if_neg (i2 (by omega)),if_neg (i3 h0),if_neg h]at L;exact L
  have Y:3<k->K (p64 (oJ N.vs N.n N.es)) M:=fun h=>by rw[if_neg (Q (by omega)),if_neg (i2 (by omega)),if_neg (i3 (by omega)),if_pos (Classical.not_not.1 (i4 h))]at L;exact L
  have a1:k=0\/k=1\/k=2\/k=3\/k=4:=by omega
  rcases a1 with rfl | rfl | rfl | rfl | rfl
  · refine aH (by kernel_rfl) ?_;simp only[PP,P14,simprocAttr,Ac,gk0,sk0];refine aHV T ?_;by_cases q:(N.vs<0\/6<N.vs)
    · simp only[PP,P14,simprocAttr,q,Ac,gk,gk0,sk,sk0,decide_true];exact R q
    · simp only[PP,P14,simprocAttr,q,Ac,gk,gk0,sk,sk0,decide_false,w1,w2,w3,w4];refine bZ (Z 1 (G++[.cells 0 1 [.func (.func 134) [] [.cp (nfC y E I J f3 u N) 0],p64 7]]) ⟨by omega,fun _=>q,fun h=>absurd h (by omega),fun h=>absurd h (by omega),fun h=>absurd h (by omega)⟩ (by omega)) (by simp only[PW]) rfl
  · refine aH (by kernel_rfl) ?_;simp only[PP,P14,simprocAttr,Ac,gk0,sk0];refine aHU T ?_;by_cases q:(N.n<0)
    · simp only[PP,P14,simprocAttr,q,Ac,gk,gk0,sk,sk0,decide_true];exact S (by omega) q
    · simp only[PP,P14,simprocAttr,q,Ac,gk,gk0,sk,sk0,decide_false,w1,w2,w3,w4];refine bZ (Z 2 (G++[.cells 0 1 [.func (.func 135) [] [.cp (nfC y E I J f3 u N) 0],p64 1]]) ⟨by omega,fun _=>Q (by omega),fun _=>q,fun h=>absurd h (by omega),fun h=>absurd h (by omega)⟩ (by omega)) (by simp only[PW]) rfl
  · refine aH (by kernel_rfl) ?_;simp only[PP,P14,simprocAttr,Ac,gk0,sk0];refine aHT T ?_;by_cases q:(64<N.n\/512<(N.es.length:Int))
    · simp only[PP,P14,simprocAttr,q,Ac,gk,gk0,sk,sk0,decide_true];exact U (by omega) q
    · simp only[PP,P14,simprocAttr,q,Ac,gk,gk0,sk,sk0,decide_false,w1,w2,w3,w4];refine bZ (Z 3 (G++[.cells 0 1 [.func (.func 136) [] [.cp (nfC y E I J f3 u N) 0],p64 4]]) ⟨by omega,fun _=>Q (by omega),fun _=>i2 (by omega),fun _=>q,fun h=>absurd h (by omega)⟩ (by omega)) (by simp only[PW]) rfl
  · refine aH (by kernel_rfl) ?_;simp only[PP,P14,simprocAttr,Ac,gk0,sk0];refine aHS T B ?_;by_cases q:(¬(iX N.n (-1) N.st=Jr/\iX N.n (-1) N.fi=Jr))
    · simp only[PP,P14,simprocAttr,q,Ac,gk,gk0,sk,sk0,decide_true];exact V (by omega) q
    · simp only[PP,P14,simprocAttr,q,Ac,gk,gk0,sk,sk0,decide_false,w1,w2,w3,w4];refine bZ (Z 4 (G++[.cells 0 1 [.func (.func 137) [] [.cp (nfC y E I J f3 u N) 0],p64 8]]) ⟨by omega,fun _=>Q (by omega),fun _=>i2 (by omega),fun _=>i3 (by omega),fun _=>q⟩ (by omega)) (by simp only[PW]) rfl
  · have hg:=Y (by omega);refine aH (by kernel_rfl) ?_;simp only[PP,P14,simprocAttr];refine aC ?_;simp only[PP,P14,simprocAttr];refine iN (fun(k:Nat) (G:Mem)=>k<=N.es.length/\K (p64 (oJ N.vs N.n (N.es.drop k))) M) (fun k G=>(.aa:: .cp (nfC y E I J f3 u N) 0::zj 27++slE f3 u N.es::p64 N.es.length::p64 k::zj 31)) (fun _ G=>G) (fun k _=>N.es.length-k) 0 G ⟨by omega,hg⟩ ?_;intro k G ⟨a0,O⟩ Z;refine aH (by kernel_rfl) ?_;simp only[PP,P14,simprocAttr];refine QIf.intro (fun c=>?_) fun c=>?_
    · have a2:k<N.es.length:=by omega
      obtain⟨e,ge⟩:=aK a2;rw[mP ge]at O;have hw:=aA (k:=k) (by have:=B.e;omega);have h0:(0:Int)<=k:=by omega
      have h4:=oA ge;have a3:k*4+4<=(egL N.es).length:=by rw[kN];exact OQ ge
      obtain⟨b1,b2⟩:=B.b e (Af ge);have bad:(e.fr<0\/N.n<=e.fr\/e.to<0\/N.n<=e.to)->K (p64 8) M:=fun h=>by rw[uR h]at O;exact O
      simp only[PP,P14,simprocAttr,c,h0,h4,a3,Ac,gk,gk0,sk,sk0,CW];refine QIf.intro (fun d1=>?_) fun d1=>?_
      · simp only[PP,P14,simprocAttr,d1];exact bad (by omega)
      simp only[PP,P14,simprocAttr,d1,Ac,gk,gk0,sk,sk0];refine QIf.intro (fun d2=>?_) fun d2=>?_
      · simp only[PP,P14,simprocAttr,d2];exact bad (by omega)
      rw[yM (by omega)]at O;simp only[PP,P14,simprocAttr,d2,Ac,gk,gk0,sk,sk0];refine aHP T b1 b2 ?_;simp only[PP,P14,simprocAttr];refine QIf.intro (fun d5=>?_) fun d5=>?_
      · rw[if_pos d5]at O;simp only[PP,P14,simprocAttr,d5,hw];exact aG (Z (k+1) _ ⟨by omega,O⟩ (by omega))
      · rw[if_neg d5]at O;simp only[PP,P14,simprocAttr,d5];exact O
    · simp only[PP,P14,simprocAttr,c];rw[Ca (by omega)]at O;exact O
omit T in
def NF.ext'{N u:NF}(h1:N.vs=u.vs)(h2:N.n=u.n)(h3:N.st=u.st)(y:N.fi=u.fi)(B:N.es=u.es):N=u:=by cases N;cases u;simp_all
def OO{f o O Q:Bool}{xs ys:List Bool}(hm:xs.length<big)(E:K (.bool (decide (xs=ys))) M):
    au tab 52 [slB f o xs,slB O Q ys] M K:=by
  refine aB T.h52 (by simp only[PP,simprocAttr]) ?_;simp only[af52,PP,simprocAttr];refine QIf.intro (fun B=>?_) fun B=>?_
  · simp only[PP,simprocAttr,B];have hl:xs.length=ys.length:=by omega
    refine fT (fun(k:Nat)=>k<=xs.length/\K (.bool (decide (xs.drop k=ys.drop k))) M) (fun k=>(slB f o xs::slB O Q ys::zj 3++p64 k::zj 20)) (fun _=>[]) (fun k=>xs.length-k) 0 ⟨by omega,E⟩ ?_;intro k ⟨U,u⟩ V;refine aH (by kernel_rfl) ?_;simp only[PP,simprocAttr];refine QIf.intro (fun c=>?_) fun c=>?_
    · have G:k<xs.length:=by omega
      have I:k<ys.length:=by omega
      obtain⟨x,R⟩:=aK G;obtain⟨y,S⟩:=aK I;rw[mP R,mP S]at u;have hw:=aA (k:=k) (by omega);have h0:(0:Int)<=k:=by omega
      have Y:(k:Int)<ys.length:=by omega
      simp only[PP,simprocAttr,c,R,S,hw,h0,Y];by_cases e:x=y
      · subst e;simp only[PP,simprocAttr,hw,List.cons.injEq]at u ⊢;exact aG (V (k+1) ⟨by omega,u⟩ (by omega))
      · have J:(x==y)=Js:=by simp[e]
        simp only[PP,simprocAttr,J,e,List.cons.injEq]at u ⊢;exact u
    · simp only[PP,simprocAttr,c];rw[Ca (by omega),Ca (by omega)]at u;simp only[PP,simprocAttr]at u;exact u
  · have L:xs≠ys:=fun e=>B (by rw[e]);simp only[PP,simprocAttr,B];rw[decide_eq_false L]at E;exact E
def aFu{f o:Bool}{u:List Eg}(hm:u.length<big)(y:K (.ref M.length 0 4 0 u.length) (M++[.cells 0 0 (egL u)])):
    au tab 37 [slE f o u] M K:=by
  refine aV T.h37 ?_;have hm:u.length<1000000000000:=hm;have B:u.length*24<=140737488355328:=by omega
  have E:u.length<=9223372036854775807:=by omega
  simp only[af37,PP,simprocAttr,B,E,VP];exact y
end
structure DF where
  vs:Int
  st:Int
  nx:List (List Int)
  fi:List Bool
abbrev dfC(u y B E f3 G:Bool)(D:DF):List PV:=[p64 D.vs,p64 D.st,slR u y B E .i64 D.nx,slB f3 G D.fi]
structure BnD (D:DF):Prop where
  n:D.nx.length<big
  r:∀r∈D.nx,r.length<big
  f:D.fi.length<big
def D6(n:Int)(r:List Int):Bool:=r.any fun t=>decide (t<0\/n<=t)
def rZ(v n:Int):List (List Int)->Int
  | []=>0
  | r::l=>if(r.length:Int)=2^v.toNat then(if D6 n r=Jr then 8 else rZ v n l)else 2
def fE(D:DF):Int:=
  if D.vs<0\/6<D.vs then 7 else if(D.nx.length:Int)=0 then 3 else if 4096<(D.nx.length:Int)then 4 else if ¬(D.fi.length:Int)=D.nx.length then 2 else if D.st<0\/(D.nx.length:Int)<=D.st then 8 else rZ D.vs D.nx.length D.nx
def nQ:Int->List Int->Int
  | m,[]=>m
  | m,x::l=>nQ (min m x) l
def zQ:∀(l:List Int) (m:Int),nQ m l<0↔m<0\/∃t∈l,t<0
  | [],m=>by simp[nQ]
  | x::l,m=>by
    unfold nQ;rw[zQ l];simp only[Cr];constructor
    · rintro(h | ⟨t,h1,h2⟩)
      · by_cases h3:m<0
        · exact .inl h3
        · exact .inr ⟨x,.inl rfl,by omega⟩
      · exact .inr ⟨t,.inr h1,h2⟩
    · rintro(h | ⟨t,rfl | h1,h2⟩)
      · exact .inl (by omega)
      · exact .inl (by omega)
      · exact .inr ⟨t,h1,h2⟩
def C5{n:Int} :∀(l:List Int) (m:Int),n<=nR m l↔n<=m\/∃t∈l,n<=t
  | [],m=>by simp[nR]
  | x::l,m=>by
    unfold nR;rw[C5 l];simp only[Cr];constructor
    · rintro(h | ⟨t,h1,h2⟩)
      · by_cases h3:n<=m
        · exact .inl h3
        · exact .inr ⟨x,.inl rfl,by omega⟩
      · exact .inr ⟨t,.inr h1,h2⟩
    · rintro(h | ⟨t,rfl | h1,h2⟩)
      · exact .inl (by omega)
      · exact .inl (by omega)
      · exact .inr ⟨t,h1,h2⟩
def mc{n x:Int}{l:List Int} :D6 n (x::l)=Jr↔nQ x l<0\/n<=nR x l:=by
  rw[zQ,C5];unfold D6;simp only[Gc,Cr,decide_eq_true_eq];constructor
  · rintro⟨t,rfl | h1,h | h⟩
    · exact .inl (.inl h)
    · exact .inr (.inl h)
    · exact .inl (.inr ⟨t,h1,h⟩)
    · exact .inr (.inr ⟨t,h1,h⟩)
  · rintro((h | ⟨t,h1,h⟩) | (h | ⟨t,h1,h⟩))
    · exact⟨x,.inl rfl,.inl h⟩
    · exact⟨t,.inr h1,.inl h⟩
    · exact⟨x,.inl rfl,.inr h⟩
    · exact⟨t,.inr h1,.inr h⟩
def UX{v:Int}(h0:¬v<0)(u:¬6<v):eE .shl (.int .i64 1) (.int .i64 v)=Jp (.int .i64 (2^v.toNat)):=by
  have:v=0\/v=1\/v=2\/v=3\/v=4\/v=5\/v=6:=by omega
  rcases this with rfl | rfl | rfl | rfl | rfl | rfl | rfl<;>rfl
def aA8(v:Int):(0:Int)<2^v.toNat:=Int.pow_pos (by decide)
section
variable {tab:FuncId->Option AF} (T:HasA tab){M:Mem}{K:PV->Mem->Prop}
include T
def aIP{f o:Bool}{x:Int}{u:List Int}(hm:(x::u).length<big)(y:K (p64 (nQ x u)) M):
    au tab 156 [slI f o .i64 (x::u)] M K:=by
  refine aB T.h156 (by simp only[PP,simprocAttr]) ?_;have E:¬((u.length+1:Nat):Int)<1:=by omega
  have G:(0:Int)<((u.length+1:Nat):Int):=by omega
  simp only[af156,PP,simprocAttr,E,G];have I:u.length+1<1000000000000:=hm;refine iN (fun(k:Nat) (m:Int)=>k<=u.length/\K (p64 (nQ m (u.drop k))) M) (fun k m=>(slI f o .i64 (x::u):: .aa:: .aa::p64 m::p64 ((k+1:Nat):Int)::zj 20)) (fun _ _=>[]) (fun k _=>u.length-k) 0 x ⟨by omega,y⟩ ?_;intro k m ⟨J,y⟩ L;refine aH (by kernel_rfl) ?_;simp only[PP,simprocAttr];refine QIf.intro (fun c=>?_) fun c=>?_
  · have B:k<u.length:=by omega
    have O:u[k]? =Jp u[k]:=Ad B;have h0:(0:Int)<=((k+1:Nat):Int):=by omega
    have hw:=aA (k:=k+1) (by show _<1000000000000;omega);rw[iB B]at y;simp only[PP,simprocAttr,c,O,h0,hw,nQ,CW]at y ⊢;exact aG (L (k+1) _ ⟨by omega,y⟩ (by omega))
  · rw[Ca (by omega)]at y;simp only[PP,simprocAttr,c,nQ]at y ⊢;exact y
def OZ{U V Y Z f3 o3:Bool}{D:DF}(B:BnD D)(u:K (p64 (fE D)) M):
    au tab 92 [.agg (dfC U V Y Z f3 o3 D)] M K:=by
  refine aB T.h92 (by simp only[PP,simprocAttr]) ?_;simp only[af92,PP,simprocAttr];unfold fE at u;refine QIf.intro (fun E=>?_) fun E=>?_
  · rw[if_pos (.inl E)]at u;simp only[PP,simprocAttr,E];exact u
  simp only[PP,simprocAttr,E];refine QIf.intro (fun G=>?_) fun G=>?_
  · rw[if_pos (.inr G)]at u;simp only[PP,simprocAttr,G];exact u
  rw[if_neg (by omega)]at u;simp only[PP,simprocAttr,G];refine QIf.intro (fun I=>?_) fun I=>?_
  · rw[if_pos I]at u;simp only[PP,simprocAttr,I];exact u
  rw[if_neg I]at u;simp only[PP,simprocAttr,I];refine QIf.intro (fun J=>?_) fun J=>?_
  · rw[if_pos J]at u;simp only[PP,simprocAttr,J];exact u
  rw[if_neg J]at u;simp only[PP,simprocAttr,J];refine QIf.intro (fun L=>?_) fun L=>?_;rotate_left
  · rw[if_pos L]at u;simp only[PP,simprocAttr,L];exact u
  rw[if_neg (Classical.not_not.2 L)]at u;simp only[PP,simprocAttr,L];refine QIf.intro (fun O=>?_) fun O=>?_
  · rw[if_pos (.inl O)]at u;simp only[PP,simprocAttr,O];exact u
  simp only[PP,simprocAttr,O];refine QIf.intro (fun Q=>?_) fun Q=>?_
  · rw[if_pos (.inr Q)]at u;simp only[PP,simprocAttr,Q];exact u
  rw[if_neg (by omega)]at u;simp only[PP,simprocAttr,Q];have hl:=UX E G;refine fT (fun(k:Nat)=>k<=D.nx.length/\K (p64 (rZ D.vs D.nx.length (D.nx.drop k))) M) (fun k=>(.aa:: .ptr 0 0 0:: .aa::p64 D.nx.length::zj 37++slR U V Y Z .i64 D.nx::p64 D.nx.length::p64 k::zj 19)) (fun _=>[.cells 0 0 (dfC U V Y Z f3 o3 D)]) (fun k=>D.nx.length-k) 0 ⟨by omega,u⟩ ?_;intro k ⟨a1,y⟩ ih;refine aH (by kernel_rfl) ?_;simp only[PP,simprocAttr];refine QIf.intro (fun c=>?_) fun c=>?_
  · have a0:k<D.nx.length:=by omega
    obtain⟨r,g⟩:=aK a0;have h0:(0:Int)<=(k:Int):=by omega
    have hB:D.nx.length<1000000000000:=B.n;have hw:=aA (k:=k) (by show _<1000000000000;omega);rw[mP g]at y;simp only[PP,simprocAttr,c,g,h0,hl];unfold rZ at y;refine QIf.intro (fun e=>?_) fun e=>?_;rotate_left
    · rw[if_neg e]at y;simp only[PP,simprocAttr,e];exact y
    rw[if_pos e]at y;simp only[PP,simprocAttr,e]
    cases r with
    | nil=>have:=aA8 D.vs;simp at e;omega
    | cons x l=>
      have hx:(x::l).length<big:=B.r _ (Af g);refine aIP T hx ?_;simp only[PP,simprocAttr];refine QIf.intro (fun R=>?_) fun R=>?_
      · rw[if_pos (mc.2 (.inl R))]at y;simp only[PP,simprocAttr,R];exact y
      simp only[PP,simprocAttr,R];refine aIQ T hx ?_;simp only[PP,simprocAttr];refine QIf.intro (fun S=>?_) fun S=>?_
      · rw[if_pos (mc.2 (.inr S))]at y;simp only[PP,simprocAttr,S];exact y
      rw[if_neg (by rw[mc];omega)]at y;simp only[PP,simprocAttr,S,hw];exact aG (ih (k+1) ⟨by omega,y⟩ (by omega))
  · rw[Ca (by omega)]at y;simp only[PP,simprocAttr,c,rZ]at y ⊢;exact y
def GC{S U V Y f3 Z:Bool}{D:DF}(B:BnD D)(u:K (p64 (fE D)) M):
    au tab 44 [.agg (dfC S U V Y f3 Z D)] M K:=by
  refine aB T.h44 (by simp only[PP,simprocAttr]) ?_;simp only[af44,PP,simprocAttr];refine aAu T ?_;unfold fE at u;by_cases c1:D.vs<0\/6<D.vs
  · rw[if_pos c1]at u;have e:¬(0<=D.vs/\D.vs<=6):=by omega
    simp only[PP,simprocAttr,e];exact u
  rw[if_neg c1]at u;have e:0<=D.vs/\D.vs<=6:=by omega
  simp only[PP,simprocAttr,e];refine QIf.intro (fun G=>?_) fun G=>?_
  · rw[if_pos G]at u;simp only[PP,simprocAttr,G];exact u
  rw[if_neg G]at u;simp only[PP,simprocAttr,G];refine QIf.intro (fun I=>?_) fun I=>?_
  · rw[if_pos I]at u;simp only[PP,simprocAttr,I];exact u
  rw[if_neg I]at u;simp only[PP,simprocAttr,I];refine QIf.intro (fun J=>?_) fun J=>?_;rotate_left
  · rw[if_pos J]at u;simp only[PP,simprocAttr,J];exact u
  rw[if_neg (Classical.not_not.2 J)]at u;simp only[PP,simprocAttr,J];refine QIf.intro (fun O=>?_) fun O=>?_
  · rw[if_pos (.inl O)]at u;simp only[PP,simprocAttr,O];exact u
  simp only[PP,simprocAttr,O];refine QIf.intro (fun Q=>?_) fun Q=>?_
  · rw[if_pos (.inr Q)]at u;simp only[PP,simprocAttr,Q];exact u
  rw[if_neg (by omega)]at u;simp only[PP,simprocAttr,Q];have v0:¬D.vs<0:=by omega
  have v6:¬6<D.vs:=by omega
  have hB:D.nx.length<1000000000000:=B.n;refine fT (fun(k:Nat)=>k<=D.nx.length/\K (p64 (rZ D.vs D.nx.length (D.nx.drop k))) M) (fun k=>(.aa:: .ptr 0 0 0:: .aa::p64 D.nx.length::p64 k::zj 72)) (fun _=>[.cells 0 0 (dfC S U V Y f3 Z D)]) (fun k=>D.nx.length-k) 0 ⟨by omega,u⟩ ?_;intro k ⟨a3,y⟩ ih;refine aH (by kernel_rfl) ?_;simp only[PP,simprocAttr];refine QIf.intro (fun c=>?_) fun c=>?_
  · have a0:k<D.nx.length:=by omega
    obtain⟨r,g⟩:=aK a0;have h0:(0:Int)<=(k:Int):=by omega
    have hw:=aA (k:=k) (by show _<1000000000000;omega);rw[mP g]at y;simp only[PP,simprocAttr,c,g,h0];refine yH T v0 v6 ?_;simp only[PP,simprocAttr];unfold rZ at y;refine QIf.intro (fun e=>?_) fun e=>?_;rotate_left
    · rw[if_neg e]at y;simp only[PP,simprocAttr,e];exact y
    rw[if_pos e]at y;simp only[PP,simprocAttr,e];have hr:r.length<1000000000000:=B.r _ (Af g);refine fT (fun(j:Nat)=>j<=r.length/\(D6 D.nx.length (r.drop j)=D6 D.nx.length r)) (fun j=>(.aa:: .ptr 0 0 0:: .aa::p64 D.nx.length::p64 k::p64 j::zj 71)) (fun _=>[.cells 0 0 (dfC S U V Y f3 Z D)]) (fun j=>r.length-j) 0 ⟨by omega,rfl⟩ ?_;intro j ⟨a4,E⟩ a1;refine aH (by kernel_rfl) ?_;simp only[PP,simprocAttr,c,g,h0];refine QIf.intro (fun d=>?_) fun d=>?_
    · have a2:j<r.length:=by omega
      obtain⟨t,gt⟩:=aK a2;have j0:(0:Int)<=(j:Int):=by omega
      have wj:=aA (k:=j) (by show _<1000000000000;omega);rw[mP gt]at E;simp only[PP,simprocAttr,c,g,h0,d,gt,j0];refine QIf.intro (fun L=>?_) fun L=>?_
      · rw[if_pos (by rw[<-E];simp[D6,L])]at y;simp only[PP,simprocAttr,L];exact y
      simp only[PP,simprocAttr,L,c,g,h0,d,gt,j0];refine QIf.intro (fun R=>?_) fun R=>?_
      · rw[if_pos (by rw[<-E];simp[D6,R])]at y;simp only[PP,simprocAttr,R];exact y
      simp only[PP,simprocAttr,R,wj];refine aG (a1 (j+1) ⟨by omega,?_⟩ (by omega));rw[<-E];simp[D6,L];omega
    · rw[Ca (by omega)]at E;rw[if_neg (by rw[<-E];simp[D6])]at y;simp only[PP,simprocAttr,d,hw];exact aG (ih (k+1) ⟨by omega,y⟩ (by omega))
  · rw[Ca (by omega)]at y;simp only[PP,simprocAttr,c,rZ]at y ⊢;exact y
end
section
variable {tab:FuncId->Option AF}
def QG(tab:FuncId->Option AF)(g:FuncId)(y:List PV):Prop:=
  ∀(w:PWd) (h h1:H) (u:List AV),(∀b o,w.imm b=Jp o->b<h.next)->ak w y u->Ov3 w h h1->C (lim tab) g u h1 fun _ h2=>Ov3 w h h2/\Kp w h1 h2
def OvX(tab:FuncId->Option AF)(c:AC)(a:List PV)(M:Mem)(Q:List PV->Mem->Prop):Prop:=
  ∀(w:PWd) (h h1:H) (u:List AV),PSt w h M->ak w a u->Ov3 w h h1->W (lim tab) c u h1 (fun y h2=>∃b,ak w b y/\Ov3 w h h2/\Q b M) (fun _ _=>False) fun _ _ _=>False
variable {a:List PV} {M:Mem}
def WH{x y:AC}{Q:List PV->Mem->Prop}(h:OvX tab x a M fun b N=>OvX tab y b N Q):OvX tab (.seq x y) a M Q:=by intro w hh h1 u s B hv;rw[eX];refine hU (h w hh h1 u s B hv) (fun E h2 ⟨b,r,o,q⟩=>?_) (fun _ _ q=>q.elim) fun _ _ _ q=>q.elim;rw[cQ];exact q w hh h2 E s r o
def BZ{g:FuncId}{Q:List PV->Mem->Prop}{d1:Nat}{d2:Option Nat}{n p:Nat}{U V:List Nat}{id gg o ver:Nat}{cs:List PV}
    (Y:bf a p= .ptr id gg o) (Z:M[id]? =Jp (.cells gg ver cs)) (hn:o+n<=cs.length) (hd:bf (dr a d1 (.agg (dQ cs o n))) d1= .agg (dQ cs o n)) (ho:QG tab g [.agg (dQ cs o n)])
    (hq:Q (fy (dr a d1 Zj) d2 Zj) M):
    OvX tab (.region [⟨Jp d1,.eh n (.tmp p),Jq,U⟩,⟨d2,.call (.const (.func (.func g) [] [])) [.tmp d1],Jq,V⟩]) a M Q:=by
  intro w hh h1 G s I hv;rw[cJ,dU,bH];have R:=I.bu p;rw[Y]at R;obtain⟨e,b,u,e1,e2,e3,e4,e5,S,T⟩:=s.iu Z R;have J:ev G (.tmp p)= .ptr b o:=e1;have y:=jP S o n;have K:dY h1 b o n=Jp ((u.drop o).take n):=by unfold dY;rw[hv.fc b (T.next s) (.inr (s.sep id b T).1),e5];simp only;rw[if_pos (by rw[<-S.len];exact hn)]
  rw[J,cP,K,bI,dV,dU,dX];have hf:ev (put G (Jp d1) (.agg ((u.drop o).take n))) (.const (.func (.func g) [] []))= .func (.func g) [] []:=rfl;rw[hf,bL];have B:az w (.agg (dQ cs o n)) (.agg ((u.drop o).take n)):= .agg y.len y.get;have L:=I.cr d1 B;have E:ak w [.agg (dQ cs o n)] ([]++Gk (ev (put G (Jp d1) (.agg ((u.drop o).take n)))) [.tmp d1]++[]):=by have h1:=L.bu d1;rw[hd]at h1;exact .cons h1 (.nil w)
  refine mS (ho w hh h1 _ (fun b o hb=>s.ij hb) E hv) ?_;rintro v h2 ⟨O,_⟩;rw[dE,dV,eI];exact⟨_,(I.cr d1 (v:=Zj) (x:= .agg ((u.drop o).take n)) (.aa _)).put d2 (.aa _),O,hq⟩
end
section
variable {tab:FuncId->Option AF} (T:HasA tab){M:Mem}{K:PV->Mem->Prop}
include T
def uJ{w:PWd}{h h1:H}(hw:∀b o,w.imm b=Jp o->b<h.next){f f2:Bool}{u:List (List Int)}{v:AV}(hr:az w (slR f Jr f2 Jr .i64 u) v)(hm:u.length<big)(L:∀r∈u,r.length<big)(Y:Ov3 w h h1){Q:AV->H->Prop}(Z:∀h2,Ov3 w h h2->Kp w h1 h2->Q (.tuple []) h2):
    C (lim tab) 48 [v] h1 Q:=by
  have G:cS 14 [0,2]=[1,3,4,5,6,7,8,9,10,11,12,13]:=rfl;rw[EN T.h48];simp only[af48,fS,eG,fU,cA,eV,eB,dO,cD,true_and,AO.effect,eH,cJ,eX,dT,eL,bB,aX,bX,bT,bW,bU,bV,aO,aP,aQ,bO,a8,cC,cQ,bM,fR,eI,dU,eA,dV,dE,dW,eJ,dX,d8,d7,dM,eT,dL,aM,d9,bH,dG,bA,eU,eQ,dI,bR,f9,bS,cF,bP,aT,dH,aR,dK,cG,aU,aL,dJ,bQ,eP,cI,eM,cP,cO,bY,bI,dN,aW,aN,bJ,dD,bK,bL,put,cr,bu,ev,bnd,be,fC,cE,hH,dF,dC,cT,cV,dB,cU,cW,cY,cZ,dA,dZ,cR,Ak,An,Ae,Ai,Aj,Ao,Ah,Av,Ax,Bf,ite_true,ite_false,if_true,if_false,Aq,reduceIte,decide_true,decide_false,Be,Az,beq_self_eq_true,Ag,ne_eq,not_true_eq_false,not_false_eq_true];rw[lE];simp only[G,be,cr];rcases U4 hr with⟨rfl,hx⟩ | ⟨fl,b,off,ver,O,rfl,e1,e2,e3,e4⟩
  · rw[iF];have hlt:¬(0:Int)<0:=by omega
    simp only[fS,eG,fU,cA,eV,eB,dO,cD,true_and,AO.effect,eH,cJ,eX,dT,eL,bB,aX,bX,bT,bW,bU,bV,aO,aP,aQ,bO,a8,cC,cQ,bM,fR,eI,dU,eA,dV,dE,dW,eJ,dX,d8,d7,dM,eT,dL,aM,d9,bH,dG,bA,eU,eQ,dI,bR,f9,bS,cF,bP,aT,dH,aR,dK,cG,aU,aL,dJ,bQ,eP,cI,eM,cP,cO,bY,bI,dN,aW,aN,bJ,dD,bK,bL,put,cr,bu,ev,bnd,be,fC,cE,hH,dF,dC,cT,cV,dB,cU,cW,cY,cZ,dA,dZ,cR,Ak,An,Ae,Ai,Aj,Ao,Ah,Av,Ax,Bf,ite_true,ite_false,if_true,if_false,Aq,reduceIte,decide_true,decide_false,Be,Az,beq_self_eq_true,Ag,ne_eq,not_true_eq_false,not_false_eq_true,hlt];exact Z h1 Y (.refl w h1)
  · refine(?_:∀(m k:Nat) (B:H),k+m=u.length->Ov3 w h B->Kp w h1 B->W (lim tab) (.loop ?sc ?x) [.slice fl 1 b off u.length,.aa,i64 k,.aa,.aa,.aa,.aa,.aa,.aa,.aa,.aa,.aa,.aa,.aa] B ?q1 ?q2 ?q3) u.length 0 h1 (by simp) Y (.refl w h1);intro m
    induction m with
    | zero=>
      intro k B hk hv E;rw[iF];have hlt:¬(k:Int)<u.length:=by omega
      simp only[fS,eG,fU,cA,eV,eB,dO,cD,true_and,AO.effect,eH,cJ,eX,dT,eL,bB,aX,bX,bT,bW,bU,bV,aO,aP,aQ,bO,a8,cC,cQ,bM,fR,eI,dU,eA,dV,dE,dW,eJ,dX,d8,d7,dM,eT,dL,aM,d9,bH,dG,bA,eU,eQ,dI,bR,f9,bS,cF,bP,aT,dH,aR,dK,cG,aU,aL,dJ,bQ,eP,cI,eM,cP,cO,bY,bI,dN,aW,aN,bJ,dD,bK,bL,put,cr,bu,ev,bnd,be,fC,cE,hH,dF,dC,cT,cV,dB,cU,cW,cY,cZ,dA,dZ,cR,Ak,An,Ae,Ai,Aj,Ao,Ah,Av,Ax,Bf,ite_true,ite_false,if_true,if_false,Aq,reduceIte,decide_true,decide_false,Be,Az,beq_self_eq_true,Ag,ne_eq,not_true_eq_false,not_false_eq_true,hlt];exact Z B hv E
    | succ m ih=>
      intro k B hk hv E;rw[iF];have hlt:(k:Int)<u.length:=by omega
      have h0:(0:Int)<=k:=by omega
      have R:=aA (k:=k) (by omega);obtain⟨y,z,hy,hz,I⟩:=e4 k (by simp;omega);obtain⟨row,J⟩:=aK (xs:=u) (k:=k) (by omega);rw[Ap,J]at hy;cases hy;obtain⟨v2,b2,o1,o2,o3⟩:=hv.cells b ver O e1 e2;obtain⟨z',g1,g2⟩:=o3 _ _ hz;have S:z'=z:=by
        have hs:=UZ I rfl;rcases g2 with h | ⟨k,n,_,h,_⟩ | ⟨b,b',h,_⟩
        · exact h
        · exact absurd h (hs.1 k n)
        · exact absurd h (hs.2 b)
      subst S;have U:f0 B b (off+k)=Jp z':=by unfold f0;rw[o1];exact g1
      simp only[fS,eG,fU,cA,eV,eB,dO,cD,true_and,AO.effect,eH,cJ,eX,dT,eL,bB,aX,bX,bT,bW,bU,bV,aO,aP,aQ,bO,a8,cC,cQ,bM,fR,eI,dU,eA,dV,dE,dW,eJ,dX,d8,d7,dM,eT,dL,aM,d9,bH,dG,bA,eU,eQ,dI,bR,f9,bS,cF,bP,aT,dH,aR,dK,cG,aU,aL,dJ,bQ,eP,cI,eM,cP,cO,bY,bI,dN,aW,aN,bJ,dD,bK,bL,put,cr,bu,ev,bnd,be,fC,cE,hH,dF,dC,cT,cV,dB,cU,cW,cY,cZ,dA,dZ,cR,Ak,An,Ae,Ai,Aj,Ao,Ah,Av,Ax,Bf,ite_true,ite_false,if_true,if_false,Aq,reduceIte,decide_true,decide_false,Be,Az,beq_self_eq_true,Ag,ne_eq,not_true_eq_false,not_false_eq_true,qU,hlt,h0,true_and,and_self,Bq,Ce,U];refine oC T hw I (L row (Af J)) hv fun h2 V k2=>?_;simp only[fS,eG,fU,cA,eV,eB,dO,cD,true_and,AO.effect,eH,cJ,eX,dT,eL,bB,aX,bX,bT,bW,bU,bV,aO,aP,aQ,bO,a8,cC,cQ,bM,fR,eI,dU,eA,dV,dE,dW,eJ,dX,d8,d7,dM,eT,dL,aM,d9,bH,dG,bA,eU,eQ,dI,bR,f9,bS,cF,bP,aT,dH,aR,dK,cG,aU,aL,dJ,bQ,eP,cI,eM,cP,cO,bY,bI,dN,aW,aN,bJ,dD,bK,bL,put,cr,bu,ev,bnd,be,fC,cE,hH,dF,dC,cT,cV,dB,cU,cW,cY,cZ,dA,dZ,cR,Ak,An,Ae,Ai,Aj,Ao,Ah,Av,Ax,Bf,ite_true,ite_false,if_true,if_false,Aq,reduceIte,decide_true,decide_false,Be,Az,beq_self_eq_true,Ag,ne_eq,not_true_eq_false,not_false_eq_true,R];rw[lE];simp only[G,be,cr];exact ih (k+1) h2 (by omega) V (E.trans k2)
def GL{w:PWd}{h h1:H}(hw:∀b o,w.imm b=Jp o->b<h.next){f1 f2 f3:Bool}{D:DF}(B:BnD D){E:List AV}(u:ak w (dfC f1 Jr f2 Jr f3 Jr D) E)(hv:Ov3 w h h1){Q:AV->H->Prop}(hq:∀h2,Ov3 w h h2->Kp w h1 h2->Q (.tuple []) h2):
    C (lim tab) 15 [.agg E] h1 Q:=by
  match E,u with
  | [I,J,L,O],u=>
  have r1:=u.hd;have r2:=u.tl.hd;have Y:=u.tl.tl.hd;have Z:=u.tl.tl.tl.hd;have o1:I.one=Jr:=gK r1 rfl;have o2:J.one=Jr:=gK r2 rfl;have o3:L.one=Jr:=gK Y rfl;have o4:O.one=Jr:=gK Z rfl;have R:[I,J,L,O].all AV.one=Jr:=by simp[o1,o2,o3,o4]
  rw[EN T.h15];have w1:=hv.alloc hw (.cells 0 Jr [I,J,L,O]);have G:w.imm h1.next=Jq:=by
    cases u:w.imm h1.next with
    | none=>rfl
    | some o=>have:=hw _ _ u;have:=hv.next;omega
  have y:∀{S:H},Kp w (h1.alloc (.cells 0 Jr [I,J,L,O])) S->∀i,f0 S h1.next i=[I,J,L,O][i]? :=by intro S hk i;unfold f0;rw[hk.fc h1.next (by simp) (.inr G),H.ah]
  have b1:=y (.refl w _);simp only[af15,fS,eG,fU,cA,eV,eB,dO,cD,true_and,AO.effect,eH,cJ,eX,dT,eL,bB,aX,bX,bT,bW,bU,bV,aO,aP,aQ,bO,a8,cC,cQ,bM,fR,eI,dU,eA,dV,dE,dW,eJ,dX,d8,d7,dM,eT,dL,aM,d9,bH,dG,bA,eU,eQ,dI,bR,f9,bS,cF,bP,aT,dH,aR,dK,cG,aU,aL,dJ,bQ,eP,cI,eM,cP,cO,bY,bI,dN,aW,aN,bJ,dD,bK,bL,put,cr,bu,ev,bnd,be,fC,cE,hH,dF,dC,cT,cV,dB,cU,cW,cY,cZ,dA,dZ,cR,Ak,An,Ae,Ai,Aj,Ao,Ah,Av,Ax,Bf,ite_true,ite_false,if_true,if_false,Aq,reduceIte,decide_true,decide_false,Be,Az,beq_self_eq_true,Ag,ne_eq,not_true_eq_false,not_false_eq_true,AV.cells,R,b1,Cg,Bl];refine uJ T hw Y B.n B.r w1 fun h2 U k2=>?_;have b2:=y k2;simp only[fS,eG,fU,cA,eV,eB,dO,cD,true_and,AO.effect,eH,cJ,eX,dT,eL,bB,aX,bX,bT,bW,bU,bV,aO,aP,aQ,bO,a8,cC,cQ,bM,fR,eI,dU,eA,dV,dE,dW,eJ,dX,d8,d7,dM,eT,dL,aM,d9,bH,dG,bA,eU,eQ,dI,bR,f9,bS,cF,bP,aT,dH,aR,dK,cG,aU,aL,dJ,bQ,eP,cI,eM,cP,cO,bY,bI,dN,aW,aN,bJ,dD,bK,bL,put,cr,bu,ev,bnd,be,fC,cE,hH,dF,dC,cT,cV,dB,cU,cW,cY,cZ,dA,dZ,cR,Ak,An,Ae,Ai,Aj,Ao,Ah,Av,Ax,Bf,ite_true,ite_false,if_true,if_false,Aq,reduceIte,decide_true,decide_false,Be,Az,beq_self_eq_true,Ag,ne_eq,not_true_eq_false,not_false_eq_true,b2,Cg,Bl];refine MT T hw Z B.f U fun h3 V k3=>?_;simp only[fS,eG,fU,cA,eV,eB,dO,cD,true_and,AO.effect,eH,cJ,eX,dT,eL,bB,aX,bX,bT,bW,bU,bV,aO,aP,aQ,bO,a8,cC,cQ,bM,fR,eI,dU,eA,dV,dE,dW,eJ,dX,d8,d7,dM,eT,dL,aM,d9,bH,dG,bA,eU,eQ,dI,bR,f9,bS,cF,bP,aT,dH,aR,dK,cG,aU,aL,dJ,bQ,eP,cI,eM,cP,cO,bY,bI,dN,aW,aN,bJ,dD,bK,bL,put,cr,bu,ev,bnd,be,fC,cE,hH,dF,dC,cT,cV,dB,cU,cW,cY,cZ,dA,dZ,cR,Ak,An,Ae,Ai,Aj,Ao,Ah,Av,Ax,Bf,ite_true,ite_false,if_true,if_false,Aq,reduceIte,decide_true,decide_false,Be,Az,beq_self_eq_true,Ag,ne_eq,not_true_eq_false,not_false_eq_true];exact hq _ V ((Kp.alloc w h1 _).trans (k2.trans k3))
def YF{y E f3:Bool}{D:DF}(B:BnD D):QG tab 15 [.agg (dfC y Jr E Jr f3 Jr D)]:=fun w h h1 u hb hr hv=>by
  match u,hr with
  | [v],hr=>obtain⟨G,rfl,h2⟩:=lX hr.hd;exact GL T hb B h2 hv fun h2 a b=>⟨a,b⟩
def YE{y E f3:Bool}{N:NF}(B:BnN N):QG tab 14 [.agg (nfC y Jr E Jr f3 Jr N)]:=fun w h h1 u hb hr hv=>by
  match u,hr with
  | [v],hr=>obtain⟨G,rfl,h2⟩:=lX hr.hd;exact YC T hb B h2 hv fun h2 a b=>⟨a,b⟩
end
def iA:PV->Bool
  | .int _ _=>Jr
  | .bool _=>Jr
  | .str _=>Jr
  | _=>Js
def wP{w w':PWd}{v:PV}{x:AV}(h:az w v x)(hf:iA v=Jr):az w' v x:=by
  cases h with
  | int k n=>exact .int k n
  | bool b=>exact .bool b
  | str s=>exact .str s
  | _=>simp[iA]at hf
def aGD{w w':PWd}{B:List (PV×PV)}{u:List (AV×AV)}(h:mg w B u)(hf:B.all (fun p=>iA p.1&&iA p.2)=Jr):mg w' B u:=
  ⟨h.len,fun i y z p q=>by have:=List.all_eq_true.1 hf y (Af p);rw[Aw]at this;exact⟨wP (h.get i y z p q).1 this.1,wP (h.get i y z p q).2 this.2⟩⟩
def bl.kx(f:List PV->List PV):bl->bl
  | .cells g ver cs=> .cells g ver (f cs)
  | .map ver es=>if es.all (fun p=>iA p.1&&iA p.2)=Jr then .map ver es else .gone
  | _=> .gone
def C7{f:List PV->List PV}{M:Mem}{id:Nat}{o:bl}(h:(M.map (bl.kx f))[id]? =Jp o):∃u,M[id]? =Jp u/\o=bl.kx f u:=by
  rw[Ap]at h
  cases hl:M[id]? with
  | none=>rw[hl]at h;cases h
  | some z=>rw[hl]at h;cases h;exact⟨z,rfl,rfl⟩
def nV{f:List PV->List PV}{w w':PWd}{M:Mem}(he:∀id,w'.env id=w.env id){id x:Nat}(h:af w' (M.map (bl.kx f)) id x):af w M id x:=by obtain⟨o,e,h1,h2,h3,u⟩:=h;obtain⟨y,B,rfl⟩:=C7 h1;rw[he]at h3;refine⟨y,e,B,?_,h3,u⟩;rintro rfl;exact h2 rfl
section
variable {tab:FuncId->Option AF} {c:AC} {a b:List PV} {M N:Mem} {Qn Qr:List PV->Mem->Prop} {Qe:Nat->List PV->Mem->Prop}
def Z3(E:eD a=b)(U:M.map (bl.kx eD)=N)(h:lB tab c b N Qn Qr Qe):lB tab c a M Qn Qr Qe:=by
  subst E U;intro w hh V s E
  let w':PWd:={w with n0:=hh.next,id0:=M.length}
  have hb:∀b o,w.imm b=Jp o->b<w'.n0:=fun b o hb=>s.ij hb;have Q:∀{l:List PV} {R:List AV},ak w l R->ak w' (eD l) R:=fun h=>h.age hb (fun _ _ h=>h) fun _ _ h=>h;refine h w' hh V ⟨s.imm,fun id e he=>by simpa using s.env id e he,s.blk,?_,fun i j x h1 h2=>s.inj i j x (nV (fun _=>rfl) h1) (nV (fun _=>rfl) h2),?_,Ab _⟩ (Q E)
  · intro id o Y;obtain⟨S,h1,rfl⟩:=C7 Y;have r:=s.obj id S h1
    cases S with
    | cells g ver cs=>
      obtain⟨e,G,I,u⟩:=r;refine⟨e,G,I,?_⟩
      cases y:e.blk with
      | none=>rw[y]at u;have u:cs=[]:=u;subst u;show eD []=[];simp[eD]
      | some b=>rw[y]at u;obtain⟨J,K,L⟩:=u;exact⟨J,K,Q L⟩
    | map ver B=>
      have c:(if B.all (fun p=>iA p.1&&iA p.2)=Jr then bl.map ver B else .gone)=bl.kx eD (.map ver B):=rfl;by_cases hf:B.all (fun p=>iA p.1&&iA p.2)=Jr
      · rw[<-c,if_pos hf];obtain⟨e,b,G,I,u,O,K,L⟩:=r;exact⟨e,b,G,I,u,O,K,aGD L hf⟩
      · rw[<-c,if_neg hf];trivial
    | _=>trivial
  · intro i x hl;have hl:=nV (w:=w) (w':=w') (fun _=>rfl) hl;refine⟨(s.sep i x hl).1,fun T=>?_⟩;have:=hl.lt;have T:M.length<=i:=T;omega
end
def _root_.Go.Am.PSt.ov2K{w:PWd}{h O:H}{M:Mem}(s:PSt w h M)(hv:Ov2 w h O):∃B,PSt B O (M.map (bl.kx gW))/\∀(l:List PV) (J:List AV),ak w l J->ak B (gW l) J:=by
  classical
  let B:PWd:={w with imm:=fun b=>if b<w.n0 then w.imm b else if ∃ver u,w.imm b=Jp (.cells ver Jr u)then O.get b else Jq}
  have hi:∀b o,w.imm b=Jp o->b<w.n0->B.imm b=Jp o:=fun b o hb hlt=>by show(if _ then _ else _)=_;rw[if_pos hlt];exact hb
  have hy:∀b ver u,w.imm b=Jp (.cells ver Jr u)->w.n0<=b->∃mj R,B.imm b=Jp (.cells mj Jr R)/\R.length=u.length/\∀(i:Nat) (z:AV),u[i]? =Jp z->(∀k n,z≠ .int k n)->(∀b,z≠ .bool b)->R[i]? =Jp z:=fun b ver u hb hlt=>by obtain⟨v,K,q1,q2,q3⟩:=hv.cells b ver u hb hlt;exact⟨v,K,by show(if _ then _ else _)=_;rw[if_neg (by omega),if_pos ⟨ver,u,hb⟩];exact q1,q2,q3⟩
  have rl:∀(l:List PV) (J:List AV),ak w l J->ak B (gW l) J:=fun l J h=>h.jnk (w:=w) (w':=B) rfl hi hy fun _ _ h=>h;refine⟨B,⟨?_,fun i e he=>by simpa using s.env i e he,fun i e b he hb=>Bk (s.blk i e b he hb) hv.next,?_,fun i j x h1 h2=>s.inj i j x (nV (w:=w) (fun _=>rfl) h1) (nV (w:=w) (fun _=>rfl) h2),?_,As s.base hv.next⟩,rl⟩
  · intro x S G;have G:(if x<w.n0 then w.imm x else if ∃ver u,w.imm x=Jp (.cells ver Jr u)then O.get x else Jq)=Jp S:=G;split at G
    · rename_i hlt;rw[hv.fc x (Bk hlt s.base) (.inl hlt)];exact s.imm x S G
    · split at G
      · exact G
      · cases G
  · intro i S T;obtain⟨o0,h1,rfl⟩:=C7 T;have r:=s.obj i o0 h1
    cases o0 with
    | cells g ver cs=>
      obtain⟨e,I,U,y⟩:=r;refine⟨e,I,U,?_⟩
      cases E:e.blk with
      | none=>rw[E]at y;have y:cs=[]:=y;subst y;show gW []=[];simp[gW]
      | some K=>rw[E]at y;obtain⟨L,V,Y⟩:=y;exact⟨L,by rw[hv.fc K (s.blk i e K I E) (.inr (s.sep i K ⟨_,e,h1,by simp,I,E⟩).1)];exact V,rl _ _ Y⟩
    | map ver Q=>
      have c:(if Q.all (fun p=>iA p.1&&iA p.2)=Jr then bl.map ver Q else .gone)=bl.kx gW (.map ver Q):=rfl;by_cases hf:Q.all (fun p=>iA p.1&&iA p.2)=Jr
      · rw[<-c,if_pos hf];obtain⟨e,b,I,U,y,Z,V,Y⟩:=r;exact⟨e,b,I,U,y,Z,by rw[hv.fc b (s.blk i e b I y) (.inr (s.sep i b ⟨_,e,h1,by simp,I,y⟩).1)];exact V,aGD Y hf⟩
      · rw[<-c,if_neg hf];trivial
    | _=>trivial
  · intro i x hl;have hl:=nV (w:=w) (w':=B) (fun _=>rfl) hl;refine⟨?_,(s.sep i x hl).2⟩;show(if _ then _ else _)=_;split
    · exact(s.sep i x hl).1
    · rw[if_neg (by rintro⟨v,b,hb⟩;rw[(s.sep i x hl).1]at hb;cases hb)]
section
variable {tab:FuncId->Option AF} {a:List PV} {M:Mem}
def aDE{c:AC}{u y:List PV->Mem->Prop}{B:Nat->List PV->Mem->Prop}(h:OvX tab c a M fun b N=>u (gW b) (N.map (bl.kx gW))):lB tab c a M u y B:=by intro w hh E s G;refine hU (h w hh hh E s G (.refl s.imm)) (fun L h2 ⟨b,r,o,q⟩=>?_) (fun _ _ q=>q.elim) fun _ _ _ q=>q.elim;obtain⟨I,J,K⟩:=s.ov2K o.two;exact⟨I,_,_,J,K _ _ r,q⟩
end
def AU(u y:Int)(x:Nat):Bool:=decide (aC1 x u=u)&&decide (aC1 x y=0)
structure NOk (N:NF):Prop where
  v0:0<=N.vs
  v6:N.vs<=6
  n0:0<=N.n
  n64:N.n<=64
  qz:N.es.length<=512
  st:iX N.n (-1) N.st=Jr
  fi:iX N.n (-1) N.fi=Jr
  ed:∀e∈N.es,0<=e.fr/\e.fr<N.n/\0<=e.to/\e.to<N.n/\nF N.vs e.ps e.ng=0
def zY{v n:Int} :∀{l:List Eg},oJ v n l=0->∀e∈l,0<=e.fr/\e.fr<n/\0<=e.to/\e.to<n/\nF v e.ps e.ng=0
  | [],_,e,h=>by cases h
  | x::l,h,e,he=>by
    by_cases c:x.fr<0\/n<=x.fr\/x.to<0\/n<=x.to
    · rw[uR c]at h;cases h
    · rw[yM c]at h;by_cases d:nF v x.ps x.ng=0
      · rw[if_pos d]at h;rcases List.mem_cons.1 he with rfl | he
        · exact⟨by omega,by omega,by omega,by omega,d⟩
        · exact zY h e he
      · rw[if_neg d]at h;exact absurd h d
def nI{N:NF}(h:gF N=0):NOk N:=by
  unfold gF at h;split at h
  · cases h
  · split at h
    · cases h
    · split at h
      · cases h
      · split at h
        · rename_i y B E u;exact⟨by omega,by omega,by omega,by omega,by omega,u.1,u.2,zY h⟩
        · cases h
def MA{v:Int}(u:v<=6):2^v.toNat<=64:=by
  have:v.toNat=0\/v.toNat=1\/v.toNat=2\/v.toNat=3\/v.toNat=4\/v.toNat=5\/v.toNat=6:=by omega
  rcases this with h | h | h | h | h | h | h<;>rw[h]<;>decide
def PR{u:FuncId->Option AF}(id:Nat)(first args:List PV)(M:Mem)(K:PV->Mem->Prop):EJ u (.yld id first) args M K=((∃ver r,M[id]? =Jp (.loop ver r))/\TJ u id (first++args) M K):=rfl
section
variable {tab:FuncId->Option AF} (T:HasA tab){M:Mem}{K:PV->Mem->Prop}
include T
def aIU{u B:Int}{x:Nat}(I:0<=u/\u<=255)(J:0<=B/\B<=255)(L:x<256)(E:K (.bool (AU u B x)) M):
    au tab 214 [.agg [p8 u,p8 B],p8 x] M K:=by
  refine aB T.h214 (by simp only[PP,simprocAttr]) ?_;have h1:=mN (x:=x) (y:=u) (by omega) I;have h2:=mN (x:=x) (y:=B) (by omega) J;simp only[af214,PP,simprocAttr,h1,h2];refine QIf.intro (fun G=>?_) fun G=>?_
  · simp only[PP,simprocAttr,G,h2,AU]at E ⊢;exact E
  · simp only[PP,simprocAttr,G,AU]at E ⊢;exact E
end
abbrev sG(b:BitVec 64):PV:= .int .u64 ((b.toNat:Nat):Int)
abbrev slW(f o:Bool)(a:Wd):PV:= .sl f o 1 a.length ((wI a).map (PV.int .u64))
def aAs{a:Wd}{i:Nat}(h:i<a.length):(wI a)[i]? =Jp (((wAt a i).toNat:Nat):Int):=by rw[Ap,Ad h,vG (Ad h)];rfl
def aHk{x y:Int}(h:y≠0):eE .quo (.int .i64 x) (.int .i64 y)=Jp (.int .i64 (IntKind.i64.wrap (x.tdiv y))):=by simp[eE,eZ,i7,bd,h,eY,gG]
def oB{k:IntKind}{x y:Int} :tZ (.int k x) [.int k y]=Jp (.int k (min x y)):=by simp[tZ,eZ,kA,oI,D8,bd];split<;>omega
def WP{j:Nat}(h:j<4000000000000):IntKind.i64.wrap (((j+1:Nat):Int)-1)=(j:Int):=by rw[wrap64 (by omega) (by omega)];omega
def aHH{g ver m:Nat}{W:Wd}(h:m<=W.length):uO (Jp (.cells g ver ((wI W).map (PV.int .u64)))) g 1 0 m=Jp (slW Js Jr (W.take m)):=by
  rw[gT (by simp;omega) (b9 _ _ _)];have h1:dQ ((wI W).map (PV.int .u64)) 0 (m*1)=(wI (W.take m)).map (PV.int .u64):=by simp[dQ,List.map_take]
  have h2:(W.take m).length=m:=by rw[Ay];omega
  rw[h1];unfold slW;rw[h2]
def U0{α:Type}(z x:α):∀n:Nat,(z::Ae n z).set n x=Ae n z++[x]
  | 0=>rfl
  | n+1=>by rw[Dv,List.replicate_succ,U0 z x n];rfl
section
variable {tab:FuncId->Option AF} (T:HasA tab){M:Mem}{K:PV->Mem->Prop}
include T
def aCW{f o:Bool}{a:Wd}{i:Nat}(u:K (sG (wAt a i)) M):
    au tab 215 [slW f o a,p64 i] M K:=by
  refine aB T.h215 (by simp only[PP,simprocAttr]) ?_;simp only[af215,PP,simprocAttr];refine QIf.intro (fun c=>?_) fun c=>?_
  · have y:i<a.length:=by omega
    have B:(0:Int)<=i:=by omega
    have g:=aAs y;rw[Ap]at g;simp only[PP,simprocAttr,c,g,B];exact u
  · rw[nX (by omega)]at u;simp only[PP,simprocAttr,c];exact u
def VZ{id g off n ver:Nat}{cs:List PV}(u:M[id]? =Jp (.cells g ver cs))(y:K (.ref id g 1 off n) M):
    au tab 216 [.ref id g 1 off n] M K:=by
  refine aV T.h216 ?_;have e:((n:Int)-0).toNat=n:=by omega
  have B:(0:Int)<=n:=by omega
  simp only[af216,PP,simprocAttr,u,e,B,Dw];exact y
def G7{U V Y Z:Bool}{a b:Wd}{g:FuncId}(op:BitVec 64->BitVec 64->BitVec 64)(ha:a.length<big)(hb:b.length<big)
    (Q:∀(M:Mem) (K:PV->Mem->Prop) (x y:BitVec 64),K (sG (op x y)) M->au tab g [sG x,sG y] M K) (hk:K (slW Js Jr (cmb op a b)) M):
    au tab 182 [slW U V a,slW Y Z b,.func (.func g) [] []] M K:=by
  refine aB T.h182 (by simp only[PP,simprocAttr]) ?_;simp only[af182,PP,simprocAttr];have hn:min (max (a.length:Int) b.length) 64=((min (max a.length b.length) 64:Nat):Int):=by omega
  have G:K (slW Js Jr (xI (pB op a b (min (max a.length b.length) 64)))) M:=hk;generalize a1:min (max a.length b.length) 64=n at hn G;have a0:n<=64:=by omega
  simp only[PP,simprocAttr,oB,hn];refine cK (GStep.nil 8 1 rfl rfl rfl) ?_;simp only[dr,Ai,Aj,Ak,An,Ax];refine iN (fun(i E:Nat)=>i<=n)
    (fun i E=>(slW U V a::slW Y Z b:: .func (.func g) [] []::zj 4++ .func (.func 215) [] []:: .ref 0 E 1 0 i::zj 6++p64 n::p64 i::zj 35))
    (fun i E=>[.cells E 0 ((wI (pB op a b i)).map (PV.int .u64))])
    (fun i _=>n-i) 0 0 (by omega) ?_
  intro i E hi ih;refine aH (by kernel_rfl) ?_;simp only[PP,simprocAttr];refine QIf.intro (fun c=>?_) fun c=>?_
  · have J:i<n:=by omega
    have hw:=aA (k:=i) (by show _<1000000000000;omega);have b1:(i+1)*8<=140737488355328:=by omega
    have b2:i<=9223372036854775806:=by omega
    have b3:i<=(pB op a b i).length:=by rw[pX];omega
    have R:dQ (Gk (PV.int .u64) (wI (pB op a b i))) 0 i=Gk (PV.int .u64) (wI (pB op a b i)):=cN _ _ (by rw[Ag,Ag,pX]);simp only[PP,simprocAttr,c];refine aCW T ?_;simp only[PP,simprocAttr];refine aCW T ?_;simp only[PP,simprocAttr];refine Q _ _ _ _ ?_;simp only[PP,simprocAttr,b1,b2,b3,R,hw];exact bZ (ih (i+1) (E+1) (by omega) (by omega)) (by simp only[PW]) (by rw[Y8];simp)
  · have J:i=n:=by omega
    subst J;simp only[PP,simprocAttr,c];have L:=pX op a b i;generalize pB op a b i=W at G L ⊢;refine fT (fun(m:Nat)=>m<=i/\kS W m=kS W W.length)
      (fun m=>(zj 8++ .ref 0 E 1 0 m::zj 43)) (fun m=>[.cells E 0 ((wI W).map (PV.int .u64))]) (fun m=>m) i ⟨by omega,by rw[L]⟩ ?_
    intro m ⟨hm,B⟩ S;have u:kS W m=m->K (slW Js Jr (W.take m)) M:=fun e=>by have O:K (slW Js Jr (W.take (kS W W.length))) M:=G;rw[<-B,e]at O;exact O
    refine aH (by kernel_rfl) ?_;simp only[PP,simprocAttr];refine QIf.intro (fun d=>?_) fun d=>?_
    · obtain⟨j,rfl⟩:∃j,m=j+1:=⟨m-1,by omega⟩;have hw:=WP (j:=j) (by omega);have j0:(0:Int)<=j:=by omega
      have j1:(j:Int)<((j+1:Nat):Int):=by omega
      have gj:=aAs (a:=W) (i:=j) (by omega);rw[Ap]at gj;have e2:((j:Int)-0).toNat=j:=by omega
      have j2:(j:Int)<=((j+1:Nat):Int):=by omega
      simp only[PP,simprocAttr,hw,j0,j1,gj,d];have et:kS W (j+1)=if wAt W j=0#64 then kS W j else j+1:=rfl
      rw[et]at B u;refine QIf.intro (fun e=>?_) fun e=>?_
      · have hz:wAt W j=0#64:=Fs (by simpa using e);rw[if_pos hz]at B;simp only[PP,simprocAttr,e,hw,j0,j2,e2];exact aG (S j ⟨by omega,B⟩ (by omega))
      · have hz:¬wAt W j=0#64:=fun h=>e (by rw[h];rfl);rw[if_neg hz]at u;have I:=u rfl;simp only[PP,simprocAttr,e];refine VZ T rfl ?_;simp only[PP,simprocAttr,aHH (W:=W) (m:=j+1) (by omega)];exact I
    · have:m=0:=by omega
      subst this;have I:=u rfl;simp only[PP,simprocAttr,d];refine VZ T rfl ?_;simp only[PP,simprocAttr,aHH (W:=W) (m:=0) (by omega)];exact I
def aII{x y:BitVec 64}(u:K (sG (x||| y)) M):au tab 211 [sG x,sG y] M K:=by refine aB T.h211 (by simp only[PP,simprocAttr]) ?_;simp only[af211,PP,simprocAttr,GK];exact u
def aH0{x y:BitVec 64}(u:K (sG (x&&& y)) M):au tab 183 [sG x,sG y] M K:=by refine aB T.h183 (by simp only[PP,simprocAttr]) ?_;simp only[af183,PP,simprocAttr,uI];exact u
def aEe{u B E G:Bool}{a b:Wd}(I:a.length<big)(hb:b.length<big)(J:K (slW Js Jr (cmb (fun x y=>x||| y) a b)) M):
    au tab 175 [slW u B a,slW E G b] M K:=by
  refine aB T.h175 (by simp only[PP,simprocAttr]) ?_;simp only[af175,PP,simprocAttr];refine G7 T (fun x y=>x||| y) I hb (fun M K x y h=>aII T h) ?_;simp only[PP,simprocAttr];exact J
def N9{u B E G:Bool}{a b:Wd}(I:a.length<big)(hb:b.length<big)(J:K (slW Js Jr (cmb (fun x y=>x&&& y) a b)) M):
    au tab 146 [slW u B a,slW E G b] M K:=by
  refine aB T.h146 (by simp only[PP,simprocAttr]) ?_;simp only[af146,PP,simprocAttr];refine G7 T (fun x y=>x&&& y) I hb (fun M K x y h=>aH0 T h) ?_;simp only[PP,simprocAttr];exact J
def LM{k:Nat}(h:k<4096)(B:K (slW Js Jr (rQ k)) M):au tab 176 [p64 k] M K:=by
  refine aB T.h176 (by simp only[PP,simprocAttr]) ?_;have E:¬(k:Int)<0:=by omega
  have k1:¬(4095:Int)<k:=by omega
  have u:(64:Int)≠0:=by omega
  have G:IntKind.i64.wrap ((k:Int).tdiv 64)=((k / 64:Nat):Int):=by rw[Int.tdiv_eq_ediv_of_nonneg (by omega),wrap64 (by omega) (by omega)];omega
  have I:(k:Int).tmod 64=((k % 64:Nat):Int):=by rw[Int.tmod_eq_emod_of_nonneg (by omega)];omega
  have J:=aA (k:=k / 64) (by show _<1000000000000;omega);have L:(0:Int)<=((k / 64+1:Nat):Int):=by omega
  have O:((k / 64+1:Nat):Int)*8<=140737488355328:=by omega
  have Q:((k / 64+1:Nat):Int)<=9223372036854775807:=by omega
  have R:(0:Int)<=((k / 64:Nat):Int):=by omega
  have S:((k / 64:Nat):Int)<((k / 64+1:Nat):Int):=by omega
  have V:k / 64+1<=k / 64+1:=Ab _;have y:=CZ (k:=k % 64) (Ea _ (by omega));simp only[af176,PP,simprocAttr,E,k1,aA6 u,aHk u,G,I,J,L,O,Q,R,S,y,Dw];have U:Ae (k / 64) (PV.int .u64 0)++[PV.int .u64 (((Da 64 (k % 64)).toNat:Nat):Int)]=(wI (rQ k)).map (PV.int .u64):=by
    simp[rQ]
  have hl:=pG k;rw[U0,U];have ht:(rQ k).take (k / 64+1)=rQ k:=Bo (by omega);simp only[PP,simprocAttr,aHH (W:=rQ k) (m:=k / 64+1) (by omega),ht];exact B
def aGT{f o:Bool}{a:Wd}{k:Nat}(u:a.length<big)(h:k<4096)(y:K (slW Js Jr (vF a k)) M):au tab 140 [slW f o a,p64 k] M K:=by refine aB T.h140 (by simp only[PP,simprocAttr]) ?_;simp only[af140,PP,simprocAttr];refine LM T h ?_;simp only[PP,simprocAttr];refine aEe T u (by rw[pG];show _<1000000000000;omega) ?_;simp only[PP,simprocAttr];exact y
def JI{u B E G:Bool}{a b:Wd}(I:a.length<big)(hb:b.length<big)(J:K (.bool (decide (0<(cmb (fun x y=>x&&& y) a b).length))) M):
    au tab 85 [slW u B a,slW E G b] M K:=by
  refine aB T.h85 (by simp only[PP,simprocAttr]) ?_;simp only[af85,PP,simprocAttr];refine N9 T I hb ?_;simp only[PP,simprocAttr,Int.natCast_pos];exact J
end
abbrev vW(f o y B:Bool)(u:List (List Bool)):PV:= .sl f o 1 u.length (u.map (slB y B))
def aC4{a:Wd}{k:Nat}(u:a.length<=64)(B:k<4096):decide (0<(cmb (fun x y=>x&&& y) a (rQ k)).length)=bit a k:=by
  have hs:(rQ k).length<=64:=by rw[pG];omega
  cases hb:bit a k with
  | true=>refine decide_eq_true (Nat.pos_of_ne_zero fun h=>?_);have:=(VY a (rQ k)).1 h k;rw[AB u hs,D4,hb]at this;simp at this
  | false=>
    refine decide_eq_false fun h=>?_;have:(cmb (fun x y=>x&&& y) a (rQ k)).length=0:=(VY a (rQ k)).2 fun j=>by
      rw[AB u hs,D4];by_cases e:j=k
      · subst e;rw[hb];rfl
      · simp[e]
    omega
section
variable {tab:FuncId->Option AF} (T:HasA tab){M:Mem}{K:PV->Mem->Prop}
include T
def aFA{f o:Bool}{a:Wd}{k:Nat}(y:a.length<=64)(u:k<4096)(B:K (.bool (bit a k)) M):
    au tab 181 [slW f o a,p64 k] M K:=by
  refine aB T.h181 (by simp only[PP,simprocAttr]) ?_;simp only[af181,PP,simprocAttr];refine LM T u ?_;simp only[PP,simprocAttr];refine JI T (by show _<1000000000000;omega) (by show _<1000000000000;rw[pG];omega) ?_;simp only[PP,simprocAttr,aC4 y u];exact B
end
def m9{n:Int}{l:List Int}(h:iX n (-1) l=Jr):∀x∈l,0<=x/\x<n:=fun x u=>by have:=(mM h).2 x u;omega
def faW(l:List Int):Wd:=ofL (l.map Db)
def aGE{N:NF}(C:NOk N){l:List Int}(h:iX N.n (-1) l=Jr):(∀x∈l.map Db,x<4096)/\(faW l).length<=64/\∀k:Nat,bit (faW l) k=decide ((k:Int)∈l):=by
  have hm:=m9 h;have B:=C.n64;have h1:∀x∈l.map Db,x<4096:=fun x E=>by obtain⟨y,u,rfl⟩:=List.mem_map.1 E;have:=hm y u;omega
  refine⟨h1,aET h1,fun k=>?_⟩;rw[faW,aFC h1,decide_eq_decide,Ew];exact⟨fun⟨y,u,e⟩=>by have:=hm y u;rw[show(k:Int)=y by omega];exact u,fun G=>⟨k,G,by simp⟩⟩
def MD{n:Int}{l:List Int}(h:iX n (-1) l=Jr)(G:n<=64):l.length<=64:=by
  obtain⟨h1,h2⟩:=mM h;have u:∀(l:List Int) (a:Int),l.Pairwise (· < ·)->(∀x∈l,a<x/\x<n)->(l.length:Int)<=max 0 (n-a-1):=by
    intro l
    induction l with
    | nil=>intro a _ _;simp;omega
    | cons x l B=>intro a E y;have h1:=List.pairwise_cons.1 E;have h2:=B x h1.2 fun z hz=>⟨h1.1 z hz,(y z (by simp[hz])).2⟩;have h3:=y x (by simp);rw[Ak];omega
  have:=u l (-1) h1 h2;omega
section
variable {tab:FuncId->Option AF} (T:HasA tab){M:Mem}{K:PV->Mem->Prop}
include T
end
def pP(u:List Eg)(x:Nat):List Eg:=u.filter fun e=>AU e.ps e.ng x
def aJa(u:List Eg)(s:Wd)(x:Nat)(o:Wd):Prop:=o.length<=64/\∀k:Nat,bit o k=Jr↔∃e∈pP u x,bit s e.fr.toNat=Jr/\e.to=k
def aCX{a:Wd}{k:Nat}(y:a.length<=64)(B:k<4096):(vF a k).length<=64/\∀j,bit (vF a k) j=(bit a j||decide (j=k)):=by have:=IW [k] a y (fun x u=>by simp at u;subst u;exact B);refine⟨this.1,fun j=>?_⟩;have h:=this.2 j;simpa using h
section
variable {tab:FuncId->Option AF} (T:HasA tab){M:Mem}{K:PV->Mem->Prop}
include T
def SD{u y B E f3 G:Bool}{N:NF}{x:Nat}(J:K (.func (.func 213) [] [.cp (nfC u y B E f3 G N) 0,.cp [p8 x] 0]) M):
    au tab 180 [.agg (nfC u y B E f3 G N),p8 x] M K:=by
  refine eC T.h180 (by simp only[PP,simprocAttr,aZ]) ?_;simp only[af180];refine aE (aC ?_);simp only[PP,simprocAttr];refine cK (GStep.dz (b:=(.aa:: .aa:: .cp (nfC u y B E f3 G N) 0:: .ptr 1 0 0:: .aa:: .aa::[])) 0 (Au _) rfl (by simp only[mX,mY,Ai,Aj,iD,gJ,gI,iC]) rfl) ?_;refine cK (GStep.dz (b:=(.aa:: .aa:: .cp (nfC u y B E f3 G N) 0:: .cp [p8 x] 0:: .aa:: .aa::[])) 1 (Au _) rfl (by simp only[mX,mY,Ai,Aj,iD,gJ,gI,iC]) rfl) ?_;refine aC ?_;have e:∀I:Mem,lR 0 I (.func (.func 213) [] [.cp (nfC u y B E f3 G N) 0,.cp [p8 x] 0])=Jp (.func (.func 213) [] [.cp (nfC u y B E f3 G N) 0,.cp [p8 x] 0]):=fun I=>zM (M:=I) (by simp only[PP,simprocAttr,PV.under,fN]);simp only[PP,simprocAttr,e];exact J
def aBY{L:Nat}{Z o1 f2 o2 f3 U:Bool}{N:NF}{x:Nat}(hx:x<256)(he:N.es.length<1000000000000)(B:∀e∈N.es,(0<=e.ps/\e.ps<=255)/\(0<=e.ng/\e.ng<=255))(J:Nat->Mem->Prop)(h0:J 0 M)(hg:∀k G o,J k G->J k (G++[o]))
    (hl:∀k G,J k G->∃ver r,G[L]? =Jp (.loop ver r))
    (hy:∀k G e,J k G->(pP N.es x)[k]? =Jp e->∀V:PV->Mem->Prop,(∀E,J (k+1) E->V (.bool Jr) E)->TJ tab L [.agg (egC e)] G V)
    (hk:∀G,J (pP N.es x).length G->K (.tuple []) G):
    au tab 213 [.yld L [],.cp (nfC Z o1 f2 o2 f3 U N) 0,.cp [p8 x] 0] M K:=by
  refine aV T.h213 ?_;simp only[af213,PP,simprocAttr];refine iN (fun(i:Nat) (G:Mem)=>i<=N.es.length/\J (pP (N.es.take i) x).length G) (fun i G=>(.yld L []:: .aa:: .cp [p8 x] 0::zj 4++slE f3 U N.es::p64 N.es.length::p64 i::zj 17)) (fun _ G=>G) (fun i _=>N.es.length-i) 0 M ⟨by omega,h0⟩ ?_;intro i G ⟨a0,y⟩ Y;refine aH (by kernel_rfl) ?_;simp only[PP,simprocAttr];refine QIf.intro (fun c=>?_) fun c=>?_;rotate_left
  · have hi:i=N.es.length:=by omega
    subst hi;rw[Bo (Ab _)]at y;simp only[PP,simprocAttr,c];exact hk G y
  have O:i<N.es.length:=by omega
  obtain⟨e,I⟩:=aK O;have hw:=aA (k:=i) (by show _<1000000000000;omega);have i0:(0:Int)<=i:=by omega
  have h4:=oA I;have Q:i*4+4<=(egL N.es).length:=by rw[kN];exact OQ I
  obtain⟨b1,b2⟩:=B e (Af I);have u:pP (N.es.take (i+1)) x=pP (N.es.take i) x++if AU e.ps e.ng x=Jr then [e]else []:=by unfold pP;rw[Bx,I,Gl];congr 1;by_cases q:AU e.ps e.ng x=Jr<;>simp[q]
  simp only[PP,simprocAttr,c,i0,h4,Q,Ac,gk,gk0,sk,sk0];refine aIU T b1 b2 hx ?_
  cases q:AU e.ps e.ng x with
  | false=>rw[q]at u;simp only[PP,simprocAttr,hw];refine bZ (Y (i+1) (G++[.cells 0 1 (egC e)]) ⟨by omega,?_⟩ (by omega)) (by simp only[PW]) rfl;rw[u];simp;exact hg _ _ _ y
  | true=>
    rw[q]at u;have R:(pP N.es x)[(pP (N.es.take i) x).length]? =Jp e:=by
      have:pP N.es x=pP (N.es.take (i+1)) x++pP (N.es.drop (i+1)) x:=by unfold pP;rw[<-Gl,Cu]
      rw[this,u,Ac,Bv (Ab _),Dr];simp
    simp only[PP,simprocAttr,Ac,gk,gk0,sk,sk0,PR];refine⟨hl _ _ (hg _ _ _ y),?_⟩;refine hy _ _ e (hg _ _ _ y) R _ fun E S=>?_;simp only[PP,simprocAttr,hw];refine aG (Y (i+1) E ⟨by omega,?_⟩ (by omega));rw[u];simpa using S
end
def UG(u:Int)(w:List Int):Int:=if 64<(w.length:Int)then 4 else if w.any (fun x=>decide (2^u.toNat<=x))=Jr then 1 else 0
section
variable {tab:FuncId->Option AF} (T:HasA tab){M:Mem}{K:PV->Mem->Prop}
include T
def aHD{f o:Bool}{u:List Int}{g:FuncId}{B:List PV}{F:Int->Bool}(hm:u.length<1000000000000)(V:aD 0 B=Jr)
    (hf:∀x∈u,∀(R:Mem) (S:PV->Mem->Prop),S (.bool (F x)) R->au tab g (p8 x::B) R S)
    (G:(∀x∈u,F x=Js)->K (p64 (-1)) M) (I:∀(k:Nat) (x:Int),x∈u->F x=Jr->K (p64 k) M):
    au tab 212 [slI f o .u8 u,.func (.func g) [] B] M K:=by
  refine aB T.h212 (by simp only[PP,simprocAttr,PV.under,V]) ?_;simp only[af212,PP,simprocAttr];refine fT (fun(k:Nat)=>k<=u.length/\∀j,j<k->∀x,u[j]? =Jp x->F x=Js) (fun k=>(slI f o .u8 u:: .func (.func g) [] B::zj 5++p64 u.length::p64 k::zj 10))
    (fun k=>[]) (fun k=>u.length-k) 0 ⟨by omega,by intro j h;omega⟩ ?_
  intro k ⟨Y,hd⟩ Z;refine aH (by kernel_rfl) ?_;simp only[PP,simprocAttr];refine QIf.intro (fun c=>?_) fun c=>?_
  · have J:k<u.length:=by omega
    have k0:(0:Int)<=k:=by omega
    have L:=aA (k:=k) (by show _<1000000000000;omega);obtain⟨x,E⟩:=aK (xs:=u) (k:=k) J;simp only[PP,simprocAttr,c,k0,E];refine hf x (Af E) _ _ ?_
    cases U:F x with
    | true=>simp only[PP,simprocAttr];exact I k x (Af E) U
    | false=>
      simp only[PP,simprocAttr,L];refine aG (Z (k+1) ⟨by omega,fun j O y Q=>?_⟩ (by omega));by_cases e:j=k
      · subst e;rw[E]at Q;cases Q;exact U
      · exact hd j (by omega) y Q
  · simp only[PP,simprocAttr,c];exact G fun x hx=>by obtain⟨j,O⟩:=List.getElem?_of_mem hx;exact hd j (by have:=aF O;omega) x O
def aFx{f o:Bool}{y:List Int}{g:FuncId}{u:List PV}{F:Int->Bool}(hm:y.length<1000000000000)(G:aD 0 u=Jr)
    (hf:∀x∈y,∀(I:Mem) (J:PV->Mem->Prop),J (.bool (F x)) I->au tab g (p8 x::u) I J)
    (B:(∀x∈y,F x=Js)->K (.bool Js) M) (E:(∃x,x∈y/\F x=Jr)->K (.bool Jr) M):
    au tab 178 [slI f o .u8 y,.func (.func g) [] u] M K:=by
  refine aB T.h178 (by simp only[PP,simprocAttr,PV.under,G]) ?_;simp only[af178,PP,simprocAttr];refine aHD T hm G hf (fun h=>?_) fun k x L O=>?_
  · have e:¬(0:Int)<=-1:=by omega
    simp only[PP,simprocAttr,e];exact B h
  · have e:(0:Int)<=k:=by omega
    simp only[PP,simprocAttr,e];exact E ⟨x,L,O⟩
def aEb{u y B E f3 G:Bool}{N:NF}{x:Int}(C:NOk N)(J:0<=x/\x<=255)(I:K (.bool (decide (2^N.vs.toNat<=x))) M):au tab 179 [p8 x,.cp (nfC u y B E f3 G N) 0] M K:=by refine aB T.h179 (by simp only[PP,simprocAttr,PV.under,fN]) ?_;have L:=C.v0;have O:=C.v6;have w:IntKind.i64.wrap x=x:=wrap64 (by omega) (by omega);have sh:=aIH (v:=N.vs) (by omega) (by omega);simp only[af179,PP,simprocAttr,w,sh];exact I
def aGS{E G I J f3 L O Q:Bool}{N:NF}{w:List Int}(C:NOk N)(hw:∀x∈w,0<=x/\x<=255)(hl:w.length<1000000000000)(u:K (p64 (UG N.vs w)) M):
    au tab 143 [.agg (nfC E G I J f3 L N),slI O Q .u8 w] M K:=by
  refine eC T.h143 (by simp only[PP,simprocAttr,aZ]) ?_;simp only[af143];refine aE (aC ?_);simp only[PP,simprocAttr];refine cK (GStep.dz (b:=(.aa::slI O Q .u8 w:: .cp (nfC E G I J f3 L N) 0:: .aa::p64 0::zj 8)) 0 (Au _) rfl (by simp only[mX,mY,Ai,Aj,iD,gJ,gI,iC]) rfl) ?_;refine aC ?_;simp only[PP,simprocAttr];unfold UG at u;refine QIf.intro (fun c=>?_) fun c=>?_
  · rw[if_pos c]at u;simp only[PP,simprocAttr,c];exact u
  rw[if_neg c]at u;simp only[PP,simprocAttr,c];refine aFx T (F:=fun x=>decide (2^N.vs.toNat<=x)) hl (by simp only[PP,simprocAttr,PV.under,fN]) (fun x y S U B=>aEb T C (hw x y) B) (fun h=>?_) (fun⟨x,y,R⟩=>?_)
  · rw[if_neg (by rw[Bool.not_eq_true,List.any_eq_false];intro x y;rw[h x y];decide)]at u;simp only[PP,simprocAttr];exact u
  · rw[if_pos (List.any_eq_true.2 ⟨x,y,R⟩)]at u;simp only[PP,simprocAttr];exact u
end
def eW(x:BitVec 64):List Nat:=(Ba 64).filter fun k=>x.getLsbD k
def fj{x:BitVec 64}{k:Nat} :k∈eW x↔x.getLsbD k=Jr:=by
  unfold eW;rw[Ek,List.mem_range];constructor
  · exact fun h=>h.2
  · intro h;refine⟨Cd fun q=>?_,h⟩;rw[Fe _ _ (by omega)]at h;cases h
def ZE{x y:BitVec 64}(h:eW x=eW y):x=y:=by refine Fc fun i u=>?_;have h1:=fj (x:=x) (k:=i);have h2:=fj (x:=y) (k:=i);rw[h]at h1;exact Bool.eq_iff_iff.2 (h1.symm.trans h2)
def aEW{x:BitVec 64}{k:Nat}(h1:x.getLsbD k=Jr)(h2:∀j,j<k->x.getLsbD j=Js)(i:Nat):(-x).getLsbD i=if i<k then Js else if i=k then Jr else(decide (i<64)&& !x.getLsbD i):=by
  have E:k<64:=by refine Cd fun q=>?_;rw[Fe _ _ (by omega)]at h1;cases h1
  rw[BitVec.getLsbD_neg];by_cases u:i<k
  · rw[if_pos u,h2 i u];have:¬∃j,j<i/\x.getLsbD j=Jr:=by rintro⟨j,a,b⟩;rw[h2 j (by omega)]at b;cases b
    simp[this]
  · rw[if_neg u];by_cases y:i=k
    · subst y;rw[if_pos rfl,h1];have:¬∃j,j<i/\x.getLsbD j=Jr:=by rintro⟨j,a,b⟩;rw[h2 j a]at b;cases b
      simp[this]
    · rw[if_neg y];have:∃j,j<i/\x.getLsbD j=Jr:=⟨k,by omega,h1⟩;by_cases B:i<64
      · simp[this,B]
      · rw[Fe x _ (by omega)];simp[B]
def O6{x:BitVec 64}{k:Nat}(h1:x.getLsbD k=Jr)(h2:∀j,j<k->x.getLsbD j=Js):x&&& -x=Da 64 k:=by
  have E:k<64:=by refine Cd fun q=>?_;rw[Fe _ _ (by omega)]at h1;cases h1
  refine Fc fun i B=>?_;rw[Iy,aEW h1 h2,Hb];by_cases u:i<k
  · have:¬k=i:=by omega
    simp[u,this]
  · by_cases y:i=k
    · subst y;simp[h1,B]
    · have:¬k=i:=by omega
      cases G:x.getLsbD i<;>simp[u,y,this]
def aAx:((Ba 64).all fun k=>tzTab[2^k*285870213051353865 % 18446744073709551616 / 288230376151711744]? ==Jp k)=Jr:=by decide+kernel
def KW(x:Int):IntKind.u64.wrap x=x % 18446744073709551616:=by simp only[IntKind.wrap,IntKind.signed,IntKind.bits];simp
def aEV(x:BitVec 64):Bs 64 (IntKind.u64.wrap (-((x.toNat:Nat):Int)))= -x:=by rw[KW];have hl:=x.isLt;apply Fs;rw[BitVec.toNat_ofInt,BitVec.toNat_neg];omega
def aIw{x:BitVec 64}{k:Nat}(h1:x.getLsbD k=Jr)(h2:∀j,j<k->x.getLsbD j=Js):tzF ((x.toNat:Nat):Int)=k:=by
  have u:k<64:=by refine Cd fun q=>?_;rw[Fe _ _ (by omega)]at h1;cases h1
  have y:¬((x.toNat:Nat):Int)=0:=by
    intro h;have:x=0#64:=by apply Fs;simp;omega
    rw[this]at h1;simp at h1
  have B:UR ((x.toNat:Nat):Int)=((2^k:Nat):Int):=by unfold UR;have E:Bs IntKind.u64.bits ((x.toNat:Nat):Int)=x:=SX x;have G:Bs IntKind.u64.bits (IntKind.u64.wrap (-((x.toNat:Nat):Int)))= -x:=aEV x;rw[E,G];have I:=O6 h1 h2;show IntKind.u64.wrap ((((x&&& -x).toNat:Nat):Int))=_;rw[I,tD (BitVec.isLt _),BitVec.toNat_twoPow,Fy (Iw (by omega) u)]
  have J:tzIdx ((x.toNat:Nat):Int)=((2^k*285870213051353865 % 18446744073709551616 / 288230376151711744:Nat):Int):=by unfold tzIdx;rw[B,KW];omega
  have ht:=List.all_eq_true.1 aAx k (List.mem_range.2 u);unfold tzF;rw[if_neg y,J,Bq];rw[beq_iff_eq]at ht;rw[ht];rfl
section
variable {tab:FuncId->Option AF} (T:HasA tab){M:Mem}{K:PV->Mem->Prop}
include T
def aJd{x:BitVec 64}{k:Nat}(B:tzF ((x.toNat:Nat):Int)=k)(E:K (p64 k) M):au tab 185 [sG x] M K:=by
  intro w h u h0 s y
  match u,y with
  | [v],y=>
  have hv:=gX y.hd;subst hv;unfold C;refine⟨.int .i64 k,h,?_,w,p64 k,M,eg.refl (Ab _) w h,s,.int _ _,E⟩;rw[wJ];simp only[kV,T.tz,primTz,IK,B]
end
def digS:ByteArray:=⟨#[48,49,50,51,52,53,54,55,56,57,97,98,99,100,101,102,103,104,105,106,107,108,109,110,111,112,113,114,115,116,117,118,119,120,121,122]⟩
def smlS:ByteArray:=⟨#[48,48,48,49,48,50,48,51,48,52,48,53,48,54,48,55,48,56,48,57,49,48,49,49,49,50,49,51,49,52,49,53,49,54,49,55,49,56,49,57,50,48,50,49,50,50,50,51,50,52,50,53,50,54,50,55,50,56,50,57,51,48,51,49,51,50,51,51,51,52,51,53,51,54,51,55,51,56,51,57,52,48,52,49,52,50,52,51,52,52,52,53,52,54,52,55,52,56,52,57,53,48,53,49,53,50,53,51,53,52,53,53,53,54,53,55,53,56,53,57,54,48,54,49,54,50,54,51,54,52,54,53,54,54,54,55,54,56,54,57,55,48,55,49,55,50,55,51,55,52,55,53,55,54,55,55,55,56,55,57,56,48,56,49,56,50,56,51,56,52,56,53,56,54,56,55,56,56,56,57,57,48,57,49,57,50,57,51,57,52,57,53,57,54,57,55,57,56,57,57]⟩
def pS(n:Nat):ByteArray:=if n<10 then digS.extract n (n+1)else smlS.extract (2*n) (2*n+2)
def aCo:((Ba 100).all fun a=>(Ba 100).all fun b=>decide (a=b)|| !((pS a).data.toList==(pS b).data.toList))=Jr:=by decide+kernel
def aCn{a b:Nat}(u:a<100)(hb:b<100)(h:pS a=pS b):a=b:=by have:=(List.all_eq_true.1 ((List.all_eq_true.1 aCo) a (List.mem_range.2 u))) b (List.mem_range.2 hb);rw[h]at this;simpa using this
section
variable {tab:FuncId->Option AF} (T:HasA tab){M:Mem}{K:PV->Mem->Prop}
include T
def UW{n:Nat}(G:n<100)(u:K (.str (pS n)) M):
    au tab 206 [p64 n] M K:=by
  refine aB T.h206 (by simp only[PP,simprocAttr]) ?_;simp only[af206,PP,simprocAttr];have y:IntKind.i64.wrap ((n:Int)+1)=((n+1:Nat):Int):=aA (by show _<1000000000000;omega);have B:IntKind.i64.wrap ((n:Int)*2)=((2*n:Nat):Int):=by rw[wrap64]<;>omega
  have E:IntKind.i64.wrap (((2*n:Nat):Int)+2)=((2*n+2:Nat):Int):=by rw[wrap64]<;>omega
  refine QIf.intro (fun c=>?_) fun c=>?_
  · simp only[PP,simprocAttr,c,y,PT,Hc];refine⟨⟨by omega,by omega,?_⟩,?_⟩
    · show((n+1:Nat):Int)<=((36:Nat):Int);omega
    · have e:pS n=digS.extract n (n+1):=by unfold pS;rw[if_pos (by omega)]
      rw[e]at u;exact u
  · simp only[PP,simprocAttr,c,B,E,PT,Hc];refine⟨⟨by omega,by omega,?_⟩,?_⟩
    · show((2*n+2:Nat):Int)<=((200:Nat):Int);omega
    · have e:pS n=smlS.extract (2*n) (2*n+2):=by unfold pS;rw[if_neg (by omega)]
      rw[e]at u;exact u
end
def yO(d:Nat):UInt8:=UInt8.ofNat (if d<10 then 48+d else 87+d)
def aJc(c:UInt8):Nat:=if c.toNat<58 then c.toNat-48 else c.toNat-87
def aFk:((Ba 16).all fun d=>digS[d]? ==Jp (yO d)&&aJc (yO d)==d)=Jr:=by decide+kernel
def aFm{d:Nat}(h:d<16):digS[d]? =Jp (yO d):=by have:=List.all_eq_true.1 aFk d (List.mem_range.2 h);rw[Aw,beq_iff_eq]at this;exact this.1
def AH(u:Nat):Nat->List UInt8
  | 0=>[]
  | c+1=>yO (u / 16^c % 16)::AH u c
def K3(u:Nat):∀c,(AH u c).length=c
  | 0=>rfl
  | c+1=>by simp[AH,K3 u c]
def cHf(u:Nat):Nat->Nat->Nat
  | c,0=>c
  | c,f+1=>if u / 16^c<16 then c else cHf u (c+1) f
def cH(u:Nat):Nat:=cHf u 0 15
def OA(u:Nat):List UInt8:=yO (u / 16^cH u)::AH u (cH u)
def aHW{u:Nat}(y:u<18446744073709551616):∀(f c:Nat),c+f=15->u / 16^cHf u c f<16/\cHf u c f<=15:=by
  intro f
  induction f with
  | zero=>
    intro c h;obtain rfl:c=15:=by omega
    have e:(16:Nat)^15*16=18446744073709551616:=by decide
    refine⟨Nat.div_lt_of_lt_mul ?_,Ab _⟩;show u<16^15*16;rw[e];exact y
  | succ f B=>
    intro c h;unfold cHf;split
    · rename_i q;exact⟨q,by omega⟩
    · exact B (c+1) (by omega)
def aI1(u c:Nat):u / 16^(c+1)=u / 16^c / 16:=by rw[Nat.pow_succ,Nat.div_div_eq_div_mul]
def aHn{u:Nat}(h:u<18446744073709551616):eE .and (.int .u64 (u:Int)) (.int .u64 15)=Jp (.int .u64 ((u % 16:Nat):Int)):=by
  have h1:=uI (Iz 64 u) 15#64;have y:(Iz 64 u).toNat=u:=by simp;omega
  have B:(Iz 64 u&&& 15#64).toNat=u % 16:=by rw[BitVec.toNat_and,y];exact Nat.and_two_pow_sub_one_eq_mod u 4
  rw[y,B]at h1;exact h1
def aIG(u:Nat):eE .shr (.int .u64 (u:Int)) (.int .u64 4)=Jp (.int .u64 ((u / 16:Nat):Int)):=by
  have:Int.fdiv (u:Int) 16=((u / 16:Nat):Int):=by rw[Int.fdiv_eq_ediv_of_nonneg _ (by omega)];rfl
  show Jp (PV.int .u64 (Int.fdiv (u:Int) 16))=_;rw[this]
abbrev lA(l:List UInt8):List PV:=l.map fun c=> .int .u8 ((c.toNat:Nat):Int)
def vT:∀l:List UInt8,jS (l.map fun c=> .int .u8 ((c.toNat:Nat):Int))=Jp l
  | []=>rfl
  | c::l=>by
    have h:=c.toNat_lt;have e:UInt8.ofNat c.toNat=c:=by simp
    simp only[Ah,jS,vT l];rw[if_pos (by omega),Bq,e]
def FJ:∀l:List UInt8,kA (lA l)=Jp (l.map fun c=>AV.int .u8 ((c.toNat:Nat):Int))
  | []=>rfl
  | c::l=>by simp only[lA,Ah,kA,eZ,FJ l]
def XP(l:List UInt8):pN (lA l)=Jp l:=by unfold pN;rw[FJ];exact vT l
def zI(z x:PV)(l:List PV)(m:Nat):(Ae (m+1) z++l).set m x=Ae m z++x::l:=by rw[List.set_append_left _ _ (by simp),List.replicate_succ',Dn _ _ (by simp)];simp
section
variable {tab:FuncId->Option AF} (T:HasA tab){M:Mem}{K:PV->Mem->Prop}
include T
def RH(u:K (.bool Jr) M):au tab 232 [p64 16] M K:=by refine aB T.h232 (by simp only[PP,simprocAttr]) ?_;have y:IntKind.i64.wrap (16-1)=15:=rfl;have B:eE .and (p64 16) (.int .i64 (IntKind.i64.wrap 15))=Jp (.int .i64 0):=rfl;simp only[af232,PP,simprocAttr,y,B];exact u
def aGW(u:K (p64 4) M):au tab 233 [.int .u64 16] M K:=by refine aB T.h233 (by simp only[PP,simprocAttr]) ?_;simp only[af233,PP,simprocAttr];refine aJd T (x:=16#64) (k:=4) (aIw (by decide) (by decide)) ?_;simp only[PP,simprocAttr];exact u
def G0{K:PV->Mem->Prop}{u:Nat}(hu:u<18446744073709551616)(hk:∀o,K (.tuple [.ref 1 0 1 0 (OA u).length,.str ⟨#[]⟩]) [o,.cells 0 0 (lA (OA u))]):
    au tab 209 [.ai,.int .u64 u,p64 16,.bool Js,.bool Jr] [] K:=by
  refine aV T.h209 ?_;simp only[af209,PP,simprocAttr];refine RH T ?_;have L:IntKind.u64.wrap 16=16:=rfl;have u4:IntKind.u64.wrap 4=4:=rfl;have Y:IntKind.u64.wrap (16-1)=15:=rfl;simp only[PP,simprocAttr,L];refine aGW T ?_;have O:IntKind.u64.wrap 15=15:=rfl;simp only[PP,simprocAttr,L,u4,Y,O];have Q:∀d:Nat,d<16->(ByteArray.mk #[48,49,50,51,52,53,54,55,56,57,97,98,99,100,101,102,103,104,105,106,107,108,109,110,111,112,113,114,115,116,117,118,119,120,121,122])[d]? =Jp (yO d):=fun d hd=>aFm hd;refine iN (fun(c v:Nat)=>c<=15/\cHf u c (15-c)=cH u) (fun c v=>(.ai:: .int .u64 ((u / 16^c:Nat):Int):: .aa:: .bool Js:: .bool Jr::zj 5++ .ai:: .str ⟨#[]⟩:: .ptr 0 0 0::p64 (65-c:Nat):: .int .u64 4:: .int .u64 16:: .int .u64 15::zj 85))
    (fun c v=>[.cells 0 v (Ae (65-c) (.int .u8 0)++lA (AH u c))]) (fun c v=>15-c) 0 0 ⟨by omega,rfl⟩ ?_ (by simp only[Nat.pow_zero,Nat.div_one,Nat.sub_zero,Ez,PW])
  intro c v ⟨hc,R⟩ ih;have hq:u / 16^c<18446744073709551616:=Gz (Nat.div_le_self _ _) hu;have Z:IntKind.i64.wrap (((65-c:Nat):Int)-1)=((65-(c+1):Nat):Int):=by rw[wrap64 (by omega) (by omega)];omega
  obtain⟨m,hm⟩:∃m,65-c=m+1:=⟨65-c-1,by omega⟩;have G:65-(c+1)=m:=by omega
  have i0:(0:Int)<=(m:Int):=by omega
  have i1:(m:Int)<65:=by omega
  rw[hm,G]at Z;refine aH (by kernel_rfl) ?_;simp only[PP,simprocAttr];refine QIf.intro (fun d=>?_) fun d=>?_
  · have B:¬u / 16^c<16:=by omega
    have a2:c<15:=by
      refine Cd fun q=>?_;obtain rfl:c=15:=by omega
      have:=(aHW hu 0 15 rfl).1;exact B this
    have I:cHf u (c+1) (15-(c+1))=cH u:=by
      rw[<-R,show 15-c=15-(c+1)+1 by omega];show _=if _ then _ else _
      rw[if_neg B]
    have a0:=aHn hq;have s4:=aIG (u / 16^c);have E:=Q (u / 16^c % 16) (Ea _ (by decide));have k0:(0:Int)<=((u / 16^c % 16:Nat):Int):=by omega
    simp only[PP,simprocAttr,d,hm,Z,a0,s4,PT,E,k0,i0,i1];have J:((PV.int .u8 0)::(Ae m (.int .u8 0)++lA (AH u c))).set m (.int .u8 (((yO (u / 16^c % 16)).toNat:Nat):Int))=Ae m (.int .u8 0)++(.int .u8 (((yO (u / 16^c % 16)).toNat:Nat):Int))::lA (AH u c):=zI _ _ _ m;refine⟨by omega,bZ (ih (c+1) (v+1) ⟨by omega,I⟩ (by omega)) (by simp only[aI1,G,PW]) ?_⟩;rw[J,G];rfl
  · have B:u / 16^c<16:=by omega
    have S:c=cH u:=by
      rw[<-R]
      cases hf:15-c with
      | zero=>rfl
      | succ f=>
        show c=if _ then _ else _
        rw[if_pos B]
    have E:=Q (u / 16^c) B;have k0:(0:Int)<=((u / 16^c:Nat):Int):=Int.natCast_nonneg _;have J:((PV.int .u8 0)::(Ae m (.int .u8 0)++lA (AH u c))).set m (.int .u8 (((yO (u / 16^c)).toNat:Nat):Int))=Ae m (.int .u8 0)++(.int .u8 (((yO (u / 16^c)).toNat:Nat):Int))::lA (AH u c):=zI _ _ _ m;have U:=K3 u c;have t1:(65-(m:Int)).toNat=c+1:=by omega
    have hl:lA (OA u)=PV.int .u8 (((yO (u / 16^c)).toNat:Nat):Int)::lA (AH u c):=by unfold OA;rw[<-S];rfl
    have hlen:(OA u).length=c+1:=by unfold OA;rw[<-S,Ak,U]
    have a1:dQ (Ae m (PV.int .u8 0)++PV.int .u8 (((yO (u / 16^c)).toNat:Nat):Int)::lA (AH u c)) m (c+1)=lA (OA u):=by rw[hl];unfold dQ;rw[List.drop_append_of_le_length (by simp),Ca (by simp),Aj,Bo (by simp[U])]
    have V:(lA (OA u)).all PV.one=Jr:=List.all_eq_true.2 fun x hx=>by obtain⟨y,_,rfl⟩:=List.mem_map.1 hx;rfl
    simp only[PP,simprocAttr,d,hm,Z,PT,E,k0,i0,i1,J,t1,a1,V];have:=hk (.cells 0 (v+1) (Ae m (.int .u8 0)++ .int .u8 (((yO (u / 16^c)).toNat:Nat):Int)::lA (AH u c)));rw[hlen]at this;exact⟨by omega,⟨by omega,by omega⟩,by omega,⟨by omega,by omega⟩,this⟩
omit T in
def aAA(a:Wd):xI a=[]\/wAt (xI a) ((xI a).length-1)≠0#64:=by
  have u:=vK a a.length;have hl:(xI a).length=kS a a.length:=by unfold xI;rw[Ay];omega
  rcases xH a a.length with h | h
  · left;exact List.length_eq_zero_iff.1 (by omega)
  · right;rw[hl,HY];exact h
omit T in
def SC(o:List Nat)(b:Nat):jA (o++[b])=jA o++[(b:Int)]:=by simp
def aCN{f o:Bool}{u:List Int}(hm:u.length<big)(y:∀g v,K (.ref M.length g 1 0 u.length) (M++[.cells g v (u.map p64)])):
    au tab 59 [slI f o .i64 u] M K:=by
  have hb:u.length<1000000000000:=hm;have B:u.length*8<=140737488355328:=by omega
  have E:u.length<=9223372036854775807:=by omega
  refine iG (jV T.h59 ?_);simp only[af59];refine aE (aC ?_);simp only[PP,simprocAttr];refine aE (aC ?_);simp only[PP,simprocAttr];have G:(u.map p64).all PV.one=Jr:=wY _ _;refine QIf.intro (fun c=>?_) fun c=>?_
  · constructor
    · simp only[PP,simprocAttr];have:u=[]:=List.length_eq_zero_iff.1 c;subst this;exact Gh.step (GStep.nil 0 1 rfl rfl rfl) (Gh.same ⟨_,rfl,y 0 0⟩)
    · simp only[PP,simprocAttr];refine aE (tV ⟨[],rfl,?_⟩);simp only[PP,simprocAttr,Ac,gk,gk0,sk,sk0];exact⟨⟨B,E⟩,aC (by simp only[PP,simprocAttr];exact Gh.same ⟨_,rfl,y 1 0⟩)⟩
  · simp only[PP,simprocAttr];refine aE (tV ⟨[],rfl,?_⟩);simp only[PP,simprocAttr,Ac,gk,gk0,sk,sk0];exact⟨⟨B,E⟩,aC (by simp only[PP,simprocAttr];exact Gh.same ⟨_,rfl,y 1 0⟩)⟩
def aCO{f o:Bool}{u:List Eg}(hm:u.length<big)(B:∀g v,K (.ref M.length g 4 0 u.length) (M++[.cells g v (egL u)])):
    au tab 153 [slE f o u] M K:=by
  have hb:u.length<1000000000000:=hm;have E:u.length*24<=140737488355328:=by omega
  have G:u.length<=9223372036854775807:=by omega
  refine iG (jV T.h153 ?_);simp only[af153];refine aE (aC ?_);simp only[PP,simprocAttr];refine aE (aC ?_);simp only[PP,simprocAttr];have y:(egL u).all PV.one=Jr:=VP u;refine QIf.intro (fun c=>?_) fun c=>?_
  · constructor
    · simp only[PP,simprocAttr];have:u=[]:=List.length_eq_zero_iff.1 c;subst this;exact Gh.step (GStep.nil 0 4 rfl rfl rfl) (Gh.same ⟨_,rfl,B 0 0⟩)
    · simp only[PP,simprocAttr];refine aE (tV ⟨[],rfl,?_⟩);simp only[PP,simprocAttr,Ac,gk,gk0,sk,sk0,y];exact⟨⟨E,G⟩,aC (by simp only[PP,simprocAttr];exact Gh.same ⟨_,rfl,B 1 0⟩)⟩
  · simp only[PP,simprocAttr];refine aE (tV ⟨[],rfl,?_⟩);simp only[PP,simprocAttr,Ac,gk,gk0,sk,sk0,y];exact⟨⟨E,G⟩,aC (by simp only[PP,simprocAttr];exact Gh.same ⟨_,rfl,B 1 0⟩)⟩
end
section
variable {α:Type} [DecidableEq α]
def gH(o:List α)(b:α):List α:=if b∈o then o else o++[b]
def gB(δ:α->Nat->α)(a:α):Nat->List α->List α
  | 0,o=>o
  | x+1,o=>gH (gB δ a x o) (δ a x)
def iI(δ:α->Nat->α)(n:Nat)(u:α):Nat->List α
  | 0=>[u]
  | k+1=>match (iI δ n u k)[k]? with
    | some a=>gB δ a n (iI δ n u k)
    | none=>iI δ n u k
def PB(o:List α)(b:α):∃r,gH o b=o++r:=by
  unfold gH;split
  · exact⟨[],by simp⟩
  · exact⟨[b],rfl⟩
def NA(o:List α)(b c:α):c∈gH o b↔c∈o\/c=b:=by
  unfold gH;split
  · constructor
    · exact .inl
    · rintro(h | rfl)
      · exact h
      · assumption
  · simp
def lU(δ:α->Nat->α)(a:α):∀(x:Nat) (o:List α),∃r,gB δ a x o=o++r
  | 0,o=>⟨[],by simp[gB]⟩
  | x+1,o=>by obtain⟨r,h⟩:=lU δ a x o;obtain⟨u,h2⟩:=PB (gB δ a x o) (δ a x);exact⟨r++u,by unfold gB;rw[h2,h,Ac]⟩
def oE(δ:α->Nat->α)(a c:α):∀(x:Nat) (o:List α),c∈gB δ a x o↔c∈o\/∃y,y<x/\c=δ a y
  | 0,o=>by simp[gB]
  | x+1,o=>by
    unfold gB;rw[NA,oE δ a c x o];constructor
    · rintro((h | ⟨y,h1,h2⟩) | h)
      · exact .inl h
      · exact .inr ⟨y,by omega,h2⟩
      · exact .inr ⟨x,by omega,h⟩
    · rintro(h | ⟨y,h1,h2⟩)
      · exact .inl (.inl h)
      · by_cases e:y=x
        · subst e;exact .inr h2
        · exact .inl (.inr ⟨y,by omega,h2⟩)
def oG{a b:α}{o:List α}(h:b≠a):(a::o).idxOf b=o.idxOf b+1:=by rw[List.idxOf_cons];have:(a==b)=Js:=beq_false_of_ne fun e=>h e.symm;rw[this];rfl
def yK{o r:List α}{b:α}(h:b∈o):(o++r).idxOf b=o.idxOf b:=by rw[Ff,if_pos h]
def mF(δ:α->Nat->α)(n:Nat)(o:List α)(a:α):List Int:=(Ba n).map fun x=>((o.idxOf (δ a x):Nat):Int)
def LU{δ:α->Nat->α}{n:Nat}{o r:List α}{a:α}(h:∀x,x<n->δ a x∈o):mF δ n (o++r) a=mF δ n o a:=
  Cq fun x u=>by rw[yK (h x (List.mem_range.1 u))]
def lY(κ:α->ByteArray):Nat->List α->List (ByteArray×PV)
  | _,[]=>[]
  | k,a::o=>(κ a,p64 (k:Int))::lY κ (k+1) o
omit [DecidableEq α] in
def MX(κ:α->ByteArray):∀(o:List α) (k:Nat),(lY κ k o).length=o.length
  | [],k=>rfl
  | a::o,k=>by simp[lY,MX κ o]
omit [DecidableEq α] in
def yA(κ:α->ByteArray)(b:α):∀(o:List α) (k:Nat),lY κ k o++[(κ b,p64 ((k+o.length:Nat):Int))]=lY κ k (o++[b])
  | [],k=>rfl
  | a::o,k=>by show(κ a,p64 (k:Int))::(lY κ (k+1) o++_)=(κ a,p64 (k:Int))::lY κ (k+1) (o++[b]);rw[<-yA κ b o (k+1)];simp only[Ak];rw[show k+1+o.length=k+(o.length+1) by omega]
def tJ{κ:α->ByteArray}{Dm:α->Prop}(u:∀a b,Dm a->Dm b->κ a=κ b->a=b){b:α}(hb:Dm b):∀(o:List α) (k:Nat),(∀a∈o,Dm a)->zE (κ b) (lY κ k o)=if b∈o then Jp (p64 ((k+o.idxOf b:Nat):Int))else Jq
  | [],k,B=>rfl
  | a::o,k,B=>by
    unfold lY zE;by_cases e:κ b=κ a
    · obtain rfl:=u b a hb (B a (by simp)) e;rw[if_pos rfl,if_pos (by simp)];simp
    · have y:b≠a:=fun h=>e (by rw[h]);rw[if_neg e,tJ u hb o (k+1) (fun c E=>B c (by simp[E]))];by_cases hm:b∈o
      · rw[if_pos hm,if_pos (by simp[hm]),oG y,show k+1+o.idxOf b=k+(o.idxOf b+1) by omega]
      · rw[if_neg hm,if_neg (by simp[hm,y])]
end
section
variable {tab:FuncId->Option AF} (T:HasA tab){M:Mem}{K:PV->Mem->Prop}
include T
variable {α:Type} [DecidableEq α]
end
section
variable {α:Type} [DecidableEq α]
def kP{δ:α->Nat->α}{n:Nat}{u a:α}{k:Nat}(h:(iI δ n u k)[k]? =Jp a):iI δ n u (k+1)=gB δ a n (iI δ n u k):=by show(match (iI δ n u k)[k]? with | some a=>_ | none=>_)=_;rw[h]
def qA{δ:α->Nat->α}{n:Nat}{u:α}{k:Nat}(h:(iI δ n u k).length<=k):iI δ n u (k+1)=iI δ n u k:=by show(match (iI δ n u k)[k]? with | some a=>_ | none=>_)=_;rw[Bu h]
def aC0(δ:α->Nat->α)(n:Nat)(u:α)(k:Nat):∃r,iI δ n u (k+1)=iI δ n u k++r:=by
  rcases Bi k (iI δ n u k).length with h | h
  · obtain⟨r,e⟩:=lU δ ((iI δ n u k)[k]) n (iI δ n u k);exact⟨r,by rw[kP (Ad h),e]⟩
  · exact⟨[],by rw[qA h];simp⟩
def HD(δ:α->Nat->α)(n:Nat)(u:α)(k:Nat):∀d,∃r,iI δ n u (k+d)=iI δ n u k++r
  | 0=>⟨[],by simp⟩
  | d+1=>by obtain⟨r,h⟩:=HD δ n u k d;obtain⟨y,h2⟩:=aC0 δ n u (k+d);exact⟨r++y,by rw[<-Cn,h2,h,Ac]⟩
def yS{δ:α->Nat->α}{n:Nat}{u:α} :∀{k i:Nat} {a:α},i<k->(iI δ n u k)[i]? =Jp a->∀x,x<n->δ a x∈iI δ n u k
  | 0,i,a,h,_,_,_=>by omega
  | k+1,i,a,h,g,x,B=>by
    rcases Bi k (iI δ n u k).length with y | y
    · have gk:=Ad y;have e:=kP gk;obtain⟨r,E⟩:=lU δ ((iI δ n u k)[k]) n (iI δ n u k);by_cases G:i=k
      · subst G;rw[e,E,Bm y,gk]at g;cases g;rw[e,oE];exact .inr ⟨x,B,rfl⟩
      · rw[e,E,Bm (by omega)]at g;have:=yS (k:=k) (by omega) g x B;rw[e,E];exact List.mem_append_left _ this
    · rw[qA y]at g ⊢;refine yS (k:=k) ?_ g x B;rcases Bi i (iI δ n u k).length with q | q
      · omega
      · rw[Bu q]at g;cases g
def D9{o:List α}{b:α}(h:o.Nodup):(gH o b).Nodup:=by
  unfold gH;split
  · exact h
  · rename_i q;rw[Hd];refine⟨h,by simp,fun x B y u e=>?_⟩;simp at u;subst u;subst e;exact q B
def qG{δ:α->Nat->α}{a:α} :∀(x:Nat) {o:List α},o.Nodup->(gB δ a x o).Nodup
  | 0,o,h=>h
  | x+1,o,h=>D9 (qG x h)
def oL(δ:α->Nat->α)(n:Nat)(u:α):∀k,(iI δ n u k).Nodup
  | 0=>by simp[iI]
  | k+1=>by
    rcases Bi k (iI δ n u k).length with y | y
    · rw[kP (Ad y)];exact qG n (oL δ n u k)
    · rw[qA y];exact oL δ n u k
def aAt{δ:α->Nat->α}{u:α->Prop}{a:α}{n:Nat}(B:∀x,x<n->u (δ a x)){o:List α}(E:∀c∈o,u c){j:Nat}(I:j<=n):∀c∈gB δ a j o,u c:=by
  intro c G;rcases(oE δ a c j o).1 G with h | ⟨y,h1,rfl⟩
  · exact E c h
  · exact B y (by omega)
def wX{δ:α->Nat->α}{n:Nat}{a0:α}{Dm:α->Prop}(h0:Dm a0)(hs:∀a x,Dm a->x<n->Dm (δ a x)):∀k,∀c∈iI δ n a0 k,Dm c
  | 0=>by simp[iI,h0]
  | k+1=>by
    have y:=wX h0 hs k;rcases Bi k (iI δ n a0 k).length with u | u
    · rw[kP (Ad u)];exact aAt (fun x B=>hs _ x (y _ (Df u)) B) y (Ab n)
    · rw[qA u];exact y
def zG(δ:α->Nat->α)(n:Nat)(u:α)(k:Nat):List (List Int):=((iI δ n u k).take k).map (mF δ n (iI δ n u k))
def pK{δ:α->Nat->α}{n:Nat}{u:α}{k:Nat}(h:k<=(iI δ n u k).length):(zG δ n u k).length=k:=by unfold zG;rw[Ag,Ay];omega
def uG{δ:α->Nat->α}{n:Nat}{u a:α}{k:Nat}(h:(iI δ n u k)[k]? =Jp a):zG δ n u (k+1)=zG δ n u k++[mF δ n (gB δ a n (iI δ n u k)) a]:=by
  have I:=aF h;obtain⟨r,y⟩:=lU δ a n (iI δ n u k);unfold zG;rw[kP h];have B:(gB δ a n (iI δ n u k)).take (k+1)=(iI δ n u k).take k++[a]:=by rw[y,List.take_append_of_le_length (by omega),Bx,h];rfl
  rw[B,Bh];congr 1;refine Cq fun b hb=>?_;rw[y];refine LU fun x E=>?_;obtain⟨i,G,hb⟩:=List.mem_iff_getElem.1 hb;rw[Ay]at G;rw[List.getElem_take]at hb;exact yS (k:=k) (i:=i) (by omega) (by rw[Ad (by omega),hb]) x E
def aGw(δ:α->Nat->α)(n:Nat)(o:List α):List (List Int):=o.map (mF δ n o)
def CM{δ:α->Nat->α}{n:Nat}{u:α}{k:Nat}(h:(iI δ n u k).length<=k):zG δ n u k=aGw δ n (iI δ n u k):=by unfold zG aGw;rw[Bo h]
end
section
variable {α:Type} [DecidableEq α]
variable {tab:FuncId->Option AF} (T:HasA tab)
include T
end
structure OkD (D:DF):Prop where
  v0:0<=D.vs
  v6:D.vs<=6
  n0:0<D.nx.length
  n1:D.nx.length<=4096
  f:D.fi.length=D.nx.length
  s0:0<=D.st
  s1:D.st<D.nx.length
  r:∀r∈D.nx,(r.length:Int)=2^D.vs.toNat/\∀t∈r,0<=t/\t<D.nx.length
def jh{v n:Int} :∀{l:List (List Int)},rZ v n l=0↔∀r∈l,(r.length:Int)=2^v.toNat/\∀t∈r,0<=t/\t<n
  | []=>by simp[rZ]
  | r::l=>by
    unfold rZ;by_cases h1:(r.length:Int)=2^v.toNat
    · rw[if_pos h1];by_cases h2:D6 n r=Jr
      · rw[if_pos h2];constructor
        · intro h;exact absurd h (by decide)
        · intro h;unfold D6 at h2;obtain⟨t,h3,y⟩:=List.any_eq_true.1 h2;have:=(h r (by simp)).2 t h3;simp only[decide_eq_true_eq]at y;omega
      · rw[if_neg h2,jh];constructor
        · intro h x u;rcases List.mem_cons.1 u with rfl | u
          · refine⟨h1,fun t ht=>Cd fun q=>h2 ?_⟩;exact List.any_eq_true.2 ⟨t,ht,by simp only[decide_eq_true_eq];omega⟩
          · exact h x u
        · intro h x u;exact h x (by simp[u])
    · rw[if_neg h1];constructor
      · intro h;exact absurd h (by decide)
      · intro h;exact absurd (h r (by simp)).1 h1
def gm{D:DF} :fE D=0↔OkD D:=by
  unfold fE;constructor
  · intro h;split at h;· exact absurd h (by decide)
    split at h;· exact absurd h (by decide)
    split at h;· exact absurd h (by decide)
    split at h;· exact absurd h (by decide)
    split at h;· exact absurd h (by decide)
    rename_i h1 h2 h3 u y;exact⟨by omega,by omega,by omega,by omega,by have:=Classical.not_not.1 u;omega,by omega,by omega,jh.1 h⟩
  · intro C;have h1:=C.v0;have h2:=C.v6;have h3:=C.n0;have u:=C.n1;have y:=C.f;have B:=C.s0;have E:=C.s1;rw[if_neg (by omega),if_neg (by omega),if_neg (by omega),if_neg (by omega),if_neg (by omega)];exact jh.2 C.r
def zD(nx:List (List Int))(s x:Int):Int:=(((nx[s.toNat]?).getD [])[x.toNat]?).getD 0
def fiD(D:DF)(s:Int):Bool:=(D.fi[s.toNat]?).getD Js
def OkD.step{D:DF}(C:OkD D){s x:Int}(s0:0<=s)(s1:s<D.nx.length)(B:0<=x)(E:x<2^D.vs.toNat):
    ∃r,D.nx[s.toNat]? =Jp r/\r[x.toNat]? =Jp (zD D.nx s x)/\x<r.length/\0<=zD D.nx s x/\zD D.nx s x<D.nx.length:=by
  obtain⟨r,g⟩:=aK (xs:=D.nx) (k:=s.toNat) (by omega);obtain⟨h1,h2⟩:=C.r r (Af g);obtain⟨t,u⟩:=aK (xs:=r) (k:=x.toNat) (by omega);have e:zD D.nx s x=t:=by unfold zD;rw[g];simp[u]
  rw[e];exact⟨r,g,u,by omega,h2 t (Af u)⟩
def OkD.run{D:DF}(C:OkD D):∀(w:List Int),(∀x∈w,0<=x/\x<2^D.vs.toNat)->∀s:Int,0<=s->s<D.nx.length->0<=w.foldl (zD D.nx) s/\w.foldl (zD D.nx) s<D.nx.length
  | [],_,s,h0,h1=>⟨h0,h1⟩
  | x::w,hw,s,h0,h1=>by have u:=hw x (by simp);obtain⟨_,_,_,_,a,b⟩:=C.step h0 h1 u.1 u.2;exact OkD.run C w (fun y B=>hw y (by simp[B])) _ a b
def OkD.fin{D:DF}(C:OkD D){s:Int}(s0:0<=s)(s1:s<D.nx.length):D.fi[s.toNat]? =Jp (fiD D s)/\s<D.fi.length:=by obtain⟨b,g⟩:=aK (xs:=D.fi) (k:=s.toNat) (by have:=C.f;omega);exact⟨by unfold fiD;rw[g];rfl,by have:=C.f;omega⟩
section
variable {tab:FuncId->Option AF} (T:HasA tab){M:Mem}{K:PV->Mem->Prop}
include T
omit T in
def DF.ext'{D u:DF}(h1:D.vs=u.vs)(h2:D.st=u.st)(h3:D.nx=u.nx)(y:D.fi=u.fi):D=u:=by cases D;cases u;simp_all
def VV{f o:Bool}{u:List Bool}(hm:u.length<big)(y:K (slB Js Jr u) M):
    au tab 38 [slB f o u] M K:=by
  refine aB T.h38 (by simp only[PP,simprocAttr]) ?_;have hb:u.length<1000000000000:=hm;have B:u.length<=140737488355328:=by omega
  have E:u.length<=9223372036854775807:=by omega
  simp only[af38,PP,simprocAttr,B,E];exact y
def aCy{L O Q R f3 S U V Y Z e3 p3:Bool}{D D':DF}(B:BnD D)(J:∀b:Bool,(b=Jr↔D=D')->K (.bool b) M):
    au tab 32 [.agg (dfC L O Q R f3 S D),.agg (dfC U V Y Z e3 p3 D')] M K:=by
  refine aB T.h32 (by simp only[PP,simprocAttr]) ?_;simp only[af32,PP,simprocAttr];have y:¬(D=D')->K (.bool Js) M:=fun h=>J Js ⟨fun h=>by(cases h),fun e=>absurd e h⟩;refine QIf.intro (fun u=>?_) fun u=>?_;rotate_left
  · simp only[PP,simprocAttr,u];exact y (by rintro rfl;exact u rfl)
  simp only[PP,simprocAttr,u];by_cases E:D.st=D'.st;rotate_left
  · simp only[PP,simprocAttr,E];exact y (by rintro rfl;exact E rfl)
  simp only[PP,simprocAttr,E];refine oU T B.n B.r ?_;by_cases G:D.nx=D'.nx;rotate_left
  · simp only[PP,simprocAttr,G];exact y (by rintro rfl;exact G rfl)
  simp only[PP,simprocAttr,G];refine OO T B.f ?_;by_cases I:D.fi=D'.fi;rotate_left
  · simp only[PP,simprocAttr,I];exact y (by rintro rfl;exact I rfl)
  simp only[PP,simprocAttr,I];exact J Jr ⟨fun _=>DF.ext' u E G I,fun _=>rfl⟩
end
def sS(D:DF)(a x:Nat):Nat:=(zD D.nx a x).toNat
abbrev pQ(D:DF):Nat:=2^D.vs.toNat
def OkD.delta{D:DF}(C:OkD D){a x:Nat}(I:a<D.nx.length)(E:x<pQ D):∃r,D.nx[a]? =Jp r/\r[x]? =Jp ((sS D a x:Nat):Int)/\(x:Int)<r.length/\sS D a x<D.nx.length:=by
  have u:(x:Int)<2^D.vs.toNat:=by
    have:((x:Nat):Int)<((2^D.vs.toNat:Nat):Int):=by exact_mod_cast E
    simpa using this
  obtain⟨r,y,B,G,J,K⟩:=C.step (s:=a) (x:=x) (by omega) (by omega) (by omega) u;simp only[Bq]at y B;refine⟨r,y,?_,G,?_⟩
  · rw[B];unfold sS;congr 1;omega
  · unfold sS;omega
section
variable {tab:FuncId->Option AF} (T:HasA tab){M:Mem}{K:PV->Mem->Prop}
include T
omit T in
def OkD.small{D:DF}(C:OkD D)(k:Nat):(iI (sS D) (pQ D) D.st.toNat k).length<=D.nx.length:=
  uK _ _ (oL _ _ _ k) (wX (Dm:=fun a=>a<D.nx.length) (by have:=C.s0;have:=C.s1;omega) (fun a x u y=>(C.delta u y).choose_spec.2.2.2) k)
omit T in
def OkD.below{D:DF}(C:OkD D)(k:Nat):∀a∈iI (sS D) (pQ D) D.st.toNat k,a<D.nx.length:=
  wX (Dm:=fun a=>a<D.nx.length) (by have:=C.s0;have:=C.s1;omega) (fun a x u y=>(C.delta u y).choose_spec.2.2.2) k
omit T in
def OkD.row{D:DF}(C:OkD D){a:Nat}(u:a<D.nx.length):∃r,D.nx[a]? =Jp r/\r.length=pQ D/\∀x,x<pQ D->r[x]? =Jp ((sS D a x:Nat):Int)/\sS D a x<D.nx.length:=by
  obtain⟨r,g⟩:=aK u;have h1:=(C.r r (Af g)).1;have h2:((pQ D:Nat):Int)=2^D.vs.toNat:=by simp
  refine⟨r,g,by omega,fun x B=>?_⟩;obtain⟨I,y,E,J,G⟩:=C.delta u B;rw[g]at y;cases y;exact⟨E,G⟩
end
section
variable {α β:Type} [DecidableEq α] [DecidableEq β]
omit [DecidableEq α] [DecidableEq β] in
def M8{φ:α->β}{Dm:α->Prop}(u:∀a b,Dm a->Dm b->φ a=φ b->a=b){o:List α}{b:α}(y:∀c∈o,Dm c)(hb:Dm b):φ b∈o.map φ↔b∈o:=by
  constructor
  · intro h;obtain⟨c,h1,h2⟩:=List.mem_map.1 h;rw[<-u c b (y c h1) hb h2];exact h1
  · intro h;exact List.mem_map.2 ⟨b,h,rfl⟩
def GW{φ:α->β}{Dm:α->Prop}(u:∀a b,Dm a->Dm b->φ a=φ b->a=b){b:α}(hb:Dm b):∀{o:List α},(∀c∈o,Dm c)->(o.map φ).idxOf (φ b)=o.idxOf b
  | [],_=>rfl
  | a::o,y=>by
    by_cases e:b=a
    · subst e;simp
    · have B:φ b≠φ a:=fun h=>e (u b a hb (y a (by simp)) h);rw[Ah,oG B,oG e,GW u hb (fun c E=>y c (by simp[E]))]
end
abbrev aS(N:NF):Nat:=2^N.vs.toNat
def aJ(N:NF)(a:BitVec 64)(x:Nat):BitVec 64:=(pP N.es x).foldl (fun u e=>if a.getLsbD e.fr.toNat=Jr then u||| Da 64 e.to.toNat else u) 0#64
def OH(a:BitVec 64)(k:Nat):∀(l:List Eg) (u:BitVec 64),(∀e∈l,0<=e.to/\e.to<64)->
    ((l.foldl (fun u e=>if a.getLsbD e.fr.toNat=Jr then u||| Da 64 e.to.toNat else u) u).getLsbD k=Jr↔u.getLsbD k=Jr\/∃e∈l,a.getLsbD e.fr.toNat=Jr/\e.to=k)
  | [],u,_=>by simp
  | e::l,u,h=>by
    have he:=h e (by simp);rw[Fx,OH a k l _ fun e he=>h e (by simp[he])];by_cases c:a.getLsbD e.fr.toNat=Jr
    · rw[if_pos c,BitVec.getLsbD_or,El,Hb,Aw,decide_eq_true_eq,decide_eq_true_eq];constructor
      · rintro((h1 | ⟨h1,h2⟩) | ⟨y,h1,h2⟩)
        · exact .inl h1
        · exact .inr ⟨e,by simp,c,by omega⟩
        · exact .inr ⟨y,by simp[h1],h2⟩
      · rintro(h1 | ⟨y,h1,h2,h3⟩)
        · exact .inl (.inl h1)
        · rcases List.mem_cons.1 h1 with rfl | h1
          · exact .inl (.inr ⟨by omega,by omega⟩)
          · exact .inr ⟨y,h1,h2,h3⟩
    · rw[if_neg c];constructor
      · rintro(h1 | ⟨y,h1,h2⟩)
        · exact .inl h1
        · exact .inr ⟨y,by simp[h1],h2⟩
      · rintro(h1 | ⟨y,h1,h2,h3⟩)
        · exact .inl h1
        · rcases List.mem_cons.1 h1 with rfl | h1
          · exact absurd h2 c
          · exact .inr ⟨y,h1,h2,h3⟩
def NB{u:List Eg}{x:Nat}{e:Eg}(h:e∈pP u x):e∈u:=(List.mem_filter.1 h).1
def rE{N:NF}(C:NOk N)(a:BitVec 64)(x k:Nat):(aJ N a x).getLsbD k=Jr↔∃e∈pP N.es x,a.getLsbD e.fr.toNat=Jr/\e.to=k:=by unfold aJ;rw[OH a k _ _ fun e he=>by have:=C.ed e (NB he);have:=C.n64;omega];simp
structure RB (s:Wd) (a:BitVec 64):Prop where
  len:s.length<=64
  lt:∀k,bit s k=Jr->k<64
  at0:wAt s 0=a
def RB.bit{s:Wd}{a:BitVec 64}(h:RB s a)(k:Nat):bit s k=a.getLsbD k:=by
  by_cases u:k<64
  · unfold Ar.bit;rw[show k / 64=0 by omega,show k % 64=k by omega,h.at0]
  · rw[Fe _ _ (by omega)]
    cases hb:Ar.bit s k with
    | false=>rfl
    | true=>exact absurd (h.lt k hb) u
def RB.mk'{s:Wd}{a:BitVec 64}(hl:s.length<=64)(h:∀k,Ar.bit s k=Jr↔a.getLsbD k=Jr):RB s a:=by
  have lt:∀k,Ar.bit s k=Jr->k<64:=fun k u=>by refine Cd fun q=>?_;have:=(h k).1 u;rw[Fe _ _ (by omega)]at this;cases this
  refine⟨hl,lt,Fc fun i y=>?_⟩;have:=h i;unfold Ar.bit at this;rw[show i / 64=0 by omega,show i % 64=i by omega]at this;exact Bool.eq_iff_iff.2 this
def RB.next{N:NF}(C:NOk N){s o:Wd}{a:BitVec 64}{x:Nat}(h:RB s a)(u:aJa N.es s x o):RB o (aJ N a x):=by refine .mk' u.1 fun k=>?_;rw[u.2,rE C];simp only[h.bit]
def gC(N:NF):BitVec 64:=wAt (faW N.st) 0
def aAF{N:NF}(C:NOk N):RB (faW N.st) (gC N):=by obtain⟨_,h2,h3⟩:=aGE C C.st;refine⟨h2,fun k u=>?_,rfl⟩;rw[h3,decide_eq_true_eq]at u;have:=m9 C.st _ u;have:=C.n64;omega
def qM{N:NF}(C:NOk N)(k:Nat):(gC N).getLsbD k=Jr↔(k:Int)∈N.st:=by obtain⟨_,_,h3⟩:=aGE C C.st;rw[<-(aAF C).bit,h3,decide_eq_true_eq]
def E1(N:NF)(a:BitVec 64):Bool:=N.fi.any fun q=>a.getLsbD q.toNat
def dP(o:List (BitVec 64)):List (List Int):=o.map fun a=>jA (eW a)
def aAq{u:Int}{x:Nat}(h:x<2^u.toNat):UG u [(x:Int)]=0:=by
  have y:¬(2:Int)^u.toNat<=x:=by
    have:((2^u.toNat:Nat):Int)=2^u.toNat:=by simp
    omega
  unfold UG;rw[if_neg (by simp),if_neg (by simp[y])]
def NOk.oh{N:NF}(C:NOk N):aS N<=64:=MA C.v6
section
variable {tab:FuncId->Option AF} (T:HasA tab){M:Mem}{K:PV->Mem->Prop}
include T
end
def aIt(o:Wd):Prop:=o=[]\/wAt o (o.length-1)≠0#64
def jU(a:BitVec 64):Wd:=if a=0#64 then []else [a]
def RB.one{o:Wd}{a:BitVec 64}(h:RB o a)(u:aIt o):o=jU a:=by
  have hz:∀i,0<i->wAt o i=0#64:=fun i E=>Fc fun j G=>by
    cases B:(wAt o i).getLsbD j with
    | false=>simp
    | true=>
      have:Ar.bit o (64*i+j)=Jr:=by unfold Ar.bit;rw[show(64*i+j) / 64=i by omega,show(64*i+j) % 64=j by omega];exact B
      have:=h.lt _ this;omega
  have h0:=h.at0;unfold jU;rcases u with rfl | ht
  · have e:wAt ([]:Wd) 0=0#64:=nX (by simp);rw[e]at h0;rw[if_pos h0.symm]
  · have hl:o.length-1=0:=Cd fun q=>ht (hz _ (by omega));rw[hl,h0]at ht;rw[if_neg ht]
    match o,hl with
    | [],_=>have e:wAt ([]:Wd) 0=0#64:=nX (by simp);rw[e]at h0;exact absurd h0.symm ht
    | [x],_=>rw[<-h0];rfl
    | x::y::l,h=>simp at h
def aES(a:BitVec 64):RB (jU a) a:=by
  unfold jU;by_cases h:a=0#64
  · rw[if_pos h];exact⟨by simp,fun k u=>by simp[Ar.bit,wAt]at u,by rw[h];rfl⟩
  · rw[if_neg h];refine⟨by simp,fun k u=>?_,rfl⟩;refine Cd fun q=>?_;have:wAt [a] (k / 64)=0#64:=nX (by simp;omega);unfold Ar.bit at u;rw[this]at u;simp at u
def aBC(a:BitVec 64):(jU a).length<=1:=by unfold jU;split<;>simp
def nJ(a:BitVec 64):ByteArray:=⟨(Key.mb ((jU a).map (·.toNat))).toArray⟩
section
variable {tab:FuncId->Option AF} (T:HasA tab){M:Mem}{K:PV->Mem->Prop}
include T
def aH1{Y Z f2 o2 f3 o3 f4 o4:Bool}{N:NF}{s:Wd}{x:Nat}(C:NOk N)(B:BnN N)(hs:s.length<=64)(hx:x<256)(hk:∀o,aJa N.es s x o->aIt o->K (slW Js Jr o) M):
    au tab 144 [.agg (nfC Y Z f2 o2 f3 o3 N),slW f4 o4 s,p8 x] M K:=by
  have a2:=C.n64;refine eC T.h144 (by simp only[PP,simprocAttr,aZ]) ?_;simp only[af144];refine aE (aC ?_);simp only[PP,simprocAttr];refine cK (GStep.dz (b:=(.aa:: .aa::p8 x:: .cp (nfC Y Z f2 o2 f3 o3 N) 0:: .ptr 1 0 0:: .aa:: .ptr 2 0 0::zj 14)) 0 (Au _) rfl (by simp only[mX,mY,Ai,Aj,iD,gJ,gI,iC]) rfl) ?_;refine cK (GStep.dz (b:=(.aa:: .aa::p8 x:: .cp (nfC Y Z f2 o2 f3 o3 N) 0:: .cp [slW f4 o4 s] 0:: .aa:: .ptr 2 0 0::zj 14)) 1 (Au _) rfl (by simp only[mX,mY,Ai,Aj,iD,gJ,gI,iC]) rfl) ?_;refine cK (GStep.wkC (v':=slW Js Jr []) 2 0 rfl (fun v h=>by cases h;exact bh.ai _ _ _) rfl) ?_;refine aC ?_;simp only[PP,simprocAttr];refine SD T ?_;simp only[PP,simprocAttr];refine aG (b:=(zj 4++ .cp [slW f4 o4 s] 0:: .aa:: .ptr 2 0 0::zj 3++ .func (.func 213) [] [.cp (nfC Y Z f2 o2 f3 o3 N) 0,.cp [p8 x] 0]::zj 10)) ?_;refine sW rfl fun u q1 q2 q3 q4 q5 q6=>?_;simp only[PP,simprocAttr];refine aBY T (L:=3) hx B.e B.b (fun k G=>∃ver v o y,G=[.gone,.gone,.cells 0 v [slW Js Jr o],.loop ver u]++y/\(o.length<=64/\aIt o)/\∀j:Nat,bit o j=Jr↔∃e∈(pP N.es x).take k,bit s e.fr.toNat=Jr/\e.to=j)
    ⟨0,0,[],[],rfl,⟨by simp,.inl rfl⟩,fun j=>by simp[bit,wAt]⟩ ?_ ?_ ?_ ?_
  · rintro k G o ⟨ver,v,O,y,rfl,h⟩;exact⟨ver,v,O,y++[o],by simp only[Ac],h⟩
  · rintro k G ⟨ver,v,O,y,rfl,h⟩;exact⟨ver,u,rfl⟩
  · rintro k G e ⟨ver,v,o,y,rfl,⟨ho,I⟩,hb⟩ Q K' R;refine EE (ver:=ver) (r:=u) rfl (by rw[q4];rfl) ?_;rw[q3,q4,q5];refine aC ?_;simp only[oQ,PP,simprocAttr,Ac,gk,gk0,sk,sk0];have S:∀B,u.body=B->(⟨.ready,Jq,u.tmps,u.params,u.assign,B⟩:jm)=u:=fun B hB=>by cases u;simp_all
    refine⟨ver,u,rfl,q1,?_⟩;rw[q6];refine aC ?_;have a0:=Af Q;have a1:e∈N.es:=(List.mem_filter.1 a0).1;obtain⟨e1,e2,e3,e4,_⟩:=C.ed e a1;have J:e.fr=((e.fr.toNat:Nat):Int):=by omega
    have U:e.to=((e.to.toNat:Nat):Int):=by omega
    have V:∀O:Wd,(∀j:Nat,bit O j=Jr↔(bit o j=Jr\/(bit s e.fr.toNat=Jr/\e.to=j)))->∀j:Nat,bit O j=Jr↔∃e∈(pP N.es x).take (k+1),bit s e.fr.toNat=Jr/\e.to=j:=fun O h j=>by
      rw[h,hb,Bx,Q];simp only[Dq,Cf,Ch];constructor
      · rintro(⟨z,h1,h2⟩ | h)
        · exact⟨z,.inl h1,h2⟩
        · exact⟨e,.inr rfl,h⟩
      · rintro⟨z,h1 | rfl,h2⟩
        · exact .inl ⟨z,h1,h2⟩
        · exact .inr h2
    simp only[PP,simprocAttr,Ac,gk,gk0,sk,sk0];rw[show PV.int .i64 e.fr=p64 ((e.fr.toNat:Nat):Int) by rw[<-J]];refine aFA T hs (by omega) ?_
    cases E:bit s e.fr.toNat with
    | false=>simp only[PP,simprocAttr,Ac,gk,gk0,sk,sk0];refine⟨ver+1,_,rfl,?_⟩;rw[if_pos rfl];refine R _ ⟨ver+1+1,v,o,y++[.cells 0 1 (egC e)],?_,⟨ho,I⟩,V o fun j=>by rw[E];simp⟩;simp only[PP,simprocAttr,Ac,gk,gk0,sk,sk0,S _ q6,<-J]
    | true=>
      simp only[PP,simprocAttr,Ac,gk,gk0,sk,sk0];rw[show PV.int .i64 e.to=p64 ((e.to.toNat:Nat):Int) by rw[<-U]];refine aGT T (by show _<1000000000000;omega) (by omega) ?_;obtain⟨w1,w2⟩:=aCX (k:=e.to.toNat) ho (by omega);simp only[PP,simprocAttr,Ac,gk,gk0,sk,sk0];refine⟨ver+1,_,rfl,?_⟩;rw[if_pos rfl];refine R _ ⟨ver+1+1,v+1,vF o e.to.toNat,y++[.cells 0 1 (egC e)],?_,⟨w1,aAA _⟩,V _ fun j=>?_⟩
      · simp only[PP,simprocAttr,Ac,gk,gk0,sk,sk0,S _ q6,<-J,<-U]
      · rw[w2,El,decide_eq_true_eq,E];constructor
        · rintro(h | h)
          · exact .inl h
          · exact .inr ⟨rfl,by omega⟩
        · rintro(h | ⟨_,h⟩)
          · exact .inl h
          · exact .inr (by omega)
  · rintro G ⟨ver,v,o,y,rfl,⟨ho,I⟩,hb⟩;refine⟨ver,u,rfl,by rw[q1];exact(by intro h;cases h),?_⟩;rw[q2];simp only[PP,simprocAttr,Ac,gk,gk0,sk,sk0];rw[Bo (Ab _)]at hb;exact hk o ⟨ho,hb⟩ I
def YJ{I J L O f3 Q R S:Bool}{N:NF}{a:BitVec 64}{x:Nat}(E:gF N=0)(B:BnN N)(U:x<aS N)(V:K (.tuple [slW Js Jr (jU (aJ N a x)),p64 0]) M):
    au tab 83 [.agg (nfC I J L O f3 Q N),slW R S (jU a),p8 x] M K:=by
  have C:=nI E;have Y:=C.oh;have hr:=aES a;refine aB T.h83 (by simp only[PP,simprocAttr,aZ]) ?_;simp only[af83,PP,simprocAttr];refine FZ T B ?_;simp only[PP,simprocAttr,E];refine aGS T (w:=[(x:Int)]) C (fun y G=>by simp at G;subst G;omega) (by simp) ?_;rw[aAq U];simp only[PP,simprocAttr];refine aH1 T C B hr.len (by omega) fun o Z u=>?_;rw[(hr.next C Z).one u];simp only[PP,simprocAttr];exact V
end
section
variable {tab:FuncId->Option AF}
def qC{g:FuncId}{F:List AV->H->Option AV}(hg:tab g=Jp (.lf (e9 F))){args:List PV}{M:Mem}{K:PV->Mem->Prop}{r:PV}
    (h:∀w hh u,PSt w hh M->ak w args u->∃v,F u hh=Jp v/\az w r v) (y:K r M):au tab g args M K:=by
  intro w hh u h0 s B;obtain⟨v,hv,hr⟩:=h w hh u s B;unfold C;refine⟨v,hh,?_,w,r,M,eg.refl (Ab _) w hh,s,hr,y⟩;rw[wJ];simp only[kV,hg,e9,hv]
def wB{w:PWd}{s:ByteArray}{x:AV}(h:az w (.str s) x):x= .str s:=by cases h;rfl
def GA{w:PWd} :∀{l:List (BitVec 64)} {u:List AV},ak w ((wI l).map (PV.int .u64)) u->Key.jg u=Jp (l.map (·.toNat))
  | [],[],h=>rfl
  | [],_::_,h=>by have:=h.len;simp[wI]at this
  | _::_,[],h=>by have:=h.len;simp[wI]at this
  | a::l,x::u,h=>by have h1:=gX h.hd;subst h1;have h2:=GA (l:=l) h.tl;have hlt:=a.isLt;unfold Key.jg;rw[h2];simp only[Ah];rw[if_pos ⟨by omega,by omega⟩];simp
def LZ{w:PWd} :∀{l:List ByteArray} {u:List AV},ak w (l.map PV.str) u->iU u=Jp l
  | [],[],h=>rfl
  | [],_::_,h=>by have:=h.len;simp at this
  | _::_,[],h=>by have:=h.len;simp at this
  | a::l,x::u,h=>by have h1:=wB h.hd;subst h1;have h2:=LZ (l:=l) h.tl;unfold iU;rw[h2]
end
def VJ(n:Int):ByteArray:=⟨(N8 n).toArray⟩
section
variable {tab:FuncId->Option AF} (T:HasA tab){M:Mem}{K:PV->Mem->Prop}
include T
def aFe{n:Int}(h0: -9223372036854775808<=n)(h1:n<=9223372036854775807)(B:K (.str (VJ n)) M):au tab 106 [p64 n] M K:=by
  refine qC T.itoa (fun w hh u s y=>?_) B
  match u,y with
  | [v],y=>have:=gX y.hd;subst this;exact⟨.str (VJ n),by unfold itoaF;simp only;rw[if_pos ⟨h0,h1⟩];rfl,.str _⟩
def BT{t:ByteArray}{n:Int}(h0:t.size<=9223372036854775806)(h1:Lib.atoiAll t.data.toList= .ok n)(B:K (.tuple [p64 n,.ae]) M):au tab 132 [.str t] M K:=by
  refine qC T.atoi (fun w hh u s y=>?_) B
  match u,y with
  | [v],y=>have:=wB y.hd;subst this;refine⟨.tuple [.int .i64 n,.ae],by show(if _ then _ else _)=_;rw[if_pos h0,h1],?_⟩;have:=ak.cons (az.int (w:=w) .i64 n) (.cons .ae (.nil w));exact .tuple this.len this.get
def aHJ{n:Nat}(h:n<18446744073709551616)(B:K (.str ⟨(dig 20 n).toArray⟩) M):au tab 131 [.int .u64 n,p64 10] M K:=by
  refine qC T.fmt (fun w hh u s y=>?_) B
  match u,y with
  | [v,G],y=>
    have:=gX y.hd;subst this;have:=gX y.tl.hd;subst this;have E:(n:Int)<18446744073709551616:=by omega
    refine⟨.str ⟨(dig 20 n).toArray⟩,?_,.str _⟩;unfold Proofs.YtapbgleednkimaaGreatDoor.Fmt.fmtF;simp only;rw[if_pos ⟨trivial,by omega,E⟩];rfl
def SY{f o:Bool}{a:BitVec 64}(I:K (.str (nJ a)) M):au tab 155 [slW f o (jU a)] M K:=by
  refine qC T.key (fun w hh u s y=>?_) I
  match u,y with
  | [v],y=>
    have hl:=aBC a;rcases qQ s y.hd with⟨rfl,h1,h2⟩ | ⟨J,b,off,ver,rw,B,rfl,_,S,L,O,Q,G,_⟩
    · refine⟨_,rfl,?_⟩;have:jU a=[]:=List.length_eq_zero_iff.1 h1;unfold nJ;rw[this];exact .str _
    · by_cases hz:(jU a).length=0
      · refine⟨_,by show(if _ then _ else _)=_;rw[if_pos hz],?_⟩;have:jU a=[]:=List.length_eq_zero_iff.1 hz;unfold nJ;rw[this];exact .str _
      · refine⟨.str (nJ a),?_,.str _⟩;show(if _ then _ else _)=_;rw[if_neg hz,if_pos ⟨rfl,by omega⟩];have E:dY hh b off (jU a).length=Jp ((B.drop off).take (jU a).length):=by
          unfold dY;rw[L];simp only;rw[if_pos (by rw[<-Ce (jU a).length,<-Q];exact O)]
        rw[E];have R:((wI (jU a)).map (PV.int .u64)).length=(jU a).length:=by simp[wI]
        rw[R]at G;have:=GA G;simp only[this];rfl
def aFd{id g ver:Nat}{u:List ByteArray}{y:ByteArray}(O:M[id]? =Jp (.cells g ver (u.map PV.str)))(h1:u.length<=140737488355328)
    (h2:(Lib.join (u.map (·.data.toList)) y.data.toList).length<=140737488355328) (Q:K (.str ⟨(Lib.join (u.map (·.data.toList)) y.data.toList).toArray⟩) M):au tab 63 [.ref id g 1 0 u.length,.str y] M K:=by
  refine qC T.join (fun w hh B s E=>?_) Q
  match B,E with
  | [v,U],E=>
    have:=wB E.tl.hd;subst this;obtain⟨e,V,Y,R⟩:=s.ic O E.hd;rcases R with⟨rfl,h0,_,_,G⟩ | ⟨fl,b,I,rfl,Z,S,L,p4⟩
    · have:u=[]:=by simpa using G
      subst this;exact⟨_,rfl,.str _⟩
    · by_cases hz:u.length=0
      · refine⟨_,by show(if _ then _ else _)=_;rw[if_pos hz],?_⟩;have:u=[]:=List.length_eq_zero_iff.1 hz;subst this;exact .str _
      · refine⟨_,?_,.str _⟩;show(if _ then _ else _)=_;rw[if_neg hz,if_pos rfl];have J:dY hh b 0 u.length=Jp I:=by unfold dY;rw[S];have:=L.len;rw[Ag]at this;simp only;rw[if_pos (by omega),List.drop_zero,Bo (by omega)]
        rw[J];have:=LZ L;simp only[this];rw[if_pos ⟨h1,h2⟩]
def LA{t:ByteArray}{c:UInt8}(h:t.size<4294967281)(I:K (.sl Jr Jr 1 (iV c t.data.toList).length ((iV c t.data.toList).map fun l=> .str ⟨l.toArray⟩)) M):
    au tab 70 [.str t,.str ⟨#[c]⟩] M K:=by
  intro w hh u h0 s E
  match u,E with
  | [v,R],E=>
    have:=wB E.hd;subst this;have:=wB E.tl.hd;subst this;have J:splitF [.str t,.str ⟨#[c]⟩] hh=Jp ((iV c t.data.toList).map fun l=> .str ⟨l.toArray⟩):=by show(if _ then _ else _)=_;rw[if_pos h]
    unfold C;obtain⟨L,O,Q⟩:=s.me (.cells 0 Jr ((iV c t.data.toList).map fun l=> .str ⟨l.toArray⟩));refine⟨.slice Jr 1 hh.next 0 ((iV c t.data.toList).map fun l=>AV.str ⟨l.toArray⟩).length,_,?_,_,_,M,O,L,?_,I⟩
    · rw[wJ];simp only[kV,T.split,qS,J]
    · rw[Ag];refine .sl Q (by simp) (by simp) (fun _ _=>rfl) (fun _=>⟨s.base,rfl⟩) (fun q=>by cases q) fun i y z B G=>?_;rw[Bg]at G;rw[Ap]at B G
      cases hb:(iV c t.data.toList)[i]? with
      | none=>rw[hb]at B;cases B
      | some b=>rw[hb]at B G;cases B;cases G;exact .str _
end
def R3{a:BitVec 64}{k:Nat}(h:k<64):eE .shr (sG a) (p64 k)=Jp (sG (a>>>k)):=by
  have h1:¬((k:Int)<0):=by omega
  have h2:min ((k:Int).toNat) 64=k:=by omega
  have h3:((a.toNat:Nat):Int).fdiv (2^k)=(((a>>>k).toNat:Nat):Int):=by rw[Int.fdiv_eq_ediv_of_nonneg _ (by exact Int.pow_nonneg (by omega)),BitVec.toNat_ushiftRight,Nat.shiftRight_eq_div_pow];simp
  simp only[eE,eZ,i7,eY,wW,IntKind.bits,h1,h2,if_true,if_false,h3,Dd,bd]
def aFB(a:BitVec 64)(k:Nat):((((a>>>k)&&& 1#64).toNat:Nat):Int)=if a.getLsbD k=Jr then 1 else 0:=by
  have h:(a>>>k)&&& 1#64=if a.getLsbD k=Jr then 1#64 else 0#64:=by
    refine Fc fun i y=>?_;by_cases u:a.getLsbD k=Jr
    · rw[if_pos u,Iy,BitVec.getLsbD_ushiftRight];by_cases h0:i=0
      · subst h0;simp[u]
      · have:(1#64).getLsbD i=Js:=by rw[BitVec.getLsbD_one];simp[h0]
        rw[this];simp
    · rw[if_neg u,Iy,BitVec.getLsbD_ushiftRight];by_cases h0:i=0
      · subst h0;simp at u;simp[u]
      · have:(1#64).getLsbD i=Js:=by rw[BitVec.getLsbD_one];simp[h0]
        rw[this];simp
  rw[h];split<;>rfl
def pZ(a:BitVec 64)(k:Nat):List Nat:=(Ba k).filter fun j=>a.getLsbD j
def SZ(a:BitVec 64)(k:Nat):pZ a (k+1)=pZ a k++if a.getLsbD k=Jr then [k]else []:=by unfold pZ;rw[Fq,Gl];congr 1;by_cases h:a.getLsbD k=Jr<;>simp[h]
def ZF(a:BitVec 64)(k:Nat):(pZ a k).length<=k:=by unfold pZ;exact As (Fu _ _) (by simp)
def orB(l:List Nat):BitVec 64:=l.foldl (fun w k=>w||| Da 64 k) 0#64
def aBw(l:List Nat)(k:Nat):orB (l++[k])=orB l||| Da 64 k:=by unfold orB;rw[List.foldl_append];rfl
def aBx(k:Nat):∀(l:List Nat) (w:BitVec 64),(∀x∈l,x<64)->((l.foldl (fun w k=>w||| Da 64 k) w).getLsbD k=Jr↔w.getLsbD k=Jr\/k∈l)
  | [],w,_=>by simp
  | x::l,w,h=>by
    have B:=h x (by simp);rw[Fx,aBx k l _ fun y u=>h y (by simp[u]),BitVec.getLsbD_or,El,Hb,Aw,decide_eq_true_eq,decide_eq_true_eq,Cr];constructor
    · rintro((h1 | ⟨h1,h2⟩) | h1)
      · exact .inl h1
      · exact .inr (.inl h2.symm)
      · exact .inr (.inr h1)
    · rintro(h1 | h1 | h1)
      · exact .inl (.inl h1)
      · exact .inl (.inr ⟨by omega,h1.symm⟩)
      · exact .inr h1
def aEL{l:List Nat}(h:∀x∈l,x<64)(k:Nat):(orB l).getLsbD k=Jr↔k∈l:=by unfold orB;rw[aBx k l _ h];simp
def GJ{N:NF}(C:NOk N):∀q∈N.st,0<=q/\q<64:=fun q u=>by have:=m9 C.st q u;have:=C.n64;omega
def YG{N:NF}(C:NOk N):orB (N.st.map Db)=gC N:=by
  have h:=GJ C;refine Fc fun i B=>?_;rw[Fg,aEL (fun x u=>by obtain⟨q,y,rfl⟩:=List.mem_map.1 u;have:=h q y;omega),qM C];constructor
  · intro u;obtain⟨q,y,e⟩:=List.mem_map.1 u;have:=h q y;rw[show(i:Int)=q by omega];exact y
  · intro u;exact List.mem_map.2 ⟨i,u,by simp⟩
def w7{u:FuncId->Option AF}{g:FuncId}{args:List PV}{M:Mem}{K:PV->Mem->Prop}(hb:aD 0 args=Jr)(B:au u g args [] fun r E=>∃y,lR 0 E r=Jp y/\K y M):au u g args M K:=vA hb B
section
variable {tab:FuncId->Option AF} (T:HasA tab){M:Mem}{K:PV->Mem->Prop}
include T
def pY{f o:Bool}{u:List Int}(hm:u.length<big)(y:K (slI Js Jr .i64 u) M):au tab 59 [slI f o .i64 u] M K:=by refine w7 (by simp only[PP,simprocAttr]) (aCN T hm fun g v=>⟨slI Js Jr .i64 u,?_,y⟩);simp only[lR,iM];rw[uH (ver:=v) (Au _) rfl (by simp) (b9 _ _ _),cN _ _ (by simp)]
def ZB{f o:Bool}{u:List Eg}(hm:u.length<big)(y:K (slE Js Jr u) M):au tab 153 [slE f o u] M K:=by
  refine w7 (by simp only[PP,simprocAttr,aZ]) (aCO T hm fun g v=>⟨slE Js Jr u,?_,y⟩);simp only[lR,iM];have:=kN u;have B:aD 0 (egL u)=Jr:=by
    exact fN 0 u
  rw[uH (ver:=v) (Au _) rfl (by simp[kN]) B,cN _ _ (by simp[kN])]
def V2{f o:Bool}{a:BitVec 64}(J:K (slI Js Jr .i64 (jA (eW a))) M):au tab 254 [slW f o (jU a)] M K:=by
  refine eC T.h254 (by simp only[PP,simprocAttr]) ?_;simp only[af254];refine aE (aC ?_);simp only[PP,simprocAttr];refine cK (GStep.nil 2 1 rfl rfl rfl) ?_;refine aC ?_;simp only[PP,simprocAttr];refine iN (fun(k:Nat) (g:Nat)=>k<=64) (fun k g=>(slW f o (jU a):: .aa:: .ref 0 g 1 0 (pZ a k).length:: .aa::p64 k::zj 20)) (fun k g=>[.cells g 0 ((jA (pZ a k)).map p64)]) (fun k _=>64-k) 0 0 (by omega) ?_ (by simp only[pZ,He,Ja,PW]);intro k g I E;refine aH (by kernel_rfl) ?_;simp only[PP,simprocAttr];refine QIf.intro (fun c=>?_) fun c=>?_;rotate_left
  · obtain rfl:k=64:=by omega
    simp only[PP,simprocAttr,c];rw[cN _ _ (by simp)];have e:pZ a 64=eW a:=rfl;rw[e];have L:(jA (eW a)).length=(eW a).length:=by simp
    rw[<-L];exact J
  have hlt:k<64:=by omega
  have hw:=aA (k:=k) (by show _<1000000000000;omega);have O:=ZF a k;have Q:((pZ a k).length+1)*8<=140737488355328:=by omega
  have R:(pZ a k).length+1<=9223372036854775807:=by omega
  have hs:=SZ a k;unfold jU;by_cases u:a=0#64
  · have B:a.getLsbD k=Js:=by rw[u];simp
    rw[B]at hs;simp only[Aq,if_false,Ao]at hs;simp only[PP,simprocAttr,c,u,hw,if_true];have:=E (k+1) g (by omega) (by omega);rw[hs]at this;unfold jU at this;rw[u]at this;simp only[if_true]at this;exact aG this
  · have G:=R3 (a:=a) hlt;have y:eE .and (sG (a>>>k)) (.int .u64 1)=Jp (sG (a>>>k&&& 1#64)):=uI _ 1#64;have hb:=aFB a k;simp only[PP,simprocAttr,c,u,hw,if_false,wI,G,y,hb]
    cases B:a.getLsbD k with
    | false=>rw[B]at hs;simp only[Aq,if_false,Ao]at hs;simp only[PP,simprocAttr,hw];have:=E (k+1) g (by omega) (by omega);rw[hs]at this;unfold jU at this;simp only[u,if_false,wI]at this;exact aG this
    | true=>
      rw[B,if_pos rfl]at hs;simp only[PP,simprocAttr,hw,Q,R];have:=E (k+1) (g+1) (by omega) (by omega);rw[hs]at this;unfold jU at this;simp only[u,if_false,wI]at this;have he:(pZ a k++[k]).length=(pZ a k).length+1:=by simp
      rw[he]at this;refine bZ this (by simp only[PW]) ?_;rw[cN _ _ (by simp)];simp
def aHX{f o:Bool}{N:NF}(C:NOk N)(B:BnN N)(u:K (slW Js Jr (jU (gC N))) M):au tab 154 [slI f o .i64 N.st] M K:=by
  have E:=GJ C;have hb:N.st.length<1000000000000:=B.s;have Q:(((0#64:BitVec 64).toNat:Nat):Int)=0:=rfl;have R:orB []=0#64:=rfl;have S:sG 0#64= .int .u64 0:=rfl;refine kR (aB T.h154 (by simp only[PP,simprocAttr]) ?_);simp only[af154,PP,simprocAttr];refine fT (fun(k:Nat)=>k<=N.st.length) (fun k=>(zj 3++sG (orB ((N.st.map Db).take k)):: .aa:: .aa::slI f o .i64 N.st::p64 N.st.length::p64 k::zj 12)) (fun _=>[]) (fun k=>N.st.length-k) 0 (by omega) ?_ (by simp only[Ds,R,S,PW]);intro k U V;refine aH (by kernel_rfl) ?_;simp only[PP,simprocAttr];refine QIf.intro (fun c=>?_) fun c=>?_;rotate_left
  · have G:k=N.st.length:=by omega
    subst G;rw[Bo (by simp),YG C];unfold jU at u;by_cases I:gC N=0#64
    · rw[I]at u ⊢;simp only[PP,simprocAttr,c,Q];exact⟨_,bh.ai _ _ _,u⟩
    · have hz:¬(((gC N).toNat:Nat):Int)=0:=fun h=>I (by apply Fs;simp;omega);rw[if_neg I]at u;simp only[PP,simprocAttr,c,hz];exact⟨_,bh.sl _ _ _ _,u⟩
  have hlt:k<N.st.length:=by omega
  have hw:=aA (k:=k) (by show _<1000000000000;omega);have Y:(0:Int)<=k:=by omega
  obtain⟨q,J⟩:=aK hlt;have Z:=E q (Af J);have y:=CZ (k:=q.toNat) (by omega);rw[show((q.toNat:Nat):Int)=q by omega]at y;have L:=GK (orB ((N.st.map Db).take k)) (Da 64 q.toNat);have O:orB ((N.st.map Db).take (k+1))=orB ((N.st.map Db).take k)||| Da 64 q.toNat:=by
    rw[<-aBw,Bx,Ap,J];rfl
  simp only[PP,simprocAttr,c,Y,J,y,L,hw];have:=V (k+1) (by omega) (by omega);rw[O]at this;exact aG this
def aCr{f o:Bool}{l:List Int}{q:Int}(hl:l.length<big)(E:∀r:Int,(0<=r↔q∈l)->K (p64 r) M):au tab 259 [slI f o .i64 l,p64 q] M K:=by
  have hb:l.length<1000000000000:=hl;refine aB T.h259 (by simp only[PP,simprocAttr]) ?_;simp only[af259,PP,simprocAttr];refine fT (fun(k:Nat)=>k<=l.length/\q∉l.take k) (fun k=>(slI f o .i64 l::p64 q::zj 5++p64 l.length::p64 k::zj 10)) (fun _=>[]) (fun k=>l.length-k) 0 (by simp) ?_;intro k ⟨I,u⟩ J;refine aH (by kernel_rfl) ?_;simp only[PP,simprocAttr];refine QIf.intro (fun c=>?_) fun c=>?_;rotate_left
  · have y:k=l.length:=by omega
    subst y;rw[Bo (Ab _)]at u;simp only[PP,simprocAttr,c];exact E _ ⟨fun h=>absurd h (by omega),fun h=>absurd h u⟩
  have hlt:k<l.length:=by omega
  have hw:=aA (k:=k) (by show _<1000000000000;omega);have G:(0:Int)<=k:=by omega
  obtain⟨x,B⟩:=aK hlt;simp only[PP,simprocAttr,c,G,B];refine QIf.intro (fun d=>?_) fun d=>?_
  · simp only[PP,simprocAttr,d];exact E _ ⟨fun _=>by rw[d];exact Af B,fun _=>G⟩
  · simp only[PP,simprocAttr,d,hw];refine aG (J (k+1) ⟨by omega,?_⟩ (by omega));rw[Bx,B];simp only[Dq,Cf,Ch];rintro(h | h)
    · exact u h
    · exact d h
def aFw{f o:Bool}{l:List Int}{q:Int}(hl:l.length<big)(u:K (.bool (decide (q∈l))) M):au tab 257 [slI f o .i64 l,p64 q] M K:=by
  refine aB T.h257 (by simp only[PP,simprocAttr]) ?_;simp only[af257,PP,simprocAttr];refine aCr T hl fun r hr=>?_;simp only[PP,simprocAttr];have:decide (0<=r)=decide (q∈l):=by simp only[hr]
  rw[this];exact u
end
def NN{a b:BitVec 64}(h:nJ a=nJ b):a=b:=by
  unfold nJ jU at h;have h:Key.mb ((if a=0#64 then []else [a]).map (·.toNat))=Key.mb ((if b=0#64 then []else [b]).map (·.toNat)):=by have:=congrArg (fun x:ByteArray=>x.data.toList) h;simpa using this
  by_cases u:a=0#64<;>by_cases hb:b=0#64
  · rw[u,hb]
  · rw[if_pos u,if_neg hb]at h;simp[Key.mb]at h
  · rw[if_neg u,if_pos hb]at h;simp[Key.mb]at h
  · rw[if_neg u,if_neg hb]at h;simp only[Ah,Av,Key.mb]at h;have:=List.append_inj_left' h rfl;exact Fs (ArK.pw a.isLt b.isLt this)
section
variable {α:Type} [DecidableEq α]
def frN(δ:α->Nat->α)(a:α)(S:List α)(x:Nat):List α:=(gB δ a x S).drop S.length
def oH(δ:α->Nat->α)(a:α)(S:List α)(x:Nat):gB δ a x S=S++frN δ a S x:=by obtain⟨r,h⟩:=lU δ a x S;unfold frN;rw[h,Gj]
def n7(δ:α->Nat->α)(a:α)(S:List α)(x:Nat):List Int:=(Ba x).map fun y=>(((gB δ a x S).idxOf (δ a y):Nat):Int)
def kX(δ:α->Nat->α)(a:α)(S:List α)(x:Nat):(n7 δ a S x).length=x:=by simp[n7]
def F3(δ:α->Nat->α)(a:α)(S:List α)(x:Nat):n7 δ a S (x+1)=n7 δ a S x++[(((gB δ a (x+1) S).idxOf (δ a x):Nat):Int)]:=by unfold n7;rw[Fq,Bh];congr 1;refine Cq fun y u=>?_;have u:=List.mem_range.1 u;obtain⟨r,h⟩:=PB (gB δ a x S) (δ a x);have h2:gB δ a (x+1) S=gB δ a x S++r:=h;rw[h2,yK];exact(oE δ a _ x S).2 (.inr ⟨y,u,rfl⟩)
def UI{δ:α->Nat->α}{a:α}{S:List α}{x:Nat}(h:δ a x∈S):frN δ a S (x+1)=frN δ a S x/\(gB δ a (x+1) S).idxOf (δ a x)=S.idxOf (δ a x):=by
  have e:gB δ a (x+1) S=gB δ a x S:=by show gH _ _=_;unfold gH;rw[if_pos (by rw[oH];exact List.mem_append_left _ h)]
  refine⟨by unfold frN;rw[e],?_⟩;rw[e,oH,yK h]
def UK{δ:α->Nat->α}{a:α}{S:List α}{x:Nat}(h:δ a x∉S)(h2:δ a x∈frN δ a S x):frN δ a S (x+1)=frN δ a S x/\(gB δ a (x+1) S).idxOf (δ a x)=S.length+(frN δ a S x).idxOf (δ a x):=by
  have e:gB δ a (x+1) S=gB δ a x S:=by show gH _ _=_;unfold gH;rw[if_pos (by rw[oH];exact List.mem_append_right _ h2)]
  refine⟨by unfold frN;rw[e],?_⟩;rw[e,oH,Ff,if_neg h,Dh]
def UJ{δ:α->Nat->α}{a:α}{S:List α}{x:Nat}(h:δ a x∉S)(h2:δ a x∉frN δ a S x):frN δ a S (x+1)=frN δ a S x++[δ a x]/\(gB δ a (x+1) S).idxOf (δ a x)=S.length+(frN δ a S x).length:=by
  have e:gB δ a (x+1) S=S++(frN δ a S x++[δ a x]):=by show gH _ _=_;unfold gH;rw[if_neg (by rw[oH,Cf];rintro(q | q);exact h q;exact h2 q),oH,Ac]
  refine⟨by have:=e;unfold frN at this ⊢;rw[this,Gj],?_⟩;rw[e,Ff,if_neg h,Ff,if_neg h2];simp only[List.idxOf_cons_self];omega
def uP(δ:α->Nat->α)(a:α)(S:List α):∀x,(frN δ a S x).length<=x
  | 0=>by simp[frN,gB]
  | x+1=>by
    have u:=uP δ a S x;by_cases h:δ a x∈S
    · rw[(UI h).1];omega
    · by_cases h2:δ a x∈frN δ a S x
      · rw[(UK h h2).1];omega
      · rw[(UJ h h2).1];simp;omega
def YZ(δ:α->Nat->α)(a:α){S:List α}(u:S.Nodup)(x:Nat):∀t∈frN δ a S x,t∉S:=fun t ht hs=>by have:=qG (δ:=δ) (a:=a) x u;rw[oH,Hd]at this;exact this.2.2 t hs t ht rfl
end
def MW{S:List (BitVec 64)}{t:BitVec 64}(k:Nat)(h:t∉S):kK 2 (.str (nJ t)) (.str (nJ t)) (p64 ((k+S.length:Nat):Int)) (smE (lY nJ k S))=smE (lY nJ k (S++[t])):=by have hl:=tJ (κ:=nJ) (Dm:=fun _=>True) (fun a b _ _ h=>NN h) (b:=t) trivial S k fun _ _=>trivial;rw[if_neg h]at hl;rw[IF _ _ _ hl,yA]
def x9(S:List (BitVec 64))(t:BitVec 64)(k:Nat):zE (nJ t) (lY nJ k S)=if t∈S then Jp (p64 ((k+S.idxOf t:Nat):Int))else Jq:=
  tJ (κ:=nJ) (Dm:=fun _=>True) (fun a b _ _ h=>NN h) trivial S k fun _ _=>trivial
def D3(a:BitVec 64):(eW a).length<=64:=by unfold eW;exact As (Fu _ _) (by simp)
def QE(id g:Nat)(cs a b:List PV):∀l:List PV,jn id g cs (l++a) (l++b)=jn id g cs a b
  | []=>rfl
  | x::l=>by rw[Ai,Ai,lQ,QE id g cs a b l]
abbrev csD(f o:Bool)(S:List (BitVec 64)):List PV:=S.map fun a=>slW f o (jU a)
abbrev clD(f o:Bool)(S:List (BitVec 64)):List PV:=(dP S).map (slI f o .i64)
def qD(a b c d e f g h i j:Nat):Nat->Nat
  | 0=>a | 1=>b | 2=>c | 3=>d | 4=>e | 5=>f | 6=>g | 7=>h | 8=>i | _=>j
def iH(b:Nat)(y B E G f3 I f o:Bool)(N:NF)(q:Nat->Nat)(S:List (BitVec 64))(rows:List (List Int))(u:List Bool):Mem:=
  [.gone,.cells (q 0) (q 1) (csD f o S),.cells (q 2) (q 3) (clD f o S),.map (q 4) (smE (lY nJ 0 S)),
   .cells 0 (q 5) [p64 N.vs,p64 N.n,slI y B .i64 N.st,slI E G .i64 N.fi,slE f3 I N.es,.ref (b + 1) (q 0) 1 0 S.length,.ref (b + 2) (q 2) 1 0 S.length,.map (b + 3),.ref (b + 5) (q 6) 1 0 rows.length,.ref (b + 6) (q 8) 1 0 u.length],
   .cells (q 6) (q 7) (rows.map (slI f o .i64)),.cells (q 8) (q 9) (u.map PV.bool)]
def KU(m:Nat)(f o:Bool)(S:List (BitVec 64)):aD m (csD f o S)=Jr:=iT m _ (fun a=>jW m _ _ 1 _ .u64 (wI (jU a))) S
def sR{A:Mem}(hA:A.all (aI A.length)=Jr)(E G I J f3 K f o:Bool)(N:NF)(q:Nat->Nat)(S:List (BitVec 64))(rows:List (List Int))(y:List Bool):
    (A++iH A.length E G I J f3 K f o N q S rows y).all (aI (A.length+7))=Jr:=by
  have h1:=fJ (n:=A.length+7) (by omega) hA;have h2:∀m,aI m (.map (q 4) (smE (lY nJ 0 S)))=Jr:=fun m=>by
    refine aEm (fun p u=>?_) (q 4);have B:∀(S:List (BitVec 64)) (k:Nat),∀p∈lY nJ k S,p.2.under m=Jr:=by
      intro S
      induction S with
      | nil=>intro k p u;cases u
      | cons a S L=>
        intro k p u;rcases List.mem_cons.1 u with rfl | u
        · simp[PV.under]
        · exact L _ p u
    exact B S 0 p u
  rw[Cl,h1];have h3:aD (A.length+7) (rows.map (slI f o .i64))=Jr:=iT _ _ (fun x=>jW _ _ _ 1 _ .i64 x) rows;have M:aD (A.length+7) (clD f o S)=Jr:=iT _ _ (fun x=>jW _ _ _ 1 _ .i64 x) _;have O:aD (A.length+7) (y.map PV.bool)=Jr:=iT _ _ (fun x=>by simp[PV.under]) y;have Q:=KU (A.length+7) f o S;simp only[iH,List.all_cons,List.all_nil,h2,Bool.true_and,Bool.and_true];simp only[aI,h3,M,O,Q];simp[aD,PV.under,fN,b9]
def pV{A l:Mem}{u y B E f3 G f o:Bool}{N:NF}{q:Nat->Nat}{S:List (BitVec 64)}{rows:List (List Int)}{I:List Bool} :
    (A++(iH A.length u y B E f3 G f o N q S rows I++l)).take (A.length+7)=A++iH A.length u y B E f3 G f o N q S rows I:=by
  rw[<-Ac];exact Bj (by simp[iH])
section
variable {tab:FuncId->Option AF} (T:HasA tab){M:Mem}{K:PV->Mem->Prop}
include T
def VS{A l:Mem}{K:PV->Mem->Prop}{u y B E f3 G f o:Bool}{N:NF}{q:Nat->Nat}{S:List (BitVec 64)}{rows:List (List Int)}{I:List Bool}(J:K (.bool (decide (rows.length<S.length))) (A++(iH A.length u y B E f3 G f o N q S rows I++l))):
    au tab 252 [.ptr (A.length+4) 0 0] (A++(iH A.length u y B E f3 G f o N q S rows I++l)) K:=by
  refine aV T.h252 ?_;unfold iH at J ⊢;simp only[af252,PP,simprocAttr,gk,gk0,sk,sk0];have e:decide ((rows.length:Int)<S.length)=decide (rows.length<S.length):=by simp only[Int.ofNat_lt]
  rw[e];exact J
def aJb{id v:Nat}{f o:Bool}{l:List Int}{x:Int}(u:M[id]? =Jp (.cells 0 v [slI f o .i64 l]))(hl:l.length<big)(y:K (.bool (decide (x∈l))) M):
    au tab 256 [p64 x,.ptr id 0 0] M K:=by
  refine aV T.h256 ?_;simp only[af256,PP,simprocAttr,u];refine aFw T hl ?_;simp only[PP,simprocAttr];exact y
def aHC{id v:Nat}{f o I J:Bool}{l u:List Int}(Q:M[id]? =Jp (.cells 0 v [slI f o .i64 l]))(hl:l.length<big)(R:u.length<big)(L:∀r:Int,(0<=r↔∃x∈u,x∈l)->K (p64 r) M):
    au tab 258 [slI I J .i64 u,.func (.func 256) [] [.ptr id 0 0]] M K:=by
  have hb:u.length<1000000000000:=R;refine aV T.h258 ?_;simp only[af258,PP,simprocAttr];refine fT (fun(k:Nat)=>k<=u.length/\∀x∈u.take k,x∉l) (fun k=>(slI I J .i64 u:: .func (.func 256) [] [.ptr id 0 0]::zj 5++p64 u.length::p64 k::zj 10)) (fun _=>M) (fun k=>u.length-k) 0 (by simp) ?_;intro k ⟨S,B⟩ U;refine aH (by kernel_rfl) ?_;simp only[PP,simprocAttr];refine QIf.intro (fun c=>?_) fun c=>?_;rotate_left
  · have E:k=u.length:=by omega
    subst E;rw[Bo (Ab _)]at B;simp only[PP,simprocAttr,c];exact L _ ⟨fun h=>absurd h (by omega),fun⟨x,h1,h2⟩=>absurd h2 (B x h1)⟩
  have hlt:k<u.length:=by omega
  have hw:=aA (k:=k) (by show _<1000000000000;omega);have O:(0:Int)<=k:=by omega
  obtain⟨x,G⟩:=aK hlt;simp only[PP,simprocAttr,c,O,G];refine aJb T Q hl ?_;by_cases d:x∈l
  · simp only[PP,simprocAttr,d];exact L _ ⟨fun _=>⟨x,Af G,d⟩,fun _=>O⟩
  · simp only[PP,simprocAttr,d,hw];refine aG (U (k+1) ⟨by omega,?_⟩ (by omega));rw[Bx,G];simp only[Dq,Cf,Ch];rintro y (h | rfl)
    · exact B y h
    · exact d
def aFv{id v:Nat}{f o y B:Bool}{l u:List Int}{b:Bool}(E:M[id]? =Jp (.cells 0 v [slI f o .i64 l]))(hl:l.length<big)(G:u.length<big)(hb:b=Jr↔∃x∈u,x∈l)(I:K (.bool b) M):
    au tab 255 [slI y B .i64 u,.func (.func 256) [] [.ptr id 0 0]] M K:=by
  refine aV T.h255 ?_;simp only[af255,PP,simprocAttr];refine aHC T E hl G fun r hr=>?_;simp only[PP,simprocAttr];have:decide (0<=r)=b:=by rw[Fg,decide_eq_true_eq,hr,hb]
  rw[this];exact I
def aFj{A:Mem}{K:PV->Mem->Prop}{f1 o1 f2 o2 f3 o3 f o:Bool}{N:NF}{q:Nat->Nat}{S:List (BitVec 64)}{rows:List (List Int)}{E:List Bool}(hc:gF N=0)(B:BnN N)(hA:A.all (aI A.length)=Jr)
    (hn:S.Nodup) (hl:S.length<=4096) (f4:E.length=rows.length)
    (c6:S.length<=rows.length->K (.tuple [.bool Js,p64 0]) (A++iH A.length f1 o1 f2 o2 f3 o3 f o N q S rows E))
    (c7:∀a,S[rows.length]? =Jp a->4096<(gB (aJ N) a (aS N) S).length->K (.tuple [.bool Js,p64 10]) (A++iH A.length f1 o1 f2 o2 f3 o3 f o N q S rows E))
    (c8:∀a,S[rows.length]? =Jp a->(gB (aJ N) a (aS N) S).length<=4096->∀q',K (.tuple [.bool Jr,p64 0]) (A++iH A.length f1 o1 f2 o2 f3 o3 Jr Js N q' (gB (aJ N) a (aS N) S) (rows++[mF (aJ N) (aS N) (gB (aJ N) a (aS N) S) a]) (E++[E1 N a]))):
    au tab 253 [.ptr (A.length+4) 0 0] (A++iH A.length f1 o1 f2 o2 f3 o3 f o N q S rows E) K:=by
  have C:=nI hc;have a5:eE .shl (.int .i64 1) (.int .i64 N.vs)=Jp (.int .i64 ((aS N:Nat):Int)):=by rw[UX (by have:=C.v0;omega) (by have:=C.v6;omega)];simp
  refine iG (jV T.h253 ?_);simp only[af253];refine aC ?_;simp only[PP,simprocAttr,PT];refine VS T (l:=[]) ?_;simp only[PP,simprocAttr];by_cases c:rows.length<S.length;rotate_left
  · simp only[PP,simprocAttr,c];exact Gh.same ⟨_,rfl,c6 (by omega)⟩
  obtain⟨a,ga⟩:=aK c;have k0:(0:Int)<=rows.length:=by omega
  have k1:(rows.length:Int)<S.length:=by omega
  simp only[iH,PP,simprocAttr,PT,gk,gk0,sk,sk0,c,k0,k1,ga,a5,Ac];refine aG (b:=(.ptr (A.length+4) 0 0::zj 3++slW f o (jU a):: .ai:: .ai:: .map (A.length+7)::zj 29++p64 (aS N:Nat)::p64 (0:Nat)::zj 130)) ?_;refine cK (GStep.nil (b:=(.ptr (A.length+4) 0 0::zj 3++slW f o (jU a):: .ref (A.length+8) 0 1 0 0:: .ai:: .map (A.length+7)::zj 29++p64 (aS N:Nat)::p64 (0:Nat)::zj 130)) 5 1 rfl (by simp only[PP,simprocAttr]) rfl) ?_;refine cK (GStep.nil (b:=(.ptr (A.length+4) 0 0::zj 3++slW f o (jU a):: .ref (A.length+8) 0 1 0 0:: .ref (A.length+9) 0 1 0 0:: .map (A.length+7)::zj 29++p64 (aS N:Nat)::p64 (0:Nat)::zj 130)) 6 1 rfl (by simp only[PP,simprocAttr]) rfl) ?_;refine C8 (fun(x L O vm:Nat)=>x<=aS N) (fun x L O vm=>(.ptr (A.length+4) 0 0::zj 3++slW f o (jU a):: .ref (A.length+8) L 1 0 x:: .ref (A.length+9) O 1 0 (frN (aJ N) a S x).length:: .map (A.length+7)::zj 29++p64 (aS N:Nat)::p64 (x:Nat)::zj 130))
    (fun x L O vm=>A++(iH A.length f1 o1 f2 o2 f3 o3 f o N q S rows E++[.map vm (smE (lY nJ S.length (frN (aJ N) a S x))),.cells L 0 ((n7 (aJ N) a S x).map p64),.cells O 0 (csD Js Jr (frN (aJ N) a S x))])) (fun x L O vm=>aS N-x) 0 0 0 0 (by omega) ?_ (by simp only[frN,gB,Gv,PW]) ?_
  rotate_left
  · simp only[iH,frN,gB,Gv,n7,He,lY,smE,Ac,PP,simprocAttr]
  intro x L O vm hx ih;refine aH (by kernel_rfl) ?_;have f5:=C.oh;have f6:=uP (aJ N) a S x;simp only[iH,PP,simprocAttr,PT,gk,gk0,sk,sk0,Ac];refine QIf.intro (fun d=>?_) fun d=>?_
  · have c9:x<aS N:=by omega
    have d0:IntKind.u8.wrap (x:Int)=(x:Int):=by
      have:x<256:=by omega
      unfold IntKind.wrap;simp[IntKind.bits,IntKind.signed];omega
    have a1:=aA (k:=x) (by show _<1000000000000;omega);have a2:IntKind.i64.wrap ((S.length:Int)+(frN (aJ N) a S x).length)=((S.length+(frN (aJ N) a S x).length:Nat):Int):=by rw[wrap64]<;>omega
    have b1:(x+1)*8<=140737488355328:=by omega
    have b2:x+1<=9223372036854775807:=by omega
    have b3:x<=(n7 (aJ N) a S x).length:=by rw[kX];exact Ab _
    have b4:((frN (aJ N) a S x).length+1)*24<=140737488355328:=by omega
    have b5:(frN (aJ N) a S x).length+1<=9223372036854775807:=by omega
    have G:=x9 S (aJ N a x) 0;have I:=x9 (frN (aJ N) a S x) (aJ N a x) S.length;have y:=F3 (aJ N) a S x;simp only[iH,PP,simprocAttr,PT,gk,gk0,sk,sk0,Ac,d,d0];refine YJ T hc B c9 ?_;simp only[iH,PP,simprocAttr,PT,gk,gk0,sk,sk0,Ac];refine SY T ?_;simp only[iH,PP,simprocAttr,PT,gk,gk0,sk,sk0,Ac];by_cases m1:aJ N a x∈S
    · rw[if_pos m1]at G;obtain⟨v1,v2⟩:=UI m1;rw[v2]at y;simp only[iH,PP,simprocAttr,PT,gk,gk0,sk,sk0,Ac,G,a1,b1,b2,b3];have:=ih (x+1) (L+1) O vm (by omega) (by omega);rw[v1,y]at this;refine bZ this (by simp only[PW]) ?_;simp only[iH,Ac,PP,simprocAttr];rw[cN _ _ (by simp[kX])]
    · rw[if_neg m1]at G;by_cases m2:aJ N a x∈frN (aJ N) a S x
      · rw[if_pos m2]at I;obtain⟨v1,v2⟩:=UK m1 m2;rw[v2]at y;simp only[iH,PP,simprocAttr,PT,gk,gk0,sk,sk0,Ac,G,I,a1,b1,b2,b3];have:=ih (x+1) (L+1) O vm (by omega) (by omega);rw[v1,y]at this;refine bZ this (by simp only[PW]) ?_;simp only[iH,Ac,PP,simprocAttr];rw[cN _ _ (by simp[kX])]
      · rw[if_neg m2]at I;obtain⟨v1,v2⟩:=UJ m1 m2;rw[v2]at y;have J:=MW S.length m2;simp only[iH,PP,simprocAttr,PT,gk,gk0,sk,sk0,Ac,G,I,a1,a2,J,b1,b2,b3,b4,b5];have:=ih (x+1) (L+1) (O+1) (vm+1) (by omega) (by omega);rw[v1,y]at this;have e1:(frN (aJ N) a S x++[aJ N a x]).length=(frN (aJ N) a S x).length+1:=by simp
        rw[e1]at this;refine bZ this (by simp only[PW]) ?_;simp only[iH,Ac,PP,simprocAttr];rw[cN _ _ (by simp[kX])]
  obtain rfl:x=aS N:=by omega
  have a2:IntKind.i64.wrap ((S.length:Int)+(frN (aJ N) a S (aS N)).length)=((S.length+(frN (aJ N) a S (aS N)).length:Nat):Int):=by rw[wrap64]<;>omega
  have f7:(gB (aJ N) a (aS N) S).length=S.length+(frN (aJ N) a S (aS N)).length:=by rw[oH,Al]
  simp only[iH,PP,simprocAttr,PT,gk,gk0,sk,sk0,Ac,d,a2];refine QIf.intro (fun e=>?_) fun e=>?_
  · simp only[PP,simprocAttr,e];refine Gh.step (GStep.ia (b:=[.tuple [.bool Js,p64 10]]) (N:=A++iH A.length f1 o1 f2 o2 f3 o3 f o N q S rows E) (A.length+7) (by simp) (by simp) (by simp only[PW]) ?_ ?_ ?_) (Gh.same ⟨_,rfl,c7 a ga (by omega)⟩)
    · simp[aD,PV.under]
    · exact(congrArg (fun M:Mem=>M.all (aI (A.length+7))) (pV (l:=[_,_,_]))).trans (sR hA ..)
    · exact pV (l:=[_,_,_])
  have d4:=YZ (aJ N) a hn (aS N);have d5:(frN (aJ N) a S (aS N)).Nodup:=by have:=qG (δ:=aJ N) (a:=a) (aS N) hn;rw[oH,Hd]at this;exact this.2.1
  have d6:∀S:List (BitVec 64),(dP S).length=S.length:=fun S=>by simp[dP]
  simp only[PP,simprocAttr,gk,gk0,e];have a6:=oH (aJ N) a S (aS N);generalize g0:frN (aJ N) a S (aS N)=u at*;refine aG (b:=(.ptr (A.length+4) 0 0::zj 3++slW f o (jU a):: .ref (A.length+8) L 1 0 (aS N)::zj 96++ .ref (A.length+9) O 1 0 u.length::p64 u.length::p64 (0:Nat)::zj 64)) ?_;refine cK (GStep.wkO (A.length+1) (cs2:=csD Jr Js S) (by rw[gk];rfl) (fun w R h=>h.wkM fun x=>bh.sl0 _ _ _ _ _) rfl) ?_;refine cK (GStep.wkO (A.length+2) (cs2:=clD Jr Js S) (by rw[sk,gk];rfl) (fun w R h=>h.wkM fun x=>bh.sl0 _ _ _ _ _) rfl) ?_;refine cK (GStep.wkO (A.length+5) (cs2:=rows.map (slI Jr Js .i64)) (by rw[sk,sk,gk];rfl) (fun w R h=>h.wkM fun x=>bh.sl0 _ _ _ _ _) rfl) ?_;refine aIR (fun(i U vs V vl Y Z:Nat)=>i<=u.length) (fun i U vs V vl Y Z=>(.ptr (A.length+4) 0 0::zj 3++slW f o (jU a):: .ref (A.length+8) L 1 0 (aS N)::zj 96++ .ref (A.length+9) O 1 0 u.length::p64 u.length::p64 (i:Nat)::zj 64))
    (fun i U vs V vl Y Z=>A++[.gone,.cells U vs (csD Jr Js S++csD Js Jr (u.take i)),.cells V vl (clD Jr Js S++clD Js Jr (u.take i)),.map Y (smE (lY nJ 0 (S++u.take i))),.cells 0 Z [p64 N.vs,p64 N.n,slI f1 o1 .i64 N.st,slI f2 o2 .i64 N.fi,slE f3 o3 N.es,.ref (A.length+1) U 1 0 (S.length+i),.ref (A.length+2) V 1 0 (S.length+i),.map (A.length+3),.ref (A.length+5) (q 6) 1 0 rows.length,.ref (A.length+6) (q 8) 1 0 E.length],.cells (q 6) (q 7) (rows.map (slI Jr Js .i64)),.cells (q 8) (q 9) (E.map PV.bool),.map vm (smE (lY nJ S.length u)),.cells L 0 ((n7 (aJ N) a S (aS N)).map p64),.cells O 0 (csD Js Jr u)]) (fun i U vs V vl Y Z=>u.length-i) 0 (q 0) (q 1) (q 2) (q 3) (q 4) (q 5) (by omega) ?_ (by simp only[PW]) ?_
  rotate_left
  · have e0:clD Js Jr []=[]:=rfl;simp only[sk,Ds,Av,e0,Ao,Nat.add_zero,PP,simprocAttr]
  intro i U vs V vl Y Z hi ih;refine aH (by kernel_rfl) ?_;simp only[PP,simprocAttr,PT,gk,gk0,sk,sk0];refine QIf.intro (fun c2=>?_) fun c2=>?_
  · have e2:i<u.length:=by omega
    obtain⟨t,gt⟩:=aK e2;have i0:(0:Int)<=i:=by omega
    have e3:=aA (k:=i) (by show _<1000000000000;omega);have a3:u.take (i+1)=u.take i++[t]:=fK gt;have b7:t∉S++u.take i:=by
      rw[Cf];rintro(h | h)
      · exact d4 t (Af gt) h
      · have h2:=d5;rw[<-Cu i u,Hd]at h2;refine h2.2.2 t h t ?_ rfl;exact Af (i:=0) (by rw[Br];exact gt)
    have J:=MW 0 b7;have b8:=x9 (S++u.take i) t 0;rw[if_neg b7]at b8;have e4:(S++u.take i).length=S.length+i:=by rw[Al,Ay,Dk (by omega)]
    rw[e4,Bg,Ac,<-a3]at J;have c0:(u.take i).length=i:=by rw[Ay,Dk (by omega)]
    have a0:(A.length+1==A.length+4)=Js:=by simp
    have a7:(A.length+2==A.length+4)=Js:=by simp
    have c1:(S.length+i+1)*24<=140737488355328:=by omega
    have c3:S.length+i<=9223372036854775806:=by omega
    have e7:(csD Jr Js S++csD Js Jr (u.take i)).length=S.length+i:=by simp;omega
    have a9:(clD Jr Js S++clD Js Jr (u.take i)).length=S.length+i:=by simp[dP];omega
    simp only[PP,simprocAttr,PT,gk,gk0,sk,sk0,c2,i0,gt];refine SY T ?_;have c4:S.length+i<=S.length+i:=Ab _;simp only[PP,simprocAttr,PT,gk,gk0,sk,sk0,b8,J,c0,c4,c1,c3,a0];refine V2 T ?_;simp only[PP,simprocAttr,PT,gk,gk0,sk,sk0,d6,c0,c4,c1,c3,a0,a7,e3];have:=ih (i+1) (U+1) 0 (V+1) 0 (Y+1) (Z+1+1) (by omega) (by omega);refine bZ this (by simp only[PW]) ?_;have e5:csD Js Jr (u.take (i+1))=csD Js Jr (u.take i)++[slW Js Jr (jU t)]:=by rw[a3];simp
    have e6:clD Js Jr (u.take (i+1))=clD Js Jr (u.take i)++[slI Js Jr .i64 (jA (eW t))]:=by rw[a3];simp only[clD,dP,Bh,Ah,Av]
    rw[cN _ _ e7.symm,cN _ _ a9.symm,e5,e6];simp only[Ac,Cn,Ag,slW,slI]
  obtain rfl:i=u.length:=by omega
  rw[Ct];simp only[PP,simprocAttr,PT,gk,gk0,sk,sk0,c2];refine V2 T ?_;have n1:(rows.length+1)*24<=140737488355328:=by omega
  have n2:rows.length<=9223372036854775806:=by omega
  have n3:E.length+1<=140737488355328:=by omega
  have n4:E.length<=9223372036854775806:=by omega
  have n5:rows.length+1<=9223372036854775807:=by omega
  have n6:E.length+1<=9223372036854775807:=by omega
  simp only[PP,simprocAttr,PT,gk,gk0,sk,sk0,Ac,n1,n2,n5,n3,n4,n6];refine aFv T (v:=1) (f:=false) (o:=true) (l:=jA (eW a)) (b:=E1 N a) (by rw[gk];simp only[slI,Ag,Bl,Cg]) (by have:=D3 a;simp;show _<1000000000000;omega) B.f ?_ ?_
  · unfold E1;rw[Gc];constructor
    · rintro⟨x,h1,h2⟩;have:=m9 C.fi x h1;exact⟨x,h1,List.mem_map.2 ⟨x.toNat,fj.2 h2,by omega⟩⟩
    · rintro⟨x,h1,h2⟩;obtain⟨k,h3,rfl⟩:=List.mem_map.1 h2;exact⟨_,h1,by rw[Bq];exact fj.1 h3⟩
  simp only[PP,simprocAttr,PT,gk,gk0,sk,sk0,Ac,n1,n2,n5,n3,n4,n6];have y:n7 (aJ N) a S (aS N)=mF (aJ N) (aS N) (gB (aJ N) a (aS N) S) a:=rfl;have a4:=kX (aJ N) a S (aS N);have c5:=c8 a ga (by omega) (qD U vs V vl Y (Z+1+1) (q 6+1) 0 (q 8+1) 0);rw[<-y,a6]at c5;refine Gh.step (GStep.jd (b:=[.tuple [.bool Jr,.int .i64 0]]) (cj2:=rows.map (slI Jr Js .i64)++[slI Js Jr .i64 (n7 (aJ N) a S (aS N))]) (A.length+8) (A.length+5) (by omega) (by rw[gk];rfl) (by rw[gk];rfl) (by omega) ?_ ?_ rfl) ?_
  · simp only[mX,mY,Ai,Aj,lQ,oN]
  · rw[QE,sZ (by simp[a4]) (by rw[cN _ _ (by simp[a4])];simp only[slI,a4]),oN];trivial
  simp only[gk,sk,Dv,Dc];refine Gh.step (GStep.wkO (A.length+1) (cs2:=csD Jr Js (S++u)) (by rw[gk];rfl) (fun w R h=>h.wkA (fun x=>bh.refl _) fun x=>bh.sl0 _ _ _ _ _) rfl) ?_;simp only[gk,sk,Dv,Dc];refine Gh.step (GStep.wkO (A.length+2) (cs2:=clD Jr Js (S++u)) (by rw[gk];rfl) (fun w R h=>by
    have e:clD Jr Js (S++u)=(dP S++dP u).map (slI Jr Js .i64):=by simp only[clD,dP,Bh]
    rw[e];exact h.wkA (fun x=>bh.refl _) fun x=>bh.sl0 _ _ _ _ _) rfl) ?_
  simp only[gk,sk,Dv,Dc];refine Gh.step (GStep.wkO (A.length+5) (cs2:=(rows++[n7 (aJ N) a S (aS N)]).map (slI Jr Js .i64)) (by rw[gk];rfl) (fun w R h=>ak.wkA (ys:=[n7 (aJ N) a S (aS N)]) (f2:=slI Js Jr .i64) (fun x=>bh.refl _) (fun x=>bh.sl0 _ _ _ _ _) h) rfl) ?_;simp only[gk,sk,Dv,Dc];have e8:S.length+u.length=(S++u).length:=by simp
  have b0:rows.length+1=(rows++[n7 (aJ N) a S (aS N)]).length:=by simp
  have b6:E.length+1=(E++[E1 N a]).length:=by simp
  rw[e8,b0,b6];have ef:E.map PV.bool++[.bool (E1 N a)]=(E++[E1 N a]).map PV.bool:=by simp
  rw[ef];refine Gh.step (GStep.ia (b:=[.tuple [.bool Jr,p64 0]]) (N:=A++iH A.length f1 o1 f2 o2 f3 o3 Jr Js N (qD U vs V vl Y (Z+1+1) (q 6+1) 0 (q 8+1) 0) (S++u) (rows++[n7 (aJ N) a S (aS N)]) (E++[E1 N a])) (A.length+7) (Ab _) (by simp) (by simp only[PW]) (by simp[aD,PV.under]) ?_ ?_) (Gh.same ⟨_,rfl,c5⟩)
  · exact(congrArg (fun M:Mem=>M.all (aI (A.length+7))) (pV (q:=qD U vs V vl Y (Z+1+1) (q 6+1) 0 (q 8+1) 0) (l:=[_,_,_,_]))).trans (sR hA ..)
  · exact pV (q:=qD U vs V vl Y (Z+1+1) (q 6+1) 0 (q 8+1) 0) (l:=[_,_,_,_])
def aCc{u B:Int}{x:Nat}(I:0<=u/\u<=255)(J:0<=B/\B<=255)(L:x<256)(E:K (.bool (AU u B x)) M):
    au tab 161 [p8 x,p8 u,p8 B] M K:=by
  refine aB T.h161 (by simp only[PP,simprocAttr]) ?_;have h1:=mN (x:=x) (y:=u) (by omega) I;have h2:=mN (x:=x) (y:=B) (by omega) J;simp only[af161,PP,simprocAttr,h1,h2];refine QIf.intro (fun G=>?_) fun G=>?_
  · simp only[PP,simprocAttr,G,h2,AU]at E ⊢;exact E
  · simp only[PP,simprocAttr,G,AU]at E ⊢;exact E
end
def sU(N:NF)(a:BitVec 64)(x q:Nat):List Nat:=(Ba q).filter fun k=>(aJ N a x).getLsbD k
def edC(a:BitVec 64)(x q:Nat)(e:Eg):Bool:=decide (e.to=(q:Int))&&a.getLsbD e.fr.toNat&&AU e.ps e.ng x
def ZH(N:NF)(a:BitVec 64)(x q:Nat):sU N a x (q+1)=if(aJ N a x).getLsbD q=Jr then sU N a x q++[q]else sU N a x q:=by
  unfold sU;rw[Fq,Gl,List.filter_cons,Ja];by_cases h:(aJ N a x).getLsbD q=Jr
  · rw[if_pos h,if_pos h]
  · rw[if_neg h,if_neg h,Ao]
def aC9{N:NF}(C:NOk N)(a:BitVec 64)(x q:Nat):N.es.any (edC a x q)=(aJ N a x).getLsbD q:=by
  rw[Fg,rE C,Gc];unfold edC pP;simp only[Aw,decide_eq_true_eq,Ek];constructor
  · rintro⟨e,h1,⟨h2,h3⟩,u⟩;exact⟨e,⟨h1,u⟩,h3,h2⟩
  · rintro⟨e,⟨h1,u⟩,h3,h2⟩;exact⟨e,h1,⟨h2,h3⟩,u⟩
def aC8(N:NF)(a:BitVec 64)(x q:Nat):(sU N a x q).length<=q:=by unfold sU;exact As (Fu _ _) (by simp)
def aFI{N:NF}{a:BitVec 64}{x q k:Nat}(h:k∈sU N a x q):k<q:=by unfold sU at h;exact List.mem_range.1 (List.mem_filter.1 h).1
def aDa{N:NF}(C:NOk N)(a:BitVec 64)(x:Nat):sU N a x N.n.toNat=eW (aJ N a x):=by
  unfold sU eW;have u:=C.n64;have e:Ba 64=Ba N.n.toNat++(Ba (64-N.n.toNat)).map (fun j=>N.n.toNat+j):=by
    refine List.ext_getElem? fun i=>?_;by_cases c:i<64
    · rw[Eb c];by_cases y:i<N.n.toNat
      · rw[Bm (by simp;omega),Eb y]
      · rw[Bv (by simp;omega),Ap,List.length_range,Eb (by omega)];simp only[Dd,Option.some.injEq];omega
    · rw[Bu (by simp;omega),Bu (by simp;omega)]
  rw[e,Gl];have z:((Ba (64-N.n.toNat)).map fun j=>N.n.toNat+j).filter (fun k=>(aJ N a x).getLsbD k)=[]:=by rw[List.filter_eq_nil_iff];intro k B h;obtain⟨j,_,rfl⟩:=List.mem_map.1 B;obtain⟨e,h1,_,h3⟩:=(rE C a x _).1 h;have:=C.ed e (NB h1);omega
  rw[z,Ao]
def M9{a:BitVec 64}{x:Int}(h:0<=x):decide (x∈jA (eW a))=a.getLsbD x.toNat:=by
  rw[Fg,decide_eq_true_eq,<-fj];have e:x=((x.toNat:Nat):Int):=by omega
  rw[e,M7,Bq]
section
variable {tab:FuncId->Option AF} (T:HasA tab){M:Mem}{K:PV->Mem->Prop}
include T
def Q3{U V Y Z f3 o3 E G:Bool}{N:NF}{a:BitVec 64}{x:Nat}(C:NOk N)(B:BnN N)(hx:x<256)(hk:K (slI Js Jr .i64 (jA (eW (aJ N a x)))) M):
    au tab 100 [.agg (nfC U V Y Z f3 o3 N),slI E G .i64 (jA (eW a)),p8 x] M K:=by
  have a6:=C.n64;have n0:=C.n0;have qz:=C.qz;have a7:(eW a).length<=64:=by unfold eW;exact As (Fu _ _) (by simp)
  refine eC T.py (by simp only[PP,simprocAttr,aZ]) ?_;simp only[af100];refine aE (aC ?_);simp only[PP,simprocAttr];refine aE (aC ?_);simp only[PP,simprocAttr];refine cK (GStep.nil 7 1 rfl rfl rfl) ?_;refine aC ?_;simp only[PP,simprocAttr];refine iN (fun(q g:Nat)=>(q:Int)<=N.n) (fun q g=>(.aa::slI E G .i64 (jA (eW a))::p8 x:: .ptr 0 0 0::zj 3++ .ref 1 g 1 0 (sU N a x q).length::p64 q::zj 49))
    (fun q g=>[.cells 0 0 (nfC U V Y Z f3 o3 N),.cells g 0 ((jA (sU N a x q)).map p64)]) (fun q g=>N.n.toNat-q) 0 0 (by omega) ?_ (by simp only[sU,He,Ja,An,PW])
  intro q g a9 ih;refine aH (by kernel_rfl) ?_;simp only[PP,simprocAttr];refine QIf.intro (fun c=>?_) fun c=>?_;rotate_left
  · obtain rfl:q=N.n.toNat:=by omega
    rw[aDa C];have hfz:uO (Jp (bl.cells g 0 ((jA (eW (aJ N a x))).map p64))) g 1 0 (eW (aJ N a x)).length=Jp (slI Js Jr .i64 (jA (eW (aJ N a x)))):=by rw[gT (by simp) (b9 _ _ _),cN _ _ (by simp)];simp only[slI,Ag]
    simp only[PP,simprocAttr,c,hfz];exact hk
  have b0:=aC8 N a x q;have wq:=aA (k:=q) (by show _<1000000000000;omega);have a0:(aJ N a x).getLsbD q=N.es.any (edC a x q):=(aC9 C a x q).symm;simp only[PP,simprocAttr,c];refine nL (fun(i g:Nat) (l:List Nat)=>i<=N.es.length/\l=sU N a x q++if(N.es.take i).any (edC a x q)=Jr then [q]else []) (fun i g l=>(.aa::slI E G .i64 (jA (eW a))::p8 x:: .ptr 0 0 0::zj 3++ .ref 1 g 1 0 l.length::p64 q::p64 i::zj 48))
    (fun i g l=>[.cells 0 0 (nfC U V Y Z f3 o3 N),.cells g 0 ((jA l).map p64)]) (fun i g l=>N.es.length-i) 0 g (sU N a x q) ⟨by omega,by simp⟩ ?_
  intro i g l ⟨b3,hl⟩ J;refine aH (by kernel_rfl) ?_;simp only[PP,simprocAttr];refine QIf.intro (fun d=>?_) fun d=>?_
  · have hi:i<N.es.length:=by omega
    obtain⟨e,S⟩:=aK hi;have i0:(0:Int)<=i:=by omega
    have O:=aA (k:=i) (by show _<1000000000000;omega);have h4:=oA S;have a1:i*4+4<=(egL N.es).length:=by rw[kN];exact OQ S
    have Q:=Af S;obtain⟨b1,b2⟩:=B.b e Q;obtain⟨e1,e2,e3,e4,_⟩:=C.ed e Q;have y:(N.es.take (i+1)).any (edC a x q)=((N.es.take i).any (edC a x q)||edC a x q e):=by rw[Bx,S,List.any_append];simp
    have a2:=M9 (a:=a) e1;have b4:l.length<=65:=by rw[hl,Al];split<;>simp<;>omega
    have same:edC a x q e=Js->l=sU N a x q++if(N.es.take (i+1)).any (edC a x q)=Jr then [q]else []:=fun h=>by rw[y,h,Bool.or_false];exact hl
    have go:=fun(h:edC a x q e=Js)=>J (i+1) g l ⟨by omega,same h⟩ (by omega);simp only[PP,simprocAttr,d,i0,h4,a1];refine QIf.intro (fun R=>?_) fun R=>?_
    · have a3:decide (e.to=(q:Int))=Jr:=decide_eq_true R;simp only[PP,simprocAttr,R];refine DH T (by simp;show _<1000000000000;omega) ?_;rw[a2]
      cases c2:a.getLsbD e.fr.toNat with
      | false=>simp only[PP,simprocAttr,O];refine cK (GStep.drop (b:=(.aa::slI E G .i64 (jA (eW a))::p8 x:: .ptr 0 0 0::zj 3++ .ref 1 g 1 0 l.length::p64 q::p64 ((i+1:Nat):Int)::zj 48)) 2 (Au _) (by simp) (by simp only[PW]) (by simp only[PP,simprocAttr,PV.under]) (by simp only[PP,simprocAttr,fN,aZ]) rfl) (go (by unfold edC;rw[c2];simp))
      | true=>
        simp only[PP,simprocAttr];refine aCc T b1 b2 hx ?_
        cases c3:AU e.ps e.ng x with
        | false=>simp only[PP,simprocAttr,O];refine cK (GStep.drop (b:=(.aa::slI E G .i64 (jA (eW a))::p8 x:: .ptr 0 0 0::zj 3++ .ref 1 g 1 0 l.length::p64 q::p64 ((i+1:Nat):Int)::zj 48)) 2 (Au _) (by simp) (by simp only[PW]) (by simp only[PP,simprocAttr,PV.under]) (by simp only[PP,simprocAttr,fN,aZ]) rfl) (go (by unfold edC;rw[c3];simp))
        | true=>
          have a4:edC a x q e=Jr:=by unfold edC;rw[a3,c2,c3];rfl
          rw[a4,Bool.or_true]at y;simp only[PP,simprocAttr];refine mE (.ints rfl (Ag _) (.same rfl .nil)) (DH T (by simp;show _<1000000000000;omega) ⟨rfl,?_⟩);have I:((q:Nat):Int)∈jA l↔q∈l:=M7;by_cases hm:q∈l
          · have L:=I.2 hm;have u:(N.es.take i).any (edC a x q)=Jr:=by refine Cd fun h=>?_;rw[if_neg h,Ao]at hl;rw[hl]at hm;exact absurd (aFI hm) (by omega)
            have:=J (i+1) g l ⟨by omega,by rw[y,if_pos rfl,hl,if_pos u]⟩ (by omega);simp only[PP,simprocAttr,L,O];refine cK (GStep.drop (b:=(.aa::slI E G .i64 (jA (eW a))::p8 x:: .ptr 0 0 0::zj 3++ .ref 1 g 1 0 l.length::p64 q::p64 ((i+1:Nat):Int)::zj 48)) 2 (Au _) (by simp) (by simp only[PW]) (by simp only[PP,simprocAttr,PV.under]) (by simp only[PP,simprocAttr,fN,aZ]) rfl) this
          · have L:¬((q:Nat):Int)∈jA l:=fun h=>hm (I.1 h);have u:¬(N.es.take i).any (edC a x q)=Jr:=fun h=>by rw[if_pos h]at hl;exact hm (by rw[hl];simp)
            have:=J (i+1) (g+1) (l++[q]) ⟨by omega,by rw[y,if_pos rfl,hl,if_neg u,Ao]⟩ (by omega);have k1:(l.length+1)*8<=140737488355328:=by omega
            have k2:l.length+1<=9223372036854775807:=by omega
            simp only[PP,simprocAttr,L,O,k1,k2];rw[cN _ _ (by simp)];refine cK (GStep.drop (b:=(.aa::slI E G .i64 (jA (eW a))::p8 x:: .ptr 0 0 0::zj 3++ .ref 1 (g+1) 1 0 (l++[q]).length::p64 q::p64 ((i+1:Nat):Int)::zj 48)) 2 (Au _) (by simp) (by simp only[Al,Ak,An,Bg,PW]) (by simp only[PP,simprocAttr,PV.under]) (by simp only[PP,simprocAttr,fN,aZ]) rfl) ?_;refine bZ this (by simp only[PW]) ?_;rw[SC,Bh];rfl
    · simp only[PP,simprocAttr,R,O];refine cK (GStep.drop (b:=(.aa::slI E G .i64 (jA (eW a))::p8 x:: .ptr 0 0 0::zj 3++ .ref 1 g 1 0 l.length::p64 q::p64 ((i+1:Nat):Int)::zj 48)) 2 (Au _) (by simp) (by simp only[PW]) (by simp only[PP,simprocAttr,PV.under]) (by simp only[PP,simprocAttr,fN,aZ]) rfl) (go (by unfold edC;rw[decide_eq_false R];rfl))
  · obtain rfl:i=N.es.length:=by omega
    rw[Ct,<-a0]at hl;have a5:l=sU N a x (q+1):=by rw[ZH,hl];split<;>simp
    subst a5;simp only[PP,simprocAttr,d,wq];exact aG (ih (q+1) g (by omega) (by omega))
end
def wrap_u64{k:Nat}(h:k<4000000000000):IntKind.u64.wrap (k:Int)=(k:Int):=by simp only[IntKind.wrap,IntKind.signed,IntKind.bits];simp;omega
def DQ:∀{l m:List Int},l.Pairwise (· < ·)->m.Pairwise (· < ·)->(∀x,x∈l↔x∈m)->l=m
  | [],[],_,_,_=>rfl
  | [],y::m,_,_,h=>by have:=(h y).2 (by simp);simp at this
  | x::l,[],_,_,h=>by have:=(h x).1 (by simp);simp at this
  | x::l,y::m,hl,hm,h=>by
    rw[List.pairwise_cons]at hl hm;have e:x=y:=by
      have h1:=(h x).1 (by simp);have h2:=(h y).2 (by simp);rcases List.mem_cons.1 h1 with h1 | h1
      · exact h1
      · rcases List.mem_cons.1 h2 with h2 | h2
        · exact h2.symm
        · have:=hl.1 y h2;have:=hm.1 x h1;omega
    subst e;congr 1;refine DQ hl.2 hm.2 fun z=>?_;constructor
    · intro hz;rcases List.mem_cons.1 ((h z).1 (by simp[hz]))with e | e
      · have:=hl.1 z hz;omega
      · exact e
    · intro hz;rcases List.mem_cons.1 ((h z).2 (by simp[hz]))with e | e
      · have:=hm.1 z hz;omega
      · exact e
section
variable {α:Type} [DecidableEq α]
def yL{b:α} :∀{o:List α},b∈o->o[o.idxOf b]? =Jp b
  | [],h=>by simp at h
  | a::o,h=>by
    by_cases e:b=a
    · subst e;simp
    · rw[oG e];rw[Bl];exact yL ((List.mem_cons.1 h).resolve_left e)
def GX{b:α} :∀{o:List α} {k:Nat},o[k]? =Jp b->o.idxOf b<=k
  | [],k,h=>by simp at h
  | a::o,k,h=>by
    by_cases e:b=a
    · subst e;simp
    · rw[oG e]
      cases k with
      | zero=>simp at h;exact absurd h.symm e
      | succ k=>have:=GX (o:=o) (k:=k) (by simpa using h);omega
end
def KJ{α:Type} [DecidableEq α](δ:α->Nat->α)(a:α)(o:List α):∀j,(gB δ a j o).length<=o.length+j
  | 0=>Ab _
  | j+1=>by
    have u:=KJ δ a o j;unfold gB gH;split
    · omega
    · simp;omega
abbrev aAT(u:List (List Int))(s:List Int):Nat:= @List.idxOf _ instBEqOfDecidableEq s u
def VO(u:List (List Int))(s:List Int):Int:=if s∈u then(aAT u s:Nat)else-1
def HA{a b:BitVec 64}(h:jA (eW a)=jA (eW b)):a=b:=by refine ZE ?_;have:=congrArg (Gk Db) h;simpa [List.map_map,Function.comp_def]using this
def DP(o:List (BitVec 64))(b:BitVec 64):VO (dP o) (jA (eW b))=if b∈o then((o.idxOf b:Nat):Int)else-1:=by
  have u:=GW (φ:=fun a=>jA (eW a)) (Dm:=fun _:BitVec 64=>True) (fun a b _ _ h=>HA h) (b:=b) trivial (o:=o) fun _ _=>trivial;have hm:=M8 (φ:=fun a=>jA (eW a)) (Dm:=fun _:BitVec 64=>True) (fun a b _ _ h=>HA h) (o:=o) (b:=b) (fun _ _=>trivial) trivial;unfold VO dP aAT;rw[u];by_cases h:b∈o
  · rw[if_pos h,if_pos (hm.2 h)]
  · rw[if_neg h,if_neg fun q=>h (hm.1 q)]
def CF{N:NF}(C:NOk N):jA (eW (gC N))=N.st:=by
  refine DQ ?_ (mM C.st).1 fun x=>?_
  · rw[List.pairwise_map];exact((List.pairwise_lt_range (n:=64)).filter _).imp fun h=>by omega
  · constructor
    · intro h;obtain⟨k,h1,rfl⟩:=List.mem_map.1 h;exact(qM C k).1 (fj.1 h1)
    · intro h;have:=m9 C.st x h;have e:x=((x.toNat:Nat):Int):=by omega
      rw[e]at h ⊢;exact List.mem_map.2 ⟨_,fj.2 ((qM C _).2 h),rfl⟩
def G9(a:BitVec 64):(eW a).length<=64:=by unfold eW;exact As (Fu _ _) (by simp)
def v8{α:Type} [DecidableEq α](δ:α->Nat->α)(n:Nat)(o:List α)(a:α):(mF δ n o a).length=n:=by simp[mF]
def XK{α:Type} [DecidableEq α](δ:α->Nat->α)(n:Nat)(o:List α)(a:α):n=((mF δ n o a).map p64).length:=by simp[mF]
section
variable {tab:FuncId->Option AF} (T:HasA tab){M:Mem}{K:PV->Mem->Prop}
include T
end
def lS(A:Mem)(y B E G f3 I f o:Bool)(N:NF)(q:Nat->Nat)(S:List (BitVec 64))(rows:List (List Int))(J:List Bool)(v:Nat)(u:Int):Mem:=
  A++(iH A.length y B E G f3 I f o N q S rows J++[.cells 0 v [.iface 116 (.ptr (A.length+4) 0 0),p64 u]])
section
variable {tab:FuncId->Option AF} (T:HasA tab){M:Mem}{K:PV->Mem->Prop}
include T
def aHv{A:Mem}{K:PV->Mem->Prop}{y E G I f3 J:Bool}{N:NF}(L:gF N=0)(B:BnN N)(hA:A.all (aI A.length)=Jr)
    (O:∀q,K (.ptr (A.length+4) 0 0) (A++iH A.length Js Jr Js Jr Js Jr Js Jr N q [gC N] [] [])):au tab 91 [.agg (nfC y E G I f3 J N)] A K:=by
  have C:=nI L;refine iG (jV T.h91 ?_);simp only[af91];refine aE (aC ?_);simp only[PP,simprocAttr];refine aE (aC ?_);simp only[PP,simprocAttr,gk,gk0,sk,sk0,aZ];refine pY T B.s ?_;simp only[PP,simprocAttr,gk,gk0,sk,sk0];refine pY T B.f ?_;simp only[PP,simprocAttr,gk,gk0,sk,sk0];refine ZB T B.e ?_;simp only[PP,simprocAttr,gk,gk0,sk,sk0];refine aE (aC ?_);simp only[PP,simprocAttr,gk,gk0,sk,sk0];refine aHX T C B ?_;simp only[PP,simprocAttr,gk,gk0,sk,sk0];refine aE (TM [2,6] ?_);simp only[PP,simprocAttr,TN,J5,BW,T9,Option.some.injEq,exists_eq_left',gk,gk0,sk,sk0,Ac];refine pY T B.s ?_;simp only[PP,simprocAttr,TN,J5,BW,T9,Option.some.injEq,exists_eq_left',gk,gk0,sk,sk0,Ac,PT];refine SY T ?_;have Q:fZ 2 (.str (nJ (gC N))) []=Jp Jq:=rfl;have u:kK 2 (.str (nJ (gC N))) (.str (nJ (gC N))) (.int .i64 0) []=smE (lY nJ 0 [gC N]):=rfl;simp only[PP,simprocAttr,TN,J5,BW,T9,Option.some.injEq,exists_eq_left',gk,gk0,sk,sk0,Ac,PT,Q,u];refine⟨by simp,aC ?_⟩;simp only[PP,simprocAttr];refine Gh.step (GStep.lh (A.length+4) 8 1 (by rw[gk];rfl) rfl rfl) ?_;simp only[gk,sk,Dv,Dc,Ac,Al,Ak,An,Ai,Aj,Ax];refine Gh.step (GStep.lh (A.length+4) 9 1 (by rw[gk];rfl) rfl rfl) ?_;simp only[gk,sk,Dv,Dc,Ac,Al,Ak,An,Ai,Aj,Ax];refine Gh.step (GStep.wkO (A.length+2) (cs2:=clD Js Jr [gC N]) (by rw[gk];rfl) (fun w S h=>ak.wkM (xs:=dP [gC N]) (f:=slI Js Jr .i64) (fun x=>bh.refl _) (by
    have e:dP [gC N]=[N.st]:=by rw[<-CF C];rfl
    rw[e];exact h)) rfl) ?_
  simp only[gk,sk,Dv,Dc];refine Gh.step (GStep.freeze (b:=[.ptr (A.length+4) 0 0]) A.length (Ab _) (by rw[gk0];rfl) (by simp only[mX,mY,Ai,Aj,lQ,oN]) rfl) (Gh.same ⟨_,rfl,?_⟩);simp only[sk0,Dc];exact O (qD 0 0 0 0 1 0 0 0 0 0)
def K8{A:Mem}{K:PV->Mem->Prop}{u y E G f3 I:Bool}{N:NF}(B:BnN N)(hA:A.all (aI A.length)=Jr)
    (L:gF N≠0->K (.tuple [.aq,p64 (gF N)]) A)
    (O:gF N=0->∀X q v,aI (A.length+1) X=Jr->K (.tuple [.ptr (A.length+8) 0 0,p64 0]) (lS (A++[X]) Js Jr Js Jr Js Jr Js Jr N q [gC N] [] [] v 0)):
    au tab 40 [.agg (nfC u y E G f3 I N)] A K:=by
  have Q:(A++[bl.cells 0 0 (nfC u y E G f3 I N)]).all (aI (A++[bl.cells 0 0 (nfC u y E G f3 I N)]).length)=Jr:=by rw[Cl,fJ (by simp) hA];simp[aI,aD,PV.under,fN,b9]
  refine iG (aV T.h40 ?_);simp only[af40,PP,simprocAttr,aZ,gk0,sk0];refine FZ T B ?_;by_cases J:gF N=0;rotate_left
  · simp only[PP,simprocAttr,J];refine Gh.step (GStep.ia (b:=[.tuple [.aq,p64 (gF N)]]) (N:=A) A.length (Ab _) (by simp) (by simp only[PW]) (by simp[aD,PV.under]) ?_ (Bj rfl)) (Gh.same ⟨_,rfl,L J⟩);exact(congrArg (fun M:Mem=>M.all (aI A.length)) (Bj rfl)).trans hA
  simp only[PP,simprocAttr,J,gk0,sk0];refine aHv T J B Q fun q=>?_;have h:=O J (.cells 0 0 (nfC u y E G f3 I N)) q 0 (by simp[aI,aD,PV.under,fN,b9]);have hl:A.length+8=(A++[bl.cells 0 0 (nfC u y E G f3 I N)]).length+7:=by simp
  rw[hl]at h;generalize A++[bl.cells 0 0 (nfC u y E G f3 I N)]=R at*;simp only[PP,simprocAttr,iH,gk,gk0,sk,sk0,rK,tI,nO,Ac];exact Gh.same ⟨_,rfl,h⟩
end
structure re (tab:FuncId->Option AF) (jid wid:Nat) (ty:TypeId) (fu fl:FuncId) (e:Int) (D F:Nat->Prop) (lft:Nat->Bool) (St:Nat->Mem->Prop):Prop where
  job:∀m M,St m M->∃v,M[jid]? =Jp (.cells 0 v [.iface ty (.ptr wid 0 0),p64 (m:Int)])
  sm:∀m M,St m M->m<4000000000000000000
  unit:∀m M,St m M->∀K:PV->Mem->Prop,(D m->∀M2,St m M2->K (.tuple [.bool Js,p64 0]) M2)->(F m->∀M2,St m M2->K (.tuple [.bool Js,p64 e]) M2)->
    (¬D m->¬F m->∀M2 v,M2[jid]? =Jp (.cells 0 v [.iface ty (.ptr wid 0 0),p64 (m:Int)])->St (m+1) (M2.set jid (.cells 0 (v+1) [.iface ty (.ptr wid 0 0),p64 ((m+1:Nat):Int)]))->K (.tuple [.bool Jr,p64 0]) M2)->au tab fu [.ptr wid 0 0] M K
  left:∀m M,St m M->∀K:PV->Mem->Prop,(∀M2,St m M2->K (.bool (lft m)) M2)->au tab fl [.ptr wid 0 0] M K
  qv:(ty=116/\fu=253/\fl=252)\/(ty=122/\fu=261/\fl=260)\/(ty=125/\fu=265/\fl=264)
section
variable {tab:FuncId->Option AF} (T:HasA tab){M:Mem}{K:PV->Mem->Prop}
include T
def FT{y v:Nat}{E:TypeId}{w:PV}{u k:Int}(G:M[y]? =Jp (.cells 0 v [.iface E w,p64 u]))(B:k<0)(I:K (.tuple [.bool Js,p64 1]) M):au tab 18 [.ptr y 0 0,p64 k] M K:=by refine aV T.h18 ?_;simp only[af18,PP,simprocAttr,PI,G,B];exact I
def aFc{E R:Nat}{u:TypeId}{fu fl:FuncId}{e:Int}{D F:Nat->Prop}{O:Nat->Bool}{I:Nat->Mem->Prop}(J:re tab E R u fu fl e D F O I)(he:e≠0){M:Mem}{K:PV->Mem->Prop}{n:Nat}{k:Int}(hS:I n M)(S:0<=k)(a0:k<=9223372036854775807)
    (hA:∀m B,n<=m->(m:Int)=n+k->(∀j,n<=j->j<m->¬D j/\¬F j)->I m B->K (.tuple [.bool (!O m),p64 0]) B)
    (hB:∀m B,n<=m->(m:Int)<n+k->(∀j,n<=j->j<m->¬D j/\¬F j)->D m->I m B->K (.tuple [.bool Jr,p64 0]) B)
    (hC:∀m B,n<=m->(m:Int)<n+k->(∀j,n<=j->j<m->¬D j/\¬F j)->F m->I m B->K (.tuple [.bool Js,p64 e]) B):
    au tab 18 [.ptr E 0 0,p64 k] M K:=by
  refine aV T.h18 ?_;obtain⟨v0,hM⟩:=J.job n M hS;have U:¬k<0:=by omega
  simp only[af18,PP,simprocAttr,PI,hM,U];have hu:(if(116:Int)=(u:Int)then Jp 253 else if(122:Int)=(u:Int)then Jp 261 else if(125:Int)=(u:Int)then Jp 265 else iJ [] u)=Jp fu:=by rcases J.qv with⟨rfl,rfl,rfl⟩ | ⟨rfl,rfl,rfl⟩ | ⟨rfl,rfl,rfl⟩<;>rfl
  have V:(if(116:Int)=(u:Int)then Jp 252 else if(122:Int)=(u:Int)then Jp 260 else if(125:Int)=(u:Int)then Jp 264 else iJ [] u)=Jp fl:=by rcases J.qv with⟨rfl,rfl,rfl⟩ | ⟨rfl,rfl,rfl⟩ | ⟨rfl,rfl,rfl⟩<;>rfl
  refine iN (fun(i:Nat) (N:Mem)=>(i:Int)<=k/\I (n+i) N/\∀j,n<=j->j<n+i->¬D j/\¬F j) (fun i N=>(.ptr E 0 0::zj 20++p64 k::p64 i::zj 28)) (fun i N=>N) (fun i _=>k.toNat-i) 0 M ⟨S,hS,fun j h1 h2=>by omega⟩ ?_;intro i N ⟨hi,y,Q⟩ ih;obtain⟨v,hN⟩:=J.job _ N y;refine aH (by kernel_rfl) ?_;simp only[PP,simprocAttr];refine QIf.intro (fun c=>?_) fun c=>?_
  · have a1:=J.sm _ N y;have Y:IntKind.i64.wrap ((i:Int)+1)=((i+1:Nat):Int):=by rw[wrap64]<;>omega
    have Z:IntKind.i64.wrap (((n+i:Nat):Int)+1)=((n+i+1:Nat):Int):=by rw[wrap64]<;>omega
    simp only[PP,simprocAttr,PI,hN,c,hu];refine J.unit _ N y _ (fun d L G=>?_) (fun d L G=>?_) fun d1 d2 L v2 h2 G=>?_
    · simp only[PP,simprocAttr];exact hB (n+i) L (by omega) (by omega) Q d G
    · simp only[PP,simprocAttr,he];exact hC (n+i) L (by omega) (by omega) Q d G
    · simp only[PP,simprocAttr,h2,Z,Y];refine aG (ih (i+1) _ ⟨by omega,G,fun j h3 h4=>?_⟩ (by omega));by_cases q:j=n+i
      · subst q;exact⟨d1,d2⟩
      · exact Q j h3 (by omega)
  · simp only[PP,simprocAttr,PI,hN,c,V];refine J.left _ N y _ fun L G=>?_;simp only[PP,simprocAttr];exact hA (n+i) L (by omega) (by omega) Q G
end
abbrev stK(N:NF)(m:Nat):List (BitVec 64):=iI (aJ N) (aS N) (gC N) m
abbrev rwK(N:NF)(m:Nat):List (List Int):=zG (aJ N) (aS N) (gC N) m
def fnK(N:NF)(m:Nat):List Bool:=((stK N m).take m).map (E1 N)
def OI{N:NF}{m:Nat}{a:BitVec 64}(h:(stK N m)[m]? =Jp a):fnK N (m+1)=fnK N m++[E1 N a]:=by
  have B:=aF h;obtain⟨r,u⟩:=lU (aJ N) a (aS N) (stK N m);unfold fnK;rw[show stK N (m+1)=gB (aJ N) a (aS N) (stK N m)from kP h];have y:(gB (aJ N) a (aS N) (stK N m)).take (m+1)=(stK N m).take m++[a]:=by rw[u,List.take_append_of_le_length (by omega),Bx,h];rfl
  rw[y,Bh];rfl
def StD(A:Mem)(N:NF)(m:Nat)(M:Mem):Prop:=
  (m<=(stK N m).length/\(stK N m).length<=4096)/\∃(u y B E f3 G f o:Bool) (q:Nat->Nat) (v:Nat),M=lS A u y B E f3 G f o N q (stK N m) (rwK N m) (fnK N m) v m
def GU{A:Mem}{y B E G f3 I f o:Bool}{N:NF}{q:Nat->Nat}{S:List (BitVec 64)}{rows:List (List Int)}{J:List Bool}{v:Nat}{u:Int} :
    (lS A y B E G f3 I f o N q S rows J v u).take (A.length+7)=A++iH A.length y B E G f3 I f o N q S rows J:=pV
def YU{A:Mem}{y B E G f3 I f o:Bool}{N:NF}{q:Nat->Nat}{S:List (BitVec 64)}{rows:List (List Int)}{J:List Bool}{v:Nat}{u:Int} :
    (lS A y B E G f3 I f o N q S rows J v u).drop (A.length+7)=[.cells 0 v [.iface 116 (.ptr (A.length+4) 0 0),p64 u]]:=by
  unfold lS;rw[<-Ac];exact List.drop_left' (by simp[iH])
def BM{A:Mem}{y B E G f3 I f o:Bool}{N:NF}{q:Nat->Nat}{S:List (BitVec 64)}{rows:List (List Int)}{J:List Bool}{v:Nat}{u:Int} :
    (lS A y B E G f3 I f o N q S rows J v u)[A.length+7]? =Jp (.cells 0 v [.iface 116 (.ptr (A.length+4) 0 0),p64 u]):=by
  unfold lS;rw[gk];rfl
def aCk{A:Mem}{y B E G f3 I f o:Bool}{N:NF}{q:Nat->Nat}{S:List (BitVec 64)}{rows:List (List Int)}{J:List Bool}{v K:Nat}{u L:Int} :
    (lS A y B E G f3 I f o N q S rows J v u).set (A.length+7) (.cells 0 K [.iface 116 (.ptr (A.length+4) 0 0),p64 L])=lS A y B E G f3 I f o N q S rows J K L:=by
  unfold lS;rw[sk];rfl
def N5{A:Mem}{y B E G f3 I f o:Bool}{N:NF}{q:Nat->Nat}{S:List (BitVec 64)}{rows:List (List Int)}{J:List Bool}{v:Nat}{u:Int} :
    (A++iH A.length y B E G f3 I f o N q S rows J)++[.cells 0 v [.iface 116 (.ptr (A.length+4) 0 0),p64 u]]=lS A y B E G f3 I f o N q S rows J v u:=by
  unfold lS;rw[Ac]
def BP{N:NF}{m:Nat}(h:m<=(stK N m).length):(fnK N m).length=m:=by unfold fnK;rw[Ag,Ay];omega
section
variable {tab:FuncId->Option AF} (T:HasA tab){M:Mem}{K:PV->Mem->Prop}
include T
def aCj{A:Mem}{N:NF}(hc:gF N=0)(B:BnN N)(hA:A.all (aI A.length)=Jr):
    re tab (A.length+7) (A.length+4) 116 253 252 10 (fun m=>(stK N m).length<=m) (fun m=>m<(stK N m).length/\4096<(stK N (m+1)).length) (fun m=>decide (m<(stK N m).length)) (StD A N) where
  job:=by rintro m M ⟨_,f1,o1,f2,o2,f3,o3,f,o,q,v,rfl⟩;exact⟨v,BM⟩
  sm:=by rintro m M ⟨⟨h1,h2⟩,_⟩;omega
  unit:=by
    rintro m M ⟨⟨h1,h2⟩,f1,o1,f2,o2,f3,o3,f,o,q,v,rfl⟩ K k1 k2 k3;have hrl:(rwK N m).length=m:=pK h1;have hfl:=BP h1;have fin:∀(r:PV) (f1 o1 f2 o2 f3 o3 f o:Bool) (q:Nat->Nat) (S:List (BitVec 64)) (rows:List (List Int)) (de:List Bool),r.under (A.length+7)=Jr->K r (lS A f1 o1 f2 o2 f3 o3 f o N q S rows de v m)->
        r.under (A.length+7)=Jr/\(A++iH A.length f1 o1 f2 o2 f3 o3 f o N q S rows de).length=A.length+7/\(A++iH A.length f1 o1 f2 o2 f3 o3 f o N q S rows de).all (aI (A.length+7))=Jr/\K r ((A++iH A.length f1 o1 f2 o2 f3 o3 f o N q S rows de)++[.cells 0 v [.iface 116 (.ptr (A.length+4) 0 0),p64 m]]):=
      fun r f1 o1 f2 o2 f3 o3 f o q S rows de hr hK=>⟨hr,by simp[iH],sR hA ..,by rw[N5];exact hK⟩
    refine oX (m:=A.length+7) (by simp[lS,iH]) (by simp[aD,PV.under]) (by rw[GU];exact sR hA ..) ?_;rw[GU,YU];refine aFj T hc B hA (oL _ _ _ m) h2 (by rw[hrl,hfl]) (fun h=>?_) (fun a ga h=>?_) fun a ga h q'=>?_
    · rw[hrl]at h;exact fin _ _ _ _ _ _ _ _ _ _ _ _ _ (by simp[PV.under,aD]) (k1 h _ ⟨⟨h1,h2⟩,_,_,_,_,_,_,_,_,_,_,rfl⟩)
    · rw[hrl]at ga;have hs:stK N (m+1)=gB (aJ N) a (aS N) (stK N m):=kP ga;rw[<-hs]at h;exact fin _ _ _ _ _ _ _ _ _ _ _ _ _ (by simp[PV.under,aD]) (k2 ⟨aF ga,h⟩ _ ⟨⟨h1,h2⟩,_,_,_,_,_,_,_,_,_,_,rfl⟩)
    · rw[hrl]at ga;have hs:stK N (m+1)=gB (aJ N) a (aS N) (stK N m):=kP ga;have hr:=uG ga;have hf:=OI ga;have hlt:=aF ga;rw[<-hs]at h;refine fin _ _ _ _ _ _ _ _ _ _ _ _ _ (by simp[PV.under,aD]) (k3 (by omega) (fun q=>by omega) _ v BM ?_);rw[aCk];refine⟨⟨?_,h⟩,f1,o1,f2,o2,f3,o3,Jr,Js,q',v+1,?_⟩
      · obtain⟨r,e⟩:=lU (aJ N) a (aS N) (stK N m);by_cases hl:(stK N m).length=m
        · omega
        · rw[hs,e];simp;omega
      · rw[hs,show rwK N (m+1)=_ from hr,hf]
  left:=by rintro m M ⟨⟨h1,h2⟩,f1,o1,f2,o2,f3,o3,f,o,q,v,rfl⟩ K k;have hrl:(rwK N m).length=m:=pK h1;unfold lS;refine VS T ?_;rw[hrl];exact k _ ⟨⟨h1,h2⟩,_,_,_,_,_,_,_,_,_,_,rfl⟩
  qv:= .inl ⟨rfl,rfl,rfl⟩
end
def itr(f:Nat->Nat)(v:Nat):Nat->Nat
  | 0=>v
  | j+1=>f (itr f v j)
def its(f:Nat->Nat)(v m:Nat):List Nat:=(Ba m).map (itr f v)
section
variable {O:Nat->Int} {S:Nat->List Nat} {R:Nat->Int} {D:Nat->Prop} {p q:Int}
end
end Go.Am.Ar

