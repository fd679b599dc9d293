/- Contracts of the small functions that games are checked with, and what goes with it. -/
import Derived.Test.YtapbgleednkimaaGreatDoorBudgetFinishesCode
import Derived.Test.YtapbgleednkimaaGreatDoorPmR
import Derived.Test.YtapbgleednkimaaGreatDoorPmC
set_option linter.unusedVariables false
set_option linter.unusedSimpArgs false
set_option maxRecDepth 10000
namespace Go.Am.Ar
open Go.Am.PV renaming junk->Zj
open Go.Am renaming pchk->P1,pold->P2,PKNo->P3,ppack->P4,PObj.under->P5,pput->P6,ptset->P7,ptget->P8,pev->P9,ofAV->P10,ofAV1->P11,ppad->P12,pfill->P13,bW->P14,AO.effect->P15
open List renaming replicate->L1
attribute [simp] kK kL
abbrev big:Nat:=1000000000000
theorem aH{k:Nat}(h:k<big):IntKind.i64.wrap ((k:Int)+1)=((k+1:Nat):Int):=by have h:k<1000000000000:=h;rw[wrap64 (by omega) (by omega)];omega
theorem fA{α:Type}{xs:List α}{k:Nat}(h:k<xs.length):xs.drop k=xs[k]::xs.drop (k+1):=List.drop_eq_getElem_cons h
theorem aO{α:Type}{xs:List α}{k:Nat}(h:k<xs.length):∃x,xs[k]? =some x:=⟨xs[k],List.getElem?_eq_getElem h⟩
theorem lI{α:Type}{xs:List α}{k:Nat}{x:α}(h:xs[k]? =some x):xs.drop k=x::xs.drop (k+1):=by have hk:=aD h;rw[List.drop_eq_getElem_cons hk];rw[List.getElem?_eq_getElem hk]at h;cases h;rfl
theorem bL{α:Type}{xs:List α}{k:Nat}{x:α}(h:xs[k]? =some x):xs.take (k+1)=xs.take k++[x]:=by simp[List.take_add_one,h]
theorem getD_some{xs:List Int}{k:Nat}{x:Int}(h:xs[k]? =some x):xs.getD k 0=x:=by simp[List.getD,h]
def eU(n:Int):Int->List Int->Bool
 | _,[]=>true
 | last,v::l=>if v<=last then false else if n<=v then false else eU n v l
section
variable {tab:FuncId->Option AF} (T:HasA tab)
include T
theorem HA{M:Mem}{K:PV->Mem->Prop}{f o:Bool}{xs:List Int}{n:Int}(hm:xs.length<big)(hk:K (.bool (eU n (-1) xs)) M):
  SemC tab 151 [slI f o .i64 xs,p64 n] M K:=by
 refine aE T.h151 (by simp only[PP,simprocAttr]) ?_;simp only[af151,PP,simprocAttr];refine gU (fun(k:Nat) (last:Int)=>k<=xs.length/\K (.bool (eU n last (xs.drop k))) M) (fun k last=>(.junk::p64 n::zj 3++p64 last:: .junk:: .junk::slI f o .i64 xs::p64 xs.length::p64 k::zj 13)) (fun _ _=>[]) (fun k _=>xs.length-k) 0 (-1) ⟨by omega,hk⟩ (by simp only[PW]) rfl ?_;intro k last ⟨hk,hq⟩ ih;refine aM (by kernel_rfl) ?_;simp only[PP,simprocAttr];refine QIf.intro (fun c=>?_) (fun c=>?_)
 ·have hk':k<xs.length:=by omega
  rw[fA hk']at hq;have hw:=aH (k:=k) (by omega);have hg:xs[k]? =some xs[k]:=List.getElem?_eq_getElem hk';have h0:(0:Int)<=k:=by omega
  simp only[PP,simprocAttr,eU,c,hg,hw,h0]at hq ⊢;refine QIf.intro (fun h1=>?_) (fun h1=>?_)
  ·simp only[PP,simprocAttr,h1]at hq ⊢;exact hq
  ·simp only[PP,simprocAttr,h1]at hq ⊢;refine QIf.intro (fun h2=>?_) (fun h2=>?_)
   ·simp only[PP,simprocAttr,h2]at hq ⊢;exact hq
   ·simp only[PP,simprocAttr,h2,hw]at hq ⊢;exact aG (ih (k+1) _ ⟨by omega,hq⟩ (by omega)) (by simp only[PW])
 ·simp only[PP,simprocAttr,c];rw[List.drop_eq_nil_of_le (by omega)]at hq;exact hq
abbrev gmP(f1 o1 f2 o2 f3 o3 f4 o4:Bool)(ow pr:List Int)(su:List (List Int)):PV:= .agg [slI f1 o1 .u8 ow,slI f2 o2 .i64 pr,slR f3 o3 f4 o4 .i64 su]
structure Bnd (ow pr:List Int) (su:List (List Int)):Prop where
 o:ow.length<big
 p:pr.length<big
 s:su.length<big
 r:∀row∈su,row.length<big
def iA(ow pr:List Int):Nat->List (List Int)->Int
 | _,[]=>0
 | k,row::rest=>if 1<ow.getD k 0 then 6 else if pr.getD k 0<0 then 1 else if 16<pr.getD k 0 then 1 else if(row.length:Int)=0 then 13 else if eU ow.length (-1) row=false then 8 else iA ow pr (k+1) rest
def bG(ow pr:List Int)(su:List (List Int)):Int:=
 if(ow.length:Int)=0 then 3 else if 4096<(ow.length:Int)then 10 else if(pr.length:Int)=ow.length then(if(su.length:Int)=ow.length then iA ow pr 0 su else 2)else 2
omit T in
theorem NG{ow pr:List Int}{su:List (List Int)}(h:bG ow pr su=0):0<ow.length/\ow.length<=4096/\pr.length=ow.length/\su.length=ow.length/\iA ow pr 0 su=0:=by
 unfold bG at h;split at h
 ·simp at h
 ·split at h
  ·simp at h
  ·split at h
   ·split at h
    ·exact⟨by omega,by omega,by omega,by omega,h⟩
    ·simp at h
   ·simp at h
theorem wC{M:Mem}{K:PV->Mem->Prop}{f1 o1 f2 o2 f3 o3 f4 o4:Bool}{ow pr:List Int}{su:List (List Int)}(B:Bnd ow pr su)(hq:K (p64 (bG ow pr su)) M):
  SemC tab 88 [gmP f1 o1 f2 o2 f3 o3 f4 o4 ow pr su] M K:=by
 refine aE T.h88 (by simp only[PP,simprocAttr]) ?_;simp only[af88,PP,simprocAttr,bG]at hq ⊢;refine QIf.intro (fun c1=>?_) (fun c1=>?_)
 ·simp only[PP,simprocAttr,c1]at hq ⊢;exact hq
 simp only[PP,simprocAttr,c1]at hq ⊢;refine QIf.intro (fun c2=>?_) (fun c2=>?_)
 ·simp only[PP,simprocAttr,c2]at hq ⊢;exact hq
 simp only[PP,simprocAttr,c2]at hq ⊢;refine QIf.intro (fun c3=>?_) (fun c3=>?_);rotate_left
 ·simp only[PP,simprocAttr,c3]at hq ⊢;exact hq
 simp only[PP,simprocAttr,c3]at hq ⊢;refine QIf.intro (fun c4=>?_) (fun c4=>?_);rotate_left
 ·simp only[PP,simprocAttr,c4]at hq ⊢;exact hq
 simp only[PP,simprocAttr,c4]at hq ⊢;have d4:su.length=ow.length:=by omega
 refine iX (fun(k:Nat)=>k<=su.length/\K (p64 (iA ow pr k (su.drop k))) M) (fun k=>(.junk:: .ptr 0 0 0:: .junk::p64 ow.length::zj 25++slR f3 o3 f4 o4 .i64 su::p64 ow.length::p64 k::zj 36)) (fun _=>[.cells 0 0 [slI f1 o1 .u8 ow,slI f2 o2 .i64 pr,slR f3 o3 f4 o4 .i64 su]]) (fun k=>su.length-k) 0 ⟨by omega,hq⟩ (by simp only[PW,Int.cast_ofNat_Int,d4]) rfl ?_;intro k ⟨hle,hq⟩ ih;refine aM (by kernel_rfl) ?_;simp only[PP,simprocAttr];refine QIf.intro (fun c=>?_) (fun c=>?_)
 ·have hk':k<su.length:=by omega
  have g1:su[k]? =some su[k]:=List.getElem?_eq_getElem hk';have g2:ow[k]? =some ow[k]:=List.getElem?_eq_getElem (by omega);have g3:pr[k]? =some pr[k]:=List.getElem?_eq_getElem (by omega);have h0:(0:Int)<=k:=by omega
  have hw:=aH (k:=k) (by have:=B.s;omega);have e2:ow.getD k 0=ow[k]:=by simp[List.getD,g2]
  have e3:pr.getD k 0=pr[k]:=by simp[List.getD,g3]
  rw[fA hk']at hq;have hks:(k:Int)<su.length:=by omega
  have hkp:(k:Int)<pr.length:=by omega
  simp only[PP,simprocAttr,iA,c,g1,g2,g3,h0,e2,e3,hks,hkp]at hq ⊢;refine QIf.intro (fun h1=>?_) (fun h1=>?_)
  ·simp only[PP,simprocAttr,h1]at hq ⊢;exact hq
  simp only[PP,simprocAttr,h1,g3,hkp,h0]at hq ⊢;refine QIf.intro (fun h2=>?_) (fun h2=>?_)
  ·simp only[PP,simprocAttr,h2]at hq ⊢;exact hq
  simp only[PP,simprocAttr,h2,g3,hkp,h0]at hq ⊢;refine QIf.intro (fun h3=>?_) (fun h3=>?_)
  ·simp only[PP,simprocAttr,h3]at hq ⊢;exact hq
  simp only[PP,simprocAttr,h3]at hq ⊢;refine QIf.intro (fun h4=>?_) (fun h4=>?_)
  ·simp only[PP,simprocAttr,h4]at hq ⊢;exact hq
  simp only[PP,simprocAttr,h4]at hq ⊢;refine HA T (B.r _ (List.getElem_mem hk')) ?_;simp only[PP,simprocAttr];by_cases h5:eU ow.length (-1) su[k]=true
  ·simp only[PP,simprocAttr,h5,hw]at hq ⊢;exact aG (ih (k+1) ⟨by omega,hq⟩ (by omega)) (by simp only[PW])
  ·simp only[PP,simprocAttr,h5]at hq ⊢;exact hq
 ·simp only[PP,simprocAttr,c];rw[List.drop_eq_nil_of_le (by omega)]at hq;exact hq
end
section
variable {tab:FuncId->Option AF} (T:HasA tab)
include T
theorem n7{M:Mem}{K:PV->Mem->Prop}{f o f' o':Bool}{xs ys:List Int}(hm:xs.length<big)(hk:K (.bool (decide (xs=ys))) M):
  SemC tab 29 [slI f o .i64 xs,slI f' o' .i64 ys] M K:=by
 refine aE T.h29 (by simp only[PP,simprocAttr]) ?_;simp only[af29,PP,simprocAttr];refine QIf.intro (fun c1=>?_) (fun c1=>?_)
 ·simp only[PP,simprocAttr,c1];have hl:xs.length=ys.length:=by omega
  refine iX (fun(k:Nat)=>k<=xs.length/\K (.bool (decide (xs.drop k=ys.drop k))) M) (fun k=>(slI f o .i64 xs::slI f' o' .i64 ys::zj 3++p64 k::zj 20)) (fun _=>[]) (fun k=>xs.length-k) 0 ⟨by omega,hk⟩ (by simp only[PW]) rfl ?_;intro k ⟨hle,hq⟩ ih;refine aM (by kernel_rfl) ?_;simp only[PP,simprocAttr];refine QIf.intro (fun c=>?_) (fun c=>?_)
  ·have hk':k<xs.length:=by omega
   have hk2:k<ys.length:=by omega
   rw[fA hk',fA hk2]at hq;have hw:=aH (k:=k) (by omega);have g1:xs[k]? =some xs[k]:=List.getElem?_eq_getElem hk';have g2:ys[k]? =some ys[k]:=List.getElem?_eq_getElem hk2;have h0:(0:Int)<=k:=by omega
   have cy:(k:Int)<ys.length:=by omega
   simp only[PP,simprocAttr,c,g1,g2,hw,h0,cy]at hq ⊢;refine QIf.intro (fun h1=>?_) (fun h1=>?_)
   ·simp only[PP,simprocAttr,h1,hw,List.cons.injEq]at hq ⊢;exact aG (ih (k+1) ⟨by omega,hq⟩ (by omega)) (by simp only[PW])
   ·simp only[PP,simprocAttr,h1,List.cons.injEq]at hq ⊢;exact hq
  ·simp only[PP,simprocAttr,c];rw[List.drop_eq_nil_of_le (by omega),List.drop_eq_nil_of_le (by omega)]at hq;simp only[PP,simprocAttr]at hq;exact hq
 ·simp only[PP,simprocAttr,c1];have hne:¬xs=ys:=by rintro rfl;exact c1 rfl
  simp only[PP,simprocAttr,hne]at hk;exact hk
theorem hU{M:Mem}{K:PV->Mem->Prop}{f o:Bool}{xs:List Int}(hm:xs.length<big)(hk:K (slI false true .i64 xs) M):
  SemC tab 36 [slI f o .i64 xs] M K:=by
 refine aE T.h36 (by simp only[PP,simprocAttr]) ?_;have hb:xs.length<1000000000000:=hm;have b1:xs.length*8<=140737488355328:=by omega
 have b2:xs.length<=9223372036854775807:=by omega
 simp only[af36,PP,simprocAttr,b1,b2];exact hk
theorem uW{M:Mem}{K:PV->Mem->Prop}{f o:Bool}{xs:List Int}(hm:xs.length<big)(hk:K (slI false true .u8 xs) M):
  SemC tab 39 [slI f o .u8 xs] M K:=by
 refine aE T.h39 (by simp only[PP,simprocAttr]) ?_;have hb:xs.length<1000000000000:=hm;have b1:xs.length<=140737488355328:=by omega
 have b2:xs.length<=9223372036854775807:=by omega
 simp only[af39,PP,simprocAttr,b1,b2];exact hk
theorem nZ{M:Mem}{K:PV->Mem->Prop}{f o f' o' g1 g2 g3 g4:Bool}{xs ys:List (List Int)}(hm:xs.length<big)(hr:∀r∈xs,r.length<big)(hk:K (.bool (decide (xs=ys))) M):
  SemC tab 33 [slR f o g1 g2 .i64 xs,slR f' o' g3 g4 .i64 ys] M K:=by
 refine aE T.h33 (by simp only[PP,simprocAttr]) ?_;simp only[af33,PP,simprocAttr];refine QIf.intro (fun c1=>?_) (fun c1=>?_)
 ·simp only[PP,simprocAttr,c1];have hl:xs.length=ys.length:=by omega
  refine iX (fun(k:Nat)=>k<=xs.length/\K (.bool (decide (xs.drop k=ys.drop k))) M) (fun k=>(slR f o g1 g2 .i64 xs::slR f' o' g3 g4 .i64 ys::zj 3++p64 k::zj 21)) (fun _=>[]) (fun k=>xs.length-k) 0 ⟨by omega,hk⟩ (by simp only[PW]) rfl ?_;intro k ⟨hle,hq⟩ ih;refine aM (by kernel_rfl) ?_;simp only[PP,simprocAttr];refine QIf.intro (fun c=>?_) (fun c=>?_)
  ·have hk':k<xs.length:=by omega
   have hk2:k<ys.length:=by omega
   rw[fA hk',fA hk2]at hq;have hw:=aH (k:=k) (by omega);have q1:xs[k]? =some xs[k]:=List.getElem?_eq_getElem hk';have q2:ys[k]? =some ys[k]:=List.getElem?_eq_getElem hk2;have h0:(0:Int)<=k:=by omega
   have cy:(k:Int)<ys.length:=by omega
   simp only[PP,simprocAttr,c,q1,q2,hw,h0,cy]at hq ⊢;refine n7 T (hr _ (List.getElem_mem hk')) ?_;by_cases h1:xs[k]=ys[k]
   ·simp only[PP,simprocAttr,h1,hw,List.cons.injEq]at hq ⊢;exact aG (ih (k+1) ⟨by omega,hq⟩ (by omega)) (by simp only[PW])
   ·simp only[PP,simprocAttr,h1,List.cons.injEq]at hq ⊢;exact hq
  ·simp only[PP,simprocAttr,c];rw[List.drop_eq_nil_of_le (by omega),List.drop_eq_nil_of_le (by omega)]at hq;simp only[PP,simprocAttr]at hq;exact hq
 ·simp only[PP,simprocAttr,c1];have hne:¬xs=ys:=by rintro rfl;exact c1 rfl
  simp only[PP,simprocAttr,hne]at hk;exact hk
end
section
variable {tab:FuncId->Option AF} (T:HasA tab)
include T
end
def jD:Int->List Int->Int
 | m,[]=>m
 | m,x::l=>jD (max m x) l
section
variable {tab:FuncId->Option AF} (T:HasA tab)
include T
theorem aGO{M:Mem}{K:PV->Mem->Prop}{f o:Bool}{x:Int}{xs:List Int}(hm:(x::xs).length<big)(hq:K (p64 (jD x xs)) M):
  SemC tab 157 [slI f o .i64 (x::xs)] M K:=by
 refine aE T.h157 (by simp only[PP,simprocAttr]) ?_;have c1:¬((xs.length+1:Nat):Int)<1:=by omega
 have c2:(0:Int)<((xs.length+1:Nat):Int):=by omega
 simp only[af157,PP,simprocAttr,c1,c2];have hm':xs.length+1<1000000000000:=hm;refine gU (fun(k:Nat) (m:Int)=>k<=xs.length/\K (p64 (jD m (xs.drop k))) M) (fun k m=>(slI f o .i64 (x::xs):: .junk:: .junk::p64 m::p64 ((k+1:Nat):Int)::zj 20)) (fun _ _=>[]) (fun k _=>xs.length-k) 0 x ⟨by omega,hq⟩ (by simp only[PW]) rfl ?_;intro k m ⟨hle,hq⟩ ih;refine aM (by kernel_rfl) ?_;simp only[PP,simprocAttr];refine QIf.intro (fun c=>?_) (fun c=>?_)
 ·have hk':k<xs.length:=by omega
  have g1:xs[k]? =some xs[k]:=List.getElem?_eq_getElem hk';have h0:(0:Int)<=((k+1:Nat):Int):=by omega
  have hw:=aH (k:=k+1) (by show _<1000000000000;omega);rw[fA hk']at hq;simp only[PP,simprocAttr,c,g1,h0,hw,jD]at hq ⊢;exact aG (ih (k+1) _ ⟨by omega,hq⟩ (by omega)) (by simp only[PW])
 ·rw[List.drop_eq_nil_of_le (by omega)]at hq;simp only[PP,simprocAttr,c,jD]at hq ⊢;exact hq
end
abbrev gz:PV:= .agg [.nils,.nils,.nils]
theorem pK{ow pr:List Int} :∀{su:List (List Int)} {k:Nat},iA ow pr k su=0->∀(i:Nat) (hi:i<su.length),0<=pr.getD (k+i) 0/\pr.getD (k+i) 0<=16/\ow.getD (k+i) 0<=1/\0<su[i].length/\eU ow.length (-1) su[i]=true
 | [],k,h,i,hi=>by simp at hi
 | row::su,k,h,i,hi=>by
  unfold iA at h;split at h
  ·simp at h
  ·split at h
   ·simp at h
   ·split at h
    ·simp at h
    ·split at h
     ·simp at h
     ·split at h
      ·simp at h
      ·rename_i h1 h2 h3 h4 h5
       cases i with
       | zero=>exact⟨by simpa using h2,by simpa using h3,by simpa using h1,by simp only[List.getElem_cons_zero];omega,by simpa using h5⟩
       | succ i=>have:=pK h i (by simpa using hi);simpa [Nat.add_assoc,Nat.add_comm 1 i]using this
structure Valid (ow pr:List Int) (su:List (List Int)):Prop where
 n0:0<ow.length
 n1:ow.length<=4096
 p:pr.length=ow.length
 s:su.length=ow.length
 row:∀(i:Nat) (hi:i<su.length),0<=pr.getD i 0/\pr.getD i 0<=16/\ow.getD i 0<=1/\0<su[i].length/\eU ow.length (-1) su[i]=true
theorem dP{ow pr:List Int}{su:List (List Int)}(h:bG ow pr su=0):Valid ow pr su:=by obtain⟨h1,h2,h3,h4,h5⟩:=NG h;exact⟨h1,h2,h3,h4,fun i hi=>by simpa using pK h5 i hi⟩
theorem pQ:∀(n:Nat) (l:List Nat),l.Nodup->(∀x∈l,x<n)->l.length<=n
 | 0,l,_,h=>by
  cases l with
  | nil=>simp
  | cons x l=>have:=h x (by simp);omega
 | n+1,l,hd,h=>by
  have:=pQ n (l.filter fun x=>x !=n) (hd.filter _) (fun x hx=>by
   rw[List.mem_filter]at hx;have:=h x hx.1;have:x≠n:=by simpa using hx.2
   omega)
  have h2:l.length<=(l.filter fun x=>x !=n).length+1:=by
   clear this h
   induction l with
   | nil=>simp
   | cons x l ih=>
    rw[List.nodup_cons]at hd;by_cases e:x=n
    ·subst e;have:l.filter (fun y=>y !=x)=l:=by rw[List.filter_eq_self];intro y hy;have:y≠x:=fun q=>hd.1 (q▸hy);simpa using this
     simp[this]
    ·have:=ih hd.2;have hx:(x !=n)=true:=by simpa using e
     simp only[List.filter_cons,hx,if_true,List.length_cons];omega
  omega
theorem aE8{k:IntKind}{x y:Int}(h:y≠0):bX .rem (.int k x) (.int k y)=some (.int k (x.tmod y)):=by simp[bX,bN,eB,ofAV1,h,bF,cB]
abbrev m8(l:List Nat):List Int:=l.map fun(v:Nat)=>(v:Int)
theorem gZ{n:Int} :∀{l:List Int} {last:Int},eU n last l=true->l.Pairwise (· < ·)/\∀x∈l,last<x/\x<n
 | [],_,_=>⟨.nil,fun x hx=>by cases hx⟩
 | v::l,last,h=>by
  unfold eU at h;split at h
  ·simp at h
  ·split at h
   ·simp at h
   ·obtain⟨h1,h2⟩:=gZ h;refine⟨.cons (fun x hx=>(h2 x hx).1) h1,fun x hx=>?_⟩;rcases List.mem_cons.1 hx with rfl | hx
    ·omega
    ·have:=h2 x hx;omega
theorem WU{ow pr:List Int}{su:List (List Int)}(V:Valid ow pr su){v:Nat}{u:Int}(hv:v<ow.length)(h:u∈su.getD v []):0<=u/\u<ow.length:=by
 have hvs:v<su.length:=by have:=V.s;omega
 obtain⟨_,_,_,_,hp⟩:=V.row v hvs;rw[List.getD,List.getElem?_eq_getElem hvs]at h;have:=(gZ hp).2 u h;omega
theorem o5{tab:FuncId->Option AF}{g:FuncId}(hg:tab g=some (.prim iL)){M:Mem}{K:PV->Mem->Prop}(hk:K (.bool true) M):SemC tab g [] M K:=by intro w h args' h0 s ha;have:args'=[]:=List.length_eq_zero_iff.1 (by simpa using ha.len.symm);subst this;unfold C;refine⟨.bool true,h,?_,w,.bool true,M,PStp.refl (Nat.le_refl _) w h,s,.bool true,hk⟩;rw[rK];simp only[dA,hg,iL]
section
variable {tab:FuncId->Option AF} (T:HasA tab)
include T
end
structure Eg where
 fr:Int
 to:Int
 ps:Int
 ng:Int
 deriving DecidableEq,Inhabited
abbrev egC(e:Eg):List PV:=[.int .i64 e.fr,.int .i64 e.to,.int .u8 e.ps,.int .u8 e.ng]
def egL(l:List Eg):List PV:=l.flatMap egC
abbrev slE(f o:Bool)(l:List Eg):PV:= .sl f o 4 l.length (egL l)
theorem iH(l:List Eg):(egL l).length=l.length*4:=by
 unfold egL
 induction l with
 | nil=>rfl
 | cons x l ih=>rw[List.flatMap_cons,List.length_append,ih];simp;omega
theorem Q1(l:List Eg):(egL l).all PV.one=true:=by
 unfold egL
 induction l with
 | nil=>rfl
 | cons x l ih=>rw[List.flatMap_cons,List.all_append,ih];rfl
theorem dB(m:Nat)(l:List Eg):aC m (egL l)=true:=by
 unfold egL
 induction l with
 | nil=>exact eP _
 | cons x l ih=>rw[List.flatMap_cons,iF,ih];simp[dX,eP,BA]
theorem bD(m:Nat)(f o:Bool)(sz n:Nat)(l:List Eg):PV.under m (.sl f o sz n (egL l))=true:=by simp only[PV.under];exact dB m l
theorem UL{l:List Eg}{k:Nat}{x:Eg}(h:l[k]? =some x):∃a b,egL l=a++egC x++b/\a.length=k*4/\(∀y,egL (l.set k y)=a++egC y++b):=by
 obtain⟨hk,e⟩:=List.getElem?_eq_some_iff.1 h;refine⟨egL (l.take k),egL (l.drop (k+1)),?_,?_,fun y=>?_⟩
 ·conv=>lhs;rw[<-List.take_append_drop k l,List.drop_eq_getElem_cons hk,e]
  simp[egL]
 ·rw[iH];simp;omega
 ·rw[List.set_eq_take_append_cons_drop,if_pos hk];simp[egL]
theorem xG{l:List Eg}{k:Nat}{x:Eg}(h:l[k]? =some x):aY (egL l) (k*4) 4=egC x:=by obtain⟨a,b,h1,h2,_⟩:=UL h;unfold aY;rw[h1,<-h2,List.append_assoc,List.drop_left];rfl
theorem aEC{l:List Eg}{k:Nat}{x:Eg}(h:l[k]? =some x):k*4+4<=l.length*4:=by have:=aD h;omega
def Eg.fit(e:Eg):Prop:=(-9223372036854775808<=e.fr/\e.fr<=9223372036854775807)/\(-9223372036854775808<=e.to/\e.to<=9223372036854775807)/\(0<=e.ps/\e.ps<=255)/\(0<=e.ng/\e.ng<=255)
structure NF where
 vs:Int
 n:Int
 st:List Int
 fi:List Int
 es:List Eg
abbrev nfC(f1 o1 f2 o2 f3 o3:Bool)(N:NF):List PV:=[p64 N.vs,p64 N.n,slI f1 o1 .i64 N.st,slI f2 o2 .i64 N.fi,slE f3 o3 N.es]
structure BnN (N:NF):Prop where
 s:N.st.length<big
 f:N.fi.length<big
 e:N.es.length<big
 b:∀x∈N.es,(0<=x.ps/\x.ps<=255)/\(0<=x.ng/\x.ng<=255)
def aAS(x y:Int):Int:=((x.toNat&&& y.toNat:Nat):Int)
def bOr(x y:Int):Int:=((x.toNat||| y.toNat:Nat):Int)
def lK(v p n:Int):Int:=if v<0 then 7 else if 6<v then 7 else if 2^v.toNat<=p then 7 else if 2^v.toNat<=n then 7 else if aAS p n=0 then 0 else 2
def mM(v n:Int):List Eg->Int
 | []=>0
 | e::l=>if e.fr<0\/n<=e.fr\/e.to<0\/n<=e.to then 8 else if lK v e.ps e.ng=0 then mM v n l else lK v e.ps e.ng
def bZ(N:NF):Int:=
 if N.vs<0\/6<N.vs then 7 else if N.n<0 then 1 else if 64<N.n\/512<(N.es.length:Int)then 4 else if eU N.n (-1) N.st=true/\eU N.n (-1) N.fi=true then mM N.vs N.n N.es else 8
theorem D9{x:Int}(h:0<=x/\x<=255):(BitVec.ofInt 8 x).toNat=x.toNat:=by rw[BitVec.toNat_ofInt];omega
theorem OZ{x:Nat}(h:x<256):IntKind.u8.wrap (x:Int)=x:=by simp only[IntKind.wrap,IntKind.signed,IntKind.bits];simp;omega
theorem oK{x y:Int}(hx:0<=x/\x<=255)(hy:0<=y/\y<=255):bX .and (.int .u8 x) (.int .u8 y)=some (.int .u8 (aAS x y)):=by
 have h1:=D9 hx;have h2:=D9 hy;have h3:x.toNat&&& y.toNat<256:=Nat.lt_of_le_of_lt Nat.and_le_left (by omega);have e:IntKind.u8.wrap ((BitVec.ofInt IntKind.u8.bits x&&& BitVec.ofInt IntKind.u8.bits y).toNat:Int)=aAS x y:=by
  show IntKind.u8.wrap ((BitVec.ofInt 8 x&&& BitVec.ofInt 8 y).toNat:Int)=_;rw[BitVec.toNat_and,h1,h2,OZ h3];rfl
 simp only[bX,bN,eB,bF,cB,e];rfl
theorem YG{a b:Nat}(ha:a<256)(hb:b<256):a||| b<256:=Nat.or_lt_two_pow (n:=8) ha hb
theorem X4{x y:Int}(hx:0<=x/\x<=255)(hy:0<=y/\y<=255):bX .or (.int .u8 x) (.int .u8 y)=some (.int .u8 (bOr x y)):=by
 have h1:=D9 hx;have h2:=D9 hy;have h3:x.toNat||| y.toNat<256:=YG (by omega) (by omega);have e:IntKind.u8.wrap ((BitVec.ofInt IntKind.u8.bits x||| BitVec.ofInt IntKind.u8.bits y).toNat:Int)=bOr x y:=by
  show IntKind.u8.wrap ((BitVec.ofInt 8 x||| BitVec.ofInt 8 y).toNat:Int)=_;rw[BitVec.toNat_or,h1,h2,OZ h3];rfl
 simp only[bX,bN,eB,bF,cB,e];rfl
theorem aGF{v:Int}(h0:¬v<0)(h6:¬6<v):bX .shl (.int .i64 1) (.int .i64 v)=some (.int .i64 (2^v.toNat)):=by
 have:v=0\/v=1\/v=2\/v=3\/v=4\/v=5\/v=6:=by omega
 rcases this with rfl | rfl | rfl | rfl | rfl | rfl | rfl<;>rfl
theorem NR{v:Nat}{p n:Int}(hp:0<=p)(hn:0<=n):(2:Int)^v<=bOr p n↔(2^v<=p\/2^v<=n):=by
 have key:(2^v<=p.toNat||| n.toNat)↔(2^v<=p.toNat\/2^v<=n.toNat):=by
  constructor
  ·intro h;refine Classical.byContradiction fun q=>?_;rw[not_or,Nat.not_le,Nat.not_le]at q;have:=Nat.or_lt_two_pow q.1 q.2;omega
  ·rintro(h | h)
   ·exact Nat.le_trans h Nat.left_le_or
   ·exact Nat.le_trans h Nat.right_le_or
 have e:((2^v:Nat):Int)=2^v:=by simp
 unfold bOr;rw[<-e];constructor
 ·intro h;rcases key.1 (by omega)with q | q
  ·exact .inl (by omega)
  ·exact .inr (by omega)
 ·intro h;have:=key.2 (by omega);omega
section
variable {tab:FuncId->Option AF} (T:HasA tab)
include T
theorem GC{M:Mem}{K:PV->Mem->Prop}{f1 o1 f2 o2 f3 o3 f o:Bool}{N:NF}{xs:List Int}(hm:xs.length<big)(hk:K (.bool (eU N.n (-1) xs)) M):
  SemC tab 138 [.agg (nfC f1 o1 f2 o2 f3 o3 N),slI f o .i64 xs] M K:=by
 refine aE T.h138 (by simp only[PP,simprocAttr,bD]) ?_;simp only[af138,PP,simprocAttr];refine gU (fun(k:Nat) (last:Int)=>k<=xs.length/\K (.bool (eU N.n last (xs.drop k))) M) (fun k last=>(.junk:: .junk:: .ptr 0 0 0:: .junk:: .junk::p64 last:: .junk:: .junk::slI f o .i64 xs::p64 xs.length::p64 k::zj 14)) (fun _ _=>[.cells 0 0 (nfC f1 o1 f2 o2 f3 o3 N)]) (fun k _=>xs.length-k) 0 (-1) ⟨by omega,hk⟩ (by simp only[PW]) rfl ?_;intro k last ⟨hk,hq⟩ ih;refine aM (by kernel_rfl) ?_;simp only[PP,simprocAttr];refine QIf.intro (fun c=>?_) (fun c=>?_)
 ·have hk':k<xs.length:=by omega
  rw[fA hk']at hq;have hw:=aH (k:=k) (by omega);have hg:xs[k]? =some xs[k]:=List.getElem?_eq_getElem hk';have h0:(0:Int)<=k:=by omega
  simp only[PP,simprocAttr,eU,c,hg,hw,h0]at hq ⊢;refine QIf.intro (fun h1=>?_) (fun h1=>?_)
  ·simp only[PP,simprocAttr,h1]at hq ⊢;exact hq
  ·simp only[PP,simprocAttr,h1]at hq ⊢;refine QIf.intro (fun h2=>?_) (fun h2=>?_)
   ·simp only[PP,simprocAttr,h2]at hq ⊢;exact hq
   ·simp only[PP,simprocAttr,h2,hw]at hq ⊢;exact aG (ih (k+1) _ ⟨by omega,hq⟩ (by omega)) (by simp only[PW])
 ·simp only[PP,simprocAttr,c];rw[List.drop_eq_nil_of_le (by omega)]at hq;exact hq
theorem aFY{M:Mem}{K:PV->Mem->Prop}{v p n:Int}(hp:0<=p/\p<=255)(hn:0<=n/\n<=255)(hk:K (p64 (lK v p n)) M):
  SemC tab 139 [.agg [p8 p,p8 n],p64 v] M K:=by
 refine aE T.h139 (by simp only[PP,simprocAttr]) ?_;simp only[af139,PP,simprocAttr];refine QIf.intro (fun c1=>?_) (fun c1=>?_)
 ·simp only[PP,simprocAttr,c1,lK]at hk ⊢;exact hk
 ·simp only[PP,simprocAttr,c1];refine QIf.intro (fun c2=>?_) (fun c2=>?_)
  ·simp only[PP,simprocAttr,c1,c2,lK]at hk ⊢;exact hk
  ·have hw:IntKind.i64.wrap (bOr p n)=bOr p n:=wrap64 (by unfold bOr;omega) (by have:=YG (a:=p.toNat) (b:=n.toNat) (by omega) (by omega);unfold bOr;omega);simp only[PP,simprocAttr,c2,X4 hp hn,oK hp hn,aGF c1 c2,hw];refine QIf.intro (fun c3=>?_) (fun c3=>?_)
   ·have e:lK v p n=7:=by
     unfold lK;rw[if_neg c1,if_neg c2];rcases(NR hp.1 hn.1).1 c3 with q | q
     ·rw[if_pos q]
     ·rw[if_pos q];split<;>rfl
    rw[e]at hk;simp only[PP,simprocAttr,c3];exact hk
   ·have c4:¬(2:Int)^v.toNat<=p:=fun q=>c3 ((NR hp.1 hn.1).2 (.inl q));have c5:¬(2:Int)^v.toNat<=n:=fun q=>c3 ((NR hp.1 hn.1).2 (.inr q));simp only[PP,simprocAttr,c3,oK hp hn];unfold lK at hk;rw[if_neg c1,if_neg c2,if_neg c4,if_neg c5]at hk;refine QIf.intro (fun c6=>?_) (fun c6=>?_)
    ·rw[if_pos c6]at hk;simp only[PP,simprocAttr,c6];exact hk
    ·rw[if_neg c6]at hk;simp only[PP,simprocAttr,c6];exact hk
end
section
variable (M l:Mem) (i:Nat) (x:PObj)
theorem gk:(M++l)[M.length+i]? =l[i]? :=by rw[List.getElem?_append_right (by omega)];congr 1;omega
theorem gk0:(M++l)[M.length]? =l[0]? :=by rw[List.getElem?_append_right (Nat.le_refl _),Nat.sub_self]
theorem sk:(M++l).set (M.length+i) x=M++l.set i x:=by rw[List.set_append_right _ _ (by omega)];congr 2;omega
theorem sk0:(M++l).set M.length x=M++l.set 0 x:=by rw[List.set_append_right _ _ (Nat.le_refl _),Nat.sub_self]
end
theorem HD(k:IntKind)(a b:Int):xI (.int k a) [.int k b]=some (.int k (min a b)):=by
 simp[xI,bN,eT,kE,zD,ofAV1];by_cases h:b<a
 ·rw[if_pos h];omega
 ·rw[if_neg h];omega
theorem yW{v n:Int}{e:Eg}{l:List Eg}(h:e.fr<0\/n<=e.fr\/e.to<0\/n<=e.to):mM v n (e::l)=8:=by unfold mM;rw[if_pos h]
theorem CQ{v n:Int}{e:Eg}{l:List Eg}(h:¬(e.fr<0\/n<=e.fr\/e.to<0\/n<=e.to)):mM v n (e::l)=if lK v e.ps e.ng=0 then mM v n l else lK v e.ps e.ng:=by show(if _ then _ else _)=_;rw[if_neg h]
section
variable {tab:FuncId->Option AF} (T:HasA tab)
include T
end
abbrev Wd:=List (BitVec 64)
def wAt(a:Wd)(i:Nat):BitVec 64:=a.getD i 0#64
theorem gB{a:Wd}{i:Nat}(h:a.length<=i):wAt a i=0#64:=by unfold wAt;rw[List.getD,List.getElem?_eq_none h];rfl
theorem qK{a:Wd}{i:Nat}{x:BitVec 64}(h:a[i]? =some x):wAt a i=x:=by unfold wAt;rw[List.getD,h];rfl
def fC(a:Wd):Nat->Nat
 | 0=>0
 | n+1=>if wAt a n=0#64 then fC a n else n+1
theorem qP(a:Wd):∀n,fC a n<=n
 | 0=>Nat.le_refl _
 | n+1=>by
  unfold fC;split
  ·exact Nat.le_succ_of_le (qP a n)
  ·exact Nat.le_refl _
theorem wQ(a:Wd):∀n i,fC a n<=i->i<n->wAt a i=0#64
 | 0,i,_,h=>by omega
 | n+1,i,h1,h2=>by
  unfold fC at h1;split at h1
  ·rename_i h;by_cases e:i=n
   ·subst e;exact h
   ·exact wQ a n i h1 (by omega)
  ·omega
theorem sO(a:Wd):∀n,fC a n=0\/wAt a (fC a n-1)≠0#64
 | 0=> .inl rfl
 | n+1=>by
  unfold fC;split
  ·exact sO a n
  ·rename_i h;exact .inr h
def qQ(a:Wd):Wd:=a.take (fC a a.length)
theorem WN(a:Wd):(qQ a).length<=a.length:=by unfold qQ;rw[List.length_take];omega
theorem C9(a:Wd)(i:Nat):wAt (qQ a) i=wAt a i:=by
 have hle:=qP a a.length;rcases Nat.lt_or_ge i (fC a a.length)with h | h
 ·unfold wAt qQ;rw[List.getD,List.getD,List.getElem?_take,if_pos h]
 ·rw[gB (by unfold qQ;rw[List.length_take];omega)];rcases Nat.lt_or_ge i a.length with q | q
  ·exact(wQ a _ i h q).symm
  ·exact(gB q).symm
def jX(op:BitVec 64->BitVec 64->BitVec 64)(a b:Wd)(n:Nat):Wd:=(List.range n).map fun i=>op (wAt a i) (wAt b i)
def cmb(op:BitVec 64->BitVec 64->BitVec 64)(a b:Wd):Wd:=qQ (jX op a b (min (max a.length b.length) 64))
theorem lM(op:BitVec 64->BitVec 64->BitVec 64)(a b:Wd)(n:Nat):(jX op a b n).length=n:=by simp[jX]
theorem US(op:BitVec 64->BitVec 64->BitVec 64)(a b:Wd)(n:Nat):jX op a b (n+1)=jX op a b n++[op (wAt a n) (wAt b n)]:=by simp[jX,List.range_succ]
theorem Q9(op:BitVec 64->BitVec 64->BitVec 64)(a b:Wd):(cmb op a b).length<=64:=by have:=WN (jX op a b (min (max a.length b.length) 64));rw[lM]at this;unfold cmb;omega
theorem M9{op:BitVec 64->BitVec 64->BitVec 64}(h0:op 0#64 0#64=0#64){a b:Wd}(ha:a.length<=64)(hb:b.length<=64)(i:Nat):wAt (cmb op a b) i=op (wAt a i) (wAt b i):=by
 unfold cmb;rw[C9];rcases Nat.lt_or_ge i (min (max a.length b.length) 64)with h | h
 ·refine qK ?_;simp only[jX,List.getElem?_map,List.getElem?_range h,Option.map_some]
 ·rw[gB (by rw[lM];exact h),gB (a:=a) (by omega),gB (a:=b) (by omega),h0]
def bit(a:Wd)(k:Nat):Bool:=(wAt a (k / 64)).getLsbD (k % 64)
theorem NN{a b:Wd}(ha:a.length<=64)(hb:b.length<=64)(k:Nat):bit (cmb (· ||| ·) a b) k=(bit a k||bit b k):=by unfold bit;rw[M9 (by simp) ha hb];simp
theorem kI{a b:Wd}(ha:a.length<=64)(hb:b.length<=64)(k:Nat):bit (cmb (· &&& ·) a b) k=(bit a k&&bit b k):=by unfold bit;rw[M9 (by simp) ha hb];simp
theorem E6{op:BitVec 64->BitVec 64->BitVec 64}(a b:Wd):(cmb op a b).length=0↔∀k,bit (cmb op a b) k=false:=by
 constructor
 ·intro h k;unfold bit;rw[gB (by omega)];simp
 ·intro h;have hl:(cmb op a b).length=fC (jX op a b (min (max a.length b.length) 64)) (min (max a.length b.length) 64):=by have:=qP (jX op a b (min (max a.length b.length) 64)) (min (max a.length b.length) 64);unfold cmb qQ;rw[List.length_take,lM];omega
  rcases sO (jX op a b (min (max a.length b.length) 64)) (min (max a.length b.length) 64)with e | e
  ·rw[hl,e]
  ·exfalso;rw[<-C9]at e;apply e;apply BitVec.eq_of_getLsbD_eq;intro j hj;have:=h (64*(fC (jX op a b (min (max a.length b.length) 64)) (min (max a.length b.length) 64)-1)+j);unfold bit at this;rw[show(64*(fC (jX op a b (min (max a.length b.length) 64)) (min (max a.length b.length) 64)-1)+j) / 64=fC (jX op a b (min (max a.length b.length) 64)) (min (max a.length b.length) 64)-1 by omega,show(64*(fC (jX op a b (min (max a.length b.length) 64)) (min (max a.length b.length) 64)-1)+j) % 64=j by omega]at this;unfold cmb at this;rw[this];simp
def m7(k:Nat):Wd:=List.replicate (k / 64) 0#64++[BitVec.twoPow 64 (k % 64)]
theorem kY(k:Nat):(m7 k).length=k / 64+1:=by simp[m7]
theorem y9(k j:Nat):bit (m7 k) j=decide (j=k):=by
 have hj:j % 64<64:=Nat.mod_lt _ (by omega);unfold bit;rcases Nat.lt_trichotomy (j / 64) (k / 64)with h | h | h
 ·rw[qK (x:=0#64) (by unfold m7;rw[List.getElem?_append_left (by simpa using h)];simp[h])];have:j≠k:=by rintro rfl;omega
  simp[this]
 ·rw[qK (x:=BitVec.twoPow 64 (k % 64)) (by unfold m7;rw[List.getElem?_append_right (by simp;omega)];simp[h])];rw[BitVec.getLsbD_twoPow];by_cases e:j=k
  ·subst e;simp[hj]
  ·have:k % 64≠j % 64:=by omega
   simp[e,this]
 ·rw[gB (by rw[kY];omega)];have:j≠k:=by rintro rfl;omega
  simp[this]
def mV(a:Wd)(k:Nat):Wd:=cmb (· ||| ·) a (m7 k)
def ofL(l:List Nat):Wd:=l.foldl mV []
theorem D8:∀(l:List Nat) (a:Wd),a.length<=64->(∀x∈l,x<4096)->(l.foldl mV a).length<=64/\∀k,bit (l.foldl mV a) k=(bit a k||decide (k∈l))
 | [],a,ha,_=>⟨ha,by simp⟩
 | x::l,a,ha,h=>by
  have hx:=h x (by simp);have hs:(m7 x).length<=64:=by rw[kY];omega
  obtain⟨h1,h2⟩:=D8 l (mV a x) (Q9 _ _ _) (fun y hy=>h y (by simp[hy]));refine⟨h1,fun k=>?_⟩;rw[List.foldl_cons,h2,mV,NN ha hs,y9];simp[Bool.or_assoc]
theorem aCz{l:List Nat}(h:∀x∈l,x<4096):(ofL l).length<=64:=(D8 l [] (by simp) h).1
theorem aDB{l:List Nat}(h:∀x∈l,x<4096)(k:Nat):bit (ofL l) k=decide (k∈l):=by have:=(D8 l [] (by simp) h).2 k;unfold ofL;rw[this];simp[bit,wAt]
abbrev wI(a:Wd):List Int:=a.map fun b=>((b.toNat:Nat):Int)
theorem oD{n:Nat}(h:n<18446744073709551616):IntKind.u64.wrap (n:Int)=(n:Int):=by simp only[IntKind.wrap,IntKind.signed,IntKind.bits];simp;omega
theorem NJ(b:BitVec 64):BitVec.ofInt 64 ((b.toNat:Nat):Int)=b:=by rw[BitVec.ofInt_natCast];simp
theorem mF(a b:BitVec 64):bX .and (.int .u64 ((a.toNat:Nat):Int)) (.int .u64 ((b.toNat:Nat):Int))=some (.int .u64 (((a&&& b).toNat:Nat):Int)):=by have h:=oD (a&&& b).isLt;simp only[bX,bN,eB,bF,cB,IntKind.bits,NJ,Bool.false_eq_true,if_false,if_true];show some (PV.int .u64 (IntKind.u64.wrap (((a&&& b).toNat:Nat):Int)))=_;rw[h]
theorem B7(a b:BitVec 64):bX .or (.int .u64 ((a.toNat:Nat):Int)) (.int .u64 ((b.toNat:Nat):Int))=some (.int .u64 (((a||| b).toNat:Nat):Int)):=by have h:=oD (a||| b).isLt;simp only[bX,bN,eB,bF,cB,IntKind.bits,NJ,Bool.false_eq_true,if_false,if_true];show some (PV.int .u64 (IntKind.u64.wrap (((a||| b).toNat:Nat):Int)))=_;rw[h]
theorem xM{k:Nat}(h:k<64):bX .shl (.int .u64 1) (.int .i64 (k:Int))=some (.int .u64 (((BitVec.twoPow 64 k).toNat:Nat):Int)):=by
 have h2:(BitVec.twoPow 64 k).toNat=2^k:=by rw[BitVec.toNat_twoPow,Nat.mod_eq_of_lt (Nat.pow_lt_pow_right (by omega) h)]
 have h3:=oD (n:=2^k) (Nat.pow_lt_pow_right (n:=64) (by omega) h);have h4:min ((k:Int).toNat) 64=k:=by omega
 simp only[bX,bN,eB,bF,sC,IntKind.bits,h4,h2];rw[if_pos trivial,if_neg (by omega),show(1:Int)*2^k=((2^k:Nat):Int) by simp,h3];rfl
end Go.Am.Ar
--P14
namespace Go.Am.Ar
open Go.Am.PV renaming junk->Zj
open Go.Am renaming pchk->P1,pold->P2,PKNo->P3,ppack->P4,PObj.under->P5,pput->P6,ptset->P7,ptget->P8,pev->P9,ofAV->P10,ofAV1->P11,ppad->P12,pfill->P13,bW->P14,AO.effect->P15
open List renaming replicate->L1
section
variable {tab:FuncId->Option AF} (T:HasA tab)
include T
theorem aF2{M:Mem}{K:PV->Mem->Prop}{f1 o1 f2 o2 f3 o3:Bool}{N:NF}(hk:K (.bool (decide (N.vs<0\/6<N.vs))) M):SemC tab 134 [.cp (nfC f1 o1 f2 o2 f3 o3 N) 0] M K:=by
 refine aE T.h134 (by simp only[PP,P14,simprocAttr,PV.under,dB]) ?_;simp only[af134,PP,P14,simprocAttr];refine QIf.intro (fun c1=>?_) (fun c1=>?_)
 ·simp only[PP,P14,simprocAttr,c1]at hk ⊢;exact hk
 ·simp only[PP,P14,simprocAttr,c1]at hk ⊢;exact hk
theorem aF1{M:Mem}{K:PV->Mem->Prop}{f1 o1 f2 o2 f3 o3:Bool}{N:NF}(hk:K (.bool (decide (N.n<0))) M):SemC tab 135 [.cp (nfC f1 o1 f2 o2 f3 o3 N) 0] M K:=by refine aE T.h135 (by simp only[PP,P14,simprocAttr,PV.under,dB]) ?_;simp only[af135,PP,P14,simprocAttr];exact hk
theorem aF0{M:Mem}{K:PV->Mem->Prop}{f1 o1 f2 o2 f3 o3:Bool}{N:NF}(hk:K (.bool (decide (64<N.n\/512<(N.es.length:Int)))) M):SemC tab 136 [.cp (nfC f1 o1 f2 o2 f3 o3 N) 0] M K:=by
 refine aE T.h136 (by simp only[PP,P14,simprocAttr,PV.under,dB]) ?_;simp only[af136,PP,P14,simprocAttr];refine QIf.intro (fun c1=>?_) (fun c1=>?_)
 ·simp only[PP,P14,simprocAttr,c1]at hk ⊢;exact hk
 ·simp only[PP,P14,simprocAttr,c1]at hk ⊢;exact hk
theorem aFZ{M:Mem}{K:PV->Mem->Prop}{f1 o1 f2 o2 f3 o3:Bool}{N:NF}(B:BnN N)(hk:K (.bool (decide (¬(eU N.n (-1) N.st=true/\eU N.n (-1) N.fi=true)))) M):SemC tab 137 [.cp (nfC f1 o1 f2 o2 f3 o3 N) 0] M K:=by
 refine aE T.h137 (by simp only[PP,P14,simprocAttr,PV.under,dB]) ?_;simp only[af137,PP,P14,simprocAttr];refine GC T B.s ?_
 cases q1:eU N.n (-1) N.st with
 | false=>rw[q1]at hk;simp only[PP,P14,simprocAttr]at hk ⊢;exact hk
 | true=>
  rw[q1]at hk;simp only[PP,P14,simprocAttr];refine GC T B.f ?_
  cases q2:eU N.n (-1) N.fi with
  | false=>rw[q2]at hk;simp only[PP,P14,simprocAttr]at hk ⊢;exact hk
  | true=>rw[q2]at hk;simp only[PP,P14,simprocAttr]at hk ⊢;exact hk
theorem oI{M:Mem}{K:PV->Mem->Prop}{f1 o1 f2 o2 f3 o3:Bool}{N:NF}(B:BnN N)(hk:K (p64 (bZ N)) M):
  SemC tab 79 [.agg (nfC f1 o1 f2 o2 f3 o3 N)] M K:=by
 refine bM T.h79 (by simp only[PP,P14,simprocAttr,bD]) ?_;simp only[af79];refine aB (aA ?_);simp only[PP,P14,simprocAttr];refine bB (GStep.freezeP (b:=(.junk:: .cp (nfC f1 o1 f2 o2 f3 o3 N) 0::p64 0::zj 60)) 0 (Nat.zero_le _) rfl (by simp only[kK,kL,List.cons_append,List.nil_append,cF,bU,bT,cE]) rfl) ?_;refine aB (aA ?_);simp only[PP,P14,simprocAttr];refine gU (fun(k:Nat) (G:Mem)=>k<=4/\(0<k->¬(N.vs<0\/6<N.vs))/\(1<k->¬(N.n<0))/\(2<k->¬(64<N.n\/512<(N.es.length:Int)))/\(3<k->¬(¬(eU N.n (-1) N.st=true/\eU N.n (-1) N.fi=true))))
  (fun k G=>(.junk:: .cp (nfC f1 o1 f2 o2 f3 o3 N) 0::zj 14++ .sl true true 2 4 [.func (.func 134) [] [.cp (nfC f1 o1 f2 o2 f3 o3 N) 0],p64 7,.func (.func 135) [] [.cp (nfC f1 o1 f2 o2 f3 o3 N) 0],p64 1,.func (.func 136) [] [.cp (nfC f1 o1 f2 o2 f3 o3 N) 0],p64 4,.func (.func 137) [] [.cp (nfC f1 o1 f2 o2 f3 o3 N) 0],p64 8]::p64 4::p64 k::zj 44)) (fun _ G=>G) (fun k _=>4-k) 0 [.gone] ⟨by omega,by omega,by omega,by omega,by omega⟩ (by simp only[PW]) rfl ?_
 intro k G ⟨hle,i1,i2,i3,i4⟩ ih;have w1:IntKind.i64.wrap 1=1:=rfl;have w2:IntKind.i64.wrap 2=2:=rfl;have w3:IntKind.i64.wrap 3=3:=rfl;have w4:IntKind.i64.wrap 4=4:=rfl;unfold bZ at hk;have hbad0:(N.vs<0\/6<N.vs)->K (p64 7) M:=fun h=>by rw[if_pos h]at hk;exact hk
 have hbad1:0<k->(N.n<0)->K (p64 1) M:=fun h0 h=>by rw[if_neg (i1 h0),if_pos h]at hk;exact hk
 have hbad2:1<k->(64<N.n\/512<(N.es.length:Int))->K (p64 4) M:=fun h0 h=>by rw[if_neg (i1 (by omega)),if_neg (i2 h0),if_pos h]at hk;exact hk
 have hbad3:2<k->(¬(eU N.n (-1) N.st=true/\eU N.n (-1) N.fi=true))->K (p64 8) M:=fun h0 h=>by rw[if_neg (i1 (by omega)),if_neg (i2 (by omega)),if_neg (i3 h0),if_neg h]at hk;exact hk
 have hgood:3<k->K (p64 (mM N.vs N.n N.es)) M:=fun h=>by rw[if_neg (i1 (by omega)),if_neg (i2 (by omega)),if_neg (i3 (by omega)),if_pos (Classical.not_not.1 (i4 h))]at hk;exact hk
 have hk5:k=0\/k=1\/k=2\/k=3\/k=4:=by omega
 rcases hk5 with rfl | rfl | rfl | rfl | rfl
 ·refine aM (by kernel_rfl) ?_;simp only[PP,P14,simprocAttr,List.append_assoc,gk0,sk0];refine aF2 T ?_;by_cases q:(N.vs<0\/6<N.vs)
  ·simp only[PP,P14,simprocAttr,q,List.append_assoc,gk,gk0,sk,sk0,decide_true];exact hbad0 q
  ·simp only[PP,P14,simprocAttr,q,List.append_assoc,gk,gk0,sk,sk0,decide_false,w1,w2,w3,w4];refine bA (ih 1 (G++[.cells 0 1 [.func (.func 134) [] [.cp (nfC f1 o1 f2 o2 f3 o3 N) 0],p64 7]]) ⟨by omega,fun _=>q,fun h=>absurd h (by omega),fun h=>absurd h (by omega),fun h=>absurd h (by omega)⟩ (by omega)) (by simp only[PW]) rfl
 ·refine aM (by kernel_rfl) ?_;simp only[PP,P14,simprocAttr,List.append_assoc,gk0,sk0];refine aF1 T ?_;by_cases q:(N.n<0)
  ·simp only[PP,P14,simprocAttr,q,List.append_assoc,gk,gk0,sk,sk0,decide_true];exact hbad1 (by omega) q
  ·simp only[PP,P14,simprocAttr,q,List.append_assoc,gk,gk0,sk,sk0,decide_false,w1,w2,w3,w4];refine bA (ih 2 (G++[.cells 0 1 [.func (.func 135) [] [.cp (nfC f1 o1 f2 o2 f3 o3 N) 0],p64 1]]) ⟨by omega,fun _=>i1 (by omega),fun _=>q,fun h=>absurd h (by omega),fun h=>absurd h (by omega)⟩ (by omega)) (by simp only[PW]) rfl
 ·refine aM (by kernel_rfl) ?_;simp only[PP,P14,simprocAttr,List.append_assoc,gk0,sk0];refine aF0 T ?_;by_cases q:(64<N.n\/512<(N.es.length:Int))
  ·simp only[PP,P14,simprocAttr,q,List.append_assoc,gk,gk0,sk,sk0,decide_true];exact hbad2 (by omega) q
  ·simp only[PP,P14,simprocAttr,q,List.append_assoc,gk,gk0,sk,sk0,decide_false,w1,w2,w3,w4];refine bA (ih 3 (G++[.cells 0 1 [.func (.func 136) [] [.cp (nfC f1 o1 f2 o2 f3 o3 N) 0],p64 4]]) ⟨by omega,fun _=>i1 (by omega),fun _=>i2 (by omega),fun _=>q,fun h=>absurd h (by omega)⟩ (by omega)) (by simp only[PW]) rfl
 ·refine aM (by kernel_rfl) ?_;simp only[PP,P14,simprocAttr,List.append_assoc,gk0,sk0];refine aFZ T B ?_;by_cases q:(¬(eU N.n (-1) N.st=true/\eU N.n (-1) N.fi=true))
  ·simp only[PP,P14,simprocAttr,q,List.append_assoc,gk,gk0,sk,sk0,decide_true];exact hbad3 (by omega) q
  ·simp only[PP,P14,simprocAttr,q,List.append_assoc,gk,gk0,sk,sk0,decide_false,w1,w2,w3,w4];refine bA (ih 4 (G++[.cells 0 1 [.func (.func 137) [] [.cp (nfC f1 o1 f2 o2 f3 o3 N) 0],p64 8]]) ⟨by omega,fun _=>i1 (by omega),fun _=>i2 (by omega),fun _=>i3 (by omega),fun _=>q⟩ (by omega)) (by simp only[PW]) rfl
 ·have hg:=hgood (by omega);refine aM (by kernel_rfl) ?_;simp only[PP,P14,simprocAttr];refine aA ?_;simp only[PP,P14,simprocAttr];refine gU (fun(k:Nat) (G:Mem)=>k<=N.es.length/\K (p64 (mM N.vs N.n (N.es.drop k))) M) (fun k G=>(.junk:: .cp (nfC f1 o1 f2 o2 f3 o3 N) 0::zj 27++slE f3 o3 N.es::p64 N.es.length::p64 k::zj 31)) (fun _ G=>G) (fun k _=>N.es.length-k) 0 G ⟨by omega,hg⟩ (by simp only[PW]) rfl ?_;intro k G ⟨hle,hq⟩ ih;refine aM (by kernel_rfl) ?_;simp only[PP,P14,simprocAttr];refine QIf.intro (fun c=>?_) (fun c=>?_)
  ·have hk':k<N.es.length:=by omega
   obtain⟨e,ge⟩:=aO hk';rw[lI ge]at hq;have hw:=aH (k:=k) (by have:=B.e;omega);have h0:(0:Int)<=k:=by omega
   have h4:=xG ge;have hl4:k*4+4<=(egL N.es).length:=by rw[iH];exact aEC ge
   obtain⟨b1,b2⟩:=B.b e (List.mem_of_getElem? ge);have bad:(e.fr<0\/N.n<=e.fr\/e.to<0\/N.n<=e.to)->K (p64 8) M:=fun h=>by rw[yW h]at hq;exact hq
   simp only[PP,P14,simprocAttr,c,h0,h4,hl4,List.append_assoc,gk,gk0,sk,sk0,HD];refine QIf.intro (fun d1=>?_) (fun d1=>?_)
   ·simp only[PP,P14,simprocAttr,d1];exact bad (by omega)
   simp only[PP,P14,simprocAttr,d1,List.append_assoc,gk,gk0,sk,sk0];refine QIf.intro (fun d2=>?_) (fun d2=>?_)
   ·simp only[PP,P14,simprocAttr,d2];exact bad (by omega)
   rw[CQ (by omega)]at hq;simp only[PP,P14,simprocAttr,d2,List.append_assoc,gk,gk0,sk,sk0];refine aFY T b1 b2 ?_;simp only[PP,P14,simprocAttr];refine QIf.intro (fun d5=>?_) (fun d5=>?_)
   ·rw[if_pos d5]at hq;simp only[PP,P14,simprocAttr,d5,hw];exact aG (ih (k+1) _ ⟨by omega,hq⟩ (by omega)) (by simp only[PW])
   ·rw[if_neg d5]at hq;simp only[PP,P14,simprocAttr,d5];exact hq
  ·simp only[PP,P14,simprocAttr,c];rw[List.drop_eq_nil_of_le (by omega)]at hq;exact hq
end
def MR(ps ng:Int)(x:Nat):Bool:=decide (aAS x ps=ps)&&decide (aAS x ng=0)
structure NOk (N:NF):Prop where
 v0:0<=N.vs
 v6:N.vs<=6
 n0:0<=N.n
 n64:N.n<=64
 e512:N.es.length<=512
 st:eU N.n (-1) N.st=true
 fi:eU N.n (-1) N.fi=true
 ed:∀e∈N.es,0<=e.fr/\e.fr<N.n/\0<=e.to/\e.to<N.n/\lK N.vs e.ps e.ng=0
theorem uU{v n:Int} :∀{l:List Eg},mM v n l=0->∀e∈l,0<=e.fr/\e.fr<n/\0<=e.to/\e.to<n/\lK v e.ps e.ng=0
 | [],_,e,h=>by cases h
 | x::l,h,e,he=>by
  by_cases c:x.fr<0\/n<=x.fr\/x.to<0\/n<=x.to
  ·rw[yW c]at h;cases h
  ·rw[CQ c]at h;by_cases d:lK v x.ps x.ng=0
   ·rw[if_pos d]at h;rcases List.mem_cons.1 he with rfl | he
    ·exact⟨by omega,by omega,by omega,by omega,d⟩
    ·exact uU h e he
   ·rw[if_neg d]at h;exact absurd h d
theorem gK{N:NF}(h:bZ N=0):NOk N:=by
 unfold bZ at h;split at h
 ·cases h
 ·split at h
  ·cases h
  ·split at h
   ·cases h
   ·split at h
    ·rename_i q1 q2 q3 q4;exact⟨by omega,by omega,by omega,by omega,by omega,q4.1,q4.2,uU h⟩
    ·cases h
theorem G8{v:Int}(h6:v<=6):2^v.toNat<=64:=by
 have:v.toNat=0\/v.toNat=1\/v.toNat=2\/v.toNat=3\/v.toNat=4\/v.toNat=5\/v.toNat=6:=by omega
 rcases this with h | h | h | h | h | h | h<;>rw[h]<;>decide
theorem zN{tab:FuncId->Option AF}(id:Nat)(first args:List PV)(M:Mem)(K:PV->Mem->Prop):zO tab (.yld id first) args M K=((∃ver r,M[id]? =some (.loop ver r))/\JR tab id (first++args) M K):=rfl
section
variable {tab:FuncId->Option AF} (T:HasA tab)
include T
theorem aHa{M:Mem}{K:PV->Mem->Prop}{ps ng:Int}{x:Nat}(hp:0<=ps/\ps<=255)(hn:0<=ng/\ng<=255)(hx:x<256)(hk:K (.bool (MR ps ng x)) M):
  SemC tab 214 [.agg [p8 ps,p8 ng],p8 x] M K:=by
 refine aE T.h214 (by simp only[PP,simprocAttr]) ?_;have h1:=oK (x:=x) (y:=ps) (by omega) hp;have h2:=oK (x:=x) (y:=ng) (by omega) hn;simp only[af214,PP,simprocAttr,h1,h2];refine QIf.intro (fun c1=>?_) (fun c1=>?_)
 ·simp only[PP,simprocAttr,c1,h2,MR]at hk ⊢;exact hk
 ·simp only[PP,simprocAttr,c1,MR]at hk ⊢;exact hk
end
abbrev kP(b:BitVec 64):PV:= .int .u64 ((b.toNat:Nat):Int)
abbrev slW(f o:Bool)(a:Wd):PV:= .sl f o 1 a.length ((wI a).map (PV.int .u64))
theorem KG{a:Wd}{i:Nat}(h:i<a.length):(wI a)[i]? =some (((wAt a i).toNat:Nat):Int):=by rw[List.getElem?_map,List.getElem?_eq_getElem h,qK (List.getElem?_eq_getElem h)];rfl
theorem aE9{x y:Int}(h:y≠0):bX .quo (.int .i64 x) (.int .i64 y)=some (.int .i64 (IntKind.i64.wrap (x.tdiv y))):=by simp[bX,bN,eB,ofAV1,h,bF,cB]
theorem iW{k:IntKind}{x y:Int} :xI (.int k x) [.int k y]=some (.int k (min x y)):=by simp[xI,bN,eT,kE,zD,ofAV1];split<;>omega
theorem R6{j:Nat}(h:j<4000000000000):IntKind.i64.wrap (((j+1:Nat):Int)-1)=(j:Int):=by rw[wrap64 (by omega) (by omega)];omega
theorem aFL{g ver m:Nat}{W:Wd}(h:m<=W.length):pW (some (.cells g ver ((wI W).map (PV.int .u64)))) g 1 0 m=some (slW false true (W.take m)):=by
 rw[cQ (by simp;omega) (aP _ _ _)];have h1:aY ((wI W).map (PV.int .u64)) 0 (m*1)=(wI (W.take m)).map (PV.int .u64):=by simp[aY,List.map_take]
 have h2:(W.take m).length=m:=by rw[List.length_take];omega
 rw[h1];unfold slW;rw[h2]
theorem PJ{α:Type}(z x:α):∀n:Nat,(z::List.replicate n z).set n x=List.replicate n z++[x]
 | 0=>rfl
 | n+1=>by rw[List.set_cons_succ,List.replicate_succ,PJ z x n];rfl
section
variable {tab:FuncId->Option AF} (T:HasA tab)
include T
theorem aAN{M:Mem}{K:PV->Mem->Prop}{f o:Bool}{a:Wd}{i:Nat}(hk:K (kP (wAt a i)) M):
  SemC tab 215 [slW f o a,p64 i] M K:=by
 refine aE T.h215 (by simp only[PP,simprocAttr]) ?_;simp only[af215,PP,simprocAttr];refine QIf.intro (fun c=>?_) (fun c=>?_)
 ·have hi:i<a.length:=by omega
  have i0:(0:Int)<=i:=by omega
  have g:=KG hi;rw[List.getElem?_map]at g;simp only[PP,simprocAttr,c,g,i0];exact hk
 ·rw[gB (by omega)]at hk;simp only[PP,simprocAttr,c];exact hk
theorem RA{M:Mem}{K:PV->Mem->Prop}{id g off n ver:Nat}{cs:List PV}(hM:M[id]? =some (.cells g ver cs))(hk:K (.ref id g 1 off n) M):
  SemC tab 216 [.ref id g 1 off n] M K:=by
 refine aT T.h216 ?_;have e:((n:Int)-0).toNat=n:=by omega
 have n0:(0:Int)<=n:=by omega
 simp only[af216,PP,simprocAttr,hM,e,n0,Int.le_refl];exact hk
theorem CT{M:Mem}{K:PV->Mem->Prop}{f1 o1 f2 o2:Bool}{a b:Wd}{g:FuncId}(op:BitVec 64->BitVec 64->BitVec 64)(ha:a.length<big)(hb:b.length<big)
  (hop:∀(M:Mem) (K:PV->Mem->Prop) (x y:BitVec 64),K (kP (op x y)) M->SemC tab g [kP x,kP y] M K) (hk:K (slW false true (cmb op a b)) M):
  SemC tab 182 [slW f1 o1 a,slW f2 o2 b,.func (.func g) [] []] M K:=by
 refine aE T.h182 (by simp only[PP,simprocAttr]) ?_;simp only[af182,PP,simprocAttr];have hn:min (max (a.length:Int) b.length) 64=((min (max a.length b.length) 64:Nat):Int):=by omega
 have hk':K (slW false true (qQ (jX op a b (min (max a.length b.length) 64)))) M:=hk;generalize hnn:min (max a.length b.length) 64=n at hn hk';have hn64:n<=64:=by omega
 simp only[PP,simprocAttr,iW,hn];refine bB (GStep.nil 8 1 rfl rfl rfl) ?_;simp only[ptset,List.cons_append,List.nil_append,List.length_cons,List.length_nil,Nat.reduceAdd];refine gU (fun(i g2:Nat)=>i<=n)
  (fun i g2=>(slW f1 o1 a::slW f2 o2 b:: .func (.func g) [] []::zj 4++ .func (.func 215) [] []:: .ref 0 g2 1 0 i::zj 6++p64 n::p64 i::zj 35))
  (fun i g2=>[.cells g2 0 ((wI (jX op a b i)).map (PV.int .u64))])
  (fun i _=>n-i) 0 0 (by omega) (by simp only[PW]) rfl ?_
 intro i g2 hi ih;refine aM (by kernel_rfl) ?_;simp only[PP,simprocAttr];refine QIf.intro (fun c=>?_) (fun c=>?_)
 ·have hin:i<n:=by omega
  have hw:=aH (k:=i) (by show _<1000000000000;omega);have b1:(i+1)*8<=140737488355328:=by omega
  have b2:i<=9223372036854775806:=by omega
  have b3:i<=(jX op a b i).length:=by rw[lM];omega
  have hps:aY (List.map (PV.int .u64) (wI (jX op a b i))) 0 i=List.map (PV.int .u64) (wI (jX op a b i)):=aU _ _ (by rw[List.length_map,List.length_map,lM]);simp only[PP,simprocAttr,c];refine aAN T ?_;simp only[PP,simprocAttr];refine aAN T ?_;simp only[PP,simprocAttr];refine hop _ _ _ _ ?_;simp only[PP,simprocAttr,b1,b2,b3,hps,hw];exact bA (ih (i+1) (g2+1) (by omega) (by omega)) (by simp only[PW]) (by rw[US];simp)
 ·have hin:i=n:=by omega
  subst hin;simp only[PP,simprocAttr,c];have hwl:=lM op a b i;generalize jX op a b i=W at hk' hwl ⊢;refine iX (fun(m:Nat)=>m<=i/\fC W m=fC W W.length)
   (fun m=>(zj 8++ .ref 0 g2 1 0 m::zj 43)) (fun m=>[.cells g2 0 ((wI W).map (PV.int .u64))]) (fun m=>m) i ⟨by omega,by rw[hwl]⟩ (by simp only[PW]) rfl ?_
  intro m ⟨hm,htr⟩ ih2;have hfin:fC W m=m->K (slW false true (W.take m)) M:=fun e=>by have hk2:K (slW false true (W.take (fC W W.length))) M:=hk';rw[<-htr,e]at hk2;exact hk2
  refine aM (by kernel_rfl) ?_;simp only[PP,simprocAttr];refine QIf.intro (fun d=>?_) (fun d=>?_)
  ·obtain⟨j,rfl⟩:∃j,m=j+1:=⟨m-1,by omega⟩;have hw:=R6 (j:=j) (by omega);have j0:(0:Int)<=j:=by omega
   have j1:(j:Int)<((j+1:Nat):Int):=by omega
   have gj:=KG (a:=W) (i:=j) (by omega);rw[List.getElem?_map]at gj;have e2:((j:Int)-0).toNat=j:=by omega
   have j2:(j:Int)<=((j+1:Nat):Int):=by omega
   simp only[PP,simprocAttr,hw,j0,j1,gj,d];have et:fC W (j+1)=if wAt W j=0#64 then fC W j else j+1:=rfl
   rw[et]at htr hfin;refine QIf.intro (fun e=>?_) (fun e=>?_)
   ·have hz:wAt W j=0#64:=BitVec.eq_of_toNat_eq (by simpa using e);rw[if_pos hz]at htr;simp only[PP,simprocAttr,e,hw,j0,j2,e2];exact aG (ih2 j ⟨by omega,htr⟩ (by omega)) (by simp only[PW])
   ·have hz:¬wAt W j=0#64:=fun h=>e (by rw[h];rfl);rw[if_neg hz]at hfin;have hk3:=hfin rfl;simp only[PP,simprocAttr,e];refine RA T rfl ?_;simp only[PP,simprocAttr,aFL (W:=W) (m:=j+1) (by omega)];exact hk3
  ·have:m=0:=by omega
   subst this;have hk3:=hfin rfl;simp only[PP,simprocAttr,d];refine RA T rfl ?_;simp only[PP,simprocAttr,aFL (W:=W) (m:=0) (by omega)];exact hk3
theorem aGH{M:Mem}{K:PV->Mem->Prop}{x y:BitVec 64}(hk:K (kP (x||| y)) M):SemC tab 211 [kP x,kP y] M K:=by refine aE T.h211 (by simp only[PP,simprocAttr]) ?_;simp only[af211,PP,simprocAttr,B7];exact hk
theorem aF6{M:Mem}{K:PV->Mem->Prop}{x y:BitVec 64}(hk:K (kP (x&&& y)) M):SemC tab 183 [kP x,kP y] M K:=by refine aE T.h183 (by simp only[PP,simprocAttr]) ?_;simp only[af183,PP,simprocAttr,mF];exact hk
theorem O8{M:Mem}{K:PV->Mem->Prop}{f1 o1 f2 o2:Bool}{a b:Wd}(ha:a.length<big)(hb:b.length<big)(hk:K (slW false true (cmb (fun x y=>x||| y) a b)) M):
  SemC tab 175 [slW f1 o1 a,slW f2 o2 b] M K:=by
 refine aE T.h175 (by simp only[PP,simprocAttr]) ?_;simp only[af175,PP,simprocAttr];refine CT T (fun x y=>x||| y) ha hb (fun M K x y h=>aGH T h) ?_;simp only[PP,simprocAttr];exact hk
theorem IW{M:Mem}{K:PV->Mem->Prop}{f1 o1 f2 o2:Bool}{a b:Wd}(ha:a.length<big)(hb:b.length<big)(hk:K (slW false true (cmb (fun x y=>x&&& y) a b)) M):
  SemC tab 146 [slW f1 o1 a,slW f2 o2 b] M K:=by
 refine aE T.h146 (by simp only[PP,simprocAttr]) ?_;simp only[af146,PP,simprocAttr];refine CT T (fun x y=>x&&& y) ha hb (fun M K x y h=>aF6 T h) ?_;simp only[PP,simprocAttr];exact hk
theorem GQ{M:Mem}{K:PV->Mem->Prop}{k:Nat}(h:k<4096)(hk:K (slW false true (m7 k)) M):SemC tab 176 [p64 k] M K:=by
 refine aE T.h176 (by simp only[PP,simprocAttr]) ?_;have k0:¬(k:Int)<0:=by omega
 have k1:¬(4095:Int)<k:=by omega
 have h64:(64:Int)≠0:=by omega
 have e1:IntKind.i64.wrap ((k:Int).tdiv 64)=((k / 64:Nat):Int):=by rw[Int.tdiv_eq_ediv_of_nonneg (by omega),wrap64 (by omega) (by omega)];omega
 have e2:(k:Int).tmod 64=((k % 64:Nat):Int):=by rw[Int.tmod_eq_emod_of_nonneg (by omega)];omega
 have e3:=aH (k:=k / 64) (by show _<1000000000000;omega);have b0:(0:Int)<=((k / 64+1:Nat):Int):=by omega
 have b1:((k / 64+1:Nat):Int)*8<=140737488355328:=by omega
 have b2:((k / 64+1:Nat):Int)<=9223372036854775807:=by omega
 have b3:(0:Int)<=((k / 64:Nat):Int):=by omega
 have b4:((k / 64:Nat):Int)<((k / 64+1:Nat):Int):=by omega
 have b5:k / 64+1<=k / 64+1:=Nat.le_refl _;have hsh:=xM (k:=k % 64) (Nat.mod_lt _ (by omega));simp only[af176,PP,simprocAttr,k0,k1,aE8 h64,aE9 h64,e1,e2,e3,b0,b1,b2,b3,b4,hsh,Int.le_refl];have hc:List.replicate (k / 64) (PV.int .u64 0)++[PV.int .u64 (((BitVec.twoPow 64 (k % 64)).toNat:Nat):Int)]=(wI (m7 k)).map (PV.int .u64):=by
  simp[m7]
 have hl:=kY k;rw[PJ,hc];have ht:(m7 k).take (k / 64+1)=m7 k:=List.take_of_length_le (by omega);simp only[PP,simprocAttr,aFL (W:=m7 k) (m:=k / 64+1) (by omega),ht];exact hk
theorem KD{M:Mem}{K:PV->Mem->Prop}{f o:Bool}{a:Wd}{k:Nat}(ha:a.length<big)(h:k<4096)(hk:K (slW false true (mV a k)) M):SemC tab 140 [slW f o a,p64 k] M K:=by refine aE T.h140 (by simp only[PP,simprocAttr]) ?_;simp only[af140,PP,simprocAttr];refine GQ T h ?_;simp only[PP,simprocAttr];refine O8 T ha (by rw[kY];show _<1000000000000;omega) ?_;simp only[PP,simprocAttr];exact hk
theorem aHy{M:Mem}{K:PV->Mem->Prop}{f o:Bool}{l:List Nat}{xs:List Int}(e:m8 l=xs)(hb:l.length<big)(h:∀x∈l,x<4096)(hk:K (slW false true (ofL l)) M):SemC tab 80 [slI f o .i64 xs] M K:=by
 subst e;refine fS ?_;refine aE T.h80 (by simp only[PP,simprocAttr]) ?_;simp only[af80,PP,simprocAttr];refine bB (GStep.wk 2 (slW false true []) (PvWk.nils _ _ _) rfl) ?_;simp only[ptset];have hb':l.length<1000000000000:=hb;refine gU (fun(k:Nat) (a:Wd)=>k<=l.length/\a.length<=64/\(l.drop k).foldl mV a=ofL l)
  (fun k a=>(.junk:: .junk::slW false true a:: .junk:: .junk::slI f o .i64 (m8 l)::p64 l.length::p64 k::zj 8)) (fun _ _=>[]) (fun k _=>l.length-k) 0 [] ⟨by omega,by simp,rfl⟩ (by simp only[PW]) rfl ?_
 intro k a ⟨hle,hal,hfo⟩ ih;refine aM (by kernel_rfl) ?_;simp only[PP,simprocAttr];refine QIf.intro (fun c=>?_) (fun c=>?_)
 ·have hk':k<l.length:=by omega
  obtain⟨x,g⟩:=aO hk';have hw:=aH (k:=k) (by show _<1000000000000;omega);have k0:(0:Int)<=k:=by omega
  rw[lI g,List.foldl_cons]at hfo;simp only[PP,simprocAttr,c,g,k0];refine KD T (by show _<1000000000000;omega) (h x (List.mem_of_getElem? g)) ?_;simp only[PP,simprocAttr,hw];exact aG (ih (k+1) (mV a x) ⟨by omega,Q9 _ _ _,hfo⟩ (by omega)) (by simp only[PW])
 ·rw[List.drop_eq_nil_of_le (by omega),List.foldl_nil]at hfo;subst hfo;simp only[PP,simprocAttr,c];exact⟨_,PvWk.refl _,hk⟩
theorem rS{M:Mem}{K:PV->Mem->Prop}{f1 o1 f2 o2:Bool}{a b:Wd}(ha:a.length<big)(hb:b.length<big)(hk:K (.bool (decide (0<(cmb (fun x y=>x&&& y) a b).length))) M):
  SemC tab 85 [slW f1 o1 a,slW f2 o2 b] M K:=by
 refine aE T.h85 (by simp only[PP,simprocAttr]) ?_;simp only[af85,PP,simprocAttr];refine IW T ha hb ?_;simp only[PP,simprocAttr,Int.natCast_pos];exact hk
end
theorem aAU{a:Wd}{k:Nat}(ha:a.length<=64)(hk:k<4096):decide (0<(cmb (fun x y=>x&&& y) a (m7 k)).length)=bit a k:=by
 have hs:(m7 k).length<=64:=by rw[kY];omega
 cases hb:bit a k with
 | true=>refine decide_eq_true (Nat.pos_of_ne_zero fun h=>?_);have:=(E6 a (m7 k)).1 h k;rw[kI ha hs,y9,hb]at this;simp at this
 | false=>
  refine decide_eq_false (fun h=>?_);have:(cmb (fun x y=>x&&& y) a (m7 k)).length=0:=(E6 a (m7 k)).2 fun j=>by
   rw[kI ha hs,y9];by_cases e:j=k
   ·subst e;rw[hb];rfl
   ·simp[e]
  omega
section
variable {tab:FuncId->Option AF} (T:HasA tab)
include T
theorem RF{M:Mem}{K:PV->Mem->Prop}{f o:Bool}{a:Wd}{k:Nat}(ha:a.length<=64)(hk:k<4096)(hq:K (.bool (bit a k)) M):
  SemC tab 181 [slW f o a,p64 k] M K:=by
 refine aE T.h181 (by simp only[PP,simprocAttr]) ?_;simp only[af181,PP,simprocAttr];refine GQ T hk ?_;simp only[PP,simprocAttr];refine rS T (by show _<1000000000000;omega) (by show _<1000000000000;rw[kY];omega) ?_;simp only[PP,simprocAttr,aAU ha hk];exact hq
end
theorem gG{n:Int}{l:List Int}(h:eU n (-1) l=true):∀x∈l,0<=x/\x<n:=fun x hx=>by have:=(gZ h).2 x hx;omega
def faW(l:List Int):Wd:=ofL (l.map Int.toNat)
theorem L5{n:Int}{l:List Int}(h:∀x∈l,0<=x/\x<n):m8 (l.map Int.toNat)=l:=by
 show(l.map Int.toNat).map (fun(v:Nat)=>(v:Int))=l;rw[List.map_map]
 conv=>rhs;rw[<-List.map_id l]
 exact List.map_congr_left fun x hx=>by have:=h x hx;show((x.toNat:Nat):Int)=x;omega
theorem I3{N:NF}(C:NOk N){l:List Int}(h:eU N.n (-1) l=true):(∀x∈l.map Int.toNat,x<4096)/\(faW l).length<=64/\∀k:Nat,bit (faW l) k=decide ((k:Int)∈l):=by
 have hm:=gG h;have n64:=C.n64;have h1:∀x∈l.map Int.toNat,x<4096:=fun x hx=>by obtain⟨y,hy,rfl⟩:=List.mem_map.1 hx;have:=hm y hy;omega
 refine⟨h1,aCz h1,fun k=>?_⟩;rw[faW,aDB h1,decide_eq_decide,List.mem_map];exact⟨fun⟨y,hy,e⟩=>by have:=hm y hy;rw[show(k:Int)=y by omega];exact hy,fun hk=>⟨k,hk,by simp⟩⟩
theorem XN{n:Int}{l:List Int}(h:eU n (-1) l=true)(hn:n<=64):l.length<=64:=by
 obtain⟨h1,h2⟩:=gZ h;have key:∀(l:List Int) (a:Int),l.Pairwise (· < ·)->(∀x∈l,a<x/\x<n)->(l.length:Int)<=max 0 (n-a-1):=by
  intro l
  induction l with
  | nil=>intro a _ _;simp;omega
  | cons x l ih=>intro a hp hx;have h1:=List.pairwise_cons.1 hp;have h2:=ih x h1.2 fun z hz=>⟨h1.1 z hz,(hx z (by simp[hz])).2⟩;have h3:=hx x (by simp);rw[List.length_cons];omega
 have:=key l (-1) h1 h2;omega
section
variable {tab:FuncId->Option AF} (T:HasA tab)
include T
theorem aEs{M:Mem}{K:PV->Mem->Prop}{f o:Bool}{N:NF}(C:NOk N){l:List Int}(h:eU N.n (-1) l=true)(hk:K (slW false true (faW l)) M):SemC tab 80 [slI f o .i64 l] M K:=by obtain⟨fa1,fa2,fa3⟩:=I3 C h;have hfl:l.length<=64:=XN h C.n64;exact aHy T (l:=l.map Int.toNat) (L5 (gG h)) (by show _<1000000000000;rw[List.length_map];omega) fa1 hk
end
end Go.Am.Ar

