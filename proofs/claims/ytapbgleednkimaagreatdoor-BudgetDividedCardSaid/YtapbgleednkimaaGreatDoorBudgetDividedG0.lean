/- Contracts of the small functions that games are checked with, and what goes with it. -/
import Derived.Test.YtapbgleednkimaaGreatDoorBudgetDividedCode
import Derived.Test.YtapbgleednkimaaGreatDoorPmR
import Derived.Test.YtapbgleednkimaaGreatDoorPmC
set_option linter.unusedVariables false
set_option linter.unusedSimpArgs false
set_option maxRecDepth 10000
namespace Go.Am.Ar
open Go.Am.PV renaming junk->Zj
open Go.Am renaming kV->P1,qL->P2,PKNo->P3,ppack->P4,PObj.under->P5,pput->P6,ptset->P7,ptget->P8,pev->P9,ofAV->P10,ofAV1->P11,ppad->P12,pfill->P13,fF->P14,AO.effect->P15
open List renaming replicate->L1
attribute [simp] kJ kK
abbrev big:Nat:=1000000000000
theorem dA {k:Nat} (h:k<big):IntKind.i64.wrap ((k:Int)+1)=((k+1:Nat):Int):=by
 have h:k<1000000000000:=h
 rw[wrap64 (by omega) (by omega)];omega
theorem iR {α:Type} {xs:List α} {k:Nat} (h:k<xs.length):xs.drop k=xs[k]::xs.drop (k+1):=List.drop_eq_getElem_cons h
theorem dN {α:Type} {xs:List α} {k:Nat} (h:k<xs.length):∃x,xs[k]? =some x:=⟨xs[k],List.getElem?_eq_getElem h⟩
theorem nE {α:Type} {xs:List α} {k:Nat} {x:α} (h:xs[k]? =some x):xs.drop k=x::xs.drop (k+1):=by
 have hk:=cQ h
 rw[List.drop_eq_getElem_cons hk]
 rw[List.getElem?_eq_getElem hk]at h
 cases h;rfl
theorem eK {α:Type} {xs:List α} {k:Nat} {x:α} (h:xs[k]? =some x):xs.take (k+1)=xs.take k++[x]:=by simp[List.take_add_one,h]
theorem getD_some {xs:List Int} {k:Nat} {x:Int} (h:xs[k]? =some x):xs.getD k 0=x:=by simp[List.getD,h]
def iU (n:Int):Int->List Int->Bool
 | _,[]=>true
 | last,v::l=>if v<=last then false else if n<=v then false else iU n v l
section
variable {tab:FuncId->Option AF} (T:HasA tab)
include T
theorem G4 {M:Mem} {K:PV->Mem->Prop} {f o:Bool} {xs:List Int} {n:Int} (hm:xs.length<big) (hk:K (.bool (iU n (-1) xs)) M):
  SemC tab 151 [slI f o .i64 xs,p64 n] M K:=by
 refine cP T.h151 (by simp only[PP,P1,P2,P14,P15,simprocAttr]) ?_
 simp only[af151,PP,P1,P2,P14,P15,simprocAttr]
 refine jY (fun(k:Nat) (last:Int)=>k<=xs.length/\K (.bool (iU n last (xs.drop k))) M) (fun k last=>(.junk::p64 n::zj 3++p64 last:: .junk:: .junk::slI f o .i64 xs::p64 xs.length::p64 k::zj 13)) (fun _ _=>[]) (fun k _=>xs.length-k) 0 (-1) ⟨by omega,hk⟩ (by simp only[PW]) rfl ?_
 intro k last ⟨hk,hq⟩ ih
 refine dL (by kernel_rfl) ?_
 simp only[PP,P1,P2,P14,P15,simprocAttr]
 refine QIf.intro (fun c=>?_) (fun c=>?_)
 ·have hk':k<xs.length:=by omega
  rw[iR hk']at hq
  have hw:=dA (k:=k) (by omega)
  have hg:xs[k]? =some xs[k]:=List.getElem?_eq_getElem hk'
  have h0:(0:Int)<=k:=by omega
  simp only[PP,P1,P2,P14,P15,simprocAttr,iU,c,hg,hw,h0]at hq ⊢
  refine QIf.intro (fun h1=>?_) (fun h1=>?_)
  ·simp only[PP,P1,P2,P14,P15,simprocAttr,h1]at hq ⊢
   exact hq
  ·simp only[PP,P1,P2,P14,P15,simprocAttr,h1]at hq ⊢
   refine QIf.intro (fun h2=>?_) (fun h2=>?_)
   ·simp only[PP,P1,P2,P14,P15,simprocAttr,h2]at hq ⊢
    exact hq
   ·simp only[PP,P1,P2,P14,P15,simprocAttr,h2,hw]at hq ⊢
    exact dB (ih (k+1) _ ⟨by omega,hq⟩ (by omega)) (by simp only[PW])
 ·simp only[PP,P1,P2,P14,P15,simprocAttr,c]
  rw[List.drop_eq_nil_of_le (by omega)]at hq
  exact hq
abbrev gmP (f1 o1 f2 o2 f3 o3 f4 o4:Bool) (ow pr:List Int) (su:List (List Int)):PV:= .agg [slI f1 o1 .u8 ow,slI f2 o2 .i64 pr,slR f3 o3 f4 o4 .i64 su]
structure Bnd (ow pr:List Int) (su:List (List Int)):Prop where
 o:ow.length<big
 p:pr.length<big
 s:su.length<big
 r:∀row∈su,row.length<big
def kB (ow pr:List Int):Nat->List (List Int)->Int
 | _,[]=>0
 | k,row::rest=>if 1<ow.getD k 0 then 6 else if pr.getD k 0<0 then 1 else if 16<pr.getD k 0 then 1 else if(row.length:Int)=0 then 13 else if iU ow.length (-1) row=false then 8 else kB ow pr (k+1) rest
def eH (ow pr:List Int) (su:List (List Int)):Int:=
 if(ow.length:Int)=0 then 3 else if 4096<(ow.length:Int) then 10 else if(pr.length:Int)=ow.length then(if(su.length:Int)=ow.length then kB ow pr 0 su else 2) else 2
omit T in
theorem LT {ow pr:List Int} {su:List (List Int)} (h:eH ow pr su=0):0<ow.length/\ow.length<=4096/\pr.length=ow.length/\su.length=ow.length/\kB ow pr 0 su=0:=by
 unfold eH at h
 split at h
 ·simp at h
 ·split at h
  ·simp at h
  ·split at h
   ·split at h
    ·exact⟨by omega,by omega,by omega,by omega,h⟩
    ·simp at h
   ·simp at h
theorem E7 {M:Mem} {K:PV->Mem->Prop} {f1 o1 f2 o2 f3 o3 f4 o4:Bool} {ow pr:List Int} {su:List (List Int)} (B:Bnd ow pr su) (hq:K (p64 (eH ow pr su)) M):
  SemC tab 88 [gmP f1 o1 f2 o2 f3 o3 f4 o4 ow pr su] M K:=by
 refine cP T.h88 (by simp only[PP,P1,P2,P14,P15,simprocAttr]) ?_
 simp only[af88,PP,P1,P2,P14,P15,simprocAttr,eH]at hq ⊢
 refine QIf.intro (fun c1=>?_) (fun c1=>?_)
 ·simp only[PP,P1,P2,P14,P15,simprocAttr,c1]at hq ⊢
  exact hq
 simp only[PP,P1,P2,P14,P15,simprocAttr,c1]at hq ⊢
 refine QIf.intro (fun c2=>?_) (fun c2=>?_)
 ·simp only[PP,P1,P2,P14,P15,simprocAttr,c2]at hq ⊢
  exact hq
 simp only[PP,P1,P2,P14,P15,simprocAttr,c2]at hq ⊢
 refine QIf.intro (fun c3=>?_) (fun c3=>?_)
 rotate_left
 ·simp only[PP,P1,P2,P14,P15,simprocAttr,c3]at hq ⊢
  exact hq
 simp only[PP,P1,P2,P14,P15,simprocAttr,c3]at hq ⊢
 refine QIf.intro (fun c4=>?_) (fun c4=>?_)
 rotate_left
 ·simp only[PP,P1,P2,P14,P15,simprocAttr,c4]at hq ⊢
  exact hq
 simp only[PP,P1,P2,P14,P15,simprocAttr,c4]at hq ⊢
 have d4:su.length=ow.length:=by omega
 refine jZ (fun(k:Nat)=>k<=su.length/\K (p64 (kB ow pr k (su.drop k))) M) (fun k=>(.junk:: .ptr 0 0 0:: .junk::p64 ow.length::zj 25++slR f3 o3 f4 o4 .i64 su::p64 ow.length::p64 k::zj 36)) (fun _=>[.cells 0 0 [slI f1 o1 .u8 ow,slI f2 o2 .i64 pr,slR f3 o3 f4 o4 .i64 su]]) (fun k=>su.length-k) 0 ⟨by omega,hq⟩ (by simp only[PW,Int.cast_ofNat_Int,d4]) rfl ?_
 intro k ⟨hle,hq⟩ ih
 refine dL (by kernel_rfl) ?_
 simp only[PP,P1,P2,P14,P15,simprocAttr]
 refine QIf.intro (fun c=>?_) (fun c=>?_)
 ·have hk':k<su.length:=by omega
  have g1:su[k]? =some su[k]:=List.getElem?_eq_getElem hk'
  have g2:ow[k]? =some ow[k]:=List.getElem?_eq_getElem (by omega)
  have g3:pr[k]? =some pr[k]:=List.getElem?_eq_getElem (by omega)
  have h0:(0:Int)<=k:=by omega
  have hw:=dA (k:=k) (by have:=B.s;omega)
  have e2:ow.getD k 0=ow[k]:=by simp[List.getD,g2]
  have e3:pr.getD k 0=pr[k]:=by simp[List.getD,g3]
  rw[iR hk']at hq
  have hks:(k:Int)<su.length:=by omega
  have hkp:(k:Int)<pr.length:=by omega
  simp only[PP,P1,P2,P14,P15,simprocAttr,kB,c,g1,g2,g3,h0,e2,e3,hks,hkp]at hq ⊢
  refine QIf.intro (fun h1=>?_) (fun h1=>?_)
  ·simp only[PP,P1,P2,P14,P15,simprocAttr,h1]at hq ⊢
   exact hq
  simp only[PP,P1,P2,P14,P15,simprocAttr,h1,g3,hkp,h0]at hq ⊢
  refine QIf.intro (fun h2=>?_) (fun h2=>?_)
  ·simp only[PP,P1,P2,P14,P15,simprocAttr,h2]at hq ⊢
   exact hq
  simp only[PP,P1,P2,P14,P15,simprocAttr,h2,g3,hkp,h0]at hq ⊢
  refine QIf.intro (fun h3=>?_) (fun h3=>?_)
  ·simp only[PP,P1,P2,P14,P15,simprocAttr,h3]at hq ⊢
   exact hq
  simp only[PP,P1,P2,P14,P15,simprocAttr,h3]at hq ⊢
  refine QIf.intro (fun h4=>?_) (fun h4=>?_)
  ·simp only[PP,P1,P2,P14,P15,simprocAttr,h4]at hq ⊢
   exact hq
  simp only[PP,P1,P2,P14,P15,simprocAttr,h4]at hq ⊢
  refine G4 T (B.r _ (List.getElem_mem hk')) ?_
  simp only[PP,P1,P2,P14,P15,simprocAttr]
  by_cases h5:iU ow.length (-1) su[k]=true
  ·simp only[PP,P1,P2,P14,P15,simprocAttr,h5,hw]at hq ⊢
   exact dB (ih (k+1) ⟨by omega,hq⟩ (by omega)) (by simp only[PW])
  ·simp only[PP,P1,P2,P14,P15,simprocAttr,h5]at hq ⊢
   exact hq
 ·simp only[PP,P1,P2,P14,P15,simprocAttr,c]
  rw[List.drop_eq_nil_of_le (by omega)]at hq
  exact hq
end
section
variable {tab:FuncId->Option AF} (T:HasA tab)
include T
theorem pC {M:Mem} {K:PV->Mem->Prop} {f o f' o':Bool} {xs ys:List Int} (hm:xs.length<big) (hk:K (.bool (decide (xs=ys))) M):
  SemC tab 29 [slI f o .i64 xs,slI f' o' .i64 ys] M K:=by
 refine cP T.h29 (by simp only[PP,P1,P2,P14,P15,simprocAttr]) ?_
 simp only[af29,PP,P1,P2,P14,P15,simprocAttr]
 refine QIf.intro (fun c1=>?_) (fun c1=>?_)
 ·simp only[PP,P1,P2,P14,P15,simprocAttr,c1]
  have hl:xs.length=ys.length:=by omega
  refine jZ (fun(k:Nat)=>k<=xs.length/\K (.bool (decide (xs.drop k=ys.drop k))) M) (fun k=>(slI f o .i64 xs::slI f' o' .i64 ys::zj 3++p64 k::zj 20)) (fun _=>[]) (fun k=>xs.length-k) 0 ⟨by omega,hk⟩ (by simp only[PW]) rfl ?_
  intro k ⟨hle,hq⟩ ih
  refine dL (by kernel_rfl) ?_
  simp only[PP,P1,P2,P14,P15,simprocAttr]
  refine QIf.intro (fun c=>?_) (fun c=>?_)
  ·have hk':k<xs.length:=by omega
   have hk2:k<ys.length:=by omega
   rw[iR hk',iR hk2]at hq
   have hw:=dA (k:=k) (by omega)
   have g1:xs[k]? =some xs[k]:=List.getElem?_eq_getElem hk'
   have g2:ys[k]? =some ys[k]:=List.getElem?_eq_getElem hk2
   have h0:(0:Int)<=k:=by omega
   have cy:(k:Int)<ys.length:=by omega
   simp only[PP,P1,P2,P14,P15,simprocAttr,c,g1,g2,hw,h0,cy]at hq ⊢
   refine QIf.intro (fun h1=>?_) (fun h1=>?_)
   ·simp only[PP,P1,P2,P14,P15,simprocAttr,h1,hw,List.cons.injEq]at hq ⊢
    exact dB (ih (k+1) ⟨by omega,hq⟩ (by omega)) (by simp only[PW])
   ·simp only[PP,P1,P2,P14,P15,simprocAttr,h1,List.cons.injEq]at hq ⊢
    exact hq
  ·simp only[PP,P1,P2,P14,P15,simprocAttr,c]
   rw[List.drop_eq_nil_of_le (by omega),List.drop_eq_nil_of_le (by omega)]at hq
   simp only[PP,P1,P2,P14,P15,simprocAttr]at hq
   exact hq
 ·simp only[PP,P1,P2,P14,P15,simprocAttr,c1]
  have hne:¬xs=ys:=by rintro rfl;exact c1 rfl
  simp only[PP,P1,P2,P14,P15,simprocAttr,hne]at hk
  exact hk
theorem kA {M:Mem} {K:PV->Mem->Prop} {f o:Bool} {xs:List Int} (hm:xs.length<big) (hk:K (slI false true .i64 xs) M):
  SemC tab 36 [slI f o .i64 xs] M K:=by
 refine cP T.h36 (by simp only[PP,P1,P2,P14,P15,simprocAttr]) ?_
 have hb:xs.length<1000000000000:=hm
 have b1:xs.length*8<=140737488355328:=by omega
 have b2:xs.length<=9223372036854775807:=by omega
 simp only[af36,PP,P1,P2,P14,P15,simprocAttr,b1,b2]
 exact hk
theorem vM {M:Mem} {K:PV->Mem->Prop} {f o:Bool} {xs:List Int} (hm:xs.length<big) (hk:K (slI false true .u8 xs) M):
  SemC tab 39 [slI f o .u8 xs] M K:=by
 refine cP T.h39 (by simp only[PP,P1,P2,P14,P15,simprocAttr]) ?_
 have hb:xs.length<1000000000000:=hm
 have b1:xs.length<=140737488355328:=by omega
 have b2:xs.length<=9223372036854775807:=by omega
 simp only[af39,PP,P1,P2,P14,P15,simprocAttr,b1,b2]
 exact hk
theorem mG {M:Mem} {K:PV->Mem->Prop} {f o f' o' g1 g2 g3 g4:Bool} {xs ys:List (List Int)} (hm:xs.length<big) (hr:∀r∈xs,r.length<big) (hk:K (.bool (decide (xs=ys))) M):
  SemC tab 33 [slR f o g1 g2 .i64 xs,slR f' o' g3 g4 .i64 ys] M K:=by
 refine cP T.h33 (by simp only[PP,P1,P2,P14,P15,simprocAttr]) ?_
 simp only[af33,PP,P1,P2,P14,P15,simprocAttr]
 refine QIf.intro (fun c1=>?_) (fun c1=>?_)
 ·simp only[PP,P1,P2,P14,P15,simprocAttr,c1]
  have hl:xs.length=ys.length:=by omega
  refine jZ (fun(k:Nat)=>k<=xs.length/\K (.bool (decide (xs.drop k=ys.drop k))) M) (fun k=>(slR f o g1 g2 .i64 xs::slR f' o' g3 g4 .i64 ys::zj 3++p64 k::zj 21)) (fun _=>[]) (fun k=>xs.length-k) 0 ⟨by omega,hk⟩ (by simp only[PW]) rfl ?_
  intro k ⟨hle,hq⟩ ih
  refine dL (by kernel_rfl) ?_
  simp only[PP,P1,P2,P14,P15,simprocAttr]
  refine QIf.intro (fun c=>?_) (fun c=>?_)
  ·have hk':k<xs.length:=by omega
   have hk2:k<ys.length:=by omega
   rw[iR hk',iR hk2]at hq
   have hw:=dA (k:=k) (by omega)
   have q1:xs[k]? =some xs[k]:=List.getElem?_eq_getElem hk'
   have q2:ys[k]? =some ys[k]:=List.getElem?_eq_getElem hk2
   have h0:(0:Int)<=k:=by omega
   have cy:(k:Int)<ys.length:=by omega
   simp only[PP,P1,P2,P14,P15,simprocAttr,c,q1,q2,hw,h0,cy]at hq ⊢
   refine pC T (hr _ (List.getElem_mem hk')) ?_
   by_cases h1:xs[k]=ys[k]
   ·simp only[PP,P1,P2,P14,P15,simprocAttr,h1,hw,List.cons.injEq]at hq ⊢
    exact dB (ih (k+1) ⟨by omega,hq⟩ (by omega)) (by simp only[PW])
   ·simp only[PP,P1,P2,P14,P15,simprocAttr,h1,List.cons.injEq]at hq ⊢
    exact hq
  ·simp only[PP,P1,P2,P14,P15,simprocAttr,c]
   rw[List.drop_eq_nil_of_le (by omega),List.drop_eq_nil_of_le (by omega)]at hq
   simp only[PP,P1,P2,P14,P15,simprocAttr]at hq
   exact hq
 ·simp only[PP,P1,P2,P14,P15,simprocAttr,c1]
  have hne:¬xs=ys:=by rintro rfl;exact c1 rfl
  simp only[PP,P1,P2,P14,P15,simprocAttr,hne]at hk
  exact hk
end
section
variable {tab:FuncId->Option AF} (T:HasA tab)
include T
end
def lC:Int->List Int->Int
 | m,[]=>m
 | m,x::l=>lC (max m x) l
section
variable {tab:FuncId->Option AF} (T:HasA tab)
include T
theorem aDF {M:Mem} {K:PV->Mem->Prop} {f o:Bool} {x:Int} {xs:List Int} (hm:(x::xs).length<big) (hq:K (p64 (lC x xs)) M):
  SemC tab 157 [slI f o .i64 (x::xs)] M K:=by
 refine cP T.h157 (by simp only[PP,P1,P2,P14,P15,simprocAttr]) ?_
 have c1:¬((xs.length+1:Nat):Int)<1:=by omega
 have c2:(0:Int)<((xs.length+1:Nat):Int):=by omega
 simp only[af157,PP,P1,P2,P14,P15,simprocAttr,c1,c2]
 have hm':xs.length+1<1000000000000:=hm
 refine jY (fun(k:Nat) (m:Int)=>k<=xs.length/\K (p64 (lC m (xs.drop k))) M) (fun k m=>(slI f o .i64 (x::xs):: .junk:: .junk::p64 m::p64 ((k+1:Nat):Int)::zj 20)) (fun _ _=>[]) (fun k _=>xs.length-k) 0 x ⟨by omega,hq⟩ (by simp only[PW]) rfl ?_
 intro k m ⟨hle,hq⟩ ih
 refine dL (by kernel_rfl) ?_
 simp only[PP,P1,P2,P14,P15,simprocAttr]
 refine QIf.intro (fun c=>?_) (fun c=>?_)
 ·have hk':k<xs.length:=by omega
  have g1:xs[k]? =some xs[k]:=List.getElem?_eq_getElem hk'
  have h0:(0:Int)<=((k+1:Nat):Int):=by omega
  have hw:=dA (k:=k+1) (by show _<1000000000000;omega)
  rw[iR hk']at hq
  simp only[PP,P1,P2,P14,P15,simprocAttr,c,g1,h0,hw,lC]at hq ⊢
  exact dB (ih (k+1) _ ⟨by omega,hq⟩ (by omega)) (by simp only[PW])
 ·rw[List.drop_eq_nil_of_le (by omega)]at hq
  simp only[PP,P1,P2,P14,P15,simprocAttr,c,lC]at hq ⊢
  exact hq
end
abbrev gz:PV:= .agg [.nils,.nils,.nils]
theorem qI {ow pr:List Int} :∀{su:List (List Int)} {k:Nat},kB ow pr k su=0->∀(i:Nat) (hi:i<su.length),0<=pr.getD (k+i) 0/\pr.getD (k+i) 0<=16/\ow.getD (k+i) 0<=1/\0<su[i].length/\iU ow.length (-1) su[i]=true
 | [],k,h,i,hi=>by simp at hi
 | row::su,k,h,i,hi=>by
  unfold kB at h
  split at h
  ·simp at h
  ·split at h
   ·simp at h
   ·split at h
    ·simp at h
    ·split at h
     ·simp at h
     ·split at h
      ·simp at h
      ·rename_i h1 h2 h3 h4 h5
       cases i with
       | zero=>exact⟨by simpa using h2,by simpa using h3,by simpa using h1,by simp only[List.getElem_cons_zero];omega,by simpa using h5⟩
       | succ i=>
        have:=qI h i (by simpa using hi)
        simpa [Nat.add_assoc,Nat.add_comm 1 i] using this
structure Valid (ow pr:List Int) (su:List (List Int)):Prop where
 n0:0<ow.length
 n1:ow.length<=4096
 p:pr.length=ow.length
 s:su.length=ow.length
 row:∀(i:Nat) (hi:i<su.length),0<=pr.getD i 0/\pr.getD i 0<=16/\ow.getD i 0<=1/\0<su[i].length/\iU ow.length (-1) su[i]=true
theorem gX {ow pr:List Int} {su:List (List Int)} (h:eH ow pr su=0):Valid ow pr su:=by
 obtain⟨h1,h2,h3,h4,h5⟩:=LT h
 exact⟨h1,h2,h3,h4,fun i hi=>by simpa using qI h5 i hi⟩
theorem qO:∀(n:Nat) (l:List Nat),l.Nodup->(∀x∈l,x<n)->l.length<=n
 | 0,l,_,h=>by
  cases l with
  | nil=>simp
  | cons x l=>have:=h x (by simp);omega
 | n+1,l,hd,h=>by
  have:=qO n (l.filter fun x=>x !=n) (hd.filter _) (fun x hx=>by
   rw[List.mem_filter]at hx
   have:=h x hx.1
   have:x≠n:=by simpa using hx.2
   omega)
  have h2:l.length<=(l.filter fun x=>x !=n).length+1:=by
   clear this h
   induction l with
   | nil=>simp
   | cons x l ih=>
    rw[List.nodup_cons]at hd
    by_cases e:x=n
    ·subst e
     have:l.filter (fun y=>y !=x)=l:=by
      rw[List.filter_eq_self]
      intro y hy
      have:y≠x:=fun q=>hd.1 (q▸hy)
      simpa using this
     simp[this]
    ·have:=ih hd.2
     have hx:(x !=n)=true:=by simpa using e
     simp only[List.filter_cons,hx,if_true,List.length_cons]
     omega
  omega
theorem aB9 {k:IntKind} {x y:Int} (h:y≠0):eI .rem (.int k x) (.int k y)=some (.int k (x.tmod y)):=by
 simp[eI,eJ,gW,ofAV1,h,eF,fH]
abbrev EL (l:List Nat):List Int:=l.map fun(v:Nat)=>(v:Int)
theorem lJ {n:Int} :∀{l:List Int} {last:Int},iU n last l=true->l.Pairwise (· < ·)/\∀x∈l,last<x/\x<n
 | [],_,_=>⟨.nil,fun x hx=>by cases hx⟩
 | v::l,last,h=>by
  unfold iU at h
  split at h
  ·simp at h
  ·split at h
   ·simp at h
   ·obtain⟨h1,h2⟩:=lJ h
    refine⟨.cons (fun x hx=>(h2 x hx).1) h1,fun x hx=>?_⟩
    rcases List.mem_cons.1 hx with rfl | hx
    ·omega
    ·have:=h2 x hx;omega
theorem TL {ow pr:List Int} {su:List (List Int)} (V:Valid ow pr su) {v:Nat} {u:Int} (hv:v<ow.length) (h:u∈su.getD v []):0<=u/\u<ow.length:=by
 have hvs:v<su.length:=by have:=V.s;omega
 obtain⟨_,_,_,_,hp⟩:=V.row v hvs
 rw[List.getD,List.getElem?_eq_getElem hvs]at h
 have:=(lJ hp).2 u h
 omega
section
variable {tab:FuncId->Option AF} (T:HasA tab)
include T
end
structure Eg where
 fr:Int
 to:Int
 ps:Int
 ng:Int
 deriving DecidableEq,Inhabited
abbrev egC (e:Eg):List PV:=[.int .i64 e.fr,.int .i64 e.to,.int .u8 e.ps,.int .u8 e.ng]
def egL (l:List Eg):List PV:=l.flatMap egC
abbrev slE (f o:Bool) (l:List Eg):PV:= .sl f o 4 l.length (egL l)
theorem aAr:egL []=[]:=rfl
theorem iQ (l:List Eg):(egL l).length=l.length*4:=by
 unfold egL
 induction l with
 | nil=>rfl
 | cons x l ih=>rw[List.flatMap_cons,List.length_append,ih];simp;omega
theorem E3 (l:List Eg):(egL l).all PV.one=true:=by
 unfold egL
 induction l with
 | nil=>rfl
 | cons x l ih=>rw[List.flatMap_cons,List.all_append,ih];rfl
theorem fV (m:Nat) (l:List Eg):cE m (egL l)=true:=by
 unfold egL
 induction l with
 | nil=>exact jC _
 | cons x l ih=>rw[List.flatMap_cons,mK,ih];simp[iG,jC,BO]
theorem eC (m:Nat) (f o:Bool) (sz n:Nat) (l:List Eg):PV.under m (.sl f o sz n (egL l))=true:=by
 simp only[PV.under];exact fV m l
theorem aAs (l:List Eg) (x:Eg):egL l++egC x=egL (l++[x]):=by simp[egL]
theorem RN {l:List Eg} {k:Nat} {x:Eg} (h:l[k]? =some x):∃a b,egL l=a++egC x++b/\a.length=k*4/\(∀y,egL (l.set k y)=a++egC y++b):=by
 obtain⟨hk,e⟩:=List.getElem?_eq_some_iff.1 h
 refine⟨egL (l.take k),egL (l.drop (k+1)),?_,?_,fun y=>?_⟩
 ·conv=>lhs;rw[<-List.take_append_drop k l,List.drop_eq_getElem_cons hk,e]
  simp[egL]
 ·rw[iQ];simp;omega
 ·rw[List.set_eq_take_append_cons_drop,if_pos hk]
  simp[egL]
theorem xY {l:List Eg} {k:Nat} {x:Eg} (h:l[k]? =some x):dW (egL l) (k*4) 4=egC x:=by
 obtain⟨a,b,h1,h2,_⟩:=RN h
 unfold dW
 rw[h1,<-h2,List.append_assoc,List.drop_left];rfl
theorem xZ {l:List Eg} {n:Nat} (h:l.length=n):dW (egL l) 0 (n*4)=egL l:=dQ _ _ (by rw[iQ,h])
theorem aBD {l:List Eg} {k:Nat} {x:Eg} (h:l[k]? =some x):k*4+4<=l.length*4:=by
 have:=cQ h;omega
def Eg.fit (e:Eg):Prop:=(-9223372036854775808<=e.fr/\e.fr<=9223372036854775807)/\(-9223372036854775808<=e.to/\e.to<=9223372036854775807)/\(0<=e.ps/\e.ps<=255)/\(0<=e.ng/\e.ng<=255)
structure NF where
 vs:Int
 n:Int
 st:List Int
 fi:List Int
 es:List Eg
abbrev nfC (f1 o1 f2 o2 f3 o3:Bool) (N:NF):List PV:=[p64 N.vs,p64 N.n,slI f1 o1 .i64 N.st,slI f2 o2 .i64 N.fi,slE f3 o3 N.es]
structure BnN (N:NF):Prop where
 s:N.st.length<big
 f:N.fi.length<big
 e:N.es.length<big
 b:∀x∈N.es,(0<=x.ps/\x.ps<=255)/\(0<=x.ng/\x.ng<=255)
def XE (x y:Int):Int:=((x.toNat&&& y.toNat:Nat):Int)
def bOr (x y:Int):Int:=((x.toNat||| y.toNat:Nat):Int)
def nH (v p n:Int):Int:=if v<0 then 7 else if 6<v then 7 else if 2^v.toNat<=p then 7 else if 2^v.toNat<=n then 7 else if XE p n=0 then 0 else 2
def oL (v n:Int):List Eg->Int
 | []=>0
 | e::l=>if e.fr<0\/n<=e.fr\/e.to<0\/n<=e.to then 8 else if nH v e.ps e.ng=0 then oL v n l else nH v e.ps e.ng
def fZ (N:NF):Int:=
 if N.vs<0\/6<N.vs then 7 else if N.n<0 then 1 else if 64<N.n\/512<(N.es.length:Int) then 4 else if iU N.n (-1) N.st=true/\iU N.n (-1) N.fi=true then oL N.vs N.n N.es else 8
theorem EG {x:Int} (h:0<=x/\x<=255):(BitVec.ofInt 8 x).toNat=x.toNat:=by
 rw[BitVec.toNat_ofInt]
 omega
theorem w6 {x:Nat} (h:x<256):IntKind.u8.wrap (x:Int)=x:=by
 simp only[IntKind.wrap,IntKind.signed,IntKind.bits]
 simp
 omega
theorem pO {x y:Int} (hx:0<=x/\x<=255) (hy:0<=y/\y<=255):eI .and (.int .u8 x) (.int .u8 y)=some (.int .u8 (XE x y)):=by
 have h1:=EG hx
 have h2:=EG hy
 have h3:x.toNat&&& y.toNat<256:=Nat.lt_of_le_of_lt Nat.and_le_left (by omega)
 have e:IntKind.u8.wrap ((BitVec.ofInt IntKind.u8.bits x&&& BitVec.ofInt IntKind.u8.bits y).toNat:Int)=XE x y:=by
  show IntKind.u8.wrap ((BitVec.ofInt 8 x&&& BitVec.ofInt 8 y).toNat:Int)=_
  rw[BitVec.toNat_and,h1,h2,w6 h3];rfl
 simp only[eI,eJ,gW,eF,fH,e]
 rfl
theorem UZ {a b:Nat} (ha:a<256) (hb:b<256):a||| b<256:=Nat.or_lt_two_pow (n:=8) ha hb
theorem UN {x y:Int} (hx:0<=x/\x<=255) (hy:0<=y/\y<=255):eI .or (.int .u8 x) (.int .u8 y)=some (.int .u8 (bOr x y)):=by
 have h1:=EG hx
 have h2:=EG hy
 have h3:x.toNat||| y.toNat<256:=UZ (by omega) (by omega)
 have e:IntKind.u8.wrap ((BitVec.ofInt IntKind.u8.bits x||| BitVec.ofInt IntKind.u8.bits y).toNat:Int)=bOr x y:=by
  show IntKind.u8.wrap ((BitVec.ofInt 8 x||| BitVec.ofInt 8 y).toNat:Int)=_
  rw[BitVec.toNat_or,h1,h2,w6 h3];rfl
 simp only[eI,eJ,gW,eF,fH,e]
 rfl
theorem aDu {v:Int} (h0:¬v<0) (h6:¬6<v):eI .shl (.int .i64 1) (.int .i64 v)=some (.int .i64 (2^v.toNat)):=by
 have:v=0\/v=1\/v=2\/v=3\/v=4\/v=5\/v=6:=by omega
 rcases this with rfl | rfl | rfl | rfl | rfl | rfl | rfl<;>rfl
theorem L3 {v:Nat} {p n:Int} (hp:0<=p) (hn:0<=n):(2:Int)^v<=bOr p n↔(2^v<=p\/2^v<=n):=by
 have key:(2^v<=p.toNat||| n.toNat)↔(2^v<=p.toNat\/2^v<=n.toNat):=by
  constructor
  ·intro h
   refine Classical.byContradiction fun q=>?_
   rw[not_or,Nat.not_le,Nat.not_le]at q
   have:=Nat.or_lt_two_pow q.1 q.2
   omega
  ·rintro(h | h)
   ·exact Nat.le_trans h Nat.left_le_or
   ·exact Nat.le_trans h Nat.right_le_or
 have e:((2^v:Nat):Int)=2^v:=by simp
 unfold bOr
 rw[<-e]
 constructor
 ·intro h
  rcases key.1 (by omega) with q | q
  ·exact .inl (by omega)
  ·exact .inr (by omega)
 ·intro h
  have:=key.2 (by omega)
  omega
section
variable {tab:FuncId->Option AF} (T:HasA tab)
include T
theorem F4 {M:Mem} {K:PV->Mem->Prop} {f1 o1 f2 o2 f3 o3 f o:Bool} {N:NF} {xs:List Int} (hm:xs.length<big) (hk:K (.bool (iU N.n (-1) xs)) M):
  SemC tab 138 [.agg (nfC f1 o1 f2 o2 f3 o3 N),slI f o .i64 xs] M K:=by
 refine cP T.h138 (by simp only[PP,P1,P2,P14,P15,simprocAttr,eC]) ?_
 simp only[af138,PP,P1,P2,P14,P15,simprocAttr]
 refine jY (fun(k:Nat) (last:Int)=>k<=xs.length/\K (.bool (iU N.n last (xs.drop k))) M) (fun k last=>(.junk:: .junk:: .ptr 0 0 0:: .junk:: .junk::p64 last:: .junk:: .junk::slI f o .i64 xs::p64 xs.length::p64 k::zj 14)) (fun _ _=>[.cells 0 0 (nfC f1 o1 f2 o2 f3 o3 N)]) (fun k _=>xs.length-k) 0 (-1) ⟨by omega,hk⟩ (by simp only[PW]) rfl ?_
 intro k last ⟨hk,hq⟩ ih
 refine dL (by kernel_rfl) ?_
 simp only[PP,P1,P2,P14,P15,simprocAttr]
 refine QIf.intro (fun c=>?_) (fun c=>?_)
 ·have hk':k<xs.length:=by omega
  rw[iR hk']at hq
  have hw:=dA (k:=k) (by omega)
  have hg:xs[k]? =some xs[k]:=List.getElem?_eq_getElem hk'
  have h0:(0:Int)<=k:=by omega
  simp only[PP,P1,P2,P14,P15,simprocAttr,iU,c,hg,hw,h0]at hq ⊢
  refine QIf.intro (fun h1=>?_) (fun h1=>?_)
  ·simp only[PP,P1,P2,P14,P15,simprocAttr,h1]at hq ⊢
   exact hq
  ·simp only[PP,P1,P2,P14,P15,simprocAttr,h1]at hq ⊢
   refine QIf.intro (fun h2=>?_) (fun h2=>?_)
   ·simp only[PP,P1,P2,P14,P15,simprocAttr,h2]at hq ⊢
    exact hq
   ·simp only[PP,P1,P2,P14,P15,simprocAttr,h2,hw]at hq ⊢
    exact dB (ih (k+1) _ ⟨by omega,hq⟩ (by omega)) (by simp only[PW])
 ·simp only[PP,P1,P2,P14,P15,simprocAttr,c]
  rw[List.drop_eq_nil_of_le (by omega)]at hq
  exact hq
theorem aCI {M:Mem} {K:PV->Mem->Prop} {v p n:Int} (hp:0<=p/\p<=255) (hn:0<=n/\n<=255) (hk:K (p64 (nH v p n)) M):
  SemC tab 139 [.agg [p8 p,p8 n],p64 v] M K:=by
 refine cP T.h139 (by simp only[PP,P1,P2,P14,P15,simprocAttr]) ?_
 simp only[af139,PP,P1,P2,P14,P15,simprocAttr]
 refine QIf.intro (fun c1=>?_) (fun c1=>?_)
 ·simp only[PP,P1,P2,P14,P15,simprocAttr,c1,nH]at hk ⊢
  exact hk
 ·simp only[PP,P1,P2,P14,P15,simprocAttr,c1]
  refine QIf.intro (fun c2=>?_) (fun c2=>?_)
  ·simp only[PP,P1,P2,P14,P15,simprocAttr,c1,c2,nH]at hk ⊢
   exact hk
  ·have hw:IntKind.i64.wrap (bOr p n)=bOr p n:=wrap64 (by unfold bOr;omega) (by have:=UZ (a:=p.toNat) (b:=n.toNat) (by omega) (by omega);unfold bOr;omega)
   simp only[PP,P1,P2,P14,P15,simprocAttr,c2,UN hp hn,pO hp hn,aDu c1 c2,hw]
   refine QIf.intro (fun c3=>?_) (fun c3=>?_)
   ·have e:nH v p n=7:=by
     unfold nH
     rw[if_neg c1,if_neg c2]
     rcases(L3 hp.1 hn.1).1 c3 with q | q
     ·rw[if_pos q]
     ·rw[if_pos q];split<;>rfl
    rw[e]at hk
    simp only[PP,P1,P2,P14,P15,simprocAttr,c3]
    exact hk
   ·have c4:¬(2:Int)^v.toNat<=p:=fun q=>c3 ((L3 hp.1 hn.1).2 (.inl q))
    have c5:¬(2:Int)^v.toNat<=n:=fun q=>c3 ((L3 hp.1 hn.1).2 (.inr q))
    simp only[PP,P1,P2,P14,P15,simprocAttr,c3,pO hp hn]
    unfold nH at hk
    rw[if_neg c1,if_neg c2,if_neg c4,if_neg c5]at hk
    refine QIf.intro (fun c6=>?_) (fun c6=>?_)
    ·rw[if_pos c6]at hk
     simp only[PP,P1,P2,P14,P15,simprocAttr,c6]
     exact hk
    ·rw[if_neg c6]at hk
     simp only[PP,P1,P2,P14,P15,simprocAttr,c6]
     exact hk
end
section
variable (M l:Mem) (i:Nat) (x:PObj)
theorem gk:(M++l)[M.length+i]? =l[i]? :=by rw[List.getElem?_append_right (by omega)];congr 1;omega
theorem gk0:(M++l)[M.length]? =l[0]? :=by rw[List.getElem?_append_right (Nat.le_refl _),Nat.sub_self]
theorem sk:(M++l).set (M.length+i) x=M++l.set i x:=by rw[List.set_append_right _ _ (by omega)];congr 2;omega
theorem sk0:(M++l).set M.length x=M++l.set 0 x:=by rw[List.set_append_right _ _ (Nat.le_refl _),Nat.sub_self]
end
theorem G5 (k:IntKind) (a b:Int):x9 (.int k a) [.int k b]=some (.int k (min a b)):=by
 simp[x9,eJ,iH,mE,zW,ofAV1]
 by_cases h:b<a
 ·rw[if_pos h];omega
 ·rw[if_neg h];omega
theorem zJ {v n:Int} {e:Eg} {l:List Eg} (h:e.fr<0\/n<=e.fr\/e.to<0\/n<=e.to):oL v n (e::l)=8:=by unfold oL;rw[if_pos h]
theorem CY {v n:Int} {e:Eg} {l:List Eg} (h:¬(e.fr<0\/n<=e.fr\/e.to<0\/n<=e.to)):oL v n (e::l)=if nH v e.ps e.ng=0 then oL v n l else nH v e.ps e.ng:=by
 show(if _ then _ else _)=_;rw[if_neg h]
section
variable {tab:FuncId->Option AF} (T:HasA tab)
include T
end
abbrev Wd:=List (BitVec 64)
def wAt (a:Wd) (i:Nat):BitVec 64:=a.getD i 0#64
theorem lM {a:Wd} {i:Nat} (h:a.length<=i):wAt a i=0#64:=by
 unfold wAt;rw[List.getD,List.getElem?_eq_none h];rfl
theorem rH {a:Wd} {i:Nat} {x:BitVec 64} (h:a[i]? =some x):wAt a i=x:=by
 unfold wAt;rw[List.getD,h];rfl
def iS (a:Wd):Nat->Nat
 | 0=>0
 | n+1=>if wAt a n=0#64 then iS a n else n+1
theorem rM (a:Wd):∀n,iS a n<=n
 | 0=>Nat.le_refl _
 | n+1=>by
  unfold iS
  split
  ·exact Nat.le_succ_of_le (rM a n)
  ·exact Nat.le_refl _
theorem xB (a:Wd):∀n i,iS a n<=i->i<n->wAt a i=0#64
 | 0,i,_,h=>by omega
 | n+1,i,h1,h2=>by
  unfold iS at h1
  split at h1
  ·rename_i h
   by_cases e:i=n
   ·subst e;exact h
   ·exact xB a n i h1 (by omega)
  ·omega
theorem tB (a:Wd):∀n,iS a n=0\/wAt a (iS a n-1)≠0#64
 | 0=> .inl rfl
 | n+1=>by
  unfold iS
  split
  ·exact tB a n
  ·rename_i h;exact .inr h
def tC (a:Wd):Wd:=a.take (iS a a.length)
theorem TI (a:Wd):(tC a).length<=a.length:=by unfold tC;rw[List.length_take];omega
theorem DI (a:Wd) (i:Nat):wAt (tC a) i=wAt a i:=by
 have hle:=rM a a.length
 rcases Nat.lt_or_ge i (iS a a.length) with h | h
 ·unfold wAt tC
  rw[List.getD,List.getD,List.getElem?_take,if_pos h]
 ·rw[lM (by unfold tC;rw[List.length_take];omega)]
  rcases Nat.lt_or_ge i a.length with q | q
  ·exact(xB a _ i h q).symm
  ·exact(lM q).symm
def mP (op:BitVec 64->BitVec 64->BitVec 64) (a b:Wd) (n:Nat):Wd:=(List.range n).map fun i=>op (wAt a i) (wAt b i)
def cmb (op:BitVec 64->BitVec 64->BitVec 64) (a b:Wd):Wd:=tC (mP op a b (min (max a.length b.length) 64))
theorem nJ (op:BitVec 64->BitVec 64->BitVec 64) (a b:Wd) (n:Nat):(mP op a b n).length=n:=by simp[mP]
theorem RW (op:BitVec 64->BitVec 64->BitVec 64) (a b:Wd) (n:Nat):mP op a b (n+1)=mP op a b n++[op (wAt a n) (wAt b n)]:=by simp[mP,List.range_succ]
theorem aAK (op:BitVec 64->BitVec 64->BitVec 64) (a b:Wd):(cmb op a b).length<=64:=by
 have:=TI (mP op a b (min (max a.length b.length) 64))
 rw[nJ]at this
 unfold cmb
 omega
theorem WW {op:BitVec 64->BitVec 64->BitVec 64} (h0:op 0#64 0#64=0#64) {a b:Wd} (ha:a.length<=64) (hb:b.length<=64) (i:Nat):wAt (cmb op a b) i=op (wAt a i) (wAt b i):=by
 unfold cmb
 rw[DI]
 rcases Nat.lt_or_ge i (min (max a.length b.length) 64) with h | h
 ·refine rH ?_
  simp only[mP,List.getElem?_map,List.getElem?_range h,Option.map_some]
 ·rw[lM (by rw[nJ];exact h),lM (a:=a) (by omega),lM (a:=b) (by omega),h0]
def bit (a:Wd) (k:Nat):Bool:=(wAt a (k / 64)).getLsbD (k % 64)
theorem LY {a b:Wd} (ha:a.length<=64) (hb:b.length<=64) (k:Nat):bit (cmb (· ||| ·) a b) k=(bit a k||bit b k):=by
 unfold bit;rw[WW (by simp) ha hb];simp
theorem vP {a b:Wd} (ha:a.length<=64) (hb:b.length<=64) (k:Nat):bit (cmb (· &&& ·) a b) k=(bit a k&&bit b k):=by
 unfold bit;rw[WW (by simp) ha hb];simp
theorem OL {op:BitVec 64->BitVec 64->BitVec 64} (a b:Wd):(cmb op a b).length=0↔∀k,bit (cmb op a b) k=false:=by
 constructor
 ·intro h k
  unfold bit
  rw[lM (by omega)];simp
 ·intro h
  have hl:(cmb op a b).length=iS (mP op a b (min (max a.length b.length) 64)) (min (max a.length b.length) 64):=by
   have:=rM (mP op a b (min (max a.length b.length) 64)) (min (max a.length b.length) 64)
   unfold cmb tC
   rw[List.length_take,nJ]
   omega
  rcases tB (mP op a b (min (max a.length b.length) 64)) (min (max a.length b.length) 64) with e | e
  ·rw[hl,e]
  ·exfalso
   rw[<-DI]at e
   apply e
   apply BitVec.eq_of_getLsbD_eq
   intro j hj
   have:=h (64*(iS (mP op a b (min (max a.length b.length) 64)) (min (max a.length b.length) 64)-1)+j)
   unfold bit at this
   rw[show(64*(iS (mP op a b (min (max a.length b.length) 64)) (min (max a.length b.length) 64)-1)+j) / 64=iS (mP op a b (min (max a.length b.length) 64)) (min (max a.length b.length) 64)-1 by omega,show(64*(iS (mP op a b (min (max a.length b.length) 64)) (min (max a.length b.length) 64)-1)+j) % 64=j by omega]at this
   unfold cmb at this
   rw[this];simp
def oS (k:Nat):Wd:=List.replicate (k / 64) 0#64++[BitVec.twoPow 64 (k % 64)]
theorem mU (k:Nat):(oS k).length=k / 64+1:=by simp[oS]
theorem zT (k j:Nat):bit (oS k) j=decide (j=k):=by
 have hj:j % 64<64:=Nat.mod_lt _ (by omega)
 unfold bit
 rcases Nat.lt_trichotomy (j / 64) (k / 64) with h | h | h
 ·rw[rH (x:=0#64) (by unfold oS;rw[List.getElem?_append_left (by simpa using h)];simp[h])]
  have:j≠k:=by rintro rfl;omega
  simp[this]
 ·rw[rH (x:=BitVec.twoPow 64 (k % 64)) (by unfold oS;rw[List.getElem?_append_right (by simp;omega)];simp[h])]
  rw[BitVec.getLsbD_twoPow]
  by_cases e:j=k
  ·subst e;simp[hj]
  ·have:k % 64≠j % 64:=by omega
   simp[e,this]
 ·rw[lM (by rw[mU];omega)]
  have:j≠k:=by rintro rfl;omega
  simp[this]
def rG (a:Wd) (k:Nat):Wd:=cmb (· ||| ·) a (oS k)
def ofL (l:List Nat):Wd:=l.foldl rG []
theorem EE:∀(l:List Nat) (a:Wd),a.length<=64->(∀x∈l,x<4096)->(l.foldl rG a).length<=64/\∀k,bit (l.foldl rG a) k=(bit a k||decide (k∈l))
 | [],a,ha,_=>⟨ha,by simp⟩
 | x::l,a,ha,h=>by
  have hx:=h x (by simp)
  have hs:(oS x).length<=64:=by rw[mU];omega
  obtain⟨h1,h2⟩:=EE l (rG a x) (aAK _ _ _) (fun y hy=>h y (by simp[hy]))
  refine⟨h1,fun k=>?_⟩
  rw[List.foldl_cons,h2,rG,LY ha hs,zT]
  simp[Bool.or_assoc]
theorem Z5 {l:List Nat} (h:∀x∈l,x<4096):(ofL l).length<=64:=(EE l [] (by simp) h).1
theorem aAO {l:List Nat} (h:∀x∈l,x<4096) (k:Nat):bit (ofL l) k=decide (k∈l):=by
 have:=(EE l [] (by simp) h).2 k
 unfold ofL
 rw[this]
 simp[bit,wAt]
abbrev wI (a:Wd):List Int:=a.map fun b=>((b.toNat:Nat):Int)
theorem pK {n:Nat} (h:n<18446744073709551616):IntKind.u64.wrap (n:Int)=(n:Int):=by
 simp only[IntKind.wrap,IntKind.signed,IntKind.bits]
 simp
 omega
theorem LV (b:BitVec 64):BitVec.ofInt 64 ((b.toNat:Nat):Int)=b:=by
 rw[BitVec.ofInt_natCast];simp
theorem qM (a b:BitVec 64):eI .and (.int .u64 ((a.toNat:Nat):Int)) (.int .u64 ((b.toNat:Nat):Int))=some (.int .u64 (((a&&& b).toNat:Nat):Int)):=by
 have h:=pK (a&&& b).isLt
 simp only[eI,eJ,gW,eF,fH,IntKind.bits,LV,Bool.false_eq_true,if_false,if_true]
 show some (PV.int .u64 (IntKind.u64.wrap (((a&&& b).toNat:Nat):Int)))=_
 rw[h]
theorem CL (a b:BitVec 64):eI .or (.int .u64 ((a.toNat:Nat):Int)) (.int .u64 ((b.toNat:Nat):Int))=some (.int .u64 (((a||| b).toNat:Nat):Int)):=by
 have h:=pK (a||| b).isLt
 simp only[eI,eJ,gW,eF,fH,IntKind.bits,LV,Bool.false_eq_true,if_false,if_true]
 show some (PV.int .u64 (IntKind.u64.wrap (((a||| b).toNat:Nat):Int)))=_
 rw[h]
theorem yB {k:Nat} (h:k<64):eI .shl (.int .u64 1) (.int .i64 (k:Int))=some (.int .u64 (((BitVec.twoPow 64 k).toNat:Nat):Int)):=by
 have h2:(BitVec.twoPow 64 k).toNat=2^k:=by
  rw[BitVec.toNat_twoPow,Nat.mod_eq_of_lt (Nat.pow_lt_pow_right (by omega) h)]
 have h3:=pK (n:=2^k) (Nat.pow_lt_pow_right (n:=64) (by omega) h)
 have h4:min ((k:Int).toNat) 64=k:=by omega
 simp only[eI,eJ,gW,eF,sS,IntKind.bits,h4,h2]
 rw[if_pos trivial,if_neg (by omega),show(1:Int)*2^k=((2^k:Nat):Int) by simp,h3]
 rfl
section
variable {tab:FuncId->Option AF} (T:HasA tab)
include T
theorem aCN {M:Mem} {K:PV->Mem->Prop} {f1 o1 f2 o2 f3 o3:Bool} {N:NF} (hk:K (.bool (decide (N.vs<0\/6<N.vs))) M):SemC tab 134 [.cp (nfC f1 o1 f2 o2 f3 o3 N) 0] M K:=by
 refine cP T.h134 (by simp only[PP,P1,P2,P14,P15,simprocAttr,PV.under,fV]) ?_
 simp only[af134,PP,P1,P2,P14,P15,simprocAttr]
 refine QIf.intro (fun c1=>?_) (fun c1=>?_)
 ·simp only[PP,P1,P2,P14,P15,simprocAttr,c1]at hk ⊢
  exact hk
 ·simp only[PP,P1,P2,P14,P15,simprocAttr,c1]at hk ⊢
  exact hk
theorem aCM {M:Mem} {K:PV->Mem->Prop} {f1 o1 f2 o2 f3 o3:Bool} {N:NF} (hk:K (.bool (decide (N.n<0))) M):SemC tab 135 [.cp (nfC f1 o1 f2 o2 f3 o3 N) 0] M K:=by
 refine cP T.h135 (by simp only[PP,P1,P2,P14,P15,simprocAttr,PV.under,fV]) ?_
 simp only[af135,PP,P1,P2,P14,P15,simprocAttr]
 exact hk
theorem aCL {M:Mem} {K:PV->Mem->Prop} {f1 o1 f2 o2 f3 o3:Bool} {N:NF} (hk:K (.bool (decide (64<N.n\/512<(N.es.length:Int)))) M):SemC tab 136 [.cp (nfC f1 o1 f2 o2 f3 o3 N) 0] M K:=by
 refine cP T.h136 (by simp only[PP,P1,P2,P14,P15,simprocAttr,PV.under,fV]) ?_
 simp only[af136,PP,P1,P2,P14,P15,simprocAttr]
 refine QIf.intro (fun c1=>?_) (fun c1=>?_)
 ·simp only[PP,P1,P2,P14,P15,simprocAttr,c1]at hk ⊢
  exact hk
 ·simp only[PP,P1,P2,P14,P15,simprocAttr,c1]at hk ⊢
  exact hk
theorem aCK {M:Mem} {K:PV->Mem->Prop} {f1 o1 f2 o2 f3 o3:Bool} {N:NF} (B:BnN N) (hk:K (.bool (decide (¬(iU N.n (-1) N.st=true/\iU N.n (-1) N.fi=true)))) M):SemC tab 137 [.cp (nfC f1 o1 f2 o2 f3 o3 N) 0] M K:=by
 refine cP T.h137 (by simp only[PP,P1,P2,P14,P15,simprocAttr,PV.under,fV]) ?_
 simp only[af137,PP,P1,P2,P14,P15,simprocAttr]
 refine F4 T B.s ?_
 cases q1:iU N.n (-1) N.st with
 | false=>
  rw[q1]at hk
  simp only[PP,P1,P2,P14,P15,simprocAttr]at hk ⊢
  exact hk
 | true=>
  rw[q1]at hk
  simp only[PP,P1,P2,P14,P15,simprocAttr]
  refine F4 T B.f ?_
  cases q2:iU N.n (-1) N.fi with
  | false=>
   rw[q2]at hk
   simp only[PP,P1,P2,P14,P15,simprocAttr]at hk ⊢
   exact hk
  | true=>
   rw[q2]at hk
   simp only[PP,P1,P2,P14,P15,simprocAttr]at hk ⊢
   exact hk
theorem B4 {M:Mem} {K:PV->Mem->Prop} {f1 o1 f2 o2 f3 o3:Bool} {N:NF} (B:BnN N) (hk:K (p64 (fZ N)) M):
  SemC tab 79 [.agg (nfC f1 o1 f2 o2 f3 o3 N)] M K:=by
 refine fB T.h79 (by simp only[PP,P1,P2,P14,P15,simprocAttr,eC]) ?_
 simp only[af79]
 refine bS (bR ?_)
 simp only[PP,P1,P2,P14,P15,simprocAttr]
 refine eB (GStep.freezeP (b:=(.junk:: .cp (nfC f1 o1 f2 o2 f3 o3 N) 0::p64 0::zj 60)) 0 (Nat.zero_le _) rfl (by simp only[kJ,kK,List.cons_append,List.nil_append,f9,fR,fQ,f8]) rfl) ?_
 refine bS (bR ?_)
 simp only[PP,P1,P2,P14,P15,simprocAttr]
 refine jY (fun(k:Nat) (G:Mem)=>k<=4/\(0<k->¬(N.vs<0\/6<N.vs))/\(1<k->¬(N.n<0))/\(2<k->¬(64<N.n\/512<(N.es.length:Int)))/\(3<k->¬(¬(iU N.n (-1) N.st=true/\iU N.n (-1) N.fi=true))))
  (fun k G=>(.junk:: .cp (nfC f1 o1 f2 o2 f3 o3 N) 0::zj 14++ .sl true true 2 4 [.func (.func 134) [] [.cp (nfC f1 o1 f2 o2 f3 o3 N) 0],p64 7,.func (.func 135) [] [.cp (nfC f1 o1 f2 o2 f3 o3 N) 0],p64 1,.func (.func 136) [] [.cp (nfC f1 o1 f2 o2 f3 o3 N) 0],p64 4,.func (.func 137) [] [.cp (nfC f1 o1 f2 o2 f3 o3 N) 0],p64 8]::p64 4::p64 k::zj 44)) (fun _ G=>G) (fun k _=>4-k) 0 [.gone] ⟨by omega,by omega,by omega,by omega,by omega⟩ (by simp only[PW]) rfl ?_
 intro k G ⟨hle,i1,i2,i3,i4⟩ ih
 have w1:IntKind.i64.wrap 1=1:=rfl
 have w2:IntKind.i64.wrap 2=2:=rfl
 have w3:IntKind.i64.wrap 3=3:=rfl
 have w4:IntKind.i64.wrap 4=4:=rfl
 unfold fZ at hk
 have hbad0:(N.vs<0\/6<N.vs)->K (p64 7) M:=fun h=>by rw[if_pos h]at hk;exact hk
 have hbad1:0<k->(N.n<0)->K (p64 1) M:=fun h0 h=>by rw[if_neg (i1 h0),if_pos h]at hk;exact hk
 have hbad2:1<k->(64<N.n\/512<(N.es.length:Int))->K (p64 4) M:=fun h0 h=>by rw[if_neg (i1 (by omega)),if_neg (i2 h0),if_pos h]at hk;exact hk
 have hbad3:2<k->(¬(iU N.n (-1) N.st=true/\iU N.n (-1) N.fi=true))->K (p64 8) M:=fun h0 h=>by rw[if_neg (i1 (by omega)),if_neg (i2 (by omega)),if_neg (i3 h0),if_neg h]at hk;exact hk
 have hgood:3<k->K (p64 (oL N.vs N.n N.es)) M:=fun h=>by rw[if_neg (i1 (by omega)),if_neg (i2 (by omega)),if_neg (i3 (by omega)),if_pos (Classical.not_not.1 (i4 h))]at hk;exact hk
 have hk5:k=0\/k=1\/k=2\/k=3\/k=4:=by omega
 rcases hk5 with rfl | rfl | rfl | rfl | rfl
 ·refine dL (by kernel_rfl) ?_
  simp only[PP,P1,P2,P14,P15,simprocAttr,List.append_assoc,gk0,sk0]
  refine aCN T ?_
  by_cases q:(N.vs<0\/6<N.vs)
  ·simp only[PP,P1,P2,P14,P15,simprocAttr,q,List.append_assoc,gk,gk0,sk,sk0,decide_true]
   exact hbad0 q
  ·simp only[PP,P1,P2,P14,P15,simprocAttr,q,List.append_assoc,gk,gk0,sk,sk0,decide_false,w1,w2,w3,w4]
   refine dY (ih 1 (G++[.cells 0 1 [.func (.func 134) [] [.cp (nfC f1 o1 f2 o2 f3 o3 N) 0],p64 7]]) ⟨by omega,fun _=>q,fun h=>absurd h (by omega),fun h=>absurd h (by omega),fun h=>absurd h (by omega)⟩ (by omega)) (by simp only[PW]) rfl
 ·refine dL (by kernel_rfl) ?_
  simp only[PP,P1,P2,P14,P15,simprocAttr,List.append_assoc,gk0,sk0]
  refine aCM T ?_
  by_cases q:(N.n<0)
  ·simp only[PP,P1,P2,P14,P15,simprocAttr,q,List.append_assoc,gk,gk0,sk,sk0,decide_true]
   exact hbad1 (by omega) q
  ·simp only[PP,P1,P2,P14,P15,simprocAttr,q,List.append_assoc,gk,gk0,sk,sk0,decide_false,w1,w2,w3,w4]
   refine dY (ih 2 (G++[.cells 0 1 [.func (.func 135) [] [.cp (nfC f1 o1 f2 o2 f3 o3 N) 0],p64 1]]) ⟨by omega,fun _=>i1 (by omega),fun _=>q,fun h=>absurd h (by omega),fun h=>absurd h (by omega)⟩ (by omega)) (by simp only[PW]) rfl
 ·refine dL (by kernel_rfl) ?_
  simp only[PP,P1,P2,P14,P15,simprocAttr,List.append_assoc,gk0,sk0]
  refine aCL T ?_
  by_cases q:(64<N.n\/512<(N.es.length:Int))
  ·simp only[PP,P1,P2,P14,P15,simprocAttr,q,List.append_assoc,gk,gk0,sk,sk0,decide_true]
   exact hbad2 (by omega) q
  ·simp only[PP,P1,P2,P14,P15,simprocAttr,q,List.append_assoc,gk,gk0,sk,sk0,decide_false,w1,w2,w3,w4]
   refine dY (ih 3 (G++[.cells 0 1 [.func (.func 136) [] [.cp (nfC f1 o1 f2 o2 f3 o3 N) 0],p64 4]]) ⟨by omega,fun _=>i1 (by omega),fun _=>i2 (by omega),fun _=>q,fun h=>absurd h (by omega)⟩ (by omega)) (by simp only[PW]) rfl
 ·refine dL (by kernel_rfl) ?_
  simp only[PP,P1,P2,P14,P15,simprocAttr,List.append_assoc,gk0,sk0]
  refine aCK T B ?_
  by_cases q:(¬(iU N.n (-1) N.st=true/\iU N.n (-1) N.fi=true))
  ·simp only[PP,P1,P2,P14,P15,simprocAttr,q,List.append_assoc,gk,gk0,sk,sk0,decide_true]
   exact hbad3 (by omega) q
  ·simp only[PP,P1,P2,P14,P15,simprocAttr,q,List.append_assoc,gk,gk0,sk,sk0,decide_false,w1,w2,w3,w4]
   refine dY (ih 4 (G++[.cells 0 1 [.func (.func 137) [] [.cp (nfC f1 o1 f2 o2 f3 o3 N) 0],p64 8]]) ⟨by omega,fun _=>i1 (by omega),fun _=>i2 (by omega),fun _=>i3 (by omega),fun _=>q⟩ (by omega)) (by simp only[PW]) rfl
 ·have hg:=hgood (by omega)
  refine dL (by kernel_rfl) ?_
  simp only[PP,P1,P2,P14,P15,simprocAttr]
  refine bR ?_
  simp only[PP,P1,P2,P14,P15,simprocAttr]
  refine jY (fun(k:Nat) (G:Mem)=>k<=N.es.length/\K (p64 (oL N.vs N.n (N.es.drop k))) M) (fun k G=>(.junk:: .cp (nfC f1 o1 f2 o2 f3 o3 N) 0::zj 27++slE f3 o3 N.es::p64 N.es.length::p64 k::zj 31)) (fun _ G=>G) (fun k _=>N.es.length-k) 0 G ⟨by omega,hg⟩ (by simp only[PW]) rfl ?_
  intro k G ⟨hle,hq⟩ ih
  refine dL (by kernel_rfl) ?_
  simp only[PP,P1,P2,P14,P15,simprocAttr]
  refine QIf.intro (fun c=>?_) (fun c=>?_)
  ·have hk':k<N.es.length:=by omega
   obtain⟨e,ge⟩:=dN hk'
   rw[nE ge]at hq
   have hw:=dA (k:=k) (by have:=B.e;omega)
   have h0:(0:Int)<=k:=by omega
   have h4:=xY ge
   have hl4:k*4+4<=(egL N.es).length:=by rw[iQ];exact aBD ge
   obtain⟨b1,b2⟩:=B.b e (List.mem_of_getElem? ge)
   have bad:(e.fr<0\/N.n<=e.fr\/e.to<0\/N.n<=e.to)->K (p64 8) M:=fun h=>by rw[zJ h]at hq;exact hq
   simp only[PP,P1,P2,P14,P15,simprocAttr,c,h0,h4,hl4,List.append_assoc,gk,gk0,sk,sk0,G5]
   refine QIf.intro (fun d1=>?_) (fun d1=>?_)
   ·simp only[PP,P1,P2,P14,P15,simprocAttr,d1]
    exact bad (by omega)
   simp only[PP,P1,P2,P14,P15,simprocAttr,d1,List.append_assoc,gk,gk0,sk,sk0]
   refine QIf.intro (fun d2=>?_) (fun d2=>?_)
   ·simp only[PP,P1,P2,P14,P15,simprocAttr,d2]
    exact bad (by omega)
   rw[CY (by omega)]at hq
   simp only[PP,P1,P2,P14,P15,simprocAttr,d2,List.append_assoc,gk,gk0,sk,sk0]
   refine aCI T b1 b2 ?_
   simp only[PP,P1,P2,P14,P15,simprocAttr]
   refine QIf.intro (fun d5=>?_) (fun d5=>?_)
   ·rw[if_pos d5]at hq
    simp only[PP,P1,P2,P14,P15,simprocAttr,d5,hw]
    exact dB (ih (k+1) _ ⟨by omega,hq⟩ (by omega)) (by simp only[PW])
   ·rw[if_neg d5]at hq
    simp only[PP,P1,P2,P14,P15,simprocAttr,d5]
    exact hq
  ·simp only[PP,P1,P2,P14,P15,simprocAttr,c]
   rw[List.drop_eq_nil_of_le (by omega)]at hq
   exact hq
end
def LH (ps ng:Int) (x:Nat):Bool:=decide (XE x ps=ps)&&decide (XE x ng=0)
structure NOk (N:NF):Prop where
 v0:0<=N.vs
 v6:N.vs<=6
 n0:0<=N.n
 n64:N.n<=64
 e512:N.es.length<=512
 st:iU N.n (-1) N.st=true
 fi:iU N.n (-1) N.fi=true
 ed:∀e∈N.es,0<=e.fr/\e.fr<N.n/\0<=e.to/\e.to<N.n/\nH N.vs e.ps e.ng=0
theorem vL {v n:Int} :∀{l:List Eg},oL v n l=0->∀e∈l,0<=e.fr/\e.fr<n/\0<=e.to/\e.to<n/\nH v e.ps e.ng=0
 | [],_,e,h=>by cases h
 | x::l,h,e,he=>by
  by_cases c:x.fr<0\/n<=x.fr\/x.to<0\/n<=x.to
  ·rw[zJ c]at h;cases h
  ·rw[CY c]at h
   by_cases d:nH v x.ps x.ng=0
   ·rw[if_pos d]at h
    rcases List.mem_cons.1 he with rfl | he
    ·exact⟨by omega,by omega,by omega,by omega,d⟩
    ·exact vL h e he
   ·rw[if_neg d]at h;exact absurd h d
theorem lU {N:NF} (h:fZ N=0):NOk N:=by
 unfold fZ at h
 split at h
 ·cases h
 ·split at h
  ·cases h
  ·split at h
   ·cases h
   ·split at h
    ·rename_i q1 q2 q3 q4
     exact⟨by omega,by omega,by omega,by omega,by omega,q4.1,q4.2,vL h⟩
    ·cases h
theorem G2 {v:Int} (h6:v<=6):2^v.toNat<=64:=by
 have:v.toNat=0\/v.toNat=1\/v.toNat=2\/v.toNat=3\/v.toNat=4\/v.toNat=5\/v.toNat=6:=by omega
 rcases this with h | h | h | h | h | h | h<;>rw[h]<;>decide
theorem JJ {tab:FuncId->Option AF} (id:Nat) (first args:List PV) (M:Mem) (K:PV->Mem->Prop):AK tab (.yld id first) args M K=((∃ver r,M[id]? =some (.loop ver r))/\MG tab id (first++args) M K):=rfl
section
variable {tab:FuncId->Option AF} (T:HasA tab)
include T
theorem aDJ {M:Mem} {K:PV->Mem->Prop} {ps ng:Int} {x:Nat} (hp:0<=ps/\ps<=255) (hn:0<=ng/\ng<=255) (hx:x<256) (hk:K (.bool (LH ps ng x)) M):
  SemC tab 214 [.agg [p8 ps,p8 ng],p8 x] M K:=by
 refine cP T.h214 (by simp only[PP,P1,P2,P14,P15,simprocAttr]) ?_
 have h1:=pO (x:=x) (y:=ps) (by omega) hp
 have h2:=pO (x:=x) (y:=ng) (by omega) hn
 simp only[af214,PP,P1,P2,P14,P15,simprocAttr,h1,h2]
 refine QIf.intro (fun c1=>?_) (fun c1=>?_)
 ·simp only[PP,P1,P2,P14,P15,simprocAttr,c1,h2,LH]at hk ⊢
  exact hk
 ·simp only[PP,P1,P2,P14,P15,simprocAttr,c1,LH]at hk ⊢
  exact hk
end
abbrev o6 (b:BitVec 64):PV:= .int .u64 ((b.toNat:Nat):Int)
abbrev slW (f o:Bool) (a:Wd):PV:= .sl f o 1 a.length ((wI a).map (PV.int .u64))
theorem S8 {a:Wd} {i:Nat} (h:i<a.length):(wI a)[i]? =some (((wAt a i).toNat:Nat):Int):=by
 rw[List.getElem?_map,List.getElem?_eq_getElem h,rH (List.getElem?_eq_getElem h)];rfl
theorem aCa {x y:Int} (h:y≠0):eI .quo (.int .i64 x) (.int .i64 y)=some (.int .i64 (IntKind.i64.wrap (x.tdiv y))):=by
 simp[eI,eJ,gW,ofAV1,h,eF,fH]
theorem jX {k:IntKind} {x y:Int} :x9 (.int k x) [.int k y]=some (.int k (min x y)):=by
 simp[x9,eJ,iH,mE,zW,ofAV1]
 split<;>omega
theorem PA {j:Nat} (h:j<4000000000000):IntKind.i64.wrap (((j+1:Nat):Int)-1)=(j:Int):=by
 rw[wrap64 (by omega) (by omega)];omega
theorem aCA {g ver m:Nat} {W:Wd} (h:m<=W.length):y8 (some (.cells g ver ((wI W).map (PV.int .u64)))) g 1 0 m=some (slW false true (W.take m)):=by
 rw[iJ (by simp;omega) (dI _ _ _)]
 have h1:dW ((wI W).map (PV.int .u64)) 0 (m*1)=(wI (W.take m)).map (PV.int .u64):=by simp[dW,List.map_take]
 have h2:(W.take m).length=m:=by rw[List.length_take];omega
 rw[h1]
 unfold slW
 rw[h2]
theorem NW {α:Type} (z x:α):∀n:Nat,(z::List.replicate n z).set n x=List.replicate n z++[x]
 | 0=>rfl
 | n+1=>by
  rw[List.set_cons_succ,List.replicate_succ,NW z x n];rfl
section
variable {tab:FuncId->Option AF} (T:HasA tab)
include T
theorem W7 {M:Mem} {K:PV->Mem->Prop} {f o:Bool} {a:Wd} {i:Nat} (hk:K (o6 (wAt a i)) M):
  SemC tab 215 [slW f o a,p64 i] M K:=by
 refine cP T.h215 (by simp only[PP,P1,P2,P14,P15,simprocAttr]) ?_
 simp only[af215,PP,P1,P2,P14,P15,simprocAttr]
 refine QIf.intro (fun c=>?_) (fun c=>?_)
 ·have hi:i<a.length:=by omega
  have i0:(0:Int)<=i:=by omega
  have g:=S8 hi
  rw[List.getElem?_map]at g
  simp only[PP,P1,P2,P14,P15,simprocAttr,c,g,i0]
  exact hk
 ·rw[lM (by omega)]at hk
  simp only[PP,P1,P2,P14,P15,simprocAttr,c]
  exact hk
theorem OM {M:Mem} {K:PV->Mem->Prop} {id g off n ver:Nat} {cs:List PV} (hM:M[id]? =some (.cells g ver cs)) (hk:K (.ref id g 1 off n) M):
  SemC tab 216 [.ref id g 1 off n] M K:=by
 refine dH T.h216 ?_
 have e:((n:Int)-0).toNat=n:=by omega
 have n0:(0:Int)<=n:=by omega
 simp only[af216,PP,P1,P2,P14,P15,simprocAttr,hM,e,n0,Int.le_refl]
 exact hk
theorem C3 {M:Mem} {K:PV->Mem->Prop} {f1 o1 f2 o2:Bool} {a b:Wd} {g:FuncId} (op:BitVec 64->BitVec 64->BitVec 64) (ha:a.length<big) (hb:b.length<big)
  (hop:∀(M:Mem) (K:PV->Mem->Prop) (x y:BitVec 64),K (o6 (op x y)) M->SemC tab g [o6 x,o6 y] M K) (hk:K (slW false true (cmb op a b)) M):
  SemC tab 182 [slW f1 o1 a,slW f2 o2 b,.func (.func g) [] []] M K:=by
 refine cP T.h182 (by simp only[PP,P1,P2,P14,P15,simprocAttr]) ?_
 simp only[af182,PP,P1,P2,P14,P15,simprocAttr]
 have hn:min (max (a.length:Int) b.length) 64=((min (max a.length b.length) 64:Nat):Int):=by omega
 have hk':K (slW false true (tC (mP op a b (min (max a.length b.length) 64)))) M:=hk
 generalize hnn:min (max a.length b.length) 64=n at hn hk'
 have hn64:n<=64:=by omega
 simp only[PP,P1,P2,P14,P15,simprocAttr,jX,hn]
 refine eB (GStep.nil 8 1 rfl rfl rfl) ?_
 simp only[ptset,List.cons_append,List.nil_append,List.length_cons,List.length_nil,Nat.reduceAdd]
 refine jY (fun(i g2:Nat)=>i<=n)
  (fun i g2=>(slW f1 o1 a::slW f2 o2 b:: .func (.func g) [] []::zj 4++ .func (.func 215) [] []:: .ref 0 g2 1 0 i::zj 6++p64 n::p64 i::zj 35))
  (fun i g2=>[.cells g2 0 ((wI (mP op a b i)).map (PV.int .u64))])
  (fun i _=>n-i) 0 0 (by omega) (by simp only[PW]) rfl ?_
 intro i g2 hi ih
 refine dL (by kernel_rfl) ?_
 simp only[PP,P1,P2,P14,P15,simprocAttr]
 refine QIf.intro (fun c=>?_) (fun c=>?_)
 ·have hin:i<n:=by omega
  have hw:=dA (k:=i) (by show _<1000000000000;omega)
  have b1:(i+1)*8<=140737488355328:=by omega
  have b2:i<=9223372036854775806:=by omega
  have b3:i<=(mP op a b i).length:=by rw[nJ];omega
  have hps:dW (List.map (PV.int .u64) (wI (mP op a b i))) 0 i=List.map (PV.int .u64) (wI (mP op a b i)):=dQ _ _ (by rw[List.length_map,List.length_map,nJ])
  simp only[PP,P1,P2,P14,P15,simprocAttr,c]
  refine W7 T ?_
  simp only[PP,P1,P2,P14,P15,simprocAttr]
  refine W7 T ?_
  simp only[PP,P1,P2,P14,P15,simprocAttr]
  refine hop _ _ _ _ ?_
  simp only[PP,P1,P2,P14,P15,simprocAttr,b1,b2,b3,hps,hw]
  exact dY (ih (i+1) (g2+1) (by omega) (by omega)) (by simp only[PW]) (by rw[RW];simp)
 ·have hin:i=n:=by omega
  subst hin
  simp only[PP,P1,P2,P14,P15,simprocAttr,c]
  have hwl:=nJ op a b i
  generalize mP op a b i=W at hk' hwl ⊢
  refine jZ (fun(m:Nat)=>m<=i/\iS W m=iS W W.length)
   (fun m=>(zj 8++ .ref 0 g2 1 0 m::zj 43)) (fun m=>[.cells g2 0 ((wI W).map (PV.int .u64))]) (fun m=>m) i ⟨by omega,by rw[hwl]⟩ (by simp only[PW]) rfl ?_
  intro m ⟨hm,htr⟩ ih2
  have hfin:iS W m=m->K (slW false true (W.take m)) M:=fun e=>by
   have hk2:K (slW false true (W.take (iS W W.length))) M:=hk'
   rw[<-htr,e]at hk2;exact hk2
  refine dL (by kernel_rfl) ?_
  simp only[PP,P1,P2,P14,P15,simprocAttr]
  refine QIf.intro (fun d=>?_) (fun d=>?_)
  ·obtain⟨j,rfl⟩:∃j,m=j+1:=⟨m-1,by omega⟩
   have hw:=PA (j:=j) (by omega)
   have j0:(0:Int)<=j:=by omega
   have j1:(j:Int)<((j+1:Nat):Int):=by omega
   have gj:=S8 (a:=W) (i:=j) (by omega)
   rw[List.getElem?_map]at gj
   have e2:((j:Int)-0).toNat=j:=by omega
   have j2:(j:Int)<=((j+1:Nat):Int):=by omega
   simp only[PP,P1,P2,P14,P15,simprocAttr,hw,j0,j1,gj,d]
   have et:iS W (j+1)=if wAt W j=0#64 then iS W j else j+1:=rfl
   rw[et]at htr hfin
   refine QIf.intro (fun e=>?_) (fun e=>?_)
   ·have hz:wAt W j=0#64:=BitVec.eq_of_toNat_eq (by simpa using e)
    rw[if_pos hz]at htr
    simp only[PP,P1,P2,P14,P15,simprocAttr,e,hw,j0,j2,e2]
    exact dB (ih2 j ⟨by omega,htr⟩ (by omega)) (by simp only[PW])
   ·have hz:¬wAt W j=0#64:=fun h=>e (by rw[h];rfl)
    rw[if_neg hz]at hfin
    have hk3:=hfin rfl
    simp only[PP,P1,P2,P14,P15,simprocAttr,e]
    refine OM T rfl ?_
    simp only[PP,P1,P2,P14,P15,simprocAttr,aCA (W:=W) (m:=j+1) (by omega)]
    exact hk3
  ·have:m=0:=by omega
   subst this
   have hk3:=hfin rfl
   simp only[PP,P1,P2,P14,P15,simprocAttr,d]
   refine OM T rfl ?_
   simp only[PP,P1,P2,P14,P15,simprocAttr,aCA (W:=W) (m:=0) (by omega)]
   exact hk3
theorem aDw {M:Mem} {K:PV->Mem->Prop} {x y:BitVec 64} (hk:K (o6 (x||| y)) M):SemC tab 211 [o6 x,o6 y] M K:=by
 refine cP T.h211 (by simp only[PP,P1,P2,P14,P15,simprocAttr]) ?_
 simp only[af211,PP,P1,P2,P14,P15,simprocAttr,CL]
 exact hk
theorem aCR {M:Mem} {K:PV->Mem->Prop} {x y:BitVec 64} (hk:K (o6 (x&&& y)) M):SemC tab 183 [o6 x,o6 y] M K:=by
 refine cP T.h183 (by simp only[PP,P1,P2,P14,P15,simprocAttr]) ?_
 simp only[af183,PP,P1,P2,P14,P15,simprocAttr,qM]
 exact hk
theorem ZC {M:Mem} {K:PV->Mem->Prop} {f1 o1 f2 o2:Bool} {a b:Wd} (ha:a.length<big) (hb:b.length<big) (hk:K (slW false true (cmb (fun x y=>x||| y) a b)) M):
  SemC tab 175 [slW f1 o1 a,slW f2 o2 b] M K:=by
 refine cP T.h175 (by simp only[PP,P1,P2,P14,P15,simprocAttr]) ?_
 simp only[af175,PP,P1,P2,P14,P15,simprocAttr]
 refine C3 T (fun x y=>x||| y) ha hb (fun M K x y h=>aDw T h) ?_
 simp only[PP,P1,P2,P14,P15,simprocAttr]
 exact hk
theorem IE {M:Mem} {K:PV->Mem->Prop} {f1 o1 f2 o2:Bool} {a b:Wd} (ha:a.length<big) (hb:b.length<big) (hk:K (slW false true (cmb (fun x y=>x&&& y) a b)) M):
  SemC tab 146 [slW f1 o1 a,slW f2 o2 b] M K:=by
 refine cP T.h146 (by simp only[PP,P1,P2,P14,P15,simprocAttr]) ?_
 simp only[af146,PP,P1,P2,P14,P15,simprocAttr]
 refine C3 T (fun x y=>x&&& y) ha hb (fun M K x y h=>aCR T h) ?_
 simp only[PP,P1,P2,P14,P15,simprocAttr]
 exact hk
theorem GK {M:Mem} {K:PV->Mem->Prop} {k:Nat} (h:k<4096) (hk:K (slW false true (oS k)) M):SemC tab 176 [p64 k] M K:=by
 refine cP T.h176 (by simp only[PP,P1,P2,P14,P15,simprocAttr]) ?_
 have k0:¬(k:Int)<0:=by omega
 have k1:¬(4095:Int)<k:=by omega
 have h64:(64:Int)≠0:=by omega
 have e1:IntKind.i64.wrap ((k:Int).tdiv 64)=((k / 64:Nat):Int):=by
  rw[Int.tdiv_eq_ediv_of_nonneg (by omega),wrap64 (by omega) (by omega)];omega
 have e2:(k:Int).tmod 64=((k % 64:Nat):Int):=by rw[Int.tmod_eq_emod_of_nonneg (by omega)];omega
 have e3:=dA (k:=k / 64) (by show _<1000000000000;omega)
 have b0:(0:Int)<=((k / 64+1:Nat):Int):=by omega
 have b1:((k / 64+1:Nat):Int)*8<=140737488355328:=by omega
 have b2:((k / 64+1:Nat):Int)<=9223372036854775807:=by omega
 have b3:(0:Int)<=((k / 64:Nat):Int):=by omega
 have b4:((k / 64:Nat):Int)<((k / 64+1:Nat):Int):=by omega
 have b5:k / 64+1<=k / 64+1:=Nat.le_refl _
 have hsh:=yB (k:=k % 64) (Nat.mod_lt _ (by omega))
 simp only[af176,PP,P1,P2,P14,P15,simprocAttr,k0,k1,aB9 h64,aCa h64,e1,e2,e3,b0,b1,b2,b3,b4,hsh,Int.le_refl]
 have hc:List.replicate (k / 64) (PV.int .u64 0)++[PV.int .u64 (((BitVec.twoPow 64 (k % 64)).toNat:Nat):Int)]=(wI (oS k)).map (PV.int .u64):=by
  simp[oS]
 have hl:=mU k
 rw[NW,hc]
 have ht:(oS k).take (k / 64+1)=oS k:=List.take_of_length_le (by omega)
 simp only[PP,P1,P2,P14,P15,simprocAttr,aCA (W:=oS k) (m:=k / 64+1) (by omega),ht]
 exact hk
theorem aBL {M:Mem} {K:PV->Mem->Prop} {f o:Bool} {a:Wd} {k:Nat} (ha:a.length<big) (h:k<4096) (hk:K (slW false true (rG a k)) M):SemC tab 140 [slW f o a,p64 k] M K:=by
 refine cP T.h140 (by simp only[PP,P1,P2,P14,P15,simprocAttr]) ?_
 simp only[af140,PP,P1,P2,P14,P15,simprocAttr]
 refine GK T h ?_
 simp only[PP,P1,P2,P14,P15,simprocAttr]
 refine ZC T ha (by rw[mU];show _<1000000000000;omega) ?_
 simp only[PP,P1,P2,P14,P15,simprocAttr]
 exact hk
theorem EV {M:Mem} {K:PV->Mem->Prop} {f1 o1 f2 o2:Bool} {a b:Wd} (ha:a.length<big) (hb:b.length<big) (hk:K (.bool (decide (0<(cmb (fun x y=>x&&& y) a b).length))) M):
  SemC tab 85 [slW f1 o1 a,slW f2 o2 b] M K:=by
 refine cP T.h85 (by simp only[PP,P1,P2,P14,P15,simprocAttr]) ?_
 simp only[af85,PP,P1,P2,P14,P15,simprocAttr]
 refine IE T ha hb ?_
 simp only[PP,P1,P2,P14,P15,simprocAttr,Int.natCast_pos]
 exact hk
end
theorem XI {a:Wd} {k:Nat} (ha:a.length<=64) (hk:k<4096):decide (0<(cmb (fun x y=>x&&& y) a (oS k)).length)=bit a k:=by
 have hs:(oS k).length<=64:=by rw[mU];omega
 cases hb:bit a k with
 | true=>
  refine decide_eq_true (Nat.pos_of_ne_zero fun h=>?_)
  have:=(OL a (oS k)).1 h k
  rw[vP ha hs,zT,hb]at this
  simp at this
 | false=>
  refine decide_eq_false (fun h=>?_)
  have:(cmb (fun x y=>x&&& y) a (oS k)).length=0:=(OL a (oS k)).2 fun j=>by
   rw[vP ha hs,zT]
   by_cases e:j=k
   ·subst e;rw[hb];rfl
   ·simp[e]
  omega
section
variable {tab:FuncId->Option AF} (T:HasA tab)
include T
theorem aAM {M:Mem} {K:PV->Mem->Prop} {f o:Bool} {a:Wd} {k:Nat} (ha:a.length<=64) (hk:k<4096) (hq:K (.bool (bit a k)) M):
  SemC tab 181 [slW f o a,p64 k] M K:=by
 refine cP T.h181 (by simp only[PP,P1,P2,P14,P15,simprocAttr]) ?_
 simp only[af181,PP,P1,P2,P14,P15,simprocAttr]
 refine GK T hk ?_
 simp only[PP,P1,P2,P14,P15,simprocAttr]
 refine EV T (by show _<1000000000000;omega) (by show _<1000000000000;rw[mU];omega) ?_
 simp only[PP,P1,P2,P14,P15,simprocAttr,XI ha hk]
 exact hq
end
end Go.Am.Ar

