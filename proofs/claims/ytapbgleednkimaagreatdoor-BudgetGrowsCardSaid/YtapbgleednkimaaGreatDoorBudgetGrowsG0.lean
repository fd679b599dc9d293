/- Contracts of the small functions that games are checked with, and what goes with it. -/
import Derived.Test.YtapbgleednkimaaGreatDoorBudgetGrowsCode
import Derived.Test.YtapbgleednkimaaGreatDoorPmR
import Derived.Test.YtapbgleednkimaaGreatDoorPmC
set_option linter.unusedVariables false
set_option linter.unusedSimpArgs false
set_option maxRecDepth 10000
namespace Go.Am.Ar
open Go.Am.PV renaming junk->Zj
open Go.Am renaming lF->P1,tB->P2,PKNo->P3,ppack->P4,PObj.under->P5,pput->P6,ptset->P7,ptget->P8,pev->P9,ofAV->P10,ofAV1->P11,ppad->P12,pfill->P13,eZ->P14,AO.effect->P15
open List renaming replicate->L1
open Nat renaming reduceAdd->N1,reduceSub->N2,reduceMul->N3,reduceLT->N4,reduceLeDiff->N5,reduceEqDiff->N6,reduceBEq->N7
open Int renaming reduceToNat->I1,reduceLT->I2,reduceLE->I3,reduceEq->I4,reduceAdd->I5,reduceSub->I6,reduceNeg->I7
attribute [simp] nZ n7
abbrev big:Nat:=1000000000000
theorem bG {k:Nat} (h:k<big):IntKind.i64.wrap ((k:Int)+1)=((k+1:Nat):Int):=by
 have h:k<1000000000000:=h
 rw[wrap64 (by omega) (by omega)];omega
theorem jR {α:Type} {xs:List α} {k:Nat} (h:k<xs.length):xs.drop k=xs[k]::xs.drop (k+1):=List.drop_eq_getElem_cons h
theorem bY {α:Type} {xs:List α} {k:Nat} (h:k<xs.length):∃x,xs[k]? =some x:=⟨xs[k],List.getElem?_eq_getElem h⟩
theorem CM {α:Type} {xs:List α} {k:Nat} {x:α} (h:xs[k]? =some x):xs.drop k=x::xs.drop (k+1):=by
 have hk:=aZ h
 rw[List.drop_eq_getElem_cons hk]
 rw[List.getElem?_eq_getElem hk]at h
 cases h;rfl
theorem iB {α:Type} {xs:List α} {k:Nat} {x:α} (h:xs[k]? =some x):xs.take (k+1)=xs.take k++[x]:=by simp[List.take_add_one,h]
theorem getD_some {xs:List Int} {k:Nat} {x:Int} (h:xs[k]? =some x):xs.getD k 0=x:=by simp[List.getD,h]
def jF (n:Int):Int->List Int->Bool
 | _,[]=>true
 | last,v::l=>if v<=last then false else if n<=v then false else jF n v l
section
variable {tab:FuncId->Option AF} (T:HasA tab)
include T
theorem GQ {M:Mem} {K:PV->Mem->Prop} {f o:Bool} {xs:List Int} {n:Int} (hm:xs.length<big) (hk:K (.bool (jF n (-1) xs)) M):
  SemC tab 151 [slI f o .i64 xs,p64 n] M K:=by
 refine a8 T.h151 (by simp only[PP,P1,P2,P14,P15,N1,N2,N3,N4,N5,N6,N7,I1,I2,I3,I4,I5,I6,I7,reduceIte,reduceCtorEq]) ?_
 simp only[af151,PP,P1,P2,P14,P15,N1,N2,N3,N4,N5,N6,N7,I1,I2,I3,I4,I5,I6,I7,reduceIte,reduceCtorEq]
 refine iF (fun(k:Nat) (last:Int)=>k<=xs.length/\K (.bool (jF n last (xs.drop k))) M) (fun k last=>(.junk::p64 n::zj 3++p64 last:: .junk:: .junk::slI f o .i64 xs::p64 xs.length::p64 k::zj 13)) (fun _ _=>[]) (fun k _=>xs.length-k) 0 (-1) ⟨by omega,hk⟩ (by simp only[PW]) rfl ?_
 intro k last ⟨hk,hq⟩ ih
 refine bZ (by kernel_rfl) ?_
 simp only[PP,P1,P2,P14,P15,N1,N2,N3,N4,N5,N6,N7,I1,I2,I3,I4,I5,I6,I7,reduceIte,reduceCtorEq]
 refine QIf.intro (fun c=>?_) (fun c=>?_)
 ·have hk':k<xs.length:=by omega
  rw[jR hk']at hq
  have hw:=bG (k:=k) (by omega)
  have hg:xs[k]? =some xs[k]:=List.getElem?_eq_getElem hk'
  have h0:(0:Int)<=k:=by omega
  simp only[PP,P1,P2,P14,P15,N1,N2,N3,N4,N5,N6,N7,I1,I2,I3,I4,I5,I6,I7,reduceIte,reduceCtorEq,jF,c,hg,hw,h0]at hq ⊢
  refine QIf.intro (fun h1=>?_) (fun h1=>?_)
  ·simp only[PP,P1,P2,P14,P15,N1,N2,N3,N4,N5,N6,N7,I1,I2,I3,I4,I5,I6,I7,reduceIte,reduceCtorEq,h1]at hq ⊢
   exact hq
  ·simp only[PP,P1,P2,P14,P15,N1,N2,N3,N4,N5,N6,N7,I1,I2,I3,I4,I5,I6,I7,reduceIte,reduceCtorEq,h1]at hq ⊢
   refine QIf.intro (fun h2=>?_) (fun h2=>?_)
   ·simp only[PP,P1,P2,P14,P15,N1,N2,N3,N4,N5,N6,N7,I1,I2,I3,I4,I5,I6,I7,reduceIte,reduceCtorEq,h2]at hq ⊢
    exact hq
   ·simp only[PP,P1,P2,P14,P15,N1,N2,N3,N4,N5,N6,N7,I1,I2,I3,I4,I5,I6,I7,reduceIte,reduceCtorEq,h2,hw]at hq ⊢
    exact bB (ih (k+1) _ ⟨by omega,hq⟩ (by omega)) (by simp only[PW])
 ·simp only[PP,P1,P2,P14,P15,N1,N2,N3,N4,N5,N6,N7,I1,I2,I3,I4,I5,I6,I7,reduceIte,reduceCtorEq,c]
  rw[List.drop_eq_nil_of_le (by omega)]at hq
  exact hq
abbrev gmP (f1 o1 f2 o2 f3 o3 f4 o4:Bool) (ow pr:List Int) (su:List (List Int)):PV:= .agg [slI f1 o1 .u8 ow,slI f2 o2 .i64 pr,slR f3 o3 f4 o4 .i64 su]
structure Bnd (ow pr:List Int) (su:List (List Int)):Prop where
 o:ow.length<big
 p:pr.length<big
 s:su.length<big
 r:∀row∈su,row.length<big
def jT (ow pr:List Int):Nat->List (List Int)->Int
 | _,[]=>0
 | k,row::rest=>if 1<ow.getD k 0 then 6 else if pr.getD k 0<0 then 1 else if 16<pr.getD k 0 then 1 else if(row.length:Int)=0 then 13 else if jF ow.length (-1) row=false then 8 else jT ow pr (k+1) rest
def dU (ow pr:List Int) (su:List (List Int)):Int:=
 if(ow.length:Int)=0 then 3 else if 4096<(ow.length:Int) then 10 else if(pr.length:Int)=ow.length then(if(su.length:Int)=ow.length then jT ow pr 0 su else 2) else 2
omit T in
theorem L0 {ow pr:List Int} {su:List (List Int)} (h:dU ow pr su=0):0<ow.length/\ow.length<=4096/\pr.length=ow.length/\su.length=ow.length/\jT ow pr 0 su=0:=by
 unfold dU at h
 split at h
 ·simp at h
 ·split at h
  ·simp at h
  ·split at h
   ·split at h
    ·exact⟨by omega,by omega,by omega,by omega,h⟩
    ·simp at h
   ·simp at h
theorem EZ {M:Mem} {K:PV->Mem->Prop} {f1 o1 f2 o2 f3 o3 f4 o4:Bool} {ow pr:List Int} {su:List (List Int)} (B:Bnd ow pr su) (hq:K (p64 (dU ow pr su)) M):
  SemC tab 88 [gmP f1 o1 f2 o2 f3 o3 f4 o4 ow pr su] M K:=by
 refine a8 T.h88 (by simp only[PP,P1,P2,P14,P15,N1,N2,N3,N4,N5,N6,N7,I1,I2,I3,I4,I5,I6,I7,reduceIte,reduceCtorEq]) ?_
 simp only[af88,PP,P1,P2,P14,P15,N1,N2,N3,N4,N5,N6,N7,I1,I2,I3,I4,I5,I6,I7,reduceIte,reduceCtorEq,dU]at hq ⊢
 refine QIf.intro (fun c1=>?_) (fun c1=>?_)
 ·simp only[PP,P1,P2,P14,P15,N1,N2,N3,N4,N5,N6,N7,I1,I2,I3,I4,I5,I6,I7,reduceIte,reduceCtorEq,c1]at hq ⊢
  exact hq
 simp only[PP,P1,P2,P14,P15,N1,N2,N3,N4,N5,N6,N7,I1,I2,I3,I4,I5,I6,I7,reduceIte,reduceCtorEq,c1]at hq ⊢
 refine QIf.intro (fun c2=>?_) (fun c2=>?_)
 ·simp only[PP,P1,P2,P14,P15,N1,N2,N3,N4,N5,N6,N7,I1,I2,I3,I4,I5,I6,I7,reduceIte,reduceCtorEq,c2]at hq ⊢
  exact hq
 simp only[PP,P1,P2,P14,P15,N1,N2,N3,N4,N5,N6,N7,I1,I2,I3,I4,I5,I6,I7,reduceIte,reduceCtorEq,c2]at hq ⊢
 refine QIf.intro (fun c3=>?_) (fun c3=>?_)
 rotate_left
 ·simp only[PP,P1,P2,P14,P15,N1,N2,N3,N4,N5,N6,N7,I1,I2,I3,I4,I5,I6,I7,reduceIte,reduceCtorEq,c3]at hq ⊢
  exact hq
 simp only[PP,P1,P2,P14,P15,N1,N2,N3,N4,N5,N6,N7,I1,I2,I3,I4,I5,I6,I7,reduceIte,reduceCtorEq,c3]at hq ⊢
 refine QIf.intro (fun c4=>?_) (fun c4=>?_)
 rotate_left
 ·simp only[PP,P1,P2,P14,P15,N1,N2,N3,N4,N5,N6,N7,I1,I2,I3,I4,I5,I6,I7,reduceIte,reduceCtorEq,c4]at hq ⊢
  exact hq
 simp only[PP,P1,P2,P14,P15,N1,N2,N3,N4,N5,N6,N7,I1,I2,I3,I4,I5,I6,I7,reduceIte,reduceCtorEq,c4]at hq ⊢
 have d4:su.length=ow.length:=by omega
 refine mL (fun(k:Nat)=>k<=su.length/\K (p64 (jT ow pr k (su.drop k))) M) (fun k=>(.junk:: .ptr 0 0 0:: .junk::p64 ow.length::zj 25++slR f3 o3 f4 o4 .i64 su::p64 ow.length::p64 k::zj 36)) (fun _=>[.cells 0 0 [slI f1 o1 .u8 ow,slI f2 o2 .i64 pr,slR f3 o3 f4 o4 .i64 su]]) (fun k=>su.length-k) 0 ⟨by omega,hq⟩ (by simp only[PW,Int.cast_ofNat_Int,d4]) rfl ?_
 intro k ⟨hle,hq⟩ ih
 refine bZ (by kernel_rfl) ?_
 simp only[PP,P1,P2,P14,P15,N1,N2,N3,N4,N5,N6,N7,I1,I2,I3,I4,I5,I6,I7,reduceIte,reduceCtorEq]
 refine QIf.intro (fun c=>?_) (fun c=>?_)
 ·have hk':k<su.length:=by omega
  have g1:su[k]? =some su[k]:=List.getElem?_eq_getElem hk'
  have g2:ow[k]? =some ow[k]:=List.getElem?_eq_getElem (by omega)
  have g3:pr[k]? =some pr[k]:=List.getElem?_eq_getElem (by omega)
  have h0:(0:Int)<=k:=by omega
  have hw:=bG (k:=k) (by have:=B.s;omega)
  have e2:ow.getD k 0=ow[k]:=by simp[List.getD,g2]
  have e3:pr.getD k 0=pr[k]:=by simp[List.getD,g3]
  rw[jR hk']at hq
  have hks:(k:Int)<su.length:=by omega
  have hkp:(k:Int)<pr.length:=by omega
  simp only[PP,P1,P2,P14,P15,N1,N2,N3,N4,N5,N6,N7,I1,I2,I3,I4,I5,I6,I7,reduceIte,reduceCtorEq,jT,c,g1,g2,g3,h0,e2,e3,hks,hkp]at hq ⊢
  refine QIf.intro (fun h1=>?_) (fun h1=>?_)
  ·simp only[PP,P1,P2,P14,P15,N1,N2,N3,N4,N5,N6,N7,I1,I2,I3,I4,I5,I6,I7,reduceIte,reduceCtorEq,h1]at hq ⊢
   exact hq
  simp only[PP,P1,P2,P14,P15,N1,N2,N3,N4,N5,N6,N7,I1,I2,I3,I4,I5,I6,I7,reduceIte,reduceCtorEq,h1,g3,hkp,h0]at hq ⊢
  refine QIf.intro (fun h2=>?_) (fun h2=>?_)
  ·simp only[PP,P1,P2,P14,P15,N1,N2,N3,N4,N5,N6,N7,I1,I2,I3,I4,I5,I6,I7,reduceIte,reduceCtorEq,h2]at hq ⊢
   exact hq
  simp only[PP,P1,P2,P14,P15,N1,N2,N3,N4,N5,N6,N7,I1,I2,I3,I4,I5,I6,I7,reduceIte,reduceCtorEq,h2,g3,hkp,h0]at hq ⊢
  refine QIf.intro (fun h3=>?_) (fun h3=>?_)
  ·simp only[PP,P1,P2,P14,P15,N1,N2,N3,N4,N5,N6,N7,I1,I2,I3,I4,I5,I6,I7,reduceIte,reduceCtorEq,h3]at hq ⊢
   exact hq
  simp only[PP,P1,P2,P14,P15,N1,N2,N3,N4,N5,N6,N7,I1,I2,I3,I4,I5,I6,I7,reduceIte,reduceCtorEq,h3]at hq ⊢
  refine QIf.intro (fun h4=>?_) (fun h4=>?_)
  ·simp only[PP,P1,P2,P14,P15,N1,N2,N3,N4,N5,N6,N7,I1,I2,I3,I4,I5,I6,I7,reduceIte,reduceCtorEq,h4]at hq ⊢
   exact hq
  simp only[PP,P1,P2,P14,P15,N1,N2,N3,N4,N5,N6,N7,I1,I2,I3,I4,I5,I6,I7,reduceIte,reduceCtorEq,h4]at hq ⊢
  refine GQ T (B.r _ (List.getElem_mem hk')) ?_
  simp only[PP,P1,P2,P14,P15,N1,N2,N3,N4,N5,N6,N7,I1,I2,I3,I4,I5,I6,I7,reduceIte,reduceCtorEq]
  by_cases h5:jF ow.length (-1) su[k]=true
  ·simp only[PP,P1,P2,P14,P15,N1,N2,N3,N4,N5,N6,N7,I1,I2,I3,I4,I5,I6,I7,reduceIte,reduceCtorEq,h5,hw]at hq ⊢
   exact bB (ih (k+1) ⟨by omega,hq⟩ (by omega)) (by simp only[PW])
  ·simp only[PP,P1,P2,P14,P15,N1,N2,N3,N4,N5,N6,N7,I1,I2,I3,I4,I5,I6,I7,reduceIte,reduceCtorEq,h5]at hq ⊢
   exact hq
 ·simp only[PP,P1,P2,P14,P15,N1,N2,N3,N4,N5,N6,N7,I1,I2,I3,I4,I5,I6,I7,reduceIte,reduceCtorEq,c]
  rw[List.drop_eq_nil_of_le (by omega)]at hq
  exact hq
end
section
variable {tab:FuncId->Option AF} (T:HasA tab)
include T
theorem u9 {M:Mem} {K:PV->Mem->Prop} {f o f' o':Bool} {xs ys:List Int} (hm:xs.length<big) (hk:K (.bool (decide (xs=ys))) M):
  SemC tab 29 [slI f o .i64 xs,slI f' o' .i64 ys] M K:=by
 refine a8 T.h29 (by simp only[PP,P1,P2,P14,P15,N1,N2,N3,N4,N5,N6,N7,I1,I2,I3,I4,I5,I6,I7,reduceIte,reduceCtorEq]) ?_
 simp only[af29,PP,P1,P2,P14,P15,N1,N2,N3,N4,N5,N6,N7,I1,I2,I3,I4,I5,I6,I7,reduceIte,reduceCtorEq]
 refine QIf.intro (fun c1=>?_) (fun c1=>?_)
 ·simp only[PP,P1,P2,P14,P15,N1,N2,N3,N4,N5,N6,N7,I1,I2,I3,I4,I5,I6,I7,reduceIte,reduceCtorEq,c1]
  have hl:xs.length=ys.length:=by omega
  refine mL (fun(k:Nat)=>k<=xs.length/\K (.bool (decide (xs.drop k=ys.drop k))) M) (fun k=>(slI f o .i64 xs::slI f' o' .i64 ys::zj 3++p64 k::zj 20)) (fun _=>[]) (fun k=>xs.length-k) 0 ⟨by omega,hk⟩ (by simp only[PW]) rfl ?_
  intro k ⟨hle,hq⟩ ih
  refine bZ (by kernel_rfl) ?_
  simp only[PP,P1,P2,P14,P15,N1,N2,N3,N4,N5,N6,N7,I1,I2,I3,I4,I5,I6,I7,reduceIte,reduceCtorEq]
  refine QIf.intro (fun c=>?_) (fun c=>?_)
  ·have hk':k<xs.length:=by omega
   have hk2:k<ys.length:=by omega
   rw[jR hk',jR hk2]at hq
   have hw:=bG (k:=k) (by omega)
   have g1:xs[k]? =some xs[k]:=List.getElem?_eq_getElem hk'
   have g2:ys[k]? =some ys[k]:=List.getElem?_eq_getElem hk2
   have h0:(0:Int)<=k:=by omega
   have cy:(k:Int)<ys.length:=by omega
   simp only[PP,P1,P2,P14,P15,N1,N2,N3,N4,N5,N6,N7,I1,I2,I3,I4,I5,I6,I7,reduceIte,reduceCtorEq,c,g1,g2,hw,h0,cy]at hq ⊢
   refine QIf.intro (fun h1=>?_) (fun h1=>?_)
   ·simp only[PP,P1,P2,P14,P15,N1,N2,N3,N4,N5,N6,N7,I1,I2,I3,I4,I5,I6,I7,reduceIte,reduceCtorEq,h1,hw,List.cons.injEq]at hq ⊢
    exact bB (ih (k+1) ⟨by omega,hq⟩ (by omega)) (by simp only[PW])
   ·simp only[PP,P1,P2,P14,P15,N1,N2,N3,N4,N5,N6,N7,I1,I2,I3,I4,I5,I6,I7,reduceIte,reduceCtorEq,h1,List.cons.injEq]at hq ⊢
    exact hq
  ·simp only[PP,P1,P2,P14,P15,N1,N2,N3,N4,N5,N6,N7,I1,I2,I3,I4,I5,I6,I7,reduceIte,reduceCtorEq,c]
   rw[List.drop_eq_nil_of_le (by omega),List.drop_eq_nil_of_le (by omega)]at hq
   simp only[PP,P1,P2,P14,P15,N1,N2,N3,N4,N5,N6,N7,I1,I2,I3,I4,I5,I6,I7,reduceIte,reduceCtorEq]at hq
   exact hq
 ·simp only[PP,P1,P2,P14,P15,N1,N2,N3,N4,N5,N6,N7,I1,I2,I3,I4,I5,I6,I7,reduceIte,reduceCtorEq,c1]
  have hne:¬xs=ys:=by rintro rfl;exact c1 rfl
  simp only[PP,P1,P2,P14,P15,N1,N2,N3,N4,N5,N6,N7,I1,I2,I3,I4,I5,I6,I7,reduceIte,reduceCtorEq,hne]at hk
  exact hk
theorem jS {M:Mem} {K:PV->Mem->Prop} {f o:Bool} {xs:List Int} (hm:xs.length<big) (hk:K (slI false true .i64 xs) M):
  SemC tab 36 [slI f o .i64 xs] M K:=by
 refine a8 T.h36 (by simp only[PP,P1,P2,P14,P15,N1,N2,N3,N4,N5,N6,N7,I1,I2,I3,I4,I5,I6,I7,reduceIte,reduceCtorEq]) ?_
 have hb:xs.length<1000000000000:=hm
 have b1:xs.length*8<=140737488355328:=by omega
 have b2:xs.length<=9223372036854775807:=by omega
 simp only[af36,PP,P1,P2,P14,P15,N1,N2,N3,N4,N5,N6,N7,I1,I2,I3,I4,I5,I6,I7,reduceIte,reduceCtorEq,b1,b2]
 exact hk
theorem vB {M:Mem} {K:PV->Mem->Prop} {f o:Bool} {xs:List Int} (hm:xs.length<big) (hk:K (slI false true .u8 xs) M):
  SemC tab 39 [slI f o .u8 xs] M K:=by
 refine a8 T.h39 (by simp only[PP,P1,P2,P14,P15,N1,N2,N3,N4,N5,N6,N7,I1,I2,I3,I4,I5,I6,I7,reduceIte,reduceCtorEq]) ?_
 have hb:xs.length<1000000000000:=hm
 have b1:xs.length<=140737488355328:=by omega
 have b2:xs.length<=9223372036854775807:=by omega
 simp only[af39,PP,P1,P2,P14,P15,N1,N2,N3,N4,N5,N6,N7,I1,I2,I3,I4,I5,I6,I7,reduceIte,reduceCtorEq,b1,b2]
 exact hk
end
section
variable {tab:FuncId->Option AF} (T:HasA tab)
include T
end
def kM:Int->List Int->Int
 | m,[]=>m
 | m,x::l=>kM (max m x) l
section
variable {tab:FuncId->Option AF} (T:HasA tab)
include T
theorem aED {M:Mem} {K:PV->Mem->Prop} {f o:Bool} {x:Int} {xs:List Int} (hm:(x::xs).length<big) (hq:K (p64 (kM x xs)) M):
  SemC tab 157 [slI f o .i64 (x::xs)] M K:=by
 refine a8 T.h157 (by simp only[PP,P1,P2,P14,P15,N1,N2,N3,N4,N5,N6,N7,I1,I2,I3,I4,I5,I6,I7,reduceIte,reduceCtorEq]) ?_
 have c1:¬((xs.length+1:Nat):Int)<1:=by omega
 have c2:(0:Int)<((xs.length+1:Nat):Int):=by omega
 simp only[af157,PP,P1,P2,P14,P15,N1,N2,N3,N4,N5,N6,N7,I1,I2,I3,I4,I5,I6,I7,reduceIte,reduceCtorEq,c1,c2]
 have hm':xs.length+1<1000000000000:=hm
 refine iF (fun(k:Nat) (m:Int)=>k<=xs.length/\K (p64 (kM m (xs.drop k))) M) (fun k m=>(slI f o .i64 (x::xs):: .junk:: .junk::p64 m::p64 ((k+1:Nat):Int)::zj 20)) (fun _ _=>[]) (fun k _=>xs.length-k) 0 x ⟨by omega,hq⟩ (by simp only[PW]) rfl ?_
 intro k m ⟨hle,hq⟩ ih
 refine bZ (by kernel_rfl) ?_
 simp only[PP,P1,P2,P14,P15,N1,N2,N3,N4,N5,N6,N7,I1,I2,I3,I4,I5,I6,I7,reduceIte,reduceCtorEq]
 refine QIf.intro (fun c=>?_) (fun c=>?_)
 ·have hk':k<xs.length:=by omega
  have g1:xs[k]? =some xs[k]:=List.getElem?_eq_getElem hk'
  have h0:(0:Int)<=((k+1:Nat):Int):=by omega
  have hw:=bG (k:=k+1) (by show _<1000000000000;omega)
  rw[jR hk']at hq
  simp only[PP,P1,P2,P14,P15,N1,N2,N3,N4,N5,N6,N7,I1,I2,I3,I4,I5,I6,I7,reduceIte,reduceCtorEq,c,g1,h0,hw,kM]at hq ⊢
  exact bB (ih (k+1) _ ⟨by omega,hq⟩ (by omega)) (by simp only[PW])
 ·rw[List.drop_eq_nil_of_le (by omega)]at hq
  simp only[PP,P1,P2,P14,P15,N1,N2,N3,N4,N5,N6,N7,I1,I2,I3,I4,I5,I6,I7,reduceIte,reduceCtorEq,c,kM]at hq ⊢
  exact hq
end
abbrev gz:PV:= .agg [.nils,.nils,.nils]
theorem pX {ow pr:List Int} :∀{su:List (List Int)} {k:Nat},jT ow pr k su=0->∀(i:Nat) (hi:i<su.length),0<=pr.getD (k+i) 0/\pr.getD (k+i) 0<=16/\ow.getD (k+i) 0<=1/\0<su[i].length/\jF ow.length (-1) su[i]=true
 | [],k,h,i,hi=>by simp at hi
 | row::su,k,h,i,hi=>by
  unfold jT at h
  split at h
  ·simp at h
  ·split at h
   ·simp at h
   ·split at h
    ·simp at h
    ·split at h
     ·simp at h
     ·split at h
      ·simp at h
      ·rename_i h1 h2 h3 h4 h5
       cases i with
       | zero=>exact⟨by simpa using h2,by simpa using h3,by simpa using h1,by simp only[List.getElem_cons_zero];omega,by simpa using h5⟩
       | succ i=>
        have:=pX h i (by simpa using hi)
        simpa [Nat.add_assoc,Nat.add_comm 1 i] using this
structure Valid (ow pr:List Int) (su:List (List Int)):Prop where
 n0:0<ow.length
 n1:ow.length<=4096
 p:pr.length=ow.length
 s:su.length=ow.length
 row:∀(i:Nat) (hi:i<su.length),0<=pr.getD i 0/\pr.getD i 0<=16/\ow.getD i 0<=1/\0<su[i].length/\jF ow.length (-1) su[i]=true
theorem l8 {ow pr:List Int} {su:List (List Int)} (h:dU ow pr su=0):Valid ow pr su:=by
 obtain⟨h1,h2,h3,h4,h5⟩:=L0 h
 exact⟨h1,h2,h3,h4,fun i hi=>by simpa using pX h5 i hi⟩
theorem qC:∀(n:Nat) (l:List Nat),l.Nodup->(∀x∈l,x<n)->l.length<=n
 | 0,l,_,h=>by
  cases l with
  | nil=>simp
  | cons x l=>have:=h x (by simp);omega
 | n+1,l,hd,h=>by
  have:=qC n (l.filter fun x=>x !=n) (hd.filter _) (fun x hx=>by
   rw[List.mem_filter]at hx
   have:=h x hx.1
   have:x≠n:=by simpa using hx.2
   omega)
  have h2:l.length<=(l.filter fun x=>x !=n).length+1:=by
   clear this h
   induction l with
   | nil=>simp
   | cons x l ih=>
    rw[List.nodup_cons]at hd
    by_cases e:x=n
    ·subst e
     have:l.filter (fun y=>y !=x)=l:=by
      rw[List.filter_eq_self]
      intro y hy
      have:y≠x:=fun q=>hd.1 (q▸hy)
      simpa using this
     simp[this]
    ·have:=ih hd.2
     have hx:(x !=n)=true:=by simpa using e
     simp only[List.filter_cons,hx,if_true,List.length_cons]
     omega
  omega
theorem aC9 {k:IntKind} {x y:Int} (h:y≠0):dW .rem (.int k x) (.int k y)=some (.int k (x.tmod y)):=by
 simp[dW,dQ,gA,ofAV1,h,dE,d9]
abbrev D5 (l:List Nat):List Int:=l.map fun(v:Nat)=>(v:Int)
theorem mH {n:Int} :∀{l:List Int} {last:Int},jF n last l=true->l.Pairwise (· < ·)/\∀x∈l,last<x/\x<n
 | [],_,_=>⟨.nil,fun x hx=>by cases hx⟩
 | v::l,last,h=>by
  unfold jF at h
  split at h
  ·simp at h
  ·split at h
   ·simp at h
   ·obtain⟨h1,h2⟩:=mH h
    refine⟨.cons (fun x hx=>(h2 x hx).1) h1,fun x hx=>?_⟩
    rcases List.mem_cons.1 hx with rfl | hx
    ·omega
    ·have:=h2 x hx;omega
theorem UF {ow pr:List Int} {su:List (List Int)} (V:Valid ow pr su) {v:Nat} {u:Int} (hv:v<ow.length) (h:u∈su.getD v []):0<=u/\u<ow.length:=by
 have hvs:v<su.length:=by have:=V.s;omega
 obtain⟨_,_,_,_,hp⟩:=V.row v hvs
 rw[List.getD,List.getElem?_eq_getElem hvs]at h
 have:=(mH hp).2 u h
 omega
theorem C0 {tab:FuncId->Option AF} {g:FuncId} (hg:tab g=some (.prim j6)) {M:Mem} {K:PV->Mem->Prop} (hk:K (.bool true) M):SemC tab g [] M K:=by
 intro w h args' h0 s ha
 have:args'=[]:=List.length_eq_zero_iff.1 (by simpa using ha.len.symm)
 subst this
 unfold C
 refine⟨.bool true,h,?_,w,.bool true,M,PStp.refl (Nat.le_refl _) w h,s,.bool true,hk⟩
 rw[rR]
 simp only[fC,hg,j6]
section
variable {tab:FuncId->Option AF} (T:HasA tab)
include T
end
structure Eg where
 fr:Int
 to:Int
 ps:Int
 ng:Int
 deriving DecidableEq,Inhabited
abbrev egC (e:Eg):List PV:=[.int .i64 e.fr,.int .i64 e.to,.int .u8 e.ps,.int .u8 e.ng]
def egL (l:List Eg):List PV:=l.flatMap egC
abbrev slE (f o:Bool) (l:List Eg):PV:= .sl f o 4 l.length (egL l)
theorem kQ (l:List Eg):(egL l).length=l.length*4:=by
 unfold egL
 induction l with
 | nil=>rfl
 | cons x l ih=>rw[List.flatMap_cons,List.length_append,ih];simp;omega
theorem O1 (l:List Eg):(egL l).all PV.one=true:=by
 unfold egL
 induction l with
 | nil=>rfl
 | cons x l ih=>rw[List.flatMap_cons,List.all_append,ih];rfl
theorem fW (m:Nat) (l:List Eg):aU m (egL l)=true:=by
 unfold egL
 induction l with
 | nil=>exact iS _
 | cons x l ih=>rw[List.flatMap_cons,lW,ih];simp[hH,iS,AX]
theorem dN (m:Nat) (f o:Bool) (sz n:Nat) (l:List Eg):PV.under m (.sl f o sz n (egL l))=true:=by
 simp only[PV.under];exact fW m l
theorem SI {l:List Eg} {k:Nat} {x:Eg} (h:l[k]? =some x):∃a b,egL l=a++egC x++b/\a.length=k*4/\(∀y,egL (l.set k y)=a++egC y++b):=by
 obtain⟨hk,e⟩:=List.getElem?_eq_some_iff.1 h
 refine⟨egL (l.take k),egL (l.drop (k+1)),?_,?_,fun y=>?_⟩
 ·conv=>lhs;rw[<-List.take_append_drop k l,List.drop_eq_getElem_cons hk,e]
  simp[egL]
 ·rw[kQ];simp;omega
 ·rw[List.set_eq_take_append_cons_drop,if_pos hk]
  simp[egL]
theorem GM {l:List Eg} {k:Nat} {x:Eg} (h:l[k]? =some x):cW (egL l) (k*4) 4=egC x:=by
 obtain⟨a,b,h1,h2,_⟩:=SI h
 unfold cW
 rw[h1,<-h2,List.append_assoc,List.drop_left];rfl
theorem aCK {l:List Eg} {k:Nat} {x:Eg} (h:l[k]? =some x):k*4+4<=l.length*4:=by
 have:=aZ h;omega
def Eg.fit (e:Eg):Prop:=(-9223372036854775808<=e.fr/\e.fr<=9223372036854775807)/\(-9223372036854775808<=e.to/\e.to<=9223372036854775807)/\(0<=e.ps/\e.ps<=255)/\(0<=e.ng/\e.ng<=255)
structure NF where
 vs:Int
 n:Int
 st:List Int
 fi:List Int
 es:List Eg
abbrev nfC (f1 o1 f2 o2 f3 o3:Bool) (N:NF):List PV:=[p64 N.vs,p64 N.n,slI f1 o1 .i64 N.st,slI f2 o2 .i64 N.fi,slE f3 o3 N.es]
structure BnN (N:NF):Prop where
 s:N.st.length<big
 f:N.fi.length<big
 e:N.es.length<big
 b:∀x∈N.es,(0<=x.ps/\x.ps<=255)/\(0<=x.ng/\x.ng<=255)
def YP (x y:Int):Int:=((x.toNat&&& y.toNat:Nat):Int)
def bOr (x y:Int):Int:=((x.toNat||| y.toNat:Nat):Int)
def mR (v p n:Int):Int:=if v<0 then 7 else if 6<v then 7 else if 2^v.toNat<=p then 7 else if 2^v.toNat<=n then 7 else if YP p n=0 then 0 else 2
def nQ (v n:Int):List Eg->Int
 | []=>0
 | e::l=>if e.fr<0\/n<=e.fr\/e.to<0\/n<=e.to then 8 else if mR v e.ps e.ng=0 then nQ v n l else mR v e.ps e.ng
def gJ (N:NF):Int:=
 if N.vs<0\/6<N.vs then 7 else if N.n<0 then 1 else if 64<N.n\/512<(N.es.length:Int) then 4 else if jF N.n (-1) N.st=true/\jF N.n (-1) N.fi=true then nQ N.vs N.n N.es else 8
theorem DY {x:Int} (h:0<=x/\x<=255):(BitVec.ofInt 8 x).toNat=x.toNat:=by
 rw[BitVec.toNat_ofInt]
 omega
theorem TX {x:Nat} (h:x<256):IntKind.u8.wrap (x:Int)=x:=by
 simp only[IntKind.wrap,IntKind.signed,IntKind.bits]
 simp
 omega
theorem pA {x y:Int} (hx:0<=x/\x<=255) (hy:0<=y/\y<=255):dW .and (.int .u8 x) (.int .u8 y)=some (.int .u8 (YP x y)):=by
 have h1:=DY hx
 have h2:=DY hy
 have h3:x.toNat&&& y.toNat<256:=Nat.lt_of_le_of_lt Nat.and_le_left (by omega)
 have e:IntKind.u8.wrap ((BitVec.ofInt IntKind.u8.bits x&&& BitVec.ofInt IntKind.u8.bits y).toNat:Int)=YP x y:=by
  show IntKind.u8.wrap ((BitVec.ofInt 8 x&&& BitVec.ofInt 8 y).toNat:Int)=_
  rw[BitVec.toNat_and,h1,h2,TX h3];rfl
 simp only[dW,dQ,gA,dE,d9,e]
 rfl
theorem VS {a b:Nat} (ha:a<256) (hb:b<256):a||| b<256:=Nat.or_lt_two_pow (n:=8) ha hb
theorem VG {x y:Int} (hx:0<=x/\x<=255) (hy:0<=y/\y<=255):dW .or (.int .u8 x) (.int .u8 y)=some (.int .u8 (bOr x y)):=by
 have h1:=DY hx
 have h2:=DY hy
 have h3:x.toNat||| y.toNat<256:=VS (by omega) (by omega)
 have e:IntKind.u8.wrap ((BitVec.ofInt IntKind.u8.bits x||| BitVec.ofInt IntKind.u8.bits y).toNat:Int)=bOr x y:=by
  show IntKind.u8.wrap ((BitVec.ofInt 8 x||| BitVec.ofInt 8 y).toNat:Int)=_
  rw[BitVec.toNat_or,h1,h2,TX h3];rfl
 simp only[dW,dQ,gA,dE,d9,e]
 rfl
theorem aEv {v:Int} (h0:¬v<0) (h6:¬6<v):dW .shl (.int .i64 1) (.int .i64 v)=some (.int .i64 (2^v.toNat)):=by
 have:v=0\/v=1\/v=2\/v=3\/v=4\/v=5\/v=6:=by omega
 rcases this with rfl | rfl | rfl | rfl | rfl | rfl | rfl<;>rfl
theorem MA {v:Nat} {p n:Int} (hp:0<=p) (hn:0<=n):(2:Int)^v<=bOr p n↔(2^v<=p\/2^v<=n):=by
 have key:(2^v<=p.toNat||| n.toNat)↔(2^v<=p.toNat\/2^v<=n.toNat):=by
  constructor
  ·intro h
   refine Classical.byContradiction fun q=>?_
   rw[not_or,Nat.not_le,Nat.not_le]at q
   have:=Nat.or_lt_two_pow q.1 q.2
   omega
  ·rintro(h | h)
   ·exact Nat.le_trans h Nat.left_le_or
   ·exact Nat.le_trans h Nat.right_le_or
 have e:((2^v:Nat):Int)=2^v:=by simp
 unfold bOr
 rw[<-e]
 constructor
 ·intro h
  rcases key.1 (by omega) with q | q
  ·exact .inl (by omega)
  ·exact .inr (by omega)
 ·intro h
  have:=key.2 (by omega)
  omega
section
variable {tab:FuncId->Option AF} (T:HasA tab)
include T
theorem FW {M:Mem} {K:PV->Mem->Prop} {f1 o1 f2 o2 f3 o3 f o:Bool} {N:NF} {xs:List Int} (hm:xs.length<big) (hk:K (.bool (jF N.n (-1) xs)) M):
  SemC tab 138 [.agg (nfC f1 o1 f2 o2 f3 o3 N),slI f o .i64 xs] M K:=by
 refine a8 T.h138 (by simp only[PP,P1,P2,P14,P15,N1,N2,N3,N4,N5,N6,N7,I1,I2,I3,I4,I5,I6,I7,reduceIte,reduceCtorEq,dN]) ?_
 simp only[af138,PP,P1,P2,P14,P15,N1,N2,N3,N4,N5,N6,N7,I1,I2,I3,I4,I5,I6,I7,reduceIte,reduceCtorEq]
 refine iF (fun(k:Nat) (last:Int)=>k<=xs.length/\K (.bool (jF N.n last (xs.drop k))) M) (fun k last=>(.junk:: .junk:: .ptr 0 0 0:: .junk:: .junk::p64 last:: .junk:: .junk::slI f o .i64 xs::p64 xs.length::p64 k::zj 14)) (fun _ _=>[.cells 0 0 (nfC f1 o1 f2 o2 f3 o3 N)]) (fun k _=>xs.length-k) 0 (-1) ⟨by omega,hk⟩ (by simp only[PW]) rfl ?_
 intro k last ⟨hk,hq⟩ ih
 refine bZ (by kernel_rfl) ?_
 simp only[PP,P1,P2,P14,P15,N1,N2,N3,N4,N5,N6,N7,I1,I2,I3,I4,I5,I6,I7,reduceIte,reduceCtorEq]
 refine QIf.intro (fun c=>?_) (fun c=>?_)
 ·have hk':k<xs.length:=by omega
  rw[jR hk']at hq
  have hw:=bG (k:=k) (by omega)
  have hg:xs[k]? =some xs[k]:=List.getElem?_eq_getElem hk'
  have h0:(0:Int)<=k:=by omega
  simp only[PP,P1,P2,P14,P15,N1,N2,N3,N4,N5,N6,N7,I1,I2,I3,I4,I5,I6,I7,reduceIte,reduceCtorEq,jF,c,hg,hw,h0]at hq ⊢
  refine QIf.intro (fun h1=>?_) (fun h1=>?_)
  ·simp only[PP,P1,P2,P14,P15,N1,N2,N3,N4,N5,N6,N7,I1,I2,I3,I4,I5,I6,I7,reduceIte,reduceCtorEq,h1]at hq ⊢
   exact hq
  ·simp only[PP,P1,P2,P14,P15,N1,N2,N3,N4,N5,N6,N7,I1,I2,I3,I4,I5,I6,I7,reduceIte,reduceCtorEq,h1]at hq ⊢
   refine QIf.intro (fun h2=>?_) (fun h2=>?_)
   ·simp only[PP,P1,P2,P14,P15,N1,N2,N3,N4,N5,N6,N7,I1,I2,I3,I4,I5,I6,I7,reduceIte,reduceCtorEq,h2]at hq ⊢
    exact hq
   ·simp only[PP,P1,P2,P14,P15,N1,N2,N3,N4,N5,N6,N7,I1,I2,I3,I4,I5,I6,I7,reduceIte,reduceCtorEq,h2,hw]at hq ⊢
    exact bB (ih (k+1) _ ⟨by omega,hq⟩ (by omega)) (by simp only[PW])
 ·simp only[PP,P1,P2,P14,P15,N1,N2,N3,N4,N5,N6,N7,I1,I2,I3,I4,I5,I6,I7,reduceIte,reduceCtorEq,c]
  rw[List.drop_eq_nil_of_le (by omega)]at hq
  exact hq
theorem aDP {M:Mem} {K:PV->Mem->Prop} {v p n:Int} (hp:0<=p/\p<=255) (hn:0<=n/\n<=255) (hk:K (p64 (mR v p n)) M):
  SemC tab 139 [.agg [p8 p,p8 n],p64 v] M K:=by
 refine a8 T.h139 (by simp only[PP,P1,P2,P14,P15,N1,N2,N3,N4,N5,N6,N7,I1,I2,I3,I4,I5,I6,I7,reduceIte,reduceCtorEq]) ?_
 simp only[af139,PP,P1,P2,P14,P15,N1,N2,N3,N4,N5,N6,N7,I1,I2,I3,I4,I5,I6,I7,reduceIte,reduceCtorEq]
 refine QIf.intro (fun c1=>?_) (fun c1=>?_)
 ·simp only[PP,P1,P2,P14,P15,N1,N2,N3,N4,N5,N6,N7,I1,I2,I3,I4,I5,I6,I7,reduceIte,reduceCtorEq,c1,mR]at hk ⊢
  exact hk
 ·simp only[PP,P1,P2,P14,P15,N1,N2,N3,N4,N5,N6,N7,I1,I2,I3,I4,I5,I6,I7,reduceIte,reduceCtorEq,c1]
  refine QIf.intro (fun c2=>?_) (fun c2=>?_)
  ·simp only[PP,P1,P2,P14,P15,N1,N2,N3,N4,N5,N6,N7,I1,I2,I3,I4,I5,I6,I7,reduceIte,reduceCtorEq,c1,c2,mR]at hk ⊢
   exact hk
  ·have hw:IntKind.i64.wrap (bOr p n)=bOr p n:=wrap64 (by unfold bOr;omega) (by have:=VS (a:=p.toNat) (b:=n.toNat) (by omega) (by omega);unfold bOr;omega)
   simp only[PP,P1,P2,P14,P15,N1,N2,N3,N4,N5,N6,N7,I1,I2,I3,I4,I5,I6,I7,reduceIte,reduceCtorEq,c2,VG hp hn,pA hp hn,aEv c1 c2,hw]
   refine QIf.intro (fun c3=>?_) (fun c3=>?_)
   ·have e:mR v p n=7:=by
     unfold mR
     rw[if_neg c1,if_neg c2]
     rcases(MA hp.1 hn.1).1 c3 with q | q
     ·rw[if_pos q]
     ·rw[if_pos q];split<;>rfl
    rw[e]at hk
    simp only[PP,P1,P2,P14,P15,N1,N2,N3,N4,N5,N6,N7,I1,I2,I3,I4,I5,I6,I7,reduceIte,reduceCtorEq,c3]
    exact hk
   ·have c4:¬(2:Int)^v.toNat<=p:=fun q=>c3 ((MA hp.1 hn.1).2 (.inl q))
    have c5:¬(2:Int)^v.toNat<=n:=fun q=>c3 ((MA hp.1 hn.1).2 (.inr q))
    simp only[PP,P1,P2,P14,P15,N1,N2,N3,N4,N5,N6,N7,I1,I2,I3,I4,I5,I6,I7,reduceIte,reduceCtorEq,c3,pA hp hn]
    unfold mR at hk
    rw[if_neg c1,if_neg c2,if_neg c4,if_neg c5]at hk
    refine QIf.intro (fun c6=>?_) (fun c6=>?_)
    ·rw[if_pos c6]at hk
     simp only[PP,P1,P2,P14,P15,N1,N2,N3,N4,N5,N6,N7,I1,I2,I3,I4,I5,I6,I7,reduceIte,reduceCtorEq,c6]
     exact hk
    ·rw[if_neg c6]at hk
     simp only[PP,P1,P2,P14,P15,N1,N2,N3,N4,N5,N6,N7,I1,I2,I3,I4,I5,I6,I7,reduceIte,reduceCtorEq,c6]
     exact hk
end
section
variable (M l:Mem) (i:Nat) (x:PObj)
theorem gk:(M++l)[M.length+i]? =l[i]? :=by rw[List.getElem?_append_right (by omega)];congr 1;omega
theorem gk0:(M++l)[M.length]? =l[0]? :=by rw[List.getElem?_append_right (Nat.le_refl _),Nat.sub_self]
theorem sk:(M++l).set (M.length+i) x=M++l.set i x:=by rw[List.set_append_right _ _ (by omega)];congr 2;omega
theorem sk0:(M++l).set M.length x=M++l.set 0 x:=by rw[List.set_append_right _ _ (Nat.le_refl _),Nat.sub_self]
end
theorem GR (k:IntKind) (a b:Int):xJ (.int k a) [.int k b]=some (.int k (min a b)):=by
 simp[xJ,dQ,hI,lT,zC,ofAV1]
 by_cases h:b<a
 ·rw[if_pos h];omega
 ·rw[if_neg h];omega
theorem yW {v n:Int} {e:Eg} {l:List Eg} (h:e.fr<0\/n<=e.fr\/e.to<0\/n<=e.to):nQ v n (e::l)=8:=by unfold nQ;rw[if_pos h]
theorem CL {v n:Int} {e:Eg} {l:List Eg} (h:¬(e.fr<0\/n<=e.fr\/e.to<0\/n<=e.to)):nQ v n (e::l)=if mR v e.ps e.ng=0 then nQ v n l else mR v e.ps e.ng:=by
 show(if _ then _ else _)=_;rw[if_neg h]
section
variable {tab:FuncId->Option AF} (T:HasA tab)
include T
end
abbrev Wd:=List (BitVec 64)
def wAt (a:Wd) (i:Nat):BitVec 64:=a.getD i 0#64
theorem kY {a:Wd} {i:Nat} (h:a.length<=i):wAt a i=0#64:=by
 unfold wAt;rw[List.getD,List.getElem?_eq_none h];rfl
theorem qU {a:Wd} {i:Nat} {x:BitVec 64} (h:a[i]? =some x):wAt a i=x:=by
 unfold wAt;rw[List.getD,h];rfl
def iE (a:Wd):Nat->Nat
 | 0=>0
 | n+1=>if wAt a n=0#64 then iE a n else n+1
theorem qY (a:Wd):∀n,iE a n<=n
 | 0=>Nat.le_refl _
 | n+1=>by
  unfold iE
  split
  ·exact Nat.le_succ_of_le (qY a n)
  ·exact Nat.le_refl _
theorem wS (a:Wd):∀n i,iE a n<=i->i<n->wAt a i=0#64
 | 0,i,_,h=>by omega
 | n+1,i,h1,h2=>by
  unfold iE at h1
  split at h1
  ·rename_i h
   by_cases e:i=n
   ·subst e;exact h
   ·exact wS a n i h1 (by omega)
  ·omega
theorem sQ (a:Wd):∀n,iE a n=0\/wAt a (iE a n-1)≠0#64
 | 0=> .inl rfl
 | n+1=>by
  unfold iE
  split
  ·exact sQ a n
  ·rename_i h;exact .inr h
def sR (a:Wd):Wd:=a.take (iE a a.length)
theorem UA (a:Wd):(sR a).length<=a.length:=by unfold sR;rw[List.length_take];omega
theorem C5 (a:Wd) (i:Nat):wAt (sR a) i=wAt a i:=by
 have hle:=qY a a.length
 rcases Nat.lt_or_ge i (iE a a.length) with h | h
 ·unfold wAt sR
  rw[List.getD,List.getD,List.getElem?_take,if_pos h]
 ·rw[kY (by unfold sR;rw[List.length_take];omega)]
  rcases Nat.lt_or_ge i a.length with q | q
  ·exact(wS a _ i h q).symm
  ·exact(kY q).symm
def l7 (op:BitVec 64->BitVec 64->BitVec 64) (a b:Wd) (n:Nat):Wd:=(List.range n).map fun i=>op (wAt a i) (wAt b i)
def cmb (op:BitVec 64->BitVec 64->BitVec 64) (a b:Wd):Wd:=sR (l7 op a b (min (max a.length b.length) 64))
theorem mS (op:BitVec 64->BitVec 64->BitVec 64) (a b:Wd) (n:Nat):(l7 op a b n).length=n:=by simp[l7]
theorem SN (op:BitVec 64->BitVec 64->BitVec 64) (a b:Wd) (n:Nat):l7 op a b (n+1)=l7 op a b n++[op (wAt a n) (wAt b n)]:=by simp[l7,List.range_succ]
theorem aBI (op:BitVec 64->BitVec 64->BitVec 64) (a b:Wd):(cmb op a b).length<=64:=by
 have:=UA (l7 op a b (min (max a.length b.length) 64))
 rw[mS]at this
 unfold cmb
 omega
theorem X8 {op:BitVec 64->BitVec 64->BitVec 64} (h0:op 0#64 0#64=0#64) {a b:Wd} (ha:a.length<=64) (hb:b.length<=64) (i:Nat):wAt (cmb op a b) i=op (wAt a i) (wAt b i):=by
 unfold cmb
 rw[C5]
 rcases Nat.lt_or_ge i (min (max a.length b.length) 64) with h | h
 ·refine qU ?_
  simp only[l7,List.getElem?_map,List.getElem?_range h,Option.map_some]
 ·rw[kY (by rw[mS];exact h),kY (a:=a) (by omega),kY (a:=b) (by omega),h0]
def bit (a:Wd) (k:Nat):Bool:=(wAt a (k / 64)).getLsbD (k % 64)
theorem L6 {a b:Wd} (ha:a.length<=64) (hb:b.length<=64) (k:Nat):bit (cmb (· ||| ·) a b) k=(bit a k||bit b k):=by
 unfold bit;rw[X8 (by simp) ha hb];simp
theorem vD {a b:Wd} (ha:a.length<=64) (hb:b.length<=64) (k:Nat):bit (cmb (· &&& ·) a b) k=(bit a k&&bit b k):=by
 unfold bit;rw[X8 (by simp) ha hb];simp
theorem O7 {op:BitVec 64->BitVec 64->BitVec 64} (a b:Wd):(cmb op a b).length=0↔∀k,bit (cmb op a b) k=false:=by
 constructor
 ·intro h k
  unfold bit
  rw[kY (by omega)];simp
 ·intro h
  have hl:(cmb op a b).length=iE (l7 op a b (min (max a.length b.length) 64)) (min (max a.length b.length) 64):=by
   have:=qY (l7 op a b (min (max a.length b.length) 64)) (min (max a.length b.length) 64)
   unfold cmb sR
   rw[List.length_take,mS]
   omega
  rcases sQ (l7 op a b (min (max a.length b.length) 64)) (min (max a.length b.length) 64) with e | e
  ·rw[hl,e]
  ·exfalso
   rw[<-C5]at e
   apply e
   apply BitVec.eq_of_getLsbD_eq
   intro j hj
   have:=h (64*(iE (l7 op a b (min (max a.length b.length) 64)) (min (max a.length b.length) 64)-1)+j)
   unfold bit at this
   rw[show(64*(iE (l7 op a b (min (max a.length b.length) 64)) (min (max a.length b.length) 64)-1)+j) / 64=iE (l7 op a b (min (max a.length b.length) 64)) (min (max a.length b.length) 64)-1 by omega,show(64*(iE (l7 op a b (min (max a.length b.length) 64)) (min (max a.length b.length) 64)-1)+j) % 64=j by omega]at this
   unfold cmb at this
   rw[this];simp
def nY (k:Nat):Wd:=List.replicate (k / 64) 0#64++[BitVec.twoPow 64 (k % 64)]
theorem mC (k:Nat):(nY k).length=k / 64+1:=by simp[nY]
theorem y9 (k j:Nat):bit (nY k) j=decide (j=k):=by
 have hj:j % 64<64:=Nat.mod_lt _ (by omega)
 unfold bit
 rcases Nat.lt_trichotomy (j / 64) (k / 64) with h | h | h
 ·rw[qU (x:=0#64) (by unfold nY;rw[List.getElem?_append_left (by simpa using h)];simp[h])]
  have:j≠k:=by rintro rfl;omega
  simp[this]
 ·rw[qU (x:=BitVec.twoPow 64 (k % 64)) (by unfold nY;rw[List.getElem?_append_right (by simp;omega)];simp[h])]
  rw[BitVec.getLsbD_twoPow]
  by_cases e:j=k
  ·subst e;simp[hj]
  ·have:k % 64≠j % 64:=by omega
   simp[e,this]
 ·rw[kY (by rw[mC];omega)]
  have:j≠k:=by rintro rfl;omega
  simp[this]
def qT (a:Wd) (k:Nat):Wd:=cmb (· ||| ·) a (nY k)
def ofL (l:List Nat):Wd:=l.foldl qT []
theorem DX:∀(l:List Nat) (a:Wd),a.length<=64->(∀x∈l,x<4096)->(l.foldl qT a).length<=64/\∀k,bit (l.foldl qT a) k=(bit a k||decide (k∈l))
 | [],a,ha,_=>⟨ha,by simp⟩
 | x::l,a,ha,h=>by
  have hx:=h x (by simp)
  have hs:(nY x).length<=64:=by rw[mC];omega
  obtain⟨h1,h2⟩:=DX l (qT a x) (aBI _ _ _) (fun y hy=>h y (by simp[hy]))
  refine⟨h1,fun k=>?_⟩
  rw[List.foldl_cons,h2,qT,L6 ha hs,y9]
  simp[Bool.or_assoc]
theorem aAN {l:List Nat} (h:∀x∈l,x<4096):(ofL l).length<=64:=(DX l [] (by simp) h).1
theorem aBN {l:List Nat} (h:∀x∈l,x<4096) (k:Nat):bit (ofL l) k=decide (k∈l):=by
 have:=(DX l [] (by simp) h).2 k
 unfold ofL
 rw[this]
 simp[bit,wAt]
abbrev wI (a:Wd):List Int:=a.map fun b=>((b.toNat:Nat):Int)
theorem oZ {n:Nat} (h:n<18446744073709551616):IntKind.u64.wrap (n:Int)=(n:Int):=by
 simp only[IntKind.wrap,IntKind.signed,IntKind.bits]
 simp
 omega
theorem L3 (b:BitVec 64):BitVec.ofInt 64 ((b.toNat:Nat):Int)=b:=by
 rw[BitVec.ofInt_natCast];simp
theorem qB (a b:BitVec 64):dW .and (.int .u64 ((a.toNat:Nat):Int)) (.int .u64 ((b.toNat:Nat):Int))=some (.int .u64 (((a&&& b).toNat:Nat):Int)):=by
 have h:=oZ (a&&& b).isLt
 simp only[dW,dQ,gA,dE,d9,IntKind.bits,L3,Bool.false_eq_true,if_false,if_true]
 show some (PV.int .u64 (IntKind.u64.wrap (((a&&& b).toNat:Nat):Int)))=_
 rw[h]
theorem B2 (a b:BitVec 64):dW .or (.int .u64 ((a.toNat:Nat):Int)) (.int .u64 ((b.toNat:Nat):Int))=some (.int .u64 (((a||| b).toNat:Nat):Int)):=by
 have h:=oZ (a||| b).isLt
 simp only[dW,dQ,gA,dE,d9,IntKind.bits,L3,Bool.false_eq_true,if_false,if_true]
 show some (PV.int .u64 (IntKind.u64.wrap (((a||| b).toNat:Nat):Int)))=_
 rw[h]
theorem xL {k:Nat} (h:k<64):dW .shl (.int .u64 1) (.int .i64 (k:Int))=some (.int .u64 (((BitVec.twoPow 64 k).toNat:Nat):Int)):=by
 have h2:(BitVec.twoPow 64 k).toNat=2^k:=by
  rw[BitVec.toNat_twoPow,Nat.mod_eq_of_lt (Nat.pow_lt_pow_right (by omega) h)]
 have h3:=oZ (n:=2^k) (Nat.pow_lt_pow_right (n:=64) (by omega) h)
 have h4:min ((k:Int).toNat) 64=k:=by omega
 simp only[dW,dQ,gA,dE,sE,IntKind.bits,h4,h2]
 rw[if_pos trivial,if_neg (by omega),show(1:Int)*2^k=((2^k:Nat):Int) by simp,h3]
 rfl
section
variable {tab:FuncId->Option AF} (T:HasA tab)
include T
theorem aDT {M:Mem} {K:PV->Mem->Prop} {f1 o1 f2 o2 f3 o3:Bool} {N:NF} (hk:K (.bool (decide (N.vs<0\/6<N.vs))) M):SemC tab 134 [.cp (nfC f1 o1 f2 o2 f3 o3 N) 0] M K:=by
 refine a8 T.h134 (by simp only[PP,P1,P2,P14,P15,N1,N2,N3,N4,N5,N6,N7,I1,I2,I3,I4,I5,I6,I7,reduceIte,reduceCtorEq,PV.under,fW]) ?_
 simp only[af134,PP,P1,P2,P14,P15,N1,N2,N3,N4,N5,N6,N7,I1,I2,I3,I4,I5,I6,I7,reduceIte,reduceCtorEq]
 refine QIf.intro (fun c1=>?_) (fun c1=>?_)
 ·simp only[PP,P1,P2,P14,P15,N1,N2,N3,N4,N5,N6,N7,I1,I2,I3,I4,I5,I6,I7,reduceIte,reduceCtorEq,c1]at hk ⊢
  exact hk
 ·simp only[PP,P1,P2,P14,P15,N1,N2,N3,N4,N5,N6,N7,I1,I2,I3,I4,I5,I6,I7,reduceIte,reduceCtorEq,c1]at hk ⊢
  exact hk
theorem aDS {M:Mem} {K:PV->Mem->Prop} {f1 o1 f2 o2 f3 o3:Bool} {N:NF} (hk:K (.bool (decide (N.n<0))) M):SemC tab 135 [.cp (nfC f1 o1 f2 o2 f3 o3 N) 0] M K:=by
 refine a8 T.h135 (by simp only[PP,P1,P2,P14,P15,N1,N2,N3,N4,N5,N6,N7,I1,I2,I3,I4,I5,I6,I7,reduceIte,reduceCtorEq,PV.under,fW]) ?_
 simp only[af135,PP,P1,P2,P14,P15,N1,N2,N3,N4,N5,N6,N7,I1,I2,I3,I4,I5,I6,I7,reduceIte,reduceCtorEq]
 exact hk
theorem aDR {M:Mem} {K:PV->Mem->Prop} {f1 o1 f2 o2 f3 o3:Bool} {N:NF} (hk:K (.bool (decide (64<N.n\/512<(N.es.length:Int)))) M):SemC tab 136 [.cp (nfC f1 o1 f2 o2 f3 o3 N) 0] M K:=by
 refine a8 T.h136 (by simp only[PP,P1,P2,P14,P15,N1,N2,N3,N4,N5,N6,N7,I1,I2,I3,I4,I5,I6,I7,reduceIte,reduceCtorEq,PV.under,fW]) ?_
 simp only[af136,PP,P1,P2,P14,P15,N1,N2,N3,N4,N5,N6,N7,I1,I2,I3,I4,I5,I6,I7,reduceIte,reduceCtorEq]
 refine QIf.intro (fun c1=>?_) (fun c1=>?_)
 ·simp only[PP,P1,P2,P14,P15,N1,N2,N3,N4,N5,N6,N7,I1,I2,I3,I4,I5,I6,I7,reduceIte,reduceCtorEq,c1]at hk ⊢
  exact hk
 ·simp only[PP,P1,P2,P14,P15,N1,N2,N3,N4,N5,N6,N7,I1,I2,I3,I4,I5,I6,I7,reduceIte,reduceCtorEq,c1]at hk ⊢
  exact hk
theorem aDQ {M:Mem} {K:PV->Mem->Prop} {f1 o1 f2 o2 f3 o3:Bool} {N:NF} (B:BnN N) (hk:K (.bool (decide (¬(jF N.n (-1) N.st=true/\jF N.n (-1) N.fi=true)))) M):SemC tab 137 [.cp (nfC f1 o1 f2 o2 f3 o3 N) 0] M K:=by
 refine a8 T.h137 (by simp only[PP,P1,P2,P14,P15,N1,N2,N3,N4,N5,N6,N7,I1,I2,I3,I4,I5,I6,I7,reduceIte,reduceCtorEq,PV.under,fW]) ?_
 simp only[af137,PP,P1,P2,P14,P15,N1,N2,N3,N4,N5,N6,N7,I1,I2,I3,I4,I5,I6,I7,reduceIte,reduceCtorEq]
 refine FW T B.s ?_
 cases q1:jF N.n (-1) N.st with
 | false=>
  rw[q1]at hk
  simp only[PP,P1,P2,P14,P15,N1,N2,N3,N4,N5,N6,N7,I1,I2,I3,I4,I5,I6,I7,reduceIte,reduceCtorEq]at hk ⊢
  exact hk
 | true=>
  rw[q1]at hk
  simp only[PP,P1,P2,P14,P15,N1,N2,N3,N4,N5,N6,N7,I1,I2,I3,I4,I5,I6,I7,reduceIte,reduceCtorEq]
  refine FW T B.f ?_
  cases q2:jF N.n (-1) N.fi with
  | false=>
   rw[q2]at hk
   simp only[PP,P1,P2,P14,P15,N1,N2,N3,N4,N5,N6,N7,I1,I2,I3,I4,I5,I6,I7,reduceIte,reduceCtorEq]at hk ⊢
   exact hk
  | true=>
   rw[q2]at hk
   simp only[PP,P1,P2,P14,P15,N1,N2,N3,N4,N5,N6,N7,I1,I2,I3,I4,I5,I6,I7,reduceIte,reduceCtorEq]at hk ⊢
   exact hk
theorem BK {M:Mem} {K:PV->Mem->Prop} {f1 o1 f2 o2 f3 o3:Bool} {N:NF} (B:BnN N) (hk:K (p64 (gJ N)) M):
  SemC tab 79 [.agg (nfC f1 o1 f2 o2 f3 o3 N)] M K:=by
 refine fD T.h79 (by simp only[PP,P1,P2,P14,P15,N1,N2,N3,N4,N5,N6,N7,I1,I2,I3,I4,I5,I6,I7,reduceIte,reduceCtorEq,dN]) ?_
 simp only[af79]
 refine bL (bD ?_)
 simp only[PP,P1,P2,P14,P15,N1,N2,N3,N4,N5,N6,N7,I1,I2,I3,I4,I5,I6,I7,reduceIte,reduceCtorEq]
 refine d8 (GStep.freezeP (b:=(.junk:: .cp (nfC f1 o1 f2 o2 f3 o3 N) 0::p64 0::zj 60)) 0 (Nat.zero_le _) rfl (by simp only[nZ,n7,List.cons_append,List.nil_append,fP,eU,eT,fM]) rfl) ?_
 refine bL (bD ?_)
 simp only[PP,P1,P2,P14,P15,N1,N2,N3,N4,N5,N6,N7,I1,I2,I3,I4,I5,I6,I7,reduceIte,reduceCtorEq]
 refine iF (fun(k:Nat) (G:Mem)=>k<=4/\(0<k->¬(N.vs<0\/6<N.vs))/\(1<k->¬(N.n<0))/\(2<k->¬(64<N.n\/512<(N.es.length:Int)))/\(3<k->¬(¬(jF N.n (-1) N.st=true/\jF N.n (-1) N.fi=true))))
  (fun k G=>(.junk:: .cp (nfC f1 o1 f2 o2 f3 o3 N) 0::zj 14++ .sl true true 2 4 [.func (.func 134) [] [.cp (nfC f1 o1 f2 o2 f3 o3 N) 0],p64 7,.func (.func 135) [] [.cp (nfC f1 o1 f2 o2 f3 o3 N) 0],p64 1,.func (.func 136) [] [.cp (nfC f1 o1 f2 o2 f3 o3 N) 0],p64 4,.func (.func 137) [] [.cp (nfC f1 o1 f2 o2 f3 o3 N) 0],p64 8]::p64 4::p64 k::zj 44)) (fun _ G=>G) (fun k _=>4-k) 0 [.gone] ⟨by omega,by omega,by omega,by omega,by omega⟩ (by simp only[PW]) rfl ?_
 intro k G ⟨hle,i1,i2,i3,i4⟩ ih
 have w1:IntKind.i64.wrap 1=1:=rfl
 have w2:IntKind.i64.wrap 2=2:=rfl
 have w3:IntKind.i64.wrap 3=3:=rfl
 have w4:IntKind.i64.wrap 4=4:=rfl
 unfold gJ at hk
 have hbad0:(N.vs<0\/6<N.vs)->K (p64 7) M:=fun h=>by rw[if_pos h]at hk;exact hk
 have hbad1:0<k->(N.n<0)->K (p64 1) M:=fun h0 h=>by rw[if_neg (i1 h0),if_pos h]at hk;exact hk
 have hbad2:1<k->(64<N.n\/512<(N.es.length:Int))->K (p64 4) M:=fun h0 h=>by rw[if_neg (i1 (by omega)),if_neg (i2 h0),if_pos h]at hk;exact hk
 have hbad3:2<k->(¬(jF N.n (-1) N.st=true/\jF N.n (-1) N.fi=true))->K (p64 8) M:=fun h0 h=>by rw[if_neg (i1 (by omega)),if_neg (i2 (by omega)),if_neg (i3 h0),if_neg h]at hk;exact hk
 have hgood:3<k->K (p64 (nQ N.vs N.n N.es)) M:=fun h=>by rw[if_neg (i1 (by omega)),if_neg (i2 (by omega)),if_neg (i3 (by omega)),if_pos (Classical.not_not.1 (i4 h))]at hk;exact hk
 have hk5:k=0\/k=1\/k=2\/k=3\/k=4:=by omega
 rcases hk5 with rfl | rfl | rfl | rfl | rfl
 ·refine bZ (by kernel_rfl) ?_
  simp only[PP,P1,P2,P14,P15,N1,N2,N3,N4,N5,N6,N7,I1,I2,I3,I4,I5,I6,I7,reduceIte,reduceCtorEq,List.append_assoc,gk0,sk0]
  refine aDT T ?_
  by_cases q:(N.vs<0\/6<N.vs)
  ·simp only[PP,P1,P2,P14,P15,N1,N2,N3,N4,N5,N6,N7,I1,I2,I3,I4,I5,I6,I7,reduceIte,reduceCtorEq,q,List.append_assoc,gk,gk0,sk,sk0,decide_true]
   exact hbad0 q
  ·simp only[PP,P1,P2,P14,P15,N1,N2,N3,N4,N5,N6,N7,I1,I2,I3,I4,I5,I6,I7,reduceIte,reduceCtorEq,q,List.append_assoc,gk,gk0,sk,sk0,decide_false,w1,w2,w3,w4]
   refine dR (ih 1 (G++[.cells 0 1 [.func (.func 134) [] [.cp (nfC f1 o1 f2 o2 f3 o3 N) 0],p64 7]]) ⟨by omega,fun _=>q,fun h=>absurd h (by omega),fun h=>absurd h (by omega),fun h=>absurd h (by omega)⟩ (by omega)) (by simp only[PW]) rfl
 ·refine bZ (by kernel_rfl) ?_
  simp only[PP,P1,P2,P14,P15,N1,N2,N3,N4,N5,N6,N7,I1,I2,I3,I4,I5,I6,I7,reduceIte,reduceCtorEq,List.append_assoc,gk0,sk0]
  refine aDS T ?_
  by_cases q:(N.n<0)
  ·simp only[PP,P1,P2,P14,P15,N1,N2,N3,N4,N5,N6,N7,I1,I2,I3,I4,I5,I6,I7,reduceIte,reduceCtorEq,q,List.append_assoc,gk,gk0,sk,sk0,decide_true]
   exact hbad1 (by omega) q
  ·simp only[PP,P1,P2,P14,P15,N1,N2,N3,N4,N5,N6,N7,I1,I2,I3,I4,I5,I6,I7,reduceIte,reduceCtorEq,q,List.append_assoc,gk,gk0,sk,sk0,decide_false,w1,w2,w3,w4]
   refine dR (ih 2 (G++[.cells 0 1 [.func (.func 135) [] [.cp (nfC f1 o1 f2 o2 f3 o3 N) 0],p64 1]]) ⟨by omega,fun _=>i1 (by omega),fun _=>q,fun h=>absurd h (by omega),fun h=>absurd h (by omega)⟩ (by omega)) (by simp only[PW]) rfl
 ·refine bZ (by kernel_rfl) ?_
  simp only[PP,P1,P2,P14,P15,N1,N2,N3,N4,N5,N6,N7,I1,I2,I3,I4,I5,I6,I7,reduceIte,reduceCtorEq,List.append_assoc,gk0,sk0]
  refine aDR T ?_
  by_cases q:(64<N.n\/512<(N.es.length:Int))
  ·simp only[PP,P1,P2,P14,P15,N1,N2,N3,N4,N5,N6,N7,I1,I2,I3,I4,I5,I6,I7,reduceIte,reduceCtorEq,q,List.append_assoc,gk,gk0,sk,sk0,decide_true]
   exact hbad2 (by omega) q
  ·simp only[PP,P1,P2,P14,P15,N1,N2,N3,N4,N5,N6,N7,I1,I2,I3,I4,I5,I6,I7,reduceIte,reduceCtorEq,q,List.append_assoc,gk,gk0,sk,sk0,decide_false,w1,w2,w3,w4]
   refine dR (ih 3 (G++[.cells 0 1 [.func (.func 136) [] [.cp (nfC f1 o1 f2 o2 f3 o3 N) 0],p64 4]]) ⟨by omega,fun _=>i1 (by omega),fun _=>i2 (by omega),fun _=>q,fun h=>absurd h (by omega)⟩ (by omega)) (by simp only[PW]) rfl
 ·refine bZ (by kernel_rfl) ?_
  simp only[PP,P1,P2,P14,P15,N1,N2,N3,N4,N5,N6,N7,I1,I2,I3,I4,I5,I6,I7,reduceIte,reduceCtorEq,List.append_assoc,gk0,sk0]
  refine aDQ T B ?_
  by_cases q:(¬(jF N.n (-1) N.st=true/\jF N.n (-1) N.fi=true))
  ·simp only[PP,P1,P2,P14,P15,N1,N2,N3,N4,N5,N6,N7,I1,I2,I3,I4,I5,I6,I7,reduceIte,reduceCtorEq,q,List.append_assoc,gk,gk0,sk,sk0,decide_true]
   exact hbad3 (by omega) q
  ·simp only[PP,P1,P2,P14,P15,N1,N2,N3,N4,N5,N6,N7,I1,I2,I3,I4,I5,I6,I7,reduceIte,reduceCtorEq,q,List.append_assoc,gk,gk0,sk,sk0,decide_false,w1,w2,w3,w4]
   refine dR (ih 4 (G++[.cells 0 1 [.func (.func 137) [] [.cp (nfC f1 o1 f2 o2 f3 o3 N) 0],p64 8]]) ⟨by omega,fun _=>i1 (by omega),fun _=>i2 (by omega),fun _=>i3 (by omega),fun _=>q⟩ (by omega)) (by simp only[PW]) rfl
 ·have hg:=hgood (by omega)
  refine bZ (by kernel_rfl) ?_
  simp only[PP,P1,P2,P14,P15,N1,N2,N3,N4,N5,N6,N7,I1,I2,I3,I4,I5,I6,I7,reduceIte,reduceCtorEq]
  refine bD ?_
  simp only[PP,P1,P2,P14,P15,N1,N2,N3,N4,N5,N6,N7,I1,I2,I3,I4,I5,I6,I7,reduceIte,reduceCtorEq]
  refine iF (fun(k:Nat) (G:Mem)=>k<=N.es.length/\K (p64 (nQ N.vs N.n (N.es.drop k))) M) (fun k G=>(.junk:: .cp (nfC f1 o1 f2 o2 f3 o3 N) 0::zj 27++slE f3 o3 N.es::p64 N.es.length::p64 k::zj 31)) (fun _ G=>G) (fun k _=>N.es.length-k) 0 G ⟨by omega,hg⟩ (by simp only[PW]) rfl ?_
  intro k G ⟨hle,hq⟩ ih
  refine bZ (by kernel_rfl) ?_
  simp only[PP,P1,P2,P14,P15,N1,N2,N3,N4,N5,N6,N7,I1,I2,I3,I4,I5,I6,I7,reduceIte,reduceCtorEq]
  refine QIf.intro (fun c=>?_) (fun c=>?_)
  ·have hk':k<N.es.length:=by omega
   obtain⟨e,ge⟩:=bY hk'
   rw[CM ge]at hq
   have hw:=bG (k:=k) (by have:=B.e;omega)
   have h0:(0:Int)<=k:=by omega
   have h4:=GM ge
   have hl4:k*4+4<=(egL N.es).length:=by rw[kQ];exact aCK ge
   obtain⟨b1,b2⟩:=B.b e (List.mem_of_getElem? ge)
   have bad:(e.fr<0\/N.n<=e.fr\/e.to<0\/N.n<=e.to)->K (p64 8) M:=fun h=>by rw[yW h]at hq;exact hq
   simp only[PP,P1,P2,P14,P15,N1,N2,N3,N4,N5,N6,N7,I1,I2,I3,I4,I5,I6,I7,reduceIte,reduceCtorEq,c,h0,h4,hl4,List.append_assoc,gk,gk0,sk,sk0,GR]
   refine QIf.intro (fun d1=>?_) (fun d1=>?_)
   ·simp only[PP,P1,P2,P14,P15,N1,N2,N3,N4,N5,N6,N7,I1,I2,I3,I4,I5,I6,I7,reduceIte,reduceCtorEq,d1]
    exact bad (by omega)
   simp only[PP,P1,P2,P14,P15,N1,N2,N3,N4,N5,N6,N7,I1,I2,I3,I4,I5,I6,I7,reduceIte,reduceCtorEq,d1,List.append_assoc,gk,gk0,sk,sk0]
   refine QIf.intro (fun d2=>?_) (fun d2=>?_)
   ·simp only[PP,P1,P2,P14,P15,N1,N2,N3,N4,N5,N6,N7,I1,I2,I3,I4,I5,I6,I7,reduceIte,reduceCtorEq,d2]
    exact bad (by omega)
   rw[CL (by omega)]at hq
   simp only[PP,P1,P2,P14,P15,N1,N2,N3,N4,N5,N6,N7,I1,I2,I3,I4,I5,I6,I7,reduceIte,reduceCtorEq,d2,List.append_assoc,gk,gk0,sk,sk0]
   refine aDP T b1 b2 ?_
   simp only[PP,P1,P2,P14,P15,N1,N2,N3,N4,N5,N6,N7,I1,I2,I3,I4,I5,I6,I7,reduceIte,reduceCtorEq]
   refine QIf.intro (fun d5=>?_) (fun d5=>?_)
   ·rw[if_pos d5]at hq
    simp only[PP,P1,P2,P14,P15,N1,N2,N3,N4,N5,N6,N7,I1,I2,I3,I4,I5,I6,I7,reduceIte,reduceCtorEq,d5,hw]
    exact bB (ih (k+1) _ ⟨by omega,hq⟩ (by omega)) (by simp only[PW])
   ·rw[if_neg d5]at hq
    simp only[PP,P1,P2,P14,P15,N1,N2,N3,N4,N5,N6,N7,I1,I2,I3,I4,I5,I6,I7,reduceIte,reduceCtorEq,d5]
    exact hq
  ·simp only[PP,P1,P2,P14,P15,N1,N2,N3,N4,N5,N6,N7,I1,I2,I3,I4,I5,I6,I7,reduceIte,reduceCtorEq,c]
   rw[List.drop_eq_nil_of_le (by omega)]at hq
   exact hq
end
def LO (ps ng:Int) (x:Nat):Bool:=decide (YP x ps=ps)&&decide (YP x ng=0)
structure NOk (N:NF):Prop where
 v0:0<=N.vs
 v6:N.vs<=6
 n0:0<=N.n
 n64:N.n<=64
 e512:N.es.length<=512
 st:jF N.n (-1) N.st=true
 fi:jF N.n (-1) N.fi=true
 ed:∀e∈N.es,0<=e.fr/\e.fr<N.n/\0<=e.to/\e.to<N.n/\mR N.vs e.ps e.ng=0
theorem vA {v n:Int} :∀{l:List Eg},nQ v n l=0->∀e∈l,0<=e.fr/\e.fr<n/\0<=e.to/\e.to<n/\mR v e.ps e.ng=0
 | [],_,e,h=>by cases h
 | x::l,h,e,he=>by
  by_cases c:x.fr<0\/n<=x.fr\/x.to<0\/n<=x.to
  ·rw[yW c]at h;cases h
  ·rw[CL c]at h
   by_cases d:mR v x.ps x.ng=0
   ·rw[if_pos d]at h
    rcases List.mem_cons.1 he with rfl | he
    ·exact⟨by omega,by omega,by omega,by omega,d⟩
    ·exact vA h e he
   ·rw[if_neg d]at h;exact absurd h d
theorem tG {N:NF} (h:gJ N=0):NOk N:=by
 unfold gJ at h
 split at h
 ·cases h
 ·split at h
  ·cases h
  ·split at h
   ·cases h
   ·split at h
    ·rename_i q1 q2 q3 q4
     exact⟨by omega,by omega,by omega,by omega,by omega,q4.1,q4.2,vA h⟩
    ·cases h
theorem GO {v:Int} (h6:v<=6):2^v.toNat<=64:=by
 have:v.toNat=0\/v.toNat=1\/v.toNat=2\/v.toNat=3\/v.toNat=4\/v.toNat=5\/v.toNat=6:=by omega
 rcases this with h | h | h | h | h | h | h<;>rw[h]<;>decide
theorem JC {tab:FuncId->Option AF} (id:Nat) (first args:List PV) (M:Mem) (K:PV->Mem->Prop):zL tab (.yld id first) args M K=((∃ver r,M[id]? =some (.loop ver r))/\MO tab id (first++args) M K):=rfl
section
variable {tab:FuncId->Option AF} (T:HasA tab)
include T
theorem aE0 {M:Mem} {K:PV->Mem->Prop} {ps ng:Int} {x:Nat} (hp:0<=ps/\ps<=255) (hn:0<=ng/\ng<=255) (hx:x<256) (hk:K (.bool (LO ps ng x)) M):
  SemC tab 214 [.agg [p8 ps,p8 ng],p8 x] M K:=by
 refine a8 T.h214 (by simp only[PP,P1,P2,P14,P15,N1,N2,N3,N4,N5,N6,N7,I1,I2,I3,I4,I5,I6,I7,reduceIte,reduceCtorEq]) ?_
 have h1:=pA (x:=x) (y:=ps) (by omega) hp
 have h2:=pA (x:=x) (y:=ng) (by omega) hn
 simp only[af214,PP,P1,P2,P14,P15,N1,N2,N3,N4,N5,N6,N7,I1,I2,I3,I4,I5,I6,I7,reduceIte,reduceCtorEq,h1,h2]
 refine QIf.intro (fun c1=>?_) (fun c1=>?_)
 ·simp only[PP,P1,P2,P14,P15,N1,N2,N3,N4,N5,N6,N7,I1,I2,I3,I4,I5,I6,I7,reduceIte,reduceCtorEq,c1,h2,LO]at hk ⊢
  exact hk
 ·simp only[PP,P1,P2,P14,P15,N1,N2,N3,N4,N5,N6,N7,I1,I2,I3,I4,I5,I6,I7,reduceIte,reduceCtorEq,c1,LO]at hk ⊢
  exact hk
end
end Go.Am.Ar

