/- Contracts of the small functions that games are checked with, and what goes with it. -/
import Derived.Test.YtapbgleednkimaaGreatDoorBudgetTextsCode
import Derived.Test.YtapbgleednkimaaGreatDoorPmR
import Derived.Test.YtapbgleednkimaaGreatDoorPmC
set_option linter.unusedVariables false
set_option linter.unusedSimpArgs false
set_option maxRecDepth 10000
namespace Go.Am.Ar
open Go.Am.PV renaming junk->Zj
open Go.Am renaming kF->P1,pO->P2,PKNo->P3,ppack->P4,PObj.under->P5,pput->P6,ptset->P7,ptget->P8,pev->P9,ofAV->P10,ofAV1->P11,ppad->P12,pfill->P13,eZ->P14,AO.effect->P15
open List renaming replicate->L1
attribute [simp] kW kX
abbrev big:Nat:=1000000000000
theorem cY {k:Nat} (h:k<big):IntKind.i64.wrap ((k:Int)+1)=((k+1:Nat):Int):=by
 have h:k<1000000000000:=h
 rw[wrap64 (by omega) (by omega)];omega
theorem iC {α:Type} {xs:List α} {k:Nat} (h:k<xs.length):xs.drop k=xs[k]::xs.drop (k+1):=List.drop_eq_getElem_cons h
theorem dL {α:Type} {xs:List α} {k:Nat} (h:k<xs.length):∃x,xs[k]? =some x:=⟨xs[k],List.getElem?_eq_getElem h⟩
theorem mR {α:Type} {xs:List α} {k:Nat} {x:α} (h:xs[k]? =some x):xs.drop k=x::xs.drop (k+1):=by
 have hk:=cM h
 rw[List.drop_eq_getElem_cons hk]
 rw[List.getElem?_eq_getElem hk]at h
 cases h;rfl
theorem eG {α:Type} {xs:List α} {k:Nat} {x:α} (h:xs[k]? =some x):xs.take (k+1)=xs.take k++[x]:=by simp[List.take_add_one,h]
theorem getD_some {xs:List Int} {k:Nat} {x:Int} (h:xs[k]? =some x):xs.getD k 0=x:=by simp[List.getD,h]
def iI (n:Int):Int->List Int->Bool
 | _,[]=>true
 | last,v::l=>if v<=last then false else if n<=v then false else iI n v l
section
variable {tab:FuncId->Option AF} (T:HasA tab)
include T
theorem F0 {M:Mem} {K:PV->Mem->Prop} {f o:Bool} {xs:List Int} {n:Int} (hm:xs.length<big) (hk:K (.bool (iI n (-1) xs)) M):
  SemC tab 151 [slI f o .i64 xs,p64 n] M K:=by
 refine cW T.h151 (by simp only[PP,P1,P2,P14,P15,simprocAttr]) ?_
 simp only[af151,PP,P1,P2,P14,P15,simprocAttr]
 refine jM (fun(k:Nat) (last:Int)=>k<=xs.length/\K (.bool (iI n last (xs.drop k))) M) (fun k last=>(.junk::p64 n::zj 3++p64 last:: .junk:: .junk::slI f o .i64 xs::p64 xs.length::p64 k::zj 13)) (fun _ _=>[]) (fun k _=>xs.length-k) 0 (-1) ⟨by omega,hk⟩ (by simp only[PW]) rfl ?_
 intro k last ⟨hk,hq⟩ ih
 refine dJ (by kernel_rfl) ?_
 simp only[PP,P1,P2,P14,P15,simprocAttr]
 refine QIf.intro (fun c=>?_) (fun c=>?_)
 ·have hk':k<xs.length:=by omega
  rw[iC hk']at hq
  have hw:=cY (k:=k) (by omega)
  have hg:xs[k]? =some xs[k]:=List.getElem?_eq_getElem hk'
  have h0:(0:Int)<=k:=by omega
  simp only[PP,P1,P2,P14,P15,simprocAttr,iI,c,hg,hw,h0]at hq ⊢
  refine QIf.intro (fun h1=>?_) (fun h1=>?_)
  ·simp only[PP,P1,P2,P14,P15,simprocAttr,h1]at hq ⊢
   exact hq
  ·simp only[PP,P1,P2,P14,P15,simprocAttr,h1]at hq ⊢
   refine QIf.intro (fun h2=>?_) (fun h2=>?_)
   ·simp only[PP,P1,P2,P14,P15,simprocAttr,h2]at hq ⊢
    exact hq
   ·simp only[PP,P1,P2,P14,P15,simprocAttr,h2,hw]at hq ⊢
    exact dC (ih (k+1) _ ⟨by omega,hq⟩ (by omega)) (by simp only[PW])
 ·simp only[PP,P1,P2,P14,P15,simprocAttr,c]
  rw[List.drop_eq_nil_of_le (by omega)]at hq
  exact hq
abbrev gmP (f1 o1 f2 o2 f3 o3 f4 o4:Bool) (ow pr:List Int) (su:List (List Int)):PV:= .agg [slI f1 o1 .u8 ow,slI f2 o2 .i64 pr,slR f3 o3 f4 o4 .i64 su]
structure Bnd (ow pr:List Int) (su:List (List Int)):Prop where
 o:ow.length<big
 p:pr.length<big
 s:su.length<big
 r:∀row∈su,row.length<big
def jS (ow pr:List Int):Nat->List (List Int)->Int
 | _,[]=>0
 | k,row::rest=>if 1<ow.getD k 0 then 6 else if pr.getD k 0<0 then 1 else if 16<pr.getD k 0 then 1 else if(row.length:Int)=0 then 13 else if iI ow.length (-1) row=false then 8 else jS ow pr (k+1) rest
def eC (ow pr:List Int) (su:List (List Int)):Int:=
 if(ow.length:Int)=0 then 3 else if 4096<(ow.length:Int) then 10 else if(pr.length:Int)=ow.length then(if(su.length:Int)=ow.length then jS ow pr 0 su else 2) else 2
omit T in
theorem KK {ow pr:List Int} {su:List (List Int)} (h:eC ow pr su=0):0<ow.length/\ow.length<=4096/\pr.length=ow.length/\su.length=ow.length/\jS ow pr 0 su=0:=by
 unfold eC at h
 split at h
 ·simp at h
 ·split at h
  ·simp at h
  ·split at h
   ·split at h
    ·exact⟨by omega,by omega,by omega,by omega,h⟩
    ·simp at h
   ·simp at h
theorem D9 {M:Mem} {K:PV->Mem->Prop} {f1 o1 f2 o2 f3 o3 f4 o4:Bool} {ow pr:List Int} {su:List (List Int)} (B:Bnd ow pr su) (hq:K (p64 (eC ow pr su)) M):
  SemC tab 88 [gmP f1 o1 f2 o2 f3 o3 f4 o4 ow pr su] M K:=by
 refine cW T.h88 (by simp only[PP,P1,P2,P14,P15,simprocAttr]) ?_
 simp only[af88,PP,P1,P2,P14,P15,simprocAttr,eC]at hq ⊢
 refine QIf.intro (fun c1=>?_) (fun c1=>?_)
 ·simp only[PP,P1,P2,P14,P15,simprocAttr,c1]at hq ⊢
  exact hq
 simp only[PP,P1,P2,P14,P15,simprocAttr,c1]at hq ⊢
 refine QIf.intro (fun c2=>?_) (fun c2=>?_)
 ·simp only[PP,P1,P2,P14,P15,simprocAttr,c2]at hq ⊢
  exact hq
 simp only[PP,P1,P2,P14,P15,simprocAttr,c2]at hq ⊢
 refine QIf.intro (fun c3=>?_) (fun c3=>?_)
 rotate_left
 ·simp only[PP,P1,P2,P14,P15,simprocAttr,c3]at hq ⊢
  exact hq
 simp only[PP,P1,P2,P14,P15,simprocAttr,c3]at hq ⊢
 refine QIf.intro (fun c4=>?_) (fun c4=>?_)
 rotate_left
 ·simp only[PP,P1,P2,P14,P15,simprocAttr,c4]at hq ⊢
  exact hq
 simp only[PP,P1,P2,P14,P15,simprocAttr,c4]at hq ⊢
 have d4:su.length=ow.length:=by omega
 refine kH (fun(k:Nat)=>k<=su.length/\K (p64 (jS ow pr k (su.drop k))) M) (fun k=>(.junk:: .ptr 0 0 0:: .junk::p64 ow.length::zj 25++slR f3 o3 f4 o4 .i64 su::p64 ow.length::p64 k::zj 36)) (fun _=>[.cells 0 0 [slI f1 o1 .u8 ow,slI f2 o2 .i64 pr,slR f3 o3 f4 o4 .i64 su]]) (fun k=>su.length-k) 0 ⟨by omega,hq⟩ (by simp only[PW,Int.cast_ofNat_Int,d4]) rfl ?_
 intro k ⟨hle,hq⟩ ih
 refine dJ (by kernel_rfl) ?_
 simp only[PP,P1,P2,P14,P15,simprocAttr]
 refine QIf.intro (fun c=>?_) (fun c=>?_)
 ·have hk':k<su.length:=by omega
  have g1:su[k]? =some su[k]:=List.getElem?_eq_getElem hk'
  have g2:ow[k]? =some ow[k]:=List.getElem?_eq_getElem (by omega)
  have g3:pr[k]? =some pr[k]:=List.getElem?_eq_getElem (by omega)
  have h0:(0:Int)<=k:=by omega
  have hw:=cY (k:=k) (by have:=B.s;omega)
  have e2:ow.getD k 0=ow[k]:=by simp[List.getD,g2]
  have e3:pr.getD k 0=pr[k]:=by simp[List.getD,g3]
  rw[iC hk']at hq
  have hks:(k:Int)<su.length:=by omega
  have hkp:(k:Int)<pr.length:=by omega
  simp only[PP,P1,P2,P14,P15,simprocAttr,jS,c,g1,g2,g3,h0,e2,e3,hks,hkp]at hq ⊢
  refine QIf.intro (fun h1=>?_) (fun h1=>?_)
  ·simp only[PP,P1,P2,P14,P15,simprocAttr,h1]at hq ⊢
   exact hq
  simp only[PP,P1,P2,P14,P15,simprocAttr,h1,g3,hkp,h0]at hq ⊢
  refine QIf.intro (fun h2=>?_) (fun h2=>?_)
  ·simp only[PP,P1,P2,P14,P15,simprocAttr,h2]at hq ⊢
   exact hq
  simp only[PP,P1,P2,P14,P15,simprocAttr,h2,g3,hkp,h0]at hq ⊢
  refine QIf.intro (fun h3=>?_) (fun h3=>?_)
  ·simp only[PP,P1,P2,P14,P15,simprocAttr,h3]at hq ⊢
   exact hq
  simp only[PP,P1,P2,P14,P15,simprocAttr,h3]at hq ⊢
  refine QIf.intro (fun h4=>?_) (fun h4=>?_)
  ·simp only[PP,P1,P2,P14,P15,simprocAttr,h4]at hq ⊢
   exact hq
  simp only[PP,P1,P2,P14,P15,simprocAttr,h4]at hq ⊢
  refine F0 T (B.r _ (List.getElem_mem hk')) ?_
  simp only[PP,P1,P2,P14,P15,simprocAttr]
  by_cases h5:iI ow.length (-1) su[k]=true
  ·simp only[PP,P1,P2,P14,P15,simprocAttr,h5,hw]at hq ⊢
   exact dC (ih (k+1) ⟨by omega,hq⟩ (by omega)) (by simp only[PW])
  ·simp only[PP,P1,P2,P14,P15,simprocAttr,h5]at hq ⊢
   exact hq
 ·simp only[PP,P1,P2,P14,P15,simprocAttr,c]
  rw[List.drop_eq_nil_of_le (by omega)]at hq
  exact hq
end
section
variable {tab:FuncId->Option AF} (T:HasA tab)
include T
theorem uO {M:Mem} {K:PV->Mem->Prop} {f o f' o':Bool} {xs ys:List Int} (hm:xs.length<big) (hk:K (.bool (decide (xs=ys))) M):
  SemC tab 29 [slI f o .i64 xs,slI f' o' .i64 ys] M K:=by
 refine cW T.h29 (by simp only[PP,P1,P2,P14,P15,simprocAttr]) ?_
 simp only[af29,PP,P1,P2,P14,P15,simprocAttr]
 refine QIf.intro (fun c1=>?_) (fun c1=>?_)
 ·simp only[PP,P1,P2,P14,P15,simprocAttr,c1]
  have hl:xs.length=ys.length:=by omega
  refine kH (fun(k:Nat)=>k<=xs.length/\K (.bool (decide (xs.drop k=ys.drop k))) M) (fun k=>(slI f o .i64 xs::slI f' o' .i64 ys::zj 3++p64 k::zj 20)) (fun _=>[]) (fun k=>xs.length-k) 0 ⟨by omega,hk⟩ (by simp only[PW]) rfl ?_
  intro k ⟨hle,hq⟩ ih
  refine dJ (by kernel_rfl) ?_
  simp only[PP,P1,P2,P14,P15,simprocAttr]
  refine QIf.intro (fun c=>?_) (fun c=>?_)
  ·have hk':k<xs.length:=by omega
   have hk2:k<ys.length:=by omega
   rw[iC hk',iC hk2]at hq
   have hw:=cY (k:=k) (by omega)
   have g1:xs[k]? =some xs[k]:=List.getElem?_eq_getElem hk'
   have g2:ys[k]? =some ys[k]:=List.getElem?_eq_getElem hk2
   have h0:(0:Int)<=k:=by omega
   have cy:(k:Int)<ys.length:=by omega
   simp only[PP,P1,P2,P14,P15,simprocAttr,c,g1,g2,hw,h0,cy]at hq ⊢
   refine QIf.intro (fun h1=>?_) (fun h1=>?_)
   ·simp only[PP,P1,P2,P14,P15,simprocAttr,h1,hw,List.cons.injEq]at hq ⊢
    exact dC (ih (k+1) ⟨by omega,hq⟩ (by omega)) (by simp only[PW])
   ·simp only[PP,P1,P2,P14,P15,simprocAttr,h1,List.cons.injEq]at hq ⊢
    exact hq
  ·simp only[PP,P1,P2,P14,P15,simprocAttr,c]
   rw[List.drop_eq_nil_of_le (by omega),List.drop_eq_nil_of_le (by omega)]at hq
   simp only[PP,P1,P2,P14,P15,simprocAttr]at hq
   exact hq
 ·simp only[PP,P1,P2,P14,P15,simprocAttr,c1]
  have hne:¬xs=ys:=by rintro rfl;exact c1 rfl
  simp only[PP,P1,P2,P14,P15,simprocAttr,hne]at hk
  exact hk
theorem uN {M:Mem} {K:PV->Mem->Prop} {f o f' o' g1 g2 g3 g4:Bool} {xs ys:List (List Int)} (hm:xs.length<big) (hr:∀r∈xs,r.length<big) (hk:K (.bool (decide (xs=ys))) M):
  SemC tab 33 [slR f o g1 g2 .i64 xs,slR f' o' g3 g4 .i64 ys] M K:=by
 refine cW T.h33 (by simp only[PP,P1,P2,P14,P15,simprocAttr]) ?_
 simp only[af33,PP,P1,P2,P14,P15,simprocAttr]
 refine QIf.intro (fun c1=>?_) (fun c1=>?_)
 ·simp only[PP,P1,P2,P14,P15,simprocAttr,c1]
  have hl:xs.length=ys.length:=by omega
  refine kH (fun(k:Nat)=>k<=xs.length/\K (.bool (decide (xs.drop k=ys.drop k))) M) (fun k=>(slR f o g1 g2 .i64 xs::slR f' o' g3 g4 .i64 ys::zj 3++p64 k::zj 21)) (fun _=>[]) (fun k=>xs.length-k) 0 ⟨by omega,hk⟩ (by simp only[PW]) rfl ?_
  intro k ⟨hle,hq⟩ ih
  refine dJ (by kernel_rfl) ?_
  simp only[PP,P1,P2,P14,P15,simprocAttr]
  refine QIf.intro (fun c=>?_) (fun c=>?_)
  ·have hk':k<xs.length:=by omega
   have hk2:k<ys.length:=by omega
   rw[iC hk',iC hk2]at hq
   have hw:=cY (k:=k) (by omega)
   have q1:xs[k]? =some xs[k]:=List.getElem?_eq_getElem hk'
   have q2:ys[k]? =some ys[k]:=List.getElem?_eq_getElem hk2
   have h0:(0:Int)<=k:=by omega
   have cy:(k:Int)<ys.length:=by omega
   simp only[PP,P1,P2,P14,P15,simprocAttr,c,q1,q2,hw,h0,cy]at hq ⊢
   refine uO T (hr _ (List.getElem_mem hk')) ?_
   by_cases h1:xs[k]=ys[k]
   ·simp only[PP,P1,P2,P14,P15,simprocAttr,h1,hw,List.cons.injEq]at hq ⊢
    exact dC (ih (k+1) ⟨by omega,hq⟩ (by omega)) (by simp only[PW])
   ·simp only[PP,P1,P2,P14,P15,simprocAttr,h1,List.cons.injEq]at hq ⊢
    exact hq
  ·simp only[PP,P1,P2,P14,P15,simprocAttr,c]
   rw[List.drop_eq_nil_of_le (by omega),List.drop_eq_nil_of_le (by omega)]at hq
   simp only[PP,P1,P2,P14,P15,simprocAttr]at hq
   exact hq
 ·simp only[PP,P1,P2,P14,P15,simprocAttr,c1]
  have hne:¬xs=ys:=by rintro rfl;exact c1 rfl
  simp only[PP,P1,P2,P14,P15,simprocAttr,hne]at hk
  exact hk
end
section
variable {tab:FuncId->Option AF} (T:HasA tab)
include T
end
def kN:Int->List Int->Int
 | m,[]=>m
 | m,x::l=>kN (max m x) l
section
variable {tab:FuncId->Option AF} (T:HasA tab)
include T
theorem aCB {M:Mem} {K:PV->Mem->Prop} {f o:Bool} {x:Int} {xs:List Int} (hm:(x::xs).length<big) (hq:K (p64 (kN x xs)) M):
  SemC tab 157 [slI f o .i64 (x::xs)] M K:=by
 refine cW T.h157 (by simp only[PP,P1,P2,P14,P15,simprocAttr]) ?_
 have c1:¬((xs.length+1:Nat):Int)<1:=by omega
 have c2:(0:Int)<((xs.length+1:Nat):Int):=by omega
 simp only[af157,PP,P1,P2,P14,P15,simprocAttr,c1,c2]
 have hm':xs.length+1<1000000000000:=hm
 refine jM (fun(k:Nat) (m:Int)=>k<=xs.length/\K (p64 (kN m (xs.drop k))) M) (fun k m=>(slI f o .i64 (x::xs):: .junk:: .junk::p64 m::p64 ((k+1:Nat):Int)::zj 20)) (fun _ _=>[]) (fun k _=>xs.length-k) 0 x ⟨by omega,hq⟩ (by simp only[PW]) rfl ?_
 intro k m ⟨hle,hq⟩ ih
 refine dJ (by kernel_rfl) ?_
 simp only[PP,P1,P2,P14,P15,simprocAttr]
 refine QIf.intro (fun c=>?_) (fun c=>?_)
 ·have hk':k<xs.length:=by omega
  have g1:xs[k]? =some xs[k]:=List.getElem?_eq_getElem hk'
  have h0:(0:Int)<=((k+1:Nat):Int):=by omega
  have hw:=cY (k:=k+1) (by show _<1000000000000;omega)
  rw[iC hk']at hq
  simp only[PP,P1,P2,P14,P15,simprocAttr,c,g1,h0,hw,kN]at hq ⊢
  exact dC (ih (k+1) _ ⟨by omega,hq⟩ (by omega)) (by simp only[PW])
 ·rw[List.drop_eq_nil_of_le (by omega)]at hq
  simp only[PP,P1,P2,P14,P15,simprocAttr,c,kN]at hq ⊢
  exact hq
end
abbrev gz:PV:= .agg [.nils,.nils,.nils]
theorem pL {ow pr:List Int} :∀{su:List (List Int)} {k:Nat},jS ow pr k su=0->∀(i:Nat) (hi:i<su.length),0<=pr.getD (k+i) 0/\pr.getD (k+i) 0<=16/\ow.getD (k+i) 0<=1/\0<su[i].length/\iI ow.length (-1) su[i]=true
 | [],k,h,i,hi=>by simp at hi
 | row::su,k,h,i,hi=>by
  unfold jS at h
  split at h
  ·simp at h
  ·split at h
   ·simp at h
   ·split at h
    ·simp at h
    ·split at h
     ·simp at h
     ·split at h
      ·simp at h
      ·rename_i h1 h2 h3 h4 h5
       cases i with
       | zero=>exact⟨by simpa using h2,by simpa using h3,by simpa using h1,by simp only[List.getElem_cons_zero];omega,by simpa using h5⟩
       | succ i=>
        have:=pL h i (by simpa using hi)
        simpa [Nat.add_assoc,Nat.add_comm 1 i] using this
structure Valid (ow pr:List Int) (su:List (List Int)):Prop where
 n0:0<ow.length
 n1:ow.length<=4096
 p:pr.length=ow.length
 s:su.length=ow.length
 row:∀(i:Nat) (hi:i<su.length),0<=pr.getD i 0/\pr.getD i 0<=16/\ow.getD i 0<=1/\0<su[i].length/\iI ow.length (-1) su[i]=true
theorem iK {ow pr:List Int} {su:List (List Int)} (h:eC ow pr su=0):Valid ow pr su:=by
 obtain⟨h1,h2,h3,h4,h5⟩:=KK h
 exact⟨h1,h2,h3,h4,fun i hi=>by simpa using pL h5 i hi⟩
theorem pS:∀(n:Nat) (l:List Nat),l.Nodup->(∀x∈l,x<n)->l.length<=n
 | 0,l,_,h=>by
  cases l with
  | nil=>simp
  | cons x l=>have:=h x (by simp);omega
 | n+1,l,hd,h=>by
  have:=pS n (l.filter fun x=>x !=n) (hd.filter _) (fun x hx=>by
   rw[List.mem_filter]at hx
   have:=h x hx.1
   have:x≠n:=by simpa using hx.2
   omega)
  have h2:l.length<=(l.filter fun x=>x !=n).length+1:=by
   clear this h
   induction l with
   | nil=>simp
   | cons x l ih=>
    rw[List.nodup_cons]at hd
    by_cases e:x=n
    ·subst e
     have:l.filter (fun y=>y !=x)=l:=by
      rw[List.filter_eq_self]
      intro y hy
      have:y≠x:=fun q=>hd.1 (q▸hy)
      simpa using this
     simp[this]
    ·have:=ih hd.2
     have hx:(x !=n)=true:=by simpa using e
     simp only[List.filter_cons,hx,if_true,List.length_cons]
     omega
  omega
theorem aBd {k:IntKind} {x y:Int} (h:y≠0):eP .rem (.int k x) (.int k y)=some (.int k (x.tmod y)):=by
 simp[eP,eK,iQ,ofAV1,h,eM,gH]
abbrev GM (l:List Nat):List Int:=l.map fun(v:Nat)=>(v:Int)
theorem kU {n:Int} :∀{l:List Int} {last:Int},iI n last l=true->l.Pairwise (· < ·)/\∀x∈l,last<x/\x<n
 | [],_,_=>⟨.nil,fun x hx=>by cases hx⟩
 | v::l,last,h=>by
  unfold iI at h
  split at h
  ·simp at h
  ·split at h
   ·simp at h
   ·obtain⟨h1,h2⟩:=kU h
    refine⟨.cons (fun x hx=>(h2 x hx).1) h1,fun x hx=>?_⟩
    rcases List.mem_cons.1 hx with rfl | hx
    ·omega
    ·have:=h2 x hx;omega
theorem SC {ow pr:List Int} {su:List (List Int)} (V:Valid ow pr su) {v:Nat} {u:Int} (hv:v<ow.length) (h:u∈su.getD v []):0<=u/\u<ow.length:=by
 have hvs:v<su.length:=by have:=V.s;omega
 obtain⟨_,_,_,_,hp⟩:=V.row v hvs
 rw[List.getD,List.getElem?_eq_getElem hvs]at h
 have:=(kU hp).2 u h
 omega
section
variable {tab:FuncId->Option AF} (T:HasA tab)
include T
end
structure Eg where
 fr:Int
 to:Int
 ps:Int
 ng:Int
 deriving DecidableEq,Inhabited
abbrev egC (e:Eg):List PV:=[.int .i64 e.fr,.int .i64 e.to,.int .u8 e.ps,.int .u8 e.ng]
def egL (l:List Eg):List PV:=l.flatMap egC
abbrev slE (f o:Bool) (l:List Eg):PV:= .sl f o 4 l.length (egL l)
theorem Y9:egL []=[]:=rfl
theorem jZ (l:List Eg):(egL l).length=l.length*4:=by
 unfold egL
 induction l with
 | nil=>rfl
 | cons x l ih=>rw[List.flatMap_cons,List.length_append,ih];simp;omega
theorem M5 (l:List Eg):(egL l).all PV.one=true:=by
 unfold egL
 induction l with
 | nil=>rfl
 | cons x l ih=>rw[List.flatMap_cons,List.all_append,ih];rfl
theorem gW (m:Nat) (l:List Eg):cF m (egL l)=true:=by
 unfold egL
 induction l with
 | nil=>exact iS _
 | cons x l ih=>rw[List.flatMap_cons,lX,ih];simp[gZ,iS,AK]
theorem hR (m:Nat) (f o:Bool) (sz n:Nat) (l:List Eg):PV.under m (.sl f o sz n (egL l))=true:=by
 simp only[PV.under];exact gW m l
theorem ZA (l:List Eg) (x:Eg):egL l++egC x=egL (l++[x]):=by simp[egL]
theorem QD {l:List Eg} {k:Nat} {x:Eg} (h:l[k]? =some x):∃a b,egL l=a++egC x++b/\a.length=k*4/\(∀y,egL (l.set k y)=a++egC y++b):=by
 obtain⟨hk,e⟩:=List.getElem?_eq_some_iff.1 h
 refine⟨egL (l.take k),egL (l.drop (k+1)),?_,?_,fun y=>?_⟩
 ·conv=>lhs;rw[<-List.take_append_drop k l,List.drop_eq_getElem_cons hk,e]
  simp[egL]
 ·rw[jZ];simp;omega
 ·rw[List.set_eq_take_append_cons_drop,if_pos hk]
  simp[egL]
theorem wZ {l:List Eg} {k:Nat} {x:Eg} (h:l[k]? =some x):dS (egL l) (k*4) 4=egC x:=by
 obtain⟨a,b,h1,h2,_⟩:=QD h
 unfold dS
 rw[h1,<-h2,List.append_assoc,List.drop_left];rfl
theorem w6 {l:List Eg} {n:Nat} (h:l.length=n):dS (egL l) 0 (n*4)=egL l:=dO _ _ (by rw[jZ,h])
theorem aAH {l:List Eg} {k:Nat} {x:Eg} (h:l[k]? =some x):k*4+4<=l.length*4:=by
 have:=cM h;omega
def Eg.fit (e:Eg):Prop:=(-9223372036854775808<=e.fr/\e.fr<=9223372036854775807)/\(-9223372036854775808<=e.to/\e.to<=9223372036854775807)/\(0<=e.ps/\e.ps<=255)/\(0<=e.ng/\e.ng<=255)
structure NF where
 vs:Int
 n:Int
 st:List Int
 fi:List Int
 es:List Eg
abbrev nfC (f1 o1 f2 o2 f3 o3:Bool) (N:NF):List PV:=[p64 N.vs,p64 N.n,slI f1 o1 .i64 N.st,slI f2 o2 .i64 N.fi,slE f3 o3 N.es]
structure BnN (N:NF):Prop where
 s:N.st.length<big
 f:N.fi.length<big
 e:N.es.length<big
 b:∀x∈N.es,(0<=x.ps/\x.ps<=255)/\(0<=x.ng/\x.ng<=255)
def VX (x y:Int):Int:=((x.toNat&&& y.toNat:Nat):Int)
def bOr (x y:Int):Int:=((x.toNat||| y.toNat:Nat):Int)
def mU (v p n:Int):Int:=if v<0 then 7 else if 6<v then 7 else if 2^v.toNat<=p then 7 else if 2^v.toNat<=n then 7 else if VX p n=0 then 0 else 2
def nW (v n:Int):List Eg->Int
 | []=>0
 | e::l=>if e.fr<0\/n<=e.fr\/e.to<0\/n<=e.to then 8 else if mU v e.ps e.ng=0 then nW v n l else mU v e.ps e.ng
def gT (N:NF):Int:=
 if N.vs<0\/6<N.vs then 7 else if N.n<0 then 1 else if 64<N.n\/512<(N.es.length:Int) then 4 else if iI N.n (-1) N.st=true/\iI N.n (-1) N.fi=true then nW N.vs N.n N.es else 8
theorem DK {x:Int} (h:0<=x/\x<=255):(BitVec.ofInt 8 x).toNat=x.toNat:=by
 rw[BitVec.toNat_ofInt]
 omega
theorem vZ {x:Nat} (h:x<256):IntKind.u8.wrap (x:Int)=x:=by
 simp only[IntKind.wrap,IntKind.signed,IntKind.bits]
 simp
 omega
theorem o5 {x y:Int} (hx:0<=x/\x<=255) (hy:0<=y/\y<=255):eP .and (.int .u8 x) (.int .u8 y)=some (.int .u8 (VX x y)):=by
 have h1:=DK hx
 have h2:=DK hy
 have h3:x.toNat&&& y.toNat<256:=Nat.lt_of_le_of_lt Nat.and_le_left (by omega)
 have e:IntKind.u8.wrap ((BitVec.ofInt IntKind.u8.bits x&&& BitVec.ofInt IntKind.u8.bits y).toNat:Int)=VX x y:=by
  show IntKind.u8.wrap ((BitVec.ofInt 8 x&&& BitVec.ofInt 8 y).toNat:Int)=_
  rw[BitVec.toNat_and,h1,h2,vZ h3];rfl
 simp only[eP,eK,iQ,eM,gH,e]
 rfl
theorem TK {a b:Nat} (ha:a<256) (hb:b<256):a||| b<256:=Nat.or_lt_two_pow (n:=8) ha hb
theorem S9 {x y:Int} (hx:0<=x/\x<=255) (hy:0<=y/\y<=255):eP .or (.int .u8 x) (.int .u8 y)=some (.int .u8 (bOr x y)):=by
 have h1:=DK hx
 have h2:=DK hy
 have h3:x.toNat||| y.toNat<256:=TK (by omega) (by omega)
 have e:IntKind.u8.wrap ((BitVec.ofInt IntKind.u8.bits x||| BitVec.ofInt IntKind.u8.bits y).toNat:Int)=bOr x y:=by
  show IntKind.u8.wrap ((BitVec.ofInt 8 x||| BitVec.ofInt 8 y).toNat:Int)=_
  rw[BitVec.toNat_or,h1,h2,vZ h3];rfl
 simp only[eP,eK,iQ,eM,gH,e]
 rfl
theorem aCr {v:Int} (h0:¬v<0) (h6:¬6<v):eP .shl (.int .i64 1) (.int .i64 v)=some (.int .i64 (2^v.toNat)):=by
 have:v=0\/v=1\/v=2\/v=3\/v=4\/v=5\/v=6:=by omega
 rcases this with rfl | rfl | rfl | rfl | rfl | rfl | rfl<;>rfl
theorem KS {v:Nat} {p n:Int} (hp:0<=p) (hn:0<=n):(2:Int)^v<=bOr p n↔(2^v<=p\/2^v<=n):=by
 have key:(2^v<=p.toNat||| n.toNat)↔(2^v<=p.toNat\/2^v<=n.toNat):=by
  constructor
  ·intro h
   refine Classical.byContradiction fun q=>?_
   rw[not_or,Nat.not_le,Nat.not_le]at q
   have:=Nat.or_lt_two_pow q.1 q.2
   omega
  ·rintro(h | h)
   ·exact Nat.le_trans h Nat.left_le_or
   ·exact Nat.le_trans h Nat.right_le_or
 have e:((2^v:Nat):Int)=2^v:=by simp
 unfold bOr
 rw[<-e]
 constructor
 ·intro h
  rcases key.1 (by omega) with q | q
  ·exact .inl (by omega)
  ·exact .inr (by omega)
 ·intro h
  have:=key.2 (by omega)
  omega
section
variable {tab:FuncId->Option AF} (T:HasA tab)
include T
theorem E7 {M:Mem} {K:PV->Mem->Prop} {f1 o1 f2 o2 f3 o3 f o:Bool} {N:NF} {xs:List Int} (hm:xs.length<big) (hk:K (.bool (iI N.n (-1) xs)) M):
  SemC tab 138 [.agg (nfC f1 o1 f2 o2 f3 o3 N),slI f o .i64 xs] M K:=by
 refine cW T.h138 (by simp only[PP,P1,P2,P14,P15,simprocAttr,hR]) ?_
 simp only[af138,PP,P1,P2,P14,P15,simprocAttr]
 refine jM (fun(k:Nat) (last:Int)=>k<=xs.length/\K (.bool (iI N.n last (xs.drop k))) M) (fun k last=>(.junk:: .junk:: .ptr 0 0 0:: .junk:: .junk::p64 last:: .junk:: .junk::slI f o .i64 xs::p64 xs.length::p64 k::zj 14)) (fun _ _=>[.cells 0 0 (nfC f1 o1 f2 o2 f3 o3 N)]) (fun k _=>xs.length-k) 0 (-1) ⟨by omega,hk⟩ (by simp only[PW]) rfl ?_
 intro k last ⟨hk,hq⟩ ih
 refine dJ (by kernel_rfl) ?_
 simp only[PP,P1,P2,P14,P15,simprocAttr]
 refine QIf.intro (fun c=>?_) (fun c=>?_)
 ·have hk':k<xs.length:=by omega
  rw[iC hk']at hq
  have hw:=cY (k:=k) (by omega)
  have hg:xs[k]? =some xs[k]:=List.getElem?_eq_getElem hk'
  have h0:(0:Int)<=k:=by omega
  simp only[PP,P1,P2,P14,P15,simprocAttr,iI,c,hg,hw,h0]at hq ⊢
  refine QIf.intro (fun h1=>?_) (fun h1=>?_)
  ·simp only[PP,P1,P2,P14,P15,simprocAttr,h1]at hq ⊢
   exact hq
  ·simp only[PP,P1,P2,P14,P15,simprocAttr,h1]at hq ⊢
   refine QIf.intro (fun h2=>?_) (fun h2=>?_)
   ·simp only[PP,P1,P2,P14,P15,simprocAttr,h2]at hq ⊢
    exact hq
   ·simp only[PP,P1,P2,P14,P15,simprocAttr,h2,hw]at hq ⊢
    exact dC (ih (k+1) _ ⟨by omega,hq⟩ (by omega)) (by simp only[PW])
 ·simp only[PP,P1,P2,P14,P15,simprocAttr,c]
  rw[List.drop_eq_nil_of_le (by omega)]at hq
  exact hq
theorem aBI {M:Mem} {K:PV->Mem->Prop} {v p n:Int} (hp:0<=p/\p<=255) (hn:0<=n/\n<=255) (hk:K (p64 (mU v p n)) M):
  SemC tab 139 [.agg [p8 p,p8 n],p64 v] M K:=by
 refine cW T.h139 (by simp only[PP,P1,P2,P14,P15,simprocAttr]) ?_
 simp only[af139,PP,P1,P2,P14,P15,simprocAttr]
 refine QIf.intro (fun c1=>?_) (fun c1=>?_)
 ·simp only[PP,P1,P2,P14,P15,simprocAttr,c1,mU]at hk ⊢
  exact hk
 ·simp only[PP,P1,P2,P14,P15,simprocAttr,c1]
  refine QIf.intro (fun c2=>?_) (fun c2=>?_)
  ·simp only[PP,P1,P2,P14,P15,simprocAttr,c1,c2,mU]at hk ⊢
   exact hk
  ·have hw:IntKind.i64.wrap (bOr p n)=bOr p n:=wrap64 (by unfold bOr;omega) (by have:=TK (a:=p.toNat) (b:=n.toNat) (by omega) (by omega);unfold bOr;omega)
   simp only[PP,P1,P2,P14,P15,simprocAttr,c2,S9 hp hn,o5 hp hn,aCr c1 c2,hw]
   refine QIf.intro (fun c3=>?_) (fun c3=>?_)
   ·have e:mU v p n=7:=by
     unfold mU
     rw[if_neg c1,if_neg c2]
     rcases(KS hp.1 hn.1).1 c3 with q | q
     ·rw[if_pos q]
     ·rw[if_pos q];split<;>rfl
    rw[e]at hk
    simp only[PP,P1,P2,P14,P15,simprocAttr,c3]
    exact hk
   ·have c4:¬(2:Int)^v.toNat<=p:=fun q=>c3 ((KS hp.1 hn.1).2 (.inl q))
    have c5:¬(2:Int)^v.toNat<=n:=fun q=>c3 ((KS hp.1 hn.1).2 (.inr q))
    simp only[PP,P1,P2,P14,P15,simprocAttr,c3,o5 hp hn]
    unfold mU at hk
    rw[if_neg c1,if_neg c2,if_neg c4,if_neg c5]at hk
    refine QIf.intro (fun c6=>?_) (fun c6=>?_)
    ·rw[if_pos c6]at hk
     simp only[PP,P1,P2,P14,P15,simprocAttr,c6]
     exact hk
    ·rw[if_neg c6]at hk
     simp only[PP,P1,P2,P14,P15,simprocAttr,c6]
     exact hk
end
section
variable (M l:Mem) (i:Nat) (x:PObj)
theorem gk:(M++l)[M.length+i]? =l[i]? :=by rw[List.getElem?_append_right (by omega)];congr 1;omega
theorem gk0:(M++l)[M.length]? =l[0]? :=by rw[List.getElem?_append_right (Nat.le_refl _),Nat.sub_self]
theorem sk:(M++l).set (M.length+i) x=M++l.set i x:=by rw[List.set_append_right _ _ (by omega)];congr 2;omega
theorem sk0:(M++l).set M.length x=M++l.set 0 x:=by rw[List.set_append_right _ _ (Nat.le_refl _),Nat.sub_self]
end
theorem F1 (k:IntKind) (a b:Int):w8 (.int k a) [.int k b]=some (.int k (min a b)):=by
 simp[w8,eK,g7,lS,yW,ofAV1]
 by_cases h:b<a
 ·rw[if_pos h];omega
 ·rw[if_neg h];omega
theorem yK {v n:Int} {e:Eg} {l:List Eg} (h:e.fr<0\/n<=e.fr\/e.to<0\/n<=e.to):nW v n (e::l)=8:=by unfold nW;rw[if_pos h]
theorem B7 {v n:Int} {e:Eg} {l:List Eg} (h:¬(e.fr<0\/n<=e.fr\/e.to<0\/n<=e.to)):nW v n (e::l)=if mU v e.ps e.ng=0 then nW v n l else mU v e.ps e.ng:=by
 show(if _ then _ else _)=_;rw[if_neg h]
section
variable {tab:FuncId->Option AF} (T:HasA tab)
include T
end
abbrev Wd:=List (BitVec 64)
def wAt (a:Wd) (i:Nat):BitVec 64:=a.getD i 0#64
theorem kZ {a:Wd} {i:Nat} (h:a.length<=i):wAt a i=0#64:=by
 unfold wAt;rw[List.getD,List.getElem?_eq_none h];rfl
theorem qM {a:Wd} {i:Nat} {x:BitVec 64} (h:a[i]? =some x):wAt a i=x:=by
 unfold wAt;rw[List.getD,h];rfl
def iF (a:Wd):Nat->Nat
 | 0=>0
 | n+1=>if wAt a n=0#64 then iF a n else n+1
theorem qQ (a:Wd):∀n,iF a n<=n
 | 0=>Nat.le_refl _
 | n+1=>by
  unfold iF
  split
  ·exact Nat.le_succ_of_le (qQ a n)
  ·exact Nat.le_refl _
theorem wC (a:Wd):∀n i,iF a n<=i->i<n->wAt a i=0#64
 | 0,i,_,h=>by omega
 | n+1,i,h1,h2=>by
  unfold iF at h1
  split at h1
  ·rename_i h
   by_cases e:i=n
   ·subst e;exact h
   ·exact wC a n i h1 (by omega)
  ·omega
theorem sF (a:Wd):∀n,iF a n=0\/wAt a (iF a n-1)≠0#64
 | 0=> .inl rfl
 | n+1=>by
  unfold iF
  split
  ·exact sF a n
  ·rename_i h;exact .inr h
def sG (a:Wd):Wd:=a.take (iF a a.length)
theorem R9 (a:Wd):(sG a).length<=a.length:=by unfold sG;rw[List.length_take];omega
theorem CO (a:Wd) (i:Nat):wAt (sG a) i=wAt a i:=by
 have hle:=qQ a a.length
 rcases Nat.lt_or_ge i (iF a a.length) with h | h
 ·unfold wAt sG
  rw[List.getD,List.getD,List.getElem?_take,if_pos h]
 ·rw[kZ (by unfold sG;rw[List.length_take];omega)]
  rcases Nat.lt_or_ge i a.length with q | q
  ·exact(wC a _ i h q).symm
  ·exact(kZ q).symm
def l9 (op:BitVec 64->BitVec 64->BitVec 64) (a b:Wd) (n:Nat):Wd:=(List.range n).map fun i=>op (wAt a i) (wAt b i)
def cmb (op:BitVec 64->BitVec 64->BitVec 64) (a b:Wd):Wd:=sG (l9 op a b (min (max a.length b.length) 64))
theorem mW (op:BitVec 64->BitVec 64->BitVec 64) (a b:Wd) (n:Nat):(l9 op a b n).length=n:=by simp[l9]
theorem QJ (op:BitVec 64->BitVec 64->BitVec 64) (a b:Wd) (n:Nat):l9 op a b (n+1)=l9 op a b n++[op (wAt a n) (wAt b n)]:=by simp[l9,List.range_succ]
theorem ZP (op:BitVec 64->BitVec 64->BitVec 64) (a b:Wd):(cmb op a b).length<=64:=by
 have:=R9 (l9 op a b (min (max a.length b.length) 64))
 rw[mW]at this
 unfold cmb
 omega
theorem VE {op:BitVec 64->BitVec 64->BitVec 64} (h0:op 0#64 0#64=0#64) {a b:Wd} (ha:a.length<=64) (hb:b.length<=64) (i:Nat):wAt (cmb op a b) i=op (wAt a i) (wAt b i):=by
 unfold cmb
 rw[CO]
 rcases Nat.lt_or_ge i (min (max a.length b.length) 64) with h | h
 ·refine qM ?_
  simp only[l9,List.getElem?_map,List.getElem?_range h,Option.map_some]
 ·rw[kZ (by rw[mW];exact h),kZ (a:=a) (by omega),kZ (a:=b) (by omega),h0]
def bit (a:Wd) (k:Nat):Bool:=(wAt a (k / 64)).getLsbD (k % 64)
theorem KP {a b:Wd} (ha:a.length<=64) (hb:b.length<=64) (k:Nat):bit (cmb (· ||| ·) a b) k=(bit a k||bit b k):=by
 unfold bit;rw[VE (by simp) ha hb];simp
theorem uR {a b:Wd} (ha:a.length<=64) (hb:b.length<=64) (k:Nat):bit (cmb (· &&& ·) a b) k=(bit a k&&bit b k):=by
 unfold bit;rw[VE (by simp) ha hb];simp
theorem M9 {op:BitVec 64->BitVec 64->BitVec 64} (a b:Wd):(cmb op a b).length=0↔∀k,bit (cmb op a b) k=false:=by
 constructor
 ·intro h k
  unfold bit
  rw[kZ (by omega)];simp
 ·intro h
  have hl:(cmb op a b).length=iF (l9 op a b (min (max a.length b.length) 64)) (min (max a.length b.length) 64):=by
   have:=qQ (l9 op a b (min (max a.length b.length) 64)) (min (max a.length b.length) 64)
   unfold cmb sG
   rw[List.length_take,mW]
   omega
  rcases sF (l9 op a b (min (max a.length b.length) 64)) (min (max a.length b.length) 64) with e | e
  ·rw[hl,e]
  ·exfalso
   rw[<-CO]at e
   apply e
   apply BitVec.eq_of_getLsbD_eq
   intro j hj
   have:=h (64*(iF (l9 op a b (min (max a.length b.length) 64)) (min (max a.length b.length) 64)-1)+j)
   unfold bit at this
   rw[show(64*(iF (l9 op a b (min (max a.length b.length) 64)) (min (max a.length b.length) 64)-1)+j) / 64=iF (l9 op a b (min (max a.length b.length) 64)) (min (max a.length b.length) 64)-1 by omega,show(64*(iF (l9 op a b (min (max a.length b.length) 64)) (min (max a.length b.length) 64)-1)+j) % 64=j by omega]at this
   unfold cmb at this
   rw[this];simp
def oB (k:Nat):Wd:=List.replicate (k / 64) 0#64++[BitVec.twoPow 64 (k % 64)]
theorem mE (k:Nat):(oB k).length=k / 64+1:=by simp[oB]
theorem yT (k j:Nat):bit (oB k) j=decide (j=k):=by
 have hj:j % 64<64:=Nat.mod_lt _ (by omega)
 unfold bit
 rcases Nat.lt_trichotomy (j / 64) (k / 64) with h | h | h
 ·rw[qM (x:=0#64) (by unfold oB;rw[List.getElem?_append_left (by simpa using h)];simp[h])]
  have:j≠k:=by rintro rfl;omega
  simp[this]
 ·rw[qM (x:=BitVec.twoPow 64 (k % 64)) (by unfold oB;rw[List.getElem?_append_right (by simp;omega)];simp[h])]
  rw[BitVec.getLsbD_twoPow]
  by_cases e:j=k
  ·subst e;simp[hj]
  ·have:k % 64≠j % 64:=by omega
   simp[e,this]
 ·rw[kZ (by rw[mE];omega)]
  have:j≠k:=by rintro rfl;omega
  simp[this]
def qL (a:Wd) (k:Nat):Wd:=cmb (· ||| ·) a (oB k)
def ofL (l:List Nat):Wd:=l.foldl qL []
theorem DJ:∀(l:List Nat) (a:Wd),a.length<=64->(∀x∈l,x<4096)->(l.foldl qL a).length<=64/\∀k,bit (l.foldl qL a) k=(bit a k||decide (k∈l))
 | [],a,ha,_=>⟨ha,by simp⟩
 | x::l,a,ha,h=>by
  have hx:=h x (by simp)
  have hs:(oB x).length<=64:=by rw[mE];omega
  obtain⟨h1,h2⟩:=DJ l (qL a x) (ZP _ _ _) (fun y hy=>h y (by simp[hy]))
  refine⟨h1,fun k=>?_⟩
  rw[List.foldl_cons,h2,qL,KP ha hs,yT]
  simp[Bool.or_assoc]
theorem YO {l:List Nat} (h:∀x∈l,x<4096):(ofL l).length<=64:=(DJ l [] (by simp) h).1
theorem ZT {l:List Nat} (h:∀x∈l,x<4096) (k:Nat):bit (ofL l) k=decide (k∈l):=by
 have:=(DJ l [] (by simp) h).2 k
 unfold ofL
 rw[this]
 simp[bit,wAt]
abbrev wI (a:Wd):List Int:=a.map fun b=>((b.toNat:Nat):Int)
theorem oX {n:Nat} (h:n<18446744073709551616):IntKind.u64.wrap (n:Int)=(n:Int):=by
 simp only[IntKind.wrap,IntKind.signed,IntKind.bits]
 simp
 omega
theorem KM (b:BitVec 64):BitVec.ofInt 64 ((b.toNat:Nat):Int)=b:=by
 rw[BitVec.ofInt_natCast];simp
theorem pQ (a b:BitVec 64):eP .and (.int .u64 ((a.toNat:Nat):Int)) (.int .u64 ((b.toNat:Nat):Int))=some (.int .u64 (((a&&& b).toNat:Nat):Int)):=by
 have h:=oX (a&&& b).isLt
 simp only[eP,eK,iQ,eM,gH,IntKind.bits,KM,Bool.false_eq_true,if_false,if_true]
 show some (PV.int .u64 (IntKind.u64.wrap (((a&&& b).toNat:Nat):Int)))=_
 rw[h]
theorem BT (a b:BitVec 64):eP .or (.int .u64 ((a.toNat:Nat):Int)) (.int .u64 ((b.toNat:Nat):Int))=some (.int .u64 (((a||| b).toNat:Nat):Int)):=by
 have h:=oX (a||| b).isLt
 simp only[eP,eK,iQ,eM,gH,IntKind.bits,KM,Bool.false_eq_true,if_false,if_true]
 show some (PV.int .u64 (IntKind.u64.wrap (((a||| b).toNat:Nat):Int)))=_
 rw[h]
theorem xA {k:Nat} (h:k<64):eP .shl (.int .u64 1) (.int .i64 (k:Int))=some (.int .u64 (((BitVec.twoPow 64 k).toNat:Nat):Int)):=by
 have h2:(BitVec.twoPow 64 k).toNat=2^k:=by
  rw[BitVec.toNat_twoPow,Nat.mod_eq_of_lt (Nat.pow_lt_pow_right (by omega) h)]
 have h3:=oX (n:=2^k) (Nat.pow_lt_pow_right (n:=64) (by omega) h)
 have h4:min ((k:Int).toNat) 64=k:=by omega
 simp only[eP,eK,iQ,eM,rU,IntKind.bits,h4,h2]
 rw[if_pos trivial,if_neg (by omega),show(1:Int)*2^k=((2^k:Nat):Int) by simp,h3]
 rfl
section
variable {tab:FuncId->Option AF} (T:HasA tab)
include T
theorem aBN {M:Mem} {K:PV->Mem->Prop} {f1 o1 f2 o2 f3 o3:Bool} {N:NF} (hk:K (.bool (decide (N.vs<0\/6<N.vs))) M):SemC tab 134 [.cp (nfC f1 o1 f2 o2 f3 o3 N) 0] M K:=by
 refine cW T.h134 (by simp only[PP,P1,P2,P14,P15,simprocAttr,PV.under,gW]) ?_
 simp only[af134,PP,P1,P2,P14,P15,simprocAttr]
 refine QIf.intro (fun c1=>?_) (fun c1=>?_)
 ·simp only[PP,P1,P2,P14,P15,simprocAttr,c1]at hk ⊢
  exact hk
 ·simp only[PP,P1,P2,P14,P15,simprocAttr,c1]at hk ⊢
  exact hk
theorem aBM {M:Mem} {K:PV->Mem->Prop} {f1 o1 f2 o2 f3 o3:Bool} {N:NF} (hk:K (.bool (decide (N.n<0))) M):SemC tab 135 [.cp (nfC f1 o1 f2 o2 f3 o3 N) 0] M K:=by
 refine cW T.h135 (by simp only[PP,P1,P2,P14,P15,simprocAttr,PV.under,gW]) ?_
 simp only[af135,PP,P1,P2,P14,P15,simprocAttr]
 exact hk
theorem aBL {M:Mem} {K:PV->Mem->Prop} {f1 o1 f2 o2 f3 o3:Bool} {N:NF} (hk:K (.bool (decide (64<N.n\/512<(N.es.length:Int)))) M):SemC tab 136 [.cp (nfC f1 o1 f2 o2 f3 o3 N) 0] M K:=by
 refine cW T.h136 (by simp only[PP,P1,P2,P14,P15,simprocAttr,PV.under,gW]) ?_
 simp only[af136,PP,P1,P2,P14,P15,simprocAttr]
 refine QIf.intro (fun c1=>?_) (fun c1=>?_)
 ·simp only[PP,P1,P2,P14,P15,simprocAttr,c1]at hk ⊢
  exact hk
 ·simp only[PP,P1,P2,P14,P15,simprocAttr,c1]at hk ⊢
  exact hk
theorem aBK {M:Mem} {K:PV->Mem->Prop} {f1 o1 f2 o2 f3 o3:Bool} {N:NF} (B:BnN N) (hk:K (.bool (decide (¬(iI N.n (-1) N.st=true/\iI N.n (-1) N.fi=true)))) M):SemC tab 137 [.cp (nfC f1 o1 f2 o2 f3 o3 N) 0] M K:=by
 refine cW T.h137 (by simp only[PP,P1,P2,P14,P15,simprocAttr,PV.under,gW]) ?_
 simp only[af137,PP,P1,P2,P14,P15,simprocAttr]
 refine E7 T B.s ?_
 cases q1:iI N.n (-1) N.st with
 | false=>
  rw[q1]at hk
  simp only[PP,P1,P2,P14,P15,simprocAttr]at hk ⊢
  exact hk
 | true=>
  rw[q1]at hk
  simp only[PP,P1,P2,P14,P15,simprocAttr]
  refine E7 T B.f ?_
  cases q2:iI N.n (-1) N.fi with
  | false=>
   rw[q2]at hk
   simp only[PP,P1,P2,P14,P15,simprocAttr]at hk ⊢
   exact hk
  | true=>
   rw[q2]at hk
   simp only[PP,P1,P2,P14,P15,simprocAttr]at hk ⊢
   exact hk
theorem BC {M:Mem} {K:PV->Mem->Prop} {f1 o1 f2 o2 f3 o3:Bool} {N:NF} (B:BnN N) (hk:K (p64 (gT N)) M):
  SemC tab 79 [.agg (nfC f1 o1 f2 o2 f3 o3 N)] M K:=by
 refine fZ T.h79 (by simp only[PP,P1,P2,P14,P15,simprocAttr,hR]) ?_
 simp only[af79]
 refine bU (bT ?_)
 simp only[PP,P1,P2,P14,P15,simprocAttr]
 refine eA (GStep.freezeP (b:=(.junk:: .cp (nfC f1 o1 f2 o2 f3 o3 N) 0::p64 0::zj 60)) 0 (Nat.zero_le _) rfl (by simp only[kW,kX,List.cons_append,List.nil_append,iE,gK,gJ,iD]) rfl) ?_
 refine bU (bT ?_)
 simp only[PP,P1,P2,P14,P15,simprocAttr]
 refine jM (fun(k:Nat) (G:Mem)=>k<=4/\(0<k->¬(N.vs<0\/6<N.vs))/\(1<k->¬(N.n<0))/\(2<k->¬(64<N.n\/512<(N.es.length:Int)))/\(3<k->¬(¬(iI N.n (-1) N.st=true/\iI N.n (-1) N.fi=true))))
  (fun k G=>(.junk:: .cp (nfC f1 o1 f2 o2 f3 o3 N) 0::zj 14++ .sl true true 2 4 [.func (.func 134) [] [.cp (nfC f1 o1 f2 o2 f3 o3 N) 0],p64 7,.func (.func 135) [] [.cp (nfC f1 o1 f2 o2 f3 o3 N) 0],p64 1,.func (.func 136) [] [.cp (nfC f1 o1 f2 o2 f3 o3 N) 0],p64 4,.func (.func 137) [] [.cp (nfC f1 o1 f2 o2 f3 o3 N) 0],p64 8]::p64 4::p64 k::zj 44)) (fun _ G=>G) (fun k _=>4-k) 0 [.gone] ⟨by omega,by omega,by omega,by omega,by omega⟩ (by simp only[PW]) rfl ?_
 intro k G ⟨hle,i1,i2,i3,i4⟩ ih
 have w1:IntKind.i64.wrap 1=1:=rfl
 have w2:IntKind.i64.wrap 2=2:=rfl
 have w3:IntKind.i64.wrap 3=3:=rfl
 have w4:IntKind.i64.wrap 4=4:=rfl
 unfold gT at hk
 have hbad0:(N.vs<0\/6<N.vs)->K (p64 7) M:=fun h=>by rw[if_pos h]at hk;exact hk
 have hbad1:0<k->(N.n<0)->K (p64 1) M:=fun h0 h=>by rw[if_neg (i1 h0),if_pos h]at hk;exact hk
 have hbad2:1<k->(64<N.n\/512<(N.es.length:Int))->K (p64 4) M:=fun h0 h=>by rw[if_neg (i1 (by omega)),if_neg (i2 h0),if_pos h]at hk;exact hk
 have hbad3:2<k->(¬(iI N.n (-1) N.st=true/\iI N.n (-1) N.fi=true))->K (p64 8) M:=fun h0 h=>by rw[if_neg (i1 (by omega)),if_neg (i2 (by omega)),if_neg (i3 h0),if_neg h]at hk;exact hk
 have hgood:3<k->K (p64 (nW N.vs N.n N.es)) M:=fun h=>by rw[if_neg (i1 (by omega)),if_neg (i2 (by omega)),if_neg (i3 (by omega)),if_pos (Classical.not_not.1 (i4 h))]at hk;exact hk
 have hk5:k=0\/k=1\/k=2\/k=3\/k=4:=by omega
 rcases hk5 with rfl | rfl | rfl | rfl | rfl
 ·refine dJ (by kernel_rfl) ?_
  simp only[PP,P1,P2,P14,P15,simprocAttr,List.append_assoc,gk0,sk0]
  refine aBN T ?_
  by_cases q:(N.vs<0\/6<N.vs)
  ·simp only[PP,P1,P2,P14,P15,simprocAttr,q,List.append_assoc,gk,gk0,sk,sk0,decide_true]
   exact hbad0 q
  ·simp only[PP,P1,P2,P14,P15,simprocAttr,q,List.append_assoc,gk,gk0,sk,sk0,decide_false,w1,w2,w3,w4]
   refine dV (ih 1 (G++[.cells 0 1 [.func (.func 134) [] [.cp (nfC f1 o1 f2 o2 f3 o3 N) 0],p64 7]]) ⟨by omega,fun _=>q,fun h=>absurd h (by omega),fun h=>absurd h (by omega),fun h=>absurd h (by omega)⟩ (by omega)) (by simp only[PW]) rfl
 ·refine dJ (by kernel_rfl) ?_
  simp only[PP,P1,P2,P14,P15,simprocAttr,List.append_assoc,gk0,sk0]
  refine aBM T ?_
  by_cases q:(N.n<0)
  ·simp only[PP,P1,P2,P14,P15,simprocAttr,q,List.append_assoc,gk,gk0,sk,sk0,decide_true]
   exact hbad1 (by omega) q
  ·simp only[PP,P1,P2,P14,P15,simprocAttr,q,List.append_assoc,gk,gk0,sk,sk0,decide_false,w1,w2,w3,w4]
   refine dV (ih 2 (G++[.cells 0 1 [.func (.func 135) [] [.cp (nfC f1 o1 f2 o2 f3 o3 N) 0],p64 1]]) ⟨by omega,fun _=>i1 (by omega),fun _=>q,fun h=>absurd h (by omega),fun h=>absurd h (by omega)⟩ (by omega)) (by simp only[PW]) rfl
 ·refine dJ (by kernel_rfl) ?_
  simp only[PP,P1,P2,P14,P15,simprocAttr,List.append_assoc,gk0,sk0]
  refine aBL T ?_
  by_cases q:(64<N.n\/512<(N.es.length:Int))
  ·simp only[PP,P1,P2,P14,P15,simprocAttr,q,List.append_assoc,gk,gk0,sk,sk0,decide_true]
   exact hbad2 (by omega) q
  ·simp only[PP,P1,P2,P14,P15,simprocAttr,q,List.append_assoc,gk,gk0,sk,sk0,decide_false,w1,w2,w3,w4]
   refine dV (ih 3 (G++[.cells 0 1 [.func (.func 136) [] [.cp (nfC f1 o1 f2 o2 f3 o3 N) 0],p64 4]]) ⟨by omega,fun _=>i1 (by omega),fun _=>i2 (by omega),fun _=>q,fun h=>absurd h (by omega)⟩ (by omega)) (by simp only[PW]) rfl
 ·refine dJ (by kernel_rfl) ?_
  simp only[PP,P1,P2,P14,P15,simprocAttr,List.append_assoc,gk0,sk0]
  refine aBK T B ?_
  by_cases q:(¬(iI N.n (-1) N.st=true/\iI N.n (-1) N.fi=true))
  ·simp only[PP,P1,P2,P14,P15,simprocAttr,q,List.append_assoc,gk,gk0,sk,sk0,decide_true]
   exact hbad3 (by omega) q
  ·simp only[PP,P1,P2,P14,P15,simprocAttr,q,List.append_assoc,gk,gk0,sk,sk0,decide_false,w1,w2,w3,w4]
   refine dV (ih 4 (G++[.cells 0 1 [.func (.func 137) [] [.cp (nfC f1 o1 f2 o2 f3 o3 N) 0],p64 8]]) ⟨by omega,fun _=>i1 (by omega),fun _=>i2 (by omega),fun _=>i3 (by omega),fun _=>q⟩ (by omega)) (by simp only[PW]) rfl
 ·have hg:=hgood (by omega)
  refine dJ (by kernel_rfl) ?_
  simp only[PP,P1,P2,P14,P15,simprocAttr]
  refine bT ?_
  simp only[PP,P1,P2,P14,P15,simprocAttr]
  refine jM (fun(k:Nat) (G:Mem)=>k<=N.es.length/\K (p64 (nW N.vs N.n (N.es.drop k))) M) (fun k G=>(.junk:: .cp (nfC f1 o1 f2 o2 f3 o3 N) 0::zj 27++slE f3 o3 N.es::p64 N.es.length::p64 k::zj 31)) (fun _ G=>G) (fun k _=>N.es.length-k) 0 G ⟨by omega,hg⟩ (by simp only[PW]) rfl ?_
  intro k G ⟨hle,hq⟩ ih
  refine dJ (by kernel_rfl) ?_
  simp only[PP,P1,P2,P14,P15,simprocAttr]
  refine QIf.intro (fun c=>?_) (fun c=>?_)
  ·have hk':k<N.es.length:=by omega
   obtain⟨e,ge⟩:=dL hk'
   rw[mR ge]at hq
   have hw:=cY (k:=k) (by have:=B.e;omega)
   have h0:(0:Int)<=k:=by omega
   have h4:=wZ ge
   have hl4:k*4+4<=(egL N.es).length:=by rw[jZ];exact aAH ge
   obtain⟨b1,b2⟩:=B.b e (List.mem_of_getElem? ge)
   have bad:(e.fr<0\/N.n<=e.fr\/e.to<0\/N.n<=e.to)->K (p64 8) M:=fun h=>by rw[yK h]at hq;exact hq
   simp only[PP,P1,P2,P14,P15,simprocAttr,c,h0,h4,hl4,List.append_assoc,gk,gk0,sk,sk0,F1]
   refine QIf.intro (fun d1=>?_) (fun d1=>?_)
   ·simp only[PP,P1,P2,P14,P15,simprocAttr,d1]
    exact bad (by omega)
   simp only[PP,P1,P2,P14,P15,simprocAttr,d1,List.append_assoc,gk,gk0,sk,sk0]
   refine QIf.intro (fun d2=>?_) (fun d2=>?_)
   ·simp only[PP,P1,P2,P14,P15,simprocAttr,d2]
    exact bad (by omega)
   rw[B7 (by omega)]at hq
   simp only[PP,P1,P2,P14,P15,simprocAttr,d2,List.append_assoc,gk,gk0,sk,sk0]
   refine aBI T b1 b2 ?_
   simp only[PP,P1,P2,P14,P15,simprocAttr]
   refine QIf.intro (fun d5=>?_) (fun d5=>?_)
   ·rw[if_pos d5]at hq
    simp only[PP,P1,P2,P14,P15,simprocAttr,d5,hw]
    exact dC (ih (k+1) _ ⟨by omega,hq⟩ (by omega)) (by simp only[PW])
   ·rw[if_neg d5]at hq
    simp only[PP,P1,P2,P14,P15,simprocAttr,d5]
    exact hq
  ·simp only[PP,P1,P2,P14,P15,simprocAttr,c]
   rw[List.drop_eq_nil_of_le (by omega)]at hq
   exact hq
end
def J9 (ps ng:Int) (x:Nat):Bool:=decide (VX x ps=ps)&&decide (VX x ng=0)
structure NOk (N:NF):Prop where
 v0:0<=N.vs
 v6:N.vs<=6
 n0:0<=N.n
 n64:N.n<=64
 e512:N.es.length<=512
 st:iI N.n (-1) N.st=true
 fi:iI N.n (-1) N.fi=true
 ed:∀e∈N.es,0<=e.fr/\e.fr<N.n/\0<=e.to/\e.to<N.n/\mU N.vs e.ps e.ng=0
theorem uP {v n:Int} :∀{l:List Eg},nW v n l=0->∀e∈l,0<=e.fr/\e.fr<n/\0<=e.to/\e.to<n/\mU v e.ps e.ng=0
 | [],_,e,h=>by cases h
 | x::l,h,e,he=>by
  by_cases c:x.fr<0\/n<=x.fr\/x.to<0\/n<=x.to
  ·rw[yK c]at h;cases h
  ·rw[B7 c]at h
   by_cases d:mU v x.ps x.ng=0
   ·rw[if_pos d]at h
    rcases List.mem_cons.1 he with rfl | he
    ·exact⟨by omega,by omega,by omega,by omega,d⟩
    ·exact uP h e he
   ·rw[if_neg d]at h;exact absurd h d
theorem nO {N:NF} (h:gT N=0):NOk N:=by
 unfold gT at h
 split at h
 ·cases h
 ·split at h
  ·cases h
  ·split at h
   ·cases h
   ·split at h
    ·rename_i q1 q2 q3 q4
     exact⟨by omega,by omega,by omega,by omega,by omega,q4.1,q4.2,uP h⟩
    ·cases h
theorem FY {v:Int} (h6:v<=6):2^v.toNat<=64:=by
 have:v.toNat=0\/v.toNat=1\/v.toNat=2\/v.toNat=3\/v.toNat=4\/v.toNat=5\/v.toNat=6:=by omega
 rcases this with h | h | h | h | h | h | h<;>rw[h]<;>decide
theorem IE {tab:FuncId->Option AF} (id:Nat) (first args:List PV) (M:Mem) (K:PV->Mem->Prop):zG tab (.yld id first) args M K=((∃ver r,M[id]? =some (.loop ver r))/\K6 tab id (first++args) M K):=rfl
section
variable {tab:FuncId->Option AF} (T:HasA tab)
include T
theorem aCE {M:Mem} {K:PV->Mem->Prop} {ps ng:Int} {x:Nat} (hp:0<=ps/\ps<=255) (hn:0<=ng/\ng<=255) (hx:x<256) (hk:K (.bool (J9 ps ng x)) M):
  SemC tab 214 [.agg [p8 ps,p8 ng],p8 x] M K:=by
 refine cW T.h214 (by simp only[PP,P1,P2,P14,P15,simprocAttr]) ?_
 have h1:=o5 (x:=x) (y:=ps) (by omega) hp
 have h2:=o5 (x:=x) (y:=ng) (by omega) hn
 simp only[af214,PP,P1,P2,P14,P15,simprocAttr,h1,h2]
 refine QIf.intro (fun c1=>?_) (fun c1=>?_)
 ·simp only[PP,P1,P2,P14,P15,simprocAttr,c1,h2,J9]at hk ⊢
  exact hk
 ·simp only[PP,P1,P2,P14,P15,simprocAttr,c1,J9]at hk ⊢
  exact hk
end
abbrev oK (b:BitVec 64):PV:= .int .u64 ((b.toNat:Nat):Int)
abbrev slW (f o:Bool) (a:Wd):PV:= .sl f o 1 a.length ((wI a).map (PV.int .u64))
theorem RY {a:Wd} {i:Nat} (h:i<a.length):(wI a)[i]? =some (((wAt a i).toNat:Nat):Int):=by
 rw[List.getElem?_map,List.getElem?_eq_getElem h,qM (List.getElem?_eq_getElem h)];rfl
theorem aBe {x y:Int} (h:y≠0):eP .quo (.int .i64 x) (.int .i64 y)=some (.int .i64 (IntKind.i64.wrap (x.tdiv y))):=by
 simp[eP,eK,iQ,ofAV1,h,eM,gH]
theorem F2 {k:IntKind} {x y:Int} :w8 (.int k x) [.int k y]=some (.int k (min x y)):=by
 simp[w8,eK,g7,lS,yW,ofAV1]
 split<;>omega
theorem NZ {j:Nat} (h:j<4000000000000):IntKind.i64.wrap (((j+1:Nat):Int)-1)=(j:Int):=by
 rw[wrap64 (by omega) (by omega)];omega
theorem aBD {g ver m:Nat} {W:Wd} (h:m<=W.length):D2 (some (.cells g ver ((wI W).map (PV.int .u64)))) g 1 0 m=some (slW false true (W.take m)):=by
 rw[jR (by simp;omega) (dH _ _ _)]
 have h1:dS ((wI W).map (PV.int .u64)) 0 (m*1)=(wI (W.take m)).map (PV.int .u64):=by simp[dS,List.map_take]
 have h2:(W.take m).length=m:=by rw[List.length_take];omega
 rw[h1]
 unfold slW
 rw[h2]
theorem ME {α:Type} (z x:α):∀n:Nat,(z::List.replicate n z).set n x=List.replicate n z++[x]
 | 0=>rfl
 | n+1=>by
  rw[List.set_cons_succ,List.replicate_succ,ME z x n];rfl
section
variable {tab:FuncId->Option AF} (T:HasA tab)
include T
theorem VP {M:Mem} {K:PV->Mem->Prop} {f o:Bool} {a:Wd} {i:Nat} (hk:K (oK (wAt a i)) M):
  SemC tab 215 [slW f o a,p64 i] M K:=by
 refine cW T.h215 (by simp only[PP,P1,P2,P14,P15,simprocAttr]) ?_
 simp only[af215,PP,P1,P2,P14,P15,simprocAttr]
 refine QIf.intro (fun c=>?_) (fun c=>?_)
 ·have hi:i<a.length:=by omega
  have i0:(0:Int)<=i:=by omega
  have g:=RY hi
  rw[List.getElem?_map]at g
  simp only[PP,P1,P2,P14,P15,simprocAttr,c,g,i0]
  exact hk
 ·rw[kZ (by omega)]at hk
  simp only[PP,P1,P2,P14,P15,simprocAttr,c]
  exact hk
theorem NA {M:Mem} {K:PV->Mem->Prop} {id g off n ver:Nat} {cs:List PV} (hM:M[id]? =some (.cells g ver cs)) (hk:K (.ref id g 1 off n) M):
  SemC tab 216 [.ref id g 1 off n] M K:=by
 refine dF T.h216 ?_
 have e:((n:Int)-0).toNat=n:=by omega
 have n0:(0:Int)<=n:=by omega
 simp only[af216,PP,P1,P2,P14,P15,simprocAttr,hM,e,n0,Int.le_refl]
 exact hk
theorem B9 {M:Mem} {K:PV->Mem->Prop} {f1 o1 f2 o2:Bool} {a b:Wd} {g:FuncId} (op:BitVec 64->BitVec 64->BitVec 64) (ha:a.length<big) (hb:b.length<big)
  (hop:∀(M:Mem) (K:PV->Mem->Prop) (x y:BitVec 64),K (oK (op x y)) M->SemC tab g [oK x,oK y] M K) (hk:K (slW false true (cmb op a b)) M):
  SemC tab 182 [slW f1 o1 a,slW f2 o2 b,.func (.func g) [] []] M K:=by
 refine cW T.h182 (by simp only[PP,P1,P2,P14,P15,simprocAttr]) ?_
 simp only[af182,PP,P1,P2,P14,P15,simprocAttr]
 have hn:min (max (a.length:Int) b.length) 64=((min (max a.length b.length) 64:Nat):Int):=by omega
 have hk':K (slW false true (sG (l9 op a b (min (max a.length b.length) 64)))) M:=hk
 generalize hnn:min (max a.length b.length) 64=n at hn hk'
 have hn64:n<=64:=by omega
 simp only[PP,P1,P2,P14,P15,simprocAttr,F2,hn]
 refine eA (GStep.nil 8 1 rfl rfl rfl) ?_
 simp only[ptset,List.cons_append,List.nil_append,List.length_cons,List.length_nil,Nat.reduceAdd]
 refine jM (fun(i g2:Nat)=>i<=n)
  (fun i g2=>(slW f1 o1 a::slW f2 o2 b:: .func (.func g) [] []::zj 4++ .func (.func 215) [] []:: .ref 0 g2 1 0 i::zj 6++p64 n::p64 i::zj 35))
  (fun i g2=>[.cells g2 0 ((wI (l9 op a b i)).map (PV.int .u64))])
  (fun i _=>n-i) 0 0 (by omega) (by simp only[PW]) rfl ?_
 intro i g2 hi ih
 refine dJ (by kernel_rfl) ?_
 simp only[PP,P1,P2,P14,P15,simprocAttr]
 refine QIf.intro (fun c=>?_) (fun c=>?_)
 ·have hin:i<n:=by omega
  have hw:=cY (k:=i) (by show _<1000000000000;omega)
  have b1:(i+1)*8<=140737488355328:=by omega
  have b2:i<=9223372036854775806:=by omega
  have b3:i<=(l9 op a b i).length:=by rw[mW];omega
  have hps:dS (List.map (PV.int .u64) (wI (l9 op a b i))) 0 i=List.map (PV.int .u64) (wI (l9 op a b i)):=dO _ _ (by rw[List.length_map,List.length_map,mW])
  simp only[PP,P1,P2,P14,P15,simprocAttr,c]
  refine VP T ?_
  simp only[PP,P1,P2,P14,P15,simprocAttr]
  refine VP T ?_
  simp only[PP,P1,P2,P14,P15,simprocAttr]
  refine hop _ _ _ _ ?_
  simp only[PP,P1,P2,P14,P15,simprocAttr,b1,b2,b3,hps,hw]
  exact dV (ih (i+1) (g2+1) (by omega) (by omega)) (by simp only[PW]) (by rw[QJ];simp)
 ·have hin:i=n:=by omega
  subst hin
  simp only[PP,P1,P2,P14,P15,simprocAttr,c]
  have hwl:=mW op a b i
  generalize l9 op a b i=W at hk' hwl ⊢
  refine kH (fun(m:Nat)=>m<=i/\iF W m=iF W W.length)
   (fun m=>(zj 8++ .ref 0 g2 1 0 m::zj 43)) (fun m=>[.cells g2 0 ((wI W).map (PV.int .u64))]) (fun m=>m) i ⟨by omega,by rw[hwl]⟩ (by simp only[PW]) rfl ?_
  intro m ⟨hm,htr⟩ ih2
  have hfin:iF W m=m->K (slW false true (W.take m)) M:=fun e=>by
   have hk2:K (slW false true (W.take (iF W W.length))) M:=hk'
   rw[<-htr,e]at hk2;exact hk2
  refine dJ (by kernel_rfl) ?_
  simp only[PP,P1,P2,P14,P15,simprocAttr]
  refine QIf.intro (fun d=>?_) (fun d=>?_)
  ·obtain⟨j,rfl⟩:∃j,m=j+1:=⟨m-1,by omega⟩
   have hw:=NZ (j:=j) (by omega)
   have j0:(0:Int)<=j:=by omega
   have j1:(j:Int)<((j+1:Nat):Int):=by omega
   have gj:=RY (a:=W) (i:=j) (by omega)
   rw[List.getElem?_map]at gj
   have e2:((j:Int)-0).toNat=j:=by omega
   have j2:(j:Int)<=((j+1:Nat):Int):=by omega
   simp only[PP,P1,P2,P14,P15,simprocAttr,hw,j0,j1,gj,d]
   have et:iF W (j+1)=if wAt W j=0#64 then iF W j else j+1:=rfl
   rw[et]at htr hfin
   refine QIf.intro (fun e=>?_) (fun e=>?_)
   ·have hz:wAt W j=0#64:=BitVec.eq_of_toNat_eq (by simpa using e)
    rw[if_pos hz]at htr
    simp only[PP,P1,P2,P14,P15,simprocAttr,e,hw,j0,j2,e2]
    exact dC (ih2 j ⟨by omega,htr⟩ (by omega)) (by simp only[PW])
   ·have hz:¬wAt W j=0#64:=fun h=>e (by rw[h];rfl)
    rw[if_neg hz]at hfin
    have hk3:=hfin rfl
    simp only[PP,P1,P2,P14,P15,simprocAttr,e]
    refine NA T rfl ?_
    simp only[PP,P1,P2,P14,P15,simprocAttr,aBD (W:=W) (m:=j+1) (by omega)]
    exact hk3
  ·have:m=0:=by omega
   subst this
   have hk3:=hfin rfl
   simp only[PP,P1,P2,P14,P15,simprocAttr,d]
   refine NA T rfl ?_
   simp only[PP,P1,P2,P14,P15,simprocAttr,aBD (W:=W) (m:=0) (by omega)]
   exact hk3
theorem aCt {M:Mem} {K:PV->Mem->Prop} {x y:BitVec 64} (hk:K (oK (x||| y)) M):SemC tab 211 [oK x,oK y] M K:=by
 refine cW T.h211 (by simp only[PP,P1,P2,P14,P15,simprocAttr]) ?_
 simp only[af211,PP,P1,P2,P14,P15,simprocAttr,BT]
 exact hk
theorem aBR {M:Mem} {K:PV->Mem->Prop} {x y:BitVec 64} (hk:K (oK (x&&& y)) M):SemC tab 183 [oK x,oK y] M K:=by
 refine cW T.h183 (by simp only[PP,P1,P2,P14,P15,simprocAttr]) ?_
 simp only[af183,PP,P1,P2,P14,P15,simprocAttr,pQ]
 exact hk
theorem XT {M:Mem} {K:PV->Mem->Prop} {f1 o1 f2 o2:Bool} {a b:Wd} (ha:a.length<big) (hb:b.length<big) (hk:K (slW false true (cmb (fun x y=>x||| y) a b)) M):
  SemC tab 175 [slW f1 o1 a,slW f2 o2 b] M K:=by
 refine cW T.h175 (by simp only[PP,P1,P2,P14,P15,simprocAttr]) ?_
 simp only[af175,PP,P1,P2,P14,P15,simprocAttr]
 refine B9 T (fun x y=>x||| y) ha hb (fun M K x y h=>aCt T h) ?_
 simp only[PP,P1,P2,P14,P15,simprocAttr]
 exact hk
theorem G7 {M:Mem} {K:PV->Mem->Prop} {f1 o1 f2 o2:Bool} {a b:Wd} (ha:a.length<big) (hb:b.length<big) (hk:K (slW false true (cmb (fun x y=>x&&& y) a b)) M):
  SemC tab 146 [slW f1 o1 a,slW f2 o2 b] M K:=by
 refine cW T.h146 (by simp only[PP,P1,P2,P14,P15,simprocAttr]) ?_
 simp only[af146,PP,P1,P2,P14,P15,simprocAttr]
 refine B9 T (fun x y=>x&&& y) ha hb (fun M K x y h=>aBR T h) ?_
 simp only[PP,P1,P2,P14,P15,simprocAttr]
 exact hk
theorem FJ {M:Mem} {K:PV->Mem->Prop} {k:Nat} (h:k<4096) (hk:K (slW false true (oB k)) M):SemC tab 176 [p64 k] M K:=by
 refine cW T.h176 (by simp only[PP,P1,P2,P14,P15,simprocAttr]) ?_
 have k0:¬(k:Int)<0:=by omega
 have k1:¬(4095:Int)<k:=by omega
 have h64:(64:Int)≠0:=by omega
 have e1:IntKind.i64.wrap ((k:Int).tdiv 64)=((k / 64:Nat):Int):=by
  rw[Int.tdiv_eq_ediv_of_nonneg (by omega),wrap64 (by omega) (by omega)];omega
 have e2:(k:Int).tmod 64=((k % 64:Nat):Int):=by rw[Int.tmod_eq_emod_of_nonneg (by omega)];omega
 have e3:=cY (k:=k / 64) (by show _<1000000000000;omega)
 have b0:(0:Int)<=((k / 64+1:Nat):Int):=by omega
 have b1:((k / 64+1:Nat):Int)*8<=140737488355328:=by omega
 have b2:((k / 64+1:Nat):Int)<=9223372036854775807:=by omega
 have b3:(0:Int)<=((k / 64:Nat):Int):=by omega
 have b4:((k / 64:Nat):Int)<((k / 64+1:Nat):Int):=by omega
 have b5:k / 64+1<=k / 64+1:=Nat.le_refl _
 have hsh:=xA (k:=k % 64) (Nat.mod_lt _ (by omega))
 simp only[af176,PP,P1,P2,P14,P15,simprocAttr,k0,k1,aBd h64,aBe h64,e1,e2,e3,b0,b1,b2,b3,b4,hsh,Int.le_refl]
 have hc:List.replicate (k / 64) (PV.int .u64 0)++[PV.int .u64 (((BitVec.twoPow 64 (k % 64)).toNat:Nat):Int)]=(wI (oB k)).map (PV.int .u64):=by
  simp[oB]
 have hl:=mE k
 rw[ME,hc]
 have ht:(oB k).take (k / 64+1)=oB k:=List.take_of_length_le (by omega)
 simp only[PP,P1,P2,P14,P15,simprocAttr,aBD (W:=oB k) (m:=k / 64+1) (by omega),ht]
 exact hk
theorem aAP {M:Mem} {K:PV->Mem->Prop} {f o:Bool} {a:Wd} {k:Nat} (ha:a.length<big) (h:k<4096) (hk:K (slW false true (qL a k)) M):SemC tab 140 [slW f o a,p64 k] M K:=by
 refine cW T.h140 (by simp only[PP,P1,P2,P14,P15,simprocAttr]) ?_
 simp only[af140,PP,P1,P2,P14,P15,simprocAttr]
 refine FJ T h ?_
 simp only[PP,P1,P2,P14,P15,simprocAttr]
 refine XT T ha (by rw[mE];show _<1000000000000;omega) ?_
 simp only[PP,P1,P2,P14,P15,simprocAttr]
 exact hk
theorem DY {M:Mem} {K:PV->Mem->Prop} {f1 o1 f2 o2:Bool} {a b:Wd} (ha:a.length<big) (hb:b.length<big) (hk:K (.bool (decide (0<(cmb (fun x y=>x&&& y) a b).length))) M):
  SemC tab 85 [slW f1 o1 a,slW f2 o2 b] M K:=by
 refine cW T.h85 (by simp only[PP,P1,P2,P14,P15,simprocAttr]) ?_
 simp only[af85,PP,P1,P2,P14,P15,simprocAttr]
 refine G7 T ha hb ?_
 simp only[PP,P1,P2,P14,P15,simprocAttr,Int.natCast_pos]
 exact hk
end
theorem VZ {a:Wd} {k:Nat} (ha:a.length<=64) (hk:k<4096):decide (0<(cmb (fun x y=>x&&& y) a (oB k)).length)=bit a k:=by
 have hs:(oB k).length<=64:=by rw[mE];omega
 cases hb:bit a k with
 | true=>
  refine decide_eq_true (Nat.pos_of_ne_zero fun h=>?_)
  have:=(M9 a (oB k)).1 h k
  rw[uR ha hs,yT,hb]at this
  simp at this
 | false=>
  refine decide_eq_false (fun h=>?_)
  have:(cmb (fun x y=>x&&& y) a (oB k)).length=0:=(M9 a (oB k)).2 fun j=>by
   rw[uR ha hs,yT]
   by_cases e:j=k
   ·subst e;rw[hb];rfl
   ·simp[e]
  omega
section
variable {tab:FuncId->Option AF} (T:HasA tab)
include T
theorem ZR {M:Mem} {K:PV->Mem->Prop} {f o:Bool} {a:Wd} {k:Nat} (ha:a.length<=64) (hk:k<4096) (hq:K (.bool (bit a k)) M):
  SemC tab 181 [slW f o a,p64 k] M K:=by
 refine cW T.h181 (by simp only[PP,P1,P2,P14,P15,simprocAttr]) ?_
 simp only[af181,PP,P1,P2,P14,P15,simprocAttr]
 refine FJ T hk ?_
 simp only[PP,P1,P2,P14,P15,simprocAttr]
 refine DY T (by show _<1000000000000;omega) (by show _<1000000000000;rw[mE];omega) ?_
 simp only[PP,P1,P2,P14,P15,simprocAttr,VZ ha hk]
 exact hq
end
end Go.Am.Ar

