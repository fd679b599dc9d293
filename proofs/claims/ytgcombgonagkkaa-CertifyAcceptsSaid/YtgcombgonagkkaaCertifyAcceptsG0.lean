/- Contracts of the small functions that games are checked with, and what goes with it. -/
import Derived.Test.YtgcombgonagkkaaCertifyAcceptsCode
import Derived.Test.YtgcombgonagkkaaPmR
import Derived.Test.YtgcombgonagkkaaPmC
set_option linter.unusedVariables false
set_option linter.unusedSimpArgs false
set_option maxRecDepth 10000
namespace Go.Am.Ar
open Go.Am.PV renaming junk→Zj
open Go.Am renaming pchk→P1,pold→P2,PKNo→P3,ppack→P4,PObj.under→P5,pput→P6,ptset→P7,q60→P8,pev→P9,ofAV→P10,q30→P11,ppad→P12,pfill→P13,q39→P14,AO.effect→P15
open List renaming replicate→L1
open Nat renaming reduceAdd→N1,reduceSub→N2,reduceMul→N3,reduceLT→N4,reduceLeDiff→N5,reduceEqDiff→N6,reduceBEq→N7
open Int renaming reduceToNat→I1,reduceLT→I2,reduceLE→I3,reduceEq→I4,reduceAdd→I5,reduceSub→I6,reduceNeg→I7
abbrev big:Nat:=1000000000000
theorem q12 {k:Nat} (h:k<big):IntKind.i64.wrap ((k:Int)+1)=((k+1:Nat):Int):=by
 have h:k<1000000000000:=h
 rw[q52 (by omega) (by omega)];omega
theorem drop_get' {α:Type} {xs:List α} {k:Nat} (h:k<xs.length):xs.drop k=xs[k]::xs.drop (k+1):=List.drop_eq_getElem_cons h
theorem q9 {α:Type} {xs:List α} {k:Nat} (h:k<xs.length):∃x,xs[k]? =some x:=⟨xs[k],List.getElem?_eq_getElem h⟩
theorem drop_some {α:Type} {xs:List α} {k:Nat} {x:α} (h:xs[k]? =some x):xs.drop k=x::xs.drop (k+1):=by
 have hk:=q10 h
 rw[List.drop_eq_getElem_cons hk]
 rw[List.getElem?_eq_getElem hk]at h
 cases h;rfl
theorem take_some {α:Type} {xs:List α} {k:Nat} {x:α} (h:xs[k]? =some x):xs.take (k+1)=xs.take k++[x]:=by simp[List.take_add_one,h]
theorem getD_some {xs:List Int} {k:Nat} {x:Int} (h:xs[k]? =some x):xs.getD k 0=x:=by simp[List.getD,h]
def posM (n:Int):Int→List Int→Bool
 | _,[]=>true
 | last,v::l=>if v≤last then false else if n≤v then false else posM n v l
section
variable {tab:FuncId→Option AF} (T:HasA tab)
include T
theorem positions_p {M:Mem} {K:PV→Mem→Prop} {f o:Bool} {xs:List Int} {n:Int} (hm:xs.length<big) (hk:K (.bool (posM n (-1) xs)) M):
  SemC tab 37 [slI f o .i64 xs,p64 n] M K:=by
 refine q11 T.h37 (by simp only[PP,P1,P2,P3,P4,P5,P6,P7,P8,P9,P10,P11,P12,P13,P14,L1,P15,N1,N2,N3,N4,N5,N6,N7,I1,I2,I3,I4,I5,I6,I7,reduceIte,reduceCtorEq]) ?_
 simp only[af37,PP,P1,P2,P3,P4,P5,P6,P7,P8,P9,P10,P11,P12,P13,P14,L1,P15,N1,N2,N3,N4,N5,N6,N7,I1,I2,I3,I4,I5,I6,I7,reduceIte,reduceCtorEq]
 refine loop2 (fun(k:Nat) (last:Int)=>k≤xs.length∧K (.bool (posM n last (xs.drop k))) M) (fun k last=>[Zj,p64 n,Zj,Zj,Zj,p64 last,Zj,Zj,slI f o .i64 xs,p64 xs.length,p64 k,Zj,Zj,Zj,Zj,Zj,Zj,Zj,Zj,Zj,Zj,Zj,Zj,Zj]) (fun _ _=>[]) (fun k _=>xs.length-k) 0 (-1) ⟨by omega,hk⟩ (by simp only[PW]) rfl ?_
 intro k last ⟨hk,hq⟩ ih
 refine q15 (by kernel_rfl) ?_
 simp only[PP,P1,P2,P3,P4,P5,P6,P7,P8,P9,P10,P11,P12,P13,P14,L1,P15,N1,N2,N3,N4,N5,N6,N7,I1,I2,I3,I4,I5,I6,I7,reduceIte,reduceCtorEq]
 refine QIf.intro (fun c=>?_) (fun c=>?_)
 ·have hk':k<xs.length:=by omega
  rw[drop_get' hk']at hq
  have hw:=q12 (k:=k) (by omega)
  have hg:xs[k]? =some xs[k]:=List.getElem?_eq_getElem hk'
  have h0:(0:Int)≤k:=by omega
  simp only[PP,P1,P2,P3,P4,P5,P6,P7,P8,P9,P10,P11,P12,P13,P14,L1,P15,N1,N2,N3,N4,N5,N6,N7,I1,I2,I3,I4,I5,I6,I7,reduceIte,reduceCtorEq,posM,c,hg,hw,h0]at hq ⊢
  refine QIf.intro (fun h1=>?_) (fun h1=>?_)
  ·simp only[PP,P1,P2,P3,P4,P5,P6,P7,P8,P9,P10,P11,P12,P13,P14,L1,P15,N1,N2,N3,N4,N5,N6,N7,I1,I2,I3,I4,I5,I6,I7,reduceIte,reduceCtorEq,h1]at hq ⊢
   exact hq
  ·simp only[PP,P1,P2,P3,P4,P5,P6,P7,P8,P9,P10,P11,P12,P13,P14,L1,P15,N1,N2,N3,N4,N5,N6,N7,I1,I2,I3,I4,I5,I6,I7,reduceIte,reduceCtorEq,h1]at hq ⊢
   refine QIf.intro (fun h2=>?_) (fun h2=>?_)
   ·simp only[PP,P1,P2,P3,P4,P5,P6,P7,P8,P9,P10,P11,P12,P13,P14,L1,P15,N1,N2,N3,N4,N5,N6,N7,I1,I2,I3,I4,I5,I6,I7,reduceIte,reduceCtorEq,h2]at hq ⊢
    exact hq
   ·simp only[PP,P1,P2,P3,P4,P5,P6,P7,P8,P9,P10,P11,P12,P13,P14,L1,P15,N1,N2,N3,N4,N5,N6,N7,I1,I2,I3,I4,I5,I6,I7,reduceIte,reduceCtorEq,h2,hw]at hq ⊢
    exact q8 (ih (k+1) _ ⟨by omega,hq⟩ (by omega)) (by simp only[PW])
 ·simp only[PP,P1,P2,P3,P4,P5,P6,P7,P8,P9,P10,P11,P12,P13,P14,L1,P15,N1,N2,N3,N4,N5,N6,N7,I1,I2,I3,I4,I5,I6,I7,reduceIte,reduceCtorEq,c]
  rw[List.drop_eq_nil_of_le (by omega)]at hq
  exact hq
abbrev gmP (f1 o1 f2 o2 f3 o3 f4 o4:Bool) (ow pr:List Int) (su:List (List Int)):PV:= .agg [slI f1 o1 .u8 ow,slI f2 o2 .i64 pr,slR f3 o3 f4 o4 .i64 su]
structure Bnd (ow pr:List Int) (su:List (List Int)):Prop where
 o:ow.length<big
 p:pr.length<big
 s:su.length<big
 r:∀row∈su,row.length<big
def checkLoop (ow pr:List Int):Nat→List (List Int)→Int
 | _,[]=>0
 | k,row::rest=>if 1<ow.getD k 0 then 6 else if pr.getD k 0<0 then 1 else if 16<pr.getD k 0 then 1 else if(row.length:Int)=0 then 13 else if posM ow.length (-1) row=false then 8 else checkLoop ow pr (k+1) rest
def q37 (ow pr:List Int) (su:List (List Int)):Int:=
 if(ow.length:Int)=0 then 3 else if 4096<(ow.length:Int) then 10 else if(pr.length:Int)=ow.length then(if(su.length:Int)=ow.length then checkLoop ow pr 0 su else 2) else 2
omit T in
theorem checkM_len {ow pr:List Int} {su:List (List Int)} (h:q37 ow pr su=0):0<ow.length∧ow.length≤4096∧pr.length=ow.length∧su.length=ow.length∧checkLoop ow pr 0 su=0:=by
 unfold q37 at h
 split at h
 ·simp at h
 ·split at h
  ·simp at h
  ·split at h
   ·split at h
    ·exact⟨by omega,by omega,by omega,by omega,h⟩
    ·simp at h
   ·simp at h
theorem check_p {M:Mem} {K:PV→Mem→Prop} {f1 o1 f2 o2 f3 o3 f4 o4:Bool} {ow pr:List Int} {su:List (List Int)} (B:Bnd ow pr su) (hq:K (p64 (q37 ow pr su)) M):
  SemC tab 18 [gmP f1 o1 f2 o2 f3 o3 f4 o4 ow pr su] M K:=by
 refine q11 T.h18 (by simp only[PP,P1,P2,P3,P4,P5,P6,P7,P8,P9,P10,P11,P12,P13,P14,L1,P15,N1,N2,N3,N4,N5,N6,N7,I1,I2,I3,I4,I5,I6,I7,reduceIte,reduceCtorEq]) ?_
 simp only[af18,PP,P1,P2,P3,P4,P5,P6,P7,P8,P9,P10,P11,P12,P13,P14,L1,P15,N1,N2,N3,N4,N5,N6,N7,I1,I2,I3,I4,I5,I6,I7,reduceIte,reduceCtorEq,q37]at hq ⊢
 refine QIf.intro (fun c1=>?_) (fun c1=>?_)
 ·simp only[PP,P1,P2,P3,P4,P5,P6,P7,P8,P9,P10,P11,P12,P13,P14,L1,P15,N1,N2,N3,N4,N5,N6,N7,I1,I2,I3,I4,I5,I6,I7,reduceIte,reduceCtorEq,c1]at hq ⊢
  exact hq
 simp only[PP,P1,P2,P3,P4,P5,P6,P7,P8,P9,P10,P11,P12,P13,P14,L1,P15,N1,N2,N3,N4,N5,N6,N7,I1,I2,I3,I4,I5,I6,I7,reduceIte,reduceCtorEq,c1]at hq ⊢
 refine QIf.intro (fun c2=>?_) (fun c2=>?_)
 ·simp only[PP,P1,P2,P3,P4,P5,P6,P7,P8,P9,P10,P11,P12,P13,P14,L1,P15,N1,N2,N3,N4,N5,N6,N7,I1,I2,I3,I4,I5,I6,I7,reduceIte,reduceCtorEq,c2]at hq ⊢
  exact hq
 simp only[PP,P1,P2,P3,P4,P5,P6,P7,P8,P9,P10,P11,P12,P13,P14,L1,P15,N1,N2,N3,N4,N5,N6,N7,I1,I2,I3,I4,I5,I6,I7,reduceIte,reduceCtorEq,c2]at hq ⊢
 refine QIf.intro (fun c3=>?_) (fun c3=>?_)
 rotate_left
 ·simp only[PP,P1,P2,P3,P4,P5,P6,P7,P8,P9,P10,P11,P12,P13,P14,L1,P15,N1,N2,N3,N4,N5,N6,N7,I1,I2,I3,I4,I5,I6,I7,reduceIte,reduceCtorEq,c3]at hq ⊢
  exact hq
 simp only[PP,P1,P2,P3,P4,P5,P6,P7,P8,P9,P10,P11,P12,P13,P14,L1,P15,N1,N2,N3,N4,N5,N6,N7,I1,I2,I3,I4,I5,I6,I7,reduceIte,reduceCtorEq,c3]at hq ⊢
 refine QIf.intro (fun c4=>?_) (fun c4=>?_)
 rotate_left
 ·simp only[PP,P1,P2,P3,P4,P5,P6,P7,P8,P9,P10,P11,P12,P13,P14,L1,P15,N1,N2,N3,N4,N5,N6,N7,I1,I2,I3,I4,I5,I6,I7,reduceIte,reduceCtorEq,c4]at hq ⊢
  exact hq
 simp only[PP,P1,P2,P3,P4,P5,P6,P7,P8,P9,P10,P11,P12,P13,P14,L1,P15,N1,N2,N3,N4,N5,N6,N7,I1,I2,I3,I4,I5,I6,I7,reduceIte,reduceCtorEq,c4]at hq ⊢
 have d4:su.length=ow.length:=by omega
 refine loop1 (fun(k:Nat)=>k≤su.length∧K (p64 (checkLoop ow pr k (su.drop k))) M) (fun k=>[Zj,.ptr 0 0 0,Zj,p64 ow.length,Zj,Zj,Zj,Zj,Zj,Zj,Zj,Zj,Zj,Zj,Zj,Zj,Zj,Zj,Zj,Zj,Zj,Zj,Zj,Zj,Zj,Zj,Zj,Zj,Zj,slR f3 o3 f4 o4 .i64 su,p64 ow.length,p64 k,Zj,Zj,Zj,Zj,Zj,Zj,Zj,Zj,Zj,Zj,Zj,Zj,Zj,Zj,Zj,Zj,Zj,Zj,Zj,Zj,Zj,Zj,Zj,Zj,Zj,Zj,Zj,Zj,Zj,Zj,Zj,Zj,Zj,Zj,Zj,Zj]) (fun _=>[.cells 0 0 [slI f1 o1 .u8 ow,slI f2 o2 .i64 pr,slR f3 o3 f4 o4 .i64 su]]) (fun k=>su.length-k) 0 ⟨by omega,hq⟩ (by simp only[PW,Int.cast_ofNat_Int,d4]) rfl ?_
 intro k ⟨hle,hq⟩ ih
 refine q15 (by kernel_rfl) ?_
 simp only[PP,P1,P2,P3,P4,P5,P6,P7,P8,P9,P10,P11,P12,P13,P14,L1,P15,N1,N2,N3,N4,N5,N6,N7,I1,I2,I3,I4,I5,I6,I7,reduceIte,reduceCtorEq]
 refine QIf.intro (fun c=>?_) (fun c=>?_)
 ·have hk':k<su.length:=by omega
  have g1:su[k]? =some su[k]:=List.getElem?_eq_getElem hk'
  have g2:ow[k]? =some ow[k]:=List.getElem?_eq_getElem (by omega)
  have g3:pr[k]? =some pr[k]:=List.getElem?_eq_getElem (by omega)
  have h0:(0:Int)≤k:=by omega
  have hw:=q12 (k:=k) (by have:=B.s;omega)
  have e2:ow.getD k 0=ow[k]:=by simp[List.getD,g2]
  have e3:pr.getD k 0=pr[k]:=by simp[List.getD,g3]
  rw[drop_get' hk']at hq
  have hks:(k:Int)<su.length:=by omega
  have hkp:(k:Int)<pr.length:=by omega
  simp only[PP,P1,P2,P3,P4,P5,P6,P7,P8,P9,P10,P11,P12,P13,P14,L1,P15,N1,N2,N3,N4,N5,N6,N7,I1,I2,I3,I4,I5,I6,I7,reduceIte,reduceCtorEq,checkLoop,c,g1,g2,g3,h0,e2,e3,hks,hkp]at hq ⊢
  refine QIf.intro (fun h1=>?_) (fun h1=>?_)
  ·simp only[PP,P1,P2,P3,P4,P5,P6,P7,P8,P9,P10,P11,P12,P13,P14,L1,P15,N1,N2,N3,N4,N5,N6,N7,I1,I2,I3,I4,I5,I6,I7,reduceIte,reduceCtorEq,h1]at hq ⊢
   exact hq
  simp only[PP,P1,P2,P3,P4,P5,P6,P7,P8,P9,P10,P11,P12,P13,P14,L1,P15,N1,N2,N3,N4,N5,N6,N7,I1,I2,I3,I4,I5,I6,I7,reduceIte,reduceCtorEq,h1,g3,hkp,h0]at hq ⊢
  refine QIf.intro (fun h2=>?_) (fun h2=>?_)
  ·simp only[PP,P1,P2,P3,P4,P5,P6,P7,P8,P9,P10,P11,P12,P13,P14,L1,P15,N1,N2,N3,N4,N5,N6,N7,I1,I2,I3,I4,I5,I6,I7,reduceIte,reduceCtorEq,h2]at hq ⊢
   exact hq
  simp only[PP,P1,P2,P3,P4,P5,P6,P7,P8,P9,P10,P11,P12,P13,P14,L1,P15,N1,N2,N3,N4,N5,N6,N7,I1,I2,I3,I4,I5,I6,I7,reduceIte,reduceCtorEq,h2,g3,hkp,h0]at hq ⊢
  refine QIf.intro (fun h3=>?_) (fun h3=>?_)
  ·simp only[PP,P1,P2,P3,P4,P5,P6,P7,P8,P9,P10,P11,P12,P13,P14,L1,P15,N1,N2,N3,N4,N5,N6,N7,I1,I2,I3,I4,I5,I6,I7,reduceIte,reduceCtorEq,h3]at hq ⊢
   exact hq
  simp only[PP,P1,P2,P3,P4,P5,P6,P7,P8,P9,P10,P11,P12,P13,P14,L1,P15,N1,N2,N3,N4,N5,N6,N7,I1,I2,I3,I4,I5,I6,I7,reduceIte,reduceCtorEq,h3]at hq ⊢
  refine QIf.intro (fun h4=>?_) (fun h4=>?_)
  ·simp only[PP,P1,P2,P3,P4,P5,P6,P7,P8,P9,P10,P11,P12,P13,P14,L1,P15,N1,N2,N3,N4,N5,N6,N7,I1,I2,I3,I4,I5,I6,I7,reduceIte,reduceCtorEq,h4]at hq ⊢
   exact hq
  simp only[PP,P1,P2,P3,P4,P5,P6,P7,P8,P9,P10,P11,P12,P13,P14,L1,P15,N1,N2,N3,N4,N5,N6,N7,I1,I2,I3,I4,I5,I6,I7,reduceIte,reduceCtorEq,h4]at hq ⊢
  refine positions_p T (B.r _ (List.getElem_mem hk')) ?_
  simp only[PP,P1,P2,P3,P4,P5,P6,P7,P8,P9,P10,P11,P12,P13,P14,L1,P15,N1,N2,N3,N4,N5,N6,N7,I1,I2,I3,I4,I5,I6,I7,reduceIte,reduceCtorEq]
  by_cases h5:posM ow.length (-1) su[k]=true
  ·simp only[PP,P1,P2,P3,P4,P5,P6,P7,P8,P9,P10,P11,P12,P13,P14,L1,P15,N1,N2,N3,N4,N5,N6,N7,I1,I2,I3,I4,I5,I6,I7,reduceIte,reduceCtorEq,h5,hw]at hq ⊢
   exact q8 (ih (k+1) ⟨by omega,hq⟩ (by omega)) (by simp only[PW])
  ·simp only[PP,P1,P2,P3,P4,P5,P6,P7,P8,P9,P10,P11,P12,P13,P14,L1,P15,N1,N2,N3,N4,N5,N6,N7,I1,I2,I3,I4,I5,I6,I7,reduceIte,reduceCtorEq,h5]at hq ⊢
   exact hq
 ·simp only[PP,P1,P2,P3,P4,P5,P6,P7,P8,P9,P10,P11,P12,P13,P14,L1,P15,N1,N2,N3,N4,N5,N6,N7,I1,I2,I3,I4,I5,I6,I7,reduceIte,reduceCtorEq,c]
  rw[List.drop_eq_nil_of_le (by omega)]at hq
  exact hq
end
section
variable {tab:FuncId→Option AF} (T:HasA tab)
include T
theorem equalBytes_p {M:Mem} {K:PV→Mem→Prop} {f o f' o':Bool} {xs ys:List Int} (hm:xs.length<big) (hk:K (.bool (decide (xs=ys))) M):
  SemC tab 11 [slI f o .u8 xs,slI f' o' .u8 ys] M K:=by
 refine q11 T.h11 (by simp only[PP,P1,P2,P3,P4,P5,P6,P7,P8,P9,P10,P11,P12,P13,P14,L1,P15,N1,N2,N3,N4,N5,N6,N7,I1,I2,I3,I4,I5,I6,I7,reduceIte,reduceCtorEq]) ?_
 simp only[af11,PP,P1,P2,P3,P4,P5,P6,P7,P8,P9,P10,P11,P12,P13,P14,L1,P15,N1,N2,N3,N4,N5,N6,N7,I1,I2,I3,I4,I5,I6,I7,reduceIte,reduceCtorEq]
 refine QIf.intro (fun c1=>?_) (fun c1=>?_)
 ·simp only[PP,P1,P2,P3,P4,P5,P6,P7,P8,P9,P10,P11,P12,P13,P14,L1,P15,N1,N2,N3,N4,N5,N6,N7,I1,I2,I3,I4,I5,I6,I7,reduceIte,reduceCtorEq,c1]
  have hl:xs.length=ys.length:=by omega
  refine loop1 (fun(k:Nat)=>k≤xs.length∧K (.bool (decide (xs.drop k=ys.drop k))) M) (fun k=>[slI f o .u8 xs,slI f' o' .u8 ys,Zj,Zj,Zj,p64 k,Zj,Zj,Zj,Zj,Zj,Zj,Zj,Zj,Zj,Zj,Zj,Zj,Zj,Zj,Zj,Zj,Zj,Zj,Zj,Zj]) (fun _=>[]) (fun k=>xs.length-k) 0 ⟨by omega,hk⟩ (by simp only[PW]) rfl ?_
  intro k ⟨hle,hq⟩ ih
  refine q15 (by kernel_rfl) ?_
  simp only[PP,P1,P2,P3,P4,P5,P6,P7,P8,P9,P10,P11,P12,P13,P14,L1,P15,N1,N2,N3,N4,N5,N6,N7,I1,I2,I3,I4,I5,I6,I7,reduceIte,reduceCtorEq]
  refine QIf.intro (fun c=>?_) (fun c=>?_)
  ·have hk':k<xs.length:=by omega
   have hk2:k<ys.length:=by omega
   rw[drop_get' hk',drop_get' hk2]at hq
   have hw:=q12 (k:=k) (by omega)
   have g1:xs[k]? =some xs[k]:=List.getElem?_eq_getElem hk'
   have g2:ys[k]? =some ys[k]:=List.getElem?_eq_getElem hk2
   have h0:(0:Int)≤k:=by omega
   have cy:(k:Int)<ys.length:=by omega
   simp only[PP,P1,P2,P3,P4,P5,P6,P7,P8,P9,P10,P11,P12,P13,P14,L1,P15,N1,N2,N3,N4,N5,N6,N7,I1,I2,I3,I4,I5,I6,I7,reduceIte,reduceCtorEq,c,g1,g2,hw,h0,cy]at hq ⊢
   refine QIf.intro (fun h1=>?_) (fun h1=>?_)
   ·simp only[PP,P1,P2,P3,P4,P5,P6,P7,P8,P9,P10,P11,P12,P13,P14,L1,P15,N1,N2,N3,N4,N5,N6,N7,I1,I2,I3,I4,I5,I6,I7,reduceIte,reduceCtorEq,h1,hw,List.cons.injEq]at hq ⊢
    exact q8 (ih (k+1) ⟨by omega,hq⟩ (by omega)) (by simp only[PW])
   ·simp only[PP,P1,P2,P3,P4,P5,P6,P7,P8,P9,P10,P11,P12,P13,P14,L1,P15,N1,N2,N3,N4,N5,N6,N7,I1,I2,I3,I4,I5,I6,I7,reduceIte,reduceCtorEq,h1,List.cons.injEq]at hq ⊢
    exact hq
  ·simp only[PP,P1,P2,P3,P4,P5,P6,P7,P8,P9,P10,P11,P12,P13,P14,L1,P15,N1,N2,N3,N4,N5,N6,N7,I1,I2,I3,I4,I5,I6,I7,reduceIte,reduceCtorEq,c]
   rw[List.drop_eq_nil_of_le (by omega),List.drop_eq_nil_of_le (by omega)]at hq
   simp only[PP,P1,P2,P3,P4,P5,P6,P7,P8,P9,P10,P11,P12,P13,P14,L1,P15,N1,N2,N3,N4,N5,N6,N7,I1,I2,I3,I4,I5,I6,I7,reduceIte,reduceCtorEq]at hq
   exact hq
 ·simp only[PP,P1,P2,P3,P4,P5,P6,P7,P8,P9,P10,P11,P12,P13,P14,L1,P15,N1,N2,N3,N4,N5,N6,N7,I1,I2,I3,I4,I5,I6,I7,reduceIte,reduceCtorEq,c1]
  have hne:¬xs=ys:=by rintro rfl;exact c1 rfl
  simp only[PP,P1,P2,P3,P4,P5,P6,P7,P8,P9,P10,P11,P12,P13,P14,L1,P15,N1,N2,N3,N4,N5,N6,N7,I1,I2,I3,I4,I5,I6,I7,reduceIte,reduceCtorEq,hne]at hk
  exact hk
end
section
variable {tab:FuncId→Option AF} (T:HasA tab)
include T
end
def anyLong:List (List Int)→Bool
 | []=>false
 | r::l=>if 40<(r.length:Int) then true else anyLong l
def longM (ow pr:List Int) (su ls:List (List Int)):Bool:=
 if 30<(ow.length:Int) then true else if 40<(pr.length:Int) then true else if 40<(su.length:Int) then true else if anyLong su=true then true else anyLong ls
theorem anyLong_false:∀{l:List (List Int)},anyLong l=false→∀r∈l,r.length≤40
 | [],h,r,hr=>by cases hr
 | x::l,h,r,hr=>by
  unfold anyLong at h
  split at h
  ·cases h
  ·rcases List.mem_cons.1 hr with rfl | hr
   ·omega
   ·exact anyLong_false h r hr
structure Short (ow pr:List Int) (su ls:List (List Int)):Prop where
 o:ow.length≤30
 p:pr.length≤40
 s:su.length≤40
 r:∀row∈su,row.length≤40
 l:∀row∈ls,row.length≤40
theorem longM_false {ow pr:List Int} {su ls:List (List Int)} (h:longM ow pr su ls=false):Short ow pr su ls:=by
 unfold longM at h
 split at h
 ·cases h
 ·split at h
  ·cases h
  ·split at h
   ·cases h
   ·split at h
    ·cases h
    ·rename_i h4
     exact⟨by omega,by omega,by omega,anyLong_false (by simpa using h4),anyLong_false h⟩
theorem Short.bnd {ow pr:List Int} {su ls:List (List Int)} (h:Short ow pr su ls):Bnd ow pr su:=by
 obtain⟨h1,h2,h3,h4,h5⟩:=h
 exact⟨by show _<1000000000000;omega,by show _<1000000000000;omega,by show _<1000000000000;omega,fun r hr=>by show _<1000000000000;have:=h4 r hr;omega⟩
section
variable {tab:FuncId→Option AF} (T:HasA tab)
include T
theorem long_p {M:Mem} {K:PV→Mem→Prop} {f1 o1 f2 o2 f3 o3 f4 o4 f5 o5 f6 o6:Bool} {ow pr:List Int} {su ls:List (List Int)} (hl:ls.length<big) (hq:K (.bool (longM ow pr su ls)) M):
  SemC tab 12 [gmP f1 o1 f2 o2 f3 o3 f4 o4 ow pr su,slR f5 o5 f6 o6 .i64 ls] M K:=by
 refine q11 T.h12 (by simp only[PP,P1,P2,P3,P4,P5,P6,P7,P8,P9,P10,P11,P12,P13,P14,L1,P15,N1,N2,N3,N4,N5,N6,N7,I1,I2,I3,I4,I5,I6,I7,reduceIte,reduceCtorEq]) ?_
 simp only[af12,PP,P1,P2,P3,P4,P5,P6,P7,P8,P9,P10,P11,P12,P13,P14,L1,P15,N1,N2,N3,N4,N5,N6,N7,I1,I2,I3,I4,I5,I6,I7,reduceIte,reduceCtorEq,longM]at hq ⊢
 refine QIf.intro (fun c1=>?_) (fun c1=>?_)
 ·simp only[PP,P1,P2,P3,P4,P5,P6,P7,P8,P9,P10,P11,P12,P13,P14,L1,P15,N1,N2,N3,N4,N5,N6,N7,I1,I2,I3,I4,I5,I6,I7,reduceIte,reduceCtorEq,c1]at hq ⊢
  exact hq
 simp only[PP,P1,P2,P3,P4,P5,P6,P7,P8,P9,P10,P11,P12,P13,P14,L1,P15,N1,N2,N3,N4,N5,N6,N7,I1,I2,I3,I4,I5,I6,I7,reduceIte,reduceCtorEq,c1]at hq ⊢
 refine QIf.intro (fun c2=>?_) (fun c2=>?_)
 ·simp only[PP,P1,P2,P3,P4,P5,P6,P7,P8,P9,P10,P11,P12,P13,P14,L1,P15,N1,N2,N3,N4,N5,N6,N7,I1,I2,I3,I4,I5,I6,I7,reduceIte,reduceCtorEq,c2]at hq ⊢
  exact hq
 simp only[PP,P1,P2,P3,P4,P5,P6,P7,P8,P9,P10,P11,P12,P13,P14,L1,P15,N1,N2,N3,N4,N5,N6,N7,I1,I2,I3,I4,I5,I6,I7,reduceIte,reduceCtorEq,c2]at hq ⊢
 refine QIf.intro (fun c3=>?_) (fun c3=>?_)
 ·simp only[PP,P1,P2,P3,P4,P5,P6,P7,P8,P9,P10,P11,P12,P13,P14,L1,P15,N1,N2,N3,N4,N5,N6,N7,I1,I2,I3,I4,I5,I6,I7,reduceIte,reduceCtorEq,c3]at hq ⊢
  exact hq
 simp only[PP,P1,P2,P3,P4,P5,P6,P7,P8,P9,P10,P11,P12,P13,P14,L1,P15,N1,N2,N3,N4,N5,N6,N7,I1,I2,I3,I4,I5,I6,I7,reduceIte,reduceCtorEq,c3]at hq ⊢
 refine loop1 (fun(k:Nat)=>k≤su.length∧K (.bool (if anyLong (su.drop k)=true then true else anyLong ls)) M) (fun k=>[Zj,slR f5 o5 f6 o6 .i64 ls,.ptr 0 0 0,Zj,Zj,p64 k,Zj,Zj,Zj,Zj,Zj,Zj,Zj,Zj,Zj,Zj,Zj,Zj,Zj,Zj,Zj,Zj,Zj,Zj,Zj,Zj,Zj,Zj,Zj,Zj,Zj,Zj,Zj,Zj,Zj,Zj,Zj,Zj,Zj,Zj,Zj,Zj,Zj,Zj,Zj,Zj,Zj,Zj,Zj]) (fun _=>[.cells 0 0 [slI f1 o1 .u8 ow,slI f2 o2 .i64 pr,slR f3 o3 f4 o4 .i64 su]]) (fun k=>su.length-k) 0 ⟨by omega,hq⟩ (by simp only[PW]) rfl ?_
 intro k ⟨hle,hq⟩ ih
 refine q15 (by kernel_rfl) ?_
 simp only[PP,P1,P2,P3,P4,P5,P6,P7,P8,P9,P10,P11,P12,P13,P14,L1,P15,N1,N2,N3,N4,N5,N6,N7,I1,I2,I3,I4,I5,I6,I7,reduceIte,reduceCtorEq]
 refine QIf.intro (fun c=>?_) (fun c=>?_)
 ·have hk':k<su.length:=by omega
  have g1:su[k]? =some su[k]:=List.getElem?_eq_getElem hk'
  have h0:(0:Int)≤k:=by omega
  have hw:=q12 (k:=k) (by show k<1000000000000;omega)
  rw[drop_get' hk']at hq
  simp only[PP,P1,P2,P3,P4,P5,P6,P7,P8,P9,P10,P11,P12,P13,P14,L1,P15,N1,N2,N3,N4,N5,N6,N7,I1,I2,I3,I4,I5,I6,I7,reduceIte,reduceCtorEq,c,g1,h0,anyLong]at hq ⊢
  refine QIf.intro (fun h1=>?_) (fun h1=>?_)
  ·simp only[PP,P1,P2,P3,P4,P5,P6,P7,P8,P9,P10,P11,P12,P13,P14,L1,P15,N1,N2,N3,N4,N5,N6,N7,I1,I2,I3,I4,I5,I6,I7,reduceIte,reduceCtorEq,h1]at hq ⊢
   exact hq
  simp only[PP,P1,P2,P3,P4,P5,P6,P7,P8,P9,P10,P11,P12,P13,P14,L1,P15,N1,N2,N3,N4,N5,N6,N7,I1,I2,I3,I4,I5,I6,I7,reduceIte,reduceCtorEq,h1,hw]at hq ⊢
  exact q8 (ih (k+1) ⟨by omega,hq⟩ (by omega)) (by simp only[PW])
 ·rw[List.drop_eq_nil_of_le (by omega)]at hq
  simp only[PP,P1,P2,P3,P4,P5,P6,P7,P8,P9,P10,P11,P12,P13,P14,L1,P15,N1,N2,N3,N4,N5,N6,N7,I1,I2,I3,I4,I5,I6,I7,reduceIte,reduceCtorEq,c,anyLong]at hq ⊢
  refine loop1 (fun(k:Nat)=>k≤ls.length∧K (.bool (anyLong (ls.drop k))) M) (fun k=>[Zj,slR f5 o5 f6 o6 .i64 ls,Zj,Zj,Zj,Zj,p64 k,Zj,Zj,Zj,Zj,Zj,Zj,Zj,Zj,Zj,Zj,Zj,Zj,Zj,Zj,Zj,Zj,Zj,Zj,Zj,Zj,Zj,Zj,Zj,Zj,Zj,Zj,Zj,Zj,Zj,Zj,Zj,Zj,Zj,Zj,Zj,Zj,Zj,Zj,Zj,Zj,Zj,Zj]) (fun _=>[.cells 0 0 [slI f1 o1 .u8 ow,slI f2 o2 .i64 pr,slR f3 o3 f4 o4 .i64 su]]) (fun k=>ls.length-k) 0 ⟨by omega,hq⟩ (by simp only[PW]) rfl ?_
  intro k ⟨hle,hq⟩ ih
  refine q15 (by kernel_rfl) ?_
  simp only[PP,P1,P2,P3,P4,P5,P6,P7,P8,P9,P10,P11,P12,P13,P14,L1,P15,N1,N2,N3,N4,N5,N6,N7,I1,I2,I3,I4,I5,I6,I7,reduceIte,reduceCtorEq]
  refine QIf.intro (fun c=>?_) (fun c=>?_)
  ·have hk':k<ls.length:=by omega
   have g1:ls[k]? =some ls[k]:=List.getElem?_eq_getElem hk'
   have h0:(0:Int)≤k:=by omega
   have hw:=q12 (k:=k) (by omega)
   rw[drop_get' hk']at hq
   simp only[PP,P1,P2,P3,P4,P5,P6,P7,P8,P9,P10,P11,P12,P13,P14,L1,P15,N1,N2,N3,N4,N5,N6,N7,I1,I2,I3,I4,I5,I6,I7,reduceIte,reduceCtorEq,c,g1,h0,anyLong]at hq ⊢
   refine QIf.intro (fun h1=>?_) (fun h1=>?_)
   ·simp only[PP,P1,P2,P3,P4,P5,P6,P7,P8,P9,P10,P11,P12,P13,P14,L1,P15,N1,N2,N3,N4,N5,N6,N7,I1,I2,I3,I4,I5,I6,I7,reduceIte,reduceCtorEq,h1]at hq ⊢
    exact hq
   simp only[PP,P1,P2,P3,P4,P5,P6,P7,P8,P9,P10,P11,P12,P13,P14,L1,P15,N1,N2,N3,N4,N5,N6,N7,I1,I2,I3,I4,I5,I6,I7,reduceIte,reduceCtorEq,h1,hw]at hq ⊢
   exact q8 (ih (k+1) ⟨by omega,hq⟩ (by omega)) (by simp only[PW])
  ·rw[List.drop_eq_nil_of_le (by omega)]at hq
   simp only[PP,P1,P2,P3,P4,P5,P6,P7,P8,P9,P10,P11,P12,P13,P14,L1,P15,N1,N2,N3,N4,N5,N6,N7,I1,I2,I3,I4,I5,I6,I7,reduceIte,reduceCtorEq,c,anyLong]at hq ⊢
   exact hq
end
abbrev gz:PV:= .agg [.nils,.nils,.nils]
theorem checkLoop_row {ow pr:List Int} :∀{su:List (List Int)} {k:Nat},checkLoop ow pr k su=0→∀(i:Nat) (hi:i<su.length),0≤pr.getD (k+i) 0∧pr.getD (k+i) 0≤16∧ow.getD (k+i) 0≤1∧0<su[i].length∧posM ow.length (-1) su[i]=true
 | [],k,h,i,hi=>by simp at hi
 | row::su,k,h,i,hi=>by
  unfold checkLoop at h
  split at h
  ·simp at h
  ·split at h
   ·simp at h
   ·split at h
    ·simp at h
    ·split at h
     ·simp at h
     ·split at h
      ·simp at h
      ·rename_i h1 h2 h3 h4 h5
       cases i with
       | zero=>exact⟨by simpa using h2,by simpa using h3,by simpa using h1,by simp only[List.getElem_cons_zero];omega,by simpa using h5⟩
       | succ i=>
        have:=checkLoop_row h i (by simpa using hi)
        simpa [Nat.add_assoc,Nat.add_comm 1 i] using this
structure Valid (ow pr:List Int) (su:List (List Int)):Prop where
 n0:0<ow.length
 n1:ow.length≤4096
 p:pr.length=ow.length
 s:su.length=ow.length
 row:∀(i:Nat) (hi:i<su.length),0≤pr.getD i 0∧pr.getD i 0≤16∧ow.getD i 0≤1∧0<su[i].length∧posM ow.length (-1) su[i]=true
theorem q25 {ow pr:List Int} {su:List (List Int)} (h:q37 ow pr su=0):Valid ow pr su:=by
 obtain⟨h1,h2,h3,h4,h5⟩:=checkM_len h
 exact⟨h1,h2,h3,h4,fun i hi=>by simpa using checkLoop_row h5 i hi⟩
theorem wk_attr (e:Int):PvWk (.tuple [.nils,.nils,p64 e]) (.tuple [slI false true .i64 [],slI false true .i64 [],p64 e]):=by
 refine PvWk.tuple rfl fun i y z h1 h2=>?_
 match i with
 | 0=>cases h1;cases h2;exact PvWk.nils _ _ _
 | 1=>cases h1;cases h2;exact PvWk.nils _ _ _
 | 2=>cases h1;cases h2;exact PvWk.refl _
 | i+3=>simp at h1
theorem nodup_lenN:∀(n:Nat) (l:List Nat),l.Nodup→(∀x∈l,x<n)→l.length≤n
 | 0,l,_,h=>by
  cases l with
  | nil=>simp
  | cons x l=>have:=h x (by simp);omega
 | n+1,l,hd,h=>by
  have:=nodup_lenN n (l.filter fun x=>x !=n) (hd.filter _) (fun x hx=>by
   rw[List.mem_filter]at hx
   have:=h x hx.1
   have:x≠n:=by simpa using hx.2
   omega)
  have h2:l.length≤(l.filter fun x=>x !=n).length+1:=by
   clear this h
   induction l with
   | nil=>simp
   | cons x l ih=>
    rw[List.nodup_cons]at hd
    by_cases e:x=n
    ·subst e
     have:l.filter (fun y=>y !=x)=l:=by
      rw[List.filter_eq_self]
      intro y hy
      have:y≠x:=fun q=>hd.1 (q▸hy)
      simpa using this
     simp[this]
    ·have:=ih hd.2
     have hx:(x !=n)=true:=by simpa using e
     simp only[List.filter_cons,hx,if_true,List.length_cons]
     omega
  omega
theorem prem {k:IntKind} {x y:Int} (h:y≠0):pbin .rem (.int k x) (.int k y)=some (.int k (x.tmod y)):=by
 simp[pbin,toAV0,abin,q30,h,q63,binInt]
abbrev natI (l:List Nat):List Int:=l.map fun(v:Nat)=>(v:Int)
theorem mem_natI {l:List Nat} {v:Nat} :(v:Int)∈natI l↔v∈l:=by
 rw[List.mem_map]
 exact⟨fun⟨a,h1,h2⟩=>by rw[show v=a by omega];exact h1,fun h=>⟨v,h,rfl⟩⟩
theorem posM_rise {n:Int} :∀{l:List Int} {last:Int},posM n last l=true→l.Pairwise (· < ·)∧∀x∈l,last<x∧x<n
 | [],_,_=>⟨.nil,fun x hx=>by cases hx⟩
 | v::l,last,h=>by
  unfold posM at h
  split at h
  ·simp at h
  ·split at h
   ·simp at h
   ·obtain⟨h1,h2⟩:=posM_rise h
    refine⟨.cons (fun x hx=>(h2 x hx).1) h1,fun x hx=>?_⟩
    rcases List.mem_cons.1 hx with rfl | hx
    ·omega
    ·have:=h2 x hx;omega
theorem q43 {ow pr:List Int} {su:List (List Int)} (V:Valid ow pr su) {v:Nat} {u:Int} (hv:v<ow.length) (h:u∈su.getD v []):0≤u∧u<ow.length:=by
 have hvs:v<su.length:=by have:=V.s;omega
 obtain⟨_,_,_,_,hp⟩:=V.row v hvs
 rw[List.getD,List.getElem?_eq_getElem hvs]at h
 have:=(posM_rise hp).2 u h
 omega
theorem SemC_true {tab:FuncId→Option AF} {g:FuncId} (hg:tab g=some (.prim primTrue)) {M:Mem} {K:PV→Mem→Prop} (hk:K (.bool true) M):SemC tab g [] M K:=by
 intro w h args' h0 s ha
 have:args'=[]:=List.length_eq_zero_iff.1 (by simpa using ha.len.symm)
 subst this
 unfold C
 refine⟨.bool true,h,?_,w,.bool true,M,PStp.refl (Nat.le_refl _) w h,s,.bool true,hk⟩
 rw[lim_call]
 simp only[acallF,hg,primTrue]
theorem QIf_both {p A B G:Prop} {t:QTag A B} (h1:p→G→A) (h2:¬p→G→B) (g:G):QIf p A B t:=QIf.intro (fun c=>h1 c g) (fun c=>h2 c g)
section
variable {tab:FuncId→Option AF} (T:HasA tab)
include T
end
structure Ck where
 fn:FuncId
 cap:List PV
 e:Int
 P:Nat→Bool
def ckC (l:List Ck):List PV:=l.flatMap fun c=>[PV.func (.func c.fn) [] c.cap,p64 c.e]
theorem ckC_len (l:List Ck):(ckC l).length=l.length*2:=by
 unfold ckC
 induction l with
 | nil=>rfl
 | cons x l ih=>rw[List.flatMap_cons,List.length_append,ih];simp;omega
theorem ckC_sub:∀{l:List Ck} {k:Nat} {c:Ck},l[k]? =some c→psub (ckC l) (k*2) 2=[PV.func (.func c.fn) [] c.cap,p64 c.e]
 | x::l,0,c,h=>by simp at h;subst h;rfl
 | x::l,k+1,c,h=>by
  have:=ckC_sub (l:=l) (k:=k) (by simpa using h)
  rw[Nat.add_mul]
  exact this
 | [],k,c,h=>by simp at h
section
variable {tab:FuncId→Option AF} (T:HasA tab)
include T
theorem all_p {M:Mem} {K:PV→Mem→Prop} {f o:Bool} {n:Nat} {l:List Ck} (hn:n<1000000000000) (hl:l.length<1000000) (hu:q14 0 (ckC l)=true)
  (hf:∀c∈l,∀v,v<n→∀(M':Mem) (K':PV→Mem→Prop),K' (.bool (c.P v)) M'→SemC tab c.fn (p64 v::c.cap) M' K')
  (hk0:(∀v,v<n→∀c∈l,c.P v=true)→K (p64 0) M)
  (hk1:∀(v j:Nat) (c:Ck),v<n→(∀u,u<v→∀c∈l,c.P u=true)→l[j]? =some c→(∀(i:Nat) (d:Ck),i<j→l[i]? =some d→d.P v=true)→c.P v=false→K (p64 c.e) M):
  SemC tab 24 [p64 n,.sl f o 2 l.length (ckC l)] M K:=by
 refine q11 T.h24 (by simp only[PP,P1,P2,P3,P4,P5,P6,P7,P8,P9,P10,P11,P12,P13,P14,L1,P15,N1,N2,N3,N4,N5,N6,N7,I1,I2,I3,I4,I5,I6,I7,reduceIte,reduceCtorEq,PV.under,hu]) ?_
 simp only[af24,PP,P1,P2,P3,P4,P5,P6,P7,P8,P9,P10,P11,P12,P13,P14,L1,P15,N1,N2,N3,N4,N5,N6,N7,I1,I2,I3,I4,I5,I6,I7,reduceIte,reduceCtorEq]
 refine loop1 (fun(v:Nat)=>v≤n∧∀u,u<v→∀c∈l,c.P u=true) (fun v=>[Zj,.sl f o 2 l.length (ckC l),Zj,Zj,Zj,Zj,Zj,Zj,p64 n,p64 v,Zj,Zj,Zj,Zj,Zj,Zj,Zj,Zj,Zj,Zj,Zj,Zj,Zj,Zj,Zj,Zj,Zj]) (fun v=>[]) (fun v=>n-v) 0 ⟨by omega,fun u h=>by omega⟩ (by simp only[PW]) rfl ?_
 intro v ⟨hle,hv⟩ ih
 refine q15 (by kernel_rfl) ?_
 simp only[PP,P1,P2,P3,P4,P5,P6,P7,P8,P9,P10,P11,P12,P13,P14,L1,P15,N1,N2,N3,N4,N5,N6,N7,I1,I2,I3,I4,I5,I6,I7,reduceIte,reduceCtorEq]
 refine QIf.intro (fun c=>?_) (fun c=>?_)
 ·have hvn:v<n:=by omega
  have hwv:=q12 (k:=v) (by show _<1000000000000;omega)
  simp only[PP,P1,P2,P3,P4,P5,P6,P7,P8,P9,P10,P11,P12,P13,P14,L1,P15,N1,N2,N3,N4,N5,N6,N7,I1,I2,I3,I4,I5,I6,I7,reduceIte,reduceCtorEq,c]
  refine loop1 (fun(j:Nat)=>j≤l.length∧∀(i:Nat) (d:Ck),i<j→l[i]? =some d→d.P v=true) (fun j=>[Zj,.sl f o 2 l.length (ckC l),Zj,Zj,Zj,p64 v,Zj,Zj,p64 n,p64 v,Zj,Zj,.sl f o 2 l.length (ckC l),p64 l.length,p64 j,Zj,Zj,Zj,Zj,Zj,Zj,Zj,Zj,Zj,Zj,Zj,Zj]) (fun j=>[]) (fun j=>l.length-j) 0 ⟨by omega,fun u d h=>by omega⟩ (by simp only[PW]) rfl ?_
  intro j ⟨hlj,hj⟩ ih2
  refine q15 (by kernel_rfl) ?_
  simp only[PP,P1,P2,P3,P4,P5,P6,P7,P8,P9,P10,P11,P12,P13,P14,L1,P15,N1,N2,N3,N4,N5,N6,N7,I1,I2,I3,I4,I5,I6,I7,reduceIte,reduceCtorEq]
  refine QIf.intro (fun d=>?_) (fun d=>?_)
  ·have hjl:j<l.length:=by omega
   have j0:(0:Int)≤j:=by omega
   have hwj:=q12 (k:=j) (by show _<1000000000000;omega)
   obtain⟨ck,g⟩:=q9 (xs:=l) (k:=j) hjl
   have p1:=ckC_sub g
   have p2:j*2+2≤(ckC l).length:=by rw[ckC_len];omega
   have hm:=List.mem_of_getElem? g
   simp only[PP,P1,P2,P3,P4,P5,P6,P7,P8,P9,P10,P11,P12,P13,P14,L1,P15,N1,N2,N3,N4,N5,N6,N7,I1,I2,I3,I4,I5,I6,I7,reduceIte,reduceCtorEq,d,j0,p1,p2]
   refine hf ck hm v hvn _ _ ?_
   simp only[PP,P1,P2,P3,P4,P5,P6,P7,P8,P9,P10,P11,P12,P13,P14,L1,P15,N1,N2,N3,N4,N5,N6,N7,I1,I2,I3,I4,I5,I6,I7,reduceIte,reduceCtorEq]
   cases hp:ck.P v with
   | true=>
    simp only[PP,P1,P2,P3,P4,P5,P6,P7,P8,P9,P10,P11,P12,P13,P14,L1,P15,N1,N2,N3,N4,N5,N6,N7,I1,I2,I3,I4,I5,I6,I7,reduceIte,reduceCtorEq,hwj]
    have hcu:q14 0 ck.cap=true:=by
     have h1:∀l:List Ck,q14 0 (ckC l)=true→∀c∈l,q14 0 c.cap=true:=by
      intro l
      induction l with
      | nil=>intro _ c hc;cases hc
      | cons x l ih=>
       intro h c hc
       have h:q14 0 ([PV.func (.func x.fn) [] x.cap,p64 x.e]++ckC l)=true:=h
       rw[underL_append]at h
       simp only[underL_cons,underL_nil,under_func,Bool.and_eq_true]at h
       rcases List.mem_cons.1 hc with rfl | hc
       ·exact h.1.1.2
       ·exact ih h.2 c hc
     exact h1 l hu ck hm
    refine q41 (GStep.drop (b:=[Zj,.sl f o 2 l.length (ckC l),Zj,Zj,Zj,p64 v,Zj,Zj,p64 n,p64 v,Zj,Zj,.sl f o 2 l.length (ckC l),p64 l.length,p64 ((j+1:Nat):Int),Zj,Zj,Zj,Zj,Zj,Zj,Zj,Zj,Zj,Zj,Zj,Zj]) 0 (Nat.zero_le _) (by simp) (by simp only[PW]) (by simp only[PP,P1,P2,P3,P4,P5,P6,P7,P8,P9,P10,P11,P12,P13,P14,L1,P15,N1,N2,N3,N4,N5,N6,N7,I1,I2,I3,I4,I5,I6,I7,reduceIte,reduceCtorEq,PV.under,hu]) rfl rfl) ?_
    refine q19 (ih2 (j+1) ⟨hjl,fun i d' hi gi=>?_⟩ (by omega)) (by simp only[PW]) rfl
    by_cases e:i=j
    ·subst e;rw[g]at gi;cases gi;exact hp
    ·exact hj i d' (by omega) gi
   | false=>
    simp only[PP,P1,P2,P3,P4,P5,P6,P7,P8,P9,P10,P11,P12,P13,P14,L1,P15,N1,N2,N3,N4,N5,N6,N7,I1,I2,I3,I4,I5,I6,I7,reduceIte,reduceCtorEq]
    exact hk1 v j ck hvn hv g hj hp
  ·have hjl:j=l.length:=by omega
   subst hjl
   simp only[PP,P1,P2,P3,P4,P5,P6,P7,P8,P9,P10,P11,P12,P13,P14,L1,P15,N1,N2,N3,N4,N5,N6,N7,I1,I2,I3,I4,I5,I6,I7,reduceIte,reduceCtorEq,d,hwv]
   refine q8 (ih (v+1) ⟨hvn,fun u hu' c' hc=>?_⟩ (by omega)) (by simp only[PW])
   by_cases e:u=v
   ·subst e
    obtain⟨i,gi⟩:=List.getElem?_of_mem hc
    exact hj i c' (q10 gi) gi
   ·exact hv u (by omega) c' hc
 ·have hvn:v=n:=by omega
  subst hvn
  simp only[PP,P1,P2,P3,P4,P5,P6,P7,P8,P9,P10,P11,P12,P13,P14,L1,P15,N1,N2,N3,N4,N5,N6,N7,I1,I2,I3,I4,I5,I6,I7,reduceIte,reduceCtorEq,c]
  exact hk0 hv
end
abbrev gC (f1 o1 f2 o2 f3 o3 f4 o4:Bool) (ow pr:List Int) (su:List (List Int)):List PV:=[slI f1 o1 .u8 ow,slI f2 o2 .i64 pr,slR f3 o3 f4 o4 .i64 su]
def codeAt (ow pr:List Int) (k:Nat) (row:List Int):Int:=if 1<ow.getD k 0 then 6 else if pr.getD k 0<0 then 1 else if 16<pr.getD k 0 then 1 else if(row.length:Int)=0 then 13 else if posM ow.length (-1) row=false then 8 else 0
theorem checkLoop_cons (ow pr:List Int) (k:Nat) (row:List Int) (su:List (List Int)):checkLoop ow pr k (row::su)=if codeAt ow pr k row=0 then checkLoop ow pr (k+1) su else codeAt ow pr k row:=by
 show(if _ then _ else _)=_
 unfold codeAt
 split
 ·rw[if_neg (by decide)]
 ·split
  ·rw[if_neg (by decide)]
  ·split
   ·rw[if_neg (by decide)]
   ·split
    ·rw[if_neg (by decide)]
    ·split
     ·rw[if_neg (by decide)]
     ·rw[if_pos rfl]
theorem checkLoop_zero {ow pr:List Int} :∀{su:List (List Int)} {k:Nat},(∀(i:Nat) (row:List Int),su[i]? =some row→codeAt ow pr (k+i) row=0)→checkLoop ow pr k su=0
 | [],k,_=>rfl
 | r::su,k,h=>by
  rw[checkLoop_cons,if_pos (show codeAt ow pr k r=0 from h 0 r rfl)]
  exact checkLoop_zero fun i row hi=>by
   have:=h (i+1) row (by simpa using hi)
   rwa [show k+(i+1)=k+1+i by omega]at this
theorem checkLoop_at {ow pr:List Int} :∀{su:List (List Int)} {k j:Nat} {r:List Int},(∀(i:Nat) (row:List Int),i<j→su[i]? =some row→codeAt ow pr (k+i) row=0)→su[j]? =some r→codeAt ow pr (k+j) r≠0→checkLoop ow pr k su=codeAt ow pr (k+j) r
 | [],k,j,r,_,h,_=>by simp at h
 | x::su,k,0,r,_,h,hn=>by
  simp at h;subst h
  rw[checkLoop_cons,if_neg (show ¬codeAt ow pr k x=0 from hn)];rfl
 | x::su,k,j+1,r,h,hr,hn=>by
  rw[checkLoop_cons,if_pos (show codeAt ow pr k x=0 from h 0 x (by omega) rfl)]
  rw[show k+(j+1)=k+1+j by omega]at hn ⊢
  exact checkLoop_at (fun i row hi hrow=>by
   have:=h (i+1) row (by omega) (by simpa using hrow)
   rwa [show k+(i+1)=k+1+i by omega]at this) (by simpa using hr) hn
section
variable {tab:FuncId→Option AF} (T:HasA tab)
include T
theorem inc_p {M:Mem} {K:PV→Mem→Prop} {f1 o1 f2 o2 f3 o3 f4 o4:Bool} {ow pr row:List Int} {su:List (List Int)} {v n:Nat} (g:su[v]? =some row) (hr:row.length<big) (hk:K (.bool (posM n (-1) row)) M):
  SemC tab 23 [p64 v,.cp (gC f1 o1 f2 o2 f3 o3 f4 o4 ow pr su) 0,.cp [p64 n] 0] M K:=by
 have v0:(0:Int)≤v:=by omega
 have vn:(v:Int)<su.length:=by have:=q10 g;omega
 have hrl:row.length<1000000000000:=hr
 refine q11 T.h23 (by simp only[PP,P1,P2,P3,P4,P5,P6,P7,P8,P9,P10,P11,P12,P13,P14,L1,P15,N1,N2,N3,N4,N5,N6,N7,I1,I2,I3,I4,I5,I6,I7,reduceIte,reduceCtorEq,PV.under]) ?_
 simp only[af23,PP,P1,P2,P3,P4,P5,P6,P7,P8,P9,P10,P11,P12,P13,P14,L1,P15,N1,N2,N3,N4,N5,N6,N7,I1,I2,I3,I4,I5,I6,I7,reduceIte,reduceCtorEq,v0,vn,g]
 refine loop2 (fun(k:Nat) (last:Int)=>k≤row.length∧posM n last (row.drop k)=posM n (-1) row) (fun k last=>[Zj,Zj,.cp [p64 n] 0,Zj,Zj,p64 last,Zj,Zj,Zj,Zj,Zj,Zj,slI f4 o4 .i64 row,p64 row.length,p64 k,Zj,Zj,Zj,Zj,Zj,Zj,Zj,Zj,Zj,Zj,Zj,Zj,Zj]) (fun k _=>[]) (fun k _=>row.length-k) 0 (-1) ⟨by omega,by simp⟩ (by simp only[PW]) rfl ?_
 intro k last ⟨hle,hq⟩ ih
 refine q15 (by kernel_rfl) ?_
 simp only[PP,P1,P2,P3,P4,P5,P6,P7,P8,P9,P10,P11,P12,P13,P14,L1,P15,N1,N2,N3,N4,N5,N6,N7,I1,I2,I3,I4,I5,I6,I7,reduceIte,reduceCtorEq]
 refine QIf.intro (fun c=>?_) (fun c=>?_)
 ·have hk':k<row.length:=by omega
  have k0:(0:Int)≤k:=by omega
  have hwk:=q12 (k:=k) (by show _<1000000000000;omega)
  obtain⟨x,gx⟩:=q9 (xs:=row) (k:=k) hk'
  rw[drop_some gx]at hq
  rw[show posM n last (x::row.drop (k+1))=if x≤last then false else if(n:Int)≤x then false else posM n x (row.drop (k+1)) from rfl]at hq
  simp only[PP,P1,P2,P3,P4,P5,P6,P7,P8,P9,P10,P11,P12,P13,P14,L1,P15,N1,N2,N3,N4,N5,N6,N7,I1,I2,I3,I4,I5,I6,I7,reduceIte,reduceCtorEq,c,k0,gx]
  refine QIf.intro (fun d=>?_) (fun d=>?_)
  ·rw[if_pos d]at hq
   simp only[PP,P1,P2,P3,P4,P5,P6,P7,P8,P9,P10,P11,P12,P13,P14,L1,P15,N1,N2,N3,N4,N5,N6,N7,I1,I2,I3,I4,I5,I6,I7,reduceIte,reduceCtorEq,d]
   rw[hq];exact hk
  ·rw[if_neg d]at hq
   simp only[PP,P1,P2,P3,P4,P5,P6,P7,P8,P9,P10,P11,P12,P13,P14,L1,P15,N1,N2,N3,N4,N5,N6,N7,I1,I2,I3,I4,I5,I6,I7,reduceIte,reduceCtorEq,d]
   refine QIf.intro (fun e=>?_) (fun e=>?_)
   ·rw[if_pos e]at hq
    simp only[PP,P1,P2,P3,P4,P5,P6,P7,P8,P9,P10,P11,P12,P13,P14,L1,P15,N1,N2,N3,N4,N5,N6,N7,I1,I2,I3,I4,I5,I6,I7,reduceIte,reduceCtorEq,e]
    rw[hq];exact hk
   ·rw[if_neg e]at hq
    simp only[PP,P1,P2,P3,P4,P5,P6,P7,P8,P9,P10,P11,P12,P13,P14,L1,P15,N1,N2,N3,N4,N5,N6,N7,I1,I2,I3,I4,I5,I6,I7,reduceIte,reduceCtorEq,e,hwk]
    exact q8 (ih (k+1) x ⟨hk',hq⟩ (by omega)) (by simp only[PW])
 ·have hkn:k=row.length:=by omega
  subst hkn
  rw[List.drop_of_length_le (Nat.le_refl _)]at hq
  simp only[PP,P1,P2,P3,P4,P5,P6,P7,P8,P9,P10,P11,P12,P13,P14,L1,P15,N1,N2,N3,N4,N5,N6,N7,I1,I2,I3,I4,I5,I6,I7,reduceIte,reduceCtorEq,c]
  rw[←hq]at hk;exact hk
set_option maxHeartbeats 1000000 in
theorem valid33_p {M:Mem} {K:PV→Mem→Prop} {f1 o1 f2 o2 f3 o3 f4 o4:Bool} {ow pr:List Int} {su:List (List Int)} (B:Bnd ow pr su) (hk:K (p64 (q37 ow pr su)) M):
  SemC tab 8 [gmP f1 o1 f2 o2 f3 o3 f4 o4 ow pr su] M K:=by
 refine SemC_pureS T.h8 (by simp only[PP,P1,P2,P3,P4,P5,P6,P7,P8,P9,P10,P11,P12,P13,P14,L1,P15,N1,N2,N3,N4,N5,N6,N7,I1,I2,I3,I4,I5,I6,I7,reduceIte,reduceCtorEq,PV.under]) ?_
 simp only[af8]
 refine q23 (q24 ?_)
 simp only[PP,P1,P2,P3,P4,P5,P6,P7,P8,P9,P10,P11,P12,P13,P14,L1,P15,N1,N2,N3,N4,N5,N6,N7,I1,I2,I3,I4,I5,I6,I7,reduceIte,reduceCtorEq]
 refine q23 (q24 ?_)
 simp only[PP,P1,P2,P3,P4,P5,P6,P7,P8,P9,P10,P11,P12,P13,P14,L1,P15,N1,N2,N3,N4,N5,N6,N7,I1,I2,I3,I4,I5,I6,I7,reduceIte,reduceCtorEq]
 refine q41 (GStep.freezeP (b:=[Zj,.cp (gC f1 o1 f2 o2 f3 o3 f4 o4 ow pr su) 0,p64 0,.ptr 1 0 0,Zj,Zj,Zj,Zj,Zj,Zj,Zj,Zj,Zj,Zj,Zj,Zj,Zj,Zj,Zj,Zj,Zj,Zj,Zj,Zj,Zj,Zj,Zj,Zj,Zj,Zj,Zj,Zj,Zj,Zj,Zj,Zj,Zj,Zj,Zj]) 0 (Nat.zero_le _) rfl (by simp only[q67,q55,q54,q66]) rfl) ?_
 refine q41 (GStep.freezeP (b:=[Zj,.cp (gC f1 o1 f2 o2 f3 o3 f4 o4 ow pr su) 0,p64 0,.cp [p64 ow.length] 0,Zj,Zj,Zj,Zj,Zj,Zj,Zj,Zj,Zj,Zj,Zj,Zj,Zj,Zj,Zj,Zj,Zj,Zj,Zj,Zj,Zj,Zj,Zj,Zj,Zj,Zj,Zj,Zj,Zj,Zj,Zj,Zj,Zj,Zj,Zj]) 1 (Nat.zero_le _) rfl (by simp only[q67,q55,q54,q66]) rfl) ?_
 refine q24 ?_
 simp only[PP,P1,P2,P3,P4,P5,P6,P7,P8,P9,P10,P11,P12,P13,P14,L1,P15,N1,N2,N3,N4,N5,N6,N7,I1,I2,I3,I4,I5,I6,I7,reduceIte,reduceCtorEq]
 unfold q37 at hk
 refine QIf.intro (fun c1=>?_) (fun c1=>?_)
 ·rw[if_pos c1]at hk
  simp only[PP,P1,P2,P3,P4,P5,P6,P7,P8,P9,P10,P11,P12,P13,P14,L1,P15,N1,N2,N3,N4,N5,N6,N7,I1,I2,I3,I4,I5,I6,I7,reduceIte,reduceCtorEq,c1]
  exact hk
 rw[if_neg c1]at hk
 simp only[PP,P1,P2,P3,P4,P5,P6,P7,P8,P9,P10,P11,P12,P13,P14,L1,P15,N1,N2,N3,N4,N5,N6,N7,I1,I2,I3,I4,I5,I6,I7,reduceIte,reduceCtorEq,c1]
 refine QIf.intro (fun c2=>?_) (fun c2=>?_)
 ·rw[if_pos c2]at hk
  simp only[PP,P1,P2,P3,P4,P5,P6,P7,P8,P9,P10,P11,P12,P13,P14,L1,P15,N1,N2,N3,N4,N5,N6,N7,I1,I2,I3,I4,I5,I6,I7,reduceIte,reduceCtorEq,c2]
  exact hk
 rw[if_neg c2]at hk
 simp only[PP,P1,P2,P3,P4,P5,P6,P7,P8,P9,P10,P11,P12,P13,P14,L1,P15,N1,N2,N3,N4,N5,N6,N7,I1,I2,I3,I4,I5,I6,I7,reduceIte,reduceCtorEq,c2]
 refine QIf.intro (fun c3=>?_) (fun c3=>?_)
 rotate_left
 ·rw[if_neg c3]at hk
  simp only[PP,P1,P2,P3,P4,P5,P6,P7,P8,P9,P10,P11,P12,P13,P14,L1,P15,N1,N2,N3,N4,N5,N6,N7,I1,I2,I3,I4,I5,I6,I7,reduceIte,reduceCtorEq,c3]
  exact hk
 rw[if_pos c3]at hk
 simp only[PP,P1,P2,P3,P4,P5,P6,P7,P8,P9,P10,P11,P12,P13,P14,L1,P15,N1,N2,N3,N4,N5,N6,N7,I1,I2,I3,I4,I5,I6,I7,reduceIte,reduceCtorEq,c3]
 refine QIf.intro (fun c4=>?_) (fun c4=>?_)
 rotate_left
 ·rw[if_neg c4]at hk
  simp only[PP,P1,P2,P3,P4,P5,P6,P7,P8,P9,P10,P11,P12,P13,P14,L1,P15,N1,N2,N3,N4,N5,N6,N7,I1,I2,I3,I4,I5,I6,I7,reduceIte,reduceCtorEq,c4]
  exact hk
 rw[if_pos c4]at hk
 have n1:ow.length≤4096:=by omega
 have hp:pr.length=ow.length:=by omega
 have hs:su.length=ow.length:=by omega
 simp only[PP,P1,P2,P3,P4,P5,P6,P7,P8,P9,P10,P11,P12,P13,P14,L1,P15,N1,N2,N3,N4,N5,N6,N7,I1,I2,I3,I4,I5,I6,I7,reduceIte,reduceCtorEq,c4]
 let l:List Ck:=[⟨25,[.cp (gC f1 o1 f2 o2 f3 o3 f4 o4 ow pr su) 0],6,fun v=>decide (ow.getD v 0≤1)⟩,⟨26,[.cp (gC f1 o1 f2 o2 f3 o3 f4 o4 ow pr su) 0],1,fun v=>decide (0≤pr.getD v 0∧pr.getD v 0≤16)⟩,
  ⟨27,[.cp (gC f1 o1 f2 o2 f3 o3 f4 o4 ow pr su) 0],13,fun v=>decide (0<((su.getD v []).length:Int))⟩,⟨23,[.cp (gC f1 o1 f2 o2 f3 o3 f4 o4 ow pr su) 0,.cp [p64 ow.length] 0],8,fun v=>posM ow.length (-1) (su.getD v [])⟩]
 have code:∀(v:Nat) (row:List Int),su[v]? =some row→su.getD v []=row:=fun v row h=>by simp[List.getD,h]
 have cz:∀(v:Nat) (row:List Int),su[v]? =some row→(∀c∈l,c.P v=true)→codeAt ow pr v row=0:=fun v row hrow h=>by
  have h1:=of_decide_eq_true (h ⟨25,_,6,_⟩ (List.mem_cons_self ..))
  have h2:=of_decide_eq_true (h ⟨26,_,1,_⟩ (List.mem_cons_of_mem _ (List.mem_cons_self ..)))
  have h3:=of_decide_eq_true (h ⟨27,_,13,_⟩ (List.mem_cons_of_mem _ (List.mem_cons_of_mem _ (List.mem_cons_self ..))))
  have h4:=h ⟨23,_,8,_⟩ (List.mem_cons_of_mem _ (List.mem_cons_of_mem _ (List.mem_cons_of_mem _ (List.mem_cons_self ..))))
  simp only[code v row hrow]at h3 h4
  unfold codeAt
  rw[if_neg (by omega),if_neg (by omega),if_neg (by omega),if_neg (by omega),if_neg (by rw[h4];decide)]
 refine all_p T (l:=l) (by omega) (by show 4<_;omega) (by show q14 0 (ckC l)=true;simp only[l,ckC,List.flatMap_cons,List.flatMap_nil,List.append_nil,List.cons_append,List.nil_append,PP,P1,P2,P3,P4,P5,P6,P7,P8,P9,P10,P11,P12,P13,P14,L1,P15,N1,N2,N3,N4,N5,N6,N7,I1,I2,I3,I4,I5,I6,I7,reduceIte,reduceCtorEq,PV.under]) (fun c hc v hv M' K' hK'=>?_) (fun h=>?_) (fun v j c hv hb hj hi hP=>?_)
 ·obtain⟨row,g⟩:=q9 (xs:=su) (k:=v) (by omega)
  obtain⟨o,g1⟩:=q9 (xs:=ow) (k:=v) (by omega)
  obtain⟨p,g2⟩:=q9 (xs:=pr) (k:=v) (by omega)
  have v0:(0:Int)≤v:=by omega
  have vn:(v:Int)<ow.length:=by omega
  have eo:ow.getD v 0=o:=getD_some g1
  have ep:pr.getD v 0=p:=getD_some g2
  simp only[l,List.mem_cons,List.not_mem_nil,or_false]at hc
  rcases hc with rfl | rfl | rfl | rfl
  ·refine q11 T.h25 (by simp only[PP,P1,P2,P3,P4,P5,P6,P7,P8,P9,P10,P11,P12,P13,P14,L1,P15,N1,N2,N3,N4,N5,N6,N7,I1,I2,I3,I4,I5,I6,I7,reduceIte,reduceCtorEq,PV.under]) ?_
   simp only[af25,PP,P1,P2,P3,P4,P5,P6,P7,P8,P9,P10,P11,P12,P13,P14,L1,P15,N1,N2,N3,N4,N5,N6,N7,I1,I2,I3,I4,I5,I6,I7,reduceIte,reduceCtorEq,v0,vn,g1]
   rw[←eo];exact hK'
  ·refine q11 T.h26 (by simp only[PP,P1,P2,P3,P4,P5,P6,P7,P8,P9,P10,P11,P12,P13,P14,L1,P15,N1,N2,N3,N4,N5,N6,N7,I1,I2,I3,I4,I5,I6,I7,reduceIte,reduceCtorEq,PV.under]) ?_
   simp only[af26,PP,P1,P2,P3,P4,P5,P6,P7,P8,P9,P10,P11,P12,P13,P14,L1,P15,N1,N2,N3,N4,N5,N6,N7,I1,I2,I3,I4,I5,I6,I7,reduceIte,reduceCtorEq,v0,vn,hp,g2]
   have hK':K' (.bool (decide (0≤pr.getD v 0∧pr.getD v 0≤16))) M':=hK'
   rw[ep]at hK'
   refine QIf.intro (fun d=>?_) (fun d=>?_)
   ·simp only[PP,P1,P2,P3,P4,P5,P6,P7,P8,P9,P10,P11,P12,P13,P14,L1,P15,N1,N2,N3,N4,N5,N6,N7,I1,I2,I3,I4,I5,I6,I7,reduceIte,reduceCtorEq,d,v0,vn,hp,g2]
    rw[decide_eq_decide.2 (show(0≤p∧p≤16)↔p≤16 from⟨fun q=>q.2,fun q=>⟨d,q⟩⟩)]at hK'
    exact hK'
   ·simp only[PP,P1,P2,P3,P4,P5,P6,P7,P8,P9,P10,P11,P12,P13,P14,L1,P15,N1,N2,N3,N4,N5,N6,N7,I1,I2,I3,I4,I5,I6,I7,reduceIte,reduceCtorEq,d]
    rw[decide_eq_false (fun q=>d q.1)]at hK'
    exact hK'
  ·refine q11 T.h27 (by simp only[PP,P1,P2,P3,P4,P5,P6,P7,P8,P9,P10,P11,P12,P13,P14,L1,P15,N1,N2,N3,N4,N5,N6,N7,I1,I2,I3,I4,I5,I6,I7,reduceIte,reduceCtorEq,PV.under]) ?_
   simp only[af27,PP,P1,P2,P3,P4,P5,P6,P7,P8,P9,P10,P11,P12,P13,P14,L1,P15,N1,N2,N3,N4,N5,N6,N7,I1,I2,I3,I4,I5,I6,I7,reduceIte,reduceCtorEq,v0,vn,hs,g]
   have hK':K' (.bool (decide (0<((su.getD v []).length:Int)))) M':=hK'
   rw[code v row g]at hK'
   exact hK'
  ·have hK':K' (.bool (posM ow.length (-1) (su.getD v []))) M':=hK'
   rw[code v row g]at hK'
   exact inc_p T g (B.r row (List.mem_of_getElem? g)) hK'
 ·rw[checkLoop_zero fun i row hi=>by
   have:=q10 hi
   rw[Nat.zero_add]
   exact cz i row hi (h i (by omega))]at hk
  simp only[PP,P1,P2,P3,P4,P5,P6,P7,P8,P9,P10,P11,P12,P13,P14,L1,P15,N1,N2,N3,N4,N5,N6,N7,I1,I2,I3,I4,I5,I6,I7,reduceIte,reduceCtorEq]
  exact hk
 ·obtain⟨row,g⟩:=q9 (xs:=su) (k:=v) (by omega)
  have hcode:codeAt ow pr v row=c.e∧c.e≠0:=by
   have er:=code v row g
   match j,hj with
   | 0,hj=>
    cases hj
    have h1:=of_decide_eq_false hP
    unfold codeAt
    rw[if_pos (by omega)]
    exact⟨rfl,fun q=>by cases q⟩
   | 1,hj=>
    cases hj
    have h1:=of_decide_eq_true (hi 0 _ (by omega) rfl)
    have h2:=of_decide_eq_false hP
    unfold codeAt
    rw[if_neg (by omega)]
    refine⟨?_,fun q=>by cases q⟩
    split
    ·rfl
    ·rw[if_pos (by omega)]
   | 2,hj=>
    cases hj
    have h1:=of_decide_eq_true (hi 0 _ (by omega) rfl)
    have h2:=of_decide_eq_true (hi 1 _ (by omega) rfl)
    have h3:=of_decide_eq_false hP
    simp only[er]at h3
    unfold codeAt
    rw[if_neg (by omega),if_neg (by omega),if_neg (by omega),if_pos (by omega)]
    exact⟨rfl,fun q=>by cases q⟩
   | 3,hj=>
    cases hj
    have h1:=of_decide_eq_true (hi 0 _ (by omega) rfl)
    have h2:=of_decide_eq_true (hi 1 _ (by omega) rfl)
    have h3:=of_decide_eq_true (hi 2 _ (by omega) rfl)
    have h4:posM ow.length (-1) (su.getD v [])=false:=hP
    simp only[er]at h3 h4
    unfold codeAt
    rw[if_neg (by omega),if_neg (by omega),if_neg (by omega),if_neg (by omega),if_pos h4]
    exact⟨rfl,fun q=>by cases q⟩
   | j+4,hj=>simp[l]at hj
  rw[checkLoop_at (j:=v) (fun i row hi' hr=>by rw[Nat.zero_add];exact cz i row hr (hb i hi')) g (by rw[Nat.zero_add,hcode.1];exact hcode.2),Nat.zero_add,hcode.1]at hk
  simp only[PP,P1,P2,P3,P4,P5,P6,P7,P8,P9,P10,P11,P12,P13,P14,L1,P15,N1,N2,N3,N4,N5,N6,N7,I1,I2,I3,I4,I5,I6,I7,reduceIte,reduceCtorEq]
  exact hk
end
def idxI (v:Int):Nat→List Int→Int
 | _,[]=> -1
 | k,x::l=>if v=x then(k:Int) else idxI v (k+1) l
theorem idxI_spec (v:Int):∀(l:List Int) (k:Nat),(v∉l∧idxI v k l= -1)∨∃i,l[i]? =some v∧v∉l.take i∧idxI v k l=((k+i:Nat):Int)
 | [],k=> .inl ⟨by simp,rfl⟩
 | x::l,k=>by
  unfold idxI
  by_cases h:v=x
  ·rw[if_pos h];exact .inr ⟨0,by simp[h],by simp,rfl⟩
  ·rw[if_neg h]
   rcases idxI_spec v l (k+1) with⟨h1,h2⟩ | ⟨i,h1,h2,h3⟩
   ·exact .inl ⟨by simp[h,h1],h2⟩
   ·refine .inr ⟨i+1,by simpa using h1,by simp[h,h2],?_⟩
    rw[h3];congr 1;omega
def playL (st:List Int):Nat→Int→List Int→List Int×List Int
 | 0,_,all=>(all,[])
 | n+1,v,all=>if 0≤idxI v 0 all then(all.take (idxI v 0 all).toNat,all.drop (idxI v 0 all).toNat) else playL st n (st.getD v.toNat 0) (all++[v])
def movM (su:List (List Int)):Nat→List Int→Bool
 | _,[]=>true
 | k,u::l=>if u∈su.getD k [] then movM su (k+1) l else false
def playE (ow pr:List Int) (su:List (List Int)) (st:List Int) (from':Int):Int:=
 if q37 ow pr su=0 then(if from'<0 then 8 else if(ow.length:Int)≤from' then 8 else if(st.length:Int)=ow.length then(if movM su 0 st=true then 0 else 13) else 2) else q37 ow pr su
def playM (ow pr:List Int) (su:List (List Int)) (st:List Int) (from':Int):PV:=
 if playE ow pr su st from'=0 then .tuple [slI false true .i64 (playL st (ow.length+1) from' []).1,slI false true .i64 (playL st (ow.length+1) from' []).2,p64 0]
 else .tuple [slI false true .i64 [],slI false true .i64 [],p64 (playE ow pr su st from')]
theorem movM_get {su:List (List Int)} :∀{l:List Int} {k:Nat},movM su k l=true→∀(i:Nat) (u:Int),l[i]? =some u→u∈su.getD (k+i) []
 | [],k,h,i,u,q=>by simp at q
 | x::l,k,h,i,u,q=>by
  unfold movM at h
  split at h
  ·rename_i hm
   cases i with
   | zero=>simp at q;subst q;exact hm
   | succ i=>
    have:=movM_get h i u (by simpa using q)
    rw[show k+(i+1)=k+1+i by omega];exact this
  ·cases h
section
variable {tab:FuncId→Option AF} (T:HasA tab)
include T
theorem index_p {M:Mem} {K:PV→Mem→Prop} {f o:Bool} {xs:List Int} {v:Int} (hm:xs.length<big) (hk:K (p64 (idxI v 0 xs)) M):
  SemC tab 60 [slI f o .i64 xs,p64 v] M K:=by
 refine q11 T.h60 (by simp only[PP,P1,P2,P3,P4,P5,P6,P7,P8,P9,P10,P11,P12,P13,P14,L1,P15,N1,N2,N3,N4,N5,N6,N7,I1,I2,I3,I4,I5,I6,I7,reduceIte,reduceCtorEq]) ?_
 simp only[af60,PP,P1,P2,P3,P4,P5,P6,P7,P8,P9,P10,P11,P12,P13,P14,L1,P15,N1,N2,N3,N4,N5,N6,N7,I1,I2,I3,I4,I5,I6,I7,reduceIte,reduceCtorEq]
 refine loop1 (fun(k:Nat)=>k≤xs.length∧K (p64 (idxI v k (xs.drop k))) M) (fun k=>[slI f o .i64 xs,p64 v,Zj,Zj,Zj,Zj,Zj,p64 xs.length,p64 k,Zj,Zj,Zj,Zj,Zj,Zj,Zj,Zj,Zj,Zj]) (fun _=>[]) (fun k=>xs.length-k) 0 ⟨by omega,hk⟩ (by simp only[PW]) rfl ?_
 intro k ⟨hle,hq⟩ ih
 refine q15 (by kernel_rfl) ?_
 simp only[PP,P1,P2,P3,P4,P5,P6,P7,P8,P9,P10,P11,P12,P13,P14,L1,P15,N1,N2,N3,N4,N5,N6,N7,I1,I2,I3,I4,I5,I6,I7,reduceIte,reduceCtorEq]
 refine QIf.intro (fun c=>?_) (fun c=>?_)
 ·have hk':k<xs.length:=by omega
  obtain⟨x,g⟩:=q9 hk'
  rw[drop_some g]at hq
  have hw:=q12 (k:=k) (by omega)
  have h0:(0:Int)≤k:=by omega
  simp only[PP,P1,P2,P3,P4,P5,P6,P7,P8,P9,P10,P11,P12,P13,P14,L1,P15,N1,N2,N3,N4,N5,N6,N7,I1,I2,I3,I4,I5,I6,I7,reduceIte,reduceCtorEq,idxI,c,g,h0]at hq ⊢
  refine QIf.intro (fun h1=>?_) (fun h1=>?_)
  ·simp only[PP,P1,P2,P3,P4,P5,P6,P7,P8,P9,P10,P11,P12,P13,P14,L1,P15,N1,N2,N3,N4,N5,N6,N7,I1,I2,I3,I4,I5,I6,I7,reduceIte,reduceCtorEq,h1]at hq ⊢
   exact hq
  simp only[PP,P1,P2,P3,P4,P5,P6,P7,P8,P9,P10,P11,P12,P13,P14,L1,P15,N1,N2,N3,N4,N5,N6,N7,I1,I2,I3,I4,I5,I6,I7,reduceIte,reduceCtorEq,h1]at hq ⊢
  simp only[hw]
  exact q8 (ih (k+1) ⟨by omega,hq⟩ (by omega)) (by simp only[PW])
 ·rw[List.drop_eq_nil_of_le (by omega)]at hq
  simp only[PP,P1,P2,P3,P4,P5,P6,P7,P8,P9,P10,P11,P12,P13,P14,L1,P15,N1,N2,N3,N4,N5,N6,N7,I1,I2,I3,I4,I5,I6,I7,reduceIte,reduceCtorEq,c]
  exact hq
theorem contains_p {M:Mem} {K:PV→Mem→Prop} {f o:Bool} {xs:List Int} {v:Int} (hm:xs.length<big) (hk:K (.bool (decide (v∈xs))) M):
  SemC tab 35 [slI f o .i64 xs,p64 v] M K:=by
 refine q11 T.h35 (by simp only[PP,P1,P2,P3,P4,P5,P6,P7,P8,P9,P10,P11,P12,P13,P14,L1,P15,N1,N2,N3,N4,N5,N6,N7,I1,I2,I3,I4,I5,I6,I7,reduceIte,reduceCtorEq]) ?_
 simp only[af35,PP,P1,P2,P3,P4,P5,P6,P7,P8,P9,P10,P11,P12,P13,P14,L1,P15,N1,N2,N3,N4,N5,N6,N7,I1,I2,I3,I4,I5,I6,I7,reduceIte,reduceCtorEq]
 refine index_p T hm ?_
 have e:decide (0≤idxI v 0 xs)=decide (v∈xs):=by
  rcases idxI_spec v xs 0 with⟨h1,h2⟩ | ⟨i,h1,h2,h3⟩
  ·rw[h2];simp[h1]
  ·rw[h3];simp[List.mem_of_getElem? h1]
 simp only[PP,P1,P2,P3,P4,P5,P6,P7,P8,P9,P10,P11,P12,P13,P14,L1,P15,N1,N2,N3,N4,N5,N6,N7,I1,I2,I3,I4,I5,I6,I7,reduceIte,reduceCtorEq,e]
 exact hk
theorem clone_r {M:Mem} {K:PV→Mem→Prop} {id g ver off n:Nat} {xs:List Int} (hM:M[id]? =some (.cells g ver (xs.map (PV.int .i64)))) (hl:off+n≤xs.length) (hb:xs.length<big) (hc:M.all (cutOk M.length)=true)
  (hk:K (slI false true .i64 ((xs.drop off).take n)) M):SemC tab 74 [.ref id g 1 off n] M K:=by
 have hb':xs.length<1000000000000:=hb
 have b1:n*8≤140737488355328:=by omega
 have b2:n≤9223372036854775807:=by omega
 have hlt:(id==M.length)=false:=beq_eq_false_iff_ne.2 (by have:=q10 hM;omega)
 have hps:psub (xs.map (PV.int .i64)) off n=((xs.drop off).take n).map (PV.int .i64):=by simp[psub,List.map_drop,List.map_take]
 have hln:((xs.drop off).take n).length=n:=by rw[List.length_take,List.length_drop];omega
 refine SemC_wk (SemC_gh (q34 T.h74 ?_))
 simp only[af74,PP,P1,P2,P3,P4,P5,P6,P7,P8,P9,P10,P11,P12,P13,P14,L1,P15,N1,N2,N3,N4,N5,N6,N7,I1,I2,I3,I4,I5,I6,I7,reduceIte,reduceCtorEq,hM]
 refine QIf.intro (fun c=>?_) (fun c=>?_)
 ·subst c
  constructor
  ·simp only[PP,P1,P2,P3,P4,P5,P6,P7,P8,P9,P10,P11,P12,P13,P14,L1,P15,N1,N2,N3,N4,N5,N6,N7,I1,I2,I3,I4,I5,I6,I7,reduceIte,reduceCtorEq]
   exact Gh.same ⟨_,rfl,_,PvWk.nils _ _ _,hk⟩
  ·simp only[PP,P1,P2,P3,P4,P5,P6,P7,P8,P9,P10,P11,P12,P13,P14,L1,P15,N1,N2,N3,N4,N5,N6,N7,I1,I2,I3,I4,I5,I6,I7,reduceIte,reduceCtorEq,hM,hl]
   exact⟨by omega,Gh.same ⟨_,rfl,_,PvWk.sl _ _ _ _,by simpa [slI] using hk⟩⟩
 ·simp only[PP,P1,P2,P3,P4,P5,P6,P7,P8,P9,P10,P11,P12,P13,P14,L1,P15,N1,N2,N3,N4,N5,N6,N7,I1,I2,I3,I4,I5,I6,I7,reduceIte,reduceCtorEq,c,hM,hl,b1,b2,List.length_map]
  rw[hps]
  exact⟨all_one_ints _ _,Gh_ret hc hln ⟨_,PvWk.refl _,hk⟩⟩
theorem play_p {M:Mem} {K:PV→Mem→Prop} {f1 o1 f2 o2 f3 o3 f4 o4 f5 o5:Bool} {ow pr st:List Int} {su:List (List Int)} {from':Int} (B:Bnd ow pr su) (hb:st.length<big) (hq:K (playM ow pr su st from') M):
  SemC tab 70 [gmP f1 o1 f2 o2 f3 o3 f4 o4 ow pr su,slI f5 o5 .i64 st,p64 from'] M K:=by
 refine SemC_wk ?_
 refine q11 T.h70 (by simp only[PP,P1,P2,P3,P4,P5,P6,P7,P8,P9,P10,P11,P12,P13,P14,L1,P15,N1,N2,N3,N4,N5,N6,N7,I1,I2,I3,I4,I5,I6,I7,reduceIte,reduceCtorEq]) ?_
 simp only[af70,PP,P1,P2,P3,P4,P5,P6,P7,P8,P9,P10,P11,P12,P13,P14,L1,P15,N1,N2,N3,N4,N5,N6,N7,I1,I2,I3,I4,I5,I6,I7,reduceIte,reduceCtorEq,playM,playE]at hq ⊢
 refine check_p T B ?_
 simp only[PP,P1,P2,P3,P4,P5,P6,P7,P8,P9,P10,P11,P12,P13,P14,L1,P15,N1,N2,N3,N4,N5,N6,N7,I1,I2,I3,I4,I5,I6,I7,reduceIte,reduceCtorEq]
 refine QIf.intro (fun c1=>?_) (fun c1=>?_)
 rotate_left
 ·simp only[PP,P1,P2,P3,P4,P5,P6,P7,P8,P9,P10,P11,P12,P13,P14,L1,P15,N1,N2,N3,N4,N5,N6,N7,I1,I2,I3,I4,I5,I6,I7,reduceIte,reduceCtorEq,c1]at hq ⊢
  exact⟨_,wk_attr _,hq⟩
 have V:=q25 c1
 have hs:=V.s
 have n1:=V.n1
 simp only[PP,P1,P2,P3,P4,P5,P6,P7,P8,P9,P10,P11,P12,P13,P14,L1,P15,N1,N2,N3,N4,N5,N6,N7,I1,I2,I3,I4,I5,I6,I7,reduceIte,reduceCtorEq,c1]at hq ⊢
 refine QIf.intro (fun c2=>?_) (fun c2=>?_)
 ·simp only[PP,P1,P2,P3,P4,P5,P6,P7,P8,P9,P10,P11,P12,P13,P14,L1,P15,N1,N2,N3,N4,N5,N6,N7,I1,I2,I3,I4,I5,I6,I7,reduceIte,reduceCtorEq,c2]at hq ⊢
  exact⟨_,wk_attr _,hq⟩
 simp only[PP,P1,P2,P3,P4,P5,P6,P7,P8,P9,P10,P11,P12,P13,P14,L1,P15,N1,N2,N3,N4,N5,N6,N7,I1,I2,I3,I4,I5,I6,I7,reduceIte,reduceCtorEq,c2]at hq ⊢
 refine QIf.intro (fun c3=>?_) (fun c3=>?_)
 ·simp only[PP,P1,P2,P3,P4,P5,P6,P7,P8,P9,P10,P11,P12,P13,P14,L1,P15,N1,N2,N3,N4,N5,N6,N7,I1,I2,I3,I4,I5,I6,I7,reduceIte,reduceCtorEq,c3]at hq ⊢
  exact⟨_,wk_attr _,hq⟩
 simp only[PP,P1,P2,P3,P4,P5,P6,P7,P8,P9,P10,P11,P12,P13,P14,L1,P15,N1,N2,N3,N4,N5,N6,N7,I1,I2,I3,I4,I5,I6,I7,reduceIte,reduceCtorEq,c3]at hq ⊢
 refine QIf.intro (fun c4=>?_) (fun c4=>?_)
 rotate_left
 ·simp only[PP,P1,P2,P3,P4,P5,P6,P7,P8,P9,P10,P11,P12,P13,P14,L1,P15,N1,N2,N3,N4,N5,N6,N7,I1,I2,I3,I4,I5,I6,I7,reduceIte,reduceCtorEq,c4]at hq ⊢
  exact⟨_,wk_attr _,hq⟩
 simp only[PP,P1,P2,P3,P4,P5,P6,P7,P8,P9,P10,P11,P12,P13,P14,L1,P15,N1,N2,N3,N4,N5,N6,N7,I1,I2,I3,I4,I5,I6,I7,reduceIte,reduceCtorEq,c4]at hq ⊢
 refine loop1 (fun(k:Nat)=>k≤ow.length∧movM su k (st.drop k)=movM su 0 st) (fun k=>[Zj,slI f5 o5 .i64 st,p64 from',.ptr 0 0 0,Zj,Zj,Zj,Zj,Zj,Zj,Zj,Zj,Zj,Zj,Zj,Zj,Zj,Zj,Zj,Zj,Zj,Zj,Zj,Zj,Zj,Zj,Zj,Zj,Zj,Zj,Zj,Zj,Zj,Zj,Zj,Zj,Zj,slI f5 o5 .i64 st,p64 ow.length,p64 k,Zj,Zj,Zj,Zj,Zj,Zj,Zj,Zj,Zj,Zj,Zj,Zj,Zj,Zj,Zj,Zj,Zj,Zj,Zj,Zj,Zj,Zj,Zj,Zj,Zj,Zj,Zj,Zj,Zj,Zj,Zj,Zj,Zj,Zj,Zj]) (fun _=>[.cells 0 0 [slI f1 o1 .u8 ow,slI f2 o2 .i64 pr,slR f3 o3 f4 o4 .i64 su]]) (fun k=>ow.length-k) 0 ⟨by omega,rfl⟩ (by simp only[PW]) rfl ?_
 intro k ⟨hle,hmv⟩ ih
 refine q15 (by kernel_rfl) ?_
 simp only[PP,P1,P2,P3,P4,P5,P6,P7,P8,P9,P10,P11,P12,P13,P14,L1,P15,N1,N2,N3,N4,N5,N6,N7,I1,I2,I3,I4,I5,I6,I7,reduceIte,reduceCtorEq]
 refine QIf.intro (fun d=>?_) (fun d=>?_)
 ·have hk:k<ow.length:=by omega
  have hw:=q12 (k:=k) (by show _<1000000000000;omega)
  have k0:(0:Int)≤k:=by omega
  obtain⟨u,g1⟩:=q9 (xs:=st) (k:=k) (by omega)
  obtain⟨row,g2⟩:=q9 (xs:=su) (k:=k) (by omega)
  have ks:(k:Int)<su.length:=by omega
  have e2:su.getD k []=row:=by simp[List.getD,g2]
  rw[drop_some g1,movM,e2]at hmv
  simp only[PP,P1,P2,P3,P4,P5,P6,P7,P8,P9,P10,P11,P12,P13,P14,L1,P15,N1,N2,N3,N4,N5,N6,N7,I1,I2,I3,I4,I5,I6,I7,reduceIte,reduceCtorEq,c4,d,g1,g2,k0,ks]
  refine contains_p T (B.r _ (List.mem_of_getElem? g2)) ?_
  by_cases h1:u∈row
  ·rw[if_pos h1]at hmv
   simp only[PP,P1,P2,P3,P4,P5,P6,P7,P8,P9,P10,P11,P12,P13,P14,L1,P15,N1,N2,N3,N4,N5,N6,N7,I1,I2,I3,I4,I5,I6,I7,reduceIte,reduceCtorEq,h1,hw]
   exact q8 (ih (k+1) ⟨by omega,hmv⟩ (by omega)) (by simp only[PW])
  ·rw[if_neg h1]at hmv
   simp only[PP,P1,P2,P3,P4,P5,P6,P7,P8,P9,P10,P11,P12,P13,P14,L1,P15,N1,N2,N3,N4,N5,N6,N7,I1,I2,I3,I4,I5,I6,I7,reduceIte,reduceCtorEq,h1,←hmv]at hq ⊢
   exact⟨_,wk_attr _,hq⟩
 ·have hkn:k=st.length:=by omega
  rw[List.drop_eq_nil_of_le (by omega)]at hmv
  simp only[PP,P1,P2,P3,P4,P5,P6,P7,P8,P9,P10,P11,P12,P13,P14,L1,P15,N1,N2,N3,N4,N5,N6,N7,I1,I2,I3,I4,I5,I6,I7,reduceIte,reduceCtorEq,←hmv,movM]at hq ⊢
  simp only[PP,P1,P2,P3,P4,P5,P6,P7,P8,P9,P10,P11,P12,P13,P14,L1,P15,N1,N2,N3,N4,N5,N6,N7,I1,I2,I3,I4,I5,I6,I7,reduceIte,reduceCtorEq,d]
  have hst:∀(k:Nat) (u:Int),st[k]? =some u→0≤u∧u<ow.length:=by
   intro k u hu
   have h1:=movM_get hmv.symm k u hu
   have hks:k<su.length:=by have:=q10 hu;omega
   obtain⟨_,_,_,_,q⟩:=V.row k hks
   rw[Nat.zero_add,List.getD,List.getElem?_eq_getElem hks]at h1
   have:=(posM_rise q).2 u h1
   omega
  obtain⟨v0,rfl⟩:∃v0:Nat,from'=v0:=⟨from'.toNat,by omega⟩
  refine q41 (GStep.nil 13 1 rfl rfl rfl) ?_
  simp only[ptset,List.cons_append,List.nil_append,List.length_cons,List.length_nil,Nat.reduceAdd]
  refine loop3 (fun(v g:Nat) (l:List Nat)=>v<ow.length∧l.Nodup∧(∀x∈l,x<ow.length)∧K (.tuple [slI false true .i64 (playL st (ow.length+1-l.length) v (natI l)).1,slI false true .i64 (playL st (ow.length+1-l.length) v (natI l)).2,p64 0]) M)
   (fun v g l=>[Zj,slI f5 o5 .i64 st,Zj,Zj,Zj,Zj,Zj,Zj,Zj,Zj,Zj,Zj,Zj,.ref 1 g 1 0 l.length,p64 v,Zj,Zj,Zj,Zj,Zj,Zj,Zj,Zj,Zj,Zj,Zj,Zj,Zj,Zj,Zj,Zj,Zj,Zj,Zj,Zj,Zj,Zj,Zj,Zj,Zj,Zj,Zj,Zj,Zj,Zj,Zj,Zj,Zj,Zj,Zj,Zj,Zj,Zj,Zj,Zj,Zj,Zj,Zj,Zj,Zj,Zj,Zj,Zj,Zj,Zj,Zj,Zj,Zj,Zj,Zj,Zj,Zj,Zj,Zj,Zj])
   (fun v g l=>[.cells 0 0 [slI f1 o1 .u8 ow,slI f2 o2 .i64 pr,slR f3 o3 f4 o4 .i64 su],.cells g 0 ((natI l).map (PV.int .i64))])
   (fun v g l=>ow.length+1-l.length) v0 0 [] ⟨by omega,List.nodup_nil,by simp,hq⟩ (by simp only[PW]) rfl ?_
  intro v g l ⟨hv,hnd,hlt,hq⟩ ih
  have hll:=nodup_lenN _ l hnd hlt
  have hlb:(natI l).length<big:=by show _<1000000000000;rw[List.length_map];omega
  obtain⟨fu,hfu⟩:∃fu,ow.length+1-l.length=fu+1:=⟨ow.length-l.length,by omega⟩
  rw[hfu,playL]at hq
  refine q15 (by kernel_rfl) ?_
  simp only[PP,P1,P2,P3,P4,P5,P6,P7,P8,P9,P10,P11,P12,P13,P14,L1,P15,N1,N2,N3,N4,N5,N6,N7,I1,I2,I3,I4,I5,I6,I7,reduceIte,reduceCtorEq]
  refine SemC_bor (.ints rfl (List.length_map _) (.same rfl .nil)) (index_p T hlb ⟨rfl,?_⟩)
  rcases idxI_spec v (natI l) 0 with⟨h1,h2⟩ | ⟨i,h1,h2,h3⟩
  ·have hv0:(0:Int)≤v:=by omega
   have hvs:(v:Int)<st.length:=by omega
   obtain⟨u,g1⟩:=q9 (xs:=st) (k:=v) (by omega)
   obtain⟨u0,u1⟩:=hst v u g1
   obtain⟨w,rfl⟩:∃w:Nat,u=w:=⟨u.toNat,by omega⟩
   have e1:st.getD v 0=w:=by simp[List.getD,g1]
   have b1:(l.length+1)*8≤140737488355328:=by omega
   have b2:l.length+1≤9223372036854775807:=by omega
   simp only[PP,P1,P2,P3,P4,P5,P6,P7,P8,P9,P10,P11,P12,P13,P14,L1,P15,N1,N2,N3,N4,N5,N6,N7,I1,I2,I3,I4,I5,I6,I7,reduceIte,reduceCtorEq,h2,e1]at hq ⊢
   have b2:l.length≤9223372036854775806:=by omega
   have hni:v∉l:=fun h=>h1 (mem_natI.2 h)
   have hps:psub ((natI l).map (PV.int .i64)) 0 l.length++[.int .i64 (v:Int)]=(natI (l++[v])).map (PV.int .i64):=by
    rw[q49 _ _ (by simp)];simp
   have hq2:natI l++[(v:Int)]=natI (l++[v]):=by simp
   simp only[PP,P1,P2,P3,P4,P5,P6,P7,P8,P9,P10,P11,P12,P13,P14,L1,P15,N1,N2,N3,N4,N5,N6,N7,I1,I2,I3,I4,I5,I6,I7,reduceIte,reduceCtorEq,g1,hv0,hvs,b1,b2]
   refine q19 (ih w (g+1) (l++[v]) ⟨by omega,?_,?_,?_⟩ (by rw[List.length_append,List.length_singleton];omega)) (by simp only[PW]) (by rw[hps])
   ·rw[List.nodup_append]
    exact⟨hnd,by simp,fun a ha b hb e=>by rw[List.mem_singleton]at hb;subst hb;subst e;exact hni ha⟩
   ·intro x hx
    rcases List.mem_append.1 hx with h | h
    ·exact hlt x h
    ·rw[List.mem_singleton]at h;subst h;exact hv
   ·rw[hq2]at hq
    rw[show ow.length+1-(l++[v]).length=fu by rw[List.length_append,List.length_singleton];omega]
    exact hq
  ·have i0:(0:Int)≤((0+i:Nat):Int):=by omega
   have il:i<l.length:=by have:=q10 h1;rwa [List.length_map]at this
   rw[h3]at hq ⊢
   rw[if_pos i0]at hq
   simp only[PP,P1,P2,P3,P4,P5,P6,P7,P8,P9,P10,P11,P12,P13,P14,L1,P15,N1,N2,N3,N4,N5,N6,N7,I1,I2,I3,I4,I5,I6,I7,reduceIte,reduceCtorEq]at hq i0 ⊢
   have il2:(i:Int)≤l.length:=by omega
   have e0:((i:Int)-0).toNat=i:=by omega
   have e1:((l.length:Int)-i).toNat=l.length-i:=by omega
   have ll:(natI l).length=l.length:=List.length_map _
   simp only[PP,P1,P2,P3,P4,P5,P6,P7,P8,P9,P10,P11,P12,P13,P14,L1,P15,N1,N2,N3,N4,N5,N6,N7,I1,I2,I3,I4,I5,I6,I7,reduceIte,reduceCtorEq,i0,il2,e0]
   refine clone_r T (xs:=natI l) (g:=g) (ver:=0) rfl (by omega) hlb (by simp only[PP,P1,P2,P3,P4,P5,P6,P7,P8,P9,P10,P11,P12,P13,P14,L1,P15,N1,N2,N3,N4,N5,N6,N7,I1,I2,I3,I4,I5,I6,I7,reduceIte,reduceCtorEq,cutOk,q16]) ?_
   simp only[PP,P1,P2,P3,P4,P5,P6,P7,P8,P9,P10,P11,P12,P13,P14,L1,P15,N1,N2,N3,N4,N5,N6,N7,I1,I2,I3,I4,I5,I6,I7,reduceIte,reduceCtorEq,i0,il2,e1,Int.le_refl]
   refine clone_r T (xs:=natI l) (g:=g) (ver:=0) rfl (by omega) hlb (by simp only[PP,P1,P2,P3,P4,P5,P6,P7,P8,P9,P10,P11,P12,P13,P14,L1,P15,N1,N2,N3,N4,N5,N6,N7,I1,I2,I3,I4,I5,I6,I7,reduceIte,reduceCtorEq,cutOk,q16]) ?_
   rw[List.take_of_length_le (show((natI l).drop i).length≤l.length-i by simp)]
   simp only[PP,P1,P2,P3,P4,P5,P6,P7,P8,P9,P10,P11,P12,P13,P14,L1,P15,N1,N2,N3,N4,N5,N6,N7,I1,I2,I3,I4,I5,I6,I7,reduceIte,reduceCtorEq]
   exact⟨_,PvWk.refl _,hq⟩
end
def itr (f:Nat→Nat) (v:Nat):Nat→Nat
 | 0=>v
 | j+1=>f (itr f v j)
theorem itr_lt {f:Nat→Nat} {n v:Nat} (hf:∀v,v<n→f v<n) (hv:v<n):∀j,itr f v j<n
 | 0=>hv
 | j+1=>hf _ (itr_lt hf hv j)
def its (f:Nat→Nat) (v m:Nat):List Nat:=(List.range m).map (itr f v)
theorem its_len (f:Nat→Nat) (v m:Nat):(its f v m).length=m:=by simp[its]
theorem its_get {f:Nat→Nat} {v m j:Nat} (h:j<m):(its f v m)[j]? =some (itr f v j):=by simp[its,h]
theorem its_succ (f:Nat→Nat) (v m:Nat):its f v (m+1)=its f v m++[itr f v m]:=by simp[its,List.range_succ]
theorem its_mem {f:Nat→Nat} {v m x:Nat} :x∈its f v m↔∃j,j<m∧itr f v j=x:=by simp[its]
theorem its_lt {f:Nat→Nat} {n v m:Nat} (hf:∀v,v<n→f v<n) (hv:v<n):∀x∈its f v m,x<n:=by
 intro x hx
 obtain⟨j,_,rfl⟩:=its_mem.1 hx
 exact itr_lt hf hv j
structure IsPlay (f:Nat→Nat) (v n:Nat) (p l:List Int) (m k:Nat):Prop where
 km:k<m
 mn:m≤n
 nd:(its f v m).Nodup
 back:itr f v m=itr f v k
 p:p=natI ((its f v m).take k)
 l:l=natI ((its f v m).drop k)
theorem natI_inj {l:List Nat} {i:Nat} {v:Nat} (h:(natI l)[i]? =some (v:Int)):l[i]? =some v:=by
 rw[List.getElem?_map]at h
 cases h1:l[i]? with
 | none=>rw[h1]at h;cases h
 | some a=>
  rw[h1]at h
  have:(a:Int)=v:=by simpa using h
  rw[show a=v by omega]
theorem playL_spec {st:List Int} {f:Nat→Nat} {n v:Nat} (hst:∀v,v<n→st[v]? =some ((f v:Nat):Int)) (hf:∀v,v<n→f v<n) (hv:v<n):
  ∀(fuel m:Nat),m+fuel=n+1→(its f v m).Nodup→∃m' k,m≤m'∧IsPlay f v n (playL st fuel (itr f v m:Nat) (natI (its f v m))).1 (playL st fuel (itr f v m:Nat) (natI (its f v m))).2 m' k
 | 0,m,hm,hnd=>by
  have:=nodup_lenN n _ hnd (its_lt hf hv)
  rw[its_len]at this
  omega
 | fuel+1,m,hm,hnd=>by
  have hlen:=nodup_lenN n _ hnd (its_lt hf hv)
  rw[its_len]at hlen
  unfold playL
  rcases idxI_spec (itr f v m:Nat) (natI (its f v m)) 0 with⟨h1,h2⟩ | ⟨i,h1,h2,h3⟩
  ·rw[h2,if_neg (by omega)]
   have hn:itr f v m∉its f v m:=fun h=>h1 (mem_natI.2 h)
   have e1:st.getD (itr f v m:Int).toNat 0=((itr f v (m+1):Nat):Int):=by
    rw[Int.toNat_natCast,List.getD,hst _ (itr_lt hf hv m)];rfl
   have e2:natI (its f v m)++[((itr f v m:Nat):Int)]=natI (its f v (m+1)):=by rw[its_succ];simp
   rw[e1,e2]
   have hnd':(its f v (m+1)).Nodup:=by
    rw[its_succ,List.nodup_append]
    exact⟨hnd,by simp,fun a ha b hb e=>by rw[List.mem_singleton]at hb;subst hb;subst e;exact hn ha⟩
   obtain⟨m',k,h4,h5⟩:=playL_spec hst hf hv fuel (m+1) (by omega) hnd'
   exact⟨m',k,by omega,h5⟩
  ·rw[h3,if_pos (by omega)]
   have h1':=natI_inj h1
   have hi:=q10 h1'
   rw[its_len]at hi
   rw[its_get hi]at h1'
   refine⟨m,i,Nat.le_refl _,hi,hlen,hnd,?_,?_,?_⟩
   ·simp only[Option.some.injEq]at h1';exact h1'.symm
   ·simp[natI,List.map_take]
   ·simp[natI,List.map_drop]
theorem play_spec {st:List Int} {f:Nat→Nat} {n v:Nat} (hst:∀v,v<n→st[v]? =some ((f v:Nat):Int)) (hf:∀v,v<n→f v<n) (hv:v<n):
  ∃m k,IsPlay f v n (playL st (n+1) v []).1 (playL st (n+1) v []).2 m k:=by
 obtain⟨m,k,_,h⟩:=playL_spec hst hf hv (n+1) 0 (by omega) (by simp[its])
 exact⟨m,k,h⟩
theorem IsPlay.len {f:Nat→Nat} {n v m k:Nat} {p l:List Int} (h:IsPlay f v n p l m k):p.length=k∧l.length=m-k:=by
 rw[h.p,h.l]
 simp[its_len]
 have:=h.km
 omega
theorem IsPlay.mem {f:Nat→Nat} {n v m k:Nat} {p l:List Int} (h:IsPlay f v n p l m k) (hf:∀v,v<n→f v<n) (hv:v<n):∀x∈l,0≤x∧x<n:=by
 intro x hx
 rw[h.l]at hx
 obtain⟨y,hy,rfl⟩:=List.mem_map.1 hx
 have:=its_lt hf hv y (List.mem_of_mem_drop hy)
 omega
def CycIn (O:Nat→Int) (S:Nat→List Nat) (R:Nat→Int) (p:Int) (W:Nat→Prop) (s:Nat→Nat):Prop:=
 ∀(c:Nat→Nat) (k:Nat),0<k→(∀i,c (i+k)=c i)→(∀i,W (c i))→(∀i,c (i+1)∈S (c i))→(∀i,O (c i)=p→c (i+1)=s (c i))→∃j,(∀i,R (c i)≤R (c j))∧R (c j) % 2=p
structure SolIn (O:Nat→Int) (S:Nat→List Nat) (R:Nat→Int) (D:Nat→Prop) (p:Int) (W:Nat→Prop) (s:Nat→Nat):Prop where
 sub:∀v,W v→D v
 own:∀v,W v→O v=p→s v∈S v∧W (s v)
 opp:∀v,W v→¬O v=p→∀u∈S v,D u→W u
 cyc:CycIn O S R p W s
structure AttIn (O:Nat→Int) (S:Nat→List Nat) (D:Nat→Prop) (p:Int) (X A:Nat→Prop) (s0 s:Nat→Nat) (r:Nat→Nat):Prop where
 sub:∀v,A v→D v
 tgt:∀v,X v→A v
 own:∀v,A v→¬X v→O v=p→s v∈S v∧A (s v)∧r (s v)<r v
 opp:∀v,A v→¬X v→¬O v=p→∀u∈S v,D u→A u∧r u<r v
 same:∀v,¬A v∨X v→s v=s0 v
 clo:∀v,D v→¬A v→O v=p→∀u∈S v,¬A u
 clp:∀v,D v→¬A v→¬O v=p→∃u∈S v,D u∧¬A u
theorem per_mul {c:Nat→Nat} {k:Nat} (h:∀i,c (i+k)=c i) (i:Nat):∀m,c (i+m*k)=c i
 | 0=>by simp
 | m+1=>by rw[Nat.succ_mul,←Nat.add_assoc,h,per_mul h i m]
theorem per_all {c:Nat→Nat} {k:Nat} (hk:0<k) (h:∀i,c (i+k)=c i) {P:Nat→Prop} (hs:∀i,P (c i)→P (c (i+1))) {i0:Nat} (h0:P (c i0)):∀i,P (c i):=by
 have fw:∀d,P (c (i0+d)):=by
  intro d
  induction d with
  | zero=>exact h0
  | succ d ih=>exact hs _ ih
 intro i
 rw[←per_mul h i i0]
 have:i0≤i0*k:=Nat.le_mul_of_pos_right _ hk
 obtain⟨d,hd⟩:∃d,i+i0*k=i0+d:=⟨i+i0*k-i0,by omega⟩
 rw[hd];exact fw d
theorem no_fall {c:Nat→Nat} {r:Nat→Nat} (h:∀i,r (c (i+1))<r (c i)):False:=by
 have:∀i,r (c i)+i≤r (c 0):=by
  intro i
  induction i with
  | zero=>exact Nat.le_refl _
  | succ i ih=>have:=h i;omega
 have:=this (r (c 0)+1)
 omega
section
variable {O:Nat→Int} {S:Nat→List Nat} {R:Nat→Int} {D:Nat→Prop} {p q:Int}
theorem AttIn.tot {X A:Nat→Prop} {s0 s:Nat→Nat} {r:Nat→Nat} (a:AttIn O S D p X A s0 s r) (ht:∀v,D v→∃u∈S v,D u):∀v,D v∧¬A v→∃u∈S v,D u∧¬A u:=by
 intro v ⟨hv,hn⟩
 by_cases h:O v=p
 ·obtain⟨u,hu,hd⟩:=ht v hv
  exact⟨u,hu,hd,a.clo v hv hn h u hu⟩
 ·exact a.clp v hv hn h
theorem zk_one {X A:Nat→Prop} {s0 s1 s2 s3:Nat→Nat} {r:Nat→Nat} {top:Int} (a:AttIn O S D p X A s0 s1 r) (hX:∀v,X v↔D v∧R v=top) (hm:∀v,D v→R v≤top) (hp:top % 2=p)
  (sub:SolIn O S R (fun v=>D v∧¬A v) p (fun v=>D v∧¬A v) s2) (h2:∀v,¬(D v∧¬A v)→s2 v=s1 v) (h3:∀v,X v→O v=p→s3 v∈S v∧D (s3 v)) (h3':∀v,¬X v→s3 v=s2 v):SolIn O S R D p D s3:=by
 have own:∀v,D v→O v=p→s3 v∈S v∧D (s3 v):=by
  intro v hv ho
  by_cases hx:X v
  ·exact h3 v hx ho
  ·rw[h3' v hx]
   by_cases ha:A v
   ·rw[h2 v (fun h=>h.2 ha)]
    obtain⟨q1,q2,_⟩:=a.own v ha hx ho
    exact⟨q1,a.sub _ q2⟩
   ·obtain⟨q1,q2⟩:=sub.own v ⟨hv,ha⟩ ho
    exact⟨q1,q2.1⟩
 refine⟨fun _ h=>h,own,fun v _ _ u _ h=>h,fun c k hk hper hW hS hs=>?_⟩
 by_cases hx:∃i,X (c i)
 ·obtain⟨i,hi⟩:=hx
  have:=(hX _).1 hi
  exact⟨i,fun j=>by rw[this.2];exact hm _ (hW j),by rw[this.2];exact hp⟩
 ·have hx:∀i,¬X (c i):=fun i h=>hx ⟨i,h⟩
  by_cases ha:∃i,A (c i)
  ·exfalso
   obtain⟨i,hi⟩:=ha
   have step:∀i,A (c i)→A (c (i+1))∧r (c (i+1))<r (c i):=fun i hi=>by
    by_cases ho:O (c i)=p
    ·rw[hs i ho,h3' _ (hx i),h2 _ (fun h=>h.2 hi)]
     exact(a.own _ hi (hx i) ho).2
    ·exact a.opp _ hi (hx i) ho _ (hS i) (hW _)
   have hall:=per_all hk hper (P:=A) (fun i h=>(step i h).1) hi
   exact no_fall (c:=c) (r:=r) fun i=>(step i (hall i)).2
  ·have ha:∀i,¬A (c i):=fun i h=>ha ⟨i,h⟩
   exact sub.cyc c k hk hper (fun i=>⟨hW i,ha i⟩) hS fun i ho=>by rw[hs i ho,h3' _ (hx i)]
theorem zk_two {X A W L Wp Wq:Nat→Prop} {s0 s1 s2 s3 s4:Nat→Nat} {r r2:Nat→Nat} (hpq:p≠q) (hO:∀v,D v→O v=p∨O v=q) (a:AttIn O S D p X A s0 s1 r)
  (sub:SolIn O S R (fun v=>D v∧¬A v) q W s2) (b:AttIn O S D q W L s2 s3 r2)
  (subp:SolIn O S R (fun v=>D v∧¬L v) p Wp s4) (subq:SolIn O S R (fun v=>D v∧¬L v) q Wq s4) (h4:∀v,¬(D v∧¬L v)→s4 v=s3 v):
  SolIn O S R D p Wp s4∧SolIn O S R D q (fun v=>Wq v∨L v) s4:=by
 have wclo:∀v,W v→¬O v=q→∀u∈S v,D u→W u:=fun v hv ho u hu hd=>by
  have hDA:=sub.sub v hv
  have hp:O v=p:=(hO v hDA.1).resolve_right ho
  exact sub.opp v hv ho u hu ⟨hd,a.clo v hDA.1 hDA.2 hp u hu⟩
 have lown:∀v,L v→O v=q→s4 v∈S v∧L (s4 v):=fun v hv ho=>by
  rw[h4 v (fun h=>h.2 hv)]
  by_cases hw:W v
  ·rw[b.same v (.inr hw)]
   obtain⟨q1,q2⟩:=sub.own v hw ho
   exact⟨q1,b.tgt _ q2⟩
  ·obtain⟨q1,q2,_⟩:=b.own v hv hw ho
   exact⟨q1,q2⟩
 have lopp:∀v,L v→¬O v=q→∀u∈S v,D u→L u:=fun v hv ho u hu hd=>by
  by_cases hw:W v
  ·exact b.tgt _ (wclo v hw ho u hu hd)
  ·exact(b.opp v hv hw ho u hu hd).1
 constructor
 ·refine⟨fun v h=>(subp.sub v h).1,subp.own,fun v hv ho u hu hd=>?_,subp.cyc⟩
  have hDL:=subp.sub v hv
  exact subp.opp v hv ho u hu ⟨hd,b.clo v hDL.1 hDL.2 ((hO v hDL.1).resolve_left ho) u hu⟩
 ·have hsub:∀v,Wq v∨L v→D v:=fun v h=>h.elim (fun h=>(subq.sub v h).1) (b.sub v)
  refine⟨hsub,fun v hv ho=>?_,fun v hv ho u hu hd=>?_,fun c k hk hper hW hS hs=>?_⟩
  ·rcases hv with hv | hv
   ·obtain⟨q1,q2⟩:=subq.own v hv ho
    exact⟨q1,.inl q2⟩
   ·obtain⟨q1,q2⟩:=lown v hv ho
    exact⟨q1,.inr q2⟩
  ·rcases hv with hv | hv
   ·by_cases hl:L u
    ·exact .inr hl
    ·exact .inl (subq.opp v hv ho u hu ⟨hd,hl⟩)
   ·exact .inr (lopp v hv ho u hu hd)
  ·by_cases hl:∃i,L (c i)
   ·obtain⟨i,hi⟩:=hl
    have hall:=per_all hk hper (P:=L) (fun i h=>by
     by_cases ho:O (c i)=q
     ·rw[hs i ho];exact(lown _ h ho).2
     ·exact lopp _ h ho _ (hS i) (hsub _ (hW _))) hi
    by_cases hw:∃i,W (c i)
    ·obtain⟨i,hi⟩:=hw
     have s42:∀v,W v→s4 v=s2 v:=fun v hv=>by rw[h4 v (fun h=>h.2 (b.tgt v hv)),b.same v (.inr hv)]
     have hallw:=per_all hk hper (P:=W) (fun i h=>by
      by_cases ho:O (c i)=q
      ·rw[hs i ho,s42 _ h];exact(sub.own _ h ho).2
      ·exact wclo _ h ho _ (hS i) (hsub _ (hW _))) hi
     exact sub.cyc c k hk hper hallw hS fun i ho=>by rw[hs i ho,s42 _ (hallw i)]
    ·exfalso
     have hw:∀i,¬W (c i):=fun i h=>hw ⟨i,h⟩
     refine no_fall (c:=c) (r:=r2) fun i=>?_
     by_cases ho:O (c i)=q
     ·rw[hs i ho,h4 _ (fun h=>h.2 (hall i))]
      exact(b.own _ (hall i) (hw i) ho).2.2
     ·exact(b.opp _ (hall i) (hw i) ho _ (hS i) (hsub _ (hW _))).2
   ·have hl:∀i,¬L (c i):=fun i h=>hl ⟨i,h⟩
    exact subq.cyc c k hk hper (fun i=>(hW i).resolve_right (hl i)) hS hs
end
structure IsSol (n:Nat) (O:Nat→Int) (S:Nat→List Nat) (R:Nat→Int) (w:Nat→Int) (s:Nat→Nat):Prop where
 r01:∀v,v<n→w v=0∨w v=1
 p0:SolIn O S R (fun v=>v<n) 0 (fun v=>v<n∧w v=0) s
 p1:SolIn O S R (fun v=>v<n) 1 (fun v=>v<n∧w v=1) s
theorem IsSol.of {n:Nat} {O:Nat→Int} {S:Nat→List Nat} {R:Nat→Int} {w:Nat→Int} {s:Nat→Nat} (h:IsSol n O S R w s) {p:Int} (hp:p=0∨p=1):SolIn O S R (fun v=>v<n) p (fun v=>v<n∧w v=p) s:=by
 rcases hp with rfl | rfl
 ·exact h.p0
 ·exact h.p1
theorem itr_add (f:Nat→Nat) (v:Nat):∀i j,itr f v (i+j)=itr f (itr f v i) j
 | i,0=>rfl
 | i,j+1=>by show f (itr f v (i+j))=f _;rw[itr_add f v i j]
theorem itr_per {f:Nat→Nat} {v m k:Nat} (hk:k≤m) (h:itr f v m=itr f v k) (i:Nat):itr f v (k+(i+(m-k)))=itr f v (k+i):=by
 rw[show k+(i+(m-k))=m+i by omega,itr_add,itr_add,h]
theorem orbit {f:Nat→Nat} {n v:Nat} (hf:∀v,v<n→f v<n) (hv:v<n):∃m k,k<m∧itr f v m=itr f v k:=by
 obtain⟨m,k,h⟩:=play_spec (st:=(List.range n).map fun v=>((f v:Nat):Int)) (f:=f) (n:=n) (v:=v) (fun v hv=>by simp[hv]) hf hv
 exact⟨m,k,h.km,h.back⟩
theorem no_both {O O':Nat→Int} {S S':Nat→List Nat} {R R':Nat→Int} {D D' W W':Nat→Prop} {p q:Int} {s s':Nat→Nat} {n:Nat} {ph:Nat→Nat} (a:SolIn O S R D p W s) (b:SolIn O' S' R' D' q W' s') (hpq:p≠q)
  (hn:∀v,W' v→v<n) (hR:∀v,W' v→R' v=R (ph v))
  (hst:∀u,W (ph u)→W' u→∃u',ph u'∈S (ph u)∧u'∈S' u∧D (ph u')∧D' u'∧(O (ph u)=p→ph u'=s (ph u))∧(O' u=q→u'=s' u)) {v:Nat} (h1:W (ph v)) (h2:W' v):False:=by
 classical
 have hst':∀u,∃u',W (ph u)→W' u→ph u'∈S (ph u)∧u'∈S' u∧D (ph u')∧D' u'∧(O (ph u)=p→ph u'=s (ph u))∧(O' u=q→u'=s' u):=fun u=>by
  by_cases h:W (ph u)∧W' u
  ·obtain⟨u',h'⟩:=hst u h.1 h.2
   exact⟨u',fun _ _=>h'⟩
  ·exact⟨0,fun q1 q2=>absurd ⟨q1,q2⟩ h⟩
 let f:Nat→Nat:=fun u=>Classical.choose (hst' u)
 have hf:∀u,W (ph u)→W' u→ph (f u)∈S (ph u)∧f u∈S' u∧D (ph (f u))∧D' (f u)∧(O (ph u)=p→ph (f u)=s (ph u))∧(O' u=q→f u=s' u):=fun u=>Classical.choose_spec (hst' u)
 have inv:∀i,W (ph (itr f v i))∧W' (itr f v i):=by
  intro i
  induction i with
  | zero=>exact⟨h1,h2⟩
  | succ i ih=>
   obtain⟨q1,q2,q3,q4,q5,q6⟩:=hf _ ih.1 ih.2
   constructor
   ·show W (ph (f _))
    by_cases ho:O (ph (itr f v i))=p
    ·rw[q5 ho];exact(a.own _ ih.1 ho).2
    ·exact a.opp _ ih.1 ho _ q1 q3
   ·show W' (f _)
    by_cases ho:O' (itr f v i)=q
    ·rw[q6 ho];exact(b.own _ ih.2 ho).2
    ·exact b.opp _ ih.2 ho _ q2 q4
 --the orbit is a cycle in the end
 let f':Nat→Nat:=fun u=>if W (ph u)∧W' u then f u else u
 have ff:∀i,itr f' v i=itr f v i:=by
  intro i
  induction i with
  | zero=>rfl
  | succ i ih=>show f' _=f _;rw[ih];show(if _ then _ else _)=_;rw[if_pos (inv i)]
 have hf':∀u,u<n→f' u<n:=fun u hu=>by
  show(if _ then _ else _)<n
  split
  ·rename_i h
   obtain⟨q1,q2,q3,q4,q5,q6⟩:=hf u h.1 h.2
   have:W' (f u):=by
    by_cases ho:O' u=q
    ·rw[q6 ho];exact(b.own _ h.2 ho).2
    ·exact b.opp _ h.2 ho _ q2 q4
   exact hn _ this
  ·exact hu
 obtain⟨m,k,hkm,hback⟩:=orbit hf' (hn v h2)
 rw[ff,ff]at hback
 have hper:=itr_per (by omega) hback
 obtain⟨j,j1,j2⟩:=a.cyc (fun i=>ph (itr f v (k+i))) (m-k) (by omega) (fun i=>by show ph _=ph _;rw[hper i]) (fun i=>(inv _).1) (fun i=>(hf _ (inv (k+i)).1 (inv (k+i)).2).1) (fun i=>(hf _ (inv (k+i)).1 (inv (k+i)).2).2.2.2.2.1)
 obtain⟨j',j3,j4⟩:=b.cyc (fun i=>itr f v (k+i)) (m-k) (by omega) hper (fun i=>(inv _).2) (fun i=>(hf _ (inv (k+i)).1 (inv (k+i)).2).2.1) (fun i=>(hf _ (inv (k+i)).1 (inv (k+i)).2).2.2.2.2.2)
 have e1:=j1 j'
 have e2:=j3 j
 rw[hR _ (inv _).2,hR _ (inv _).2]at e2
 rw[hR _ (inv _).2]at j4
 apply hpq
 rw[←j2,←j4]
 congr 1
 omega
theorem IsSol.unique {n:Nat} {O:Nat→Int} {S:Nat→List Nat} {R:Nat→Int} {w w':Nat→Int} {s s':Nat→Nat} (hO:∀v,v<n→O v=0∨O v=1) (hS:∀v,v<n→∀u∈S v,u<n) (h:IsSol n O S R w s) (h':IsSol n O S R w' s'):∀v,v<n→w v=w' v:=by
 have key:∀(p q:Int),(p=0∨p=1)→(q=0∨q=1)→p≠q→∀v,v<n→w v=p→w' v=q→False:=by
  intro p q hp hq hpq v hv h1 h2
  refine no_both (h.of hp) (h'.of hq) hpq (n:=n) (ph:=id) (fun v h=>h.1) (fun v _=>rfl) (fun u hu hu'=>?_) (v:=v) ⟨hv,h1⟩ ⟨hv,h2⟩
  simp only[id]at hu ⊢
  by_cases ho:O u=p
  ·obtain⟨q1,q2⟩:=(h.of hp).own u hu ho
   exact⟨s u,q1,q1,q2.1,q2.1,fun _=>rfl,fun e=>absurd (ho.symm.trans e) hpq⟩
  ·have hoq:O u=q:=by have:=hO u hu.1;omega
   obtain⟨q1,q2⟩:=(h'.of hq).own u hu' hoq
   exact⟨s' u,q1,q1,q2.1,q2.1,fun e=>absurd e ho,fun _=>rfl⟩
 intro v hv
 have h1:=h.r01 v hv
 have h2:=h'.r01 v hv
 rcases h1 with e1 | e1<;>rcases h2 with e2 | e2
 ·rw[e1,e2]
 ·exact(key 0 1 (.inl rfl) (.inr rfl) (by omega) v hv e1 e2).elim
 ·exact(key 1 0 (.inr rfl) (.inl rfl) (by omega) v hv e1 e2).elim
 ·rw[e1,e2]
end Go.Am.Ar

