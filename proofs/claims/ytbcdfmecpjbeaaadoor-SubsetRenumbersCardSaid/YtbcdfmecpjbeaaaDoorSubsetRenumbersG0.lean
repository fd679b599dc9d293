/- Contracts of the small functions that games are checked with, and what goes with it. -/
import Derived.Test.YtbcdfmecpjbeaaaDoorSubsetRenumbersCode
import Derived.Test.YtbcdfmecpjbeaaaDoorPmR
import Derived.Test.YtbcdfmecpjbeaaaDoorPmC
set_option linter.unusedVariables false
set_option linter.unusedSimpArgs false
set_option maxRecDepth 10000
namespace Go.Am.Ar
open Go.Am.PV renaming junk→Zj
open Go.Am renaming pchk→P1,pold→P2,PKNo→P3,ppack→P4,PObj.under→P5,pput→P6,ptset→P7,ptget→P8,pev→P9,ofAV→P10,q38→P11,ppad→P12,pfill→P13,prepl→P14,AO.effect→P15
open List renaming replicate→L1
open Nat renaming reduceAdd→N1,reduceSub→N2,reduceMul→N3,reduceLT→N4,reduceLeDiff→N5,reduceEqDiff→N6,reduceBEq→N7
open Int renaming reduceToNat→I1,reduceLT→I2,reduceLE→I3,reduceEq→I4,reduceAdd→I5,reduceSub→I6,reduceNeg→I7
abbrev big:Nat:=1000000000000
theorem wrap_succ {k:Nat} (h:k<big):IntKind.i64.wrap ((k:Int)+1)=((k+1:Nat):Int):=by
 have h:k<1000000000000:=h
 rw[wrap64 (by omega) (by omega)];omega
theorem drop_get' {α:Type} {xs:List α} {k:Nat} (h:k<xs.length):xs.drop k=xs[k]::xs.drop (k+1):=List.drop_eq_getElem_cons h
theorem some_of {α:Type} {xs:List α} {k:Nat} (h:k<xs.length):∃x,xs[k]? =some x:=⟨xs[k],List.getElem?_eq_getElem h⟩
theorem drop_some {α:Type} {xs:List α} {k:Nat} {x:α} (h:xs[k]? =some x):xs.drop k=x::xs.drop (k+1):=by
 have hk:=q17 h
 rw[List.drop_eq_getElem_cons hk]
 rw[List.getElem?_eq_getElem hk]at h
 cases h;rfl
theorem take_some {α:Type} {xs:List α} {k:Nat} {x:α} (h:xs[k]? =some x):xs.take (k+1)=xs.take k++[x]:=by simp[List.take_add_one,h]
theorem getD_some {xs:List Int} {k:Nat} {x:Int} (h:xs[k]? =some x):xs.getD k 0=x:=by simp[List.getD,h]
section
variable {tab:FuncId→Option AF} (T:HasA tab)
include T
end
section
variable {tab:FuncId→Option AF} (T:HasA tab)
include T
theorem equalInts_p {M:Mem} {K:PV→Mem→Prop} {f o f' o':Bool} {xs ys:List Int} (hm:xs.length<big) (hk:K (.bool (decide (xs=ys))) M):
  SemC tab 37 [slI f o .i64 xs,slI f' o' .i64 ys] M K:=by
 refine q51 T.h37 (by simp only[PP,P1,P2,P3,P4,P5,P6,P7,P8,P9,P10,P11,P12,P13,P14,L1,P15,N1,N2,N3,N4,N5,N6,N7,I1,I2,I3,I4,I5,I6,I7,reduceIte,reduceCtorEq]) ?_
 simp only[af37,PP,P1,P2,P3,P4,P5,P6,P7,P8,P9,P10,P11,P12,P13,P14,L1,P15,N1,N2,N3,N4,N5,N6,N7,I1,I2,I3,I4,I5,I6,I7,reduceIte,reduceCtorEq]
 refine QIf.intro (fun c1=>?_) (fun c1=>?_)
 ·simp only[PP,P1,P2,P3,P4,P5,P6,P7,P8,P9,P10,P11,P12,P13,P14,L1,P15,N1,N2,N3,N4,N5,N6,N7,I1,I2,I3,I4,I5,I6,I7,reduceIte,reduceCtorEq,c1]
  have hl:xs.length=ys.length:=by omega
  refine loop1 (fun(k:Nat)=>k≤xs.length∧K (.bool (decide (xs.drop k=ys.drop k))) M) (fun k=>[slI f o .i64 xs,slI f' o' .i64 ys,Zj,Zj,Zj,p64 k,Zj,Zj,Zj,Zj,Zj,Zj,Zj,Zj,Zj,Zj,Zj,Zj,Zj,Zj,Zj,Zj,Zj,Zj,Zj,Zj]) (fun _=>[]) (fun k=>xs.length-k) 0 ⟨by omega,hk⟩ (by simp only[PW]) rfl ?_
  intro k ⟨hle,hq⟩ ih
  refine SemW_go (by kernel_rfl) ?_
  simp only[PP,P1,P2,P3,P4,P5,P6,P7,P8,P9,P10,P11,P12,P13,P14,L1,P15,N1,N2,N3,N4,N5,N6,N7,I1,I2,I3,I4,I5,I6,I7,reduceIte,reduceCtorEq]
  refine QIf.intro (fun c=>?_) (fun c=>?_)
  ·have hk':k<xs.length:=by omega
   have hk2:k<ys.length:=by omega
   rw[drop_get' hk',drop_get' hk2]at hq
   have hw:=wrap_succ (k:=k) (by omega)
   have g1:xs[k]? =some xs[k]:=List.getElem?_eq_getElem hk'
   have g2:ys[k]? =some ys[k]:=List.getElem?_eq_getElem hk2
   have h0:(0:Int)≤k:=by omega
   have cy:(k:Int)<ys.length:=by omega
   simp only[PP,P1,P2,P3,P4,P5,P6,P7,P8,P9,P10,P11,P12,P13,P14,L1,P15,N1,N2,N3,N4,N5,N6,N7,I1,I2,I3,I4,I5,I6,I7,reduceIte,reduceCtorEq,c,g1,g2,hw,h0,cy]at hq ⊢
   refine QIf.intro (fun h1=>?_) (fun h1=>?_)
   ·simp only[PP,P1,P2,P3,P4,P5,P6,P7,P8,P9,P10,P11,P12,P13,P14,L1,P15,N1,N2,N3,N4,N5,N6,N7,I1,I2,I3,I4,I5,I6,I7,reduceIte,reduceCtorEq,h1,hw,List.cons.injEq]at hq ⊢
    exact q39 (ih (k+1) ⟨by omega,hq⟩ (by omega)) (by simp only[PW])
   ·simp only[PP,P1,P2,P3,P4,P5,P6,P7,P8,P9,P10,P11,P12,P13,P14,L1,P15,N1,N2,N3,N4,N5,N6,N7,I1,I2,I3,I4,I5,I6,I7,reduceIte,reduceCtorEq,h1,List.cons.injEq]at hq ⊢
    exact hq
  ·simp only[PP,P1,P2,P3,P4,P5,P6,P7,P8,P9,P10,P11,P12,P13,P14,L1,P15,N1,N2,N3,N4,N5,N6,N7,I1,I2,I3,I4,I5,I6,I7,reduceIte,reduceCtorEq,c]
   rw[List.drop_eq_nil_of_le (by omega),List.drop_eq_nil_of_le (by omega)]at hq
   simp only[PP,P1,P2,P3,P4,P5,P6,P7,P8,P9,P10,P11,P12,P13,P14,L1,P15,N1,N2,N3,N4,N5,N6,N7,I1,I2,I3,I4,I5,I6,I7,reduceIte,reduceCtorEq]at hq
   exact hq
 ·simp only[PP,P1,P2,P3,P4,P5,P6,P7,P8,P9,P10,P11,P12,P13,P14,L1,P15,N1,N2,N3,N4,N5,N6,N7,I1,I2,I3,I4,I5,I6,I7,reduceIte,reduceCtorEq,c1]
  have hne:¬xs=ys:=by rintro rfl;exact c1 rfl
  simp only[PP,P1,P2,P3,P4,P5,P6,P7,P8,P9,P10,P11,P12,P13,P14,L1,P15,N1,N2,N3,N4,N5,N6,N7,I1,I2,I3,I4,I5,I6,I7,reduceIte,reduceCtorEq,hne]at hk
  exact hk
theorem equalRows_p {M:Mem} {K:PV→Mem→Prop} {f o f' o' g1 g2 g3 g4:Bool} {xs ys:List (List Int)} (hm:xs.length<big) (hr:∀r∈xs,r.length<big) (hk:K (.bool (decide (xs=ys))) M):
  SemC tab 30 [slR f o g1 g2 .i64 xs,slR f' o' g3 g4 .i64 ys] M K:=by
 refine q51 T.h30 (by simp only[PP,P1,P2,P3,P4,P5,P6,P7,P8,P9,P10,P11,P12,P13,P14,L1,P15,N1,N2,N3,N4,N5,N6,N7,I1,I2,I3,I4,I5,I6,I7,reduceIte,reduceCtorEq]) ?_
 simp only[af30,PP,P1,P2,P3,P4,P5,P6,P7,P8,P9,P10,P11,P12,P13,P14,L1,P15,N1,N2,N3,N4,N5,N6,N7,I1,I2,I3,I4,I5,I6,I7,reduceIte,reduceCtorEq]
 refine QIf.intro (fun c1=>?_) (fun c1=>?_)
 ·simp only[PP,P1,P2,P3,P4,P5,P6,P7,P8,P9,P10,P11,P12,P13,P14,L1,P15,N1,N2,N3,N4,N5,N6,N7,I1,I2,I3,I4,I5,I6,I7,reduceIte,reduceCtorEq,c1]
  have hl:xs.length=ys.length:=by omega
  refine loop1 (fun(k:Nat)=>k≤xs.length∧K (.bool (decide (xs.drop k=ys.drop k))) M) (fun k=>[slR f o g1 g2 .i64 xs,slR f' o' g3 g4 .i64 ys,Zj,Zj,Zj,p64 k,Zj,Zj,Zj,Zj,Zj,Zj,Zj,Zj,Zj,Zj,Zj,Zj,Zj,Zj,Zj,Zj,Zj,Zj,Zj,Zj,Zj]) (fun _=>[]) (fun k=>xs.length-k) 0 ⟨by omega,hk⟩ (by simp only[PW]) rfl ?_
  intro k ⟨hle,hq⟩ ih
  refine SemW_go (by kernel_rfl) ?_
  simp only[PP,P1,P2,P3,P4,P5,P6,P7,P8,P9,P10,P11,P12,P13,P14,L1,P15,N1,N2,N3,N4,N5,N6,N7,I1,I2,I3,I4,I5,I6,I7,reduceIte,reduceCtorEq]
  refine QIf.intro (fun c=>?_) (fun c=>?_)
  ·have hk':k<xs.length:=by omega
   have hk2:k<ys.length:=by omega
   rw[drop_get' hk',drop_get' hk2]at hq
   have hw:=wrap_succ (k:=k) (by omega)
   have q1:xs[k]? =some xs[k]:=List.getElem?_eq_getElem hk'
   have q2:ys[k]? =some ys[k]:=List.getElem?_eq_getElem hk2
   have h0:(0:Int)≤k:=by omega
   have cy:(k:Int)<ys.length:=by omega
   simp only[PP,P1,P2,P3,P4,P5,P6,P7,P8,P9,P10,P11,P12,P13,P14,L1,P15,N1,N2,N3,N4,N5,N6,N7,I1,I2,I3,I4,I5,I6,I7,reduceIte,reduceCtorEq,c,q1,q2,hw,h0,cy]at hq ⊢
   refine equalInts_p T (hr _ (List.getElem_mem hk')) ?_
   by_cases h1:xs[k]=ys[k]
   ·simp only[PP,P1,P2,P3,P4,P5,P6,P7,P8,P9,P10,P11,P12,P13,P14,L1,P15,N1,N2,N3,N4,N5,N6,N7,I1,I2,I3,I4,I5,I6,I7,reduceIte,reduceCtorEq,h1,hw,List.cons.injEq]at hq ⊢
    exact q39 (ih (k+1) ⟨by omega,hq⟩ (by omega)) (by simp only[PW])
   ·simp only[PP,P1,P2,P3,P4,P5,P6,P7,P8,P9,P10,P11,P12,P13,P14,L1,P15,N1,N2,N3,N4,N5,N6,N7,I1,I2,I3,I4,I5,I6,I7,reduceIte,reduceCtorEq,h1,List.cons.injEq]at hq ⊢
    exact hq
  ·simp only[PP,P1,P2,P3,P4,P5,P6,P7,P8,P9,P10,P11,P12,P13,P14,L1,P15,N1,N2,N3,N4,N5,N6,N7,I1,I2,I3,I4,I5,I6,I7,reduceIte,reduceCtorEq,c]
   rw[List.drop_eq_nil_of_le (by omega),List.drop_eq_nil_of_le (by omega)]at hq
   simp only[PP,P1,P2,P3,P4,P5,P6,P7,P8,P9,P10,P11,P12,P13,P14,L1,P15,N1,N2,N3,N4,N5,N6,N7,I1,I2,I3,I4,I5,I6,I7,reduceIte,reduceCtorEq]at hq
   exact hq
 ·simp only[PP,P1,P2,P3,P4,P5,P6,P7,P8,P9,P10,P11,P12,P13,P14,L1,P15,N1,N2,N3,N4,N5,N6,N7,I1,I2,I3,I4,I5,I6,I7,reduceIte,reduceCtorEq,c1]
  have hne:¬xs=ys:=by rintro rfl;exact c1 rfl
  simp only[PP,P1,P2,P3,P4,P5,P6,P7,P8,P9,P10,P11,P12,P13,P14,L1,P15,N1,N2,N3,N4,N5,N6,N7,I1,I2,I3,I4,I5,I6,I7,reduceIte,reduceCtorEq,hne]at hk
  exact hk
end
section
variable {tab:FuncId→Option AF} (T:HasA tab)
include T
end
def maxFrom:Int→List Int→Int
 | m,[]=>m
 | m,x::l=>maxFrom (max m x) l
section
variable {tab:FuncId→Option AF} (T:HasA tab)
include T
theorem max_p {M:Mem} {K:PV→Mem→Prop} {f o:Bool} {x:Int} {xs:List Int} (hm:(x::xs).length<big) (hq:K (p64 (maxFrom x xs)) M):
  SemC tab 54 [slI f o .i64 (x::xs)] M K:=by
 refine q51 T.h54 (by simp only[PP,P1,P2,P3,P4,P5,P6,P7,P8,P9,P10,P11,P12,P13,P14,L1,P15,N1,N2,N3,N4,N5,N6,N7,I1,I2,I3,I4,I5,I6,I7,reduceIte,reduceCtorEq]) ?_
 have c1:¬((xs.length+1:Nat):Int)<1:=by omega
 have c2:(0:Int)<((xs.length+1:Nat):Int):=by omega
 simp only[af54,PP,P1,P2,P3,P4,P5,P6,P7,P8,P9,P10,P11,P12,P13,P14,L1,P15,N1,N2,N3,N4,N5,N6,N7,I1,I2,I3,I4,I5,I6,I7,reduceIte,reduceCtorEq,c1,c2]
 have hm':xs.length+1<1000000000000:=hm
 refine loop2 (fun(k:Nat) (m:Int)=>k≤xs.length∧K (p64 (maxFrom m (xs.drop k))) M) (fun k m=>[slI f o .i64 (x::xs),Zj,Zj,p64 m,p64 ((k+1:Nat):Int),Zj,Zj,Zj,Zj,Zj,Zj,Zj,Zj,Zj,Zj,Zj,Zj,Zj,Zj,Zj,Zj,Zj,Zj,Zj,Zj]) (fun _ _=>[]) (fun k _=>xs.length-k) 0 x ⟨by omega,hq⟩ (by simp only[PW]) rfl ?_
 intro k m ⟨hle,hq⟩ ih
 refine SemW_go (by kernel_rfl) ?_
 simp only[PP,P1,P2,P3,P4,P5,P6,P7,P8,P9,P10,P11,P12,P13,P14,L1,P15,N1,N2,N3,N4,N5,N6,N7,I1,I2,I3,I4,I5,I6,I7,reduceIte,reduceCtorEq]
 refine QIf.intro (fun c=>?_) (fun c=>?_)
 ·have hk':k<xs.length:=by omega
  have g1:xs[k]? =some xs[k]:=List.getElem?_eq_getElem hk'
  have h0:(0:Int)≤((k+1:Nat):Int):=by omega
  have hw:=wrap_succ (k:=k+1) (by show _<1000000000000;omega)
  rw[drop_get' hk']at hq
  simp only[PP,P1,P2,P3,P4,P5,P6,P7,P8,P9,P10,P11,P12,P13,P14,L1,P15,N1,N2,N3,N4,N5,N6,N7,I1,I2,I3,I4,I5,I6,I7,reduceIte,reduceCtorEq,c,g1,h0,hw,maxFrom]at hq ⊢
  exact q39 (ih (k+1) _ ⟨by omega,hq⟩ (by omega)) (by simp only[PW])
 ·rw[List.drop_eq_nil_of_le (by omega)]at hq
  simp only[PP,P1,P2,P3,P4,P5,P6,P7,P8,P9,P10,P11,P12,P13,P14,L1,P15,N1,N2,N3,N4,N5,N6,N7,I1,I2,I3,I4,I5,I6,I7,reduceIte,reduceCtorEq,c,maxFrom]at hq ⊢
  exact hq
end
theorem nodup_lenN:∀(n:Nat) (l:List Nat),l.Nodup→(∀x∈l,x<n)→l.length≤n
 | 0,l,_,h=>by
  cases l with
  | nil=>simp
  | cons x l=>have:=h x (by simp);omega
 | n+1,l,hd,h=>by
  have:=nodup_lenN n (l.filter fun x=>x !=n) (hd.filter _) (fun x hx=>by
   rw[List.mem_filter]at hx
   have:=h x hx.1
   have:x≠n:=by simpa using hx.2
   omega)
  have h2:l.length≤(l.filter fun x=>x !=n).length+1:=by
   clear this h
   induction l with
   | nil=>simp
   | cons x l ih=>
    rw[List.nodup_cons]at hd
    by_cases e:x=n
    ·subst e
     have:l.filter (fun y=>y !=x)=l:=by
      rw[List.filter_eq_self]
      intro y hy
      have:y≠x:=fun q=>hd.1 (q▸hy)
      simpa using this
     simp[this]
    ·have:=ih hd.2
     have hx:(x !=n)=true:=by simpa using e
     simp only[List.filter_cons,hx,if_true,List.length_cons]
     omega
  omega
theorem SemC_true {tab:FuncId→Option AF} {g:FuncId} (hg:tab g=some (.prim primTrue)) {M:Mem} {K:PV→Mem→Prop} (hk:K (.bool true) M):SemC tab g [] M K:=by
 intro w h args' h0 s ha
 have:args'=[]:=List.length_eq_zero_iff.1 (by simpa using ha.len.symm)
 subst this
 unfold C
 refine⟨.bool true,h,?_,w,.bool true,M,PStp.refl (Nat.le_refl _) w h,s,.bool true,hk⟩
 rw[lim_call]
 simp only[acallF,hg,primTrue]
section
variable {tab:FuncId→Option AF} (T:HasA tab)
include T
end
structure Eg where
 fr:Int
 to:Int
 ps:Int
 ng:Int
 deriving DecidableEq,Inhabited
structure NF where
 vs:Int
 n:Int
 st:List Int
 fi:List Int
 es:List Eg
theorem wrap8 {x:Nat} (h:x<256):IntKind.u8.wrap (x:Int)=x:=by
 simp only[IntKind.wrap,IntKind.signed,IntKind.bits]
 simp
 omega
section
variable {tab:FuncId→Option AF} (T:HasA tab)
include T
end
section
variable (M l:Mem) (i:Nat) (x:PObj)
theorem gk:(M++l)[M.length+i]? =l[i]? :=by rw[List.getElem?_append_right (by omega)];congr 1;omega
theorem gk0:(M++l)[M.length]? =l[0]? :=by rw[List.getElem?_append_right (Nat.le_refl _),Nat.sub_self]
theorem sk:(M++l).set (M.length+i) x=M++l.set i x:=by rw[List.set_append_right _ _ (by omega)];congr 2;omega
theorem sk0:(M++l).set M.length x=M++l.set 0 x:=by rw[List.set_append_right _ _ (Nat.le_refl _),Nat.sub_self]
end
theorem pmin_two (k:IntKind) (a b:Int):pminV (.int k a) [.int k b]=some (.int k (min a b)):=by
 simp[pminV,toAV0,toAVs,foldO,amin2,q38]
 by_cases h:b<a
 ·rw[if_pos h];omega
 ·rw[if_neg h];omega
section
variable {tab:FuncId→Option AF} (T:HasA tab)
include T
end
section
variable {tab:FuncId→Option AF} (T:HasA tab)
include T
end
end Go.Am.Ar

