/- Contracts of the small functions that games are checked with, and what goes with it. -/
import Derived.Test.YtbcdfmecpjbeaaaDoorSubsetReturnsCode
import Derived.Test.YtbcdfmecpjbeaaaDoorPmR
import Derived.Test.YtbcdfmecpjbeaaaDoorPmC
set_option linter.unusedVariables false
set_option linter.unusedSimpArgs false
set_option maxRecDepth 10000
namespace Go.Am.Ar
open Go.Am.PV renaming junk→Zj
open Go.Am renaming pchk→P1,pold→P2,PKNo→P3,ppack→P4,PObj.under→P5,pput→P6,ptset→P7,ptget→P8,pev→P9,ofAV→P10,q57→P11,ppad→P12,pfill→P13,prepl→P14,AO.effect→P15
open List renaming replicate→L1
open Nat renaming reduceAdd→N1,reduceSub→N2,reduceMul→N3,reduceLT→N4,reduceLeDiff→N5,reduceEqDiff→N6,reduceBEq→N7
open Int renaming reduceToNat→I1,reduceLT→I2,reduceLE→I3,reduceEq→I4,reduceAdd→I5,reduceSub→I6,reduceNeg→I7
abbrev big:Nat:=1000000000000
theorem q49 {k:Nat} (h:k<big):IntKind.i64.wrap ((k:Int)+1)=((k+1:Nat):Int):=by
 have h:k<1000000000000:=h
 rw[wrap64 (by omega) (by omega)];omega
theorem drop_get' {α:Type} {xs:List α} {k:Nat} (h:k<xs.length):xs.drop k=xs[k]::xs.drop (k+1):=List.drop_eq_getElem_cons h
theorem some_of {α:Type} {xs:List α} {k:Nat} (h:k<xs.length):∃x,xs[k]? =some x:=⟨xs[k],List.getElem?_eq_getElem h⟩
theorem drop_some {α:Type} {xs:List α} {k:Nat} {x:α} (h:xs[k]? =some x):xs.drop k=x::xs.drop (k+1):=by
 have hk:=q27 h
 rw[List.drop_eq_getElem_cons hk]
 rw[List.getElem?_eq_getElem hk]at h
 cases h;rfl
theorem take_some {α:Type} {xs:List α} {k:Nat} {x:α} (h:xs[k]? =some x):xs.take (k+1)=xs.take k++[x]:=by simp[List.take_add_one,h]
theorem getD_some {xs:List Int} {k:Nat} {x:Int} (h:xs[k]? =some x):xs.getD k 0=x:=by simp[List.getD,h]
def posM (n:Int):Int→List Int→Bool
 | _,[]=>true
 | last,v::l=>if v≤last then false else if n≤v then false else posM n v l
section
variable {tab:FuncId→Option AF} (T:HasA tab)
include T
end
section
variable {tab:FuncId→Option AF} (T:HasA tab)
include T
theorem equalInts_p {M:Mem} {K:PV→Mem→Prop} {f o f' o':Bool} {xs ys:List Int} (hm:xs.length<big) (hk:K (.bool (decide (xs=ys))) M):
  SemC tab 37 [slI f o .i64 xs,slI f' o' .i64 ys] M K:=by
 refine q18 T.h37 (by simp only[PP,P1,P2,P3,P4,P5,P6,P7,P8,P9,P10,P11,P12,P13,P14,L1,P15,N1,N2,N3,N4,N5,N6,N7,I1,I2,I3,I4,I5,I6,I7,reduceIte,reduceCtorEq]) ?_
 simp only[af37,PP,P1,P2,P3,P4,P5,P6,P7,P8,P9,P10,P11,P12,P13,P14,L1,P15,N1,N2,N3,N4,N5,N6,N7,I1,I2,I3,I4,I5,I6,I7,reduceIte,reduceCtorEq]
 refine QIf.intro (fun c1=>?_) (fun c1=>?_)
 ·simp only[PP,P1,P2,P3,P4,P5,P6,P7,P8,P9,P10,P11,P12,P13,P14,L1,P15,N1,N2,N3,N4,N5,N6,N7,I1,I2,I3,I4,I5,I6,I7,reduceIte,reduceCtorEq,c1]
  have hl:xs.length=ys.length:=by omega
  refine loop1 (fun(k:Nat)=>k≤xs.length∧K (.bool (decide (xs.drop k=ys.drop k))) M) (fun k=>[slI f o .i64 xs,slI f' o' .i64 ys,Zj,Zj,Zj,p64 k,Zj,Zj,Zj,Zj,Zj,Zj,Zj,Zj,Zj,Zj,Zj,Zj,Zj,Zj,Zj,Zj,Zj,Zj,Zj,Zj]) (fun _=>[]) (fun k=>xs.length-k) 0 ⟨by omega,hk⟩ (by simp only[PW]) rfl ?_
  intro k ⟨hle,hq⟩ ih
  refine q48 (by kernel_rfl) ?_
  simp only[PP,P1,P2,P3,P4,P5,P6,P7,P8,P9,P10,P11,P12,P13,P14,L1,P15,N1,N2,N3,N4,N5,N6,N7,I1,I2,I3,I4,I5,I6,I7,reduceIte,reduceCtorEq]
  refine QIf.intro (fun c=>?_) (fun c=>?_)
  ·have hk':k<xs.length:=by omega
   have hk2:k<ys.length:=by omega
   rw[drop_get' hk',drop_get' hk2]at hq
   have hw:=q49 (k:=k) (by omega)
   have g1:xs[k]? =some xs[k]:=List.getElem?_eq_getElem hk'
   have g2:ys[k]? =some ys[k]:=List.getElem?_eq_getElem hk2
   have h0:(0:Int)≤k:=by omega
   have cy:(k:Int)<ys.length:=by omega
   simp only[PP,P1,P2,P3,P4,P5,P6,P7,P8,P9,P10,P11,P12,P13,P14,L1,P15,N1,N2,N3,N4,N5,N6,N7,I1,I2,I3,I4,I5,I6,I7,reduceIte,reduceCtorEq,c,g1,g2,hw,h0,cy]at hq ⊢
   refine QIf.intro (fun h1=>?_) (fun h1=>?_)
   ·simp only[PP,P1,P2,P3,P4,P5,P6,P7,P8,P9,P10,P11,P12,P13,P14,L1,P15,N1,N2,N3,N4,N5,N6,N7,I1,I2,I3,I4,I5,I6,I7,reduceIte,reduceCtorEq,h1,hw,List.cons.injEq]at hq ⊢
    exact q35 (ih (k+1) ⟨by omega,hq⟩ (by omega)) (by simp only[PW])
   ·simp only[PP,P1,P2,P3,P4,P5,P6,P7,P8,P9,P10,P11,P12,P13,P14,L1,P15,N1,N2,N3,N4,N5,N6,N7,I1,I2,I3,I4,I5,I6,I7,reduceIte,reduceCtorEq,h1,List.cons.injEq]at hq ⊢
    exact hq
  ·simp only[PP,P1,P2,P3,P4,P5,P6,P7,P8,P9,P10,P11,P12,P13,P14,L1,P15,N1,N2,N3,N4,N5,N6,N7,I1,I2,I3,I4,I5,I6,I7,reduceIte,reduceCtorEq,c]
   rw[List.drop_eq_nil_of_le (by omega),List.drop_eq_nil_of_le (by omega)]at hq
   simp only[PP,P1,P2,P3,P4,P5,P6,P7,P8,P9,P10,P11,P12,P13,P14,L1,P15,N1,N2,N3,N4,N5,N6,N7,I1,I2,I3,I4,I5,I6,I7,reduceIte,reduceCtorEq]at hq
   exact hq
 ·simp only[PP,P1,P2,P3,P4,P5,P6,P7,P8,P9,P10,P11,P12,P13,P14,L1,P15,N1,N2,N3,N4,N5,N6,N7,I1,I2,I3,I4,I5,I6,I7,reduceIte,reduceCtorEq,c1]
  have hne:¬xs=ys:=by rintro rfl;exact c1 rfl
  simp only[PP,P1,P2,P3,P4,P5,P6,P7,P8,P9,P10,P11,P12,P13,P14,L1,P15,N1,N2,N3,N4,N5,N6,N7,I1,I2,I3,I4,I5,I6,I7,reduceIte,reduceCtorEq,hne]at hk
  exact hk
theorem equalRows_p {M:Mem} {K:PV→Mem→Prop} {f o f' o' g1 g2 g3 g4:Bool} {xs ys:List (List Int)} (hm:xs.length<big) (hr:∀r∈xs,r.length<big) (hk:K (.bool (decide (xs=ys))) M):
  SemC tab 30 [slR f o g1 g2 .i64 xs,slR f' o' g3 g4 .i64 ys] M K:=by
 refine q18 T.h30 (by simp only[PP,P1,P2,P3,P4,P5,P6,P7,P8,P9,P10,P11,P12,P13,P14,L1,P15,N1,N2,N3,N4,N5,N6,N7,I1,I2,I3,I4,I5,I6,I7,reduceIte,reduceCtorEq]) ?_
 simp only[af30,PP,P1,P2,P3,P4,P5,P6,P7,P8,P9,P10,P11,P12,P13,P14,L1,P15,N1,N2,N3,N4,N5,N6,N7,I1,I2,I3,I4,I5,I6,I7,reduceIte,reduceCtorEq]
 refine QIf.intro (fun c1=>?_) (fun c1=>?_)
 ·simp only[PP,P1,P2,P3,P4,P5,P6,P7,P8,P9,P10,P11,P12,P13,P14,L1,P15,N1,N2,N3,N4,N5,N6,N7,I1,I2,I3,I4,I5,I6,I7,reduceIte,reduceCtorEq,c1]
  have hl:xs.length=ys.length:=by omega
  refine loop1 (fun(k:Nat)=>k≤xs.length∧K (.bool (decide (xs.drop k=ys.drop k))) M) (fun k=>[slR f o g1 g2 .i64 xs,slR f' o' g3 g4 .i64 ys,Zj,Zj,Zj,p64 k,Zj,Zj,Zj,Zj,Zj,Zj,Zj,Zj,Zj,Zj,Zj,Zj,Zj,Zj,Zj,Zj,Zj,Zj,Zj,Zj,Zj]) (fun _=>[]) (fun k=>xs.length-k) 0 ⟨by omega,hk⟩ (by simp only[PW]) rfl ?_
  intro k ⟨hle,hq⟩ ih
  refine q48 (by kernel_rfl) ?_
  simp only[PP,P1,P2,P3,P4,P5,P6,P7,P8,P9,P10,P11,P12,P13,P14,L1,P15,N1,N2,N3,N4,N5,N6,N7,I1,I2,I3,I4,I5,I6,I7,reduceIte,reduceCtorEq]
  refine QIf.intro (fun c=>?_) (fun c=>?_)
  ·have hk':k<xs.length:=by omega
   have hk2:k<ys.length:=by omega
   rw[drop_get' hk',drop_get' hk2]at hq
   have hw:=q49 (k:=k) (by omega)
   have q1:xs[k]? =some xs[k]:=List.getElem?_eq_getElem hk'
   have q2:ys[k]? =some ys[k]:=List.getElem?_eq_getElem hk2
   have h0:(0:Int)≤k:=by omega
   have cy:(k:Int)<ys.length:=by omega
   simp only[PP,P1,P2,P3,P4,P5,P6,P7,P8,P9,P10,P11,P12,P13,P14,L1,P15,N1,N2,N3,N4,N5,N6,N7,I1,I2,I3,I4,I5,I6,I7,reduceIte,reduceCtorEq,c,q1,q2,hw,h0,cy]at hq ⊢
   refine equalInts_p T (hr _ (List.getElem_mem hk')) ?_
   by_cases h1:xs[k]=ys[k]
   ·simp only[PP,P1,P2,P3,P4,P5,P6,P7,P8,P9,P10,P11,P12,P13,P14,L1,P15,N1,N2,N3,N4,N5,N6,N7,I1,I2,I3,I4,I5,I6,I7,reduceIte,reduceCtorEq,h1,hw,List.cons.injEq]at hq ⊢
    exact q35 (ih (k+1) ⟨by omega,hq⟩ (by omega)) (by simp only[PW])
   ·simp only[PP,P1,P2,P3,P4,P5,P6,P7,P8,P9,P10,P11,P12,P13,P14,L1,P15,N1,N2,N3,N4,N5,N6,N7,I1,I2,I3,I4,I5,I6,I7,reduceIte,reduceCtorEq,h1,List.cons.injEq]at hq ⊢
    exact hq
  ·simp only[PP,P1,P2,P3,P4,P5,P6,P7,P8,P9,P10,P11,P12,P13,P14,L1,P15,N1,N2,N3,N4,N5,N6,N7,I1,I2,I3,I4,I5,I6,I7,reduceIte,reduceCtorEq,c]
   rw[List.drop_eq_nil_of_le (by omega),List.drop_eq_nil_of_le (by omega)]at hq
   simp only[PP,P1,P2,P3,P4,P5,P6,P7,P8,P9,P10,P11,P12,P13,P14,L1,P15,N1,N2,N3,N4,N5,N6,N7,I1,I2,I3,I4,I5,I6,I7,reduceIte,reduceCtorEq]at hq
   exact hq
 ·simp only[PP,P1,P2,P3,P4,P5,P6,P7,P8,P9,P10,P11,P12,P13,P14,L1,P15,N1,N2,N3,N4,N5,N6,N7,I1,I2,I3,I4,I5,I6,I7,reduceIte,reduceCtorEq,c1]
  have hne:¬xs=ys:=by rintro rfl;exact c1 rfl
  simp only[PP,P1,P2,P3,P4,P5,P6,P7,P8,P9,P10,P11,P12,P13,P14,L1,P15,N1,N2,N3,N4,N5,N6,N7,I1,I2,I3,I4,I5,I6,I7,reduceIte,reduceCtorEq,hne]at hk
  exact hk
end
section
variable {tab:FuncId→Option AF} (T:HasA tab)
include T
end
def maxFrom:Int→List Int→Int
 | m,[]=>m
 | m,x::l=>maxFrom (max m x) l
section
variable {tab:FuncId→Option AF} (T:HasA tab)
include T
theorem max_p {M:Mem} {K:PV→Mem→Prop} {f o:Bool} {x:Int} {xs:List Int} (hm:(x::xs).length<big) (hq:K (p64 (maxFrom x xs)) M):
  SemC tab 54 [slI f o .i64 (x::xs)] M K:=by
 refine q18 T.h54 (by simp only[PP,P1,P2,P3,P4,P5,P6,P7,P8,P9,P10,P11,P12,P13,P14,L1,P15,N1,N2,N3,N4,N5,N6,N7,I1,I2,I3,I4,I5,I6,I7,reduceIte,reduceCtorEq]) ?_
 have c1:¬((xs.length+1:Nat):Int)<1:=by omega
 have c2:(0:Int)<((xs.length+1:Nat):Int):=by omega
 simp only[af54,PP,P1,P2,P3,P4,P5,P6,P7,P8,P9,P10,P11,P12,P13,P14,L1,P15,N1,N2,N3,N4,N5,N6,N7,I1,I2,I3,I4,I5,I6,I7,reduceIte,reduceCtorEq,c1,c2]
 have hm':xs.length+1<1000000000000:=hm
 refine loop2 (fun(k:Nat) (m:Int)=>k≤xs.length∧K (p64 (maxFrom m (xs.drop k))) M) (fun k m=>[slI f o .i64 (x::xs),Zj,Zj,p64 m,p64 ((k+1:Nat):Int),Zj,Zj,Zj,Zj,Zj,Zj,Zj,Zj,Zj,Zj,Zj,Zj,Zj,Zj,Zj,Zj,Zj,Zj,Zj,Zj]) (fun _ _=>[]) (fun k _=>xs.length-k) 0 x ⟨by omega,hq⟩ (by simp only[PW]) rfl ?_
 intro k m ⟨hle,hq⟩ ih
 refine q48 (by kernel_rfl) ?_
 simp only[PP,P1,P2,P3,P4,P5,P6,P7,P8,P9,P10,P11,P12,P13,P14,L1,P15,N1,N2,N3,N4,N5,N6,N7,I1,I2,I3,I4,I5,I6,I7,reduceIte,reduceCtorEq]
 refine QIf.intro (fun c=>?_) (fun c=>?_)
 ·have hk':k<xs.length:=by omega
  have g1:xs[k]? =some xs[k]:=List.getElem?_eq_getElem hk'
  have h0:(0:Int)≤((k+1:Nat):Int):=by omega
  have hw:=q49 (k:=k+1) (by show _<1000000000000;omega)
  rw[drop_get' hk']at hq
  simp only[PP,P1,P2,P3,P4,P5,P6,P7,P8,P9,P10,P11,P12,P13,P14,L1,P15,N1,N2,N3,N4,N5,N6,N7,I1,I2,I3,I4,I5,I6,I7,reduceIte,reduceCtorEq,c,g1,h0,hw,maxFrom]at hq ⊢
  exact q35 (ih (k+1) _ ⟨by omega,hq⟩ (by omega)) (by simp only[PW])
 ·rw[List.drop_eq_nil_of_le (by omega)]at hq
  simp only[PP,P1,P2,P3,P4,P5,P6,P7,P8,P9,P10,P11,P12,P13,P14,L1,P15,N1,N2,N3,N4,N5,N6,N7,I1,I2,I3,I4,I5,I6,I7,reduceIte,reduceCtorEq,c,maxFrom]at hq ⊢
  exact hq
end
theorem nodup_lenN:∀(n:Nat) (l:List Nat),l.Nodup→(∀x∈l,x<n)→l.length≤n
 | 0,l,_,h=>by
  cases l with
  | nil=>simp
  | cons x l=>have:=h x (by simp);omega
 | n+1,l,hd,h=>by
  have:=nodup_lenN n (l.filter fun x=>x !=n) (hd.filter _) (fun x hx=>by
   rw[List.mem_filter]at hx
   have:=h x hx.1
   have:x≠n:=by simpa using hx.2
   omega)
  have h2:l.length≤(l.filter fun x=>x !=n).length+1:=by
   clear this h
   induction l with
   | nil=>simp
   | cons x l ih=>
    rw[List.nodup_cons]at hd
    by_cases e:x=n
    ·subst e
     have:l.filter (fun y=>y !=x)=l:=by
      rw[List.filter_eq_self]
      intro y hy
      have:y≠x:=fun q=>hd.1 (q▸hy)
      simpa using this
     simp[this]
    ·have:=ih hd.2
     have hx:(x !=n)=true:=by simpa using e
     simp only[List.filter_cons,hx,if_true,List.length_cons]
     omega
  omega
theorem prem {k:IntKind} {x y:Int} (h:y≠0):pbin .rem (.int k x) (.int k y)=some (.int k (x.tmod y)):=by
 simp[pbin,toAV0,abin,q57,h,q64,binInt]
abbrev natI (l:List Nat):List Int:=l.map fun(v:Nat)=>(v:Int)
theorem posM_of {n:Int} :∀{l:List Int} {last:Int},l.Pairwise (· < ·)→(∀x∈l,last<x∧x<n)→posM n last l=true
 | [],_,_,_=>rfl
 | v::l,last,h,hx=>by
  obtain⟨h1,h2⟩:=hx v (by simp)
  rw[List.pairwise_cons]at h
  unfold posM
  rw[if_neg (by omega),if_neg (by omega)]
  exact posM_of h.2 fun x hm=>⟨h.1 x hm,(hx x (by simp[hm])).2⟩
theorem posM_rise {n:Int} :∀{l:List Int} {last:Int},posM n last l=true→l.Pairwise (· < ·)∧∀x∈l,last<x∧x<n
 | [],_,_=>⟨.nil,fun x hx=>by cases hx⟩
 | v::l,last,h=>by
  unfold posM at h
  split at h
  ·simp at h
  ·split at h
   ·simp at h
   ·obtain⟨h1,h2⟩:=posM_rise h
    refine⟨.cons (fun x hx=>(h2 x hx).1) h1,fun x hx=>?_⟩
    rcases List.mem_cons.1 hx with rfl | hx
    ·omega
    ·have:=h2 x hx;omega
theorem SemC_true {tab:FuncId→Option AF} {g:FuncId} (hg:tab g=some (.prim primTrue)) {M:Mem} {K:PV→Mem→Prop} (hk:K (.bool true) M):SemC tab g [] M K:=by
 intro w h args' h0 s ha
 have:args'=[]:=List.length_eq_zero_iff.1 (by simpa using ha.len.symm)
 subst this
 unfold C
 refine⟨.bool true,h,?_,w,.bool true,M,PStp.refl (Nat.le_refl _) w h,s,.bool true,hk⟩
 rw[lim_call]
 simp only[acallF,hg,primTrue]
theorem QIf_both {p A B G:Prop} {t:QTag A B} (h1:p→G→A) (h2:¬p→G→B) (g:G):QIf p A B t:=QIf.intro (fun c=>h1 c g) (fun c=>h2 c g)
section
variable {tab:FuncId→Option AF} (T:HasA tab)
include T
end
structure Eg where
 fr:Int
 to:Int
 ps:Int
 ng:Int
 deriving DecidableEq,Inhabited
abbrev egC (e:Eg):List PV:=[.int .i64 e.fr,.int .i64 e.to,.int .u8 e.ps,.int .u8 e.ng]
def egL (l:List Eg):List PV:=l.flatMap egC
abbrev slE (f o:Bool) (l:List Eg):PV:= .sl f o 4 l.length (egL l)
theorem egL_len (l:List Eg):(egL l).length=l.length*4:=by
 unfold egL
 induction l with
 | nil=>rfl
 | cons x l ih=>rw[List.flatMap_cons,List.length_append,ih];simp;omega
theorem egL_und (m:Nat) (l:List Eg):q19 m (egL l)=true:=by
 unfold egL
 induction l with
 | nil=>exact underL_nil _
 | cons x l ih=>rw[List.flatMap_cons,underL_append,ih];simp[underL_cons,underL_nil,under_int]
theorem under_slE (m:Nat) (f o:Bool) (sz n:Nat) (l:List Eg):PV.under m (.sl f o sz n (egL l))=true:=by
 simp only[PV.under];exact egL_und m l
theorem egL_app (l:List Eg) (x:Eg):egL l++egC x=egL (l++[x]):=by simp[egL]
theorem egL_split {l:List Eg} {k:Nat} {x:Eg} (h:l[k]? =some x):∃a b,egL l=a++egC x++b∧a.length=k*4∧(∀y,egL (l.set k y)=a++egC y++b):=by
 obtain⟨hk,e⟩:=List.getElem?_eq_some_iff.1 h
 refine⟨egL (l.take k),egL (l.drop (k+1)),?_,?_,fun y=>?_⟩
 ·conv=>lhs;rw[←List.take_append_drop k l,List.drop_eq_getElem_cons hk,e]
  simp[egL]
 ·rw[egL_len];simp;omega
 ·rw[List.set_eq_take_append_cons_drop,if_pos hk]
  simp[egL]
theorem psub_egL {l:List Eg} {k:Nat} {x:Eg} (h:l[k]? =some x):psub (egL l) (k*4) 4=egC x:=by
 obtain⟨a,b,h1,h2,_⟩:=egL_split h
 unfold psub
 rw[h1,←h2,List.append_assoc,List.drop_left];rfl
theorem eg_le {l:List Eg} {k:Nat} {x:Eg} (h:l[k]? =some x):k*4+4≤l.length*4:=by
 have:=q27 h;omega
def Eg.fit (e:Eg):Prop:=(-9223372036854775808≤e.fr∧e.fr≤9223372036854775807)∧(-9223372036854775808≤e.to∧e.to≤9223372036854775807)∧(0≤e.ps∧e.ps≤255)∧(0≤e.ng∧e.ng≤255)
structure NF where
 vs:Int
 n:Int
 st:List Int
 fi:List Int
 es:List Eg
abbrev nfC (f1 o1 f2 o2 f3 o3:Bool) (N:NF):List PV:=[p64 N.vs,p64 N.n,slI f1 o1 .i64 N.st,slI f2 o2 .i64 N.fi,slE f3 o3 N.es]
structure BnN (N:NF):Prop where
 s:N.st.length<big
 f:N.fi.length<big
 e:N.es.length<big
 b:∀x∈N.es,(0≤x.ps∧x.ps≤255)∧(0≤x.ng∧x.ng≤255)
def bAnd (x y:Int):Int:=((x.toNat&&& y.toNat:Nat):Int)
def bOr (x y:Int):Int:=((x.toNat||| y.toNat:Nat):Int)
def cubeM (v p n:Int):Int:=if v<0 then 7 else if 6<v then 7 else if 2^v.toNat≤p then 7 else if 2^v.toNat≤n then 7 else if bAnd p n=0 then 0 else 2
def edgesM (v n:Int):List Eg→Int
 | []=>0
 | e::l=>if e.fr<0∨n≤e.fr∨e.to<0∨n≤e.to then 8 else if cubeM v e.ps e.ng=0 then edgesM v n l else cubeM v e.ps e.ng
def checkN (N:NF):Int:=
 if N.vs<0∨6<N.vs then 7 else if N.n<0 then 1 else if 64<N.n∨512<(N.es.length:Int) then 4 else if posM N.n (-1) N.st=true∧posM N.n (-1) N.fi=true then edgesM N.vs N.n N.es else 8
theorem ofInt8 {x:Int} (h:0≤x∧x≤255):(BitVec.ofInt 8 x).toNat=x.toNat:=by
 rw[BitVec.toNat_ofInt]
 omega
theorem wrap8 {x:Nat} (h:x<256):IntKind.u8.wrap (x:Int)=x:=by
 simp only[IntKind.wrap,IntKind.signed,IntKind.bits]
 simp
 omega
theorem pbin_and8 {x y:Int} (hx:0≤x∧x≤255) (hy:0≤y∧y≤255):pbin .and (.int .u8 x) (.int .u8 y)=some (.int .u8 (bAnd x y)):=by
 have h1:=ofInt8 hx
 have h2:=ofInt8 hy
 have h3:x.toNat&&& y.toNat<256:=Nat.lt_of_le_of_lt Nat.and_le_left (by omega)
 have e:IntKind.u8.wrap ((BitVec.ofInt IntKind.u8.bits x&&& BitVec.ofInt IntKind.u8.bits y).toNat:Int)=bAnd x y:=by
  show IntKind.u8.wrap ((BitVec.ofInt 8 x&&& BitVec.ofInt 8 y).toNat:Int)=_
  rw[BitVec.toNat_and,h1,h2,wrap8 h3];rfl
 simp only[pbin,toAV0,abin,q64,binInt,e]
 rfl
theorem or8_lt {a b:Nat} (ha:a<256) (hb:b<256):a||| b<256:=Nat.or_lt_two_pow (n:=8) ha hb
theorem pbin_or8 {x y:Int} (hx:0≤x∧x≤255) (hy:0≤y∧y≤255):pbin .or (.int .u8 x) (.int .u8 y)=some (.int .u8 (bOr x y)):=by
 have h1:=ofInt8 hx
 have h2:=ofInt8 hy
 have h3:x.toNat||| y.toNat<256:=or8_lt (by omega) (by omega)
 have e:IntKind.u8.wrap ((BitVec.ofInt IntKind.u8.bits x||| BitVec.ofInt IntKind.u8.bits y).toNat:Int)=bOr x y:=by
  show IntKind.u8.wrap ((BitVec.ofInt 8 x||| BitVec.ofInt 8 y).toNat:Int)=_
  rw[BitVec.toNat_or,h1,h2,wrap8 h3];rfl
 simp only[pbin,toAV0,abin,q64,binInt,e]
 rfl
theorem pshl {v:Int} (h0:¬v<0) (h6:¬6<v):pbin .shl (.int .i64 1) (.int .i64 v)=some (.int .i64 (2^v.toNat)):=by
 have:v=0∨v=1∨v=2∨v=3∨v=4∨v=5∨v=6:=by omega
 rcases this with rfl | rfl | rfl | rfl | rfl | rfl | rfl<;>rfl
theorem bOr_le {v:Nat} {p n:Int} (hp:0≤p) (hn:0≤n):(2:Int)^v≤bOr p n↔(2^v≤p∨2^v≤n):=by
 have key:(2^v≤p.toNat||| n.toNat)↔(2^v≤p.toNat∨2^v≤n.toNat):=by
  constructor
  ·intro h
   refine Classical.byContradiction fun q=>?_
   rw[not_or,Nat.not_le,Nat.not_le]at q
   have:=Nat.or_lt_two_pow q.1 q.2
   omega
  ·rintro(h | h)
   ·exact Nat.le_trans h Nat.left_le_or
   ·exact Nat.le_trans h Nat.right_le_or
 have e:((2^v:Nat):Int)=2^v:=by simp
 unfold bOr
 rw[←e]
 constructor
 ·intro h
  rcases key.1 (by omega) with q | q
  ·exact .inl (by omega)
  ·exact .inr (by omega)
 ·intro h
  have:=key.2 (by omega)
  omega
section
variable {tab:FuncId→Option AF} (T:HasA tab)
include T
theorem states_p {M:Mem} {K:PV→Mem→Prop} {f1 o1 f2 o2 f3 o3 f o:Bool} {N:NF} {xs:List Int} (hm:xs.length<big) (hk:K (.bool (posM N.n (-1) xs)) M):
  SemC tab 77 [.agg (nfC f1 o1 f2 o2 f3 o3 N),slI f o .i64 xs] M K:=by
 refine q18 T.h77 (by simp only[PP,P1,P2,P3,P4,P5,P6,P7,P8,P9,P10,P11,P12,P13,P14,L1,P15,N1,N2,N3,N4,N5,N6,N7,I1,I2,I3,I4,I5,I6,I7,reduceIte,reduceCtorEq,under_slE]) ?_
 simp only[af77,PP,P1,P2,P3,P4,P5,P6,P7,P8,P9,P10,P11,P12,P13,P14,L1,P15,N1,N2,N3,N4,N5,N6,N7,I1,I2,I3,I4,I5,I6,I7,reduceIte,reduceCtorEq]
 refine loop2 (fun(k:Nat) (last:Int)=>k≤xs.length∧K (.bool (posM N.n last (xs.drop k))) M) (fun k last=>[Zj,Zj,.ptr 0 0 0,Zj,Zj,p64 last,Zj,Zj,slI f o .i64 xs,p64 xs.length,p64 k,Zj,Zj,Zj,Zj,Zj,Zj,Zj,Zj,Zj,Zj,Zj,Zj,Zj,Zj]) (fun _ _=>[.cells 0 0 (nfC f1 o1 f2 o2 f3 o3 N)]) (fun k _=>xs.length-k) 0 (-1) ⟨by omega,hk⟩ (by simp only[PW]) rfl ?_
 intro k last ⟨hk,hq⟩ ih
 refine q48 (by kernel_rfl) ?_
 simp only[PP,P1,P2,P3,P4,P5,P6,P7,P8,P9,P10,P11,P12,P13,P14,L1,P15,N1,N2,N3,N4,N5,N6,N7,I1,I2,I3,I4,I5,I6,I7,reduceIte,reduceCtorEq]
 refine QIf.intro (fun c=>?_) (fun c=>?_)
 ·have hk':k<xs.length:=by omega
  rw[drop_get' hk']at hq
  have hw:=q49 (k:=k) (by omega)
  have hg:xs[k]? =some xs[k]:=List.getElem?_eq_getElem hk'
  have h0:(0:Int)≤k:=by omega
  simp only[PP,P1,P2,P3,P4,P5,P6,P7,P8,P9,P10,P11,P12,P13,P14,L1,P15,N1,N2,N3,N4,N5,N6,N7,I1,I2,I3,I4,I5,I6,I7,reduceIte,reduceCtorEq,posM,c,hg,hw,h0]at hq ⊢
  refine QIf.intro (fun h1=>?_) (fun h1=>?_)
  ·simp only[PP,P1,P2,P3,P4,P5,P6,P7,P8,P9,P10,P11,P12,P13,P14,L1,P15,N1,N2,N3,N4,N5,N6,N7,I1,I2,I3,I4,I5,I6,I7,reduceIte,reduceCtorEq,h1]at hq ⊢
   exact hq
  ·simp only[PP,P1,P2,P3,P4,P5,P6,P7,P8,P9,P10,P11,P12,P13,P14,L1,P15,N1,N2,N3,N4,N5,N6,N7,I1,I2,I3,I4,I5,I6,I7,reduceIte,reduceCtorEq,h1]at hq ⊢
   refine QIf.intro (fun h2=>?_) (fun h2=>?_)
   ·simp only[PP,P1,P2,P3,P4,P5,P6,P7,P8,P9,P10,P11,P12,P13,P14,L1,P15,N1,N2,N3,N4,N5,N6,N7,I1,I2,I3,I4,I5,I6,I7,reduceIte,reduceCtorEq,h2]at hq ⊢
    exact hq
   ·simp only[PP,P1,P2,P3,P4,P5,P6,P7,P8,P9,P10,P11,P12,P13,P14,L1,P15,N1,N2,N3,N4,N5,N6,N7,I1,I2,I3,I4,I5,I6,I7,reduceIte,reduceCtorEq,h2,hw]at hq ⊢
    exact q35 (ih (k+1) _ ⟨by omega,hq⟩ (by omega)) (by simp only[PW])
 ·simp only[PP,P1,P2,P3,P4,P5,P6,P7,P8,P9,P10,P11,P12,P13,P14,L1,P15,N1,N2,N3,N4,N5,N6,N7,I1,I2,I3,I4,I5,I6,I7,reduceIte,reduceCtorEq,c]
  rw[List.drop_eq_nil_of_le (by omega)]at hq
  exact hq
theorem cube_p {M:Mem} {K:PV→Mem→Prop} {v p n:Int} (hp:0≤p∧p≤255) (hn:0≤n∧n≤255) (hk:K (p64 (cubeM v p n)) M):
  SemC tab 78 [.agg [p8 p,p8 n],p64 v] M K:=by
 refine q18 T.h78 (by simp only[PP,P1,P2,P3,P4,P5,P6,P7,P8,P9,P10,P11,P12,P13,P14,L1,P15,N1,N2,N3,N4,N5,N6,N7,I1,I2,I3,I4,I5,I6,I7,reduceIte,reduceCtorEq]) ?_
 simp only[af78,PP,P1,P2,P3,P4,P5,P6,P7,P8,P9,P10,P11,P12,P13,P14,L1,P15,N1,N2,N3,N4,N5,N6,N7,I1,I2,I3,I4,I5,I6,I7,reduceIte,reduceCtorEq]
 refine QIf.intro (fun c1=>?_) (fun c1=>?_)
 ·simp only[PP,P1,P2,P3,P4,P5,P6,P7,P8,P9,P10,P11,P12,P13,P14,L1,P15,N1,N2,N3,N4,N5,N6,N7,I1,I2,I3,I4,I5,I6,I7,reduceIte,reduceCtorEq,c1,cubeM]at hk ⊢
  exact hk
 ·simp only[PP,P1,P2,P3,P4,P5,P6,P7,P8,P9,P10,P11,P12,P13,P14,L1,P15,N1,N2,N3,N4,N5,N6,N7,I1,I2,I3,I4,I5,I6,I7,reduceIte,reduceCtorEq,c1]
  refine QIf.intro (fun c2=>?_) (fun c2=>?_)
  ·simp only[PP,P1,P2,P3,P4,P5,P6,P7,P8,P9,P10,P11,P12,P13,P14,L1,P15,N1,N2,N3,N4,N5,N6,N7,I1,I2,I3,I4,I5,I6,I7,reduceIte,reduceCtorEq,c1,c2,cubeM]at hk ⊢
   exact hk
  ·have hw:IntKind.i64.wrap (bOr p n)=bOr p n:=wrap64 (by unfold bOr;omega) (by have:=or8_lt (a:=p.toNat) (b:=n.toNat) (by omega) (by omega);unfold bOr;omega)
   simp only[PP,P1,P2,P3,P4,P5,P6,P7,P8,P9,P10,P11,P12,P13,P14,L1,P15,N1,N2,N3,N4,N5,N6,N7,I1,I2,I3,I4,I5,I6,I7,reduceIte,reduceCtorEq,c2,pbin_or8 hp hn,pbin_and8 hp hn,pshl c1 c2,hw]
   refine QIf.intro (fun c3=>?_) (fun c3=>?_)
   ·have e:cubeM v p n=7:=by
     unfold cubeM
     rw[if_neg c1,if_neg c2]
     rcases(bOr_le hp.1 hn.1).1 c3 with q | q
     ·rw[if_pos q]
     ·rw[if_pos q];split<;>rfl
    rw[e]at hk
    simp only[PP,P1,P2,P3,P4,P5,P6,P7,P8,P9,P10,P11,P12,P13,P14,L1,P15,N1,N2,N3,N4,N5,N6,N7,I1,I2,I3,I4,I5,I6,I7,reduceIte,reduceCtorEq,c3]
    exact hk
   ·have c4:¬(2:Int)^v.toNat≤p:=fun q=>c3 ((bOr_le hp.1 hn.1).2 (.inl q))
    have c5:¬(2:Int)^v.toNat≤n:=fun q=>c3 ((bOr_le hp.1 hn.1).2 (.inr q))
    simp only[PP,P1,P2,P3,P4,P5,P6,P7,P8,P9,P10,P11,P12,P13,P14,L1,P15,N1,N2,N3,N4,N5,N6,N7,I1,I2,I3,I4,I5,I6,I7,reduceIte,reduceCtorEq,c3,pbin_and8 hp hn]
    unfold cubeM at hk
    rw[if_neg c1,if_neg c2,if_neg c4,if_neg c5]at hk
    refine QIf.intro (fun c6=>?_) (fun c6=>?_)
    ·rw[if_pos c6]at hk
     simp only[PP,P1,P2,P3,P4,P5,P6,P7,P8,P9,P10,P11,P12,P13,P14,L1,P15,N1,N2,N3,N4,N5,N6,N7,I1,I2,I3,I4,I5,I6,I7,reduceIte,reduceCtorEq,c6]
     exact hk
    ·rw[if_neg c6]at hk
     simp only[PP,P1,P2,P3,P4,P5,P6,P7,P8,P9,P10,P11,P12,P13,P14,L1,P15,N1,N2,N3,N4,N5,N6,N7,I1,I2,I3,I4,I5,I6,I7,reduceIte,reduceCtorEq,c6]
     exact hk
end
section
variable (M l:Mem) (i:Nat) (x:PObj)
theorem gk:(M++l)[M.length+i]? =l[i]? :=by rw[List.getElem?_append_right (by omega)];congr 1;omega
theorem gk0:(M++l)[M.length]? =l[0]? :=by rw[List.getElem?_append_right (Nat.le_refl _),Nat.sub_self]
theorem sk:(M++l).set (M.length+i) x=M++l.set i x:=by rw[List.set_append_right _ _ (by omega)];congr 2;omega
theorem sk0:(M++l).set M.length x=M++l.set 0 x:=by rw[List.set_append_right _ _ (Nat.le_refl _),Nat.sub_self]
end
theorem pmin_two (k:IntKind) (a b:Int):pminV (.int k a) [.int k b]=some (.int k (min a b)):=by
 simp[pminV,toAV0,toAVs,foldO,amin2,q57]
 by_cases h:b<a
 ·rw[if_pos h];omega
 ·rw[if_neg h];omega
theorem edgesM_bad {v n:Int} {e:Eg} {l:List Eg} (h:e.fr<0∨n≤e.fr∨e.to<0∨n≤e.to):edgesM v n (e::l)=8:=by unfold edgesM;rw[if_pos h]
theorem edgesM_go {v n:Int} {e:Eg} {l:List Eg} (h:¬(e.fr<0∨n≤e.fr∨e.to<0∨n≤e.to)):edgesM v n (e::l)=if cubeM v e.ps e.ng=0 then edgesM v n l else cubeM v e.ps e.ng:=by
 show(if _ then _ else _)=_;rw[if_neg h]
section
variable {tab:FuncId→Option AF} (T:HasA tab)
include T
end
abbrev Wd:=List (BitVec 64)
def wAt (a:Wd) (i:Nat):BitVec 64:=a.getD i 0#64
theorem wAt_ge {a:Wd} {i:Nat} (h:a.length≤i):wAt a i=0#64:=by
 unfold wAt;rw[List.getD,List.getElem?_eq_none h];rfl
theorem wAt_some {a:Wd} {i:Nat} {x:BitVec 64} (h:a[i]? =some x):wAt a i=x:=by
 unfold wAt;rw[List.getD,h];rfl
def trimN (a:Wd):Nat→Nat
 | 0=>0
 | n+1=>if wAt a n=0#64 then trimN a n else n+1
theorem trimN_le (a:Wd):∀n,trimN a n≤n
 | 0=>Nat.le_refl _
 | n+1=>by
  unfold trimN
  split
  ·exact Nat.le_succ_of_le (trimN_le a n)
  ·exact Nat.le_refl _
theorem trimN_zero (a:Wd):∀n i,trimN a n≤i→i<n→wAt a i=0#64
 | 0,i,_,h=>by omega
 | n+1,i,h1,h2=>by
  unfold trimN at h1
  split at h1
  ·rename_i h
   by_cases e:i=n
   ·subst e;exact h
   ·exact trimN_zero a n i h1 (by omega)
  ·omega
theorem trimN_top (a:Wd):∀n,trimN a n=0∨wAt a (trimN a n-1)≠0#64
 | 0=> .inl rfl
 | n+1=>by
  unfold trimN
  split
  ·exact trimN_top a n
  ·rename_i h;exact .inr h
def trim (a:Wd):Wd:=a.take (trimN a a.length)
theorem trim_len (a:Wd):(trim a).length≤a.length:=by unfold trim;rw[List.length_take];omega
theorem trim_at (a:Wd) (i:Nat):wAt (trim a) i=wAt a i:=by
 have hle:=trimN_le a a.length
 rcases Nat.lt_or_ge i (trimN a a.length) with h | h
 ·unfold wAt trim
  rw[List.getD,List.getD,List.getElem?_take,if_pos h]
 ·rw[wAt_ge (by unfold trim;rw[List.length_take];omega)]
  rcases Nat.lt_or_ge i a.length with q | q
  ·exact(trimN_zero a _ i h q).symm
  ·exact(wAt_ge q).symm
def cmbL (op:BitVec 64→BitVec 64→BitVec 64) (a b:Wd) (n:Nat):Wd:=(List.range n).map fun i=>op (wAt a i) (wAt b i)
def cmb (op:BitVec 64→BitVec 64→BitVec 64) (a b:Wd):Wd:=trim (cmbL op a b (min (max a.length b.length) 64))
theorem cmbL_len (op:BitVec 64→BitVec 64→BitVec 64) (a b:Wd) (n:Nat):(cmbL op a b n).length=n:=by simp[cmbL]
theorem cmbL_succ (op:BitVec 64→BitVec 64→BitVec 64) (a b:Wd) (n:Nat):cmbL op a b (n+1)=cmbL op a b n++[op (wAt a n) (wAt b n)]:=by simp[cmbL,List.range_succ]
theorem cmb_len (op:BitVec 64→BitVec 64→BitVec 64) (a b:Wd):(cmb op a b).length≤64:=by
 have:=trim_len (cmbL op a b (min (max a.length b.length) 64))
 rw[cmbL_len]at this
 unfold cmb
 omega
theorem cmb_at {op:BitVec 64→BitVec 64→BitVec 64} (h0:op 0#64 0#64=0#64) {a b:Wd} (ha:a.length≤64) (hb:b.length≤64) (i:Nat):wAt (cmb op a b) i=op (wAt a i) (wAt b i):=by
 unfold cmb
 rw[trim_at]
 rcases Nat.lt_or_ge i (min (max a.length b.length) 64) with h | h
 ·refine wAt_some ?_
  simp only[cmbL,List.getElem?_map,List.getElem?_range h,Option.map_some]
 ·rw[wAt_ge (by rw[cmbL_len];exact h),wAt_ge (a:=a) (by omega),wAt_ge (a:=b) (by omega),h0]
def bit (a:Wd) (k:Nat):Bool:=(wAt a (k / 64)).getLsbD (k % 64)
theorem bit_cmb_or {a b:Wd} (ha:a.length≤64) (hb:b.length≤64) (k:Nat):bit (cmb (· ||| ·) a b) k=(bit a k||bit b k):=by
 unfold bit;rw[cmb_at (by simp) ha hb];simp
theorem bit_cmb_and {a b:Wd} (ha:a.length≤64) (hb:b.length≤64) (k:Nat):bit (cmb (· &&& ·) a b) k=(bit a k&&bit b k):=by
 unfold bit;rw[cmb_at (by simp) ha hb];simp
theorem cmb_nil {op:BitVec 64→BitVec 64→BitVec 64} (a b:Wd):(cmb op a b).length=0↔∀k,bit (cmb op a b) k=false:=by
 constructor
 ·intro h k
  unfold bit
  rw[wAt_ge (by omega)];simp
 ·intro h
  have hl:(cmb op a b).length=trimN (cmbL op a b (min (max a.length b.length) 64)) (min (max a.length b.length) 64):=by
   have:=trimN_le (cmbL op a b (min (max a.length b.length) 64)) (min (max a.length b.length) 64)
   unfold cmb trim
   rw[List.length_take,cmbL_len]
   omega
  rcases trimN_top (cmbL op a b (min (max a.length b.length) 64)) (min (max a.length b.length) 64) with e | e
  ·rw[hl,e]
  ·exfalso
   rw[←trim_at]at e
   apply e
   apply BitVec.eq_of_getLsbD_eq
   intro j hj
   have:=h (64*(trimN (cmbL op a b (min (max a.length b.length) 64)) (min (max a.length b.length) 64)-1)+j)
   unfold bit at this
   rw[show(64*(trimN (cmbL op a b (min (max a.length b.length) 64)) (min (max a.length b.length) 64)-1)+j) / 64=trimN (cmbL op a b (min (max a.length b.length) 64)) (min (max a.length b.length) 64)-1 by omega,show(64*(trimN (cmbL op a b (min (max a.length b.length) 64)) (min (max a.length b.length) 64)-1)+j) % 64=j by omega]at this
   unfold cmb at this
   rw[this];simp
def sing (k:Nat):Wd:=List.replicate (k / 64) 0#64++[BitVec.twoPow 64 (k % 64)]
theorem sing_len (k:Nat):(sing k).length=k / 64+1:=by simp[sing]
theorem bit_sing (k j:Nat):bit (sing k) j=decide (j=k):=by
 have hj:j % 64<64:=Nat.mod_lt _ (by omega)
 unfold bit
 rcases Nat.lt_trichotomy (j / 64) (k / 64) with h | h | h
 ·rw[wAt_some (x:=0#64) (by unfold sing;rw[List.getElem?_append_left (by simpa using h)];simp[h])]
  have:j≠k:=by rintro rfl;omega
  simp[this]
 ·rw[wAt_some (x:=BitVec.twoPow 64 (k % 64)) (by unfold sing;rw[List.getElem?_append_right (by simp;omega)];simp[h])]
  rw[BitVec.getLsbD_twoPow]
  by_cases e:j=k
  ·subst e;simp[hj]
  ·have:k % 64≠j % 64:=by omega
   simp[e,this]
 ·rw[wAt_ge (by rw[sing_len];omega)]
  have:j≠k:=by rintro rfl;omega
  simp[this]
def withK (a:Wd) (k:Nat):Wd:=cmb (· ||| ·) a (sing k)
def ofL (l:List Nat):Wd:=l.foldl withK []
theorem ofL_go:∀(l:List Nat) (a:Wd),a.length≤64→(∀x∈l,x<4096)→(l.foldl withK a).length≤64∧∀k,bit (l.foldl withK a) k=(bit a k||decide (k∈l))
 | [],a,ha,_=>⟨ha,by simp⟩
 | x::l,a,ha,h=>by
  have hx:=h x (by simp)
  have hs:(sing x).length≤64:=by rw[sing_len];omega
  obtain⟨h1,h2⟩:=ofL_go l (withK a x) (cmb_len _ _ _) (fun y hy=>h y (by simp[hy]))
  refine⟨h1,fun k=>?_⟩
  rw[List.foldl_cons,h2,withK,bit_cmb_or ha hs,bit_sing]
  simp[Bool.or_assoc]
theorem ofL_len {l:List Nat} (h:∀x∈l,x<4096):(ofL l).length≤64:=(ofL_go l [] (by simp) h).1
theorem bit_ofL {l:List Nat} (h:∀x∈l,x<4096) (k:Nat):bit (ofL l) k=decide (k∈l):=by
 have:=(ofL_go l [] (by simp) h).2 k
 unfold ofL
 rw[this]
 simp[bit,wAt]
abbrev wI (a:Wd):List Int:=a.map fun b=>((b.toNat:Nat):Int)
theorem u64_small {n:Nat} (h:n<18446744073709551616):IntKind.u64.wrap (n:Int)=(n:Int):=by
 simp only[IntKind.wrap,IntKind.signed,IntKind.bits]
 simp
 omega
theorem bv_int (b:BitVec 64):BitVec.ofInt 64 ((b.toNat:Nat):Int)=b:=by
 rw[BitVec.ofInt_natCast];simp
theorem pbin_and64 (a b:BitVec 64):pbin .and (.int .u64 ((a.toNat:Nat):Int)) (.int .u64 ((b.toNat:Nat):Int))=some (.int .u64 (((a&&& b).toNat:Nat):Int)):=by
 have h:=u64_small (a&&& b).isLt
 simp only[pbin,toAV0,abin,q64,binInt,IntKind.bits,bv_int,Bool.false_eq_true,if_false,if_true]
 show some (PV.int .u64 (IntKind.u64.wrap (((a&&& b).toNat:Nat):Int)))=_
 rw[h]
theorem pbin_or64 (a b:BitVec 64):pbin .or (.int .u64 ((a.toNat:Nat):Int)) (.int .u64 ((b.toNat:Nat):Int))=some (.int .u64 (((a||| b).toNat:Nat):Int)):=by
 have h:=u64_small (a||| b).isLt
 simp only[pbin,toAV0,abin,q64,binInt,IntKind.bits,bv_int,Bool.false_eq_true,if_false,if_true]
 show some (PV.int .u64 (IntKind.u64.wrap (((a||| b).toNat:Nat):Int)))=_
 rw[h]
theorem pbin_shl64 {k:Nat} (h:k<64):pbin .shl (.int .u64 1) (.int .i64 (k:Int))=some (.int .u64 (((BitVec.twoPow 64 k).toNat:Nat):Int)):=by
 have h2:(BitVec.twoPow 64 k).toNat=2^k:=by
  rw[BitVec.toNat_twoPow,Nat.mod_eq_of_lt (Nat.pow_lt_pow_right (by omega) h)]
 have h3:=u64_small (n:=2^k) (Nat.pow_lt_pow_right (n:=64) (by omega) h)
 have h4:min ((k:Int).toNat) 64=k:=by omega
 simp only[pbin,toAV0,abin,q64,binShift,IntKind.bits,h4,h2]
 rw[if_pos trivial,if_neg (by omega),show(1:Int)*2^k=((2^k:Nat):Int) by simp,h3]
 rfl
section
variable {tab:FuncId→Option AF} (T:HasA tab)
include T
theorem chk1_p {M:Mem} {K:PV→Mem→Prop} {f1 o1 f2 o2 f3 o3:Bool} {N:NF} (hk:K (.bool (decide (N.vs<0∨6<N.vs))) M):SemC tab 73 [.cp (nfC f1 o1 f2 o2 f3 o3 N) 0] M K:=by
 refine q18 T.h73 (by simp only[PP,P1,P2,P3,P4,P5,P6,P7,P8,P9,P10,P11,P12,P13,P14,L1,P15,N1,N2,N3,N4,N5,N6,N7,I1,I2,I3,I4,I5,I6,I7,reduceIte,reduceCtorEq,PV.under,egL_und]) ?_
 simp only[af73,PP,P1,P2,P3,P4,P5,P6,P7,P8,P9,P10,P11,P12,P13,P14,L1,P15,N1,N2,N3,N4,N5,N6,N7,I1,I2,I3,I4,I5,I6,I7,reduceIte,reduceCtorEq]
 refine QIf.intro (fun c1=>?_) (fun c1=>?_)
 ·simp only[PP,P1,P2,P3,P4,P5,P6,P7,P8,P9,P10,P11,P12,P13,P14,L1,P15,N1,N2,N3,N4,N5,N6,N7,I1,I2,I3,I4,I5,I6,I7,reduceIte,reduceCtorEq,c1]at hk ⊢
  exact hk
 ·simp only[PP,P1,P2,P3,P4,P5,P6,P7,P8,P9,P10,P11,P12,P13,P14,L1,P15,N1,N2,N3,N4,N5,N6,N7,I1,I2,I3,I4,I5,I6,I7,reduceIte,reduceCtorEq,c1]at hk ⊢
  exact hk
theorem chk2_p {M:Mem} {K:PV→Mem→Prop} {f1 o1 f2 o2 f3 o3:Bool} {N:NF} (hk:K (.bool (decide (N.n<0))) M):SemC tab 74 [.cp (nfC f1 o1 f2 o2 f3 o3 N) 0] M K:=by
 refine q18 T.h74 (by simp only[PP,P1,P2,P3,P4,P5,P6,P7,P8,P9,P10,P11,P12,P13,P14,L1,P15,N1,N2,N3,N4,N5,N6,N7,I1,I2,I3,I4,I5,I6,I7,reduceIte,reduceCtorEq,PV.under,egL_und]) ?_
 simp only[af74,PP,P1,P2,P3,P4,P5,P6,P7,P8,P9,P10,P11,P12,P13,P14,L1,P15,N1,N2,N3,N4,N5,N6,N7,I1,I2,I3,I4,I5,I6,I7,reduceIte,reduceCtorEq]
 exact hk
theorem chk3_p {M:Mem} {K:PV→Mem→Prop} {f1 o1 f2 o2 f3 o3:Bool} {N:NF} (hk:K (.bool (decide (64<N.n∨512<(N.es.length:Int)))) M):SemC tab 75 [.cp (nfC f1 o1 f2 o2 f3 o3 N) 0] M K:=by
 refine q18 T.h75 (by simp only[PP,P1,P2,P3,P4,P5,P6,P7,P8,P9,P10,P11,P12,P13,P14,L1,P15,N1,N2,N3,N4,N5,N6,N7,I1,I2,I3,I4,I5,I6,I7,reduceIte,reduceCtorEq,PV.under,egL_und]) ?_
 simp only[af75,PP,P1,P2,P3,P4,P5,P6,P7,P8,P9,P10,P11,P12,P13,P14,L1,P15,N1,N2,N3,N4,N5,N6,N7,I1,I2,I3,I4,I5,I6,I7,reduceIte,reduceCtorEq]
 refine QIf.intro (fun c1=>?_) (fun c1=>?_)
 ·simp only[PP,P1,P2,P3,P4,P5,P6,P7,P8,P9,P10,P11,P12,P13,P14,L1,P15,N1,N2,N3,N4,N5,N6,N7,I1,I2,I3,I4,I5,I6,I7,reduceIte,reduceCtorEq,c1]at hk ⊢
  exact hk
 ·simp only[PP,P1,P2,P3,P4,P5,P6,P7,P8,P9,P10,P11,P12,P13,P14,L1,P15,N1,N2,N3,N4,N5,N6,N7,I1,I2,I3,I4,I5,I6,I7,reduceIte,reduceCtorEq,c1]at hk ⊢
  exact hk
theorem chk4_p {M:Mem} {K:PV→Mem→Prop} {f1 o1 f2 o2 f3 o3:Bool} {N:NF} (B:BnN N) (hk:K (.bool (decide (¬(posM N.n (-1) N.st=true∧posM N.n (-1) N.fi=true)))) M):SemC tab 76 [.cp (nfC f1 o1 f2 o2 f3 o3 N) 0] M K:=by
 refine q18 T.h76 (by simp only[PP,P1,P2,P3,P4,P5,P6,P7,P8,P9,P10,P11,P12,P13,P14,L1,P15,N1,N2,N3,N4,N5,N6,N7,I1,I2,I3,I4,I5,I6,I7,reduceIte,reduceCtorEq,PV.under,egL_und]) ?_
 simp only[af76,PP,P1,P2,P3,P4,P5,P6,P7,P8,P9,P10,P11,P12,P13,P14,L1,P15,N1,N2,N3,N4,N5,N6,N7,I1,I2,I3,I4,I5,I6,I7,reduceIte,reduceCtorEq]
 refine states_p T B.s ?_
 cases q1:posM N.n (-1) N.st with
 | false=>
  rw[q1]at hk
  simp only[PP,P1,P2,P3,P4,P5,P6,P7,P8,P9,P10,P11,P12,P13,P14,L1,P15,N1,N2,N3,N4,N5,N6,N7,I1,I2,I3,I4,I5,I6,I7,reduceIte,reduceCtorEq]at hk ⊢
  exact hk
 | true=>
  rw[q1]at hk
  simp only[PP,P1,P2,P3,P4,P5,P6,P7,P8,P9,P10,P11,P12,P13,P14,L1,P15,N1,N2,N3,N4,N5,N6,N7,I1,I2,I3,I4,I5,I6,I7,reduceIte,reduceCtorEq]
  refine states_p T B.f ?_
  cases q2:posM N.n (-1) N.fi with
  | false=>
   rw[q2]at hk
   simp only[PP,P1,P2,P3,P4,P5,P6,P7,P8,P9,P10,P11,P12,P13,P14,L1,P15,N1,N2,N3,N4,N5,N6,N7,I1,I2,I3,I4,I5,I6,I7,reduceIte,reduceCtorEq]at hk ⊢
   exact hk
  | true=>
   rw[q2]at hk
   simp only[PP,P1,P2,P3,P4,P5,P6,P7,P8,P9,P10,P11,P12,P13,P14,L1,P15,N1,N2,N3,N4,N5,N6,N7,I1,I2,I3,I4,I5,I6,I7,reduceIte,reduceCtorEq]at hk ⊢
   exact hk
theorem check_p {M:Mem} {K:PV→Mem→Prop} {f1 o1 f2 o2 f3 o3:Bool} {N:NF} (B:BnN N) (hk:K (p64 (checkN N)) M):
  SemC tab 34 [.agg (nfC f1 o1 f2 o2 f3 o3 N)] M K:=by
 refine SemC_pureS T.h34 (by simp only[PP,P1,P2,P3,P4,P5,P6,P7,P8,P9,P10,P11,P12,P13,P14,L1,P15,N1,N2,N3,N4,N5,N6,N7,I1,I2,I3,I4,I5,I6,I7,reduceIte,reduceCtorEq,under_slE]) ?_
 simp only[af34]
 refine q28 (q13 ?_)
 simp only[PP,P1,P2,P3,P4,P5,P6,P7,P8,P9,P10,P11,P12,P13,P14,L1,P15,N1,N2,N3,N4,N5,N6,N7,I1,I2,I3,I4,I5,I6,I7,reduceIte,reduceCtorEq]
 refine SemW_re (GStep.freezeP (b:=[Zj,.cp (nfC f1 o1 f2 o2 f3 o3 N) 0,p64 0,Zj,Zj,Zj,Zj,Zj,Zj,Zj,Zj,Zj,Zj,Zj,Zj,Zj,Zj,Zj,Zj,Zj,Zj,Zj,Zj,Zj,Zj,Zj,Zj,Zj,Zj,Zj,Zj,Zj,Zj,Zj,Zj,Zj,Zj,Zj,Zj,Zj,Zj,Zj,Zj,Zj,Zj,Zj,Zj,Zj,Zj,Zj,Zj,Zj,Zj,Zj,Zj,Zj,Zj,Zj,Zj,Zj,Zj,Zj,Zj]) 0 (Nat.zero_le _) rfl (by simp only[PFrzP_nil,PFrzP_junk,PFrzP_same,PFrzP_ptr]) rfl) ?_
 refine q28 (q13 ?_)
 simp only[PP,P1,P2,P3,P4,P5,P6,P7,P8,P9,P10,P11,P12,P13,P14,L1,P15,N1,N2,N3,N4,N5,N6,N7,I1,I2,I3,I4,I5,I6,I7,reduceIte,reduceCtorEq]
 refine loop2 (fun(k:Nat) (G:Mem)=>k≤4∧(0<k→¬(N.vs<0∨6<N.vs))∧(1<k→¬(N.n<0))∧(2<k→¬(64<N.n∨512<(N.es.length:Int)))∧(3<k→¬(¬(posM N.n (-1) N.st=true∧posM N.n (-1) N.fi=true))))
  (fun k G=>[Zj,.cp (nfC f1 o1 f2 o2 f3 o3 N) 0,Zj,Zj,Zj,Zj,Zj,Zj,Zj,Zj,Zj,Zj,Zj,Zj,Zj,Zj,.sl true true 2 4 [.func (.func 73) [] [.cp (nfC f1 o1 f2 o2 f3 o3 N) 0],p64 7,.func (.func 74) [] [.cp (nfC f1 o1 f2 o2 f3 o3 N) 0],p64 1,.func (.func 75) [] [.cp (nfC f1 o1 f2 o2 f3 o3 N) 0],p64 4,.func (.func 76) [] [.cp (nfC f1 o1 f2 o2 f3 o3 N) 0],p64 8],p64 4,p64 k,Zj,Zj,Zj,Zj,Zj,Zj,Zj,Zj,Zj,Zj,Zj,Zj,Zj,Zj,Zj,Zj,Zj,Zj,Zj,Zj,Zj,Zj,Zj,Zj,Zj,Zj,Zj,Zj,Zj,Zj,Zj,Zj,Zj,Zj,Zj,Zj,Zj,Zj,Zj,Zj,Zj,Zj,Zj,Zj]) (fun _ G=>G) (fun k _=>4-k) 0 [.gone] ⟨by omega,by omega,by omega,by omega,by omega⟩ (by simp only[PW]) rfl ?_
 intro k G ⟨hle,i1,i2,i3,i4⟩ ih
 have w1:IntKind.i64.wrap 1=1:=rfl
 have w2:IntKind.i64.wrap 2=2:=rfl
 have w3:IntKind.i64.wrap 3=3:=rfl
 have w4:IntKind.i64.wrap 4=4:=rfl
 unfold checkN at hk
 have hbad0:(N.vs<0∨6<N.vs)→K (p64 7) M:=fun h=>by rw[if_pos h]at hk;exact hk
 have hbad1:0<k→(N.n<0)→K (p64 1) M:=fun h0 h=>by rw[if_neg (i1 h0),if_pos h]at hk;exact hk
 have hbad2:1<k→(64<N.n∨512<(N.es.length:Int))→K (p64 4) M:=fun h0 h=>by rw[if_neg (i1 (by omega)),if_neg (i2 h0),if_pos h]at hk;exact hk
 have hbad3:2<k→(¬(posM N.n (-1) N.st=true∧posM N.n (-1) N.fi=true))→K (p64 8) M:=fun h0 h=>by rw[if_neg (i1 (by omega)),if_neg (i2 (by omega)),if_neg (i3 h0),if_neg h]at hk;exact hk
 have hgood:3<k→K (p64 (edgesM N.vs N.n N.es)) M:=fun h=>by rw[if_neg (i1 (by omega)),if_neg (i2 (by omega)),if_neg (i3 (by omega)),if_pos (Classical.not_not.1 (i4 h))]at hk;exact hk
 have hk5:k=0∨k=1∨k=2∨k=3∨k=4:=by omega
 rcases hk5 with rfl | rfl | rfl | rfl | rfl
 ·refine q48 (by kernel_rfl) ?_
  simp only[PP,P1,P2,P3,P4,P5,P6,P7,P8,P9,P10,P11,P12,P13,P14,L1,P15,N1,N2,N3,N4,N5,N6,N7,I1,I2,I3,I4,I5,I6,I7,reduceIte,reduceCtorEq,List.append_assoc,gk0,sk0]
  refine chk1_p T ?_
  by_cases q:(N.vs<0∨6<N.vs)
  ·simp only[PP,P1,P2,P3,P4,P5,P6,P7,P8,P9,P10,P11,P12,P13,P14,L1,P15,N1,N2,N3,N4,N5,N6,N7,I1,I2,I3,I4,I5,I6,I7,reduceIte,reduceCtorEq,q,List.append_assoc,gk,gk0,sk,sk0,decide_true]
   exact hbad0 q
  ·simp only[PP,P1,P2,P3,P4,P5,P6,P7,P8,P9,P10,P11,P12,P13,P14,L1,P15,N1,N2,N3,N4,N5,N6,N7,I1,I2,I3,I4,I5,I6,I7,reduceIte,reduceCtorEq,q,List.append_assoc,gk,gk0,sk,sk0,decide_false,w1,w2,w3,w4]
   refine SemW_to (ih 1 (G++[.cells 0 1 [.func (.func 73) [] [.cp (nfC f1 o1 f2 o2 f3 o3 N) 0],p64 7]]) ⟨by omega,fun _=>q,fun h=>absurd h (by omega),fun h=>absurd h (by omega),fun h=>absurd h (by omega)⟩ (by omega)) (by simp only[PW]) rfl
 ·refine q48 (by kernel_rfl) ?_
  simp only[PP,P1,P2,P3,P4,P5,P6,P7,P8,P9,P10,P11,P12,P13,P14,L1,P15,N1,N2,N3,N4,N5,N6,N7,I1,I2,I3,I4,I5,I6,I7,reduceIte,reduceCtorEq,List.append_assoc,gk0,sk0]
  refine chk2_p T ?_
  by_cases q:(N.n<0)
  ·simp only[PP,P1,P2,P3,P4,P5,P6,P7,P8,P9,P10,P11,P12,P13,P14,L1,P15,N1,N2,N3,N4,N5,N6,N7,I1,I2,I3,I4,I5,I6,I7,reduceIte,reduceCtorEq,q,List.append_assoc,gk,gk0,sk,sk0,decide_true]
   exact hbad1 (by omega) q
  ·simp only[PP,P1,P2,P3,P4,P5,P6,P7,P8,P9,P10,P11,P12,P13,P14,L1,P15,N1,N2,N3,N4,N5,N6,N7,I1,I2,I3,I4,I5,I6,I7,reduceIte,reduceCtorEq,q,List.append_assoc,gk,gk0,sk,sk0,decide_false,w1,w2,w3,w4]
   refine SemW_to (ih 2 (G++[.cells 0 1 [.func (.func 74) [] [.cp (nfC f1 o1 f2 o2 f3 o3 N) 0],p64 1]]) ⟨by omega,fun _=>i1 (by omega),fun _=>q,fun h=>absurd h (by omega),fun h=>absurd h (by omega)⟩ (by omega)) (by simp only[PW]) rfl
 ·refine q48 (by kernel_rfl) ?_
  simp only[PP,P1,P2,P3,P4,P5,P6,P7,P8,P9,P10,P11,P12,P13,P14,L1,P15,N1,N2,N3,N4,N5,N6,N7,I1,I2,I3,I4,I5,I6,I7,reduceIte,reduceCtorEq,List.append_assoc,gk0,sk0]
  refine chk3_p T ?_
  by_cases q:(64<N.n∨512<(N.es.length:Int))
  ·simp only[PP,P1,P2,P3,P4,P5,P6,P7,P8,P9,P10,P11,P12,P13,P14,L1,P15,N1,N2,N3,N4,N5,N6,N7,I1,I2,I3,I4,I5,I6,I7,reduceIte,reduceCtorEq,q,List.append_assoc,gk,gk0,sk,sk0,decide_true]
   exact hbad2 (by omega) q
  ·simp only[PP,P1,P2,P3,P4,P5,P6,P7,P8,P9,P10,P11,P12,P13,P14,L1,P15,N1,N2,N3,N4,N5,N6,N7,I1,I2,I3,I4,I5,I6,I7,reduceIte,reduceCtorEq,q,List.append_assoc,gk,gk0,sk,sk0,decide_false,w1,w2,w3,w4]
   refine SemW_to (ih 3 (G++[.cells 0 1 [.func (.func 75) [] [.cp (nfC f1 o1 f2 o2 f3 o3 N) 0],p64 4]]) ⟨by omega,fun _=>i1 (by omega),fun _=>i2 (by omega),fun _=>q,fun h=>absurd h (by omega)⟩ (by omega)) (by simp only[PW]) rfl
 ·refine q48 (by kernel_rfl) ?_
  simp only[PP,P1,P2,P3,P4,P5,P6,P7,P8,P9,P10,P11,P12,P13,P14,L1,P15,N1,N2,N3,N4,N5,N6,N7,I1,I2,I3,I4,I5,I6,I7,reduceIte,reduceCtorEq,List.append_assoc,gk0,sk0]
  refine chk4_p T B ?_
  by_cases q:(¬(posM N.n (-1) N.st=true∧posM N.n (-1) N.fi=true))
  ·simp only[PP,P1,P2,P3,P4,P5,P6,P7,P8,P9,P10,P11,P12,P13,P14,L1,P15,N1,N2,N3,N4,N5,N6,N7,I1,I2,I3,I4,I5,I6,I7,reduceIte,reduceCtorEq,q,List.append_assoc,gk,gk0,sk,sk0,decide_true]
   exact hbad3 (by omega) q
  ·simp only[PP,P1,P2,P3,P4,P5,P6,P7,P8,P9,P10,P11,P12,P13,P14,L1,P15,N1,N2,N3,N4,N5,N6,N7,I1,I2,I3,I4,I5,I6,I7,reduceIte,reduceCtorEq,q,List.append_assoc,gk,gk0,sk,sk0,decide_false,w1,w2,w3,w4]
   refine SemW_to (ih 4 (G++[.cells 0 1 [.func (.func 76) [] [.cp (nfC f1 o1 f2 o2 f3 o3 N) 0],p64 8]]) ⟨by omega,fun _=>i1 (by omega),fun _=>i2 (by omega),fun _=>i3 (by omega),fun _=>q⟩ (by omega)) (by simp only[PW]) rfl
 ·have hg:=hgood (by omega)
  refine q48 (by kernel_rfl) ?_
  simp only[PP,P1,P2,P3,P4,P5,P6,P7,P8,P9,P10,P11,P12,P13,P14,L1,P15,N1,N2,N3,N4,N5,N6,N7,I1,I2,I3,I4,I5,I6,I7,reduceIte,reduceCtorEq]
  refine q13 ?_
  simp only[PP,P1,P2,P3,P4,P5,P6,P7,P8,P9,P10,P11,P12,P13,P14,L1,P15,N1,N2,N3,N4,N5,N6,N7,I1,I2,I3,I4,I5,I6,I7,reduceIte,reduceCtorEq]
  refine loop2 (fun(k:Nat) (G:Mem)=>k≤N.es.length∧K (p64 (edgesM N.vs N.n (N.es.drop k))) M) (fun k G=>[Zj,.cp (nfC f1 o1 f2 o2 f3 o3 N) 0,Zj,Zj,Zj,Zj,Zj,Zj,Zj,Zj,Zj,Zj,Zj,Zj,Zj,Zj,Zj,Zj,Zj,Zj,Zj,Zj,Zj,Zj,Zj,Zj,Zj,Zj,Zj,slE f3 o3 N.es,p64 N.es.length,p64 k,Zj,Zj,Zj,Zj,Zj,Zj,Zj,Zj,Zj,Zj,Zj,Zj,Zj,Zj,Zj,Zj,Zj,Zj,Zj,Zj,Zj,Zj,Zj,Zj,Zj,Zj,Zj,Zj,Zj,Zj,Zj]) (fun _ G=>G) (fun k _=>N.es.length-k) 0 G ⟨by omega,hg⟩ (by simp only[PW]) rfl ?_
  intro k G ⟨hle,hq⟩ ih
  refine q48 (by kernel_rfl) ?_
  simp only[PP,P1,P2,P3,P4,P5,P6,P7,P8,P9,P10,P11,P12,P13,P14,L1,P15,N1,N2,N3,N4,N5,N6,N7,I1,I2,I3,I4,I5,I6,I7,reduceIte,reduceCtorEq]
  refine QIf.intro (fun c=>?_) (fun c=>?_)
  ·have hk':k<N.es.length:=by omega
   obtain⟨e,ge⟩:=some_of hk'
   rw[drop_some ge]at hq
   have hw:=q49 (k:=k) (by have:=B.e;omega)
   have h0:(0:Int)≤k:=by omega
   have h4:=psub_egL ge
   have hl4:k*4+4≤(egL N.es).length:=by rw[egL_len];exact eg_le ge
   obtain⟨b1,b2⟩:=B.b e (List.mem_of_getElem? ge)
   have bad:(e.fr<0∨N.n≤e.fr∨e.to<0∨N.n≤e.to)→K (p64 8) M:=fun h=>by rw[edgesM_bad h]at hq;exact hq
   simp only[PP,P1,P2,P3,P4,P5,P6,P7,P8,P9,P10,P11,P12,P13,P14,L1,P15,N1,N2,N3,N4,N5,N6,N7,I1,I2,I3,I4,I5,I6,I7,reduceIte,reduceCtorEq,c,h0,h4,hl4,List.append_assoc,gk,gk0,sk,sk0,pmin_two]
   refine QIf.intro (fun d1=>?_) (fun d1=>?_)
   ·simp only[PP,P1,P2,P3,P4,P5,P6,P7,P8,P9,P10,P11,P12,P13,P14,L1,P15,N1,N2,N3,N4,N5,N6,N7,I1,I2,I3,I4,I5,I6,I7,reduceIte,reduceCtorEq,d1]
    exact bad (by omega)
   simp only[PP,P1,P2,P3,P4,P5,P6,P7,P8,P9,P10,P11,P12,P13,P14,L1,P15,N1,N2,N3,N4,N5,N6,N7,I1,I2,I3,I4,I5,I6,I7,reduceIte,reduceCtorEq,d1,List.append_assoc,gk,gk0,sk,sk0]
   refine QIf.intro (fun d2=>?_) (fun d2=>?_)
   ·simp only[PP,P1,P2,P3,P4,P5,P6,P7,P8,P9,P10,P11,P12,P13,P14,L1,P15,N1,N2,N3,N4,N5,N6,N7,I1,I2,I3,I4,I5,I6,I7,reduceIte,reduceCtorEq,d2]
    exact bad (by omega)
   rw[edgesM_go (by omega)]at hq
   simp only[PP,P1,P2,P3,P4,P5,P6,P7,P8,P9,P10,P11,P12,P13,P14,L1,P15,N1,N2,N3,N4,N5,N6,N7,I1,I2,I3,I4,I5,I6,I7,reduceIte,reduceCtorEq,d2,List.append_assoc,gk,gk0,sk,sk0]
   refine cube_p T b1 b2 ?_
   simp only[PP,P1,P2,P3,P4,P5,P6,P7,P8,P9,P10,P11,P12,P13,P14,L1,P15,N1,N2,N3,N4,N5,N6,N7,I1,I2,I3,I4,I5,I6,I7,reduceIte,reduceCtorEq]
   refine QIf.intro (fun d5=>?_) (fun d5=>?_)
   ·rw[if_pos d5]at hq
    simp only[PP,P1,P2,P3,P4,P5,P6,P7,P8,P9,P10,P11,P12,P13,P14,L1,P15,N1,N2,N3,N4,N5,N6,N7,I1,I2,I3,I4,I5,I6,I7,reduceIte,reduceCtorEq,d5,hw]
    exact q35 (ih (k+1) _ ⟨by omega,hq⟩ (by omega)) (by simp only[PW])
   ·rw[if_neg d5]at hq
    simp only[PP,P1,P2,P3,P4,P5,P6,P7,P8,P9,P10,P11,P12,P13,P14,L1,P15,N1,N2,N3,N4,N5,N6,N7,I1,I2,I3,I4,I5,I6,I7,reduceIte,reduceCtorEq,d5]
    exact hq
  ·simp only[PP,P1,P2,P3,P4,P5,P6,P7,P8,P9,P10,P11,P12,P13,P14,L1,P15,N1,N2,N3,N4,N5,N6,N7,I1,I2,I3,I4,I5,I6,I7,reduceIte,reduceCtorEq,c]
   rw[List.drop_eq_nil_of_le (by omega)]at hq
   exact hq
end
def hasB (ps ng:Int) (x:Nat):Bool:=decide (bAnd x ps=ps)&&decide (bAnd x ng=0)
structure NOk (N:NF):Prop where
 v0:0≤N.vs
 v6:N.vs≤6
 n0:0≤N.n
 n64:N.n≤64
 e512:N.es.length≤512
 st:posM N.n (-1) N.st=true
 fi:posM N.n (-1) N.fi=true
 ed:∀e∈N.es,0≤e.fr∧e.fr<N.n∧0≤e.to∧e.to<N.n∧cubeM N.vs e.ps e.ng=0
theorem edgesM_zero {v n:Int} :∀{l:List Eg},edgesM v n l=0→∀e∈l,0≤e.fr∧e.fr<n∧0≤e.to∧e.to<n∧cubeM v e.ps e.ng=0
 | [],_,e,h=>by cases h
 | x::l,h,e,he=>by
  by_cases c:x.fr<0∨n≤x.fr∨x.to<0∨n≤x.to
  ·rw[edgesM_bad c]at h;cases h
  ·rw[edgesM_go c]at h
   by_cases d:cubeM v x.ps x.ng=0
   ·rw[if_pos d]at h
    rcases List.mem_cons.1 he with rfl | he
    ·exact⟨by omega,by omega,by omega,by omega,d⟩
    ·exact edgesM_zero h e he
   ·rw[if_neg d]at h;exact absurd h d
theorem nok_of {N:NF} (h:checkN N=0):NOk N:=by
 unfold checkN at h
 split at h
 ·cases h
 ·split at h
  ·cases h
  ·split at h
   ·cases h
   ·split at h
    ·rename_i q1 q2 q3 q4
     exact⟨by omega,by omega,by omega,by omega,by omega,q4.1,q4.2,edgesM_zero h⟩
    ·cases h
theorem pow_le64 {v:Int} (h6:v≤6):2^v.toNat≤64:=by
 have:v.toNat=0∨v.toNat=1∨v.toNat=2∨v.toNat=3∨v.toNat=4∨v.toNat=5∨v.toNat=6:=by omega
 rcases this with h | h | h | h | h | h | h<;>rw[h]<;>decide
theorem QCall_yl {tab:FuncId→Option AF} (id:Nat) (first args:List PV) (M:Mem) (K:PV→Mem→Prop):QCall tab (.yld id first) args M K=((∃ver r,M[id]? =some (.loop ver r))∧SemY tab id (first++args) M K):=rfl
section
variable {tab:FuncId→Option AF} (T:HasA tab)
include T
theorem has_p {M:Mem} {K:PV→Mem→Prop} {ps ng:Int} {x:Nat} (hp:0≤ps∧ps≤255) (hn:0≤ng∧ng≤255) (hx:x<256) (hk:K (.bool (hasB ps ng x)) M):
  SemC tab 107 [.agg [p8 ps,p8 ng],p8 x] M K:=by
 refine q18 T.h107 (by simp only[PP,P1,P2,P3,P4,P5,P6,P7,P8,P9,P10,P11,P12,P13,P14,L1,P15,N1,N2,N3,N4,N5,N6,N7,I1,I2,I3,I4,I5,I6,I7,reduceIte,reduceCtorEq]) ?_
 have h1:=pbin_and8 (x:=x) (y:=ps) (by omega) hp
 have h2:=pbin_and8 (x:=x) (y:=ng) (by omega) hn
 simp only[af107,PP,P1,P2,P3,P4,P5,P6,P7,P8,P9,P10,P11,P12,P13,P14,L1,P15,N1,N2,N3,N4,N5,N6,N7,I1,I2,I3,I4,I5,I6,I7,reduceIte,reduceCtorEq,h1,h2]
 refine QIf.intro (fun c1=>?_) (fun c1=>?_)
 ·simp only[PP,P1,P2,P3,P4,P5,P6,P7,P8,P9,P10,P11,P12,P13,P14,L1,P15,N1,N2,N3,N4,N5,N6,N7,I1,I2,I3,I4,I5,I6,I7,reduceIte,reduceCtorEq,c1,h2,hasB]at hk ⊢
  exact hk
 ·simp only[PP,P1,P2,P3,P4,P5,P6,P7,P8,P9,P10,P11,P12,P13,P14,L1,P15,N1,N2,N3,N4,N5,N6,N7,I1,I2,I3,I4,I5,I6,I7,reduceIte,reduceCtorEq,c1,hasB]at hk ⊢
  exact hk
end
end Go.Am.Ar

