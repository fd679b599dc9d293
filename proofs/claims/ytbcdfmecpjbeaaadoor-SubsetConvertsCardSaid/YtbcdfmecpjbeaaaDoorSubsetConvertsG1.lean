/- Contracts: automata compared and copied, and what goes with it. -/
import Derived.Test.YtbcdfmecpjbeaaaDoorSubsetConvertsG0
import Derived.Test.YtbcdfmecpjbeaaaDoorPmC
set_option linter.unusedVariables false
set_option linter.unusedSimpArgs false
set_option maxRecDepth 10000
namespace Go.Am.Ar
open Go.Am.PV renaming junk→Zj
open Go.Am renaming pchk→P1,pold→P2,PKNo→P3,ppack→P4,PObj.under→P5,pput→P6,ptset→P7,ptget→P8,pev→P9,ofAV→P10,ofAV1→P11,ppad→P12,pfill→P13,prepl→P14,AO.effect→P15
open List renaming replicate→L1
open Nat renaming reduceAdd→N1,reduceSub→N2,reduceMul→N3,reduceLT→N4,reduceLeDiff→N5,reduceEqDiff→N6,reduceBEq→N7
open Int renaming reduceToNat→I1,reduceLT→I2,reduceLE→I3,reduceEq→I4,reduceAdd→I5,reduceSub→I6,reduceNeg→I7
theorem NF.ext' {N N':NF} (h1:N.vs=N'.vs) (h2:N.n=N'.n) (h3:N.st=N'.st) (h4:N.fi=N'.fi) (h5:N.es=N'.es):N=N':=by
 cases N;cases N';simp_all
section
variable {tab:FuncId→Option AF} (T:HasA tab)
include T
theorem equalB_p {M:Mem} {K:PV→Mem→Prop} {f o f' o':Bool} {xs ys:List Bool} (hm:xs.length<big) (hk:K (.bool (decide (xs=ys))) M):
  SemC tab 46 [slB f o xs,slB f' o' ys] M K:=by
 refine SemC_pure T.h46 (by simp only[PP,P1,P2,P3,P4,P5,P6,P7,P8,P9,P10,P11,P12,P13,P14,L1,P15,N1,N2,N3,N4,N5,N6,N7,I1,I2,I3,I4,I5,I6,I7,reduceIte,reduceCtorEq]) ?_
 simp only[af46,PP,P1,P2,P3,P4,P5,P6,P7,P8,P9,P10,P11,P12,P13,P14,L1,P15,N1,N2,N3,N4,N5,N6,N7,I1,I2,I3,I4,I5,I6,I7,reduceIte,reduceCtorEq]
 refine QIf.intro (fun c1=>?_) (fun c1=>?_)
 ·simp only[PP,P1,P2,P3,P4,P5,P6,P7,P8,P9,P10,P11,P12,P13,P14,L1,P15,N1,N2,N3,N4,N5,N6,N7,I1,I2,I3,I4,I5,I6,I7,reduceIte,reduceCtorEq,c1]
  have hl:xs.length=ys.length:=by omega
  refine loop1 (fun(k:Nat)=>k≤xs.length∧K (.bool (decide (xs.drop k=ys.drop k))) M) (fun k=>[slB f o xs,slB f' o' ys,Zj,Zj,Zj,p64 k,Zj,Zj,Zj,Zj,Zj,Zj,Zj,Zj,Zj,Zj,Zj,Zj,Zj,Zj,Zj,Zj,Zj,Zj,Zj,Zj]) (fun _=>[]) (fun k=>xs.length-k) 0 ⟨by omega,hk⟩ (by simp only[PW]) rfl ?_
  intro k ⟨hle,hq⟩ ih
  refine SemW_go (by kernel_rfl) ?_
  simp only[PP,P1,P2,P3,P4,P5,P6,P7,P8,P9,P10,P11,P12,P13,P14,L1,P15,N1,N2,N3,N4,N5,N6,N7,I1,I2,I3,I4,I5,I6,I7,reduceIte,reduceCtorEq]
  refine QIf.intro (fun c=>?_) (fun c=>?_)
  ·have hk':k<xs.length:=by omega
   have hk2:k<ys.length:=by omega
   obtain⟨x,gx⟩:=some_of hk'
   obtain⟨y,gy⟩:=some_of hk2
   rw[drop_some gx,drop_some gy]at hq
   have hw:=q32 (k:=k) (by omega)
   have h0:(0:Int)≤k:=by omega
   have cy:(k:Int)<ys.length:=by omega
   simp only[PP,P1,P2,P3,P4,P5,P6,P7,P8,P9,P10,P11,P12,P13,P14,L1,P15,N1,N2,N3,N4,N5,N6,N7,I1,I2,I3,I4,I5,I6,I7,reduceIte,reduceCtorEq,c,gx,gy,hw,h0,cy]
   by_cases e:x=y
   ·subst e
    simp only[PP,P1,P2,P3,P4,P5,P6,P7,P8,P9,P10,P11,P12,P13,P14,L1,P15,N1,N2,N3,N4,N5,N6,N7,I1,I2,I3,I4,I5,I6,I7,reduceIte,reduceCtorEq,hw,List.cons.injEq]at hq ⊢
    exact SemW_weak (ih (k+1) ⟨by omega,hq⟩ (by omega)) (by simp only[PW])
   ·have hbe:(x==y)=false:=by simp[e]
    simp only[PP,P1,P2,P3,P4,P5,P6,P7,P8,P9,P10,P11,P12,P13,P14,L1,P15,N1,N2,N3,N4,N5,N6,N7,I1,I2,I3,I4,I5,I6,I7,reduceIte,reduceCtorEq,hbe,e,List.cons.injEq]at hq ⊢
    exact hq
  ·simp only[PP,P1,P2,P3,P4,P5,P6,P7,P8,P9,P10,P11,P12,P13,P14,L1,P15,N1,N2,N3,N4,N5,N6,N7,I1,I2,I3,I4,I5,I6,I7,reduceIte,reduceCtorEq,c]
   rw[List.drop_eq_nil_of_le (by omega),List.drop_eq_nil_of_le (by omega)]at hq
   simp only[PP,P1,P2,P3,P4,P5,P6,P7,P8,P9,P10,P11,P12,P13,P14,L1,P15,N1,N2,N3,N4,N5,N6,N7,I1,I2,I3,I4,I5,I6,I7,reduceIte,reduceCtorEq]at hq
   exact hq
 ·have hne:xs≠ys:=fun e=>c1 (by rw[e])
  simp only[PP,P1,P2,P3,P4,P5,P6,P7,P8,P9,P10,P11,P12,P13,P14,L1,P15,N1,N2,N3,N4,N5,N6,N7,I1,I2,I3,I4,I5,I6,I7,reduceIte,reduceCtorEq,c1]
  rw[decide_eq_false hne]at hk
  exact hk
theorem equalE_p {M:Mem} {K:PV→Mem→Prop} {f o f' o':Bool} {xs ys:List Eg} (hm:xs.length<big) (h1:∀x∈xs,x.fit) (h2:∀x∈ys,x.fit) (hk:K (.bool (decide (xs=ys))) M):
  SemC tab 70 [slE f o xs,slE f' o' ys] M K:=by
 refine SemC_pure T.h70 (by simp only[PP,P1,P2,P3,P4,P5,P6,P7,P8,P9,P10,P11,P12,P13,P14,L1,P15,N1,N2,N3,N4,N5,N6,N7,I1,I2,I3,I4,I5,I6,I7,reduceIte,reduceCtorEq,under_slE]) ?_
 simp only[af70,PP,P1,P2,P3,P4,P5,P6,P7,P8,P9,P10,P11,P12,P13,P14,L1,P15,N1,N2,N3,N4,N5,N6,N7,I1,I2,I3,I4,I5,I6,I7,reduceIte,reduceCtorEq]
 refine QIf.intro (fun c1=>?_) (fun c1=>?_)
 ·simp only[PP,P1,P2,P3,P4,P5,P6,P7,P8,P9,P10,P11,P12,P13,P14,L1,P15,N1,N2,N3,N4,N5,N6,N7,I1,I2,I3,I4,I5,I6,I7,reduceIte,reduceCtorEq,c1]
  have hl:xs.length=ys.length:=by omega
  refine loop1 (fun(k:Nat)=>k≤xs.length∧K (.bool (decide (xs.drop k=ys.drop k))) M) (fun k=>[slE f o xs,slE f' o' ys,Zj,Zj,Zj,p64 k,Zj,Zj,Zj,Zj,Zj,Zj,Zj,Zj,Zj,Zj,Zj,Zj,Zj,Zj,Zj,Zj,Zj,Zj,Zj,Zj]) (fun _=>[]) (fun k=>xs.length-k) 0 ⟨by omega,hk⟩ (by simp only[PW]) rfl ?_
  intro k ⟨hle,hq⟩ ih
  refine SemW_go (by kernel_rfl) ?_
  simp only[PP,P1,P2,P3,P4,P5,P6,P7,P8,P9,P10,P11,P12,P13,P14,L1,P15,N1,N2,N3,N4,N5,N6,N7,I1,I2,I3,I4,I5,I6,I7,reduceIte,reduceCtorEq]
  refine QIf.intro (fun c=>?_) (fun c=>?_)
  ·have hk':k<xs.length:=by omega
   have hk2:k<ys.length:=by omega
   obtain⟨x,gx⟩:=some_of hk'
   obtain⟨y,gy⟩:=some_of hk2
   rw[drop_some gx,drop_some gy]at hq
   have hw:=q32 (k:=k) (by omega)
   have h0:(0:Int)≤k:=by omega
   have cy:(k:Int)<ys.length:=by omega
   have hx4:=psub_egL gx
   have hy4:=psub_egL gy
   have lx:k*4+4≤(egL xs).length:=by rw[egL_len];exact eg_le gx
   have ly:k*4+4≤(egL ys).length:=by rw[egL_len];exact eg_le gy
   have hpe:=peq_eg (h1 x (List.mem_of_getElem? gx)) (h2 y (List.mem_of_getElem? gy))
   simp only[PP,P1,P2,P3,P4,P5,P6,P7,P8,P9,P10,P11,P12,P13,P14,L1,P15,N1,N2,N3,N4,N5,N6,N7,I1,I2,I3,I4,I5,I6,I7,reduceIte,reduceCtorEq,c,hx4,hy4,lx,ly,hw,h0,cy,hpe]
   by_cases e:x=y
   ·simp only[PP,P1,P2,P3,P4,P5,P6,P7,P8,P9,P10,P11,P12,P13,P14,L1,P15,N1,N2,N3,N4,N5,N6,N7,I1,I2,I3,I4,I5,I6,I7,reduceIte,reduceCtorEq,e,hw,List.cons.injEq]at hq ⊢
    exact SemW_weak (ih (k+1) ⟨by omega,hq⟩ (by omega)) (by simp only[PW])
   ·simp only[PP,P1,P2,P3,P4,P5,P6,P7,P8,P9,P10,P11,P12,P13,P14,L1,P15,N1,N2,N3,N4,N5,N6,N7,I1,I2,I3,I4,I5,I6,I7,reduceIte,reduceCtorEq,e,List.cons.injEq]at hq ⊢
    exact hq
  ·simp only[PP,P1,P2,P3,P4,P5,P6,P7,P8,P9,P10,P11,P12,P13,P14,L1,P15,N1,N2,N3,N4,N5,N6,N7,I1,I2,I3,I4,I5,I6,I7,reduceIte,reduceCtorEq,c]
   rw[List.drop_eq_nil_of_le (by omega),List.drop_eq_nil_of_le (by omega)]at hq
   simp only[PP,P1,P2,P3,P4,P5,P6,P7,P8,P9,P10,P11,P12,P13,P14,L1,P15,N1,N2,N3,N4,N5,N6,N7,I1,I2,I3,I4,I5,I6,I7,reduceIte,reduceCtorEq]at hq
   exact hq
 ·have hne:xs≠ys:=fun e=>c1 (by rw[e])
  simp only[PP,P1,P2,P3,P4,P5,P6,P7,P8,P9,P10,P11,P12,P13,P14,L1,P15,N1,N2,N3,N4,N5,N6,N7,I1,I2,I3,I4,I5,I6,I7,reduceIte,reduceCtorEq,c1]
  rw[decide_eq_false hne]at hk
  exact hk
theorem equalN_p {M:Mem} {K:PV→Mem→Prop} {f1 o1 f2 o2 f3 o3 g1 p1 g2 p2 g3 p3:Bool} {N N':NF} (B:BnN N) (h1:∀x∈N.es,x.fit) (h2:∀x∈N'.es,x.fit) (hk:∀b,(b=true↔N=N')→K (.bool b) M):
  SemC tab 31 [.agg (nfC f1 o1 f2 o2 f3 o3 N),.agg (nfC g1 p1 g2 p2 g3 p3 N')] M K:=by
 refine SemC_pure T.h31 (by simp only[PP,P1,P2,P3,P4,P5,P6,P7,P8,P9,P10,P11,P12,P13,P14,L1,P15,N1,N2,N3,N4,N5,N6,N7,I1,I2,I3,I4,I5,I6,I7,reduceIte,reduceCtorEq,under_slE]) ?_
 simp only[af31,PP,P1,P2,P3,P4,P5,P6,P7,P8,P9,P10,P11,P12,P13,P14,L1,P15,N1,N2,N3,N4,N5,N6,N7,I1,I2,I3,I4,I5,I6,I7,reduceIte,reduceCtorEq]
 have no:N≠N'→K (.bool false) M:=fun h=>hk false ⟨(fun q=>Bool.noConfusion q),fun q=>absurd q h⟩
 refine QIf.intro (fun c1=>?_) (fun c1=>?_)
 rotate_left
 ·simp only[PP,P1,P2,P3,P4,P5,P6,P7,P8,P9,P10,P11,P12,P13,P14,L1,P15,N1,N2,N3,N4,N5,N6,N7,I1,I2,I3,I4,I5,I6,I7,reduceIte,reduceCtorEq,c1]
  exact no fun e=>c1 (by rw[e])
 simp only[PP,P1,P2,P3,P4,P5,P6,P7,P8,P9,P10,P11,P12,P13,P14,L1,P15,N1,N2,N3,N4,N5,N6,N7,I1,I2,I3,I4,I5,I6,I7,reduceIte,reduceCtorEq,c1]
 refine QIf.intro (fun c2=>?_) (fun c2=>?_)
 rotate_left
 ·simp only[PP,P1,P2,P3,P4,P5,P6,P7,P8,P9,P10,P11,P12,P13,P14,L1,P15,N1,N2,N3,N4,N5,N6,N7,I1,I2,I3,I4,I5,I6,I7,reduceIte,reduceCtorEq,c2]
  exact no fun e=>c2 (by rw[e])
 simp only[PP,P1,P2,P3,P4,P5,P6,P7,P8,P9,P10,P11,P12,P13,P14,L1,P15,N1,N2,N3,N4,N5,N6,N7,I1,I2,I3,I4,I5,I6,I7,reduceIte,reduceCtorEq,c2]
 refine equalInts_p T B.s ?_
 by_cases c3:N.st=N'.st
 rotate_left
 ·simp only[PP,P1,P2,P3,P4,P5,P6,P7,P8,P9,P10,P11,P12,P13,P14,L1,P15,N1,N2,N3,N4,N5,N6,N7,I1,I2,I3,I4,I5,I6,I7,reduceIte,reduceCtorEq,c3]
  exact no fun e=>c3 (by rw[e])
 simp only[PP,P1,P2,P3,P4,P5,P6,P7,P8,P9,P10,P11,P12,P13,P14,L1,P15,N1,N2,N3,N4,N5,N6,N7,I1,I2,I3,I4,I5,I6,I7,reduceIte,reduceCtorEq,c3]
 refine equalInts_p T B.f ?_
 by_cases c4:N.fi=N'.fi
 rotate_left
 ·simp only[PP,P1,P2,P3,P4,P5,P6,P7,P8,P9,P10,P11,P12,P13,P14,L1,P15,N1,N2,N3,N4,N5,N6,N7,I1,I2,I3,I4,I5,I6,I7,reduceIte,reduceCtorEq,c4]
  exact no fun e=>c4 (by rw[e])
 simp only[PP,P1,P2,P3,P4,P5,P6,P7,P8,P9,P10,P11,P12,P13,P14,L1,P15,N1,N2,N3,N4,N5,N6,N7,I1,I2,I3,I4,I5,I6,I7,reduceIte,reduceCtorEq,c4]
 refine equalE_p T B.e h1 h2 ?_
 by_cases c5:N.es=N'.es
 rotate_left
 ·simp only[PP,P1,P2,P3,P4,P5,P6,P7,P8,P9,P10,P11,P12,P13,P14,L1,P15,N1,N2,N3,N4,N5,N6,N7,I1,I2,I3,I4,I5,I6,I7,reduceIte,reduceCtorEq,c5]
  exact no fun e=>c5 (by rw[e])
 simp only[PP,P1,P2,P3,P4,P5,P6,P7,P8,P9,P10,P11,P12,P13,P14,L1,P15,N1,N2,N3,N4,N5,N6,N7,I1,I2,I3,I4,I5,I6,I7,reduceIte,reduceCtorEq,c5]
 exact hk true ⟨fun _=>NF.ext' c1 c2 c3 c4 c5,fun _=>rfl⟩
end
structure DF where
 vs:Int
 st:Int
 nx:List (List Int)
 fi:List Bool
abbrev dfC (f1 o1 f2 o2 f3 o3:Bool) (D:DF):List PV:=[p64 D.vs,p64 D.st,slR f1 o1 f2 o2 .i64 D.nx,slB f3 o3 D.fi]
structure BnD (D:DF):Prop where
 n:D.nx.length<big
 r:∀r∈D.nx,r.length<big
 f:D.fi.length<big
def badR (n:Int) (r:List Int):Bool:=r.any fun t=>decide (t<0∨n≤t)
def rowsD (v n:Int):List (List Int)→Int
 | []=>0
 | r::l=>if(r.length:Int)=2^v.toNat then(if badR n r=true then 8 else rowsD v n l) else 2
def checkD (D:DF):Int:=
 if D.vs<0∨6<D.vs then 7 else if(D.nx.length:Int)=0 then 3 else if 4096<(D.nx.length:Int) then 4 else if ¬(D.fi.length:Int)=D.nx.length then 2 else if D.st<0∨(D.nx.length:Int)≤D.st then 8 else rowsD D.vs D.nx.length D.nx
def minFrom:Int→List Int→Int
 | m,[]=>m
 | m,x::l=>minFrom (min m x) l
theorem minFrom_neg:∀(l:List Int) (m:Int),minFrom m l<0↔m<0∨∃t∈l,t<0
 | [],m=>by simp[minFrom]
 | x::l,m=>by
  unfold minFrom
  rw[minFrom_neg l]
  simp only[List.mem_cons]
  constructor
  ·rintro(h | ⟨t,h1,h2⟩)
   ·by_cases h3:m<0
    ·exact .inl h3
    ·exact .inr ⟨x,.inl rfl,by omega⟩
   ·exact .inr ⟨t,.inr h1,h2⟩
  ·rintro(h | ⟨t,rfl | h1,h2⟩)
   ·exact .inl (by omega)
   ·exact .inl (by omega)
   ·exact .inr ⟨t,h1,h2⟩
theorem maxFrom_ge {n:Int} :∀(l:List Int) (m:Int),n≤maxFrom m l↔n≤m∨∃t∈l,n≤t
 | [],m=>by simp[maxFrom]
 | x::l,m=>by
  unfold maxFrom
  rw[maxFrom_ge l]
  simp only[List.mem_cons]
  constructor
  ·rintro(h | ⟨t,h1,h2⟩)
   ·by_cases h3:n≤m
    ·exact .inl h3
    ·exact .inr ⟨x,.inl rfl,by omega⟩
   ·exact .inr ⟨t,.inr h1,h2⟩
  ·rintro(h | ⟨t,rfl | h1,h2⟩)
   ·exact .inl (by omega)
   ·exact .inl (by omega)
   ·exact .inr ⟨t,h1,h2⟩
theorem badR_iff {n x:Int} {l:List Int} :badR n (x::l)=true↔minFrom x l<0∨n≤maxFrom x l:=by
 rw[minFrom_neg,maxFrom_ge]
 unfold badR
 simp only[List.any_eq_true,List.mem_cons,decide_eq_true_eq]
 constructor
 ·rintro⟨t,rfl | h1,h | h⟩
  ·exact .inl (.inl h)
  ·exact .inr (.inl h)
  ·exact .inl (.inr ⟨t,h1,h⟩)
  ·exact .inr (.inr ⟨t,h1,h⟩)
 ·rintro((h | ⟨t,h1,h⟩) | (h | ⟨t,h1,h⟩))
  ·exact⟨x,.inl rfl,.inl h⟩
  ·exact⟨t,.inr h1,.inl h⟩
  ·exact⟨x,.inl rfl,.inr h⟩
  ·exact⟨t,.inr h1,.inr h⟩
theorem shl_one {v:Int} (h0:¬v<0) (h6:¬6<v):pbin .shl (.int .i64 1) (.int .i64 v)=some (.int .i64 (2^v.toNat)):=by
 have:v=0∨v=1∨v=2∨v=3∨v=4∨v=5∨v=6:=by omega
 rcases this with rfl | rfl | rfl | rfl | rfl | rfl | rfl<;>rfl
theorem pow_pos' (v:Int):(0:Int)<2^v.toNat:=Int.pow_pos (by decide)
section
variable {tab:FuncId→Option AF} (T:HasA tab)
include T
theorem min_p {M:Mem} {K:PV→Mem→Prop} {f o:Bool} {x:Int} {xs:List Int} (hm:(x::xs).length<big) (hq:K (p64 (minFrom x xs)) M):
  SemC tab 53 [slI f o .i64 (x::xs)] M K:=by
 refine SemC_pure T.h53 (by simp only[PP,P1,P2,P3,P4,P5,P6,P7,P8,P9,P10,P11,P12,P13,P14,L1,P15,N1,N2,N3,N4,N5,N6,N7,I1,I2,I3,I4,I5,I6,I7,reduceIte,reduceCtorEq]) ?_
 have c1:¬((xs.length+1:Nat):Int)<1:=by omega
 have c2:(0:Int)<((xs.length+1:Nat):Int):=by omega
 simp only[af53,PP,P1,P2,P3,P4,P5,P6,P7,P8,P9,P10,P11,P12,P13,P14,L1,P15,N1,N2,N3,N4,N5,N6,N7,I1,I2,I3,I4,I5,I6,I7,reduceIte,reduceCtorEq,c1,c2]
 have hm':xs.length+1<1000000000000:=hm
 refine loop2 (fun(k:Nat) (m:Int)=>k≤xs.length∧K (p64 (minFrom m (xs.drop k))) M) (fun k m=>[slI f o .i64 (x::xs),Zj,Zj,p64 m,p64 ((k+1:Nat):Int),Zj,Zj,Zj,Zj,Zj,Zj,Zj,Zj,Zj,Zj,Zj,Zj,Zj,Zj,Zj,Zj,Zj,Zj,Zj,Zj]) (fun _ _=>[]) (fun k _=>xs.length-k) 0 x ⟨by omega,hq⟩ (by simp only[PW]) rfl ?_
 intro k m ⟨hle,hq⟩ ih
 refine SemW_go (by kernel_rfl) ?_
 simp only[PP,P1,P2,P3,P4,P5,P6,P7,P8,P9,P10,P11,P12,P13,P14,L1,P15,N1,N2,N3,N4,N5,N6,N7,I1,I2,I3,I4,I5,I6,I7,reduceIte,reduceCtorEq]
 refine QIf.intro (fun c=>?_) (fun c=>?_)
 ·have hk':k<xs.length:=by omega
  have g1:xs[k]? =some xs[k]:=List.getElem?_eq_getElem hk'
  have h0:(0:Int)≤((k+1:Nat):Int):=by omega
  have hw:=q32 (k:=k+1) (by show _<1000000000000;omega)
  rw[drop_get' hk']at hq
  simp only[PP,P1,P2,P3,P4,P5,P6,P7,P8,P9,P10,P11,P12,P13,P14,L1,P15,N1,N2,N3,N4,N5,N6,N7,I1,I2,I3,I4,I5,I6,I7,reduceIte,reduceCtorEq,c,g1,h0,hw,minFrom,pmin_two]at hq ⊢
  exact SemW_weak (ih (k+1) _ ⟨by omega,hq⟩ (by omega)) (by simp only[PW])
 ·rw[List.drop_eq_nil_of_le (by omega)]at hq
  simp only[PP,P1,P2,P3,P4,P5,P6,P7,P8,P9,P10,P11,P12,P13,P14,L1,P15,N1,N2,N3,N4,N5,N6,N7,I1,I2,I3,I4,I5,I6,I7,reduceIte,reduceCtorEq,c,minFrom]at hq ⊢
  exact hq
theorem dcheck_p {M:Mem} {K:PV→Mem→Prop} {f1 o1 f2 o2 f3 o3:Bool} {D:DF} (B:BnD D) (hk:K (p64 (checkD D)) M):
  SemC tab 21 [.agg (dfC f1 o1 f2 o2 f3 o3 D)] M K:=by
 refine SemC_pure T.h21 (by simp only[PP,P1,P2,P3,P4,P5,P6,P7,P8,P9,P10,P11,P12,P13,P14,L1,P15,N1,N2,N3,N4,N5,N6,N7,I1,I2,I3,I4,I5,I6,I7,reduceIte,reduceCtorEq]) ?_
 simp only[af21,PP,P1,P2,P3,P4,P5,P6,P7,P8,P9,P10,P11,P12,P13,P14,L1,P15,N1,N2,N3,N4,N5,N6,N7,I1,I2,I3,I4,I5,I6,I7,reduceIte,reduceCtorEq]
 unfold checkD at hk
 refine QIf.intro (fun c1=>?_) (fun c1=>?_)
 ·rw[if_pos (.inl c1)]at hk
  simp only[PP,P1,P2,P3,P4,P5,P6,P7,P8,P9,P10,P11,P12,P13,P14,L1,P15,N1,N2,N3,N4,N5,N6,N7,I1,I2,I3,I4,I5,I6,I7,reduceIte,reduceCtorEq,c1]
  exact hk
 simp only[PP,P1,P2,P3,P4,P5,P6,P7,P8,P9,P10,P11,P12,P13,P14,L1,P15,N1,N2,N3,N4,N5,N6,N7,I1,I2,I3,I4,I5,I6,I7,reduceIte,reduceCtorEq,c1]
 refine QIf.intro (fun c2=>?_) (fun c2=>?_)
 ·rw[if_pos (.inr c2)]at hk
  simp only[PP,P1,P2,P3,P4,P5,P6,P7,P8,P9,P10,P11,P12,P13,P14,L1,P15,N1,N2,N3,N4,N5,N6,N7,I1,I2,I3,I4,I5,I6,I7,reduceIte,reduceCtorEq,c2]
  exact hk
 rw[if_neg (by omega)]at hk
 simp only[PP,P1,P2,P3,P4,P5,P6,P7,P8,P9,P10,P11,P12,P13,P14,L1,P15,N1,N2,N3,N4,N5,N6,N7,I1,I2,I3,I4,I5,I6,I7,reduceIte,reduceCtorEq,c2]
 refine QIf.intro (fun c3=>?_) (fun c3=>?_)
 ·rw[if_pos c3]at hk
  simp only[PP,P1,P2,P3,P4,P5,P6,P7,P8,P9,P10,P11,P12,P13,P14,L1,P15,N1,N2,N3,N4,N5,N6,N7,I1,I2,I3,I4,I5,I6,I7,reduceIte,reduceCtorEq,c3]
  exact hk
 rw[if_neg c3]at hk
 simp only[PP,P1,P2,P3,P4,P5,P6,P7,P8,P9,P10,P11,P12,P13,P14,L1,P15,N1,N2,N3,N4,N5,N6,N7,I1,I2,I3,I4,I5,I6,I7,reduceIte,reduceCtorEq,c3]
 refine QIf.intro (fun c4=>?_) (fun c4=>?_)
 ·rw[if_pos c4]at hk
  simp only[PP,P1,P2,P3,P4,P5,P6,P7,P8,P9,P10,P11,P12,P13,P14,L1,P15,N1,N2,N3,N4,N5,N6,N7,I1,I2,I3,I4,I5,I6,I7,reduceIte,reduceCtorEq,c4]
  exact hk
 rw[if_neg c4]at hk
 simp only[PP,P1,P2,P3,P4,P5,P6,P7,P8,P9,P10,P11,P12,P13,P14,L1,P15,N1,N2,N3,N4,N5,N6,N7,I1,I2,I3,I4,I5,I6,I7,reduceIte,reduceCtorEq,c4]
 refine QIf.intro (fun c5=>?_) (fun c5=>?_)
 rotate_left
 ·rw[if_pos c5]at hk
  simp only[PP,P1,P2,P3,P4,P5,P6,P7,P8,P9,P10,P11,P12,P13,P14,L1,P15,N1,N2,N3,N4,N5,N6,N7,I1,I2,I3,I4,I5,I6,I7,reduceIte,reduceCtorEq,c5]
  exact hk
 rw[if_neg (Classical.not_not.2 c5)]at hk
 simp only[PP,P1,P2,P3,P4,P5,P6,P7,P8,P9,P10,P11,P12,P13,P14,L1,P15,N1,N2,N3,N4,N5,N6,N7,I1,I2,I3,I4,I5,I6,I7,reduceIte,reduceCtorEq,c5]
 refine QIf.intro (fun c6=>?_) (fun c6=>?_)
 ·rw[if_pos (.inl c6)]at hk
  simp only[PP,P1,P2,P3,P4,P5,P6,P7,P8,P9,P10,P11,P12,P13,P14,L1,P15,N1,N2,N3,N4,N5,N6,N7,I1,I2,I3,I4,I5,I6,I7,reduceIte,reduceCtorEq,c6]
  exact hk
 simp only[PP,P1,P2,P3,P4,P5,P6,P7,P8,P9,P10,P11,P12,P13,P14,L1,P15,N1,N2,N3,N4,N5,N6,N7,I1,I2,I3,I4,I5,I6,I7,reduceIte,reduceCtorEq,c6]
 refine QIf.intro (fun c7=>?_) (fun c7=>?_)
 ·rw[if_pos (.inr c7)]at hk
  simp only[PP,P1,P2,P3,P4,P5,P6,P7,P8,P9,P10,P11,P12,P13,P14,L1,P15,N1,N2,N3,N4,N5,N6,N7,I1,I2,I3,I4,I5,I6,I7,reduceIte,reduceCtorEq,c7]
  exact hk
 rw[if_neg (by omega)]at hk
 simp only[PP,P1,P2,P3,P4,P5,P6,P7,P8,P9,P10,P11,P12,P13,P14,L1,P15,N1,N2,N3,N4,N5,N6,N7,I1,I2,I3,I4,I5,I6,I7,reduceIte,reduceCtorEq,c7]
 have hl:=shl_one c1 c2
 refine loop1 (fun(k:Nat)=>k≤D.nx.length∧K (p64 (rowsD D.vs D.nx.length (D.nx.drop k))) M) (fun k=>[Zj,.ptr 0 0 0,Zj,p64 D.nx.length,Zj,Zj,Zj,Zj,Zj,Zj,Zj,Zj,Zj,Zj,Zj,Zj,Zj,Zj,Zj,Zj,Zj,Zj,Zj,Zj,Zj,Zj,Zj,Zj,Zj,Zj,Zj,Zj,Zj,Zj,Zj,Zj,Zj,Zj,Zj,Zj,Zj,slR f1 o1 f2 o2 .i64 D.nx,p64 D.nx.length,p64 k,Zj,Zj,Zj,Zj,Zj,Zj,Zj,Zj,Zj,Zj,Zj,Zj,Zj,Zj,Zj,Zj,Zj,Zj,Zj]) (fun _=>[.cells 0 0 (dfC f1 o1 f2 o2 f3 o3 D)]) (fun k=>D.nx.length-k) 0 ⟨by omega,hk⟩ (by simp only[PW]) rfl ?_
 intro k ⟨hle,hq⟩ ih
 refine SemW_go (by kernel_rfl) ?_
 simp only[PP,P1,P2,P3,P4,P5,P6,P7,P8,P9,P10,P11,P12,P13,P14,L1,P15,N1,N2,N3,N4,N5,N6,N7,I1,I2,I3,I4,I5,I6,I7,reduceIte,reduceCtorEq]
 refine QIf.intro (fun c=>?_) (fun c=>?_)
 ·have hk':k<D.nx.length:=by omega
  obtain⟨r,g⟩:=some_of hk'
  have h0:(0:Int)≤(k:Int):=by omega
  have hB:D.nx.length<1000000000000:=B.n
  have hw:=q32 (k:=k) (by show _<1000000000000;omega)
  rw[drop_some g]at hq
  simp only[PP,P1,P2,P3,P4,P5,P6,P7,P8,P9,P10,P11,P12,P13,P14,L1,P15,N1,N2,N3,N4,N5,N6,N7,I1,I2,I3,I4,I5,I6,I7,reduceIte,reduceCtorEq,c,g,h0,hl]
  unfold rowsD at hq
  refine QIf.intro (fun e=>?_) (fun e=>?_)
  rotate_left
  ·rw[if_neg e]at hq
   simp only[PP,P1,P2,P3,P4,P5,P6,P7,P8,P9,P10,P11,P12,P13,P14,L1,P15,N1,N2,N3,N4,N5,N6,N7,I1,I2,I3,I4,I5,I6,I7,reduceIte,reduceCtorEq,e]
   exact hq
  rw[if_pos e]at hq
  simp only[PP,P1,P2,P3,P4,P5,P6,P7,P8,P9,P10,P11,P12,P13,P14,L1,P15,N1,N2,N3,N4,N5,N6,N7,I1,I2,I3,I4,I5,I6,I7,reduceIte,reduceCtorEq,e]
  cases r with
  | nil=>have:=pow_pos' D.vs;simp at e;omega
  | cons x l=>
   have hx:(x::l).length<big:=B.r _ (List.mem_of_getElem? g)
   refine min_p T hx ?_
   simp only[PP,P1,P2,P3,P4,P5,P6,P7,P8,P9,P10,P11,P12,P13,P14,L1,P15,N1,N2,N3,N4,N5,N6,N7,I1,I2,I3,I4,I5,I6,I7,reduceIte,reduceCtorEq]
   refine QIf.intro (fun e1=>?_) (fun e1=>?_)
   ·rw[if_pos (badR_iff.2 (.inl e1))]at hq
    simp only[PP,P1,P2,P3,P4,P5,P6,P7,P8,P9,P10,P11,P12,P13,P14,L1,P15,N1,N2,N3,N4,N5,N6,N7,I1,I2,I3,I4,I5,I6,I7,reduceIte,reduceCtorEq,e1]
    exact hq
   simp only[PP,P1,P2,P3,P4,P5,P6,P7,P8,P9,P10,P11,P12,P13,P14,L1,P15,N1,N2,N3,N4,N5,N6,N7,I1,I2,I3,I4,I5,I6,I7,reduceIte,reduceCtorEq,e1]
   refine max_p T hx ?_
   simp only[PP,P1,P2,P3,P4,P5,P6,P7,P8,P9,P10,P11,P12,P13,P14,L1,P15,N1,N2,N3,N4,N5,N6,N7,I1,I2,I3,I4,I5,I6,I7,reduceIte,reduceCtorEq]
   refine QIf.intro (fun e2=>?_) (fun e2=>?_)
   ·rw[if_pos (badR_iff.2 (.inr e2))]at hq
    simp only[PP,P1,P2,P3,P4,P5,P6,P7,P8,P9,P10,P11,P12,P13,P14,L1,P15,N1,N2,N3,N4,N5,N6,N7,I1,I2,I3,I4,I5,I6,I7,reduceIte,reduceCtorEq,e2]
    exact hq
   rw[if_neg (by rw[badR_iff];omega)]at hq
   simp only[PP,P1,P2,P3,P4,P5,P6,P7,P8,P9,P10,P11,P12,P13,P14,L1,P15,N1,N2,N3,N4,N5,N6,N7,I1,I2,I3,I4,I5,I6,I7,reduceIte,reduceCtorEq,e2,hw]
   exact SemW_weak (ih (k+1) ⟨by omega,hq⟩ (by omega)) (by simp only[PW])
 ·rw[List.drop_eq_nil_of_le (by omega)]at hq
  simp only[PP,P1,P2,P3,P4,P5,P6,P7,P8,P9,P10,P11,P12,P13,P14,L1,P15,N1,N2,N3,N4,N5,N6,N7,I1,I2,I3,I4,I5,I6,I7,reduceIte,reduceCtorEq,c,rowsD]at hq ⊢
  exact hq
theorem rdcheck_p {M:Mem} {K:PV→Mem→Prop} {f1 o1 f2 o2 f3 o3:Bool} {D:DF} (B:BnD D) (hk:K (p64 (checkD D)) M):
  SemC tab 22 [.agg (dfC f1 o1 f2 o2 f3 o3 D)] M K:=by
 refine SemC_pure T.h22 (by simp only[PP,P1,P2,P3,P4,P5,P6,P7,P8,P9,P10,P11,P12,P13,P14,L1,P15,N1,N2,N3,N4,N5,N6,N7,I1,I2,I3,I4,I5,I6,I7,reduceIte,reduceCtorEq]) ?_
 simp only[af22,PP,P1,P2,P3,P4,P5,P6,P7,P8,P9,P10,P11,P12,P13,P14,L1,P15,N1,N2,N3,N4,N5,N6,N7,I1,I2,I3,I4,I5,I6,I7,reduceIte,reduceCtorEq]
 refine vars_p T ?_
 unfold checkD at hk
 by_cases c1:D.vs<0∨6<D.vs
 ·rw[if_pos c1]at hk
  have e:¬(0≤D.vs∧D.vs≤6):=by omega
  simp only[PP,P1,P2,P3,P4,P5,P6,P7,P8,P9,P10,P11,P12,P13,P14,L1,P15,N1,N2,N3,N4,N5,N6,N7,I1,I2,I3,I4,I5,I6,I7,reduceIte,reduceCtorEq,e]
  exact hk
 rw[if_neg c1]at hk
 have e:0≤D.vs∧D.vs≤6:=by omega
 simp only[PP,P1,P2,P3,P4,P5,P6,P7,P8,P9,P10,P11,P12,P13,P14,L1,P15,N1,N2,N3,N4,N5,N6,N7,I1,I2,I3,I4,I5,I6,I7,reduceIte,reduceCtorEq,e]
 refine QIf.intro (fun c3=>?_) (fun c3=>?_)
 ·rw[if_pos c3]at hk
  simp only[PP,P1,P2,P3,P4,P5,P6,P7,P8,P9,P10,P11,P12,P13,P14,L1,P15,N1,N2,N3,N4,N5,N6,N7,I1,I2,I3,I4,I5,I6,I7,reduceIte,reduceCtorEq,c3]
  exact hk
 rw[if_neg c3]at hk
 simp only[PP,P1,P2,P3,P4,P5,P6,P7,P8,P9,P10,P11,P12,P13,P14,L1,P15,N1,N2,N3,N4,N5,N6,N7,I1,I2,I3,I4,I5,I6,I7,reduceIte,reduceCtorEq,c3]
 refine QIf.intro (fun c4=>?_) (fun c4=>?_)
 ·rw[if_pos c4]at hk
  simp only[PP,P1,P2,P3,P4,P5,P6,P7,P8,P9,P10,P11,P12,P13,P14,L1,P15,N1,N2,N3,N4,N5,N6,N7,I1,I2,I3,I4,I5,I6,I7,reduceIte,reduceCtorEq,c4]
  exact hk
 rw[if_neg c4]at hk
 simp only[PP,P1,P2,P3,P4,P5,P6,P7,P8,P9,P10,P11,P12,P13,P14,L1,P15,N1,N2,N3,N4,N5,N6,N7,I1,I2,I3,I4,I5,I6,I7,reduceIte,reduceCtorEq,c4]
 refine QIf.intro (fun c5=>?_) (fun c5=>?_)
 rotate_left
 ·rw[if_pos c5]at hk
  simp only[PP,P1,P2,P3,P4,P5,P6,P7,P8,P9,P10,P11,P12,P13,P14,L1,P15,N1,N2,N3,N4,N5,N6,N7,I1,I2,I3,I4,I5,I6,I7,reduceIte,reduceCtorEq,c5]
  exact hk
 rw[if_neg (Classical.not_not.2 c5)]at hk
 simp only[PP,P1,P2,P3,P4,P5,P6,P7,P8,P9,P10,P11,P12,P13,P14,L1,P15,N1,N2,N3,N4,N5,N6,N7,I1,I2,I3,I4,I5,I6,I7,reduceIte,reduceCtorEq,c5]
 refine QIf.intro (fun c6=>?_) (fun c6=>?_)
 ·rw[if_pos (.inl c6)]at hk
  simp only[PP,P1,P2,P3,P4,P5,P6,P7,P8,P9,P10,P11,P12,P13,P14,L1,P15,N1,N2,N3,N4,N5,N6,N7,I1,I2,I3,I4,I5,I6,I7,reduceIte,reduceCtorEq,c6]
  exact hk
 simp only[PP,P1,P2,P3,P4,P5,P6,P7,P8,P9,P10,P11,P12,P13,P14,L1,P15,N1,N2,N3,N4,N5,N6,N7,I1,I2,I3,I4,I5,I6,I7,reduceIte,reduceCtorEq,c6]
 refine QIf.intro (fun c7=>?_) (fun c7=>?_)
 ·rw[if_pos (.inr c7)]at hk
  simp only[PP,P1,P2,P3,P4,P5,P6,P7,P8,P9,P10,P11,P12,P13,P14,L1,P15,N1,N2,N3,N4,N5,N6,N7,I1,I2,I3,I4,I5,I6,I7,reduceIte,reduceCtorEq,c7]
  exact hk
 rw[if_neg (by omega)]at hk
 simp only[PP,P1,P2,P3,P4,P5,P6,P7,P8,P9,P10,P11,P12,P13,P14,L1,P15,N1,N2,N3,N4,N5,N6,N7,I1,I2,I3,I4,I5,I6,I7,reduceIte,reduceCtorEq,c7]
 have v0:¬D.vs<0:=by omega
 have v6:¬6<D.vs:=by omega
 have hB:D.nx.length<1000000000000:=B.n
 refine loop1 (fun(k:Nat)=>k≤D.nx.length∧K (p64 (rowsD D.vs D.nx.length (D.nx.drop k))) M) (fun k=>[Zj,.ptr 0 0 0,Zj,p64 D.nx.length,p64 k,Zj,Zj,Zj,Zj,Zj,Zj,Zj,Zj,Zj,Zj,Zj,Zj,Zj,Zj,Zj,Zj,Zj,Zj,Zj,Zj,Zj,Zj,Zj,Zj,Zj,Zj,Zj,Zj,Zj,Zj,Zj,Zj,Zj,Zj,Zj,Zj,Zj,Zj,Zj,Zj,Zj,Zj,Zj,Zj,Zj,Zj,Zj,Zj,Zj,Zj,Zj,Zj,Zj,Zj,Zj,Zj,Zj,Zj,Zj,Zj,Zj,Zj,Zj,Zj,Zj,Zj,Zj,Zj,Zj,Zj,Zj,Zj]) (fun _=>[.cells 0 0 (dfC f1 o1 f2 o2 f3 o3 D)]) (fun k=>D.nx.length-k) 0 ⟨by omega,hk⟩ (by simp only[PW]) rfl ?_
 intro k ⟨hle,hq⟩ ih
 refine SemW_go (by kernel_rfl) ?_
 simp only[PP,P1,P2,P3,P4,P5,P6,P7,P8,P9,P10,P11,P12,P13,P14,L1,P15,N1,N2,N3,N4,N5,N6,N7,I1,I2,I3,I4,I5,I6,I7,reduceIte,reduceCtorEq]
 refine QIf.intro (fun c=>?_) (fun c=>?_)
 ·have hk':k<D.nx.length:=by omega
  obtain⟨r,g⟩:=some_of hk'
  have h0:(0:Int)≤(k:Int):=by omega
  have hw:=q32 (k:=k) (by show _<1000000000000;omega)
  rw[drop_some g]at hq
  simp only[PP,P1,P2,P3,P4,P5,P6,P7,P8,P9,P10,P11,P12,P13,P14,L1,P15,N1,N2,N3,N4,N5,N6,N7,I1,I2,I3,I4,I5,I6,I7,reduceIte,reduceCtorEq,c,g,h0]
  refine letters_p T v0 v6 ?_
  simp only[PP,P1,P2,P3,P4,P5,P6,P7,P8,P9,P10,P11,P12,P13,P14,L1,P15,N1,N2,N3,N4,N5,N6,N7,I1,I2,I3,I4,I5,I6,I7,reduceIte,reduceCtorEq]
  unfold rowsD at hq
  refine QIf.intro (fun e=>?_) (fun e=>?_)
  rotate_left
  ·rw[if_neg e]at hq
   simp only[PP,P1,P2,P3,P4,P5,P6,P7,P8,P9,P10,P11,P12,P13,P14,L1,P15,N1,N2,N3,N4,N5,N6,N7,I1,I2,I3,I4,I5,I6,I7,reduceIte,reduceCtorEq,e]
   exact hq
  rw[if_pos e]at hq
  simp only[PP,P1,P2,P3,P4,P5,P6,P7,P8,P9,P10,P11,P12,P13,P14,L1,P15,N1,N2,N3,N4,N5,N6,N7,I1,I2,I3,I4,I5,I6,I7,reduceIte,reduceCtorEq,e]
  have hr:r.length<1000000000000:=B.r _ (List.mem_of_getElem? g)
  refine loop1 (fun(j:Nat)=>j≤r.length∧(badR D.nx.length (r.drop j)=badR D.nx.length r)) (fun j=>[Zj,.ptr 0 0 0,Zj,p64 D.nx.length,p64 k,p64 j,Zj,Zj,Zj,Zj,Zj,Zj,Zj,Zj,Zj,Zj,Zj,Zj,Zj,Zj,Zj,Zj,Zj,Zj,Zj,Zj,Zj,Zj,Zj,Zj,Zj,Zj,Zj,Zj,Zj,Zj,Zj,Zj,Zj,Zj,Zj,Zj,Zj,Zj,Zj,Zj,Zj,Zj,Zj,Zj,Zj,Zj,Zj,Zj,Zj,Zj,Zj,Zj,Zj,Zj,Zj,Zj,Zj,Zj,Zj,Zj,Zj,Zj,Zj,Zj,Zj,Zj,Zj,Zj,Zj,Zj,Zj]) (fun _=>[.cells 0 0 (dfC f1 o1 f2 o2 f3 o3 D)]) (fun j=>r.length-j) 0 ⟨by omega,rfl⟩ (by simp only[PW]) rfl ?_
  intro j ⟨jle,hj⟩ ih2
  refine SemW_go (by kernel_rfl) ?_
  simp only[PP,P1,P2,P3,P4,P5,P6,P7,P8,P9,P10,P11,P12,P13,P14,L1,P15,N1,N2,N3,N4,N5,N6,N7,I1,I2,I3,I4,I5,I6,I7,reduceIte,reduceCtorEq,c,g,h0]
  refine QIf.intro (fun d=>?_) (fun d=>?_)
  ·have hj':j<r.length:=by omega
   obtain⟨t,gt⟩:=some_of hj'
   have j0:(0:Int)≤(j:Int):=by omega
   have wj:=q32 (k:=j) (by show _<1000000000000;omega)
   rw[drop_some gt]at hj
   simp only[PP,P1,P2,P3,P4,P5,P6,P7,P8,P9,P10,P11,P12,P13,P14,L1,P15,N1,N2,N3,N4,N5,N6,N7,I1,I2,I3,I4,I5,I6,I7,reduceIte,reduceCtorEq,c,g,h0,d,gt,j0]
   refine QIf.intro (fun e1=>?_) (fun e1=>?_)
   ·rw[if_pos (by rw[←hj];simp[badR,e1])]at hq
    simp only[PP,P1,P2,P3,P4,P5,P6,P7,P8,P9,P10,P11,P12,P13,P14,L1,P15,N1,N2,N3,N4,N5,N6,N7,I1,I2,I3,I4,I5,I6,I7,reduceIte,reduceCtorEq,e1]
    exact hq
   simp only[PP,P1,P2,P3,P4,P5,P6,P7,P8,P9,P10,P11,P12,P13,P14,L1,P15,N1,N2,N3,N4,N5,N6,N7,I1,I2,I3,I4,I5,I6,I7,reduceIte,reduceCtorEq,e1,c,g,h0,d,gt,j0]
   refine QIf.intro (fun e2=>?_) (fun e2=>?_)
   ·rw[if_pos (by rw[←hj];simp[badR,e2])]at hq
    simp only[PP,P1,P2,P3,P4,P5,P6,P7,P8,P9,P10,P11,P12,P13,P14,L1,P15,N1,N2,N3,N4,N5,N6,N7,I1,I2,I3,I4,I5,I6,I7,reduceIte,reduceCtorEq,e2]
    exact hq
   simp only[PP,P1,P2,P3,P4,P5,P6,P7,P8,P9,P10,P11,P12,P13,P14,L1,P15,N1,N2,N3,N4,N5,N6,N7,I1,I2,I3,I4,I5,I6,I7,reduceIte,reduceCtorEq,e2,wj]
   refine SemW_weak (ih2 (j+1) ⟨by omega,?_⟩ (by omega)) (by simp only[PW])
   rw[←hj]
   simp[badR,e1]
   omega
  ·rw[List.drop_eq_nil_of_le (by omega)]at hj
   rw[if_neg (by rw[←hj];simp[badR])]at hq
   simp only[PP,P1,P2,P3,P4,P5,P6,P7,P8,P9,P10,P11,P12,P13,P14,L1,P15,N1,N2,N3,N4,N5,N6,N7,I1,I2,I3,I4,I5,I6,I7,reduceIte,reduceCtorEq,d,hw]
   exact SemW_weak (ih (k+1) ⟨by omega,hq⟩ (by omega)) (by simp only[PW])
 ·rw[List.drop_eq_nil_of_le (by omega)]at hq
  simp only[PP,P1,P2,P3,P4,P5,P6,P7,P8,P9,P10,P11,P12,P13,P14,L1,P15,N1,N2,N3,N4,N5,N6,N7,I1,I2,I3,I4,I5,I6,I7,reduceIte,reduceCtorEq,c,rowsD]at hq ⊢
  exact hq
end
def digS:ByteArray:=⟨#[48,49,50,51,52,53,54,55,56,57,97,98,99,100,101,102,103,104,105,106,107,108,109,110,111,112,113,114,115,116,117,118,119,120,121,122]⟩
def smlS:ByteArray:=⟨#[48,48,48,49,48,50,48,51,48,52,48,53,48,54,48,55,48,56,48,57,49,48,49,49,49,50,49,51,49,52,49,53,49,54,49,55,49,56,49,57,50,48,50,49,50,50,50,51,50,52,50,53,50,54,50,55,50,56,50,57,51,48,51,49,51,50,51,51,51,52,51,53,51,54,51,55,51,56,51,57,52,48,52,49,52,50,52,51,52,52,52,53,52,54,52,55,52,56,52,57,53,48,53,49,53,50,53,51,53,52,53,53,53,54,53,55,53,56,53,57,54,48,54,49,54,50,54,51,54,52,54,53,54,54,54,55,54,56,54,57,55,48,55,49,55,50,55,51,55,52,55,53,55,54,55,55,55,56,55,57,56,48,56,49,56,50,56,51,56,52,56,53,56,54,56,55,56,56,56,57,57,48,57,49,57,50,57,51,57,52,57,53,57,54,57,55,57,56,57,57]⟩
def itoaN (n:Nat):ByteArray:=if n<10 then digS.extract n (n+1) else smlS.extract (2*n) (2*n+2)
theorem itoa_all:((List.range 100).all fun a=>(List.range 100).all fun b=>decide (a=b)|| !((itoaN a).data.toList==(itoaN b).data.toList))=true:=by decide+kernel
theorem itoa_inj {a b:Nat} (ha:a<100) (hb:b<100) (h:itoaN a=itoaN b):a=b:=by
 have:=(List.all_eq_true.1 ((List.all_eq_true.1 itoa_all) a (List.mem_range.2 ha))) b (List.mem_range.2 hb)
 rw[h]at this
 simpa using this
section
variable {tab:FuncId→Option AF} (T:HasA tab)
include T
theorem small_p {M:Mem} {K:PV→Mem→Prop} {n:Nat} (hn:n<100) (hk:K (.str (itoaN n)) M):
  SemC tab 110 [p64 n] M K:=by
 refine SemC_pure T.h110 (by simp only[PP,P1,P2,P3,P4,P5,P6,P7,P8,P9,P10,P11,P12,P13,P14,L1,P15,N1,N2,N3,N4,N5,N6,N7,I1,I2,I3,I4,I5,I6,I7,reduceIte,reduceCtorEq]) ?_
 simp only[af110,PP,P1,P2,P3,P4,P5,P6,P7,P8,P9,P10,P11,P12,P13,P14,L1,P15,N1,N2,N3,N4,N5,N6,N7,I1,I2,I3,I4,I5,I6,I7,reduceIte,reduceCtorEq]
 have w1:IntKind.i64.wrap ((n:Int)+1)=((n+1:Nat):Int):=q32 (by show _<1000000000000;omega)
 have w2:IntKind.i64.wrap ((n:Int)*2)=((2*n:Nat):Int):=by rw[wrap64]<;>omega
 have w3:IntKind.i64.wrap (((2*n:Nat):Int)+2)=((2*n+2:Nat):Int):=by rw[wrap64]<;>omega
 refine QIf.intro (fun c=>?_) (fun c=>?_)
 ·simp only[PP,P1,P2,P3,P4,P5,P6,P7,P8,P9,P10,P11,P12,P13,P14,L1,P15,N1,N2,N3,N4,N5,N6,N7,I1,I2,I3,I4,I5,I6,I7,reduceIte,reduceCtorEq,c,w1,PS_makeMap,PS_lookup,q35,PS_lenMap,ZMp_map,ZLook_maps,ZMapU_maps,ZLenM_map,plook_st,plook_sf,plook_nt,plook_nf,smE_find,smE_len,q56,q57,q27,q58,ZStr_str,ZSlA_ptr,ZB2S_nils,ZB2S_sl,ZB2S_ref,pfrz_str,under_str,one_str,pcells_str,one_map,pcells_map,q34,q54,Option.getD]
  refine⟨⟨by omega,by omega,?_⟩,?_⟩
  ·show((n+1:Nat):Int)≤((36:Nat):Int)
   omega
  ·have e:itoaN n=digS.extract n (n+1):=by unfold itoaN;rw[if_pos (by omega)]
   rw[e]at hk
   exact hk
 ·simp only[PP,P1,P2,P3,P4,P5,P6,P7,P8,P9,P10,P11,P12,P13,P14,L1,P15,N1,N2,N3,N4,N5,N6,N7,I1,I2,I3,I4,I5,I6,I7,reduceIte,reduceCtorEq,c,w2,w3,PS_makeMap,PS_lookup,q35,PS_lenMap,ZMp_map,ZLook_maps,ZMapU_maps,ZLenM_map,plook_st,plook_sf,plook_nt,plook_nf,smE_find,smE_len,q56,q57,q27,q58,ZStr_str,ZSlA_ptr,ZB2S_nils,ZB2S_sl,ZB2S_ref,pfrz_str,under_str,one_str,pcells_str,one_map,pcells_map,q34,q54,Option.getD]
  refine⟨⟨by omega,by omega,?_⟩,?_⟩
  ·show((2*n+2:Nat):Int)≤((200:Nat):Int)
   omega
  ·have e:itoaN n=smlS.extract (2*n) (2*n+2):=by unfold itoaN;rw[if_neg (by omega)]
   rw[e]at hk
   exact hk
theorem fmtInt_p {M:Mem} {K:PV→Mem→Prop} {n:Nat} (hn:n<100) (hk:K (.str (itoaN n)) M):
  SemC tab 108 [p64 n,p64 10] M K:=by
 refine SemC_pure T.h108 (by simp only[PP,P1,P2,P3,P4,P5,P6,P7,P8,P9,P10,P11,P12,P13,P14,L1,P15,N1,N2,N3,N4,N5,N6,N7,I1,I2,I3,I4,I5,I6,I7,reduceIte,reduceCtorEq]) ?_
 have c1:(0:Int)≤n:=by omega
 have c2:(n:Int)<100:=by omega
 simp only[af108,PP,P1,P2,P3,P4,P5,P6,P7,P8,P9,P10,P11,P12,P13,P14,L1,P15,N1,N2,N3,N4,N5,N6,N7,I1,I2,I3,I4,I5,I6,I7,reduceIte,reduceCtorEq,c1,c2]
 refine small_p T hn ?_
 simp only[PP,P1,P2,P3,P4,P5,P6,P7,P8,P9,P10,P11,P12,P13,P14,L1,P15,N1,N2,N3,N4,N5,N6,N7,I1,I2,I3,I4,I5,I6,I7,reduceIte,reduceCtorEq,PS_makeMap,PS_lookup,q35,PS_lenMap,ZMp_map,ZLook_maps,ZMapU_maps,ZLenM_map,plook_st,plook_sf,plook_nt,plook_nf,smE_find,smE_len,q56,q57,q27,q58,ZStr_str,ZSlA_ptr,ZB2S_nils,ZB2S_sl,ZB2S_ref,pfrz_str,under_str,one_str,pcells_str,one_map,pcells_map,q34,q54]
 exact hk
theorem itoa0_p {M:Mem} {K:PV→Mem→Prop} {n:Nat} (hn:n<100) (hk:K (.str (itoaN n)) M):
  SemC tab 100 [p64 n] M K:=by
 refine SemC_pure T.h100 (by simp only[PP,P1,P2,P3,P4,P5,P6,P7,P8,P9,P10,P11,P12,P13,P14,L1,P15,N1,N2,N3,N4,N5,N6,N7,I1,I2,I3,I4,I5,I6,I7,reduceIte,reduceCtorEq]) ?_
 simp only[af100,PP,P1,P2,P3,P4,P5,P6,P7,P8,P9,P10,P11,P12,P13,P14,L1,P15,N1,N2,N3,N4,N5,N6,N7,I1,I2,I3,I4,I5,I6,I7,reduceIte,reduceCtorEq]
 refine fmtInt_p T hn ?_
 simp only[PP,P1,P2,P3,P4,P5,P6,P7,P8,P9,P10,P11,P12,P13,P14,L1,P15,N1,N2,N3,N4,N5,N6,N7,I1,I2,I3,I4,I5,I6,I7,reduceIte,reduceCtorEq,PS_makeMap,PS_lookup,q35,PS_lenMap,ZMp_map,ZLook_maps,ZMapU_maps,ZLenM_map,plook_st,plook_sf,plook_nt,plook_nf,smE_find,smE_len,q56,q57,q27,q58,ZStr_str,ZSlA_ptr,ZB2S_nils,ZB2S_sl,ZB2S_ref,pfrz_str,under_str,one_str,pcells_str,one_map,pcells_map,q34,q54]
 exact hk
theorem itoa_p {M:Mem} {K:PV→Mem→Prop} {n:Nat} (hn:n<100) (hk:K (.str (itoaN n)) M):
  SemC tab 83 [p64 n] M K:=by
 refine SemC_pure T.h83 (by simp only[PP,P1,P2,P3,P4,P5,P6,P7,P8,P9,P10,P11,P12,P13,P14,L1,P15,N1,N2,N3,N4,N5,N6,N7,I1,I2,I3,I4,I5,I6,I7,reduceIte,reduceCtorEq]) ?_
 simp only[af83,PP,P1,P2,P3,P4,P5,P6,P7,P8,P9,P10,P11,P12,P13,P14,L1,P15,N1,N2,N3,N4,N5,N6,N7,I1,I2,I3,I4,I5,I6,I7,reduceIte,reduceCtorEq]
 refine itoa0_p T hn ?_
 simp only[PP,P1,P2,P3,P4,P5,P6,P7,P8,P9,P10,P11,P12,P13,P14,L1,P15,N1,N2,N3,N4,N5,N6,N7,I1,I2,I3,I4,I5,I6,I7,reduceIte,reduceCtorEq,PS_makeMap,PS_lookup,q35,PS_lenMap,ZMp_map,ZLook_maps,ZMapU_maps,ZLenM_map,plook_st,plook_sf,plook_nt,plook_nf,smE_find,smE_len,q56,q57,q27,q58,ZStr_str,ZSlA_ptr,ZB2S_nils,ZB2S_sl,ZB2S_ref,pfrz_str,under_str,one_str,pcells_str,one_map,pcells_map,q34,q54]
 exact hk
end
section
variable {tab:FuncId→Option AF} (T:HasA tab)
include T
end
section
variable {α:Type} [DecidableEq α]
def addN (o:List α) (b:α):List α:=if b∈o then o else o++[b]
def visN (δ:α→Nat→α) (a:α):Nat→List α→List α
 | 0,o=>o
 | x+1,o=>addN (visN δ a x o) (δ a x)
def bfsK (δ:α→Nat→α) (n:Nat) (a0:α):Nat→List α
 | 0=>[a0]
 | k+1=>match (bfsK δ n a0 k)[k]? with
  | some a=>visN δ a n (bfsK δ n a0 k)
  | none=>bfsK δ n a0 k
theorem addN_pre (o:List α) (b:α):∃r,addN o b=o++r:=by
 unfold addN
 split
 ·exact⟨[],by simp⟩
 ·exact⟨[b],rfl⟩
theorem mem_addN (o:List α) (b c:α):c∈addN o b↔c∈o∨c=b:=by
 unfold addN
 split
 ·constructor
  ·exact .inl
  ·rintro(h | rfl)
   ·exact h
   ·assumption
 ·simp
theorem visN_pre (δ:α→Nat→α) (a:α):∀(x:Nat) (o:List α),∃r,visN δ a x o=o++r
 | 0,o=>⟨[],by simp[visN]⟩
 | x+1,o=>by
  obtain⟨r,h⟩:=visN_pre δ a x o
  obtain⟨r2,h2⟩:=addN_pre (visN δ a x o) (δ a x)
  exact⟨r++r2,by unfold visN;rw[h2,h,List.append_assoc]⟩
theorem visN_pre2 (δ:α→Nat→α) (a:α) (x:Nat) (o:List α):∀y,x≤y→∃r,visN δ a y o=visN δ a x o++r
 | 0,h=>by
  obtain rfl:x=0:=by omega
  exact⟨[],by simp⟩
 | y+1,h=>by
  by_cases e:x=y+1
  ·subst e;exact⟨[],by simp⟩
  ·obtain⟨r,h1⟩:=visN_pre2 δ a x o y (by omega)
   obtain⟨r2,h2⟩:=addN_pre (visN δ a y o) (δ a y)
   exact⟨r++r2,by rw[←List.append_assoc,←h1,←h2];rfl⟩
theorem mem_visN (δ:α→Nat→α) (a c:α):∀(x:Nat) (o:List α),c∈visN δ a x o↔c∈o∨∃y,y<x∧c=δ a y
 | 0,o=>by simp[visN]
 | x+1,o=>by
  unfold visN
  rw[mem_addN,mem_visN δ a c x o]
  constructor
  ·rintro((h | ⟨y,h1,h2⟩) | h)
   ·exact .inl h
   ·exact .inr ⟨y,by omega,h2⟩
   ·exact .inr ⟨x,by omega,h⟩
  ·rintro(h | ⟨y,h1,h2⟩)
   ·exact .inl (.inl h)
   ·by_cases e:y=x
    ·subst e;exact .inr h2
    ·exact .inl (.inr ⟨y,by omega,h2⟩)
theorem idxOf_ne {a b:α} {o:List α} (h:b≠a):(a::o).idxOf b=o.idxOf b+1:=by
 rw[List.idxOf_cons]
 have:(a==b)=false:=beq_false_of_ne fun e=>h e.symm
 rw[this];rfl
theorem idxOf_pre {o r:List α} {b:α} (h:b∈o):(o++r).idxOf b=o.idxOf b:=by
 rw[List.idxOf_append,if_pos h]
def rowN (δ:α→Nat→α) (n:Nat) (o:List α) (a:α):List Int:=(List.range n).map fun x=>((o.idxOf (δ a x):Nat):Int)
theorem rowN_pre {δ:α→Nat→α} {n:Nat} {o r:List α} {a:α} (h:∀x,x<n→δ a x∈o):rowN δ n (o++r) a=rowN δ n o a:=
 List.map_congr_left fun x hx=>by rw[idxOf_pre (h x (List.mem_range.1 hx))]
def numE (κ:α→ByteArray):Nat→List α→List (ByteArray×PV)
 | _,[]=>[]
 | k,a::o=>(κ a,p64 (k:Int))::numE κ (k+1) o
omit [DecidableEq α] in
theorem numE_len (κ:α→ByteArray):∀(o:List α) (k:Nat),(numE κ k o).length=o.length
 | [],k=>rfl
 | a::o,k=>by simp[numE,numE_len κ o]
omit [DecidableEq α] in
theorem numE_snoc (κ:α→ByteArray) (b:α):∀(o:List α) (k:Nat),numE κ k o++[(κ b,p64 ((k+o.length:Nat):Int))]=numE κ k (o++[b])
 | [],k=>rfl
 | a::o,k=>by
  show(κ a,p64 (k:Int))::(numE κ (k+1) o++_)=(κ a,p64 (k:Int))::numE κ (k+1) (o++[b])
  rw[←numE_snoc κ b o (k+1)]
  simp only[List.length_cons]
  rw[show k+1+o.length=k+(o.length+1) by omega]
theorem numE_look {κ:α→ByteArray} {Dm:α→Prop} (hinj:∀a b,Dm a→Dm b→κ a=κ b→a=b) {b:α} (hb:Dm b):∀(o:List α) (k:Nat),(∀a∈o,Dm a)→slook (κ b) (numE κ k o)=if b∈o then some (p64 ((k+o.idxOf b:Nat):Int)) else none
 | [],k,ho=>rfl
 | a::o,k,ho=>by
  unfold numE slook
  by_cases e:κ b=κ a
  ·obtain rfl:=hinj b a hb (ho a (by simp)) e
   rw[if_pos rfl,if_pos (by simp)];simp
  ·have hne:b≠a:=fun h=>e (by rw[h])
   rw[if_neg e,numE_look hinj hb o (k+1) (fun c hc=>ho c (by simp[hc]))]
   by_cases hm:b∈o
   ·rw[if_pos hm,if_pos (by simp[hm]),idxOf_ne hne,show k+1+o.idxOf b=k+(o.idxOf b+1) by omega]
   ·rw[if_neg hm,if_neg (by simp[hm,hne])]
end
section
variable {tab:FuncId→Option AF} (T:HasA tab)
include T
theorem visit_p {N:Mem} {K:PV→Mem→Prop} {i j ver vb:Nat} {l:List (ByteArray×PV)} {k:ByteArray} (hi:N[i]? =some (.map ver (smE l))) (hj:N[j]? =some (.cells 0 vb [.map i])) (hl:l.length<1000000000000)
  (hk1:∀v,slook k l=some (p64 v)→K (p64 v) N) (hv:∀v,slook k l=some v→∃n,v=p64 n) (hk2:slook k l=none→K (p64 l.length) (N.set i (.map (ver+1) (smE (l++[(k,p64 l.length)]))))):
  SemC tab 93 [.str k,.ptr j 0 0] N K:=by
 refine SemC_fn T.h93 ?_
 simp only[af93,PP,P1,P2,P3,P4,P5,P6,P7,P8,P9,P10,P11,P12,P13,P14,L1,P15,N1,N2,N3,N4,N5,N6,N7,I1,I2,I3,I4,I5,I6,I7,reduceIte,reduceCtorEq,PS_makeMap,PS_lookup,q35,PS_lenMap,ZMp_map,ZLook_maps,ZMapU_maps,ZLenM_map,plook_st,plook_sf,plook_nt,plook_nf,smE_find,smE_len,q56,q57,q27,q58,ZStr_str,ZSlA_ptr,ZB2S_nils,ZB2S_sl,ZB2S_ref,pfrz_str,under_str,one_str,pcells_str,one_map,pcells_map,q34,q54,hi,hj]
 cases hs:slook k l with
 | some v=>
  obtain⟨n,rfl⟩:=hv v hs
  simp only[PP,P1,P2,P3,P4,P5,P6,P7,P8,P9,P10,P11,P12,P13,P14,L1,P15,N1,N2,N3,N4,N5,N6,N7,I1,I2,I3,I4,I5,I6,I7,reduceIte,reduceCtorEq,PS_makeMap,PS_lookup,q35,PS_lenMap,ZMp_map,ZLook_maps,ZMapU_maps,ZLenM_map,plook_st,plook_sf,plook_nt,plook_nf,smE_find,smE_len,q56,q57,q27,q58,ZStr_str,ZSlA_ptr,ZB2S_nils,ZB2S_sl,ZB2S_ref,pfrz_str,under_str,one_str,pcells_str,one_map,pcells_map,q34,q54]
  exact hk1 n hs
 | none=>
  have hp:=smE_put k (p64 l.length) l hs
  simp only[PP,P1,P2,P3,P4,P5,P6,P7,P8,P9,P10,P11,P12,P13,P14,L1,P15,N1,N2,N3,N4,N5,N6,N7,I1,I2,I3,I4,I5,I6,I7,reduceIte,reduceCtorEq,PS_makeMap,PS_lookup,q35,PS_lenMap,ZMp_map,ZLook_maps,ZMapU_maps,ZLenM_map,plook_st,plook_sf,plook_nt,plook_nf,smE_find,smE_len,q56,q57,q27,q58,ZStr_str,ZSlA_ptr,ZB2S_nils,ZB2S_sl,ZB2S_ref,pfrz_str,under_str,one_str,pcells_str,one_map,pcells_map,q34,q54,hi,hj,hs,hp]
  exact hk2 hs
variable {α:Type} [DecidableEq α]
theorem visitN_p {κ:α→ByteArray} {Dm:α→Prop} (hinj:∀a b,Dm a→Dm b→κ a=κ b→a=b) {o:List α} {b:α} (hb:Dm b) (ho:∀a∈o,Dm a) (hl:o.length<1000000000000)
  {N:Mem} {K:PV→Mem→Prop} {i j ver vb:Nat} (hi:N[i]? =some (.map ver (smE (numE κ 0 o)))) (hj:N[j]? =some (.cells 0 vb [.map i]))
  (hk:∀ver',K (p64 ((addN o b).idxOf b:Nat)) (N.set i (.map ver' (smE (numE κ 0 (addN o b)))))):
  SemC tab 93 [.str (κ b),.ptr j 0 0] N K:=by
 have hlk:=numE_look hinj hb o 0 ho
 refine visit_p T hi hj (by rw[numE_len];exact hl) (fun v hv=>?_) (fun v hv=>?_) (fun hv=>?_)
 ·rw[hlk]at hv
  by_cases hm:b∈o
  ·rw[if_pos hm]at hv
   simp only[Option.some.injEq,PV.int.injEq,true_and,Nat.zero_add]at hv
   subst hv
   have h:=hk ver
   have e:addN o b=o:=by unfold addN;rw[if_pos hm]
   rw[e]at h
   have hs:N.set i (.map ver (smE (numE κ 0 o)))=N:=by
    refine List.ext_getElem? fun x=>?_
    by_cases hx:i=x
    ·subst hx
     rw[List.getElem?_set_self (q26 hi),hi]
    ·rw[List.getElem?_set_ne hx]
   rw[hs]at h
   exact h
  ·rw[if_neg hm]at hv;cases hv
 ·rw[hlk]at hv
  by_cases hm:b∈o
  ·rw[if_pos hm]at hv;cases hv;exact⟨_,rfl⟩
  ·rw[if_neg hm]at hv;cases hv
 ·rw[hlk]at hv
  by_cases hm:b∈o
  ·rw[if_pos hm]at hv;cases hv
  ·have e:addN o b=o++[b]:=by unfold addN;rw[if_neg hm]
   have h:=hk (ver+1)
   have e2:=numE_snoc κ b o 0
   rw[Nat.zero_add]at e2
   rw[e,←e2]at h
   have e3:(o++[b]).idxOf b=o.length:=by rw[List.idxOf_append,if_neg hm];simp
   rw[e3]at h
   rw[numE_len]
   exact h
end
section
variable {α:Type} [DecidableEq α]
theorem bfsK_succ {δ:α→Nat→α} {n:Nat} {a0 a:α} {k:Nat} (h:(bfsK δ n a0 k)[k]? =some a):bfsK δ n a0 (k+1)=visN δ a n (bfsK δ n a0 k):=by
 show(match (bfsK δ n a0 k)[k]? with | some a=>_ | none=>_)=_
 rw[h]
theorem bfsK_stay {δ:α→Nat→α} {n:Nat} {a0:α} {k:Nat} (h:(bfsK δ n a0 k).length≤k):bfsK δ n a0 (k+1)=bfsK δ n a0 k:=by
 show(match (bfsK δ n a0 k)[k]? with | some a=>_ | none=>_)=_
 rw[List.getElem?_eq_none h]
theorem bfsK_pre (δ:α→Nat→α) (n:Nat) (a0:α) (k:Nat):∃r,bfsK δ n a0 (k+1)=bfsK δ n a0 k++r:=by
 rcases Nat.lt_or_ge k (bfsK δ n a0 k).length with h | h
 ·obtain⟨r,e⟩:=visN_pre δ ((bfsK δ n a0 k)[k]) n (bfsK δ n a0 k)
  exact⟨r,by rw[bfsK_succ (List.getElem?_eq_getElem h),e]⟩
 ·exact⟨[],by rw[bfsK_stay h];simp⟩
theorem bfsK_pre2 (δ:α→Nat→α) (n:Nat) (a0:α) (k:Nat):∀d,∃r,bfsK δ n a0 (k+d)=bfsK δ n a0 k++r
 | 0=>⟨[],by simp⟩
 | d+1=>by
  obtain⟨r,h⟩:=bfsK_pre2 δ n a0 k d
  obtain⟨r2,h2⟩:=bfsK_pre δ n a0 (k+d)
  exact⟨r++r2,by rw[←Nat.add_assoc,h2,h,List.append_assoc]⟩
theorem bfsK_stays {δ:α→Nat→α} {n:Nat} {a0:α} {k:Nat} (h:(bfsK δ n a0 k).length≤k):∀d,bfsK δ n a0 (k+d)=bfsK δ n a0 k
 | 0=>rfl
 | d+1=>by
  have ih:=bfsK_stays h d
  rw[←Nat.add_assoc,bfsK_stay (by rw[ih];omega),ih]
theorem bfsK_zero (δ:α→Nat→α) (n:Nat) (a0:α) (k:Nat):(bfsK δ n a0 k)[0]? =some a0:=by
 obtain⟨r,h⟩:=bfsK_pre2 δ n a0 0 k
 rw[Nat.zero_add]at h
 rw[h];simp[bfsK]
theorem bfsK_next {δ:α→Nat→α} {n:Nat} {a0:α} :∀{k i:Nat} {a:α},i<k→(bfsK δ n a0 k)[i]? =some a→∀x,x<n→δ a x∈bfsK δ n a0 k
 | 0,i,a,h,_,_,_=>by omega
 | k+1,i,a,h,g,x,hx=>by
  rcases Nat.lt_or_ge k (bfsK δ n a0 k).length with hk | hk
  ·have gk:=List.getElem?_eq_getElem hk
   have e:=bfsK_succ gk
   obtain⟨r,e2⟩:=visN_pre δ ((bfsK δ n a0 k)[k]) n (bfsK δ n a0 k)
   by_cases hi:i=k
   ·subst hi
    rw[e,e2,List.getElem?_append_left hk,gk]at g
    cases g
    rw[e,mem_visN]
    exact .inr ⟨x,hx,rfl⟩
   ·rw[e,e2,List.getElem?_append_left (by omega)]at g
    have:=bfsK_next (k:=k) (by omega) g x hx
    rw[e,e2]
    exact List.mem_append_left _ this
  ·rw[bfsK_stay hk]at g ⊢
   refine bfsK_next (k:=k) ?_ g x hx
   rcases Nat.lt_or_ge i (bfsK δ n a0 k).length with q | q
   ·omega
   ·rw[List.getElem?_eq_none q]at g;cases g
theorem addN_nodup {o:List α} {b:α} (h:o.Nodup):(addN o b).Nodup:=by
 unfold addN
 split
 ·exact h
 ·rename_i q
  rw[List.nodup_append]
  refine⟨h,by simp,fun x hx y hy e=>?_⟩
  simp at hy;subst hy;subst e;exact q hx
theorem visN_nodup {δ:α→Nat→α} {a:α} :∀(x:Nat) {o:List α},o.Nodup→(visN δ a x o).Nodup
 | 0,o,h=>h
 | x+1,o,h=>addN_nodup (visN_nodup x h)
theorem bfsK_nodup (δ:α→Nat→α) (n:Nat) (a0:α):∀k,(bfsK δ n a0 k).Nodup
 | 0=>by simp[bfsK]
 | k+1=>by
  rcases Nat.lt_or_ge k (bfsK δ n a0 k).length with hk | hk
  ·rw[bfsK_succ (List.getElem?_eq_getElem hk)]
   exact visN_nodup n (bfsK_nodup δ n a0 k)
  ·rw[bfsK_stay hk];exact bfsK_nodup δ n a0 k
theorem visN_all {δ:α→Nat→α} {Dm:α→Prop} {a:α} {n:Nat} (ha:∀x,x<n→Dm (δ a x)) {o:List α} (ho:∀c∈o,Dm c) {j:Nat} (hj:j≤n):∀c∈visN δ a j o,Dm c:=by
 intro c hc
 rcases(mem_visN δ a c j o).1 hc with h | ⟨y,h1,rfl⟩
 ·exact ho c h
 ·exact ha y (by omega)
theorem bfsK_all {δ:α→Nat→α} {n:Nat} {a0:α} {Dm:α→Prop} (h0:Dm a0) (hs:∀a x,Dm a→x<n→Dm (δ a x)):∀k,∀c∈bfsK δ n a0 k,Dm c
 | 0=>by simp[bfsK,h0]
 | k+1=>by
  have ih:=bfsK_all h0 hs k
  rcases Nat.lt_or_ge k (bfsK δ n a0 k).length with hk | hk
  ·rw[bfsK_succ (List.getElem?_eq_getElem hk)]
   exact visN_all (fun x hx=>hs _ x (ih _ (List.getElem_mem hk)) hx) ih (Nat.le_refl n)
  ·rw[bfsK_stay hk];exact ih
def rowsK (δ:α→Nat→α) (n:Nat) (a0:α) (k:Nat):List (List Int):=((bfsK δ n a0 k).take k).map (rowN δ n (bfsK δ n a0 k))
theorem rowsK_len {δ:α→Nat→α} {n:Nat} {a0:α} {k:Nat} (h:k≤(bfsK δ n a0 k).length):(rowsK δ n a0 k).length=k:=by
 unfold rowsK;rw[List.length_map,List.length_take];omega
theorem rowsK_succ {δ:α→Nat→α} {n:Nat} {a0 a:α} {k:Nat} (h:(bfsK δ n a0 k)[k]? =some a):rowsK δ n a0 (k+1)=rowsK δ n a0 k++[rowN δ n (visN δ a n (bfsK δ n a0 k)) a]:=by
 have hk:=q26 h
 obtain⟨r,e2⟩:=visN_pre δ a n (bfsK δ n a0 k)
 unfold rowsK
 rw[bfsK_succ h]
 have e3:(visN δ a n (bfsK δ n a0 k)).take (k+1)=(bfsK δ n a0 k).take k++[a]:=by
  rw[e2,List.take_append_of_le_length (by omega),List.take_add_one,h];rfl
 rw[e3,List.map_append]
 congr 1
 refine List.map_congr_left fun b hb=>?_
 rw[e2]
 refine rowN_pre fun x hx=>?_
 obtain⟨i,hi,hb⟩:=List.mem_iff_getElem.1 hb
 rw[List.length_take]at hi
 rw[List.getElem_take]at hb
 exact bfsK_next (k:=k) (i:=i) (by omega) (by rw[List.getElem?_eq_getElem (by omega),hb]) x hx
def FullN (δ:α→Nat→α) (n:Nat) (a0:α) (o:List α):Prop:=∃k,bfsK δ n a0 k=o∧o.length≤k
def OverN (δ:α→Nat→α) (n:Nat) (a0:α) (bd:Int):Prop:=∃k,bd<((bfsK δ n a0 k).length:Int)
theorem FullN.eq {δ:α→Nat→α} {n:Nat} {a0:α} {o o':List α} (h:FullN δ n a0 o) (h':FullN δ n a0 o'):o=o':=by
 obtain⟨k,rfl,h2⟩:=h
 obtain⟨k',rfl,h4⟩:=h'
 have e1:=bfsK_stays h2 k'
 have e2:=bfsK_stays h4 k
 rw[Nat.add_comm]at e2
 rw[←e1,e2]
theorem FullN.at {δ:α→Nat→α} {n:Nat} {a0:α} {o:List α} (h:FullN δ n a0 o) (k:Nat):∃r,o=bfsK δ n a0 k++r:=by
 obtain⟨l,rfl,h2⟩:=h
 have e1:=bfsK_stays h2 k
 obtain⟨r,e2⟩:=bfsK_pre2 δ n a0 k l
 exact⟨r,by rw[←e1,Nat.add_comm,e2]⟩
theorem FullN.over {δ:α→Nat→α} {n:Nat} {a0:α} {o:List α} {bd:Int} (h:FullN δ n a0 o) (h':OverN δ n a0 bd):bd<o.length:=by
 obtain⟨k,h1⟩:=h'
 obtain⟨r,e⟩:=h.at k
 rw[e];simp;omega
theorem FullN.zero {δ:α→Nat→α} {n:Nat} {a0:α} {o:List α} (h:FullN δ n a0 o):o[0]? =some a0:=by
 obtain⟨k,rfl,_⟩:=h;exact bfsK_zero δ n a0 k
theorem FullN.next {δ:α→Nat→α} {n:Nat} {a0 a:α} {o:List α} (h:FullN δ n a0 o) (ha:a∈o) {x:Nat} (hx:x<n):δ a x∈o:=by
 obtain⟨k,rfl,h2⟩:=h
 obtain⟨i,hi,e⟩:=List.mem_iff_getElem.1 ha
 exact bfsK_next (k:=k) (i:=i) (by omega) (by rw[List.getElem?_eq_getElem hi,e]) x hx
theorem FullN.all {δ:α→Nat→α} {n:Nat} {a0:α} {o:List α} {Dm:α→Prop} (h:FullN δ n a0 o) (h0:Dm a0) (hs:∀a x,Dm a→x<n→Dm (δ a x)):∀c∈o,Dm c:=by
 obtain⟨k,rfl,_⟩:=h;exact bfsK_all h0 hs k
def rowsN (δ:α→Nat→α) (n:Nat) (o:List α):List (List Int):=o.map (rowN δ n o)
theorem rowsK_full {δ:α→Nat→α} {n:Nat} {a0:α} {k:Nat} (h:(bfsK δ n a0 k).length≤k):rowsK δ n a0 k=rowsN δ n (bfsK δ n a0 k):=by
 unfold rowsK rowsN;rw[List.take_of_length_le h]
theorem over_vis {δ:α→Nat→α} {n:Nat} {a0 a:α} {k j:Nat} {bd:Int} (h:(bfsK δ n a0 k)[k]? =some a) (hj:j≤n) (ho:bd<((visN δ a j (bfsK δ n a0 k)).length:Int)):OverN δ n a0 bd:=by
 obtain⟨r,e⟩:=visN_pre2 δ a j (bfsK δ n a0 k) n hj
 exact⟨k+1,by rw[bfsK_succ h,e];simp;omega⟩
end
theorem gkN {N:Mem} {m i:Nat} {l:Mem} (h:N.length=m):(N++l)[m+i]? =l[i]? :=by subst h;exact gk ..
theorem gkN0 {N:Mem} {m:Nat} {l:Mem} (h:N.length=m):(N++l)[m]? =l[0]? :=by subst h;exact gk0 ..
theorem skN {N:Mem} {m i:Nat} {l:Mem} {x:PObj} (h:N.length=m):(N++l).set (m+i) x=N++l.set i x:=by subst h;exact sk ..
theorem skN0 {N:Mem} {m:Nat} {l:Mem} {x:PObj} (h:N.length=m):(N++l).set m x=N++l.set 0 x:=by subst h;exact sk0 ..
theorem pfrz_tupR {m:Nat} {M:Mem} {id g sz off k ver:Nat} {cs:List PV} {b:Bool} (hi:m≤id) (hM:M[id]? =some (.cells g ver cs)) (h1:off+k*sz≤cs.length) (h2:q12 m cs=true):pfrz m M (.tuple [.ref id g sz off k,.bool b])=some (.tuple [.sl false true sz k (psub cs off (k*sz)),.bool b]):=by
 have e:=pfrz1_ref' hi hM h1 h2
 simp[pfrz,pfrzL2,pfrz2,e,pfrz1_bool']
theorem pfrzM_take {N l M2:Mem} {m:Nat} (hN:N.length=m) (h:N.all (cutOk m)=true):pfrzM m M2 ((N++l).take m)=some N:=by
 subst hN;rw[List.take_left];exact pfrzM_all h
theorem takeN {N:Mem} {m i:Nat} {l:Mem} (h:N.length=m):(N++l).take (m+i)=N++l.take i:=by
 subst h;rw[List.take_append,List.take_of_length_le (by omega)];congr 2;omega
theorem numE_cut {α:Type} (κ:α→ByteArray) (n ver k:Nat) (o:List α):cutOk n (.map ver (smE (numE κ k o)))=true:=smE_cut (fun p hp=>by
 obtain⟨j,h⟩:∃j:Nat,p.2=p64 j:=by
  induction o generalizing k with
  | nil=>simp[numE]at hp
  | cons a o ih=>
   unfold numE at hp
   rcases List.mem_cons.1 hp with rfl | hp
   ·exact⟨k,rfl⟩
   ·exact ih (k+1) hp
 rw[h];simp[PV.under]) ver
theorem underL_psub {n:Nat} {l:List PV} (h:q12 n l=true) (i k:Nat):q12 n (psub l i k)=true:=by
 unfold psub;exact underL_take (underL_drop h i) k
theorem row_set {α:Type} [DecidableEq α] {δ:α→Nat→α} {a:α} {o:List α} {n j:Nat} (hj:j<n) (ho:∀x,x<j→δ a x∈o):
  ((rowN δ j o a++List.replicate (n-j) 0).map p64).set j (p64 (((addN o (δ a j)).idxOf (δ a j):Nat):Int))=(rowN δ (j+1) (addN o (δ a j)) a++List.replicate (n-(j+1)) 0).map p64:=by
 obtain⟨r,e⟩:=addN_pre o (δ a j)
 have h1:rowN δ (j+1) (addN o (δ a j)) a=rowN δ j o a++[(((addN o (δ a j)).idxOf (δ a j):Nat):Int)]:=by
  have:=rowN_pre (δ:=δ) (n:=j) (o:=o) (r:=r) (a:=a) ho
  rw[←this,←e]
  unfold rowN
  rw[List.range_succ,List.map_append];rfl
 have h2:(rowN δ j o a).length=j:=by simp[rowN]
 obtain⟨m,hm⟩:∃m,n-j=m+1:=⟨n-j-1,by omega⟩
 rw[h1,hm,show n-(j+1)=m by omega,←List.map_set]
 congr 1
 rw[List.set_append_right _ _ (by omega),h2,Nat.sub_self,List.replicate_succ,List.set_cons_zero,List.append_assoc];rfl
section
variable {α:Type} [DecidableEq α]
variable {tab:FuncId→Option AF} (T:HasA tab)
include T
theorem explore_p {M:Mem} {K:PV→Mem→Prop} {g:FuncId} {caps:List PV} {J:List α→Mem→Prop} {δ:α→Nat→α} {κ:α→ByteArray} {Dm:α→Prop} {n:Nat} {bd:Int} {a0:α}
  (hL:∀o N,J o N→N.length=M.length) (hC:∀o N,J o N→N.all (cutOk M.length)=true) (hinj:∀a b,Dm a→Dm b→κ a=κ b→a=b) (hδ:∀a x,Dm a→x<n→Dm (δ a x)) (h0:Dm a0) (hn:n≤64) (hb0:1≤bd) (hb1:bd≤4096)
  (hcap:q12 M.length caps=true) (hJ0:J [a0] M)
  (hnext:∀(o:List α) (N l:Mem) (s x:Nat) (a:α) (K:PV→Mem→Prop),J o N→(∀c∈o,Dm c)→o[s]? =some a→x<n→(o.length:Int)≤bd→(∀N',J (addN o (δ a x)) N'→K (.str (κ (δ a x))) (N'++l))→SemC tab g (p64 s::p8 x::caps) (N++l) K)
  (hk1:∀o N,FullN δ n a0 o→(o.length:Int)≤bd→J o N→K (.tuple [slR false true false true .i64 (rowsN δ n o),.bool true]) N)
  (hk2:∀r o N,OverN δ n a0 bd→J o N→K (.tuple [r,.bool false]) N):
  SemC tab 68 [p64 n,p64 bd,.str (κ a0),.func (.func g) [] caps] M K:=by
 refine SemC_res (SemC_sem T.h68 ?_)
 simp only[af68]
 refine q67 (q53 ?_)
 simp only[PP,P1,P2,P3,P4,P5,P6,P7,P8,P9,P10,P11,P12,P13,P14,L1,P15,N1,N2,N3,N4,N5,N6,N7,I1,I2,I3,I4,I5,I6,I7,reduceIte,reduceCtorEq]
 refine q67 (q53 ?_)
 simp only[PP,P1,P2,P3,P4,P5,P6,P7,P8,P9,P10,P11,P12,P13,P14,L1,P15,N1,N2,N3,N4,N5,N6,N7,I1,I2,I3,I4,I5,I6,I7,reduceIte,reduceCtorEq,PS_makeMap,PS_lookup,q35,PS_lenMap,ZMp_map,ZLook_maps,ZMapU_maps,ZLenM_map,plook_st,plook_sf,plook_nt,plook_nf,smE_find,smE_len,q56,q57,q27,q58,ZStr_str,ZSlA_ptr,ZB2S_nils,ZB2S_sl,ZB2S_ref,pfrz_str,under_str,one_str,pcells_str,one_map,pcells_map,q34,q54,List.append_assoc,gk0,gk,sk0,sk,List.length_append]
 refine q67 (q53 ?_)
 simp only[PP,P1,P2,P3,P4,P5,P6,P7,P8,P9,P10,P11,P12,P13,P14,L1,P15,N1,N2,N3,N4,N5,N6,N7,I1,I2,I3,I4,I5,I6,I7,reduceIte,reduceCtorEq,PS_makeMap,PS_lookup,q35,PS_lenMap,ZMp_map,ZLook_maps,ZMapU_maps,ZLenM_map,plook_st,plook_sf,plook_nt,plook_nf,smE_find,smE_len,q56,q57,q27,q58,ZStr_str,ZSlA_ptr,ZB2S_nils,ZB2S_sl,ZB2S_ref,pfrz_str,under_str,one_str,pcells_str,one_map,pcells_map,q34,q54,List.append_assoc,gk0,gk,sk0,sk,List.length_append]
 refine SemW_re (GStep.nil 8 1 rfl rfl rfl) ?_
 refine q53 ?_
 simp only[PP,P1,P2,P3,P4,P5,P6,P7,P8,P9,P10,P11,P12,P13,P14,L1,P15,N1,N2,N3,N4,N5,N6,N7,I1,I2,I3,I4,I5,I6,I7,reduceIte,reduceCtorEq,List.append_assoc,List.length_append]
 refine loop5 (fun(k:Nat) (N:Mem) (vm gr vr:Nat)=>k≤(bfsK δ n a0 k).length∧((bfsK δ n a0 k).length:Int)≤bd∧J (bfsK δ n a0 k) N)
  (fun k N vm gr vr=>[p64 n,p64 bd,Zj,.func (.func g) [] caps,Zj,Zj,Zj,Zj,.ref (M.length+2) gr 1 0 k,Zj,.ptr (M.length+1) 0 0,.func (.func 93) [] [.ptr (M.length+1) 0 0],p64 k,Zj,Zj,Zj,Zj,Zj,Zj,Zj,Zj,Zj,Zj,Zj,Zj,Zj,Zj,Zj,Zj,Zj,Zj,Zj,Zj,Zj,Zj,Zj,Zj,Zj,Zj,Zj,Zj,Zj,Zj,Zj,Zj,Zj,Zj,Zj,Zj,Zj,Zj,Zj,Zj,Zj,Zj,Zj])
  (fun k N vm gr vr=>N++[.map vm (smE (numE κ 0 (bfsK δ n a0 k))),.cells 0 1 [.map M.length],.cells gr vr ((rowsK δ n a0 k).map (slI false true .i64))])
  (fun k N vm gr vr=>bd.toNat+1-k) 0 M 1 0 0 ⟨by omega,by simpa [bfsK] using hb0,hJ0⟩ (by simp only[PW]) ?_ ?_
 ·simp[bfsK,rowsK,numE,smE]
 intro k N vm gr vr ⟨hle,hbk,hJ⟩ ih
 have hN:=hL _ _ hJ
 have hrl:=rowsK_len hle
 refine SemW_go (by kernel_rfl) ?_
 simp only[PP,P1,P2,P3,P4,P5,P6,P7,P8,P9,P10,P11,P12,P13,P14,L1,P15,N1,N2,N3,N4,N5,N6,N7,I1,I2,I3,I4,I5,I6,I7,reduceIte,reduceCtorEq,PS_makeMap,PS_lookup,q35,PS_lenMap,ZMp_map,ZLook_maps,ZMapU_maps,ZLenM_map,plook_st,plook_sf,plook_nt,plook_nf,smE_find,smE_len,q56,q57,q27,q58,ZStr_str,ZSlA_ptr,ZB2S_nils,ZB2S_sl,ZB2S_ref,pfrz_str,under_str,one_str,pcells_str,one_map,pcells_map,q34,q54,gkN hN,gkN0 hN,smE_len,numE_len]
 refine QIf.intro (fun c=>?_) (fun c=>?_)
 rotate_left
 ·have hfull:(bfsK δ n a0 k).length≤k:=by omega
  have hrows:=rowsK_full hfull
  simp only[PP,P1,P2,P3,P4,P5,P6,P7,P8,P9,P10,P11,P12,P13,P14,L1,P15,N1,N2,N3,N4,N5,N6,N7,I1,I2,I3,I4,I5,I6,I7,reduceIte,reduceCtorEq,c,PS_makeMap,PS_lookup,q35,PS_lenMap,ZMp_map,ZLook_maps,ZMapU_maps,ZLenM_map,plook_st,plook_sf,plook_nt,plook_nf,smE_find,smE_len,q56,q57,q27,q58,ZStr_str,ZSlA_ptr,ZB2S_nils,ZB2S_sl,ZB2S_ref,pfrz_str,under_str,one_str,pcells_str,one_map,pcells_map,q34,q54,gkN hN,gkN0 hN,smE_len,numE_len]
  have hkl:k=(rowsN δ n (bfsK δ n a0 k)).length:=by rw[←hrows,hrl]
  refine⟨_,_,pfrz_tupR (by omega) (gkN hN) (by simp[hrl]) (underL_slRs _ _ _ _ _),pfrzM_take hN (hC _ _ hJ),?_⟩
  rw[decide_eq_true hbk,hrows,psub_all _ _ (by simp;omega)]
  have:=hk1 _ N ⟨k,rfl,hfull⟩ hbk hJ
  rw[show slR false true false true .i64 (rowsN δ n (bfsK δ n a0 k))= .sl false true 1 k ((rowsN δ n (bfsK δ n a0 k)).map (slI false true .i64)) by rw[slR,←hkl]]at this
  exact this
 have hk':k<(bfsK δ n a0 k).length:=by omega
 obtain⟨a,ga⟩:=some_of hk'
 have b0:(0:Int)≤(n:Int):=by omega
 have b1:(n:Int)*8≤140737488355328:=by omega
 have b2:(n:Int)≤9223372036854775807:=by omega
 have da:Dm a:=bfsK_all h0 hδ k a (List.mem_of_getElem? ga)
 have ha:∀x,x<n→Dm (δ a x):=fun x hx=>hδ a x da hx
 have dall:=bfsK_all h0 hδ k
 simp only[PP,P1,P2,P3,P4,P5,P6,P7,P8,P9,P10,P11,P12,P13,P14,L1,P15,N1,N2,N3,N4,N5,N6,N7,I1,I2,I3,I4,I5,I6,I7,reduceIte,reduceCtorEq,c,b0,b1,b2,hN,List.append_assoc,gkN hN,gkN0 hN]
 refine⟨Int.le_refl _,SemW_gh ?_⟩
 refine loop4 (fun(j:Nat) (N':Mem) (vm' vw:Nat)=>j≤n∧((visN δ a j (bfsK δ n a0 k)).length:Int)≤bd∧J (visN δ a j (bfsK δ n a0 k)) N')
  (fun j N' vm' vw=>[p64 n,p64 bd,Zj,.func (.func g) [] caps,Zj,Zj,Zj,Zj,.ref (M.length+2) gr 1 0 k,Zj,.ptr (M.length+1) 0 0,.func (.func 93) [] [.ptr (M.length+1) 0 0],p64 k,.ref (M.length+3) 0 1 0 n,Zj,Zj,Zj,Zj,Zj,Zj,Zj,Zj,Zj,Zj,Zj,Zj,Zj,Zj,p64 n,p64 j,Zj,Zj,Zj,Zj,Zj,Zj,Zj,Zj,Zj,Zj,Zj,Zj,Zj,Zj,Zj,Zj,Zj,Zj,Zj,Zj,Zj,Zj,Zj,Zj,Zj,Zj])
  (fun j N' vm' vw=>N'++[.map vm' (smE (numE κ 0 (visN δ a j (bfsK δ n a0 k)))),.cells 0 1 [.map M.length],.cells gr vr ((rowsK δ n a0 k).map (slI false true .i64)),.cells 0 vw ((rowN δ j (visN δ a j (bfsK δ n a0 k)) a).map p64++(List.replicate (n-j) 0).map p64)])
  (fun j N' vm' vw=>n-j) 0 N vm 0 ⟨by omega,hbk,hJ⟩ (by simp only[PW]) ?_ ?_
 ·simp[visN,rowN,List.map_replicate]
 intro j N' vm' vw ⟨jle,jb,hJ'⟩ ih2
 have hN':=hL _ _ hJ'
 refine SemW_go (by kernel_rfl) ?_
 simp only[PP,P1,P2,P3,P4,P5,P6,P7,P8,P9,P10,P11,P12,P13,P14,L1,P15,N1,N2,N3,N4,N5,N6,N7,I1,I2,I3,I4,I5,I6,I7,reduceIte,reduceCtorEq]
 refine QIf.intro (fun d=>?_) (fun d=>?_)
 ·have hj':j<n:=by omega
  have j0:(0:Int)≤(j:Int):=by omega
  have wj:IntKind.u8.wrap (j:Int)=(j:Int):=wrap8 (by omega)
  have ga':(visN δ a j (bfsK δ n a0 k))[k]? =some a:=by
   obtain⟨r,e⟩:=visN_pre δ a j (bfsK δ n a0 k)
   rw[e,List.getElem?_append_left hk',ga]
  simp only[PP,P1,P2,P3,P4,P5,P6,P7,P8,P9,P10,P11,P12,P13,P14,L1,P15,N1,N2,N3,N4,N5,N6,N7,I1,I2,I3,I4,I5,I6,I7,reduceIte,reduceCtorEq,d,wj]
  refine hnext _ _ _ _ j a _ hJ' (visN_all ha dall jle) ga' hj' jb fun Nb hJ2=>?_
  have hNb:=hL _ _ hJ2
  simp only[PP,P1,P2,P3,P4,P5,P6,P7,P8,P9,P10,P11,P12,P13,P14,L1,P15,N1,N2,N3,N4,N5,N6,N7,I1,I2,I3,I4,I5,I6,I7,reduceIte,reduceCtorEq]
  refine visitN_p T hinj (ha j hj') (visN_all ha dall jle) (by omega) (by rw[gkN0 hNb];rfl) (by rw[gkN hNb];rfl) fun ver'=>?_
  have jn:(j:Int)<(n:Int):=by omega
  have hrl':(rowN δ j (visN δ a j (bfsK δ n a0 k)) a).length=j:=by simp[rowN]
  have hlt:j+1≤(rowN δ j (visN δ a j (bfsK δ n a0 k)) a).length+(n-j):=by omega
  have hst:=row_set (o:=visN δ a j (bfsK δ n a0 k)) (δ:=δ) (a:=a) hj' fun x hx=>(mem_visN δ a _ j _).2 (.inr ⟨x,hx,rfl⟩)
  rw[List.map_append,List.map_append]at hst
  simp only[PP,P1,P2,P3,P4,P5,P6,P7,P8,P9,P10,P11,P12,P13,P14,L1,P15,N1,N2,N3,N4,N5,N6,N7,I1,I2,I3,I4,I5,I6,I7,reduceIte,reduceCtorEq,skN0 hNb,gkN0 hNb,gkN hNb,skN hNb,j0,jn,hlt,hst,PS_makeMap,PS_lookup,q35,PS_lenMap,ZMp_map,ZLook_maps,ZMapU_maps,ZLenM_map,plook_st,plook_sf,plook_nt,plook_nf,smE_find,smE_len,q56,q57,q27,q58,ZStr_str,ZSlA_ptr,ZB2S_nils,ZB2S_sl,ZB2S_ref,pfrz_str,under_str,one_str,pcells_str,one_map,pcells_map,q34,q54,smE_len,numE_len]
  have wj1:=q32 (k:=j) (by show _<1000000000000;omega)
  refine QIf.intro (fun e=>?_) (fun e=>?_)
  ·simp only[PP,P1,P2,P3,P4,P5,P6,P7,P8,P9,P10,P11,P12,P13,P14,L1,P15,N1,N2,N3,N4,N5,N6,N7,I1,I2,I3,I4,I5,I6,I7,reduceIte,reduceCtorEq,e,PS_makeMap,PS_lookup,q35,PS_lenMap,ZMp_map,ZLook_maps,ZMapU_maps,ZLenM_map,plook_st,plook_sf,plook_nt,plook_nf,smE_find,smE_len,q56,q57,q27,q58,ZStr_str,ZSlA_ptr,ZB2S_nils,ZB2S_sl,ZB2S_ref,pfrz_str,under_str,one_str,pcells_str,one_map,pcells_map,q34,q54,skN0 hNb,gkN0 hNb,gkN hNb,skN hNb,smE_len,numE_len]
   refine Gh.same ?_
   simp only[PP,P1,P2,P3,P4,P5,P6,P7,P8,P9,P10,P11,P12,P13,P14,L1,P15,N1,N2,N3,N4,N5,N6,N7,I1,I2,I3,I4,I5,I6,I7,reduceIte,reduceCtorEq,e,PS_makeMap,PS_lookup,q35,PS_lenMap,ZMp_map,ZLook_maps,ZMapU_maps,ZLenM_map,plook_st,plook_sf,plook_nt,plook_nf,smE_find,smE_len,q56,q57,q27,q58,ZStr_str,ZSlA_ptr,ZB2S_nils,ZB2S_sl,ZB2S_ref,pfrz_str,under_str,one_str,pcells_str,one_map,pcells_map,q34,q54,skN0 hNb,gkN0 hNb,gkN hNb,skN hNb,smE_len,numE_len]
   refine⟨_,_,pfrz_tupR (by omega) (gkN hNb) (by simp[hrl]) (underL_slRs _ _ _ _ _),pfrzM_take hNb (hC _ _ hJ2),?_⟩
   have hnot:¬((addN (visN δ a j (bfsK δ n a0 k)) (δ a j)).length:Int)≤bd:=by omega
   rw[decide_eq_false hnot]
   exact hk2 _ _ _ (over_vis (j:=j+1) ga hj' e) hJ2
  ·simp only[PP,P1,P2,P3,P4,P5,P6,P7,P8,P9,P10,P11,P12,P13,P14,L1,P15,N1,N2,N3,N4,N5,N6,N7,I1,I2,I3,I4,I5,I6,I7,reduceIte,reduceCtorEq,e,wj1]
   exact SemW_weak (ih2 (j+1) Nb ver' (vw+1) ⟨by omega,by show((addN _ _).length:Int)≤bd;omega,hJ2⟩ (by omega)) (by simp only[PW])
 ·have hjn:n-j=0:=by omega
  have ej:j=n:=by omega
  simp only[PP,P1,P2,P3,P4,P5,P6,P7,P8,P9,P10,P11,P12,P13,P14,L1,P15,N1,N2,N3,N4,N5,N6,N7,I1,I2,I3,I4,I5,I6,I7,reduceIte,reduceCtorEq,d,hjn]
  rw[ej]at hJ' jb ⊢
  have hrn:(rowN δ n (visN δ a n (bfsK δ n a0 k)) a).length=n:=by simp[rowN]
  have hrn2:n=((rowN δ n (visN δ a n (bfsK δ n a0 k)) a).map p64).length:=by simp[rowN]
  have c1:(k+1)*24≤140737488355328:=by omega
  have c2:k+1≤9223372036854775807:=by omega
  have c3:k≤(rowsK δ n a0 k).length:=by omega
  have wk:=q32 (k:=k) (by show _<1000000000000;omega)
  have hpp:psub ((rowsK δ n a0 k).map (slI false true .i64)) 0 (k*1)=(rowsK δ n a0 k).map (slI false true .i64):=psub_all _ _ (by simp[hrl])
  refine Gh.step (GStep.freeze (b:=[p64 n,p64 bd,Zj,.func (.func g) [] caps,Zj,Zj,Zj,Zj,.ref (M.length+2) gr 1 0 k,Zj,.ptr (M.length+1) 0 0,.func (.func 93) [] [.ptr (M.length+1) 0 0],p64 k,.sl false true 1 n ((rowN δ n (visN δ a n (bfsK δ n a0 k)) a).map p64),Zj,Zj,Zj,Zj,Zj,Zj,Zj,Zj,Zj,Zj,Zj,Zj,Zj,Zj,Zj,Zj,Zj,Zj,Zj,Zj,Zj,Zj,Zj,Zj,Zj,Zj,Zj,Zj,Zj,Zj,Zj,Zj,Zj,Zj,Zj,Zj,Zj,Zj,Zj,Zj,Zj,Zj]) (M.length+3) (by omega) (gkN hN') (by simp only[PFrz_nil,PFrz_junk,PFrz_same,PFrz_ref,Nat.mul_one,Nat.zero_add,List.length_map,hrn,Nat.le_refl,psub_all _ _ hrn2,List.append_nil,List.replicate_zero,List.map_nil]) (skN hN')) (Gh.same ?_)
  simp only[PP,P1,P2,P3,P4,P5,P6,P7,P8,P9,P10,P11,P12,P13,P14,L1,P15,N1,N2,N3,N4,N5,N6,N7,I1,I2,I3,I4,I5,I6,I7,reduceIte,reduceCtorEq,gkN hN',c1,c2,c3,skN hN',hpp,wk]
  refine SemW_re (GStep.dropM (b:=[p64 n,p64 bd,Zj,.func (.func g) [] caps,Zj,Zj,Zj,Zj,.ref (M.length+2) (gr+1) 1 0 (k+1),Zj,.ptr (M.length+1) 0 0,.func (.func 93) [] [.ptr (M.length+1) 0 0],p64 ((k+1:Nat):Int),Zj,Zj,Zj,Zj,Zj,Zj,Zj,Zj,Zj,Zj,Zj,Zj,Zj,Zj,Zj,Zj,Zj,Zj,Zj,Zj,Zj,Zj,Zj,Zj,Zj,Zj,Zj,Zj,Zj,Zj,Zj,Zj,Zj,Zj,Zj,Zj,Zj,Zj,Zj,Zj,Zj,Zj,Zj])
   (N:=N'++[.map vm' (smE (numE κ 0 (bfsK δ n a0 (k+1)))),.cells 0 1 [.map M.length],.cells (gr+1) 0 ((rowsK δ n a0 (k+1)).map (slI false true .i64))]) (M.length+3) (by omega) (by simp[hN']) (by simp only[PW]) ?_ ?_ ?_) ?_
  ·simp[PV.under,q12,underL_mono (n:=M.length+3) (by omega) _ hcap]
  ·rw[takeN hN',List.all_append,cutOks_mono (by omega) (hC _ _ hJ'),Bool.true_and]
   simp only[List.take_succ_cons,List.take_zero,List.all_cons,List.all_nil,Bool.and_true,Bool.and_eq_true]
   refine⟨numE_cut _ _ _ _ _,?_,?_⟩
   ·simp[cutOk,PV.under,q12]
   ·simp only[cutOk,underL_append,Bool.and_eq_true]
    exact⟨underL_psub (underL_slRs _ _ _ _ _) _ _,by simp only[q12,PV.under,underL_ints,Bool.and_true]⟩
  ·rw[takeN hN',bfsK_succ ga,rowsK_succ ga,List.map_append,psub_all _ _ (by simp[hrl])]
   simp only[List.take_succ_cons,List.take_zero,List.map_cons,List.map_nil,slI,hrn]
  exact SemW_weak (ih (k+1) N' vm' (gr+1) 0 ⟨by rw[bfsK_succ ga];obtain⟨r,e⟩:=visN_pre δ a n (bfsK δ n a0 k);rw[e];simp;omega,by rw[bfsK_succ ga];exact jb,by rw[bfsK_succ ga];exact hJ'⟩ (by omega)) (by simp only[PW])
end
section
variable {tab:FuncId→Option AF} (T:HasA tab)
include T
end
end Go.Am.Ar

