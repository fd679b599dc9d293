/- Contract: the key of a set, and what goes with it. -/
import Derived.Test.YtapbgleednkimaaGreatDoorBudgetGrowsG1
import Derived.Test.YtapbgleednkimaaGreatDoorPmC
import Derived.Test.YtapbgleednkimaaGreatDoorBudgetGrowsG0
import Derived.Test.YtapbgleednkimaaGreatDoorBuKey
set_option linter.unusedVariables false
set_option linter.unusedSimpArgs false
set_option maxRecDepth 10000
namespace Go.Am.Ar
open Go.Am.PV renaming junk->Zj
open Go.Am renaming lF->P1,tB->P2,PKNo->P3,ppack->P4,PObj.under->P5,pput->P6,ptset->P7,ptget->P8,pev->P9,ofAV->P10,ofAV1->P11,ppad->P12,pfill->P13,eZ->P14,AO.effect->P15
open List renaming replicate->L1
open Nat renaming reduceAdd->N1,reduceSub->N2,reduceMul->N3,reduceLT->N4,reduceLeDiff->N5,reduceEqDiff->N6,reduceBEq->N7
open Int renaming reduceToNat->I1,reduceLT->I2,reduceLE->I3,reduceEq->I4,reduceAdd->I5,reduceSub->I6,reduceNeg->I7
theorem T9 (a:Wd):sR a=[]\/wAt (sR a) ((sR a).length-1)≠0#64:=by
 have hle:=qY a a.length
 have hl:(sR a).length=iE a a.length:=by unfold sR;rw[List.length_take];omega
 rcases sQ a a.length with h | h
 ·left
  exact List.length_eq_zero_iff.1 (by omega)
 ·right
  rw[hl,C5];exact h
section
variable {tab:FuncId->Option AF} (T:HasA tab)
include T
end
section
variable {tab:FuncId->Option AF} (T:HasA tab)
include T
end
section
variable {tab:FuncId->Option AF} (T:HasA tab)
include T
theorem YB {M:Mem} {K:PV->Mem->Prop} {f o:Bool} {xs:List Int} (hm:xs.length<big) (hk:∀g v,K (.ref M.length g 1 0 xs.length) (M++[.cells g v (xs.map p64)])):
  SemC tab 59 [slI f o .i64 xs] M K:=by
 have hb:xs.length<1000000000000:=hm
 have b1:xs.length*8<=140737488355328:=by omega
 have b2:xs.length<=9223372036854775807:=by omega
 refine gK (jN T.h59 ?_)
 simp only[af59]
 refine bL (bD ?_)
 simp only[PP,P1,P2,P14,P15,N1,N2,N3,N4,N5,N6,N7,I1,I2,I3,I4,I5,I6,I7,reduceIte,reduceCtorEq]
 refine bL (bD ?_)
 simp only[PP,P1,P2,P14,P15,N1,N2,N3,N4,N5,N6,N7,I1,I2,I3,I4,I5,I6,I7,reduceIte,reduceCtorEq]
 have hone:(xs.map p64).all PV.one=true:=sG _ _
 refine QIf.intro (fun c=>?_) (fun c=>?_)
 ·constructor
  ·simp only[PP,P1,P2,P14,P15,N1,N2,N3,N4,N5,N6,N7,I1,I2,I3,I4,I5,I6,I7,reduceIte,reduceCtorEq]
   have:xs=[]:=List.length_eq_zero_iff.1 c
   subst this
   exact Gh.step (GStep.nil 0 1 rfl rfl rfl) (Gh.same ⟨_,rfl,hk 0 0⟩)
  ·simp only[PP,P1,P2,P14,P15,N1,N2,N3,N4,N5,N6,N7,I1,I2,I3,I4,I5,I6,I7,reduceIte,reduceCtorEq]
   refine bL (pM ⟨[],rfl,?_⟩)
   simp only[PP,P1,P2,P14,P15,N1,N2,N3,N4,N5,N6,N7,I1,I2,I3,I4,I5,I6,I7,reduceIte,reduceCtorEq,List.append_assoc,gk,gk0,sk,sk0]
   exact⟨⟨b1,b2⟩,bD (by simp only[PP,P1,P2,P14,P15,N1,N2,N3,N4,N5,N6,N7,I1,I2,I3,I4,I5,I6,I7,reduceIte,reduceCtorEq];exact Gh.same ⟨_,rfl,hk 1 0⟩)⟩
 ·simp only[PP,P1,P2,P14,P15,N1,N2,N3,N4,N5,N6,N7,I1,I2,I3,I4,I5,I6,I7,reduceIte,reduceCtorEq]
  refine bL (pM ⟨[],rfl,?_⟩)
  simp only[PP,P1,P2,P14,P15,N1,N2,N3,N4,N5,N6,N7,I1,I2,I3,I4,I5,I6,I7,reduceIte,reduceCtorEq,List.append_assoc,gk,gk0,sk,sk0]
  exact⟨⟨b1,b2⟩,bD (by simp only[PP,P1,P2,P14,P15,N1,N2,N3,N4,N5,N6,N7,I1,I2,I3,I4,I5,I6,I7,reduceIte,reduceCtorEq];exact Gh.same ⟨_,rfl,hk 1 0⟩)⟩
theorem YC {M:Mem} {K:PV->Mem->Prop} {f o:Bool} {xs:List Eg} (hm:xs.length<big) (hk:∀g v,K (.ref M.length g 4 0 xs.length) (M++[.cells g v (egL xs)])):
  SemC tab 153 [slE f o xs] M K:=by
 have hb:xs.length<1000000000000:=hm
 have b1:xs.length*24<=140737488355328:=by omega
 have b2:xs.length<=9223372036854775807:=by omega
 refine gK (jN T.h153 ?_)
 simp only[af153]
 refine bL (bD ?_)
 simp only[PP,P1,P2,P14,P15,N1,N2,N3,N4,N5,N6,N7,I1,I2,I3,I4,I5,I6,I7,reduceIte,reduceCtorEq]
 refine bL (bD ?_)
 simp only[PP,P1,P2,P14,P15,N1,N2,N3,N4,N5,N6,N7,I1,I2,I3,I4,I5,I6,I7,reduceIte,reduceCtorEq]
 have hone:(egL xs).all PV.one=true:=O1 xs
 refine QIf.intro (fun c=>?_) (fun c=>?_)
 ·constructor
  ·simp only[PP,P1,P2,P14,P15,N1,N2,N3,N4,N5,N6,N7,I1,I2,I3,I4,I5,I6,I7,reduceIte,reduceCtorEq]
   have:xs=[]:=List.length_eq_zero_iff.1 c
   subst this
   exact Gh.step (GStep.nil 0 4 rfl rfl rfl) (Gh.same ⟨_,rfl,hk 0 0⟩)
  ·simp only[PP,P1,P2,P14,P15,N1,N2,N3,N4,N5,N6,N7,I1,I2,I3,I4,I5,I6,I7,reduceIte,reduceCtorEq]
   refine bL (pM ⟨[],rfl,?_⟩)
   simp only[PP,P1,P2,P14,P15,N1,N2,N3,N4,N5,N6,N7,I1,I2,I3,I4,I5,I6,I7,reduceIte,reduceCtorEq,List.append_assoc,gk,gk0,sk,sk0,hone]
   exact⟨⟨b1,b2⟩,bD (by simp only[PP,P1,P2,P14,P15,N1,N2,N3,N4,N5,N6,N7,I1,I2,I3,I4,I5,I6,I7,reduceIte,reduceCtorEq];exact Gh.same ⟨_,rfl,hk 1 0⟩)⟩
 ·simp only[PP,P1,P2,P14,P15,N1,N2,N3,N4,N5,N6,N7,I1,I2,I3,I4,I5,I6,I7,reduceIte,reduceCtorEq]
  refine bL (pM ⟨[],rfl,?_⟩)
  simp only[PP,P1,P2,P14,P15,N1,N2,N3,N4,N5,N6,N7,I1,I2,I3,I4,I5,I6,I7,reduceIte,reduceCtorEq,List.append_assoc,gk,gk0,sk,sk0,hone]
  exact⟨⟨b1,b2⟩,bD (by simp only[PP,P1,P2,P14,P15,N1,N2,N3,N4,N5,N6,N7,I1,I2,I3,I4,I5,I6,I7,reduceIte,reduceCtorEq];exact Gh.same ⟨_,rfl,hk 1 0⟩)⟩
end
section
variable {α:Type} [DecidableEq α]
def fG (o:List α) (b:α):List α:=if b∈o then o else o++[b]
def eH (δ:α->Nat->α) (a:α):Nat->List α->List α
 | 0,o=>o
 | x+1,o=>fG (eH δ a x o) (δ a x)
def fF (δ:α->Nat->α) (n:Nat) (a0:α):Nat->List α
 | 0=>[a0]
 | k+1=>match (fF δ n a0 k)[k]? with
  | some a=>eH δ a n (fF δ n a0 k)
  | none=>fF δ n a0 k
theorem IR (o:List α) (b:α):∃r,fG o b=o++r:=by
 unfold fG
 split
 ·exact⟨[],by simp⟩
 ·exact⟨[b],rfl⟩
theorem G8 (o:List α) (b c:α):c∈fG o b↔c∈o\/c=b:=by
 unfold fG
 split
 ·constructor
  ·exact .inl
  ·rintro(h | rfl)
   ·exact h
   ·assumption
 ·simp
theorem kZ (δ:α->Nat->α) (a:α):∀(x:Nat) (o:List α),∃r,eH δ a x o=o++r
 | 0,o=>⟨[],by simp[eH]⟩
 | x+1,o=>by
  obtain⟨r,h⟩:=kZ δ a x o
  obtain⟨r2,h2⟩:=IR (eH δ a x o) (δ a x)
  exact⟨r++r2,by unfold eH;rw[h2,h,List.append_assoc]⟩
theorem mK (δ:α->Nat->α) (a c:α):∀(x:Nat) (o:List α),c∈eH δ a x o↔c∈o\/∃y,y<x/\c=δ a y
 | 0,o=>by simp[eH]
 | x+1,o=>by
  unfold eH
  rw[G8,mK δ a c x o]
  constructor
  ·rintro((h | ⟨y,h1,h2⟩) | h)
   ·exact .inl h
   ·exact .inr ⟨y,by omega,h2⟩
   ·exact .inr ⟨x,by omega,h⟩
  ·rintro(h | ⟨y,h1,h2⟩)
   ·exact .inl (.inl h)
   ·by_cases e:y=x
    ·subst e;exact .inr h2
    ·exact .inl (.inr ⟨y,by omega,h2⟩)
theorem yJ {a b:α} {o:List α} (h:b≠a):(a::o).idxOf b=o.idxOf b+1:=by
 rw[List.idxOf_cons]
 have:(a==b)=false:=beq_false_of_ne fun e=>h e.symm
 rw[this];rfl
theorem tO {o r:List α} {b:α} (h:b∈o):(o++r).idxOf b=o.idxOf b:=by
 rw[List.idxOf_append,if_pos h]
def zW (δ:α->Nat->α) (n:Nat) (o:List α) (a:α):List Int:=(List.range n).map fun x=>((o.idxOf (δ a x):Nat):Int)
theorem U0 {δ:α->Nat->α} {n:Nat} {o r:List α} {a:α} (h:∀x,x<n->δ a x∈o):zW δ n (o++r) a=zW δ n o a:=
 List.map_congr_left fun x hx=>by rw[tO (h x (List.mem_range.1 hx))]
def j9 (κ:α->ByteArray):Nat->List α->List (ByteArray×PV)
 | _,[]=>[]
 | k,a::o=>(κ a,p64 (k:Int))::j9 κ (k+1) o
omit [DecidableEq α] in
theorem G4 (κ:α->ByteArray):∀(o:List α) (k:Nat),(j9 κ k o).length=o.length
 | [],k=>rfl
 | a::o,k=>by simp[j9,G4 κ o]
omit [DecidableEq α] in
theorem tF (κ:α->ByteArray) (b:α):∀(o:List α) (k:Nat),j9 κ k o++[(κ b,p64 ((k+o.length:Nat):Int))]=j9 κ k (o++[b])
 | [],k=>rfl
 | a::o,k=>by
  show(κ a,p64 (k:Int))::(j9 κ (k+1) o++_)=(κ a,p64 (k:Int))::j9 κ (k+1) (o++[b])
  rw[<-tF κ b o (k+1)]
  simp only[List.length_cons]
  rw[show k+1+o.length=k+(o.length+1) by omega]
theorem pC {κ:α->ByteArray} {Dm:α->Prop} (hinj:∀a b,Dm a->Dm b->κ a=κ b->a=b) {b:α} (hb:Dm b):∀(o:List α) (k:Nat),(∀a∈o,Dm a)->uJ (κ b) (j9 κ k o)=if b∈o then some (p64 ((k+o.idxOf b:Nat):Int)) else none
 | [],k,ho=>rfl
 | a::o,k,ho=>by
  unfold j9 uJ
  by_cases e:κ b=κ a
  ·obtain rfl:=hinj b a hb (ho a (by simp)) e
   rw[if_pos rfl,if_pos (by simp)];simp
  ·have hne:b≠a:=fun h=>e (by rw[h])
   rw[if_neg e,pC hinj hb o (k+1) (fun c hc=>ho c (by simp[hc]))]
   by_cases hm:b∈o
   ·rw[if_pos hm,if_pos (by simp[hm]),yJ hne,show k+1+o.idxOf b=k+(o.idxOf b+1) by omega]
   ·rw[if_neg hm,if_neg (by simp[hm,hne])]
end
section
variable {tab:FuncId->Option AF} (T:HasA tab)
include T
variable {α:Type} [DecidableEq α]
end
section
variable {α:Type} [DecidableEq α]
theorem i7 {δ:α->Nat->α} {n:Nat} {a0 a:α} {k:Nat} (h:(fF δ n a0 k)[k]? =some a):fF δ n a0 (k+1)=eH δ a n (fF δ n a0 k):=by
 show(match (fF δ n a0 k)[k]? with | some a=>_ | none=>_)=_
 rw[h]
theorem mX {δ:α->Nat->α} {n:Nat} {a0:α} {k:Nat} (h:(fF δ n a0 k).length<=k):fF δ n a0 (k+1)=fF δ n a0 k:=by
 show(match (fF δ n a0 k)[k]? with | some a=>_ | none=>_)=_
 rw[List.getElem?_eq_none h]
theorem YN (δ:α->Nat->α) (n:Nat) (a0:α) (k:Nat):∃r,fF δ n a0 (k+1)=fF δ n a0 k++r:=by
 rcases Nat.lt_or_ge k (fF δ n a0 k).length with h | h
 ·obtain⟨r,e⟩:=kZ δ ((fF δ n a0 k)[k]) n (fF δ n a0 k)
  exact⟨r,by rw[i7 (List.getElem?_eq_getElem h),e]⟩
 ·exact⟨[],by rw[mX h];simp⟩
theorem CS (δ:α->Nat->α) (n:Nat) (a0:α) (k:Nat):∀d,∃r,fF δ n a0 (k+d)=fF δ n a0 k++r
 | 0=>⟨[],by simp⟩
 | d+1=>by
  obtain⟨r,h⟩:=CS δ n a0 k d
  obtain⟨r2,h2⟩:=YN δ n a0 (k+d)
  exact⟨r++r2,by rw[<-Nat.add_assoc,h2,h,List.append_assoc]⟩
theorem tW {δ:α->Nat->α} {n:Nat} {a0:α} :∀{k i:Nat} {a:α},i<k->(fF δ n a0 k)[i]? =some a->∀x,x<n->δ a x∈fF δ n a0 k
 | 0,i,a,h,_,_,_=>by omega
 | k+1,i,a,h,g,x,hx=>by
  rcases Nat.lt_or_ge k (fF δ n a0 k).length with hk | hk
  ·have gk:=List.getElem?_eq_getElem hk
   have e:=i7 gk
   obtain⟨r,e2⟩:=kZ δ ((fF δ n a0 k)[k]) n (fF δ n a0 k)
   by_cases hi:i=k
   ·subst hi
    rw[e,e2,List.getElem?_append_left hk,gk]at g
    cases g
    rw[e,mK]
    exact .inr ⟨x,hx,rfl⟩
   ·rw[e,e2,List.getElem?_append_left (by omega)]at g
    have:=tW (k:=k) (by omega) g x hx
    rw[e,e2]
    exact List.mem_append_left _ this
  ·rw[mX hk]at g ⊢
   refine tW (k:=k) ?_ g x hx
   rcases Nat.lt_or_ge i (fF δ n a0 k).length with q | q
   ·omega
   ·rw[List.getElem?_eq_none q]at g;cases g
theorem zF {o:List α} {b:α} (h:o.Nodup):(fG o b).Nodup:=by
 unfold fG
 split
 ·exact h
 ·rename_i q
  rw[List.nodup_append]
  refine⟨h,by simp,fun x hx y hy e=>?_⟩
  simp at hy;subst hy;subst e;exact q hx
theorem mZ {δ:α->Nat->α} {a:α} :∀(x:Nat) {o:List α},o.Nodup->(eH δ a x o).Nodup
 | 0,o,h=>h
 | x+1,o,h=>zF (mZ x h)
theorem lL (δ:α->Nat->α) (n:Nat) (a0:α):∀k,(fF δ n a0 k).Nodup
 | 0=>by simp[fF]
 | k+1=>by
  rcases Nat.lt_or_ge k (fF δ n a0 k).length with hk | hk
  ·rw[i7 (List.getElem?_eq_getElem hk)]
   exact mZ n (lL δ n a0 k)
  ·rw[mX hk];exact lL δ n a0 k
theorem T1 {δ:α->Nat->α} {Dm:α->Prop} {a:α} {n:Nat} (ha:∀x,x<n->Dm (δ a x)) {o:List α} (ho:∀c∈o,Dm c) {j:Nat} (hj:j<=n):∀c∈eH δ a j o,Dm c:=by
 intro c hc
 rcases(mK δ a c j o).1 hc with h | ⟨y,h1,rfl⟩
 ·exact ho c h
 ·exact ha y (by omega)
theorem sF {δ:α->Nat->α} {n:Nat} {a0:α} {Dm:α->Prop} (h0:Dm a0) (hs:∀a x,Dm a->x<n->Dm (δ a x)):∀k,∀c∈fF δ n a0 k,Dm c
 | 0=>by simp[fF,h0]
 | k+1=>by
  have ih:=sF h0 hs k
  rcases Nat.lt_or_ge k (fF δ n a0 k).length with hk | hk
  ·rw[i7 (List.getElem?_eq_getElem hk)]
   exact T1 (fun x hx=>hs _ x (ih _ (List.getElem_mem hk)) hx) ih (Nat.le_refl n)
  ·rw[mX hk];exact ih
def uL (δ:α->Nat->α) (n:Nat) (a0:α) (k:Nat):List (List Int):=((fF δ n a0 k).take k).map (zW δ n (fF δ n a0 k))
theorem o7 {δ:α->Nat->α} {n:Nat} {a0:α} {k:Nat} (h:k<=(fF δ n a0 k).length):(uL δ n a0 k).length=k:=by
 unfold uL;rw[List.length_map,List.length_take];omega
theorem xC {δ:α->Nat->α} {n:Nat} {a0 a:α} {k:Nat} (h:(fF δ n a0 k)[k]? =some a):uL δ n a0 (k+1)=uL δ n a0 k++[zW δ n (eH δ a n (fF δ n a0 k)) a]:=by
 have hk:=aZ h
 obtain⟨r,e2⟩:=kZ δ a n (fF δ n a0 k)
 unfold uL
 rw[i7 h]
 have e3:(eH δ a n (fF δ n a0 k)).take (k+1)=(fF δ n a0 k).take k++[a]:=by
  rw[e2,List.take_append_of_le_length (by omega),List.take_add_one,h];rfl
 rw[e3,List.map_append]
 congr 1
 refine List.map_congr_left fun b hb=>?_
 rw[e2]
 refine U0 fun x hx=>?_
 obtain⟨i,hi,hb⟩:=List.mem_iff_getElem.1 hb
 rw[List.length_take]at hi
 rw[List.getElem_take]at hb
 exact tW (k:=k) (i:=i) (by omega) (by rw[List.getElem?_eq_getElem (by omega),hb]) x hx
def aCv (δ:α->Nat->α) (n:Nat) (o:List α):List (List Int):=o.map (zW δ n o)
theorem xD {δ:α->Nat->α} {n:Nat} {a0:α} {k:Nat} (h:(fF δ n a0 k).length<=k):uL δ n a0 k=aCv δ n (fF δ n a0 k):=by
 unfold uL aCv;rw[List.take_of_length_le h]
end
section
variable {α:Type} [DecidableEq α]
variable {tab:FuncId->Option AF} (T:HasA tab)
include T
end
structure OkD (D:DF):Prop where
 v0:0<=D.vs
 v6:D.vs<=6
 n0:0<D.nx.length
 n1:D.nx.length<=4096
 f:D.fi.length=D.nx.length
 s0:0<=D.st
 s1:D.st<D.nx.length
 r:∀r∈D.nx,(r.length:Int)=2^D.vs.toNat/\∀t∈r,0<=t/\t<D.nx.length
theorem rowsD_zero {v n:Int} :∀{l:List (List Int)},uM v n l=0↔∀r∈l,(r.length:Int)=2^v.toNat/\∀t∈r,0<=t/\t<n
 | []=>by simp[uM]
 | r::l=>by
  unfold uM
  by_cases h1:(r.length:Int)=2^v.toNat
  ·rw[if_pos h1]
   by_cases h2:YO n r=true
   ·rw[if_pos h2]
    constructor
    ·intro h;exact absurd h (by decide)
    ·intro h
     unfold YO at h2
     obtain⟨t,h3,h4⟩:=List.any_eq_true.1 h2
     have:=(h r (by simp)).2 t h3
     simp only[decide_eq_true_eq]at h4
     omega
   ·rw[if_neg h2,rowsD_zero]
    constructor
    ·intro h x hx
     rcases List.mem_cons.1 hx with rfl | hx
     ·refine⟨h1,fun t ht=>Classical.byContradiction fun q=>h2 ?_⟩
      exact List.any_eq_true.2 ⟨t,ht,by simp only[decide_eq_true_eq];omega⟩
     ·exact h x hx
    ·intro h x hx;exact h x (by simp[hx])
  ·rw[if_neg h1]
   constructor
   ·intro h;exact absurd h (by decide)
   ·intro h;exact absurd (h r (by simp)).1 h1
theorem okD_iff {D:DF} :eP D=0↔OkD D:=by
 unfold eP
 constructor
 ·intro h
  split at h;· exact absurd h (by decide)
  split at h;· exact absurd h (by decide)
  split at h;· exact absurd h (by decide)
  split at h;· exact absurd h (by decide)
  split at h;· exact absurd h (by decide)
  rename_i h1 h2 h3 h4 h5
  exact⟨by omega,by omega,by omega,by omega,by have:=Classical.not_not.1 h4;omega,by omega,by omega,rowsD_zero.1 h⟩
 ·intro C
  have h1:=C.v0;have h2:=C.v6;have h3:=C.n0;have h4:=C.n1;have h5:=C.f;have h6:=C.s0;have h7:=C.s1
  rw[if_neg (by omega),if_neg (by omega),if_neg (by omega),if_neg (by omega),if_neg (by omega)]
  exact rowsD_zero.2 C.r
def uI (nx:List (List Int)) (s x:Int):Int:=(((nx[s.toNat]?).getD [])[x.toNat]?).getD 0
def fiD (D:DF) (s:Int):Bool:=(D.fi[s.toNat]?).getD false
theorem OkD.step {D:DF} (C:OkD D) {s x:Int} (s0:0<=s) (s1:s<D.nx.length) (x0:0<=x) (x1:x<2^D.vs.toNat):
  ∃r,D.nx[s.toNat]? =some r/\r[x.toNat]? =some (uI D.nx s x)/\x<r.length/\0<=uI D.nx s x/\uI D.nx s x<D.nx.length:=by
 obtain⟨r,g⟩:=bY (xs:=D.nx) (k:=s.toNat) (by omega)
 obtain⟨h1,h2⟩:=C.r r (List.mem_of_getElem? g)
 obtain⟨t,gt⟩:=bY (xs:=r) (k:=x.toNat) (by omega)
 have e:uI D.nx s x=t:=by unfold uI;rw[g];simp[gt]
 rw[e]
 exact⟨r,g,gt,by omega,h2 t (List.mem_of_getElem? gt)⟩
theorem OkD.run {D:DF} (C:OkD D):∀(w:List Int),(∀x∈w,0<=x/\x<2^D.vs.toNat)->∀s:Int,0<=s->s<D.nx.length->0<=w.foldl (uI D.nx) s/\w.foldl (uI D.nx) s<D.nx.length
 | [],_,s,h0,h1=>⟨h0,h1⟩
 | x::w,hw,s,h0,h1=>by
  have hx:=hw x (by simp)
  obtain⟨_,_,_,_,a,b⟩:=C.step h0 h1 hx.1 hx.2
  exact OkD.run C w (fun y hy=>hw y (by simp[hy])) _ a b
theorem OkD.fin {D:DF} (C:OkD D) {s:Int} (s0:0<=s) (s1:s<D.nx.length):D.fi[s.toNat]? =some (fiD D s)/\s<D.fi.length:=by
 obtain⟨b,g⟩:=bY (xs:=D.fi) (k:=s.toNat) (by have:=C.f;omega)
 exact⟨by unfold fiD;rw[g];rfl,by have:=C.f;omega⟩
section
variable {tab:FuncId->Option AF} (T:HasA tab)
include T
end
theorem DF.ext' {D D':DF} (h1:D.vs=D'.vs) (h2:D.st=D'.st) (h3:D.nx=D'.nx) (h4:D.fi=D'.fi):D=D':=by
 cases D;cases D';simp_all
section
variable {tab:FuncId->Option AF} (T:HasA tab)
include T
theorem O5 {M:Mem} {K:PV->Mem->Prop} {f o:Bool} {xs:List Bool} (hm:xs.length<big) (hk:K (slB false true xs) M):
  SemC tab 38 [slB f o xs] M K:=by
 refine a8 T.h38 (by simp only[PP,P1,P2,P14,P15,N1,N2,N3,N4,N5,N6,N7,I1,I2,I3,I4,I5,I6,I7,reduceIte,reduceCtorEq]) ?_
 have hb:xs.length<1000000000000:=hm
 have b1:xs.length<=140737488355328:=by omega
 have b2:xs.length<=9223372036854775807:=by omega
 simp only[af38,PP,P1,P2,P14,P15,N1,N2,N3,N4,N5,N6,N7,I1,I2,I3,I4,I5,I6,I7,reduceIte,reduceCtorEq,b1,b2]
 exact hk
end
def oT (D:DF) (a x:Nat):Nat:=(uI D.nx a x).toNat
abbrev mN (D:DF):Nat:=2^D.vs.toNat
theorem OkD.delta {D:DF} (C:OkD D) {a x:Nat} (ha:a<D.nx.length) (hx:x<mN D):∃r,D.nx[a]? =some r/\r[x]? =some ((oT D a x:Nat):Int)/\(x:Int)<r.length/\oT D a x<D.nx.length:=by
 have hx':(x:Int)<2^D.vs.toNat:=by
  have:((x:Nat):Int)<((2^D.vs.toNat:Nat):Int):=by exact_mod_cast hx
  simpa using this
 obtain⟨r,g1,g2,g3,g4,g5⟩:=C.step (s:=a) (x:=x) (by omega) (by omega) (by omega) hx'
 simp only[Int.toNat_natCast]at g1 g2
 refine⟨r,g1,?_,g3,?_⟩
 ·rw[g2];unfold oT;congr 1;omega
 ·unfold oT;omega
section
variable {tab:FuncId->Option AF} (T:HasA tab)
include T
end
theorem OkD.small {D:DF} (C:OkD D) (k:Nat):(fF (oT D) (mN D) D.st.toNat k).length<=D.nx.length:=
 qC _ _ (lL _ _ _ k) (sF (Dm:=fun a=>a<D.nx.length) (by have:=C.s0;have:=C.s1;omega) (fun a x ha hx=>(C.delta ha hx).choose_spec.2.2.2) k)
theorem OkD.below {D:DF} (C:OkD D) (k:Nat):∀a∈fF (oT D) (mN D) D.st.toNat k,a<D.nx.length:=
 sF (Dm:=fun a=>a<D.nx.length) (by have:=C.s0;have:=C.s1;omega) (fun a x ha hx=>(C.delta ha hx).choose_spec.2.2.2) k
theorem OkD.row {D:DF} (C:OkD D) {a:Nat} (ha:a<D.nx.length):∃r,D.nx[a]? =some r/\r.length=mN D/\∀x,x<mN D->r[x]? =some ((oT D a x:Nat):Int)/\oT D a x<D.nx.length:=by
 obtain⟨r,g⟩:=bY ha
 have h1:=(C.r r (List.mem_of_getElem? g)).1
 have h2:((mN D:Nat):Int)=2^D.vs.toNat:=by simp
 refine⟨r,g,by omega,fun x hx=>?_⟩
 obtain⟨r',g1,g2,g3,g4⟩:=C.delta ha hx
 rw[g]at g1;cases g1
 exact⟨g2,g4⟩
section
variable {tab:FuncId->Option AF} (T:HasA tab)
include T
end
section
variable {α β:Type} [DecidableEq α] [DecidableEq β]
end
abbrev bJ (N:NF):Nat:=2^N.vs.toNat
def b9 (N:NF) (a:BitVec 64) (x:Nat):BitVec 64:=(nJ N.es x).foldl (fun acc e=>if a.getLsbD e.fr.toNat=true then acc||| BitVec.twoPow 64 e.to.toNat else acc) 0#64
theorem H6 (a:BitVec 64) (k:Nat):∀(l:List Eg) (acc:BitVec 64),(∀e∈l,0<=e.to/\e.to<64)->
  ((l.foldl (fun acc e=>if a.getLsbD e.fr.toNat=true then acc||| BitVec.twoPow 64 e.to.toNat else acc) acc).getLsbD k=true↔acc.getLsbD k=true\/∃e∈l,a.getLsbD e.fr.toNat=true/\e.to=k)
 | [],acc,_=>by simp
 | e::l,acc,h=>by
  have he:=h e (by simp)
  rw[List.foldl_cons,H6 a k l _ fun e he=>h e (by simp[he])]
  by_cases c:a.getLsbD e.fr.toNat=true
  ·rw[if_pos c,BitVec.getLsbD_or,Bool.or_eq_true,BitVec.getLsbD_twoPow,Bool.and_eq_true,decide_eq_true_eq,decide_eq_true_eq]
   constructor
   ·rintro((h1 | ⟨h1,h2⟩) | ⟨e',h1,h2⟩)
    ·exact .inl h1
    ·exact .inr ⟨e,by simp,c,by omega⟩
    ·exact .inr ⟨e',by simp[h1],h2⟩
   ·rintro(h1 | ⟨e',h1,h2,h3⟩)
    ·exact .inl (.inl h1)
    ·rcases List.mem_cons.1 h1 with rfl | h1
     ·exact .inl (.inr ⟨by omega,by omega⟩)
     ·exact .inr ⟨e',h1,h2,h3⟩
  ·rw[if_neg c]
   constructor
   ·rintro(h1 | ⟨e',h1,h2⟩)
    ·exact .inl h1
    ·exact .inr ⟨e',by simp[h1],h2⟩
   ·rintro(h1 | ⟨e',h1,h2,h3⟩)
    ·exact .inl h1
    ·rcases List.mem_cons.1 h1 with rfl | h1
     ·exact absurd h2 c
     ·exact .inr ⟨e',h1,h2,h3⟩
theorem WE {es:List Eg} {x:Nat} {e:Eg} (h:e∈nJ es x):e∈es:=(List.mem_filter.1 h).1
theorem yX {N:NF} (C:NOk N) (a:BitVec 64) (x k:Nat):(b9 N a x).getLsbD k=true↔∃e∈nJ N.es x,a.getLsbD e.fr.toNat=true/\e.to=k:=by
 unfold b9
 rw[H6 a k _ _ fun e he=>by have:=C.ed e (WE he);have:=C.n64;omega]
 simp
structure RB (s:Wd) (a:BitVec 64):Prop where
 len:s.length<=64
 lt:∀k,bit s k=true->k<64
 at0:wAt s 0=a
theorem RB.bit {s:Wd} {a:BitVec 64} (h:RB s a) (k:Nat):bit s k=a.getLsbD k:=by
 by_cases hk:k<64
 ·unfold Ar.bit
  rw[show k / 64=0 by omega,show k % 64=k by omega,h.at0]
 ·rw[BitVec.getLsbD_of_ge _ _ (by omega)]
  cases hb:Ar.bit s k with
  | false=>rfl
  | true=>exact absurd (h.lt k hb) hk
theorem RB.mk' {s:Wd} {a:BitVec 64} (hl:s.length<=64) (h:∀k,Ar.bit s k=true↔a.getLsbD k=true):RB s a:=by
 have lt:∀k,Ar.bit s k=true->k<64:=fun k hk=>by
  refine Classical.byContradiction fun q=>?_
  have:=(h k).1 hk
  rw[BitVec.getLsbD_of_ge _ _ (by omega)]at this;cases this
 refine⟨hl,lt,BitVec.eq_of_getLsbD_eq fun i hi=>?_⟩
 have:=h i
 unfold Ar.bit at this
 rw[show i / 64=0 by omega,show i % 64=i by omega]at this
 exact Bool.eq_iff_iff.2 this
theorem RB.next {N:NF} (C:NOk N) {s o:Wd} {a:BitVec 64} {x:Nat} (h:RB s a) (ho:aFh N.es s x o):RB o (b9 N a x):=by
 refine .mk' ho.1 fun k=>?_
 rw[ho.2,yX C]
 simp only[h.bit]
def eI (N:NF):BitVec 64:=wAt (faW N.st) 0
theorem UJ {N:NF} (C:NOk N):RB (faW N.st) (eI N):=by
 obtain⟨_,h2,h3⟩:=aCI C C.st
 refine⟨h2,fun k hk=>?_,rfl⟩
 rw[h3,decide_eq_true_eq]at hk
 have:=mI C.st _ hk
 have:=C.n64
 omega
theorem nA {N:NF} (C:NOk N) (k:Nat):(eI N).getLsbD k=true↔(k:Int)∈N.st:=by
 obtain⟨_,_,h3⟩:=aCI C C.st
 rw[<-(UJ C).bit,h3,decide_eq_true_eq]
def ET (N:NF) (a:BitVec 64):Bool:=N.fi.any fun q=>a.getLsbD q.toNat
def hO (o:List (BitVec 64)):List (List Int):=o.map fun a=>D5 (nW a)
theorem TY {vs:Int} {x:Nat} (h:x<2^vs.toNat):NL vs [(x:Int)]=0:=by
 have h':¬(2:Int)^vs.toNat<=x:=by
  have:((2^vs.toNat:Nat):Int)=2^vs.toNat:=by simp
  omega
 unfold NL
 rw[if_neg (by simp),if_neg (by simp[h'])]
theorem NOk.let64 {N:NF} (C:NOk N):bJ N<=64:=GO C.v6
section
variable {tab:FuncId->Option AF} (T:HasA tab)
include T
end
def aEo (o:Wd):Prop:=o=[]\/wAt o (o.length-1)≠0#64
def gW (a:BitVec 64):Wd:=if a=0#64 then [] else [a]
theorem RB.one {o:Wd} {a:BitVec 64} (h:RB o a) (hc:aEo o):o=gW a:=by
 have hz:∀i,0<i->wAt o i=0#64:=fun i hi=>BitVec.eq_of_getLsbD_eq fun j hj=>by
  cases hx:(wAt o i).getLsbD j with
  | false=>simp
  | true=>
   have:Ar.bit o (64*i+j)=true:=by
    unfold Ar.bit
    rw[show(64*i+j) / 64=i by omega,show(64*i+j) % 64=j by omega];exact hx
   have:=h.lt _ this
   omega
 have h0:=h.at0
 unfold gW
 rcases hc with rfl | ht
 ·have e:wAt ([]:Wd) 0=0#64:=kY (by simp)
  rw[e]at h0
  rw[if_pos h0.symm]
 ·have hl:o.length-1=0:=Classical.byContradiction fun q=>ht (hz _ (by omega))
  rw[hl,h0]at ht
  rw[if_neg ht]
  match o,hl with
  | [],_=>
   have e:wAt ([]:Wd) 0=0#64:=kY (by simp)
   rw[e]at h0;exact absurd h0.symm ht
  | [x],_=>rw[<-h0];rfl
  | x::y::l,h=>simp at h
theorem aAM (a:BitVec 64):RB (gW a) a:=by
 unfold gW
 by_cases h:a=0#64
 ·rw[if_pos h]
  exact⟨by simp,fun k hk=>by simp[Ar.bit,wAt]at hk,by rw[h];rfl⟩
 ·rw[if_neg h]
  refine⟨by simp,fun k hk=>?_,rfl⟩
  refine Classical.byContradiction fun q=>?_
  have:wAt [a] (k / 64)=0#64:=kY (by simp;omega)
  unfold Ar.bit at hk
  rw[this]at hk
  simp at hk
theorem VW (a:BitVec 64):(gW a).length<=1:=by
 unfold gW
 split<;>simp
def kG (a:BitVec 64):ByteArray:=⟨(Key.keyT ((gW a).map (·.toNat))).toArray⟩
section
variable {tab:FuncId->Option AF} (T:HasA tab)
include T
set_option maxHeartbeats 1000000 in
theorem aDY {M:Mem} {K:PV->Mem->Prop} {f1 o1 f2 o2 f3 o3 f4 o4:Bool} {N:NF} {s:Wd} {x:Nat} (C:NOk N) (B:BnN N) (hs:s.length<=64) (hx:x<256) (hk:∀o,aFh N.es s x o->aEo o->K (slW false true o) M):
  SemC tab 144 [.agg (nfC f1 o1 f2 o2 f3 o3 N),slW f4 o4 s,p8 x] M K:=by
 have n64:=C.n64
 refine fD T.h144 (by simp only[PP,P1,P2,P14,P15,N1,N2,N3,N4,N5,N6,N7,I1,I2,I3,I4,I5,I6,I7,reduceIte,reduceCtorEq,dN]) ?_
 simp only[af144]
 refine bL (bD ?_)
 simp only[PP,P1,P2,P14,P15,N1,N2,N3,N4,N5,N6,N7,I1,I2,I3,I4,I5,I6,I7,reduceIte,reduceCtorEq]
 refine d8 (GStep.freezeP (b:=(.junk:: .junk::p8 x:: .cp (nfC f1 o1 f2 o2 f3 o3 N) 0:: .ptr 1 0 0:: .junk:: .ptr 2 0 0::zj 14)) 0 (Nat.zero_le _) rfl (by simp only[nZ,n7,List.cons_append,List.nil_append,fP,eU,eT,fM]) rfl) ?_
 refine d8 (GStep.freezeP (b:=(.junk:: .junk::p8 x:: .cp (nfC f1 o1 f2 o2 f3 o3 N) 0:: .cp [slW f4 o4 s] 0:: .junk:: .ptr 2 0 0::zj 14)) 1 (Nat.zero_le _) rfl (by simp only[nZ,n7,List.cons_append,List.nil_append,fP,eU,eT,fM]) rfl) ?_
 refine d8 (GStep.wkC (v':=slW false true []) 2 0 rfl (fun v h=>by cases h;exact PvWk.nils _ _ _) rfl) ?_
 refine bD ?_
 simp only[PP,P1,P2,P14,P15,N1,N2,N3,N4,N5,N6,N7,I1,I2,I3,I4,I5,I6,I7,reduceIte,reduceCtorEq]
 refine K7 T ?_
 simp only[PP,P1,P2,P14,P15,N1,N2,N3,N4,N5,N6,N7,I1,I2,I3,I4,I5,I6,I7,reduceIte,reduceCtorEq]
 refine bB (b:=(zj 4++ .cp [slW f4 o4 s] 0:: .junk:: .ptr 2 0 0::zj 3++ .func (.func 213) [] [.cp (nfC f1 o1 f2 o2 f3 o3 N) 0,.cp [p8 x] 0]::zj 10)) ?_ (by simp only[PW])
 refine oV rfl (fun lp q1 q2 q3 q4 q5 q6=>?_)
 simp only[PP,P1,P2,P14,P15,N1,N2,N3,N4,N5,N6,N7,I1,I2,I3,I4,I5,I6,I7,reduceIte,reduceCtorEq]
 refine WC T (L:=3) hx B.e B.b (fun k G=>∃ver v o Gs,G=[.gone,.gone,.cells 0 v [slW false true o],.loop ver lp]++Gs/\(o.length<=64/\aEo o)/\∀j:Nat,bit o j=true↔∃e∈(nJ N.es x).take k,bit s e.fr.toNat=true/\e.to=j)
  ⟨0,0,[],[],rfl,⟨by simp,.inl rfl⟩,fun j=>by simp[bit,wAt]⟩ ?_ ?_ ?_ ?_
 ·rintro k G o ⟨ver,v,o',Gs,rfl,h⟩
  exact⟨ver,v,o',Gs++[o],by simp only[List.append_assoc],h⟩
 ·rintro k G ⟨ver,v,o',Gs,rfl,h⟩
  exact⟨ver,lp,rfl⟩
 ·rintro k G e ⟨ver,v,o,Gs,rfl,⟨ho,hco⟩,hb⟩ hat K' hK'
  refine zI (ver:=ver) (r:=lp) rfl (by rw[q4];rfl) ?_
  rw[q3,q4,q5]
  refine bD ?_
  simp only[lQ,PP,P1,P2,P14,P15,N1,N2,N3,N4,N5,N6,N7,I1,I2,I3,I4,I5,I6,I7,reduceIte,reduceCtorEq,List.append_assoc,gk,gk0,sk,sk0]
  have hlp:∀B,lp.body=B->(⟨.ready,none,lp.tmps,lp.params,lp.assign,B⟩:PLoop)=lp:=fun B hB=>by cases lp;simp_all
  refine⟨ver,lp,rfl,q1,?_⟩
  rw[q6]
  refine bD ?_
  have hem:=List.mem_of_getElem? hat
  have hen:e∈N.es:=(List.mem_filter.1 hem).1
  obtain⟨e1,e2,e3,e4,_⟩:=C.ed e hen
  have hfr:e.fr=((e.fr.toNat:Nat):Int):=by omega
  have hto:e.to=((e.to.toNat:Nat):Int):=by omega
  have nxt:∀o':Wd,(∀j:Nat,bit o' j=true↔(bit o j=true\/(bit s e.fr.toNat=true/\e.to=j)))->∀j:Nat,bit o' j=true↔∃e∈(nJ N.es x).take (k+1),bit s e.fr.toNat=true/\e.to=j:=fun o' h j=>by
   rw[h,hb,List.take_add_one,hat]
   simp only[Option.toList_some,List.mem_append,List.mem_singleton]
   constructor
   ·rintro(⟨z,h1,h2⟩ | h)
    ·exact⟨z,.inl h1,h2⟩
    ·exact⟨e,.inr rfl,h⟩
   ·rintro⟨z,h1 | rfl,h2⟩
    ·exact .inl ⟨z,h1,h2⟩
    ·exact .inr h2
  simp only[PP,P1,P2,P14,P15,N1,N2,N3,N4,N5,N6,N7,I1,I2,I3,I4,I5,I6,I7,reduceIte,reduceCtorEq,List.append_assoc,gk,gk0,sk,sk0]
  rw[show PV.int .i64 e.fr=p64 ((e.fr.toNat:Nat):Int) by rw[<-hfr]]
  refine aBK T hs (by omega) ?_
  cases hbit:bit s e.fr.toNat with
  | false=>
   simp only[PP,P1,P2,P14,P15,N1,N2,N3,N4,N5,N6,N7,I1,I2,I3,I4,I5,I6,I7,reduceIte,reduceCtorEq,List.append_assoc,gk,gk0,sk,sk0]
   refine⟨ver+1,_,rfl,?_⟩
   rw[if_pos rfl]
   refine hK' _ ⟨ver+1+1,v,o,Gs++[.cells 0 1 (egC e)],?_,⟨ho,hco⟩,nxt o fun j=>by rw[hbit];simp⟩
   simp only[PP,P1,P2,P14,P15,N1,N2,N3,N4,N5,N6,N7,I1,I2,I3,I4,I5,I6,I7,reduceIte,reduceCtorEq,List.append_assoc,gk,gk0,sk,sk0,hlp _ q6,<-hfr]
  | true=>
   simp only[PP,P1,P2,P14,P15,N1,N2,N3,N4,N5,N6,N7,I1,I2,I3,I4,I5,I6,I7,reduceIte,reduceCtorEq,List.append_assoc,gk,gk0,sk,sk0]
   rw[show PV.int .i64 e.to=p64 ((e.to.toNat:Nat):Int) by rw[<-hto]]
   refine aCS T (by show _<1000000000000;omega) (by omega) ?_
   obtain⟨w1,w2⟩:=YK (k:=e.to.toNat) ho (by omega)
   simp only[PP,P1,P2,P14,P15,N1,N2,N3,N4,N5,N6,N7,I1,I2,I3,I4,I5,I6,I7,reduceIte,reduceCtorEq,List.append_assoc,gk,gk0,sk,sk0]
   refine⟨ver+1,_,rfl,?_⟩
   rw[if_pos rfl]
   refine hK' _ ⟨ver+1+1,v+1,qT o e.to.toNat,Gs++[.cells 0 1 (egC e)],?_,⟨w1,T9 _⟩,nxt _ fun j=>?_⟩
   ·simp only[PP,P1,P2,P14,P15,N1,N2,N3,N4,N5,N6,N7,I1,I2,I3,I4,I5,I6,I7,reduceIte,reduceCtorEq,List.append_assoc,gk,gk0,sk,sk0,hlp _ q6,<-hfr,<-hto]
   ·rw[w2,Bool.or_eq_true,decide_eq_true_eq,hbit]
    constructor
    ·rintro(h | h)
     ·exact .inl h
     ·exact .inr ⟨rfl,by omega⟩
    ·rintro(h | ⟨_,h⟩)
     ·exact .inl h
     ·exact .inr (by omega)
 ·rintro G ⟨ver,v,o,Gs,rfl,⟨ho,hco⟩,hb⟩
  refine⟨ver,lp,rfl,by rw[q1];exact(by intro h;cases h),?_⟩
  rw[q2]
  simp only[PP,P1,P2,P14,P15,N1,N2,N3,N4,N5,N6,N7,I1,I2,I3,I4,I5,I6,I7,reduceIte,reduceCtorEq,List.append_assoc,gk,gk0,sk,sk0]
  rw[List.take_of_length_le (Nat.le_refl _)]at hb
  exact hk o ⟨ho,hb⟩ hco
theorem RQ {M:Mem} {K:PV->Mem->Prop} {f1 o1 f2 o2 f3 o3 f4 o4:Bool} {N:NF} {a:BitVec 64} {x:Nat} (hc:gJ N=0) (B:BnN N) (hx:x<bJ N) (hk:K (.tuple [slW false true (gW (b9 N a x)),p64 0]) M):
  SemC tab 83 [.agg (nfC f1 o1 f2 o2 f3 o3 N),slW f4 o4 (gW a),p8 x] M K:=by
 have C:=tG hc
 have h64:=C.let64
 have hr:=aAM a
 refine a8 T.h83 (by simp only[PP,P1,P2,P14,P15,N1,N2,N3,N4,N5,N6,N7,I1,I2,I3,I4,I5,I6,I7,reduceIte,reduceCtorEq,dN]) ?_
 simp only[af83,PP,P1,P2,P14,P15,N1,N2,N3,N4,N5,N6,N7,I1,I2,I3,I4,I5,I6,I7,reduceIte,reduceCtorEq]
 refine BK T B ?_
 simp only[PP,P1,P2,P14,P15,N1,N2,N3,N4,N5,N6,N7,I1,I2,I3,I4,I5,I6,I7,reduceIte,reduceCtorEq,hc]
 refine aCR T (w:=[(x:Int)]) C (fun y hy=>by simp at hy;subst hy;omega) (by simp) ?_
 rw[TY hx]
 simp only[PP,P1,P2,P14,P15,N1,N2,N3,N4,N5,N6,N7,I1,I2,I3,I4,I5,I6,I7,reduceIte,reduceCtorEq]
 refine aDY T C B hr.len (by omega) fun o ho hco=>?_
 rw[(hr.next C ho).one hco]
 simp only[PP,P1,P2,P14,P15,N1,N2,N3,N4,N5,N6,N7,I1,I2,I3,I4,I5,I6,I7,reduceIte,reduceCtorEq]
 exact hk
end
end Go.Am.Ar

