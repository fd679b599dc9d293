/- How many rounds there are (plain): each that changes something makes a class more, and what goes with it. -/
import Derived.Test.YtapbgleednkimaaGreatDoorBudgetGrowsG6
import Derived.Test.YtapbgleednkimaaGreatDoorBudgetGrowsG4
import Derived.Test.YtapbgleednkimaaGreatDoorBudgetGrowsG5
import Derived.Test.YtapbgleednkimaaGreatDoorPmC
import Derived.Test.YtapbgleednkimaaGreatDoorBudgetGrowsG2
import Derived.Test.YtapbgleednkimaaGreatDoorBudgetGrowsG0
set_option linter.unusedVariables false
set_option linter.unusedSimpArgs false
set_option maxRecDepth 10000
namespace Go.Am.Ar
open Go.Am.PV renaming junk->Zj
section
variable {α β:Type} [DecidableEq α] [DecidableEq β]
def ixF (l:List α) (x:α):Nat:=l.idxOf x
def fv (f:Nat->α):Nat->List α
 | 0=>[]
 | n+1=>fG (fv f n) (f n)
theorem NP (f:Nat->α) (a:α):∀n,eH (fun _ y=>f y) a n []=fv f n
 | 0=>rfl
 | n+1=>by show fG _ _=fG _ _;rw[NP f a n]
theorem jI (f:Nat->α) (x:α):∀n,x∈fv f n↔∃y,y<n/\x=f y
 | 0=>by simp[fv]
 | n+1=>by
  show x∈fG _ _↔_
  rw[G8,jI f x n]
  constructor
  ·rintro(⟨y,h1,h2⟩ | h)
   ·exact⟨y,by omega,h2⟩
   ·exact⟨n,by omega,h⟩
  ·rintro⟨y,h1,h2⟩
   by_cases e:y=n
   ·subst e;exact .inr h2
   ·exact .inl ⟨y,by omega,h2⟩
theorem yM (f:Nat->α):∀n,(fv f n).Nodup
 | 0=>by simp[fv]
 | n+1=>zF (yM f n)
theorem XS (f:Nat->α):∀n,(fv f n).length<=n
 | 0=>by simp[fv]
 | n+1=>by
  have:=XS f n
  show(fG _ _).length<=_
  unfold fG
  split
  ·omega
  ·simp;omega
theorem sH (o:List α) (x:α):(fG o x).length=if x∈o then o.length else o.length+1:=by
 unfold fG;split<;>simp
theorem XT (f:Nat->α) (g:α->β):∀n,(fv (fun y=>g (f y)) n).length<=(fv f n).length
 | 0=>by simp[fv]
 | n+1=>by
  have ih:=XT f g n
  show(fG _ _).length<=(fG _ _).length
  rw[sH,sH]
  by_cases h:f n∈fv f n
  ·have h2:g (f n)∈fv (fun y=>g (f y)) n:=by
    obtain⟨y,h3,h4⟩:=(jI _ _ _).1 h
    exact(jI _ _ _).2 ⟨y,h3,by rw[h4]⟩
   rw[if_pos h,if_pos h2];exact ih
  ·rw[if_neg h];split<;>omega
theorem LP (f:Nat->α) (g:α->β):∀n,(fv (fun y=>g (f y)) n).length=(fv f n).length->fv (fun y=>g (f y)) n=(fv f n).map g
 | 0,_=>rfl
 | n+1,h=>by
  have h:(fG (fv (fun y=>g (f y)) n) (g (f n))).length=(fG (fv f n) (f n)).length:=h
  show fG _ _=(fG _ _).map g
  have hle:=XT f g n
  rw[sH,sH]at h
  by_cases h1:f n∈fv f n
  ·have h2:g (f n)∈fv (fun y=>g (f y)) n:=by
    obtain⟨y,h3,h4⟩:=(jI _ _ _).1 h1
    exact(jI _ _ _).2 ⟨y,h3,by rw[h4]⟩
   rw[if_pos h1,if_pos h2]at h
   unfold fG
   rw[if_pos h1,if_pos h2,LP f g n h]
  ·rw[if_neg h1]at h
   by_cases h2:g (f n)∈fv (fun y=>g (f y)) n
   ·rw[if_pos h2]at h;omega
   ·rw[if_neg h2]at h
    unfold fG
    rw[if_neg h1,if_neg h2,LP f g n (by omega)];simp
theorem XU (f:Nat->α) (g:α->β):∀n,(∀x y,x<n->y<n->g (f x)=g (f y)->f x=f y)->fv (fun y=>g (f y)) n=(fv f n).map g
 | 0,_=>rfl
 | n+1,h=>by
  show fG _ _=(fG _ _).map g
  have ih:=XU f g n fun x y hx hy=>h x y (by omega) (by omega)
  by_cases h1:f n∈fv f n
  ·have h2:g (f n)∈fv (fun y=>g (f y)) n:=by rw[ih];exact List.mem_map.2 ⟨_,h1,rfl⟩
   unfold fG
   rw[if_pos h1,if_pos h2,ih]
  ·have h2:g (f n)∉fv (fun y=>g (f y)) n:=fun q=>by
    obtain⟨y,h3,h4⟩:=(jI _ _ _).1 q
    exact h1 ((jI _ _ _).2 ⟨y,h3,h n y (by omega) (by omega) h4⟩)
   unfold fG
   rw[if_neg h1,if_neg h2,ih];simp
theorem qI {g:α->β} :∀{l:List α} {x:α},(l.map g).Nodup->x∈l->ixF (l.map g) (g x)=ixF l x
 | [],x,_,h=>by cases h
 | a::l,x,hn,h=>by
  rw[List.map_cons,List.nodup_cons]at hn
  rw[List.map_cons]
  by_cases e:x=a
  ·subst e;unfold ixF;simp
  ·have hm:x∈l:=by
    rcases List.mem_cons.1 h with h | h
    ·exact absurd h e
    ·exact h
   have hg:g x≠g a:=fun q=>hn.1 (by rw[<-q];exact List.mem_map.2 ⟨x,hm,rfl⟩)
   have ih:=qI hn.2 hm
   unfold ixF at ih ⊢
   rw[yJ e,yJ hg,ih]
theorem pG {l:List α} {x:α} (h:x∈l):l[ixF l x]? =some x:=by
 unfold ixF
 have h1:=List.idxOf_lt_length_of_mem h
 rw[List.getElem?_eq_getElem h1,List.getElem_idxOf]
end
def PZ (n:Nat) (c:List Int):Prop:=c.length=n/\∀y,y<n->((ixF (fv (fun y=>c.getD y 0) n) (c.getD y 0):Nat):Int)=c.getD y 0
theorem SS {α:Type} [DecidableEq α] (f:Nat->α) (n:Nat) {c:List Int} (hl:c.length=n) (hc:∀y,y<n->c.getD y 0=((ixF (fv f n) (f y):Nat):Int)):PZ n c/\(fv (fun y=>c.getD y 0) n).length=(fv f n).length:=by
 have hmem:∀y,y<n->f y∈fv f n:=fun y hy=>(jI _ _ _).2 ⟨y,hy,rfl⟩
 have hinj:∀x y,x<n->y<n->(fun z:α=>((ixF (fv f n) z:Nat):Int)) (f x)=(fun z:α=>((ixF (fv f n) z:Nat):Int)) (f y)->f x=f y:=fun x y hx hy h=>by
  have h:ixF (fv f n) (f x)=ixF (fv f n) (f y):=Int.ofNat.inj h
  have h1:=pG (hmem x hx)
  have h2:=pG (hmem y hy)
  rw[h,h2]at h1
  exact(Option.some.inj h1).symm
 have hcong:∀k,k<=n->fv (fun y=>c.getD y 0) k=fv (fun y=>(fun z:α=>((ixF (fv f n) z:Nat):Int)) (f y)) k:=by
  intro k
  induction k with
  | zero=>intro _;rfl
  | succ k ih=>
   intro hk
   show fG _ (c.getD k 0)=fG _ ((ixF (fv f n) (f k):Nat):Int)
   rw[ih (by omega),hc k (by omega)]
 have hm:=XU f (fun z:α=>((ixF (fv f n) z:Nat):Int)) n hinj
 have hV:fv (fun y=>c.getD y 0) n=(fv f n).map (fun z:α=>((ixF (fv f n) z:Nat):Int)):=by rw[hcong n (Nat.le_refl _),hm]
 have hnd:((fv f n).map (fun z:α=>((ixF (fv f n) z:Nat):Int))).Nodup:=by rw[<-hV];exact yM _ _
 refine⟨⟨hl,fun y hy=>?_⟩,by rw[hV];simp⟩
 rw[hV,hc y hy]
 have:=qI (g:=fun z:α=>((ixF (fv f n) z:Nat):Int)) hnd (hmem y hy)
 rw[this]
theorem DP {nx:List (List Int)} {c:List Int} {y:Nat} (hy:y<nx.length):(rfN nx c).getD y 0=((ixF (fv (eL nx c) nx.length) (eL nx c y):Nat):Int):=by
 unfold rfN lB
 rw[List.getD,List.getElem?_map,List.getElem?_range hy,Option.map_some,Option.getD_some]
 rw[NP (eL nx c)]
 rfl
theorem BQ (nx:List (List Int)) (c:List Int):PZ nx.length (rfN nx c)/\(fv (fun y=>(rfN nx c).getD y 0) nx.length).length=(fv (eL nx c) nx.length).length:=
 SS (eL nx c) nx.length (rK nx c) fun y hy=>DP hy
theorem aBP {D:DF} {y:Nat} (hy:y<D.nx.length):(kE D).getD y 0=if D.fi.getD y false=D.fi.getD 0 false then 0 else 1:=by
 unfold kE
 rw[List.getD,List.getElem?_map,List.getElem?_range hy,Option.map_some,Option.getD_some]
theorem L7 (D:DF):PZ D.nx.length (kE D):=by
 have hs:∀k,k<=D.nx.length->fv (fun y=>(kE D).getD y 0) k=[]\/fv (fun y=>(kE D).getD y 0) k=[0]\/fv (fun y=>(kE D).getD y 0) k=[0,1]:=by
  intro k
  induction k with
  | zero=>intro _;exact .inl rfl
  | succ k ih=>
   intro hk
   have hb:=aBP (D:=D) (y:=k) (by omega)
   show fG _ ((kE D).getD k 0)=_\/fG _ ((kE D).getD k 0)=_\/fG _ ((kE D).getD k 0)=_
   have h01:(kE D).getD k 0=0\/(kE D).getD k 0=1:=by
    rw[hb];split
    ·exact .inl rfl
    ·exact .inr rfl
   rcases ih (by omega) with h | h | h
   ·have hk0:k=0:=by
     rcases Nat.eq_zero_or_pos k with q | q
     ·exact q
     ·have:(kE D).getD 0 0∈fv (fun y=>(kE D).getD y 0) k:=(jI _ _ _).2 ⟨0,q,rfl⟩
      rw[h]at this;cases this
    subst hk0
    rw[h,hb,if_pos rfl];exact .inr (.inl rfl)
   ·rw[h]
    rcases h01 with e | e<;>rw[e]
    ·exact .inr (.inl rfl)
    ·exact .inr (.inr rfl)
   ·rw[h]
    rcases h01 with e | e<;>rw[e]
    ·exact .inr (.inr rfl)
    ·exact .inr (.inr rfl)
 refine⟨gN D 0,fun y hy=>?_⟩
 have hm:(kE D).getD y 0∈fv (fun y=>(kE D).getD y 0) D.nx.length:=(jI _ _ _).2 ⟨y,hy,rfl⟩
 rcases hs D.nx.length (Nat.le_refl _) with h | h | h
 ·rw[h]at hm;cases hm
 ·rw[h]at hm ⊢
  simp only[List.mem_singleton]at hm
  rw[hm];rfl
 ·rw[h]at hm ⊢
  simp only[List.mem_cons,List.not_mem_nil,or_false]at hm
  rcases hm with hm | hm<;>rw[hm]<;>rfl
theorem J6 (D:DF):∀k,PZ D.nx.length (dA D k)
 | 0=>L7 D
 | k+1=>(BQ D.nx (dA D k)).1
def SM (D:DF) (k:Nat):Nat:=(fv (fun y=>(dA D k).getD y 0) D.nx.length).length
theorem SL {D:DF} {k:Nat} (h:dA D (k+1)≠dA D k):SM D k<SM D (k+1):=by
 have h1:=BQ D.nx (dA D k)
 have e1:SM D (k+1)=(fv (eL D.nx (dA D k)) D.nx.length).length:=h1.2
 have hle:=XT (eL D.nx (dA D k)) (fun l=>l.headD 0) D.nx.length
 have hh:(fun y=>(eL D.nx (dA D k) y).headD 0)=fun y=>(dA D k).getD y 0:=rfl
 have e0:SM D k=(fv (fun y=>(eL D.nx (dA D k) y).headD 0) D.nx.length).length:=rfl
 rw[e0,e1]
 rcases Nat.lt_or_eq_of_le hle with q | q
 ·exact q
 ·exfalso
  have hm:=LP (eL D.nx (dA D k)) (fun l=>l.headD 0) D.nx.length q
  apply h
  have hc:=J6 D k
  show rfN D.nx (dA D k)=dA D k
  refine List.ext_getElem? fun y=>?_
  by_cases hy:y<D.nx.length
  ·have hl1:y<(rfN D.nx (dA D k)).length:=by rw[rK];exact hy
   have hl2:y<(dA D k).length:=by rw[hc.1];exact hy
   have a1:=DP (nx:=D.nx) (c:=dA D k) hy
   have a2:=hc.2 y hy
   have hmem:eL D.nx (dA D k) y∈fv (eL D.nx (dA D k)) D.nx.length:=(jI _ _ _).2 ⟨y,hy,rfl⟩
   have hnd:((fv (eL D.nx (dA D k)) D.nx.length).map (fun l=>l.headD 0)).Nodup:=by rw[<-hm];exact yM _ _
   have hi:=qI (g:=fun l:List Int=>l.headD 0) hnd hmem
   rw[<-hm]at hi
   have hi':ixF (fv (fun y=>(dA D k).getD y 0) D.nx.length) ((dA D k).getD y 0)=ixF (fv (eL D.nx (dA D k)) D.nx.length) (eL D.nx (dA D k) y):=hi
   rw[<-hi',a2]at a1
   rw[List.getD,List.getD,List.getElem?_eq_getElem hl1,List.getElem?_eq_getElem hl2]at a1
   rw[List.getElem?_eq_getElem hl1,List.getElem?_eq_getElem hl2]
   simpa using a1
  ·rw[List.getElem?_eq_none (by rw[rK];omega),List.getElem?_eq_none (by rw[hc.1];omega)]
theorem BO {D:DF} (h0:0<D.nx.length):∀{m:Nat},(∀j,j<m->dA D (j+1)≠dA D j)->m+1<=SM D m
 | 0,_=>by
  have:(dA D 0).getD 0 0∈fv (fun y=>(dA D 0).getD y 0) D.nx.length:=(jI _ _ _).2 ⟨0,h0,rfl⟩
  exact List.length_pos_of_mem this
 | m+1,h=>by
  have ih:=BO h0 (m:=m) fun j hj=>h j (by omega)
  have:=SL (h m (by omega))
  omega
theorem J5 {D:DF} (h0:0<D.nx.length) {m:Nat} (h:∀j,j<m->dA D (j+1)≠dA D j):m<D.nx.length:=by
 have h1:=BO h0 h
 have h2:SM D m<=D.nx.length:=XS _ _
 omega
open Go.Am renaming lF->P1,tB->P2,PKNo->P3,ppack->P4,PObj.under->P5,pput->P6,ptset->P7,ptget->P8,pev->P9,ofAV->P10,ofAV1->P11,ppad->P12,pfill->P13,eZ->P14,AO.effect->P15
open List renaming replicate->L1
open Nat renaming reduceAdd->N1,reduceSub->N2,reduceMul->N3,reduceLT->N4,reduceLeDiff->N5,reduceEqDiff->N6,reduceBEq->N7
open Int renaming reduceToNat->I1,reduceLT->I2,reduceLE->I3,reduceEq->I4,reduceAdd->I5,reduceSub->I6,reduceNeg->I7
def nN (A:Mem) (f1 o1 f2 o2 f3 o3 f o:Bool) (D:DF) (v1 v2 k:Nat) (u:Int):Mem:=
 A++[.cells 0 v1 [p64 D.vs,p64 D.st,slR f1 o1 f2 o2 .i64 D.nx,slB f3 o3 D.fi,p64 k,slI f o .i64 (dA D k)],.cells 0 v2 [.iface 122 (.ptr A.length 0 0),p64 u]]
def StM (A:Mem) (D:DF) (m:Nat) (M:Mem):Prop:=
 (∀j,j<m->dA D (j+1)≠dA D j)/\∃(f1 o1 f2 o2 f3 o3 f o:Bool) (v1 v2:Nat),M=nN A f1 o1 f2 o2 f3 o3 f o D v1 v2 m m
section
variable {tab:FuncId->Option AF} (T:HasA tab)
include T
set_option maxHeartbeats 1000000 in
theorem yY {M:Mem} {K:PV->Mem->Prop} {f o f2 o2:Bool} {rs:List (List Int)} (hm:rs.length<big) (hr:∀r∈rs,r.length<big) (hk:K (slR false true false true .i64 rs) M):SemC tab 57 [slR f o f2 o2 .i64 rs] M K:=by
 have hb:rs.length<1000000000000:=hm
 refine fD T.h57 (by simp only[PP,P1,P2,P14,P15,N1,N2,N3,N4,N5,N6,N7,I1,I2,I3,I4,I5,I6,I7,reduceIte,reduceCtorEq]) ?_
 simp only[af57]
 refine bL (bD ?_)
 simp only[PP,P1,P2,P14,P15,N1,N2,N3,N4,N5,N6,N7,I1,I2,I3,I4,I5,I6,I7,reduceIte,reduceCtorEq]
 refine d8 (GStep.nil 2 1 rfl rfl rfl) ?_
 refine bD ?_
 simp only[PP,P1,P2,P14,P15,N1,N2,N3,N4,N5,N6,N7,I1,I2,I3,I4,I5,I6,I7,reduceIte,reduceCtorEq]
 refine iF (fun(k:Nat) (g:Nat)=>k<=rs.length) (fun k g=>(.junk:: .junk:: .ref 0 g 1 0 k:: .junk:: .junk::slR f o f2 o2 .i64 rs::p64 rs.length::p64 k::zj 10)) (fun k g=>[.cells g 0 ((rs.take k).map (slI false true .i64))]) (fun k _=>rs.length-k) 0 0 (by omega) (by simp only[PW]) rfl ?_
 intro k g hk' ih
 refine bZ (by kernel_rfl) ?_
 simp only[PP,P1,P2,P14,P15,N1,N2,N3,N4,N5,N6,N7,I1,I2,I3,I4,I5,I6,I7,reduceIte,reduceCtorEq]
 refine QIf.intro (fun c=>?_) (fun c=>?_)
 rotate_left
 ·obtain rfl:k=rs.length:=by omega
  have hfz:yN (some (PObj.cells g 0 ((rs.take rs.length).map (slI false true .i64)))) g 1 0 rs.length=some (slR false true false true .i64 rs):=by
   rw[List.take_length,hU (by simp) (cI _ _ _ _ _),dJ _ _ (by simp)]
  simp only[PP,P1,P2,P14,P15,N1,N2,N3,N4,N5,N6,N7,I1,I2,I3,I4,I5,I6,I7,reduceIte,reduceCtorEq,c,hfz]
  exact hk
 have hlt:k<rs.length:=by omega
 have hw:=bG (k:=k) (by show _<1000000000000;omega)
 have i0:(0:Int)<=k:=by omega
 have b1:(k+1)*24<=140737488355328:=by omega
 have b2:k+1<=9223372036854775807:=by omega
 have b3:k<=((rs.take k)).length:=by rw[List.length_take];omega
 obtain⟨x,gx⟩:=bY hlt
 simp only[PP,P1,P2,P14,P15,N1,N2,N3,N4,N5,N6,N7,I1,I2,I3,I4,I5,I6,I7,reduceIte,reduceCtorEq,c,i0,gx]
 refine mU T (hr x (List.mem_of_getElem? gx)) ?_
 simp only[PP,P1,P2,P14,P15,N1,N2,N3,N4,N5,N6,N7,I1,I2,I3,I4,I5,I6,I7,reduceIte,reduceCtorEq,b1,b2,b3,hw]
 refine dR (ih (k+1) (g+1) (by omega) (by omega)) (by simp only[PW]) ?_
 rw[dJ _ _ (by simp;omega),iB gx];simp
theorem CR {M:Mem} {K:PV->Mem->Prop} {f o:Bool} {xs:List Bool} (hm:xs.length<big) (hk:K (slB false true xs) M):SemC tab 58 [slB f o xs] M K:=by
 have hb:xs.length<1000000000000:=hm
 have b1:xs.length<=140737488355328:=by omega
 have b2:xs.length<=9223372036854775807:=by omega
 refine j4 (a8 T.h58 (by simp only[PP,P1,P2,P14,P15,N1,N2,N3,N4,N5,N6,N7,I1,I2,I3,I4,I5,I6,I7,reduceIte,reduceCtorEq]) ?_)
 simp only[af58,PP,P1,P2,P14,P15,N1,N2,N3,N4,N5,N6,N7,I1,I2,I3,I4,I5,I6,I7,reduceIte,reduceCtorEq]
 refine QIf.intro (fun c=>?_) (fun c=>?_)
 ·have:xs=[]:=List.length_eq_zero_iff.1 c
  subst this
  constructor
  ·simp only[PP,P1,P2,P14,P15,N1,N2,N3,N4,N5,N6,N7,I1,I2,I3,I4,I5,I6,I7,reduceIte,reduceCtorEq]
   exact⟨_,PvWk.nils _ _ _,hk⟩
  ·simp only[PP,P1,P2,P14,P15,N1,N2,N3,N4,N5,N6,N7,I1,I2,I3,I4,I5,I6,I7,reduceIte,reduceCtorEq]
   exact⟨_,PvWk.sl _ _ _ _,hk⟩
 ·simp only[PP,P1,P2,P14,P15,N1,N2,N3,N4,N5,N6,N7,I1,I2,I3,I4,I5,I6,I7,reduceIte,reduceCtorEq,c,b1,b2]
  exact⟨_,PvWk.refl _,hk⟩
set_option maxHeartbeats 1000000 in
theorem aDg {A:Mem} {K:PV->Mem->Prop} {f1 o1 f2 o2 f3 o3:Bool} {D:DF} (hc:eP D=0) (B:BnD D) (h99:D.nx.length<=99)
  (hk:∀Y v,bH (A.length+1) Y=true->K (.ptr (A.length+1) 0 0) (A++[Y,.cells 0 v [p64 D.vs,p64 D.st,slR false true false true .i64 D.nx,slB false true D.fi,p64 (0:Nat),slI false true .i64 (dA D 0)]])):
  SemC tab 93 [.agg (dfC f1 o1 f2 o2 f3 o3 D)] A K:=by
 refine cK T.h93 ?_
 simp only[af93,PP,P1,P2,P14,P15,N1,N2,N3,N4,N5,N6,N7,I1,I2,I3,I4,I5,I6,I7,reduceIte,reduceCtorEq,gk,gk0,sk,sk0]
 refine yY T B.n B.r ?_
 simp only[PP,P1,P2,P14,P15,N1,N2,N3,N4,N5,N6,N7,I1,I2,I3,I4,I5,I6,I7,reduceIte,reduceCtorEq,gk,gk0,sk,sk0]
 refine CR T B.f ?_
 simp only[PP,P1,P2,P14,P15,N1,N2,N3,N4,N5,N6,N7,I1,I2,I3,I4,I5,I6,I7,reduceIte,reduceCtorEq,gk,gk0,sk,sk0,List.append_assoc]
 refine GF T B (fun _=>h99) (fun h=>absurd hc h) (fun _=>?_) (k:=0) (by omega)
 simp only[PP,P1,P2,P14,P15,N1,N2,N3,N4,N5,N6,N7,I1,I2,I3,I4,I5,I6,I7,reduceIte,reduceCtorEq,gk,gk0,sk,sk0,List.append_assoc]
 exact hk _ 1 (by simp[bH,aU,PV.under,cI,dT])
theorem UL {A:Mem} {K:PV->Mem->Prop} {f1 o1 f2 o2 f3 o3:Bool} {D:DF} (B:BnD D) (h99:eP D=0->D.nx.length<=99) (hA:A.all (bH A.length)=true)
  (hk1:eP D≠0->K (.tuple [.nilptr,p64 (eP D)]) A)
  (hk2:eP D=0->∀X Y v,bH (A.length+2) X=true->bH (A.length+2) Y=true->K (.tuple [.ptr (A.length+3) 0 0,p64 0]) (nN (A++[X,Y]) false true false true false true false true D v 0 0 0)):
  SemC tab 41 [.agg (dfC f1 o1 f2 o2 f3 o3 D)] A K:=by
 have hX:∀m,bH m (PObj.cells 0 0 (dfC f1 o1 f2 o2 f3 o3 D))=true:=fun m=>by simp[bH,aU,PV.under,cI,dT]
 refine gK (cK T.h41 ?_)
 simp only[af41,PP,P1,P2,P14,P15,N1,N2,N3,N4,N5,N6,N7,I1,I2,I3,I4,I5,I6,I7,reduceIte,reduceCtorEq,gk0,sk0]
 refine IH T B ?_
 by_cases hc:eP D=0
 rotate_left
 ·simp only[PP,P1,P2,P14,P15,N1,N2,N3,N4,N5,N6,N7,I1,I2,I3,I4,I5,I6,I7,reduceIte,reduceCtorEq,hc]
  refine Gh.step (GStep.dropM (b:=[.tuple [.nilptr,p64 (eP D)]]) (N:=A) A.length (Nat.le_refl _) (by simp) (by simp only[PW]) (by simp[aU,PV.under]) ?_ (List.take_left' rfl)) (Gh.same ⟨_,rfl,hk1 hc⟩)
  exact(congrArg (fun M:Mem=>M.all (bH A.length)) (List.take_left' rfl)).trans hA
 simp only[PP,P1,P2,P14,P15,N1,N2,N3,N4,N5,N6,N7,I1,I2,I3,I4,I5,I6,I7,reduceIte,reduceCtorEq,hc,gk0,sk0]
 refine aDg T hc B (h99 hc) fun Y v hY=>?_
 have h:=hk2 hc (.cells 0 0 (dfC f1 o1 f2 o2 f3 o3 D)) Y v (hX _) (by simpa using hY)
 simp only[PP,P1,P2,P14,P15,N1,N2,N3,N4,N5,N6,N7,I1,I2,I3,I4,I5,I6,I7,reduceIte,reduceCtorEq,gk,gk0,sk,sk0,dZ,eE,dK,List.append_assoc]
 unfold nN at h
 simp only[List.append_assoc,List.cons_append,List.nil_append,List.length_append,List.length_cons,List.length_nil,Nat.zero_add,Nat.reduceAdd]at h
 exact Gh.same ⟨_,rfl,h⟩
theorem HA {A:Mem} {K:PV->Mem->Prop} {f1 o1 f2 o2 f3 o3 f o:Bool} {D:DF} {v1 v2 k:Nat} {u:Int} (hc:eP D=0) (B:BnD D) (h99:D.nx.length<=99) (hkk:k+1<1000000000000)
  (hk:K (slI false true .i64 (dA D (k+1))) (nN A f1 o1 f2 o2 f3 o3 f o D v1 v2 k u)):SemC tab 262 [.ptr A.length 0 0] (nN A f1 o1 f2 o2 f3 o3 f o D v1 v2 k u) K:=by
 have hw:=bG (k:=k) (by show _<1000000000000;omega)
 refine cK T.h262 ?_
 unfold nN at hk ⊢
 simp only[af262,PP,P1,P2,P14,P15,N1,N2,N3,N4,N5,N6,N7,I1,I2,I3,I4,I5,I6,I7,reduceIte,reduceCtorEq,gk,gk0,sk,sk0,hw]
 refine GF T B (fun _=>h99) (fun h=>absurd hc h) (fun _=>?_) (k:=k+1) hkk
 simp only[PP,P1,P2,P14,P15,N1,N2,N3,N4,N5,N6,N7,I1,I2,I3,I4,I5,I6,I7,reduceIte,reduceCtorEq]
 exact hk
theorem XG {A:Mem} {D:DF} (hc:eP D=0) (B:BnD D) (h99:D.nx.length<=99):
  JobK tab (A.length+1) A.length 122 261 260 10 (fun m=>dA D (m+1)=dA D m) (fun _=>False) (fun m=> !decide (dA D (m+1)=dA D m)) (StM A D) where
 job:=by
  rintro m M ⟨_,f1,o1,f2,o2,f3,o3,f,o,v1,v2,rfl⟩
  exact⟨v2,by unfold nN;rw[gk];rfl⟩
 sm:=by
  rintro m M ⟨h,_⟩
  have:=J5 (okD_iff.1 hc).n0 h
  omega
 unit:=by
  rintro m M ⟨h,f1,o1,f2,o2,f3,o3,f,o,v1,v2,rfl⟩ K k1 k2 k3
  have hlt:=J5 (okD_iff.1 hc).n0 h
  have hw:=bG (k:=m) (by show _<1000000000000;omega)
  refine cK T.h261 ?_
  simp only[af261,PP,P1,P2,P14,P15,N1,N2,N3,N4,N5,N6,N7,I1,I2,I3,I4,I5,I6,I7,reduceIte,reduceCtorEq]
  refine HA T hc B h99 (by omega) ?_
  unfold nN
  simp only[PP,P1,P2,P14,P15,N1,N2,N3,N4,N5,N6,N7,I1,I2,I3,I4,I5,I6,I7,reduceIte,reduceCtorEq,gk,gk0,sk,sk0]
  refine J3 T (by rw[gN];exact B.n) ?_
  by_cases e:dA D (m+1)=dA D m
  ·simp only[PP,P1,P2,P14,P15,N1,N2,N3,N4,N5,N6,N7,I1,I2,I3,I4,I5,I6,I7,reduceIte,reduceCtorEq,e]
   exact k1 e _ ⟨h,f1,o1,f2,o2,f3,o3,f,o,v1,v2,rfl⟩
  ·simp only[PP,P1,P2,P14,P15,N1,N2,N3,N4,N5,N6,N7,I1,I2,I3,I4,I5,I6,I7,reduceIte,reduceCtorEq,e,gk,gk0,sk,sk0,hw]
   refine k3 e (fun q=>q) _ v2 (by rw[gk];rfl) ⟨fun j hj=>?_,f1,o1,f2,o2,f3,o3,false,true,v1+1+1,v2+1,?_⟩
   ·by_cases q:j=m
    ·subst q;exact e
    ·exact h j (by omega)
   ·unfold nN;rw[sk];rfl
 left:=by
  rintro m M ⟨h,f1,o1,f2,o2,f3,o3,f,o,v1,v2,rfl⟩ K k
  have hlt:=J5 (okD_iff.1 hc).n0 h
  refine cK T.h260 ?_
  simp only[af260,PP,P1,P2,P14,P15,N1,N2,N3,N4,N5,N6,N7,I1,I2,I3,I4,I5,I6,I7,reduceIte,reduceCtorEq]
  refine HA T hc B h99 (by omega) ?_
  have hk:=k _ ⟨h,f1,o1,f2,o2,f3,o3,f,o,v1,v2,rfl⟩
  unfold nN at hk ⊢
  simp only[PP,P1,P2,P14,P15,N1,N2,N3,N4,N5,N6,N7,I1,I2,I3,I4,I5,I6,I7,reduceIte,reduceCtorEq,gk,gk0,sk,sk0]
  refine J3 T (by rw[gN];exact B.n) ?_
  simp only[PP,P1,P2,P14,P15,N1,N2,N3,N4,N5,N6,N7,I1,I2,I3,I4,I5,I6,I7,reduceIte,reduceCtorEq]
  exact hk
 meth:= .inr (.inl ⟨rfl,rfl,rfl⟩)
end
abbrev msM (b:Nat) (f1 o1 f2 o2 f3 o3 f4 o4:Bool) (ow pr:List Int) (su:List (List Int)) (ms:List Ms) (v1 v2 v3:Nat) (d:Bool) (u:Int):Mem:=
 [.cells 0 v1 [slI f1 o1 .u8 ow,slI f2 o2 .i64 pr,slR f3 o3 f4 o4 .i64 su,.ref (b+2) 0 9 0 ow.length,.bool d],.gone,.cells 0 v2 (msL ms),.cells 0 v3 [.iface 125 (.ptr b 0 0),p64 u]]
def jJ (A:Mem) (f1 o1 f2 o2 f3 o3 f4 o4:Bool) (ow pr:List Int) (su:List (List Int)) (ms:List Ms) (v1 v2 v3:Nat) (b:Bool) (u:Int):Mem:=
 A++msM A.length f1 o1 f2 o2 f3 o3 f4 o4 ow pr su ms v1 v2 v3 b u
theorem EY {ns:List Nat} {x y:Ms} (hx:x.Ok ns) (hy:y.Ok ns):vP x y<=0↔x.num ns<=y.num ns:=by
 rw[wG hx hy]
 have:= @oU (x.num ns) (y.num ns)
 omega
section
variable {tab:FuncId->Option AF} (T:HasA tab)
include T
theorem ON {M:Mem} {K:PV->Mem->Prop} {f1 o1 f2 o2 f3 o3 f4 o4:Bool} {ow pr:List Int} {su:List (List Int)} {ms:List Ms} {id ver v:Nat} (hM:M[id]? =some (.cells 0 ver (msL ms))) (c1:dU ow pr su=0) (B:Bnd ow pr su) (hS:StOk (cA pr) ow.length ms) (hv:v<ow.length)
  (hk:∀y,y.Ok (cA pr)->y.num (cA pr)=gL ow pr su (Nf (cA pr) ms) v->K (.tuple [.agg (msC y),p64 0]) M):
  SemC tab 266 [gmP f1 o1 f2 o2 f3 o3 f4 o4 ow pr su,.ref id 0 9 0 ow.length,p64 v] M K:=by
 have V:=l8 c1
 have n1:=V.n1
 have hl:=hS.l
 have bor:PBor M [gmP f1 o1 f2 o2 f3 o3 f4 o4 ow pr su,.ref id 0 9 0 ow.length,p64 v] [gmP f1 o1 f2 o2 f3 o3 f4 o4 ow pr su,slM true false ms,p64 v]:=by
  refine .same (by simp only[PP,P1,P2,P14,P15,N1,N2,N3,N4,N5,N6,N7,I1,I2,I3,I4,I5,I6,I7,reduceIte,reduceCtorEq]) ?_
  rw[<-hl]
  exact .ref hM (by rw[aQ];omega) (aO _ _) (iZ ms) (.same (by simp only[PP,P1,P2,P14,P15,N1,N2,N3,N4,N5,N6,N7,I1,I2,I3,I4,I5,I6,I7,reduceIte,reduceCtorEq]) .nil)
 refine sK bor (aEk T B (by omega) (fun y e hA=>⟨by simp only[PV.flat,PV.flatA,PV.flat1,rO,List.all_cons,List.all_nil,Bool.and_self],?_⟩))
 rcases hA with⟨a1,_⟩ | ⟨_,a2,_⟩ | ⟨_,_,a3,_⟩ | ⟨_,_,a4,_⟩ | ⟨_,_,_,_,a5,a6,rfl⟩
 ·exact absurd c1 a1
 ·exact absurd hl a2
 ·exact absurd hS.ok a3
 ·omega
 ·exact hk y a5 (by simpa using a6)
set_option maxHeartbeats 1000000 in
theorem aFc {A G:Mem} {K:PV->Mem->Prop} {f1 o1 f2 o2 f3 o3 f4 o4:Bool} {ow pr:List Int} {su:List (List Int)} {ms:List Ms} {v1 v2 v3:Nat} {b:Bool} {u:Int} (c1:dU ow pr su=0) (B:Bnd ow pr su) (hS:StOk (cA pr) ow.length ms)
  (hk:∀r G',(r=false↔uB ow.length (gL ow pr su) (Nf (cA pr) ms))->K (.bool r) (A++(msM A.length f1 o1 f2 o2 f3 o3 f4 o4 ow pr su ms v1 v2 v3 b u++G'))):
  SemC tab 263 [.ptr A.length 0 0] (A++(msM A.length f1 o1 f2 o2 f3 o3 f4 o4 ow pr su ms v1 v2 v3 b u++G)) K:=by
 have V:=l8 c1
 have n1:=V.n1
 have hl:=hS.l
 refine cK T.h263 ?_
 simp only[af263,PP,P1,P2,P14,P15,N1,N2,N3,N4,N5,N6,N7,I1,I2,I3,I4,I5,I6,I7,reduceIte,reduceCtorEq,gk,gk0,sk,sk0]
 refine iF (fun(i:Nat) (G:Mem)=>i<=ow.length/\∀v,v<i->gL ow pr su (Nf (cA pr) ms) v<=Nf (cA pr) ms v) (fun i G=>(.ptr A.length 0 0::zj 9++p64 ow.length::p64 i::zj 26))
  (fun i G=>A++(msM A.length f1 o1 f2 o2 f3 o3 f4 o4 ow pr su ms v1 v2 v3 b u++G)) (fun i G=>ow.length-i) 0 G ⟨by omega,fun v h=>by omega⟩ (by simp only[PW]) rfl ?_
 intro i G ⟨hi,hp⟩ ih
 refine bZ (by kernel_rfl) ?_
 simp only[PP,P1,P2,P14,P15,N1,N2,N3,N4,N5,N6,N7,I1,I2,I3,I4,I5,I6,I7,reduceIte,reduceCtorEq]
 refine QIf.intro (fun c=>?_) (fun c=>?_)
 rotate_left
 ·obtain rfl:i=ow.length:=by omega
  simp only[PP,P1,P2,P14,P15,N1,N2,N3,N4,N5,N6,N7,I1,I2,I3,I4,I5,I6,I7,reduceIte,reduceCtorEq,c]
  exact hk false G ⟨fun _=>hp,fun _=>rfl⟩
 have hlt:i<ow.length:=by omega
 have i0:(0:Int)<=i:=by omega
 have hw:=bG (k:=i) (by show _<1000000000000;omega)
 obtain⟨x,gx⟩:=bY (xs:=ms) (k:=i) (by omega)
 have hx:=hS.ok x (List.mem_of_getElem? gx)
 have hps:=hP gx
 have hln9:i*9+9<=ms.length*9:=by omega
 simp only[PP,P1,P2,P14,P15,N1,N2,N3,N4,N5,N6,N7,I1,I2,I3,I4,I5,I6,I7,reduceIte,reduceCtorEq,c,gk,gk0,sk,sk0,List.append_assoc]
 refine ON T (by rw[gk];rfl) c1 B hS hlt fun y hy hn=>?_
 simp only[PP,P1,P2,P14,P15,N1,N2,N3,N4,N5,N6,N7,I1,I2,I3,I4,I5,I6,I7,reduceIte,reduceCtorEq,aP,aS,aR,aC,bK,aL,aE,z9,z9t,aQ,aO,aT,aM,aJ,aN,aK,aH,aF,aB,aD,aA,z8,aG,aY,aI,aX,aW,aV,c,i0,gk,gk0,sk,sk0,List.append_assoc]
 rw[hps]
 refine⟨hln9,?_⟩
 refine kW T ?_
 have hcx:=EY hy hx
 rw[hn,<-sN gx]at hcx
 by_cases d:vP y x<=0
 ·have d':¬0<vP y x:=by omega
  simp only[PP,P1,P2,P14,P15,N1,N2,N3,N4,N5,N6,N7,I1,I2,I3,I4,I5,I6,I7,reduceIte,reduceCtorEq,d',hw]
  refine bB (ih (i+1) (G++[.cells 0 1 (msC y)]) ⟨by omega,fun v hv=>?_⟩ (by omega)) (by simp only[PW])
  by_cases q:v=i
  ·subst q;exact hcx.1 d
  ·exact hp v (by omega)
 ·have d':0<vP y x:=by omega
  simp only[PP,P1,P2,P14,P15,N1,N2,N3,N4,N5,N6,N7,I1,I2,I3,I4,I5,I6,I7,reduceIte,reduceCtorEq,d']
  refine hk true (G++[.cells 0 1 (msC y)]) ⟨fun h=>(by cases h),fun h=>?_⟩
  exact absurd (hcx.2 (h i hlt)) d
set_option maxHeartbeats 2000000 in
theorem aAw {A:Mem} {K:PV->Mem->Prop} {f1 o1 f2 o2 f3 o3 f4 o4:Bool} {ow pr:List Int} {su:List (List Int)} {ms:List Ms} {v1 v2 v3:Nat} {b:Bool} {u:Int} (hA:A.all (bH A.length)=true) (c1:dU ow pr su=0) (B:Bnd ow pr su) (hS:StOk (cA pr) ow.length ms)
  (hk1:uB ow.length (gL ow pr su) (Nf (cA pr) ms)->∀v1',K (.tuple [.bool false,p64 0]) (jJ A f1 o1 f2 o2 f3 o3 f4 o4 ow pr su ms v1' v2 v3 true u))
  (hk2:∀v y r v1' v2',FstN ow.length (gL ow pr su) (Nf (cA pr) ms) v->y.Ok (cA pr)->y.num (cA pr)=gL ow pr su (Nf (cA pr) ms) v->(r=true↔uB ow.length (gL ow pr su) (Nf (cA pr) (ms.set v y)))->K (.tuple [.bool true,p64 0]) (jJ A f1 o1 f2 o2 f3 o3 f4 o4 ow pr su (ms.set v y) v1' v2' v3 r u)):
  SemC tab 265 [.ptr A.length 0 0] (jJ A f1 o1 f2 o2 f3 o3 f4 o4 ow pr su ms v1 v2 v3 b u) K:=by
 have V:=l8 c1
 have n1:=V.n1
 have hl:=hS.l
 have hcut:∀(ms:List Ms) (v1 v2:Nat) (b:Bool),(jJ A f1 o1 f2 o2 f3 o3 f4 o4 ow pr su ms v1 v2 v3 b u).all (bH (A.length+4))=true:=fun ms v1 v2 b=>by
  unfold jJ
  rw[List.all_append,eD (by omega) hA]
  simp[bH,aU,PV.under,bW,cI,aO]
 have htake:∀(ms:List Ms) (v1 v2:Nat) (b:Bool) (G:Mem),(A++(msM A.length f1 o1 f2 o2 f3 o3 f4 o4 ow pr su ms v1 v2 v3 b u++G)).take (A.length+4)=jJ A f1 o1 f2 o2 f3 o3 f4 o4 ow pr su ms v1 v2 v3 b u:=fun ms v1 v2 b G=>by
  unfold jJ
  rw[<-List.append_assoc]
  exact List.take_left' (by simp)
 refine gK (jN T.h265 ?_)
 simp only[af265]
 refine bD ?_
 have hml:(jJ A f1 o1 f2 o2 f3 o3 f4 o4 ow pr su ms v1 v2 v3 b u).length=A.length+4:=by simp[jJ]
 rw[hml]
 unfold jJ at htake hcut ⊢
 simp only[msM,PP,P1,P2,P14,P15,N1,N2,N3,N4,N5,N6,N7,I1,I2,I3,I4,I5,I6,I7,reduceIte,reduceCtorEq,gk,gk0,sk,sk0]
 refine aEF (fun(i:Nat) (l:Bool) (ms':List Ms) (w2:Nat) (G:Mem)=>i<=ow.length/\StOk (cA pr) ow.length ms'/\(l=false->ms'=ms/\w2=v2/\∀v,v<i->gL ow pr su (Nf (cA pr) ms) v<=Nf (cA pr) ms v)/\(l=true->∃v y,FstN ow.length (gL ow pr su) (Nf (cA pr) ms) v/\y.Ok (cA pr)/\y.num (cA pr)=gL ow pr su (Nf (cA pr) ms) v/\ms'=ms.set v y))
  (fun i l ms' w2 G=>(.ptr A.length 0 0::zj 3++ .bool l::zj 10++p64 ow.length::p64 i::zj 45)) (fun i l ms' w2 G=>A++(msM A.length f1 o1 f2 o2 f3 o3 f4 o4 ow pr su ms' (v1+1) w2 v3 true u++G)) (fun i l ms' w2 G=>ow.length-i) 0 false ms v2 [] ⟨by omega,hS,fun _=>⟨rfl,rfl,fun v h=>by omega⟩,fun h=>by cases h⟩ (by simp only[PW]) (by rw[List.append_nil]) ?_
 intro i l ms' w2 G ⟨hi,hS',hf,ht⟩ ih
 have hl':=hS'.l
 refine bZ (by kernel_rfl) ?_
 simp only[PP,P1,P2,P14,P15,N1,N2,N3,N4,N5,N6,N7,I1,I2,I3,I4,I5,I6,I7,reduceIte,reduceCtorEq]
 refine QIf.intro (fun c=>?_) (fun c=>?_)
 ·have hlt:i<ow.length:=by omega
  have i0:(0:Int)<=i:=by omega
  have hw:=bG (k:=i) (by show _<1000000000000;omega)
  obtain⟨x,gx⟩:=bY (xs:=ms') (k:=i) (by omega)
  have hx:=hS'.ok x (List.mem_of_getElem? gx)
  have hps:=hP gx
  have hln9:i*9+9<=ms'.length*9:=by omega
  simp only[msM,PP,P1,P2,P14,P15,N1,N2,N3,N4,N5,N6,N7,I1,I2,I3,I4,I5,I6,I7,reduceIte,reduceCtorEq,c,gk,gk0,sk,sk0,List.append_assoc]
  refine ON T (by rw[gk];rfl) c1 B hS' hlt fun y hy hn=>?_
  simp only[PP,P1,P2,P14,P15,N1,N2,N3,N4,N5,N6,N7,I1,I2,I3,I4,I5,I6,I7,reduceIte,reduceCtorEq,aP,aS,aR,aC,bK,aL,aE,z9,z9t,aQ,aO,aT,aM,aJ,aN,aK,aH,aF,aB,aD,aA,z8,aG,aY,aI,aX,aW,aV,c,i0,gk,gk0,sk,sk0,List.append_assoc]
  rw[hps]
  refine⟨hln9,?_⟩
  refine kW T ?_
  have hcx:=EY hy hx
  rw[hn,<-sN gx]at hcx
  by_cases d:vP y x<=0
  ·simp only[PP,P1,P2,P14,P15,N1,N2,N3,N4,N5,N6,N7,I1,I2,I3,I4,I5,I6,I7,reduceIte,reduceCtorEq,d,hw]
   refine bB (ih (i+1) l ms' w2 (G++[.cells 0 1 (msC y)]) ⟨by omega,hS',fun q=>?_,ht⟩ (by omega)) (by simp only[PW])
   obtain⟨q1,q2,q3⟩:=hf q
   refine⟨q1,q2,fun v hv=>?_⟩
   by_cases e:v=i
   ·subst e;rw[<-q1];exact hcx.1 d
   ·exact q3 v (by omega)
  ·cases l with
   | true=>
    obtain⟨v,y2,p1,p2,p3,rfl⟩:=ht rfl
    simp only[PP,P1,P2,P14,P15,N1,N2,N3,N4,N5,N6,N7,I1,I2,I3,I4,I5,I6,I7,reduceIte,reduceCtorEq,d,gk,gk0,sk,sk0]
    refine Gh.step (GStep.dropM (b:=[.tuple [.bool true,p64 0]]) (N:=jJ A f1 o1 f2 o2 f3 o3 f4 o4 ow pr su (ms.set v y2) (v1+1+1) w2 v3 false u) (A.length+4) (Nat.le_refl _) (by simp) (by simp only[PW]) (by simp[aU,PV.under]) ?_ ?_) (Gh.same ⟨_,rfl,hk2 v y2 false _ _ p1 p2 p3 ⟨fun h=>(by cases h),fun h=>?_⟩⟩)
    ·exact(congrArg (fun M:Mem=>M.all (bH (A.length+4))) (htake (ms.set v y2) (v1+1+1) w2 false _)).trans (hcut ..)
    ·exact htake (ms.set v y2) (v1+1+1) w2 false _
    ·exact absurd (hcx.2 (h i hlt)) d
   | false=>
    obtain⟨rfl,rfl,q3⟩:=hf rfl
    have hpov:=B0 (l:=ms') y (k:=i) (by omega)
    simp only[PP,P1,P2,P14,P15,N1,N2,N3,N4,N5,N6,N7,I1,I2,I3,I4,I5,I6,I7,reduceIte,reduceCtorEq,aP,aS,aR,aC,bK,aL,aE,z9,z9t,aQ,aO,aT,aM,aJ,aN,aK,aH,aF,aB,aD,aA,z8,aG,aY,aI,aX,aW,aV,d,gk,gk0,sk,sk0,i0,c,hln9,hpov,hw]
    refine dR (ih (i+1) true (ms'.set i y) (w2+1) (G++[.cells 0 1 (msC y)]) ⟨by omega,hS'.set hy,⟨fun q=>Bool.noConfusion q,fun _=>⟨i,y,⟨hlt,?_,fun u hu=>q3 u hu⟩,hy,hn,rfl⟩⟩⟩ (by omega)) (by simp only[PW]) rfl
    have:=fun h=>d (hcx.2 h)
    omega
 ·obtain rfl:i=ow.length:=by omega
  cases l with
  | true=>
   obtain⟨v,y2,p1,p2,p3,rfl⟩:=ht rfl
   simp only[PP,P1,P2,P14,P15,N1,N2,N3,N4,N5,N6,N7,I1,I2,I3,I4,I5,I6,I7,reduceIte,reduceCtorEq,c,gk,gk0,sk,sk0]
   refine aFc T (G:=G) c1 B hS' fun r G' hr=>?_
   simp only[msM,PP,P1,P2,P14,P15,N1,N2,N3,N4,N5,N6,N7,I1,I2,I3,I4,I5,I6,I7,reduceIte,reduceCtorEq,gk,gk0,sk,sk0]
   refine Gh.step (GStep.dropM (b:=[.tuple [.bool true,p64 0]]) (N:=jJ A f1 o1 f2 o2 f3 o3 f4 o4 ow pr su (ms.set v y2) (v1+1+1) w2 v3 (!r) u) (A.length+4) (Nat.le_refl _) (by simp) (by simp only[PW]) (by simp[aU,PV.under]) ?_ ?_) (Gh.same ⟨_,rfl,hk2 v y2 (!r) _ _ p1 p2 p3 ?_⟩)
   ·exact(congrArg (fun M:Mem=>M.all (bH (A.length+4))) (htake (ms.set v y2) (v1+1+1) w2 (!r) _)).trans (hcut ..)
   ·exact htake (ms.set v y2) (v1+1+1) w2 (!r) _
   ·rw[<-hr];cases r<;>simp
  | false=>
   obtain⟨rfl,rfl,q3⟩:=hf rfl
   simp only[PP,P1,P2,P14,P15,N1,N2,N3,N4,N5,N6,N7,I1,I2,I3,I4,I5,I6,I7,reduceIte,reduceCtorEq,c,gk,gk0,sk,sk0]
   refine Gh.step (GStep.dropM (b:=[.tuple [.bool false,p64 0]]) (N:=jJ A f1 o1 f2 o2 f3 o3 f4 o4 ow pr su ms' (v1+1) w2 v3 true u) (A.length+4) (Nat.le_refl _) (by simp) (by simp only[PW]) (by simp[aU,PV.under]) ?_ ?_) (Gh.same ⟨_,rfl,hk1 q3 _⟩)
   ·exact(congrArg (fun M:Mem=>M.all (bH (A.length+4))) (htake ms' (v1+1) w2 true _)).trans (hcut ..)
   ·exact htake ms' (v1+1) w2 true _
end
theorem v7 {ms:List Ms} :∀v∈msL ms,(∃b,v= .bool b)\/∃n,v=p64 n:=fun v hv=>by
 unfold msL at hv
 obtain⟨x,_,h⟩:=List.mem_flatMap.1 hv
 rcases List.mem_cons.1 h with rfl | h
 ·exact .inl ⟨_,rfl⟩
 ·obtain⟨n,_,rfl⟩:=List.mem_map.1 h
  exact .inr ⟨n,rfl⟩
theorem F9 (k:Nat):∀{l:List PV},(∀v∈l,(∃b,v= .bool b)\/∃n,v=p64 n)->shL k l=l
 | [],_=>by simp[shL]
 | v::l,h=>by
  have h1:=F9 k (l:=l) fun x hx=>h x (by simp[hx])
  rcases h v (by simp) with⟨b,rfl⟩ | ⟨n,rfl⟩<;>simp[shL,PV.sh,h1]
theorem V7 (ms:List Ms):oD (msL ms)=true:=(s7 _).2 fun v hv=>by
 rcases v7 v hv with⟨b,rfl⟩ | ⟨n,rfl⟩<;>simp[PV.shOk]
theorem aCz (c:Nat):∀{ns:List Nat},(∀n∈ns,n<=c)->mT ns<=(c+1)^ns.length
 | [],_=>by simp[mT]
 | n::ns,h=>by
  have h1:=aCz c (ns:=ns) fun x hx=>h x (by simp[hx])
  have h2:=h n (by simp)
  show(n+1)*mT ns<=_
  rw[List.length_cons,Nat.pow_succ,Nat.mul_comm]
  exact Nat.mul_le_mul h1 (by omega)
theorem aAY (pr:List Int):∀n∈cA pr,n<=pr.length:=fun n hn=>by
 obtain⟨v,_,rfl⟩:=FQ hn
 exact List.count_le_length
theorem aEr {ow pr:List Int} {su:List (List Int)} (V:Valid ow pr su) (h:ow.length<=99) (m:Nat):rC ow.length (itN ow.length (gL ow pr su) m)<4000000000000000000:=by
 have h1:=NT (n:=ow.length) (m:=itN ow.length (gL ow pr su) m) (XO (AW V) m).bnd
 have h2:mT (cA pr)<=100^8:=by
  have:=aCz 99 (ns:=cA pr) fun n hn=>by
   have:=aAY pr n hn
   have:=V.p
   omega
  rw[mM]at this
  exact this
 have h3:=Nat.mul_le_mul h h2
 have h4:99*100^8<4000000000000000000:=by decide
 omega
def StP (A:Mem) (ow pr:List Int) (su:List (List Int)) (m:Nat) (M:Mem):Prop:=
 m<=rC ow.length (itN ow.length (gL ow pr su) m)/\∃(f1 o1 f2 o2 f3 o3 f4 o4:Bool) (ms:List Ms) (v1 v2 v3:Nat) (b:Bool),StOk (cA pr) ow.length ms/\Nf (cA pr) ms=itN ow.length (gL ow pr su) m/\(b=true↔uB ow.length (gL ow pr su) (itN ow.length (gL ow pr su) m))/\M=jJ A f1 o1 f2 o2 f3 o3 f4 o4 ow pr su ms v1 v2 v3 b m
open Classical in
noncomputable def aA0 (ow pr:List Int) (su:List (List Int)) (m:Nat):Bool:= !decide (uB ow.length (gL ow pr su) (itN ow.length (gL ow pr su) m))
theorem EK {A:Mem} {f1 o1 f2 o2 f3 o3 f4 o4:Bool} {ow pr:List Int} {su:List (List Int)} {ms:List Ms} {v1 v2 v3:Nat} {b:Bool} {u:Int} :(jJ A f1 o1 f2 o2 f3 o3 f4 o4 ow pr su ms v1 v2 v3 b u)[A.length+3]? =some (.cells 0 v3 [.iface 125 (.ptr A.length 0 0),p64 u]):=by unfold jJ;rw[gk];rfl
section
variable {tab:FuncId->Option AF} (T:HasA tab)
include T
theorem YA {M:Mem} {K:PV->Mem->Prop} {f o:Bool} {xs:List Int} (hm:xs.length<big) (hk:K (slI false true .u8 xs) M):SemC tab 158 [slI f o .u8 xs] M K:=by
 have hb:xs.length<1000000000000:=hm
 have b1:xs.length<=140737488355328:=by omega
 have b2:xs.length<=9223372036854775807:=by omega
 refine j4 (a8 T.h158 (by simp only[PP,P1,P2,P14,P15,N1,N2,N3,N4,N5,N6,N7,I1,I2,I3,I4,I5,I6,I7,reduceIte,reduceCtorEq]) ?_)
 simp only[af158,PP,P1,P2,P14,P15,N1,N2,N3,N4,N5,N6,N7,I1,I2,I3,I4,I5,I6,I7,reduceIte,reduceCtorEq]
 refine QIf.intro (fun c=>?_) (fun c=>?_)
 ·have:xs=[]:=List.length_eq_zero_iff.1 c
  subst this
  constructor
  ·simp only[PP,P1,P2,P14,P15,N1,N2,N3,N4,N5,N6,N7,I1,I2,I3,I4,I5,I6,I7,reduceIte,reduceCtorEq]
   exact⟨_,PvWk.nils _ _ _,hk⟩
  ·simp only[PP,P1,P2,P14,P15,N1,N2,N3,N4,N5,N6,N7,I1,I2,I3,I4,I5,I6,I7,reduceIte,reduceCtorEq]
   exact⟨_,PvWk.sl _ _ _ _,hk⟩
 ·simp only[PP,P1,P2,P14,P15,N1,N2,N3,N4,N5,N6,N7,I1,I2,I3,I4,I5,I6,I7,reduceIte,reduceCtorEq,c,b1,b2]
  exact⟨_,PvWk.refl _,hk⟩
theorem YT {M:Mem} {K:PV->Mem->Prop} {f1 o1 f2 o2 f3 o3 f4 o4:Bool} {ow pr:List Int} {su:List (List Int)} (B:Bnd ow pr su) (c1:dU ow pr su=0)
  (hk:∀ms b v,zO ow pr su 0 ms b 0->K (.tuple [.ref (M.length+1) 0 9 0 ow.length,.bool b,p64 0]) (M++[.gone,.cells 0 v (msL ms)])):
  SemC tab 159 [gmP f1 o1 f2 o2 f3 o3 f4 o4 ow pr su,p64 0] M K:=by
 refine ZO (args2:=[gmP f1 o1 f2 o2 f3 o3 f4 o4 ow pr su,p64 0]) (args3:=[gmP false false false false false false false false ow pr su,p64 0]) (.same (by simp only[PP,P1,P2,P14,P15,N1,N2,N3,N4,N5,N6,N7,I1,I2,I3,I4,I5,I6,I7,reduceIte,reduceCtorEq]) (.same (by simp only[PP,P1,P2,P14,P15,N1,N2,N3,N4,N5,N6,N7,I1,I2,I3,I4,I5,I6,I7,reduceIte,reduceCtorEq]) .nil)) ?_ ?_
 ·simp only[iM,PV.age,CW,YS,zE,List.map_cons,List.map_nil,PObj.mapC,slR]
 refine YU T B (by omega) c1 (by omega) fun ms b v X hA=>⟨[.gone,.cells 0 v (msL ms)],?_,by simp,by simp[PV.shOk,oD],by simp[aCt,V7],?_⟩
 ·intro i o h
  match i,h with
  | 0,h=>left;simpa using h.symm
  | 1,h=>right;simpa using h
  | i+2,h=>simp at h
 ·have:=hk ms b v hA
  rw[Nat.add_comm]at this
  simpa [PV.sh,shL,shO,F9 _ v7] using this
set_option maxHeartbeats 1000000 in
theorem aDf {A:Mem} {K:PV->Mem->Prop} {f1 o1 f2 o2 f3 o3 f4 o4:Bool} {ow pr:List Int} {su:List (List Int)} (B:Bnd ow pr su) (c1:dU ow pr su=0)
  (hk:∀Y v1 v2 ms b,bH (A.length+1) Y=true->zO ow pr su 0 ms b 0->K (.ptr (A.length+1) 0 0) (A++[Y,.cells 0 v1 [slI false true .u8 ow,slI false true .i64 pr,slR false true false true .i64 su,.ref (A.length+3) 0 9 0 ow.length,.bool b],.gone,.cells 0 v2 (msL ms)])):
  SemC tab 94 [gmP f1 o1 f2 o2 f3 o3 f4 o4 ow pr su] A K:=by
 refine cK T.h94 ?_
 simp only[af94,PP,P1,P2,P14,P15,N1,N2,N3,N4,N5,N6,N7,I1,I2,I3,I4,I5,I6,I7,reduceIte,reduceCtorEq,gk,gk0,sk,sk0]
 refine YA T B.o ?_
 simp only[PP,P1,P2,P14,P15,N1,N2,N3,N4,N5,N6,N7,I1,I2,I3,I4,I5,I6,I7,reduceIte,reduceCtorEq,gk,gk0,sk,sk0]
 refine mU T B.p ?_
 simp only[PP,P1,P2,P14,P15,N1,N2,N3,N4,N5,N6,N7,I1,I2,I3,I4,I5,I6,I7,reduceIte,reduceCtorEq,gk,gk0,sk,sk0]
 refine yY T B.s B.r ?_
 simp only[PP,P1,P2,P14,P15,N1,N2,N3,N4,N5,N6,N7,I1,I2,I3,I4,I5,I6,I7,reduceIte,reduceCtorEq,gk,gk0,sk,sk0,List.append_assoc]
 refine YT T B c1 fun ms b v hA=>?_
 simp only[PP,P1,P2,P14,P15,N1,N2,N3,N4,N5,N6,N7,I1,I2,I3,I4,I5,I6,I7,reduceIte,reduceCtorEq,aP,aS,aR,aC,bK,aL,aE,z9,z9t,aQ,aO,aT,aM,aJ,aN,aK,aH,aF,aB,aD,aA,z8,aG,aY,aI,aX,aW,aV,gk,gk0,sk,sk0,List.append_assoc]
 exact hk _ 2 v ms b (by simp[bH,aU,PV.under,bW,cI]) hA
theorem UK {A:Mem} {K:PV->Mem->Prop} {f1 o1 f2 o2 f3 o3 f4 o4:Bool} {ow pr:List Int} {su:List (List Int)} (B:Bnd ow pr su) (hA:A.all (bH A.length)=true)
  (hk1:dU ow pr su≠0->K (.tuple [.nilptr,p64 (dU ow pr su)]) A)
  (hk2:dU ow pr su=0->∀X Y v1 v2 ms b,bH (A.length+2) X=true->bH (A.length+2) Y=true->zO ow pr su 0 ms b 0->K (.tuple [.ptr (A.length+5) 0 0,p64 0]) (jJ (A++[X,Y]) false true false true false true false true ow pr su ms v1 v2 0 b 0)):
  SemC tab 42 [gmP f1 o1 f2 o2 f3 o3 f4 o4 ow pr su] A K:=by
 have hX:∀m,bH m (PObj.cells 0 0 [slI f1 o1 .u8 ow,slI f2 o2 .i64 pr,slR f3 o3 f4 o4 .i64 su])=true:=fun m=>by simp[bH,aU,PV.under,bW,cI]
 refine gK (cK T.h42 ?_)
 simp only[af42,PP,P1,P2,P14,P15,N1,N2,N3,N4,N5,N6,N7,I1,I2,I3,I4,I5,I6,I7,reduceIte,reduceCtorEq,gk0,sk0]
 refine EZ T B ?_
 by_cases hc:dU ow pr su=0
 rotate_left
 ·simp only[PP,P1,P2,P14,P15,N1,N2,N3,N4,N5,N6,N7,I1,I2,I3,I4,I5,I6,I7,reduceIte,reduceCtorEq,hc]
  refine Gh.step (GStep.dropM (b:=[.tuple [.nilptr,p64 (dU ow pr su)]]) (N:=A) A.length (Nat.le_refl _) (by simp) (by simp only[PW]) (by simp[aU,PV.under]) ?_ (List.take_left' rfl)) (Gh.same ⟨_,rfl,hk1 hc⟩)
  exact(congrArg (fun M:Mem=>M.all (bH A.length)) (List.take_left' rfl)).trans hA
 simp only[PP,P1,P2,P14,P15,N1,N2,N3,N4,N5,N6,N7,I1,I2,I3,I4,I5,I6,I7,reduceIte,reduceCtorEq,hc,gk0,sk0]
 refine aDf T B hc fun Y v1 v2 ms b hY hA=>?_
 have h:=hk2 hc (.cells 0 0 [slI f1 o1 .u8 ow,slI f2 o2 .i64 pr,slR f3 o3 f4 o4 .i64 su]) Y v1 v2 ms b (hX _) (by simpa using hY) hA
 simp only[PP,P1,P2,P14,P15,N1,N2,N3,N4,N5,N6,N7,I1,I2,I3,I4,I5,I6,I7,reduceIte,reduceCtorEq,gk,gk0,sk,sk0,dZ,eE,dK,List.append_assoc]
 unfold jJ at h
 simp only[msM,List.append_assoc,List.cons_append,List.nil_append,List.length_append,List.length_cons,List.length_nil,Nat.zero_add,Nat.reduceAdd]at h
 exact Gh.same ⟨_,rfl,h⟩
theorem SA {A:Mem} {ow pr:List Int} {su:List (List Int)} (hA:A.all (bH A.length)=true) (c1:dU ow pr su=0) (B:Bnd ow pr su) (h99:ow.length<=99):
  JobK tab (A.length+3) A.length 125 265 264 10 (fun m=>uB ow.length (gL ow pr su) (itN ow.length (gL ow pr su) m)) (fun _=>False) (aA0 ow pr su) (StP A ow pr su) where
 job:=by
  rintro m M ⟨_,f1,o1,f2,o2,f3,o3,f4,o4,ms,v1,v2,v3,b,_,_,_,rfl⟩
  exact⟨v3,EK⟩
 sm:=by
  rintro m M ⟨h,_⟩
  have:=aEr (l8 c1) h99 m
  omega
 unit:=by
  rintro m M ⟨h,f1,o1,f2,o2,f3,o3,f4,o4,ms,v1,v2,v3,b,hS,hN,hb,rfl⟩ K k1 k2 k3
  refine aAw T hA c1 B hS (fun hp v1'=>?_) (fun v y r v1' v2' hF hy hn hr=>?_)
  ·rw[hN]at hp
   exact k1 hp _ ⟨h,f1,o1,f2,o2,f3,o3,f4,o4,ms,v1',v2,v3,true,hS,hN,⟨fun _=>hp,fun _=>rfl⟩,rfl⟩
  ·have hv:v<ms.length:=by rw[hS.l];exact hF.1
   have hnx:Nf (cA pr) (ms.set v y)=itN ow.length (gL ow pr su) (m+1):=by
    show _=rG ow.length (gL ow pr su) (itN ow.length (gL ow pr su) m)
    rw[aAc hv,hn,hN,rF (by rw[<-hN];exact hF)]
   refine k3 (fun hp=>?_) (fun q=>q) _ v3 EK ⟨?_,f1,o1,f2,o2,f3,o3,f4,o4,ms.set v y,v1',v2',v3+1,r,hS.set hy,hnx,by rw[<-hnx];exact hr,?_⟩
   ·have:=hp v hF.1
    rw[<-hN]at this
    have:=hF.2.1
    omega
   ·have e:itN ow.length (gL ow pr su) (m+1)=m3 (itN ow.length (gL ow pr su) m) v (gL ow pr su (itN ow.length (gL ow pr su) m) v):=by
     show rG ow.length (gL ow pr su) (itN ow.length (gL ow pr su) m)=_
     exact rF (by rw[<-hN];exact hF)
    have hF2:=hF.2.1
    rw[hN]at hF2
    have:=FT (n:=ow.length) (m:=itN ow.length (gL ow pr su) m) (v:=v) (x:=gL ow pr su (itN ow.length (gL ow pr su) m) v) hF.1 hF2
    rw[e]
    omega
   ·unfold jJ;rw[sk];rfl
 left:=by
  rintro m M ⟨h,f1,o1,f2,o2,f3,o3,f4,o4,ms,v1,v2,v3,b,hS,hN,hb,rfl⟩ K k
  refine cK T.h264 ?_
  have hk:=k _ ⟨h,f1,o1,f2,o2,f3,o3,f4,o4,ms,v1,v2,v3,b,hS,hN,hb,rfl⟩
  have e:aA0 ow pr su m= !b:=by
   unfold aA0
   congr 1
   exact Bool.eq_iff_iff.2 (Iff.trans (@decide_eq_true_iff _ (Classical.propDecidable _)) hb.symm)
  rw[e]at hk
  unfold jJ at hk ⊢
  simp only[af264,msM,PP,P1,P2,P14,P15,N1,N2,N3,N4,N5,N6,N7,I1,I2,I3,I4,I5,I6,I7,reduceIte,reduceCtorEq,gk,gk0,sk,sk0]
  exact hk
 meth:= .inr (.inr ⟨rfl,rfl,rfl⟩)
end
theorem wJ (f o:Bool) (sz n:Nat) (cs:List PV):PV.age (.sl f o sz n cs)= .sl false false sz n (iM cs):=by simp[PV.age]
theorem MB (f o:Bool) (rs:List (List Int)):iM (rs.map (slI f o .i64))=rs.map (slI false false .i64):=by
 rw[jM,List.map_map]
 exact List.map_congr_left fun x _=>by
  show PV.age (slI f o .i64 x)=_
  unfold slI
  rw[wJ,CW]
theorem JK (f g:Bool) (rs:List (List Int)):PV.young (slR f true g true .i64 rs)=true:=by
 unfold slR
 rw[wM]
 exact(jO _).2 fun v hv=>by obtain⟨x,_,rfl⟩:=List.mem_map.1 hv;exact P0 _ _ _ _ _
theorem FD (f:Bool) (xs:List Bool):PV.young (slB f true xs)=true:=by
 unfold slB
 rw[wM]
 exact(jO _).2 fun v hv=>by obtain⟨x,_,rfl⟩:=List.mem_map.1 hv;exact wN _
theorem TV (f:Bool) (ms:List Ms):PV.young (slM f true ms)=true:=by
 unfold slM
 rw[wM]
 exact(jO _).2 fun v hv=>by rcases v7 v hv with⟨b,rfl⟩ | ⟨n,rfl⟩;exact wN _;exact QA _ _
theorem aBV (ms:List Ms):iM (msL ms)=msL ms:=by
 have h:∀l:List PV,(∀v∈l,(∃b,v= .bool b)\/∃n,v=p64 n)->iM l=l:=by
  intro l
  induction l with
  | nil=>intro _;simp[iM]
  | cons v l ih=>
   intro h
   have h1:=ih fun x hx=>h x (by simp[hx])
   rcases h v (by simp) with⟨b,rfl⟩ | ⟨n,rfl⟩<;>simp[iM,PV.age,h1]
 exact h _ v7
abbrev U1 (f:Bool) (vs:Int) (rows:List (List Int)) (fins:List Bool) (sets:List (List Int)) (cls:List Int) (ms:List Ms):PV:=
 .agg [p64 vs,p64 0,slR f true f true .i64 rows,slB f true fins,slR f true f true .i64 sets,slI f true .i64 cls,slM f true ms]
theorem JM {vs:Int} {a b c d e:PV} {rows:List (List Int)} {fins:List Bool} {sets:List (List Int)} {cls:List Int} {ms:List Ms} (h1:PvWk a (slR false true false true .i64 rows)) (h2:PvWk b (slB false true fins)) (h3:PvWk c (slR false true false true .i64 sets)) (h4:PvWk d (slI false true .i64 cls)) (h5:PvWk e (slM false true ms)):
  PvWk (.agg [p64 vs,p64 0,a,b,c,d,e]) (U1 false vs rows fins sets cls ms):=by
 refine PvWk.agg rfl fun i y z p q=>?_
 match i,p,q with
 | 0,p,q=>cases p;cases q;exact PvWk.refl _
 | 1,p,q=>cases p;cases q;exact PvWk.refl _
 | 2,p,q=>cases p;cases q;exact h1
 | 3,p,q=>cases p;cases q;exact h2
 | 4,p,q=>cases p;cases q;exact h3
 | 5,p,q=>cases p;cases q;exact h4
 | 6,p,q=>cases p;cases q;exact h5
 | i+7,p,q=>simp at p
section
variable {tab:FuncId->Option AF} (T:HasA tab)
include T
theorem CO {M:Mem} {K:PV->Mem->Prop} {id g v:Nat} {f o:Bool} {rs:List (List Int)} (hM:M[id]? =some (.cells g v (rs.map (slI f o .i64)))) (hm:rs.length<big) (hr:∀r∈rs,r.length<big) (hk:K (slR false true false true .i64 rs) M):SemC tab 57 [.ref id g 1 0 rs.length] M K:=by
 refine t7 (args2:=[.sl true false 1 rs.length (rs.map (slI f o .i64))]) (args3:=[slR false false false false .i64 rs]) (.ref hM (by simp) (cI _ _ _ _ _) (dJ _ _ (by simp)) .nil) ?_ (yY T hm hr ⟨JK _ _ _,hk⟩)
 simp only[iM,wJ,MB,slR]
theorem SR {M:Mem} {K:PV->Mem->Prop} {id g v:Nat} {xs:List Bool} (hM:M[id]? =some (.cells g v (xs.map PV.bool))) (hm:xs.length<big) (hk:K (slB false true xs) M):SemC tab 58 [.ref id g 1 0 xs.length] M K:=by
 refine t7 (args2:=[.sl true false 1 xs.length (xs.map PV.bool)]) (args3:=[slB false false xs]) (.ref hM (by simp) (dT _ _) (dJ _ _ (by simp)) .nil) ?_ (CR T hm ⟨FD _ _,hk⟩)
 simp only[iM,wJ,zE,slB]
theorem SO {M:Mem} {K:PV->Mem->Prop} {f o:Bool} {ms:List Ms} (hm:ms.length<big) (hk:K (slM false true ms) M):SemC tab 60 [slM f o ms] M K:=by
 have hb:ms.length<1000000000000:=hm
 have b1:ms.length*72<=140737488355328:=by omega
 have b2:ms.length<=9223372036854775807:=by omega
 refine j4 (a8 T.h60 (by simp only[PP,P1,P2,P14,P15,N1,N2,N3,N4,N5,N6,N7,I1,I2,I3,I4,I5,I6,I7,reduceIte,reduceCtorEq,aP,aS,aR,aC,bK,aL,aE,z9,z9t,aQ,aO,aT,aM,aJ,aN,aK,aH,aF,aB,aD,aA,z8,aG,aY,aI,aX,aW,aV,PV.under]) ?_)
 simp only[af60,PP,P1,P2,P14,P15,N1,N2,N3,N4,N5,N6,N7,I1,I2,I3,I4,I5,I6,I7,reduceIte,reduceCtorEq,aP,aS,aR,aC,bK,aL,aE,z9,z9t,aQ,aO,aT,aM,aJ,aN,aK,aH,aF,aB,aD,aA,z8,aG,aY,aI,aX,aW,aV]
 refine QIf.intro (fun c=>?_) (fun c=>?_)
 ·have:ms=[]:=List.length_eq_zero_iff.1 c
  subst this
  constructor
  ·simp only[PP,P1,P2,P14,P15,N1,N2,N3,N4,N5,N6,N7,I1,I2,I3,I4,I5,I6,I7,reduceIte,reduceCtorEq]
   exact⟨_,PvWk.nils _ _ _,hk⟩
  ·simp only[PP,P1,P2,P14,P15,N1,N2,N3,N4,N5,N6,N7,I1,I2,I3,I4,I5,I6,I7,reduceIte,reduceCtorEq,aP,aS,aR,aC,bK,aL,aE,z9,z9t,aQ,aO,aT,aM,aJ,aN,aK,aH,aF,aB,aD,aA,z8,aG,aY,aI,aX,aW,aV]
   exact⟨_,PvWk.sl _ _ _ _,hk⟩
 ·simp only[PP,P1,P2,P14,P15,N1,N2,N3,N4,N5,N6,N7,I1,I2,I3,I4,I5,I6,I7,reduceIte,reduceCtorEq,aP,aS,aR,aC,bK,aL,aE,z9,z9t,aQ,aO,aT,aM,aJ,aN,aK,aH,aF,aB,aD,aA,z8,aG,aY,aI,aX,aW,aV,c,b1,b2]
  rw[iZ]
  exact⟨_,PvWk.refl _,hk⟩
theorem SP {M:Mem} {K:PV->Mem->Prop} {id g v:Nat} {ms:List Ms} (hM:M[id]? =some (.cells g v (msL ms))) (hm:ms.length<big) (hk:K (slM false true ms) M):SemC tab 60 [.ref id g 9 0 ms.length] M K:=by
 refine t7 (args2:=[slM true false ms]) (args3:=[slM false false ms]) (.ref hM (by rw[aQ];omega) (aO _ _) (iZ ms) .nil) ?_ (SO T hm ⟨TV _ _,hk⟩)
 simp only[iM,wJ,aBV,slM]
set_option maxHeartbeats 1000000 in
theorem aC7 {M:Mem} {K:PV->Mem->Prop} {j w v vw i2 g2 v2 i5 g5 v5 i6 g6 v6:Nat} {u:Int} {a b c d e x:PV} {vs:Int} {f1 o1 f2 o2:Bool} {rows sets:List (List Int)} {fins:List Bool}
  (hj:M[j]? =some (.cells 0 v [.iface 116 (.ptr w 0 0),p64 u])) (hw:M[w]? =some (.cells 0 vw [p64 vs,a,b,c,d,e,.ref i2 g2 1 0 sets.length,x,.ref i5 g5 1 0 rows.length,.ref i6 g6 1 0 fins.length]))
  (h2:M[i2]? =some (.cells g2 v2 (sets.map (slI f2 o2 .i64)))) (h5:M[i5]? =some (.cells g5 v5 (rows.map (slI f1 o1 .i64)))) (h6:M[i6]? =some (.cells g6 v6 (fins.map PV.bool)))
  (hs:sets.length<big) (hs2:∀r∈sets,r.length<big) (hr:rows.length<big) (hr2:∀r∈rows,r.length<big) (hf:fins.length<big) (hc:M.all (bH M.length)=true)
  (hk:K (U1 false vs rows fins sets [] []) M):SemC tab 20 [.ptr j 0 0] M K:=by
 have gj:=fun l=>fU hj l
 have gw:=fun l=>fU hw l
 refine j4 (gK (cK T.h20 ?_))
 simp only[af20,PP,P1,P2,P14,P15,N1,N2,N3,N4,N5,N6,N7,I1,I2,I3,I4,I5,I6,I7,reduceIte,reduceCtorEq,iR,dZ,dS,gS,fK,gR,gQ,iP,iQ,eQ,dM,eE,dX,dK,dH,eC,dL,gj,gw,gk0,sk0]
 refine CO T (fU h5 _) hr hr2 ?_
 simp only[PP,P1,P2,P14,P15,N1,N2,N3,N4,N5,N6,N7,I1,I2,I3,I4,I5,I6,I7,reduceIte,reduceCtorEq,iR,dZ,dS,gS,fK,gR,gQ,iP,iQ,eQ,dM,eE,dX,dK,dH,eC,dL,gj,gw,gk0,sk0]
 refine SR T (fU h6 _) hf ?_
 simp only[PP,P1,P2,P14,P15,N1,N2,N3,N4,N5,N6,N7,I1,I2,I3,I4,I5,I6,I7,reduceIte,reduceCtorEq,iR,dZ,dS,gS,fK,gR,gQ,iP,iQ,eQ,dM,eE,dX,dK,dH,eC,dL,gj,gw,gk0,sk0]
 refine CO T (fU h2 _) hs hs2 ?_
 simp only[PP,P1,P2,P14,P15,N1,N2,N3,N4,N5,N6,N7,I1,I2,I3,I4,I5,I6,I7,reduceIte,reduceCtorEq,iR,dZ,dS,gS,fK,gR,gQ,iP,iQ,eQ,dM,eE,dX,dK,dH,eC,dL,gj,gw,gk0,sk0]
 refine Gh.step (GStep.dropM (b:=[.agg [p64 vs,p64 0,slR false true false true .i64 rows,slB false true fins,slR false true false true .i64 sets,.nils,.nils]]) (N:=M) M.length (Nat.le_refl _) (by simp) (by simp only[PW]) (by simp[aU,PV.under,cI,bW,dT,aO]) ?_ (List.take_left' rfl)) (Gh.same ⟨_,rfl,_,JM (PvWk.refl _) (PvWk.refl _) (PvWk.refl _) (PvWk.nils _ _ _) (PvWk.nils _ _ _),hk⟩)
 exact(congrArg (fun N:Mem=>N.all (bH M.length)) (List.take_left' rfl)).trans hc
set_option maxHeartbeats 1000000 in
theorem aC6 {M:Mem} {K:PV->Mem->Prop} {j w v vw:Nat} {u:Int} {a b c d e:PV} {f o:Bool} {cls:List Int}
  (hj:M[j]? =some (.cells 0 v [.iface 122 (.ptr w 0 0),p64 u])) (hw:M[w]? =some (.cells 0 vw [a,b,c,d,e,slI f o .i64 cls])) (hl:cls.length<big) (hc:M.all (bH M.length)=true)
  (hk:K (U1 false 0 [] [] [] cls []) M):SemC tab 20 [.ptr j 0 0] M K:=by
 have gj:=fun l=>fU hj l
 have gw:=fun l=>fU hw l
 refine j4 (gK (cK T.h20 ?_))
 simp only[af20,PP,P1,P2,P14,P15,N1,N2,N3,N4,N5,N6,N7,I1,I2,I3,I4,I5,I6,I7,reduceIte,reduceCtorEq,iR,dZ,dS,gS,fK,gR,gQ,iP,iQ,eQ,dM,eE,dX,dK,dH,eC,dL,gj,gw,gk0,sk0]
 refine mU T hl ?_
 simp only[PP,P1,P2,P14,P15,N1,N2,N3,N4,N5,N6,N7,I1,I2,I3,I4,I5,I6,I7,reduceIte,reduceCtorEq,iR,dZ,dS,gS,fK,gR,gQ,iP,iQ,eQ,dM,eE,dX,dK,dH,eC,dL,gj,gw,gk0,sk0]
 refine Gh.step (GStep.dropM (b:=[.agg [p64 0,p64 0,.nils,.nils,.nils,slI false true .i64 cls,.nils]]) (N:=M) M.length (Nat.le_refl _) (by simp) (by simp only[PW]) (by simp[aU,PV.under,cI,bW,dT,aO]) ?_ (List.take_left' rfl)) (Gh.same ⟨_,rfl,_,JM (PvWk.nils _ _ _) (PvWk.nils _ _ _) (PvWk.nils _ _ _) (PvWk.refl _) (PvWk.nils _ _ _),hk⟩)
 exact(congrArg (fun N:Mem=>N.all (bH M.length)) (List.take_left' rfl)).trans hc
set_option maxHeartbeats 1000000 in
theorem aC5 {M:Mem} {K:PV->Mem->Prop} {j w v vw i2 g2 v2:Nat} {u:Int} {a b c d:PV} {ms:List Ms}
  (hj:M[j]? =some (.cells 0 v [.iface 125 (.ptr w 0 0),p64 u])) (hw:M[w]? =some (.cells 0 vw [a,b,c,.ref i2 g2 9 0 ms.length,d])) (h2:M[i2]? =some (.cells g2 v2 (msL ms))) (hl:ms.length<big) (hc:M.all (bH M.length)=true)
  (hk:K (U1 false 0 [] [] [] [] ms) M):SemC tab 20 [.ptr j 0 0] M K:=by
 have gj:=fun l=>fU hj l
 have gw:=fun l=>fU hw l
 refine j4 (gK (cK T.h20 ?_))
 simp only[af20,PP,P1,P2,P14,P15,N1,N2,N3,N4,N5,N6,N7,I1,I2,I3,I4,I5,I6,I7,reduceIte,reduceCtorEq,iR,dZ,dS,gS,fK,gR,gQ,iP,iQ,eQ,dM,eE,dX,dK,dH,eC,dL,gj,gw,gk0,sk0]
 refine SP T (fU h2 _) hl ?_
 simp only[PP,P1,P2,P14,P15,N1,N2,N3,N4,N5,N6,N7,I1,I2,I3,I4,I5,I6,I7,reduceIte,reduceCtorEq,iR,dZ,dS,gS,fK,gR,gQ,iP,iQ,eQ,dM,eE,dX,dK,dH,eC,dL,gj,gw,gk0,sk0]
 refine Gh.step (GStep.dropM (b:=[.agg [p64 0,p64 0,.nils,.nils,.nils,.nils,slM false true ms]]) (N:=M) M.length (Nat.le_refl _) (by simp) (by simp only[PW]) (by simp[aU,PV.under,cI,bW,dT,aO]) ?_ (List.take_left' rfl)) (Gh.same ⟨_,rfl,_,JM (PvWk.nils _ _ _) (PvWk.nils _ _ _) (PvWk.nils _ _ _) (PvWk.nils _ _ _) (PvWk.refl _),hk⟩)
 exact(congrArg (fun N:Mem=>N.all (bH M.length)) (List.take_left' rfl)).trans hc
theorem aAi {M:Mem} {K:PV->Mem->Prop} {j v:Nat} {w:PV} {u:Int} (hj:M[j]? =some (.cells 0 v [w,p64 u])) (hk:K (p64 u) M):SemC tab 22 [.ptr j 0 0] M K:=by
 refine cK T.h22 ?_
 simp only[af22,PP,P1,P2,P14,P15,N1,N2,N3,N4,N5,N6,N7,I1,I2,I3,I4,I5,I6,I7,reduceIte,reduceCtorEq,iR,dZ,dS,gS,fK,gR,gQ,iP,iQ,eQ,dM,eE,dX,dK,dH,eC,dL,hj]
 exact hk
end
abbrev csC (f o:Bool) (k:Int) (N:NF) (D:DF) (ow pr:List Int) (su:List (List Int)):List PV:=
 [p64 k,p64 N.vs,p64 N.n,slI f o .i64 N.st,slI f o .i64 N.fi,slE f o N.es,p64 D.vs,p64 D.st,slR f o f o .i64 D.nx,slB f o D.fi,slI f o .u8 ow,slI f o .i64 pr,slR f o f o .i64 su]
def EU (k:Int):Int:=(k.tmod 3+3).tmod 3
theorem LR (k:Int):EU k=0\/EU k=1\/EU k=2:=by
 unfold EU
 have h1:=Int.tmod_lt_of_pos k (b:=3) (by omega)
 have h2: -3<k.tmod 3:=by
  have:=Int.tmod_lt_of_pos (-k) (b:=3) (by omega)
  rw[Int.neg_tmod]at this
  omega
 have h3:0<=k.tmod 3+3:=by omega
 rw[Int.tmod_eq_emod_of_nonneg h3]
 omega
def aE3 (N:NF):NF:=⟨N.vs,min N.n 5,N.st.take 6,N.fi.take 6,N.es.take 20⟩
def EV (D:DF):DF:=⟨D.vs,D.st,(D.nx.take 6).map (List.take 65),D.fi.take 6⟩
def H8 (su:List (List Int)):List (List Int):=(su.take 4).map (List.take 6)
theorem pD {α:Type} (l:List α) (c:Nat):min (l.length:Int) (c:Int)=((min l.length c:Nat):Int):=by omega
theorem kD (k:IntKind) (l:List Int) (c:Nat):PV.sl false false 1 (min l.length c) (cW (l.map (PV.int k)) 0 (min l.length c))=slI false false k (l.take c):=by
 unfold slI cW
 rw[List.drop_zero,<-List.map_take,List.length_take,Nat.min_comm]
 congr 2
 rw[<-List.take_length (l:=l.take c),List.length_take,List.take_take]
 simp
theorem IC:∀(l:List Eg) (c:Nat),(egL l).take (c*4)=egL (l.take c)
 | [],c=>by simp[egL]
 | e::l,0=>by simp[egL]
 | e::l,c+1=>by
  have ih:=IC l c
  rw[show(c+1)*4=c*4+1+1+1+1 by omega]
  show _::_::_::_::(egL l).take (c*4)=_::_::_::_::egL (l.take c)
  rw[ih]
theorem aBC (l:List Eg) (c:Nat):PV.sl false false 4 (min l.length c) (cW (egL l) 0 (min l.length c*4))=slE false false (l.take c):=by
 unfold cW
 rw[List.drop_zero,IC]
 have e:l.take (min l.length c)=l.take c:=by
  rcases Nat.le_total l.length c with h | h
  ·rw[Nat.min_eq_left h,List.take_of_length_le (Nat.le_refl _),List.take_of_length_le h]
  ·rw[Nat.min_eq_right h]
 rw[e]
 simp only[slE,List.length_take,Nat.min_comm]
theorem CN (l:List Bool) (c:Nat):PV.sl false false 1 (min l.length c) (cW (l.map PV.bool) 0 (min l.length c))=slB false false (l.take c):=by
 unfold slB cW
 rw[List.drop_zero,<-List.map_take,List.length_take,Nat.min_comm]
 congr 2
 rw[<-List.take_length (l:=l.take c),List.length_take,List.take_take]
 simp
section
variable {tab:FuncId->Option AF} (T:HasA tab)
include T
theorem X6 {M:Mem} {K:PV->Mem->Prop} {f o:Bool} {xs:List Eg} (hm:xs.length<big) (hk:K (slE false true xs) M):SemC tab 37 [slE f o xs] M K:=by
 refine sJ (by simp only[PP,P1,P2,P14,P15,N1,N2,N3,N4,N5,N6,N7,I1,I2,I3,I4,I5,I6,I7,reduceIte,reduceCtorEq,dN]) (aBD T hm ⟨slE false true xs,?_,hk⟩)
 simp only[jB,fT]
 rw[qA (ver:=0) (Nat.zero_le _) rfl (by simp[kQ]) (fW 0 xs),dJ _ _ (by simp[kQ])]
set_option maxHeartbeats 4000000 in
theorem aDJ {M:Mem} {K:PV->Mem->Prop} {k:Int} {N:NF} {D:DF} {ow pr:List Int} {su:List (List Int)} (hf:EU k=0)
  (hk:K (.agg ([p64 0]++nfC false true false true false true (aE3 N)++[p64 0,p64 0,.nils,.nils,.nils,.nils,.nils])) M):
  SemC tab 10 [.agg (csC false false k N D ow pr su)] M K:=by
 have h3:IntKind.i64.wrap (k.tmod 3+3)=k.tmod 3+3:=by
  have h1:=Int.tmod_lt_of_pos k (b:=3) (by omega)
  have h2: -3<k.tmod 3:=by
   have:=Int.tmod_lt_of_pos (-k) (b:=3) (by omega)
   rw[Int.neg_tmod]at this
   omega
  rw[wrap64]<;>omega
 have r1:dW .rem (p64 k) (p64 3)=some (p64 (k.tmod 3)):=by simp[dW,dQ,gA,dE,d9,ofAV1]
 have r2:dW .rem (p64 (k.tmod 3+3)) (p64 3)=some (p64 0):=by
  have:(k.tmod 3+3).tmod 3=0:=hf
  simp[dW,dQ,gA,dE,d9,ofAV1,this]
 refine fD T.h10 (by simp only[PP,P1,P2,P14,P15,N1,N2,N3,N4,N5,N6,N7,I1,I2,I3,I4,I5,I6,I7,reduceIte,reduceCtorEq,dN]) ?_
 simp only[af10]
 refine bL (bD ?_)
 simp only[PP,P1,P2,P14,P15,N1,N2,N3,N4,N5,N6,N7,I1,I2,I3,I4,I5,I6,I7,reduceIte,reduceCtorEq]
 refine d8 (GStep.freezeP (b:=(.junk:: .cp (csC false false k N D ow pr su) 0:: .ptr 1 0 0::zj 171)) 0 (Nat.zero_le _) rfl (by simp only[nZ,n7,List.cons_append,List.nil_append,fP,eU,eT,fM]) rfl) ?_
 refine bD ?_
 have m6:∀l:List Int,min (l.length:Int) 6=((min l.length 6:Nat):Int):=fun l=>pD l 6
 have m20:min (N.es.length:Int) 20=((min N.es.length 20:Nat):Int):=pD _ 20
 have nn:∀n:Nat,(0:Int)<=(n:Int):=fun n=>by omega
 have le1:∀(l:List Int),((min l.length 6:Nat):Int)<=l.length:=fun l=>by omega
 have le2:((min N.es.length 20:Nat):Int)<=N.es.length:=by omega
 have sb:∀n:Int,n-0=n:=fun n=>by omega
 simp only[PP,P1,P2,P14,P15,N1,N2,N3,N4,N5,N6,N7,I1,I2,I3,I4,I5,I6,I7,reduceIte,reduceCtorEq,r1,h3,r2,lE,m6,m20,nn,le1,le2,sb]
 have l6:∀l:List Int,(l.take 6).length<big:=fun l=>by rw[List.length_take];show _<1000000000000;omega
 have l20:(N.es.take 20).length<big:=by rw[List.length_take];show _<1000000000000;omega
 rw[kD]
 refine jS T (l6 _) ?_
 simp only[PP,P1,P2,P14,P15,N1,N2,N3,N4,N5,N6,N7,I1,I2,I3,I4,I5,I6,I7,reduceIte,reduceCtorEq,m6,m20,nn,le1,le2,sb,lE]
 rw[kD]
 refine jS T (l6 _) ?_
 simp only[PP,P1,P2,P14,P15,N1,N2,N3,N4,N5,N6,N7,I1,I2,I3,I4,I5,I6,I7,reduceIte,reduceCtorEq,m6,m20,nn,le1,le2,sb,lE]
 rw[aBC]
 refine X6 T l20 ?_
 simp only[PP,P1,P2,P14,P15,N1,N2,N3,N4,N5,N6,N7,I1,I2,I3,I4,I5,I6,I7,reduceIte,reduceCtorEq,m6,m20,nn,le1,le2,sb,lE]
 have pe:∀(N':Mem) (n:Nat) (l:List Eg),eJ 0 N' (.sl false true 4 n (egL l))=some (.sl false true 4 n (egL l)):=fun N' n l=>uR (dN 0 false true 4 n l)
 simp only[pe,PP,P1,P2,P14,P15,N1,N2,N3,N4,N5,N6,N7,I1,I2,I3,I4,I5,I6,I7,reduceIte,reduceCtorEq]
 exact hk
set_option maxHeartbeats 4000000 in
theorem aDI {M:Mem} {K:PV->Mem->Prop} {k:Int} {N:NF} {D:DF} {ow pr:List Int} {su:List (List Int)} (hf:EU k=1)
  (hk:K (.agg ([p64 1,p64 0,p64 0,.nils,.nils,.nils]++dfC false true false true false true (EV D)++[.nils,.nils,.nils])) M):
  SemC tab 10 [.agg (csC false false k N D ow pr su)] M K:=by
 have h3:IntKind.i64.wrap (k.tmod 3+3)=k.tmod 3+3:=by
  have h1:=Int.tmod_lt_of_pos k (b:=3) (by omega)
  have h2: -3<k.tmod 3:=by
   have:=Int.tmod_lt_of_pos (-k) (b:=3) (by omega)
   rw[Int.neg_tmod]at this
   omega
  rw[wrap64]<;>omega
 have r1:dW .rem (p64 k) (p64 3)=some (p64 (k.tmod 3)):=by simp[dW,dQ,gA,dE,d9,ofAV1]
 have r2:dW .rem (p64 (k.tmod 3+3)) (p64 3)=some (p64 1):=by
  have:(k.tmod 3+3).tmod 3=1:=hf
  simp[dW,dQ,gA,dE,d9,ofAV1,this]
 refine fD T.h10 (by simp only[PP,P1,P2,P14,P15,N1,N2,N3,N4,N5,N6,N7,I1,I2,I3,I4,I5,I6,I7,reduceIte,reduceCtorEq,dN]) ?_
 simp only[af10]
 refine bL (bD ?_)
 simp only[PP,P1,P2,P14,P15,N1,N2,N3,N4,N5,N6,N7,I1,I2,I3,I4,I5,I6,I7,reduceIte,reduceCtorEq]
 refine d8 (GStep.freezeP (b:=(.junk:: .cp (csC false false k N D ow pr su) 0:: .ptr 1 0 0::zj 171)) 0 (Nat.zero_le _) rfl (by simp only[nZ,n7,List.cons_append,List.nil_append,fP,eU,eT,fM]) rfl) ?_
 refine bD ?_
 simp only[PP,P1,P2,P14,P15,N1,N2,N3,N4,N5,N6,N7,I1,I2,I3,I4,I5,I6,I7,reduceIte,reduceCtorEq,r1,h3,r2]
 refine bB (b:=(.junk:: .cp (csC false false k N D ow pr su) 0:: .ptr 1 0 0:: .ptr 2 0 0::p64 0::zj 169)) ?_ (by simp only[PW])
 refine d8 (GStep.nilbox 2 8 1 rfl rfl rfl) ?_
 have m65:∀l:List Int,min (l.length:Int) 65=((min l.length 65:Nat):Int):=fun l=>pD l 65
 have m6:min (D.fi.length:Int) 6=((min D.fi.length 6:Nat):Int):=pD _ 6
 have nn:∀n:Nat,(0:Int)<=(n:Int):=fun n=>by omega
 have le1:∀(l:List Int),((min l.length 65:Nat):Int)<=l.length:=fun l=>by omega
 have le2:((min D.fi.length 6:Nat):Int)<=D.fi.length:=by omega
 have sb:∀n:Int,n-0=n:=fun n=>by omega
 have l65:∀l:List Int,(l.take 65).length<big:=fun l=>by rw[List.length_take];show _<1000000000000;omega
 refine rQ (fun(i g v:Nat)=>i<=D.nx.length/\i<=6) (fun i g v=>(.junk:: .cp (csC false false k N D ow pr su) 0:: .ptr 1 0 0:: .ptr 2 0 0::p64 i::zj 169))
  (fun i g v=>[.gone,.cells 0 0 [p64 0,p64 0,p64 0,.nils,.nils,.nils,p64 0,p64 0,.nils,.nils,.nils,.nils,.nils],.cells 0 v [p64 1,p64 0,p64 0,.nils,.nils,.nils,p64 0,p64 0,.ref 3 g 1 0 i,.nils,.nils,.nils,.nils],.cells g 0 (((D.nx.take i).map (List.take 65)).map (slI false true .i64))]) (fun i g v=>6-i) 0 0 1 (by omega) (by simp only[PW]) rfl ?_
 intro i g v ⟨hi1,hi2⟩ ih
 have exit:¬(i<D.nx.length/\i<6)->D.nx.take i=D.nx.take 6/\i=(EV D).nx.length:=fun h=>by
  have e:D.nx.take i=D.nx.take 6:=by
   by_cases q:i=6
   ·rw[q]
   ·rw[List.take_of_length_le (by omega),List.take_of_length_le (by omega)]
  refine⟨e,?_⟩
  unfold EV
  simp only[List.length_map,List.length_take]
  omega
 have l6b:(D.fi.take 6).length<big:=by rw[List.length_take];show _<1000000000000;omega
 have hfz:∀g,D.nx.take i=D.nx.take 6->i=(EV D).nx.length->yN (some (PObj.cells g 0 (((D.nx.take i).map (List.take 65)).map (slI false true .i64)))) g 1 0 i=some (slR false true false true .i64 (EV D).nx):=fun g e1 e2=>by
  rw[e1,show(D.nx.take 6).map (List.take 65)=(EV D).nx from rfl]
  subst e2
  rw[hU (by simp) (cI _ _ _ _ _),dJ _ _ (by simp)]
 refine bZ (by kernel_rfl) ?_
 by_cases c1:(i:Int)<D.nx.length
 ·by_cases c2:(i:Int)<6
  ·have hw:=bG (k:=i) (by show _<1000000000000;omega)
   obtain⟨x,gx⟩:=bY (xs:=D.nx) (k:=i) (by omega)
   have b1:(i+1)*24<=140737488355328:=by omega
   have b2:i+1<=9223372036854775807:=by omega
   have b3:i<=(D.nx.take i).length:=by rw[List.length_take];omega
   simp only[PP,P1,P2,P14,P15,N1,N2,N3,N4,N5,N6,N7,I1,I2,I3,I4,I5,I6,I7,reduceIte,reduceCtorEq,c1,c2,nn,gx,m65,le1,sb,lE]
   rw[kD]
   refine jS T (l65 _) ?_
   simp only[PP,P1,P2,P14,P15,N1,N2,N3,N4,N5,N6,N7,I1,I2,I3,I4,I5,I6,I7,reduceIte,reduceCtorEq,c1,c2,nn,gx,m65,le1,sb,lE,b1,b2,b3,hw]
   refine dR (ih (i+1) (g+1) (v+1) ⟨by omega,by omega⟩ (by omega)) (by simp only[PW]) ?_
   rw[dJ _ _ (by simp;omega),iB gx]
   simp only[List.map_append,List.map_cons,List.map_nil,slI]
  ·obtain⟨e1,e2⟩:=exit (fun h=>by omega)
   have hfz:=hfz g e1 e2
   simp only[PP,P1,P2,P14,P15,N1,N2,N3,N4,N5,N6,N7,I1,I2,I3,I4,I5,I6,I7,reduceIte,reduceCtorEq,c1,c2,lE,m6,nn,le2,sb]
   rw[CN]
   refine O5 T l6b ?_
   simp only[PP,P1,P2,P14,P15,N1,N2,N3,N4,N5,N6,N7,I1,I2,I3,I4,I5,I6,I7,reduceIte,reduceCtorEq,hfz]
   exact hk
 ·obtain⟨e1,e2⟩:=exit (fun h=>by omega)
  have hfz:=hfz g e1 e2
  simp only[PP,P1,P2,P14,P15,N1,N2,N3,N4,N5,N6,N7,I1,I2,I3,I4,I5,I6,I7,reduceIte,reduceCtorEq,c1,lE,m6,nn,le2,sb]
  rw[CN]
  refine O5 T l6b ?_
  simp only[PP,P1,P2,P14,P15,N1,N2,N3,N4,N5,N6,N7,I1,I2,I3,I4,I5,I6,I7,reduceIte,reduceCtorEq,hfz]
  exact hk
set_option maxHeartbeats 4000000 in
theorem aDH {M:Mem} {K:PV->Mem->Prop} {k:Int} {N:NF} {D:DF} {ow pr:List Int} {su:List (List Int)} (hf:EU k=2)
  (hk:K (.agg [p64 2,p64 0,p64 0,.nils,.nils,.nils,p64 0,p64 0,.nils,.nils,slI false true .u8 (ow.take 4),slI false true .i64 (pr.take 4),slR false true false true .i64 (H8 su)]) M):
  SemC tab 10 [.agg (csC false false k N D ow pr su)] M K:=by
 have h3:IntKind.i64.wrap (k.tmod 3+3)=k.tmod 3+3:=by
  have h1:=Int.tmod_lt_of_pos k (b:=3) (by omega)
  have h2: -3<k.tmod 3:=by
   have:=Int.tmod_lt_of_pos (-k) (b:=3) (by omega)
   rw[Int.neg_tmod]at this
   omega
  rw[wrap64]<;>omega
 have r1:dW .rem (p64 k) (p64 3)=some (p64 (k.tmod 3)):=by simp[dW,dQ,gA,dE,d9,ofAV1]
 have r2:dW .rem (p64 (k.tmod 3+3)) (p64 3)=some (p64 2):=by
  have:(k.tmod 3+3).tmod 3=2:=hf
  simp[dW,dQ,gA,dE,d9,ofAV1,this]
 refine fD T.h10 (by simp only[PP,P1,P2,P14,P15,N1,N2,N3,N4,N5,N6,N7,I1,I2,I3,I4,I5,I6,I7,reduceIte,reduceCtorEq,dN]) ?_
 simp only[af10]
 refine bL (bD ?_)
 simp only[PP,P1,P2,P14,P15,N1,N2,N3,N4,N5,N6,N7,I1,I2,I3,I4,I5,I6,I7,reduceIte,reduceCtorEq]
 refine d8 (GStep.freezeP (b:=(.junk:: .cp (csC false false k N D ow pr su) 0:: .ptr 1 0 0::zj 171)) 0 (Nat.zero_le _) rfl (by simp only[nZ,n7,List.cons_append,List.nil_append,fP,eU,eT,fM]) rfl) ?_
 refine bD ?_
 simp only[PP,P1,P2,P14,P15,N1,N2,N3,N4,N5,N6,N7,I1,I2,I3,I4,I5,I6,I7,reduceIte,reduceCtorEq,r1,h3,r2]
 refine bB (b:=(.junk:: .cp (csC false false k N D ow pr su) 0:: .ptr 1 0 0:: .ptr 2 0 0:: .junk::p64 0::zj 168)) ?_ (by simp only[PW])
 refine d8 (GStep.nilbox 2 12 1 rfl rfl rfl) ?_
 have m6a:∀l:List Int,min (l.length:Int) 6=((min l.length 6:Nat):Int):=fun l=>pD l 6
 have m4:∀l:List Int,min (l.length:Int) 4=((min l.length 4:Nat):Int):=fun l=>pD l 4
 have nn:∀n:Nat,(0:Int)<=(n:Int):=fun n=>by omega
 have le1:∀(l:List Int),((min l.length 6:Nat):Int)<=l.length:=fun l=>by omega
 have le2:∀(l:List Int),((min l.length 4:Nat):Int)<=l.length:=fun l=>by omega
 have sb:∀n:Int,n-0=n:=fun n=>by omega
 have l6a:∀l:List Int,(l.take 6).length<big:=fun l=>by rw[List.length_take];show _<1000000000000;omega
 refine rQ (fun(i g v:Nat)=>i<=su.length/\i<=4) (fun i g v=>(.junk:: .cp (csC false false k N D ow pr su) 0:: .ptr 1 0 0:: .ptr 2 0 0:: .junk::p64 i::zj 168))
  (fun i g v=>[.gone,.cells 0 0 [p64 0,p64 0,p64 0,.nils,.nils,.nils,p64 0,p64 0,.nils,.nils,.nils,.nils,.nils],.cells 0 v [p64 2,p64 0,p64 0,.nils,.nils,.nils,p64 0,p64 0,.nils,.nils,.nils,.nils,.ref 3 g 1 0 i],.cells g 0 (((su.take i).map (List.take 6)).map (slI false true .i64))]) (fun i g v=>4-i) 0 0 1 (by omega) (by simp only[PW]) rfl ?_
 intro i g v ⟨hi1,hi2⟩ ih
 have exit:¬(i<su.length/\i<4)->su.take i=su.take 4/\i=(H8 su).length:=fun h=>by
  have e:su.take i=su.take 4:=by
   by_cases q:i=4
   ·rw[q]
   ·rw[List.take_of_length_le (by omega),List.take_of_length_le (by omega)]
  refine⟨e,?_⟩
  unfold H8
  simp only[List.length_map,List.length_take]
  omega
 have l4:∀l:List Int,(l.take 4).length<big:=fun l=>by rw[List.length_take];show _<1000000000000;omega
 have hfz:∀g,su.take i=su.take 4->i=(H8 su).length->yN (some (PObj.cells g 0 (((su.take i).map (List.take 6)).map (slI false true .i64)))) g 1 0 i=some (slR false true false true .i64 (H8 su)):=fun g e1 e2=>by
  rw[e1,show(su.take 4).map (List.take 6)=(H8 su) from rfl]
  subst e2
  rw[hU (by simp) (cI _ _ _ _ _),dJ _ _ (by simp)]
 refine bZ (by kernel_rfl) ?_
 by_cases c1:(i:Int)<su.length
 ·by_cases c2:(i:Int)<4
  ·have hw:=bG (k:=i) (by show _<1000000000000;omega)
   obtain⟨x,gx⟩:=bY (xs:=su) (k:=i) (by omega)
   have b1:(i+1)*24<=140737488355328:=by omega
   have b2:i+1<=9223372036854775807:=by omega
   have b3:i<=(su.take i).length:=by rw[List.length_take];omega
   simp only[PP,P1,P2,P14,P15,N1,N2,N3,N4,N5,N6,N7,I1,I2,I3,I4,I5,I6,I7,reduceIte,reduceCtorEq,c1,c2,nn,gx,m6a,le1,sb,lE]
   rw[kD]
   refine jS T (l6a _) ?_
   simp only[PP,P1,P2,P14,P15,N1,N2,N3,N4,N5,N6,N7,I1,I2,I3,I4,I5,I6,I7,reduceIte,reduceCtorEq,c1,c2,nn,gx,m6a,le1,sb,lE,b1,b2,b3,hw]
   refine dR (ih (i+1) (g+1) (v+1) ⟨by omega,by omega⟩ (by omega)) (by simp only[PW]) ?_
   rw[dJ _ _ (by simp;omega),iB gx]
   simp only[List.map_append,List.map_cons,List.map_nil,slI]
  ·obtain⟨e1,e2⟩:=exit (fun h=>by omega)
   have hfz:=hfz g e1 e2
   simp only[PP,P1,P2,P14,P15,N1,N2,N3,N4,N5,N6,N7,I1,I2,I3,I4,I5,I6,I7,reduceIte,reduceCtorEq,c1,c2,lE,m4,nn,le2,sb]
   rw[kD]
   refine vB T (l4 _) ?_
   simp only[PP,P1,P2,P14,P15,N1,N2,N3,N4,N5,N6,N7,I1,I2,I3,I4,I5,I6,I7,reduceIte,reduceCtorEq,c1,c2,lE,m4,nn,le2,sb]
   rw[kD]
   refine jS T (l4 _) ?_
   simp only[PP,P1,P2,P14,P15,N1,N2,N3,N4,N5,N6,N7,I1,I2,I3,I4,I5,I6,I7,reduceIte,reduceCtorEq,hfz]
   exact hk
 ·obtain⟨e1,e2⟩:=exit (fun h=>by omega)
  have hfz:=hfz g e1 e2
  simp only[PP,P1,P2,P14,P15,N1,N2,N3,N4,N5,N6,N7,I1,I2,I3,I4,I5,I6,I7,reduceIte,reduceCtorEq,c1,lE,m4,nn,le2,sb]
  rw[kD]
  refine vB T (l4 _) ?_
  simp only[PP,P1,P2,P14,P15,N1,N2,N3,N4,N5,N6,N7,I1,I2,I3,I4,I5,I6,I7,reduceIte,reduceCtorEq,c1,lE,m4,nn,le2,sb]
  rw[kD]
  refine jS T (l4 _) ?_
  simp only[PP,P1,P2,P14,P15,N1,N2,N3,N4,N5,N6,N7,I1,I2,I3,I4,I5,I6,I7,reduceIte,reduceCtorEq,hfz]
  exact hk
set_option maxHeartbeats 1000000 in
theorem UP {A:Mem} {K:PV->Mem->Prop} {f o:Bool} {N:NF} {D:DF} {ow pr:List Int} {su:List (List Int)} (B:BnN N) (hA:A.all (bH A.length)=true)
  (hk1:gJ N≠0->K (.tuple [.nilptr,p64 (gJ N)]) A)
  (hk2:gJ N=0->∀X1 X2 q v,bH (A.length+2) X1=true->bH (A.length+2) X2=true->K (.tuple [.ptr (A.length+9) 0 0,p64 0]) (kH (A++[X1,X2]) false true false true false true true false N q [eI N] [] [] v 0)):
  SemC tab 11 [.agg (csC f o 0 N D ow pr su)] A K:=by
 have hX:∀m,bH m (PObj.cells 0 0 (csC f o 0 N D ow pr su))=true:=fun m=>by simp[bH,aU,PV.under,fW,bW,cI,dT]
 have hA1:(A++[PObj.cells 0 0 (csC f o 0 N D ow pr su)]).all (bH (A++[PObj.cells 0 0 (csC f o 0 N D ow pr su)]).length)=true:=by
  rw[List.all_append,eD (by simp) hA,List.all_cons,hX];rfl
 refine gK (cK T.h11 ?_)
 simp only[af11,PP,P1,P2,P14,P15,N1,N2,N3,N4,N5,N6,N7,I1,I2,I3,I4,I5,I6,I7,reduceIte,reduceCtorEq,dN,gk0,sk0]
 refine UM T B hA1 (fun hc=>?_) (fun hc X q v hx=>?_)
 ·simp only[PP,P1,P2,P14,P15,N1,N2,N3,N4,N5,N6,N7,I1,I2,I3,I4,I5,I6,I7,reduceIte,reduceCtorEq]
  refine Gh.step (GStep.dropM (b:=[.tuple [.nilptr,p64 (gJ N)]]) (N:=A) A.length (Nat.le_refl _) (by simp) (by simp only[PW]) (by simp[aU,PV.under]) ?_ (List.take_left' rfl)) (Gh.same ⟨_,rfl,hk1 hc⟩)
  exact(congrArg (fun M:Mem=>M.all (bH A.length)) (List.take_left' rfl)).trans hA
 ·have h:=hk2 hc (.cells 0 0 (csC f o 0 N D ow pr su)) X q v (hX _) (by simpa using hx)
  simp only[PP,P1,P2,P14,P15,N1,N2,N3,N4,N5,N6,N7,I1,I2,I3,I4,I5,I6,I7,reduceIte,reduceCtorEq,List.append_assoc,List.length_append,List.length_cons,List.length_nil,List.cons_append,List.nil_append,Nat.zero_add,Nat.reduceAdd]at h ⊢
  exact Gh.same ⟨_,rfl,h⟩
set_option maxHeartbeats 1000000 in
theorem UO {A:Mem} {K:PV->Mem->Prop} {f o:Bool} {N:NF} {D:DF} {ow pr:List Int} {su:List (List Int)} (B:BnD D) (h99:eP D=0->D.nx.length<=99) (hA:A.all (bH A.length)=true)
  (hk1:eP D≠0->K (.tuple [.nilptr,p64 (eP D)]) A)
  (hk2:eP D=0->∀X0 X1 X2 v,bH (A.length+3) X0=true->bH (A.length+3) X1=true->bH (A.length+3) X2=true->K (.tuple [.ptr (A.length+4) 0 0,p64 0]) (nN (A++[X0,X1,X2]) false true false true false true false true D v 0 0 0)):
  SemC tab 11 [.agg (csC f o 1 N D ow pr su)] A K:=by
 have hX:∀m,bH m (PObj.cells 0 0 (csC f o 1 N D ow pr su))=true:=fun m=>by simp[bH,aU,PV.under,fW,bW,cI,dT]
 have hA1:(A++[PObj.cells 0 0 (csC f o 1 N D ow pr su)]).all (bH (A++[PObj.cells 0 0 (csC f o 1 N D ow pr su)]).length)=true:=by
  rw[List.all_append,eD (by simp) hA,List.all_cons,hX];rfl
 refine gK (cK T.h11 ?_)
 simp only[af11,PP,P1,P2,P14,P15,N1,N2,N3,N4,N5,N6,N7,I1,I2,I3,I4,I5,I6,I7,reduceIte,reduceCtorEq,dN,gk0,sk0]
 refine UL T B h99 hA1 (fun hc=>?_) (fun hc X Y v hx hy=>?_)
 ·simp only[PP,P1,P2,P14,P15,N1,N2,N3,N4,N5,N6,N7,I1,I2,I3,I4,I5,I6,I7,reduceIte,reduceCtorEq]
  refine Gh.step (GStep.dropM (b:=[.tuple [.nilptr,p64 (eP D)]]) (N:=A) A.length (Nat.le_refl _) (by simp) (by simp only[PW]) (by simp[aU,PV.under]) ?_ (List.take_left' rfl)) (Gh.same ⟨_,rfl,hk1 hc⟩)
  exact(congrArg (fun M:Mem=>M.all (bH A.length)) (List.take_left' rfl)).trans hA
 ·have h:=hk2 hc (.cells 0 0 (csC f o 1 N D ow pr su)) X Y v (hX _) (by simpa using hx) (by simpa using hy)
  simp only[PP,P1,P2,P14,P15,N1,N2,N3,N4,N5,N6,N7,I1,I2,I3,I4,I5,I6,I7,reduceIte,reduceCtorEq,List.append_assoc,List.length_append,List.length_cons,List.length_nil,List.cons_append,List.nil_append,Nat.zero_add,Nat.reduceAdd]at h ⊢
  exact Gh.same ⟨_,rfl,h⟩
set_option maxHeartbeats 1000000 in
theorem UN {A:Mem} {K:PV->Mem->Prop} {f o:Bool} {N:NF} {D:DF} {ow pr:List Int} {su:List (List Int)} (B:Bnd ow pr su) (hA:A.all (bH A.length)=true)
  (hk1:dU ow pr su≠0->K (.tuple [.nilptr,p64 (dU ow pr su)]) A)
  (hk2:dU ow pr su=0->∀X0 X1 X2 v1 v2 ms b,bH (A.length+3) X0=true->bH (A.length+3) X1=true->bH (A.length+3) X2=true->zO ow pr su 0 ms b 0->K (.tuple [.ptr (A.length+6) 0 0,p64 0]) (jJ (A++[X0,X1,X2]) false true false true false true false true ow pr su ms v1 v2 0 b 0)):
  SemC tab 11 [.agg (csC f o 2 N D ow pr su)] A K:=by
 have hX:∀m,bH m (PObj.cells 0 0 (csC f o 2 N D ow pr su))=true:=fun m=>by simp[bH,aU,PV.under,fW,bW,cI,dT]
 have hA1:(A++[PObj.cells 0 0 (csC f o 2 N D ow pr su)]).all (bH (A++[PObj.cells 0 0 (csC f o 2 N D ow pr su)]).length)=true:=by
  rw[List.all_append,eD (by simp) hA,List.all_cons,hX];rfl
 refine gK (cK T.h11 ?_)
 simp only[af11,PP,P1,P2,P14,P15,N1,N2,N3,N4,N5,N6,N7,I1,I2,I3,I4,I5,I6,I7,reduceIte,reduceCtorEq,dN,gk0,sk0]
 refine UK T B hA1 (fun hc=>?_) (fun hc X Y v1 v2 ms b hx hy ha=>?_)
 ·simp only[PP,P1,P2,P14,P15,N1,N2,N3,N4,N5,N6,N7,I1,I2,I3,I4,I5,I6,I7,reduceIte,reduceCtorEq]
  refine Gh.step (GStep.dropM (b:=[.tuple [.nilptr,p64 (dU ow pr su)]]) (N:=A) A.length (Nat.le_refl _) (by simp) (by simp only[PW]) (by simp[aU,PV.under]) ?_ (List.take_left' rfl)) (Gh.same ⟨_,rfl,hk1 hc⟩)
  exact(congrArg (fun M:Mem=>M.all (bH A.length)) (List.take_left' rfl)).trans hA
 ·have h:=hk2 hc (.cells 0 0 (csC f o 2 N D ow pr su)) X Y v1 v2 ms b (hX _) (by simpa using hx) (by simpa using hy) ha
  simp only[PP,P1,P2,P14,P15,N1,N2,N3,N4,N5,N6,N7,I1,I2,I3,I4,I5,I6,I7,reduceIte,reduceCtorEq,List.append_assoc,List.length_append,List.length_cons,List.length_nil,List.cons_append,List.nil_append,Nat.zero_add,Nat.reduceAdd]at h ⊢
  exact Gh.same ⟨_,rfl,h⟩
end
theorem PC {a:BitVec 64} {n:Nat} (hn:n<=64) (h:∀k,a.getLsbD k=true->k<n):a.toNat<2^n:=by
 refine Nat.lt_pow_two_of_testBit _ fun i hi=>?_
 by_cases c:a.toNat.testBit i=true
 ·have:=h i c
  omega
 ·simpa using c
theorem aCX {N:NF} (C:NOk N) (m:Nat):(stK N m).length<=2^N.n.toNat:=by
 have h64:N.n.toNat<=64:=by have:=C.n64;omega
 have hall:=sF (δ:=b9 N) (n:=bJ N) (a0:=eI N) (Dm:=fun a=>a.toNat<2^N.n.toNat) (PC h64 fun k hk=>by
   have:=(nA C k).1 hk
   have:=mI C.st _ this
   omega) (fun a x _ _=>PC h64 fun k hk=>by
   obtain⟨e,he,_,h2⟩:=(yX C a x k).1 hk
   have:=C.ed e (by unfold nJ at he;exact(List.mem_filter.1 he).1)
   omega) m
 have hnd:((stK N m).map BitVec.toNat).Nodup:=by
  rw[List.Nodup,List.pairwise_map]
  exact(lL (b9 N) (bJ N) (eI N) m).imp fun h q=>h (BitVec.eq_of_toNat_eq q)
 have:=qC (2^N.n.toNat) ((stK N m).map BitVec.toNat) hnd fun x hx=>by
  obtain⟨a,ha,rfl⟩:=List.mem_map.1 hx
  exact hall a ha
 simpa using this
theorem GG (D:DF) (k i j:Nat) (hi:i<D.nx.length) (hj:j<D.nx.length) (h:(dA D (k+1)).getD i 0=(dA D (k+1)).getD j 0):(dA D k).getD i 0=(dA D k).getD j 0:=by
 have a1:=DP (nx:=D.nx) (c:=dA D k) hi
 have a2:=DP (nx:=D.nx) (c:=dA D k) hj
 have h:(rfN D.nx (dA D k)).getD i 0=(rfN D.nx (dA D k)).getD j 0:=h
 rw[a1,a2]at h
 have m1:eL D.nx (dA D k) i∈fv (eL D.nx (dA D k)) D.nx.length:=(jI _ _ _).2 ⟨i,hi,rfl⟩
 have m2:eL D.nx (dA D k) j∈fv (eL D.nx (dA D k)) D.nx.length:=(jI _ _ _).2 ⟨j,hj,rfl⟩
 have g1:=pG m1
 have g2:=pG m2
 have e:ixF (fv (eL D.nx (dA D k)) D.nx.length) (eL D.nx (dA D k) i)=ixF (fv (eL D.nx (dA D k)) D.nx.length) (eL D.nx (dA D k) j):=by omega
 rw[e,g2]at g1
 have:=congrArg (fun l:List Int=>l.headD 0) (Option.some.inj g1)
 exact this.symm
theorem xE (D:DF) (k i j:Nat) (hi:i<D.nx.length) (hj:j<D.nx.length):∀d,(dA D (k+d)).getD i 0=(dA D (k+d)).getD j 0->(dA D k).getD i 0=(dA D k).getD j 0
 | 0,h=>h
 | d+1,h=>xE D k i j hi hj d (GG D (k+d) i j hi hj h)
theorem aAn {n:Nat} {L:(Nat->Nat)->Nat->Nat} (m:Nat->Nat) (v:Nat):m v<=rG n L m v:=by
 by_cases h:∃v,FstN n L m v
 ·obtain⟨u,hu⟩:=h
  rw[rF hu]
  unfold m3
  split
  ·rename_i e;subst e;exact Nat.le_of_lt hu.2.1
  ·exact Nat.le_refl _
 ·unfold rG;rw[dif_neg h];exact Nat.le_refl _
theorem XN {n:Nat} {L:(Nat->Nat)->Nat->Nat} (k v:Nat):∀d,itN n L k v<=itN n L (k+d) v
 | 0=>Nat.le_refl _
 | d+1=>Nat.le_trans (XN k v d) (aAn _ v)
structure Res where
 vs:Int
 rows:List (List Int)
 fins:List Bool
 sets:List (List Int)
 cls:List Int
 ms:List Ms
abbrev Res.pv (r:Res):PV:=U1 false r.vs r.rows r.fins r.sets r.cls r.ms
theorem Res.pv_under (m:Nat) (r:Res):r.pv.under m=true:=by
 simp[Res.pv,PV.under,aU,cI,bW,dT,aO]
structure JobX (tab:FuncId->Option AF) (jid:Nat) (e:Int) (D F:Nat->Prop) (St:Nat->Mem->Prop) (L:Nat) (RP:Nat->Res->Prop):Prop where
 len:∀m M,St m M->M.length=L
 cut:∀m M,St m M->M.all (bH L)=true
 job:∀m M,St m M->∃v w wid,M[jid]? =some (.cells 0 v [.iface w (.ptr wid 0 0),p64 (m:Int)])
 sm:∀m M,St m M->m<4000000000000000000
 step:∀n M,St n M->∀(S:Mem) (k:Int) (K:PV->Mem->Prop),0<=k->k<=9223372036854775807->
  (∀m M' b,n<=m->(m:Int)<=n+k->(b=true↔D m)->(b=false->(m:Int)=n+k)->(∀j,n<=j->j<m->¬D j/\¬F j)->St m M'->K (.tuple [.bool b,p64 0]) (M'++S))->
  (∀m M',n<=m->(m:Int)<n+k->(∀j,n<=j->j<m->¬D j/\¬F j)->F m->St m M'->K (.tuple [.bool false,p64 e]) (M'++S))->
  SemC tab 18 [.ptr jid 0 0,p64 k] (M++S) K
 res:∀m M,St m M->∀(S:Mem) (K:PV->Mem->Prop),(∀r,RP m r->K r.pv (M++S))->SemC tab 20 [.ptr jid 0 0] (M++S) K
section
variable {tab:FuncId->Option AF} (T:HasA tab)
include T
theorem JobX.units {jid:Nat} {e:Int} {D F:Nat->Prop} {St:Nat->Mem->Prop} {L:Nat} {RP:Nat->Res->Prop} (J:JobX tab jid e D F St L RP) {m:Nat} {M S:Mem} (h:St m M) {K:PV->Mem->Prop} (hk:K (p64 (m:Int)) (M++S)):SemC tab 22 [.ptr jid 0 0] (M++S) K:=by
 obtain⟨v,w,wid,hj⟩:=J.job m M h
 exact aAi T (fU hj S) hk
theorem JobX.units0 {jid:Nat} {e:Int} {D F:Nat->Prop} {St:Nat->Mem->Prop} {L:Nat} {RP:Nat->Res->Prop} (J:JobX tab jid e D F St L RP) {m:Nat} {M:Mem} (h:St m M) {K:PV->Mem->Prop} (hk:K (p64 (m:Int)) M):SemC tab 22 [.ptr jid 0 0] M K:=by
 have:=J.units T (S:=[]) h (K:=K) (by rw[List.append_nil];exact hk)
 rwa [List.append_nil]at this
omit T in
theorem JobX.res0 {jid:Nat} {e:Int} {D F:Nat->Prop} {St:Nat->Mem->Prop} {L:Nat} {RP:Nat->Res->Prop} (J:JobX tab jid e D F St L RP) {m:Nat} {M:Mem} (h:St m M) {K:PV->Mem->Prop} (hk:∀r,RP m r->K r.pv M):SemC tab 20 [.ptr jid 0 0] M K:=by
 have:=J.res m M h [] K (fun r hr=>by rw[List.append_nil];exact hk r hr)
 rwa [List.append_nil]at this
omit T in
theorem JobX.step0 {jid:Nat} {e:Int} {D F:Nat->Prop} {St:Nat->Mem->Prop} {L:Nat} {RP:Nat->Res->Prop} (J:JobX tab jid e D F St L RP) {n:Nat} {M:Mem} (h:St n M) {k:Int} {K:PV->Mem->Prop} (h0:0<=k) (h1:k<=9223372036854775807)
  (hA:∀m M' b,n<=m->(m:Int)<=n+k->(b=true↔D m)->(b=false->(m:Int)=n+k)->(∀j,n<=j->j<m->¬D j/\¬F j)->St m M'->K (.tuple [.bool b,p64 0]) M')
  (hC:∀m M',n<=m->(m:Int)<n+k->(∀j,n<=j->j<m->¬D j/\¬F j)->F m->St m M'->K (.tuple [.bool false,p64 e]) M'):SemC tab 18 [.ptr jid 0 0,p64 k] M K:=by
 have:=J.step n M h [] k K h0 h1 (fun m M' b a1 a2 a3 a4 a5 a6=>by rw[List.append_nil];exact hA m M' b a1 a2 a3 a4 a5 a6) (fun m M' a1 a2 a3 a4 a5=>by rw[List.append_nil];exact hC m M' a1 a2 a3 a4 a5)
 rwa [List.append_nil]at this
theorem EJ {jid wid:Nat} {ty:TypeId} {fu fl:FuncId} {e:Int} {D F:Nat->Prop} {lft:Nat->Bool} {St:Nat->Mem->Prop} {L:Nat} {RP:Nat->Res->Prop} (J:JobK tab jid wid ty fu fl e D F lft St) (he:e≠0)
  (hl:∀m,lft m=true↔¬D m) (hlen:∀m M,St m M->M.length=L) (hcut:∀m M,St m M->M.all (bH L)=true)
  (hres:∀m M,St m M->∀(K:PV->Mem->Prop),(∀r,RP m r->K r.pv M)->SemC tab 20 [.ptr jid 0 0] M K):JobX tab jid e D F St L RP where
 len:=hlen
 cut:=hcut
 job:=fun m M h=>by
  obtain⟨v,hv⟩:=J.job m M h
  exact⟨v,ty,wid,hv⟩
 sm:=J.sm
 step:=fun n M h S k K h0 h1 hA hC=>by
  have hL:=hlen n M h
  have hj:jid<L:=by
   obtain⟨v,hv⟩:=J.job n M h
   have:=aZ hv
   omega
  have t1:(M++S).take L=M:=List.take_left' hL
  have t2:(M++S).drop L=S:=List.drop_left' hL
  refine oX (m:=L) (by rw[List.length_append];omega) (by simp[aU,PV.under,hj]) (by rw[t1];exact hcut n M h) ?_
  rw[t1,t2]
  refine aBk T J he h h0 h1 (fun m M' a1 a2 a3 a4=>?_) (fun m M' a1 a2 a3 a4 a5=>?_) (fun m M' a1 a2 a3 a4 a5=>?_)
  ·refine⟨by simp[aU,PV.under],hlen m M' a4,hcut m M' a4,hA m M' _ a1 (by omega) ?_ (fun _=>a2) a3 a4⟩
   have:=hl m
   cases hb:lft m
   ·rw[hb]at this
    simp at this
    simpa using this
   ·rw[hb]at this
    simp at this
    simpa using this
  ·exact⟨by simp[aU,PV.under],hlen m M' a5,hcut m M' a5,hA m M' true a1 (by omega) ⟨fun _=>a4,fun _=>rfl⟩ (fun q=>by cases q) a3 a5⟩
  ·exact⟨by simp[aU,PV.under],hlen m M' a5,hcut m M' a5,hC m M' a1 a2 a3 a4 a5⟩
 res:=fun m M h S K hk=>by
  have hL:=hlen m M h
  have hj:jid<L:=by
   obtain⟨v,hv⟩:=J.job m M h
   have:=aZ hv
   omega
  have t1:(M++S).take L=M:=List.take_left' hL
  have t2:(M++S).drop L=S:=List.drop_left' hL
  refine oX (m:=L) (by rw[List.length_append];omega) (by simp[aU,PV.under,hj]) (by rw[t1];exact hcut m M h) ?_
  rw[t1,t2]
  exact hres m M h _ fun r hr=>⟨r.pv_under L,hL,hcut m M h,hk r hr⟩
def RpD (N:NF) (m:Nat) (r:Res):Prop:=r=⟨N.vs,rwK N m,fnK N m,hO (stK N m),[],[]⟩/\m<=(stK N m).length/\(stK N m).length<=4096
def RpM (D:DF) (m:Nat) (r:Res):Prop:=r=⟨0,[],[],[],dA D m,[]⟩
def RpP (ow pr:List Int) (su:List (List Int)) (m:Nat) (r:Res):Prop:=∃ms,r=⟨0,[],[],[],[],ms⟩/\StOk (cA pr) ow.length ms/\Nf (cA pr) ms=itN ow.length (gL ow pr su) m
theorem XF {A:Mem} {N:NF} (hc:gJ N=0) (B:BnN N) (hA:A.all (bH A.length)=true):
  JobX tab (A.length+7) 10 (fun m=>(stK N m).length<=m) (fun m=>m<(stK N m).length/\4096<(stK N (m+1)).length) (StD A N) (A.length+8) (RpD N):=by
 have C:=tG hc
 have hcut:∀(f1 o1 f2 o2 f3 o3 f o:Bool) (q:Nat->Nat) (S:List (BitVec 64)) (rows:List (List Int)) (fins:List Bool) (v:Nat) (u:Int),(kH A f1 o1 f2 o2 f3 o3 f o N q S rows fins v u).all (bH (A.length+8))=true:=fun f1 o1 f2 o2 f3 o3 f o q S rows fins v u=>by
  rw[<-HV,List.all_append,eD (by omega) (oS hA ..)]
  simp[bH,aU,PV.under]
 refine EJ T (XH T hc B hA) (by decide) (fun m=>by simp) ?_ ?_ ?_
 ·rintro m M ⟨_,f1,o1,f2,o2,f3,o3,f,o,q,v,rfl⟩
  simp[kH,f8]
 ·rintro m M ⟨_,f1,o1,f2,o2,f3,o3,f,o,q,v,rfl⟩
  exact hcut ..
 ·rintro m M ⟨⟨h1,h2⟩,f1,o1,f2,o2,f3,o3,f,o,q,v,rfl⟩ K hk
  have hrl:(rwK N m).length=m:=o7 h1
  have hfl:=ER h1
  have hsl:(hO (stK N m)).length=(stK N m).length:=by unfold hO;rw[List.length_map]
  have hlet:bJ N<=64:=C.let64
  refine aC7 T (w:=A.length+4) (i2:=A.length+2) (i5:=A.length+5) (i6:=A.length+6) (sets:=hO (stK N m)) (rows:=rwK N m) (fins:=fnK N m) EL (by rw[hsl];unfold kH;rw[gk];rfl) (by unfold kH;rw[gk];rfl) (by unfold kH;rw[gk];rfl) (by unfold kH;rw[gk];rfl) ?_ ?_ ?_ ?_ ?_ ?_ (hk _ ⟨rfl,h1,h2⟩)
  ·rw[hsl];show _<1000000000000;omega
  ·intro r hr
   obtain⟨a,_,rfl⟩:=List.mem_map.1 hr
   have:=y8 a
   simp only[D5,List.length_map]
   show _<1000000000000
   omega
  ·rw[hrl];show _<1000000000000;omega
  ·intro r hr
   obtain⟨a,_,rfl⟩:=List.mem_map.1 hr
   rw[GE]
   show _<1000000000000
   omega
  ·rw[hfl];show _<1000000000000;omega
  ·have:=hcut f1 o1 f2 o2 f3 o3 f o q (stK N m) (rwK N m) (fnK N m) v m
   rw[show(kH A f1 o1 f2 o2 f3 o3 f o N q (stK N m) (rwK N m) (fnK N m) v m).length=A.length+8 by simp[kH,f8]]
   exact this
theorem XE {A:Mem} {D:DF} (hc:eP D=0) (B:BnD D) (h99:D.nx.length<=99) (hA:A.all (bH A.length)=true):
  JobX tab (A.length+1) 10 (fun m=>dA D (m+1)=dA D m) (fun _=>False) (StM A D) (A.length+2) (RpM D):=by
 have hcut:∀(f1 o1 f2 o2 f3 o3 f o:Bool) (v1 v2 k:Nat) (u:Int),(nN A f1 o1 f2 o2 f3 o3 f o D v1 v2 k u).all (bH (A.length+2))=true:=fun f1 o1 f2 o2 f3 o3 f o v1 v2 k u=>by
  unfold nN
  rw[List.all_append,eD (by omega) hA]
  simp[bH,aU,PV.under,cI,dT,bW]
 refine EJ T (XG T hc B h99) (by decide) (fun m=>by simp) ?_ ?_ ?_
 ·rintro m M ⟨_,f1,o1,f2,o2,f3,o3,f,o,v1,v2,rfl⟩
  simp[nN]
 ·rintro m M ⟨_,f1,o1,f2,o2,f3,o3,f,o,v1,v2,rfl⟩
  exact hcut ..
 ·rintro m M ⟨_,f1,o1,f2,o2,f3,o3,f,o,v1,v2,rfl⟩ K hk
  refine aC6 T (w:=A.length) (cls:=dA D m) (by unfold nN;rw[gk];rfl) (by unfold nN;rw[gk0];rfl) (by rw[gN];exact B.n) ?_ (hk _ rfl)
  rw[show(nN A f1 o1 f2 o2 f3 o3 f o D v1 v2 m m).length=A.length+2 by simp[nN]]
  exact hcut ..
theorem R9 {A:Mem} {ow pr:List Int} {su:List (List Int)} (hA:A.all (bH A.length)=true) (c1:dU ow pr su=0) (B:Bnd ow pr su) (h99:ow.length<=99):
  JobX tab (A.length+3) 10 (fun m=>uB ow.length (gL ow pr su) (itN ow.length (gL ow pr su) m)) (fun _=>False) (StP A ow pr su) (A.length+4) (RpP ow pr su):=by
 have hcut:∀(f1 o1 f2 o2 f3 o3 f4 o4:Bool) (ms:List Ms) (v1 v2 v3:Nat) (b:Bool) (u:Int),(jJ A f1 o1 f2 o2 f3 o3 f4 o4 ow pr su ms v1 v2 v3 b u).all (bH (A.length+4))=true:=fun f1 o1 f2 o2 f3 o3 f4 o4 ms v1 v2 v3 b u=>by
  unfold jJ
  rw[List.all_append,eD (by omega) hA]
  simp[bH,aU,PV.under,cI,bW,aO]
 refine EJ T (SA T hA c1 B h99) (by decide) (fun m=>by unfold aA0;simp) ?_ ?_ ?_
 ·rintro m M ⟨_,f1,o1,f2,o2,f3,o3,f4,o4,ms,v1,v2,v3,b,_,_,_,rfl⟩
  simp[jJ]
 ·rintro m M ⟨_,f1,o1,f2,o2,f3,o3,f4,o4,ms,v1,v2,v3,b,_,_,_,rfl⟩
  exact hcut ..
 ·rintro m M ⟨_,f1,o1,f2,o2,f3,o3,f4,o4,ms,v1,v2,v3,b,hS,hN,_,rfl⟩ K hk
  refine aC5 T (w:=A.length) (i2:=A.length+2) (ms:=ms) EK (by unfold jJ;rw[gk0,hS.l];rfl) (by unfold jJ;rw[gk];rfl) (by rw[hS.l];exact B.o) ?_ (hk _ ⟨ms,rfl,hS,hN⟩)
  rw[show(jJ A f1 o1 f2 o2 f3 o3 f4 o4 ow pr su ms v1 v2 v3 b m).length=A.length+4 by simp[jJ]]
  exact hcut ..
end
end Go.Am.Ar

