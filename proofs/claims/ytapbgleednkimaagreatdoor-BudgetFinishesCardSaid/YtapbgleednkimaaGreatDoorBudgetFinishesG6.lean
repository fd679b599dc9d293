/- Contracts: a computation of measures is started; as a job, and what goes with it. -/
import Derived.Test.YtapbgleednkimaaGreatDoorBudgetFinishesG5
import Derived.Test.YtapbgleednkimaaGreatDoorPmC
import Derived.Test.YtapbgleednkimaaGreatDoorBudgetFinishesG3
import Derived.Test.YtapbgleednkimaaGreatDoorBudgetFinishesG2
import Derived.Test.YtapbgleednkimaaGreatDoorBudgetFinishesG0
set_option linter.unusedVariables false
set_option linter.unusedSimpArgs false
set_option maxRecDepth 10000
namespace Go.Am.Ar
open Go.Am.PV renaming junk->Zj
open Go.Am renaming pchk->P1,pold->P2,PKNo->P3,ppack->P4,PObj.under->P5,pput->P6,ptset->P7,ptget->P8,pev->P9,ofAV->P10,ofAV1->P11,ppad->P12,pfill->P13,bW->P14,AO.effect->P15
open List renaming replicate->L1
theorem vS{ms:List Ms} :∀v∈msL ms,(∃b,v= .bool b)\/∃n,v=p64 n:=fun v hv=>by
 unfold msL at hv;obtain⟨x,_,h⟩:=List.mem_flatMap.1 hv;rcases List.mem_cons.1 h with rfl | h
 ·exact .inl ⟨_,rfl⟩
 ·obtain⟨n,_,rfl⟩:=List.mem_map.1 h;exact .inr ⟨n,rfl⟩
theorem GT(k:Nat):∀{l:List PV},(∀v∈l,(∃b,v= .bool b)\/∃n,v=p64 n)->shL k l=l
 | [],_=>by simp[shL]
 | v::l,h=>by have h1:=GT k (l:=l) fun x hx=>h x (by simp[hx]);rcases h v (by simp)with⟨b,rfl⟩ | ⟨n,rfl⟩<;>simp[shL,PV.sh,h1]
theorem YX(ms:List Ms):nI (msL ms)=true:=(sY _).2 fun v hv=>by rcases vS v hv with⟨b,rfl⟩ | ⟨n,rfl⟩<;>simp[PV.shOk]
theorem Y5(c:Nat):∀{ns:List Nat},(∀n∈ns,n<=c)->mT ns<=(c+1)^ns.length
 | [],_=>by simp[mT]
 | n::ns,h=>by have h1:=Y5 c (ns:=ns) fun x hx=>h x (by simp[hx]);have h2:=h n (by simp);show(n+1)*mT ns<=_;rw[List.length_cons,Nat.pow_succ,Nat.mul_comm];exact Nat.mul_le_mul h1 (by omega)
theorem QJ(pr:List Int):∀n∈aQ pr,n<=pr.length:=fun n hn=>by obtain⟨v,_,rfl⟩:=F7 hn;exact List.count_le_length
theorem aGB{ow pr:List Int}{su:List (List Int)}(V:Valid ow pr su)(h:ow.length<=99)(m:Nat):mZ ow.length (itN ow.length (gL ow pr su) m)<4000000000000000000:=by
 have h1:=vM (n:=ow.length) (m:=itN ow.length (gL ow pr su) m) (EU (kU V) m).bnd;have h2:mT (aQ pr)<=100^8:=by
  have:=Y5 99 (ns:=aQ pr) fun n hn=>by have:=QJ pr n hn;have:=V.p;omega
  rw[iO]at this;exact this
 have h3:=Nat.mul_le_mul h h2;have h4:99*100^8<4000000000000000000:=by decide
 omega
def StP(A:Mem)(ow pr:List Int)(su:List (List Int))(m:Nat)(M:Mem):Prop:=
 m<=mZ ow.length (itN ow.length (gL ow pr su) m)/\∃(f1 o1 f2 o2 f3 o3 f4 o4:Bool) (ms:List Ms) (v1 v2 v3:Nat) (b:Bool),StOk (aQ pr) ow.length ms/\Nf (aQ pr) ms=itN ow.length (gL ow pr su) m/\(b=true↔kS ow.length (gL ow pr su) (itN ow.length (gL ow pr su) m))/\M=fU A f1 o1 f2 o2 f3 o3 f4 o4 ow pr su ms v1 v2 v3 b m
open Classical in
noncomputable def aCM(ow pr:List Int)(su:List (List Int))(m:Nat):Bool:= !decide (kS ow.length (gL ow pr su) (itN ow.length (gL ow pr su) m))
theorem vW{A:Mem}{f1 o1 f2 o2 f3 o3 f4 o4:Bool}{ow pr:List Int}{su:List (List Int)}{ms:List Ms}{v1 v2 v3:Nat}{b:Bool}{u:Int} :(fU A f1 o1 f2 o2 f3 o3 f4 o4 ow pr su ms v1 v2 v3 b u)[A.length+3]? =some (.cells 0 v3 [.iface 125 (.ptr A.length 0 0),p64 u]):=by unfold fU;rw[gk];rfl
section
variable {tab:FuncId->Option AF} (T:HasA tab)
include T
theorem aAE{M:Mem}{K:PV->Mem->Prop}{f o:Bool}{xs:List Int}(hm:xs.length<big)(hk:K (slI false true .u8 xs) M):SemC tab 158 [slI f o .u8 xs] M K:=by
 have hb:xs.length<1000000000000:=hm;have b1:xs.length<=140737488355328:=by omega
 have b2:xs.length<=9223372036854775807:=by omega
 refine fS (aE T.h158 (by simp only[PP,simprocAttr]) ?_);simp only[af158,PP,simprocAttr];refine QIf.intro (fun c=>?_) (fun c=>?_)
 ·have:xs=[]:=List.length_eq_zero_iff.1 c;subst this;constructor
  ·simp only[PP,simprocAttr];exact⟨_,PvWk.nils _ _ _,hk⟩
  ·simp only[PP,simprocAttr];exact⟨_,PvWk.sl _ _ _ _,hk⟩
 ·simp only[PP,simprocAttr,c,b1,b2];exact⟨_,PvWk.refl _,hk⟩
theorem aAW{M:Mem}{K:PV->Mem->Prop}{f1 o1 f2 o2 f3 o3 f4 o4:Bool}{ow pr:List Int}{su:List (List Int)}(B:Bnd ow pr su)(c1:bG ow pr su=0)
  (hk:∀ms b v,t8 ow pr su 0 ms b 0->K (.tuple [.ref (M.length+1) 0 9 0 ow.length,.bool b,p64 0]) (M++[.gone,.cells 0 v (msL ms)])):
  SemC tab 159 [gmP f1 o1 f2 o2 f3 o3 f4 o4 ow pr su,p64 0] M K:=by
 refine aBz (args2:=[gmP f1 o1 f2 o2 f3 o3 f4 o4 ow pr su,p64 0]) (args3:=[gmP false false false false false false false false ow pr su,p64 0]) (.same (by simp only[PP,simprocAttr]) (.same (by simp only[PP,simprocAttr]) .nil)) ?_ ?_
 ·simp only[fP,PV.age,CZ,aAV,zF,List.map_cons,List.map_nil,PObj.mapC,slR]
 refine aAX T B (by omega) c1 (by omega) fun ms b v X hA=>⟨[.gone,.cells 0 v (msL ms)],?_,by simp,by simp[PV.shOk,nI],by simp[aEo,YX],?_⟩
 ·intro i o h
  match i,h with
  | 0,h=>left;simpa using h.symm
  | 1,h=>right;simpa using h
  | i+2,h=>simp at h
 ·have:=hk ms b v hA;rw[Nat.add_comm]at this;simpa [PV.sh,shL,shO,GT _ vS]using this
set_option maxHeartbeats 1000000 in
theorem aFg{A:Mem}{K:PV->Mem->Prop}{f1 o1 f2 o2 f3 o3 f4 o4:Bool}{ow pr:List Int}{su:List (List Int)}(B:Bnd ow pr su)(c1:bG ow pr su=0)
  (hk:∀Y v1 v2 ms b,aI (A.length+1) Y=true->t8 ow pr su 0 ms b 0->K (.ptr (A.length+1) 0 0) (A++[Y,.cells 0 v1 [slI false true .u8 ow,slI false true .i64 pr,slR false true false true .i64 su,.ref (A.length+3) 0 9 0 ow.length,.bool b],.gone,.cells 0 v2 (msL ms)])):
  SemC tab 94 [gmP f1 o1 f2 o2 f3 o3 f4 o4 ow pr su] A K:=by
 refine aT T.h94 ?_;simp only[af94,PP,simprocAttr,gk,gk0,sk,sk0];refine aAE T B.o ?_;simp only[PP,simprocAttr,gk,gk0,sk,sk0];refine lO T B.p ?_;simp only[PP,simprocAttr,gk,gk0,sk,sk0];refine yY T B.s B.r ?_;simp only[PP,simprocAttr,gk,gk0,sk,sk0,List.append_assoc];refine aAW T B c1 fun ms b v hA=>?_;simp only[PP,simprocAttr,PN,gk,gk0,sk,sk0,List.append_assoc];exact hk _ 2 v ms b (by simp[aI,aC,PV.under,aP,aR]) hA
theorem WY{A:Mem}{K:PV->Mem->Prop}{f1 o1 f2 o2 f3 o3 f4 o4:Bool}{ow pr:List Int}{su:List (List Int)}(B:Bnd ow pr su)(hA:A.all (aI A.length)=true)
  (hk1:bG ow pr su≠0->K (.tuple [.nilptr,p64 (bG ow pr su)]) A)
  (hk2:bG ow pr su=0->∀X Y v1 v2 ms b,aI (A.length+2) X=true->aI (A.length+2) Y=true->t8 ow pr su 0 ms b 0->K (.tuple [.ptr (A.length+5) 0 0,p64 0]) (fU (A++[X,Y]) false true false true false true false true ow pr su ms v1 v2 0 b 0)):
  SemC tab 42 [gmP f1 o1 f2 o2 f3 o3 f4 o4 ow pr su] A K:=by
 have hX:∀m,aI m (PObj.cells 0 0 [slI f1 o1 .u8 ow,slI f2 o2 .i64 pr,slR f3 o3 f4 o4 .i64 su])=true:=fun m=>by simp[aI,aC,PV.under,aP,aR]
 refine dC (aT T.h42 ?_);simp only[af42,PP,simprocAttr,gk0,sk0];refine wC T B ?_;by_cases hc:bG ow pr su=0;rotate_left
 ·simp only[PP,simprocAttr,hc];refine Gh.step (GStep.dropM (b:=[.tuple [.nilptr,p64 (bG ow pr su)]]) (N:=A) A.length (Nat.le_refl _) (by simp) (by simp only[PW]) (by simp[aC,PV.under]) ?_ (List.take_left' rfl)) (Gh.same ⟨_,rfl,hk1 hc⟩);exact(congrArg (fun M:Mem=>M.all (aI A.length)) (List.take_left' rfl)).trans hA
 simp only[PP,simprocAttr,hc,gk0,sk0];refine aFg T B hc fun Y v1 v2 ms b hY hA=>?_;have h:=hk2 hc (.cells 0 0 [slI f1 o1 .u8 ow,slI f2 o2 .i64 pr,slR f3 o3 f4 o4 .i64 su]) Y v1 v2 ms b (hX _) (by simpa using hY) hA;simp only[PP,simprocAttr,gk,gk0,sk,sk0,mS,oL,i7,List.append_assoc];unfold fU at h;simp only[msM,List.append_assoc,List.cons_append,List.nil_append,List.length_append,List.length_cons,List.length_nil,Nat.zero_add,Nat.reduceAdd]at h;exact Gh.same ⟨_,rfl,h⟩
theorem UA{A:Mem}{ow pr:List Int}{su:List (List Int)}(hA:A.all (aI A.length)=true)(c1:bG ow pr su=0)(B:Bnd ow pr su)(h99:ow.length<=99):
  JobK tab (A.length+3) A.length 125 265 264 10 (fun m=>kS ow.length (gL ow pr su) (itN ow.length (gL ow pr su) m)) (fun _=>False) (aCM ow pr su) (StP A ow pr su) where
 job:=by rintro m M ⟨_,f1,o1,f2,o2,f3,o3,f4,o4,ms,v1,v2,v3,b,_,_,_,rfl⟩;exact⟨v3,vW⟩
 sm:=by rintro m M ⟨h,_⟩;have:=aGB (dP c1) h99 m;omega
 unit:=by
  rintro m M ⟨h,f1,o1,f2,o2,f3,o3,f4,o4,ms,v1,v2,v3,b,hS,hN,hb,rfl⟩ K k1 k2 k3;refine aCh T hA c1 B hS (fun hp v1'=>?_) (fun v y r v1' v2' hF hy hn hr=>?_)
  ·rw[hN]at hp;exact k1 hp _ ⟨h,f1,o1,f2,o2,f3,o3,f4,o4,ms,v1',v2,v3,true,hS,hN,⟨fun _=>hp,fun _=>rfl⟩,rfl⟩
  ·have hv:v<ms.length:=by rw[hS.l];exact hF.1
   have hnx:Nf (aQ pr) (ms.set v y)=itN ow.length (gL ow pr su) (m+1):=by show _=qY ow.length (gL ow pr su) (itN ow.length (gL ow pr su) m);rw[FL hv,hn,hN,oG (by rw[<-hN];exact hF)]
   refine k3 (fun hp=>?_) (fun q=>q) _ v3 vW ⟨?_,f1,o1,f2,o2,f3,o3,f4,o4,ms.set v y,v1',v2',v3+1,r,hS.set hy,hnx,by rw[<-hnx];exact hr,?_⟩
   ·have:=hp v hF.1;rw[<-hN]at this;have:=hF.2.1;omega
   ·have e:itN ow.length (gL ow pr su) (m+1)=kV (itN ow.length (gL ow pr su) m) v (gL ow pr su (itN ow.length (gL ow pr su) m) v):=by show qY ow.length (gL ow pr su) (itN ow.length (gL ow pr su) m)=_;exact oG (by rw[<-hN];exact hF)
    have hF2:=hF.2.1;rw[hN]at hF2;have:=qV (n:=ow.length) (m:=itN ow.length (gL ow pr su) m) (v:=v) (x:=gL ow pr su (itN ow.length (gL ow pr su) m) v) hF.1 hF2;rw[e];omega
   ·unfold fU;rw[sk];rfl
 left:=by
  rintro m M ⟨h,f1,o1,f2,o2,f3,o3,f4,o4,ms,v1,v2,v3,b,hS,hN,hb,rfl⟩ K k;refine aT T.h264 ?_;have hk:=k _ ⟨h,f1,o1,f2,o2,f3,o3,f4,o4,ms,v1,v2,v3,b,hS,hN,hb,rfl⟩;have e:aCM ow pr su m= !b:=by unfold aCM;congr 1;exact Bool.eq_iff_iff.2 (Iff.trans (@decide_eq_true_iff _ (Classical.propDecidable _)) hb.symm)
  rw[e]at hk;unfold fU at hk ⊢;simp only[af264,msM,PP,simprocAttr,gk,gk0,sk,sk0];exact hk
 meth:= .inr (.inr ⟨rfl,rfl,rfl⟩)
end
end Go.Am.Ar
--P14
namespace Go.Am.Ar
open Go.Am.PV renaming junk->Zj
open Go.Am renaming pchk->P1,pold->P2,PKNo->P3,ppack->P4,PObj.under->P5,pput->P6,ptset->P7,ptget->P8,pev->P9,ofAV->P10,ofAV1->P11,ppad->P12,pfill->P13,bW->P14,AO.effect->P15
open List renaming replicate->L1
theorem wD(f o:Bool)(sz n:Nat)(cs:List PV):PV.age (.sl f o sz n cs)= .sl false false sz n (fP cs):=by simp[PV.age]
theorem NS(f o:Bool)(rs:List (List Int)):fP (rs.map (slI f o .i64))=rs.map (slI false false .i64):=by rw[gR,List.map_map];exact List.map_congr_left fun x _=>by show PV.age (slI f o .i64 x)=_;unfold slI;rw[wD,CZ]
theorem KB(f g:Bool)(rs:List (List Int)):PV.young (slR f true g true .i64 rs)=true:=by unfold slR;rw[wJ];exact(gV _).2 fun v hv=>by obtain⟨x,_,rfl⟩:=List.mem_map.1 hv;exact R4 _ _ _ _ _
theorem FN(f:Bool)(xs:List Bool):PV.young (slB f true xs)=true:=by unfold slB;rw[wJ];exact(gV _).2 fun v hv=>by obtain⟨x,_,rfl⟩:=List.mem_map.1 hv;exact wK _
theorem V9(f:Bool)(ms:List Ms):PV.young (slM f true ms)=true:=by unfold slM;rw[wJ];exact(gV _).2 fun v hv=>by rcases vS v hv with⟨b,rfl⟩ | ⟨n,rfl⟩;exact wK _;exact R5 _ _
theorem aDJ(ms:List Ms):fP (msL ms)=msL ms:=by
 have h:∀l:List PV,(∀v∈l,(∃b,v= .bool b)\/∃n,v=p64 n)->fP l=l:=by
  intro l
  induction l with
  | nil=>intro _;simp[fP]
  | cons v l ih=>intro h;have h1:=ih fun x hx=>h x (by simp[hx]);rcases h v (by simp)with⟨b,rfl⟩ | ⟨n,rfl⟩<;>simp[fP,PV.age,h1]
 exact h _ vS
abbrev XF(f:Bool)(vs:Int)(rows:List (List Int))(fins:List Bool)(sets:List (List Int))(cls:List Int)(ms:List Ms):PV:=
 .agg [p64 vs,p64 0,slR f true f true .i64 rows,slB f true fins,slR f true f true .i64 sets,slI f true .i64 cls,slM f true ms]
theorem C4{vs:Int}{a b c d e:PV}{rows:List (List Int)}{fins:List Bool}{sets:List (List Int)}{cls:List Int}{ms:List Ms}(h1:PvWk a (slR false true false true .i64 rows))(h2:PvWk b (slB false true fins))(h3:PvWk c (slR false true false true .i64 sets))(h4:PvWk d (slI false true .i64 cls))(h5:PvWk e (slM false true ms)):
  PvWk (.agg [p64 vs,p64 0,a,b,c,d,e]) (XF false vs rows fins sets cls ms):=by
 refine PvWk.agg rfl fun i y z p q=>?_
 match i,p,q with
 | 0,p,q=>cases p;cases q;exact PvWk.refl _
 | 1,p,q=>cases p;cases q;exact PvWk.refl _
 | 2,p,q=>cases p;cases q;exact h1
 | 3,p,q=>cases p;cases q;exact h2
 | 4,p,q=>cases p;cases q;exact h3
 | 5,p,q=>cases p;cases q;exact h4
 | 6,p,q=>cases p;cases q;exact h5
 | i+7,p,q=>simp at p
section
variable {tab:FuncId->Option AF} (T:HasA tab)
include T
theorem CS{M:Mem}{K:PV->Mem->Prop}{id g v:Nat}{f o:Bool}{rs:List (List Int)}(hM:M[id]? =some (.cells g v (rs.map (slI f o .i64))))(hm:rs.length<big)(hr:∀r∈rs,r.length<big)(hk:K (slR false true false true .i64 rs) M):SemC tab 57 [.ref id g 1 0 rs.length] M K:=by refine tY (args2:=[.sl true false 1 rs.length (rs.map (slI f o .i64))]) (args3:=[slR false false false false .i64 rs]) (.ref hM (by simp) (aR _ _ _ _ _) (aU _ _ (by simp)) .nil) ?_ (yY T hm hr ⟨KB _ _ _,hk⟩);simp only[fP,wD,NS,slR]
theorem UW{M:Mem}{K:PV->Mem->Prop}{id g v:Nat}{xs:List Bool}(hM:M[id]? =some (.cells g v (xs.map PV.bool)))(hm:xs.length<big)(hk:K (slB false true xs) M):SemC tab 58 [.ref id g 1 0 xs.length] M K:=by refine tY (args2:=[.sl true false 1 xs.length (xs.map PV.bool)]) (args3:=[slB false false xs]) (.ref hM (by simp) (bH _ _) (aU _ _ (by simp)) .nil) ?_ (CV T hm ⟨FN _ _,hk⟩);simp only[fP,wD,zF,slB]
theorem UT{M:Mem}{K:PV->Mem->Prop}{f o:Bool}{ms:List Ms}(hm:ms.length<big)(hk:K (slM false true ms) M):SemC tab 60 [slM f o ms] M K:=by
 have hb:ms.length<1000000000000:=hm;have b1:ms.length*72<=140737488355328:=by omega
 have b2:ms.length<=9223372036854775807:=by omega
 refine fS (aE T.h60 (by simp only[PP,P14,simprocAttr,PN,PV.under]) ?_);simp only[af60,PP,P14,simprocAttr,PN];refine QIf.intro (fun c=>?_) (fun c=>?_)
 ·have:ms=[]:=List.length_eq_zero_iff.1 c;subst this;constructor
  ·simp only[PP,P14,simprocAttr];exact⟨_,PvWk.nils _ _ _,hk⟩
  ·simp only[PP,P14,simprocAttr,PN];exact⟨_,PvWk.sl _ _ _ _,hk⟩
 ·simp only[PP,P14,simprocAttr,PN,c,b1,b2];rw[eZ];exact⟨_,PvWk.refl _,hk⟩
theorem UU{M:Mem}{K:PV->Mem->Prop}{id g v:Nat}{ms:List Ms}(hM:M[id]? =some (.cells g v (msL ms)))(hm:ms.length<big)(hk:K (slM false true ms) M):SemC tab 60 [.ref id g 9 0 ms.length] M K:=by refine tY (args2:=[slM true false ms]) (args3:=[slM false false ms]) (.ref hM (by rw[jA];omega) (cM _ _) (eZ ms) .nil) ?_ (UT T hm ⟨V9 _ _,hk⟩);simp only[fP,wD,aDJ,slM]
set_option maxHeartbeats 1000000 in
theorem aE6{M:Mem}{K:PV->Mem->Prop}{j w v vw i2 g2 v2 i5 g5 v5 i6 g6 v6:Nat}{u:Int}{a b c d e x:PV}{vs:Int}{f1 o1 f2 o2:Bool}{rows sets:List (List Int)}{fins:List Bool}
  (hj:M[j]? =some (.cells 0 v [.iface 116 (.ptr w 0 0),p64 u])) (hw:M[w]? =some (.cells 0 vw [p64 vs,a,b,c,d,e,.ref i2 g2 1 0 sets.length,x,.ref i5 g5 1 0 rows.length,.ref i6 g6 1 0 fins.length]))
  (h2:M[i2]? =some (.cells g2 v2 (sets.map (slI f2 o2 .i64)))) (h5:M[i5]? =some (.cells g5 v5 (rows.map (slI f1 o1 .i64)))) (h6:M[i6]? =some (.cells g6 v6 (fins.map PV.bool)))
  (hs:sets.length<big) (hs2:∀r∈sets,r.length<big) (hr:rows.length<big) (hr2:∀r∈rows,r.length<big) (hf:fins.length<big) (hc:M.all (aI M.length)=true)
  (hk:K (XF false vs rows fins sets [] []) M):SemC tab 20 [.ptr j 0 0] M K:=by
 have gj:=fun l=>bY hj l;have gw:=fun l=>bY hw l;refine fS (dC (aT T.h20 ?_));simp only[af20,PP,P14,simprocAttr,PI,gj,gw,gk0,sk0];refine CS T (bY h5 _) hr hr2 ?_;simp only[PP,P14,simprocAttr,PI,gj,gw,gk0,sk0];refine UW T (bY h6 _) hf ?_;simp only[PP,P14,simprocAttr,PI,gj,gw,gk0,sk0];refine CS T (bY h2 _) hs hs2 ?_;simp only[PP,P14,simprocAttr,PI,gj,gw,gk0,sk0];refine Gh.step (GStep.dropM (b:=[.agg [p64 vs,p64 0,slR false true false true .i64 rows,slB false true fins,slR false true false true .i64 sets,.nils,.nils]]) (N:=M) M.length (Nat.le_refl _) (by simp) (by simp only[PW]) (by simp[aC,PV.under,aR,aP,bH,cM]) ?_ (List.take_left' rfl)) (Gh.same ⟨_,rfl,_,C4 (PvWk.refl _) (PvWk.refl _) (PvWk.refl _) (PvWk.nils _ _ _) (PvWk.nils _ _ _),hk⟩);exact(congrArg (fun N:Mem=>N.all (aI M.length)) (List.take_left' rfl)).trans hc
set_option maxHeartbeats 1000000 in
theorem aE5{M:Mem}{K:PV->Mem->Prop}{j w v vw:Nat}{u:Int}{a b c d e:PV}{f o:Bool}{cls:List Int}
  (hj:M[j]? =some (.cells 0 v [.iface 122 (.ptr w 0 0),p64 u])) (hw:M[w]? =some (.cells 0 vw [a,b,c,d,e,slI f o .i64 cls])) (hl:cls.length<big) (hc:M.all (aI M.length)=true)
  (hk:K (XF false 0 [] [] [] cls []) M):SemC tab 20 [.ptr j 0 0] M K:=by
 have gj:=fun l=>bY hj l;have gw:=fun l=>bY hw l;refine fS (dC (aT T.h20 ?_));simp only[af20,PP,P14,simprocAttr,PI,gj,gw,gk0,sk0];refine lO T hl ?_;simp only[PP,P14,simprocAttr,PI,gj,gw,gk0,sk0];refine Gh.step (GStep.dropM (b:=[.agg [p64 0,p64 0,.nils,.nils,.nils,slI false true .i64 cls,.nils]]) (N:=M) M.length (Nat.le_refl _) (by simp) (by simp only[PW]) (by simp[aC,PV.under,aR,aP,bH,cM]) ?_ (List.take_left' rfl)) (Gh.same ⟨_,rfl,_,C4 (PvWk.nils _ _ _) (PvWk.nils _ _ _) (PvWk.nils _ _ _) (PvWk.refl _) (PvWk.nils _ _ _),hk⟩);exact(congrArg (fun N:Mem=>N.all (aI M.length)) (List.take_left' rfl)).trans hc
set_option maxHeartbeats 1000000 in
theorem aE4{M:Mem}{K:PV->Mem->Prop}{j w v vw i2 g2 v2:Nat}{u:Int}{a b c d:PV}{ms:List Ms}
  (hj:M[j]? =some (.cells 0 v [.iface 125 (.ptr w 0 0),p64 u])) (hw:M[w]? =some (.cells 0 vw [a,b,c,.ref i2 g2 9 0 ms.length,d])) (h2:M[i2]? =some (.cells g2 v2 (msL ms))) (hl:ms.length<big) (hc:M.all (aI M.length)=true)
  (hk:K (XF false 0 [] [] [] [] ms) M):SemC tab 20 [.ptr j 0 0] M K:=by
 have gj:=fun l=>bY hj l;have gw:=fun l=>bY hw l;refine fS (dC (aT T.h20 ?_));simp only[af20,PP,P14,simprocAttr,PI,gj,gw,gk0,sk0];refine UU T (bY h2 _) hl ?_;simp only[PP,P14,simprocAttr,PI,gj,gw,gk0,sk0];refine Gh.step (GStep.dropM (b:=[.agg [p64 0,p64 0,.nils,.nils,.nils,.nils,slM false true ms]]) (N:=M) M.length (Nat.le_refl _) (by simp) (by simp only[PW]) (by simp[aC,PV.under,aR,aP,bH,cM]) ?_ (List.take_left' rfl)) (Gh.same ⟨_,rfl,_,C4 (PvWk.nils _ _ _) (PvWk.nils _ _ _) (PvWk.nils _ _ _) (PvWk.nils _ _ _) (PvWk.refl _),hk⟩);exact(congrArg (fun N:Mem=>N.all (aI M.length)) (List.take_left' rfl)).trans hc
theorem aB4{M:Mem}{K:PV->Mem->Prop}{j v:Nat}{w:PV}{u:Int}(hj:M[j]? =some (.cells 0 v [w,p64 u]))(hk:K (p64 u) M):SemC tab 22 [.ptr j 0 0] M K:=by refine aT T.h22 ?_;simp only[af22,PP,P14,simprocAttr,PI,hj];exact hk
end
abbrev csC(f o:Bool)(k:Int)(N:NF)(D:DF)(ow pr:List Int)(su:List (List Int)):List PV:=
 [p64 k,p64 N.vs,p64 N.n,slI f o .i64 N.st,slI f o .i64 N.fi,slE f o N.es,p64 D.vs,p64 D.st,slR f o f o .i64 D.nx,slB f o D.fi,slI f o .u8 ow,slI f o .i64 pr,slR f o f o .i64 su]
def E1(k:Int):Int:=(k.tmod 3+3).tmod 3
theorem MX(k:Int):E1 k=0\/E1 k=1\/E1 k=2:=by
 unfold E1;have h1:=Int.tmod_lt_of_pos k (b:=3) (by omega);have h2: -3<k.tmod 3:=by
  have:=Int.tmod_lt_of_pos (-k) (b:=3) (by omega);rw[Int.neg_tmod]at this;omega
 have h3:0<=k.tmod 3+3:=by omega
 rw[Int.tmod_eq_emod_of_nonneg h3];omega
def aHd(N:NF):NF:=⟨N.vs,min N.n 5,N.st.take 6,N.fi.take 6,N.es.take 20⟩
def E2(D:DF):DF:=⟨D.vs,D.st,(D.nx.take 6).map (List.take 65),D.fi.take 6⟩
def I2(su:List (List Int)):List (List Int):=(su.take 4).map (List.take 6)
theorem oO{α:Type}(l:List α)(c:Nat):min (l.length:Int) (c:Int)=((min l.length c:Nat):Int):=by omega
theorem iR(k:IntKind)(l:List Int)(c:Nat):PV.sl false false 1 (min l.length c) (aY (l.map (PV.int k)) 0 (min l.length c))=slI false false k (l.take c):=by unfold slI aY;rw[List.drop_zero,<-List.map_take,List.length_take,Nat.min_comm];congr 2;rw[<-List.take_length (l:=l.take c),List.length_take,List.take_take];simp
theorem I8:∀(l:List Eg) (c:Nat),(egL l).take (c*4)=egL (l.take c)
 | [],c=>by simp[egL]
 | e::l,0=>by simp[egL]
 | e::l,c+1=>by have ih:=I8 l c;rw[show(c+1)*4=c*4+1+1+1+1 by omega];show _::_::_::_::(egL l).take (c*4)=_::_::_::_::egL (l.take c);rw[ih]
theorem aDr(l:List Eg)(c:Nat):PV.sl false false 4 (min l.length c) (aY (egL l) 0 (min l.length c*4))=slE false false (l.take c):=by
 unfold aY;rw[List.drop_zero,I8];have e:l.take (min l.length c)=l.take c:=by
  rcases Nat.le_total l.length c with h | h
  ·rw[Nat.min_eq_left h,List.take_of_length_le (Nat.le_refl _),List.take_of_length_le h]
  ·rw[Nat.min_eq_right h]
 rw[e];simp only[slE,List.length_take,Nat.min_comm]
theorem CR(l:List Bool)(c:Nat):PV.sl false false 1 (min l.length c) (aY (l.map PV.bool) 0 (min l.length c))=slB false false (l.take c):=by unfold slB aY;rw[List.drop_zero,<-List.map_take,List.length_take,Nat.min_comm];congr 2;rw[<-List.take_length (l:=l.take c),List.length_take,List.take_take];simp
section
variable {tab:FuncId->Option AF} (T:HasA tab)
include T
theorem aAA{M:Mem}{K:PV->Mem->Prop}{f o:Bool}{xs:List Eg}(hm:xs.length<big)(hk:K (slE false true xs) M):SemC tab 37 [slE f o xs] M K:=by refine sH (by simp only[PP,simprocAttr,bD]) (aDs T hm ⟨slE false true xs,?_,hk⟩);simp only[fG,dD];rw[mE (ver:=0) (Nat.zero_le _) rfl (by simp[iH]) (dB 0 xs),aU _ _ (by simp[iH])]
set_option maxHeartbeats 4000000 in
theorem aFP{M:Mem}{K:PV->Mem->Prop}{k:Int}{N:NF}{D:DF}{ow pr:List Int}{su:List (List Int)}(hf:E1 k=0)
  (hk:K (.agg ([p64 0]++nfC false true false true false true (aHd N)++[p64 0,p64 0,.nils,.nils,.nils,.nils,.nils])) M):
  SemC tab 10 [.agg (csC false false k N D ow pr su)] M K:=by
 have h3:IntKind.i64.wrap (k.tmod 3+3)=k.tmod 3+3:=by
  have h1:=Int.tmod_lt_of_pos k (b:=3) (by omega);have h2: -3<k.tmod 3:=by
   have:=Int.tmod_lt_of_pos (-k) (b:=3) (by omega);rw[Int.neg_tmod]at this;omega
  rw[wrap64]<;>omega
 have r1:bX .rem (p64 k) (p64 3)=some (p64 (k.tmod 3)):=by simp[bX,bN,eB,bF,cB,ofAV1]
 have r2:bX .rem (p64 (k.tmod 3+3)) (p64 3)=some (p64 0):=by have:(k.tmod 3+3).tmod 3=0:=hf;simp[bX,bN,eB,bF,cB,ofAV1,this]
 refine bM T.h10 (by simp only[PP,simprocAttr,bD]) ?_;simp only[af10];refine aB (aA ?_);simp only[PP,simprocAttr];refine bB (GStep.freezeP (b:=(.junk:: .cp (csC false false k N D ow pr su) 0:: .ptr 1 0 0::zj 171)) 0 (Nat.zero_le _) rfl (by simp only[kK,kL,List.cons_append,List.nil_append,cF,bU,bT,cE]) rfl) ?_;refine aA ?_;have m6:∀l:List Int,min (l.length:Int) 6=((min l.length 6:Nat):Int):=fun l=>oO l 6;have m20:min (N.es.length:Int) 20=((min N.es.length 20:Nat):Int):=oO _ 20;have nn:∀n:Nat,(0:Int)<=(n:Int):=fun n=>by omega
 have le1:∀(l:List Int),((min l.length 6:Nat):Int)<=l.length:=fun l=>by omega
 have le2:((min N.es.length 20:Nat):Int)<=N.es.length:=by omega
 have sb:∀n:Int,n-0=n:=fun n=>by omega
 simp only[PP,simprocAttr,r1,h3,r2,iW,m6,m20,nn,le1,le2,sb];have l6:∀l:List Int,(l.take 6).length<big:=fun l=>by rw[List.length_take];show _<1000000000000;omega
 have l20:(N.es.take 20).length<big:=by rw[List.length_take];show _<1000000000000;omega
 rw[iR];refine hU T (l6 _) ?_;simp only[PP,simprocAttr,m6,m20,nn,le1,le2,sb,iW];rw[iR];refine hU T (l6 _) ?_;simp only[PP,simprocAttr,m6,m20,nn,le1,le2,sb,iW];rw[aDr];refine aAA T l20 ?_;simp only[PP,simprocAttr,m6,m20,nn,le1,le2,sb,iW];have pe:∀(N':Mem) (n:Nat) (l:List Eg),cC 0 N' (.sl false true 4 n (egL l))=some (.sl false true 4 n (egL l)):=fun N' n l=>uI (bD 0 false true 4 n l);simp only[pe,PP,simprocAttr];exact hk
set_option maxHeartbeats 4000000 in
theorem aFO{M:Mem}{K:PV->Mem->Prop}{k:Int}{N:NF}{D:DF}{ow pr:List Int}{su:List (List Int)}(hf:E1 k=1)
  (hk:K (.agg ([p64 1,p64 0,p64 0,.nils,.nils,.nils]++dfC false true false true false true (E2 D)++[.nils,.nils,.nils])) M):
  SemC tab 10 [.agg (csC false false k N D ow pr su)] M K:=by
 have h3:IntKind.i64.wrap (k.tmod 3+3)=k.tmod 3+3:=by
  have h1:=Int.tmod_lt_of_pos k (b:=3) (by omega);have h2: -3<k.tmod 3:=by
   have:=Int.tmod_lt_of_pos (-k) (b:=3) (by omega);rw[Int.neg_tmod]at this;omega
  rw[wrap64]<;>omega
 have r1:bX .rem (p64 k) (p64 3)=some (p64 (k.tmod 3)):=by simp[bX,bN,eB,bF,cB,ofAV1]
 have r2:bX .rem (p64 (k.tmod 3+3)) (p64 3)=some (p64 1):=by have:(k.tmod 3+3).tmod 3=1:=hf;simp[bX,bN,eB,bF,cB,ofAV1,this]
 refine bM T.h10 (by simp only[PP,simprocAttr,bD]) ?_;simp only[af10];refine aB (aA ?_);simp only[PP,simprocAttr];refine bB (GStep.freezeP (b:=(.junk:: .cp (csC false false k N D ow pr su) 0:: .ptr 1 0 0::zj 171)) 0 (Nat.zero_le _) rfl (by simp only[kK,kL,List.cons_append,List.nil_append,cF,bU,bT,cE]) rfl) ?_;refine aA ?_;simp only[PP,simprocAttr,r1,h3,r2];refine aG (b:=(.junk:: .cp (csC false false k N D ow pr su) 0:: .ptr 1 0 0:: .ptr 2 0 0::p64 0::zj 169)) ?_ (by simp only[PW]);refine bB (GStep.nilbox 2 8 1 rfl rfl rfl) ?_;have m65:∀l:List Int,min (l.length:Int) 65=((min l.length 65:Nat):Int):=fun l=>oO l 65;have m6:min (D.fi.length:Int) 6=((min D.fi.length 6:Nat):Int):=oO _ 6;have nn:∀n:Nat,(0:Int)<=(n:Int):=fun n=>by omega
 have le1:∀(l:List Int),((min l.length 65:Nat):Int)<=l.length:=fun l=>by omega
 have le2:((min D.fi.length 6:Nat):Int)<=D.fi.length:=by omega
 have sb:∀n:Int,n-0=n:=fun n=>by omega
 have l65:∀l:List Int,(l.take 65).length<big:=fun l=>by rw[List.length_take];show _<1000000000000;omega
 refine nV (fun(i g v:Nat)=>i<=D.nx.length/\i<=6) (fun i g v=>(.junk:: .cp (csC false false k N D ow pr su) 0:: .ptr 1 0 0:: .ptr 2 0 0::p64 i::zj 169))
  (fun i g v=>[.gone,.cells 0 0 [p64 0,p64 0,p64 0,.nils,.nils,.nils,p64 0,p64 0,.nils,.nils,.nils,.nils,.nils],.cells 0 v [p64 1,p64 0,p64 0,.nils,.nils,.nils,p64 0,p64 0,.ref 3 g 1 0 i,.nils,.nils,.nils,.nils],.cells g 0 (((D.nx.take i).map (List.take 65)).map (slI false true .i64))]) (fun i g v=>6-i) 0 0 1 (by omega) (by simp only[PW]) rfl ?_
 intro i g v ⟨hi1,hi2⟩ ih;have exit:¬(i<D.nx.length/\i<6)->D.nx.take i=D.nx.take 6/\i=(E2 D).nx.length:=fun h=>by
  have e:D.nx.take i=D.nx.take 6:=by
   by_cases q:i=6
   ·rw[q]
   ·rw[List.take_of_length_le (by omega),List.take_of_length_le (by omega)]
  refine⟨e,?_⟩;unfold E2;simp only[List.length_map,List.length_take];omega
 have l6b:(D.fi.take 6).length<big:=by rw[List.length_take];show _<1000000000000;omega
 have hfz:∀g,D.nx.take i=D.nx.take 6->i=(E2 D).nx.length->pW (some (PObj.cells g 0 (((D.nx.take i).map (List.take 65)).map (slI false true .i64)))) g 1 0 i=some (slR false true false true .i64 (E2 D).nx):=fun g e1 e2=>by rw[e1,show(D.nx.take 6).map (List.take 65)=(E2 D).nx from rfl];subst e2;rw[cQ (by simp) (aR _ _ _ _ _),aU _ _ (by simp)]
 refine aM (by kernel_rfl) ?_;by_cases c1:(i:Int)<D.nx.length
 ·by_cases c2:(i:Int)<6
  ·have hw:=aH (k:=i) (by show _<1000000000000;omega);obtain⟨x,gx⟩:=aO (xs:=D.nx) (k:=i) (by omega);have b1:(i+1)*24<=140737488355328:=by omega
   have b2:i+1<=9223372036854775807:=by omega
   have b3:i<=(D.nx.take i).length:=by rw[List.length_take];omega
   simp only[PP,simprocAttr,c1,c2,nn,gx,m65,le1,sb,iW];rw[iR];refine hU T (l65 _) ?_;simp only[PP,simprocAttr,c1,c2,nn,gx,m65,le1,sb,iW,b1,b2,b3,hw];refine bA (ih (i+1) (g+1) (v+1) ⟨by omega,by omega⟩ (by omega)) (by simp only[PW]) ?_;rw[aU _ _ (by simp;omega),bL gx];simp only[List.map_append,List.map_cons,List.map_nil,slI]
  ·obtain⟨e1,e2⟩:=exit (fun h=>by omega);have hfz:=hfz g e1 e2;simp only[PP,simprocAttr,c1,c2,iW,m6,nn,le2,sb];rw[CR];refine Q7 T l6b ?_;simp only[PP,simprocAttr,hfz];exact hk
 ·obtain⟨e1,e2⟩:=exit (fun h=>by omega);have hfz:=hfz g e1 e2;simp only[PP,simprocAttr,c1,iW,m6,nn,le2,sb];rw[CR];refine Q7 T l6b ?_;simp only[PP,simprocAttr,hfz];exact hk
set_option maxHeartbeats 4000000 in
theorem aFN{M:Mem}{K:PV->Mem->Prop}{k:Int}{N:NF}{D:DF}{ow pr:List Int}{su:List (List Int)}(hf:E1 k=2)
  (hk:K (.agg [p64 2,p64 0,p64 0,.nils,.nils,.nils,p64 0,p64 0,.nils,.nils,slI false true .u8 (ow.take 4),slI false true .i64 (pr.take 4),slR false true false true .i64 (I2 su)]) M):
  SemC tab 10 [.agg (csC false false k N D ow pr su)] M K:=by
 have h3:IntKind.i64.wrap (k.tmod 3+3)=k.tmod 3+3:=by
  have h1:=Int.tmod_lt_of_pos k (b:=3) (by omega);have h2: -3<k.tmod 3:=by
   have:=Int.tmod_lt_of_pos (-k) (b:=3) (by omega);rw[Int.neg_tmod]at this;omega
  rw[wrap64]<;>omega
 have r1:bX .rem (p64 k) (p64 3)=some (p64 (k.tmod 3)):=by simp[bX,bN,eB,bF,cB,ofAV1]
 have r2:bX .rem (p64 (k.tmod 3+3)) (p64 3)=some (p64 2):=by have:(k.tmod 3+3).tmod 3=2:=hf;simp[bX,bN,eB,bF,cB,ofAV1,this]
 refine bM T.h10 (by simp only[PP,simprocAttr,bD]) ?_;simp only[af10];refine aB (aA ?_);simp only[PP,simprocAttr];refine bB (GStep.freezeP (b:=(.junk:: .cp (csC false false k N D ow pr su) 0:: .ptr 1 0 0::zj 171)) 0 (Nat.zero_le _) rfl (by simp only[kK,kL,List.cons_append,List.nil_append,cF,bU,bT,cE]) rfl) ?_;refine aA ?_;simp only[PP,simprocAttr,r1,h3,r2];refine aG (b:=(.junk:: .cp (csC false false k N D ow pr su) 0:: .ptr 1 0 0:: .ptr 2 0 0:: .junk::p64 0::zj 168)) ?_ (by simp only[PW]);refine bB (GStep.nilbox 2 12 1 rfl rfl rfl) ?_;have m6a:∀l:List Int,min (l.length:Int) 6=((min l.length 6:Nat):Int):=fun l=>oO l 6;have m4:∀l:List Int,min (l.length:Int) 4=((min l.length 4:Nat):Int):=fun l=>oO l 4;have nn:∀n:Nat,(0:Int)<=(n:Int):=fun n=>by omega
 have le1:∀(l:List Int),((min l.length 6:Nat):Int)<=l.length:=fun l=>by omega
 have le2:∀(l:List Int),((min l.length 4:Nat):Int)<=l.length:=fun l=>by omega
 have sb:∀n:Int,n-0=n:=fun n=>by omega
 have l6a:∀l:List Int,(l.take 6).length<big:=fun l=>by rw[List.length_take];show _<1000000000000;omega
 refine nV (fun(i g v:Nat)=>i<=su.length/\i<=4) (fun i g v=>(.junk:: .cp (csC false false k N D ow pr su) 0:: .ptr 1 0 0:: .ptr 2 0 0:: .junk::p64 i::zj 168))
  (fun i g v=>[.gone,.cells 0 0 [p64 0,p64 0,p64 0,.nils,.nils,.nils,p64 0,p64 0,.nils,.nils,.nils,.nils,.nils],.cells 0 v [p64 2,p64 0,p64 0,.nils,.nils,.nils,p64 0,p64 0,.nils,.nils,.nils,.nils,.ref 3 g 1 0 i],.cells g 0 (((su.take i).map (List.take 6)).map (slI false true .i64))]) (fun i g v=>4-i) 0 0 1 (by omega) (by simp only[PW]) rfl ?_
 intro i g v ⟨hi1,hi2⟩ ih;have exit:¬(i<su.length/\i<4)->su.take i=su.take 4/\i=(I2 su).length:=fun h=>by
  have e:su.take i=su.take 4:=by
   by_cases q:i=4
   ·rw[q]
   ·rw[List.take_of_length_le (by omega),List.take_of_length_le (by omega)]
  refine⟨e,?_⟩;unfold I2;simp only[List.length_map,List.length_take];omega
 have l4:∀l:List Int,(l.take 4).length<big:=fun l=>by rw[List.length_take];show _<1000000000000;omega
 have hfz:∀g,su.take i=su.take 4->i=(I2 su).length->pW (some (PObj.cells g 0 (((su.take i).map (List.take 6)).map (slI false true .i64)))) g 1 0 i=some (slR false true false true .i64 (I2 su)):=fun g e1 e2=>by rw[e1,show(su.take 4).map (List.take 6)=(I2 su)from rfl];subst e2;rw[cQ (by simp) (aR _ _ _ _ _),aU _ _ (by simp)]
 refine aM (by kernel_rfl) ?_;by_cases c1:(i:Int)<su.length
 ·by_cases c2:(i:Int)<4
  ·have hw:=aH (k:=i) (by show _<1000000000000;omega);obtain⟨x,gx⟩:=aO (xs:=su) (k:=i) (by omega);have b1:(i+1)*24<=140737488355328:=by omega
   have b2:i+1<=9223372036854775807:=by omega
   have b3:i<=(su.take i).length:=by rw[List.length_take];omega
   simp only[PP,simprocAttr,c1,c2,nn,gx,m6a,le1,sb,iW];rw[iR];refine hU T (l6a _) ?_;simp only[PP,simprocAttr,c1,c2,nn,gx,m6a,le1,sb,iW,b1,b2,b3,hw];refine bA (ih (i+1) (g+1) (v+1) ⟨by omega,by omega⟩ (by omega)) (by simp only[PW]) ?_;rw[aU _ _ (by simp;omega),bL gx];simp only[List.map_append,List.map_cons,List.map_nil,slI]
  ·obtain⟨e1,e2⟩:=exit (fun h=>by omega);have hfz:=hfz g e1 e2;simp only[PP,simprocAttr,c1,c2,iW,m4,nn,le2,sb];rw[iR];refine uW T (l4 _) ?_;simp only[PP,simprocAttr,c1,c2,iW,m4,nn,le2,sb];rw[iR];refine hU T (l4 _) ?_;simp only[PP,simprocAttr,hfz];exact hk
 ·obtain⟨e1,e2⟩:=exit (fun h=>by omega);have hfz:=hfz g e1 e2;simp only[PP,simprocAttr,c1,iW,m4,nn,le2,sb];rw[iR];refine uW T (l4 _) ?_;simp only[PP,simprocAttr,c1,iW,m4,nn,le2,sb];rw[iR];refine hU T (l4 _) ?_;simp only[PP,simprocAttr,hfz];exact hk
set_option maxHeartbeats 1000000 in
theorem W4{A:Mem}{K:PV->Mem->Prop}{f o:Bool}{N:NF}{D:DF}{ow pr:List Int}{su:List (List Int)}(B:BnN N)(hA:A.all (aI A.length)=true)
  (hk1:bZ N≠0->K (.tuple [.nilptr,p64 (bZ N)]) A)
  (hk2:bZ N=0->∀X1 X2 q v,aI (A.length+2) X1=true->aI (A.length+2) X2=true->K (.tuple [.ptr (A.length+9) 0 0,p64 0]) (hG (A++[X1,X2]) false true false true false true false true N q [bR N] [] [] v 0)):
  SemC tab 11 [.agg (csC f o 0 N D ow pr su)] A K:=by
 have hX:∀m,aI m (PObj.cells 0 0 (csC f o 0 N D ow pr su))=true:=fun m=>by simp[aI,aC,PV.under,dB,aP,aR,bH]
 have hA1:(A++[PObj.cells 0 0 (csC f o 0 N D ow pr su)]).all (aI (A++[PObj.cells 0 0 (csC f o 0 N D ow pr su)]).length)=true:=by rw[List.all_append,cK (by simp) hA,List.all_cons,hX];rfl
 refine dC (aT T.h11 ?_);simp only[af11,PP,simprocAttr,bD,gk0,sk0];refine W1 T B hA1 (fun hc=>?_) (fun hc X q v hx=>?_)
 ·simp only[PP,simprocAttr];refine Gh.step (GStep.dropM (b:=[.tuple [.nilptr,p64 (bZ N)]]) (N:=A) A.length (Nat.le_refl _) (by simp) (by simp only[PW]) (by simp[aC,PV.under]) ?_ (List.take_left' rfl)) (Gh.same ⟨_,rfl,hk1 hc⟩);exact(congrArg (fun M:Mem=>M.all (aI A.length)) (List.take_left' rfl)).trans hA
 ·have h:=hk2 hc (.cells 0 0 (csC f o 0 N D ow pr su)) X q v (hX _) (by simpa using hx);simp only[PP,simprocAttr,List.append_assoc,List.length_append,List.length_cons,List.length_nil,List.cons_append,List.nil_append,Nat.zero_add,Nat.reduceAdd]at h ⊢;exact Gh.same ⟨_,rfl,h⟩
set_option maxHeartbeats 1000000 in
theorem W3{A:Mem}{K:PV->Mem->Prop}{f o:Bool}{N:NF}{D:DF}{ow pr:List Int}{su:List (List Int)}(B:BnD D)(h99:cA D=0->D.nx.length<=99)(hA:A.all (aI A.length)=true)
  (hk1:cA D≠0->K (.tuple [.nilptr,p64 (cA D)]) A)
  (hk2:cA D=0->∀X0 X1 X2 v,aI (A.length+3) X0=true->aI (A.length+3) X1=true->aI (A.length+3) X2=true->K (.tuple [.ptr (A.length+4) 0 0,p64 0]) (j5 (A++[X0,X1,X2]) false true false true false true false true D v 0 0 0)):
  SemC tab 11 [.agg (csC f o 1 N D ow pr su)] A K:=by
 have hX:∀m,aI m (PObj.cells 0 0 (csC f o 1 N D ow pr su))=true:=fun m=>by simp[aI,aC,PV.under,dB,aP,aR,bH]
 have hA1:(A++[PObj.cells 0 0 (csC f o 1 N D ow pr su)]).all (aI (A++[PObj.cells 0 0 (csC f o 1 N D ow pr su)]).length)=true:=by rw[List.all_append,cK (by simp) hA,List.all_cons,hX];rfl
 refine dC (aT T.h11 ?_);simp only[af11,PP,simprocAttr,bD,gk0,sk0];refine WZ T B h99 hA1 (fun hc=>?_) (fun hc X Y v hx hy=>?_)
 ·simp only[PP,simprocAttr];refine Gh.step (GStep.dropM (b:=[.tuple [.nilptr,p64 (cA D)]]) (N:=A) A.length (Nat.le_refl _) (by simp) (by simp only[PW]) (by simp[aC,PV.under]) ?_ (List.take_left' rfl)) (Gh.same ⟨_,rfl,hk1 hc⟩);exact(congrArg (fun M:Mem=>M.all (aI A.length)) (List.take_left' rfl)).trans hA
 ·have h:=hk2 hc (.cells 0 0 (csC f o 1 N D ow pr su)) X Y v (hX _) (by simpa using hx) (by simpa using hy);simp only[PP,simprocAttr,List.append_assoc,List.length_append,List.length_cons,List.length_nil,List.cons_append,List.nil_append,Nat.zero_add,Nat.reduceAdd]at h ⊢;exact Gh.same ⟨_,rfl,h⟩
set_option maxHeartbeats 1000000 in
theorem W2{A:Mem}{K:PV->Mem->Prop}{f o:Bool}{N:NF}{D:DF}{ow pr:List Int}{su:List (List Int)}(B:Bnd ow pr su)(hA:A.all (aI A.length)=true)
  (hk1:bG ow pr su≠0->K (.tuple [.nilptr,p64 (bG ow pr su)]) A)
  (hk2:bG ow pr su=0->∀X0 X1 X2 v1 v2 ms b,aI (A.length+3) X0=true->aI (A.length+3) X1=true->aI (A.length+3) X2=true->t8 ow pr su 0 ms b 0->K (.tuple [.ptr (A.length+6) 0 0,p64 0]) (fU (A++[X0,X1,X2]) false true false true false true false true ow pr su ms v1 v2 0 b 0)):
  SemC tab 11 [.agg (csC f o 2 N D ow pr su)] A K:=by
 have hX:∀m,aI m (PObj.cells 0 0 (csC f o 2 N D ow pr su))=true:=fun m=>by simp[aI,aC,PV.under,dB,aP,aR,bH]
 have hA1:(A++[PObj.cells 0 0 (csC f o 2 N D ow pr su)]).all (aI (A++[PObj.cells 0 0 (csC f o 2 N D ow pr su)]).length)=true:=by rw[List.all_append,cK (by simp) hA,List.all_cons,hX];rfl
 refine dC (aT T.h11 ?_);simp only[af11,PP,simprocAttr,bD,gk0,sk0];refine WY T B hA1 (fun hc=>?_) (fun hc X Y v1 v2 ms b hx hy ha=>?_)
 ·simp only[PP,simprocAttr];refine Gh.step (GStep.dropM (b:=[.tuple [.nilptr,p64 (bG ow pr su)]]) (N:=A) A.length (Nat.le_refl _) (by simp) (by simp only[PW]) (by simp[aC,PV.under]) ?_ (List.take_left' rfl)) (Gh.same ⟨_,rfl,hk1 hc⟩);exact(congrArg (fun M:Mem=>M.all (aI A.length)) (List.take_left' rfl)).trans hA
 ·have h:=hk2 hc (.cells 0 0 (csC f o 2 N D ow pr su)) X Y v1 v2 ms b (hX _) (by simpa using hx) (by simpa using hy) ha;simp only[PP,simprocAttr,List.append_assoc,List.length_append,List.length_cons,List.length_nil,List.cons_append,List.nil_append,Nat.zero_add,Nat.reduceAdd]at h ⊢;exact Gh.same ⟨_,rfl,h⟩
end
theorem RI{a:BitVec 64}{n:Nat}(hn:n<=64)(h:∀k,a.getLsbD k=true->k<n):a.toNat<2^n:=by
 refine Nat.lt_pow_two_of_testBit _ fun i hi=>?_;by_cases c:a.toNat.testBit i=true
 ·have:=h i c;omega
 ·simpa using c
theorem KS{N:NF}(C:NOk N)(m:Nat):(stK N m).length<=2^N.n.toNat:=by
 have h64:N.n.toNat<=64:=by have:=C.n64;omega
 have hall:=iS (δ:=aL N) (n:=aF N) (a0:=bR N) (Dm:=fun a=>a.toNat<2^N.n.toNat) (RI h64 fun k hk=>by
   have:=(lZ C k).1 hk;have:=gG C.st _ this;omega) (fun a x _ _=>RI h64 fun k hk=>by
   obtain⟨e,he,_,h2⟩:=(yX C a x k).1 hk;have:=C.ed e (by unfold kQ at he;exact(List.mem_filter.1 he).1);omega) m
 have hnd:((stK N m).map BitVec.toNat).Nodup:=by rw[List.Nodup,List.pairwise_map];exact(jY (aL N) (aF N) (bR N) m).imp fun h q=>h (BitVec.eq_of_toNat_eq q)
 have:=pQ (2^N.n.toNat) ((stK N m).map BitVec.toNat) hnd fun x hx=>by obtain⟨a,ha,rfl⟩:=List.mem_map.1 hx;exact hall a ha
 simpa using this
theorem G0(D:DF)(k i j:Nat)(hi:i<D.nx.length)(hj:j<D.nx.length)(h:(aX D (k+1)).getD i 0=(aX D (k+1)).getD j 0):(aX D k).getD i 0=(aX D k).getD j 0:=by
 have a1:=DX (nx:=D.nx) (c:=aX D k) hi;have a2:=DX (nx:=D.nx) (c:=aX D k) hj;have h:(rfN D.nx (aX D k)).getD i 0=(rfN D.nx (aX D k)).getD j 0:=h;rw[a1,a2]at h;have m1:cN D.nx (aX D k) i∈fv (cN D.nx (aX D k)) D.nx.length:=(gM _ _ _).2 ⟨i,hi,rfl⟩;have m2:cN D.nx (aX D k) j∈fv (cN D.nx (aX D k)) D.nx.length:=(gM _ _ _).2 ⟨j,hj,rfl⟩;have g1:=oR m1;have g2:=oR m2;have e:ixF (fv (cN D.nx (aX D k)) D.nx.length) (cN D.nx (aX D k) i)=ixF (fv (cN D.nx (aX D k)) D.nx.length) (cN D.nx (aX D k) j):=by omega
 rw[e,g2]at g1;have:=congrArg (fun l:List Int=>l.headD 0) (Option.some.inj g1);exact this.symm
theorem xC(D:DF)(k i j:Nat)(hi:i<D.nx.length)(hj:j<D.nx.length):∀d,(aX D (k+d)).getD i 0=(aX D (k+d)).getD j 0->(aX D k).getD i 0=(aX D k).getD j 0
 | 0,h=>h
 | d+1,h=>xC D k i j hi hj d (G0 D (k+d) i j hi hj h)
theorem aB9{n:Nat}{L:(Nat->Nat)->Nat->Nat}(m:Nat->Nat)(v:Nat):m v<=qY n L m v:=by
 by_cases h:∃v,FstN n L m v
 ·obtain⟨u,hu⟩:=h;rw[oG hu];unfold kV;split
  ·rename_i e;subst e;exact Nat.le_of_lt hu.2.1
  ·exact Nat.le_refl _
 ·unfold qY;rw[dif_neg h];exact Nat.le_refl _
theorem aAd{n:Nat}{L:(Nat->Nat)->Nat->Nat}(k v:Nat):∀d,itN n L k v<=itN n L (k+d) v
 | 0=>Nat.le_refl _
 | d+1=>Nat.le_trans (aAd k v d) (aB9 _ v)
structure Res where
 vs:Int
 rows:List (List Int)
 fins:List Bool
 sets:List (List Int)
 cls:List Int
 ms:List Ms
abbrev Res.pv(r:Res):PV:=XF false r.vs r.rows r.fins r.sets r.cls r.ms
theorem Res.pv_under(m:Nat)(r:Res):r.pv.under m=true:=by simp[Res.pv,PV.under,aC,aR,aP,bH,cM]
structure JobX (tab:FuncId->Option AF) (jid:Nat) (e:Int) (D F:Nat->Prop) (St:Nat->Mem->Prop) (L:Nat) (RP:Nat->Res->Prop):Prop where
 len:∀m M,St m M->M.length=L
 cut:∀m M,St m M->M.all (aI L)=true
 job:∀m M,St m M->∃v w wid,M[jid]? =some (.cells 0 v [.iface w (.ptr wid 0 0),p64 (m:Int)])
 sm:∀m M,St m M->m<4000000000000000000
 step:∀n M,St n M->∀(S:Mem) (k:Int) (K:PV->Mem->Prop),0<=k->k<=9223372036854775807->
  (∀m M' b,n<=m->(m:Int)<=n+k->(b=true↔D m)->(b=false->(m:Int)=n+k)->(∀j,n<=j->j<m->¬D j/\¬F j)->St m M'->K (.tuple [.bool b,p64 0]) (M'++S))->
  (∀m M',n<=m->(m:Int)<n+k->(∀j,n<=j->j<m->¬D j/\¬F j)->F m->St m M'->K (.tuple [.bool false,p64 e]) (M'++S))->
  SemC tab 18 [.ptr jid 0 0,p64 k] (M++S) K
 res:∀m M,St m M->∀(S:Mem) (K:PV->Mem->Prop),(∀r,RP m r->K r.pv (M++S))->SemC tab 20 [.ptr jid 0 0] (M++S) K
section
variable {tab:FuncId->Option AF} (T:HasA tab)
include T
theorem JobX.units{jid:Nat}{e:Int}{D F:Nat->Prop}{St:Nat->Mem->Prop}{L:Nat}{RP:Nat->Res->Prop}(J:JobX tab jid e D F St L RP){m:Nat}{M S:Mem}(h:St m M){K:PV->Mem->Prop}(hk:K (p64 (m:Int)) (M++S)):SemC tab 22 [.ptr jid 0 0] (M++S) K:=by obtain⟨v,w,wid,hj⟩:=J.job m M h;exact aB4 T (bY hj S) hk
omit T in
theorem JobX.res0{jid:Nat}{e:Int}{D F:Nat->Prop}{St:Nat->Mem->Prop}{L:Nat}{RP:Nat->Res->Prop}(J:JobX tab jid e D F St L RP){m:Nat}{M:Mem}(h:St m M){K:PV->Mem->Prop}(hk:∀r,RP m r->K r.pv M):SemC tab 20 [.ptr jid 0 0] M K:=by have:=J.res m M h [] K (fun r hr=>by rw[List.append_nil];exact hk r hr);rwa [List.append_nil]at this
omit T in
theorem JobX.step0{jid:Nat}{e:Int}{D F:Nat->Prop}{St:Nat->Mem->Prop}{L:Nat}{RP:Nat->Res->Prop}(J:JobX tab jid e D F St L RP){n:Nat}{M:Mem}(h:St n M){k:Int}{K:PV->Mem->Prop}(h0:0<=k)(h1:k<=9223372036854775807)
  (hA:∀m M' b,n<=m->(m:Int)<=n+k->(b=true↔D m)->(b=false->(m:Int)=n+k)->(∀j,n<=j->j<m->¬D j/\¬F j)->St m M'->K (.tuple [.bool b,p64 0]) M')
  (hC:∀m M',n<=m->(m:Int)<n+k->(∀j,n<=j->j<m->¬D j/\¬F j)->F m->St m M'->K (.tuple [.bool false,p64 e]) M'):SemC tab 18 [.ptr jid 0 0,p64 k] M K:=by
 have:=J.step n M h [] k K h0 h1 (fun m M' b a1 a2 a3 a4 a5 a6=>by rw[List.append_nil];exact hA m M' b a1 a2 a3 a4 a5 a6) (fun m M' a1 a2 a3 a4 a5=>by rw[List.append_nil];exact hC m M' a1 a2 a3 a4 a5);rwa [List.append_nil]at this
theorem ET{jid wid:Nat}{ty:TypeId}{fu fl:FuncId}{e:Int}{D F:Nat->Prop}{lft:Nat->Bool}{St:Nat->Mem->Prop}{L:Nat}{RP:Nat->Res->Prop}(J:JobK tab jid wid ty fu fl e D F lft St)(he:e≠0)
  (hl:∀m,lft m=true↔¬D m) (hlen:∀m M,St m M->M.length=L) (hcut:∀m M,St m M->M.all (aI L)=true)
  (hres:∀m M,St m M->∀(K:PV->Mem->Prop),(∀r,RP m r->K r.pv M)->SemC tab 20 [.ptr jid 0 0] M K):JobX tab jid e D F St L RP where
 len:=hlen
 cut:=hcut
 job:=fun m M h=>by obtain⟨v,hv⟩:=J.job m M h;exact⟨v,ty,wid,hv⟩
 sm:=J.sm
 step:=fun n M h S k K h0 h1 hA hC=>by
  have hL:=hlen n M h;have hj:jid<L:=by obtain⟨v,hv⟩:=J.job n M h;have:=aD hv;omega
  have t1:(M++S).take L=M:=List.take_left' hL;have t2:(M++S).drop L=S:=List.drop_left' hL;refine kJ (m:=L) (by rw[List.length_append];omega) (by simp[aC,PV.under,hj]) (by rw[t1];exact hcut n M h) ?_;rw[t1,t2];refine aC8 T J he h h0 h1 (fun m M' a1 a2 a3 a4=>?_) (fun m M' a1 a2 a3 a4 a5=>?_) (fun m M' a1 a2 a3 a4 a5=>?_)
  ·refine⟨by simp[aC,PV.under],hlen m M' a4,hcut m M' a4,hA m M' _ a1 (by omega) ?_ (fun _=>a2) a3 a4⟩;have:=hl m;cases hb:lft m
   ·rw[hb]at this;simp at this;simpa using this
   ·rw[hb]at this;simp at this;simpa using this
  ·exact⟨by simp[aC,PV.under],hlen m M' a5,hcut m M' a5,hA m M' true a1 (by omega) ⟨fun _=>a4,fun _=>rfl⟩ (fun q=>by cases q) a3 a5⟩
  ·exact⟨by simp[aC,PV.under],hlen m M' a5,hcut m M' a5,hC m M' a1 a2 a3 a4 a5⟩
 res:=fun m M h S K hk=>by
  have hL:=hlen m M h;have hj:jid<L:=by obtain⟨v,hv⟩:=J.job m M h;have:=aD hv;omega
  have t1:(M++S).take L=M:=List.take_left' hL;have t2:(M++S).drop L=S:=List.drop_left' hL;refine kJ (m:=L) (by rw[List.length_append];omega) (by simp[aC,PV.under,hj]) (by rw[t1];exact hcut m M h) ?_;rw[t1,t2];exact hres m M h _ fun r hr=>⟨r.pv_under L,hL,hcut m M h,hk r hr⟩
def RpD(N:NF)(m:Nat)(r:Res):Prop:=r=⟨N.vs,rwK N m,fnK N m,cG (stK N m),[],[]⟩/\m<=(stK N m).length/\(stK N m).length<=4096
def RpM(D:DF)(m:Nat)(r:Res):Prop:=r=⟨0,[],[],[],aX D m,[]⟩
def RpP(ow pr:List Int)(su:List (List Int))(m:Nat)(r:Res):Prop:=∃ms,r=⟨0,[],[],[],[],ms⟩/\StOk (aQ pr) ow.length ms/\Nf (aQ pr) ms=itN ow.length (gL ow pr su) m
theorem IR{A:Mem}{N:NF}(hc:bZ N=0)(B:BnN N)(hA:A.all (aI A.length)=true):
  JobX tab (A.length+7) 10 (fun m=>(stK N m).length<=m) (fun m=>m<(stK N m).length/\4096<(stK N (m+1)).length) (StD A N) (A.length+8) (RpD N):=by
 have C:=gK hc;have hcut:∀(f1 o1 f2 o2 f3 o3 f o:Bool) (q:Nat->Nat) (S:List (BitVec 64)) (rows:List (List Int)) (fins:List Bool) (v:Nat) (u:Int),(hG A f1 o1 f2 o2 f3 o3 f o N q S rows fins v u).all (aI (A.length+8))=true:=fun f1 o1 f2 o2 f3 o3 f o q S rows fins v u=>by rw[<-IU,List.all_append,cK (by omega) (n9 hA ..)];simp[aI,aC,PV.under]
 refine ET T (Z6 T hc B hA) (by decide) (fun m=>by simp) ?_ ?_ ?_
 ·rintro m M ⟨_,f1,o1,f2,o2,f3,o3,f,o,q,v,rfl⟩;simp[hG,dT]
 ·rintro m M ⟨_,f1,o1,f2,o2,f3,o3,f,o,q,v,rfl⟩;exact hcut ..
 ·rintro m M ⟨⟨h1,h2⟩,f1,o1,f2,o2,f3,o3,f,o,q,v,rfl⟩ K hk;have hrl:(rwK N m).length=m:=lA h1;have hfl:=EZ h1;have hsl:(cG (stK N m)).length=(stK N m).length:=by unfold cG;rw[List.length_map]
  have hlet:aF N<=64:=C.let64;refine aE6 T (w:=A.length+4) (i2:=A.length+2) (i5:=A.length+5) (i6:=A.length+6) (sets:=cG (stK N m)) (rows:=rwK N m) (fins:=fnK N m) vX (by rw[hsl];unfold hG;rw[gk];rfl) (by unfold hG;rw[gk];rfl) (by unfold hG;rw[gk];rfl) (by unfold hG;rw[gk];rfl) ?_ ?_ ?_ ?_ ?_ ?_ (hk _ ⟨rfl,h1,h2⟩)
  ·rw[hsl];show _<1000000000000;omega
  ·intro r hr;obtain⟨a,_,rfl⟩:=List.mem_map.1 hr;have:=y8 a;simp only[m8,List.length_map];show _<1000000000000;omega
  ·rw[hrl];show _<1000000000000;omega
  ·intro r hr;obtain⟨a,_,rfl⟩:=List.mem_map.1 hr;rw[GZ];show _<1000000000000;omega
  ·rw[hfl];show _<1000000000000;omega
  ·have:=hcut f1 o1 f2 o2 f3 o3 f o q (stK N m) (rwK N m) (fnK N m) v m;rw[show(hG A f1 o1 f2 o2 f3 o3 f o N q (stK N m) (rwK N m) (fnK N m) v m).length=A.length+8 by simp[hG,dT]];exact this
theorem IQ{A:Mem}{D:DF}(hc:cA D=0)(B:BnD D)(h99:D.nx.length<=99)(hA:A.all (aI A.length)=true):
  JobX tab (A.length+1) 10 (fun m=>aX D (m+1)=aX D m) (fun _=>False) (StM A D) (A.length+2) (RpM D):=by
 have hcut:∀(f1 o1 f2 o2 f3 o3 f o:Bool) (v1 v2 k:Nat) (u:Int),(j5 A f1 o1 f2 o2 f3 o3 f o D v1 v2 k u).all (aI (A.length+2))=true:=fun f1 o1 f2 o2 f3 o3 f o v1 v2 k u=>by unfold j5;rw[List.all_append,cK (by omega) hA];simp[aI,aC,PV.under,aR,bH,aP]
 refine ET T (Z5 T hc B h99) (by decide) (fun m=>by simp) ?_ ?_ ?_
 ·rintro m M ⟨_,f1,o1,f2,o2,f3,o3,f,o,v1,v2,rfl⟩;simp[j5]
 ·rintro m M ⟨_,f1,o1,f2,o2,f3,o3,f,o,v1,v2,rfl⟩;exact hcut ..
 ·rintro m M ⟨_,f1,o1,f2,o2,f3,o3,f,o,v1,v2,rfl⟩ K hk;refine aE5 T (w:=A.length) (cls:=aX D m) (by unfold j5;rw[gk];rfl) (by unfold j5;rw[gk0];rfl) (by rw[cR];exact B.n) ?_ (hk _ rfl);rw[show(j5 A f1 o1 f2 o2 f3 o3 f o D v1 v2 m m).length=A.length+2 by simp[j5]];exact hcut ..
theorem CJ{A:Mem}{ow pr:List Int}{su:List (List Int)}(hA:A.all (aI A.length)=true)(c1:bG ow pr su=0)(B:Bnd ow pr su)(h99:ow.length<=99):
  JobX tab (A.length+3) 10 (fun m=>kS ow.length (gL ow pr su) (itN ow.length (gL ow pr su) m)) (fun _=>False) (StP A ow pr su) (A.length+4) (RpP ow pr su):=by
 have hcut:∀(f1 o1 f2 o2 f3 o3 f4 o4:Bool) (ms:List Ms) (v1 v2 v3:Nat) (b:Bool) (u:Int),(fU A f1 o1 f2 o2 f3 o3 f4 o4 ow pr su ms v1 v2 v3 b u).all (aI (A.length+4))=true:=fun f1 o1 f2 o2 f3 o3 f4 o4 ms v1 v2 v3 b u=>by unfold fU;rw[List.all_append,cK (by omega) hA];simp[aI,aC,PV.under,aR,aP,cM]
 refine ET T (UA T hA c1 B h99) (by decide) (fun m=>by unfold aCM;simp) ?_ ?_ ?_
 ·rintro m M ⟨_,f1,o1,f2,o2,f3,o3,f4,o4,ms,v1,v2,v3,b,_,_,_,rfl⟩;simp[fU]
 ·rintro m M ⟨_,f1,o1,f2,o2,f3,o3,f4,o4,ms,v1,v2,v3,b,_,_,_,rfl⟩;exact hcut ..
 ·rintro m M ⟨_,f1,o1,f2,o2,f3,o3,f4,o4,ms,v1,v2,v3,b,hS,hN,_,rfl⟩ K hk;refine aE4 T (w:=A.length) (i2:=A.length+2) (ms:=ms) vW (by unfold fU;rw[gk0,hS.l];rfl) (by unfold fU;rw[gk];rfl) (by rw[hS.l];exact B.o) ?_ (hk _ ⟨ms,rfl,hS,hN⟩);rw[show(fU A f1 o1 f2 o2 f3 o3 f4 o4 ow pr su ms v1 v2 v3 b m).length=A.length+4 by simp[fU]];exact hcut ..
end
inductive In where
 | n (N:NF) | d (D:DF) | g (ow pr:List Int) (su:List (List Int))
def In.k:In->Int
 | .n _=>0 | .d _=>1 | .g .. =>2
def In.N:In->NF
 | .n N=>N | _=>⟨0,0,[],[],[]⟩
def In.D:In->DF
 | .d D=>D | _=>⟨0,0,[],[]⟩
def In.ow:In->List Int
 | .g ow _ _=>ow | _=>[]
def In.pr:In->List Int
 | .g _ pr _=>pr | _=>[]
def In.su:In->List (List Int)
 | .g _ _ su=>su | _=>[]
abbrev In.cs(f o:Bool)(i:In):List PV:=csC f o i.k i.N i.D i.ow i.pr i.su
theorem WC{k a1 a2 d1 d2:PV}{st st' fi fi' es es' nx nx' df df' ow ow' pr pr' su su':PV}(h1:PvWk st st')(h2:PvWk fi fi')(h3:PvWk es es')(h4:PvWk nx nx')(h5:PvWk df df')(h6:PvWk ow ow')(h7:PvWk pr pr')(h8:PvWk su su'):
  PvWk (.agg [k,a1,a2,st,fi,es,d1,d2,nx,df,ow,pr,su]) (.agg [k,a1,a2,st',fi',es',d1,d2,nx',df',ow',pr',su']):=by
 refine PvWk.agg rfl fun i y z p q=>?_
 match i,p,q with
 | 0,p,q=>cases p;cases q;exact PvWk.refl _
 | 1,p,q=>cases p;cases q;exact PvWk.refl _
 | 2,p,q=>cases p;cases q;exact PvWk.refl _
 | 3,p,q=>cases p;cases q;exact h1
 | 4,p,q=>cases p;cases q;exact h2
 | 5,p,q=>cases p;cases q;exact h3
 | 6,p,q=>cases p;cases q;exact PvWk.refl _
 | 7,p,q=>cases p;cases q;exact PvWk.refl _
 | 8,p,q=>cases p;cases q;exact h4
 | 9,p,q=>cases p;cases q;exact h5
 | 10,p,q=>cases p;cases q;exact h6
 | 11,p,q=>cases p;cases q;exact h7
 | 12,p,q=>cases p;cases q;exact h8
 | i+13,p,q=>simp at p
def AG(k:Int)(N:NF)(D:DF)(ow pr:List Int)(su:List (List Int)):In:=
 if E1 k=0 then .n (aHd N)else if E1 k=1 then .d (E2 D)else .g (ow.take 4) (pr.take 4) (I2 su)
def In.Bn:In->Prop
 | .n N=>BnN N
 | .d D=>BnD D/\D.nx.length<=99
 | .g ow pr su=>Bnd ow pr su/\ow.length<=99
def In.few:In->Prop
 | .n N=>N.n<=12
 | _=>True
def In.chk:In->Int
 | .n N=>bZ N
 | .d D=>cA D
 | .g ow pr su=>bG ow pr su
def In.done:In->Nat->Prop
 | .n N=>fun m=>(stK N m).length<=m
 | .d D=>fun m=>aX D (m+1)=aX D m
 | .g ow pr su=>fun m=>kS ow.length (gL ow pr su) (itN ow.length (gL ow pr su) m)
def In.fails:In->Nat->Prop
 | .n N=>fun m=>m<(stK N m).length/\4096<(stK N (m+1)).length
 | _=>fun _=>False
def In.rp:In->Nat->Res->Prop
 | .n N=>RpD N
 | .d D=>RpM D
 | .g ow pr su=>RpP ow pr su
theorem In.no_fail{i:In}(h0:i.chk=0)(h:i.few)(m:Nat):¬i.fails m:=by
 cases i with
 | n N=>
  rintro⟨_,h2⟩;have h1:=KS (gK h0) (m+1);have h3:N.n.toNat<=12:=by have:N.n<=12:=h;omega
  have h4:=Nat.pow_le_pow_right (n:=2) (by omega) h3;omega
 | d D=>exact fun q=>q
 | g ow pr su=>exact fun q=>q
theorem PG(N:NF)(m:Nat):∀d,∃t,rwK N (m+d)=rwK N m++t
 | 0=>⟨[],by simp⟩
 | d+1=>by
  obtain⟨t,h⟩:=PG N m d;show ∃t,rwK N (m+d+1)=_
  cases g:(stK N (m+d))[m+d]? with
  | some a=>refine⟨t++[gY (aL N) (aF N) (bI (aL N) a (aF N) (stK N (m+d))) a],?_⟩;rw[show rwK N (m+d+1)=_ from pP g,<-List.append_assoc,<-h]
  | none=>
   refine⟨t,?_⟩;have hl:=List.getElem?_eq_none_iff.1 g;have e1:=l9 hl;have e2:=f0 hl;have e3:(stK N (m+d+1)).length<=m+d+1:=by rw[show stK N (m+d+1)=stK N (m+d)from e2];omega
   have e4:=l9 e3;rw[show rwK N (m+d+1)=_ from e4,show bC (aL N) (aF N) (bR N) (m+d+1)=_ from e2,<-e1];exact h
structure Grow (r q:Res):Prop where
 s:∀(i:Nat) x,r.sets[i]? =some x->q.sets[i]? =some x
 w:∀(i:Nat) x,r.rows[i]? =some x->q.rows[i]? =some x
 cl:q.cls.length=r.cls.length
 c:∀(i k:Nat) a b,r.cls[i]? =some a->r.cls[k]? =some b->q.cls[i]? =q.cls[k]? ->a=b
 ml:r.ms.length<=q.ms.length
 m:∀(i:Nat) x y,r.ms[i]? =some x->q.ms[i]? =some y->AK x y<=0
structure Res.Sm (r:Res):Prop where
 s:r.sets.length<big
 w:r.rows.length<big
 sr:∀x∈r.sets,x.length<big
 wr:∀x∈r.rows,x.length<big
 f:r.fins.length<big
 c:r.cls.length<big
 m:r.ms.length<big
theorem In.rp_sm{i:In}(h0:i.chk=0)(hB:i.Bn){m:Nat}{r:Res}(h:i.rp m r):r.Sm:=by
 cases i with
 | n N=>
  obtain⟨rfl,h1,h2⟩:=h;have C:=gK h0;have hrl:(rwK N m).length=m:=lA h1;have hfl:=EZ h1;have hsl:(cG (stK N m)).length=(stK N m).length:=by unfold cG;rw[List.length_map]
  have hlet:aF N<=64:=C.let64;refine⟨?_,?_,?_,?_,?_,by show 0<1000000000000;omega,by show 0<1000000000000;omega⟩
  ·show(cG (stK N m)).length<1000000000000;omega
  ·show(rwK N m).length<1000000000000;omega
  ·intro r hr;obtain⟨a,_,rfl⟩:=List.mem_map.1 hr;have:=y8 a;simp only[m8,List.length_map];show _<1000000000000;omega
  ·intro r hr;obtain⟨a,_,rfl⟩:=List.mem_map.1 hr;rw[GZ];show _<1000000000000;omega
  ·show(fnK N m).length<1000000000000;omega
 | d D=>
  obtain rfl:=h;have:(aX D m).length<big:=by rw[cR];exact hB.1.n
  exact⟨by show 0<1000000000000;omega,by show 0<1000000000000;omega,fun x hx=>absurd hx (by simp),fun x hx=>absurd hx (by simp),by show 0<1000000000000;omega,this,by show 0<1000000000000;omega⟩
 | g ow pr su=>
  obtain⟨ms,rfl,hS,hN⟩:=h;have:ms.length<big:=by rw[hS.l];exact hB.1.o
  exact⟨by show 0<1000000000000;omega,by show 0<1000000000000;omega,fun x hx=>absurd hx (by simp),fun x hx=>absurd hx (by simp),by show 0<1000000000000;omega,by show 0<1000000000000;omega,this⟩
theorem QX{l:List Int}{i:Nat}{a:Int}(h:l[i]? =some a):l.getD i 0=a:=by simp[List.getD,h]
theorem In.grow{i:In}(h0:i.chk=0){m d:Nat}{r q:Res}(hr:i.rp m r)(hq:i.rp (m+d) q):Grow r q:=by
 cases i with
 | n N=>
  obtain⟨rfl,h1,h2⟩:=hr;obtain⟨rfl,h3,h4⟩:=hq;obtain⟨t,ht⟩:=oV (aL N) (aF N) (bR N) m d;have hs:cG (stK N (m+d))=cG (stK N m)++cG t:=by show cG (bC _ _ _ _)=_;rw[ht];unfold cG;rw[List.map_append]
  have hw:∃t2,rwK N (m+d)=rwK N m++t2:=PG N m d;obtain⟨t2,ht2⟩:=hw;refine⟨fun i x h=>?_,fun i x h=>?_,rfl,fun i k a b ha=>by simp at ha,Nat.le_refl _,fun i x y hx=>by simp at hx⟩
  ·show(cG (stK N (m+d)))[i]? =_;rw[hs];exact bY h _
  ·show(rwK N (m+d))[i]? =_;rw[ht2];exact bY h _
 | d D=>
  have hr:r=⟨0,[],[],[],aX D m,[]⟩:=hr;have hq:q=⟨0,[],[],[],aX D (m+d),[]⟩:=hq;subst hr;subst hq;refine⟨fun i x h=>by simp at h,fun i x h=>by simp at h,by show(aX D (m+d)).length=(aX D m).length;rw[cR,cR],fun i k a b ha hb hh=>?_,Nat.le_refl _,fun i x y hx=>by simp at hx⟩;have l1:i<D.nx.length:=by have:=aD ha;rw[cR]at this;exact this
  have l2:k<D.nx.length:=by have:=aD hb;rw[cR]at this;exact this
  have:=xC D m i k l1 l2 d (by unfold List.getD;rw[show(aX D (m+d))[i]? =(aX D (m+d))[k]? from hh]);rw[QX ha,QX hb]at this;exact this
 | g ow pr su=>obtain⟨ms,rfl,hS,hN⟩:=hr;obtain⟨ms2,rfl,hS2,hN2⟩:=hq;refine⟨fun i x h=>by simp at h,fun i x h=>by simp at h,rfl,fun i k a b ha=>by simp at ha,by show ms.length<=ms2.length;rw[hS.l,hS2.l];exact Nat.le_refl _,fun i x y hx hy=>?_⟩;refine(E5 (hS.ok x (List.mem_of_getElem? hx)) (hS2.ok y (List.mem_of_getElem? hy))).2 ?_;rw[<-sL hx,<-sL hy,hN,hN2];exact aAd m i d
theorem aDi(k:Int)(N:NF)(D:DF)(ow pr:List Int)(su:List (List Int))(hN:∀x∈N.es,(0<=x.ps/\x.ps<=255)/\(0<=x.ng/\x.ng<=255)):(AG k N D ow pr su).Bn/\(AG k N D ow pr su).few:=by
 have tk:∀{α:Type} (l:List α) (c:Nat),c<=65->(l.take c).length<big:=fun l c h=>by rw[List.length_take];show _<1000000000000;omega
 unfold AG;split
 ·refine⟨⟨tk _ _ (by omega),tk _ _ (by omega),tk _ _ (by omega),fun x hx=>hN x (List.mem_of_mem_take hx)⟩,?_⟩;show min N.n 5<=12;omega
 ·split
  ·refine⟨⟨⟨?_,fun r hr=>?_,tk _ _ (by omega)⟩,?_⟩,trivial⟩
   ·unfold E2;rw[List.length_map];exact tk _ _ (by omega)
   ·obtain⟨x,_,rfl⟩:=List.mem_map.1 hr;exact tk _ _ (by omega)
   ·unfold E2;rw[List.length_map,List.length_take];omega
  ·refine⟨⟨⟨tk _ _ (by omega),tk _ _ (by omega),?_,fun r hr=>?_⟩,?_⟩,trivial⟩
   ·unfold I2;rw[List.length_map];exact tk _ _ (by omega)
   ·obtain⟨x,_,rfl⟩:=List.mem_map.1 hr;exact tk _ _ (by omega)
   ·rw[List.length_take];omega
section
variable {tab:FuncId->Option AF} (T:HasA tab)
include T
theorem aHc{M:Mem}{K:PV->Mem->Prop}{k:Int}{N:NF}{D:DF}{ow pr:List Int}{su:List (List Int)}
  (hk:K (.agg ((AG k N D ow pr su).cs false true)) M):SemC tab 10 [.agg (csC false false k N D ow pr su)] M K:=by
 unfold AG at hk;rcases MX k with h | h | h
 ·rw[if_pos h]at hk;exact fS (aFP T h ⟨_,WC (PvWk.refl _) (PvWk.refl _) (PvWk.refl _) (PvWk.nils _ _ _) (PvWk.nils _ _ _) (PvWk.nils _ _ _) (PvWk.nils _ _ _) (PvWk.nils _ _ _),hk⟩)
 ·rw[if_neg (by omega),if_pos h]at hk;exact fS (aFO T h ⟨_,WC (PvWk.nils _ _ _) (PvWk.nils _ _ _) (PvWk.nils _ _ _) (PvWk.refl _) (PvWk.refl _) (PvWk.nils _ _ _) (PvWk.nils _ _ _) (PvWk.nils _ _ _),hk⟩)
 ·rw[if_neg (by omega),if_neg (by omega)]at hk;exact fS (aFN T h ⟨_,WC (PvWk.nils _ _ _) (PvWk.nils _ _ _) (PvWk.nils _ _ _) (PvWk.nils _ _ _) (PvWk.nils _ _ _) (PvWk.refl _) (PvWk.refl _) (PvWk.refl _),hk⟩)
end
section
variable {tab:FuncId->Option AF} (T:HasA tab)
include T
set_option maxHeartbeats 1000000 in
theorem aAt{M:Mem}{K:PV->Mem->Prop}{r:Res}(hS:r.Sm)(hf:∀x∈r.ms,x.fit)(hk:K (.bool true) M):SemC tab 28 [r.pv,r.pv] M K:=by
 have hn:r.ms.length<1000000000000:=hS.m;have B:BnD ⟨r.vs,0,r.rows,r.fins⟩:=⟨hS.w,hS.wr,hS.f⟩;refine aE T.h28 (by simp only[Res.pv,PP,simprocAttr,PN]) ?_;simp only[Res.pv,af28,PP,simprocAttr,PN];refine I6 T (D:=⟨r.vs,0,r.rows,r.fins⟩) (D':=⟨r.vs,0,r.rows,r.fins⟩) B fun b hb=>?_;obtain rfl:b=true:=hb.2 rfl;simp only[PP,simprocAttr,PN];refine nZ T hS.s hS.sr ?_;simp only[PP,simprocAttr,PN];refine n7 T hS.c ?_;simp only[PP,simprocAttr,PN];refine iX (fun(k:Nat)=>k<=r.ms.length) (fun k=>(.junk:: .junk:: .ptr 0 0 0:: .ptr 1 0 0:: .junk::p64 k::zj 49)) (fun k=>[.cells 0 0 [p64 r.vs,p64 0,slR false true false true .i64 r.rows,slB false true r.fins,slR false true false true .i64 r.sets,slI false true .i64 r.cls,slM false true r.ms],.cells 0 0 [p64 r.vs,p64 0,slR false true false true .i64 r.rows,slB false true r.fins,slR false true false true .i64 r.sets,slI false true .i64 r.cls,slM false true r.ms]]) (fun k=>r.ms.length-k) 0 (by omega) (by simp only[PW]) rfl ?_;intro k hle ih;refine aM (by kernel_rfl) ?_;simp only[PP,simprocAttr];refine QIf.intro (fun d=>?_) (fun d=>?_)
 ·have hk':k<r.ms.length:=by omega
  have k0:(0:Int)<=k:=by omega
  have hwk:=aH (k:=k) (by show _<1000000000000;omega);obtain⟨x,g1⟩:=aO (xs:=r.ms) (k:=k) hk';have p1:=fM g1;have l1:=uK g1;have hx:=hf x (List.mem_of_getElem? g1);simp only[PP,simprocAttr,PN,d,k0,p1,l1,PQ hx hx,hwk];exact aG (ih (k+1) (by omega) (by omega)) (by simp only[PW])
 ·simp only[PP,simprocAttr,d];exact hk
omit T in
theorem In.rp_fit{i:In}(h0:i.chk=0){m:Nat}{r:Res}(h:i.rp m r):∀x∈r.ms,x.fit:=by
 cases i with
 | n N=>obtain⟨rfl,_⟩:=h;exact fun x hx=>by cases hx
 | d D=>have h:r=_:=h;subst h;exact fun x hx=>by cases hx
 | g ow pr su=>obtain⟨ms,rfl,hS,_⟩:=h;exact fun x hx=>(hS.ok x hx).fit (EL (nA (dP h0)).1)
end
abbrev XA(ss:List Wd):List PV:=ss.map (slW false true)
abbrev OW(f1 o1 f2 o2 f3 o3:Bool)(N:NF)(o1':PObj)(g v v3 vm:Nat)(ss:List Wd)(o:List (BitVec 64)):Mem:=
 [.cells 0 0 (nfC f1 o1 f2 o2 f3 o3 N),o1',.cells g v (XA ss),.cells 0 v3 [.ref 2 g 1 0 o.length],.map vm (smE (knE o)),.cells 0 1 [.map 4]]
theorem aCR{o:List (BitVec 64)}{b:BitVec 64}(h:b∉o):knE (bP o b)=knE o++[(rP b,.bool true)]:=by unfold bP knE;rw[if_neg h,List.map_append];rfl
section
variable {tab:FuncId->Option AF} (T:HasA tab)
include T
set_option maxHeartbeats 1000000 in
theorem aFX{f1 o1 f2 o2 f3 o3:Bool}{N:NF}{o1':PObj}{l:Mem}{g v v3 vm s x:Nat}{ss:List Wd}{o:List (BitVec 64)}{a:BitVec 64}{K:PV->Mem->Prop}(hc:bZ N=0)(B:BnN N)(hr:RBs ss o)(hs:o[s]? =some a)(hx:x<aF N)(hol:o.length<=5000)
  (hk:∀g' v' v3' vm' ss',RBs ss' (bP o (aL N a x))->K (.str (rP (aL N a x))) (OW f1 o1 f2 o2 f3 o3 N o1' g' v' v3' vm' ss' (bP o (aL N a x))++l)):
  SemC tab 82 [p64 s,p8 x,.ptr 0 0 0,.ptr 3 0 0,.ptr 5 0 0] (OW f1 o1 f2 o2 f3 o3 N o1' g v v3 vm ss o++l) K:=by
 refine aT T.h82 ?_;obtain⟨sw,gs,hR⟩:=hr.get hs;have s0:(0:Int)<=s:=by omega
 have s1:(s:Int)<o.length:=by have:=aD hs;omega
 have hsl:=hr.len;simp only[af82,PP,simprocAttr,PT,gs,s0,s1];refine YT T hc B hR hx fun to hto=>?_;simp only[PP,simprocAttr,PT];refine ZM T hto.len hto.lt ?_;rw[hto.at0];have hlk:=H9 (aL N a x) o;by_cases hm:aL N a x∈o
 ·rw[if_pos hm]at hlk;have e:bP o (aL N a x)=o:=by unfold bP;rw[if_pos hm]
  have:=hk g v v3 vm ss (by rw[e];exact hr);rw[e]at this;simp only[PP,simprocAttr,PT,hlk];exact this
 ·rw[if_neg hm]at hlk;have e:bP o (aL N a x)=o++[aL N a x]:=by unfold bP;rw[if_neg hm]
  have:=hk (g+1) 0 (v3+1) (vm+1) (ss++[to]) (by rw[e];exact hr.snoc hto);have hput:=q9 (rP (aL N a x)) (.bool true) (knE o) hlk;unfold OW at this;rw[aCR hm,e]at this;have b1:(o.length+1)*24<=140737488355328:=by omega
  have b2:o.length+1<=9223372036854775807:=by omega
  have b3:o.length<=ss.length:=by omega
  simp only[PP,simprocAttr,PT,hlk,hput,b1,b2,b3];rw[aU _ _ (by simp[hsl])];have e2:XA (ss++[to])=XA ss++[slW false true to]:=by simp
  rw[e2,List.length_append,List.length_singleton]at this;exact this
set_option maxHeartbeats 2000000 in
theorem AJ{M:Mem}{K:PV->Mem->Prop}{f1 o1 f2 o2 f3 o3:Bool}{N:NF}{bd:Int}(B:BnN N)
  (hk1:bZ N≠0->K (.tuple [.agg [p64 0,p64 0,.nils,.nils],.nils,p64 (bZ N)]) M)
  (hk2:bZ N=0->bd<1\/4096<bd->K (.tuple [.agg [p64 0,p64 0,.nils,.nils],.nils,p64 1]) M)
  (hk3:bZ N=0->1<=bd->bd<=4096->OverN (aL N) (aF N) (bR N) bd->K (.tuple [.agg [p64 0,p64 0,.nils,.nils],.nils,p64 10]) M)
  (hk4:bZ N=0->1<=bd->bd<=4096->∀o,FullN (aL N) (aF N) (bR N) o->(o.length:Int)<=bd->K (.tuple [.agg (dfC false true false true false true (aFW N o)),slR false true false true .i64 (cG o),p64 0]) M):
  SemC tab 31 [.agg (nfC f1 o1 f2 o2 f3 o3 N),p64 bd] M K:=by
 refine bM T.h31 (by simp only[PP,simprocAttr,bD]) ?_;simp only[af31];refine aB (aA ?_);simp only[PP,simprocAttr];refine aB (aA ?_);simp only[PP,simprocAttr];refine oI T B ?_;by_cases hc:bZ N=0;rotate_left
 ·simp only[PP,simprocAttr,hc];exact hk1 hc
 have C:=gK hc;simp only[PP,simprocAttr,hc];by_cases c1:bd<1
 ·refine aA ?_;simp only[PP,simprocAttr,c1];exact hk2 hc (.inl c1)
 by_cases c2:4096<bd
 ·refine aA ?_;simp only[PP,simprocAttr,c1,c2];exact hk2 hc (.inr c2)
 refine aB (aA ?_);simp only[PP,simprocAttr,c1,c2];have hR0:=GE C;have hshl:bX .shl (.int .i64 1) (.int .i64 N.vs)=some (.int .i64 ((aF N:Nat):Int)):=by rw[DT (by have:=C.v0;omega) (by have:=C.v6;omega)];simp
 refine aB (mR 3 rfl ?_);simp only[PP,simprocAttr];refine aEs T C C.st ?_;simp only[PP,simprocAttr,Option.some.injEq,exists_eq_left'];refine aB (aA ?_);simp only[PP,simprocAttr,PT];refine ZM T hR0.len hR0.lt ?_;rw[hR0.at0];simp only[PP,simprocAttr,PT];refine aB (aA ?_);simp only[PP,simprocAttr];refine aB (aA ?_);simp only[PP,simprocAttr,hshl];refine ZM T hR0.len hR0.lt ?_;rw[hR0.at0];simp only[PP,simprocAttr,PT];refine UK T (Dm:=fun _=>True) (δ:=aL N) (κ:=rP) (a0:=bR N) (n:=aF N) (bd:=bd) (caps:=[.ptr 0 0 0,.ptr 3 0 0,.ptr 5 0 0])
  (J:=fun o M=>∃g v v3 vm ss,RBs ss o/\M=OW f1 o1 f2 o2 f3 o3 N (.cells 0 0 [p64 0,p64 0,.nils,.nils]) g v v3 vm ss o)
  ?_ ?_ (fun a b _ _ h=>IE h) (fun _ _ _ _=>trivial) trivial C.let64 (by omega) (by omega) (by simp[aC,PV.under]) ⟨0,0,1,1,[faW N.st],?_,rfl⟩ ?_ ?_ ?_
 ·rintro o N' ⟨g,v,v3,vm,ss,hr,rfl⟩;rfl
 ·rintro o N' ⟨g,v,v3,vm,ss,hr,rfl⟩;have h1:∀m,aC m (XA ss)=true:=fun m=>dK m _ (fun x=>dQ m _ _ 1 _ .u64 (wI x)) ss;have h2:∀m,aI m (.map vm (smE (knE o)))=true:=fun m=>DQ (fun p hp=>by obtain⟨y,_,rfl⟩:=List.mem_map.1 hp;simp[PV.under]) vm;simp only[OW,List.all_cons,List.all_nil,h2,PP,simprocAttr];simp only[aI,PP,simprocAttr,h1,PV.under,dB]
 ·refine⟨rfl,fun i s a h1 h2=>?_⟩
  cases i with
  | zero=>simp at h1 h2;subst h1;subst h2;exact hR0
  | succ i=>simp at h1
 ·rintro o N' l s x a K ⟨g,v,v3,vm,ss,hr,rfl⟩ hall hs hx hle hK;exact aFX T hc B hr hs hx (by omega) fun g' v' v3' vm' ss' hr'=>hK _ ⟨g',v',v3',vm',ss',hr',rfl⟩
 ·rintro o N' hF hle ⟨g,v,v3,vm,ss,hr,rfl⟩;have hol:o.length<=4096:=by omega
  have hsl:=hr.len;unfold OW;simp only[PP,simprocAttr];refine aB (aA ?_);simp only[PP,simprocAttr];refine aB (aA ?_);simp only[PP,simprocAttr];refine aEs T C C.fi ?_;simp only[PP,simprocAttr];refine aB (aA ?_);simp only[PP,simprocAttr];refine bB (GStep.nilbox 1 3 1 (g:=0) (ver:=2) (cs:=[p64 N.vs,p64 0,slR false true false true .i64 (pC (aL N) (aF N) o),.nils]) rfl rfl rfl) ?_;refine bB (GStep.nil 5 1 rfl rfl rfl) ?_;refine aA ?_;simp only[PP,simprocAttr];refine pF (fun(k g' v' g2:Nat)=>k<=o.length) (fun k g' v' g2=>(zj 4++ .ptr 1 0 0:: .ref 7 g2 1 0 k::zj 7++slW false true (faW N.fi)::zj 50++ .ref 2 g 1 0 o.length::p64 o.length::p64 k::zj 19))
   (fun k g' v' g2=>[.cells 0 0 (nfC f1 o1 f2 o2 f3 o3 N),.cells 0 v' [p64 N.vs,p64 0,slR false true false true .i64 (pC (aL N) (aF N) o),.ref 6 g' 1 0 k],.cells g v (XA ss),.cells 0 v3 [.ref 2 g 1 0 o.length],.map vm (smE (knE o)),.cells 0 1 [.map 4],.cells g' 0 (((o.take k).map (o8 N)).map PV.bool),.cells g2 0 ((cG (o.take k)).map (slI false true .i64))])
   (fun k g' v' g2=>o.length-k) 0 0 2 0 (by omega) (by simp only[PW]) rfl ?_
  intro k g' v' g2 hle' ih;refine aM (by kernel_rfl) ?_;simp only[PP,simprocAttr];refine QIf.intro (fun c=>?_) (fun c=>?_)
  ·have hk':k<o.length:=by omega
   obtain⟨a,ga⟩:=aO hk';obtain⟨sw,gs,hR⟩:=hr.get ga;have k0:(0:Int)<=k:=by omega
   have wk:=aH (k:=k) (by show _<1000000000000;omega);obtain⟨_,ff2,_⟩:=I3 C C.fi;have hRl:=hR.len;have b1:k+1<=140737488355328:=by omega
   have b2:k+1<=9223372036854775807:=by omega
   have b3:(k+1)*24<=140737488355328:=by omega
   have b4:k<=(o.take k).length:=by simp;omega
   have b5:k<=(cG (o.take k)).length:=by unfold cG;simp;omega
   simp only[PP,simprocAttr,c,k0,gs];refine rS T (by show _<1000000000000;omega) (by show _<1000000000000;omega) ?_;rw[UI C hR];simp only[PP,simprocAttr,b1,b2,b4];refine aFp T hR.len ?_;rw[aCK hR];simp only[PP,simprocAttr,b2,b3,b5,wk];refine bA (ih (k+1) (g'+1) (v'+1) (g2+1) (by omega) (by omega)) (by simp only[PW]) ?_;rw[aU _ _ (by simp;omega),aU _ _ (by unfold cG;simp;omega),bL ga];simp[cG]
  ·obtain rfl:k=o.length:=by omega
   have hfz:pW (some (PObj.cells g' 0 (((o.take o.length).map (o8 N)).map PV.bool))) g' 1 0 o.length=some (slB false true (o.map (o8 N))):=by rw[List.take_length,cQ (by simp) (bH _ _),aU _ _ (by simp)];simp only[slB,List.length_map]
   have hfz2:pW (some (PObj.cells g2 0 ((cG (o.take o.length)).map (slI false true .i64)))) g2 1 0 o.length=some (slR false true false true .i64 (cG o)):=by
    have hl:(cG o).length=o.length:=by unfold cG;simp
    rw[List.take_length,cQ (by simp[hl]) (aR _ _ _ _ _),aU _ _ (by simp[hl])];simp only[slR,hl]
   simp only[PP,simprocAttr,c,hfz,hfz2];exact hk4 hc (by omega) (by omega) o hF hle
 ·rintro r o N' hO ⟨g,v,v3,vm,ss,hr,rfl⟩;unfold OW;simp only[PP,simprocAttr];refine aA ?_;simp only[PP,simprocAttr];exact hk3 hc (by omega) (by omega) hO
end
theorem aFK{n:Nat}{L:(Nat->Nat)->Nat->Nat}{m:Nat->Nat}(h:¬kS n L m):∃v,FstN n L m v:=by
 have:∀k,k<=n->(∀u,u<k->L m u<=m u)\/∃v,FstN n L m v:=by
  intro k
  induction k with
  | zero=>exact fun _=> .inl fun u hu=>absurd hu (Nat.not_lt_zero _)
  | succ k ih=>
   intro hk;rcases ih (by omega)with q | q
   ·by_cases c:L m k<=m k
    ·refine .inl fun u hu=>?_;by_cases e:u=k
     ·rw[e];exact c
     ·exact q u (by omega)
    ·exact .inr ⟨k,by omega,by omega,q⟩
   ·exact .inr q
 rcases this n (Nat.le_refl _)with q | q
 ·exact absurd q h
 ·exact q
theorem QT{n:Nat}{L:(Nat->Nat)->Nat->Nat} :∀{m:Nat},(∀j,j<m->¬kS n L (itN n L j))->m<=mZ n (itN n L m)
 | 0,_=>Nat.zero_le _
 | m+1,h=>by have ih:=QT (m:=m) fun j hj=>h j (by omega);obtain⟨v,hv⟩:=aFK (h m (by omega));have e:itN n L (m+1)=kV (itN n L m) v (L (itN n L m) v):=oG hv;have:=qV (n:=n) (m:=itN n L m) (v:=v) (x:=L (itN n L m) v) hv.1 hv.2.1;rw[e];omega
def In.four:In->Prop
 | .g ow _ _=>ow.length<=4
 | _=>True
theorem UJ(k:Int)(N:NF)(D:DF)(ow pr:List Int)(su:List (List Int)):(AG k N D ow pr su).four:=by
 unfold AG;split
 ·trivial
 ·split
  ·trivial
  ·show(ow.take 4).length<=4;rw[List.length_take];omega
theorem In.ends{i:In}(h0:i.chk=0)(hB:i.Bn)(hF:i.few)(h4:i.four){m:Nat}(h:∀j,j<=m->¬i.done j):m<10000000:=by
 cases i with
 | n N=>
  have h1:=KS (gK h0) m;have h3:N.n.toNat<=12:=by have:N.n<=12:=hF;omega
  have h4:=Nat.pow_le_pow_right (n:=2) (by omega) h3;have h5:¬(stK N m).length<=m:=h m (Nat.le_refl _);omega
 | d D=>
  rcases Nat.eq_zero_or_pos D.nx.length with q | q
  ·have e:aX D (0+1)=aX D 0:=by rw[List.length_eq_zero_iff.1 ((cR D 0).trans q),List.length_eq_zero_iff.1 ((cR D (0+1)).trans q)]
   exact absurd e (h 0 (Nat.zero_le _))
  ·have h1:=xB q (m:=m) fun j hj=>h j (by omega);have:=hB.2;omega
 | g ow pr su=>
  have V:=dP h0;have h4:ow.length<=4:=h4;have h1:=QT (n:=ow.length) (L:=gL ow pr su) (m:=m) fun j hj=>h j (by omega);have h2:=vM (n:=ow.length) (m:=itN ow.length (gL ow pr su) m) (EU (kU V) m).bnd;have h3:mT (aQ pr)<=5^8:=by
   have:=Y5 4 (ns:=aQ pr) fun n hn=>by have:=QJ pr n hn;have:=V.p;omega
   rw[iO]at this;exact this
  have h5:=Nat.mul_le_mul h4 h3;have h6:4*5^8=1562500:=by decide
  omega
theorem aE1{D:DF}{m:Nat}(h:∀j,j<m->aX D (j+1)≠aX D j):m<=D.nx.length:=by
 rcases Nat.eq_zero_or_pos D.nx.length with q | q
 ·rcases Nat.eq_zero_or_pos m with p | p
  ·omega
  ·have e:aX D (0+1)=aX D 0:=by rw[List.length_eq_zero_iff.1 ((cR D 0).trans q),List.length_eq_zero_iff.1 ((cR D (0+1)).trans q)]
   exact absurd e (h 0 p)
 ·exact Nat.le_of_lt (xB q h)
theorem aAx{N:NF}{m:Nat}(h:(stK N m).length<=m){o:List (BitVec 64)}(h3:FullN (aL N) (aF N) (bR N) o):o=stK N m/\aFW N o=⟨N.vs,0,rwK N m,fnK N m⟩:=by
 have hF:FullN (aL N) (aF N) (bR N) (stK N m):=⟨m,rfl,h⟩;obtain rfl:=h3.eq hF;refine⟨rfl,?_⟩;unfold aFW;have e1:rwK N m=pC (aL N) (aF N) (stK N m):=l9 h;have e2:fnK N m=(stK N m).map (o8 N):=by unfold fnK;rw[List.take_of_length_le h]
 rw[e1,e2]
section
variable {tab:FuncId->Option AF} (T:HasA tab)
include T
theorem aHn{M:Mem}{K:PV->Mem->Prop}{f1 o1 f2 o2 f3 o3:Bool}{N:NF}(hc:bZ N=0)(hn:N.n<=12)(B:BnN N){m:Nat}(h:(stK N m).length<=m)
  (hk:K (.tuple [.agg (dfC false true false true false true ⟨N.vs,0,rwK N m,fnK N m⟩),slR false true false true .i64 (cG (stK N m)),p64 0]) M):
  SemC tab 31 [.agg (nfC f1 o1 f2 o2 f3 o3 N),p64 4096] M K:=
 AJ T B (fun h=>absurd hc h) (fun _ q=>by omega) (fun _ _ _ q=>by
  obtain⟨k,hk⟩:=q;have h1:=KS (gK hc) k;have h3:N.n.toNat<=12:=by omega
  have h4:=Nat.pow_le_pow_right (n:=2) (by omega) h3;have h5:(bC (aL N) (aF N) (bR N) k).length<=2^N.n.toNat:=h1;omega) (fun _ _ _ o hF _=>by
  obtain⟨rfl,e⟩:=aAx h hF;rw[e];exact hk)
end
theorem TP{ow pr:List Int}{su:List (List Int)}(hc:bG ow pr su=0){m:Nat}{ms ms':List Ms}(hd:kS ow.length (gL ow pr su) (itN ow.length (gL ow pr su) m))(hS:StOk (aQ pr) ow.length ms)(hN:Nf (aQ pr) ms=itN ow.length (gL ow pr su) m){e:Int}(hA:MeasA ow pr su ms' e):e=0/\ms'=ms:=by
 rcases hA with⟨h1,_⟩ | ⟨_,h2,h3⟩
 ·exact absurd hc h1
 ·exact⟨h2,h3.eq ⟨hS,by rw[hN];exact EU (kU (dP hc)) m,by rw[hN];exact hd⟩⟩
theorem aGy(ms:List Ms):PvWk (.agg [p64 0,p64 0,.nils,.nils,.nils,.nils,slM false true ms]) (Res.pv ⟨0,[],[],[],[],ms⟩):=C4 (PvWk.nils _ _ _) (PvWk.nils _ _ _) (PvWk.nils _ _ _) (PvWk.nils _ _ _) (PvWk.refl _)
theorem aAu{tab:FuncId->Option AF}(T:HasA tab){M:Mem}{K:PV->Mem->Prop}{ms:List Ms}(hS:(⟨0,[],[],[],[],ms⟩:Res).Sm)(hf:∀x∈ms,x.fit)(hk:K (.bool true) M):SemC tab 28 [Res.pv ⟨0,[],[],[],[],ms⟩,.agg [p64 0,p64 0,.nils,.nils,.nils,.nils,slM false true ms]] M K:=
 JS (args2:=[Res.pv ⟨0,[],[],[],[],ms⟩,Res.pv ⟨0,[],[],[],[],ms⟩]) (fun w l h=>h.wkL rfl fun i x y p q=>by
  match i,p,q with
  | 0,p,q=>cases p;cases q;exact PvWk.refl _
  | 1,p,q=>cases p;cases q;exact aGy ms
  | i+2,p,q=>simp at p) (aAt T hS hf hk)
def UP(n:Nat):List UInt8:=dig 20 n
def aAy(n:Nat):ByteArray:=⟨(UP n).toArray⟩
def IP:List (List UInt8)->List UInt8
 | []=>[]
 | w::ws=>w++ws.flatMap fun x=>32::x
theorem IO:∀ws:List (List UInt8),Lib.join ws [32]=IP ws
 | []=>rfl
 | [w]=>by simp[Lib.join,IP]
 | w::v::ws=>by have:=IO (v::ws);show w++([32]++Lib.join (v::ws) [32])=_;rw[this];simp[IP]
structure RS where
 l:List Nat
 e:Int
 late:Int
def RS.next(r:RS):Nat×RS:=match r.l with
 | []=>(0,⟨[],if r.e=0 then 3 else r.e,r.late⟩)
 | n::l=>(n,⟨l,r.e,r.late⟩)
def RS.small(lim:Nat)(r:RS):Nat×RS:=(min r.next.1 lim,⟨r.next.2.l,r.next.2.e,if lim<r.next.1 then 1 else r.next.2.late⟩)
def n8{σ:Type}(f:σ->RS->σ×RS):Nat->σ->RS->σ×RS
 | 0,s,r=>(s,r)
 | n+1,s,r=>if r.e=0 then n8 f n (f s r).1 (f s r).2 else(s,r)
def RS.list(n:Nat)(r:RS):List Int×RS:=n8 (fun out r=>(out++[(r.next.1:Int)],r.next.2)) n [] r
def RS.vars(r:RS):Nat×RS:=(r.next.1,⟨r.next.2.l,if 6<r.next.1 then 7 else r.next.2.e,r.next.2.late⟩)
def uV(r:RS):Eg×RS:=
 let a:=r.next;let b:=a.2.next;let c:=b.2.small 255;let d:=c.2.small 255
 (⟨a.1,b.1,c.1,d.1⟩,d.2)
def RS.nfa(r:RS):NF×RS:=
 let a:=r.vars;let b:=a.2.next;let c:=b.2.next;let d:=RS.list c.1 c.2;let e:=d.2.next;let f:=RS.list e.1 e.2;let g:=f.2.next
 let h:=n8 (fun out r=>(out++[(uV r).1],(uV r).2)) g.1 [] g.2
 (⟨a.1,b.1,d.1,f.1,h.1⟩,h.2)
def RS.dfa(r:RS):DF×RS:=
 let a:=r.vars;let b:=a.2.next;let c:=b.2.next
 let d:=n8 (fun out r=>(out++[(RS.list (2^(min a.1 6)) r).1],(RS.list (2^(min a.1 6)) r).2)) c.1 [] c.2
 let e:=n8 (fun out r=>(out++[decide ((r.small 1).1=1)],(r.small 1).2)) c.1 [] d.2
 (⟨a.1,b.1,d.1,e.1⟩,e.2)
def RS.game(r:RS):(List Int×List Int×List (List Int))×RS:=
 let c:=r.next
 let d:=n8 (fun out r=>(out++[((r.small 255).1:Int)],(r.small 255).2)) c.1 [] c.2
 let e:=n8 (fun out r=>(out++[(r.next.1:Int)],r.next.2)) c.1 [] d.2
 let f:=n8 (fun out r=>(out++[(RS.list r.next.1 r.next.2).1],(RS.list r.next.1 r.next.2).2)) c.1 [] e.2
 ((d.1,e.1,f.1),f.2)
def kwD:List UInt8:=[100,101,116,101,114,109,105,110,105,122,101]
def kwM:List UInt8:=[109,105,110,105,109,105,122,101]
def kwP:List UInt8:=[109,101,97,115,117,114,101,115]
def PL(k:List UInt8)(r:RS):In×RS:=
 if k=kwD then(.n r.nfa.1,r.nfa.2)else if k=kwM then(.d r.dfa.1,r.dfa.2)else(.g r.game.1.1 r.game.1.2.1 r.game.1.2.2,r.game.2)
def In.kw:In->List UInt8
 | .n _=>kwD | .d _=>kwM | .g .. =>kwP
def eA(l:List Int):List Int:=(l.length:Int)::l
def egN(e:Eg):List Int:=[e.fr,e.to,e.ps,e.ng]
def b2I(b:Bool):Int:=if b=true then 1 else 0
def In.nums:In->List Int
 | .n N=>[N.vs,N.n]++eA N.st++eA N.fi++(N.es.length:Int)::N.es.flatMap egN
 | .d D=>[D.vs,D.st,(D.nx.length:Int)]++D.nx.flatten++D.fi.map b2I
 | .g ow pr su=>(ow.length:Int)::ow++pr++su.flatMap eA
def In.txt(i:In)(u:Nat):List UInt8:=IP (i.kw::((u:Int)::i.nums).map fun n=>UP n.toNat)
end Go.Am.Ar

