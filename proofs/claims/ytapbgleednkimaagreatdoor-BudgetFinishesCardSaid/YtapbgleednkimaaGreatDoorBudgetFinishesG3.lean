/- Contracts: the reference's simulation (sentinelref13.holds, Is), and what goes with it. -/
import Derived.Test.YtapbgleednkimaaGreatDoorBudgetFinishesG0
import Derived.Test.YtapbgleednkimaaGreatDoorBudgetFinishesG2
import Derived.Test.YtapbgleednkimaaGreatDoorPmC
import Derived.Test.YtapbgleednkimaaGreatDoorBudgetFinishesG1
set_option linter.unusedVariables false
set_option linter.unusedSimpArgs false
set_option maxRecDepth 10000
namespace Go.Am.Ar
open Go.Am.PV renaming junk->Zj
open Go.Am renaming pchk->P1,pold->P2,PKNo->P3,ppack->P4,PObj.under->P5,pput->P6,ptset->P7,ptget->P8,pev->P9,ofAV->P10,ofAV1->P11,ppad->P12,pfill->P13,bW->P14,AO.effect->P15
open List renaming replicate->L1
section
variable {tab:FuncId->Option AF} (T:HasA tab)
include T
end
section
variable {tab:FuncId->Option AF} (T:HasA tab)
include T
end
theorem wrap_u64{k:Nat}(h:k<4000000000000):IntKind.u64.wrap (k:Int)=(k:Int):=by simp only[IntKind.wrap,IntKind.signed,IntKind.bits];simp;omega
theorem yS:∀{l m:List Int},l.Pairwise (· < ·)->m.Pairwise (· < ·)->(∀x,x∈l↔x∈m)->l=m
 | [],[],_,_,_=>rfl
 | [],y::m,_,_,h=>by have:=(h y).2 (by simp);simp at this
 | x::l,[],_,_,h=>by have:=(h x).1 (by simp);simp at this
 | x::l,y::m,hl,hm,h=>by
  rw[List.pairwise_cons]at hl hm;have e:x=y:=by
   have h1:=(h x).1 (by simp);have h2:=(h y).2 (by simp);rcases List.mem_cons.1 h1 with h1 | h1
   ·exact h1
   ·rcases List.mem_cons.1 h2 with h2 | h2
    ·exact h2.symm
    ·have:=hl.1 y h2;have:=hm.1 x h1;omega
  subst e;congr 1;refine yS hl.2 hm.2 fun z=>?_;constructor
  ·intro hz;rcases List.mem_cons.1 ((h z).1 (by simp[hz]))with e | e
   ·have:=hl.1 z hz;omega
   ·exact e
  ·intro hz;rcases List.mem_cons.1 ((h z).2 (by simp[hz]))with e | e
   ·have:=hm.1 z hz;omega
   ·exact e
section
variable {α:Type} [DecidableEq α]
end
theorem KR{N:NF}(C:NOk N):m8 (dI (bR N))=N.st:=by
 refine yS ?_ (gZ C.st).1 fun x=>?_
 ·rw[List.pairwise_map];exact((List.pairwise_lt_range (n:=64)).filter _).imp fun h=>by omega
 ·constructor
  ·intro h;obtain⟨k,h1,rfl⟩:=List.mem_map.1 h;exact(lZ C k).1 (mem_bitsW.1 h1)
  ·intro h;have:=gG C.st x h;have e:x=((x.toNat:Nat):Int):=by omega
   rw[e]at h ⊢;exact List.mem_map.2 ⟨_,mem_bitsW.2 ((lZ C _).2 h),rfl⟩
theorem GZ{α:Type} [DecidableEq α](δ:α->Nat->α)(n:Nat)(o:List α)(a:α):(gY δ n o a).length=n:=by simp[gY]
section
variable {tab:FuncId->Option AF} (T:HasA tab)
include T
end
def hG(A:Mem)(f1 o1 f2 o2 f3 o3 f o:Bool)(N:NF)(q:Nat->Nat)(S:List (BitVec 64))(rows:List (List Int))(fins:List Bool)(v:Nat)(u:Int):Mem:=
 A++(dT A.length f1 o1 f2 o2 f3 o3 f o N q S rows fins++[.cells 0 v [.iface 116 (.ptr (A.length+4) 0 0),p64 u]])
section
variable {tab:FuncId->Option AF} (T:HasA tab)
include T
set_option maxHeartbeats 2000000 in
theorem aFi{A:Mem}{K:PV->Mem->Prop}{f1 o1 f2 o2 f3 o3:Bool}{N:NF}(hc:bZ N=0)(B:BnN N)(hA:A.all (aI A.length)=true)
  (hk:∀q,K (.ptr (A.length+4) 0 0) (A++dT A.length false true false true false true false true N q [bR N] [] [])):SemC tab 91 [.agg (nfC f1 o1 f2 o2 f3 o3 N)] A K:=by
 have C:=gK hc;refine dC (dV T.h91 ?_);simp only[af91];refine aB (aA ?_);simp only[PP,simprocAttr];refine aB (aA ?_);simp only[PP,simprocAttr,gk,gk0,sk,sk0,bD];refine lO T B.s ?_;simp only[PP,simprocAttr,gk,gk0,sk,sk0];refine lO T B.f ?_;simp only[PP,simprocAttr,gk,gk0,sk,sk0];refine UV T B.e ?_;simp only[PP,simprocAttr,gk,gk0,sk,sk0];refine aB (aA ?_);simp only[PP,simprocAttr,gk,gk0,sk,sk0];refine aF3 T C B ?_;simp only[PP,simprocAttr,gk,gk0,sk,sk0];refine aB (N8 [2,6] ?_);simp only[PP,simprocAttr,N9,FE,wF,OT,Option.some.injEq,exists_eq_left',gk,gk0,sk,sk0,List.append_assoc];refine lO T B.s ?_;simp only[PP,simprocAttr,N9,FE,wF,OT,Option.some.injEq,exists_eq_left',gk,gk0,sk,sk0,List.append_assoc,PT];refine NK T ?_;have hp:dH 2 (.str (iV (bR N))) []=some none:=rfl;have hput:gH 2 (.str (iV (bR N))) (.str (iV (bR N))) (.int .i64 0) []=smE (eM iV 0 [bR N]):=rfl;simp only[PP,simprocAttr,N9,FE,wF,OT,Option.some.injEq,exists_eq_left',gk,gk0,sk,sk0,List.append_assoc,PT,hp,hput];refine⟨by simp,aA ?_⟩;simp only[PP,simprocAttr];refine Gh.step (GStep.nilbox (A.length+4) 8 1 (by rw[gk];rfl) rfl rfl) ?_;simp only[gk,sk,List.set_cons_succ,List.set_cons_zero,List.append_assoc,List.length_append,List.length_cons,List.length_nil,List.cons_append,List.nil_append,Nat.reduceAdd];refine Gh.step (GStep.nilbox (A.length+4) 9 1 (by rw[gk];rfl) rfl rfl) ?_;simp only[gk,sk,List.set_cons_succ,List.set_cons_zero,List.append_assoc,List.length_append,List.length_cons,List.length_nil,List.cons_append,List.nil_append,Nat.reduceAdd];refine Gh.step (GStep.wkO (A.length+2) (cs2:=clD false true [bR N]) (by rw[gk];rfl) (fun w bcs h=>RepL.wkM (xs:=cG [bR N]) (f:=slI false true .i64) (fun x=>PvWk.refl _) (by
  have e:cG [bR N]=[N.st]:=by rw[<-KR C];rfl
  rw[e];exact h)) rfl) ?_
 simp only[gk,sk,List.set_cons_succ,List.set_cons_zero];refine Gh.step (GStep.freeze (b:=[.ptr (A.length+4) 0 0]) A.length (Nat.le_refl _) (by rw[gk0];rfl) (by simp only[kK,kL,List.cons_append,List.nil_append,o6,sJ]) rfl) (Gh.same ⟨_,rfl,?_⟩);simp only[sk0,List.set_cons_zero];exact hk (qD 0 0 0 0 1 0 0 0 0 0)
set_option maxHeartbeats 2000000 in
theorem W1{A:Mem}{K:PV->Mem->Prop}{f1 o1 f2 o2 f3 o3:Bool}{N:NF}(B:BnN N)(hA:A.all (aI A.length)=true)
  (hk1:bZ N≠0->K (.tuple [.nilptr,p64 (bZ N)]) A)
  (hk2:bZ N=0->∀X q v,aI (A.length+1) X=true->K (.tuple [.ptr (A.length+8) 0 0,p64 0]) (hG (A++[X]) false true false true false true false true N q [bR N] [] [] v 0)):
  SemC tab 40 [.agg (nfC f1 o1 f2 o2 f3 o3 N)] A K:=by
 have hA1:(A++[PObj.cells 0 0 (nfC f1 o1 f2 o2 f3 o3 N)]).all (aI (A++[PObj.cells 0 0 (nfC f1 o1 f2 o2 f3 o3 N)]).length)=true:=by rw[List.all_append,cK (by simp) hA];simp[aI,aC,PV.under,dB,aP]
 refine dC (aT T.h40 ?_);simp only[af40,PP,simprocAttr,bD,gk0,sk0];refine oI T B ?_;by_cases hc:bZ N=0;rotate_left
 ·simp only[PP,simprocAttr,hc];refine Gh.step (GStep.dropM (b:=[.tuple [.nilptr,p64 (bZ N)]]) (N:=A) A.length (Nat.le_refl _) (by simp) (by simp only[PW]) (by simp[aC,PV.under]) ?_ (List.take_left' rfl)) (Gh.same ⟨_,rfl,hk1 hc⟩);exact(congrArg (fun M:Mem=>M.all (aI A.length)) (List.take_left' rfl)).trans hA
 simp only[PP,simprocAttr,hc,gk0,sk0];refine aFi T hc B hA1 fun q=>?_;have h:=hk2 hc (.cells 0 0 (nfC f1 o1 f2 o2 f3 o3 N)) q 0 (by simp[aI,aC,PV.under,dB,aP]);have hl:A.length+8=(A++[PObj.cells 0 0 (nfC f1 o1 f2 o2 f3 o3 N)]).length+7:=by simp
 rw[hl]at h;generalize A++[PObj.cells 0 0 (nfC f1 o1 f2 o2 f3 o3 N)]=A1 at*;simp only[PP,simprocAttr,dT,gk,gk0,sk,sk0,mS,oL,i7,List.append_assoc];exact Gh.same ⟨_,rfl,h⟩
end
structure JobK (tab:FuncId->Option AF) (jid wid:Nat) (ty:TypeId) (fu fl:FuncId) (e:Int) (D F:Nat->Prop) (lft:Nat->Bool) (St:Nat->Mem->Prop):Prop where
 job:∀m M,St m M->∃v,M[jid]? =some (.cells 0 v [.iface ty (.ptr wid 0 0),p64 (m:Int)])
 sm:∀m M,St m M->m<4000000000000000000
 unit:∀m M,St m M->∀K:PV->Mem->Prop,(D m->∀M2,St m M2->K (.tuple [.bool false,p64 0]) M2)->(F m->∀M2,St m M2->K (.tuple [.bool false,p64 e]) M2)->
  (¬D m->¬F m->∀M2 v,M2[jid]? =some (.cells 0 v [.iface ty (.ptr wid 0 0),p64 (m:Int)])->St (m+1) (M2.set jid (.cells 0 (v+1) [.iface ty (.ptr wid 0 0),p64 ((m+1:Nat):Int)]))->K (.tuple [.bool true,p64 0]) M2)->SemC tab fu [.ptr wid 0 0] M K
 left:∀m M,St m M->∀K:PV->Mem->Prop,(∀M2,St m M2->K (.bool (lft m)) M2)->SemC tab fl [.ptr wid 0 0] M K
 meth:(ty=116/\fu=253/\fl=252)\/(ty=122/\fu=261/\fl=260)\/(ty=125/\fu=265/\fl=264)
section
variable {tab:FuncId->Option AF} (T:HasA tab)
include T
set_option maxHeartbeats 1000000 in
theorem aC8{jid wid:Nat}{ty:TypeId}{fu fl:FuncId}{e:Int}{D F:Nat->Prop}{lft:Nat->Bool}{St:Nat->Mem->Prop}(J:JobK tab jid wid ty fu fl e D F lft St)(he:e≠0){M:Mem}{K:PV->Mem->Prop}{n:Nat}{k:Int}(hS:St n M)(hk0:0<=k)(hk1:k<=9223372036854775807)
  (hA:∀m M',n<=m->(m:Int)=n+k->(∀j,n<=j->j<m->¬D j/\¬F j)->St m M'->K (.tuple [.bool (!lft m),p64 0]) M')
  (hB:∀m M',n<=m->(m:Int)<n+k->(∀j,n<=j->j<m->¬D j/\¬F j)->D m->St m M'->K (.tuple [.bool true,p64 0]) M')
  (hC:∀m M',n<=m->(m:Int)<n+k->(∀j,n<=j->j<m->¬D j/\¬F j)->F m->St m M'->K (.tuple [.bool false,p64 e]) M'):
  SemC tab 18 [.ptr jid 0 0,p64 k] M K:=by
 refine aT T.h18 ?_;obtain⟨v0,hM⟩:=J.job n M hS;have hk2:¬k<0:=by omega
 simp only[af18,PP,simprocAttr,PI,hM,hk2];have hu:(if(116:Int)=(ty:Int)then some 253 else if(122:Int)=(ty:Int)then some 261 else if(125:Int)=(ty:Int)then some 265 else dF [] ty)=some fu:=by rcases J.meth with⟨rfl,rfl,rfl⟩ | ⟨rfl,rfl,rfl⟩ | ⟨rfl,rfl,rfl⟩<;>rfl
 have hlf:(if(116:Int)=(ty:Int)then some 252 else if(122:Int)=(ty:Int)then some 260 else if(125:Int)=(ty:Int)then some 264 else dF [] ty)=some fl:=by rcases J.meth with⟨rfl,rfl,rfl⟩ | ⟨rfl,rfl,rfl⟩ | ⟨rfl,rfl,rfl⟩<;>rfl
 refine gU (fun(i:Nat) (N:Mem)=>(i:Int)<=k/\St (n+i) N/\∀j,n<=j->j<n+i->¬D j/\¬F j) (fun i N=>(.ptr jid 0 0::zj 20++p64 k::p64 i::zj 28)) (fun i N=>N) (fun i _=>k.toNat-i) 0 M ⟨hk0,hS,fun j h1 h2=>by omega⟩ (by simp only[PW]) rfl ?_;intro i N ⟨hi,hSi,hj⟩ ih;obtain⟨v,hN⟩:=J.job _ N hSi;refine aM (by kernel_rfl) ?_;simp only[PP,simprocAttr];refine QIf.intro (fun c=>?_) (fun c=>?_)
 ·have hsm:=J.sm _ N hSi;have hwi:IntKind.i64.wrap ((i:Int)+1)=((i+1:Nat):Int):=by rw[wrap64]<;>omega
  have hwu:IntKind.i64.wrap (((n+i:Nat):Int)+1)=((n+i+1:Nat):Int):=by rw[wrap64]<;>omega
  simp only[PP,simprocAttr,PI,hN,c,hu];refine J.unit _ N hSi _ (fun d M2 s2=>?_) (fun d M2 s2=>?_) (fun d1 d2 M2 v2 h2 s2=>?_)
  ·simp only[PP,simprocAttr];exact hB (n+i) M2 (by omega) (by omega) hj d s2
  ·simp only[PP,simprocAttr,he];exact hC (n+i) M2 (by omega) (by omega) hj d s2
  ·simp only[PP,simprocAttr,h2,hwu,hwi];refine aG (ih (i+1) _ ⟨by omega,s2,fun j h3 h4=>?_⟩ (by omega)) (by simp only[PW]);by_cases q:j=n+i
   ·subst q;exact⟨d1,d2⟩
   ·exact hj j h3 (by omega)
 ·simp only[PP,simprocAttr,PI,hN,c,hlf];refine J.left _ N hSi _ fun M2 s2=>?_;simp only[PP,simprocAttr];exact hA (n+i) M2 (by omega) (by omega) hj s2
end
abbrev stK(N:NF)(m:Nat):List (BitVec 64):=bC (aL N) (aF N) (bR N) m
abbrev rwK(N:NF)(m:Nat):List (List Int):=jO (aL N) (aF N) (bR N) m
def fnK(N:NF)(m:Nat):List Bool:=((stK N m).take m).map (o8 N)
theorem aAl{N:NF}{m:Nat}{a:BitVec 64}(h:(stK N m)[m]? =some a):fnK N (m+1)=fnK N m++[o8 N a]:=by
 have hk:=aD h;obtain⟨r,e2⟩:=gC (aL N) a (aF N) (stK N m);unfold fnK;rw[show stK N (m+1)=bI (aL N) a (aF N) (stK N m)from cD h];have e3:(bI (aL N) a (aF N) (stK N m)).take (m+1)=(stK N m).take m++[a]:=by rw[e2,List.take_append_of_le_length (by omega),List.take_add_one,h];rfl
 rw[e3,List.map_append];rfl
def StD(A:Mem)(N:NF)(m:Nat)(M:Mem):Prop:=
 (m<=(stK N m).length/\(stK N m).length<=4096)/\∃(f1 o1 f2 o2 f3 o3 f o:Bool) (q:Nat->Nat) (v:Nat),M=hG A f1 o1 f2 o2 f3 o3 f o N q (stK N m) (rwK N m) (fnK N m) v m
theorem CK{A:Mem}{f1 o1 f2 o2 f3 o3 f o:Bool}{N:NF}{q:Nat->Nat}{S:List (BitVec 64)}{rows:List (List Int)}{fins:List Bool}{v:Nat}{u:Int} :
  (hG A f1 o1 f2 o2 f3 o3 f o N q S rows fins v u).take (A.length+7)=A++dT A.length f1 o1 f2 o2 f3 o3 f o N q S rows fins:=lJ
theorem UC{A:Mem}{f1 o1 f2 o2 f3 o3 f o:Bool}{N:NF}{q:Nat->Nat}{S:List (BitVec 64)}{rows:List (List Int)}{fins:List Bool}{v:Nat}{u:Int} :
  (hG A f1 o1 f2 o2 f3 o3 f o N q S rows fins v u).drop (A.length+7)=[.cells 0 v [.iface 116 (.ptr (A.length+4) 0 0),p64 u]]:=by
 unfold hG;rw[<-List.append_assoc];exact List.drop_left' (by simp[dT])
theorem vX{A:Mem}{f1 o1 f2 o2 f3 o3 f o:Bool}{N:NF}{q:Nat->Nat}{S:List (BitVec 64)}{rows:List (List Int)}{fins:List Bool}{v:Nat}{u:Int} :
  (hG A f1 o1 f2 o2 f3 o3 f o N q S rows fins v u)[A.length+7]? =some (.cells 0 v [.iface 116 (.ptr (A.length+4) 0 0),p64 u]):=by
 unfold hG;rw[gk];rfl
theorem Z9{A:Mem}{f1 o1 f2 o2 f3 o3 f o:Bool}{N:NF}{q:Nat->Nat}{S:List (BitVec 64)}{rows:List (List Int)}{fins:List Bool}{v v':Nat}{u u':Int} :
  (hG A f1 o1 f2 o2 f3 o3 f o N q S rows fins v u).set (A.length+7) (.cells 0 v' [.iface 116 (.ptr (A.length+4) 0 0),p64 u'])=hG A f1 o1 f2 o2 f3 o3 f o N q S rows fins v' u':=by
 unfold hG;rw[sk];rfl
theorem IU{A:Mem}{f1 o1 f2 o2 f3 o3 f o:Bool}{N:NF}{q:Nat->Nat}{S:List (BitVec 64)}{rows:List (List Int)}{fins:List Bool}{v:Nat}{u:Int} :
  (A++dT A.length f1 o1 f2 o2 f3 o3 f o N q S rows fins)++[.cells 0 v [.iface 116 (.ptr (A.length+4) 0 0),p64 u]]=hG A f1 o1 f2 o2 f3 o3 f o N q S rows fins v u:=by
 unfold hG;rw[List.append_assoc]
theorem EZ{N:NF}{m:Nat}(h:m<=(stK N m).length):(fnK N m).length=m:=by unfold fnK;rw[List.length_map,List.length_take];omega
section
variable {tab:FuncId->Option AF} (T:HasA tab)
include T
theorem Z6{A:Mem}{N:NF}(hc:bZ N=0)(B:BnN N)(hA:A.all (aI A.length)=true):
  JobK tab (A.length+7) (A.length+4) 116 253 252 10 (fun m=>(stK N m).length<=m) (fun m=>m<(stK N m).length/\4096<(stK N (m+1)).length) (fun m=>decide (m<(stK N m).length)) (StD A N) where
 job:=by rintro m M ⟨_,f1,o1,f2,o2,f3,o3,f,o,q,v,rfl⟩;exact⟨v,vX⟩
 sm:=by rintro m M ⟨⟨h1,h2⟩,_⟩;omega
 unit:=by
  rintro m M ⟨⟨h1,h2⟩,f1,o1,f2,o2,f3,o3,f,o,q,v,rfl⟩ K k1 k2 k3;have hrl:(rwK N m).length=m:=lA h1;have hfl:=EZ h1;have fin:∀(r:PV) (f1 o1 f2 o2 f3 o3 f o:Bool) (q:Nat->Nat) (S:List (BitVec 64)) (rows:List (List Int)) (fins:List Bool),r.under (A.length+7)=true->K r (hG A f1 o1 f2 o2 f3 o3 f o N q S rows fins v m)->
    r.under (A.length+7)=true/\(A++dT A.length f1 o1 f2 o2 f3 o3 f o N q S rows fins).length=A.length+7/\(A++dT A.length f1 o1 f2 o2 f3 o3 f o N q S rows fins).all (aI (A.length+7))=true/\K r ((A++dT A.length f1 o1 f2 o2 f3 o3 f o N q S rows fins)++[.cells 0 v [.iface 116 (.ptr (A.length+4) 0 0),p64 m]]):=
   fun r f1 o1 f2 o2 f3 o3 f o q S rows fins hr hK=>⟨hr,by simp[dT],n9 hA ..,by rw[IU];exact hK⟩
  refine kJ (m:=A.length+7) (by simp[hG,dT]) (by simp[aC,PV.under]) (by rw[CK];exact n9 hA ..) ?_;rw[CK,UC];refine aDm T hc B hA (jY _ _ _ m) h2 (by rw[hrl,hfl]) (fun h=>?_) (fun a ga h=>?_) (fun a ga h q'=>?_)
  ·rw[hrl]at h;exact fin _ _ _ _ _ _ _ _ _ _ _ _ _ (by simp[PV.under,aC]) (k1 h _ ⟨⟨h1,h2⟩,_,_,_,_,_,_,_,_,_,_,rfl⟩)
  ·rw[hrl]at ga;have hs:stK N (m+1)=bI (aL N) a (aF N) (stK N m):=cD ga;rw[<-hs]at h;exact fin _ _ _ _ _ _ _ _ _ _ _ _ _ (by simp[PV.under,aC]) (k2 ⟨aD ga,h⟩ _ ⟨⟨h1,h2⟩,_,_,_,_,_,_,_,_,_,_,rfl⟩)
  ·rw[hrl]at ga;have hs:stK N (m+1)=bI (aL N) a (aF N) (stK N m):=cD ga;have hr:=pP ga;have hf:=aAl ga;have hlt:=aD ga;rw[<-hs]at h;refine fin _ _ _ _ _ _ _ _ _ _ _ _ _ (by simp[PV.under,aC]) (k3 (by omega) (fun q=>by omega) _ v vX ?_);rw[Z9];refine⟨⟨?_,h⟩,f1,o1,f2,o2,f3,o3,true,false,q',v+1,?_⟩
   ·obtain⟨r,e⟩:=gC (aL N) a (aF N) (stK N m);by_cases hl:(stK N m).length=m
    ·omega
    ·rw[hs,e];simp;omega
   ·rw[hs,show rwK N (m+1)=_ from hr,hf]
 left:=by rintro m M ⟨⟨h1,h2⟩,f1,o1,f2,o2,f3,o3,f,o,q,v,rfl⟩ K k;have hrl:(rwK N m).length=m:=lA h1;unfold hG;refine Q2 T ?_;rw[hrl];exact k _ ⟨⟨h1,h2⟩,_,_,_,_,_,_,_,_,_,_,rfl⟩
 meth:= .inl ⟨rfl,rfl,rfl⟩
end
section
variable {tab:FuncId->Option AF} (T:HasA tab)
include T
end
def itr(f:Nat->Nat)(v:Nat):Nat->Nat
 | 0=>v
 | j+1=>f (itr f v j)
def its(f:Nat->Nat)(v m:Nat):List Nat:=(List.range m).map (itr f v)
section
variable {O:Nat->Int} {S:Nat->List Nat} {R:Nat->Int} {D:Nat->Prop} {p q:Int}
end
def mT:List Nat->Nat
 | []=>1
 | n::ns=>(n+1)*mT ns
def mr:List Nat->List Int->Nat
 | n::ns,c::cs=>c.toNat+(n+1)*mr ns cs
 | _,_=>0
def mOk:List Nat->List Int->Prop
 | n::ns,c::cs=>0<=c/\c<=n/\mOk ns cs
 | [],[]=>True
 | _,_=>False
theorem Y4:∀ns:List Nat,0<mT ns
 | []=>by decide
 | n::ns=>Nat.mul_pos (Nat.succ_pos _) (Y4 ns)
theorem QF:∀{ns:List Nat} {cs:List Int},mOk ns cs->cs.length=ns.length
 | [],[],_=>rfl
 | n::ns,c::cs,h=>by simp[QF h.2.2]
 | [],_::_,h=>h.elim
 | _::_,[],h=>h.elim
theorem CB:∀{ns:List Nat} {cs:List Int},mOk ns cs->mr ns cs<mT ns
 | [],[],_=>by decide
 | n::ns,c::cs,⟨h0,h1,h2⟩=>by have:=CB h2;have h3:(n+1)*(mr ns cs+1)<=(n+1)*mT ns:=Nat.mul_le_mul_left _ this;rw[Nat.mul_add]at h3;show c.toNat+(n+1)*mr ns cs<(n+1)*mT ns;omega
 | [],_::_,h=>h.elim
 | _::_,[],h=>h.elim
theorem Y0:∀{ns:List Nat} {cs ds:List Int},mOk ns cs->mOk ns ds->mr ns cs=mr ns ds->cs=ds
 | [],[],[],_,_,_=>rfl
 | n::ns,c::cs,d::ds,⟨h0,h1,h2⟩,⟨g0,g1,g2⟩,e=>by
  have e:c.toNat+(n+1)*mr ns cs=d.toNat+(n+1)*mr ns ds:=e;have e1:=congrArg (· % (n+1)) e;simp only[Nat.add_mul_mod_self_left]at e1;rw[Nat.mod_eq_of_lt (by omega),Nat.mod_eq_of_lt (by omega)]at e1;have e2:(n+1)*mr ns cs=(n+1)*mr ns ds:=by omega
  have e3:=Nat.eq_of_mul_eq_mul_left (Nat.succ_pos n) e2;rw[Y0 h2 g2 e3,show c=d by omega]
 | [],_::_,_,h,_,_=>h.elim
 | _::_,[],_,h,_,_=>h.elim
 | [],[],_::_,_,h,_=>h.elim
 | _::_,_::_,[],_,h,_=>h.elim
theorem Y6:∀{ns:List Nat} {cs:List Int},cs.length=ns.length->(∀(u:Nat) (c:Int) (n:Nat),cs[u]? =some c->ns[u]? =some n->0<=c/\c<=n)->mOk ns cs
 | [],[],_,_=>trivial
 | n::ns,c::cs,hl,h=>⟨(h 0 c n rfl rfl).1,(h 0 c n rfl rfl).2,Y6 (by simpa using hl) fun u c n h1 h2=>h (u+1) c n (by simpa using h1) (by simpa using h2)⟩
 | [],_::_,h,_=>by simp at h
 | _::_,[],h,_=>by simp at h
theorem QG:∀{ns:List Nat} {cs:List Int},mOk ns cs->∀{u:Nat} {c:Int} {n:Nat},cs[u]? =some c->ns[u]? =some n->0<=c/\c<=n
 | n::ns,c::cs,⟨h0,h1,h2⟩,0,x,y,hx,hy=>by simp at hx hy;subst hx;subst hy;exact⟨h0,h1⟩
 | n::ns,c::cs,⟨h0,h1,h2⟩,u+1,x,y,hx,hy=>QG h2 (by simpa using hx) (by simpa using hy)
 | [],[],_,_,_,_,hx,_=>by simp at hx
 | [],_::_,h,_,_,_,_,_=>h.elim
 | _::_,[],h,_,_,_,_,_=>h.elim
def mB(ns:List Nat)(q:Nat):Nat:=mT (ns.take q)
theorem Y7(ns:List Nat)(q:Nat):0<mB ns q:=Y4 _
theorem nU:∀(ns:List Nat) (q:Nat),mT ns=mB ns q*mT (ns.drop q)
 | ns,0=>by simp[mB,mT]
 | [],q+1=>by simp[mB,mT]
 | n::ns,q+1=>by have h:=nU ns q;show(n+1)*mT ns=(n+1)*mT (ns.take q)*mT (ns.drop q);rw[h,Nat.mul_assoc];rfl
theorem aCJ{ns:List Nat}{q n:Nat}(h:ns[q]? =some n):mB ns (q+1)=mB ns q*(n+1):=by
 induction ns generalizing q with
 | nil=>simp at h
 | cons a ns ih=>
  cases q with
  | zero=>simp at h;subst h;simp[mB,mT]
  | succ q=>have:=ih (q:=q) (by simpa using h);show(a+1)*mB ns (q+1)=(a+1)*mB ns q*(n+1);rw[this,Nat.mul_assoc]
theorem rI:∀{ns:List Nat} {cs:List Int} (q:Nat),mOk ns cs->mOk (ns.drop q) (cs.drop q)
 | ns,cs,0,h=>by simpa using h
 | [],[],q+1,h=>by simpa using h
 | n::ns,c::cs,q+1,h=>by simpa using rI q h.2.2
 | [],_::_,_+1,h=>h.elim
 | _::_,[],_+1,h=>h.elim
theorem EH:∀{ns:List Nat} {cs:List Int} (q:Nat),mOk ns cs->mr ns cs / mB ns q=mr (ns.drop q) (cs.drop q)
 | ns,cs,0,h=>by simp[mB,mT]
 | [],[],q+1,h=>by simp[mB,mT,mr]
 | n::ns,c::cs,q+1,⟨h0,h1,h2⟩=>by show(c.toNat+(n+1)*mr ns cs) / ((n+1)*mB ns q)=mr (ns.drop q) (cs.drop q);rw[<-Nat.div_div_eq_div_mul,Nat.add_mul_div_left _ _ (Nat.succ_pos n),Nat.div_eq_of_lt (show c.toNat<n.succ by show c.toNat<n+1;omega),Nat.zero_add,EH q h2]
 | [],_::_,_+1,h=>h.elim
 | _::_,[],_+1,h=>h.elim
theorem xU:∀(q:Nat) {ns:List Nat} {ds:List Int},ds.length+q=ns.length->mr ns (List.replicate q 0++ds)=mB ns q*mr (ns.drop q) ds
 | 0,ns,ds,h=>by simp[mB,mT]
 | q+1,[],ds,h=>by simp at h
 | q+1,n::ns,ds,h=>by show(0:Int).toNat+(n+1)*mr ns (List.replicate q 0++ds)=(n+1)*mB ns q*mr (ns.drop q) ds;rw[xU q (by simp at h;omega),Nat.mul_assoc];simp
theorem tE:∀(q:Nat) {ns:List Nat} {ds:List Int},q<=ns.length->mOk (ns.drop q) ds->mOk ns (List.replicate q 0++ds)
 | 0,ns,ds,_,h=>by simpa using h
 | q+1,[],ds,h,_=>by simp at h
 | q+1,n::ns,ds,h,h2=>⟨by decide,by omega,tE q (by simpa using h) (by simpa using h2)⟩
structure Ms where
 top:Bool
 c:List Int
 h:c.length=8
def Ms.Ok(ns:List Nat)(x:Ms):Prop:=mOk ns x.c/\(x.top=true->x.c=List.replicate 8 0)
def Ms.num(ns:List Nat)(x:Ms):Nat:=if x.top=true then mT ns else mr ns x.c
def mz:Ms:=⟨false,List.replicate 8 0,by simp⟩
def mtop:Ms:=⟨true,List.replicate 8 0,by simp⟩
theorem Ms.ext'{x y:Ms}(h1:x.top=y.top)(h2:x.c=y.c):x=y:=by cases x;cases y;cases h1;cases h2;rfl
theorem EJ:∀(ns:List Nat),mOk ns (List.replicate ns.length 0)
 | []=>trivial
 | n::ns=>⟨by decide,by omega,EJ ns⟩
theorem YZ:∀(ns:List Nat) (k:Nat),mr ns (List.replicate k 0)=0
 | [],k=>by simp[mr]
 | n::ns,0=>by simp[mr]
 | n::ns,k+1=>by show(0:Int).toNat+(n+1)*mr ns (List.replicate k 0)=0;rw[YZ ns k];simp
section
variable {ns:List Nat}
theorem Ms.num_le{x:Ms}(h:x.Ok ns):x.num ns<=mT ns:=by
 unfold Ms.num;split
 ·exact Nat.le_refl _
 ·exact Nat.le_of_lt (CB h.1)
theorem Ms.num_top{x:Ms}(h:x.Ok ns):x.num ns=mT ns↔x.top=true:=by
 unfold Ms.num;split
 ·rename_i e;simp[e]
 ·rename_i e;have:=CB h.1;simp[e];omega
theorem Ms.inj{x y:Ms}(hx:x.Ok ns)(hy:y.Ok ns)(e:x.num ns=y.num ns):x=y:=by
 have h1:=Ms.num_top hx;have h2:=Ms.num_top hy;rw[e]at h1;have h3:x.top=true↔y.top=true:=h1.symm.trans h2
 cases hxt:x.top with
 | true=>have hyt:=h3.1 hxt;exact Ms.ext' (by rw[hxt,hyt]) (by rw[hx.2 hxt,hy.2 hyt])
 | false=>
  have hyt:y.top=false:=by
   cases q:y.top with
   | true=>rw[h3.2 q]at hxt;cases hxt
   | false=>rfl
  refine Ms.ext' (by rw[hxt,hyt]) (Y0 hx.1 hy.1 ?_);simpa [Ms.num,hxt,hyt]using e
theorem aGK(h:ns.length=8):mz.Ok ns:=⟨by show mOk ns (List.replicate 8 0);rw[<-h];exact EJ ns,fun h=>by cases h⟩
theorem QD(h:ns.length=8):mtop.Ok ns:=⟨by show mOk ns (List.replicate 8 0);rw[<-h];exact EJ ns,fun _=>rfl⟩
theorem YU:mz.num ns=0:=by show(if false=true then _ else mr ns (List.replicate 8 0))=0;rw[if_neg (by decide),YZ]
theorem YV:mtop.num ns=mT ns:=if_pos rfl
end
def j6(a b:Int):Int:=if a<b then-1 else if b<a then 1 else 0
def kR:List Int->List Int->Int
 | c::cs,d::ds=>if kR cs ds=0 then j6 c d else kR cs ds
 | _,_=>0
def AK(x y:Ms):Int:=if x.top=true then(if y.top=true then 0 else 1)else if y.top=true then-1 else kR x.c y.c
theorem oT{a b:Int}(h:a<b):j6 a b= -1:=if_pos h
theorem oU{a b:Int}(h:b<a):j6 a b=1:=by unfold j6;rw[if_neg (by omega),if_pos h]
theorem tQ(a:Int):j6 a a=0:=by simp[j6]
theorem tP{a b:Int} :j6 a b=0↔a=b:=by
 unfold j6;split
 ·constructor<;>intro h<;>omega
 ·split<;>constructor<;>intro h<;>omega
theorem CU:∀{cs ds:List Int} (k:Nat),kR (cs.drop k) (ds.drop k)≠0->kR cs ds=kR (cs.drop k) (ds.drop k)
 | cs,ds,0,_=>by simp
 | [],ds,k+1,h=>by simp[kR]at h
 | _::_,[],k+1,h=>by simp[kR]at h
 | c::cs,d::ds,k+1,h=>by have h:kR (cs.drop k) (ds.drop k)≠0:=h;have:=CU k h;show(if kR cs ds=0 then j6 c d else kR cs ds)=kR (cs.drop k) (ds.drop k);rw[if_neg (by rw[this];exact h),this]
theorem aDw{cs ds:List Int}{k:Nat}{c d:Int}(hc:cs[k]? =some c)(hd:ds[k]? =some d)(h:kR (cs.drop (k+1)) (ds.drop (k+1))=0):kR (cs.drop k) (ds.drop k)=j6 c d:=by obtain⟨h1,e1⟩:=List.getElem?_eq_some_iff.1 hc;obtain⟨h2,e2⟩:=List.getElem?_eq_some_iff.1 hd;rw[List.drop_eq_getElem_cons h1,List.drop_eq_getElem_cons h2];show(if kR _ _=0 then _ else _)=_;rw[if_pos h,e1,e2]
theorem aAB:∀{ns:List Nat} {cs ds:List Int},mOk ns cs->mOk ns ds->kR cs ds=j6 (mr ns cs) (mr ns ds)
 | [],[],[],_,_=>by simp[kR,j6,mr]
 | n::ns,c::cs,d::ds,⟨h0,h1,h2⟩,⟨g0,g1,g2⟩=>by
  have ih:=aAB h2 g2;show(if kR cs ds=0 then j6 c d else kR cs ds)=j6 ((c.toNat+(n+1)*mr ns cs:Nat):Int) ((d.toNat+(n+1)*mr ns ds:Nat):Int);rw[ih];split
  ·rename_i e;rw[tP]at e;have e:mr ns cs=mr ns ds:=by omega
   rw[e];rcases Int.lt_trichotomy c d with q | q | q
   ·rw[oT q,oT (by omega)]
   ·rw[q,tQ,tQ]
   ·rw[oU q,oU (by omega)]
  ·rename_i e;rw[tP]at e;by_cases q1:mr ns cs<mr ns ds
   ·have:=Nat.mul_le_mul_left (n+1) (show mr ns cs+1<=mr ns ds by omega);rw[Nat.mul_add]at this;rw[oT (by omega),oT (by omega)]
   ·have:=Nat.mul_le_mul_left (n+1) (show mr ns ds+1<=mr ns cs by omega);rw[Nat.mul_add]at this;rw[oU (by omega),oU (by omega)]
 | [],_::_,_,h,_=>h.elim
 | _::_,[],_,h,_=>h.elim
 | [],[],_::_,_,h=>h.elim
 | _::_,_::_,[],_,h=>h.elim
theorem wB{ns:List Nat}{x y:Ms}(hx:x.Ok ns)(hy:y.Ok ns):AK x y=j6 (x.num ns) (y.num ns):=by
 have h1:=CB hx.1;have h2:=CB hy.1;unfold AK Ms.num;split
 ·split
  ·rw[tQ]
  ·rw[oU (by omega)]
 ·split
  ·rw[oT (by omega)]
  ·exact aAB hx.1 hy.1
theorem oB{a b:Int} :0<j6 a b↔b<a:=by
 unfold j6;split
 ·constructor<;>intro h<;>omega
 ·split<;>constructor<;>intro h<;>omega
theorem JE{a b:Int} :j6 a b<0↔a<b:=by
 unfold j6;split
 ·constructor<;>intro h<;>omega
 ·split<;>constructor<;>intro h<;>omega
def vN(ns:List Nat)(p x:Nat):Nat:=min (mT ns) ((x / mB ns (p / 2)+p % 2)*mB ns (p / 2))
section
variable {ns:List Nat}
theorem aEk(p x:Nat):vN ns p x<=mT ns:=Nat.min_le_left _ _
theorem O7{p x y:Nat}(h:x<=y):vN ns p x<=vN ns p y:=by unfold vN;have h1:=Nat.div_le_div_right (c:=mB ns (p / 2)) h;have h2:=Nat.mul_le_mul_right (mB ns (p / 2)) (Nat.add_le_add_right h1 (p % 2));omega
theorem aEK(p:Nat):vN ns p (mT ns)=mT ns:=by
 unfold vN;have h:=nU ns (p / 2);have e:mT ns / mB ns (p / 2)=mT (ns.drop (p / 2)):=by rw[h,Nat.mul_div_cancel_left _ (Y7 _ _)]
 rw[e,Nat.add_mul,Nat.mul_comm (mT (ns.drop (p / 2)))];omega
theorem JB{q x:Nat}(h:x<mT ns):x / mB ns q<mT (ns.drop q):=by rw[Nat.div_lt_iff_lt_mul (Y7 _ _),Nat.mul_comm,<-nU];exact h
theorem WH{p x:Nat}(h:x<mT ns):vN ns p x=(x / mB ns (p / 2)+p % 2)*mB ns (p / 2):=by unfold vN;have h1:=JB (q:=p / 2) h;have h2:(x / mB ns (p / 2)+p % 2)*mB ns (p / 2)<=mT (ns.drop (p / 2))*mB ns (p / 2):=Nat.mul_le_mul_right _ (by have:=Nat.mod_lt p (show 0<2 by decide);omega);rw[Nat.mul_comm (mT _),<-nU]at h2;omega
theorem gP{α:Type}{l:List α}{q:Nat}{x:α}(h:l[q]? =some x):l.drop q=x::l.drop (q+1):=by obtain⟨h1,e⟩:=List.getElem?_eq_some_iff.1 h;rw[List.drop_eq_getElem_cons h1,e]
end
def FX(f:Nat->Nat):List Nat->Nat
 | []=>0
 | [a]=>f a
 | a::b::l=>min (f a) (FX f (b::l))
def C7(f:Nat->Nat):List Nat->Nat
 | []=>0
 | a::l=>max (f a) (C7 f l)
theorem qN{f:Nat->Nat} :∀{l:List Nat},l≠[]->∃u∈l,FX f l=f u
 | [],h=>absurd rfl h
 | [a],_=>⟨a,by simp,rfl⟩
 | a::b::l,_=>by
  obtain⟨u,h1,h2⟩:=qN (f:=f) (l:=b::l) (by simp);show ∃u∈a::b::l,min (f a) (FX f (b::l))=f u;rcases Nat.le_total (f a) (FX f (b::l))with h | h
  ·exact⟨a,by simp,Nat.min_eq_left h⟩
  ·exact⟨u,List.mem_cons_of_mem _ h1,by rw[Nat.min_eq_right h,h2]⟩
theorem C5{f:Nat->Nat} :∀{l:List Nat} {u:Nat},u∈l->FX f l<=f u
 | [a],u,h=>by rw[List.mem_singleton]at h;subst h;exact Nat.le_refl _
 | a::b::l,u,h=>by
  show min (f a) (FX f (b::l))<=f u;rcases List.mem_cons.1 h with e | h
  ·subst e;exact Nat.min_le_left _ _
  ·exact Nat.le_trans (Nat.min_le_right _ _) (C5 h)
theorem qO{f:Nat->Nat} :∀{l:List Nat},l≠[]->∃u∈l,C7 f l=f u
 | [],h=>absurd rfl h
 | [a],_=>⟨a,by simp,by simp[C7]⟩
 | a::b::l,_=>by
  obtain⟨u,h1,h2⟩:=qO (f:=f) (l:=b::l) (by simp);show ∃u∈a::b::l,max (f a) (C7 f (b::l))=f u;rcases Nat.le_total (f a) (C7 f (b::l))with h | h
  ·exact⟨u,List.mem_cons_of_mem _ h1,by rw[Nat.max_eq_right h,h2]⟩
  ·exact⟨a,by simp,Nat.max_eq_left h⟩
theorem C6{f:Nat->Nat} :∀{l:List Nat} {u:Nat},u∈l->f u<=C7 f l
 | a::l,u,h=>by
  show f u<=max (f a) (C7 f l);rcases List.mem_cons.1 h with e | h
  ·subst e;exact Nat.le_max_left _ _
  ·exact Nat.le_trans (C6 h) (Nat.le_max_right _ _)
theorem aB2{f:Nat->Nat}{l:List Nat}{y:Nat}(h1:∃u∈l,y=f u)(h2:∀u∈l,y<=f u):y=FX f l:=by obtain⟨u,hu,e⟩:=h1;obtain⟨w,hw,e2⟩:=qN (f:=f) (l:=l) (fun q=>by rw[q]at hu;cases hu);have:=C5 (f:=f) hu;have:=h2 w hw;omega
theorem aB3{f:Nat->Nat}{l:List Nat}{y:Nat}(h1:∃u∈l,y=f u)(h2:∀u∈l,f u<=y):y=C7 f l:=by obtain⟨u,hu,e⟩:=h1;obtain⟨w,hw,e2⟩:=qO (f:=f) (l:=l) (fun q=>by rw[q]at hu;cases hu);have:=C6 (f:=f) hu;have:=h2 w hw;omega
def lN(ns:List Nat)(O:Nat->Int)(S:Nat->List Nat)(R:Nat->Int)(m:Nat->Nat)(v:Nat):Nat:=
 if O v=0 then FX (fun u=>vN ns (R v).toNat (m u)) (S v)else C7 (fun u=>vN ns (R v).toNat (m u)) (S v)
def kV(m:Nat->Nat)(v x:Nat):Nat->Nat:=fun u=>if u=v then x else m u
structure Lft (n T:Nat) (L:(Nat->Nat)->Nat->Nat):Prop where
 bnd:∀m v,v<n->L m v<=T
 mono:∀m m' v,v<n->(∀u,u<n->m u<=m' u)->L m v<=L m' v
def kS(n:Nat)(L:(Nat->Nat)->Nat->Nat)(m:Nat->Nat):Prop:=∀v,v<n->L m v<=m v
structure LI (n T:Nat) (L:(Nat->Nat)->Nat->Nat) (m:Nat->Nat):Prop where
 bnd:∀v,v<n->m v<=T
 up:∀v,v<n->m v<=L m v
 low:∀m',kS n L m'->∀v,v<n->m v<=m' v
theorem aFq{n:Nat}{ns:List Nat}{O:Nat->Int}{S:Nat->List Nat}{R:Nat->Int}(hS:∀v,v<n->S v≠[]/\∀u∈S v,u<n):Lft n (mT ns) (lN ns O S R) where
 bnd:=fun m v hv=>by
  unfold lN;split
  ·obtain⟨u,_,e⟩:=qN (f:=fun u=>vN ns (R v).toNat (m u)) (hS v hv).1;rw[e];exact aEk _ _
  ·obtain⟨u,_,e⟩:=qO (f:=fun u=>vN ns (R v).toNat (m u)) (hS v hv).1;rw[e];exact aEk _ _
 mono:=fun m m' v hv h=>by
  unfold lN;split
  ·obtain⟨u,hu,e⟩:=qN (f:=fun u=>vN ns (R v).toNat (m' u)) (hS v hv).1;rw[e];exact Nat.le_trans (C5 hu) (O7 (h u ((hS v hv).2 u hu)))
  ·obtain⟨u,hu,e⟩:=qO (f:=fun u=>vN ns (R v).toNat (m u)) (hS v hv).1;rw[e];exact Nat.le_trans (O7 (h u ((hS v hv).2 u hu))) (C6 (f:=fun u=>vN ns (R v).toNat (m' u)) hu)
section
variable {n T:Nat} {L:(Nat->Nat)->Nat->Nat} {m:Nat->Nat}
theorem LI.zero(hL:Lft n T L):LI n T L fun _=>0:=⟨fun _ _=>Nat.zero_le _,fun _ _=>Nat.zero_le _,fun _ _ _ _=>Nat.zero_le _⟩
theorem LI.step(hL:Lft n T L)(h:LI n T L m){v:Nat}(hv:v<n):LI n T L (kV m v (L m v)):=by
 have le:∀u,u<n->m u<=kV m v (L m v) u:=fun u hu=>by
  unfold kV;split
  ·rename_i e;subst e;exact h.up u hu
  ·exact Nat.le_refl _
 refine⟨fun u hu=>?_,fun u hu=>?_,fun m' hm u hu=>?_⟩
 ·unfold kV;split
  ·exact hL.bnd _ _ hv
  ·exact h.bnd u hu
 ·have:=hL.mono m _ u hu le;show(if u=v then L m v else m u)<=_;split
  ·rename_i e;subst e;exact this
  ·exact Nat.le_trans (h.up u hu) this
 ·unfold kV;split
  ·rename_i e;subst e;exact Nat.le_trans (hL.mono m m' u hu (h.low m' hm)) (hm u hu)
  ·exact h.low m' hm u hu
theorem LI.unique{m':Nat->Nat}(h:LI n T L m)(hp:kS n L m)(h':LI n T L m')(hp':kS n L m'):∀v,v<n->m v=m' v:=fun v hv=>Nat.le_antisymm (h.low m' hp' v hv) (h'.low m hp v hv)
def mZ:Nat->(Nat->Nat)->Nat
 | 0,_=>0
 | n+1,m=>mZ n m+m n
theorem vM:∀{n:Nat} {m:Nat->Nat},(∀v,v<n->m v<=T)->mZ n m<=n*T
 | 0,_,_=>by simp[mZ]
 | n+1,m,h=>by have:=vM (n:=n) (m:=m) (fun v hv=>h v (by omega));have:=h n (by omega);show mZ n m+m n<=(n+1)*T;rw[Nat.add_mul];omega
theorem wW:∀{n:Nat} {m m':Nat->Nat},(∀v,v<n->m v=m' v)->mZ n m=mZ n m'
 | 0,_,_,_=>rfl
 | n+1,m,m',h=>by show mZ n m+m n=mZ n m'+m' n;rw[wW (fun v hv=>h v (by omega)),h n (by omega)]
theorem qV:∀{n:Nat} {m:Nat->Nat} {v x:Nat},v<n->m v<x->mZ n m<mZ n (kV m v x)
 | 0,_,_,_,h,_=>by omega
 | n+1,m,v,x,h,hx=>by
  show mZ n m+m n<mZ n (kV m v x)+kV m v x n;by_cases e:v=n
  ·subst e;rw[wW (n:=v) (m:=kV m v x) (m':=m) (fun u hu=>by unfold kV;rw[if_neg (by omega)])];unfold kV;rw[if_pos rfl];omega
  ·have:=qV (n:=n) (m:=m) (v:=v) (x:=x) (by omega) hx;have e2:kV m v x n=m n:=by unfold kV;rw[if_neg (by omega)]
   omega
def FstN(n:Nat)(L:(Nat->Nat)->Nat->Nat)(m:Nat->Nat)(v:Nat):Prop:=v<n/\m v<L m v/\∀u,u<v->L m u<=m u
theorem FstN.eq{v u:Nat}(h:FstN n L m v)(k:FstN n L m u):v=u:=by
 rcases Nat.lt_trichotomy v u with q | q | q
 ·have:=k.2.2 v q;have:=h.2.1;omega
 ·exact q
 ·have:=h.2.2 u q;have:=k.2.1;omega
open Classical in
noncomputable def qY(n:Nat)(L:(Nat->Nat)->Nat->Nat)(m:Nat->Nat):Nat->Nat:=
 if h:∃v,FstN n L m v then kV m (Classical.choose h) (L m (Classical.choose h))else m
theorem oG{v:Nat}(h:FstN n L m v):qY n L m=kV m v (L m v):=by unfold qY;have q:∃v,FstN n L m v:=⟨v,h⟩;rw[dif_pos q,(Classical.choose_spec q).eq h]
theorem WW(h:kS n L m):qY n L m=m:=by unfold qY;rw[dif_neg];rintro⟨v,h1,h2,_⟩;have:=h v h1;omega
noncomputable def itN(n:Nat)(L:(Nat->Nat)->Nat->Nat):Nat->Nat->Nat
 | 0=>fun _=>0
 | k+1=>qY n L (itN n L k)
theorem EU(hL:Lft n T L):∀k,LI n T L (itN n L k)
 | 0=>LI.zero hL
 | k+1=>by
  have ih:=EU hL k;by_cases h:∃v,FstN n L (itN n L k) v
  ·obtain⟨v,hv⟩:=h;show LI n T L (qY n L (itN n L k));rw[oG hv];exact ih.step hL hv.1
  ·show LI n T L (qY n L (itN n L k));unfold qY;rw[dif_neg h];exact ih
theorem QU{k:Nat}(h:kS n L (itN n L k)):∀d,itN n L (k+d)=itN n L k
 | 0=>rfl
 | d+1=>by show qY n L (itN n L (k+d))=_;rw[QU h d,WW h]
end
end Go.Am.Ar

