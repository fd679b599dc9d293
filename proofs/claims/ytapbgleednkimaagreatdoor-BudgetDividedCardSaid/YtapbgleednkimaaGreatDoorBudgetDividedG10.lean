/- Contract: equal results, and what goes with it. -/
import Derived.Test.YtapbgleednkimaaGreatDoorBudgetDividedG7
import Derived.Test.YtapbgleednkimaaGreatDoorBudgetDividedG9
import Derived.Test.YtapbgleednkimaaGreatDoorBudgetDividedG0
import Derived.Test.YtapbgleednkimaaGreatDoorPmL
import Derived.Test.YtapbgleednkimaaGreatDoorBudgetDividedG3
import Derived.Test.YtapbgleednkimaaGreatDoorPmC
import Derived.Test.YtapbgleednkimaaGreatDoorBudgetDividedG2
set_option linter.unusedVariables false
set_option linter.unusedSimpArgs false
set_option maxRecDepth 10000
namespace Go.Am.Ar
open Go.Am.PV renaming junk->Zj
open Go.Am renaming kV->P1,qL->P2,PKNo->P3,ppack->P4,PObj.under->P5,pput->P6,ptset->P7,ptget->P8,pev->P9,ofAV->P10,ofAV1->P11,ppad->P12,pfill->P13,fF->P14,AO.effect->P15
open List renaming replicate->L1
section
variable {tab:FuncId->Option AF} (T:HasA tab)
include T
set_option maxHeartbeats 1000000 in
theorem IQ {M:Mem} {K:PV->Mem->Prop} {r:Res} (hS:r.Sm) (hf:∀x∈r.ms,x.fit) (hk:K (.bool true) M):SemC tab 28 [r.pv,r.pv] M K:=by
 have hn:r.ms.length<1000000000000:=hS.m
 have B:BnD ⟨r.vs,0,r.rows,r.fins⟩:=⟨hS.w,hS.wr,hS.f⟩
 refine cP T.h28 (by simp only[Res.pv,PP,P1,P2,P14,P15,simprocAttr,cC,cI,cG,bK,dJ,bY,bM,z9,z9t,cD,cA,cJ,bZ,bW,b9,bX,bP,bN,bH,bL,bG,z8,bO,cV,bV,cU,cT,cR]) ?_
 simp only[Res.pv,af28,PP,P1,P2,P14,P15,simprocAttr,cC,cI,cG,bK,dJ,bY,bM,z9,z9t,cD,cA,cJ,bZ,bW,b9,bX,bP,bN,bH,bL,bG,z8,bO,cV,bV,cU,cT,cR]
 refine WR T (D:=⟨r.vs,0,r.rows,r.fins⟩) (D':=⟨r.vs,0,r.rows,r.fins⟩) B fun b hb=>?_
 obtain rfl:b=true:=hb.2 rfl
 simp only[PP,P1,P2,P14,P15,simprocAttr,cC,cI,cG,bK,dJ,bY,bM,z9,z9t,cD,cA,cJ,bZ,bW,b9,bX,bP,bN,bH,bL,bG,z8,bO,cV,bV,cU,cT,cR]
 refine mG T hS.s hS.sr ?_
 simp only[PP,P1,P2,P14,P15,simprocAttr,cC,cI,cG,bK,dJ,bY,bM,z9,z9t,cD,cA,cJ,bZ,bW,b9,bX,bP,bN,bH,bL,bG,z8,bO,cV,bV,cU,cT,cR]
 refine pC T hS.c ?_
 simp only[PP,P1,P2,P14,P15,simprocAttr,cC,cI,cG,bK,dJ,bY,bM,z9,z9t,cD,cA,cJ,bZ,bW,b9,bX,bP,bN,bH,bL,bG,z8,bO,cV,bV,cU,cT,cR]
 refine jZ (fun(k:Nat)=>k<=r.ms.length) (fun k=>(.junk:: .junk:: .ptr 0 0 0:: .ptr 1 0 0:: .junk::p64 k::zj 49)) (fun k=>[.cells 0 0 [p64 r.vs,p64 0,slR false true false true .i64 r.rows,slB false true r.fins,slR false true false true .i64 r.sets,slI false true .i64 r.cls,slM false true r.ms],.cells 0 0 [p64 r.vs,p64 0,slR false true false true .i64 r.rows,slB false true r.fins,slR false true false true .i64 r.sets,slI false true .i64 r.cls,slM false true r.ms]]) (fun k=>r.ms.length-k) 0 (by omega) (by simp only[PW]) rfl ?_
 intro k hle ih
 refine dL (by kernel_rfl) ?_
 simp only[PP,P1,P2,P14,P15,simprocAttr]
 refine QIf.intro (fun d=>?_) (fun d=>?_)
 ·have hk':k<r.ms.length:=by omega
  have k0:(0:Int)<=k:=by omega
  have hwk:=dA (k:=k) (by show _<1000000000000;omega)
  obtain⟨x,g1⟩:=dN (xs:=r.ms) (k:=k) hk'
  have p1:=iY g1
  have l1:=vC g1
  have hx:=hf x (List.mem_of_getElem? g1)
  simp only[PP,P1,P2,P14,P15,simprocAttr,cC,cI,cG,bK,dJ,bY,bM,z9,z9t,cD,cA,cJ,bZ,bW,b9,bX,bP,bN,bH,bL,bG,z8,bO,cV,bV,cU,cT,cR,d,k0,p1,l1,NZ hx hx,hwk]
  exact dB (ih (k+1) (by omega) (by omega)) (by simp only[PW])
 ·simp only[PP,P1,P2,P14,P15,simprocAttr,d]
  exact hk
omit T in
theorem In.rp_fit {i:In} (h0:i.chk=0) {m:Nat} {r:Res} (h:i.rp m r):∀x∈r.ms,x.fit:=by
 cases i with
 | n N=>obtain⟨rfl,_⟩:=h;exact fun x hx=>by cases hx
 | d D=>have h:r=_:=h;subst h;exact fun x hx=>by cases hx
 | g ow pr su=>
  obtain⟨ms,rfl,hS,_⟩:=h
  exact fun x hx=>(hS.ok x hx).fit (ES (rJ (gX h0)).1)
omit T in
theorem In.rp_eq {i:In} {m:Nat} {r q:Res} (h:i.rp m r) (h':i.rp m q):r=q:=by
 cases i with
 | n N=>obtain⟨rfl,_⟩:=h;obtain⟨rfl,_⟩:=h';rfl
 | d D=>have h:r=_:=h;have h':q=_:=h';rw[h,h']
 | g ow pr su=>
  obtain⟨ms,rfl,hS,hN⟩:=h
  obtain⟨ms',rfl,hS',hN'⟩:=h'
  have:ms=ms':=hS.eq hS' (fun v _=>by rw[hN,hN'])
  rw[this]
end
def N0:NF:=⟨1,3,[0],[2],[⟨0,0,0,0⟩,⟨0,1,1,0⟩,⟨1,2,0,0⟩]⟩
def D0:DF:=⟨0,0,[[0]],[true]⟩
theorem VD:fZ N0=0:=by decide+kernel
theorem aD4:BnN N0:=⟨by decide,by decide,by decide,by decide⟩
theorem aDB:rwK N0 0=[]/\fnK N0 0=[]/\gZ (stK N0 0)=[[0]]:=by decide+kernel
theorem aDA:rwK N0 2=[[0,1],[2,3]]/\fnK N0 2=[false,false]/\gZ (stK N0 2)=[[0],[0,1],[0,2],[0,1,2]]:=by decide+kernel
theorem aCn:(stK N0 0).length=1/\(stK N0 1).length=2/\(stK N0 2).length=4/\(stK N0 3).length=4/\(stK N0 4).length=4:=by decide+kernel
theorem aCm:(In.n N0).txtS 2=⟨#[100,101,116,101,114,109,105,110,105,122,101,32,50,32,49,32,51,32,49,32,48,32,49,32,50,32,51,32,48,32,48,32,48,32,48,32,48,32,49,32,49,32,48,32,49,32,50,32,48,32,48]⟩:=by decide+kernel
theorem VC (m:Nat):¬(In.n N0).fails m:=In.no_fail (i:= .n N0) VD (by show(3:Int)<=12;omega) m
section
variable {tab:FuncId->Option AF} (T:HasA tab)
include T
theorem aDN {M:Mem} {K:PV->Mem->Prop} (hk:K (.agg (nfC true true true true true true N0)) M):SemC tab 51 [] M K:=by
 refine cP T.h51 (by simp only[PP,P1,P2,P14,P15,simprocAttr]) ?_
 simp only[af51,PP,P1,P2,P14,P15,simprocAttr]
 exact hk
theorem PT {M:Mem} {K:PV->Mem->Prop} {k:Int} (hk:K (.tuple [.bool false,p64 12]) M):SemC tab 18 [.nilptr,p64 k] M K:=by
 refine dH T.h18 ?_
 simp only[af18,PP,P1,P2,P14,P15,simprocAttr,dE,cF,bQ,cZ,cO,cY,cW,dC,dD,cK,bJ,cN,bU,bT,bF,cB,bI]
 exact hk
theorem pU {M:Mem} {K:PV->Mem->Prop} {t:ByteArray} {e:Int} (hs:t.size<=400) (hE:∀e',eW t.data.toList= .err e'->e'=e) (hO:∀i u,eW t.data.toList= .ok i u->i.chk=0/\(∀m,m<u->(i.done m\/i.fails m)->e=1)/\((∀j,j<u->¬i.done j/\¬i.fails j)->e=0)) (hk:K (p64 e) M):
  SemC tab 53 [.str t] M K:=by
 have htl:t.data.toList.length=t.size:=rfl
 refine fB T.h53 (by simp only[PP,P1,P2,P14,P15,simprocAttr,aQ,aL,aP,aC,aR,bD,aK,aJ,aN,aT,aU,aV,aW,aS,bA,aE,aF,aA,aG,aY,aZ,aO,bE,a8,aX,aM,bB,aH,bC,aI,aB,aD]) ?_
 simp only[af53]
 refine bR ?_
 simp only[PP,P1,P2,P14,P15,simprocAttr]
 refine VV T (by omega) (fun i u h=>by obtain⟨a,b,c,_⟩:=UW h (by omega);exact⟨a,b,c⟩) rfl ⟨fun e' he=>?_,fun i u hp hc=>absurd (hO i u hp).1 hc,fun i u hp hc m hm hd _=>?_,fun i u hp hc hd jid b L StF A0 M0 J hA0 hA1 hS hX=>?_⟩
 ·rw[hE e' he]
  simp only[PP,P1,P2,P14,P15,simprocAttr]
  exact hk
 ·have:=(hO i u hp).2.1 m hm hd
  subst this
  simp only[PP,P1,P2,P14,P15,simprocAttr]
  exact hk
 ·have:=(hO i u hp).2.2 hd
  subst this
  simp only[PP,P1,P2,P14,P15,simprocAttr]
  exact hk
set_option maxHeartbeats 4000000 in
theorem aAR {M:Mem} {K:PV->Mem->Prop} (hA:tab 17=some (.fn af17)) (hk:K (.bool true) M):SemC tab 17 [] M K:=by
 obtain⟨l0,l1,l2,l3,l4⟩:=aCn
 obtain⟨r01,r02,r03⟩:=aDB
 obtain⟨r21,r22,r23⟩:=aDA
 refine fB hA (by simp only[PP,P1,P2,P14,P15,simprocAttr]) ?_
 simp only[af17]
 refine bS (bR ?_)
 simp only[PP,P1,P2,P14,P15,simprocAttr]
 refine bS (bR ?_)
 simp only[PP,P1,P2,P14,P15,simprocAttr]
 refine aDN T ?_
 simp only[PP,P1,P2,P14,P15,simprocAttr]
 refine aBt T aD4 rfl ⟨fun hc=>absurd VD hc,fun _ jid b L St A0 M0 J hb hcut hS hX=>?_⟩
 have JX:=J.X A0 hb hcut
 have hL:=JX.len _ _ hS
 simp only[PP,P1,P2,P14,P15,simprocAttr]
 refine bS (bR ?_)
 simp only[PP,P1,P2,P14,P15,simprocAttr]
 refine bS (bR ?_)
 simp only[PP,P1,P2,P14,P15,simprocAttr]
 refine JX.res0 hS fun r hr=>?_
 obtain⟨rfl,_⟩:=hr
 rw[r01,r02,r03]
 have g0:∀(Mx:Mem) (x:PObj),Mx.length=L->(Mx++[x])[L]? =some x:=fun Mx x h=>by rw[<-h,gk0];rfl
 have s0:∀(Mx:Mem) (x y:PObj),Mx.length=L->(Mx++[x]).set L y=Mx++[y]:=fun Mx x y h=>by rw[<-h,sk0];rfl
 have v1:N0.vs=1:=rfl
 simp only[PP,P1,P2,P14,P15,simprocAttr,Res.pv,v1,hL,g0 _ _ hL,s0 _ _ _ hL]
 refine bS (bR ?_)
 simp only[PP,P1,P2,P14,P15,simprocAttr,g0 _ _ hL,s0 _ _ _ hL]
 refine pC (xs:=[0]) (ys:=[0]) T (by decide) ?_
 simp only[PP,P1,P2,P14,P15,simprocAttr,g0 _ _ hL,s0 _ _ _ hL,eq_self]
 refine bS (bR ?_)
 simp only[PP,P1,P2,P14,P15,simprocAttr]
 refine JX.step _ _ hS _ _ _ (by omega) (by omega) (fun m1 M1 b1 p1 p2 p3 p4 p5 p6=>?_) (fun m M' _ _ _ p _=>absurd p (VC m))
 have d0:¬(In.n N0).done 0:=by show ¬(stK N0 0).length<=0;omega
 have d1:¬(In.n N0).done 1:=by show ¬(stK N0 1).length<=1;omega
 have d2:¬(In.n N0).done 2:=by show ¬(stK N0 2).length<=2;omega
 have d3:¬(In.n N0).done 3:=by show ¬(stK N0 3).length<=3;omega
 have d4:(In.n N0).done 4:=by show(stK N0 4).length<=4;omega
 obtain⟨rfl,rfl⟩:m1=2/\b1=false:=by
  have hb:b1=false:=by
   cases b1 with
   | false=>rfl
   | true=>
    have:=p3.1 rfl
    have h3:m1=0\/m1=1\/m1=2:=by omega
    rcases h3 with rfl | rfl | rfl
    ·exact absurd this d0
    ·exact absurd this d1
    ·exact absurd this d2
  exact⟨by have:=p4 hb;omega,hb⟩
 have hL1:=JX.len _ _ p6
 simp only[PP,P1,P2,P14,P15,simprocAttr]
 refine bS (bR ?_)
 simp only[PP,P1,P2,P14,P15,simprocAttr]
 refine JX.res _ _ p6 _ _ fun r hr=>?_
 obtain⟨rfl,_⟩:=hr
 rw[r21,r22,r23]
 simp only[PP,P1,P2,P14,P15,simprocAttr,Res.pv,v1,g0 _ _ hL1,s0 _ _ _ hL1]
 refine bS (bR ?_)
 simp only[PP,P1,P2,P14,P15,simprocAttr,g0 _ _ hL1,s0 _ _ _ hL1]
 refine mG (xs:=[[0],[0,1],[0,2],[0,1,2]]) (ys:=[[0],[0,1],[0,2],[0,1,2]]) T (by decide) (by decide) ?_
 simp only[PP,P1,P2,P14,P15,simprocAttr,g0 _ _ hL1,s0 _ _ _ hL1,eq_self]
 refine mG (xs:=[[0,1],[2,3]]) (ys:=[[0,1],[2,3]]) T (by decide) (by decide) ?_
 simp only[PP,P1,P2,P14,P15,simprocAttr,g0 _ _ hL1,s0 _ _ _ hL1,eq_self]
 refine IR (xs:=[false,false]) (ys:=[false,false]) T (by decide) ?_
 simp only[PP,P1,P2,P14,P15,simprocAttr,g0 _ _ hL1,s0 _ _ _ hL1,eq_self]
 refine J.sav A0 hb hcut 2 _ p6 (by omega) _ _ ?_
 have q1:eI .neq (.str ((In.n N0).txtS 2)) (.str ⟨#[100,101,116,101,114,109,105,110,105,122,101,32,50,32,49,32,51,32,49,32,48,32,49,32,50,32,51,32,48,32,48,32,48,32,48,32,48,32,49,32,49,32,48,32,49,32,50,32,48,32,48]⟩)=some (.bool false):=by rw[<-aCm,NQ];simp
 simp only[PP,P1,P2,P14,P15,simprocAttr,aQ,aL,aP,aC,aR,bD,aK,aJ,aN,aT,aU,aV,aW,aS,bA,aE,aF,aA,aG,aY,aZ,aO,bE,a8,aX,aM,bB,aH,bC,aI,aB,aD,q1]
 refine bS (bR ?_)
 simp only[PP,P1,P2,P14,P15,simprocAttr]
 refine JX.step _ _ p6 _ _ _ (by omega) (by omega) (fun m2 M2 b2 t1 t2 t3 t4 t5 t6=>?_) (fun m M' _ _ _ p _=>absurd p (VC m))
 obtain⟨rfl,rfl⟩:m2=4/\b2=true:=by
  have h4:m2<=4:=Classical.byContradiction fun q=>(t5 4 (by omega) (by omega)).1 d4
  have hb:b2=true:=by
   cases b2 with
   | true=>rfl
   | false=>have:=t4 rfl;omega
  have:=t3.1 hb
  have h3:m2=2\/m2=3\/m2=4:=by omega
  rcases h3 with rfl | rfl | rfl
  ·exact absurd this d2
  ·exact absurd this d3
  ·exact⟨rfl,hb⟩
 simp only[PP,P1,P2,P14,P15,simprocAttr]
 refine bS (bR ?_)
 simp only[PP,P1,P2,P14,P15,simprocAttr]
 refine JX.step _ _ t6 _ _ _ (by omega) (by omega) (fun m3 M3 b3 u1 u2 u3 u4 u5 u6=>?_) (fun m M' _ _ _ p _=>absurd p (VC m))
 obtain rfl:m3=4:=by omega
 obtain rfl:b3=true:=u3.2 d4
 simp only[PP,P1,P2,P14,P15,simprocAttr]
 refine bS (bR ?_)
 simp only[PP,P1,P2,P14,P15,simprocAttr]
 refine bS (bR ?_)
 simp only[PP,P1,P2,P14,P15,simprocAttr]
 refine PT T ?_
 simp only[PP,P1,P2,P14,P15,simprocAttr]
 obtain⟨vj,wj,widj,gj⟩:=JX.job _ _ u6
 refine bS (bR ?_)
 simp only[PP,P1,P2,P14,P15,simprocAttr]
 refine PU T (eV gj _) (by omega) ?_
 simp only[PP,P1,P2,P14,P15,simprocAttr]
 refine bS (bR ?_)
 simp only[PP,P1,P2,P14,P15,simprocAttr]
 refine JX.units T u6 ?_
 simp only[PP,P1,P2,P14,P15,simprocAttr]
 refine bR ?_
 simp only[PP,P1,P2,P14,P15,simprocAttr]
 have z1:∀m,m<0->((In.d D0).done m\/(In.d D0).fails m)->(0:Int)=1:=fun m h=>absurd h (Nat.not_lt_zero _)
 have dd:(In.d D0).done 0:=by show dX D0 1=dX D0 0;decide+kernel
 have dc:(In.d D0).chk=0:=by show eY D0=0;decide+kernel
 refine pU (e:=3) T (by decide) (fun e h=>by
  have q:eW (⟨#[100,101,116,101,114,109,105,110,105,122,101]⟩:ByteArray).data.toList= .err 3:=by kernel_rfl
  rw[q]at h;cases h;rfl) (fun i u h=>by
  have q:eW (⟨#[100,101,116,101,114,109,105,110,105,122,101]⟩:ByteArray).data.toList= .err 3:=by kernel_rfl
  rw[q]at h;cases h) ?_
 simp only[PP,P1,P2,P14,P15,simprocAttr]
 refine pU (e:=6) T (by decide) (fun e h=>by
  have q:eW (⟨#[115,111,114,116,32,49]⟩:ByteArray).data.toList= .err 6:=by kernel_rfl
  rw[q]at h;cases h;rfl) (fun i u h=>by
  have q:eW (⟨#[115,111,114,116,32,49]⟩:ByteArray).data.toList= .err 6:=by kernel_rfl
  rw[q]at h;cases h) ?_
 simp only[PP,P1,P2,P14,P15,simprocAttr]
 refine pU (e:=3) T (by decide) (fun e h=>by
  have q:eW (⟨#[109,105,110,105,109,105,122,101,32,48,32,49,32,48]⟩:ByteArray).data.toList= .err 3:=by kernel_rfl
  rw[q]at h;cases h;rfl) (fun i u h=>by
  have q:eW (⟨#[109,105,110,105,109,105,122,101,32,48,32,49,32,48]⟩:ByteArray).data.toList= .err 3:=by kernel_rfl
  rw[q]at h;cases h) ?_
 simp only[PP,P1,P2,P14,P15,simprocAttr]
 refine pU (e:=5) T (by decide) (fun e h=>by
  have q:eW (⟨#[109,105,110,105,109,105,122,101,32,48,32,48,32,48,32,49,32,48,32,49,32,49]⟩:ByteArray).data.toList= .err 5:=by kernel_rfl
  rw[q]at h;cases h;rfl) (fun i u h=>by
  have q:eW (⟨#[109,105,110,105,109,105,122,101,32,48,32,48,32,48,32,49,32,48,32,49,32,49]⟩:ByteArray).data.toList= .err 5:=by kernel_rfl
  rw[q]at h;cases h) ?_
 simp only[PP,P1,P2,P14,P15,simprocAttr]
 refine pU (e:=0) T (by decide) (fun e h=>by
  have q:eW (⟨#[109,105,110,105,109,105,122,101,32,48,32,48,32,48,32,49,32,48,32,49]⟩:ByteArray).data.toList= .ok (.d D0) 0:=by kernel_rfl
  rw[q]at h;cases h) (fun i u h=>by
  have q:eW (⟨#[109,105,110,105,109,105,122,101,32,48,32,48,32,48,32,49,32,48,32,49]⟩:ByteArray).data.toList= .ok (.d D0) 0:=by kernel_rfl
  rw[q]at h;injection h with h1 h2;subst h1;subst h2
  exact⟨dc,z1,fun _=>rfl⟩) ?_
 simp only[PP,P1,P2,P14,P15,simprocAttr]
 refine pU (e:=1) T (by decide) (fun e h=>by
  have q:eW (⟨#[109,105,110,105,109,105,122,101,32,49,32,48,32,48,32,49,32,48,32,49]⟩:ByteArray).data.toList= .ok (.d D0) 1:=by kernel_rfl
  rw[q]at h;cases h) (fun i u h=>by
  have q:eW (⟨#[109,105,110,105,109,105,122,101,32,49,32,48,32,48,32,49,32,48,32,49]⟩:ByteArray).data.toList= .ok (.d D0) 1:=by kernel_rfl
  rw[q]at h;injection h with h1 h2;subst h1;subst h2
  exact⟨dc,fun _ _ _=>rfl,fun h=>absurd dd (h 0 (by omega)).1⟩) ?_
 simp only[PP,P1,P2,P14,P15,simprocAttr]
 exact hk
end
theorem K7 {i:In} (h0:i.chk=0) (h:i.B99):i.nums.length<=20000:=by
 cases i with
 | n N=>
  have C:=lU h0
  have n0:=C.n0;have n64:=C.n64;have e5:=C.e512
  have h1:=jR n0 C.st
  have h2:=jR n0 C.fi
  have h3:=pW N.es
  unfold In.nums eX
  simp only[List.length_append,List.length_cons,List.length_nil,h3]
  omega
 | d D=>
  have C:=okD_iff.1 h0
  have v6:=C.v6;have hf:=C.f
  have h99:D.nx.length<=99:=h
  have h64:2^D.vs.toNat<=2^6:=Nat.pow_le_pow_right (by omega) (by omega)
  have h1:=wQ (l:=D.nx) (c:=64) fun x hx=>by
   have:=(C.r x hx).1
   have:((2^D.vs.toNat:Nat):Int)=x.length:=by rw[this];simp
   omega
  unfold In.nums
  simp only[List.length_append,List.length_cons,List.length_nil,List.length_map]
  omega
 | g ow pr su=>
  have V:=gX h0
  have h99:ow.length<=99:=h
  have hp:=V.p;have hs:=V.s
  have h1:=wQ (l:=su.map eX) (c:=100) fun x hx=>by
   obtain⟨y,hy,rfl⟩:=List.mem_map.1 hx
   have:=jR (n:=ow.length) (by omega) ((w8 V).2.2 y hy)
   unfold eX
   rw[List.length_cons];omega
  rw[List.length_map]at h1
  have e:su.flatMap eX=(su.map eX).flatten:=by simp[List.flatMap]
  unfold In.nums
  simp only[List.length_append,List.length_cons,e]
  omega
theorem WQ {k:Int} {N:NF} {D:DF} {ow pr:List Int} {su:List (List Int)} (h:∀x∈ow,0<=x):(IM k N D ow pr su).Pos:=by
 unfold IM
 split
 ·trivial
 ·split
  ·trivial
  ·exact fun x hx=>h x (List.mem_of_mem_take hx)
structure DvS where
 t:Nat
 sum:Nat
 m:Nat
 jid:Nat
 b:Nat
 L:Nat
 last:Bool
 St:Mem->Nat->Mem->Prop
 M:Mem
structure DvI (tab:FuncId->Option AF) (i:In) (l:List Int) (jid2 b2 L2:Nat) (St2:Mem->Nat->Mem->Prop) (s:DvS):Prop where
 t8:s.t<=8
 tl:s.t<=l.length
 sm:s.sum<=7*s.t
 ms:s.m<=s.sum
 dn:s.m<s.sum->i.done s.m
 nd:∀j,j<s.m->¬i.done j
 la:0<s.t->(s.last=true↔i.done s.m)
 a1:At tab i s.jid s.b s.L s.St s.m s.M
 a2:At tab i jid2 b2 L2 St2 0 s.M
 cm:FK s.M
 or_:s.L<=b2\/L2<=s.b
section
variable {tab:FuncId->Option AF} (T:HasA tab)
include T
theorem T9 {i:In} {m:Nat} {Mm:Mem} {K:PV->Mem->Prop} (hc:i.chk=0) (hB:i.Bn) (hp:i.Pos) (hm:m<=1000) (hM:FK Mm) (hnd:∀j,j<m->¬i.done j) (hnf:∀j,¬i.fails j)
  (hk:∀jid b L St M',At tab i jid b L St m M'->FK M'->(∃Y,M'=Mm++Y)->Mm.length<=b->K (.tuple [.ptr jid 0 0,p64 0]) M'):SemC tab 27 [.str (i.txtS m)] Mm K:=by
 have hpt:eW (i.txtS m).data.toList= .ok i m:=by
  show eW (i.txt m)=_
  exact JY hc hB hp (by omega)
 have hsz:(i.txtS m).size<=100000000:=by
  have h1:=NN i m
  have h2:=K7 hc hB.w.2
  have:(i.txtS m).size=(i.txt m).length:=rfl
  omega
 refine VV T hsz (fun i2 u2 h=>?_) hM ⟨fun e h=>?_,fun i2 u2 h hc2=>?_,fun i2 u2 h hc2 m2 hm2 hd _=>?_,fun i2 u2 h hc2 hd jid b L StF A0 M0 J hA0 hA1 hS hX=>?_⟩
 ·rw[hpt]at h;cases h
  exact⟨hB.w.1,fun _=>hB.w.2,hp⟩
 ·rw[hpt]at h;cases h
 ·rw[hpt]at h;cases h
  exact absurd hc hc2
 ·rw[hpt]at h;cases h
  rcases hd with hd | hd
  ·exact absurd hd (hnd _ hm2)
  ·exact absurd hd (hnf _)
 ·rw[hpt]at h;cases h
  obtain⟨X,hX⟩:=hX
  obtain⟨Z,hZ⟩:=J.pre A0 m M0 hS
  have JX:=J.X A0 hA0 hA1
  refine hk jid b L StF M0 ⟨J,A0,Z,[],by rw[hZ];simp,hA0,hA1,by rw[<-hZ];exact hS⟩ ?_ ⟨X++Z,by rw[hZ,hX];simp⟩ (by rw[<-hA0,hX];simp)
  have:=JX.cut _ _ hS
  rw[<-JX.len _ _ hS]at this
  exact this
set_option maxHeartbeats 4000000 in
theorem RT {k:Int} {N:NF} {D:DF} {ow pr:List Int} {su:List (List Int)} {l:List Int} {f o sv:Bool} (hN:∀x∈N.es,(0<=x.ps/\x.ps<=255)/\(0<=x.ng/\x.ng<=255)) (hO:∀x∈ow,0<=x) (hl:∀x∈l,0<=x):
  SemC tab 6 [.agg (csC false false k N D ow pr su),slI f o .u8 l,.bool sv] [] fun r _=>r= .bool true:=by
 obtain⟨hB,hF⟩:=aAq k N D ow pr su hN
 have hP:=WQ (k:=k) (N:=N) (D:=D) (pr:=pr) (su:=su) hO
 refine fJ T.h6 ?_
 simp only[af6]
 refine bS (bR ?_)
 simp only[PP,P1,P2,P14,P15,simprocAttr,eC]
 refine bS (bR ?_)
 simp only[PP,P1,P2,P14,P15,simprocAttr]
 refine aAR T T.awake ?_
 simp only[PP,P1,P2,P14,P15,simprocAttr]
 refine bS (bR ?_)
 simp only[PP,P1,P2,P14,P15,simprocAttr,eC]
 refine aDL T ?_
 generalize IM k N D ow pr su=i at*
 simp only[PP,P1,P2,P14,P15,simprocAttr,eC]
 refine bS (bR ?_)
 simp only[PP,P1,P2,P14,P15,simprocAttr,eC]
 have hA0:([PObj.cells 0 0 (csC false false k N D ow pr su),PObj.cells 0 1 (i.cs false true)]:Mem).all (cL 2)=true:=by
  simp[cL,cE,PV.under,fV,dI,dO,eD]
 have nf:i.chk=0->∀m,¬i.fails m:=fun hc=>In.no_fail hc hF
 refine xI T hB hP hA0 ⟨fun hc=>?_,fun hc jid b L StF A0 M0 J hb hcut hS hX=>?_⟩
 ·simp only[PP,P1,P2,P14,P15,simprocAttr]
  refine bS (bR ?_)
  simp only[PP,P1,P2,P14,P15,simprocAttr]
  refine xI T hB hP hA0 ⟨fun hc2=>?_,fun hc2=>absurd hc2 hc⟩
  simp only[PP,P1,P2,P14,P15,simprocAttr]
  refine bS (bR ?_)
  simp only[PP,P1,P2,P14,P15,simprocAttr,dE,cF,bQ,cZ,cO,cY,cW,dC,dD,cK,bJ,cN,bU,bT,bF,cB,bI,hc,eq_self]
 ·obtain⟨X,hX⟩:=hX
  obtain⟨Z,hZ⟩:=J.pre A0 0 M0 hS
  have JX:=J.X A0 hb hcut
  have a1:At tab i jid b L StF 0 M0:=⟨J,A0,Z,[],by rw[hZ];simp,hb,hcut,by rw[<-hZ];exact hS⟩
  have hL:=JX.len _ _ hS
  have c1:FK M0:=by
   have:=JX.cut _ _ hS
   rw[<-hL]at this
   exact this
  have g1:M0[1]? =some (.cells 0 1 (i.cs false true)):=by rw[hZ,hX];rfl
  simp only[PP,P1,P2,P14,P15,simprocAttr]
  refine bS (bR ?_)
  simp only[PP,P1,P2,P14,P15,simprocAttr,g1]
  refine xI T hB hP c1 ⟨fun hc2=>absurd hc hc2,fun hc2 jid2 b2 L2 St2 A2 M1 J2 hb2 hcut2 hS2 hX2=>?_⟩
  obtain⟨X2,hX2⟩:=hX2
  obtain⟨Z2,hZ2⟩:=J2.pre A2 0 M1 hS2
  have JX2:=J2.X A2 hb2 hcut2
  have a2:At tab i jid2 b2 L2 St2 0 M1:=⟨J2,A2,Z2,[],by rw[hZ2];simp,hb2,hcut2,by rw[<-hZ2];exact hS2⟩
  have hL2:=JX2.len _ _ hS2
  have c2:FK M1:=by
   have:=JX2.cut _ _ hS2
   rw[<-hL2]at this
   exact this
  have a1':At tab i jid b L StF 0 M1:=by
   rw[hZ2,hX2,List.append_assoc];exact a1.more _
  have hor:L<=b2:=by rw[<-hb2,hX2,<-hL];simp
  simp only[PP,P1,P2,P14,P15,simprocAttr]
  refine bS (bR ?_)
  simp only[PP,P1,P2,P14,P15,simprocAttr]
  refine bS (bR ?_)
  simp only[PP,P1,P2,P14,P15,simprocAttr]
  refine bS (bR ?_)
  simp only[PP,P1,P2,P14,P15,simprocAttr]
  refine bS (p9 (Qn:=fun bb Nm=>∃s:DvS,DvI tab i l jid2 b2 L2 St2 s/\(l.length≠0->0<s.t)/\PWeak bb (.junk::slI f o .u8 l:: .bool sv::zj 5++ .ptr s.jid 0 0:: .junk:: .ptr jid2 0 0:: .junk::p64 s.sum:: .bool s.last::zj 138)/\Nm=s.M) ?_ ?_ (fun _ _ h=>h) (fun _ _ _ h=>h))
  ·refine bS (bR ?_)
   simp only[PP,P1,P2,P14,P15,simprocAttr]
   refine pI ?_
   refine jZ (fun s:DvS=>DvI tab i l jid2 b2 L2 St2 s) (fun s=>(.junk::slI f o .u8 l:: .bool sv::zj 5++ .ptr s.jid 0 0:: .junk:: .ptr jid2 0 0:: .junk::p64 s.sum:: .bool s.last::p64 s.t::zj 137)) (fun s=>s.M) (fun s=>8-s.t) ⟨0,0,0,jid,b,L,false,StF,M1⟩ ⟨Nat.zero_le _,Nat.zero_le _,Nat.zero_le _,Nat.le_refl _,fun q=>absurd q (Nat.lt_irrefl _),fun j q=>absurd q (Nat.not_lt_zero _),fun q=>absurd q (Nat.lt_irrefl _),a1',a2,c2,.inl hor⟩ (by simp only[PW]) rfl ?_
   intro s I ih
   refine dL (by kernel_rfl) ?_
   by_cases d1:(s.t:Int)<l.length
   ·by_cases d2:(s.t:Int)<8
    ·have i0:(0:Int)<=s.t:=by omega
     obtain⟨x,gx⟩:=dN (xs:=l) (k:=s.t) (by omega)
     have hx:=hl x (List.mem_of_getElem? gx)
     obtain⟨n,rn,n7⟩:∃n:Nat,x.tmod 8=(n:Int)/\n<=7:=by
      have h1:=Int.tmod_lt_of_pos x (b:=8) (by omega)
      have h2:=Int.tmod_nonneg (a:=x) 8 hx
      exact⟨(x.tmod 8).toNat,by omega,by omega⟩
     have e1:eI .rem (.int .u8 x) (.int .u8 8)=some (.int .u8 n):=by
      simp[eI,eJ,gW,eF,fH,ofAV1,rn]
     have w1:IntKind.i64.wrap (n:Int)=n:=by rw[wrap64]<;>omega
     have hsum:=I.sm
     have ht8:=I.t8
     have w2:IntKind.i64.wrap ((s.sum:Int)+n)=((s.sum+n:Nat):Int):=by rw[wrap64]<;>omega
     have hw:=dA (k:=s.t) (by show _<1000000000000;omega)
     simp only[PP,P1,P2,P14,P15,simprocAttr,d1,d2,i0,gx,e1,w1]
     refine I.a1.step I.cm (by omega) (by omega) (nf hc) fun m' M' bb p1 p2 p3 p4 p5 b1 cM hlen oth=>?_
     have b2':=oth I.a2 I.or_
     have hms:=I.ms
     have hnd:∀j,j<m'->¬i.done j:=fun j hj=>by
      by_cases q:j<s.m
      ·exact I.nd j q
      ·exact p5 j (by omega) hj
     have hdn:m'<s.sum+n->i.done m':=fun q=>by
      cases bb with
      | true=>exact p3.1 rfl
      | false=>
       have h1:=p4 rfl
       by_cases q2:s.m<s.sum
       ·have:=I.dn q2
        by_cases q3:m'=s.m
        ·rw[q3];exact this
        ·exact absurd this (p5 s.m (Nat.le_refl _) (by omega))
       ·omega
     simp only[PP,P1,P2,P14,P15,simprocAttr,w2,hw]
     cases sv with
     | false=>
      simp only[PP,P1,P2,P14,P15,simprocAttr,w2,hw]
      exact dB (ih ⟨s.t+1,s.sum+n,m',s.jid,s.b,s.L,bb,s.St,M'⟩ ⟨by show s.t+1<=8;omega,by show s.t+1<=l.length;omega,by show s.sum+n<=7*(s.t+1);omega,by show m'<=s.sum+n;omega,hdn,hnd,fun _=>p3,b1,b2',cM,I.or_⟩ (by show 8-(s.t+1)<8-s.t;omega)) (by simp only[PW])
     | true=>
      simp only[PP,P1,P2,P14,P15,simprocAttr]
      refine b1.sav (by omega) ?_
      simp only[PP,P1,P2,P14,P15,simprocAttr]
      refine T9 T hc hB hP (by omega) cM hnd (nf hc) fun jid' b' L' St' M'' x1 x2 hY hb'=>?_
      obtain⟨Y,rfl⟩:=hY
      have q1:eI .neq (.str (i.txtS m')) (.str (i.txtS m'))=some (.bool false):=by rw[NQ];simp
      have q2:=(b2'.more Y)
      have q3:=(b1.more Y)
      have hl2:=b2'.len
      simp only[PP,P1,P2,P14,P15,simprocAttr]
      refine x1.sav (by omega) ?_
      simp only[PP,P1,P2,P14,P15,simprocAttr,q1]
      refine x1.units T ?_
      simp only[PP,P1,P2,P14,P15,simprocAttr]
      refine q3.units T ?_
      simp only[PP,P1,P2,P14,P15,simprocAttr,eq_self]
      refine x1.res fun r hr=>?_
      simp only[PP,P1,P2,P14,P15,simprocAttr]
      refine q3.res fun q hq=>?_
      obtain rfl:=In.rp_eq hq hr
      simp only[PP,P1,P2,P14,P15,simprocAttr]
      refine IQ T (In.rp_sm hc hB hr) (In.rp_fit hc hr) ?_
      simp only[PP,P1,P2,P14,P15,simprocAttr,w2,hw]
      exact dB (ih ⟨s.t+1,s.sum+n,m',jid',b',L',bb,St',M'++Y⟩ ⟨by show s.t+1<=8;omega,by show s.t+1<=l.length;omega,by show s.sum+n<=7*(s.t+1);omega,by show m'<=s.sum+n;omega,hdn,hnd,fun _=>p3,x1,q2,x2,.inr (by show L2<=b';omega)⟩ (by show 8-(s.t+1)<8-s.t;omega)) (by simp only[PW])
    ·simp only[PP,P1,P2,P14,P15,simprocAttr,d1,d2]
     exact⟨s,I,fun _=>by omega,(by simp only[PW]),rfl⟩
   ·simp only[PP,P1,P2,P14,P15,simprocAttr,d1]
    exact⟨s,I,fun q=>by have:=I.tl;omega,(by simp only[PW]),rfl⟩
  rintro bb Nm ⟨s,I,hz,hw,rfl⟩
  refine dB ?_ hw
  have hsum:=I.sm
  have ht8:=I.t8
  have hms:=I.ms
  refine bS (bR ?_)
  simp only[PP,P1,P2,P14,P15,simprocAttr]
  refine I.a2.step I.cm (by omega) (by omega) (nf hc) fun m2 M2 bb2 p1 p2 p3 p4 p5 b2' cM hlen oth=>?_
  have b1:=oth I.a1 I.or_.symm
  obtain rfl:m2=s.m:=by
   rcases Nat.lt_trichotomy m2 s.m with q | q | q
   ·have hd:i.done m2:=by
     cases bb2 with
     | true=>exact p3.1 rfl
     | false=>have:=p4 rfl;omega
    exact absurd hd (I.nd m2 q)
   ·exact q
   ·exact absurd (I.dn (by omega)) (p5 s.m (Nat.zero_le _) q)
  simp only[PP,P1,P2,P14,P15,simprocAttr]
  refine bS (p9 (Qn:=fun bb Nm=>∃ls:Bool,(ls=true↔i.done s.m)/\PWeak bb (zj 8++ .ptr s.jid 0 0:: .junk:: .ptr jid2 0 0:: .junk:: .junk:: .bool ls::zj 7++ .bool bb2::p64 0::zj 129)/\At tab i s.jid s.b s.L s.St s.m Nm/\At tab i jid2 b2 L2 St2 s.m Nm) ?_ ?_ (fun _ _ h=>h) (fun _ _ _ h=>h))
  ·refine bR ?_
   simp only[PP,P1,P2,P14,P15,simprocAttr]
   refine QIf.intro (fun c=>?_) (fun c=>?_)
   ·simp only[PP,P1,P2,P14,P15,simprocAttr]
    refine b1.step cM (by omega) (by omega) (nf hc) fun m' M' bb p1' p2' p3' p4' p5' x1 cM' hlen' oth'=>?_
    obtain rfl:m'=s.m:=by omega
    simp only[PP,P1,P2,P14,P15,simprocAttr]
    exact⟨bb,p3',(by simp only[PW]),x1,oth' b2' I.or_⟩
   ·simp only[PP,P1,P2,P14,P15,simprocAttr]
    exact⟨s.last,I.la (hz (by omega)),(by simp only[PW]),b1,b2'⟩
  rintro bb Nm ⟨ls,hls,hw,x1,x2⟩
  refine dB ?_ hw
  have hlb:bb2=ls:=by
   rw[Bool.eq_iff_iff,p3,hls]
  have q1:eI .eql (.str (i.txtS s.m)) (.str (i.txtS s.m))=some (.bool true):=by rw[DP];simp
  subst hlb
  refine bR ?_
  simp only[PP,P1,P2,P14,P15,simprocAttr]
  refine x1.units T ?_
  simp only[PP,P1,P2,P14,P15,simprocAttr]
  refine x2.units T ?_
  simp only[PP,P1,P2,P14,P15,simprocAttr,eq_self]
  refine x1.sav (by omega) ?_
  simp only[PP,P1,P2,P14,P15,simprocAttr]
  refine x2.sav (by omega) ?_
  simp only[PP,P1,P2,P14,P15,simprocAttr,q1]
  refine x1.res fun r hr=>?_
  simp only[PP,P1,P2,P14,P15,simprocAttr]
  refine x2.res fun q hq=>?_
  obtain rfl:=In.rp_eq hq hr
  simp only[PP,P1,P2,P14,P15,simprocAttr]
  refine IQ T (In.rp_sm hc hB hr) (In.rp_fit hc hr) ?_
  simp only[PP,P1,P2,P14,P15,simprocAttr]
end
abbrev aCz:Ty:= .pair (.slice (.int .u8)) (.pair (.slice (.int .i64)) (.pair (.slice (.slice (.int .i64))) .unit))
theorem XG {k:IntKind} {v:AV} {h:H} (hs:ShV (.slice (.int k)) v h):∃(xs:List Int),RepV (wH h) (slI false false k xs) v/\xs.length<=9223372036854775807/\∀x∈xs,k.min<=x/\x<=k.max:=by
 obtain⟨avs,hs,rfl⟩:=hs
 obtain⟨v,xs,rfl,p,q,r⟩:=mV hs
 exact⟨xs,p,q,r⟩
theorem T4 {tab:FuncId->Option AF} {g:FuncId} {args:List AV} {h:H} (hc:C (lim tab) g args h fun v _=>v= .bool true):∃n h',(run tab n).call g args h=some (.bool true,h'):=by
 unfold C at hc
 obtain⟨v,h',he,rfl⟩:=hc
 obtain⟨n,hn⟩:=(iP tab).1 he
 exact⟨n,h',hn⟩
theorem aDs {A B D:Ty} {args:List AV} {h:H} (hs:YF [A,B,D] args h):∃a b d,args=[a,b,d]/\ShV A a h/\ShV B b h/\ShV D d h:=by
 match args,hs with
 | [a,b,d],⟨h1,h2,h3,_⟩=>exact⟨a,b,d,rfl,h1,h2,h3⟩
abbrev edgeTy:Ty:= .pair (.int .i64) (.pair (.int .i64) (.pair (.int .u8) (.pair (.int .u8) .unit)))
abbrev aDz:Ty:= .pair (.int .i64) (.pair (.int .i64) (.pair (.slice (.int .i64)) (.pair (.slice (.int .i64)) (.pair (.slice edgeTy) .unit))))
theorem ZH {h:H} {cs:List AV} (hs:Sh edgeTy cs h):∃e:Eg,e.fit/\cs.length=4/\RepL (wH h) (egC e) cs:=by
 obtain⟨c1,c2,rfl,⟨a,rfl,a1,a2⟩,c3,c4,rfl,⟨b,rfl,b1,b2⟩,c5,c6,rfl,⟨p,rfl,p1,p2⟩,c7,c8,rfl,⟨q,rfl,q1,q2⟩,h8⟩:=hs
 have h8:c8=[]:=h8
 subst h8
 exact⟨⟨a,b,p,q⟩,⟨⟨a1,a2⟩,⟨b1,b2⟩,⟨p1,p2⟩,⟨q1,q2⟩⟩,rfl,.cons (.int _ _) (.cons (.int _ _) (.cons (.int _ _) (.cons (.int _ _) (.nil _))))⟩
theorem TY {h:H} :∀{n:Nat} {cells:List AV},cells.length=n*4->(∀i,i<n->Sh edgeTy ((cells.drop (i*4)).take 4) h)->∃es:List Eg,es.length=n/\RepL (wH h) (egL es) cells/\∀x∈es,x.fit
 | 0,cells,hl,_=>by
  have:cells=[]:=List.length_eq_zero_iff.1 (by simpa using hl)
  subst this
  exact⟨[],rfl,.nil _,fun x hx=>by cases hx⟩
 | n+1,cells,hl,hs=>by
  obtain⟨x,hx,_,r1⟩:=ZH (by simpa using hs 0 (by omega))
  obtain⟨es,e1,r2,e3⟩:=TY (n:=n) (cells:=cells.drop 4) (by simp;omega) (fun i hi=>by
   have:=hs (i+1) (by omega)
   rw[List.drop_drop,show 4+i*4=(i+1)*4 by omega];exact this)
  refine⟨x::es,by simp[e1],?_,fun y hy=>?_⟩
  ·have:=r1.append r2
   rw[List.take_append_drop]at this
   exact this
  ·rcases List.mem_cons.1 hy with rfl | hy
   ·exact hx
   ·exact e3 y hy
theorem TZ {cs:List AV} {h:H} (hs:Sh (.slice edgeTy) cs h):∃v,∃es:List Eg,cs=[v]/\RepV (wH h) (slE false false es) v/\es.length<=9223372036854775807/\∀x∈es,x.fit:=by
 rcases hs with rfl | ⟨b,n,cells,rfl,h2,h3,h4,h5⟩
 ·exact⟨.nilslice,[],rfl,.slN,by simp,fun x hx=>by cases hx⟩
 ·have e4:edgeTy.size=4:=rfl
  rw[e4]at h4 h5
  obtain⟨es,e1,r,e3⟩:=TY h4 h5
  refine⟨_,es,rfl,?_,by rw[e1];simpa [maxLen] using h2,e3⟩
  have hl:=r.len
  have:=RepV.sl (fl:=false) (own:=false) (sz:=4) (n:=n) (cs:=egL es) (fl':=false) (off:=0) (show(wH h).imm b=_ from h3) (by omega) (by rw[iQ,e1]) (fun q=>by cases q) (fun q=>by cases q) (fun _ _=>H.lt_of_get h3) (fun i y z p q=>r.get i y z p (by simpa using q))
  rw[<-e1]at this
  rw[<-e1]
  exact this
section
variable {tab:FuncId->Option AF} (T:HasA tab)
include T
end
section
variable {tab:FuncId->Option AF} (T:HasA tab)
include T
end
section
variable {tab:FuncId->Option AF} (T:HasA tab)
include T
end
section
variable {N:NF} {rs0 rs:List (List Bool)} {ch:Bool} {done done':Nat->Nat->Prop} {p q:Nat}
end
section
variable {tab:FuncId->Option AF} (T:HasA tab)
include T
end
section
variable {tab:FuncId->Option AF} (T:HasA tab)
include T
end
section
variable {tab:FuncId->Option AF} (T:HasA tab)
include T
end
section
variable {tab:FuncId->Option AF} (T:HasA tab)
include T
end
theorem QG {cs:List AV} {h:H} (hs:Sh (.slice .bool) cs h):∃v,∃xs:List Bool,cs=[v]/\RepV (wH h) (slB false false xs) v/\xs.length<=9223372036854775807:=by
 obtain⟨v,cells,rfl,h1,h2,h3⟩:=TX rfl hs
 have:∀cells:List AV,(∀c∈cells,Sh .bool [c] h)->∃xs:List Bool,cells=xs.map AV.bool:=by
  intro cells
  induction cells with
  | nil=>intro _;exact⟨[],rfl⟩
  | cons c cells ih=>
   intro hc
   obtain⟨xs,e⟩:=ih (fun c' h'=>hc c' (List.mem_cons_of_mem _ h'))
   obtain⟨b,e1⟩:=hc c (by simp)
   cases e1
   exact⟨b::xs,by simp[e]⟩
 obtain⟨xs,rfl⟩:=this cells h2
 refine⟨v,xs,rfl,?_,by simpa using h1⟩
 have:=h3 (xs.map PV.bool) ⟨by simp,fun i y z p q=>by
  rw[List.getElem?_map]at p q
  cases hx:xs[i]? with
  | none=>rw[hx]at p;cases p
  | some x=>rw[hx]at p q;cases p;cases q;exact .bool x⟩
 simpa using this
section
variable {tab:FuncId->Option AF} (T:HasA tab)
include T
end
abbrev aDS:Ty:= .pair (.int .i64) (.pair (.int .i64) (.pair (.slice (.slice (.int .i64))) (.pair (.slice .bool) .unit)))
section
variable {tab:FuncId->Option AF} (T:HasA tab)
include T
end
abbrev caseTy:Ty:= .pair (.int .i64) (.pair aDz (.pair aDS (.pair aCz .unit)))
theorem XH {v:AV} {h:H} (hs:ShV caseTy v h):∃(k:Int) (N:NF) (D:DF) (ow pr:List Int) (su:List (List Int)),RepV (wH h) (.agg (csC false false k N D ow pr su)) v/\(∀x∈N.es,(0<=x.ps/\x.ps<=255)/\(0<=x.ng/\x.ng<=255))/\∀x∈ow,0<=x:=by
 obtain⟨avs,hs,rfl⟩:=hs
 obtain⟨c1,c2,rfl,⟨k,rfl,k1,k2⟩,d1,d2,rfl,hn,d3,d4,rfl,hd,d5,d6,rfl,hg,h0⟩:=hs
 have h0:d6=[]:=h0
 subst h0
 obtain⟨c1,c2,rfl,⟨a,rfl,a1,a2⟩,c3,c4,rfl,⟨b,rfl,b1,b2⟩,c5,c6,rfl,h3,c7,c8,rfl,h4,c9,c10,rfl,h5,h6⟩:=hn
 have h6:c10=[]:=h6
 subst h6
 obtain⟨vo,st,rfl,p1,q1,r1⟩:=mV h3
 obtain⟨vp,fi,rfl,p2,q2,r2⟩:=mV h4
 obtain⟨vs,es,rfl,p3,q3,r3⟩:=TZ h5
 obtain⟨e1,e2,rfl,⟨a',rfl,a1',a2'⟩,e3,e4,rfl,⟨b',rfl,b1',b2'⟩,e5,e6,rfl,h3',e7,e8,rfl,h4',h6'⟩:=hd
 have h6':e8=[]:=h6'
 subst h6'
 obtain⟨vn,nx,rfl,p4,q4,r4⟩:=GM h3'
 obtain⟨vf,fb,rfl,p5,q5⟩:=QG h4'
 obtain⟨g1,g2,rfl,g3,g4,g5,rfl,g6,g7,g8,rfl,g9,g10⟩:=hg
 have g10:g8=[]:=g10
 subst g10
 obtain⟨vw,ow,rfl,p6,q6,r6⟩:=mV g3
 obtain⟨vq,pr,rfl,p7,q7,r7⟩:=mV g6
 obtain⟨vr,su,rfl,p8,q8,r8⟩:=GM g9
 refine⟨k,⟨a,b,st,fi,es⟩,⟨a',b',nx,fb⟩,ow,pr,su,?_,fun x hx=>⟨(r3 x hx).2.2.1,(r3 x hx).2.2.2⟩,fun x hx=>(r6 x hx).1⟩
 have:=RepL.cons (.int .i64 k) (.cons (.int .i64 a) (.cons (.int .i64 b) (.cons p1 (.cons p2 (.cons p3 (.cons (.int .i64 a') (.cons (.int .i64 b') (.cons p4 (.cons p5 (.cons p6 (.cons p7 (.cons p8 (.nil (wH h))))))))))))))
 exact .agg this.len this.get
theorem bdivided_all {tab:FuncId->Option AF} (T:HasA tab) (args:List AV) (h:H) (hs:YF [caseTy,.slice (.int .u8),.bool] args h):
  ∃n h',(run tab n).call 6 args h=some (.bool true,h'):=by
 obtain⟨a,b,d,rfl,ha,hb,hd⟩:=aDs hs
 obtain⟨k,N,D,ow,pr,su,r1,hN,hO⟩:=XH ha
 obtain⟨l,r2,hll,hl⟩:=XG hb
 obtain⟨sv,rfl⟩:∃sv,d= .bool sv:=by
  obtain⟨avs,⟨sv,rfl⟩,rfl⟩:=hd
  exact⟨sv,rfl⟩
 exact T4 (LE (.cons r1 (.cons r2 (.cons (.bool sv) (.nil _)))) (RT T hN hO fun x hx=>(hl x hx).1))
end Go.Am.Ar

