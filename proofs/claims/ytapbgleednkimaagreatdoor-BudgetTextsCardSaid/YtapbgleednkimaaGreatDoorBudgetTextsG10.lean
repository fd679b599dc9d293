/- Contract: equal results, and what goes with it. -/
import Derived.Test.YtapbgleednkimaaGreatDoorBudgetTextsG7
import Derived.Test.YtapbgleednkimaaGreatDoorBudgetTextsG9
import Derived.Test.YtapbgleednkimaaGreatDoorBudgetTextsG0
import Derived.Test.YtapbgleednkimaaGreatDoorPmL
set_option linter.unusedVariables false
set_option linter.unusedSimpArgs false
set_option maxRecDepth 10000
namespace Go.Am.Ar
open Go.Am.PV renaming junk->Zj
open Go.Am renaming kF->P1,pO->P2,PKNo->P3,ppack->P4,PObj.under->P5,pput->P6,ptset->P7,ptget->P8,pev->P9,ofAV->P10,ofAV1->P11,ppad->P12,pfill->P13,eZ->P14,AO.effect->P15
open List renaming replicate->L1
section
variable {tab:FuncId->Option AF} (T:HasA tab)
include T
end
def N0:NF:=⟨1,3,[0],[2],[⟨0,0,0,0⟩,⟨0,1,1,0⟩,⟨1,2,0,0⟩]⟩
def D0:DF:=⟨0,0,[[0]],[true]⟩
theorem TZ:gT N0=0:=by decide+kernel
theorem aCZ:BnN N0:=⟨by decide,by decide,by decide,by decide⟩
theorem aCx:rwK N0 0=[]/\fnK N0 0=[]/\iG (stK N0 0)=[[0]]:=by decide+kernel
theorem aCw:rwK N0 2=[[0,1],[2,3]]/\fnK N0 2=[false,false]/\iG (stK N0 2)=[[0],[0,1],[0,2],[0,1,2]]:=by decide+kernel
theorem aBr:(stK N0 0).length=1/\(stK N0 1).length=2/\(stK N0 2).length=4/\(stK N0 3).length=4/\(stK N0 4).length=4:=by decide+kernel
theorem aBq:(In.n N0).txtS 2=⟨#[100,101,116,101,114,109,105,110,105,122,101,32,50,32,49,32,51,32,49,32,48,32,49,32,50,32,51,32,48,32,48,32,48,32,48,32,48,32,49,32,49,32,48,32,49,32,50,32,48,32,48]⟩:=by decide+kernel
theorem TY (m:Nat):¬(In.n N0).fails m:=In.no_fail (i:= .n N0) TZ (by show(3:Int)<=12;omega) m
section
variable {tab:FuncId->Option AF} (T:HasA tab)
include T
theorem aCG {M:Mem} {K:PV->Mem->Prop} (hk:K (.agg (nfC true true true true true true N0)) M):SemC tab 51 [] M K:=by
 refine cW T.h51 (by simp only[PP,P1,P2,P14,P15,simprocAttr]) ?_
 simp only[af51,PP,P1,P2,P14,P15,simprocAttr]
 exact hk
theorem OE {M:Mem} {K:PV->Mem->Prop} {k:Int} (hk:K (.tuple [.bool false,p64 12]) M):SemC tab 18 [.nilptr,p64 k] M K:=by
 refine dF T.h18 ?_
 simp only[af18,PP,P1,P2,P14,P15,simprocAttr,dA,cB,bK,cQ,cL,cP,cO,cZ,c8,cC,bH,cK,bS,bL,bF,bX,bG]
 exact hk
theorem pA {M:Mem} {K:PV->Mem->Prop} {t:ByteArray} {e:Int} (hs:t.size<=400) (hE:∀e',eL t.data.toList= .err e'->e'=e) (hO:∀i u,eL t.data.toList= .ok i u->i.chk=0/\(∀m,m<u->(i.done m\/i.fails m)->e=1)/\((∀j,j<u->¬i.done j/\¬i.fails j)->e=0)) (hk:K (p64 e) M):
  SemC tab 53 [.str t] M K:=by
 have htl:t.data.toList.length=t.size:=rfl
 refine fZ T.h53 (by simp only[PP,P1,P2,P14,P15,simprocAttr,aQ,aL,aP,aC,aR,bD,aK,aJ,aN,aT,aU,aV,aW,aS,bA,aE,aF,aA,aG,aY,aZ,aO,bE,a8,aX,aM,bB,aH,bC,aI,aB,aD]) ?_
 simp only[af53]
 refine bT ?_
 simp only[PP,P1,P2,P14,P15,simprocAttr]
 refine UG T (by omega) (fun i u h=>by obtain⟨a,b,c,_⟩:=GC h (by omega);exact⟨a,b,c⟩) rfl ⟨fun e' he=>?_,fun i u hp hc=>absurd (hO i u hp).1 hc,fun i u hp hc m hm hd _=>?_,fun i u hp hc hd jid b L StF A0 M0 J hA0 hA1 hS hX=>?_⟩
 ·rw[hE e' he]
  simp only[PP,P1,P2,P14,P15,simprocAttr]
  exact hk
 ·have:=(hO i u hp).2.1 m hm hd
  subst this
  simp only[PP,P1,P2,P14,P15,simprocAttr]
  exact hk
 ·have:=(hO i u hp).2.2 hd
  subst this
  simp only[PP,P1,P2,P14,P15,simprocAttr]
  exact hk
set_option maxHeartbeats 4000000 in
theorem vT {M:Mem} {K:PV->Mem->Prop} (hA:tab 17=some (.fn af17)) (hk:K (.bool true) M):SemC tab 17 [] M K:=by
 obtain⟨l0,l1,l2,l3,l4⟩:=aBr
 obtain⟨r01,r02,r03⟩:=aCx
 obtain⟨r21,r22,r23⟩:=aCw
 refine fZ hA (by simp only[PP,P1,P2,P14,P15,simprocAttr]) ?_
 simp only[af17]
 refine bU (bT ?_)
 simp only[PP,P1,P2,P14,P15,simprocAttr]
 refine bU (bT ?_)
 simp only[PP,P1,P2,P14,P15,simprocAttr]
 refine aCG T ?_
 simp only[PP,P1,P2,P14,P15,simprocAttr]
 refine aAx T aCZ rfl ⟨fun hc=>absurd TZ hc,fun _ jid b L St A0 M0 J hb hcut hS hX=>?_⟩
 have JX:=J.X A0 hb hcut
 have hL:=JX.len _ _ hS
 simp only[PP,P1,P2,P14,P15,simprocAttr]
 refine bU (bT ?_)
 simp only[PP,P1,P2,P14,P15,simprocAttr]
 refine bU (bT ?_)
 simp only[PP,P1,P2,P14,P15,simprocAttr]
 refine JX.res0 hS fun r hr=>?_
 obtain⟨rfl,_⟩:=hr
 rw[r01,r02,r03]
 have g0:∀(Mx:Mem) (x:PObj),Mx.length=L->(Mx++[x])[L]? =some x:=fun Mx x h=>by rw[<-h,gk0];rfl
 have s0:∀(Mx:Mem) (x y:PObj),Mx.length=L->(Mx++[x]).set L y=Mx++[y]:=fun Mx x y h=>by rw[<-h,sk0];rfl
 have v1:N0.vs=1:=rfl
 simp only[PP,P1,P2,P14,P15,simprocAttr,Res.pv,v1,hL,g0 _ _ hL,s0 _ _ _ hL]
 refine bU (bT ?_)
 simp only[PP,P1,P2,P14,P15,simprocAttr,g0 _ _ hL,s0 _ _ _ hL]
 refine uO (xs:=[0]) (ys:=[0]) T (by decide) ?_
 simp only[PP,P1,P2,P14,P15,simprocAttr,g0 _ _ hL,s0 _ _ _ hL,eq_self]
 refine bU (bT ?_)
 simp only[PP,P1,P2,P14,P15,simprocAttr]
 refine JX.step _ _ hS _ _ _ (by omega) (by omega) (fun m1 M1 b1 p1 p2 p3 p4 p5 p6=>?_) (fun m M' _ _ _ p _=>absurd p (TY m))
 have d0:¬(In.n N0).done 0:=by show ¬(stK N0 0).length<=0;omega
 have d1:¬(In.n N0).done 1:=by show ¬(stK N0 1).length<=1;omega
 have d2:¬(In.n N0).done 2:=by show ¬(stK N0 2).length<=2;omega
 have d3:¬(In.n N0).done 3:=by show ¬(stK N0 3).length<=3;omega
 have d4:(In.n N0).done 4:=by show(stK N0 4).length<=4;omega
 obtain⟨rfl,rfl⟩:m1=2/\b1=false:=by
  have hb:b1=false:=by
   cases b1 with
   | false=>rfl
   | true=>
    have:=p3.1 rfl
    have h3:m1=0\/m1=1\/m1=2:=by omega
    rcases h3 with rfl | rfl | rfl
    ·exact absurd this d0
    ·exact absurd this d1
    ·exact absurd this d2
  exact⟨by have:=p4 hb;omega,hb⟩
 have hL1:=JX.len _ _ p6
 simp only[PP,P1,P2,P14,P15,simprocAttr]
 refine bU (bT ?_)
 simp only[PP,P1,P2,P14,P15,simprocAttr]
 refine JX.res _ _ p6 _ _ fun r hr=>?_
 obtain⟨rfl,_⟩:=hr
 rw[r21,r22,r23]
 simp only[PP,P1,P2,P14,P15,simprocAttr,Res.pv,v1,g0 _ _ hL1,s0 _ _ _ hL1]
 refine bU (bT ?_)
 simp only[PP,P1,P2,P14,P15,simprocAttr,g0 _ _ hL1,s0 _ _ _ hL1]
 refine uN (xs:=[[0],[0,1],[0,2],[0,1,2]]) (ys:=[[0],[0,1],[0,2],[0,1,2]]) T (by decide) (by decide) ?_
 simp only[PP,P1,P2,P14,P15,simprocAttr,g0 _ _ hL1,s0 _ _ _ hL1,eq_self]
 refine uN (xs:=[[0,1],[2,3]]) (ys:=[[0,1],[2,3]]) T (by decide) (by decide) ?_
 simp only[PP,P1,P2,P14,P15,simprocAttr,g0 _ _ hL1,s0 _ _ _ hL1,eq_self]
 refine U9 (xs:=[false,false]) (ys:=[false,false]) T (by decide) ?_
 simp only[PP,P1,P2,P14,P15,simprocAttr,g0 _ _ hL1,s0 _ _ _ hL1,eq_self]
 refine J.sav A0 hb hcut 2 _ p6 (by omega) _ _ ?_
 have q1:eP .neq (.str ((In.n N0).txtS 2)) (.str ⟨#[100,101,116,101,114,109,105,110,105,122,101,32,50,32,49,32,51,32,49,32,48,32,49,32,50,32,51,32,48,32,48,32,48,32,48,32,48,32,49,32,49,32,48,32,49,32,50,32,48,32,48]⟩)=some (.bool false):=by rw[<-aBq,XY];simp
 simp only[PP,P1,P2,P14,P15,simprocAttr,aQ,aL,aP,aC,aR,bD,aK,aJ,aN,aT,aU,aV,aW,aS,bA,aE,aF,aA,aG,aY,aZ,aO,bE,a8,aX,aM,bB,aH,bC,aI,aB,aD,q1]
 refine bU (bT ?_)
 simp only[PP,P1,P2,P14,P15,simprocAttr]
 refine JX.step _ _ p6 _ _ _ (by omega) (by omega) (fun m2 M2 b2 t1 t2 t3 t4 t5 t6=>?_) (fun m M' _ _ _ p _=>absurd p (TY m))
 obtain⟨rfl,rfl⟩:m2=4/\b2=true:=by
  have h4:m2<=4:=Classical.byContradiction fun q=>(t5 4 (by omega) (by omega)).1 d4
  have hb:b2=true:=by
   cases b2 with
   | true=>rfl
   | false=>have:=t4 rfl;omega
  have:=t3.1 hb
  have h3:m2=2\/m2=3\/m2=4:=by omega
  rcases h3 with rfl | rfl | rfl
  ·exact absurd this d2
  ·exact absurd this d3
  ·exact⟨rfl,hb⟩
 simp only[PP,P1,P2,P14,P15,simprocAttr]
 refine bU (bT ?_)
 simp only[PP,P1,P2,P14,P15,simprocAttr]
 refine JX.step _ _ t6 _ _ _ (by omega) (by omega) (fun m3 M3 b3 u1 u2 u3 u4 u5 u6=>?_) (fun m M' _ _ _ p _=>absurd p (TY m))
 obtain rfl:m3=4:=by omega
 obtain rfl:b3=true:=u3.2 d4
 simp only[PP,P1,P2,P14,P15,simprocAttr]
 refine bU (bT ?_)
 simp only[PP,P1,P2,P14,P15,simprocAttr]
 refine bU (bT ?_)
 simp only[PP,P1,P2,P14,P15,simprocAttr]
 refine OE T ?_
 simp only[PP,P1,P2,P14,P15,simprocAttr]
 obtain⟨vj,wj,widj,gj⟩:=JX.job _ _ u6
 refine bU (bT ?_)
 simp only[PP,P1,P2,P14,P15,simprocAttr]
 refine OG T (eI gj _) (by omega) ?_
 simp only[PP,P1,P2,P14,P15,simprocAttr]
 refine bU (bT ?_)
 simp only[PP,P1,P2,P14,P15,simprocAttr]
 refine JX.units T u6 ?_
 simp only[PP,P1,P2,P14,P15,simprocAttr]
 refine bT ?_
 simp only[PP,P1,P2,P14,P15,simprocAttr]
 have z1:∀m,m<0->((In.d D0).done m\/(In.d D0).fails m)->(0:Int)=1:=fun m h=>absurd h (Nat.not_lt_zero _)
 have dd:(In.d D0).done 0:=by show dT D0 1=dT D0 0;decide+kernel
 have dc:(In.d D0).chk=0:=by show fL D0=0;decide+kernel
 refine pA (e:=3) T (by decide) (fun e h=>by
  have q:eL (⟨#[100,101,116,101,114,109,105,110,105,122,101]⟩:ByteArray).data.toList= .err 3:=by kernel_rfl
  rw[q]at h;cases h;rfl) (fun i u h=>by
  have q:eL (⟨#[100,101,116,101,114,109,105,110,105,122,101]⟩:ByteArray).data.toList= .err 3:=by kernel_rfl
  rw[q]at h;cases h) ?_
 simp only[PP,P1,P2,P14,P15,simprocAttr]
 refine pA (e:=6) T (by decide) (fun e h=>by
  have q:eL (⟨#[115,111,114,116,32,49]⟩:ByteArray).data.toList= .err 6:=by kernel_rfl
  rw[q]at h;cases h;rfl) (fun i u h=>by
  have q:eL (⟨#[115,111,114,116,32,49]⟩:ByteArray).data.toList= .err 6:=by kernel_rfl
  rw[q]at h;cases h) ?_
 simp only[PP,P1,P2,P14,P15,simprocAttr]
 refine pA (e:=3) T (by decide) (fun e h=>by
  have q:eL (⟨#[109,105,110,105,109,105,122,101,32,48,32,49,32,48]⟩:ByteArray).data.toList= .err 3:=by kernel_rfl
  rw[q]at h;cases h;rfl) (fun i u h=>by
  have q:eL (⟨#[109,105,110,105,109,105,122,101,32,48,32,49,32,48]⟩:ByteArray).data.toList= .err 3:=by kernel_rfl
  rw[q]at h;cases h) ?_
 simp only[PP,P1,P2,P14,P15,simprocAttr]
 refine pA (e:=5) T (by decide) (fun e h=>by
  have q:eL (⟨#[109,105,110,105,109,105,122,101,32,48,32,48,32,48,32,49,32,48,32,49,32,49]⟩:ByteArray).data.toList= .err 5:=by kernel_rfl
  rw[q]at h;cases h;rfl) (fun i u h=>by
  have q:eL (⟨#[109,105,110,105,109,105,122,101,32,48,32,48,32,48,32,49,32,48,32,49,32,49]⟩:ByteArray).data.toList= .err 5:=by kernel_rfl
  rw[q]at h;cases h) ?_
 simp only[PP,P1,P2,P14,P15,simprocAttr]
 refine pA (e:=0) T (by decide) (fun e h=>by
  have q:eL (⟨#[109,105,110,105,109,105,122,101,32,48,32,48,32,48,32,49,32,48,32,49]⟩:ByteArray).data.toList= .ok (.d D0) 0:=by kernel_rfl
  rw[q]at h;cases h) (fun i u h=>by
  have q:eL (⟨#[109,105,110,105,109,105,122,101,32,48,32,48,32,48,32,49,32,48,32,49]⟩:ByteArray).data.toList= .ok (.d D0) 0:=by kernel_rfl
  rw[q]at h;injection h with h1 h2;subst h1;subst h2
  exact⟨dc,z1,fun _=>rfl⟩) ?_
 simp only[PP,P1,P2,P14,P15,simprocAttr]
 refine pA (e:=1) T (by decide) (fun e h=>by
  have q:eL (⟨#[109,105,110,105,109,105,122,101,32,49,32,48,32,48,32,49,32,48,32,49]⟩:ByteArray).data.toList= .ok (.d D0) 1:=by kernel_rfl
  rw[q]at h;cases h) (fun i u h=>by
  have q:eL (⟨#[109,105,110,105,109,105,122,101,32,49,32,48,32,48,32,49,32,48,32,49]⟩:ByteArray).data.toList= .ok (.d D0) 1:=by kernel_rfl
  rw[q]at h;injection h with h1 h2;subst h1;subst h2
  exact⟨dc,fun _ _ _=>rfl,fun h=>absurd dd (h 0 (by omega)).1⟩) ?_
 simp only[PP,P1,P2,P14,P15,simprocAttr]
 exact hk
end
section
variable {tab:FuncId->Option AF} (T:HasA tab)
include T
set_option maxHeartbeats 1000000 in
theorem XW {s:ByteArray} (hs:s.size<=9223372036854775807):SemC tab 8 [.str s] [] fun r _=>r= .bool true:=by
 have hmin:min (s.size:Int) 400=((min s.size 400:Nat):Int):=by omega
 have h0:(0:Int)<=((min s.size 400:Nat):Int):=by omega
 have h1:((min s.size 400:Nat):Int)<=s.size:=by omega
 refine fA T.h8 ?_
 simp only[af8]
 refine bU (bT ?_)
 simp only[PP,P1,P2,P14,P15,simprocAttr]
 refine bU (bT ?_)
 simp only[PP,P1,P2,P14,P15,simprocAttr,aQ,aL,aP,aC,aR,bD,aK,aJ,aN,aT,aU,aV,aW,aS,bA,aE,aF,aA,aG,aY,aZ,aO,bE,a8,aX,aM,bB,aH,bC,aI,aB,aD,F2,hmin,h0,h1]
 have hsz:(s.extract 0 (min s.size 400)).size<=400:=by
  rw[ByteArray.size_extract];omega
 generalize s.extract 0 (min s.size 400)=t at*
 refine bU (bT ?_)
 simp only[PP,P1,P2,P14,P15,simprocAttr]
 have htl:t.data.toList.length=t.size:=rfl
 refine UG T (by omega) (fun i u h=>by obtain⟨a,b,c,_⟩:=GC h (by omega);exact⟨a,b,c⟩) rfl ⟨fun e he=>?_,fun i u hp hc=>?_,fun i u hp hc m hm _ _=>?_,fun i u hp hc hd jid b L StF A0 M0 J hA0 hA1 hS hX=>?_⟩
 ·have he:=PE he
  simp only[PP,P1,P2,P14,P15,simprocAttr]
  refine bU (bT ?_)
  simp only[PP,P1,P2,P14,P15,simprocAttr,dA,cB,bK,cQ,cL,cP,cO,cZ,c8,cC,bH,cK,bS,bL,bF,bX,bG,he]
  refine vT T T.awake ?_
  simp only[PP,P1,P2,P14,P15,simprocAttr]
 ·simp only[PP,P1,P2,P14,P15,simprocAttr]
  refine bU (bT ?_)
  simp only[PP,P1,P2,P14,P15,simprocAttr,dA,cB,bK,cQ,cL,cP,cO,cZ,c8,cC,bH,cK,bS,bL,bF,bX,bG,hc]
  refine vT T T.awake ?_
  simp only[PP,P1,P2,P14,P15,simprocAttr]
 ·simp only[PP,P1,P2,P14,P15,simprocAttr]
  refine bU (bT ?_)
  simp only[PP,P1,P2,P14,P15,simprocAttr,dA,cB,bK,cQ,cL,cP,cO,cZ,c8,cC,bH,cK,bS,bL,bF,bX,bG]
  refine vT T T.awake ?_
  simp only[PP,P1,P2,P14,P15,simprocAttr]
 ·obtain⟨ht,hu⟩:=xE hp
  have e:i.txtS u=t:=by
   unfold In.txtS
   rw[ht]
  have hq:=CV t t
  simp only[PP,P1,P2,P14,P15,simprocAttr]
  refine bU (bT ?_)
  simp only[PP,P1,P2,P14,P15,simprocAttr]
  refine bT ?_
  simp only[PP,P1,P2,P14,P15,simprocAttr]
  have:=J.sav A0 hA0 hA1 u M0 hS hu []
  rw[List.append_nil]at this
  refine this _ ?_
  rw[e]
  simp only[PP,P1,P2,P14,P15,simprocAttr,hq]
  refine vT T T.awake ?_
  simp only[PP,P1,P2,P14,P15,simprocAttr]
end
theorem SQ {tab:FuncId->Option AF} {g:FuncId} {args:List AV} {h:H} (hc:C (lim tab) g args h fun v _=>v= .bool true):∃n h',(run tab n).call g args h=some (.bool true,h'):=by
 unfold C at hc
 obtain⟨v,h',he,rfl⟩:=hc
 obtain⟨n,hn⟩:=(iB tab).1 he
 exact⟨n,h',hn⟩
theorem aCp {A:Ty} {args:List AV} {h:H} (hs:WW [A] args h):∃a,args=[a]/\ShV A a h:=by
 match args,hs with
 | [a],⟨h1,_⟩=>exact⟨a,rfl,h1⟩
theorem btexts_all {tab:FuncId->Option AF} (T:HasA tab) (args:List AV) (h:H) (hs:WW [.str] args h):
  ∃n h',(run tab n).call 8 args h=some (.bool true,h'):=by
 obtain⟨a,rfl,ha⟩:=aCp hs
 obtain⟨s,rfl,hl⟩:∃s:ByteArray,a= .str s/\s.size<=9223372036854775807:=by
  obtain⟨avs,⟨s,rfl,hl⟩,rfl⟩:=ha
  exact⟨s,rfl,hl⟩
 exact SQ (J6 (.cons (.str s) (.nil _)) (XW T hl))
end Go.Am.Ar

