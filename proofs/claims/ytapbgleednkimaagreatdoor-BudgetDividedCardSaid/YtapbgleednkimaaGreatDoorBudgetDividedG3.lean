/- Contract: one unit of a determinization, and what goes with it. -/
import Derived.Test.YtapbgleednkimaaGreatDoorBudgetDividedG2
import Derived.Test.YtapbgleednkimaaGreatDoorPmC
import Derived.Test.YtapbgleednkimaaGreatDoorBudgetDividedG1
import Derived.Test.YtapbgleednkimaaGreatDoorBudgetDividedG0
set_option linter.unusedVariables false
set_option linter.unusedSimpArgs false
set_option maxRecDepth 10000
namespace Go.Am.Ar
open Go.Am.PV renaming junk->Zj
open Go.Am renaming kV->P1,qL->P2,PKNo->P3,ppack->P4,PObj.under->P5,pput->P6,ptset->P7,ptget->P8,pev->P9,ofAV->P10,ofAV1->P11,ppad->P12,pfill->P13,fF->P14,AO.effect->P15
open List renaming replicate->L1
section
variable {tab:FuncId->Option AF} (T:HasA tab)
include T
theorem OH {A l:Mem} {K:PV->Mem->Prop} {f1 o1 f2 o2 f3 o3 f o:Bool} {N:NF} {q:Nat->Nat} {S:List (BitVec 64)} {rows:List (List Int)} {fins:List Bool} (hk:K (.bool (decide (rows.length<S.length))) (A++(gM A.length f1 o1 f2 o2 f3 o3 f o N q S rows fins++l))):
  SemC tab 252 [.ptr (A.length+4) 0 0] (A++(gM A.length f1 o1 f2 o2 f3 o3 f o N q S rows fins++l)) K:=by
 refine dH T.h252 ?_
 unfold gM at hk ⊢
 simp only[af252,PP,P1,P2,P14,P15,simprocAttr,gk,gk0,sk,sk0]
 have e:decide ((rows.length:Int)<S.length)=decide (rows.length<S.length):=by simp only[Int.ofNat_lt]
 rw[e]
 exact hk
theorem aD1 {M:Mem} {K:PV->Mem->Prop} {id v:Nat} {f o:Bool} {l:List Int} {x:Int} (hM:M[id]? =some (.cells 0 v [slI f o .i64 l])) (hl:l.length<big) (hk:K (.bool (decide (x∈l))) M):
  SemC tab 256 [p64 x,.ptr id 0 0] M K:=by
 refine dH T.h256 ?_
 simp only[af256,PP,P1,P2,P14,P15,simprocAttr,hM]
 refine aAH T hl ?_
 simp only[PP,P1,P2,P14,P15,simprocAttr]
 exact hk
theorem aCr {M:Mem} {K:PV->Mem->Prop} {id v:Nat} {f o f2 o2:Bool} {l xs:List Int} (hM:M[id]? =some (.cells 0 v [slI f o .i64 l])) (hl:l.length<big) (hx:xs.length<big) (hk:∀r:Int,(0<=r↔∃x∈xs,x∈l)->K (p64 r) M):
  SemC tab 258 [slI f2 o2 .i64 xs,.func (.func 256) [] [.ptr id 0 0]] M K:=by
 have hb:xs.length<1000000000000:=hx
 refine dH T.h258 ?_
 simp only[af258,PP,P1,P2,P14,P15,simprocAttr]
 refine jZ (fun(k:Nat)=>k<=xs.length/\∀x∈xs.take k,x∉l) (fun k=>(slI f2 o2 .i64 xs:: .func (.func 256) [] [.ptr id 0 0]::zj 5++p64 xs.length::p64 k::zj 10)) (fun _=>M) (fun k=>xs.length-k) 0 (by simp) (by simp only[PW]) rfl ?_
 intro k ⟨hk',hnm⟩ ih
 refine dL (by kernel_rfl) ?_
 simp only[PP,P1,P2,P14,P15,simprocAttr]
 refine QIf.intro (fun c=>?_) (fun c=>?_)
 rotate_left
 ·have hkl:k=xs.length:=by omega
  subst hkl
  rw[List.take_of_length_le (Nat.le_refl _)]at hnm
  simp only[PP,P1,P2,P14,P15,simprocAttr,c]
  exact hk _ ⟨fun h=>absurd h (by omega),fun⟨x,h1,h2⟩=>absurd h2 (hnm x h1)⟩
 have hlt:k<xs.length:=by omega
 have hw:=dA (k:=k) (by show _<1000000000000;omega)
 have i0:(0:Int)<=k:=by omega
 obtain⟨x,gx⟩:=dN hlt
 simp only[PP,P1,P2,P14,P15,simprocAttr,c,i0,gx]
 refine aD1 T hM hl ?_
 by_cases d:x∈l
 ·simp only[PP,P1,P2,P14,P15,simprocAttr,d]
  exact hk _ ⟨fun _=>⟨x,List.mem_of_getElem? gx,d⟩,fun _=>i0⟩
 ·simp only[PP,P1,P2,P14,P15,simprocAttr,d,hw]
  refine dB (ih (k+1) ⟨by omega,?_⟩ (by omega)) (by simp only[PW])
  rw[List.take_add_one,gx]
  simp only[Option.toList_some,List.mem_append,List.mem_singleton]
  rintro y (h | rfl)
  ·exact hnm y h
  ·exact d
theorem aAG {M:Mem} {K:PV->Mem->Prop} {id v:Nat} {f o f2 o2:Bool} {l xs:List Int} {b:Bool} (hM:M[id]? =some (.cells 0 v [slI f o .i64 l])) (hl:l.length<big) (hx:xs.length<big) (hb:b=true↔∃x∈xs,x∈l) (hk:K (.bool b) M):
  SemC tab 255 [slI f2 o2 .i64 xs,.func (.func 256) [] [.ptr id 0 0]] M K:=by
 refine dH T.h255 ?_
 simp only[af255,PP,P1,P2,P14,P15,simprocAttr]
 refine aCr T hM hl hx fun r hr=>?_
 simp only[PP,P1,P2,P14,P15,simprocAttr]
 have:decide (0<=r)=b:=by rw[Bool.eq_iff_iff,decide_eq_true_eq,hr,hb]
 rw[this]
 exact hk
set_option maxHeartbeats 2000000 in
theorem aAu {A:Mem} {K:PV->Mem->Prop} {f1 o1 f2 o2 f3 o3 f o:Bool} {N:NF} {q:Nat->Nat} {S:List (BitVec 64)} {rows:List (List Int)} {fins:List Bool} (hc:fZ N=0) (B:BnN N) (hA:A.all (cL A.length)=true)
  (hn:S.Nodup) (hl:S.length<=4096) (hfi:fins.length=rows.length)
  (hk0:S.length<=rows.length->K (.tuple [.bool false,p64 0]) (A++gM A.length f1 o1 f2 o2 f3 o3 f o N q S rows fins))
  (hk1:∀a,S[rows.length]? =some a->4096<(fE (dR N) a (dK N) S).length->K (.tuple [.bool false,p64 10]) (A++gM A.length f1 o1 f2 o2 f3 o3 f o N q S rows fins))
  (hk2:∀a,S[rows.length]? =some a->(fE (dR N) a (dK N) S).length<=4096->∀q',K (.tuple [.bool true,p64 0]) (A++gM A.length f1 o1 f2 o2 f3 o3 true false N q' (fE (dR N) a (dK N) S) (rows++[AZ (dR N) (dK N) (fE (dR N) a (dK N) S) a]) (fins++[E0 N a]))):
  SemC tab 253 [.ptr (A.length+4) 0 0] (A++gM A.length f1 o1 f2 o2 f3 o3 f o N q S rows fins) K:=by
 have C:=lU hc
 have hshl:eI .shl (.int .i64 1) (.int .i64 N.vs)=some (.int .i64 ((dK N:Nat):Int)):=by
  rw[D2 (by have:=C.v0;omega) (by have:=C.v6;omega)];simp
 refine eZ (fJ T.h253 ?_)
 simp only[af253]
 refine bR ?_
 simp only[PP,P1,P2,P14,P15,simprocAttr,aQ,aL,aP,aC,aR,bD,aK,aJ,aN,aT,aU,aV,aW,aS,bA,aE,aF,aA,aG,aY,aZ,aO,bE,a8,aX,aM,bB,aH,bC,aI,aB,aD]
 refine OH T (l:=[]) ?_
 simp only[PP,P1,P2,P14,P15,simprocAttr]
 by_cases c:rows.length<S.length
 rotate_left
 ·simp only[PP,P1,P2,P14,P15,simprocAttr,c]
  exact Gh.same ⟨_,rfl,hk0 (by omega)⟩
 obtain⟨a,ga⟩:=dN c
 have k0:(0:Int)<=rows.length:=by omega
 have k1:(rows.length:Int)<S.length:=by omega
 simp only[gM,PP,P1,P2,P14,P15,simprocAttr,aQ,aL,aP,aC,aR,bD,aK,aJ,aN,aT,aU,aV,aW,aS,bA,aE,aF,aA,aG,aY,aZ,aO,bE,a8,aX,aM,bB,aH,bC,aI,aB,aD,gk,gk0,sk,sk0,c,k0,k1,ga,hshl,List.append_assoc]
 refine dB (b:=(.ptr (A.length+4) 0 0::zj 3++slW f o (iB a):: .nils:: .nils:: .map (A.length+7)::zj 29++p64 (dK N:Nat)::p64 (0:Nat)::zj 130)) ?_ (by simp only[PW])
 refine eB (GStep.nil (b:=(.ptr (A.length+4) 0 0::zj 3++slW f o (iB a):: .ref (A.length+8) 0 1 0 0:: .nils:: .map (A.length+7)::zj 29++p64 (dK N:Nat)::p64 (0:Nat)::zj 130)) 5 1 rfl (by simp only[PP,P1,P2,P14,P15,simprocAttr]) rfl) ?_
 refine eB (GStep.nil (b:=(.ptr (A.length+4) 0 0::zj 3++slW f o (iB a):: .ref (A.length+8) 0 1 0 0:: .ref (A.length+9) 0 1 0 0:: .map (A.length+7)::zj 29++p64 (dK N:Nat)::p64 (0:Nat)::zj 130)) 6 1 rfl (by simp only[PP,P1,P2,P14,P15,simprocAttr]) rfl) ?_
 refine yN (fun(x gr gf vm:Nat)=>x<=dK N) (fun x gr gf vm=>(.ptr (A.length+4) 0 0::zj 3++slW f o (iB a):: .ref (A.length+8) gr 1 0 x:: .ref (A.length+9) gf 1 0 (frN (dR N) a S x).length:: .map (A.length+7)::zj 29++p64 (dK N:Nat)::p64 (x:Nat)::zj 130))
  (fun x gr gf vm=>A++(gM A.length f1 o1 f2 o2 f3 o3 f o N q S rows fins++[.map vm (smE (kP kW S.length (frN (dR N) a S x))),.cells gr 0 ((lR (dR N) a S x).map p64),.cells gf 0 (csD false true (frN (dR N) a S x))])) (fun x gr gf vm=>dK N-x) 0 0 0 0 (by omega) (by simp only[frN,fE,List.drop_length,PW]) ?_ ?_
 ·simp only[gM,frN,fE,List.drop_length,lR,List.range_zero,kP,smE,List.append_assoc,PP,P1,P2,P14,P15,simprocAttr]
 intro x gr gf vm hx ih
 refine dL (by kernel_rfl) ?_
 have h64:=C.let64
 have hfl:=qS (dR N) a S x
 simp only[gM,PP,P1,P2,P14,P15,simprocAttr,aQ,aL,aP,aC,aR,bD,aK,aJ,aN,aT,aU,aV,aW,aS,bA,aE,aF,aA,aG,aY,aZ,aO,bE,a8,aX,aM,bB,aH,bC,aI,aB,aD,gk,gk0,sk,sk0,List.append_assoc]
 refine QIf.intro (fun d=>?_) (fun d=>?_)
 ·have hxl:x<dK N:=by omega
  have hw8:IntKind.u8.wrap (x:Int)=(x:Int):=by
   have:x<256:=by omega
   unfold IntKind.wrap;simp[IntKind.bits,IntKind.signed];omega
  have hwx:=dA (k:=x) (by show _<1000000000000;omega)
  have hwl:IntKind.i64.wrap ((S.length:Int)+(frN (dR N) a S x).length)=((S.length+(frN (dR N) a S x).length:Nat):Int):=by rw[wrap64]<;>omega
  have b1:(x+1)*8<=140737488355328:=by omega
  have b2:x+1<=9223372036854775807:=by omega
  have b3:x<=(lR (dR N) a S x).length:=by rw[iX];exact Nat.le_refl _
  have b4:((frN (dR N) a S x).length+1)*24<=140737488355328:=by omega
  have b5:(frN (dR N) a S x).length+1<=9223372036854775807:=by omega
  have hlk0:=tS S (dR N a x) 0
  have hlk1:=tS (frN (dR N) a S x) (dR N a x) S.length
  have hrow:=B7 (dR N) a S x
  simp only[gM,PP,P1,P2,P14,P15,simprocAttr,aQ,aL,aP,aC,aR,bD,aK,aJ,aN,aT,aU,aV,aW,aS,bA,aE,aF,aA,aG,aY,aZ,aO,bE,a8,aX,aM,bB,aH,bC,aI,aB,aD,gk,gk0,sk,sk0,List.append_assoc,d,hw8]
  refine Q6 T hc B hxl ?_
  simp only[gM,PP,P1,P2,P14,P15,simprocAttr,aQ,aL,aP,aC,aR,bD,aK,aJ,aN,aT,aU,aV,aW,aS,bA,aE,aF,aA,aG,aY,aZ,aO,bE,a8,aX,aM,bB,aH,bC,aI,aB,aD,gk,gk0,sk,sk0,List.append_assoc]
  refine LW T ?_
  simp only[gM,PP,P1,P2,P14,P15,simprocAttr,aQ,aL,aP,aC,aR,bD,aK,aJ,aN,aT,aU,aV,aW,aS,bA,aE,aF,aA,aG,aY,aZ,aO,bE,a8,aX,aM,bB,aH,bC,aI,aB,aD,gk,gk0,sk,sk0,List.append_assoc]
  by_cases m1:dR N a x∈S
  ·rw[if_pos m1]at hlk0
   obtain⟨v1,v2⟩:=NG m1
   rw[v2]at hrow
   simp only[gM,PP,P1,P2,P14,P15,simprocAttr,aQ,aL,aP,aC,aR,bD,aK,aJ,aN,aT,aU,aV,aW,aS,bA,aE,aF,aA,aG,aY,aZ,aO,bE,a8,aX,aM,bB,aH,bC,aI,aB,aD,gk,gk0,sk,sk0,List.append_assoc,hlk0,hwx,b1,b2,b3]
   have:=ih (x+1) (gr+1) gf vm (by omega) (by omega)
   rw[v1,hrow]at this
   refine dY this (by simp only[PW]) ?_
   simp only[gM,List.append_assoc,PP,P1,P2,P14,P15,simprocAttr]
   rw[dQ _ _ (by simp[iX])]
  ·rw[if_neg m1]at hlk0
   by_cases m2:dR N a x∈frN (dR N) a S x
   ·rw[if_pos m2]at hlk1
    obtain⟨v1,v2⟩:=NI m1 m2
    rw[v2]at hrow
    simp only[gM,PP,P1,P2,P14,P15,simprocAttr,aQ,aL,aP,aC,aR,bD,aK,aJ,aN,aT,aU,aV,aW,aS,bA,aE,aF,aA,aG,aY,aZ,aO,bE,a8,aX,aM,bB,aH,bC,aI,aB,aD,gk,gk0,sk,sk0,List.append_assoc,hlk0,hlk1,hwx,b1,b2,b3]
    have:=ih (x+1) (gr+1) gf vm (by omega) (by omega)
    rw[v1,hrow]at this
    refine dY this (by simp only[PW]) ?_
    simp only[gM,List.append_assoc,PP,P1,P2,P14,P15,simprocAttr]
    rw[dQ _ _ (by simp[iX])]
   ·rw[if_neg m2]at hlk1
    obtain⟨v1,v2⟩:=NH m1 m2
    rw[v2]at hrow
    have hput:=HK S.length m2
    simp only[gM,PP,P1,P2,P14,P15,simprocAttr,aQ,aL,aP,aC,aR,bD,aK,aJ,aN,aT,aU,aV,aW,aS,bA,aE,aF,aA,aG,aY,aZ,aO,bE,a8,aX,aM,bB,aH,bC,aI,aB,aD,gk,gk0,sk,sk0,List.append_assoc,hlk0,hlk1,hwx,hwl,hput,b1,b2,b3,b4,b5]
    have:=ih (x+1) (gr+1) (gf+1) (vm+1) (by omega) (by omega)
    rw[v1,hrow]at this
    have e1:(frN (dR N) a S x++[dR N a x]).length=(frN (dR N) a S x).length+1:=by simp
    rw[e1]at this
    refine dY this (by simp only[PW]) ?_
    simp only[gM,List.append_assoc,PP,P1,P2,P14,P15,simprocAttr]
    rw[dQ _ _ (by simp[iX])]
 obtain rfl:x=dK N:=by omega
 have hwl:IntKind.i64.wrap ((S.length:Int)+(frN (dR N) a S (dK N)).length)=((S.length+(frN (dR N) a S (dK N)).length:Nat):Int):=by rw[wrap64]<;>omega
 have hvl:(fE (dR N) a (dK N) S).length=S.length+(frN (dR N) a S (dK N)).length:=by rw[lV,List.length_append]
 simp only[gM,PP,P1,P2,P14,P15,simprocAttr,aQ,aL,aP,aC,aR,bD,aK,aJ,aN,aT,aU,aV,aW,aS,bA,aE,aF,aA,aG,aY,aZ,aO,bE,a8,aX,aM,bB,aH,bC,aI,aB,aD,gk,gk0,sk,sk0,List.append_assoc,d,hwl]
 refine QIf.intro (fun e=>?_) (fun e=>?_)
 ·simp only[PP,P1,P2,P14,P15,simprocAttr,e]
  refine Gh.step (GStep.dropM (b:=[.tuple [.bool false,p64 10]]) (N:=A++gM A.length f1 o1 f2 o2 f3 o3 f o N q S rows fins) (A.length+7) (by simp) (by simp) (by simp only[PW]) ?_ ?_ ?_) (Gh.same ⟨_,rfl,hk1 a ga (by omega)⟩)
  ·simp[cE,PV.under]
  ·exact(congrArg (fun M:Mem=>M.all (cL (A.length+7))) (nF (l:=[_,_,_]))).trans (pE hA ..)
  ·exact nF (l:=[_,_,_])
 have hvn:=RL (dR N) a hn (dK N)
 have hfd:(frN (dR N) a S (dK N)).Nodup:=by
  have:=nQ (δ:=dR N) (a:=a) (dK N) hn
  rw[lV,List.nodup_append]at this
  exact this.2.1
 have hcl:∀S:List (BitVec 64),(gZ S).length=S.length:=fun S=>by simp[gZ]
 simp only[PP,P1,P2,P14,P15,simprocAttr,gk,gk0,e]
 have hvis:=lV (dR N) a S (dK N)
 generalize hfr:frN (dR N) a S (dK N)=fr at*
 refine dB (b:=(.ptr (A.length+4) 0 0::zj 3++slW f o (iB a):: .ref (A.length+8) gr 1 0 (dK N)::zj 96++ .ref (A.length+9) gf 1 0 fr.length::p64 fr.length::p64 (0:Nat)::zj 64)) ?_ (by simp only[PW])
 refine eB (GStep.wkO (A.length+1) (cs2:=csD true false S) (by rw[gk];rfl) (fun w bcs h=>h.wkM (fun x=>PvWk.sl0 _ _ _ _ _)) rfl) ?_
 refine eB (GStep.wkO (A.length+2) (cs2:=clD true false S) (by rw[sk,gk];rfl) (fun w bcs h=>h.wkM (fun x=>PvWk.sl0 _ _ _ _ _)) rfl) ?_
 refine eB (GStep.wkO (A.length+5) (cs2:=rows.map (slI true false .i64)) (by rw[sk,sk,gk];rfl) (fun w bcs h=>h.wkM (fun x=>PvWk.sl0 _ _ _ _ _)) rfl) ?_
 refine aDG (fun(i qs vs ql vl qm qw:Nat)=>i<=fr.length) (fun i qs vs ql vl qm qw=>(.ptr (A.length+4) 0 0::zj 3++slW f o (iB a):: .ref (A.length+8) gr 1 0 (dK N)::zj 96++ .ref (A.length+9) gf 1 0 fr.length::p64 fr.length::p64 (i:Nat)::zj 64))
  (fun i qs vs ql vl qm qw=>A++[.gone,.cells qs vs (csD true false S++csD false true (fr.take i)),.cells ql vl (clD true false S++clD false true (fr.take i)),.map qm (smE (kP kW 0 (S++fr.take i))),.cells 0 qw [p64 N.vs,p64 N.n,slI f1 o1 .i64 N.st,slI f2 o2 .i64 N.fi,slE f3 o3 N.es,.ref (A.length+1) qs 1 0 (S.length+i),.ref (A.length+2) ql 1 0 (S.length+i),.map (A.length+3),.ref (A.length+5) (q 6) 1 0 rows.length,.ref (A.length+6) (q 8) 1 0 fins.length],.cells (q 6) (q 7) (rows.map (slI true false .i64)),.cells (q 8) (q 9) (fins.map PV.bool),.map vm (smE (kP kW S.length fr)),.cells gr 0 ((lR (dR N) a S (dK N)).map p64),.cells gf 0 (csD false true fr)]) (fun i qs vs ql vl qm qw=>fr.length-i) 0 (q 0) (q 1) (q 2) (q 3) (q 4) (q 5) (by omega) (by simp only[PW]) ?_ ?_
 ·have e0:clD false true []=[]:=rfl
  simp only[sk,List.take_zero,List.map_nil,e0,List.append_nil,Nat.add_zero,PP,P1,P2,P14,P15,simprocAttr]
 intro i qs vs ql vl qm qw hi ih
 refine dL (by kernel_rfl) ?_
 simp only[PP,P1,P2,P14,P15,simprocAttr,aQ,aL,aP,aC,aR,bD,aK,aJ,aN,aT,aU,aV,aW,aS,bA,aE,aF,aA,aG,aY,aZ,aO,bE,a8,aX,aM,bB,aH,bC,aI,aB,aD,gk,gk0,sk,sk0]
 refine QIf.intro (fun c2=>?_) (fun c2=>?_)
 ·have hil:i<fr.length:=by omega
  obtain⟨t,gt⟩:=dN hil
  have i0:(0:Int)<=i:=by omega
  have hwi:=dA (k:=i) (by show _<1000000000000;omega)
  have htk:fr.take (i+1)=fr.take i++[t]:=eK gt
  have hnm:t∉S++fr.take i:=by
   rw[List.mem_append]
   rintro(h | h)
   ·exact hvn t (List.mem_of_getElem? gt) h
   ·have h2:=hfd
    rw[<-List.take_append_drop i fr,List.nodup_append]at h2
    refine h2.2.2 t h t ?_ rfl
    exact List.mem_of_getElem? (i:=0) (by rw[List.getElem?_drop];exact gt)
  have hput:=HK 0 hnm
  have hlk:=tS (S++fr.take i) t 0
  rw[if_neg hnm]at hlk
  have hln:(S++fr.take i).length=S.length+i:=by rw[List.length_append,List.length_take,Nat.min_eq_left (by omega)]
  rw[hln,Nat.zero_add,List.append_assoc,<-htk]at hput
  have hti:(fr.take i).length=i:=by rw[List.length_take,Nat.min_eq_left (by omega)]
  have hn14:(A.length+1==A.length+4)=false:=by simp
  have hn24:(A.length+2==A.length+4)=false:=by simp
  have hl2:(S.length+i+1)*24<=140737488355328:=by omega
  have hl3:S.length+i<=9223372036854775806:=by omega
  have hcs:(csD true false S++csD false true (fr.take i)).length=S.length+i:=by simp;omega
  have hcl':(clD true false S++clD false true (fr.take i)).length=S.length+i:=by simp[gZ];omega
  simp only[PP,P1,P2,P14,P15,simprocAttr,aQ,aL,aP,aC,aR,bD,aK,aJ,aN,aT,aU,aV,aW,aS,bA,aE,aF,aA,aG,aY,aZ,aO,bE,a8,aX,aM,bB,aH,bC,aI,aB,aD,gk,gk0,sk,sk0,c2,i0,gt]
  refine LW T ?_
  have hl0:S.length+i<=S.length+i:=Nat.le_refl _
  simp only[PP,P1,P2,P14,P15,simprocAttr,aQ,aL,aP,aC,aR,bD,aK,aJ,aN,aT,aU,aV,aW,aS,bA,aE,aF,aA,aG,aY,aZ,aO,bE,a8,aX,aM,bB,aH,bC,aI,aB,aD,gk,gk0,sk,sk0,hlk,hput,hti,hl0,hl2,hl3,hn14]
  refine OQ T ?_
  simp only[PP,P1,P2,P14,P15,simprocAttr,aQ,aL,aP,aC,aR,bD,aK,aJ,aN,aT,aU,aV,aW,aS,bA,aE,aF,aA,aG,aY,aZ,aO,bE,a8,aX,aM,bB,aH,bC,aI,aB,aD,gk,gk0,sk,sk0,hcl,hti,hl0,hl2,hl3,hn14,hn24,hwi]
  have:=ih (i+1) (qs+1) 0 (ql+1) 0 (qm+1) (qw+1+1) (by omega) (by omega)
  refine dY this (by simp only[PW]) ?_
  have e5:csD false true (fr.take (i+1))=csD false true (fr.take i)++[slW false true (iB t)]:=by rw[htk];simp
  have e6:clD false true (fr.take (i+1))=clD false true (fr.take i)++[slI false true .i64 (EL (oP t))]:=by rw[htk];simp only[clD,gZ,List.map_append,List.map_cons,List.map_nil]
  rw[dQ _ _ hcs.symm,dQ _ _ hcl'.symm,e5,e6]
  simp only[List.append_assoc,Nat.add_assoc,List.length_map,slW,slI]
 obtain rfl:i=fr.length:=by omega
 rw[List.take_length]
 simp only[PP,P1,P2,P14,P15,simprocAttr,aQ,aL,aP,aC,aR,bD,aK,aJ,aN,aT,aU,aV,aW,aS,bA,aE,aF,aA,aG,aY,aZ,aO,bE,a8,aX,aM,bB,aH,bC,aI,aB,aD,gk,gk0,sk,sk0,c2]
 refine OQ T ?_
 have n1:(rows.length+1)*24<=140737488355328:=by omega
 have n2:rows.length<=9223372036854775806:=by omega
 have n3:fins.length+1<=140737488355328:=by omega
 have n4:fins.length<=9223372036854775806:=by omega
 have n5:rows.length+1<=9223372036854775807:=by omega
 have n6:fins.length+1<=9223372036854775807:=by omega
 simp only[PP,P1,P2,P14,P15,simprocAttr,aQ,aL,aP,aC,aR,bD,aK,aJ,aN,aT,aU,aV,aW,aS,bA,aE,aF,aA,aG,aY,aZ,aO,bE,a8,aX,aM,bB,aH,bC,aI,aB,aD,gk,gk0,sk,sk0,List.append_assoc,n1,n2,n5,n3,n4,n6]
 refine aAG T (v:=1) (f:=false) (o:=true) (l:=EL (oP a)) (b:=E0 N a) (by rw[gk];simp only[slI,List.length_map,List.getElem?_cons_succ,List.getElem?_cons_zero]) (by have:=zS a;simp;show _<1000000000000;omega) B.f ?_ ?_
 ·unfold E0
  rw[List.any_eq_true]
  constructor
  ·rintro⟨x,h1,h2⟩
   have:=lS C.fi x h1
   exact⟨x,h1,List.mem_map.2 ⟨x.toNat,mem_bitsW.2 h2,by omega⟩⟩
  ·rintro⟨x,h1,h2⟩
   obtain⟨k,h3,rfl⟩:=List.mem_map.1 h2
   exact⟨_,h1,by rw[Int.toNat_natCast];exact mem_bitsW.1 h3⟩
 simp only[PP,P1,P2,P14,P15,simprocAttr,aQ,aL,aP,aC,aR,bD,aK,aJ,aN,aT,aU,aV,aW,aS,bA,aE,aF,aA,aG,aY,aZ,aO,bE,a8,aX,aM,bB,aH,bC,aI,aB,aD,gk,gk0,sk,sk0,List.append_assoc,n1,n2,n5,n3,n4,n6]
 have hrow:lR (dR N) a S (dK N)=AZ (dR N) (dK N) (fE (dR N) a (dK N) S) a:=rfl
 have hrl:=iX (dR N) a S (dK N)
 have key:=hk2 a ga (by omega) (qD qs vs ql vl qm (qw+1+1) (q 6+1) 0 (q 8+1) 0)
 rw[<-hrow,hvis]at key
 refine Gh.step (GStep.freezeIn (b:=[.tuple [.bool true,.int .i64 0]]) (cj2:=rows.map (slI true false .i64)++[slI false true .i64 (lR (dR N) a S (dK N))]) (A.length+8) (A.length+5) (by omega) (by rw[gk];rfl) (by rw[gk];rfl) (by omega) ?_ ?_ rfl) ?_
 ·simp only[kJ,kK,List.cons_append,List.nil_append,eM,fX]
 ·rw[JP,l5 (by simp[hrl]) (by rw[dQ _ _ (by simp[hrl])];simp only[slI,hrl]),fX];trivial
 simp only[gk,sk,List.set_cons_succ,List.set_cons_zero]
 refine Gh.step (GStep.wkO (A.length+1) (cs2:=csD true false (S++fr)) (by rw[gk];rfl) (fun w bcs h=>h.wkA (fun x=>PvWk.refl _) (fun x=>PvWk.sl0 _ _ _ _ _)) rfl) ?_
 simp only[gk,sk,List.set_cons_succ,List.set_cons_zero]
 refine Gh.step (GStep.wkO (A.length+2) (cs2:=clD true false (S++fr)) (by rw[gk];rfl) (fun w bcs h=>by
  have e:clD true false (S++fr)=(gZ S++gZ fr).map (slI true false .i64):=by simp only[clD,gZ,List.map_append]
  rw[e]
  exact h.wkA (fun x=>PvWk.refl _) (fun x=>PvWk.sl0 _ _ _ _ _)) rfl) ?_
 simp only[gk,sk,List.set_cons_succ,List.set_cons_zero]
 refine Gh.step (GStep.wkO (A.length+5) (cs2:=(rows++[lR (dR N) a S (dK N)]).map (slI true false .i64)) (by rw[gk];rfl) (fun w bcs h=>RepL.wkA (ys:=[lR (dR N) a S (dK N)]) (f2:=slI false true .i64) (fun x=>PvWk.refl _) (fun x=>PvWk.sl0 _ _ _ _ _) h) rfl) ?_
 simp only[gk,sk,List.set_cons_succ,List.set_cons_zero]
 have hsl:S.length+fr.length=(S++fr).length:=by simp
 have hrl2:rows.length+1=(rows++[lR (dR N) a S (dK N)]).length:=by simp
 have hfl2:fins.length+1=(fins++[E0 N a]).length:=by simp
 rw[hsl,hrl2,hfl2]
 have ef:fins.map PV.bool++[.bool (E0 N a)]=(fins++[E0 N a]).map PV.bool:=by simp
 rw[ef]
 refine Gh.step (GStep.dropM (b:=[.tuple [.bool true,p64 0]]) (N:=A++gM A.length f1 o1 f2 o2 f3 o3 true false N (qD qs vs ql vl qm (qw+1+1) (q 6+1) 0 (q 8+1) 0) (S++fr) (rows++[lR (dR N) a S (dK N)]) (fins++[E0 N a])) (A.length+7) (Nat.le_refl _) (by simp) (by simp only[PW]) (by simp[cE,PV.under]) ?_ ?_) (Gh.same ⟨_,rfl,key⟩)
 ·exact(congrArg (fun M:Mem=>M.all (cL (A.length+7))) (nF (q:=qD qs vs ql vl qm (qw+1+1) (q 6+1) 0 (q 8+1) 0) (l:=[_,_,_,_]))).trans (pE hA ..)
 ·exact nF (q:=qD qs vs ql vl qm (qw+1+1) (q 6+1) 0 (q 8+1) 0) (l:=[_,_,_,_])
end
section
variable {tab:FuncId->Option AF} (T:HasA tab)
include T
end
section
variable {tab:FuncId->Option AF} (T:HasA tab)
include T
end
theorem wrap_u64 {k:Nat} (h:k<4000000000000):IntKind.u64.wrap (k:Int)=(k:Int):=by
 simp only[IntKind.wrap,IntKind.signed,IntKind.bits]
 simp
 omega
theorem zF:∀{l m:List Int},l.Pairwise (· < ·)->m.Pairwise (· < ·)->(∀x,x∈l↔x∈m)->l=m
 | [],[],_,_,_=>rfl
 | [],y::m,_,_,h=>by have:=(h y).2 (by simp);simp at this
 | x::l,[],_,_,h=>by have:=(h x).1 (by simp);simp at this
 | x::l,y::m,hl,hm,h=>by
  rw[List.pairwise_cons]at hl hm
  have e:x=y:=by
   have h1:=(h x).1 (by simp)
   have h2:=(h y).2 (by simp)
   rcases List.mem_cons.1 h1 with h1 | h1
   ·exact h1
   ·rcases List.mem_cons.1 h2 with h2 | h2
    ·exact h2.symm
    ·have:=hl.1 y h2
     have:=hm.1 x h1
     omega
  subst e
  congr 1
  refine zF hl.2 hm.2 fun z=>?_
  constructor
  ·intro hz
   rcases List.mem_cons.1 ((h z).1 (by simp[hz])) with e | e
   ·have:=hl.1 z hz;omega
   ·exact e
  ·intro hz
   rcases List.mem_cons.1 ((h z).2 (by simp[hz])) with e | e
   ·have:=hm.1 z hz;omega
   ·exact e
section
variable {α:Type} [DecidableEq α]
end
theorem J6 {N:NF} (C:NOk N):EL (oP (fA N))=N.st:=by
 refine zF ?_ (lJ C.st).1 fun x=>?_
 ·rw[List.pairwise_map]
  exact((List.pairwise_lt_range (n:=64)).filter _).imp fun h=>by omega
 ·constructor
  ·intro h
   obtain⟨k,h1,rfl⟩:=List.mem_map.1 h
   exact(nW C k).1 (mem_bitsW.1 h1)
  ·intro h
   have:=lS C.st x h
   have e:x=((x.toNat:Nat):Int):=by omega
   rw[e]at h ⊢
   exact List.mem_map.2 ⟨_,mem_bitsW.2 ((nW C _).2 h),rfl⟩
theorem GS {α:Type} [DecidableEq α] (δ:α->Nat->α) (n:Nat) (o:List α) (a:α):(AZ δ n o a).length=n:=by simp[AZ]
section
variable {tab:FuncId->Option AF} (T:HasA tab)
include T
end
def j9 (A:Mem) (f1 o1 f2 o2 f3 o3 f o:Bool) (N:NF) (q:Nat->Nat) (S:List (BitVec 64)) (rows:List (List Int)) (fins:List Bool) (v:Nat) (u:Int):Mem:=
 A++(gM A.length f1 o1 f2 o2 f3 o3 f o N q S rows fins++[.cells 0 v [.iface 116 (.ptr (A.length+4) 0 0),p64 u]])
section
variable {tab:FuncId->Option AF} (T:HasA tab)
include T
set_option maxHeartbeats 2000000 in
theorem aCj {A:Mem} {K:PV->Mem->Prop} {f1 o1 f2 o2 f3 o3:Bool} {N:NF} (hc:fZ N=0) (B:BnN N) (hA:A.all (cL A.length)=true)
  (hk:∀q,K (.ptr (A.length+4) 0 0) (A++gM A.length false true false true false true true false N q [fA N] [] [])):SemC tab 91 [.agg (nfC f1 o1 f2 o2 f3 o3 N)] A K:=by
 have C:=lU hc
 refine eZ (fJ T.h91 ?_)
 simp only[af91]
 refine bS (bR ?_)
 simp only[PP,P1,P2,P14,P15,simprocAttr]
 refine bS (bR ?_)
 simp only[PP,P1,P2,P14,P15,simprocAttr,gk,gk0,sk,sk0,eC]
 refine nK T B.s ?_
 simp only[PP,P1,P2,P14,P15,simprocAttr,gk,gk0,sk,sk0]
 refine nK T B.f ?_
 simp only[PP,P1,P2,P14,P15,simprocAttr,gk,gk0,sk,sk0]
 refine R0 T B.e ?_
 simp only[PP,P1,P2,P14,P15,simprocAttr,gk,gk0,sk,sk0]
 refine bS (bR ?_)
 simp only[PP,P1,P2,P14,P15,simprocAttr,gk,gk0,sk,sk0]
 refine aCP T C B ?_
 simp only[PP,P1,P2,P14,P15,simprocAttr,gk,gk0,sk,sk0]
 refine bS (MJ [2,6] ?_)
 simp only[PP,P1,P2,P14,P15,simprocAttr,ML,FD,wW,M6,Option.some.injEq,exists_eq_left',gk,gk0,sk,sk0,List.append_assoc]
 refine nK T B.s ?_
 simp only[PP,P1,P2,P14,P15,simprocAttr,ML,FD,wW,M6,Option.some.injEq,exists_eq_left',gk,gk0,sk,sk0,List.append_assoc,aQ,aL,aP,aC,aR,bD,aK,aJ,aN,aT,aU,aV,aW,aS,bA,aE,aF,aA,aG,aY,aZ,aO,bE,a8,aX,aM,bB,aH,bC,aI,aB,aD]
 refine LW T ?_
 have hp:fG 2 (.str (kW (fA N))) []=some none:=rfl
 have hput:iN 2 (.str (kW (fA N))) (.str (kW (fA N))) (.int .i64 0) []=smE (kP kW 0 [fA N]):=rfl
 simp only[PP,P1,P2,P14,P15,simprocAttr,ML,FD,wW,M6,Option.some.injEq,exists_eq_left',gk,gk0,sk,sk0,List.append_assoc,aQ,aL,aP,aC,aR,bD,aK,aJ,aN,aT,aU,aV,aW,aS,bA,aE,aF,aA,aG,aY,aZ,aO,bE,a8,aX,aM,bB,aH,bC,aI,aB,aD,hp,hput]
 refine⟨by simp,bR ?_⟩
 simp only[PP,P1,P2,P14,P15,simprocAttr]
 refine Gh.step (GStep.nilbox (A.length+4) 8 1 (by rw[gk];rfl) rfl rfl) ?_
 simp only[gk,sk,List.set_cons_succ,List.set_cons_zero,List.append_assoc,List.length_append,List.length_cons,List.length_nil,List.cons_append,List.nil_append,Nat.reduceAdd]
 refine Gh.step (GStep.nilbox (A.length+4) 9 1 (by rw[gk];rfl) rfl rfl) ?_
 simp only[gk,sk,List.set_cons_succ,List.set_cons_zero,List.append_assoc,List.length_append,List.length_cons,List.length_nil,List.cons_append,List.nil_append,Nat.reduceAdd]
 refine Gh.step (GStep.wkO (A.length+1) (cs2:=csD true false [fA N]) (by rw[gk];rfl) (fun w bcs h=>RepL.wkM (xs:=[fA N]) (f:=fun a=>slW false true (iB a)) (fun x=>PvWk.sl0 _ _ _ _ _) h) rfl) ?_
 simp only[gk,sk,List.set_cons_succ,List.set_cons_zero]
 refine Gh.step (GStep.wkO (A.length+2) (cs2:=clD true false [fA N]) (by rw[gk];rfl) (fun w bcs h=>RepL.wkM (xs:=gZ [fA N]) (f:=slI false true .i64) (fun x=>PvWk.sl0 _ _ _ _ _) (by
  have e:gZ [fA N]=[N.st]:=by rw[<-J6 C];rfl
  rw[e];exact h)) rfl) ?_
 simp only[gk,sk,List.set_cons_succ,List.set_cons_zero]
 refine Gh.step (GStep.freeze (b:=[.ptr (A.length+4) 0 0]) A.length (Nat.le_refl _) (by rw[gk0];rfl) (by simp only[kJ,kK,List.cons_append,List.nil_append,eM,fX]) rfl) (Gh.same ⟨_,rfl,?_⟩)
 simp only[sk0,List.set_cons_zero]
 exact hk (qD 0 0 0 0 1 0 0 0 0 0)
set_option maxHeartbeats 2000000 in
theorem F7 {A:Mem} {K:PV->Mem->Prop} {f1 o1 f2 o2 f3 o3:Bool} {N:NF} (B:BnN N) (hA:A.all (cL A.length)=true)
  (hk1:fZ N≠0->K (.tuple [.nilptr,p64 (fZ N)]) A)
  (hk2:fZ N=0->∀X q v,cL (A.length+1) X=true->K (.tuple [.ptr (A.length+8) 0 0,p64 0]) (j9 (A++[X]) false true false true false true true false N q [fA N] [] [] v 0)):
  SemC tab 40 [.agg (nfC f1 o1 f2 o2 f3 o3 N)] A K:=by
 have hA1:(A++[PObj.cells 0 0 (nfC f1 o1 f2 o2 f3 o3 N)]).all (cL (A++[PObj.cells 0 0 (nfC f1 o1 f2 o2 f3 o3 N)]).length)=true:=by
  rw[List.all_append,dV (by simp) hA]
  simp[cL,cE,PV.under,fV,dI]
 refine eZ (dH T.h40 ?_)
 simp only[af40,PP,P1,P2,P14,P15,simprocAttr,eC,gk0,sk0]
 refine B4 T B ?_
 by_cases hc:fZ N=0
 rotate_left
 ·simp only[PP,P1,P2,P14,P15,simprocAttr,hc]
  refine Gh.step (GStep.dropM (b:=[.tuple [.nilptr,p64 (fZ N)]]) (N:=A) A.length (Nat.le_refl _) (by simp) (by simp only[PW]) (by simp[cE,PV.under]) ?_ (List.take_left' rfl)) (Gh.same ⟨_,rfl,hk1 hc⟩)
  exact(congrArg (fun M:Mem=>M.all (cL A.length)) (List.take_left' rfl)).trans hA
 simp only[PP,P1,P2,P14,P15,simprocAttr,hc,gk0,sk0]
 refine aCj T hc B hA1 fun q=>?_
 have h:=hk2 hc (.cells 0 0 (nfC f1 o1 f2 o2 f3 o3 N)) q 0 (by simp[cL,cE,PV.under,fV,dI])
 have hl:A.length+8=(A++[PObj.cells 0 0 (nfC f1 o1 f2 o2 f3 o3 N)]).length+7:=by simp
 rw[hl]at h
 generalize A++[PObj.cells 0 0 (nfC f1 o1 f2 o2 f3 o3 N)]=A1 at*
 simp only[PP,P1,P2,P14,P15,simprocAttr,gM,gk,gk0,sk,sk0,cF,cN,bT,List.append_assoc]
 exact Gh.same ⟨_,rfl,h⟩
end
structure JobK (tab:FuncId->Option AF) (jid wid:Nat) (ty:TypeId) (fu fl:FuncId) (e:Int) (D F:Nat->Prop) (lft:Nat->Bool) (St:Nat->Mem->Prop):Prop where
 job:∀m M,St m M->∃v,M[jid]? =some (.cells 0 v [.iface ty (.ptr wid 0 0),p64 (m:Int)])
 sm:∀m M,St m M->m<4000000000000000000
 unit:∀m M,St m M->∀K:PV->Mem->Prop,(D m->∀M2,St m M2->K (.tuple [.bool false,p64 0]) M2)->(F m->∀M2,St m M2->K (.tuple [.bool false,p64 e]) M2)->
  (¬D m->¬F m->∀M2 v,M2[jid]? =some (.cells 0 v [.iface ty (.ptr wid 0 0),p64 (m:Int)])->St (m+1) (M2.set jid (.cells 0 (v+1) [.iface ty (.ptr wid 0 0),p64 ((m+1:Nat):Int)]))->K (.tuple [.bool true,p64 0]) M2)->SemC tab fu [.ptr wid 0 0] M K
 left:∀m M,St m M->∀K:PV->Mem->Prop,(∀M2,St m M2->K (.bool (lft m)) M2)->SemC tab fl [.ptr wid 0 0] M K
 meth:(ty=116/\fu=253/\fl=252)\/(ty=122/\fu=261/\fl=260)\/(ty=125/\fu=265/\fl=264)
section
variable {tab:FuncId->Option AF} (T:HasA tab)
include T
theorem PU {M:Mem} {K:PV->Mem->Prop} {jid v:Nat} {ty:TypeId} {w:PV} {u k:Int} (hM:M[jid]? =some (.cells 0 v [.iface ty w,p64 u])) (hk0:k<0) (hk:K (.tuple [.bool false,p64 1]) M):SemC tab 18 [.ptr jid 0 0,p64 k] M K:=by
 refine dH T.h18 ?_
 simp only[af18,PP,P1,P2,P14,P15,simprocAttr,dE,cF,bQ,cZ,cO,cY,cW,dC,dD,cK,bJ,cN,bU,bT,bF,cB,bI,hM,hk0]
 exact hk
set_option maxHeartbeats 1000000 in
theorem aAl {jid wid:Nat} {ty:TypeId} {fu fl:FuncId} {e:Int} {D F:Nat->Prop} {lft:Nat->Bool} {St:Nat->Mem->Prop} (J:JobK tab jid wid ty fu fl e D F lft St) (he:e≠0) {M:Mem} {K:PV->Mem->Prop} {n:Nat} {k:Int} (hS:St n M) (hk0:0<=k) (hk1:k<=9223372036854775807)
  (hA:∀m M',n<=m->(m:Int)=n+k->(∀j,n<=j->j<m->¬D j/\¬F j)->St m M'->K (.tuple [.bool (!lft m),p64 0]) M')
  (hB:∀m M',n<=m->(m:Int)<n+k->(∀j,n<=j->j<m->¬D j/\¬F j)->D m->St m M'->K (.tuple [.bool true,p64 0]) M')
  (hC:∀m M',n<=m->(m:Int)<n+k->(∀j,n<=j->j<m->¬D j/\¬F j)->F m->St m M'->K (.tuple [.bool false,p64 e]) M'):
  SemC tab 18 [.ptr jid 0 0,p64 k] M K:=by
 refine dH T.h18 ?_
 obtain⟨v0,hM⟩:=J.job n M hS
 have hk2:¬k<0:=by omega
 simp only[af18,PP,P1,P2,P14,P15,simprocAttr,dE,cF,bQ,cZ,cO,cY,cW,dC,dD,cK,bJ,cN,bU,bT,bF,cB,bI,hM,hk2]
 have hu:(if(116:Int)=(ty:Int) then some 253 else if(122:Int)=(ty:Int) then some 261 else if(125:Int)=(ty:Int) then some 265 else f7 [] ty)=some fu:=by
  rcases J.meth with⟨rfl,rfl,rfl⟩ | ⟨rfl,rfl,rfl⟩ | ⟨rfl,rfl,rfl⟩<;>rfl
 have hlf:(if(116:Int)=(ty:Int) then some 252 else if(122:Int)=(ty:Int) then some 260 else if(125:Int)=(ty:Int) then some 264 else f7 [] ty)=some fl:=by
  rcases J.meth with⟨rfl,rfl,rfl⟩ | ⟨rfl,rfl,rfl⟩ | ⟨rfl,rfl,rfl⟩<;>rfl
 refine jY (fun(i:Nat) (N:Mem)=>(i:Int)<=k/\St (n+i) N/\∀j,n<=j->j<n+i->¬D j/\¬F j) (fun i N=>(.ptr jid 0 0::zj 20++p64 k::p64 i::zj 28)) (fun i N=>N) (fun i _=>k.toNat-i) 0 M ⟨hk0,hS,fun j h1 h2=>by omega⟩ (by simp only[PW]) rfl ?_
 intro i N ⟨hi,hSi,hj⟩ ih
 obtain⟨v,hN⟩:=J.job _ N hSi
 refine dL (by kernel_rfl) ?_
 simp only[PP,P1,P2,P14,P15,simprocAttr]
 refine QIf.intro (fun c=>?_) (fun c=>?_)
 ·have hsm:=J.sm _ N hSi
  have hwi:IntKind.i64.wrap ((i:Int)+1)=((i+1:Nat):Int):=by rw[wrap64]<;>omega
  have hwu:IntKind.i64.wrap (((n+i:Nat):Int)+1)=((n+i+1:Nat):Int):=by rw[wrap64]<;>omega
  simp only[PP,P1,P2,P14,P15,simprocAttr,dE,cF,bQ,cZ,cO,cY,cW,dC,dD,cK,bJ,cN,bU,bT,bF,cB,bI,hN,c,hu]
  refine J.unit _ N hSi _ (fun d M2 s2=>?_) (fun d M2 s2=>?_) (fun d1 d2 M2 v2 h2 s2=>?_)
  ·simp only[PP,P1,P2,P14,P15,simprocAttr]
   exact hB (n+i) M2 (by omega) (by omega) hj d s2
  ·simp only[PP,P1,P2,P14,P15,simprocAttr,he]
   exact hC (n+i) M2 (by omega) (by omega) hj d s2
  ·simp only[PP,P1,P2,P14,P15,simprocAttr,h2,hwu,hwi]
   refine dB (ih (i+1) _ ⟨by omega,s2,fun j h3 h4=>?_⟩ (by omega)) (by simp only[PW])
   by_cases q:j=n+i
   ·subst q;exact⟨d1,d2⟩
   ·exact hj j h3 (by omega)
 ·simp only[PP,P1,P2,P14,P15,simprocAttr,dE,cF,bQ,cZ,cO,cY,cW,dC,dD,cK,bJ,cN,bU,bT,bF,cB,bI,hN,c,hlf]
  refine J.left _ N hSi _ fun M2 s2=>?_
  simp only[PP,P1,P2,P14,P15,simprocAttr]
  exact hA (n+i) M2 (by omega) (by omega) hj s2
end
abbrev stK (N:NF) (m:Nat):List (BitVec 64):=f0 (dR N) (dK N) (fA N) m
abbrev rwK (N:NF) (m:Nat):List (List Int):=uU (dR N) (dK N) (fA N) m
def fnK (N:NF) (m:Nat):List Bool:=((stK N m).take m).map (E0 N)
theorem WN {N:NF} {m:Nat} {a:BitVec 64} (h:(stK N m)[m]? =some a):fnK N (m+1)=fnK N m++[E0 N a]:=by
 have hk:=cQ h
 obtain⟨r,e2⟩:=lO (dR N) a (dK N) (stK N m)
 unfold fnK
 rw[show stK N (m+1)=fE (dR N) a (dK N) (stK N m) from jM h]
 have e3:(fE (dR N) a (dK N) (stK N m)).take (m+1)=(stK N m).take m++[a]:=by
  rw[e2,List.take_append_of_le_length (by omega),List.take_add_one,h];rfl
 rw[e3,List.map_append];rfl
def StD (A:Mem) (N:NF) (m:Nat) (M:Mem):Prop:=
 (m<=(stK N m).length/\(stK N m).length<=4096)/\∃(f1 o1 f2 o2 f3 o3 f o:Bool) (q:Nat->Nat) (v:Nat),M=j9 A f1 o1 f2 o2 f3 o3 f o N q (stK N m) (rwK N m) (fnK N m) v m
theorem CR {A:Mem} {f1 o1 f2 o2 f3 o3 f o:Bool} {N:NF} {q:Nat->Nat} {S:List (BitVec 64)} {rows:List (List Int)} {fins:List Bool} {v:Nat} {u:Int} :
  (j9 A f1 o1 f2 o2 f3 o3 f o N q S rows fins v u).take (A.length+7)=A++gM A.length f1 o1 f2 o2 f3 o3 f o N q S rows fins:=nF
theorem RG {A:Mem} {f1 o1 f2 o2 f3 o3 f o:Bool} {N:NF} {q:Nat->Nat} {S:List (BitVec 64)} {rows:List (List Int)} {fins:List Bool} {v:Nat} {u:Int} :
  (j9 A f1 o1 f2 o2 f3 o3 f o N q S rows fins v u).drop (A.length+7)=[.cells 0 v [.iface 116 (.ptr (A.length+4) 0 0),p64 u]]:=by
 unfold j9
 rw[<-List.append_assoc]
 exact List.drop_left' (by simp[gM])
theorem wO {A:Mem} {f1 o1 f2 o2 f3 o3 f o:Bool} {N:NF} {q:Nat->Nat} {S:List (BitVec 64)} {rows:List (List Int)} {fins:List Bool} {v:Nat} {u:Int} :
  (j9 A f1 o1 f2 o2 f3 o3 f o N q S rows fins v u)[A.length+7]? =some (.cells 0 v [.iface 116 (.ptr (A.length+4) 0 0),p64 u]):=by
 unfold j9;rw[gk];rfl
theorem V8 {A:Mem} {f1 o1 f2 o2 f3 o3 f o:Bool} {N:NF} {q:Nat->Nat} {S:List (BitVec 64)} {rows:List (List Int)} {fins:List Bool} {v v':Nat} {u u':Int} :
  (j9 A f1 o1 f2 o2 f3 o3 f o N q S rows fins v u).set (A.length+7) (.cells 0 v' [.iface 116 (.ptr (A.length+4) 0 0),p64 u'])=j9 A f1 o1 f2 o2 f3 o3 f o N q S rows fins v' u':=by
 unfold j9;rw[sk];rfl
theorem IC {A:Mem} {f1 o1 f2 o2 f3 o3 f o:Bool} {N:NF} {q:Nat->Nat} {S:List (BitVec 64)} {rows:List (List Int)} {fins:List Bool} {v:Nat} {u:Int} :
  (A++gM A.length f1 o1 f2 o2 f3 o3 f o N q S rows fins)++[.cells 0 v [.iface 116 (.ptr (A.length+4) 0 0),p64 u]]=j9 A f1 o1 f2 o2 f3 o3 f o N q S rows fins v u:=by
 unfold j9;rw[List.append_assoc]
theorem EY {N:NF} {m:Nat} (h:m<=(stK N m).length):(fnK N m).length=m:=by unfold fnK;rw[List.length_map,List.length_take];omega
section
variable {tab:FuncId->Option AF} (T:HasA tab)
include T
theorem V5 {A:Mem} {N:NF} (hc:fZ N=0) (B:BnN N) (hA:A.all (cL A.length)=true):
  JobK tab (A.length+7) (A.length+4) 116 253 252 10 (fun m=>(stK N m).length<=m) (fun m=>m<(stK N m).length/\4096<(stK N (m+1)).length) (fun m=>decide (m<(stK N m).length)) (StD A N) where
 job:=by
  rintro m M ⟨_,f1,o1,f2,o2,f3,o3,f,o,q,v,rfl⟩
  exact⟨v,wO⟩
 sm:=by
  rintro m M ⟨⟨h1,h2⟩,_⟩
  omega
 unit:=by
  rintro m M ⟨⟨h1,h2⟩,f1,o1,f2,o2,f3,o3,f,o,q,v,rfl⟩ K k1 k2 k3
  have hrl:(rwK N m).length=m:=pM h1
  have hfl:=EY h1
  have fin:∀(r:PV) (f1 o1 f2 o2 f3 o3 f o:Bool) (q:Nat->Nat) (S:List (BitVec 64)) (rows:List (List Int)) (fins:List Bool),r.under (A.length+7)=true->K r (j9 A f1 o1 f2 o2 f3 o3 f o N q S rows fins v m)->
    r.under (A.length+7)=true/\(A++gM A.length f1 o1 f2 o2 f3 o3 f o N q S rows fins).length=A.length+7/\(A++gM A.length f1 o1 f2 o2 f3 o3 f o N q S rows fins).all (cL (A.length+7))=true/\K r ((A++gM A.length f1 o1 f2 o2 f3 o3 f o N q S rows fins)++[.cells 0 v [.iface 116 (.ptr (A.length+4) 0 0),p64 m]]):=
   fun r f1 o1 f2 o2 f3 o3 f o q S rows fins hr hK=>⟨hr,by simp[gM],pE hA ..,by rw[IC];exact hK⟩
  refine mJ (m:=A.length+7) (by simp[j9,gM]) (by simp[cE,PV.under]) (by rw[CR];exact pE hA ..) ?_
  rw[CR,RG]
  refine aAu T hc B hA (lW _ _ _ m) h2 (by rw[hrl,hfl]) (fun h=>?_) (fun a ga h=>?_) (fun a ga h q'=>?_)
  ·rw[hrl]at h
   exact fin _ _ _ _ _ _ _ _ _ _ _ _ _ (by simp[PV.under,cE]) (k1 h _ ⟨⟨h1,h2⟩,_,_,_,_,_,_,_,_,_,_,rfl⟩)
  ·rw[hrl]at ga
   have hs:stK N (m+1)=fE (dR N) a (dK N) (stK N m):=jM ga
   rw[<-hs]at h
   exact fin _ _ _ _ _ _ _ _ _ _ _ _ _ (by simp[PV.under,cE]) (k2 ⟨cQ ga,h⟩ _ ⟨⟨h1,h2⟩,_,_,_,_,_,_,_,_,_,_,rfl⟩)
  ·rw[hrl]at ga
   have hs:stK N (m+1)=fE (dR N) a (dK N) (stK N m):=jM ga
   have hr:=xS ga
   have hf:=WN ga
   have hlt:=cQ ga
   rw[<-hs]at h
   refine fin _ _ _ _ _ _ _ _ _ _ _ _ _ (by simp[PV.under,cE]) (k3 (by omega) (fun q=>by omega) _ v wO ?_)
   rw[V8]
   refine⟨⟨?_,h⟩,f1,o1,f2,o2,f3,o3,true,false,q',v+1,?_⟩
   ·obtain⟨r,e⟩:=lO (dR N) a (dK N) (stK N m)
    by_cases hl:(stK N m).length=m
    ·omega
    ·rw[hs,e];simp;omega
   ·rw[hs,show rwK N (m+1)=_ from hr,hf]
 left:=by
  rintro m M ⟨⟨h1,h2⟩,f1,o1,f2,o2,f3,o3,f,o,q,v,rfl⟩ K k
  have hrl:(rwK N m).length=m:=pM h1
  unfold j9
  refine OH T ?_
  rw[hrl]
  exact k _ ⟨⟨h1,h2⟩,_,_,_,_,_,_,_,_,_,_,rfl⟩
 meth:= .inl ⟨rfl,rfl,rfl⟩
end
section
variable {tab:FuncId->Option AF} (T:HasA tab)
include T
end
def itr (f:Nat->Nat) (v:Nat):Nat->Nat
 | 0=>v
 | j+1=>f (itr f v j)
def its (f:Nat->Nat) (v m:Nat):List Nat:=(List.range m).map (itr f v)
section
variable {O:Nat->Int} {S:Nat->List Nat} {R:Nat->Int} {D:Nat->Prop} {p q:Int}
end
end Go.Am.Ar

