/- Contract: one unit of a determinization, and what goes with it. -/
import Derived.Test.YtapbgleednkimaaGreatDoorBudgetTextsG2
import Derived.Test.YtapbgleednkimaaGreatDoorPmC
import Derived.Test.YtapbgleednkimaaGreatDoorBudgetTextsG1
import Derived.Test.YtapbgleednkimaaGreatDoorBudgetTextsG0
set_option linter.unusedVariables false
set_option linter.unusedSimpArgs false
set_option maxRecDepth 10000
namespace Go.Am.Ar
open Go.Am.PV renaming junk->Zj
open Go.Am renaming kF->P1,pO->P2,PKNo->P3,ppack->P4,PObj.under->P5,pput->P6,ptset->P7,ptget->P8,pev->P9,ofAV->P10,ofAV1->P11,ppad->P12,pfill->P13,eZ->P14,AO.effect->P15
open List renaming replicate->L1
section
variable {tab:FuncId->Option AF} (T:HasA tab)
include T
theorem M6 {A l:Mem} {K:PV->Mem->Prop} {f1 o1 f2 o2 f3 o3 f o:Bool} {N:NF} {q:Nat->Nat} {S:List (BitVec 64)} {rows:List (List Int)} {fins:List Bool} (hk:K (.bool (decide (rows.length<S.length))) (A++(f9 A.length f1 o1 f2 o2 f3 o3 f o N q S rows fins++l))):
  SemC tab 252 [.ptr (A.length+4) 0 0] (A++(f9 A.length f1 o1 f2 o2 f3 o3 f o N q S rows fins++l)) K:=by
 refine dF T.h252 ?_
 unfold f9 at hk ⊢
 simp only[af252,PP,P1,P2,P14,P15,simprocAttr,gk,gk0,sk,sk0]
 have e:decide ((rows.length:Int)<S.length)=decide (rows.length<S.length):=by simp only[Int.ofNat_lt]
 rw[e]
 exact hk
theorem aCT {M:Mem} {K:PV->Mem->Prop} {id v:Nat} {f o:Bool} {l:List Int} {x:Int} (hM:M[id]? =some (.cells 0 v [slI f o .i64 l])) (hl:l.length<big) (hk:K (.bool (decide (x∈l))) M):
  SemC tab 256 [p64 x,.ptr id 0 0] M K:=by
 refine dF T.h256 ?_
 simp only[af256,PP,P1,P2,P14,P15,simprocAttr,hM]
 refine ZM T hl ?_
 simp only[PP,P1,P2,P14,P15,simprocAttr]
 exact hk
theorem aBv {M:Mem} {K:PV->Mem->Prop} {id v:Nat} {f o f2 o2:Bool} {l xs:List Int} (hM:M[id]? =some (.cells 0 v [slI f o .i64 l])) (hl:l.length<big) (hx:xs.length<big) (hk:∀r:Int,(0<=r↔∃x∈xs,x∈l)->K (p64 r) M):
  SemC tab 258 [slI f2 o2 .i64 xs,.func (.func 256) [] [.ptr id 0 0]] M K:=by
 have hb:xs.length<1000000000000:=hx
 refine dF T.h258 ?_
 simp only[af258,PP,P1,P2,P14,P15,simprocAttr]
 refine kH (fun(k:Nat)=>k<=xs.length/\∀x∈xs.take k,x∉l) (fun k=>(slI f2 o2 .i64 xs:: .func (.func 256) [] [.ptr id 0 0]::zj 5++p64 xs.length::p64 k::zj 10)) (fun _=>M) (fun k=>xs.length-k) 0 (by simp) (by simp only[PW]) rfl ?_
 intro k ⟨hk',hnm⟩ ih
 refine dJ (by kernel_rfl) ?_
 simp only[PP,P1,P2,P14,P15,simprocAttr]
 refine QIf.intro (fun c=>?_) (fun c=>?_)
 rotate_left
 ·have hkl:k=xs.length:=by omega
  subst hkl
  rw[List.take_of_length_le (Nat.le_refl _)]at hnm
  simp only[PP,P1,P2,P14,P15,simprocAttr,c]
  exact hk _ ⟨fun h=>absurd h (by omega),fun⟨x,h1,h2⟩=>absurd h2 (hnm x h1)⟩
 have hlt:k<xs.length:=by omega
 have hw:=cY (k:=k) (by show _<1000000000000;omega)
 have i0:(0:Int)<=k:=by omega
 obtain⟨x,gx⟩:=dL hlt
 simp only[PP,P1,P2,P14,P15,simprocAttr,c,i0,gx]
 refine aCT T hM hl ?_
 by_cases d:x∈l
 ·simp only[PP,P1,P2,P14,P15,simprocAttr,d]
  exact hk _ ⟨fun _=>⟨x,List.mem_of_getElem? gx,d⟩,fun _=>i0⟩
 ·simp only[PP,P1,P2,P14,P15,simprocAttr,d,hw]
  refine dC (ih (k+1) ⟨by omega,?_⟩ (by omega)) (by simp only[PW])
  rw[List.take_add_one,gx]
  simp only[Option.toList_some,List.mem_append,List.mem_singleton]
  rintro y (h | rfl)
  ·exact hnm y h
  ·exact d
theorem ZL {M:Mem} {K:PV->Mem->Prop} {id v:Nat} {f o f2 o2:Bool} {l xs:List Int} {b:Bool} (hM:M[id]? =some (.cells 0 v [slI f o .i64 l])) (hl:l.length<big) (hx:xs.length<big) (hb:b=true↔∃x∈xs,x∈l) (hk:K (.bool b) M):
  SemC tab 255 [slI f2 o2 .i64 xs,.func (.func 256) [] [.ptr id 0 0]] M K:=by
 refine dF T.h255 ?_
 simp only[af255,PP,P1,P2,P14,P15,simprocAttr]
 refine aBv T hM hl hx fun r hr=>?_
 simp only[PP,P1,P2,P14,P15,simprocAttr]
 have:decide (0<=r)=b:=by rw[Bool.eq_iff_iff,decide_eq_true_eq,hr,hb]
 rw[this]
 exact hk
set_option maxHeartbeats 2000000 in
theorem ZC {A:Mem} {K:PV->Mem->Prop} {f1 o1 f2 o2 f3 o3 f o:Bool} {N:NF} {q:Nat->Nat} {S:List (BitVec 64)} {rows:List (List Int)} {fins:List Bool} (hc:gT N=0) (B:BnN N) (hA:A.all (cN A.length)=true)
  (hn:S.Nodup) (hl:S.length<=4096) (hfi:fins.length=rows.length)
  (hk0:S.length<=rows.length->K (.tuple [.bool false,p64 0]) (A++f9 A.length f1 o1 f2 o2 f3 o3 f o N q S rows fins))
  (hk1:∀a,S[rows.length]? =some a->4096<(eX (dM N) a (dE N) S).length->K (.tuple [.bool false,p64 10]) (A++f9 A.length f1 o1 f2 o2 f3 o3 f o N q S rows fins))
  (hk2:∀a,S[rows.length]? =some a->(eX (dM N) a (dE N) S).length<=4096->∀q',K (.tuple [.bool true,p64 0]) (A++f9 A.length f1 o1 f2 o2 f3 o3 true false N q' (eX (dM N) a (dE N) S) (rows++[zQ (dM N) (dE N) (eX (dM N) a (dE N) S) a]) (fins++[D4 N a]))):
  SemC tab 253 [.ptr (A.length+4) 0 0] (A++f9 A.length f1 o1 f2 o2 f3 o3 f o N q S rows fins) K:=by
 have C:=nO hc
 have hshl:eP .shl (.int .i64 1) (.int .i64 N.vs)=some (.int .i64 ((dE N:Nat):Int)):=by
  rw[C6 (by have:=C.v0;omega) (by have:=C.v6;omega)];simp
 refine fM (fA T.h253 ?_)
 simp only[af253]
 refine bT ?_
 simp only[PP,P1,P2,P14,P15,simprocAttr,aQ,aL,aP,aC,aR,bD,aK,aJ,aN,aT,aU,aV,aW,aS,bA,aE,aF,aA,aG,aY,aZ,aO,bE,a8,aX,aM,bB,aH,bC,aI,aB,aD]
 refine M6 T (l:=[]) ?_
 simp only[PP,P1,P2,P14,P15,simprocAttr]
 by_cases c:rows.length<S.length
 rotate_left
 ·simp only[PP,P1,P2,P14,P15,simprocAttr,c]
  exact Gh.same ⟨_,rfl,hk0 (by omega)⟩
 obtain⟨a,ga⟩:=dL c
 have k0:(0:Int)<=rows.length:=by omega
 have k1:(rows.length:Int)<S.length:=by omega
 simp only[f9,PP,P1,P2,P14,P15,simprocAttr,aQ,aL,aP,aC,aR,bD,aK,aJ,aN,aT,aU,aV,aW,aS,bA,aE,aF,aA,aG,aY,aZ,aO,bE,a8,aX,aM,bB,aH,bC,aI,aB,aD,gk,gk0,sk,sk0,c,k0,k1,ga,hshl,List.append_assoc]
 refine dC (b:=(.ptr (A.length+4) 0 0::zj 3++slW f o (gS a):: .nils:: .nils:: .map (A.length+7)::zj 29++p64 (dE N:Nat)::p64 (0:Nat)::zj 130)) ?_ (by simp only[PW])
 refine eA (GStep.nil (b:=(.ptr (A.length+4) 0 0::zj 3++slW f o (gS a):: .ref (A.length+8) 0 1 0 0:: .nils:: .map (A.length+7)::zj 29++p64 (dE N:Nat)::p64 (0:Nat)::zj 130)) 5 1 rfl (by simp only[PP,P1,P2,P14,P15,simprocAttr]) rfl) ?_
 refine eA (GStep.nil (b:=(.ptr (A.length+4) 0 0::zj 3++slW f o (gS a):: .ref (A.length+8) 0 1 0 0:: .ref (A.length+9) 0 1 0 0:: .map (A.length+7)::zj 29++p64 (dE N:Nat)::p64 (0:Nat)::zj 130)) 6 1 rfl (by simp only[PP,P1,P2,P14,P15,simprocAttr]) rfl) ?_
 refine xO (fun(x gr gf vm:Nat)=>x<=dE N) (fun x gr gf vm=>(.ptr (A.length+4) 0 0::zj 3++slW f o (gS a):: .ref (A.length+8) gr 1 0 x:: .ref (A.length+9) gf 1 0 (frN (dM N) a S x).length:: .map (A.length+7)::zj 29++p64 (dE N:Nat)::p64 (x:Nat)::zj 130))
  (fun x gr gf vm=>A++(f9 A.length f1 o1 f2 o2 f3 o3 f o N q S rows fins++[.map vm (smE (j9 kG S.length (frN (dM N) a S x))),.cells gr 0 ((lD (dM N) a S x).map p64),.cells gf 0 (csD false true (frN (dM N) a S x))])) (fun x gr gf vm=>dE N-x) 0 0 0 0 (by omega) (by simp only[frN,eX,List.drop_length,PW]) ?_ ?_
 ·simp only[f9,frN,eX,List.drop_length,lD,List.range_zero,j9,smE,List.append_assoc,PP,P1,P2,P14,P15,simprocAttr]
 intro x gr gf vm hx ih
 refine dJ (by kernel_rfl) ?_
 have h64:=C.let64
 have hfl:=pW (dM N) a S x
 simp only[f9,PP,P1,P2,P14,P15,simprocAttr,aQ,aL,aP,aC,aR,bD,aK,aJ,aN,aT,aU,aV,aW,aS,bA,aE,aF,aA,aG,aY,aZ,aO,bE,a8,aX,aM,bB,aH,bC,aI,aB,aD,gk,gk0,sk,sk0,List.append_assoc]
 refine QIf.intro (fun d=>?_) (fun d=>?_)
 ·have hxl:x<dE N:=by omega
  have hw8:IntKind.u8.wrap (x:Int)=(x:Int):=by
   have:x<256:=by omega
   unfold IntKind.wrap;simp[IntKind.bits,IntKind.signed];omega
  have hwx:=cY (k:=x) (by show _<1000000000000;omega)
  have hwl:IntKind.i64.wrap ((S.length:Int)+(frN (dM N) a S x).length)=((S.length+(frN (dM N) a S x).length:Nat):Int):=by rw[wrap64]<;>omega
  have b1:(x+1)*8<=140737488355328:=by omega
  have b2:x+1<=9223372036854775807:=by omega
  have b3:x<=(lD (dM N) a S x).length:=by rw[iM];exact Nat.le_refl _
  have b4:((frN (dM N) a S x).length+1)*24<=140737488355328:=by omega
  have b5:(frN (dM N) a S x).length+1<=9223372036854775807:=by omega
  have hlk0:=sX S (dM N a x) 0
  have hlk1:=sX (frN (dM N) a S x) (dM N a x) S.length
  have hrow:=BF (dM N) a S x
  simp only[f9,PP,P1,P2,P14,P15,simprocAttr,aQ,aL,aP,aC,aR,bD,aK,aJ,aN,aT,aU,aV,aW,aS,bA,aE,aF,aA,aG,aY,aZ,aO,bE,a8,aX,aM,bB,aH,bC,aI,aB,aD,gk,gk0,sk,sk0,List.append_assoc,d,hw8]
  refine PI T hc B hxl ?_
  simp only[f9,PP,P1,P2,P14,P15,simprocAttr,aQ,aL,aP,aC,aR,bD,aK,aJ,aN,aT,aU,aV,aW,aS,bA,aE,aF,aA,aG,aY,aZ,aO,bE,a8,aX,aM,bB,aH,bC,aI,aB,aD,gk,gk0,sk,sk0,List.append_assoc]
  refine KN T ?_
  simp only[f9,PP,P1,P2,P14,P15,simprocAttr,aQ,aL,aP,aC,aR,bD,aK,aJ,aN,aT,aU,aV,aW,aS,bA,aE,aF,aA,aG,aY,aZ,aO,bE,a8,aX,aM,bB,aH,bC,aI,aB,aD,gk,gk0,sk,sk0,List.append_assoc]
  by_cases m1:dM N a x∈S
  ·rw[if_pos m1]at hlk0
   obtain⟨v1,v2⟩:=LZ m1
   rw[v2]at hrow
   simp only[f9,PP,P1,P2,P14,P15,simprocAttr,aQ,aL,aP,aC,aR,bD,aK,aJ,aN,aT,aU,aV,aW,aS,bA,aE,aF,aA,aG,aY,aZ,aO,bE,a8,aX,aM,bB,aH,bC,aI,aB,aD,gk,gk0,sk,sk0,List.append_assoc,hlk0,hwx,b1,b2,b3]
   have:=ih (x+1) (gr+1) gf vm (by omega) (by omega)
   rw[v1,hrow]at this
   refine dV this (by simp only[PW]) ?_
   simp only[f9,List.append_assoc,PP,P1,P2,P14,P15,simprocAttr]
   rw[dO _ _ (by simp[iM])]
  ·rw[if_neg m1]at hlk0
   by_cases m2:dM N a x∈frN (dM N) a S x
   ·rw[if_pos m2]at hlk1
    obtain⟨v1,v2⟩:=L2 m1 m2
    rw[v2]at hrow
    simp only[f9,PP,P1,P2,P14,P15,simprocAttr,aQ,aL,aP,aC,aR,bD,aK,aJ,aN,aT,aU,aV,aW,aS,bA,aE,aF,aA,aG,aY,aZ,aO,bE,a8,aX,aM,bB,aH,bC,aI,aB,aD,gk,gk0,sk,sk0,List.append_assoc,hlk0,hlk1,hwx,b1,b2,b3]
    have:=ih (x+1) (gr+1) gf vm (by omega) (by omega)
    rw[v1,hrow]at this
    refine dV this (by simp only[PW]) ?_
    simp only[f9,List.append_assoc,PP,P1,P2,P14,P15,simprocAttr]
    rw[dO _ _ (by simp[iM])]
   ·rw[if_neg m2]at hlk1
    obtain⟨v1,v2⟩:=L0 m1 m2
    rw[v2]at hrow
    have hput:=GH S.length m2
    simp only[f9,PP,P1,P2,P14,P15,simprocAttr,aQ,aL,aP,aC,aR,bD,aK,aJ,aN,aT,aU,aV,aW,aS,bA,aE,aF,aA,aG,aY,aZ,aO,bE,a8,aX,aM,bB,aH,bC,aI,aB,aD,gk,gk0,sk,sk0,List.append_assoc,hlk0,hlk1,hwx,hwl,hput,b1,b2,b3,b4,b5]
    have:=ih (x+1) (gr+1) (gf+1) (vm+1) (by omega) (by omega)
    rw[v1,hrow]at this
    have e1:(frN (dM N) a S x++[dM N a x]).length=(frN (dM N) a S x).length+1:=by simp
    rw[e1]at this
    refine dV this (by simp only[PW]) ?_
    simp only[f9,List.append_assoc,PP,P1,P2,P14,P15,simprocAttr]
    rw[dO _ _ (by simp[iM])]
 obtain rfl:x=dE N:=by omega
 have hwl:IntKind.i64.wrap ((S.length:Int)+(frN (dM N) a S (dE N)).length)=((S.length+(frN (dM N) a S (dE N)).length:Nat):Int):=by rw[wrap64]<;>omega
 have hvl:(eX (dM N) a (dE N) S).length=S.length+(frN (dM N) a S (dE N)).length:=by rw[lG,List.length_append]
 simp only[f9,PP,P1,P2,P14,P15,simprocAttr,aQ,aL,aP,aC,aR,bD,aK,aJ,aN,aT,aU,aV,aW,aS,bA,aE,aF,aA,aG,aY,aZ,aO,bE,a8,aX,aM,bB,aH,bC,aI,aB,aD,gk,gk0,sk,sk0,List.append_assoc,d,hwl]
 refine QIf.intro (fun e=>?_) (fun e=>?_)
 ·simp only[PP,P1,P2,P14,P15,simprocAttr,e]
  refine Gh.step (GStep.dropM (b:=[.tuple [.bool false,p64 10]]) (N:=A++f9 A.length f1 o1 f2 o2 f3 o3 f o N q S rows fins) (A.length+7) (by simp) (by simp) (by simp only[PW]) ?_ ?_ ?_) (Gh.same ⟨_,rfl,hk1 a ga (by omega)⟩)
  ·simp[cF,PV.under]
  ·exact(congrArg (fun M:Mem=>M.all (cN (A.length+7))) (mS (l:=[_,_,_]))).trans (oR hA ..)
  ·exact mS (l:=[_,_,_])
 have hvn:=QB (dM N) a hn (dE N)
 have hfd:(frN (dM N) a S (dE N)).Nodup:=by
  have:=m9 (δ:=dM N) (a:=a) (dE N) hn
  rw[lG,List.nodup_append]at this
  exact this.2.1
 have hcl:∀S:List (BitVec 64),(iG S).length=S.length:=fun S=>by simp[iG]
 simp only[PP,P1,P2,P14,P15,simprocAttr,gk,gk0,e]
 have hvis:=lG (dM N) a S (dE N)
 generalize hfr:frN (dM N) a S (dE N)=fr at*
 refine dC (b:=(.ptr (A.length+4) 0 0::zj 3++slW f o (gS a):: .ref (A.length+8) gr 1 0 (dE N)::zj 96++ .ref (A.length+9) gf 1 0 fr.length::p64 fr.length::p64 (0:Nat)::zj 64)) ?_ (by simp only[PW])
 refine eA (GStep.wkO (A.length+1) (cs2:=csD true false S) (by rw[gk];rfl) (fun w bcs h=>h.wkM (fun x=>PvWk.sl0 _ _ _ _ _)) rfl) ?_
 refine eA (GStep.wkO (A.length+2) (cs2:=clD true false S) (by rw[sk,gk];rfl) (fun w bcs h=>h.wkM (fun x=>PvWk.sl0 _ _ _ _ _)) rfl) ?_
 refine eA (GStep.wkO (A.length+5) (cs2:=rows.map (slI true false .i64)) (by rw[sk,sk,gk];rfl) (fun w bcs h=>h.wkM (fun x=>PvWk.sl0 _ _ _ _ _)) rfl) ?_
 refine aCC (fun(i qs vs ql vl qm qw:Nat)=>i<=fr.length) (fun i qs vs ql vl qm qw=>(.ptr (A.length+4) 0 0::zj 3++slW f o (gS a):: .ref (A.length+8) gr 1 0 (dE N)::zj 96++ .ref (A.length+9) gf 1 0 fr.length::p64 fr.length::p64 (i:Nat)::zj 64))
  (fun i qs vs ql vl qm qw=>A++[.gone,.cells qs vs (csD true false S++csD false true (fr.take i)),.cells ql vl (clD true false S++clD false true (fr.take i)),.map qm (smE (j9 kG 0 (S++fr.take i))),.cells 0 qw [p64 N.vs,p64 N.n,slI f1 o1 .i64 N.st,slI f2 o2 .i64 N.fi,slE f3 o3 N.es,.ref (A.length+1) qs 1 0 (S.length+i),.ref (A.length+2) ql 1 0 (S.length+i),.map (A.length+3),.ref (A.length+5) (q 6) 1 0 rows.length,.ref (A.length+6) (q 8) 1 0 fins.length],.cells (q 6) (q 7) (rows.map (slI true false .i64)),.cells (q 8) (q 9) (fins.map PV.bool),.map vm (smE (j9 kG S.length fr)),.cells gr 0 ((lD (dM N) a S (dE N)).map p64),.cells gf 0 (csD false true fr)]) (fun i qs vs ql vl qm qw=>fr.length-i) 0 (q 0) (q 1) (q 2) (q 3) (q 4) (q 5) (by omega) (by simp only[PW]) ?_ ?_
 ·have e0:clD false true []=[]:=rfl
  simp only[sk,List.take_zero,List.map_nil,e0,List.append_nil,Nat.add_zero,PP,P1,P2,P14,P15,simprocAttr]
 intro i qs vs ql vl qm qw hi ih
 refine dJ (by kernel_rfl) ?_
 simp only[PP,P1,P2,P14,P15,simprocAttr,aQ,aL,aP,aC,aR,bD,aK,aJ,aN,aT,aU,aV,aW,aS,bA,aE,aF,aA,aG,aY,aZ,aO,bE,a8,aX,aM,bB,aH,bC,aI,aB,aD,gk,gk0,sk,sk0]
 refine QIf.intro (fun c2=>?_) (fun c2=>?_)
 ·have hil:i<fr.length:=by omega
  obtain⟨t,gt⟩:=dL hil
  have i0:(0:Int)<=i:=by omega
  have hwi:=cY (k:=i) (by show _<1000000000000;omega)
  have htk:fr.take (i+1)=fr.take i++[t]:=eG gt
  have hnm:t∉S++fr.take i:=by
   rw[List.mem_append]
   rintro(h | h)
   ·exact hvn t (List.mem_of_getElem? gt) h
   ·have h2:=hfd
    rw[<-List.take_append_drop i fr,List.nodup_append]at h2
    refine h2.2.2 t h t ?_ rfl
    exact List.mem_of_getElem? (i:=0) (by rw[List.getElem?_drop];exact gt)
  have hput:=GH 0 hnm
  have hlk:=sX (S++fr.take i) t 0
  rw[if_neg hnm]at hlk
  have hln:(S++fr.take i).length=S.length+i:=by rw[List.length_append,List.length_take,Nat.min_eq_left (by omega)]
  rw[hln,Nat.zero_add,List.append_assoc,<-htk]at hput
  have hti:(fr.take i).length=i:=by rw[List.length_take,Nat.min_eq_left (by omega)]
  have hn14:(A.length+1==A.length+4)=false:=by simp
  have hn24:(A.length+2==A.length+4)=false:=by simp
  have hl2:(S.length+i+1)*24<=140737488355328:=by omega
  have hl3:S.length+i<=9223372036854775806:=by omega
  have hcs:(csD true false S++csD false true (fr.take i)).length=S.length+i:=by simp;omega
  have hcl':(clD true false S++clD false true (fr.take i)).length=S.length+i:=by simp[iG];omega
  simp only[PP,P1,P2,P14,P15,simprocAttr,aQ,aL,aP,aC,aR,bD,aK,aJ,aN,aT,aU,aV,aW,aS,bA,aE,aF,aA,aG,aY,aZ,aO,bE,a8,aX,aM,bB,aH,bC,aI,aB,aD,gk,gk0,sk,sk0,c2,i0,gt]
  refine KN T ?_
  have hl0:S.length+i<=S.length+i:=Nat.le_refl _
  simp only[PP,P1,P2,P14,P15,simprocAttr,aQ,aL,aP,aC,aR,bD,aK,aJ,aN,aT,aU,aV,aW,aS,bA,aE,aF,aA,aG,aY,aZ,aO,bE,a8,aX,aM,bB,aH,bC,aI,aB,aD,gk,gk0,sk,sk0,hlk,hput,hti,hl0,hl2,hl3,hn14]
  refine NG T ?_
  simp only[PP,P1,P2,P14,P15,simprocAttr,aQ,aL,aP,aC,aR,bD,aK,aJ,aN,aT,aU,aV,aW,aS,bA,aE,aF,aA,aG,aY,aZ,aO,bE,a8,aX,aM,bB,aH,bC,aI,aB,aD,gk,gk0,sk,sk0,hcl,hti,hl0,hl2,hl3,hn14,hn24,hwi]
  have:=ih (i+1) (qs+1) 0 (ql+1) 0 (qm+1) (qw+1+1) (by omega) (by omega)
  refine dV this (by simp only[PW]) ?_
  have e5:csD false true (fr.take (i+1))=csD false true (fr.take i)++[slW false true (gS t)]:=by rw[htk];simp
  have e6:clD false true (fr.take (i+1))=clD false true (fr.take i)++[slI false true .i64 (GM (n8 t))]:=by rw[htk];simp only[clD,iG,List.map_append,List.map_cons,List.map_nil]
  rw[dO _ _ hcs.symm,dO _ _ hcl'.symm,e5,e6]
  simp only[List.append_assoc,Nat.add_assoc,List.length_map,slW,slI]
 obtain rfl:i=fr.length:=by omega
 rw[List.take_length]
 simp only[PP,P1,P2,P14,P15,simprocAttr,aQ,aL,aP,aC,aR,bD,aK,aJ,aN,aT,aU,aV,aW,aS,bA,aE,aF,aA,aG,aY,aZ,aO,bE,a8,aX,aM,bB,aH,bC,aI,aB,aD,gk,gk0,sk,sk0,c2]
 refine NG T ?_
 have n1:(rows.length+1)*24<=140737488355328:=by omega
 have n2:rows.length<=9223372036854775806:=by omega
 have n3:fins.length+1<=140737488355328:=by omega
 have n4:fins.length<=9223372036854775806:=by omega
 have n5:rows.length+1<=9223372036854775807:=by omega
 have n6:fins.length+1<=9223372036854775807:=by omega
 simp only[PP,P1,P2,P14,P15,simprocAttr,aQ,aL,aP,aC,aR,bD,aK,aJ,aN,aT,aU,aV,aW,aS,bA,aE,aF,aA,aG,aY,aZ,aO,bE,a8,aX,aM,bB,aH,bC,aI,aB,aD,gk,gk0,sk,sk0,List.append_assoc,n1,n2,n5,n3,n4,n6]
 refine ZL T (v:=1) (f:=false) (o:=true) (l:=GM (n8 a)) (b:=D4 N a) (by rw[gk];simp only[slI,List.length_map,List.getElem?_cons_succ,List.getElem?_cons_zero]) (by have:=HY a;simp;show _<1000000000000;omega) B.f ?_ ?_
 ·unfold D4
  rw[List.any_eq_true]
  constructor
  ·rintro⟨x,h1,h2⟩
   have:=lE C.fi x h1
   exact⟨x,h1,List.mem_map.2 ⟨x.toNat,mem_bitsW.2 h2,by omega⟩⟩
  ·rintro⟨x,h1,h2⟩
   obtain⟨k,h3,rfl⟩:=List.mem_map.1 h2
   exact⟨_,h1,by rw[Int.toNat_natCast];exact mem_bitsW.1 h3⟩
 simp only[PP,P1,P2,P14,P15,simprocAttr,aQ,aL,aP,aC,aR,bD,aK,aJ,aN,aT,aU,aV,aW,aS,bA,aE,aF,aA,aG,aY,aZ,aO,bE,a8,aX,aM,bB,aH,bC,aI,aB,aD,gk,gk0,sk,sk0,List.append_assoc,n1,n2,n5,n3,n4,n6]
 have hrow:lD (dM N) a S (dE N)=zQ (dM N) (dE N) (eX (dM N) a (dE N) S) a:=rfl
 have hrl:=iM (dM N) a S (dE N)
 have key:=hk2 a ga (by omega) (qD qs vs ql vl qm (qw+1+1) (q 6+1) 0 (q 8+1) 0)
 rw[<-hrow,hvis]at key
 refine Gh.step (GStep.freezeIn (b:=[.tuple [.bool true,.int .i64 0]]) (cj2:=rows.map (slI true false .i64)++[slI false true .i64 (lD (dM N) a S (dE N))]) (A.length+8) (A.length+5) (by omega) (by rw[gk];rfl) (by rw[gk];rfl) (by omega) ?_ ?_ rfl) ?_
 ·simp only[kW,kX,List.cons_append,List.nil_append,eB,fN]
 ·rw[IK,lK (by simp[hrl]) (by rw[dO _ _ (by simp[hrl])];simp only[slI,hrl]),fN];trivial
 simp only[gk,sk,List.set_cons_succ,List.set_cons_zero]
 refine Gh.step (GStep.wkO (A.length+1) (cs2:=csD true false (S++fr)) (by rw[gk];rfl) (fun w bcs h=>h.wkA (fun x=>PvWk.refl _) (fun x=>PvWk.sl0 _ _ _ _ _)) rfl) ?_
 simp only[gk,sk,List.set_cons_succ,List.set_cons_zero]
 refine Gh.step (GStep.wkO (A.length+2) (cs2:=clD true false (S++fr)) (by rw[gk];rfl) (fun w bcs h=>by
  have e:clD true false (S++fr)=(iG S++iG fr).map (slI true false .i64):=by simp only[clD,iG,List.map_append]
  rw[e]
  exact h.wkA (fun x=>PvWk.refl _) (fun x=>PvWk.sl0 _ _ _ _ _)) rfl) ?_
 simp only[gk,sk,List.set_cons_succ,List.set_cons_zero]
 refine Gh.step (GStep.wkO (A.length+5) (cs2:=(rows++[lD (dM N) a S (dE N)]).map (slI true false .i64)) (by rw[gk];rfl) (fun w bcs h=>RepL.wkA (ys:=[lD (dM N) a S (dE N)]) (f2:=slI false true .i64) (fun x=>PvWk.refl _) (fun x=>PvWk.sl0 _ _ _ _ _) h) rfl) ?_
 simp only[gk,sk,List.set_cons_succ,List.set_cons_zero]
 have hsl:S.length+fr.length=(S++fr).length:=by simp
 have hrl2:rows.length+1=(rows++[lD (dM N) a S (dE N)]).length:=by simp
 have hfl2:fins.length+1=(fins++[D4 N a]).length:=by simp
 rw[hsl,hrl2,hfl2]
 have ef:fins.map PV.bool++[.bool (D4 N a)]=(fins++[D4 N a]).map PV.bool:=by simp
 rw[ef]
 refine Gh.step (GStep.dropM (b:=[.tuple [.bool true,p64 0]]) (N:=A++f9 A.length f1 o1 f2 o2 f3 o3 true false N (qD qs vs ql vl qm (qw+1+1) (q 6+1) 0 (q 8+1) 0) (S++fr) (rows++[lD (dM N) a S (dE N)]) (fins++[D4 N a])) (A.length+7) (Nat.le_refl _) (by simp) (by simp only[PW]) (by simp[cF,PV.under]) ?_ ?_) (Gh.same ⟨_,rfl,key⟩)
 ·exact(congrArg (fun M:Mem=>M.all (cN (A.length+7))) (mS (q:=qD qs vs ql vl qm (qw+1+1) (q 6+1) 0 (q 8+1) 0) (l:=[_,_,_,_]))).trans (oR hA ..)
 ·exact mS (q:=qD qs vs ql vl qm (qw+1+1) (q 6+1) 0 (q 8+1) 0) (l:=[_,_,_,_])
end
section
variable {tab:FuncId->Option AF} (T:HasA tab)
include T
end
section
variable {tab:FuncId->Option AF} (T:HasA tab)
include T
end
theorem wrap_u64 {k:Nat} (h:k<4000000000000):IntKind.u64.wrap (k:Int)=(k:Int):=by
 simp only[IntKind.wrap,IntKind.signed,IntKind.bits]
 simp
 omega
theorem yG:∀{l m:List Int},l.Pairwise (· < ·)->m.Pairwise (· < ·)->(∀x,x∈l↔x∈m)->l=m
 | [],[],_,_,_=>rfl
 | [],y::m,_,_,h=>by have:=(h y).2 (by simp);simp at this
 | x::l,[],_,_,h=>by have:=(h x).1 (by simp);simp at this
 | x::l,y::m,hl,hm,h=>by
  rw[List.pairwise_cons]at hl hm
  have e:x=y:=by
   have h1:=(h x).1 (by simp)
   have h2:=(h y).2 (by simp)
   rcases List.mem_cons.1 h1 with h1 | h1
   ·exact h1
   ·rcases List.mem_cons.1 h2 with h2 | h2
    ·exact h2.symm
    ·have:=hl.1 y h2
     have:=hm.1 x h1
     omega
  subst e
  congr 1
  refine yG hl.2 hm.2 fun z=>?_
  constructor
  ·intro hz
   rcases List.mem_cons.1 ((h z).1 (by simp[hz])) with e | e
   ·have:=hl.1 z hz;omega
   ·exact e
  ·intro hz
   rcases List.mem_cons.1 ((h z).2 (by simp[hz])) with e | e
   ·have:=hm.1 z hz;omega
   ·exact e
section
variable {α:Type} [DecidableEq α]
end
theorem I1 {N:NF} (C:NOk N):GM (n8 (eY N))=N.st:=by
 refine yG ?_ (kU C.st).1 fun x=>?_
 ·rw[List.pairwise_map]
  exact((List.pairwise_lt_range (n:=64)).filter _).imp fun h=>by omega
 ·constructor
  ·intro h
   obtain⟨k,h1,rfl⟩:=List.mem_map.1 h
   exact(nF C k).1 (mem_bitsW.1 h1)
  ·intro h
   have:=lE C.st x h
   have e:x=((x.toNat:Nat):Int):=by omega
   rw[e]at h ⊢
   exact List.mem_map.2 ⟨_,mem_bitsW.2 ((nF C _).2 h),rfl⟩
theorem SS {α:Type} [DecidableEq α] (δ:α->Nat->α) (n:Nat) (o:List α) (a:α):(zQ δ n o a).length=n:=by simp[zQ]
section
variable {tab:FuncId->Option AF} (T:HasA tab)
include T
end
def kC (A:Mem) (f1 o1 f2 o2 f3 o3 f o:Bool) (N:NF) (q:Nat->Nat) (S:List (BitVec 64)) (rows:List (List Int)) (fins:List Bool) (v:Nat) (u:Int):Mem:=
 A++(f9 A.length f1 o1 f2 o2 f3 o3 f o N q S rows fins++[.cells 0 v [.iface 116 (.ptr (A.length+4) 0 0),p64 u]])
section
variable {tab:FuncId->Option AF} (T:HasA tab)
include T
set_option maxHeartbeats 2000000 in
theorem aBn {A:Mem} {K:PV->Mem->Prop} {f1 o1 f2 o2 f3 o3:Bool} {N:NF} (hc:gT N=0) (B:BnN N) (hA:A.all (cN A.length)=true)
  (hk:∀q,K (.ptr (A.length+4) 0 0) (A++f9 A.length false true false true false true true false N q [eY N] [] [])):SemC tab 91 [.agg (nfC f1 o1 f2 o2 f3 o3 N)] A K:=by
 have C:=nO hc
 refine fM (fA T.h91 ?_)
 simp only[af91]
 refine bU (bT ?_)
 simp only[PP,P1,P2,P14,P15,simprocAttr]
 refine bU (bT ?_)
 simp only[PP,P1,P2,P14,P15,simprocAttr,gk,gk0,sk,sk0,hR]
 refine mX T B.s ?_
 simp only[PP,P1,P2,P14,P15,simprocAttr,gk,gk0,sk,sk0]
 refine mX T B.f ?_
 simp only[PP,P1,P2,P14,P15,simprocAttr,gk,gk0,sk,sk0]
 refine QM T B.e ?_
 simp only[PP,P1,P2,P14,P15,simprocAttr,gk,gk0,sk,sk0]
 refine bU (bT ?_)
 simp only[PP,P1,P2,P14,P15,simprocAttr,gk,gk0,sk,sk0]
 refine aBP T C B ?_
 simp only[PP,P1,P2,P14,P15,simprocAttr,gk,gk0,sk,sk0]
 refine bU (K9 [2,6] ?_)
 simp only[PP,P1,P2,P14,P15,simprocAttr,LA,EG,vV,LR,Option.some.injEq,exists_eq_left',gk,gk0,sk,sk0,List.append_assoc]
 refine mX T B.s ?_
 simp only[PP,P1,P2,P14,P15,simprocAttr,LA,EG,vV,LR,Option.some.injEq,exists_eq_left',gk,gk0,sk,sk0,List.append_assoc,aQ,aL,aP,aC,aR,bD,aK,aJ,aN,aT,aU,aV,aW,aS,bA,aE,aF,aA,aG,aY,aZ,aO,bE,a8,aX,aM,bB,aH,bC,aI,aB,aD]
 refine KN T ?_
 have hp:e8 2 (.str (kG (eY N))) []=some none:=rfl
 have hput:hU 2 (.str (kG (eY N))) (.str (kG (eY N))) (.int .i64 0) []=smE (j9 kG 0 [eY N]):=rfl
 simp only[PP,P1,P2,P14,P15,simprocAttr,LA,EG,vV,LR,Option.some.injEq,exists_eq_left',gk,gk0,sk,sk0,List.append_assoc,aQ,aL,aP,aC,aR,bD,aK,aJ,aN,aT,aU,aV,aW,aS,bA,aE,aF,aA,aG,aY,aZ,aO,bE,a8,aX,aM,bB,aH,bC,aI,aB,aD,hp,hput]
 refine⟨by simp,bT ?_⟩
 simp only[PP,P1,P2,P14,P15,simprocAttr]
 refine Gh.step (GStep.nilbox (A.length+4) 8 1 (by rw[gk];rfl) rfl rfl) ?_
 simp only[gk,sk,List.set_cons_succ,List.set_cons_zero,List.append_assoc,List.length_append,List.length_cons,List.length_nil,List.cons_append,List.nil_append,Nat.reduceAdd]
 refine Gh.step (GStep.nilbox (A.length+4) 9 1 (by rw[gk];rfl) rfl rfl) ?_
 simp only[gk,sk,List.set_cons_succ,List.set_cons_zero,List.append_assoc,List.length_append,List.length_cons,List.length_nil,List.cons_append,List.nil_append,Nat.reduceAdd]
 refine Gh.step (GStep.wkO (A.length+1) (cs2:=csD true false [eY N]) (by rw[gk];rfl) (fun w bcs h=>RepL.wkM (xs:=[eY N]) (f:=fun a=>slW false true (gS a)) (fun x=>PvWk.sl0 _ _ _ _ _) h) rfl) ?_
 simp only[gk,sk,List.set_cons_succ,List.set_cons_zero]
 refine Gh.step (GStep.wkO (A.length+2) (cs2:=clD true false [eY N]) (by rw[gk];rfl) (fun w bcs h=>RepL.wkM (xs:=iG [eY N]) (f:=slI false true .i64) (fun x=>PvWk.sl0 _ _ _ _ _) (by
  have e:iG [eY N]=[N.st]:=by rw[<-I1 C];rfl
  rw[e];exact h)) rfl) ?_
 simp only[gk,sk,List.set_cons_succ,List.set_cons_zero]
 refine Gh.step (GStep.freeze (b:=[.ptr (A.length+4) 0 0]) A.length (Nat.le_refl _) (by rw[gk0];rfl) (by simp only[kW,kX,List.cons_append,List.nil_append,eB,fN]) rfl) (Gh.same ⟨_,rfl,?_⟩)
 simp only[sk0,List.set_cons_zero]
 exact hk (qD 0 0 0 0 1 0 0 0 0 0)
set_option maxHeartbeats 2000000 in
theorem SI {A:Mem} {K:PV->Mem->Prop} {f1 o1 f2 o2 f3 o3:Bool} {N:NF} (B:BnN N) (hA:A.all (cN A.length)=true)
  (hk1:gT N≠0->K (.tuple [.nilptr,p64 (gT N)]) A)
  (hk2:gT N=0->∀X q v,cN (A.length+1) X=true->K (.tuple [.ptr (A.length+8) 0 0,p64 0]) (kC (A++[X]) false true false true false true true false N q [eY N] [] [] v 0)):
  SemC tab 40 [.agg (nfC f1 o1 f2 o2 f3 o3 N)] A K:=by
 have hA1:(A++[PObj.cells 0 0 (nfC f1 o1 f2 o2 f3 o3 N)]).all (cN (A++[PObj.cells 0 0 (nfC f1 o1 f2 o2 f3 o3 N)]).length)=true:=by
  rw[List.all_append,dW (by simp) hA]
  simp[cN,cF,PV.under,gW,dH]
 refine fM (dF T.h40 ?_)
 simp only[af40,PP,P1,P2,P14,P15,simprocAttr,hR,gk0,sk0]
 refine BC T B ?_
 by_cases hc:gT N=0
 rotate_left
 ·simp only[PP,P1,P2,P14,P15,simprocAttr,hc]
  refine Gh.step (GStep.dropM (b:=[.tuple [.nilptr,p64 (gT N)]]) (N:=A) A.length (Nat.le_refl _) (by simp) (by simp only[PW]) (by simp[cF,PV.under]) ?_ (List.take_left' rfl)) (Gh.same ⟨_,rfl,hk1 hc⟩)
  exact(congrArg (fun M:Mem=>M.all (cN A.length)) (List.take_left' rfl)).trans hA
 simp only[PP,P1,P2,P14,P15,simprocAttr,hc,gk0,sk0]
 refine aBn T hc B hA1 fun q=>?_
 have h:=hk2 hc (.cells 0 0 (nfC f1 o1 f2 o2 f3 o3 N)) q 0 (by simp[cN,cF,PV.under,gW,dH])
 have hl:A.length+8=(A++[PObj.cells 0 0 (nfC f1 o1 f2 o2 f3 o3 N)]).length+7:=by simp
 rw[hl]at h
 generalize A++[PObj.cells 0 0 (nfC f1 o1 f2 o2 f3 o3 N)]=A1 at*
 simp only[PP,P1,P2,P14,P15,simprocAttr,f9,gk,gk0,sk,sk0,cB,cK,bL,List.append_assoc]
 exact Gh.same ⟨_,rfl,h⟩
end
structure JobK (tab:FuncId->Option AF) (jid wid:Nat) (ty:TypeId) (fu fl:FuncId) (e:Int) (D F:Nat->Prop) (lft:Nat->Bool) (St:Nat->Mem->Prop):Prop where
 job:∀m M,St m M->∃v,M[jid]? =some (.cells 0 v [.iface ty (.ptr wid 0 0),p64 (m:Int)])
 sm:∀m M,St m M->m<4000000000000000000
 unit:∀m M,St m M->∀K:PV->Mem->Prop,(D m->∀M2,St m M2->K (.tuple [.bool false,p64 0]) M2)->(F m->∀M2,St m M2->K (.tuple [.bool false,p64 e]) M2)->
  (¬D m->¬F m->∀M2 v,M2[jid]? =some (.cells 0 v [.iface ty (.ptr wid 0 0),p64 (m:Int)])->St (m+1) (M2.set jid (.cells 0 (v+1) [.iface ty (.ptr wid 0 0),p64 ((m+1:Nat):Int)]))->K (.tuple [.bool true,p64 0]) M2)->SemC tab fu [.ptr wid 0 0] M K
 left:∀m M,St m M->∀K:PV->Mem->Prop,(∀M2,St m M2->K (.bool (lft m)) M2)->SemC tab fl [.ptr wid 0 0] M K
 meth:(ty=116/\fu=253/\fl=252)\/(ty=122/\fu=261/\fl=260)\/(ty=125/\fu=265/\fl=264)
section
variable {tab:FuncId->Option AF} (T:HasA tab)
include T
theorem OG {M:Mem} {K:PV->Mem->Prop} {jid v:Nat} {ty:TypeId} {w:PV} {u k:Int} (hM:M[jid]? =some (.cells 0 v [.iface ty w,p64 u])) (hk0:k<0) (hk:K (.tuple [.bool false,p64 1]) M):SemC tab 18 [.ptr jid 0 0,p64 k] M K:=by
 refine dF T.h18 ?_
 simp only[af18,PP,P1,P2,P14,P15,simprocAttr,dA,cB,bK,cQ,cL,cP,cO,cZ,c8,cC,bH,cK,bS,bL,bF,bX,bG,hM,hk0]
 exact hk
set_option maxHeartbeats 1000000 in
theorem Y4 {jid wid:Nat} {ty:TypeId} {fu fl:FuncId} {e:Int} {D F:Nat->Prop} {lft:Nat->Bool} {St:Nat->Mem->Prop} (J:JobK tab jid wid ty fu fl e D F lft St) (he:e≠0) {M:Mem} {K:PV->Mem->Prop} {n:Nat} {k:Int} (hS:St n M) (hk0:0<=k) (hk1:k<=9223372036854775807)
  (hA:∀m M',n<=m->(m:Int)=n+k->(∀j,n<=j->j<m->¬D j/\¬F j)->St m M'->K (.tuple [.bool (!lft m),p64 0]) M')
  (hB:∀m M',n<=m->(m:Int)<n+k->(∀j,n<=j->j<m->¬D j/\¬F j)->D m->St m M'->K (.tuple [.bool true,p64 0]) M')
  (hC:∀m M',n<=m->(m:Int)<n+k->(∀j,n<=j->j<m->¬D j/\¬F j)->F m->St m M'->K (.tuple [.bool false,p64 e]) M'):
  SemC tab 18 [.ptr jid 0 0,p64 k] M K:=by
 refine dF T.h18 ?_
 obtain⟨v0,hM⟩:=J.job n M hS
 have hk2:¬k<0:=by omega
 simp only[af18,PP,P1,P2,P14,P15,simprocAttr,dA,cB,bK,cQ,cL,cP,cO,cZ,c8,cC,bH,cK,bS,bL,bF,bX,bG,hM,hk2]
 have hu:(if(116:Int)=(ty:Int) then some 253 else if(122:Int)=(ty:Int) then some 261 else if(125:Int)=(ty:Int) then some 265 else fR [] ty)=some fu:=by
  rcases J.meth with⟨rfl,rfl,rfl⟩ | ⟨rfl,rfl,rfl⟩ | ⟨rfl,rfl,rfl⟩<;>rfl
 have hlf:(if(116:Int)=(ty:Int) then some 252 else if(122:Int)=(ty:Int) then some 260 else if(125:Int)=(ty:Int) then some 264 else fR [] ty)=some fl:=by
  rcases J.meth with⟨rfl,rfl,rfl⟩ | ⟨rfl,rfl,rfl⟩ | ⟨rfl,rfl,rfl⟩<;>rfl
 refine jM (fun(i:Nat) (N:Mem)=>(i:Int)<=k/\St (n+i) N/\∀j,n<=j->j<n+i->¬D j/\¬F j) (fun i N=>(.ptr jid 0 0::zj 20++p64 k::p64 i::zj 28)) (fun i N=>N) (fun i _=>k.toNat-i) 0 M ⟨hk0,hS,fun j h1 h2=>by omega⟩ (by simp only[PW]) rfl ?_
 intro i N ⟨hi,hSi,hj⟩ ih
 obtain⟨v,hN⟩:=J.job _ N hSi
 refine dJ (by kernel_rfl) ?_
 simp only[PP,P1,P2,P14,P15,simprocAttr]
 refine QIf.intro (fun c=>?_) (fun c=>?_)
 ·have hsm:=J.sm _ N hSi
  have hwi:IntKind.i64.wrap ((i:Int)+1)=((i+1:Nat):Int):=by rw[wrap64]<;>omega
  have hwu:IntKind.i64.wrap (((n+i:Nat):Int)+1)=((n+i+1:Nat):Int):=by rw[wrap64]<;>omega
  simp only[PP,P1,P2,P14,P15,simprocAttr,dA,cB,bK,cQ,cL,cP,cO,cZ,c8,cC,bH,cK,bS,bL,bF,bX,bG,hN,c,hu]
  refine J.unit _ N hSi _ (fun d M2 s2=>?_) (fun d M2 s2=>?_) (fun d1 d2 M2 v2 h2 s2=>?_)
  ·simp only[PP,P1,P2,P14,P15,simprocAttr]
   exact hB (n+i) M2 (by omega) (by omega) hj d s2
  ·simp only[PP,P1,P2,P14,P15,simprocAttr,he]
   exact hC (n+i) M2 (by omega) (by omega) hj d s2
  ·simp only[PP,P1,P2,P14,P15,simprocAttr,h2,hwu,hwi]
   refine dC (ih (i+1) _ ⟨by omega,s2,fun j h3 h4=>?_⟩ (by omega)) (by simp only[PW])
   by_cases q:j=n+i
   ·subst q;exact⟨d1,d2⟩
   ·exact hj j h3 (by omega)
 ·simp only[PP,P1,P2,P14,P15,simprocAttr,dA,cB,bK,cQ,cL,cP,cO,cZ,c8,cC,bH,cK,bS,bL,bF,bX,bG,hN,c,hlf]
  refine J.left _ N hSi _ fun M2 s2=>?_
  simp only[PP,P1,P2,P14,P15,simprocAttr]
  exact hA (n+i) M2 (by omega) (by omega) hj s2
end
abbrev stK (N:NF) (m:Nat):List (BitVec 64):=fP (dM N) (dE N) (eY N) m
abbrev rwK (N:NF) (m:Nat):List (List Int):=tX (dM N) (dE N) (eY N) m
def fnK (N:NF) (m:Nat):List Bool:=((stK N m).take m).map (D4 N)
theorem U6 {N:NF} {m:Nat} {a:BitVec 64} (h:(stK N m)[m]? =some a):fnK N (m+1)=fnK N m++[D4 N a]:=by
 have hk:=cM h
 obtain⟨r,e2⟩:=lA (dM N) a (dE N) (stK N m)
 unfold fnK
 rw[show stK N (m+1)=eX (dM N) a (dE N) (stK N m) from i7 h]
 have e3:(eX (dM N) a (dE N) (stK N m)).take (m+1)=(stK N m).take m++[a]:=by
  rw[e2,List.take_append_of_le_length (by omega),List.take_add_one,h];rfl
 rw[e3,List.map_append];rfl
def StD (A:Mem) (N:NF) (m:Nat) (M:Mem):Prop:=
 (m<=(stK N m).length/\(stK N m).length<=4096)/\∃(f1 o1 f2 o2 f3 o3 f o:Bool) (q:Nat->Nat) (v:Nat),M=kC A f1 o1 f2 o2 f3 o3 f o N q (stK N m) (rwK N m) (fnK N m) v m
theorem B0 {A:Mem} {f1 o1 f2 o2 f3 o3 f o:Bool} {N:NF} {q:Nat->Nat} {S:List (BitVec 64)} {rows:List (List Int)} {fins:List Bool} {v:Nat} {u:Int} :
  (kC A f1 o1 f2 o2 f3 o3 f o N q S rows fins v u).take (A.length+7)=A++f9 A.length f1 o1 f2 o2 f3 o3 f o N q S rows fins:=mS
theorem PU {A:Mem} {f1 o1 f2 o2 f3 o3 f o:Bool} {N:NF} {q:Nat->Nat} {S:List (BitVec 64)} {rows:List (List Int)} {fins:List Bool} {v:Nat} {u:Int} :
  (kC A f1 o1 f2 o2 f3 o3 f o N q S rows fins v u).drop (A.length+7)=[.cells 0 v [.iface 116 (.ptr (A.length+4) 0 0),p64 u]]:=by
 unfold kC
 rw[<-List.append_assoc]
 exact List.drop_left' (by simp[f9])
theorem vO {A:Mem} {f1 o1 f2 o2 f3 o3 f o:Bool} {N:NF} {q:Nat->Nat} {S:List (BitVec 64)} {rows:List (List Int)} {fins:List Bool} {v:Nat} {u:Int} :
  (kC A f1 o1 f2 o2 f3 o3 f o N q S rows fins v u)[A.length+7]? =some (.cells 0 v [.iface 116 (.ptr (A.length+4) 0 0),p64 u]):=by
 unfold kC;rw[gk];rfl
theorem UT {A:Mem} {f1 o1 f2 o2 f3 o3 f o:Bool} {N:NF} {q:Nat->Nat} {S:List (BitVec 64)} {rows:List (List Int)} {fins:List Bool} {v v':Nat} {u u':Int} :
  (kC A f1 o1 f2 o2 f3 o3 f o N q S rows fins v u).set (A.length+7) (.cells 0 v' [.iface 116 (.ptr (A.length+4) 0 0),p64 u'])=kC A f1 o1 f2 o2 f3 o3 f o N q S rows fins v' u':=by
 unfold kC;rw[sk];rfl
theorem G5 {A:Mem} {f1 o1 f2 o2 f3 o3 f o:Bool} {N:NF} {q:Nat->Nat} {S:List (BitVec 64)} {rows:List (List Int)} {fins:List Bool} {v:Nat} {u:Int} :
  (A++f9 A.length f1 o1 f2 o2 f3 o3 f o N q S rows fins)++[.cells 0 v [.iface 116 (.ptr (A.length+4) 0 0),p64 u]]=kC A f1 o1 f2 o2 f3 o3 f o N q S rows fins v u:=by
 unfold kC;rw[List.append_assoc]
theorem MY {N:NF} {m:Nat} (h:m<=(stK N m).length):(fnK N m).length=m:=by unfold fnK;rw[List.length_map,List.length_take];omega
section
variable {tab:FuncId->Option AF} (T:HasA tab)
include T
theorem UQ {A:Mem} {N:NF} (hc:gT N=0) (B:BnN N) (hA:A.all (cN A.length)=true):
  JobK tab (A.length+7) (A.length+4) 116 253 252 10 (fun m=>(stK N m).length<=m) (fun m=>m<(stK N m).length/\4096<(stK N (m+1)).length) (fun m=>decide (m<(stK N m).length)) (StD A N) where
 job:=by
  rintro m M ⟨_,f1,o1,f2,o2,f3,o3,f,o,q,v,rfl⟩
  exact⟨v,vO⟩
 sm:=by
  rintro m M ⟨⟨h1,h2⟩,_⟩
  omega
 unit:=by
  rintro m M ⟨⟨h1,h2⟩,f1,o1,f2,o2,f3,o3,f,o,q,v,rfl⟩ K k1 k2 k3
  have hrl:(rwK N m).length=m:=sS h1
  have hfl:=MY h1
  have fin:∀(r:PV) (f1 o1 f2 o2 f3 o3 f o:Bool) (q:Nat->Nat) (S:List (BitVec 64)) (rows:List (List Int)) (fins:List Bool),r.under (A.length+7)=true->K r (kC A f1 o1 f2 o2 f3 o3 f o N q S rows fins v m)->
    r.under (A.length+7)=true/\(A++f9 A.length f1 o1 f2 o2 f3 o3 f o N q S rows fins).length=A.length+7/\(A++f9 A.length f1 o1 f2 o2 f3 o3 f o N q S rows fins).all (cN (A.length+7))=true/\K r ((A++f9 A.length f1 o1 f2 o2 f3 o3 f o N q S rows fins)++[.cells 0 v [.iface 116 (.ptr (A.length+4) 0 0),p64 m]]):=
   fun r f1 o1 f2 o2 f3 o3 f o q S rows fins hr hK=>⟨hr,by simp[f9],oR hA ..,by rw[G5];exact hK⟩
  refine lW (m:=A.length+7) (by simp[kC,f9]) (by simp[cF,PV.under]) (by rw[B0];exact oR hA ..) ?_
  rw[B0,PU]
  refine ZC T hc B hA (lH _ _ _ m) h2 (by rw[hrl,hfl]) (fun h=>?_) (fun a ga h=>?_) (fun a ga h q'=>?_)
  ·rw[hrl]at h
   exact fin _ _ _ _ _ _ _ _ _ _ _ _ _ (by simp[PV.under,cF]) (k1 h _ ⟨⟨h1,h2⟩,_,_,_,_,_,_,_,_,_,_,rfl⟩)
  ·rw[hrl]at ga
   have hs:stK N (m+1)=eX (dM N) a (dE N) (stK N m):=i7 ga
   rw[<-hs]at h
   exact fin _ _ _ _ _ _ _ _ _ _ _ _ _ (by simp[PV.under,cF]) (k2 ⟨cM ga,h⟩ _ ⟨⟨h1,h2⟩,_,_,_,_,_,_,_,_,_,_,rfl⟩)
  ·rw[hrl]at ga
   have hs:stK N (m+1)=eX (dM N) a (dE N) (stK N m):=i7 ga
   have hr:=wT ga
   have hf:=U6 ga
   have hlt:=cM ga
   rw[<-hs]at h
   refine fin _ _ _ _ _ _ _ _ _ _ _ _ _ (by simp[PV.under,cF]) (k3 (by omega) (fun q=>by omega) _ v vO ?_)
   rw[UT]
   refine⟨⟨?_,h⟩,f1,o1,f2,o2,f3,o3,true,false,q',v+1,?_⟩
   ·obtain⟨r,e⟩:=lA (dM N) a (dE N) (stK N m)
    by_cases hl:(stK N m).length=m
    ·omega
    ·rw[hs,e];simp;omega
   ·rw[hs,show rwK N (m+1)=_ from hr,hf]
 left:=by
  rintro m M ⟨⟨h1,h2⟩,f1,o1,f2,o2,f3,o3,f,o,q,v,rfl⟩ K k
  have hrl:(rwK N m).length=m:=sS h1
  unfold kC
  refine M6 T ?_
  rw[hrl]
  exact k _ ⟨⟨h1,h2⟩,_,_,_,_,_,_,_,_,_,_,rfl⟩
 meth:= .inl ⟨rfl,rfl,rfl⟩
end
section
variable {tab:FuncId->Option AF} (T:HasA tab)
include T
end
def itr (f:Nat->Nat) (v:Nat):Nat->Nat
 | 0=>v
 | j+1=>f (itr f v j)
def its (f:Nat->Nat) (v m:Nat):List Nat:=(List.range m).map (itr f v)
section
variable {O:Nat->Int} {S:Nat->List Nat} {R:Nat->Int} {D:Nat->Prop} {p q:Int}
end
end Go.Am.Ar

