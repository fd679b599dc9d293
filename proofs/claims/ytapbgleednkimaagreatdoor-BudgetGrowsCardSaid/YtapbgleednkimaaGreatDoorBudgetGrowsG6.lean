/- Contracts: what can be lifted, yielded (candidates), and what goes with it. -/
import Derived.Test.YtapbgleednkimaaGreatDoorBudgetGrowsG5
import Derived.Test.YtapbgleednkimaaGreatDoorPmC
import Derived.Test.YtapbgleednkimaaGreatDoorBudgetGrowsG3
import Derived.Test.YtapbgleednkimaaGreatDoorBudgetGrowsG1
import Derived.Test.YtapbgleednkimaaGreatDoorBudgetGrowsG2
set_option linter.unusedVariables false
set_option linter.unusedSimpArgs false
set_option maxRecDepth 10000
namespace Go.Am.Ar
open Go.Am.PV renaming junk->Zj
open Go.Am renaming lF->P1,tB->P2,PKNo->P3,ppack->P4,PObj.under->P5,pput->P6,ptset->P7,ptget->P8,pev->P9,ofAV->P10,ofAV1->P11,ppad->P12,pfill->P13,eZ->P14,AO.effect->P15
open List renaming replicate->L1
open Nat renaming reduceAdd->N1,reduceSub->N2,reduceMul->N3,reduceLT->N4,reduceLeDiff->N5,reduceEqDiff->N6,reduceBEq->N7
open Int renaming reduceToNat->I1,reduceLT->I2,reduceLE->I3,reduceEq->I4,reduceAdd->I5,reduceSub->I6,reduceNeg->I7
theorem MV {tab:FuncId->Option AF} (id:Nat) (first args:List PV) (M:Mem) (K:PV->Mem->Prop):zL tab (.yld id first) args M K=((∃ver r,M[id]? =some (.loop ver r))/\MO tab id (first++args) M K):=rfl
theorem XR {α:Type} (M:List α) (x:α):(M++[x])[M.length]? =some x:=by simp
theorem aC1 {α:Type} (M:List α) (x y:α):(M++[x]).set M.length y=M++[y]:=by simp
theorem fU {α:Type} {M:List α} {i:Nat} {a:α} (h:M[i]? =some a) (l:List α):(M++l)[i]? =some a:=by
 rw[List.getElem?_append_left (aZ h)];exact h
section
variable {tab:FuncId->Option AF} (T:HasA tab)
include T
set_option maxHeartbeats 1000000 in
theorem aBJ {M:Mem} {K:PV->Mem->Prop} {f1 o1 f2 o2 f3 o3 f4 o4:Bool} {ow pr:List Int} {su:List (List Int)} {L b2 b3 i:Nat} (V:Valid ow pr su) (B:Bnd ow pr su) (J:Nat->List Ms->Mem->Prop) (D:Mem->Prop) {ms0:List Ms} (h0:J 0 ms0 M)
  (hid:∀k ms N,J k ms N->StOk (cA pr) ow.length ms/\N[b3]? =some (.cells 0 0 [.ref i 0 9 0 ow.length])/\N[b2]? =some (.cells 0 0 [.cp (kJ f1 o1 f2 o2 f3 o3 f4 o4 ow pr su) 0])/\(∃ver,N[i]? =some (.cells 0 ver (msL ms)))/\∃ver r,N[L]? =some (.loop ver r))
  (hskip:∀k ms N o,J k ms N->k<ow.length->gL ow pr su (Nf (cA pr) ms) k<=Nf (cA pr) ms k->J (k+1) ms (N++[o]))
  (hy:∀k ms N y,J k ms N->k<ow.length->y.Ok (cA pr)->y.num (cA pr)=gL ow pr su (Nf (cA pr) ms) k->Nf (cA pr) ms k<gL ow pr su (Nf (cA pr) ms) k->∀K':PV->Mem->Prop,(∀ms' N',J (k+1) ms' N'->K' (.bool true) N')->(∀N',D N'->K' (.bool false) N')->MO tab L [p64 k,.agg (msC y)] (N++[.cells 0 1 (msC y)]) K')
  (hk1:∀ms N,J ow.length ms N->K (.tuple []) N) (hk2:∀N,D N->K (.tuple []) N):
  SemC tab 189 [.yld L [],.ptr b3 0 0,.ptr b2 0 0] M K:=by
 have n1:=V.n1
 refine cK T.h189 ?_
 obtain⟨_,p1,_,⟨_,p3⟩,_⟩:=hid 0 ms0 M h0
 simp only[af189,PP,P1,P2,P14,P15,N1,N2,N3,N4,N5,N6,N7,I1,I2,I3,I4,I5,I6,I7,reduceIte,reduceCtorEq,aP,aS,aR,aC,bK,aL,aE,z9,z9t,aQ,aO,aT,aM,aJ,aN,aK,aH,aF,aB,aD,aA,z8,aG,aY,aI,aX,aW,aV,p1,p3]
 refine rQ (fun(k:Nat) (ms:List Ms) (N:Mem)=>k<=ow.length/\J k ms N) (fun k ms N=>(.yld L []:: .ptr b3 0 0:: .ptr b2 0 0::zj 4++p64 ow.length::p64 k::zj 21)) (fun k ms N=>N) (fun k _ _=>ow.length-k) 0 ms0 M ⟨by omega,h0⟩ (by simp only[PW]) rfl ?_
 intro k ms N ⟨hle,hJ⟩ ih
 obtain⟨hm,q1,q2,⟨ver,q3⟩,q4⟩:=hid k ms N hJ
 have hml:=hm.l
 refine bZ (by kernel_rfl) ?_
 simp only[PP,P1,P2,P14,P15,N1,N2,N3,N4,N5,N6,N7,I1,I2,I3,I4,I5,I6,I7,reduceIte,reduceCtorEq]
 refine QIf.intro (fun c=>?_) (fun c=>?_)
 ·have hk':k<ow.length:=by omega
  have k0:(0:Int)<=k:=by omega
  have kn:(k:Int)<ow.length:=by omega
  have hwk:=bG (k:=k) (by show _<1000000000000;omega)
  obtain⟨x,g5⟩:=bY (xs:=ms) (k:=k) (by omega)
  have eN:Nf (cA pr) ms k=x.num (cA pr):=sN g5
  have hx:=hm.ok x (List.mem_of_getElem? g5)
  have r1:=hP g5
  have r2:=xT g5
  have bor:PBor N [.cp (kJ f1 o1 f2 o2 f3 o3 f4 o4 ow pr su) 0,.ref i 0 9 0 ow.length,p64 k] [.cp (kJ f1 o1 f2 o2 f3 o3 f4 o4 ow pr su) 0,slM true false ms,p64 k]:=by
   refine .same (by simp only[PV.under];exact aI _) ?_
   rw[<-hml]
   exact .ref q3 (by rw[aQ];omega) (aO _ _) (by rw[iZ]) (.same rfl .nil)
  simp only[PP,P1,P2,P14,P15,N1,N2,N3,N4,N5,N6,N7,I1,I2,I3,I4,I5,I6,I7,reduceIte,reduceCtorEq,aP,aS,aR,aC,bK,aL,aE,z9,z9t,aQ,aO,aT,aM,aJ,aN,aK,aH,aF,aB,aD,aA,z8,aG,aY,aI,aX,aW,aV,c,q1,q2]
  refine sK bor (WQ T V B hm hk' fun y y1 y2=>⟨by simp only[PV.flat,PV.flatA,rO],?_⟩)
  simp only[PP,P1,P2,P14,P15,N1,N2,N3,N4,N5,N6,N7,I1,I2,I3,I4,I5,I6,I7,reduceIte,reduceCtorEq,aP,aS,aR,aC,bK,aL,aE,z9,z9t,aQ,aO,aT,aM,aJ,aN,aK,aH,aF,aB,aD,aA,z8,aG,aY,aI,aX,aW,aV,XR,aC1,fU q1,fU q3,k0,kn,r1,r2]
  refine kW T ?_
  rw[wG y1 hx]
  simp only[PP,P1,P2,P14,P15,N1,N2,N3,N4,N5,N6,N7,I1,I2,I3,I4,I5,I6,I7,reduceIte,reduceCtorEq,aP,aS,aR,aC,bK,aL,aE,z9,z9t,aQ,aO,aT,aM,aJ,aN,aK,aH,aF,aB,aD,aA,z8,aG,aY,aI,aX,aW,aV]
  refine QIf.intro (fun d=>?_) (fun d=>?_)
  ·have d':=d
   rw[oU]at d'
   simp only[PP,P1,P2,P14,P15,N1,N2,N3,N4,N5,N6,N7,I1,I2,I3,I4,I5,I6,I7,reduceIte,reduceCtorEq,aP,aS,aR,aC,bK,aL,aE,z9,z9t,aQ,aO,aT,aM,aJ,aN,aK,aH,aF,aB,aD,aA,z8,aG,aY,aI,aX,aW,aV,d,XR,MV]
   refine⟨⟨_,_,fU q4.choose_spec.choose_spec _⟩,hy k ms N y hJ hk' y1 y2 (by rw[eN];have:=y2;omega) _ (fun ms' N' hJ'=>?_) fun N' hD=>?_⟩
   ·simp only[PP,P1,P2,P14,P15,N1,N2,N3,N4,N5,N6,N7,I1,I2,I3,I4,I5,I6,I7,reduceIte,reduceCtorEq,hwk]
    exact bB (ih (k+1) ms' N' ⟨by omega,hJ'⟩ (by omega)) (by simp only[PW])
   ·simp only[PP,P1,P2,P14,P15,N1,N2,N3,N4,N5,N6,N7,I1,I2,I3,I4,I5,I6,I7,reduceIte,reduceCtorEq]
    exact hk2 N' hD
  ·have d':=d
   rw[oU]at d'
   simp only[PP,P1,P2,P14,P15,N1,N2,N3,N4,N5,N6,N7,I1,I2,I3,I4,I5,I6,I7,reduceIte,reduceCtorEq,aP,aS,aR,aC,bK,aL,aE,z9,z9t,aQ,aO,aT,aM,aJ,aN,aK,aH,aF,aB,aD,aA,z8,aG,aY,aI,aX,aW,aV,d,hwk]
   exact bB (ih (k+1) ms _ ⟨by omega,hskip k ms N _ hJ hk' (by rw[eN];have:=y2;omega)⟩ (by omega)) (by simp only[PW])
 ·have hkn:k=ow.length:=by omega
  subst hkn
  simp only[PP,P1,P2,P14,P15,N1,N2,N3,N4,N5,N6,N7,I1,I2,I3,I4,I5,I6,I7,reduceIte,reduceCtorEq,c]
  exact hk1 ms N hJ
end
section
variable {α:Type} (M:List α) (x y:α) (l:List α) (i j:Nat)
theorem AG:(M++l)[M.length+j]? =l[j]? :=by
 rw[List.getElem?_append_right (by omega)];congr 1;omega
theorem H2:(M++l)[M.length]? =l[0]? :=by
 rw[List.getElem?_append_right (by omega)];congr 1;omega
theorem setK:(M++l).set (M.length+j) y=M++l.set j y:=by
 rw[List.set_append_right _ _ (by omega)];congr 2;omega
theorem UV:(M++l).set M.length y=M++l.set 0 y:=by
 rw[List.set_append_right _ _ (by omega)];congr 2;omega
theorem aBr:(M.set i x++l)[M.length+j]? =l[j]? :=by
 rw[List.getElem?_append_right (by simp)];congr 1;simp
theorem aCG:(M.set i x++l)[M.length]? =l[0]? :=by
 rw[List.getElem?_append_right (by simp)];congr 1;simp
theorem aCZ:(M.set i x++l).set (M.length+j) y=M.set i x++l.set j y:=by
 rw[List.set_append_right _ _ (by simp)];congr 2;simp
theorem aCu:(M.set i x++l).set M.length y=M.set i x++l.set 0 y:=by
 rw[List.set_append_right _ _ (by simp)];congr 2;simp
theorem aAs {M:List α} {i:Nat} {a:α} (h:M[i]? =some a) (l:List α) (x:α):(M++l).set i x=M.set i x++l:=by
 rw[List.set_append_left _ _ (aZ h)]
end
theorem aBA {n i:Nat} {M:Mem} {x:PObj} (h:M.all (bH n)=true) (hx:bH n x=true):(M.set i x).all (bH n)=true:=by
 rw[List.all_eq_true]at h ⊢
 intro y hy
 rcases List.mem_or_eq_of_mem_set hy with q | q
 ·exact h y q
 ·subst q;exact hx
section
variable {tab:FuncId->Option AF} (T:HasA tab)
include T
set_option maxHeartbeats 2000000 in
theorem UI {M:Mem} {K:PV->Mem->Prop} {f1 o1 f2 o2 f3 o3 f4 o4:Bool} {ow pr:List Int} {su:List (List Int)} {ms:List Ms} {i ver:Nat} (V:Valid ow pr su) (B:Bnd ow pr su) (hm:StOk (cA pr) ow.length ms)
  (hi:M[i]? =some (.cells 0 ver (msL ms))) (hc:M.all (bH M.length)=true)
  (hk1:∀v y,FstN ow.length (gL ow pr su) (Nf (cA pr) ms) v->y.Ok (cA pr)->y.num (cA pr)=gL ow pr su (Nf (cA pr) ms) v->K (.bool true) (M.set i (.cells 0 (ver+1) (msL (ms.set v y)))))
  (hk2:uB ow.length (gL ow pr su) (Nf (cA pr) ms)->K (.bool false) M):
  SemC tab 191 [.cp (kJ f1 o1 f2 o2 f3 o3 f4 o4 ow pr su) 0,.ref i 0 9 0 ow.length] M K:=by
 have hml:=hm.l
 have hil:=aZ hi
 have hget:=fun l=>fU hi l
 have hset:=fun l x=>aAs hi l x
 refine IZ ?_
 refine cK T.h191 ?_
 simp only[af191,PP,P1,P2,P14,P15,N1,N2,N3,N4,N5,N6,N7,I1,I2,I3,I4,I5,I6,I7,reduceIte,reduceCtorEq,aP,aS,aR,aC,bK,aL,aE,z9,z9t,aQ,aO,aT,aM,aJ,aN,aK,aH,aF,aB,aD,aA,z8,aG,aY,aI,aX,aW,aV,List.append_assoc,AG,H2]
 refine cK T.h152 ?_
 simp only[af152,PP,P1,P2,P14,P15,N1,N2,N3,N4,N5,N6,N7,I1,I2,I3,I4,I5,I6,I7,reduceIte,reduceCtorEq,aP,aS,aR,aC,bK,aL,aE,z9,z9t,aQ,aO,aT,aM,aJ,aN,aK,aH,aF,aB,aD,aA,z8,aG,aY,aI,aX,aW,aV,List.append_assoc,AG,H2]
 refine oV rfl (fun lp h1 h2 h3 h4 h5 h6=>?_)
 simp only[PP,P1,P2,P14,P15,N1,N2,N3,N4,N5,N6,N7,I1,I2,I3,I4,I5,I6,I7,reduceIte,reduceCtorEq,aP,aS,aR,aC,bK,aL,aE,z9,z9t,aQ,aO,aT,aM,aJ,aN,aK,aH,aF,aB,aD,aA,z8,aG,aY,aI,aX,aW,aV,List.append_assoc]
 refine aBJ T (f1:=f1) (o1:=o1) (f2:=f2) (o2:=o2) (f3:=f3) (o3:=o3) (f4:=f4) (o4:=o4) V B (fun k ms' N=>ms'=ms/\(∀u,u<k->gL ow pr su (Nf (cA pr) ms) u<=Nf (cA pr) ms u)/\∃G,N=M++(.cells 0 0 [.ref i 0 9 0 ow.length]:: .cells 0 0 [.bool false]:: .cells 0 0 [.cp (kJ f1 o1 f2 o2 f3 o3 f4 o4 ow pr su) 0]:: .cells 0 0 [.ref i 0 9 0 ow.length]:: .loop 0 lp::G))
  (fun N=>∃v y G vb vl,FstN ow.length (gL ow pr su) (Nf (cA pr) ms) v/\y.Ok (cA pr)/\y.num (cA pr)=gL ow pr su (Nf (cA pr) ms) v/\N=M.set i (.cells 0 (ver+1) (msL (ms.set v y)))++(.cells 0 0 [.ref i 0 9 0 ow.length]:: .cells 0 vb [.bool true]:: .cells 0 0 [.cp (kJ f1 o1 f2 o2 f3 o3 f4 o4 ow pr su) 0]:: .cells 0 0 [.ref i 0 9 0 ow.length]:: .loop vl {lp with state:= .done,pending:=some .ret} ::G))
  (i:=i) (ms0:=ms) ⟨rfl,fun u h=>by omega,[],rfl⟩ ?_ ?_ ?_ ?_ ?_
 ·rintro k ms' N ⟨rfl,_,G,rfl⟩
  exact⟨hm,by rw[AG];rfl,by rw[AG];rfl,⟨ver,hget _⟩,⟨0,lp,by rw[AG];rfl⟩⟩
 ·rintro k ms' N o ⟨rfl,q,G,rfl⟩ hk hle
  refine⟨rfl,fun u hu=>?_,G++[o],by simp only[List.append_assoc,List.cons_append]⟩
  by_cases e:u=k
  ·subst e;exact hle
  ·exact q u (by omega)
 ·rintro k ms' N y ⟨rfl,q,G,rfl⟩ hk y1 y2 y3 K' hK1 hK2
  have k0:(0:Int)<=k:=by omega
  have kn:(k:Int)<ow.length:=by omega
  have kl:k<ms'.length:=by omega
  have k9:k*9+9<=ow.length*9:=by omega
  have hpov:=B0 (l:=ms') y kl
  simp only[List.append_assoc,List.cons_append]
  refine zI (ver:=0) (r:=lp) (by rw[AG];rfl) (by rw[h4];rfl) ?_
  rw[h3,h4,h5]
  refine bD ?_
  simp only[lQ,PP,P1,P2,P14,P15,N1,N2,N3,N4,N5,N6,N7,I1,I2,I3,I4,I5,I6,I7,reduceIte,reduceCtorEq,aP,aS,aR,aC,bK,aL,aE,z9,z9t,aQ,aO,aT,aM,aJ,aN,aK,aH,aF,aB,aD,aA,z8,aG,aY,aI,aX,aW,aV,List.append_assoc,AG,H2,setK,UV]
  refine⟨0,lp,rfl,h1,?_⟩
  rw[h6]
  refine bD ?_
  simp only[PP,P1,P2,P14,P15,N1,N2,N3,N4,N5,N6,N7,I1,I2,I3,I4,I5,I6,I7,reduceIte,reduceCtorEq,aP,aS,aR,aC,bK,aL,aE,z9,z9t,aQ,aO,aT,aM,aJ,aN,aK,aH,aF,aB,aD,aA,z8,aG,aY,aI,aX,aW,aV,List.append_assoc,AG,H2,setK,UV,aBr,aCG,aCZ,aCu,hget,hset,k0,kn,k9,hml,hpov]
  refine⟨1,{lp with state:= .busy},by rw[aBr];simp only[List.getElem?_cons_succ,List.getElem?_cons_zero,h6],?_⟩
  rw[if_neg (by intro h;cases h)]
  refine hK2 _ ⟨k,y,G++[.cells 0 1 (msC y),.cells 0 1 (msC y)],1,2,⟨hk,y3,q⟩,y1,y2,?_⟩
  simp only[aCZ,List.set_cons_succ,List.set_cons_zero,h6]
 ·rintro ms' N ⟨rfl,q,G,rfl⟩
  refine⟨0,lp,by rw[AG];rfl,by rw[h1];exact(by intro h;cases h),?_⟩
  rw[h2]
  simp only[PP,P1,P2,P14,P15,N1,N2,N3,N4,N5,N6,N7,I1,I2,I3,I4,I5,I6,I7,reduceIte,reduceCtorEq,aP,aS,aR,aC,bK,aL,aE,z9,z9t,aQ,aO,aT,aM,aJ,aN,aK,aH,aF,aB,aD,aA,z8,aG,aY,aI,aX,aW,aV,List.append_assoc,AG,H2,setK,UV]
  refine⟨_,M,rfl,?_,hk2 q⟩
  rw[List.take_left' rfl]
  exact o9 hc
 ·rintro N ⟨v,y,G,vb,vl,q1,q2,q3,rfl⟩
  refine⟨vl,{lp with state:= .done,pending:=some .ret},by rw[aBr];rfl,(by intro h;cases h),?_⟩
  simp only[PP,P1,P2,P14,P15,N1,N2,N3,N4,N5,N6,N7,I1,I2,I3,I4,I5,I6,I7,reduceIte,reduceCtorEq,aP,aS,aR,aC,bK,aL,aE,z9,z9t,aQ,aO,aT,aM,aJ,aN,aK,aH,aF,aB,aD,aA,z8,aG,aY,aI,aX,aW,aV,List.append_assoc,aBr,aCG,aCZ,aCu]
  refine⟨_,M.set i (.cells 0 (ver+1) (msL (ms.set v y))),rfl,?_,hk1 v y q1 q2 q3⟩
  rw[List.take_left' (by simp)]
  exact o9 (aBA hc (aO _ _))
end
theorem aAc {ns:List Nat} {ms:List Ms} {k:Nat} {y:Ms} (hk:k<ms.length):Nf ns (ms.set k y)=m3 (Nf ns ms) k (y.num ns):=by
 funext v
 unfold Nf m3
 simp only[List.getD]
 by_cases e:v=k
 ·subst e;rw[List.getElem?_set_self hk,if_pos rfl];rfl
 ·rw[List.getElem?_set_ne (by omega),if_neg e]
theorem aCo (ns:List Nat) (n:Nat):Nf ns (List.replicate n mz)=fun _=>0:=by
 funext v
 unfold Nf
 rw[List.getD,List.getElem?_replicate]
 split
 ·exact V4
 ·exact V4
theorem StOk.set {ns:List Nat} {n k:Nat} {ms:List Ms} {y:Ms} (h:StOk ns n ms) (hy:y.Ok ns):StOk ns n (ms.set k y):=
 ⟨by rw[List.length_set];exact h.l,fun x hx=>by
  rcases List.mem_or_eq_of_mem_set hx with q | q
  ·exact h.ok x q
  ·subst q;exact hy⟩
theorem StOk.zero {ns:List Nat} (h8:ns.length=8) (n:Nat):StOk ns n (List.replicate n mz):=⟨by simp,fun x hx=>by rw[List.eq_of_mem_replicate hx];exact aEA h8⟩
theorem StOk.bnd {ns:List Nat} {n:Nat} {ms:List Ms} (h:StOk ns n ms):∀v,v<n->Nf ns ms v<=mT ns:=fun v hv=>by
 obtain⟨x,g⟩:=bY (xs:=ms) (k:=v) (by rw[h.l];exact hv)
 rw[sN g];exact Ms.num_le (h.ok x (List.mem_of_getElem? g))
theorem StOk.eq {ns:List Nat} {n:Nat} {a b:List Ms} (ha:StOk ns n a) (hb:StOk ns n b) (h:∀v,v<n->Nf ns a v=Nf ns b v):a=b:=by
 apply List.ext_getElem?
 intro v
 by_cases hv:v<n
 ·obtain⟨x,gx⟩:=bY (xs:=a) (k:=v) (by rw[ha.l];exact hv)
  obtain⟨y,gy⟩:=bY (xs:=b) (k:=v) (by rw[hb.l];exact hv)
  have:=h v hv
  rw[sN gx,sN gy]at this
  rw[gx,gy,Ms.inj (ha.ok x (List.mem_of_getElem? gx)) (hb.ok y (List.mem_of_getElem? gy)) this]
 ·rw[List.getElem?_eq_none (by rw[ha.l];omega),List.getElem?_eq_none (by rw[hb.l];omega)]
theorem AW {ow pr:List Int} {su:List (List Int)} (V:Valid ow pr su):Lft ow.length (mT (cA pr)) (gL ow pr su):=aDl fun v hv=>⟨(ZM V hv).1,(ZM V hv).2.1⟩
section
variable {tab:FuncId->Option AF} (T:HasA tab)
include T
end
def zO (ow pr:List Int) (su:List (List Int)) (k:Int) (ms:List Ms) (b:Bool) (e:Int):Prop:=
 (¬dU ow pr su=0/\ms=[]/\b=false/\e=dU ow pr su)\/(dU ow pr su=0/\k<0/\ms=[]/\b=false/\e=1)\/
 (dU ow pr su=0/\0<=k/\StOk (cA pr) ow.length ms/\Nf (cA pr) ms=itN ow.length (gL ow pr su) k.toNat/\(b=true↔uB ow.length (gL ow pr su) (Nf (cA pr) ms))/\e=0)
theorem aCH {g v n:Nat} {ms:List Ms} (h:ms.length=n):yN (some (.cells g v (msL ms))) g 9 0 n=some (slM false true ms):=by
 subst h
 rw[hU (by rw[aQ];omega) (aO _ _),iZ]
section
variable {tab:FuncId->Option AF} (T:HasA tab)
include T
end
section
variable {tab:FuncId->Option AF} (T:HasA tab)
include T
set_option maxHeartbeats 1000000 in
theorem YU {K:PV->Mem->Prop} {f1 o1 f2 o2 f3 o3 f4 o4:Bool} {ow pr:List Int} {su:List (List Int)} {n:Int} (B:Bnd ow pr su) (hn:n<=9223372036854775807)
  (c1:dU ow pr su=0) (c2:¬n<0)
  (hk:∀ms b v X,zO ow pr su n ms b 0->K (.tuple [.ref 1 0 9 0 ow.length,.bool b,p64 0]) [X,.cells 0 v (msL ms)]):
  SemC tab 159 [gmP f1 o1 f2 o2 f3 o3 f4 o4 ow pr su,p64 n] [] K:=by
 refine gK (jN T.h159 ?_)
 simp only[af159]
 refine bL (bD ?_)
 simp only[PP,P1,P2,P14,P15,N1,N2,N3,N4,N5,N6,N7,I1,I2,I3,I4,I5,I6,I7,reduceIte,reduceCtorEq]
 refine bL (bD ?_)
 simp only[PP,P1,P2,P14,P15,N1,N2,N3,N4,N5,N6,N7,I1,I2,I3,I4,I5,I6,I7,reduceIte,reduceCtorEq]
 refine EZ T B ?_
 simp only[PP,P1,P2,P14,P15,N1,N2,N3,N4,N5,N6,N7,I1,I2,I3,I4,I5,I6,I7,reduceIte,reduceCtorEq]
 refine QIf.intro (fun c1'=>?_) (fun c1'=>?_)
 rotate_left
 ·exact absurd c1 c1'
 have V:=l8 c1
 have n0:=V.n0
 have n1:=V.n1
 have hL:=AW V
 have b0:(0:Int)<=ow.length:=by omega
 have b72:(ow.length:Int)*72<=140737488355328:=by omega
 have b2:(ow.length:Int)<=9223372036854775807:=by omega
 simp only[PP,P1,P2,P14,P15,N1,N2,N3,N4,N5,N6,N7,I1,I2,I3,I4,I5,I6,I7,reduceIte,reduceCtorEq,aP,aS,aR,aC,bK,aL,aE,z9,z9t,aQ,aO,aT,aM,aJ,aN,aK,aH,aF,aB,aD,aA,z8,aG,aY,aI,aX,aW,aV,c1]
 refine bL (bD ?_)
 simp only[PP,P1,P2,P14,P15,N1,N2,N3,N4,N5,N6,N7,I1,I2,I3,I4,I5,I6,I7,reduceIte,reduceCtorEq,aP,aS,aR,aC,bK,aL,aE,z9,z9t,aQ,aO,aT,aM,aJ,aN,aK,aH,aF,aB,aD,aA,z8,aG,aY,aI,aX,aW,aV]
 refine QIf.intro (fun c2'=>?_) (fun c2'=>?_)
 ·exact absurd c2' c2
 simp only[PP,P1,P2,P14,P15,N1,N2,N3,N4,N5,N6,N7,I1,I2,I3,I4,I5,I6,I7,reduceIte,reduceCtorEq,aP,aS,aR,aC,bK,aL,aE,z9,z9t,aQ,aO,aT,aM,aJ,aN,aK,aH,aF,aB,aD,aA,z8,aG,aY,aI,aX,aW,aV,c2]
 refine bL (bD ?_)
 simp only[PP,P1,P2,P14,P15,N1,N2,N3,N4,N5,N6,N7,I1,I2,I3,I4,I5,I6,I7,reduceIte,reduceCtorEq,aP,aS,aR,aC,bK,aL,aE,z9,z9t,aQ,aO,aT,aM,aJ,aN,aK,aH,aF,aB,aD,aA,z8,aG,aY,aI,aX,aW,aV]
 refine uT T (wP V) ?_
 simp only[PP,P1,P2,P14,P15,N1,N2,N3,N4,N5,N6,N7,I1,I2,I3,I4,I5,I6,I7,reduceIte,reduceCtorEq,aP,aS,aR,aC,bK,aL,aE,z9,z9t,aQ,aO,aT,aM,aJ,aN,aK,aH,aF,aB,aD,aA,z8,aG,aY,aI,aX,aW,aV]
 refine bL (bD ?_)
 simp only[PP,P1,P2,P14,P15,N1,N2,N3,N4,N5,N6,N7,I1,I2,I3,I4,I5,I6,I7,reduceIte,reduceCtorEq,aP,aS,aR,aC,bK,aL,aE,z9,z9t,aQ,aO,aT,aM,aJ,aN,aK,aH,aF,aB,aD,aA,z8,aG,aY,aI,aX,aW,aV,b0,b72,b2,Int.le_refl]
 refine bL (jV (Qn:=fun b N=>∃ver ms,StOk (cA pr) ow.length ms/\Nf (cA pr) ms=itN ow.length (gL ow pr su) n.toNat/\PWeak b (zj 4++ .ref 1 0 9 0 ow.length::zj 3++ .cp (kJ f1 o1 f2 o2 f3 o3 f4 o4 ow pr su) 0::zj 27)/\N=[.cells 0 0 [slI f1 o1 .u8 ow,slI f2 o2 .i64 pr,slR f3 o3 f4 o4 .i64 su],.cells 0 ver (msL ms)]) ?_ ?_ (fun _ _ h=>h) (fun _ _ _ h=>h))
 ·refine bL (bD ?_)
  simp only[PP,P1,P2,P14,P15,N1,N2,N3,N4,N5,N6,N7,I1,I2,I3,I4,I5,I6,I7,reduceIte,reduceCtorEq,aP,aS,aR,aC,bK,aL,aE,z9,z9t,aQ,aO,aT,aM,aJ,aN,aK,aH,aF,aB,aD,aA,z8,aG,aY,aI,aX,aW,aV]
  refine oW ?_
  have k0:0<=n:=by omega
  refine rQ (fun(j ver:Nat) (ms:List Ms)=>(j:Int)<=n/\StOk (cA pr) ow.length ms/\Nf (cA pr) ms=itN ow.length (gL ow pr su) j)
   (fun j ver ms=>(zj 4++ .ref 1 0 9 0 ow.length::zj 3++ .cp (kJ f1 o1 f2 o2 f3 o3 f4 o4 ow pr su) 0::zj 13++p64 n::p64 j::zj 12))
   (fun j ver ms=>[.cells 0 0 [slI f1 o1 .u8 ow,slI f2 o2 .i64 pr,slR f3 o3 f4 o4 .i64 su],.cells 0 ver (msL ms)]) (fun j _ _=>n.toNat-j) 0 0 (List.replicate ow.length mz) ⟨k0,StOk.zero (mM pr) _,aCo _ _⟩ (by simp only[PW]) rfl ?_
  intro j ver ms ⟨hle,hS,hN⟩ ih
  refine bZ (by kernel_rfl) ?_
  simp only[PP,P1,P2,P14,P15,N1,N2,N3,N4,N5,N6,N7,I1,I2,I3,I4,I5,I6,I7,reduceIte,reduceCtorEq]
  refine QIf.intro (fun c=>?_) (fun c=>?_)
  ·have hwj:IntKind.i64.wrap ((j:Int)+1)=((j+1:Nat):Int):=by rw[wrap64 (x:=(j:Int)+1) (by omega) (by omega)];omega
   simp only[PP,P1,P2,P14,P15,N1,N2,N3,N4,N5,N6,N7,I1,I2,I3,I4,I5,I6,I7,reduceIte,reduceCtorEq,c]
   refine UI T V B hS rfl (by simp only[List.all_cons,List.all_nil,bH,bW,cI,hH,iS,gT,l9,aO,Bool.and_self]) (fun v y q1 q2 q3=>?_) (fun q=>?_)
   ·have hv:v<ms.length:=by rw[hS.l];exact q1.1
    simp only[PP,P1,P2,P14,P15,N1,N2,N3,N4,N5,N6,N7,I1,I2,I3,I4,I5,I6,I7,reduceIte,reduceCtorEq,aP,aS,aR,aC,bK,aL,aE,z9,z9t,aQ,aO,aT,aM,aJ,aN,aK,aH,aF,aB,aD,aA,z8,aG,aY,aI,aX,aW,aV,hwj]
    refine bB (ih (j+1) (ver+1) (ms.set v y) ⟨by omega,hS.set q2,?_⟩ (by omega)) (by simp only[PW])
    show _=rG ow.length (gL ow pr su) (itN ow.length (gL ow pr su) j)
    rw[aAc hv,q3,hN,rF (by rw[<-hN];exact q1)]
   ·simp only[PP,P1,P2,P14,P15,N1,N2,N3,N4,N5,N6,N7,I1,I2,I3,I4,I5,I6,I7,reduceIte,reduceCtorEq,aP,aS,aR,aC,bK,aL,aE,z9,z9t,aQ,aO,aT,aM,aJ,aN,aK,aH,aF,aB,aD,aA,z8,aG,aY,aI,aX,aW,aV]
    refine⟨ver,ms,hS,?_,(by simp only[PW]),rfl⟩
    rw[hN]at q ⊢
    obtain⟨d,hd⟩:∃d,n.toNat=j+d:=⟨n.toNat-j,by omega⟩
    rw[hd,OV q]
  ·have hjn:n=(j:Int):=by omega
   subst hjn
   simp only[PP,P1,P2,P14,P15,N1,N2,N3,N4,N5,N6,N7,I1,I2,I3,I4,I5,I6,I7,reduceIte,reduceCtorEq,c]
   exact⟨ver,ms,hS,hN,(by simp only[PW]),rfl⟩
 ·rintro b N ⟨ver,ms,hS,hN,hw,rfl⟩
  refine bB ?_ hw
  refine bD ?_
  simp only[PP,P1,P2,P14,P15,N1,N2,N3,N4,N5,N6,N7,I1,I2,I3,I4,I5,I6,I7,reduceIte,reduceCtorEq,aP,aS,aR,aC,bK,aL,aE,z9,z9t,aQ,aO,aT,aM,aJ,aN,aK,aH,aF,aB,aD,aA,z8,aG,aY,aI,aX,aW,aV]
  refine cK T.h60 ?_
  have hn0:¬ow.length=0:=by omega
  have c72:ow.length*72<=140737488355328:=by omega
  have c2':ow.length<=9223372036854775807:=by omega
  have hps:cW (msL ms) 0 (ow.length*9)=msL ms:=by rw[<-hS.l];exact iZ ms
  have hle9:ow.length*9<=ms.length*9:=by rw[hS.l];omega
  simp only[af60,PP,P1,P2,P14,P15,N1,N2,N3,N4,N5,N6,N7,I1,I2,I3,I4,I5,I6,I7,reduceIte,reduceCtorEq,aP,aS,aR,aC,bK,aL,aE,z9,z9t,aQ,aO,aT,aM,aJ,aN,aK,aH,aF,aB,aD,aA,z8,aG,aY,aI,aX,aW,aV,hn0,c72,c2',hps,hle9]
  refine UI T V B hS rfl (by simp only[List.all_cons,List.all_nil,bH,bW,cI,hH,iS,gT,l9,aO,Bool.and_self]) (fun v y q1 q2 q3=>?_) (fun q=>?_)
  ·simp only[PP,P1,P2,P14,P15,N1,N2,N3,N4,N5,N6,N7,I1,I2,I3,I4,I5,I6,I7,reduceIte,reduceCtorEq,aP,aS,aR,aC,bK,aL,aE,z9,z9t,aQ,aO,aT,aM,aJ,aN,aK,aH,aF,aB,aD,aA,z8,aG,aY,aI,aX,aW,aV,aCH hS.l]
   refine Gh.step (GStep.dropM (b:=[.tuple [.ref 1 0 9 0 ow.length,.bool false,p64 0]]) (N:=[.cells 0 0 [slI f1 o1 .u8 ow,slI f2 o2 .i64 pr,slR f3 o3 f4 o4 .i64 su],.cells 0 ver (msL ms)]) 2 (Nat.zero_le _) (by simp) (by simp only[PW]) (by simp[aU,PV.under]) ?_ rfl) (Gh.same ⟨_,rfl,hk ms false ver _ (.inr (.inr ⟨c1,by omega,hS,hN,⟨fun h=>(by cases h),fun h=>?_⟩,rfl⟩))⟩)
   ·simp[bH,aU,PV.under,bW,cI,aO]
   ·have:=h v q1.1
    have:=q1.2.1
    omega
  ·simp only[PP,P1,P2,P14,P15,N1,N2,N3,N4,N5,N6,N7,I1,I2,I3,I4,I5,I6,I7,reduceIte,reduceCtorEq,aP,aS,aR,aC,bK,aL,aE,z9,z9t,aQ,aO,aT,aM,aJ,aN,aK,aH,aF,aB,aD,aA,z8,aG,aY,aI,aX,aW,aV,aCH hS.l]
   refine Gh.step (GStep.dropM (b:=[.tuple [.ref 1 0 9 0 ow.length,.bool true,p64 0]]) (N:=[.cells 0 0 [slI f1 o1 .u8 ow,slI f2 o2 .i64 pr,slR f3 o3 f4 o4 .i64 su],.cells 0 ver (msL ms)]) 2 (Nat.zero_le _) (by simp) (by simp only[PW]) (by simp[aU,PV.under]) ?_ rfl) (Gh.same ⟨_,rfl,hk ms true ver _ (.inr (.inr ⟨c1,by omega,hS,hN,⟨fun _=>q,fun _=>rfl⟩,rfl⟩))⟩)
   ·simp[bH,aU,PV.under,bW,cI,aO]
end
def dgT (n:Nat):List UInt8:=(mP n).data.toList
theorem O4:((List.range 100).all fun a=>(dgT a).all (fun b=> !(b==32))&&decide ((dgT a).length<=2))=true:=by decide+kernel
theorem EX {n:Nat} (h:n<100):∀b∈dgT n,b≠32:=fun b hb=>by
 have:=(List.all_eq_true.1 O4) n (List.mem_range.2 h)
 simp only[Bool.and_eq_true]at this
 have:=(List.all_eq_true.1 this.1) b hb
 simpa using this
theorem wF {n:Nat} (h:n<100):(dgT n).length<=2:=by
 have:=(List.all_eq_true.1 O4) n (List.mem_range.2 h)
 simp only[Bool.and_eq_true,decide_eq_true_eq]at this
 exact this.2
theorem O3 {a b:Nat} (ha:a<100) (hb:b<100) (h:dgT a=dgT b):a=b:=by
 refine XJ ha hb ?_
 apply ByteArray.ext
 apply Array.ext'
 exact h
def f5 (r:List Int):List UInt8:=r.flatMap fun x=>32::dgT x.toNat
def AB:List Int->List UInt8
 | []=>[]
 | c::r=>dgT c.toNat++f5 r
theorem JU (r:List Int) (x:Int):f5 (r++[x])=f5 r++32::dgT x.toNat:=by simp[f5]
theorem QM {r:List Int} (h:∀x∈r,0<=x/\x<100):(f5 r).length<=3*r.length:=by
 induction r with
 | nil=>simp[f5]
 | cons x r ih=>
  have h1:=wF (n:=x.toNat) (by have:=h x (by simp);omega)
  have h2:=ih fun y hy=>h y (by simp[hy])
  unfold f5 at h2 ⊢
  simp only[List.flatMap_cons,List.length_append,List.length_cons]
  omega
theorem DD:∀{u v:List UInt8} {r s:List Int},(∀b∈u,b≠32)->(∀b∈v,b≠32)->u++f5 r=v++f5 s->u=v/\f5 r=f5 s
 | [],[],r,s,_,_,h=>⟨rfl,h⟩
 | [],b::v,r,s,_,hv,h=>by
  cases r with
  | nil=>simp[f5]at h
  | cons x r=>
   simp only[f5,List.flatMap_cons,List.nil_append,List.cons_append,List.cons.injEq]at h
   exact absurd h.1.symm (hv b (by simp))
 | b::u,[],r,s,hu,_,h=>by
  cases s with
  | nil=>simp[f5]at h
  | cons x s=>
   simp only[f5,List.flatMap_cons,List.nil_append,List.cons_append,List.cons.injEq]at h
   exact absurd h.1 (hu b (by simp))
 | b::u,c::v,r,s,hu,hv,h=>by
  simp only[List.cons_append,List.cons.injEq]at h
  obtain⟨h1,h2⟩:=DD (fun x hx=>hu x (by simp[hx])) (fun x hx=>hv x (by simp[hx])) h.2
  exact⟨by rw[h.1,h1],h2⟩
theorem BB:∀{r s:List Int},(∀x∈r,0<=x/\x<100)->(∀x∈s,0<=x/\x<100)->f5 r=f5 s->r=s
 | [],[],_,_,_=>rfl
 | [],x::s,_,_,h=>by simp[f5]at h
 | x::r,[],_,_,h=>by simp[f5]at h
 | x::r,y::s,hr,hs,h=>by
  have hx:=hr x (by simp)
  have hy:=hs y (by simp)
  have h:(32::dgT x.toNat)++f5 r=(32::dgT y.toNat)++f5 s:=h
  simp only[List.cons_append,List.cons.injEq,true_and]at h
  obtain⟨h1,h2⟩:=DD (EX (by omega)) (EX (by omega)) h
  have e:=O3 (by omega) (by omega) h1
  rw[show x=y by omega,BB (fun z hz=>hr z (by simp[hz])) (fun z hz=>hs z (by simp[hz])) h2]
def PU (l:List Int):Prop:=l≠[]/\∀x∈l,0<=x/\x<100
def HO (l:List Int):ByteArray:=⟨(AB l).toArray⟩
theorem W1:∀{a b:List Int},PU a->PU b->HO a=HO b->a=b
 | [],_,h,_,_=>absurd rfl h.1
 | _::_,[],_,h,_=>absurd rfl h.1
 | x::r,y::s,ha,hb,h=>by
  have h:dgT x.toNat++f5 r=dgT y.toNat++f5 s:=by
   have:=congrArg (fun q:ByteArray=>q.data.toList) h
   simpa [HO,AB] using this
  have hx:=ha.2 x (by simp)
  have hy:=hb.2 y (by simp)
  obtain⟨h1,h2⟩:=DD (EX (by omega)) (EX (by omega)) h
  have e:=O3 (by omega) (by omega) h1
  rw[show x=y by omega,BB (fun z hz=>ha.2 z (by simp[hz])) (fun z hz=>hb.2 z (by simp[hz])) h2]
def eL (nx:List (List Int)) (c:List Int) (s:Nat):List Int:=c.getD s 0::((nx[s]?).getD []).map fun t=>c.getD t.toNat 0
def rfN (nx:List (List Int)) (c:List Int):List Int:=lB (fun _ y=>eL nx c y) ([]:List Int) [] nx.length
def kE (D:DF):List Int:=(List.range D.nx.length).map fun s=>if(D.fi.getD s false)=(D.fi.getD 0 false) then 0 else 1
def dA (D:DF):Nat->List Int
 | 0=>kE D
 | k+1=>rfN D.nx (dA D k)
theorem rK (nx:List (List Int)) (c:List Int):(rfN nx c).length=nx.length:=iK ..
theorem gN (D:DF):∀k,(dA D k).length=D.nx.length
 | 0=>by simp[dA,kE]
 | k+1=>rK ..
theorem aAt {α:Type} [DecidableEq α] (δ:α->Nat->α) (a:α) (n:Nat):∀x∈lB δ a [] n,0<=x/\x<n:=fun x hx=>by
 unfold lB at hx
 obtain⟨y,hy,rfl⟩:=List.mem_map.1 hx
 have hy:=List.mem_range.1 hy
 have hm:δ a y∈eH δ a n []:=(mK _ _ _ _ _).2 (.inr ⟨y,hy,rfl⟩)
 have h1:=List.idxOf_lt_length_of_mem hm
 have h2:=qJ δ a [] n
 have h3:=lK δ a [] n
 rw[List.nil_append]at h3
 rw[h3]at h1 ⊢
 omega
theorem aC3 (nx:List (List Int)) (c:List Int):∀x∈rfN nx c,0<=x/\x<nx.length:=fun x hx=>aAt _ _ _ x hx
theorem aAu {D:DF} (h:D.nx.length<=99):∀k,∀x∈dA D k,0<=x/\x<100
 | 0,x,hx=>by
  unfold dA kE at hx
  obtain⟨y,hy,rfl⟩:=List.mem_map.1 hx
  split<;>omega
 | k+1,x,hx=>by
  have:=aC3 _ _ x hx
  omega
theorem BP {D:DF} {k:Nat} (h:dA D (k+1)=dA D k):∀j,dA D (k+j)=dA D k
 | 0=>rfl
 | j+1=>by
  show rfN D.nx (dA D (k+j))=_
  rw[BP h j];exact h
theorem EO {c:List Int} {b:Int} (hb:0<b) (h:∀x∈c,0<=x/\x<b) (k:Nat):0<=c.getD k 0/\c.getD k 0<b:=by
 rw[List.getD]
 cases hx:c[k]? with
 | none=>simp;exact hb
 | some x=>simpa using h x (List.mem_of_getElem? hx)
theorem HL (nx:List (List Int)) {c:List Int} (h:∀x∈c,0<=x/\x<100) (s:Nat):PU (eL nx c s):=by
 refine⟨by simp[eL],fun x hx=>?_⟩
 unfold eL at hx
 rcases List.mem_cons.1 hx with rfl | hx
 ·exact EO (by omega) h s
 ·obtain⟨t,_,rfl⟩:=List.mem_map.1 hx
  exact EO (by omega) h _
theorem IM (l:List UInt8):(iL l).all PV.one=true:=by
 rw[List.all_eq_true]
 intro x hx
 obtain⟨c,_,rfl⟩:=List.mem_map.1 hx
 rfl
theorem YI (n:Nat):(mP n).data.toList.map (fun b:UInt8=>PV.int .u8 ((b.toNat:Nat):Int))=iL (dgT n):=rfl
section
variable {tab:FuncId->Option AF} (T:HasA tab)
include T
theorem aBS {M:Mem} {K:PV->Mem->Prop} {c:Int} (h0:0<=c) (h1:c<100) (hk:K (.ref M.length 0 1 0 (dgT c.toNat).length) (M++[.cells 0 0 (iL (dgT c.toNat))])):
  SemC tab 188 [.nils,p64 c,p64 10] M K:=by
 have hu:IntKind.u64.wrap c=c:=by
  unfold IntKind.wrap;simp[IntKind.bits,IntKind.signed];omega
 have hi:IntKind.i64.wrap c=((c.toNat:Nat):Int):=by rw[wrap64]<;>omega
 have hn:¬c<0:=by omega
 have hl:=wF (n:=c.toNat) (by omega)
 have hsz:(mP c.toNat).size=(dgT c.toNat).length:=rfl
 have b1:(dgT c.toNat).length<=140737488355328:=by omega
 have b2:(dgT c.toNat).length<=9223372036854775807:=by omega
 refine cK T.h188 ?_
 simp only[af188,PP,P1,P2,P14,P15,N1,N2,N3,N4,N5,N6,N7,I1,I2,I3,I4,I5,I6,I7,reduceIte,reduceCtorEq]
 refine cK T.h218 ?_
 simp only[af218,PP,P1,P2,P14,P15,N1,N2,N3,N4,N5,N6,N7,I1,I2,I3,I4,I5,I6,I7,reduceIte,reduceCtorEq,hu,hn]
 refine cK T.h177 ?_
 simp only[af177,PP,P1,P2,P14,P15,N1,N2,N3,N4,N5,N6,N7,I1,I2,I3,I4,I5,I6,I7,reduceIte,reduceCtorEq,hi,h1]
 refine NW T (by omega) ?_
 simp only[PP,P1,P2,P14,P15,N1,N2,N3,N4,N5,N6,N7,I1,I2,I3,I4,I5,I6,I7,reduceIte,reduceCtorEq,hsz,b1,b2]
 exact⟨IM _,hk⟩
theorem aBR {M:Mem} {K:PV->Mem->Prop} {c:Int} {id g v:Nat} {l:List UInt8} (hM:M[id]? =some (.cells g v (iL l))) (hl0:l.length<1000000000) (h0:0<=c) (h1:c<100) (hk:K (.ref id (g+1) 1 0 (l++dgT c.toNat).length) (M.set id (.cells (g+1) 0 (iL (l++dgT c.toNat))))):
  SemC tab 188 [.ref id g 1 0 l.length,p64 c,p64 10] M K:=by
 have hu:IntKind.u64.wrap c=c:=by
  unfold IntKind.wrap;simp[IntKind.bits,IntKind.signed];omega
 have hi:IntKind.i64.wrap c=((c.toNat:Nat):Int):=by rw[wrap64]<;>omega
 have hn:¬c<0:=by omega
 have hl:=wF (n:=c.toNat) (by omega)
 have hsz:(mP c.toNat).size=(dgT c.toNat).length:=rfl
 have b1:l.length+(dgT c.toNat).length<=140737488355328:=by omega
 have b2:l.length+(dgT c.toNat).length<=9223372036854775807:=by omega
 have b3:l.length<=(iL l).length:=by simp
 have b4:0<(dgT c.toNat).length\/l.length=(iL l).length:= .inr (by simp)
 refine cK T.h188 ?_
 simp only[af188,PP,P1,P2,P14,P15,N1,N2,N3,N4,N5,N6,N7,I1,I2,I3,I4,I5,I6,I7,reduceIte,reduceCtorEq]
 refine cK T.h218 ?_
 simp only[af218,PP,P1,P2,P14,P15,N1,N2,N3,N4,N5,N6,N7,I1,I2,I3,I4,I5,I6,I7,reduceIte,reduceCtorEq,hu,hn]
 refine cK T.h177 ?_
 simp only[af177,PP,P1,P2,P14,P15,N1,N2,N3,N4,N5,N6,N7,I1,I2,I3,I4,I5,I6,I7,reduceIte,reduceCtorEq,hi,h1]
 refine NW T (by omega) ?_
 simp only[PP,P1,P2,P14,P15,N1,N2,N3,N4,N5,N6,N7,I1,I2,I3,I4,I5,I6,I7,reduceIte,reduceCtorEq,hM,hsz,b1,b2,b3,b4]
 rw[YI]
 refine⟨IM _,?_⟩
 rw[List.length_append]at hk
 have e:iL l++iL (dgT c.toNat)=iL (l++dgT c.toNat):=by simp[iL]
 rw[e]
 exact hk
set_option maxHeartbeats 1000000 in
theorem aBO {M:Mem} {K:PV->Mem->Prop} {f1 o1 f2 o2 f3 o3:Bool} {D:DF} (B:BnD D) (hf:D.fi.length=D.nx.length) (h0:0<D.nx.length) (hk:K (slI false true .i64 (kE D)) M):
  SemC tab 148 [.agg (dfC f1 o1 f2 o2 f3 o3 D)] M K:=by
 have hb:D.nx.length<1000000000000:=B.n
 have b1:(D.nx.length:Int)*8<=140737488355328:=by omega
 have b2:(D.nx.length:Int)<=9223372036854775807:=by omega
 have nn:(0:Int)<=(D.nx.length:Int):=by omega
 obtain⟨z,gz⟩:=bY (xs:=D.fi) (k:=0) (by omega)
 have z0:(0:Int)<D.fi.length:=by omega
 refine a8 T.h148 (by simp only[PP,P1,P2,P14,P15,N1,N2,N3,N4,N5,N6,N7,I1,I2,I3,I4,I5,I6,I7,reduceIte,reduceCtorEq]) ?_
 simp only[af148,PP,P1,P2,P14,P15,N1,N2,N3,N4,N5,N6,N7,I1,I2,I3,I4,I5,I6,I7,reduceIte,reduceCtorEq,b1,b2,nn,Int.le_refl]
 refine iF (fun(k v:Nat)=>k<=D.nx.length) (fun k v=>(.junk:: .ptr 0 0 0:: .junk:: .ref 1 0 1 0 D.nx.length::zj 6++p64 D.nx.length::p64 k::zj 17))
  (fun k v=>[.cells 0 0 (dfC f1 o1 f2 o2 f3 o3 D),.cells 0 v (((kE D).take k++List.replicate (D.nx.length-k) 0).map p64)]) (fun k v=>D.nx.length-k) 0 0 (by omega) (by simp only[PW]) (by simp[BW]) ?_
 intro k v hk' ih
 have hbl:(kE D).length=D.nx.length:=gN D 0
 refine bZ (by kernel_rfl) ?_
 simp only[PP,P1,P2,P14,P15,N1,N2,N3,N4,N5,N6,N7,I1,I2,I3,I4,I5,I6,I7,reduceIte,reduceCtorEq]
 refine QIf.intro (fun c=>?_) (fun c=>?_)
 rotate_left
 ·obtain rfl:k=D.nx.length:=by omega
  rw[Nat.sub_self,List.replicate_zero,List.take_of_length_le (by omega)]
  have hfz:yN (some (PObj.cells 0 v ((kE D).map p64))) 0 1 0 D.nx.length=some (slI false true .i64 (kE D)):=by
   rw[hU (by simp[hbl]) (bW _ _ _),dJ _ _ (by simp[hbl])]
   simp only[slI,hbl]
  simp only[PP,P1,P2,P14,P15,N1,N2,N3,N4,N5,N6,N7,I1,I2,I3,I4,I5,I6,I7,reduceIte,reduceCtorEq,c,hfz]
  exact hk
 have hlt:k<D.nx.length:=by omega
 have k0:(0:Int)<=k:=by omega
 have kf:(k:Int)<D.fi.length:=by omega
 have hw:=bG (k:=k) (by show _<1000000000000;omega)
 obtain⟨b,gb⟩:=bY (xs:=D.fi) (k:=k) (by omega)
 have hat:(kE D)[k]? =some (if b=z then 0 else 1):=by
  unfold kE
  rw[List.getElem?_map,List.getElem?_range hlt]
  simp[List.getD,gb,gz]
 have htk:=iB hat
 have hrep:List.replicate (D.nx.length-k) (0:Int)=0::List.replicate (D.nx.length-(k+1)) 0:=by
  rw[show D.nx.length-k=(D.nx.length-(k+1))+1 by omega,List.replicate_succ]
 have hcl:((kE D).take k).length=k:=by rw[List.length_take];omega
 simp only[PP,P1,P2,P14,P15,N1,N2,N3,N4,N5,N6,N7,I1,I2,I3,I4,I5,I6,I7,reduceIte,reduceCtorEq,c,k0,kf,gb,gz,z0]
 by_cases hbz:b=z
 ·rw[if_pos hbz]at htk
  have he:(b==z)=true:=by rw[hbz];simp
  simp only[PP,P1,P2,P14,P15,N1,N2,N3,N4,N5,N6,N7,I1,I2,I3,I4,I5,I6,I7,reduceIte,reduceCtorEq,he,hw]
  refine dR (ih (k+1) v (by omega) (by omega)) (by simp only[PW]) ?_
  rw[htk,hrep];simp only[List.map_append,List.map_cons,List.map_nil,List.append_assoc,List.cons_append,List.nil_append]
 ·rw[if_neg hbz]at htk
  have he:(b==z)=false:=beq_false_of_ne hbz
  have hkl2:k+1<=k+(D.nx.length-k):=by omega
  have hkl3:k<D.nx.length:=hlt
  simp only[PP,P1,P2,P14,P15,N1,N2,N3,N4,N5,N6,N7,I1,I2,I3,I4,I5,I6,I7,reduceIte,reduceCtorEq,he,hw,c,k0,hcl,hkl2,hkl3]
  refine dR (ih (k+1) (v+1) (by omega) (by omega)) (by simp only[PW]) ?_
  rw[htk,hrep,List.set_append_right _ _ (by rw[List.length_map,hcl];exact Nat.le_refl _)]
  simp only[List.map_append,List.map_cons,List.map_nil,List.append_assoc,List.cons_append,List.nil_append,List.length_map,hcl,Nat.sub_self,List.set_cons_zero]
end
theorem IK (i v v':Nat) (e e':List (PV×PV)) (R:Mem):eA i (.map v e::R) (.map v' e'::R)=if v=v' then [] else [i]:=by
 unfold eA
 simp only[mD,nR,beq_iff_eq]
section
variable {tab:FuncId->Option AF} (T:HasA tab)
include T
theorem aAU {M:Mem} {K:PV->Mem->Prop} {f1 o1 f2 o2 f3 o3:Bool} {D:DF} (hk:K (.func (.func 217) [] [.cp (dfC f1 o1 f2 o2 f3 o3 D) 0]) M):
  SemC tab 187 [.agg (dfC f1 o1 f2 o2 f3 o3 D)] M K:=by
 refine fD T.h187 (by simp only[PP,P1,P2,P14,P15,N1,N2,N3,N4,N5,N6,N7,I1,I2,I3,I4,I5,I6,I7,reduceIte,reduceCtorEq]) ?_
 simp only[af187]
 refine bL (bD ?_)
 simp only[PP,P1,P2,P14,P15,N1,N2,N3,N4,N5,N6,N7,I1,I2,I3,I4,I5,I6,I7,reduceIte,reduceCtorEq]
 refine d8 (GStep.freezeP (b:=(.junk:: .cp (dfC f1 o1 f2 o2 f3 o3 D) 0:: .nilfunc:: .junk::[])) 0 (Nat.zero_le _) rfl (by simp only[nZ,n7,List.cons_append,List.nil_append,fP,eU,eT,fM]) rfl) ?_
 refine bD ?_
 have e:∀N':Mem,jB 0 N' (.func (.func 217) [] [.cp (dfC f1 o1 f2 o2 f3 o3 D) 0])=some (.func (.func 217) [] [.cp (dfC f1 o1 f2 o2 f3 o3 D) 0]):=fun N'=>uS (M:=N') (by simp only[PP,P1,P2,P14,P15,N1,N2,N3,N4,N5,N6,N7,I1,I2,I3,I4,I5,I6,I7,reduceIte,reduceCtorEq,PV.under])
 simp only[PP,P1,P2,P14,P15,N1,N2,N3,N4,N5,N6,N7,I1,I2,I3,I4,I5,I6,I7,reduceIte,reduceCtorEq,e]
 exact hk
set_option maxHeartbeats 1000000 in
theorem V8 {M:Mem} {K:PV->Mem->Prop} {L:Nat} {f1 o1 f2 o2 f3 o3:Bool} {D:DF} (hb:D.nx.length<1000000000000) (J:Nat->Mem->Prop) (h0:J 0 M)
  (hl:∀k G,J k G->∃ver r,G[L]? =some (.loop ver r))
  (hy:∀k G row,J k G->D.nx[k]? =some row->∀K':PV->Mem->Prop,(∀G',J (k+1) G'->K' (.bool true) G')->MO tab L [p64 k,slI f2 o2 .i64 row] G K')
  (hk:∀G,J D.nx.length G->K (.tuple []) G):
  SemC tab 217 [.yld L [],.cp (dfC f1 o1 f2 o2 f3 o3 D) 0] M K:=by
 refine cK T.h217 ?_
 simp only[af217,PP,P1,P2,P14,P15,N1,N2,N3,N4,N5,N6,N7,I1,I2,I3,I4,I5,I6,I7,reduceIte,reduceCtorEq]
 refine iF (fun(i:Nat) (G:Mem)=>i<=D.nx.length/\J i G) (fun i G=>(.yld L []::zj 5++slR f1 o1 f2 o2 .i64 D.nx::p64 D.nx.length::p64 i::zj 10)) (fun _ G=>G) (fun i _=>D.nx.length-i) 0 M ⟨by omega,h0⟩ (by simp only[PW]) rfl ?_
 intro i G ⟨hle,hJ⟩ ih
 refine bZ (by kernel_rfl) ?_
 simp only[PP,P1,P2,P14,P15,N1,N2,N3,N4,N5,N6,N7,I1,I2,I3,I4,I5,I6,I7,reduceIte,reduceCtorEq]
 refine QIf.intro (fun c=>?_) (fun c=>?_)
 rotate_left
 ·obtain rfl:i=D.nx.length:=by omega
  simp only[PP,P1,P2,P14,P15,N1,N2,N3,N4,N5,N6,N7,I1,I2,I3,I4,I5,I6,I7,reduceIte,reduceCtorEq,c]
  exact hk G hJ
 have hi':i<D.nx.length:=by omega
 obtain⟨e,ge⟩:=bY hi'
 have hw:=bG (k:=i) (by show _<1000000000000;omega)
 have i0:(0:Int)<=i:=by omega
 simp only[PP,P1,P2,P14,P15,N1,N2,N3,N4,N5,N6,N7,I1,I2,I3,I4,I5,I6,I7,reduceIte,reduceCtorEq,c,i0,ge,JC]
 refine⟨hl _ _ hJ,?_⟩
 refine hy _ _ e hJ ge _ fun G' hJ'=>?_
 simp only[PP,P1,P2,P14,P15,N1,N2,N3,N4,N5,N6,N7,I1,I2,I3,I4,I5,I6,I7,reduceIte,reduceCtorEq,hw]
 exact dR (ih (i+1) G' ⟨by omega,hJ'⟩ (by omega)) (by simp only[PW]) rfl
theorem aDC {α:Type} [DecidableEq α] {κ:α->ByteArray} {Dm:α->Prop} (hinj:∀a b,Dm a->Dm b->κ a=κ b->a=b) {o:List α} {b:α} (hb:Dm b) (ho:∀a∈o,Dm a)
  {N:Mem} {K:PV->Mem->Prop} {i j ver vb:Nat} (hi:N[i]? =some (.map ver (smE (j9 κ 0 o)))) (hj:N[j]? =some (.cells 0 vb [.map i]))
  (hk:∀ver',K (p64 ((fG o b).idxOf b:Nat)) (N.set i (.map ver' (smE (j9 κ 0 (fG o b)))))):
  SemC tab 186 [.str (κ b),.ptr j 0 0] N K:=by
 have hlk:=pC hinj hb o 0 ho
 refine cK T.h186 ?_
 simp only[af186,PP,P1,P2,P14,P15,N1,N2,N3,N4,N5,N6,N7,I1,I2,I3,I4,I5,I6,I7,reduceIte,reduceCtorEq,cF,bV,cE,bF,cG,dF,bU,bT,cC,cN,cO,cP,cQ,cM,dB,bN,bO,bC,bP,cT,cU,cD,dG,cV,cR,cB,dC,bR,dD,bS,bE,bM,hi,hj]
 by_cases hm:b∈o
 ·rw[if_pos hm]at hlk
  have e:fG o b=o:=by unfold fG;rw[if_pos hm]
  have h:=hk ver
  rw[e]at h
  have hs:N.set i (.map ver (smE (j9 κ 0 o)))=N:=by
   refine List.ext_getElem? fun x=>?_
   by_cases hx:i=x
   ·subst hx
    rw[List.getElem?_set_self (aZ hi),hi]
   ·rw[List.getElem?_set_ne hx]
  rw[hs]at h
  simp only[PP,P1,P2,P14,P15,N1,N2,N3,N4,N5,N6,N7,I1,I2,I3,I4,I5,I6,I7,reduceIte,reduceCtorEq,cF,bV,cE,bF,cG,dF,bU,bT,cC,cN,cO,cP,cQ,cM,dB,bN,bO,bC,bP,cT,cU,cD,dG,cV,cR,cB,dC,bR,dD,bS,bE,bM,hlk]
  exact h
 ·rw[if_neg hm]at hlk
  have e:fG o b=o++[b]:=by unfold fG;rw[if_neg hm]
  have h:=hk (ver+1)
  have e2:=tF κ b o 0
  rw[Nat.zero_add]at e2
  have e3:(o++[b]).idxOf b=o.length:=by rw[List.idxOf_append,if_neg hm];simp
  rw[e,e3]at h
  have hl0:=G4 κ o 0
  have hp:=DL (κ b) (p64 o.length) (j9 κ 0 o) hlk
  rw[e2]at hp
  simp only[PP,P1,P2,P14,P15,N1,N2,N3,N4,N5,N6,N7,I1,I2,I3,I4,I5,I6,I7,reduceIte,reduceCtorEq,cF,bV,cE,bF,cG,dF,bU,bT,cC,cN,cO,cP,cQ,cM,dB,bN,bO,bC,bP,cT,cU,cD,dG,cV,cR,cB,dC,bR,dD,bS,bE,bM,hlk,hi,hj,hl0,hp]
  exact h
end
abbrev tQ (nx:List (List Int)) (c:List Int):List Int->Nat->List Int:=fun _ y=>eL nx c y
abbrev aC8 (nx:List (List Int)) (c:List Int) (k vm v ver:Nat) (lp:PLoop):Mem:=
 [.gone,.gone,.map vm (smE (j9 HO 0 (eH (tQ nx c) [] k []))),.cells 0 1 [.map 2],.cells 0 1 [.func (.func 186) [] [.ptr 3 0 0]],.cells 0 v ((lB (tQ nx c) [] [] k++List.replicate (nx.length-k) 0).map p64),.cells 0 1 [.ref 5 0 1 0 nx.length],.loop ver lp]
section
variable {tab:FuncId->Option AF} (T:HasA tab)
include T
set_option maxHeartbeats 2000000 in
theorem U4 {M:Mem} {K:PV->Mem->Prop} {f1 o1 f2 o2 f3 o3 f o:Bool} {D:DF} {c:List Int} (B:BnD D) (hcl:c.length=D.nx.length) (hrow:∀r∈D.nx,r.length<=64/\∀t∈r,0<=t/\t<D.nx.length) (h100:∀x∈c,0<=x/\x<100)
  (hk:K (slI false true .i64 (rfN D.nx c)) M):SemC tab 149 [.agg (dfC f1 o1 f2 o2 f3 o3 D),slI f o .i64 c] M K:=by
 have hb:D.nx.length<1000000000000:=B.n
 have b1:(D.nx.length:Int)*8<=140737488355328:=by omega
 have b2:(D.nx.length:Int)<=9223372036854775807:=by omega
 have nn:(0:Int)<=(D.nx.length:Int):=by omega
 refine fD T.h149 (by simp only[PP,P1,P2,P14,P15,N1,N2,N3,N4,N5,N6,N7,I1,I2,I3,I4,I5,I6,I7,reduceIte,reduceCtorEq]) ?_
 simp only[af149]
 refine bL (bD ?_)
 simp only[PP,P1,P2,P14,P15,N1,N2,N3,N4,N5,N6,N7,I1,I2,I3,I4,I5,I6,I7,reduceIte,reduceCtorEq]
 refine d8 (GStep.freezeP (b:=(.junk:: .junk:: .cp (dfC f1 o1 f2 o2 f3 o3 D) 0:: .ptr 1 0 0:: .nils::zj 45)) 0 (Nat.zero_le _) rfl (by simp only[nZ,n7,List.cons_append,List.nil_append,fP,eU,eT,fM]) rfl) ?_
 refine d8 (GStep.freezeP (b:=(.junk:: .junk:: .cp (dfC f1 o1 f2 o2 f3 o3 D) 0:: .cp [slI f o .i64 c] 0:: .nils::zj 45)) 1 (Nat.zero_le _) rfl (by simp only[nZ,n7,List.cons_append,List.nil_append,fP,eU,eT,fM]) rfl) ?_
 refine bD ?_
 simp only[PP,P1,P2,P14,P15,N1,N2,N3,N4,N5,N6,N7,I1,I2,I3,I4,I5,I6,I7,reduceIte,reduceCtorEq,cF,bV,cE,bF,cG,dF,bU,bT,cC,cN,cO,cP,cQ,cM,dB,bN,bO,bC,bP,cT,cU,cD,dG,cV,cR,cB,dC,bR,dD,bS,bE,bM,hcl,b1,b2,nn,Int.le_refl]
 refine aAU T ?_
 simp only[PP,P1,P2,P14,P15,N1,N2,N3,N4,N5,N6,N7,I1,I2,I3,I4,I5,I6,I7,reduceIte,reduceCtorEq]
 refine bB (b:=(zj 3++ .cp [slI f o .i64 c] 0:: .junk:: .junk:: .ptr 4 0 0:: .ptr 6 0 0::zj 11++ .func (.func 217) [] [.cp (dfC f1 o1 f2 o2 f3 o3 D) 0]::zj 30)) ?_ (by simp only[PW])
 refine oV rfl (fun lp q1 q2 q3 q4 q5 q6=>?_)
 simp only[PP,P1,P2,P14,P15,N1,N2,N3,N4,N5,N6,N7,I1,I2,I3,I4,I5,I6,I7,reduceIte,reduceCtorEq]
 refine V8 T (L:=7) hb (fun k G=>∃vm v ver Gs,G=aC8 D.nx c k vm v ver lp++Gs) ⟨0,0,0,[],?_⟩ ?_ ?_ ?_
 ·simp only[aC8,eH,lB,List.range_zero,List.map_nil,List.nil_append,Nat.sub_zero,List.map_replicate,List.append_nil]
  rfl
 ·rintro k G ⟨vm,v,ver,Gs,rfl⟩
  exact⟨ver,lp,rfl⟩
 ·rintro k G row ⟨vm,v,ver,Gs,rfl⟩ grow K' hK'
  refine zI (ver:=ver) (r:=lp) rfl (by rw[q4];rfl) ?_
  rw[q3,q4,q5]
  refine bD ?_
  simp only[lQ,PP,P1,P2,P14,P15,N1,N2,N3,N4,N5,N6,N7,I1,I2,I3,I4,I5,I6,I7,reduceIte,reduceCtorEq,List.append_assoc,gk,gk0,sk,sk0]
  refine⟨ver,lp,rfl,q1,?_⟩
  have hlb:({ ({lp with state:= .busy} :PLoop) with state:= .ready,pending:=none} :PLoop)=lp:=WK q1 q2
  generalize ({lp with state:= .busy} :PLoop)=lb at hlb ⊢
  rw[q6]
  refine bD ?_
  have hk:k<D.nx.length:=aZ grow
  have k0:(0:Int)<=k:=by omega
  have kc:(k:Int)<D.nx.length:=by omega
  obtain⟨x,gx⟩:=bY (xs:=c) (k:=k) (by omega)
  obtain⟨x0,x1⟩:=h100 x (List.mem_of_getElem? gx)
  simp only[PP,P1,P2,P14,P15,N1,N2,N3,N4,N5,N6,N7,I1,I2,I3,I4,I5,I6,I7,reduceIte,reduceCtorEq,List.append_assoc,gk,gk0,sk,sk0,hcl,k0,kc,gx]
  refine aBS T x0 x1 ?_
  simp only[PP,P1,P2,P14,P15,N1,N2,N3,N4,N5,N6,N7,I1,I2,I3,I4,I5,I6,I7,reduceIte,reduceCtorEq,List.append_assoc,gk,gk0,sk,sk0]
  have hrw:=hrow row (List.mem_of_getElem? grow)
  have hrl:row.length<=64:=hrw.1
  have hks:∀j,AB (x::(row.take (j+1)).map fun t=>c.getD t.toNat 0)=AB (x::(row.take j).map fun t=>c.getD t.toNat 0)++(match row[j]? with | some t=>32::dgT (c.getD t.toNat 0).toNat | none=>[]):=fun j=>by
   show dgT x.toNat++f5 _=(dgT x.toNat++f5 _)++_
   rw[List.take_add_one]
   cases row[j]? with
   | none=>simp
   | some t=>rw[Option.toList_some,List.map_append,List.map_cons,List.map_nil,JU,List.append_assoc]
  have hkl:∀j,j<=row.length->(AB (x::(row.take j).map fun t=>c.getD t.toNat 0)).length<=200:=fun j hj=>by
   show(dgT x.toNat++f5 _).length<=200
   have h1:=wF (n:=x.toNat) (by omega)
   have h2:=QM (r:=(row.take j).map fun t=>c.getD t.toNat 0) (fun y hy=>by
    obtain⟨t,_,rfl⟩:=List.mem_map.1 hy
    exact EO (by omega) h100 _)
   simp only[List.length_append,List.length_map,List.length_take]at h2 ⊢
   omega
  have hk0':AB (x::(row.take 0).map fun t=>c.getD t.toNat 0)=dgT x.toNat:=by simp[AB,f5]
  generalize hkf:(fun j=>AB (x::(row.take j).map fun t=>c.getD t.toNat 0))=kf
  have hkf':∀j,AB (x::(row.take j).map fun t=>c.getD t.toNat 0)=kf j:=fun j=>by rw[<-hkf]
  simp only[hkf']at hks hkl hk0'
  rw[<-hk0']
  refine rQ (fun(j g w:Nat)=>j<=row.length) (fun j g w=>(zj 3++ .cp [slI f o .i64 c] 0:: .junk:: .junk:: .ptr 4 0 0:: .ptr 6 0 0::p64 k:: .junk:: .ref (Gs.length+1+1+1+1+1+1+1+1) g 1 0 (kf j).length::zj 16++slI f2 o2 .i64 row::p64 row.length::p64 j::zj 20))
   (fun j g w=>[.gone,.gone,.map vm (smE (j9 HO 0 (eH (tQ D.nx c) [] k []))),.cells 0 1 [.map 2],.cells 0 1 [.func (.func 186) [] [.ptr 3 0 0]],.cells 0 v (((lB (tQ D.nx c) [] [] k)++List.replicate (D.nx.length-k) 0).map p64),.cells 0 1 [.ref 5 0 1 0 D.nx.length],.loop (ver+1) lb]++(Gs++[.cells g w (iL (kf j))])) (fun j g w=>row.length-j) 0 0 0 (by omega) (by simp only[PW]) (by simp only[List.map_append,PP,P1,P2,P14,P15,N1,N2,N3,N4,N5,N6,N7,I1,I2,I3,I4,I5,I6,I7,reduceIte,reduceCtorEq]) ?_
  intro j g w hj ih
  refine bZ (by kernel_rfl) ?_
  simp only[PP,P1,P2,P14,P15,N1,N2,N3,N4,N5,N6,N7,I1,I2,I3,I4,I5,I6,I7,reduceIte,reduceCtorEq]
  refine QIf.intro (fun e=>?_) (fun e=>?_)
  ·have hjl:j<row.length:=by omega
   obtain⟨t,gt⟩:=bY hjl
   obtain⟨t0,t1⟩:=hrw.2 t (List.mem_of_getElem? gt)
   have j0:(0:Int)<=j:=by omega
   have hw:=bG (k:=j) (by show _<1000000000000;omega)
   obtain⟨y,gy⟩:=bY (xs:=c) (k:=t.toNat) (by omega)
   obtain⟨y0,y1⟩:=h100 y (List.mem_of_getElem? gy)
   have hnx:=hks j
   rw[gt]at hnx
   simp only[List.getD,gy,Option.getD_some]at hnx
   have hlk:=hkl j (by omega)
   have b5:(kf j).length+1<=140737488355328:=by omega
   have b6:(kf j).length<=9223372036854775806:=by omega
   simp only[PP,P1,P2,P14,P15,N1,N2,N3,N4,N5,N6,N7,I1,I2,I3,I4,I5,I6,I7,reduceIte,reduceCtorEq,e,List.append_assoc,gk,gk0,sk,sk0,gt,gy,hcl,j0,t0,t1,b5,b6]
   have e1:(kf j).length+1=(kf j++[32]).length:=by simp
   have e2:(kf j).map (fun c:UInt8=>PV.int .u8 ((c.toNat:Nat):Int))++[.int .u8 32]=iL (kf j++[32]):=by simp[iL]
   have e3:(kf j++[32])++dgT y.toNat=kf (j+1):=by rw[hnx];simp
   rw[e1,e2]
   refine aBR T (l:=kf j++[32]) (v:=0) (by simp only[List.getElem?_cons_succ,gk0,List.getElem?_cons_zero]) (by simp;omega) y0 y1 ?_
   rw[e3]
   simp only[PP,P1,P2,P14,P15,N1,N2,N3,N4,N5,N6,N7,I1,I2,I3,I4,I5,I6,I7,reduceIte,reduceCtorEq,List.append_assoc,gk,gk0,sk,sk0,hw]
   exact dR (ih (j+1) (g+1+1) 0 (by omega) (by omega)) (by simp only[PW]) (by simp only[List.map_append,PP,P1,P2,P14,P15,N1,N2,N3,N4,N5,N6,N7,I1,I2,I3,I4,I5,I6,I7,reduceIte,reduceCtorEq])
  ·obtain rfl:j=row.length:=by omega
   have hkey:AB (eL D.nx c k)=kf row.length:=by
    rw[<-hkf' row.length,List.take_length]
    unfold eL
    rw[grow]
    simp only[Option.getD_some,List.getD,gx]
   have hkap:(⟨(kf row.length).toArray⟩:ByteArray)=HO (eL D.nx c k):=by unfold HO;rw[hkey]
   have hps:mG (iL (kf row.length))=some (kf row.length):=Q2 _
   have hbl:(kf row.length).length<=(iL (kf row.length)).length:=by simp
   simp only[PP,P1,P2,P14,P15,N1,N2,N3,N4,N5,N6,N7,I1,I2,I3,I4,I5,I6,I7,reduceIte,reduceCtorEq,cF,bV,cE,bF,cG,dF,bU,bT,cC,cN,cO,cP,cQ,cM,dB,bN,bO,bC,bP,cT,cU,cD,dG,cV,cR,cB,dC,bR,dD,bS,bE,bM,e,List.append_assoc,gk,gk0,sk,sk0,hps,hbl,hkap]
   refine aDC T (κ:=HO) (Dm:=PU) (fun a b ha hb h=>W1 ha hb h) (o:=eH (tQ D.nx c) [] k []) (b:=eL D.nx c k) (HL _ h100 k) ?_ (i:=2) (j:=3) rfl rfl fun ver'=>?_
   ·intro a ha
    rcases(mK _ _ _ _ _).1 ha with h | ⟨y,_,rfl⟩
    ·cases h
    ·exact HL _ h100 y
   have hvs:fG (eH (tQ D.nx c) [] k []) (eL D.nx c k)=eH (tQ D.nx c) [] (k+1) []:=rfl
   rw[hvs]
   have hrx:=BN (tQ D.nx c) [] [] k
   have hrl2:=iK (tQ D.nx c) [] [] k
   have hkl2:k+1<=k+(D.nx.length-k):=by omega
   simp only[PP,P1,P2,P14,P15,N1,N2,N3,N4,N5,N6,N7,I1,I2,I3,I4,I5,I6,I7,reduceIte,reduceCtorEq,cF,bV,cE,bF,cG,dF,bU,bT,cC,cN,cO,cP,cQ,cM,dB,bN,bO,bC,bP,cT,cU,cD,dG,cV,cR,cB,dC,bR,dD,bS,bE,bM,List.append_assoc,gk,gk0,sk,sk0,k0,hk,hrl2,hkl2]
   rw[IK]
   refine⟨by split<;>rfl,kc,ver+1,_,rfl,?_⟩
   rw[if_pos rfl]
   refine hK' _ ⟨ver',v+1,ver+1+1,Gs++[.cells g w (iL (kf row.length))],?_⟩
   simp only[aC8,PP,P1,P2,P14,P15,N1,N2,N3,N4,N5,N6,N7,I1,I2,I3,I4,I5,I6,I7,reduceIte,reduceCtorEq,hlb]
   have hat:(eH (tQ D.nx c) [] (k+1) []).idxOf (eL D.nx c k)=(eH (tQ D.nx c) [] (k+1) []).idxOf (tQ D.nx c [] k):=rfl
   rw[hrx,List.set_append_right _ _ (by rw[List.length_map,hrl2];exact Nat.le_refl _),List.length_map,hrl2,Nat.sub_self,show D.nx.length-k=(D.nx.length-(k+1))+1 by omega,List.replicate_succ]
   simp only[List.map_append,List.map_cons,List.map_nil,List.append_assoc,List.cons_append,List.nil_append,List.set_cons_zero]
 ·rintro G ⟨vm,v,ver,Gs,rfl⟩
  refine⟨ver,lp,rfl,by rw[q1];exact(by intro h;cases h),?_⟩
  rw[q2]
  have hfz:yN (some (PObj.cells 0 v ((lB (tQ D.nx c) [] [] D.nx.length).map p64))) 0 1 0 D.nx.length=some (slI false true .i64 (rfN D.nx c)):=by
   rw[hU (by simp[iK]) (bW _ _ _),dJ _ _ (by simp[iK])]
   simp only[slI,rfN,iK]
  have hz:D.nx.length-D.nx.length=0:=Nat.sub_self _
  simp only[PP,P1,P2,P14,P15,N1,N2,N3,N4,N5,N6,N7,I1,I2,I3,I4,I5,I6,I7,reduceIte,reduceCtorEq,List.append_assoc,gk,gk0,sk,sk0,hz,hfz]
  exact hk
end
section
variable {tab:FuncId->Option AF} (T:HasA tab)
include T
theorem J3 {M:Mem} {K:PV->Mem->Prop} {f o f2 o2:Bool} {a b:List Int} (ha:a.length<big) (hk:K (.bool (decide (a=b))) M):SemC tab 150 [slI f o .i64 a,slI f2 o2 .i64 b] M K:=by
 have hb:a.length<1000000000000:=ha
 refine a8 T.h150 (by simp only[PP,P1,P2,P14,P15,N1,N2,N3,N4,N5,N6,N7,I1,I2,I3,I4,I5,I6,I7,reduceIte,reduceCtorEq]) ?_
 simp only[af150,PP,P1,P2,P14,P15,N1,N2,N3,N4,N5,N6,N7,I1,I2,I3,I4,I5,I6,I7,reduceIte,reduceCtorEq]
 by_cases hl:a.length=b.length
 rotate_left
 ·have h1:¬(a.length:Int)=b.length:=by omega
  have h2:¬a=b:=fun h=>hl (by rw[h])
  simp only[PP,P1,P2,P14,P15,N1,N2,N3,N4,N5,N6,N7,I1,I2,I3,I4,I5,I6,I7,reduceIte,reduceCtorEq,h1]
  simpa [h2] using hk
 have h1:(a.length:Int)=b.length:=by omega
 simp only[PP,P1,P2,P14,P15,N1,N2,N3,N4,N5,N6,N7,I1,I2,I3,I4,I5,I6,I7,reduceIte,reduceCtorEq,h1]
 refine mL (fun(k:Nat)=>k<=b.length/\a.take k=b.take k) (fun k=>(slI f o .i64 a::slI f2 o2 .i64 b::zj 10++p64 b.length::p64 k::zj 12)) (fun _=>[]) (fun k=>b.length-k) 0 (by simp) (by simp only[PW]) rfl ?_
 intro k ⟨hk',htk⟩ ih
 refine bZ (by kernel_rfl) ?_
 simp only[PP,P1,P2,P14,P15,N1,N2,N3,N4,N5,N6,N7,I1,I2,I3,I4,I5,I6,I7,reduceIte,reduceCtorEq]
 refine QIf.intro (fun c=>?_) (fun c=>?_)
 rotate_left
 ·obtain rfl:k=b.length:=by omega
  rw[List.take_of_length_le (by omega),List.take_of_length_le (by omega)]at htk
  simp only[PP,P1,P2,P14,P15,N1,N2,N3,N4,N5,N6,N7,I1,I2,I3,I4,I5,I6,I7,reduceIte,reduceCtorEq,c]
  simpa [htk] using hk
 have hlt:k<b.length:=by omega
 have i0:(0:Int)<=k:=by omega
 have hw:=bG (k:=k) (by show _<1000000000000;omega)
 obtain⟨x,gx⟩:=bY (xs:=a) (k:=k) (by omega)
 obtain⟨y,gy⟩:=bY hlt
 simp only[PP,P1,P2,P14,P15,N1,N2,N3,N4,N5,N6,N7,I1,I2,I3,I4,I5,I6,I7,reduceIte,reduceCtorEq,c,i0,gx,gy,h1]
 by_cases e:x=y
 ·simp only[PP,P1,P2,P14,P15,N1,N2,N3,N4,N5,N6,N7,I1,I2,I3,I4,I5,I6,I7,reduceIte,reduceCtorEq,e,hw]
  refine bB (ih (k+1) ⟨by omega,?_⟩ (by omega)) (by simp only[PW])
  rw[iB gx,iB gy,htk,e]
 ·simp only[PP,P1,P2,P14,P15,N1,N2,N3,N4,N5,N6,N7,I1,I2,I3,I4,I5,I6,I7,reduceIte,reduceCtorEq,e]
  have hne:¬a=b:=fun h=>e (by rw[h,gy]at gx;exact(Option.some.inj gx).symm)
  simpa [hne] using hk
set_option maxHeartbeats 1000000 in
theorem GF {M:Mem} {K:PV->Mem->Prop} {f1 o1 f2 o2 f3 o3:Bool} {D:DF} {k:Nat} (B:BnD D) (h99:eP D=0->D.nx.length<=99) (hk1:eP D≠0->K (.tuple [.nils,p64 (eP D)]) M) (hk2:eP D=0->K (.tuple [slI false true .i64 (dA D k),p64 0]) M) (hkk:k<1000000000000):
  SemC tab 87 [.agg (dfC f1 o1 f2 o2 f3 o3 D),p64 k] M K:=by
 refine a8 T.h87 (by simp only[PP,P1,P2,P14,P15,N1,N2,N3,N4,N5,N6,N7,I1,I2,I3,I4,I5,I6,I7,reduceIte,reduceCtorEq]) ?_
 simp only[af87,PP,P1,P2,P14,P15,N1,N2,N3,N4,N5,N6,N7,I1,I2,I3,I4,I5,I6,I7,reduceIte,reduceCtorEq]
 refine IH T B ?_
 by_cases hc:eP D=0
 rotate_left
 ·simp only[PP,P1,P2,P14,P15,N1,N2,N3,N4,N5,N6,N7,I1,I2,I3,I4,I5,I6,I7,reduceIte,reduceCtorEq,hc]
  exact hk1 hc
 have hk2:=hk2 hc
 have h99:=h99 hc
 have C:=okD_iff.1 hc
 have hrow:∀r∈D.nx,r.length<=64/\∀t∈r,0<=t/\t<D.nx.length:=fun r hr=>by
  obtain⟨h1,h2⟩:=C.r r hr
  refine⟨?_,h2⟩
  have:=GO C.v6
  have e:((2^D.vs.toNat:Nat):Int)=2^D.vs.toNat:=by simp
  omega
 simp only[PP,P1,P2,P14,P15,N1,N2,N3,N4,N5,N6,N7,I1,I2,I3,I4,I5,I6,I7,reduceIte,reduceCtorEq,hc]
 refine aBO T B C.f C.n0 ?_
 simp only[PP,P1,P2,P14,P15,N1,N2,N3,N4,N5,N6,N7,I1,I2,I3,I4,I5,I6,I7,reduceIte,reduceCtorEq]
 refine mL (fun(i:Nat)=>i<=k) (fun i=>(.junk:: .junk:: .ptr 0 0 0::zj 4++slI false true .i64 (dA D i)::zj 8++p64 k::p64 i::zj 10)) (fun _=>[.cells 0 0 (dfC f1 o1 f2 o2 f3 o3 D)]) (fun i=>k-i) 0 (by omega) (by simp only[dA,PW]) rfl ?_
 intro i hi ih
 refine bZ (by kernel_rfl) ?_
 simp only[PP,P1,P2,P14,P15,N1,N2,N3,N4,N5,N6,N7,I1,I2,I3,I4,I5,I6,I7,reduceIte,reduceCtorEq]
 refine QIf.intro (fun c=>?_) (fun c=>?_)
 rotate_left
 ·obtain rfl:i=k:=by omega
  simp only[PP,P1,P2,P14,P15,N1,N2,N3,N4,N5,N6,N7,I1,I2,I3,I4,I5,I6,I7,reduceIte,reduceCtorEq,c]
  exact hk2
 have hw:=bG (k:=i) (by show _<1000000000000;omega)
 have hln:=gN D i
 have hln2:=gN D (i+1)
 simp only[PP,P1,P2,P14,P15,N1,N2,N3,N4,N5,N6,N7,I1,I2,I3,I4,I5,I6,I7,reduceIte,reduceCtorEq,c]
 refine U4 T B hln hrow (aAu h99 i) ?_
 simp only[PP,P1,P2,P14,P15,N1,N2,N3,N4,N5,N6,N7,I1,I2,I3,I4,I5,I6,I7,reduceIte,reduceCtorEq]
 refine J3 T (by rw[rK];exact B.n) ?_
 by_cases e:rfN D.nx (dA D i)=dA D i
 ·have hs:=BP (D:=D) (k:=i) e (k-i)
  rw[show i+(k-i)=k by omega]at hs
  rw[hs]at hk2
  simp only[PP,P1,P2,P14,P15,N1,N2,N3,N4,N5,N6,N7,I1,I2,I3,I4,I5,I6,I7,reduceIte,reduceCtorEq,e]
  exact hk2
 ·simp only[PP,P1,P2,P14,P15,N1,N2,N3,N4,N5,N6,N7,I1,I2,I3,I4,I5,I6,I7,reduceIte,reduceCtorEq,e,hw]
  exact bB (ih (i+1) (by omega) (by omega)) (by simp only[dA,PW])
end
end Go.Am.Ar

