/- Contracts: the measure via another one; what is a measure, and what goes with it. -/
import Derived.Test.YtapbgleednkimaaGreatDoorBudgetGrowsG4
import Derived.Test.YtapbgleednkimaaGreatDoorBudgetGrowsG0
import Derived.Test.YtapbgleednkimaaGreatDoorPmC
set_option linter.unusedVariables false
set_option linter.unusedSimpArgs false
set_option maxRecDepth 10000
namespace Go.Am.Ar
open Go.Am.PV renaming junk->Zj
open Go.Am renaming lF->P1,tB->P2,PKNo->P3,ppack->P4,PObj.under->P5,pput->P6,ptset->P7,ptget->P8,pev->P9,ofAV->P10,ofAV1->P11,ppad->P12,pfill->P13,eZ->P14,AO.effect->P15
open List renaming replicate->L1
open Nat renaming reduceAdd->N1,reduceSub->N2,reduceMul->N3,reduceLT->N4,reduceLeDiff->N5,reduceEqDiff->N6,reduceBEq->N7
open Int renaming reduceToNat->I1,reduceLT->I2,reduceLE->I3,reduceEq->I4,reduceAdd->I5,reduceSub->I6,reduceNeg->I7
theorem aEw (p:Nat):((p:Int)).tmod 2=((p % 2:Nat):Int):=by
  rw[Int.tmod_eq_emod_of_nonneg (by omega)];omega
theorem aCx {p:Nat} (h:p<=16):IntKind.i64.wrap ((p:Int).tdiv 2)=((p / 2:Nat):Int):=by
  rw[Int.tdiv_eq_ediv_of_nonneg (by omega),wrap64 (by omega) (by omega)];omega
section
variable {tab:FuncId->Option AF} (T:HasA tab)
include T
set_option maxHeartbeats 1000000 in
theorem aEp {M:Mem} {K:PV->Mem->Prop} {f1 o1 f2 o2 f3 o3 f4 o4:Bool} {ow pr:List Int} {su:List (List Int)} {p:Nat} {x:Ms} (hb:pr.length<1000000000000) (hp:p<=16) (hx:x.Ok (cA pr))
    (hk:∀y:Ms,y.Ok (cA pr)->y.num (cA pr)=vN (cA pr) p (x.num (cA pr))->K (.agg (msC y)) M):
    SemC tab 219 [.cp (kJ f1 o1 f2 o2 f3 o3 f4 o4 ow pr su) 0,p64 p,.agg (msC x)] M K:=by
  have h8:=mM pr
  have hlt:=OL hb
  refine a8 T.h219 (by simp only[PP,P1,P2,P14,P15,N1,N2,N3,N4,N5,N6,N7,I1,I2,I3,I4,I5,I6,I7,reduceIte,reduceCtorEq,aP,aS,aR,aC,bK,aL,aE,z9,z9t,aQ,aO,aT,aM,aJ,aN,aK,aH,aF,aB,aD,aA,z8,aG,aY,aI,aX,aW,aV,PV.under]) ?_
  simp only[af219,PP,P1,P2,P14,P15,N1,N2,N3,N4,N5,N6,N7,I1,I2,I3,I4,I5,I6,I7,reduceIte,reduceCtorEq,aP,aS,aR,aC,bK,aL,aE,z9,z9t,aQ,aO,aT,aM,aJ,aN,aK,aH,aF,aB,aD,aA,z8,aG,aY,aI,aX,aW,aV]
  cases ht:x.top with
  | true=>
    simp only[PP,P1,P2,P14,P15,N1,N2,N3,N4,N5,N6,N7,I1,I2,I3,I4,I5,I6,I7,reduceIte,reduceCtorEq,aP,aS,aR,aC,bK,aL,aE,z9,z9t,aQ,aO,aT,aM,aJ,aN,aK,aH,aF,aB,aD,aA,z8,aG,aY,aI,aX,aW,aV,ht]
    refine hk x hx ?_
    rw[(Ms.num_top hx).2 ht,aCT]
  | false=>
    have nlt:=Ms.num_lt hx ht
    simp only[PP,P1,P2,P14,P15,N1,N2,N3,N4,N5,N6,N7,I1,I2,I3,I4,I5,I6,I7,reduceIte,reduceCtorEq,aP,aS,aR,aC,bK,aL,aE,z9,z9t,aQ,aO,aT,aM,aJ,aN,aK,aH,aF,aB,aD,aA,z8,aG,aY,aI,aX,aW,aV,ht,xM _ _ _ (show(2:Int)≠0 by decide),aCx hp]
    refine rQ (fun(k ver:Nat) (y:Ms)=>k<=p / 2/\y.top=false/\y.c=List.replicate k 0++x.c.drop k)
      (fun k ver y=>(.cp (kJ f1 o1 f2 o2 f3 o3 f4 o4 ow pr su) 0::p64 p::zj 3++ .ptr 0 0 0:: .ptr 1 0 0::zj 6++p64 ((p / 2:Nat):Int)::p64 k::zj 41))
      (fun k ver y=>[.cells 0 ver (msC y),.cells 0 0 (msC mz)]) (fun k _ _=>p / 2-k) 0 0 x ⟨by omega,ht,by simp⟩ (by simp only[PW]) rfl ?_
    intro k ver y ⟨hle,hy,hc⟩ ih
    refine bZ (by kernel_rfl) ?_
    simp only[PP,P1,P2,P14,P15,N1,N2,N3,N4,N5,N6,N7,I1,I2,I3,I4,I5,I6,I7,reduceIte,reduceCtorEq]
    refine QIf.intro (fun c=>?_) (fun c=>?_)
    · have hk8:k<8:=by omega
      have k0:(0:Int)<=k:=by omega
      have k8:(k:Int)<8:=by omega
      have k9:1+k+1<=9:=by omega
      have hwk:=bG (k:=k) (by show _<1000000000000;omega)
      simp only[PP,P1,P2,P14,P15,N1,N2,N3,N4,N5,N6,N7,I1,I2,I3,I4,I5,I6,I7,reduceIte,reduceCtorEq,aP,aS,aR,aC,bK,aL,aE,z9,z9t,aQ,aO,aT,aM,aJ,aN,aK,aH,aF,aB,aD,aA,z8,aG,aY,aI,aX,aW,aV,c,k0,k8,k9,D6,hwk]
      refine dR (ih (k+1) (ver+1) (y.put k 0) ⟨by omega,hy,?_⟩ (by omega)) (by simp only[PW]) rfl
      show y.c.set k 0=_
      rw[hc];exact NI (by rw[x.h];exact hk8)
    · have hkq:k=p / 2:=by omega
      subst hkq
      simp only[PP,P1,P2,P14,P15,N1,N2,N3,N4,N5,N6,N7,I1,I2,I3,I4,I5,I6,I7,reduceIte,reduceCtorEq,aP,aS,aR,aC,bK,aL,aE,z9,z9t,aQ,aO,aT,aM,aJ,aN,aK,aH,aF,aB,aD,aA,z8,aG,aY,aI,aX,aW,aV,c,aC9 (show(2:Int)≠0 by decide),aEw]
      obtain⟨z1,z2⟩:=T2 hx ht h8 (show p / 2<=8 by omega) hy hc
      refine QIf.intro (fun d=>?_) (fun d=>?_)
      · have e0:p % 2=0:=by omega
        simp only[PP,P1,P2,P14,P15,N1,N2,N3,N4,N5,N6,N7,I1,I2,I3,I4,I5,I6,I7,reduceIte,reduceCtorEq,aP,aS,aR,aC,bK,aL,aE,z9,z9t,aQ,aO,aT,aM,aJ,aN,aK,aH,aF,aB,aD,aA,z8,aG,aY,aI,aX,aW,aV,d]
        exact hk y z1 (by rw[z2,T4 nlt,e0,Nat.add_zero])
      · have e1:p % 2=1:=by omega
        simp only[PP,P1,P2,P14,P15,N1,N2,N3,N4,N5,N6,N7,I1,I2,I3,I4,I5,I6,I7,reduceIte,reduceCtorEq,aP,aS,aR,aC,bK,aL,aE,z9,z9t,aQ,aO,aT,aM,aJ,aN,aK,aH,aF,aB,aD,aA,z8,aG,aY,aI,aX,aW,aV,d,xM _ _ _ (show(2:Int)≠0 by decide),aCx hp]
        refine rQ (fun(k ver:Nat) (y:Ms)=>p / 2<=k/\k<=8/\y.top=false/\y.c=List.replicate k 0++x.c.drop k/\FC (cA pr) x (p / 2) k)
          (fun k ver y=>(.cp (kJ f1 o1 f2 o2 f3 o3 f4 o4 ow pr su) 0::zj 4++ .ptr 0 0 0:: .ptr 1 0 0:: .junk::p64 k::zj 47))
          (fun k ver y=>[.cells 0 ver (msC y),.cells 0 0 (msC mz)]) (fun k _ _=>8-k) (p / 2) ver y ⟨Nat.le_refl _,by omega,hy,hc,fun i c n a b=>by omega⟩ (by simp only[PW]) rfl ?_
        clear ih c
        intro k ver y ⟨hle1,hle2,hy,hc,hf⟩ ih
        refine bZ (by kernel_rfl) ?_
        simp only[PP,P1,P2,P14,P15,N1,N2,N3,N4,N5,N6,N7,I1,I2,I3,I4,I5,I6,I7,reduceIte,reduceCtorEq]
        refine QIf.intro (fun c=>?_) (fun c=>?_)
        · have hk8:k<8:=by omega
          have k0:(0:Int)<=k:=by omega
          have k8:(k:Int)<8:=by omega
          have k9:1+k+1<=9:=by omega
          have kne:¬(k:Int)=8:=by omega
          have hwk:=bG (k:=k) (by show _<1000000000000;omega)
          obtain⟨a,ga⟩:=Ms.get (x:=x) hk8
          have gy:y.c[k]? =some a:=by rw[hc,aCQ,ga]
          have gn:=rS pr hk8
          generalize pr.count ((2*k+1:Nat):Int)=n at gn
          have hn:=hlt n (List.mem_of_getElem? gn)
          have g1:=K6 gy
          have g2:(kJ f1 o1 f2 o2 f3 o3 f4 o4 ow pr su)[3+k]? =some (p64 n):=NV gn
          have hok:0<=a/\a<=n:=by
            have:=rP k hx.1
            rw[jK gn,jK ga]at this
            exact⟨this.1,this.2.1⟩
          have hwa:IntKind.i64.wrap (a+1)=a+1:=wrap64 (by omega) (by omega)
          simp only[PP,P1,P2,P14,P15,N1,N2,N3,N4,N5,N6,N7,I1,I2,I3,I4,I5,I6,I7,reduceIte,reduceCtorEq,aP,aS,aR,aC,bK,aL,aE,z9,z9t,aQ,aO,aT,aM,aJ,aN,aK,aH,aF,aB,aD,aA,z8,aG,aY,aI,aX,aW,aV,c,k0,k8,k9,g1,g2]
          refine QIf.intro (fun e=>?_) (fun e=>?_)
          · simp only[PP,P1,P2,P14,P15,N1,N2,N3,N4,N5,N6,N7,I1,I2,I3,I4,I5,I6,I7,reduceIte,reduceCtorEq,aP,aS,aR,aC,bK,aL,aE,z9,z9t,aQ,aO,aT,aM,aJ,aN,aK,aH,aF,aB,aD,aA,z8,aG,aY,aI,aX,aW,aV,e,c,k0,k8,k9,g1,hwa,D6,kne]
            obtain⟨w1,w2⟩:=aAe (y:=y.put k (a+1)) hx ht h8 hle1 hk8 hf ga gn e hy (by show y.c.set k (a+1)=_;rw[hc];exact TU _ (by rw[x.h];exact hk8))
            exact hk _ w1 (by rw[w2,T4 nlt,e1])
          · simp only[PP,P1,P2,P14,P15,N1,N2,N3,N4,N5,N6,N7,I1,I2,I3,I4,I5,I6,I7,reduceIte,reduceCtorEq,aP,aS,aR,aC,bK,aL,aE,z9,z9t,aQ,aO,aT,aM,aJ,aN,aK,aH,aF,aB,aD,aA,z8,aG,aY,aI,aX,aW,aV,e,k0,k8,k9,D6,hwk]
            refine dR (ih (k+1) (ver+1) (y.put k 0) ⟨by omega,by omega,hy,?_,fun i c m a1 a2 g5 g6=>?_⟩ (by omega)) (by simp only[PW]) rfl
            · show y.c.set k 0=_
              rw[hc];exact NI (by rw[x.h];exact hk8)
            · by_cases ei:i=k
              · subst ei;rw[ga]at g5;rw[gn]at g6;cases g5;cases g6;omega
              · exact hf i c m a1 (by omega) g5 g6
        · have hk8:k=8:=by omega
          subst hk8
          simp only[PP,P1,P2,P14,P15,N1,N2,N3,N4,N5,N6,N7,I1,I2,I3,I4,I5,I6,I7,reduceIte,reduceCtorEq,aP,aS,aR,aC,bK,aL,aE,z9,z9t,aQ,aO,aT,aM,aJ,aN,aK,aH,aF,aB,aD,aA,z8,aG,aY,aI,aX,aW,aV]
          refine hk mtop (OH h8) ?_
          rw[V5,T4 nlt,e1]
          exact T3 hx ht h8 (by omega) hf
end
theorem Q1 (x:Ms):cW (msC x) 1 8=x.c.map (PV.int .i64):=by
  unfold cW msC
  rw[List.drop_succ_cons,List.drop_zero,List.take_of_length_le (by simp[x.h])]
theorem aEy {pr:List Int} {x:Ms} (h:∀(k:Nat) (c:Int),k<8->x.c[k]? =some c->0<=c/\c<=(pr.count ((2*k+1:Nat):Int):Nat)):mOk (cA pr) x.c:=
  WH (by rw[x.h,mM]) fun u c n h1 h2=>by
    have hu:u<8:=by have:=aZ h1;rwa [x.h]at this
    rw[rS pr hu]at h2
    cases h2;exact h u c hu h1
theorem VX {pr:List Int} {x:Ms} (h:x.Ok (cA pr)) {k:Nat} {c:Int} (hk:k<8) (g:x.c[k]? =some c):0<=c/\c<=(pr.count ((2*k+1:Nat):Int):Nat):=OJ h.1 g (rS pr hk)
theorem V6:mtop.fit:=fun c hc=>by
  have:=List.eq_of_mem_replicate (show c∈List.replicate 8 (0:Int) from hc)
  omega
section
variable {tab:FuncId->Option AF} (T:HasA tab)
include T
theorem aAf {M:Mem} {K:PV->Mem->Prop} {f1 o1 f2 o2 f3 o3 f4 o4:Bool} {ow pr:List Int} {su:List (List Int)} {x:Ms} (hb:pr.length<1000000000000)
    (hk:∀b:Bool,(b=true↔x.Ok (cA pr))->K (.bool b) M):
    SemC tab 269 [.cp (kJ f1 o1 f2 o2 f3 o3 f4 o4 ow pr su) 0,.agg (msC x)] M K:=by
  have h8:=mM pr
  have hlt:=OL hb
  have yes:x.Ok (cA pr)->K (.bool true) M:=fun h=>hk true ⟨fun _=>h,fun _=>rfl⟩
  have no:¬x.Ok (cA pr)->K (.bool false) M:=fun h=>hk false ⟨fun q=>(by cases q),fun q=>absurd q h⟩
  refine a8 T.h269 (by simp only[PP,P1,P2,P14,P15,N1,N2,N3,N4,N5,N6,N7,I1,I2,I3,I4,I5,I6,I7,reduceIte,reduceCtorEq,aP,aS,aR,aC,bK,aL,aE,z9,z9t,aQ,aO,aT,aM,aJ,aN,aK,aH,aF,aB,aD,aA,z8,aG,aY,aI,aX,aW,aV,PV.under]) ?_
  simp only[af269,PP,P1,P2,P14,P15,N1,N2,N3,N4,N5,N6,N7,I1,I2,I3,I4,I5,I6,I7,reduceIte,reduceCtorEq,aP,aS,aR,aC,bK,aL,aE,z9,z9t,aQ,aO,aT,aM,aJ,aN,aK,aH,aF,aB,aD,aA,z8,aG,aY,aI,aX,aW,aV,Q1]
  refine mL (fun(k:Nat)=>k<=8/\∀(i:Nat) (c:Int),i<k->x.c[i]? =some c->0<=c/\c<=(pr.count ((2*i+1:Nat):Int):Nat))
    (fun k=>(.cp (kJ f1 o1 f2 o2 f3 o3 f4 o4 ow pr su) 0:: .junk:: .junk:: .ptr 0 0 0::zj 4++ .agg (x.c.map (PV.int .i64))::p64 k::zj 24))
    (fun k=>[.cells 0 0 (msC x)]) (fun k=>8-k) 0 ⟨by omega,fun i c h=>by omega⟩ (by simp only[PW]) rfl ?_
  intro k ⟨hle,hc⟩ ih
  refine bZ (by kernel_rfl) ?_
  simp only[PP,P1,P2,P14,P15,N1,N2,N3,N4,N5,N6,N7,I1,I2,I3,I4,I5,I6,I7,reduceIte,reduceCtorEq]
  refine QIf.intro (fun c=>?_) (fun c=>?_)
  · have hk8:k<8:=by omega
    have k0:(0:Int)<=k:=by omega
    have k8:(k:Int)<8:=by omega
    have hwk:=bG (k:=k) (by show _<1000000000000;omega)
    obtain⟨a,ga⟩:=Ms.get (x:=x) hk8
    have gn:=rS pr hk8
    have g2:=NV (f1:=f1) (o1:=o1) (f2:=f2) (o2:=o2) (f3:=f3) (o3:=o3) (f4:=f4) (o4:=o4) (ow:=ow) (su:=su) gn
    simp only[PP,P1,P2,P14,P15,N1,N2,N3,N4,N5,N6,N7,I1,I2,I3,I4,I5,I6,I7,reduceIte,reduceCtorEq,aP,aS,aR,aC,bK,aL,aE,z9,z9t,aQ,aO,aT,aM,aJ,aN,aK,aH,aF,aB,aD,aA,z8,aG,aY,aI,aX,aW,aV,c,k0,k8,ga]
    refine QIf.intro (fun d=>?_) (fun d=>?_)
    · simp only[PP,P1,P2,P14,P15,N1,N2,N3,N4,N5,N6,N7,I1,I2,I3,I4,I5,I6,I7,reduceIte,reduceCtorEq,d]
      exact no fun h=>by have:=VX h hk8 ga;omega
    · simp only[PP,P1,P2,P14,P15,N1,N2,N3,N4,N5,N6,N7,I1,I2,I3,I4,I5,I6,I7,reduceIte,reduceCtorEq,aP,aS,aR,aC,bK,aL,aE,z9,z9t,aQ,aO,aT,aM,aJ,aN,aK,aH,aF,aB,aD,aA,z8,aG,aY,aI,aX,aW,aV,c,d,k0,k8,ga,g2]
      refine QIf.intro (fun e=>?_) (fun e=>?_)
      · simp only[PP,P1,P2,P14,P15,N1,N2,N3,N4,N5,N6,N7,I1,I2,I3,I4,I5,I6,I7,reduceIte,reduceCtorEq,e]
        exact no fun h=>by have:=VX h hk8 ga;omega
      · simp only[PP,P1,P2,P14,P15,N1,N2,N3,N4,N5,N6,N7,I1,I2,I3,I4,I5,I6,I7,reduceIte,reduceCtorEq,e,hwk]
        refine bB (ih (k+1) ⟨by omega,fun i c' h1 h2=>?_⟩ (by omega)) (by simp only[PW])
        by_cases ei:i=k
        · subst ei;rw[ga]at h2;cases h2;omega
        · exact hc i c' (by omega) h2
  · have hk8:k=8:=by omega
    subst hk8
    have hok:=aEy hc
    cases ht:x.top with
    | false=>
      simp only[PP,P1,P2,P14,P15,N1,N2,N3,N4,N5,N6,N7,I1,I2,I3,I4,I5,I6,I7,reduceIte,reduceCtorEq,aP,aS,aR,aC,bK,aL,aE,z9,z9t,aQ,aO,aT,aM,aJ,aN,aK,aH,aF,aB,aD,aA,z8,aG,aY,aI,aX,aW,aV,ht]
      exact yes ⟨hok,fun h=>by rw[ht]at h;cases h⟩
    | true=>
      have hfit:x.fit:=Ms.Ok.fit (x:=⟨false,x.c,x.h⟩) (ns:=cA pr) ⟨hok,fun h=>by cases h⟩ hlt
      simp only[PP,P1,P2,P14,P15,N1,N2,N3,N4,N5,N6,N7,I1,I2,I3,I4,I5,I6,I7,reduceIte,reduceCtorEq,aP,aS,aR,aC,bK,aL,aE,z9,z9t,aQ,aO,aT,aM,aJ,aN,aK,aH,aF,aB,aD,aA,z8,aG,aY,aI,aX,aW,aV,ht,aAG hfit V6]
      refine hk _ ?_
      rw[decide_eq_true_eq]
      constructor
      · intro h;rw[h];exact OH h8
      · intro h;exact Ms.ext' ht (h.2 ht)
end
def nx (p:Bool):Int->Int->List Int->Int
  | least,most,[]=>if p=true then(if least<0 then-1 else least+1) else most+1
  | least,most,r::rs=>if r<0 then(if p=true then nx p least most rs else-1) else nx p (if least<0 then r else if r<least then r else least) (max most r) rs
section
variable {n:Nat} {P:Nat->Bool} {S:Nat->List Nat} {Z:Nat->Bool}
end
def Sf (su:List (List Int)) (v:Nat):List Nat:=(su.getD v []).map Int.toNat
theorem aC2 {ow pr:List Int} {su:List (List Int)} (V:Valid ow pr su) {v:Nat} (hv:v<ow.length):su.getD v []≠[]/\(su.getD v []).Pairwise (· < ·)/\∀u∈su.getD v [],0<=u/\u<ow.length:=by
  have hs:=V.s
  have hi:v<su.length:=by omega
  obtain⟨_,_,_,h1,q⟩:=V.row v hi
  have e:su.getD v []=su[v]:=by simp[List.getD,hi]
  obtain⟨q1,q2⟩:=mH q
  rw[e]
  exact⟨fun h=>by rw[h]at h1;simp at h1,q1,fun u hu=>by have:=q2 u hu;omega⟩
theorem ZM {ow pr:List Int} {su:List (List Int)} (V:Valid ow pr su) {v:Nat} (hv:v<ow.length):Sf su v≠[]/\(∀u∈Sf su v,u<ow.length)/\(Sf su v).Nodup:=by
  obtain⟨h1,h2,h3⟩:=aC2 V hv
  refine⟨fun h=>h1 (List.map_eq_nil_iff.1 h),fun u hu=>?_,?_⟩
  · obtain⟨w,hw,rfl⟩:=List.mem_map.1 hu
    have:=h3 w hw;omega
  · unfold Sf
    refine List.pairwise_map.2 (List.Pairwise.imp_of_mem ?_ h2)
    intro a b ha hb hab e
    have:=h3 a ha;have:=h3 b hb;omega
abbrev gO (ow:List Int):Nat->Int:=fun v=>ow.getD v 0
abbrev gL (ow pr:List Int) (su:List (List Int)):(Nat->Nat)->Nat->Nat:=lN (cA pr) (gO ow) (Sf su) (gO pr)
def Nf (ns:List Nat) (ms:List Ms) (v:Nat):Nat:=(ms.getD v mz).num ns
structure StOk (ns:List Nat) (n:Nat) (ms:List Ms):Prop where
  l:ms.length=n
  ok:∀x∈ms,x.Ok ns
theorem sN {ns:List Nat} {ms:List Ms} {v:Nat} {x:Ms} (h:ms[v]? =some x):Nf ns ms v=x.num ns:=by unfold Nf;simp[List.getD,h]
theorem wP {ow pr:List Int} {su:List (List Int)} (V:Valid ow pr su):aFf pr:=⟨by rw[V.p];have:=V.n1;omega,fun x hx=>by
  obtain⟨i,hi⟩:=List.getElem?_of_mem hx
  have hl:=aZ hi
  have:=V.row i (by rw[V.s,<-V.p];exact hl)
  rw[getD_some hi]at this
  exact⟨this.1,this.2.1⟩⟩
theorem rO (x:Ms):(msC x).all PV.flat1=true:=by simp[msC,PV.flat1]
theorem iZ (l:List Ms):cW (msL l) 0 (l.length*9)=msL l:=dJ _ _ (aQ l).symm
section
variable {tab:FuncId->Option AF} (T:HasA tab)
include T
theorem RR {M:Mem} {K:PV->Mem->Prop} {f o:Bool} {ms:List Ms} {ns:List Nat} (h0:0<ms.length) (hb:ms.length<1000000000000) (hok:∀x∈ms,x.Ok ns)
    (hk:∀y,y∈ms->(∀z∈ms,y.num ns<=z.num ns)->K (.agg (msC y)) M):
    SemC tab 220 [slM f o ms,.func (.func 30) [] []] M K:=by
  refine a8 T.h220 (by simp only[PP,P1,P2,P14,P15,N1,N2,N3,N4,N5,N6,N7,I1,I2,I3,I4,I5,I6,I7,reduceIte,reduceCtorEq,aP,aS,aR,aC,bK,aL,aE,z9,z9t,aQ,aO,aT,aM,aJ,aN,aK,aH,aF,aB,aD,aA,z8,aG,aY,aI,aX,aW,aV,PV.under]) ?_
  have n1:¬(ms.length:Int)<1:=by omega
  have n2:(0:Int)<ms.length:=by omega
  obtain⟨x0,g0⟩:=bY (xs:=ms) (k:=0) h0
  have p0:=hP g0
  have l0:=xT g0
  rw[Nat.zero_mul]at p0 l0
  rw[Nat.zero_add]at l0
  simp only[af220,PP,P1,P2,P14,P15,N1,N2,N3,N4,N5,N6,N7,I1,I2,I3,I4,I5,I6,I7,reduceIte,reduceCtorEq,aP,aS,aR,aC,bK,aL,aE,z9,z9t,aQ,aO,aT,aM,aJ,aN,aK,aH,aF,aB,aD,aA,z8,aG,aY,aI,aX,aW,aV,n1,n2,p0,l0]
  refine rQ (fun(k ver:Nat) (y:Ms)=>1<=k/\k<=ms.length/\y∈ms/\∀(j:Nat) (z:Ms),j<k->ms[j]? =some z->y.num ns<=z.num ns)
    (fun k ver y=>(slM f o ms:: .func (.func 30) [] []:: .junk:: .junk:: .ptr 0 0 0:: .ptr 1 0 0::p64 k::zj 26))
    (fun k ver y=>[.cells 0 0 (msC mz),.cells 0 ver (msC y)]) (fun k _ _=>ms.length-k) 1 1 x0 ⟨by omega,h0,List.mem_of_getElem? g0,fun j z hj hz=>by
      have:j=0:=by omega
      subst this;rw[g0]at hz;cases hz;exact Nat.le_refl _⟩ (by simp only[PW]) rfl ?_
  intro k ver y ⟨hle1,hle,hy,hmin⟩ ih
  refine bZ (by kernel_rfl) ?_
  simp only[PP,P1,P2,P14,P15,N1,N2,N3,N4,N5,N6,N7,I1,I2,I3,I4,I5,I6,I7,reduceIte,reduceCtorEq]
  refine QIf.intro (fun c=>?_) (fun c=>?_)
  · have hk':k<ms.length:=by omega
    have k0:(0:Int)<=k:=by omega
    have kn:(k:Int)<ms.length:=by omega
    have hwk:=bG (k:=k) (by show _<1000000000000;omega)
    obtain⟨x,g1⟩:=bY (xs:=ms) (k:=k) hk'
    have hxm:=List.mem_of_getElem? g1
    have p1:=hP g1
    have l1:=xT g1
    simp only[PP,P1,P2,P14,P15,N1,N2,N3,N4,N5,N6,N7,I1,I2,I3,I4,I5,I6,I7,reduceIte,reduceCtorEq,aP,aS,aR,aC,bK,aL,aE,z9,z9t,aQ,aO,aT,aM,aJ,aN,aK,aH,aF,aB,aD,aA,z8,aG,aY,aI,aX,aW,aV,c,k0,p1,l1]
    refine kW T ?_
    rw[wG (hok x hxm) (hok y hy)]
    simp only[PP,P1,P2,P14,P15,N1,N2,N3,N4,N5,N6,N7,I1,I2,I3,I4,I5,I6,I7,reduceIte,reduceCtorEq,aP,aS,aR,aC,bK,aL,aE,z9,z9t,aQ,aO,aT,aM,aJ,aN,aK,aH,aF,aB,aD,aA,z8,aG,aY,aI,aX,aW,aV]
    refine QIf.intro (fun d=>?_) (fun d=>?_)
    · rw[II]at d
      simp only[PP,P1,P2,P14,P15,N1,N2,N3,N4,N5,N6,N7,I1,I2,I3,I4,I5,I6,I7,reduceIte,reduceCtorEq,aP,aS,aR,aC,bK,aL,aE,z9,z9t,aQ,aO,aT,aM,aJ,aN,aK,aH,aF,aB,aD,aA,z8,aG,aY,aI,aX,aW,aV,c,k0,p1,l1,hwk]
      refine dR (ih (k+1) (ver+1) x ⟨by omega,hk',hxm,fun j z hj hz=>?_⟩ (by omega)) (by simp only[PW]) rfl
      by_cases e:j=k
      · subst e;rw[g1]at hz;cases hz;exact Nat.le_refl _
      · have:=hmin j z (by omega) hz;omega
    · rw[II]at d
      simp only[PP,P1,P2,P14,P15,N1,N2,N3,N4,N5,N6,N7,I1,I2,I3,I4,I5,I6,I7,reduceIte,reduceCtorEq,aP,aS,aR,aC,bK,aL,aE,z9,z9t,aQ,aO,aT,aM,aJ,aN,aK,aH,aF,aB,aD,aA,z8,aG,aY,aI,aX,aW,aV,hwk]
      refine bB (ih (k+1) ver y ⟨by omega,hk',hy,fun j z hj hz=>?_⟩ (by omega)) (by simp only[PW])
      by_cases e:j=k
      · subst e;rw[g1]at hz;cases hz;omega
      · exact hmin j z (by omega) hz
  · simp only[PP,P1,P2,P14,P15,N1,N2,N3,N4,N5,N6,N7,I1,I2,I3,I4,I5,I6,I7,reduceIte,reduceCtorEq,aP,aS,aR,aC,bK,aL,aE,z9,z9t,aQ,aO,aT,aM,aJ,aN,aK,aH,aF,aB,aD,aA,z8,aG,aY,aI,aX,aW,aV,c]
    refine hk y hy fun z hz=>?_
    obtain⟨j,hj⟩:=List.getElem?_of_mem hz
    exact hmin j z (by have:=aZ hj;omega) hj
theorem RT {M:Mem} {K:PV->Mem->Prop} {f o:Bool} {ms:List Ms} {ns:List Nat} (h0:0<ms.length) (hb:ms.length<1000000000000) (hok:∀x∈ms,x.Ok ns)
    (hk:∀y,y∈ms->(∀z∈ms,z.num ns<=y.num ns)->K (.agg (msC y)) M):
    SemC tab 221 [slM f o ms,.func (.func 30) [] []] M K:=by
  refine a8 T.h221 (by simp only[PP,P1,P2,P14,P15,N1,N2,N3,N4,N5,N6,N7,I1,I2,I3,I4,I5,I6,I7,reduceIte,reduceCtorEq,aP,aS,aR,aC,bK,aL,aE,z9,z9t,aQ,aO,aT,aM,aJ,aN,aK,aH,aF,aB,aD,aA,z8,aG,aY,aI,aX,aW,aV,PV.under]) ?_
  have n1:¬(ms.length:Int)<1:=by omega
  have n2:(0:Int)<ms.length:=by omega
  obtain⟨x0,g0⟩:=bY (xs:=ms) (k:=0) h0
  have p0:=hP g0
  have l0:=xT g0
  rw[Nat.zero_mul]at p0 l0
  rw[Nat.zero_add]at l0
  simp only[af221,PP,P1,P2,P14,P15,N1,N2,N3,N4,N5,N6,N7,I1,I2,I3,I4,I5,I6,I7,reduceIte,reduceCtorEq,aP,aS,aR,aC,bK,aL,aE,z9,z9t,aQ,aO,aT,aM,aJ,aN,aK,aH,aF,aB,aD,aA,z8,aG,aY,aI,aX,aW,aV,n1,n2,p0,l0]
  refine rQ (fun(k ver:Nat) (y:Ms)=>1<=k/\k<=ms.length/\y∈ms/\∀(j:Nat) (z:Ms),j<k->ms[j]? =some z->z.num ns<=y.num ns)
    (fun k ver y=>(slM f o ms:: .func (.func 30) [] []:: .junk:: .junk:: .ptr 0 0 0:: .ptr 1 0 0::p64 k::zj 26))
    (fun k ver y=>[.cells 0 0 (msC mz),.cells 0 ver (msC y)]) (fun k _ _=>ms.length-k) 1 1 x0 ⟨by omega,h0,List.mem_of_getElem? g0,fun j z hj hz=>by
      have:j=0:=by omega
      subst this;rw[g0]at hz;cases hz;exact Nat.le_refl _⟩ (by simp only[PW]) rfl ?_
  intro k ver y ⟨hle1,hle,hy,hmin⟩ ih
  refine bZ (by kernel_rfl) ?_
  simp only[PP,P1,P2,P14,P15,N1,N2,N3,N4,N5,N6,N7,I1,I2,I3,I4,I5,I6,I7,reduceIte,reduceCtorEq]
  refine QIf.intro (fun c=>?_) (fun c=>?_)
  · have hk':k<ms.length:=by omega
    have k0:(0:Int)<=k:=by omega
    have kn:(k:Int)<ms.length:=by omega
    have hwk:=bG (k:=k) (by show _<1000000000000;omega)
    obtain⟨x,g1⟩:=bY (xs:=ms) (k:=k) hk'
    have hxm:=List.mem_of_getElem? g1
    have p1:=hP g1
    have l1:=xT g1
    simp only[PP,P1,P2,P14,P15,N1,N2,N3,N4,N5,N6,N7,I1,I2,I3,I4,I5,I6,I7,reduceIte,reduceCtorEq,aP,aS,aR,aC,bK,aL,aE,z9,z9t,aQ,aO,aT,aM,aJ,aN,aK,aH,aF,aB,aD,aA,z8,aG,aY,aI,aX,aW,aV,c,k0,p1,l1]
    refine kW T ?_
    rw[wG (hok x hxm) (hok y hy)]
    simp only[PP,P1,P2,P14,P15,N1,N2,N3,N4,N5,N6,N7,I1,I2,I3,I4,I5,I6,I7,reduceIte,reduceCtorEq,aP,aS,aR,aC,bK,aL,aE,z9,z9t,aQ,aO,aT,aM,aJ,aN,aK,aH,aF,aB,aD,aA,z8,aG,aY,aI,aX,aW,aV]
    refine QIf.intro (fun d=>?_) (fun d=>?_)
    · rw[oU]at d
      simp only[PP,P1,P2,P14,P15,N1,N2,N3,N4,N5,N6,N7,I1,I2,I3,I4,I5,I6,I7,reduceIte,reduceCtorEq,aP,aS,aR,aC,bK,aL,aE,z9,z9t,aQ,aO,aT,aM,aJ,aN,aK,aH,aF,aB,aD,aA,z8,aG,aY,aI,aX,aW,aV,c,k0,p1,l1,hwk]
      refine dR (ih (k+1) (ver+1) x ⟨by omega,hk',hxm,fun j z hj hz=>?_⟩ (by omega)) (by simp only[PW]) rfl
      by_cases e:j=k
      · subst e;rw[g1]at hz;cases hz;exact Nat.le_refl _
      · have:=hmin j z (by omega) hz;omega
    · rw[oU]at d
      simp only[PP,P1,P2,P14,P15,N1,N2,N3,N4,N5,N6,N7,I1,I2,I3,I4,I5,I6,I7,reduceIte,reduceCtorEq,aP,aS,aR,aC,bK,aL,aE,z9,z9t,aQ,aO,aT,aM,aJ,aN,aK,aH,aF,aB,aD,aA,z8,aG,aY,aI,aX,aW,aV,hwk]
      refine bB (ih (k+1) ver y ⟨by omega,hk',hy,fun j z hj hz=>?_⟩ (by omega)) (by simp only[PW])
      by_cases e:j=k
      · subst e;rw[g1]at hz;cases hz;omega
      · exact hmin j z (by omega) hz
  · simp only[PP,P1,P2,P14,P15,N1,N2,N3,N4,N5,N6,N7,I1,I2,I3,I4,I5,I6,I7,reduceIte,reduceCtorEq,aP,aS,aR,aC,bK,aL,aE,z9,z9t,aQ,aO,aT,aM,aJ,aN,aK,aH,aF,aB,aD,aA,z8,aG,aY,aI,aX,aW,aV,c]
    refine hk y hy fun z hz=>?_
    obtain⟨j,hj⟩:=List.getElem?_of_mem hz
    exact hmin j z (by have:=aZ hj;omega) hj
set_option maxHeartbeats 1000000 in
theorem WQ {M:Mem} {K:PV->Mem->Prop} {f1 o1 f2 o2 f3 o3 f4 o4 f o:Bool} {ow pr:List Int} {su:List (List Int)} {ms:List Ms} {v:Nat} (V:Valid ow pr su) (B:Bnd ow pr su) (hm:StOk (cA pr) ow.length ms) (hv:v<ow.length)
    (hk:∀y:Ms,y.Ok (cA pr)->y.num (cA pr)=gL ow pr su (Nf (cA pr) ms) v->K (.agg (msC y)) M):
    SemC tab 190 [.cp (kJ f1 o1 f2 o2 f3 o3 f4 o4 ow pr su) 0,slM f o ms,p64 v] M K:=by
  have P:=wP V
  have hp:=V.p
  have hs:=V.s
  have hml:=hm.l
  obtain⟨o',g1⟩:=bY (xs:=ow) (k:=v) hv
  obtain⟨pv,g2⟩:=bY (xs:=pr) (k:=v) (by omega)
  obtain⟨row,g3⟩:=bY (xs:=su) (k:=v) (by omega)
  obtain⟨p0,p1⟩:=P.2 pv (List.mem_of_getElem? g2)
  obtain⟨p,rfl⟩:∃p:Nat,pv=p:=⟨pv.toNat,by omega⟩
  have hp16:p<=16:=by omega
  have v0:(0:Int)<=v:=by omega
  have vn:(v:Int)<ow.length:=by omega
  have eO:gO ow v=o':=getD_some g1
  have eR:gO pr v=p:=getD_some g2
  have eS:Sf su v=row.map Int.toNat:=by unfold Sf;simp[List.getD,g3]
  have hrow:∀u∈row,0<=u/\u<ow.length:=fun u hu=>UF V hv (by simp[List.getD,g3];exact hu)
  have hrl:row.length<1000000000000:=B.r row (List.mem_of_getElem? g3)
  have hrn:0<row.length:=by
    have:=(ZM V hv).1
    rw[eS]at this
    cases row with
    | nil=>exact absurd rfl this
    | cons x l=>simp
  refine a8 T.h190 (by simp only[PP,P1,P2,P14,P15,N1,N2,N3,N4,N5,N6,N7,I1,I2,I3,I4,I5,I6,I7,reduceIte,reduceCtorEq,aP,aS,aR,aC,bK,aL,aE,z9,z9t,aQ,aO,aT,aM,aJ,aN,aK,aH,aF,aB,aD,aA,z8,aG,aY,aI,aX,aW,aV,PV.under]) ?_
  simp only[af190,PP,P1,P2,P14,P15,N1,N2,N3,N4,N5,N6,N7,I1,I2,I3,I4,I5,I6,I7,reduceIte,reduceCtorEq,aP,aS,aR,aC,bK,aL,aE,z9,z9t,aQ,aO,aT,aM,aJ,aN,aK,aH,aF,aB,aD,aA,z8,aG,aY,aI,aX,aW,aV,v0,vn,hs,g3]
  refine d8 (GStep.nil 7 9 rfl rfl rfl) ?_
  refine aCA (fun(k g ver:Nat) (l:List Ms)=>k<=row.length/\l.length=k/\(∀x∈l,x.Ok (cA pr))/\∀(j:Nat) (u:Int) (x:Ms),row[j]? =some u->l[j]? =some x->x.num (cA pr)=vN (cA pr) p (Nf (cA pr) ms u.toNat))
    (fun k g ver l=>(.cp (kJ f1 o1 f2 o2 f3 o3 f4 o4 ow pr su) 0::slM f o ms::p64 v::zj 3++ .ptr 0 0 0:: .ref 1 g 9 0 k::zj 9++slI f4 o4 .i64 row::p64 row.length::p64 k::zj 34))
    (fun k g ver l=>[.cells 0 0 (msC mz),.cells g ver (msL l)]) (fun k _ _ _=>row.length-k) 0 0 0 [] ⟨by omega,rfl,fun x hx=>(by cases hx),fun j u x _ h=>by simp at h⟩ (by simp only[PP,P1,P2,P14,P15,N1,N2,N3,N4,N5,N6,N7,I1,I2,I3,I4,I5,I6,I7,reduceIte,reduceCtorEq,PW,Int.cast_ofNat_Int]) (by simp only[PP,P1,P2,P14,P15,N1,N2,N3,N4,N5,N6,N7,I1,I2,I3,I4,I5,I6,I7,reduceIte,reduceCtorEq];rfl) ?_
  intro k g ver l ⟨hle,hl,hlok,hln⟩ ih
  refine bZ (by kernel_rfl) ?_
  simp only[PP,P1,P2,P14,P15,N1,N2,N3,N4,N5,N6,N7,I1,I2,I3,I4,I5,I6,I7,reduceIte,reduceCtorEq]
  refine QIf.intro (fun c=>?_) (fun c=>?_)
  · have hk':k<row.length:=by omega
    have k0:(0:Int)<=k:=by omega
    have hwk:=bG (k:=k) (by show _<1000000000000;omega)
    obtain⟨u,g4⟩:=bY (xs:=row) (k:=k) hk'
    obtain⟨u0,u1⟩:=hrow u (List.mem_of_getElem? g4)
    obtain⟨x,g5⟩:=bY (xs:=ms) (k:=u.toNat) (by omega)
    have eN:Nf (cA pr) ms u.toNat=x.num (cA pr):=sN g5
    have q1:=hP g5
    have q2:=xT g5
    rw[hml]at q2
    simp only[PP,P1,P2,P14,P15,N1,N2,N3,N4,N5,N6,N7,I1,I2,I3,I4,I5,I6,I7,reduceIte,reduceCtorEq,aP,aS,aR,aC,bK,aL,aE,z9,z9t,aQ,aO,aT,aM,aJ,aN,aK,aH,aF,aB,aD,aA,z8,aG,aY,aI,aX,aW,aV,c,k0,v0,vn,hp,g2,g4,u0,u1,hml,q1,q2]
    refine aEp T P.1 hp16 (hm.ok x (List.mem_of_getElem? g5)) (fun y y1 y2=>?_)
    have hps:cW (msL l) 0 (k*9)=msL l:=by rw[<-hl];exact iZ l
    have c72:(k+1)*72<=140737488355328:=by omega
    have c1:k+1<=9223372036854775807:=by omega
    have c9:k*9<=l.length*9:=by omega
    simp only[PP,P1,P2,P14,P15,N1,N2,N3,N4,N5,N6,N7,I1,I2,I3,I4,I5,I6,I7,reduceIte,reduceCtorEq,aP,aS,aR,aC,bK,aL,aE,z9,z9t,aQ,aO,aT,aM,aJ,aN,aK,aH,aF,aB,aD,aA,z8,aG,aY,aI,aX,aW,aV,hps,c72,c1,c9,hwk]
    refine dR (ih (k+1) (g+1) 0 (l++[y]) ⟨by omega,by simp[hl],fun z hz=>?_,fun j w z h1 h2=>?_⟩ (by omega)) (by simp only[PW]) (by rw[aAT])
    · rcases List.mem_append.1 hz with h | h
      · exact hlok z h
      · rw[List.mem_singleton]at h;subst h;exact y1
    · by_cases e:j=k
      · subst e
        rw[g4]at h1;cases h1
        rw[List.getElem?_append_right (by omega),hl,Nat.sub_self]at h2
        cases h2
        rw[y2,eN]
      · have hj:j<l.length:=by
          have:=aZ h2
          simp at this;omega
        rw[List.getElem?_append_left hj]at h2
        exact hln j w z h1 h2
  · have hkr:k=row.length:=by omega
    subst hkr
    have hl0:0<l.length:=by omega
    have hlb:l.length<1000000000000:=by omega
    have mem:∀y∈l,∃u∈Sf su v,y.num (cA pr)=vN (cA pr) (gO pr v).toNat (Nf (cA pr) ms u):=fun y hy=>by
      obtain⟨j,hj⟩:=List.getElem?_of_mem hy
      obtain⟨u,hu⟩:=bY (xs:=row) (k:=j) (by have:=aZ hj;omega)
      refine⟨u.toNat,by rw[eS];exact List.mem_map.2 ⟨u,List.mem_of_getElem? hu,rfl⟩,?_⟩
      rw[eR,Int.toNat_natCast];exact hln j u y hu hj
    have mem2:∀u∈Sf su v,∃y∈l,y.num (cA pr)=vN (cA pr) (gO pr v).toNat (Nf (cA pr) ms u):=fun u hu=>by
      rw[eS]at hu
      obtain⟨w,hw,rfl⟩:=List.mem_map.1 hu
      obtain⟨j,hj⟩:=List.getElem?_of_mem hw
      obtain⟨y,hy⟩:=bY (xs:=l) (k:=j) (by have:=aZ hj;omega)
      refine⟨y,List.mem_of_getElem? hy,?_⟩
      rw[eR,Int.toNat_natCast];exact hln j w y hj hy
    have bor:PBor [.cells 0 0 (msC mz),.cells g ver (msL l)] [.ref 1 g 9 0 row.length,.func (.func 30) [] []] [slM true false l,.func (.func 30) [] []]:=by
      rw[<-hl]
      exact .ref rfl (by rw[aQ];omega) (aO _ _) (iZ l) (.same rfl .nil)
    simp only[PP,P1,P2,P14,P15,N1,N2,N3,N4,N5,N6,N7,I1,I2,I3,I4,I5,I6,I7,reduceIte,reduceCtorEq,aP,aS,aR,aC,bK,aL,aE,z9,z9t,aQ,aO,aT,aM,aJ,aN,aK,aH,aF,aB,aD,aA,z8,aG,aY,aI,aX,aW,aV,c,v0,vn,g1]
    refine QIf.intro (fun d=>?_) (fun d=>?_)
    · simp only[PP,P1,P2,P14,P15,N1,N2,N3,N4,N5,N6,N7,I1,I2,I3,I4,I5,I6,I7,reduceIte,reduceCtorEq,aP,aS,aR,aC,bK,aL,aE,z9,z9t,aQ,aO,aT,aM,aJ,aN,aK,aH,aF,aB,aD,aA,z8,aG,aY,aI,aX,aW,aV,d]
      refine sK bor (RR T hl0 hlb hlok fun y hy hmin=>⟨by simp only[PV.flat,PV.flatA,rO],?_⟩)
      simp only[PP,P1,P2,P14,P15,N1,N2,N3,N4,N5,N6,N7,I1,I2,I3,I4,I5,I6,I7,reduceIte,reduceCtorEq,aP,aS,aR,aC,bK,aL,aE,z9,z9t,aQ,aO,aT,aM,aJ,aN,aK,aH,aF,aB,aD,aA,z8,aG,aY,aI,aX,aW,aV]
      refine hk y (hlok y hy) ?_
      unfold gL lN
      rw[eO,if_pos d]
      refine aAg (mem y hy) fun u hu=>?_
      obtain⟨z,hz,e⟩:=mem2 u hu
      rw[<-e];exact hmin z hz
    · simp only[PP,P1,P2,P14,P15,N1,N2,N3,N4,N5,N6,N7,I1,I2,I3,I4,I5,I6,I7,reduceIte,reduceCtorEq,aP,aS,aR,aC,bK,aL,aE,z9,z9t,aQ,aO,aT,aM,aJ,aN,aK,aH,aF,aB,aD,aA,z8,aG,aY,aI,aX,aW,aV,d]
      refine sK bor (RT T hl0 hlb hlok fun y hy hmin=>⟨by simp only[PV.flat,PV.flatA,rO],?_⟩)
      simp only[PP,P1,P2,P14,P15,N1,N2,N3,N4,N5,N6,N7,I1,I2,I3,I4,I5,I6,I7,reduceIte,reduceCtorEq,aP,aS,aR,aC,bK,aL,aE,z9,z9t,aQ,aO,aT,aM,aJ,aN,aK,aH,aF,aB,aD,aA,z8,aG,aY,aI,aX,aW,aV]
      refine hk y (hlok y hy) ?_
      unfold gL lN
      rw[eO,if_neg d]
      refine aAh (mem y hy) fun u hu=>?_
      obtain⟨z,hz,e⟩:=mem2 u hu
      rw[<-e];exact hmin z hz
end
section
variable {tab:FuncId->Option AF} (T:HasA tab)
include T
end
def LiftA (ow pr:List Int) (su:List (List Int)) (ms:List Ms) (v:Int) (y:Ms) (e:Int):Prop:=
  (¬dU ow pr su=0/\y=mz/\e=dU ow pr su)\/(dU ow pr su=0/\¬ms.length=ow.length/\y=mz/\e=2)\/(dU ow pr su=0/\ms.length=ow.length/\¬(∀x∈ms,x.Ok (cA pr))/\y=mz/\e=1)\/
  (dU ow pr su=0/\StOk (cA pr) ow.length ms/\(v<0\/ow.length<=v)/\y=mz/\e=8)\/(dU ow pr su=0/\StOk (cA pr) ow.length ms/\0<=v/\v<ow.length/\y.Ok (cA pr)/\y.num (cA pr)=gL ow pr su (Nf (cA pr) ms) v.toNat/\e=0)
theorem LiftA.eq {ow pr:List Int} {su:List (List Int)} {ms:List Ms} {v:Int} {y y':Ms} {e e':Int} (h:LiftA ow pr su ms v y e) (h':LiftA ow pr su ms v y' e'):y=y'/\e=e':=by
  rcases h with⟨a1,a2,a3⟩ | ⟨a1,a2,a3,a4⟩ | ⟨a1,a2,a3,a4,a5⟩ | ⟨a1,a2,a3,a4,a5⟩ | ⟨a1,a2,a3,a4,a5,a6,a7⟩<;>
  rcases h' with⟨b1,b2,b3⟩ | ⟨b1,b2,b3,b4⟩ | ⟨b1,b2,b3,b4,b5⟩ | ⟨b1,b2,b3,b4,b5⟩ | ⟨b1,b2,b3,b4,b5,b6,b7⟩<;>
  first
    | (exact absurd a1 b1)
    | (exact absurd b1 a1)
    | (subst a2;subst b2;subst a3;subst b3;exact⟨rfl,rfl⟩)
    | (subst a3;subst b3;subst a4;subst b4;exact⟨rfl,rfl⟩)
    | (subst a4;subst b4;subst a5;subst b5;exact⟨rfl,rfl⟩)
    | (exact absurd b2 a2)
    | (exact absurd a2 b2)
    | (exact absurd b2.l a2)
    | (exact absurd a2.l b2)
    | (exact absurd b2.ok a3)
    | (exact absurd a2.ok b3)
    | (exfalso;omega)
    | exact⟨Ms.inj a5 b5 (a6.trans b6.symm),a7.trans b7.symm⟩
section
variable {tab:FuncId->Option AF} (T:HasA tab)
include T
theorem LN {M:Mem} {K:PV->Mem->Prop} {f o:Bool} {ms:List Ms} {fn:FuncId} {cap:List PV} (p:Ms->Bool) (hb:ms.length<1000000000000)
    (hf:∀x∈ms,∀K':PV->Mem->Prop,K' (.bool (p x)) M->SemC tab fn (.agg (msC x)::cap) M K') (hk:∀i:Int,(0<=i↔∃x∈ms,p x=true)->K (p64 i) M):
    SemC tab 270 [slM f o ms,.func (.func fn) [] cap] M K:=by
  refine cK T.h270 ?_
  simp only[af270,PP,P1,P2,P14,P15,N1,N2,N3,N4,N5,N6,N7,I1,I2,I3,I4,I5,I6,I7,reduceIte,reduceCtorEq]
  refine mL (fun(k:Nat)=>k<=ms.length/\∀(j:Nat) (x:Ms),j<k->ms[j]? =some x->p x=false) (fun k=>(slM f o ms:: .func (.func fn) [] cap::zj 5++p64 ms.length::p64 k::zj 10)) (fun k=>M) (fun k=>ms.length-k) 0 ⟨by omega,fun j x h=>by omega⟩ (by simp only[PW]) rfl ?_
  intro k ⟨hle,hq⟩ ih
  refine bZ (by kernel_rfl) ?_
  simp only[PP,P1,P2,P14,P15,N1,N2,N3,N4,N5,N6,N7,I1,I2,I3,I4,I5,I6,I7,reduceIte,reduceCtorEq]
  refine QIf.intro (fun c=>?_) (fun c=>?_)
  · have hk':k<ms.length:=by omega
    have h0:(0:Int)<=k:=by omega
    have hw:=bG (k:=k) (by show _<1000000000000;omega)
    obtain⟨x,e⟩:=bY hk'
    have q1:=hP e
    have q2:=xT e
    simp only[PP,P1,P2,P14,P15,N1,N2,N3,N4,N5,N6,N7,I1,I2,I3,I4,I5,I6,I7,reduceIte,reduceCtorEq,aP,aS,aR,aC,bK,aL,aE,z9,z9t,aQ,aO,aT,aM,aJ,aN,aK,aH,aF,aB,aD,aA,z8,aG,aY,aI,aX,aW,aV,c,h0,q1,q2]
    refine hf x (List.mem_of_getElem? e) _ ?_
    cases hp:p x with
    | true=>
      simp only[PP,P1,P2,P14,P15,N1,N2,N3,N4,N5,N6,N7,I1,I2,I3,I4,I5,I6,I7,reduceIte,reduceCtorEq]
      exact hk k ⟨fun _=>⟨x,List.mem_of_getElem? e,hp⟩,fun _=>h0⟩
    | false=>
      simp only[PP,P1,P2,P14,P15,N1,N2,N3,N4,N5,N6,N7,I1,I2,I3,I4,I5,I6,I7,reduceIte,reduceCtorEq,hw]
      refine bB (ih (k+1) ⟨by omega,fun j y hj hy=>?_⟩ (by omega)) (by simp only[PW])
      by_cases e2:j=k
      · subst e2;rw[e]at hy;cases hy;exact hp
      · exact hq j y (by omega) hy
  · have hkn:k=ms.length:=by omega
    subst hkn
    simp only[PP,P1,P2,P14,P15,N1,N2,N3,N4,N5,N6,N7,I1,I2,I3,I4,I5,I6,I7,reduceIte,reduceCtorEq,c]
    refine hk (-1) ⟨fun h=>absurd h (by decide),fun⟨x,hx,h⟩=>?_⟩
    obtain⟨j,hj⟩:=List.getElem?_of_mem hx
    rw[hq j x (aZ hj) hj]at h;cases h
open Classical in
set_option maxHeartbeats 1000000 in
theorem aEk {M:Mem} {K:PV->Mem->Prop} {f1 o1 f2 o2 f3 o3 f4 o4 f o:Bool} {ow pr:List Int} {su:List (List Int)} {ms:List Ms} {v:Int} (B:Bnd ow pr su) (hb:ms.length<1000000000000)
    (hk:∀y e,LiftA ow pr su ms v y e->K (.tuple [.agg (msC y),p64 e]) M):
    SemC tab 266 [gmP f1 o1 f2 o2 f3 o3 f4 o4 ow pr su,slM f o ms,p64 v] M K:=by
  refine a8 T.h266 (by simp only[PP,P1,P2,P14,P15,N1,N2,N3,N4,N5,N6,N7,I1,I2,I3,I4,I5,I6,I7,reduceIte,reduceCtorEq,aP,aS,aR,aC,bK,aL,aE,z9,z9t,aQ,aO,aT,aM,aJ,aN,aK,aH,aF,aB,aD,aA,z8,aG,aY,aI,aX,aW,aV,PV.under]) ?_
  simp only[af266,PP,P1,P2,P14,P15,N1,N2,N3,N4,N5,N6,N7,I1,I2,I3,I4,I5,I6,I7,reduceIte,reduceCtorEq,aP,aS,aR,aC,bK,aL,aE,z9,z9t,aQ,aO,aT,aM,aJ,aN,aK,aH,aF,aB,aD,aA,z8,aG,aY,aI,aX,aW,aV]
  refine EZ T B ?_
  simp only[PP,P1,P2,P14,P15,N1,N2,N3,N4,N5,N6,N7,I1,I2,I3,I4,I5,I6,I7,reduceIte,reduceCtorEq]
  refine QIf.intro (fun c1=>?_) (fun c1=>?_)
  rotate_left
  · simp only[PP,P1,P2,P14,P15,N1,N2,N3,N4,N5,N6,N7,I1,I2,I3,I4,I5,I6,I7,reduceIte,reduceCtorEq,aP,aS,aR,aC,bK,aL,aE,z9,z9t,aQ,aO,aT,aM,aJ,aN,aK,aH,aF,aB,aD,aA,z8,aG,aY,aI,aX,aW,aV,c1]
    exact hk mz _ (.inl ⟨c1,rfl,rfl⟩)
  have V:=l8 c1
  have P:=wP V
  simp only[PP,P1,P2,P14,P15,N1,N2,N3,N4,N5,N6,N7,I1,I2,I3,I4,I5,I6,I7,reduceIte,reduceCtorEq,aP,aS,aR,aC,bK,aL,aE,z9,z9t,aQ,aO,aT,aM,aJ,aN,aK,aH,aF,aB,aD,aA,z8,aG,aY,aI,aX,aW,aV,c1]
  refine uT T P ?_
  simp only[PP,P1,P2,P14,P15,N1,N2,N3,N4,N5,N6,N7,I1,I2,I3,I4,I5,I6,I7,reduceIte,reduceCtorEq,aP,aS,aR,aC,bK,aL,aE,z9,z9t,aQ,aO,aT,aM,aJ,aN,aK,aH,aF,aB,aD,aA,z8,aG,aY,aI,aX,aW,aV]
  refine QIf.intro (fun c2=>?_) (fun c2=>?_)
  rotate_left
  · simp only[PP,P1,P2,P14,P15,N1,N2,N3,N4,N5,N6,N7,I1,I2,I3,I4,I5,I6,I7,reduceIte,reduceCtorEq,aP,aS,aR,aC,bK,aL,aE,z9,z9t,aQ,aO,aT,aM,aJ,aN,aK,aH,aF,aB,aD,aA,z8,aG,aY,aI,aX,aW,aV,c2]
    exact hk mz 2 (.inr (.inl ⟨c1,fun h=>c2 (by omega),rfl,rfl⟩))
  have hl:ms.length=ow.length:=by omega
  simp only[PP,P1,P2,P14,P15,N1,N2,N3,N4,N5,N6,N7,I1,I2,I3,I4,I5,I6,I7,reduceIte,reduceCtorEq,aP,aS,aR,aC,bK,aL,aE,z9,z9t,aQ,aO,aT,aM,aJ,aN,aK,aH,aF,aB,aD,aA,z8,aG,aY,aI,aX,aW,aV,c2]
  refine cK T.h267 ?_
  simp only[af267,PP,P1,P2,P14,P15,N1,N2,N3,N4,N5,N6,N7,I1,I2,I3,I4,I5,I6,I7,reduceIte,reduceCtorEq,aP,aS,aR,aC,bK,aL,aE,z9,z9t,aQ,aO,aT,aM,aJ,aN,aK,aH,aF,aB,aD,aA,z8,aG,aY,aI,aX,aW,aV]
  refine LN T (fun x=>decide ¬x.Ok (cA pr)) hb (fun x hx K' hK'=>?_) (fun i hi=>?_)
  · refine IZ ?_
    refine cK T.h268 ?_
    simp only[af268,PP,P1,P2,P14,P15,N1,N2,N3,N4,N5,N6,N7,I1,I2,I3,I4,I5,I6,I7,reduceIte,reduceCtorEq,aP,aS,aR,aC,bK,aL,aE,z9,z9t,aQ,aO,aT,aM,aJ,aN,aK,aH,aF,aB,aD,aA,z8,aG,aY,aI,aX,aW,aV]
    refine aAf T P.1 (fun b hb=>?_)
    simp only[PP,P1,P2,P14,P15,N1,N2,N3,N4,N5,N6,N7,I1,I2,I3,I4,I5,I6,I7,reduceIte,reduceCtorEq,aP,aS,aR,aC,bK,aL,aE,z9,z9t,aQ,aO,aT,aM,aJ,aN,aK,aH,aF,aB,aD,aA,z8,aG,aY,aI,aX,aW,aV]
    refine⟨_,_,rfl,o9 (by simp only[List.take_succ_cons,List.take_zero,List.all_cons,List.all_nil,bH,bW,cI,hH,iS,gT,l9,aR,PV.under,aI,Bool.and_self]),?_⟩
    have e:(!b)=decide (¬x.Ok (cA pr)):=by
      cases b with
      | true=>have h:=hb.1 rfl;simp[h]
      | false => have h : ¬ x.Ok (cA pr) := fun q => (by have := hb.2 q; cases this)
                 simp [h]
    rw[e];exact hK'
  · simp only[PP,P1,P2,P14,P15,N1,N2,N3,N4,N5,N6,N7,I1,I2,I3,I4,I5,I6,I7,reduceIte,reduceCtorEq,aP,aS,aR,aC,bK,aL,aE,z9,z9t,aQ,aO,aT,aM,aJ,aN,aK,aH,aF,aB,aD,aA,z8,aG,aY,aI,aX,aW,aV]
    have hi2:0<=i↔¬∀x∈ms,x.Ok (cA pr):=by
      rw[hi]
      constructor
      · rintro⟨x,hx,h⟩ q;exact(of_decide_eq_true h) (q x hx)
      · intro q
        apply Classical.byContradiction
        intro h
        exact q fun x hx=>Classical.byContradiction fun h2=>h ⟨x,hx,decide_eq_true h2⟩
    refine QIf.intro (fun c3=>?_) (fun c3=>?_)
    · simp only[PP,P1,P2,P14,P15,N1,N2,N3,N4,N5,N6,N7,I1,I2,I3,I4,I5,I6,I7,reduceIte,reduceCtorEq,aP,aS,aR,aC,bK,aL,aE,z9,z9t,aQ,aO,aT,aM,aJ,aN,aK,aH,aF,aB,aD,aA,z8,aG,aY,aI,aX,aW,aV,c3]
      exact hk mz 1 (.inr (.inr (.inl ⟨c1,hl,hi2.1 c3,rfl,rfl⟩)))
    have S:StOk (cA pr) ow.length ms:=⟨hl,Classical.byContradiction fun h=>c3 (hi2.2 h)⟩
    simp only[PP,P1,P2,P14,P15,N1,N2,N3,N4,N5,N6,N7,I1,I2,I3,I4,I5,I6,I7,reduceIte,reduceCtorEq,aP,aS,aR,aC,bK,aL,aE,z9,z9t,aQ,aO,aT,aM,aJ,aN,aK,aH,aF,aB,aD,aA,z8,aG,aY,aI,aX,aW,aV,c3]
    refine QIf.intro (fun c4=>?_) (fun c4=>?_)
    · simp only[PP,P1,P2,P14,P15,N1,N2,N3,N4,N5,N6,N7,I1,I2,I3,I4,I5,I6,I7,reduceIte,reduceCtorEq,aP,aS,aR,aC,bK,aL,aE,z9,z9t,aQ,aO,aT,aM,aJ,aN,aK,aH,aF,aB,aD,aA,z8,aG,aY,aI,aX,aW,aV,c4]
      exact hk mz 8 (.inr (.inr (.inr (.inl ⟨c1,S,.inl c4,rfl,rfl⟩))))
    simp only[PP,P1,P2,P14,P15,N1,N2,N3,N4,N5,N6,N7,I1,I2,I3,I4,I5,I6,I7,reduceIte,reduceCtorEq,aP,aS,aR,aC,bK,aL,aE,z9,z9t,aQ,aO,aT,aM,aJ,aN,aK,aH,aF,aB,aD,aA,z8,aG,aY,aI,aX,aW,aV,c4,hl]
    refine QIf.intro (fun c5=>?_) (fun c5=>?_)
    · simp only[PP,P1,P2,P14,P15,N1,N2,N3,N4,N5,N6,N7,I1,I2,I3,I4,I5,I6,I7,reduceIte,reduceCtorEq,aP,aS,aR,aC,bK,aL,aE,z9,z9t,aQ,aO,aT,aM,aJ,aN,aK,aH,aF,aB,aD,aA,z8,aG,aY,aI,aX,aW,aV,c5]
      exact hk mz 8 (.inr (.inr (.inr (.inl ⟨c1,S,.inr c5,rfl,rfl⟩))))
    obtain⟨w,rfl⟩:∃w:Nat,v=w:=⟨v.toNat,by omega⟩
    simp only[PP,P1,P2,P14,P15,N1,N2,N3,N4,N5,N6,N7,I1,I2,I3,I4,I5,I6,I7,reduceIte,reduceCtorEq,aP,aS,aR,aC,bK,aL,aE,z9,z9t,aQ,aO,aT,aM,aJ,aN,aK,aH,aF,aB,aD,aA,z8,aG,aY,aI,aX,aW,aV,c5]
    refine WQ T V B S (by omega) (fun y y1 y2=>?_)
    simp only[PP,P1,P2,P14,P15,N1,N2,N3,N4,N5,N6,N7,I1,I2,I3,I4,I5,I6,I7,reduceIte,reduceCtorEq,aP,aS,aR,aC,bK,aL,aE,z9,z9t,aQ,aO,aT,aM,aJ,aN,aK,aH,aF,aB,aD,aA,z8,aG,aY,aI,aX,aW,aV]
    exact hk y 0 (.inr (.inr (.inr (.inr ⟨c1,S,by omega,by omega,y1,y2,rfl⟩))))
end
end Go.Am.Ar

