/- Contracts: the least and the greatest of measures, and the lifted measure, and what goes with it. -/
import Derived.Test.YtapbgleednkimaaGreatDoorBudgetDividedG4
import Derived.Test.YtapbgleednkimaaGreatDoorPmC
set_option linter.unusedVariables false
set_option linter.unusedSimpArgs false
set_option maxRecDepth 10000
namespace Go.Am.Ar
open Go.Am.PV renaming junk->Zj
open Go.Am renaming kV->P1,qL->P2,PKNo->P3,ppack->P4,PObj.under->P5,pput->P6,ptset->P7,ptget->P8,pev->P9,ofAV->P10,ofAV1->P11,ppad->P12,pfill->P13,fF->P14,AO.effect->P15
open List renaming replicate->L1
abbrev gO (ow:List Int):Nat->Int:=fun v=>ow.getD v 0
abbrev gL (ow pr:List Int) (su:List (List Int)):(Nat->Nat)->Nat->Nat:=lN (dS pr) (gO ow) (Sf su) (gO pr)
def Nf (ns:List Nat) (ms:List Ms) (v:Nat):Nat:=(ms.getD v mz).num ns
structure StOk (ns:List Nat) (n:Nat) (ms:List Ms):Prop where
  l:ms.length=n
  ok:∀x∈ms,x.Ok ns
theorem s8 {ns:List Nat} {ms:List Ms} {v:Nat} {x:Ms} (h:ms[v]? =some x):Nf ns ms v=x.num ns:=by unfold Nf;simp[List.getD,h]
theorem rJ {ow pr:List Int} {su:List (List Int)} (V:Valid ow pr su):aDY pr:=⟨by rw[V.p];have:=V.n1;omega,fun x hx=>by
  obtain⟨i,hi⟩:=List.getElem?_of_mem hx
  have hl:=cQ hi
  have:=V.row i (by rw[V.s,<-V.p];exact hl)
  rw[getD_some hi]at this
  exact⟨this.1,this.2.1⟩⟩
theorem sE (x:Ms):(msC x).all PV.flat1=true:=by simp[msC,PV.flat1]
theorem jL (l:List Ms):dW (msL l) 0 (l.length*9)=msL l:=dQ _ _ (cD l).symm
section
variable {tab:FuncId->Option AF} (T:HasA tab)
include T
theorem Q7 {M:Mem} {K:PV->Mem->Prop} {f o:Bool} {ms:List Ms} {ns:List Nat} (h0:0<ms.length) (hb:ms.length<1000000000000) (hok:∀x∈ms,x.Ok ns)
    (hk:∀y,y∈ms->(∀z∈ms,y.num ns<=z.num ns)->K (.agg (msC y)) M):
    SemC tab 220 [slM f o ms,.func (.func 30) [] []] M K:=by
  refine cP T.h220 (by simp only[PP,P1,P2,P14,P15,simprocAttr,cC,cI,cG,bK,dJ,bY,bM,z9,z9t,cD,cA,cJ,bZ,bW,b9,bX,bP,bN,bH,bL,bG,z8,bO,cV,bV,cU,cT,cR,PV.under]) ?_
  have n1:¬(ms.length:Int)<1:=by omega
  have n2:(0:Int)<ms.length:=by omega
  obtain⟨x0,g0⟩:=dN (xs:=ms) (k:=0) h0
  have p0:=iY g0
  have l0:=vC g0
  rw[Nat.zero_mul]at p0 l0
  rw[Nat.zero_add]at l0
  simp only[af220,PP,P1,P2,P14,P15,simprocAttr,cC,cI,cG,bK,dJ,bY,bM,z9,z9t,cD,cA,cJ,bZ,bW,b9,bX,bP,bN,bH,bL,bG,z8,bO,cV,bV,cU,cT,cR,n1,n2,p0,l0]
  refine sG (fun(k ver:Nat) (y:Ms)=>1<=k/\k<=ms.length/\y∈ms/\∀(j:Nat) (z:Ms),j<k->ms[j]? =some z->y.num ns<=z.num ns)
    (fun k ver y=>(slM f o ms:: .func (.func 30) [] []:: .junk:: .junk:: .ptr 0 0 0:: .ptr 1 0 0::p64 k::zj 26))
    (fun k ver y=>[.cells 0 0 (msC mz),.cells 0 ver (msC y)]) (fun k _ _=>ms.length-k) 1 1 x0 ⟨by omega,h0,List.mem_of_getElem? g0,fun j z hj hz=>by
      have:j=0:=by omega
      subst this;rw[g0]at hz;cases hz;exact Nat.le_refl _⟩ (by simp only[PW]) rfl ?_
  intro k ver y ⟨hle1,hle,hy,hmin⟩ ih
  refine dL (by kernel_rfl) ?_
  simp only[PP,P1,P2,P14,P15,simprocAttr]
  refine QIf.intro (fun c=>?_) (fun c=>?_)
  · have hk':k<ms.length:=by omega
    have k0:(0:Int)<=k:=by omega
    have kn:(k:Int)<ms.length:=by omega
    have hwk:=dA (k:=k) (by show _<1000000000000;omega)
    obtain⟨x,g1⟩:=dN (xs:=ms) (k:=k) hk'
    have hxm:=List.mem_of_getElem? g1
    have p1:=iY g1
    have l1:=vC g1
    simp only[PP,P1,P2,P14,P15,simprocAttr,cC,cI,cG,bK,dJ,bY,bM,z9,z9t,cD,cA,cJ,bZ,bW,b9,bX,bP,bN,bH,bL,bG,z8,bO,cV,bV,cU,cT,cR,c,k0,p1,l1]
    refine nI T ?_
    rw[wU (hok x hxm) (hok y hy)]
    simp only[PP,P1,P2,P14,P15,simprocAttr,cC,cI,cG,bK,dJ,bY,bM,z9,z9t,cD,cA,cJ,bZ,bW,b9,bX,bP,bN,bH,bL,bG,z8,bO,cV,bV,cU,cT,cR]
    refine QIf.intro (fun d=>?_) (fun d=>?_)
    · rw[I1]at d
      simp only[PP,P1,P2,P14,P15,simprocAttr,cC,cI,cG,bK,dJ,bY,bM,z9,z9t,cD,cA,cJ,bZ,bW,b9,bX,bP,bN,bH,bL,bG,z8,bO,cV,bV,cU,cT,cR,c,k0,p1,l1,hwk]
      refine dY (ih (k+1) (ver+1) x ⟨by omega,hk',hxm,fun j z hj hz=>?_⟩ (by omega)) (by simp only[PW]) rfl
      by_cases e:j=k
      · subst e;rw[g1]at hz;cases hz;exact Nat.le_refl _
      · have:=hmin j z (by omega) hz;omega
    · rw[I1]at d
      simp only[PP,P1,P2,P14,P15,simprocAttr,cC,cI,cG,bK,dJ,bY,bM,z9,z9t,cD,cA,cJ,bZ,bW,b9,bX,bP,bN,bH,bL,bG,z8,bO,cV,bV,cU,cT,cR,hwk]
      refine dB (ih (k+1) ver y ⟨by omega,hk',hy,fun j z hj hz=>?_⟩ (by omega)) (by simp only[PW])
      by_cases e:j=k
      · subst e;rw[g1]at hz;cases hz;omega
      · exact hmin j z (by omega) hz
  · simp only[PP,P1,P2,P14,P15,simprocAttr,cC,cI,cG,bK,dJ,bY,bM,z9,z9t,cD,cA,cJ,bZ,bW,b9,bX,bP,bN,bH,bL,bG,z8,bO,cV,bV,cU,cT,cR,c]
    refine hk y hy fun z hz=>?_
    obtain⟨j,hj⟩:=List.getElem?_of_mem hz
    exact hmin j z (by have:=cQ hj;omega) hj
theorem Q8 {M:Mem} {K:PV->Mem->Prop} {f o:Bool} {ms:List Ms} {ns:List Nat} (h0:0<ms.length) (hb:ms.length<1000000000000) (hok:∀x∈ms,x.Ok ns)
    (hk:∀y,y∈ms->(∀z∈ms,z.num ns<=y.num ns)->K (.agg (msC y)) M):
    SemC tab 221 [slM f o ms,.func (.func 30) [] []] M K:=by
  refine cP T.h221 (by simp only[PP,P1,P2,P14,P15,simprocAttr,cC,cI,cG,bK,dJ,bY,bM,z9,z9t,cD,cA,cJ,bZ,bW,b9,bX,bP,bN,bH,bL,bG,z8,bO,cV,bV,cU,cT,cR,PV.under]) ?_
  have n1:¬(ms.length:Int)<1:=by omega
  have n2:(0:Int)<ms.length:=by omega
  obtain⟨x0,g0⟩:=dN (xs:=ms) (k:=0) h0
  have p0:=iY g0
  have l0:=vC g0
  rw[Nat.zero_mul]at p0 l0
  rw[Nat.zero_add]at l0
  simp only[af221,PP,P1,P2,P14,P15,simprocAttr,cC,cI,cG,bK,dJ,bY,bM,z9,z9t,cD,cA,cJ,bZ,bW,b9,bX,bP,bN,bH,bL,bG,z8,bO,cV,bV,cU,cT,cR,n1,n2,p0,l0]
  refine sG (fun(k ver:Nat) (y:Ms)=>1<=k/\k<=ms.length/\y∈ms/\∀(j:Nat) (z:Ms),j<k->ms[j]? =some z->z.num ns<=y.num ns)
    (fun k ver y=>(slM f o ms:: .func (.func 30) [] []:: .junk:: .junk:: .ptr 0 0 0:: .ptr 1 0 0::p64 k::zj 26))
    (fun k ver y=>[.cells 0 0 (msC mz),.cells 0 ver (msC y)]) (fun k _ _=>ms.length-k) 1 1 x0 ⟨by omega,h0,List.mem_of_getElem? g0,fun j z hj hz=>by
      have:j=0:=by omega
      subst this;rw[g0]at hz;cases hz;exact Nat.le_refl _⟩ (by simp only[PW]) rfl ?_
  intro k ver y ⟨hle1,hle,hy,hmin⟩ ih
  refine dL (by kernel_rfl) ?_
  simp only[PP,P1,P2,P14,P15,simprocAttr]
  refine QIf.intro (fun c=>?_) (fun c=>?_)
  · have hk':k<ms.length:=by omega
    have k0:(0:Int)<=k:=by omega
    have kn:(k:Int)<ms.length:=by omega
    have hwk:=dA (k:=k) (by show _<1000000000000;omega)
    obtain⟨x,g1⟩:=dN (xs:=ms) (k:=k) hk'
    have hxm:=List.mem_of_getElem? g1
    have p1:=iY g1
    have l1:=vC g1
    simp only[PP,P1,P2,P14,P15,simprocAttr,cC,cI,cG,bK,dJ,bY,bM,z9,z9t,cD,cA,cJ,bZ,bW,b9,bX,bP,bN,bH,bL,bG,z8,bO,cV,bV,cU,cT,cR,c,k0,p1,l1]
    refine nI T ?_
    rw[wU (hok x hxm) (hok y hy)]
    simp only[PP,P1,P2,P14,P15,simprocAttr,cC,cI,cG,bK,dJ,bY,bM,z9,z9t,cD,cA,cJ,bZ,bW,b9,bX,bP,bN,bH,bL,bG,z8,bO,cV,bV,cU,cT,cR]
    refine QIf.intro (fun d=>?_) (fun d=>?_)
    · rw[pG]at d
      simp only[PP,P1,P2,P14,P15,simprocAttr,cC,cI,cG,bK,dJ,bY,bM,z9,z9t,cD,cA,cJ,bZ,bW,b9,bX,bP,bN,bH,bL,bG,z8,bO,cV,bV,cU,cT,cR,c,k0,p1,l1,hwk]
      refine dY (ih (k+1) (ver+1) x ⟨by omega,hk',hxm,fun j z hj hz=>?_⟩ (by omega)) (by simp only[PW]) rfl
      by_cases e:j=k
      · subst e;rw[g1]at hz;cases hz;exact Nat.le_refl _
      · have:=hmin j z (by omega) hz;omega
    · rw[pG]at d
      simp only[PP,P1,P2,P14,P15,simprocAttr,cC,cI,cG,bK,dJ,bY,bM,z9,z9t,cD,cA,cJ,bZ,bW,b9,bX,bP,bN,bH,bL,bG,z8,bO,cV,bV,cU,cT,cR,hwk]
      refine dB (ih (k+1) ver y ⟨by omega,hk',hy,fun j z hj hz=>?_⟩ (by omega)) (by simp only[PW])
      by_cases e:j=k
      · subst e;rw[g1]at hz;cases hz;omega
      · exact hmin j z (by omega) hz
  · simp only[PP,P1,P2,P14,P15,simprocAttr,cC,cI,cG,bK,dJ,bY,bM,z9,z9t,cD,cA,cJ,bZ,bW,b9,bX,bP,bN,bH,bL,bG,z8,bO,cV,bV,cU,cT,cR,c]
    refine hk y hy fun z hz=>?_
    obtain⟨j,hj⟩:=List.getElem?_of_mem hz
    exact hmin j z (by have:=cQ hj;omega) hj
set_option maxHeartbeats 1000000 in
theorem VZ {M:Mem} {K:PV->Mem->Prop} {f1 o1 f2 o2 f3 o3 f4 o4 f o:Bool} {ow pr:List Int} {su:List (List Int)} {ms:List Ms} {v:Nat} (V:Valid ow pr su) (B:Bnd ow pr su) (hm:StOk (dS pr) ow.length ms) (hv:v<ow.length)
    (hk:∀y:Ms,y.Ok (dS pr)->y.num (dS pr)=gL ow pr su (Nf (dS pr) ms) v->K (.agg (msC y)) M):
    SemC tab 190 [.cp (kY f1 o1 f2 o2 f3 o3 f4 o4 ow pr su) 0,slM f o ms,p64 v] M K:=by
  have P:=rJ V
  have hp:=V.p
  have hs:=V.s
  have hml:=hm.l
  obtain⟨o',g1⟩:=dN (xs:=ow) (k:=v) hv
  obtain⟨pv,g2⟩:=dN (xs:=pr) (k:=v) (by omega)
  obtain⟨row,g3⟩:=dN (xs:=su) (k:=v) (by omega)
  obtain⟨p0,p1⟩:=P.2 pv (List.mem_of_getElem? g2)
  obtain⟨p,rfl⟩:∃p:Nat,pv=p:=⟨pv.toNat,by omega⟩
  have hp16:p<=16:=by omega
  have v0:(0:Int)<=v:=by omega
  have vn:(v:Int)<ow.length:=by omega
  have eO:gO ow v=o':=getD_some g1
  have eR:gO pr v=p:=getD_some g2
  have eS:Sf su v=row.map Int.toNat:=by unfold Sf;simp[List.getD,g3]
  have hrow:∀u∈row,0<=u/\u<ow.length:=fun u hu=>TL V hv (by simp[List.getD,g3];exact hu)
  have hrl:row.length<1000000000000:=B.r row (List.mem_of_getElem? g3)
  have hrn:0<row.length:=by
    have:=(YG V hv).1
    rw[eS]at this
    cases row with
    | nil=>exact absurd rfl this
    | cons x l=>simp
  refine cP T.h190 (by simp only[PP,P1,P2,P14,P15,simprocAttr,cC,cI,cG,bK,dJ,bY,bM,z9,z9t,cD,cA,cJ,bZ,bW,b9,bX,bP,bN,bH,bL,bG,z8,bO,cV,bV,cU,cT,cR,PV.under]) ?_
  simp only[af190,PP,P1,P2,P14,P15,simprocAttr,cC,cI,cG,bK,dJ,bY,bM,z9,z9t,cD,cA,cJ,bZ,bW,b9,bX,bP,bN,bH,bL,bG,z8,bO,cV,bV,cU,cT,cR,v0,vn,hs,g3]
  refine eB (GStep.nil 7 9 rfl rfl rfl) ?_
  refine yN (fun(k g ver:Nat) (l:List Ms)=>k<=row.length/\l.length=k/\(∀x∈l,x.Ok (dS pr))/\∀(j:Nat) (u:Int) (x:Ms),row[j]? =some u->l[j]? =some x->x.num (dS pr)=vN (dS pr) p (Nf (dS pr) ms u.toNat))
    (fun k g ver l=>(.cp (kY f1 o1 f2 o2 f3 o3 f4 o4 ow pr su) 0::slM f o ms::p64 v::zj 3++ .ptr 0 0 0:: .ref 1 g 9 0 k::zj 9++slI f4 o4 .i64 row::p64 row.length::p64 k::zj 34))
    (fun k g ver l=>[.cells 0 0 (msC mz),.cells g ver (msL l)]) (fun k _ _ _=>row.length-k) 0 0 0 [] ⟨by omega,rfl,fun x hx=>(by cases hx),fun j u x _ h=>by simp at h⟩ (by simp only[PP,P1,P2,P14,P15,simprocAttr,PW,Int.cast_ofNat_Int]) (by simp only[PP,P1,P2,P14,P15,simprocAttr];rfl) ?_
  intro k g ver l ⟨hle,hl,hlok,hln⟩ ih
  refine dL (by kernel_rfl) ?_
  simp only[PP,P1,P2,P14,P15,simprocAttr]
  refine QIf.intro (fun c=>?_) (fun c=>?_)
  · have hk':k<row.length:=by omega
    have k0:(0:Int)<=k:=by omega
    have hwk:=dA (k:=k) (by show _<1000000000000;omega)
    obtain⟨u,g4⟩:=dN (xs:=row) (k:=k) hk'
    obtain⟨u0,u1⟩:=hrow u (List.mem_of_getElem? g4)
    obtain⟨x,g5⟩:=dN (xs:=ms) (k:=u.toNat) (by omega)
    have eN:Nf (dS pr) ms u.toNat=x.num (dS pr):=s8 g5
    have q1:=iY g5
    have q2:=vC g5
    rw[hml]at q2
    simp only[PP,P1,P2,P14,P15,simprocAttr,cC,cI,cG,bK,dJ,bY,bM,z9,z9t,cD,cA,cJ,bZ,bW,b9,bX,bP,bN,bH,bL,bG,z8,bO,cV,bV,cU,cT,cR,c,k0,v0,vn,hp,g2,g4,u0,u1,hml,q1,q2]
    refine aDj T P.1 hp16 (hm.ok x (List.mem_of_getElem? g5)) (fun y y1 y2=>?_)
    have hps:dW (msL l) 0 (k*9)=msL l:=by rw[<-hl];exact jL l
    have c72:(k+1)*72<=140737488355328:=by omega
    have c1:k+1<=9223372036854775807:=by omega
    have c9:k*9<=l.length*9:=by omega
    simp only[PP,P1,P2,P14,P15,simprocAttr,cC,cI,cG,bK,dJ,bY,bM,z9,z9t,cD,cA,cJ,bZ,bW,b9,bX,bP,bN,bH,bL,bG,z8,bO,cV,bV,cU,cT,cR,hps,c72,c1,c9,hwk]
    refine dY (ih (k+1) (g+1) 0 (l++[y]) ⟨by omega,by simp[hl],fun z hz=>?_,fun j w z h1 h2=>?_⟩ (by omega)) (by simp only[PW]) (by rw[aAc])
    · rcases List.mem_append.1 hz with h | h
      · exact hlok z h
      · rw[List.mem_singleton]at h;subst h;exact y1
    · by_cases e:j=k
      · subst e
        rw[g4]at h1;cases h1
        rw[List.getElem?_append_right (by omega),hl,Nat.sub_self]at h2
        cases h2
        rw[y2,eN]
      · have hj:j<l.length:=by
          have:=cQ h2
          simp at this;omega
        rw[List.getElem?_append_left hj]at h2
        exact hln j w z h1 h2
  · have hkr:k=row.length:=by omega
    subst hkr
    have hl0:0<l.length:=by omega
    have hlb:l.length<1000000000000:=by omega
    have mem:∀y∈l,∃u∈Sf su v,y.num (dS pr)=vN (dS pr) (gO pr v).toNat (Nf (dS pr) ms u):=fun y hy=>by
      obtain⟨j,hj⟩:=List.getElem?_of_mem hy
      obtain⟨u,hu⟩:=dN (xs:=row) (k:=j) (by have:=cQ hj;omega)
      refine⟨u.toNat,by rw[eS];exact List.mem_map.2 ⟨u,List.mem_of_getElem? hu,rfl⟩,?_⟩
      rw[eR,Int.toNat_natCast];exact hln j u y hu hj
    have mem2:∀u∈Sf su v,∃y∈l,y.num (dS pr)=vN (dS pr) (gO pr v).toNat (Nf (dS pr) ms u):=fun u hu=>by
      rw[eS]at hu
      obtain⟨w,hw,rfl⟩:=List.mem_map.1 hu
      obtain⟨j,hj⟩:=List.getElem?_of_mem hw
      obtain⟨y,hy⟩:=dN (xs:=l) (k:=j) (by have:=cQ hj;omega)
      refine⟨y,List.mem_of_getElem? hy,?_⟩
      rw[eR,Int.toNat_natCast];exact hln j w y hj hy
    have bor:PBor [.cells 0 0 (msC mz),.cells g ver (msL l)] [.ref 1 g 9 0 row.length,.func (.func 30) [] []] [slM true false l,.func (.func 30) [] []]:=by
      rw[<-hl]
      exact .ref rfl (by rw[cD];omega) (cA _ _) (jL l) (.same rfl .nil)
    simp only[PP,P1,P2,P14,P15,simprocAttr,cC,cI,cG,bK,dJ,bY,bM,z9,z9t,cD,cA,cJ,bZ,bW,b9,bX,bP,bN,bH,bL,bG,z8,bO,cV,bV,cU,cT,cR,c,v0,vn,g1]
    refine QIf.intro (fun d=>?_) (fun d=>?_)
    · simp only[PP,P1,P2,P14,P15,simprocAttr,cC,cI,cG,bK,dJ,bY,bM,z9,z9t,cD,cA,cJ,bZ,bW,b9,bX,bP,bN,bH,bL,bG,z8,bO,cV,bV,cU,cT,cR,d]
      refine sY bor (Q7 T hl0 hlb hlok fun y hy hmin=>⟨by simp only[PV.flat,PV.flatA,sE],?_⟩)
      simp only[PP,P1,P2,P14,P15,simprocAttr,cC,cI,cG,bK,dJ,bY,bM,z9,z9t,cD,cA,cJ,bZ,bW,b9,bX,bP,bN,bH,bL,bG,z8,bO,cV,bV,cU,cT,cR]
      refine hk y (hlok y hy) ?_
      unfold gL lN
      rw[eO,if_pos d]
      refine Y9 (mem y hy) fun u hu=>?_
      obtain⟨z,hz,e⟩:=mem2 u hu
      rw[<-e];exact hmin z hz
    · simp only[PP,P1,P2,P14,P15,simprocAttr,cC,cI,cG,bK,dJ,bY,bM,z9,z9t,cD,cA,cJ,bZ,bW,b9,bX,bP,bN,bH,bL,bG,z8,bO,cV,bV,cU,cT,cR,d]
      refine sY bor (Q8 T hl0 hlb hlok fun y hy hmin=>⟨by simp only[PV.flat,PV.flatA,sE],?_⟩)
      simp only[PP,P1,P2,P14,P15,simprocAttr,cC,cI,cG,bK,dJ,bY,bM,z9,z9t,cD,cA,cJ,bZ,bW,b9,bX,bP,bN,bH,bL,bG,z8,bO,cV,bV,cU,cT,cR]
      refine hk y (hlok y hy) ?_
      unfold gL lN
      rw[eO,if_neg d]
      refine ZA (mem y hy) fun u hu=>?_
      obtain⟨z,hz,e⟩:=mem2 u hu
      rw[<-e];exact hmin z hz
end
section
variable {tab:FuncId->Option AF} (T:HasA tab)
include T
end
def LiftA (ow pr:List Int) (su:List (List Int)) (ms:List Ms) (v:Int) (y:Ms) (e:Int):Prop:=
  (¬eH ow pr su=0/\y=mz/\e=eH ow pr su)\/(eH ow pr su=0/\¬ms.length=ow.length/\y=mz/\e=2)\/(eH ow pr su=0/\ms.length=ow.length/\¬(∀x∈ms,x.Ok (dS pr))/\y=mz/\e=1)\/
  (eH ow pr su=0/\StOk (dS pr) ow.length ms/\(v<0\/ow.length<=v)/\y=mz/\e=8)\/(eH ow pr su=0/\StOk (dS pr) ow.length ms/\0<=v/\v<ow.length/\y.Ok (dS pr)/\y.num (dS pr)=gL ow pr su (Nf (dS pr) ms) v.toNat/\e=0)
theorem LiftA.eq {ow pr:List Int} {su:List (List Int)} {ms:List Ms} {v:Int} {y y':Ms} {e e':Int} (h:LiftA ow pr su ms v y e) (h':LiftA ow pr su ms v y' e'):y=y'/\e=e':=by
  rcases h with⟨a1,a2,a3⟩ | ⟨a1,a2,a3,a4⟩ | ⟨a1,a2,a3,a4,a5⟩ | ⟨a1,a2,a3,a4,a5⟩ | ⟨a1,a2,a3,a4,a5,a6,a7⟩<;>
  rcases h' with⟨b1,b2,b3⟩ | ⟨b1,b2,b3,b4⟩ | ⟨b1,b2,b3,b4,b5⟩ | ⟨b1,b2,b3,b4,b5⟩ | ⟨b1,b2,b3,b4,b5,b6,b7⟩<;>
  first
    | (exact absurd a1 b1)
    | (exact absurd b1 a1)
    | (subst a2;subst b2;subst a3;subst b3;exact⟨rfl,rfl⟩)
    | (subst a3;subst b3;subst a4;subst b4;exact⟨rfl,rfl⟩)
    | (subst a4;subst b4;subst a5;subst b5;exact⟨rfl,rfl⟩)
    | (exact absurd b2 a2)
    | (exact absurd a2 b2)
    | (exact absurd b2.l a2)
    | (exact absurd a2.l b2)
    | (exact absurd b2.ok a3)
    | (exact absurd a2.ok b3)
    | (exfalso;omega)
    | exact⟨Ms.inj a5 b5 (a6.trans b6.symm),a7.trans b7.symm⟩
section
variable {tab:FuncId->Option AF} (T:HasA tab)
include T
theorem LG {M:Mem} {K:PV->Mem->Prop} {f o:Bool} {ms:List Ms} {fn:FuncId} {cap:List PV} (p:Ms->Bool) (hb:ms.length<1000000000000)
    (hf:∀x∈ms,∀K':PV->Mem->Prop,K' (.bool (p x)) M->SemC tab fn (.agg (msC x)::cap) M K') (hk:∀i:Int,(0<=i↔∃x∈ms,p x=true)->K (p64 i) M):
    SemC tab 270 [slM f o ms,.func (.func fn) [] cap] M K:=by
  refine dH T.h270 ?_
  simp only[af270,PP,P1,P2,P14,P15,simprocAttr]
  refine jZ (fun(k:Nat)=>k<=ms.length/\∀(j:Nat) (x:Ms),j<k->ms[j]? =some x->p x=false) (fun k=>(slM f o ms:: .func (.func fn) [] cap::zj 5++p64 ms.length::p64 k::zj 10)) (fun k=>M) (fun k=>ms.length-k) 0 ⟨by omega,fun j x h=>by omega⟩ (by simp only[PW]) rfl ?_
  intro k ⟨hle,hq⟩ ih
  refine dL (by kernel_rfl) ?_
  simp only[PP,P1,P2,P14,P15,simprocAttr]
  refine QIf.intro (fun c=>?_) (fun c=>?_)
  · have hk':k<ms.length:=by omega
    have h0:(0:Int)<=k:=by omega
    have hw:=dA (k:=k) (by show _<1000000000000;omega)
    obtain⟨x,e⟩:=dN hk'
    have q1:=iY e
    have q2:=vC e
    simp only[PP,P1,P2,P14,P15,simprocAttr,cC,cI,cG,bK,dJ,bY,bM,z9,z9t,cD,cA,cJ,bZ,bW,b9,bX,bP,bN,bH,bL,bG,z8,bO,cV,bV,cU,cT,cR,c,h0,q1,q2]
    refine hf x (List.mem_of_getElem? e) _ ?_
    cases hp:p x with
    | true=>
      simp only[PP,P1,P2,P14,P15,simprocAttr]
      exact hk k ⟨fun _=>⟨x,List.mem_of_getElem? e,hp⟩,fun _=>h0⟩
    | false=>
      simp only[PP,P1,P2,P14,P15,simprocAttr,hw]
      refine dB (ih (k+1) ⟨by omega,fun j y hj hy=>?_⟩ (by omega)) (by simp only[PW])
      by_cases e2:j=k
      · subst e2;rw[e]at hy;cases hy;exact hp
      · exact hq j y (by omega) hy
  · have hkn:k=ms.length:=by omega
    subst hkn
    simp only[PP,P1,P2,P14,P15,simprocAttr,c]
    refine hk (-1) ⟨fun h=>absurd h (by decide),fun⟨x,hx,h⟩=>?_⟩
    obtain⟨j,hj⟩:=List.getElem?_of_mem hx
    rw[hq j x (cQ hj) hj]at h;cases h
open Classical in
set_option maxHeartbeats 1000000 in
theorem aDe {M:Mem} {K:PV->Mem->Prop} {f1 o1 f2 o2 f3 o3 f4 o4 f o:Bool} {ow pr:List Int} {su:List (List Int)} {ms:List Ms} {v:Int} (B:Bnd ow pr su) (hb:ms.length<1000000000000)
    (hk:∀y e,LiftA ow pr su ms v y e->K (.tuple [.agg (msC y),p64 e]) M):
    SemC tab 266 [gmP f1 o1 f2 o2 f3 o3 f4 o4 ow pr su,slM f o ms,p64 v] M K:=by
  refine cP T.h266 (by simp only[PP,P1,P2,P14,P15,simprocAttr,cC,cI,cG,bK,dJ,bY,bM,z9,z9t,cD,cA,cJ,bZ,bW,b9,bX,bP,bN,bH,bL,bG,z8,bO,cV,bV,cU,cT,cR,PV.under]) ?_
  simp only[af266,PP,P1,P2,P14,P15,simprocAttr,cC,cI,cG,bK,dJ,bY,bM,z9,z9t,cD,cA,cJ,bZ,bW,b9,bX,bP,bN,bH,bL,bG,z8,bO,cV,bV,cU,cT,cR]
  refine E7 T B ?_
  simp only[PP,P1,P2,P14,P15,simprocAttr]
  refine QIf.intro (fun c1=>?_) (fun c1=>?_)
  rotate_left
  · simp only[PP,P1,P2,P14,P15,simprocAttr,cC,cI,cG,bK,dJ,bY,bM,z9,z9t,cD,cA,cJ,bZ,bW,b9,bX,bP,bN,bH,bL,bG,z8,bO,cV,bV,cU,cT,cR,c1]
    exact hk mz _ (.inl ⟨c1,rfl,rfl⟩)
  have V:=gX c1
  have P:=rJ V
  simp only[PP,P1,P2,P14,P15,simprocAttr,cC,cI,cG,bK,dJ,bY,bM,z9,z9t,cD,cA,cJ,bZ,bW,b9,bX,bP,bN,bH,bL,bG,z8,bO,cV,bV,cU,cT,cR,c1]
  refine vB T P ?_
  simp only[PP,P1,P2,P14,P15,simprocAttr,cC,cI,cG,bK,dJ,bY,bM,z9,z9t,cD,cA,cJ,bZ,bW,b9,bX,bP,bN,bH,bL,bG,z8,bO,cV,bV,cU,cT,cR]
  refine QIf.intro (fun c2=>?_) (fun c2=>?_)
  rotate_left
  · simp only[PP,P1,P2,P14,P15,simprocAttr,cC,cI,cG,bK,dJ,bY,bM,z9,z9t,cD,cA,cJ,bZ,bW,b9,bX,bP,bN,bH,bL,bG,z8,bO,cV,bV,cU,cT,cR,c2]
    exact hk mz 2 (.inr (.inl ⟨c1,fun h=>c2 (by omega),rfl,rfl⟩))
  have hl:ms.length=ow.length:=by omega
  simp only[PP,P1,P2,P14,P15,simprocAttr,cC,cI,cG,bK,dJ,bY,bM,z9,z9t,cD,cA,cJ,bZ,bW,b9,bX,bP,bN,bH,bL,bG,z8,bO,cV,bV,cU,cT,cR,c2]
  refine dH T.h267 ?_
  simp only[af267,PP,P1,P2,P14,P15,simprocAttr,cC,cI,cG,bK,dJ,bY,bM,z9,z9t,cD,cA,cJ,bZ,bW,b9,bX,bP,bN,bH,bL,bG,z8,bO,cV,bV,cU,cT,cR]
  refine LG T (fun x=>decide ¬x.Ok (dS pr)) hb (fun x hx K' hK'=>?_) (fun i hi=>?_)
  · refine AG ?_
    refine dH T.h268 ?_
    simp only[af268,PP,P1,P2,P14,P15,simprocAttr,cC,cI,cG,bK,dJ,bY,bM,z9,z9t,cD,cA,cJ,bZ,bW,b9,bX,bP,bN,bH,bL,bG,z8,bO,cV,bV,cU,cT,cR]
    refine Y8 T P.1 (fun b hb=>?_)
    simp only[PP,P1,P2,P14,P15,simprocAttr,cC,cI,cG,bK,dJ,bY,bM,z9,z9t,cD,cA,cJ,bZ,bW,b9,bX,bP,bN,bH,bL,bG,z8,bO,cV,bV,cU,cT,cR]
    refine⟨_,_,rfl,m7 (by simp only[List.take_succ_cons,List.take_zero,List.all_cons,List.all_nil,cL,dI,dO,iG,jC,hR,mR,cG,PV.under,bV,Bool.and_self]),?_⟩
    have e:(!b)=decide (¬x.Ok (dS pr)):=by
      cases b with
      | true=>have h:=hb.1 rfl;simp[h]
      | false => have h : ¬ x.Ok (dS pr) := fun q => (by have := hb.2 q; cases this)
                 simp [h]
    rw[e];exact hK'
  · simp only[PP,P1,P2,P14,P15,simprocAttr,cC,cI,cG,bK,dJ,bY,bM,z9,z9t,cD,cA,cJ,bZ,bW,b9,bX,bP,bN,bH,bL,bG,z8,bO,cV,bV,cU,cT,cR]
    have hi2:0<=i↔¬∀x∈ms,x.Ok (dS pr):=by
      rw[hi]
      constructor
      · rintro⟨x,hx,h⟩ q;exact(of_decide_eq_true h) (q x hx)
      · intro q
        apply Classical.byContradiction
        intro h
        exact q fun x hx=>Classical.byContradiction fun h2=>h ⟨x,hx,decide_eq_true h2⟩
    refine QIf.intro (fun c3=>?_) (fun c3=>?_)
    · simp only[PP,P1,P2,P14,P15,simprocAttr,cC,cI,cG,bK,dJ,bY,bM,z9,z9t,cD,cA,cJ,bZ,bW,b9,bX,bP,bN,bH,bL,bG,z8,bO,cV,bV,cU,cT,cR,c3]
      exact hk mz 1 (.inr (.inr (.inl ⟨c1,hl,hi2.1 c3,rfl,rfl⟩)))
    have S:StOk (dS pr) ow.length ms:=⟨hl,Classical.byContradiction fun h=>c3 (hi2.2 h)⟩
    simp only[PP,P1,P2,P14,P15,simprocAttr,cC,cI,cG,bK,dJ,bY,bM,z9,z9t,cD,cA,cJ,bZ,bW,b9,bX,bP,bN,bH,bL,bG,z8,bO,cV,bV,cU,cT,cR,c3]
    refine QIf.intro (fun c4=>?_) (fun c4=>?_)
    · simp only[PP,P1,P2,P14,P15,simprocAttr,cC,cI,cG,bK,dJ,bY,bM,z9,z9t,cD,cA,cJ,bZ,bW,b9,bX,bP,bN,bH,bL,bG,z8,bO,cV,bV,cU,cT,cR,c4]
      exact hk mz 8 (.inr (.inr (.inr (.inl ⟨c1,S,.inl c4,rfl,rfl⟩))))
    simp only[PP,P1,P2,P14,P15,simprocAttr,cC,cI,cG,bK,dJ,bY,bM,z9,z9t,cD,cA,cJ,bZ,bW,b9,bX,bP,bN,bH,bL,bG,z8,bO,cV,bV,cU,cT,cR,c4,hl]
    refine QIf.intro (fun c5=>?_) (fun c5=>?_)
    · simp only[PP,P1,P2,P14,P15,simprocAttr,cC,cI,cG,bK,dJ,bY,bM,z9,z9t,cD,cA,cJ,bZ,bW,b9,bX,bP,bN,bH,bL,bG,z8,bO,cV,bV,cU,cT,cR,c5]
      exact hk mz 8 (.inr (.inr (.inr (.inl ⟨c1,S,.inr c5,rfl,rfl⟩))))
    obtain⟨w,rfl⟩:∃w:Nat,v=w:=⟨v.toNat,by omega⟩
    simp only[PP,P1,P2,P14,P15,simprocAttr,cC,cI,cG,bK,dJ,bY,bM,z9,z9t,cD,cA,cJ,bZ,bW,b9,bX,bP,bN,bH,bL,bG,z8,bO,cV,bV,cU,cT,cR,c5]
    refine VZ T V B S (by omega) (fun y y1 y2=>?_)
    simp only[PP,P1,P2,P14,P15,simprocAttr,cC,cI,cG,bK,dJ,bY,bM,z9,z9t,cD,cA,cJ,bZ,bW,b9,bX,bP,bN,bH,bL,bG,z8,bO,cV,bV,cU,cT,cR]
    exact hk y 0 (.inr (.inr (.inr (.inr ⟨c1,S,by omega,by omega,y1,y2,rfl⟩))))
end
theorem MO {tab:FuncId->Option AF} (id:Nat) (first args:List PV) (M:Mem) (K:PV->Mem->Prop):AK tab (.yld id first) args M K=((∃ver r,M[id]? =some (.loop ver r))/\MG tab id (first++args) M K):=rfl
theorem WI {α:Type} (M:List α) (x:α):(M++[x])[M.length]? =some x:=by simp
theorem aBW {α:Type} (M:List α) (x y:α):(M++[x]).set M.length y=M++[y]:=by simp
theorem eV {α:Type} {M:List α} {i:Nat} {a:α} (h:M[i]? =some a) (l:List α):(M++l)[i]? =some a:=by
  rw[List.getElem?_append_left (cQ h)];exact h
section
variable {tab:FuncId->Option AF} (T:HasA tab)
include T
set_option maxHeartbeats 1000000 in
theorem aAL {M:Mem} {K:PV->Mem->Prop} {f1 o1 f2 o2 f3 o3 f4 o4:Bool} {ow pr:List Int} {su:List (List Int)} {L b2 b3 i:Nat} (V:Valid ow pr su) (B:Bnd ow pr su) (J:Nat->List Ms->Mem->Prop) (D:Mem->Prop) {ms0:List Ms} (h0:J 0 ms0 M)
    (hid:∀k ms N,J k ms N->StOk (dS pr) ow.length ms/\N[b3]? =some (.cells 0 0 [.ref i 0 9 0 ow.length])/\N[b2]? =some (.cells 0 0 [.cp (kY f1 o1 f2 o2 f3 o3 f4 o4 ow pr su) 0])/\(∃ver,N[i]? =some (.cells 0 ver (msL ms)))/\∃ver r,N[L]? =some (.loop ver r))
    (hskip:∀k ms N o,J k ms N->k<ow.length->gL ow pr su (Nf (dS pr) ms) k<=Nf (dS pr) ms k->J (k+1) ms (N++[o]))
    (hy:∀k ms N y,J k ms N->k<ow.length->y.Ok (dS pr)->y.num (dS pr)=gL ow pr su (Nf (dS pr) ms) k->Nf (dS pr) ms k<gL ow pr su (Nf (dS pr) ms) k->∀K':PV->Mem->Prop,(∀ms' N',J (k+1) ms' N'->K' (.bool true) N')->(∀N',D N'->K' (.bool false) N')->MG tab L [p64 k,.agg (msC y)] (N++[.cells 0 1 (msC y)]) K')
    (hk1:∀ms N,J ow.length ms N->K (.tuple []) N) (hk2:∀N,D N->K (.tuple []) N):
    SemC tab 189 [.yld L [],.ptr b3 0 0,.ptr b2 0 0] M K:=by
  have n1:=V.n1
  refine dH T.h189 ?_
  obtain⟨_,p1,_,⟨_,p3⟩,_⟩:=hid 0 ms0 M h0
  simp only[af189,PP,P1,P2,P14,P15,simprocAttr,cC,cI,cG,bK,dJ,bY,bM,z9,z9t,cD,cA,cJ,bZ,bW,b9,bX,bP,bN,bH,bL,bG,z8,bO,cV,bV,cU,cT,cR,p1,p3]
  refine sG (fun(k:Nat) (ms:List Ms) (N:Mem)=>k<=ow.length/\J k ms N) (fun k ms N=>(.yld L []:: .ptr b3 0 0:: .ptr b2 0 0::zj 4++p64 ow.length::p64 k::zj 21)) (fun k ms N=>N) (fun k _ _=>ow.length-k) 0 ms0 M ⟨by omega,h0⟩ (by simp only[PW]) rfl ?_
  intro k ms N ⟨hle,hJ⟩ ih
  obtain⟨hm,q1,q2,⟨ver,q3⟩,q4⟩:=hid k ms N hJ
  have hml:=hm.l
  refine dL (by kernel_rfl) ?_
  simp only[PP,P1,P2,P14,P15,simprocAttr]
  refine QIf.intro (fun c=>?_) (fun c=>?_)
  · have hk':k<ow.length:=by omega
    have k0:(0:Int)<=k:=by omega
    have kn:(k:Int)<ow.length:=by omega
    have hwk:=dA (k:=k) (by show _<1000000000000;omega)
    obtain⟨x,g5⟩:=dN (xs:=ms) (k:=k) (by omega)
    have eN:Nf (dS pr) ms k=x.num (dS pr):=s8 g5
    have hx:=hm.ok x (List.mem_of_getElem? g5)
    have r1:=iY g5
    have r2:=vC g5
    have bor:PBor N [.cp (kY f1 o1 f2 o2 f3 o3 f4 o4 ow pr su) 0,.ref i 0 9 0 ow.length,p64 k] [.cp (kY f1 o1 f2 o2 f3 o3 f4 o4 ow pr su) 0,slM true false ms,p64 k]:=by
      refine .same (by simp only[PV.under];exact bV _) ?_
      rw[<-hml]
      exact .ref q3 (by rw[cD];omega) (cA _ _) (by rw[jL]) (.same rfl .nil)
    simp only[PP,P1,P2,P14,P15,simprocAttr,cC,cI,cG,bK,dJ,bY,bM,z9,z9t,cD,cA,cJ,bZ,bW,b9,bX,bP,bN,bH,bL,bG,z8,bO,cV,bV,cU,cT,cR,c,q1,q2]
    refine sY bor (VZ T V B hm hk' fun y y1 y2=>⟨by simp only[PV.flat,PV.flatA,sE],?_⟩)
    simp only[PP,P1,P2,P14,P15,simprocAttr,cC,cI,cG,bK,dJ,bY,bM,z9,z9t,cD,cA,cJ,bZ,bW,b9,bX,bP,bN,bH,bL,bG,z8,bO,cV,bV,cU,cT,cR,WI,aBW,eV q1,eV q3,k0,kn,r1,r2]
    refine nI T ?_
    rw[wU y1 hx]
    simp only[PP,P1,P2,P14,P15,simprocAttr,cC,cI,cG,bK,dJ,bY,bM,z9,z9t,cD,cA,cJ,bZ,bW,b9,bX,bP,bN,bH,bL,bG,z8,bO,cV,bV,cU,cT,cR]
    refine QIf.intro (fun d=>?_) (fun d=>?_)
    · have d':=d
      rw[pG]at d'
      simp only[PP,P1,P2,P14,P15,simprocAttr,cC,cI,cG,bK,dJ,bY,bM,z9,z9t,cD,cA,cJ,bZ,bW,b9,bX,bP,bN,bH,bL,bG,z8,bO,cV,bV,cU,cT,cR,d,WI,MO]
      refine⟨⟨_,_,eV q4.choose_spec.choose_spec _⟩,hy k ms N y hJ hk' y1 y2 (by rw[eN];have:=y2;omega) _ (fun ms' N' hJ'=>?_) fun N' hD=>?_⟩
      · simp only[PP,P1,P2,P14,P15,simprocAttr,hwk]
        exact dB (ih (k+1) ms' N' ⟨by omega,hJ'⟩ (by omega)) (by simp only[PW])
      · simp only[PP,P1,P2,P14,P15,simprocAttr]
        exact hk2 N' hD
    · have d':=d
      rw[pG]at d'
      simp only[PP,P1,P2,P14,P15,simprocAttr,cC,cI,cG,bK,dJ,bY,bM,z9,z9t,cD,cA,cJ,bZ,bW,b9,bX,bP,bN,bH,bL,bG,z8,bO,cV,bV,cU,cT,cR,d,hwk]
      exact dB (ih (k+1) ms _ ⟨by omega,hskip k ms N _ hJ hk' (by rw[eN];have:=y2;omega)⟩ (by omega)) (by simp only[PW])
  · have hkn:k=ow.length:=by omega
    subst hkn
    simp only[PP,P1,P2,P14,P15,simprocAttr,c]
    exact hk1 ms N hJ
end
section
variable {α:Type} (M:List α) (x y:α) (l:List α) (i j:Nat)
theorem BD:(M++l)[M.length+j]? =l[j]? :=by
  rw[List.getElem?_append_right (by omega)];congr 1;omega
theorem IH:(M++l)[M.length]? =l[0]? :=by
  rw[List.getElem?_append_right (by omega)];congr 1;omega
theorem setK:(M++l).set (M.length+j) y=M++l.set j y:=by
  rw[List.set_append_right _ _ (by omega)];congr 2;omega
theorem T0:(M++l).set M.length y=M++l.set 0 y:=by
  rw[List.set_append_right _ _ (by omega)];congr 2;omega
theorem aAo:(M.set i x++l)[M.length+j]? =l[j]? :=by
  rw[List.getElem?_append_right (by simp)];congr 1;simp
theorem aBA:(M.set i x++l)[M.length]? =l[0]? :=by
  rw[List.getElem?_append_right (by simp)];congr 1;simp
theorem aBU:(M.set i x++l).set (M.length+j) y=M.set i x++l.set j y:=by
  rw[List.set_append_right _ _ (by simp)];congr 2;simp
theorem aBv:(M.set i x++l).set M.length y=M.set i x++l.set 0 y:=by
  rw[List.set_append_right _ _ (by simp)];congr 2;simp
theorem ZI {M:List α} {i:Nat} {a:α} (h:M[i]? =some a) (l:List α) (x:α):(M++l).set i x=M.set i x++l:=by
  rw[List.set_append_left _ _ (cQ h)]
end
theorem aAB {n i:Nat} {M:Mem} {x:PObj} (h:M.all (cL n)=true) (hx:cL n x=true):(M.set i x).all (cL n)=true:=by
  rw[List.all_eq_true]at h ⊢
  intro y hy
  rcases List.mem_or_eq_of_mem_set hy with q | q
  · exact h y q
  · subst q;exact hx
section
variable {tab:FuncId->Option AF} (T:HasA tab)
include T
set_option maxHeartbeats 2000000 in
theorem TN {M:Mem} {K:PV->Mem->Prop} {f1 o1 f2 o2 f3 o3 f4 o4:Bool} {ow pr:List Int} {su:List (List Int)} {ms:List Ms} {i ver:Nat} (V:Valid ow pr su) (B:Bnd ow pr su) (hm:StOk (dS pr) ow.length ms)
    (hi:M[i]? =some (.cells 0 ver (msL ms))) (hc:M.all (cL M.length)=true)
    (hk1:∀v y,FstN ow.length (gL ow pr su) (Nf (dS pr) ms) v->y.Ok (dS pr)->y.num (dS pr)=gL ow pr su (Nf (dS pr) ms) v->K (.bool true) (M.set i (.cells 0 (ver+1) (msL (ms.set v y)))))
    (hk2:uM ow.length (gL ow pr su) (Nf (dS pr) ms)->K (.bool false) M):
    SemC tab 191 [.cp (kY f1 o1 f2 o2 f3 o3 f4 o4 ow pr su) 0,.ref i 0 9 0 ow.length] M K:=by
  have hml:=hm.l
  have hil:=cQ hi
  have hget:=fun l=>eV hi l
  have hset:=fun l x=>ZI hi l x
  refine AG ?_
  refine dH T.h191 ?_
  simp only[af191,PP,P1,P2,P14,P15,simprocAttr,cC,cI,cG,bK,dJ,bY,bM,z9,z9t,cD,cA,cJ,bZ,bW,b9,bX,bP,bN,bH,bL,bG,z8,bO,cV,bV,cU,cT,cR,List.append_assoc,BD,IH]
  refine dH T.h152 ?_
  simp only[af152,PP,P1,P2,P14,P15,simprocAttr,cC,cI,cG,bK,dJ,bY,bM,z9,z9t,cD,cA,cJ,bZ,bW,b9,bX,bP,bN,bH,bL,bG,z8,bO,cV,bV,cU,cT,cR,List.append_assoc,BD,IH]
  refine pH rfl (fun lp h1 h2 h3 h4 h5 h6=>?_)
  simp only[PP,P1,P2,P14,P15,simprocAttr,cC,cI,cG,bK,dJ,bY,bM,z9,z9t,cD,cA,cJ,bZ,bW,b9,bX,bP,bN,bH,bL,bG,z8,bO,cV,bV,cU,cT,cR,List.append_assoc]
  refine aAL T (f1:=f1) (o1:=o1) (f2:=f2) (o2:=o2) (f3:=f3) (o3:=o3) (f4:=f4) (o4:=o4) V B (fun k ms' N=>ms'=ms/\(∀u,u<k->gL ow pr su (Nf (dS pr) ms) u<=Nf (dS pr) ms u)/\∃G,N=M++(.cells 0 0 [.ref i 0 9 0 ow.length]:: .cells 0 0 [.bool false]:: .cells 0 0 [.cp (kY f1 o1 f2 o2 f3 o3 f4 o4 ow pr su) 0]:: .cells 0 0 [.ref i 0 9 0 ow.length]:: .loop 0 lp::G))
    (fun N=>∃v y G vb vl,FstN ow.length (gL ow pr su) (Nf (dS pr) ms) v/\y.Ok (dS pr)/\y.num (dS pr)=gL ow pr su (Nf (dS pr) ms) v/\N=M.set i (.cells 0 (ver+1) (msL (ms.set v y)))++(.cells 0 0 [.ref i 0 9 0 ow.length]:: .cells 0 vb [.bool true]:: .cells 0 0 [.cp (kY f1 o1 f2 o2 f3 o3 f4 o4 ow pr su) 0]:: .cells 0 0 [.ref i 0 9 0 ow.length]:: .loop vl {lp with state:= .done,pending:=some .ret} ::G))
    (i:=i) (ms0:=ms) ⟨rfl,fun u h=>by omega,[],rfl⟩ ?_ ?_ ?_ ?_ ?_
  · rintro k ms' N ⟨rfl,_,G,rfl⟩
    exact⟨hm,by rw[BD];rfl,by rw[BD];rfl,⟨ver,hget _⟩,⟨0,lp,by rw[BD];rfl⟩⟩
  · rintro k ms' N o ⟨rfl,q,G,rfl⟩ hk hle
    refine⟨rfl,fun u hu=>?_,G++[o],by simp only[List.append_assoc,List.cons_append]⟩
    by_cases e:u=k
    · subst e;exact hle
    · exact q u (by omega)
  · rintro k ms' N y ⟨rfl,q,G,rfl⟩ hk y1 y2 y3 K' hK1 hK2
    have k0:(0:Int)<=k:=by omega
    have kn:(k:Int)<ow.length:=by omega
    have kl:k<ms'.length:=by omega
    have k9:k*9+9<=ow.length*9:=by omega
    have hpov:=CJ (l:=ms') y kl
    simp only[List.append_assoc,List.cons_append]
    refine AE (ver:=0) (r:=lp) (by rw[BD];rfl) (by rw[h4];rfl) ?_
    rw[h3,h4,h5]
    refine bR ?_
    simp only[mA,PP,P1,P2,P14,P15,simprocAttr,cC,cI,cG,bK,dJ,bY,bM,z9,z9t,cD,cA,cJ,bZ,bW,b9,bX,bP,bN,bH,bL,bG,z8,bO,cV,bV,cU,cT,cR,List.append_assoc,BD,IH,setK,T0]
    refine⟨0,lp,rfl,h1,?_⟩
    rw[h6]
    refine bR ?_
    simp only[PP,P1,P2,P14,P15,simprocAttr,cC,cI,cG,bK,dJ,bY,bM,z9,z9t,cD,cA,cJ,bZ,bW,b9,bX,bP,bN,bH,bL,bG,z8,bO,cV,bV,cU,cT,cR,List.append_assoc,BD,IH,setK,T0,aAo,aBA,aBU,aBv,hget,hset,k0,kn,k9,hml,hpov]
    refine⟨1,{lp with state:= .busy},by rw[aAo];simp only[List.getElem?_cons_succ,List.getElem?_cons_zero,h6],?_⟩
    rw[if_neg (by intro h;cases h)]
    refine hK2 _ ⟨k,y,G++[.cells 0 1 (msC y),.cells 0 1 (msC y)],1,2,⟨hk,y3,q⟩,y1,y2,?_⟩
    simp only[aBU,List.set_cons_succ,List.set_cons_zero,h6]
  · rintro ms' N ⟨rfl,q,G,rfl⟩
    refine⟨0,lp,by rw[BD];rfl,by rw[h1];exact(by intro h;cases h),?_⟩
    rw[h2]
    simp only[PP,P1,P2,P14,P15,simprocAttr,cC,cI,cG,bK,dJ,bY,bM,z9,z9t,cD,cA,cJ,bZ,bW,b9,bX,bP,bN,bH,bL,bG,z8,bO,cV,bV,cU,cT,cR,List.append_assoc,BD,IH,setK,T0]
    refine⟨_,M,rfl,?_,hk2 q⟩
    rw[List.take_left' rfl]
    exact m7 hc
  · rintro N ⟨v,y,G,vb,vl,q1,q2,q3,rfl⟩
    refine⟨vl,{lp with state:= .done,pending:=some .ret},by rw[aAo];rfl,(by intro h;cases h),?_⟩
    simp only[PP,P1,P2,P14,P15,simprocAttr,cC,cI,cG,bK,dJ,bY,bM,z9,z9t,cD,cA,cJ,bZ,bW,b9,bX,bP,bN,bH,bL,bG,z8,bO,cV,bV,cU,cT,cR,List.append_assoc,aAo,aBA,aBU,aBv]
    refine⟨_,M.set i (.cells 0 (ver+1) (msL (ms.set v y))),rfl,?_,hk1 v y q1 q2 q3⟩
    rw[List.take_left' (by simp)]
    exact m7 (aAB hc (cA _ _))
end
theorem Y5 {ns:List Nat} {ms:List Ms} {k:Nat} {y:Ms} (hk:k<ms.length):Nf ns (ms.set k y)=nR (Nf ns ms) k (y.num ns):=by
  funext v
  unfold Nf nR
  simp only[List.getD]
  by_cases e:v=k
  · subst e;rw[List.getElem?_set_self hk,if_pos rfl];rfl
  · rw[List.getElem?_set_ne (by omega),if_neg e]
theorem aBo (ns:List Nat) (n:Nat):Nf ns (List.replicate n mz)=fun _=>0:=by
  funext v
  unfold Nf
  rw[List.getD,List.getElem?_replicate]
  split
  · exact VE
  · exact VE
theorem StOk.set {ns:List Nat} {n k:Nat} {ms:List Ms} {y:Ms} (h:StOk ns n ms) (hy:y.Ok ns):StOk ns n (ms.set k y):=
  ⟨by rw[List.length_set];exact h.l,fun x hx=>by
    rcases List.mem_or_eq_of_mem_set hx with q | q
    · exact h.ok x q
    · subst q;exact hy⟩
theorem StOk.zero {ns:List Nat} (h8:ns.length=8) (n:Nat):StOk ns n (List.replicate n mz):=⟨by simp,fun x hx=>by rw[List.eq_of_mem_replicate hx];exact aDC h8⟩
theorem StOk.bnd {ns:List Nat} {n:Nat} {ms:List Ms} (h:StOk ns n ms):∀v,v<n->Nf ns ms v<=mT ns:=fun v hv=>by
  obtain⟨x,g⟩:=dN (xs:=ms) (k:=v) (by rw[h.l];exact hv)
  rw[s8 g];exact Ms.num_le (h.ok x (List.mem_of_getElem? g))
theorem StOk.eq {ns:List Nat} {n:Nat} {a b:List Ms} (ha:StOk ns n a) (hb:StOk ns n b) (h:∀v,v<n->Nf ns a v=Nf ns b v):a=b:=by
  apply List.ext_getElem?
  intro v
  by_cases hv:v<n
  · obtain⟨x,gx⟩:=dN (xs:=a) (k:=v) (by rw[ha.l];exact hv)
    obtain⟨y,gy⟩:=dN (xs:=b) (k:=v) (by rw[hb.l];exact hv)
    have:=h v hv
    rw[s8 gx,s8 gy]at this
    rw[gx,gy,Ms.inj (ha.ok x (List.mem_of_getElem? gx)) (hb.ok y (List.mem_of_getElem? gy)) this]
  · rw[List.getElem?_eq_none (by rw[ha.l];omega),List.getElem?_eq_none (by rw[hb.l];omega)]
theorem BN {ow pr:List Int} {su:List (List Int)} (V:Valid ow pr su):Lft ow.length (mT (dS pr)) (gL ow pr su):=aCp fun v hv=>⟨(YG V hv).1,(YG V hv).2.1⟩
section
variable {tab:FuncId->Option AF} (T:HasA tab)
include T
end
def uO (ow pr:List Int) (su:List (List Int)) (k:Int) (ms:List Ms) (b:Bool) (e:Int):Prop:=
  (¬eH ow pr su=0/\ms=[]/\b=false/\e=eH ow pr su)\/(eH ow pr su=0/\k<0/\ms=[]/\b=false/\e=1)\/
  (eH ow pr su=0/\0<=k/\StOk (dS pr) ow.length ms/\Nf (dS pr) ms=itN ow.length (gL ow pr su) k.toNat/\(b=true↔uM ow.length (gL ow pr su) (Nf (dS pr) ms))/\e=0)
theorem aBB {g v n:Nat} {ms:List Ms} (h:ms.length=n):y8 (some (.cells g v (msL ms))) g 9 0 n=some (slM false true ms):=by
  subst h
  rw[iJ (by rw[cD];omega) (cA _ _),jL]
section
variable {tab:FuncId->Option AF} (T:HasA tab)
include T
end
section
variable {tab:FuncId->Option AF} (T:HasA tab)
include T
set_option maxHeartbeats 1000000 in
theorem XL {K:PV->Mem->Prop} {f1 o1 f2 o2 f3 o3 f4 o4:Bool} {ow pr:List Int} {su:List (List Int)} {n:Int} (B:Bnd ow pr su) (hn:n<=9223372036854775807)
    (c1:eH ow pr su=0) (c2:¬n<0)
    (hk:∀ms b v X,uO ow pr su n ms b 0->K (.tuple [.ref 1 0 9 0 ow.length,.bool b,p64 0]) [X,.cells 0 v (msL ms)]):
    SemC tab 159 [gmP f1 o1 f2 o2 f3 o3 f4 o4 ow pr su,p64 n] [] K:=by
  refine eZ (fJ T.h159 ?_)
  simp only[af159]
  refine bS (bR ?_)
  simp only[PP,P1,P2,P14,P15,simprocAttr]
  refine bS (bR ?_)
  simp only[PP,P1,P2,P14,P15,simprocAttr]
  refine E7 T B ?_
  simp only[PP,P1,P2,P14,P15,simprocAttr]
  refine QIf.intro (fun c1'=>?_) (fun c1'=>?_)
  rotate_left
  · exact absurd c1 c1'
  have V:=gX c1
  have n0:=V.n0
  have n1:=V.n1
  have hL:=BN V
  have b0:(0:Int)<=ow.length:=by omega
  have b72:(ow.length:Int)*72<=140737488355328:=by omega
  have b2:(ow.length:Int)<=9223372036854775807:=by omega
  simp only[PP,P1,P2,P14,P15,simprocAttr,cC,cI,cG,bK,dJ,bY,bM,z9,z9t,cD,cA,cJ,bZ,bW,b9,bX,bP,bN,bH,bL,bG,z8,bO,cV,bV,cU,cT,cR,c1]
  refine bS (bR ?_)
  simp only[PP,P1,P2,P14,P15,simprocAttr,cC,cI,cG,bK,dJ,bY,bM,z9,z9t,cD,cA,cJ,bZ,bW,b9,bX,bP,bN,bH,bL,bG,z8,bO,cV,bV,cU,cT,cR]
  refine QIf.intro (fun c2'=>?_) (fun c2'=>?_)
  · exact absurd c2' c2
  simp only[PP,P1,P2,P14,P15,simprocAttr,cC,cI,cG,bK,dJ,bY,bM,z9,z9t,cD,cA,cJ,bZ,bW,b9,bX,bP,bN,bH,bL,bG,z8,bO,cV,bV,cU,cT,cR,c2]
  refine bS (bR ?_)
  simp only[PP,P1,P2,P14,P15,simprocAttr,cC,cI,cG,bK,dJ,bY,bM,z9,z9t,cD,cA,cJ,bZ,bW,b9,bX,bP,bN,bH,bL,bG,z8,bO,cV,bV,cU,cT,cR]
  refine vB T (rJ V) ?_
  simp only[PP,P1,P2,P14,P15,simprocAttr,cC,cI,cG,bK,dJ,bY,bM,z9,z9t,cD,cA,cJ,bZ,bW,b9,bX,bP,bN,bH,bL,bG,z8,bO,cV,bV,cU,cT,cR]
  refine bS (bR ?_)
  simp only[PP,P1,P2,P14,P15,simprocAttr,cC,cI,cG,bK,dJ,bY,bM,z9,z9t,cD,cA,cJ,bZ,bW,b9,bX,bP,bN,bH,bL,bG,z8,bO,cV,bV,cU,cT,cR,b0,b72,b2,Int.le_refl]
  refine bS (p9 (Qn:=fun b N=>∃ver ms,StOk (dS pr) ow.length ms/\Nf (dS pr) ms=itN ow.length (gL ow pr su) n.toNat/\PWeak b (zj 4++ .ref 1 0 9 0 ow.length::zj 3++ .cp (kY f1 o1 f2 o2 f3 o3 f4 o4 ow pr su) 0::zj 27)/\N=[.cells 0 0 [slI f1 o1 .u8 ow,slI f2 o2 .i64 pr,slR f3 o3 f4 o4 .i64 su],.cells 0 ver (msL ms)]) ?_ ?_ (fun _ _ h=>h) (fun _ _ _ h=>h))
  · refine bS (bR ?_)
    simp only[PP,P1,P2,P14,P15,simprocAttr,cC,cI,cG,bK,dJ,bY,bM,z9,z9t,cD,cA,cJ,bZ,bW,b9,bX,bP,bN,bH,bL,bG,z8,bO,cV,bV,cU,cT,cR]
    refine pI ?_
    have k0:0<=n:=by omega
    refine sG (fun(j ver:Nat) (ms:List Ms)=>(j:Int)<=n/\StOk (dS pr) ow.length ms/\Nf (dS pr) ms=itN ow.length (gL ow pr su) j)
      (fun j ver ms=>(zj 4++ .ref 1 0 9 0 ow.length::zj 3++ .cp (kY f1 o1 f2 o2 f3 o3 f4 o4 ow pr su) 0::zj 13++p64 n::p64 j::zj 12))
      (fun j ver ms=>[.cells 0 0 [slI f1 o1 .u8 ow,slI f2 o2 .i64 pr,slR f3 o3 f4 o4 .i64 su],.cells 0 ver (msL ms)]) (fun j _ _=>n.toNat-j) 0 0 (List.replicate ow.length mz) ⟨k0,StOk.zero (nA pr) _,aBo _ _⟩ (by simp only[PW]) rfl ?_
    intro j ver ms ⟨hle,hS,hN⟩ ih
    refine dL (by kernel_rfl) ?_
    simp only[PP,P1,P2,P14,P15,simprocAttr]
    refine QIf.intro (fun c=>?_) (fun c=>?_)
    · have hwj:IntKind.i64.wrap ((j:Int)+1)=((j+1:Nat):Int):=by rw[wrap64 (x:=(j:Int)+1) (by omega) (by omega)];omega
      simp only[PP,P1,P2,P14,P15,simprocAttr,c]
      refine TN T V B hS rfl (by simp only[List.all_cons,List.all_nil,cL,dI,dO,iG,jC,hR,mR,cA,Bool.and_self]) (fun v y q1 q2 q3=>?_) (fun q=>?_)
      · have hv:v<ms.length:=by rw[hS.l];exact q1.1
        simp only[PP,P1,P2,P14,P15,simprocAttr,cC,cI,cG,bK,dJ,bY,bM,z9,z9t,cD,cA,cJ,bZ,bW,b9,bX,bP,bN,bH,bL,bG,z8,bO,cV,bV,cU,cT,cR,hwj]
        refine dB (ih (j+1) (ver+1) (ms.set v y) ⟨by omega,hS.set q2,?_⟩ (by omega)) (by simp only[PW])
        show _=rU ow.length (gL ow pr su) (itN ow.length (gL ow pr su) j)
        rw[Y5 hv,q3,hN,rT (by rw[<-hN];exact q1)]
      · simp only[PP,P1,P2,P14,P15,simprocAttr,cC,cI,cG,bK,dJ,bY,bM,z9,z9t,cD,cA,cJ,bZ,bW,b9,bX,bP,bN,bH,bL,bG,z8,bO,cV,bV,cU,cT,cR]
        refine⟨ver,ms,hS,?_,(by simp only[PW]),rfl⟩
        rw[hN]at q ⊢
        obtain⟨d,hd⟩:∃d,n.toNat=j+d:=⟨n.toNat-j,by omega⟩
        rw[hd,OD q]
    · have hjn:n=(j:Int):=by omega
      subst hjn
      simp only[PP,P1,P2,P14,P15,simprocAttr,c]
      exact⟨ver,ms,hS,hN,(by simp only[PW]),rfl⟩
  · rintro b N ⟨ver,ms,hS,hN,hw,rfl⟩
    refine dB ?_ hw
    refine bR ?_
    simp only[PP,P1,P2,P14,P15,simprocAttr,cC,cI,cG,bK,dJ,bY,bM,z9,z9t,cD,cA,cJ,bZ,bW,b9,bX,bP,bN,bH,bL,bG,z8,bO,cV,bV,cU,cT,cR]
    refine dH T.h60 ?_
    have hn0:¬ow.length=0:=by omega
    have c72:ow.length*72<=140737488355328:=by omega
    have c2':ow.length<=9223372036854775807:=by omega
    have hps:dW (msL ms) 0 (ow.length*9)=msL ms:=by rw[<-hS.l];exact jL ms
    have hle9:ow.length*9<=ms.length*9:=by rw[hS.l];omega
    simp only[af60,PP,P1,P2,P14,P15,simprocAttr,cC,cI,cG,bK,dJ,bY,bM,z9,z9t,cD,cA,cJ,bZ,bW,b9,bX,bP,bN,bH,bL,bG,z8,bO,cV,bV,cU,cT,cR,hn0,c72,c2',hps,hle9]
    refine TN T V B hS rfl (by simp only[List.all_cons,List.all_nil,cL,dI,dO,iG,jC,hR,mR,cA,Bool.and_self]) (fun v y q1 q2 q3=>?_) (fun q=>?_)
    · simp only[PP,P1,P2,P14,P15,simprocAttr,cC,cI,cG,bK,dJ,bY,bM,z9,z9t,cD,cA,cJ,bZ,bW,b9,bX,bP,bN,bH,bL,bG,z8,bO,cV,bV,cU,cT,cR,aBB hS.l]
      refine Gh.step (GStep.dropM (b:=[.tuple [.ref 1 0 9 0 ow.length,.bool false,p64 0]]) (N:=[.cells 0 0 [slI f1 o1 .u8 ow,slI f2 o2 .i64 pr,slR f3 o3 f4 o4 .i64 su],.cells 0 ver (msL ms)]) 2 (Nat.zero_le _) (by simp) (by simp only[PW]) (by simp[cE,PV.under]) ?_ rfl) (Gh.same ⟨_,rfl,hk ms false ver _ (.inr (.inr ⟨c1,by omega,hS,hN,⟨fun h=>(by cases h),fun h=>?_⟩,rfl⟩))⟩)
      · simp[cL,cE,PV.under,dI,dO,cA]
      · have:=h v q1.1
        have:=q1.2.1
        omega
    · simp only[PP,P1,P2,P14,P15,simprocAttr,cC,cI,cG,bK,dJ,bY,bM,z9,z9t,cD,cA,cJ,bZ,bW,b9,bX,bP,bN,bH,bL,bG,z8,bO,cV,bV,cU,cT,cR,aBB hS.l]
      refine Gh.step (GStep.dropM (b:=[.tuple [.ref 1 0 9 0 ow.length,.bool true,p64 0]]) (N:=[.cells 0 0 [slI f1 o1 .u8 ow,slI f2 o2 .i64 pr,slR f3 o3 f4 o4 .i64 su],.cells 0 ver (msL ms)]) 2 (Nat.zero_le _) (by simp) (by simp only[PW]) (by simp[cE,PV.under]) ?_ rfl) (Gh.same ⟨_,rfl,hk ms true ver _ (.inr (.inr ⟨c1,by omega,hS,hN,⟨fun _=>q,fun _=>rfl⟩,rfl⟩))⟩)
      · simp[cL,cE,PV.under,dI,dO,cA]
end
end Go.Am.Ar

