/- Contracts: the reader: next, small, vars, each, list, and what goes with it. -/
import Derived.Test.YtapbgleednkimaaGreatDoorBudgetDividedG8
import Derived.Test.YtapbgleednkimaaGreatDoorPmC
set_option linter.unusedVariables false
set_option linter.unusedSimpArgs false
set_option maxRecDepth 10000
namespace Go.Am.Ar
open Go.Am.PV renaming junk->Zj
open Go.Am renaming kV->P1,qL->P2,PKNo->P3,ppack->P4,PObj.under->P5,pput->P6,ptset->P7,ptget->P8,pev->P9,ofAV->P10,ofAV1->P11,ppad->P12,pfill->P13,fF->P14,AO.effect->P15
open List renaming replicate->L1
theorem yE:∀(l:List UInt8) (a n:Nat),l.foldl j5 (some a)=some n->Lib.parseUint10 a l= .ok n
 | [],a,n,h=>by cases h;rfl
 | c::l,a,n,h=>by
  rw[List.foldl_cons]at h
  by_cases hc:48<=c.toNat/\c.toNat<=57/\10*a+(c.toNat-48)<=2147483647
  ·have e:j5 (some a) c=some (10*a+(c.toNat-48)):=by unfold j5;simp only;rw[if_pos hc]
   rw[e]at h
   have:=yE l _ n h
   unfold Lib.parseUint10
   rw[if_pos ⟨hc.1,hc.2.1⟩,if_neg (by omega),if_neg (by omega),show a*10+(c.toNat-48)=10*a+(c.toNat-48) by omega]
   exact this
  ·have e:j5 (some a) c=none:=by unfold j5;simp only;rw[if_neg hc]
   rw[e,qT]at h
   cases h
theorem XF {n:Nat} (h:n<=2147483647):Lib.atoiAll (v7 n).data.toList= .ok (n:Int):=by
 have e:(v7 n).data.toList=Lib.decDigits n:=by
  show nG n=_
  exact wT (by omega)
 have hp:=yE _ 0 n (tZ n h)
 have hd:=CZ n
 have hne:=WT n
 rw[e]
 revert hp hd hne
 match Lib.decDigits n with
 | []=>exact fun _ _ h=>absurd rfl h
 | c::r=>
  intro hp hd _
  have hc:=hd c (by simp)
  unfold Lib.atoiAll
  simp only
  rw[if_neg (by omega)]
  unfold Lib.parseMag
  rw[if_neg (by simp),hp]
  simp only
  rw[if_neg (by omega),if_neg (by omega),if_neg (by omega)]
def OkR (r:RS):Prop:=∀n∈r.l,n<=2147483647
theorem OkR.next {r:RS} (h:OkR r):OkR r.next.2/\r.next.1<=2147483647:=by
 obtain⟨l,e,la⟩:=r
 cases l with
 | nil=>exact⟨fun n hn=>absurd hn (by simp[RS.next]),by simp[RS.next]⟩
 | cons n l=>exact⟨fun x hx=>h x (by simp at hx ⊢;exact .inr hx),h n (by simp)⟩
theorem OkR.small {r:RS} (h:OkR r) (k:Nat):OkR (r.small k).2:=h.next.1
theorem OkR.vars {r:RS} (h:OkR r):OkR r.vars.2:=h.next.1
theorem OkR.each {σ:Type} {f:σ->RS->σ×RS} (hf:∀s r,OkR r->OkR (f s r).2):∀(n:Nat) (s:σ) (r:RS),OkR r->OkR (eP f n s r).2
 | 0,s,r,h=>h
 | n+1,s,r,h=>by
  unfold eP
  split
  ·exact OkR.each hf n _ _ (hf s r h)
  ·exact h
theorem OkR.list {r:RS} (h:OkR r) (n:Nat):OkR (RS.list n r).2:=OkR.each (f:=fun out r=>(out++[((RS.next r).1:Int)],(RS.next r).2)) (fun s r h=>h.next.1) n [] r h
abbrev nsV (l:List Nat):PV:= .sl true true 1 l.length (l.map fun n=>PV.str (v7 n))
abbrev rdO (v:Nat) (r:RS):PObj:= .cells 0 v [nsV r.l,p64 r.e,p64 r.late]
section
variable {tab:FuncId->Option AF} (T:HasA tab)
include T
theorem jG {A G:Mem} {K:PV->Mem->Prop} {v:Nat} {r:RS} (hr:OkR r) (hk:∀v',K (p64 (r.next.1:Int)) (A++(rdO v' r.next.2::G))):SemC tab 77 [.ptr A.length 0 0] (A++(rdO v r::G)) K:=by
 obtain⟨l,e,la⟩:=r
 refine dH T.h77 ?_
 cases l with
 | nil=>
  simp only[af77,PP,P1,P2,P14,P15,simprocAttr,aQ,aL,aP,aC,aR,bD,aK,aJ,aN,aT,aU,aV,aW,aS,bA,aE,aF,aA,aG,aY,aZ,aO,bE,a8,aX,aM,bB,aH,bC,aI,aB,aD,gk0,sk0]
  refine QIf.intro (fun c=>?_) (fun c=>?_)
  ·simp only[PP,P1,P2,P14,P15,simprocAttr,aQ,aL,aP,aC,aR,bD,aK,aJ,aN,aT,aU,aV,aW,aS,bA,aE,aF,aA,aG,aY,aZ,aO,bE,a8,aX,aM,bB,aH,bC,aI,aB,aD,gk0,sk0]
   have:=hk (v+1)
   simp only[RS.next,PP,P1,P2,P14,P15,simprocAttr,c]at this
   exact this
  ·simp only[PP,P1,P2,P14,P15,simprocAttr,aQ,aL,aP,aC,aR,bD,aK,aJ,aN,aT,aU,aV,aW,aS,bA,aE,aF,aA,aG,aY,aZ,aO,bE,a8,aX,aM,bB,aH,bC,aI,aB,aD,gk0,sk0]
   have:=hk v
   simp only[RS.next,PP,P1,P2,P14,P15,simprocAttr,c]at this
   exact this
 | cons n l=>
  have hn:n<=2147483647:=hr n (by simp)
  have hz:¬((l.length+1:Nat):Int)=0:=by omega
  have hp:(0:Int)<((l.length+1:Nat):Int):=by omega
  have h1:(1:Int)<=((l.length+1:Nat):Int):=by omega
  have e1:(((l.length+1:Nat):Int)-1).toNat=l.length:=by omega
  have hd:=E4 20 n
  have hs:(v7 n).size<=9223372036854775806:=by
   have:(v7 n).size=(dig 20 n).length:=rfl
   omega
  simp only[af77,PP,P1,P2,P14,P15,simprocAttr,aQ,aL,aP,aC,aR,bD,aK,aJ,aN,aT,aU,aV,aW,aS,bA,aE,aF,aA,aG,aY,aZ,aO,bE,a8,aX,aM,bB,aH,bC,aI,aB,aD,gk0,sk0,hz,hp]
  refine aAS T hs (XF hn) ?_
  simp only[PP,P1,P2,P14,P15,simprocAttr,aQ,aL,aP,aC,aR,bD,aK,aJ,aN,aT,aU,aV,aW,aS,bA,aE,aF,aA,aG,aY,aZ,aO,bE,a8,aX,aM,bB,aH,bC,aI,aB,aD,gk0,sk0,h1,e1]
  have:=hk (v+1)
  simp only[RS.next,PP,P1,P2,P14,P15,simprocAttr]at this
  exact⟨Int.le_refl _,this⟩
omit T in
theorem ON (M M':Mem):∀(A:Mem) (i:Nat),eL i (A++M) (A++M')=eL (i+A.length) M M'
 | [],i=>rfl
 | o::A,i=>by
  show eL i (o::(A++M)) (o::(A++M'))=_
  rw[zQ,ON M M' A (i+1),List.length_cons,show i+1+A.length=i+(A.length+1) by omega]
omit T in
theorem gU (A G:Mem) (v v':Nat) (x y:List PV):eL 0 (A++PObj.cells 0 v x::G) (A++PObj.cells 0 v' y::G)=if v=v' then [] else [A.length]:=by
 rw[ON,Nat.zero_add,qH,lF]
 simp
theorem r9 {A G:Mem} {K:PV->Mem->Prop} {v lim:Nat} {r:RS} (hr:OkR r) (hl:lim<=255) (hk:∀v',K (.int .u8 ((r.small lim).1:Int)) (A++(rdO v' (r.small lim).2::G))):SemC tab 120 [.ptr A.length 0 0,p64 (lim:Int)] (A++(rdO v r::G)) K:=by
 refine dH T.h120 ?_
 simp only[af120,PP,P1,P2,P14,P15,simprocAttr,aQ,aL,aP,aC,aR,bD,aK,aJ,aN,aT,aU,aV,aW,aS,bA,aE,aF,aA,aG,aY,aZ,aO,bE,a8,aX,aM,bB,aH,bC,aI,aB,aD]
 refine jG T hr fun v'=>?_
 have hmin:∀n:Nat,min (n:Int) (lim:Int)=((min n lim:Nat):Int):=fun n=>by omega
 have hw:IntKind.u8.wrap ((min r.next.1 lim:Nat):Int)=((min r.next.1 lim:Nat):Int):=w6 (by omega)
 simp only[PP,P1,P2,P14,P15,simprocAttr,aQ,aL,aP,aC,aR,bD,aK,aJ,aN,aT,aU,aV,aW,aS,bA,aE,aF,aA,aG,aY,aZ,aO,bE,a8,aX,aM,bB,aH,bC,aI,aB,aD,gk0,sk0]
 refine QIf.intro (fun c=>?_) (fun c=>?_)
 ·have c':lim<r.next.1:=by omega
  have:=hk (v'+1)
  simp only[RS.small,PP,P1,P2,P14,P15,simprocAttr,c']at this
  simp only[PP,P1,P2,P14,P15,simprocAttr,aQ,aL,aP,aC,aR,bD,aK,aJ,aN,aT,aU,aV,aW,aS,bA,aE,aF,aA,aG,aY,aZ,aO,bE,a8,aX,aM,bB,aH,bC,aI,aB,aD,gk0,sk0,jX,hmin,hw]
  exact this
 ·have c':¬lim<r.next.1:=by omega
  have:=hk v'
  simp only[RS.small,PP,P1,P2,P14,P15,simprocAttr,c']at this
  simp only[PP,P1,P2,P14,P15,simprocAttr,aQ,aL,aP,aC,aR,bD,aK,aJ,aN,aT,aU,aV,aW,aS,bA,aE,aF,aA,aG,aY,aZ,aO,bE,a8,aX,aM,bB,aH,bC,aI,aB,aD,gk0,sk0,jX,hmin,hw]
  exact this
theorem NV {A G:Mem} {K:PV->Mem->Prop} {v:Nat} {r:RS} (hr:OkR r) (hk:∀v',K (p64 (r.vars.1:Int)) (A++(rdO v' r.vars.2::G))):SemC tab 116 [.ptr A.length 0 0] (A++(rdO v r::G)) K:=by
 refine dH T.h116 ?_
 simp only[af116,PP,P1,P2,P14,P15,simprocAttr,aQ,aL,aP,aC,aR,bD,aK,aJ,aN,aT,aU,aV,aW,aS,bA,aE,aF,aA,aG,aY,aZ,aO,bE,a8,aX,aM,bB,aH,bC,aI,aB,aD]
 refine jG T hr fun v'=>?_
 simp only[PP,P1,P2,P14,P15,simprocAttr,aQ,aL,aP,aC,aR,bD,aK,aJ,aN,aT,aU,aV,aW,aS,bA,aE,aF,aA,aG,aY,aZ,aO,bE,a8,aX,aM,bB,aH,bC,aI,aB,aD,gk0,sk0]
 refine QIf.intro (fun c=>?_) (fun c=>?_)
 ·have c':6<r.next.1:=by omega
  have:=hk (v'+1)
  simp only[RS.vars,PP,P1,P2,P14,P15,simprocAttr,c']at this
  simp only[PP,P1,P2,P14,P15,simprocAttr,aQ,aL,aP,aC,aR,bD,aK,aJ,aN,aT,aU,aV,aW,aS,bA,aE,aF,aA,aG,aY,aZ,aO,bE,a8,aX,aM,bB,aH,bC,aI,aB,aD,gk0,sk0]
  exact this
 ·have c':¬6<r.next.1:=by omega
  have:=hk v'
  simp only[RS.vars,PP,P1,P2,P14,P15,simprocAttr,c']at this
  simp only[PP,P1,P2,P14,P15,simprocAttr,aQ,aL,aP,aC,aR,bD,aK,aJ,aN,aT,aU,aV,aW,aS,bA,aE,aF,aA,aG,aY,aZ,aO,bE,a8,aX,aM,bB,aH,bC,aI,aB,aD,gk0,sk0]
  exact this
set_option maxHeartbeats 1000000 in
theorem qV {σ:Type} {A G:Mem} {K:PV->Mem->Prop} {n g v:Nat} {cap:List PV} {f:σ->RS->σ×RS} {s:σ} {r:RS} (GR:Nat->σ->Mem->Prop) (hn:n<=2147483647)
  (hf:∀k s r v G,k<n->GR k s G->OkR r->r.e=0->∀K':PV->Mem->Prop,(∀v' G',GR (k+1) (f s r).1 G'->K' (.tuple []) (A++(rdO v' (f s r).2::G')))->SemC tab g cap (A++(rdO v r::G)) K')
  (hok:∀s r,OkR r->OkR (f s r).2) (hG:GR 0 s G) (hr:OkR r)
  (hk:∀k v' G',k<=n->GR k (eP f n s r).1 G'->OkR (eP f n s r).2->K (.tuple []) (A++(rdO v' (eP f n s r).2::G'))):
  SemC tab 118 [.ptr A.length 0 0,p64 (n:Int),.func (.func g) [] cap] (A++(rdO v r::G)) K:=by
 refine dH T.h118 ?_
 simp only[af118,PP,P1,P2,P14,P15,simprocAttr,aQ,aL,aP,aC,aR,bD,aK,aJ,aN,aT,aU,aV,aW,aS,bA,aE,aF,aA,aG,aY,aZ,aO,bE,a8,aX,aM,bB,aH,bC,aI,aB,aD]
 refine VU (fun(k:Nat) (s':σ) (r':RS) (v:Nat) (G:Mem)=>k<=n/\GR k s' G/\OkR r'/\eP f (n-k) s' r'=eP f n s r) (fun k s' r' v G=>(.ptr A.length 0 0::p64 n:: .func (.func g) [] cap::zj 3++p64 k::zj 14)) (fun k s' r' v G=>A++(rdO v r'::G)) (fun k s' r' v G=>n-k) 0 s r v G ⟨by omega,hG,hr,rfl⟩ (by simp only[PW]) rfl ?_
 intro k s' r' v G ⟨hk',hG,hr,he⟩ ih
 refine dL (by kernel_rfl) ?_
 by_cases c1:(k:Int)<n
 ·by_cases c2:r'.e=0
  ·have hw:=dA (k:=k) (by show _<1000000000000;omega)
   have he':eP f (n-k) s' r'=eP f (n-(k+1)) (f s' r').1 (f s' r').2:=by
    rw[show n-k=(n-(k+1))+1 by omega,eP,if_pos c2]
   simp only[PP,P1,P2,P14,P15,simprocAttr,aQ,aL,aP,aC,aR,bD,aK,aJ,aN,aT,aU,aV,aW,aS,bA,aE,aF,aA,aG,aY,aZ,aO,bE,a8,aX,aM,bB,aH,bC,aI,aB,aD,gk0,sk0,c1,c2]
   refine hf k s' r' v G (by omega) hG hr c2 _ fun v' G' h'=>?_
   simp only[PP,P1,P2,P14,P15,simprocAttr,aQ,aL,aP,aC,aR,bD,aK,aJ,aN,aT,aU,aV,aW,aS,bA,aE,aF,aA,aG,aY,aZ,aO,bE,a8,aX,aM,bB,aH,bC,aI,aB,aD,hw]
   exact dB (ih (k+1) _ _ v' G' ⟨by omega,h',hok _ _ hr,by rw[<-he',he]⟩ (by omega)) (by simp only[PW])
  ·have e:eP f (n-k) s' r'=(s',r'):=by
    rw[show n-k=(n-(k+1))+1 by omega,eP,if_neg c2]
   rw[e]at he
   simp only[PP,P1,P2,P14,P15,simprocAttr,aQ,aL,aP,aC,aR,bD,aK,aJ,aN,aT,aU,aV,aW,aS,bA,aE,aF,aA,aG,aY,aZ,aO,bE,a8,aX,aM,bB,aH,bC,aI,aB,aD,gk0,sk0,c1,c2]
   rw[<-he]at hk
   exact hk k v G hk' hG hr
 ·have e:n-k=0:=by omega
  rw[e]at he
  have he:(s',r')=_:=he
  rw[<-he]at hk
  simp only[PP,P1,P2,P14,P15,simprocAttr,aQ,aL,aP,aC,aR,bD,aK,aJ,aN,aT,aU,aV,aW,aS,bA,aE,aF,aA,aG,aY,aZ,aO,bE,a8,aX,aM,bB,aH,bC,aI,aB,aD,gk0,sk0,c1]
  exact hk k v G hk' hG hr
end
theorem FS (m:Nat) (l:List Nat):cE m (l.map fun n=>PV.str (v7 n))=true:=gC m _ (fun x=>by simp[PV.under]) l
theorem zN (m v:Nat) (r:RS):cL m (rdO v r)=true:=by
 simp only[cL,cE,PV.under,FS,Bool.and_true,Bool.and_self]
section
variable {tab:FuncId->Option AF} (T:HasA tab)
include T
set_option maxHeartbeats 1000000 in
theorem wK {A G:Mem} {K:PV->Mem->Prop} {n v:Nat} {r:RS} (hn:n<=2147483647) (hr:OkR r) (hA:A.all (cL (A.length+(G.length+1)))=true) (hG:G.all (cL (A.length+(G.length+1)))=true)
  (hk:∀v',K (slI false true .i64 (RS.list n r).1) (A++(rdO v' (RS.list n r).2::G))):SemC tab 117 [.ptr A.length 0 0,p64 (n:Int)] (A++(rdO v r::G)) K:=by
 refine AG (fJ T.h117 ?_)
 simp only[af117]
 refine bS (bR ?_)
 simp only[PP,P1,P2,P14,P15,simprocAttr,aQ,aL,aP,aC,aR,bD,aK,aJ,aN,aT,aU,aV,aW,aS,bA,aE,aF,aA,aG,aY,aZ,aO,bE,a8,aX,aM,bB,aH,bC,aI,aB,aD,List.append_assoc]
 refine eB (GStep.nilbox (A.length+(G.length+1+1)) 0 1 (g:=0) (ver:=0) (cs:=[.nils]) (by rw[gk];simp only[PP,P1,P2,P14,P15,simprocAttr];rw[gk];rfl) rfl rfl) ?_
 refine bR ?_
 simp only[PP,P1,P2,P14,P15,simprocAttr,aQ,aL,aP,aC,aR,bD,aK,aJ,aN,aT,aU,aV,aW,aS,bA,aE,aF,aA,aG,aY,aZ,aO,bE,a8,aX,aM,bB,aH,bC,aI,aB,aD,List.append_assoc,gk,gk0,sk,sk0]
 refine qV T (f:=fun out r=>(out++[((RS.next r).1:Int)],(RS.next r).2)) (s:=([]:List Int)) (r:=r) (fun k out G'=>∃v2 g ver,G'=G++[.cells 0 0 [.ptr A.length 0 0],.cells 0 v2 [.ref (A.length+(G.length+1+1+1)) g 1 0 k],.cells g ver (out.map p64)]/\out.length=k) hn ?_ (fun s r h=>h.next.1) ⟨0,0,0,by simp only[PP,P1,P2,P14,P15,simprocAttr],rfl⟩ hr ?_
 ·rintro k out r v G' hkn ⟨v2,g,ver,rfl,hl⟩ hr _ K' hK'
  have b1:(k+1)*8<=140737488355328:=by omega
  have b2:k+1<=9223372036854775807:=by omega
  refine dH T.h170 ?_
  simp only[af170,PP,P1,P2,P14,P15,simprocAttr,aQ,aL,aP,aC,aR,bD,aK,aJ,aN,aT,aU,aV,aW,aS,bA,aE,aF,aA,aG,aY,aZ,aO,bE,a8,aX,aM,bB,aH,bC,aI,aB,aD,List.append_assoc,gk,gk0,sk,sk0]
  refine jG T hr fun v'=>?_
  have hK:=hK' v' (G++[.cells 0 0 [.ptr A.length 0 0],.cells 0 (v2+1) [.ref (A.length+(G.length+1+1+1)) (g+1) 1 0 (k+1)],.cells (g+1) 0 ((out++[((RS.next r).1:Int)]).map p64)]) ⟨v2+1,g+1,0,rfl,by simp[hl]⟩
  by_cases hv:v=v'
  ·simp only[PP,P1,P2,P14,P15,simprocAttr,aQ,aL,aP,aC,aR,bD,aK,aJ,aN,aT,aU,aV,aW,aS,bA,aE,aF,aA,aG,aY,aZ,aO,bE,a8,aX,aM,bB,aH,bC,aI,aB,aD,List.append_assoc,gk,gk0,sk,sk0,gU,hv,hl,b1,b2]
   rw[dQ _ _ (by simp[hl])]
   simpa only[List.map_append,List.map_cons,List.map_nil] using hK
  ·simp only[PP,P1,P2,P14,P15,simprocAttr,aQ,aL,aP,aC,aR,bD,aK,aJ,aN,aT,aU,aV,aW,aS,bA,aE,aF,aA,aG,aY,aZ,aO,bE,a8,aX,aM,bB,aH,bC,aI,aB,aD,List.append_assoc,gk,gk0,sk,sk0,gU,hv,hl,b1,b2]
   refine⟨by simp,?_⟩
   rw[dQ _ _ (by simp[hl])]
   simpa only[List.map_append,List.map_cons,List.map_nil] using hK
 ·rintro k v' G' hkn ⟨v2,g,ver,rfl,hl⟩ hr'
  simp only[PP,P1,P2,P14,P15,simprocAttr,aQ,aL,aP,aC,aR,bD,aK,aJ,aN,aT,aU,aV,aW,aS,bA,aE,aF,aA,aG,aY,aZ,aO,bE,a8,aX,aM,bB,aH,bC,aI,aB,aD,List.append_assoc,gk,gk0,sk,sk0]
  have ht:∀(o:PObj) (X:Mem),List.take (A.length+(G.length+1)) (A++o::(G++X))=A++o::G:=fun o X=>by
   rw[show A++o::(G++X)=(A++o::G)++X by simp,List.take_left' (by simp)]
  refine⟨slI false true .i64 (RS.list n r).1,A++(rdO v' (RS.list n r).2::G),?_,?_,hk v'⟩
  ·simp only[jF,fM]
   subst hl
   rw[oD (ver:=ver) (by omega) (by rw[gk];simp only[PP,P1,P2,P14,P15,simprocAttr];rw[gk];rfl) (by simp) (dI _ _ _),dQ _ _ (by simp)]
   rfl
  ·rw[ht]
   refine m7 ?_
   rw[List.all_append,hA,List.all_cons,zN,hG]
   rfl
end
theorem fI {c:Prop} [Decidable c] (a:Nat) (p:Nat->Bool):(if c then [] else [a]).all p=(decide c||p a):=by
 by_cases h:c<;>simp[h]
section
variable {tab:FuncId->Option AF} (T:HasA tab)
include T
set_option maxHeartbeats 4000000 in
theorem aCg {A G Z:Mem} {K:PV->Mem->Prop} {v v2 g ver k:Nat} {r:RS} {a1 a2 a3 a4:PV} {es:List Eg} (hr:OkR r) (hl:es.length=k) (hkn:k<2147483647)
  (hk:∀v' o,K (.tuple []) (A++(rdO v' (iK r).2::(G++(.cells 0 0 [.ptr A.length 0 0]:: .cells 0 (v2+1) [a1,a2,a3,a4,.ref (A.length+(G.length+1+1+1)) (g+1) 4 0 (k+1)]:: .cells (g+1) 0 (egL (es++[(iK r).1]))::(Z++[o])))))):
  SemC tab 119 [.ptr (A.length+(G.length+1)) 0 0,.ptr (A.length+(G.length+1+1)) 0 0] (A++(rdO v r::(G++(.cells 0 0 [.ptr A.length 0 0]:: .cells 0 v2 [a1,a2,a3,a4,.ref (A.length+(G.length+1+1+1)) g 4 0 k]:: .cells g ver (egL es)::Z)))) K:=by
 have hb:∀k,(A.length==A.length+(k+1))=false:=fun k=>by simp
 have b1:(k+1)*24<=140737488355328:=by omega
 have b2:k+1<=9223372036854775807:=by omega
 have b3:k*4<=(egL es).length:=by rw[iQ];omega
 have he:dW (egL es) 0 (k*4)=egL es:=xZ hl
 refine dH T.h119 ?_
 simp only[af119,PP,P1,P2,P14,P15,simprocAttr,aQ,aL,aP,aC,aR,bD,aK,aJ,aN,aT,aU,aV,aW,aS,bA,aE,aF,aA,aG,aY,aZ,aO,bE,a8,aX,aM,bB,aH,bC,aI,aB,aD,List.append_assoc,gk,gk0,sk,sk0]
 refine jG T hr fun v'=>?_
 simp only[PP,P1,P2,P14,P15,simprocAttr,aQ,aL,aP,aC,aR,bD,aK,aJ,aN,aT,aU,aV,aW,aS,bA,aE,aF,aA,aG,aY,aZ,aO,bE,a8,aX,aM,bB,aH,bC,aI,aB,aD,List.append_assoc,gk,gk0,sk,sk0,gU,fI,hb]
 refine jG T hr.next.1 fun v'=>?_
 simp only[PP,P1,P2,P14,P15,simprocAttr,aQ,aL,aP,aC,aR,bD,aK,aJ,aN,aT,aU,aV,aW,aS,bA,aE,aF,aA,aG,aY,aZ,aO,bE,a8,aX,aM,bB,aH,bC,aI,aB,aD,List.append_assoc,gk,gk0,sk,sk0,gU,fI,hb]
 have hr2:=hr.next.1.next.1
 refine r9 (lim:=255) T hr2 (by omega) fun v'=>?_
 simp only[PP,P1,P2,P14,P15,simprocAttr,aQ,aL,aP,aC,aR,bD,aK,aJ,aN,aT,aU,aV,aW,aS,bA,aE,aF,aA,aG,aY,aZ,aO,bE,a8,aX,aM,bB,aH,bC,aI,aB,aD,List.append_assoc,gk,gk0,sk,sk0]
 refine r9 (lim:=255) T (hr2.small 255) (by omega) fun v'=>?_
 simp only[PP,P1,P2,P14,P15,simprocAttr,aQ,aL,aP,aC,aR,bD,aK,aJ,aN,aT,aU,aV,aW,aS,bA,aE,aF,aA,aG,aY,aZ,aO,bE,a8,aX,aM,bB,aH,bC,aI,aB,aD,List.append_assoc,gk,gk0,sk,sk0,b1,b2,b3,he,E3]
 have:=hk v' (.cells 0 3 (egC (iK r).1))
 rw[<-aAs]at this
 exact this
set_option maxHeartbeats 4000000 in
theorem aB1 {A G:Mem} {K:PV->Mem->Prop} {v:Nat} {r:RS} (hr:OkR r) (hA:A.all (cL (A.length+(G.length+1)))=true) (hG:G.all (cL (A.length+(G.length+1)))=true)
  (hk:∀v' vn,K (.func (.func 121) [] [.ptr (A.length+(G.length+1+1)) 0 0]) (A++(rdO v' r.nfa.2::(G++[.cells 0 0 [.ptr A.length 0 0],.cells 0 vn (nfC false true false true false true r.nfa.1),.gone])))):SemC tab 71 [.ptr A.length 0 0] (A++(rdO v r::G)) K:=by
 have hb:∀k,(A.length==A.length+(k+1))=false:=fun k=>by simp
 refine eZ (fJ T.h71 ?_)
 simp only[af71]
 refine bS (bR ?_)
 simp only[PP,P1,P2,P14,P15,simprocAttr,aQ,aL,aP,aC,aR,bD,aK,aJ,aN,aT,aU,aV,aW,aS,bA,aE,aF,aA,aG,aY,aZ,aO,bE,a8,aX,aM,bB,aH,bC,aI,aB,aD,List.append_assoc]
 refine bS (bR ?_)
 simp only[PP,P1,P2,P14,P15,simprocAttr,aQ,aL,aP,aC,aR,bD,aK,aJ,aN,aT,aU,aV,aW,aS,bA,aE,aF,aA,aG,aY,aZ,aO,bE,a8,aX,aM,bB,aH,bC,aI,aB,aD,List.append_assoc,gk,gk0,sk,sk0]
 refine NV T hr fun v'=>?_
 simp only[PP,P1,P2,P14,P15,simprocAttr,aQ,aL,aP,aC,aR,bD,aK,aJ,aN,aT,aU,aV,aW,aS,bA,aE,aF,aA,aG,aY,aZ,aO,bE,a8,aX,aM,bB,aH,bC,aI,aB,aD,List.append_assoc,gk,gk0,sk,sk0,gU,fI,hb]
 refine jG T hr.vars fun v'=>?_
 simp only[PP,P1,P2,P14,P15,simprocAttr,aQ,aL,aP,aC,aR,bD,aK,aJ,aN,aT,aU,aV,aW,aS,bA,aE,aF,aA,aG,aY,aZ,aO,bE,a8,aX,aM,bB,aH,bC,aI,aB,aD,List.append_assoc,gk,gk0,sk,sk0,gU,fI,hb]
 obtain⟨hr1,hv1⟩:=hr.vars.next
 obtain⟨hr2,hv2⟩:=hr1.next
 have hcx:∀(n v:Nat) (a b:Int) (x y:PV),cL n (.cells 0 0 [.ptr A.length 0 0])=decide (A.length<n):=fun n v a b x y=>by simp[cL,cE,PV.under]
 have hA2:A.all (cL (A.length+(G.length+1+1+1)))=true:=dV (by omega) hA
 have hG2:∀(o:PObj),cL (A.length+(G.length+1+1+1)) o=true->(G++[.cells 0 0 [.ptr A.length 0 0],o]).all (cL (A.length+(G.length+1+1+1)))=true:=fun o ho=>by
  rw[List.all_append,dV (by omega) hG]
  simp[ho]
  simp[cL,cE,PV.under]
 refine bS (bR ?_)
 simp only[PP,P1,P2,P14,P15,simprocAttr,aQ,aL,aP,aC,aR,bD,aK,aJ,aN,aT,aU,aV,aW,aS,bA,aE,aF,aA,aG,aY,aZ,aO,bE,a8,aX,aM,bB,aH,bC,aI,aB,aD,List.append_assoc,gk,gk0,sk,sk0]
 refine jG T hr1 fun v'=>?_
 simp only[PP,P1,P2,P14,P15,simprocAttr,aQ,aL,aP,aC,aR,bD,aK,aJ,aN,aT,aU,aV,aW,aS,bA,aE,aF,aA,aG,aY,aZ,aO,bE,a8,aX,aM,bB,aH,bC,aI,aB,aD,List.append_assoc,gk,gk0,sk,sk0,gU,fI,hb]
 refine wK T hv2 hr2 (by simpa using hA2) (by simpa using hG2 _ (by simp[cL,cE,PV.under])) fun v'=>?_
 simp only[PP,P1,P2,P14,P15,simprocAttr,aQ,aL,aP,aC,aR,bD,aK,aJ,aN,aT,aU,aV,aW,aS,bA,aE,aF,aA,aG,aY,aZ,aO,bE,a8,aX,aM,bB,aH,bC,aI,aB,aD,List.append_assoc,gk,gk0,sk,sk0,gU,fI,hb]
 obtain⟨hr4,hv4⟩:=(hr2.list (RS.next (RS.next r.vars.2).2).1).next
 refine bS (bR ?_)
 simp only[PP,P1,P2,P14,P15,simprocAttr,aQ,aL,aP,aC,aR,bD,aK,aJ,aN,aT,aU,aV,aW,aS,bA,aE,aF,aA,aG,aY,aZ,aO,bE,a8,aX,aM,bB,aH,bC,aI,aB,aD,List.append_assoc,gk,gk0,sk,sk0]
 refine jG T (hr2.list _) fun v'=>?_
 simp only[PP,P1,P2,P14,P15,simprocAttr,aQ,aL,aP,aC,aR,bD,aK,aJ,aN,aT,aU,aV,aW,aS,bA,aE,aF,aA,aG,aY,aZ,aO,bE,a8,aX,aM,bB,aH,bC,aI,aB,aD,List.append_assoc,gk,gk0,sk,sk0,gU,fI,hb]
 refine wK T hv4 hr4 (by simpa using hA2) (by simpa using hG2 _ (by simp[cL,cE,PV.under,dI])) fun v'=>?_
 simp only[PP,P1,P2,P14,P15,simprocAttr,aQ,aL,aP,aC,aR,bD,aK,aJ,aN,aT,aU,aV,aW,aS,bA,aE,aF,aA,aG,aY,aZ,aO,bE,a8,aX,aM,bB,aH,bC,aI,aB,aD,List.append_assoc,gk,gk0,sk,sk0,gU,fI,hb]
 obtain⟨hr6,hv6⟩:=(hr4.list (RS.next (RS.list (RS.next (RS.next r.vars.2).2).1 (RS.next (RS.next r.vars.2).2).2).2).1).next
 refine eB (GStep.nilbox (A.length+(G.length+1+1)) 4 4 (by rw[gk];simp only[PP,P1,P2,P14,P15,simprocAttr];rw[gk];rfl) rfl (by simp only[PP,P1,P2,P14,P15,simprocAttr,List.append_assoc,sk,sk0];rfl)) ?_
 refine bS (bR ?_)
 simp only[PP,P1,P2,P14,P15,simprocAttr,aQ,aL,aP,aC,aR,bD,aK,aJ,aN,aT,aU,aV,aW,aS,bA,aE,aF,aA,aG,aY,aZ,aO,bE,a8,aX,aM,bB,aH,bC,aI,aB,aD,List.append_assoc,gk,gk0,sk,sk0]
 refine jG T (hr4.list _) fun v'=>?_
 simp only[PP,P1,P2,P14,P15,simprocAttr,aQ,aL,aP,aC,aR,bD,aK,aJ,aN,aT,aU,aV,aW,aS,bA,aE,aF,aA,aG,aY,aZ,aO,bE,a8,aX,aM,bB,aH,bC,aI,aB,aD,List.append_assoc,gk,gk0,sk,sk0,gU,fI,hb]
 refine qV T (f:=fun out r=>(out++[(iK r).1],(iK r).2)) (s:=([]:List Eg)) (fun k es G'=>∃v2 g ver Z,G'=G++(.cells 0 0 [.ptr A.length 0 0]:: .cells 0 v2 [p64 r.nfa.1.vs,p64 r.nfa.1.n,slI false true .i64 r.nfa.1.st,slI false true .i64 r.nfa.1.fi,.ref (A.length+(G.length+1+1+1)) g 4 0 k]:: .cells g ver (egL es)::Z)/\es.length=k) hv6 ?_ (fun s r h=>((h.next.1.next.1).small 255).small 255) ⟨3,0,0,[],by simp only[PP,P1,P2,P14,P15,simprocAttr,aAr];rfl,rfl⟩ hr6 ?_
 ·rintro k es r' v G' hkn ⟨v2,g,ver,Z,rfl,hl⟩ hr' _ K' hK'
  refine aCg T hr' hl (by omega) fun v' o=>?_
  exact hK' v' _ ⟨v2+1,g+1,0,Z++[o],rfl,by simp[hl]⟩
 ·rintro k v' G' hkn ⟨v2,g,ver,Z,rfl,hl⟩ hr'
  simp only[PP,P1,P2,P14,P15,simprocAttr,aQ,aL,aP,aC,aR,bD,aK,aJ,aN,aT,aU,aV,aW,aS,bA,aE,aF,aA,aG,aY,aZ,aO,bE,a8,aX,aM,bB,aH,bC,aI,aB,aD,List.append_assoc,gk,gk0,sk,sk0]
  refine bR ?_
  simp only[PP,P1,P2,P14,P15,simprocAttr,aQ,aL,aP,aC,aR,bD,aK,aJ,aN,aT,aU,aV,aW,aS,bA,aE,aF,aA,aG,aY,aZ,aO,bE,a8,aX,aM,bB,aH,bC,aI,aB,aD]
  have hNl:r.nfa.1.es.length=k:=hl
  refine Gh.step (GStep.freezeIn (b:=[.func (.func 121) [] [.ptr (A.length+(G.length+1+1)) 0 0]]) (cj2:=nfC false true false true false true r.nfa.1) (A.length+(G.length+1+1+1)) (A.length+(G.length+1+1)) (by omega) (by rw[gk];simp only[PP,P1,P2,P14,P15,simprocAttr];rw[gk];rfl) (by rw[gk];simp only[PP,P1,P2,P14,P15,simprocAttr];rw[gk];rfl) (by omega) (by simp only[kJ,kK,List.cons_append,List.nil_append,eM,fX]) ?_ rfl) ?_
  ·simp only[nfC,eM]
   rw[l5 (by rw[iQ,<-hl];omega) (by rw[xZ hl,<-hNl];rfl),fX];trivial
  simp only[PP,P1,P2,P14,P15,simprocAttr,List.append_assoc,gk,gk0,sk,sk0]
  have ht:∀(o a b c:PObj) (Z:Mem),A++o::(G++a::b::c::Z)=(A++o::(G++[a,b,c]))++Z:=fun o a b c Z=>by simp
  rw[ht]
  refine Gh.step (GStep.dropM (b:=[.func (.func 121) [] [.ptr (A.length+(G.length+1+1)) 0 0]]) (N:=A++(rdO v' r.nfa.2::(G++[.cells 0 0 [.ptr A.length 0 0],.cells 0 v2 (nfC false true false true false true r.nfa.1),.gone]))) (A.length+(G.length+1+1+1+1)) (by omega) (by simp;omega) (by simp only[PW]) (by simp[cE,PV.under]) ?_ (List.take_left' (by simp))) (Gh.same ⟨_,rfl,hk v' v2⟩)
  rw[List.take_left' (by simp),List.all_append,dV (by omega) hA,List.all_cons,zN,List.all_append,dV (by omega) hG]
  simp[cL,cE,PV.under,dI,fV]
end
section
variable {tab:FuncId->Option AF} (T:HasA tab)
include T
set_option maxHeartbeats 4000000 in
theorem aAz {A G:Mem} {K:PV->Mem->Prop} {v v2 g ver k:Nat} {r:RS} {a2:PV} {vs:Nat} {nx:List (List Int)} (hr:OkR r) (hl:nx.length=k) (hkn:k<2147483647) (hA:A.all (cL (A.length+(G.length+1)))=true) (hG:G.all (cL (A.length+(G.length+1)))=true) (hu:∀m,a2.under m=true)
  (hk:∀v',K (.tuple []) (A++(rdO v' (RS.list (2^(min vs 6)) r).2::(G++[.cells 0 0 [.ptr A.length 0 0],.cells 0 (v2+1) [p64 (vs:Int),a2,.ref (A.length+(G.length+1+1+1)) (g+1) 1 0 (k+1),.nils],.cells (g+1) 0 ((nx++[(RS.list (2^(min vs 6)) r).1]).map (slI false true .i64))])))):
  SemC tab 122 [.ptr (A.length+(G.length+1+1)) 0 0,.ptr (A.length+(G.length+1)) 0 0] (A++(rdO v r::(G++[.cells 0 0 [.ptr A.length 0 0],.cells 0 v2 [p64 (vs:Int),a2,.ref (A.length+(G.length+1+1+1)) g 1 0 k,.nils],.cells g ver (nx.map (slI false true .i64))]))) K:=by
 have hb:∀k,(A.length==A.length+(k+1))=false:=fun k=>by simp
 have b1:(k+1)*24<=140737488355328:=by omega
 have b2:k+1<=9223372036854775807:=by omega
 have hm:min (vs:Int) 6=((min vs 6:Nat):Int):=by omega
 have hs:eI .shl (.int .i64 1) (.int .i64 ((min vs 6:Nat):Int))=some (.int .i64 ((2^(min vs 6):Nat):Int)):=by
  rw[D2 (by omega) (by omega)];simp
 have h64:2^(min vs 6)<=2^6:=Nat.pow_le_pow_right (by omega) (by omega)
 refine dH T.h122 ?_
 simp only[af122,PP,P1,P2,P14,P15,simprocAttr,aQ,aL,aP,aC,aR,bD,aK,aJ,aN,aT,aU,aV,aW,aS,bA,aE,aF,aA,aG,aY,aZ,aO,bE,a8,aX,aM,bB,aH,bC,aI,aB,aD,List.append_assoc,gk,gk0,sk,sk0,jX,hm,hs]
 refine wK T (by omega) hr ?_ ?_ fun v'=>?_
 ·exact dV (by simp) hA
 ·rw[List.all_append,dV (by simp) hG]
  simp[cL,cE,PV.under,dO,hu]
 simp only[PP,P1,P2,P14,P15,simprocAttr,aQ,aL,aP,aC,aR,bD,aK,aJ,aN,aT,aU,aV,aW,aS,bA,aE,aF,aA,aG,aY,aZ,aO,bE,a8,aX,aM,bB,aH,bC,aI,aB,aD,List.append_assoc,gk,gk0,sk,sk0,gU,fI,hb,b1,b2,hl]
 have:=hk v'
 rw[dQ _ _ (by simp[hl])]
 simp only[List.map_append,List.map_cons,List.map_nil]at this
 exact this
set_option maxHeartbeats 4000000 in
theorem aAy {A G:Mem} {K:PV->Mem->Prop} {v v2 g ver k kn gn vn:Nat} {r:RS} {a1 a2:PV} {cn:List PV} {fi:List Bool} (hr:OkR r) (hl:fi.length=k) (hkn:k<2147483647)
  (hk:∀v',K (.tuple []) (A++(rdO v' (r.small 1).2::(G++[.cells 0 0 [.ptr A.length 0 0],.cells 0 (v2+1) [a1,a2,.ref (A.length+(G.length+1+1+1)) gn 1 0 kn,.ref (A.length+(G.length+1+1+1+1)) (g+1) 1 0 (k+1)],.cells gn vn cn,.cells (g+1) 0 ((fi++[decide ((r.small 1).1=1)]).map .bool)])))):
  SemC tab 123 [.ptr (A.length+(G.length+1+1)) 0 0,.ptr (A.length+(G.length+1)) 0 0] (A++(rdO v r::(G++[.cells 0 0 [.ptr A.length 0 0],.cells 0 v2 [a1,a2,.ref (A.length+(G.length+1+1+1)) gn 1 0 kn,.ref (A.length+(G.length+1+1+1+1)) g 1 0 k],.cells gn vn cn,.cells g ver (fi.map .bool)]))) K:=by
 have hb:∀k,(A.length==A.length+(k+1))=false:=fun k=>by simp
 have b1:(k+1)*1<=140737488355328:=by omega
 have b1':k+1<=140737488355328:=by omega
 have b2:k+1<=9223372036854775807:=by omega
 have hd:decide (((r.small 1).1:Int)=1)=decide ((r.small 1).1=1):=by
  rw[decide_eq_decide];omega
 refine dH T.h123 ?_
 simp only[af123,PP,P1,P2,P14,P15,simprocAttr,aQ,aL,aP,aC,aR,bD,aK,aJ,aN,aT,aU,aV,aW,aS,bA,aE,aF,aA,aG,aY,aZ,aO,bE,a8,aX,aM,bB,aH,bC,aI,aB,aD,List.append_assoc,gk,gk0,sk,sk0]
 refine r9 (lim:=1) T hr (by omega) fun v'=>?_
 simp only[PP,P1,P2,P14,P15,simprocAttr,aQ,aL,aP,aC,aR,bD,aK,aJ,aN,aT,aU,aV,aW,aS,bA,aE,aF,aA,aG,aY,aZ,aO,bE,a8,aX,aM,bB,aH,bC,aI,aB,aD,List.append_assoc,gk,gk0,sk,sk0,gU,fI,hb,b1,b1',b2,hl,hd]
 have:=hk v'
 rw[dQ _ _ (by simp[hl])]
 simp only[List.map_append,List.map_cons,List.map_nil]at this
 exact this
set_option maxHeartbeats 4000000 in
theorem aB8 {A G:Mem} {K:PV->Mem->Prop} {v:Nat} {r:RS} (hr:OkR r) (hA:A.all (cL (A.length+(G.length+1)))=true) (hG:G.all (cL (A.length+(G.length+1)))=true)
  (hk:∀v' vn,K (.func (.func 124) [] [.ptr (A.length+(G.length+1+1)) 0 0]) (A++(rdO v' r.dfa.2::(G++[.cells 0 0 [.ptr A.length 0 0],.cells 0 vn (dfC false true false true false true r.dfa.1),.gone,.gone])))):SemC tab 72 [.ptr A.length 0 0] (A++(rdO v r::G)) K:=by
 have hb:∀k,(A.length==A.length+(k+1))=false:=fun k=>by simp
 refine eZ (fJ T.h72 ?_)
 simp only[af72]
 refine bS (bR ?_)
 simp only[PP,P1,P2,P14,P15,simprocAttr,aQ,aL,aP,aC,aR,bD,aK,aJ,aN,aT,aU,aV,aW,aS,bA,aE,aF,aA,aG,aY,aZ,aO,bE,a8,aX,aM,bB,aH,bC,aI,aB,aD,List.append_assoc]
 refine bS (bR ?_)
 simp only[PP,P1,P2,P14,P15,simprocAttr,aQ,aL,aP,aC,aR,bD,aK,aJ,aN,aT,aU,aV,aW,aS,bA,aE,aF,aA,aG,aY,aZ,aO,bE,a8,aX,aM,bB,aH,bC,aI,aB,aD,List.append_assoc,gk,gk0,sk,sk0]
 refine NV T hr fun v'=>?_
 simp only[PP,P1,P2,P14,P15,simprocAttr,aQ,aL,aP,aC,aR,bD,aK,aJ,aN,aT,aU,aV,aW,aS,bA,aE,aF,aA,aG,aY,aZ,aO,bE,a8,aX,aM,bB,aH,bC,aI,aB,aD,List.append_assoc,gk,gk0,sk,sk0,gU,fI,hb]
 refine jG T hr.vars fun v'=>?_
 simp only[PP,P1,P2,P14,P15,simprocAttr,aQ,aL,aP,aC,aR,bD,aK,aJ,aN,aT,aU,aV,aW,aS,bA,aE,aF,aA,aG,aY,aZ,aO,bE,a8,aX,aM,bB,aH,bC,aI,aB,aD,List.append_assoc,gk,gk0,sk,sk0,gU,fI,hb]
 obtain⟨hr1,hv1⟩:=hr.vars.next
 obtain⟨hr2,hv2⟩:=hr1.next
 refine bS (bR ?_)
 simp only[PP,P1,P2,P14,P15,simprocAttr,aQ,aL,aP,aC,aR,bD,aK,aJ,aN,aT,aU,aV,aW,aS,bA,aE,aF,aA,aG,aY,aZ,aO,bE,a8,aX,aM,bB,aH,bC,aI,aB,aD,List.append_assoc,gk,gk0,sk,sk0]
 refine jG T hr1 fun v'=>?_
 simp only[PP,P1,P2,P14,P15,simprocAttr,aQ,aL,aP,aC,aR,bD,aK,aJ,aN,aT,aU,aV,aW,aS,bA,aE,aF,aA,aG,aY,aZ,aO,bE,a8,aX,aM,bB,aH,bC,aI,aB,aD,List.append_assoc,gk,gk0,sk,sk0]
 refine eB (GStep.nilbox (A.length+(G.length+1+1)) 2 1 (by rw[gk];simp only[PP,P1,P2,P14,P15,simprocAttr];rw[gk];rfl) rfl (by simp only[PP,P1,P2,P14,P15,simprocAttr,List.append_assoc,sk,sk0];rfl)) ?_
 refine bS (bR ?_)
 simp only[PP,P1,P2,P14,P15,simprocAttr,aQ,aL,aP,aC,aR,bD,aK,aJ,aN,aT,aU,aV,aW,aS,bA,aE,aF,aA,aG,aY,aZ,aO,bE,a8,aX,aM,bB,aH,bC,aI,aB,aD,List.append_assoc,gk,gk0,sk,sk0]
 refine qV T (f:=fun out r'=>(out++[(RS.list (2^(min r.vars.1 6)) r').1],(RS.list (2^(min r.vars.1 6)) r').2)) (s:=([]:List (List Int))) (fun k nx G'=>∃v2 g ver,G'=G++[.cells 0 0 [.ptr A.length 0 0],.cells 0 v2 [p64 (r.vars.1:Int),p64 ((RS.next r.vars.2).1:Int),.ref (A.length+(G.length+1+1+1)) g 1 0 k,.nils],.cells g ver (nx.map (slI false true .i64))]/\nx.length=k) hv2 ?_ (fun s r h=>h.list _) ⟨1,0,0,by simp only[PP,P1,P2,P14,P15,simprocAttr],rfl⟩ hr2 ?_
 ·rintro k nx r' v G' hkn ⟨v2,g,ver,rfl,hl⟩ hr' _ K' hK'
  refine aAz T hr' hl (by omega) hA hG (fun m=>by simp[PV.under]) fun v'=>?_
  exact hK' v' _ ⟨v2+1,g+1,0,rfl,by simp[hl]⟩
 ·rintro k v' G' hkn ⟨v2,g,ver,rfl,hl⟩ hr3
  simp only[PP,P1,P2,P14,P15,simprocAttr,aQ,aL,aP,aC,aR,bD,aK,aJ,aN,aT,aU,aV,aW,aS,bA,aE,aF,aA,aG,aY,aZ,aO,bE,a8,aX,aM,bB,aH,bC,aI,aB,aD,List.append_assoc,gk,gk0,sk,sk0]
  refine eB (GStep.nilbox (A.length+(G.length+1+1)) 3 1 (by rw[gk];simp only[PP,P1,P2,P14,P15,simprocAttr];rw[gk];rfl) rfl (by simp only[PP,P1,P2,P14,P15,simprocAttr,List.append_assoc,sk,sk0];rfl)) ?_
  refine bS (bR ?_)
  simp only[PP,P1,P2,P14,P15,simprocAttr,aQ,aL,aP,aC,aR,bD,aK,aJ,aN,aT,aU,aV,aW,aS,bA,aE,aF,aA,aG,aY,aZ,aO,bE,a8,aX,aM,bB,aH,bC,aI,aB,aD,List.append_assoc,gk,gk0,sk,sk0]
  refine qV T (f:=fun out r=>(out++[decide ((RS.small 1 r).1=1)],(RS.small 1 r).2)) (s:=([]:List Bool)) (fun k2 fi G'=>∃v2 g2 ver2,G'=G++[.cells 0 0 [.ptr A.length 0 0],.cells 0 v2 [p64 (r.vars.1:Int),p64 ((RS.next r.vars.2).1:Int),.ref (A.length+(G.length+1+1+1)) g 1 0 k,.ref (A.length+(G.length+1+1+1+1)) g2 1 0 k2],.cells g ver (r.dfa.1.nx.map (slI false true .i64)),.cells g2 ver2 (fi.map .bool)]/\fi.length=k2) hv2 ?_ (fun s r h=>h.small 1) ⟨v2,0,0,by simp only[PP,P1,P2,P14,P15,simprocAttr];rfl,rfl⟩ hr3 ?_
  ·rintro k2 fi r' v G' hkn ⟨v2,g2,ver2,rfl,hl2⟩ hr' _ K' hK'
   refine aAy T hr' hl2 (by omega) fun v'=>?_
   exact hK' v' _ ⟨v2+1,g2+1,0,rfl,by simp[hl2]⟩
  ·rintro k2 v' G' hkn2 ⟨v2,g2,ver2,rfl,hl2⟩ hr4
   simp only[PP,P1,P2,P14,P15,simprocAttr,aQ,aL,aP,aC,aR,bD,aK,aJ,aN,aT,aU,aV,aW,aS,bA,aE,aF,aA,aG,aY,aZ,aO,bE,a8,aX,aM,bB,aH,bC,aI,aB,aD,List.append_assoc,gk,gk0,sk,sk0]
   have hNx:r.dfa.1.nx.length=k:=hl
   have hNf:r.dfa.1.fi.length=k2:=hl2
   refine bR ?_
   simp only[PP,P1,P2,P14,P15,simprocAttr,aQ,aL,aP,aC,aR,bD,aK,aJ,aN,aT,aU,aV,aW,aS,bA,aE,aF,aA,aG,aY,aZ,aO,bE,a8,aX,aM,bB,aH,bC,aI,aB,aD]
   refine Gh.step (GStep.freezeIn (b:=[.func (.func 124) [] [.ptr (A.length+(G.length+1+1)) 0 0]]) (cj2:=[p64 r.dfa.1.vs,p64 r.dfa.1.st,slR false true false true .i64 r.dfa.1.nx,.ref (A.length+(G.length+1+1+1+1)) g2 1 0 k2]) (A.length+(G.length+1+1+1)) (A.length+(G.length+1+1)) (by omega) (by rw[gk];simp only[PP,P1,P2,P14,P15,simprocAttr];rw[gk];rfl) (by rw[gk];simp only[PP,P1,P2,P14,P15,simprocAttr];rw[gk];rfl) (by omega) (by simp only[kJ,kK,List.cons_append,List.nil_append,eM,fX]) ?_ rfl) ?_
   ·show PFrz _ _ _ [p64 r.dfa.1.vs,p64 r.dfa.1.st,.ref (A.length+(G.length+1+1+1)) g 1 0 k,.ref (A.length+(G.length+1+1+1+1)) g2 1 0 k2] _
    simp only[kJ,kK,List.cons_append,List.nil_append,eM]
    rw[l5 (by simp[hNx]) (by rw[dQ _ _ (by simp[hNx])];simp only[slR,hNx]),eM,fX];trivial
   simp only[PP,P1,P2,P14,P15,simprocAttr,List.append_assoc,gk,gk0,sk,sk0]
   refine Gh.step (GStep.freezeIn (b:=[.func (.func 124) [] [.ptr (A.length+(G.length+1+1)) 0 0]]) (cj2:=dfC false true false true false true r.dfa.1) (A.length+(G.length+1+1+1+1)) (A.length+(G.length+1+1)) (by omega) (by rw[gk];simp only[PP,P1,P2,P14,P15,simprocAttr];rw[gk];rfl) (by rw[gk];simp only[PP,P1,P2,P14,P15,simprocAttr];rw[gk];rfl) (by omega) (by simp only[kJ,kK,List.cons_append,List.nil_append,eM,fX]) ?_ rfl) ?_
   ·simp only[dfC,eM]
    rw[l5 (by simp[hl2]) (by rw[dQ _ _ (by simp[hl2]),<-hNf];rfl),fX];trivial
   simp only[PP,P1,P2,P14,P15,simprocAttr,List.append_assoc,gk,gk0,sk,sk0]
   exact Gh.same ⟨_,rfl,hk v' v2⟩
end
section
variable {tab:FuncId->Option AF} (T:HasA tab)
include T
set_option maxHeartbeats 4000000 in
theorem aCv {A G:Mem} {K:PV->Mem->Prop} {v v2 g ver k:Nat} {r:RS} {ow:List Int} (hr:OkR r) (hl:ow.length=k) (hkn:k<2147483647)
  (hk:∀v',K (.tuple []) (A++(rdO v' (r.small 255).2::(G++[.cells 0 0 [.ptr A.length 0 0],.cells 0 (v2+1) [.ref (A.length+(G.length+1+1+1)) (g+1) 1 0 (k+1),.nils,.nils],.cells (g+1) 0 ((ow++[((r.small 255).1:Int)]).map (.int .u8))])))):
  SemC tab 125 [.ptr (A.length+(G.length+1+1)) 0 0,.ptr (A.length+(G.length+1)) 0 0] (A++(rdO v r::(G++[.cells 0 0 [.ptr A.length 0 0],.cells 0 v2 [.ref (A.length+(G.length+1+1+1)) g 1 0 k,.nils,.nils],.cells g ver (ow.map (.int .u8))]))) K:=by
 have hb:∀k,(A.length==A.length+(k+1))=false:=fun k=>by simp
 have b1':k+1<=140737488355328:=by omega
 have b2:k+1<=9223372036854775807:=by omega
 refine dH T.h125 ?_
 simp only[af125,PP,P1,P2,P14,P15,simprocAttr,aQ,aL,aP,aC,aR,bD,aK,aJ,aN,aT,aU,aV,aW,aS,bA,aE,aF,aA,aG,aY,aZ,aO,bE,a8,aX,aM,bB,aH,bC,aI,aB,aD,List.append_assoc,gk,gk0,sk,sk0]
 refine r9 (lim:=255) T hr (by omega) fun v'=>?_
 simp only[PP,P1,P2,P14,P15,simprocAttr,aQ,aL,aP,aC,aR,bD,aK,aJ,aN,aT,aU,aV,aW,aS,bA,aE,aF,aA,aG,aY,aZ,aO,bE,a8,aX,aM,bB,aH,bC,aI,aB,aD,List.append_assoc,gk,gk0,sk,sk0,gU,fI,hb,b1',b2,hl]
 have:=hk v'
 rw[dQ _ _ (by simp[hl])]
 simp only[List.map_append,List.map_cons,List.map_nil]at this
 exact this
set_option maxHeartbeats 4000000 in
theorem aCu {A G:Mem} {K:PV->Mem->Prop} {v v2 g ver k kn gn vn:Nat} {r:RS} {cn:List PV} {pr:List Int} (hr:OkR r) (hl:pr.length=k) (hkn:k<2147483647)
  (hk:∀v',K (.tuple []) (A++(rdO v' r.next.2::(G++[.cells 0 0 [.ptr A.length 0 0],.cells 0 (v2+1) [.ref (A.length+(G.length+1+1+1)) gn 1 0 kn,.ref (A.length+(G.length+1+1+1+1)) (g+1) 1 0 (k+1),.nils],.cells gn vn cn,.cells (g+1) 0 ((pr++[((RS.next r).1:Int)]).map p64)])))):
  SemC tab 126 [.ptr (A.length+(G.length+1+1)) 0 0,.ptr (A.length+(G.length+1)) 0 0] (A++(rdO v r::(G++[.cells 0 0 [.ptr A.length 0 0],.cells 0 v2 [.ref (A.length+(G.length+1+1+1)) gn 1 0 kn,.ref (A.length+(G.length+1+1+1+1)) g 1 0 k,.nils],.cells gn vn cn,.cells g ver (pr.map p64)]))) K:=by
 have hb:∀k,(A.length==A.length+(k+1))=false:=fun k=>by simp
 have b1:(k+1)*8<=140737488355328:=by omega
 have b2:k+1<=9223372036854775807:=by omega
 refine dH T.h126 ?_
 simp only[af126,PP,P1,P2,P14,P15,simprocAttr,aQ,aL,aP,aC,aR,bD,aK,aJ,aN,aT,aU,aV,aW,aS,bA,aE,aF,aA,aG,aY,aZ,aO,bE,a8,aX,aM,bB,aH,bC,aI,aB,aD,List.append_assoc,gk,gk0,sk,sk0]
 refine jG T hr fun v'=>?_
 simp only[PP,P1,P2,P14,P15,simprocAttr,aQ,aL,aP,aC,aR,bD,aK,aJ,aN,aT,aU,aV,aW,aS,bA,aE,aF,aA,aG,aY,aZ,aO,bE,a8,aX,aM,bB,aH,bC,aI,aB,aD,List.append_assoc,gk,gk0,sk,sk0,gU,fI,hb,b1,b2,hl]
 have:=hk v'
 rw[dQ _ _ (by simp[hl])]
 simp only[List.map_append,List.map_cons,List.map_nil]at this
 exact this
set_option maxHeartbeats 4000000 in
theorem aCt {A G:Mem} {K:PV->Mem->Prop} {v v2 g ver k k1 k2 g1 g2 vn1 vn2:Nat} {r:RS} {c1 c2:List PV} {su:List (List Int)} (hr:OkR r) (hl:su.length=k) (hkn:k<2147483647) (hA:A.all (cL (A.length+(G.length+1)))=true) (hG:G.all (cL (A.length+(G.length+1)))=true) (hu1:∀m,cE m c1=true) (hu2:∀m,cE m c2=true)
  (hk:∀v',K (.tuple []) (A++(rdO v' (RS.list r.next.1 r.next.2).2::(G++[.cells 0 0 [.ptr A.length 0 0],.cells 0 (v2+1) [.ref (A.length+(G.length+1+1+1)) g1 1 0 k1,.ref (A.length+(G.length+1+1+1+1)) g2 1 0 k2,.ref (A.length+(G.length+1+1+1+1+1)) (g+1) 1 0 (k+1)],.cells g1 vn1 c1,.cells g2 vn2 c2,.cells (g+1) 0 ((su++[(RS.list r.next.1 r.next.2).1]).map (slI false true .i64))])))):
  SemC tab 127 [.ptr (A.length+(G.length+1+1)) 0 0,.ptr (A.length+(G.length+1)) 0 0] (A++(rdO v r::(G++[.cells 0 0 [.ptr A.length 0 0],.cells 0 v2 [.ref (A.length+(G.length+1+1+1)) g1 1 0 k1,.ref (A.length+(G.length+1+1+1+1)) g2 1 0 k2,.ref (A.length+(G.length+1+1+1+1+1)) g 1 0 k],.cells g1 vn1 c1,.cells g2 vn2 c2,.cells g ver (su.map (slI false true .i64))]))) K:=by
 have hb:∀k,(A.length==A.length+(k+1))=false:=fun k=>by simp
 have b1:(k+1)*24<=140737488355328:=by omega
 have b2:k+1<=9223372036854775807:=by omega
 obtain⟨hr1,hv1⟩:=hr.next
 refine dH T.h127 ?_
 simp only[af127,PP,P1,P2,P14,P15,simprocAttr,aQ,aL,aP,aC,aR,bD,aK,aJ,aN,aT,aU,aV,aW,aS,bA,aE,aF,aA,aG,aY,aZ,aO,bE,a8,aX,aM,bB,aH,bC,aI,aB,aD,List.append_assoc,gk,gk0,sk,sk0]
 refine jG T hr fun v'=>?_
 simp only[PP,P1,P2,P14,P15,simprocAttr,aQ,aL,aP,aC,aR,bD,aK,aJ,aN,aT,aU,aV,aW,aS,bA,aE,aF,aA,aG,aY,aZ,aO,bE,a8,aX,aM,bB,aH,bC,aI,aB,aD,List.append_assoc,gk,gk0,sk,sk0,gU,fI,hb]
 refine wK T hv1 hr1 ?_ ?_ fun v'=>?_
 ·exact dV (by simp) hA
 ·rw[List.all_append,dV (by simp) hG]
  simp[cL,cE,PV.under,dO,hu1,hu2]
 simp only[PP,P1,P2,P14,P15,simprocAttr,aQ,aL,aP,aC,aR,bD,aK,aJ,aN,aT,aU,aV,aW,aS,bA,aE,aF,aA,aG,aY,aZ,aO,bE,a8,aX,aM,bB,aH,bC,aI,aB,aD,List.append_assoc,gk,gk0,sk,sk0,gU,fI,hb,b1,b2,hl]
 have:=hk v'
 rw[dQ _ _ (by simp[hl])]
 simp only[List.map_append,List.map_cons,List.map_nil]at this
 exact this
set_option maxHeartbeats 4000000 in
theorem ZL {A G:Mem} {K:PV->Mem->Prop} {v:Nat} {r:RS} (hr:OkR r) (hA:A.all (cL (A.length+(G.length+1)))=true) (hG:G.all (cL (A.length+(G.length+1)))=true)
  (hk:∀v' vn,K (.func (.func 128) [] [.ptr (A.length+(G.length+1+1)) 0 0]) (A++(rdO v' r.game.2::(G++[.cells 0 0 [.ptr A.length 0 0],.cells 0 vn [slI false true .u8 r.game.1.1,slI false true .i64 r.game.1.2.1,slR false true false true .i64 r.game.1.2.2],.gone,.gone,.gone])))):SemC tab 73 [.ptr A.length 0 0] (A++(rdO v r::G)) K:=by
 have hb:∀k,(A.length==A.length+(k+1))=false:=fun k=>by simp
 refine eZ (fJ T.h73 ?_)
 simp only[af73]
 refine bS (bR ?_)
 simp only[PP,P1,P2,P14,P15,simprocAttr,aQ,aL,aP,aC,aR,bD,aK,aJ,aN,aT,aU,aV,aW,aS,bA,aE,aF,aA,aG,aY,aZ,aO,bE,a8,aX,aM,bB,aH,bC,aI,aB,aD,List.append_assoc]
 refine bS (bR ?_)
 simp only[PP,P1,P2,P14,P15,simprocAttr,aQ,aL,aP,aC,aR,bD,aK,aJ,aN,aT,aU,aV,aW,aS,bA,aE,aF,aA,aG,aY,aZ,aO,bE,a8,aX,aM,bB,aH,bC,aI,aB,aD,List.append_assoc,gk,gk0,sk,sk0]
 refine bS (bR ?_)
 simp only[PP,P1,P2,P14,P15,simprocAttr,aQ,aL,aP,aC,aR,bD,aK,aJ,aN,aT,aU,aV,aW,aS,bA,aE,aF,aA,aG,aY,aZ,aO,bE,a8,aX,aM,bB,aH,bC,aI,aB,aD,List.append_assoc,gk,gk0,sk,sk0]
 refine jG T hr fun v'=>?_
 simp only[PP,P1,P2,P14,P15,simprocAttr,aQ,aL,aP,aC,aR,bD,aK,aJ,aN,aT,aU,aV,aW,aS,bA,aE,aF,aA,aG,aY,aZ,aO,bE,a8,aX,aM,bB,aH,bC,aI,aB,aD,List.append_assoc,gk,gk0,sk,sk0]
 obtain⟨hr1,hv1⟩:=hr.next
 refine eB (GStep.nilbox (A.length+(G.length+1+1)) 0 1 (by rw[gk];simp only[PP,P1,P2,P14,P15,simprocAttr];rw[gk];rfl) rfl (by simp only[PP,P1,P2,P14,P15,simprocAttr,List.append_assoc,sk,sk0];rfl)) ?_
 refine bS (bR ?_)
 simp only[PP,P1,P2,P14,P15,simprocAttr,aQ,aL,aP,aC,aR,bD,aK,aJ,aN,aT,aU,aV,aW,aS,bA,aE,aF,aA,aG,aY,aZ,aO,bE,a8,aX,aM,bB,aH,bC,aI,aB,aD,List.append_assoc,gk,gk0,sk,sk0]
 refine qV T (f:=fun out r=>(out++[((RS.small 255 r).1:Int)],(RS.small 255 r).2)) (s:=([]:List Int)) (fun k ow G'=>∃v2 g ver,G'=G++[.cells 0 0 [.ptr A.length 0 0],.cells 0 v2 [.ref (A.length+(G.length+1+1+1)) g 1 0 k,.nils,.nils],.cells g ver (ow.map (.int .u8))]/\ow.length=k) hv1 ?_ (fun s r h=>h.small 255) ⟨0,0,0,by simp only[PP,P1,P2,P14,P15,simprocAttr],rfl⟩ hr1 ?_
 ·rintro k nx r' v G' hkn ⟨v2,g,ver,rfl,hl⟩ hr' _ K' hK'
  refine aCv T hr' hl (by omega) fun v'=>?_
  exact hK' v' _ ⟨v2+1,g+1,0,rfl,by simp[hl]⟩
 ·rintro k v' G' hkn ⟨v2,g,ver,rfl,hl⟩ hr3
  simp only[PP,P1,P2,P14,P15,simprocAttr,aQ,aL,aP,aC,aR,bD,aK,aJ,aN,aT,aU,aV,aW,aS,bA,aE,aF,aA,aG,aY,aZ,aO,bE,a8,aX,aM,bB,aH,bC,aI,aB,aD,List.append_assoc,gk,gk0,sk,sk0]
  refine eB (GStep.nilbox (A.length+(G.length+1+1)) 1 1 (by rw[gk];simp only[PP,P1,P2,P14,P15,simprocAttr];rw[gk];rfl) rfl (by simp only[PP,P1,P2,P14,P15,simprocAttr,List.append_assoc,sk,sk0];rfl)) ?_
  refine bS (bR ?_)
  simp only[PP,P1,P2,P14,P15,simprocAttr,aQ,aL,aP,aC,aR,bD,aK,aJ,aN,aT,aU,aV,aW,aS,bA,aE,aF,aA,aG,aY,aZ,aO,bE,a8,aX,aM,bB,aH,bC,aI,aB,aD,List.append_assoc,gk,gk0,sk,sk0]
  refine qV T (f:=fun out r=>(out++[((RS.next r).1:Int)],(RS.next r).2)) (s:=([]:List Int)) (fun k2 pr G'=>∃v2 g2 ver2,G'=G++[.cells 0 0 [.ptr A.length 0 0],.cells 0 v2 [.ref (A.length+(G.length+1+1+1)) g 1 0 k,.ref (A.length+(G.length+1+1+1+1)) g2 1 0 k2,.nils],.cells g ver (r.game.1.1.map (.int .u8)),.cells g2 ver2 (pr.map p64)]/\pr.length=k2) hv1 ?_ (fun s r h=>h.next.1) ⟨v2,0,0,by simp only[PP,P1,P2,P14,P15,simprocAttr];rfl,rfl⟩ hr3 ?_
  ·rintro k2 fi r' v G' hkn ⟨v2,g2,ver2,rfl,hl2⟩ hr' _ K' hK'
   refine aCu T hr' hl2 (by omega) fun v'=>?_
   exact hK' v' _ ⟨v2+1,g2+1,0,rfl,by simp[hl2]⟩
  ·rintro k2 v' G' hkn2 ⟨v2,g2,ver2,rfl,hl2⟩ hr4
   simp only[PP,P1,P2,P14,P15,simprocAttr,aQ,aL,aP,aC,aR,bD,aK,aJ,aN,aT,aU,aV,aW,aS,bA,aE,aF,aA,aG,aY,aZ,aO,bE,a8,aX,aM,bB,aH,bC,aI,aB,aD,List.append_assoc,gk,gk0,sk,sk0]
   refine eB (GStep.nilbox (A.length+(G.length+1+1)) 2 1 (by rw[gk];simp only[PP,P1,P2,P14,P15,simprocAttr];rw[gk];rfl) rfl (by simp only[PP,P1,P2,P14,P15,simprocAttr,List.append_assoc,sk,sk0];rfl)) ?_
   refine bS (bR ?_)
   simp only[PP,P1,P2,P14,P15,simprocAttr,aQ,aL,aP,aC,aR,bD,aK,aJ,aN,aT,aU,aV,aW,aS,bA,aE,aF,aA,aG,aY,aZ,aO,bE,a8,aX,aM,bB,aH,bC,aI,aB,aD,List.append_assoc,gk,gk0,sk,sk0]
   refine qV T (f:=fun out r=>(out++[(RS.list (RS.next r).1 (RS.next r).2).1],(RS.list (RS.next r).1 (RS.next r).2).2)) (s:=([]:List (List Int))) (fun k3 su G'=>∃v2 g3 ver3,G'=G++[.cells 0 0 [.ptr A.length 0 0],.cells 0 v2 [.ref (A.length+(G.length+1+1+1)) g 1 0 k,.ref (A.length+(G.length+1+1+1+1)) g2 1 0 k2,.ref (A.length+(G.length+1+1+1+1+1)) g3 1 0 k3],.cells g ver (r.game.1.1.map (.int .u8)),.cells g2 ver2 (r.game.1.2.1.map p64),.cells g3 ver3 (su.map (slI false true .i64))]/\su.length=k3) hv1 ?_ (fun s r h=>h.next.1.list _) ⟨v2,0,0,by simp only[PP,P1,P2,P14,P15,simprocAttr];rfl,rfl⟩ hr4 ?_
   ·rintro k3 su r' v G' hkn ⟨v2,g3,ver3,rfl,hl3⟩ hr' _ K' hK'
    refine aCt T hr' hl3 (by omega) hA hG (fun m=>dI _ _ _) (fun m=>dI _ _ _) fun v'=>?_
    exact hK' v' _ ⟨v2+1,g3+1,0,rfl,by simp[hl3]⟩
   ·rintro k3 v' G' hkn3 ⟨v2,g3,ver3,rfl,hl3⟩ hr5
    have hN1:r.game.1.1.length=k:=hl
    have hN2:r.game.1.2.1.length=k2:=hl2
    have hN3:r.game.1.2.2.length=k3:=hl3
    simp only[PP,P1,P2,P14,P15,simprocAttr,aQ,aL,aP,aC,aR,bD,aK,aJ,aN,aT,aU,aV,aW,aS,bA,aE,aF,aA,aG,aY,aZ,aO,bE,a8,aX,aM,bB,aH,bC,aI,aB,aD,List.append_assoc,gk,gk0,sk,sk0]
    refine bR ?_
    simp only[PP,P1,P2,P14,P15,simprocAttr,aQ,aL,aP,aC,aR,bD,aK,aJ,aN,aT,aU,aV,aW,aS,bA,aE,aF,aA,aG,aY,aZ,aO,bE,a8,aX,aM,bB,aH,bC,aI,aB,aD]
    refine Gh.step (GStep.freezeIn (b:=[.func (.func 128) [] [.ptr (A.length+(G.length+1+1)) 0 0]]) (cj2:=[slI false true .u8 r.game.1.1,.ref (A.length+(G.length+1+1+1+1)) g2 1 0 k2,.ref (A.length+(G.length+1+1+1+1+1)) g3 1 0 k3]) (A.length+(G.length+1+1+1)) (A.length+(G.length+1+1)) (by omega) (by rw[gk];simp only[PP,P1,P2,P14,P15,simprocAttr];rw[gk];rfl) (by rw[gk];simp only[PP,P1,P2,P14,P15,simprocAttr];rw[gk];rfl) (by omega) (by simp only[kJ,kK,List.cons_append,List.nil_append,eM,fX]) ?_ rfl) ?_
    ·rw[l5 (by simp[hN1]) (by rw[dQ _ _ (by simp[hN1])];simp only[slI,hN1]),eM,eM,fX];trivial
    simp only[PP,P1,P2,P14,P15,simprocAttr,List.append_assoc,gk,gk0,sk,sk0]
    refine Gh.step (GStep.freezeIn (b:=[.func (.func 128) [] [.ptr (A.length+(G.length+1+1)) 0 0]]) (cj2:=[slI false true .u8 r.game.1.1,slI false true .i64 r.game.1.2.1,.ref (A.length+(G.length+1+1+1+1+1)) g3 1 0 k3]) (A.length+(G.length+1+1+1+1)) (A.length+(G.length+1+1)) (by omega) (by rw[gk];simp only[PP,P1,P2,P14,P15,simprocAttr];rw[gk];rfl) (by rw[gk];simp only[PP,P1,P2,P14,P15,simprocAttr];rw[gk];rfl) (by omega) (by simp only[kJ,kK,List.cons_append,List.nil_append,eM,fX]) ?_ rfl) ?_
    ·simp only[kJ,kK,List.cons_append,List.nil_append,eM]
     rw[l5 (by simp[hN2]) (by rw[dQ _ _ (by simp[hN2])];simp only[slI,hN2]),eM,fX];trivial
    simp only[PP,P1,P2,P14,P15,simprocAttr,List.append_assoc,gk,gk0,sk,sk0]
    refine Gh.step (GStep.freezeIn (b:=[.func (.func 128) [] [.ptr (A.length+(G.length+1+1)) 0 0]]) (cj2:=[slI false true .u8 r.game.1.1,slI false true .i64 r.game.1.2.1,slR false true false true .i64 r.game.1.2.2]) (A.length+(G.length+1+1+1+1+1)) (A.length+(G.length+1+1)) (by omega) (by rw[gk];simp only[PP,P1,P2,P14,P15,simprocAttr];rw[gk];rfl) (by rw[gk];simp only[PP,P1,P2,P14,P15,simprocAttr];rw[gk];rfl) (by omega) (by simp only[kJ,kK,List.cons_append,List.nil_append,eM,fX]) ?_ rfl) ?_
    ·simp only[kJ,kK,List.cons_append,List.nil_append,eM]
     rw[l5 (by simp[hl3]) (by rw[dQ _ _ (by simp[hl3])];simp only[slR,hN3];rfl),fX];trivial
    simp only[PP,P1,P2,P14,P15,simprocAttr,List.append_assoc,gk,gk0,sk,sk0]
    exact Gh.same ⟨_,rfl,hk v' v2⟩
end
def rdF (k:List UInt8):FuncId:=if k=kwD then 71 else if k=kwM then 72 else 73
abbrev bsV (l:List (List UInt8)):List PV:=l.map fun w=>PV.str ⟨w.toArray⟩
def yI (w:List UInt8):Bool:=(vS w).isSome
theorem numsT_iff:∀{ws:List (List UInt8)},(∃ns,vA ws=some ns)↔∀w∈ws,yI w=true
 | []=>⟨fun _ w h=>(by cases h),fun _=>⟨[],rfl⟩⟩
 | w::ws=>by
  have ih:=numsT_iff (ws:=ws)
  unfold vA
  constructor
  ·rintro⟨ns,h⟩ x hx
   split at h
   ·rename_i n ms h1 h2
    rcases List.mem_cons.1 hx with rfl | hx
    ·unfold yI;rw[h1];rfl
    ·exact ih.1 ⟨ms,h2⟩ x hx
   ·cases h
  ·intro h
   obtain⟨ms,hm⟩:=ih.2 fun x hx=>h x (by simp[hx])
   have h1:=h w (by simp)
   unfold yI at h1
   cases hw:vS w with
   | none=>rw[hw]at h1;cases h1
   | some n=>rw[hm];exact⟨_,rfl⟩
section
variable {tab:FuncId->Option AF} (T:HasA tab)
include T
theorem aCJ {M:Mem} {K:PV->Mem->Prop} {w:List UInt8} (hm:w.length<=100000000) (hk:K (.bool (!yI w)) M):SemC tab 75 [.str ⟨w.toArray⟩] M K:=by
 refine dH T.h75 ?_
 simp only[af75,PP,P1,P2,P14,P15,simprocAttr]
 refine XC T (by simpa [ByteArray.size] using hm) ?_
 simp only[PP,P1,P2,P14,P15,simprocAttr]
 have e:(vS (⟨w.toArray⟩:ByteArray).data.toList).isSome=yI w:=by simp[yI]
 rw[e]
 exact hk
set_option maxHeartbeats 1000000 in
theorem aCq {M:Mem} {K:PV->Mem->Prop} {f o:Bool} {ws:List (List UInt8)} (hm:∀w∈ws,w.length<=100000000) (hl:ws.length<1000000000) (hk:∀r:Int,(0<=r↔∃w∈ws,yI w=false)->K (p64 r) M):SemC tab 129 [.sl f o 1 ws.length (bsV ws),.func (.func 75) [] []] M K:=by
 refine dH T.h129 ?_
 simp only[af129,PP,P1,P2,P14,P15,simprocAttr,aQ,aL,aP,aC,aR,bD,aK,aJ,aN,aT,aU,aV,aW,aS,bA,aE,aF,aA,aG,aY,aZ,aO,bE,a8,aX,aM,bB,aH,bC,aI,aB,aD]
 refine jZ (fun(k:Nat)=>k<=ws.length/\∀w∈ws.take k,yI w=true) (fun k=>(.sl f o 1 ws.length (bsV ws):: .func (.func 75) [] []::zj 5++p64 ws.length::p64 k::zj 10)) (fun _=>M) (fun k=>ws.length-k) 0 ⟨by omega,by simp⟩ (by simp only[PW]) rfl ?_
 intro k ⟨hk',hp⟩ ih
 refine dL (by kernel_rfl) ?_
 simp only[PP,P1,P2,P14,P15,simprocAttr]
 refine QIf.intro (fun c=>?_) (fun c=>?_)
 rotate_left
 ·have hkl:k=ws.length:=by omega
  subst hkl
  rw[List.take_of_length_le (Nat.le_refl _)]at hp
  simp only[PP,P1,P2,P14,P15,simprocAttr,c]
  exact hk _ ⟨fun h=>absurd h (by omega),fun⟨w,h1,h2⟩=>by rw[hp w h1]at h2;cases h2⟩
 have hlt:k<ws.length:=by omega
 have hw:=dA (k:=k) (by show _<1000000000000;omega)
 have i0:(0:Int)<=k:=by omega
 obtain⟨w,gw⟩:=dN hlt
 have hwm:=List.mem_of_getElem? gw
 simp only[PP,P1,P2,P14,P15,simprocAttr,aQ,aL,aP,aC,aR,bD,aK,aJ,aN,aT,aU,aV,aW,aS,bA,aE,aF,aA,aG,aY,aZ,aO,bE,a8,aX,aM,bB,aH,bC,aI,aB,aD,c,i0,gw]
 refine aCJ T (hm w hwm) ?_
 cases hn:yI w with
 | false=>
  simp only[PP,P1,P2,P14,P15,simprocAttr,aQ,aL,aP,aC,aR,bD,aK,aJ,aN,aT,aU,aV,aW,aS,bA,aE,aF,aA,aG,aY,aZ,aO,bE,a8,aX,aM,bB,aH,bC,aI,aB,aD]
  exact hk _ ⟨fun _=>⟨w,hwm,hn⟩,fun _=>i0⟩
 | true=>
  simp only[PP,P1,P2,P14,P15,simprocAttr,aQ,aL,aP,aC,aR,bD,aK,aJ,aN,aT,aU,aV,aW,aS,bA,aE,aF,aA,aG,aY,aZ,aO,bE,a8,aX,aM,bB,aH,bC,aI,aB,aD,hw]
  refine dB (ih (k+1) ⟨by omega,fun x hx=>?_⟩ (by omega)) (by simp only[PW])
  rw[eK gw]at hx
  rcases List.mem_append.1 hx with hx | hx
  ·exact hp x hx
  ·rw[List.mem_singleton]at hx;subst hx;exact hn
theorem aAF {M:Mem} {K:PV->Mem->Prop} {f o:Bool} {ws:List (List UInt8)} (hm:∀w∈ws,w.length<=100000000) (hl:ws.length<1000000000) (hk:∀b:Bool,(b=true↔∃w∈ws,yI w=false)->K (.bool b) M):SemC tab 74 [.sl f o 1 ws.length (bsV ws),.func (.func 75) [] []] M K:=by
 refine dH T.h74 ?_
 simp only[af74,PP,P1,P2,P14,P15,simprocAttr,aQ,aL,aP,aC,aR,bD,aK,aJ,aN,aT,aU,aV,aW,aS,bA,aE,aF,aA,aG,aY,aZ,aO,bE,a8,aX,aM,bB,aH,bC,aI,aB,aD]
 refine aCq T hm hl fun r hr=>?_
 simp only[PP,P1,P2,P14,P15,simprocAttr,aQ,aL,aP,aC,aR,bD,aK,aJ,aN,aT,aU,aV,aW,aS,bA,aE,aF,aA,aG,aY,aZ,aO,bE,a8,aX,aM,bB,aH,bC,aI,aB,aD]
 exact hk _ (by rw[decide_eq_true_eq];exact hr)
theorem ZN {A G:Mem} {K:PV->Mem->Prop} {v:Nat} {r:RS} {k:List UInt8} (hr:OkR r) (hA:A.all (cL (A.length+(G.length+1)))=true) (hG:G.all (cL (A.length+(G.length+1)))=true)
  (hk:∀v' q vn Y,(A++(rdO v' (readK k r).2::(G++Y)))[q]? =some (.cells 0 vn (readK k r).1.oc)->(∀n,A.length<n->Y.all (cL n)=true)->K (.func (.func (readK k r).1.bg) [] [.ptr q 0 0]) (A++(rdO v' (readK k r).2::(G++Y)))):SemC tab (rdF k) [.ptr A.length 0 0] (A++(rdO v r::G)) K:=by
 unfold rdF
 unfold readK at hk
 split
 ·rename_i c
  rw[if_pos c]at hk
  refine aB1 T hr hA hG fun v' vn=>?_
  refine hk v' _ vn _ ?_ fun n hn=>by simp[cL,cE,PV.under,dI,fV,hn]
  rw[gk];simp only[PP,P1,P2,P14,P15,simprocAttr];rw[gk];rfl
 ·rename_i c
  rw[if_neg c]at hk
  split
  ·rename_i c2
   rw[if_pos c2]at hk
   refine aB8 T hr hA hG fun v' vn=>?_
   refine hk v' _ vn _ ?_ fun n hn=>by simp[cL,cE,PV.under,dO,eD,hn]
   rw[gk];simp only[PP,P1,P2,P14,P15,simprocAttr];rw[gk];rfl
  ·rename_i c2
   rw[if_neg c2]at hk
   refine ZL T hr hA hG fun v' vn=>?_
   refine hk v' _ vn _ ?_ fun n hn=>by simp[cL,cE,PV.under,dO,dI,hn]
   rw[gk];simp only[PP,P1,P2,P14,P15,simprocAttr];rw[gk];rfl
end
structure LoadK (tab:FuncId->Option AF) (t:List UInt8) (M:Mem) (K:PV->Mem->Prop):Prop where
 err:∀e,eW t= .err e->K (.tuple [.nilptr,p64 e]) M
 bad:∀i u,eW t= .ok i u->i.chk≠0->K (.tuple [.nilptr,p64 i.chk]) M
 few:∀i u,eW t= .ok i u->i.chk=0->∀m,m<u->(i.done m\/i.fails m)->(∀j,j<m->¬i.done j/\¬i.fails j)->K (.tuple [.nilptr,p64 1]) M
 ok:∀i u,eW t= .ok i u->i.chk=0->(∀j,j<u->¬i.done j/\¬i.fails j)->∀jid b L StF A0 M0,JobF tab jid b L i StF->A0.length=b->A0.all (cL b)=true->StF A0 u M0->(∃X,A0=M++X)->K (.tuple [.ptr jid 0 0,p64 0]) M0
theorem lE {M X:Mem} {K:PV->Mem->Prop} {e:Int} (hc:M.all (cL M.length)=true) (h:K (.tuple [.nilptr,p64 e]) M):Gh M.length (fun a N=>∃r',a=[r']/\K r' N) [.tuple [.nilptr,p64 e]] (M++X):=by
 refine Gh.step (GStep.dropM (b:=[.tuple [.nilptr,p64 e]]) (N:=M) M.length (Nat.le_refl _) (by simp) (by simp only[PW]) (by simp[cE,PV.under]) ?_ (List.take_left' rfl)) (Gh.same ⟨_,rfl,h⟩)
 exact(congrArg (fun N:Mem=>N.all (cL M.length)) (List.take_left' rfl)).trans hc
theorem xL (c:UInt8):∀l:List UInt8,(eA c l).length<=l.length+1/\∀w∈eA c l,w.length<=l.length
 | []=>⟨by simp[eA],fun w hw=>by simp[eA]at hw;subst hw;simp⟩
 | b::l=>by
  obtain⟨h1,h2⟩:=xL c l
  unfold eA
  split
  ·exact⟨by simp;omega,fun w hw=>by
    rcases List.mem_cons.1 hw with rfl | hw
    ·simp
    ·have:=h2 w hw;simp;omega⟩
  ·revert h1 h2
   match eA c l with
   | []=>exact fun h1 h2=>⟨by simp[sQ],fun w hw=>by simp[sQ]at hw;subst hw;simp⟩
   | x::r=>exact fun h1 h2=>⟨by simp[sQ]at h1 ⊢;omega,fun w hw=>by
     rcases List.mem_cons.1 hw with rfl | hw
     ·have:=h2 x (by simp);simp;exact this
     ·have:=h2 w (by simp[hw]);simp;omega⟩
section
variable {tab:FuncId->Option AF} (T:HasA tab)
include T
set_option maxHeartbeats 4000000 in
theorem VV {M:Mem} {K:PV->Mem->Prop} {s:ByteArray} (hs:s.size<=100000000) (hpk:∀i u,eW s.data.toList= .ok i u->i.Bw/\(i.chk=0->i.B99)/\i.Pos) (hM:M.all (cL M.length)=true) (h:LoadK tab s.data.toList M K):SemC tab 27 [.str s] M K:=by
 have hsl:s.data.toList.length=s.size:=rfl
 obtain⟨w,ts,hsp⟩:∃w ts,eA 32 s.data.toList=w::ts:=by
  have:=B0 32 s.data.toList
  revert this
  match eA 32 s.data.toList with
  | []=>exact fun h=>absurd rfl h
  | w::ts=>exact fun _=>⟨w,ts,rfl⟩
 obtain⟨hb1,hb2⟩:=xL 32 s.data.toList
 rw[hsp]at hb1 hb2
 have hpt:eW s.data.toList=if w=kwD\/w=kwM\/w=kwP then match vA ts with | none=> .err 2 | some ns=>qN w ns else .err 6:=by
  unfold eW;rw[hsp];rfl
 have h1:(1:Int)<=((ts.length+1:Nat):Int):=by omega
 have h0:(0:Int)<((ts.length+1:Nat):Int):=by omega
 have e1:(((ts.length+1:Nat):Int)-1).toNat=ts.length:=by omega
 have e2:dW (bsV ts) 0 ts.length=bsV ts:=dQ _ _ (by simp)
 have m2:∀x,fG 2 (.str ⟨#[109,105,110,105,109,105,122,101]⟩) [(.str ⟨#[100,101,116,101,114,109,105,110,105,122,101]⟩,x)]=some none:=fun x=>rfl
 have m3:∀x y,fG 2 (.str ⟨#[109,101,97,115,117,114,101,115]⟩) [(.str ⟨#[100,101,116,101,114,109,105,110,105,122,101]⟩,x),(.str ⟨#[109,105,110,105,109,105,122,101]⟩,y)]=some none:=fun x y=>rfl
 have p2:∀x y,iN 2 (.str ⟨#[109,105,110,105,109,105,122,101]⟩) (.str ⟨#[109,105,110,105,109,105,122,101]⟩) y [(.str ⟨#[100,101,116,101,114,109,105,110,105,122,101]⟩,x)]=[(.str ⟨#[100,101,116,101,114,109,105,110,105,122,101]⟩,x),(.str ⟨#[109,105,110,105,109,105,122,101]⟩,y)]:=fun x y=>rfl
 have p3:∀x y z,iN 2 (.str ⟨#[109,101,97,115,117,114,101,115]⟩) (.str ⟨#[109,101,97,115,117,114,101,115]⟩) z [(.str ⟨#[100,101,116,101,114,109,105,110,105,122,101]⟩,x),(.str ⟨#[109,105,110,105,109,105,122,101]⟩,y)]=[(.str ⟨#[100,101,116,101,114,109,105,110,105,122,101]⟩,x),(.str ⟨#[109,105,110,105,109,105,122,101]⟩,y),(.str ⟨#[109,101,97,115,117,114,101,115]⟩,z)]:=fun x y z=>rfl
 have m4:∀x y z,fG 2 (.str ⟨w.toArray⟩) [(.str ⟨#[100,101,116,101,114,109,105,110,105,122,101]⟩,x),(.str ⟨#[109,105,110,105,109,105,122,101]⟩,y),(.str ⟨#[109,101,97,115,117,114,101,115]⟩,z)]=some (if w=kwD then some x else if w=kwM then some y else if w=kwP then some z else none):=fun x y z=>by
  have:=aS ⟨w.toArray⟩ [(⟨kwD.toArray⟩,x),(⟨kwM.toArray⟩,y),(⟨kwP.toArray⟩,z)]
  refine this.trans ?_
  have eq:∀k:List UInt8,((⟨w.toArray⟩:ByteArray)=⟨k.toArray⟩)↔w=k:=fun k=>dec_mk
  simp only[rV,eq]
 refine eZ (fJ T.h27 ?_)
 simp only[af27]
 refine bS (bR ?_)
 simp only[PP,P1,P2,P14,P15,simprocAttr,aQ,aL,aP,aC,aR,bD,aK,aJ,aN,aT,aU,aV,aW,aS,bA,aE,aF,aA,aG,aY,aZ,aO,bE,a8,aX,aM,bB,aH,bC,aI,aB,aD]
 refine bS (bR ?_)
 simp only[PP,P1,P2,P14,P15,simprocAttr,aQ,aL,aP,aC,aR,bD,aK,aJ,aN,aT,aU,aV,aW,aS,bA,aE,aF,aA,aG,aY,aZ,aO,bE,a8,aX,aM,bB,aH,bC,aI,aB,aD]
 refine TU T (c:=32) (by omega) ?_
 rw[hsp]
 simp only[PP,P1,P2,P14,P15,simprocAttr,aQ,aL,aP,aC,aR,bD,aK,aJ,aN,aT,aU,aV,aW,aS,bA,aE,aF,aA,aG,aY,aZ,aO,bE,a8,aX,aM,bB,aH,bC,aI,aB,aD]
 refine bS (bR ?_)
 simp only[PP,P1,P2,P14,P15,simprocAttr,aQ,aL,aP,aC,aR,bD,aK,aJ,aN,aT,aU,aV,aW,aS,bA,aE,aF,aA,aG,aY,aZ,aO,bE,a8,aX,aM,bB,aH,bC,aI,aB,aD,h1,h0,e1,e2]
 refine⟨Int.le_refl _,?_⟩
 refine bS (bR ?_)
 simp only[PP,P1,P2,P14,P15,simprocAttr,aQ,aL,aP,aC,aR,bD,aK,aJ,aN,aT,aU,aV,aW,aS,bA,aE,aF,aA,aG,aY,aZ,aO,bE,a8,aX,aM,bB,aH,bC,aI,aB,aD,dE,cF,bQ,cZ,cO,cY,cW,dC,dD,cK,bJ,cN,bU,bT,bF,cB,bI,List.append_assoc,gk,gk0,sk,sk0,m2,m3,m4,p2,p3,h0]
 by_cases hkw:w=kwD\/w=kwM\/w=kwP
 rotate_left
 ·rw[if_neg (fun q=>hkw (.inl q)),if_neg (fun q=>hkw (.inr (.inl q))),if_neg (fun q=>hkw (.inr (.inr q)))]
  simp only[PP,P1,P2,P14,P15,simprocAttr,aQ,aL,aP,aC,aR,bD,aK,aJ,aN,aT,aU,aV,aW,aS,bA,aE,aF,aA,aG,aY,aZ,aO,bE,a8,aX,aM,bB,aH,bC,aI,aB,aD]
  refine bS (bR ?_)
  simp only[PP,P1,P2,P14,P15,simprocAttr,aQ,aL,aP,aC,aR,bD,aK,aJ,aN,aT,aU,aV,aW,aS,bA,aE,aF,aA,aG,aY,aZ,aO,bE,a8,aX,aM,bB,aH,bC,aI,aB,aD]
  exact lE hM (h.err 6 (by rw[hpt,if_neg hkw]))
 rw[if_pos hkw]at hpt
 have hrd:(if w=kwD then some (PV.func (Fn.func 71) [.ptr M.length 0 0] []) else if w=kwM then some (PV.func (Fn.func 72) [.ptr M.length 0 0] []) else if w=kwP then some (PV.func (Fn.func 73) [.ptr M.length 0 0] []) else none)=some (PV.func (Fn.func (rdF w)) [.ptr M.length 0 0] []):=by
  unfold rdF
  have d1:kwM≠kwD:=by decide
  have d2:kwP≠kwD:=by decide
  have d3:kwP≠kwM:=by decide
  rcases hkw with rfl | rfl | rfl
  ·rw[if_pos rfl,if_pos rfl]
  ·rw[if_neg d1,if_pos rfl,if_neg d1,if_pos rfl]
  ·rw[if_neg d2,if_neg d3,if_pos rfl,if_neg d2,if_neg d3]
 rw[hrd]
 simp only[PP,P1,P2,P14,P15,simprocAttr,aQ,aL,aP,aC,aR,bD,aK,aJ,aN,aT,aU,aV,aW,aS,bA,aE,aF,aA,aG,aY,aZ,aO,bE,a8,aX,aM,bB,aH,bC,aI,aB,aD]
 refine bS (bR ?_)
 simp only[PP,P1,P2,P14,P15,simprocAttr,aQ,aL,aP,aC,aR,bD,aK,aJ,aN,aT,aU,aV,aW,aS,bA,aE,aF,aA,aG,aY,aZ,aO,bE,a8,aX,aM,bB,aH,bC,aI,aB,aD,gk0,sk0]
 refine aAF T (fun x hx=>by have:=hb2 x (by simp[hx]);omega) (by simp at hb1;omega) fun b hb=>?_
 cases b with
 | true=>
  simp only[PP,P1,P2,P14,P15,simprocAttr,aQ,aL,aP,aC,aR,bD,aK,aJ,aN,aT,aU,aV,aW,aS,bA,aE,aF,aA,aG,aY,aZ,aO,bE,a8,aX,aM,bB,aH,bC,aI,aB,aD]
  obtain⟨x,hx1,hx2⟩:=hb.1 rfl
  refine lE hM (h.err 2 ?_)
  cases hn:vA ts with
  | none=>rw[hpt,hn]
  | some ns=>
   have:=numsT_iff.1 ⟨ns,hn⟩ x hx1
   rw[hx2]at this;cases this
 | false=>
  obtain⟨ns,hn⟩:=numsT_iff.2 fun x hx=>by
   cases hx2:yI x with
   | true=>rfl
   | false=>exact absurd (hb.2 ⟨x,hx,hx2⟩) (by simp)
  rw[hn]at hpt
  obtain⟨hts,hsm⟩:=numsT_some.1 hn
  have hmem:PObj.cells 0 0 [.sl true true 1 ts.length (bsV ts),p64 0,p64 0]=rdO 0 ⟨ns,0,0⟩:=by
   subst hts
   simp[bsV,v7]
  have hr:OkR ⟨ns,0,0⟩:=hsm
  simp only[PP,P1,P2,P14,P15,simprocAttr,aQ,aL,aP,aC,aR,bD,aK,aJ,aN,aT,aU,aV,aW,aS,bA,aE,aF,aA,aG,aY,aZ,aO,bE,a8,aX,aM,bB,aH,bC,aI,aB,aD]
  rw[hmem]
  refine dB (b:=(zj 5++ .ptr M.length 0 0:: .func (.func (rdF w)) [.ptr M.length 0 0] []::zj 98)) ?_ (by simp only[PW])
  have hOc:∀n,M.length<n->[PObj.map 3 [(.str ⟨#[100,101,116,101,114,109,105,110,105,122,101]⟩,.func (Fn.func 71) [.ptr M.length 0 0] []),(.str ⟨#[109,105,110,105,109,105,122,101]⟩,.func (Fn.func 72) [.ptr M.length 0 0] []),(.str ⟨#[109,101,97,115,117,114,101,115]⟩,.func (Fn.func 73) [.ptr M.length 0 0] [])]].all (cL n)=true:=fun n hn=>by
   simp[cL,xA,cE,PV.under,hn]
  generalize hOm:[PObj.map 3 [(.str ⟨#[100,101,116,101,114,109,105,110,105,122,101]⟩,.func (Fn.func 71) [.ptr M.length 0 0] []),(.str ⟨#[109,105,110,105,109,105,122,101]⟩,.func (Fn.func 72) [.ptr M.length 0 0] []),(.str ⟨#[109,101,97,115,117,114,101,115]⟩,.func (Fn.func 73) [.ptr M.length 0 0] [])]]=G at*
  refine bS (bR ?_)
  simp only[PP,P1,P2,P14,P15,simprocAttr]
  refine jG T (A:=M) (G:=G) hr fun v'=>?_
  simp only[PP,P1,P2,P14,P15,simprocAttr]
  refine bS (bR ?_)
  simp only[PP,P1,P2,P14,P15,simprocAttr]
  refine bS (bR ?_)
  simp only[PP,P1,P2,P14,P15,simprocAttr,aQ,aL,aP,aC,aR,bD,aK,aJ,aN,aT,aU,aV,aW,aS,bA,aE,aF,aA,aG,aY,aZ,aO,bE,a8,aX,aM,bB,aH,bC,aI,aB,aD,gk0,sk0]
  obtain⟨hr1,hu⟩:=hr.next
  have hpt:eW s.data.toList=qN w ns:=hpt
  unfold qN at hpt
  generalize RS.next ⟨ns,0,0⟩=p at*
  obtain⟨u0,R⟩:=p
  simp only at hpt hr1 hu ⊢
  have hGl:∀n,M.length<n->G.all (cL n)=true:=hOc
  refine QIf.intro (fun c=>?_) (fun c=>?_)
  rotate_left
  ·simp only[PP,P1,P2,P14,P15,simprocAttr,c]
   refine bS (bR ?_)
   simp only[PP,P1,P2,P14,P15,simprocAttr,aQ,aL,aP,aC,aR,bD,aK,aJ,aN,aT,aU,aV,aW,aS,bA,aE,aF,aA,aG,aY,aZ,aO,bE,a8,aX,aM,bB,aH,bC,aI,aB,aD,gk0,sk0,c]
   exact lE hM (h.err _ (by rw[hpt,if_pos c]))
  rw[if_neg (Classical.not_not.2 c)]at hpt
  simp only[PP,P1,P2,P14,P15,simprocAttr]
  refine ZN T hr1 (dV (by omega) hM) (hGl _ (by omega)) fun v' q vn Y hq hY=>?_
  generalize readK w R=p at*
  obtain⟨i,R2⟩:=p
  simp only at hpt hq ⊢
  simp only[PP,P1,P2,P14,P15,simprocAttr]
  refine bS (bR ?_)
  simp only[PP,P1,P2,P14,P15,simprocAttr,aQ,aL,aP,aC,aR,bD,aK,aJ,aN,aT,aU,aV,aW,aS,bA,aE,aF,aA,aG,aY,aZ,aO,bE,a8,aX,aM,bB,aH,bC,aI,aB,aD,gk0,sk0]
  refine QIf.intro (fun c2=>?_) (fun c2=>?_)
  rotate_left
  ·simp only[PP,P1,P2,P14,P15,simprocAttr,aQ,aL,aP,aC,aR,bD,aK,aJ,aN,aT,aU,aV,aW,aS,bA,aE,aF,aA,aG,aY,aZ,aO,bE,a8,aX,aM,bB,aH,bC,aI,aB,aD,gk0,sk0,c2]
   exact lE hM (h.err _ (by rw[hpt,if_pos c2]))
  rw[if_neg (Classical.not_not.2 c2)]at hpt
  simp only[PP,P1,P2,P14,P15,simprocAttr,aQ,aL,aP,aC,aR,bD,aK,aJ,aN,aT,aU,aV,aW,aS,bA,aE,aF,aA,aG,aY,aZ,aO,bE,a8,aX,aM,bB,aH,bC,aI,aB,aD,gk0,sk0,c2]
  refine QIf.intro (fun c3=>?_) (fun c3=>?_)
  ·simp only[PP,P1,P2,P14,P15,simprocAttr,aQ,aL,aP,aC,aR,bD,aK,aJ,aN,aT,aU,aV,aW,aS,bA,aE,aF,aA,aG,aY,aZ,aO,bE,a8,aX,aM,bB,aH,bC,aI,aB,aD,gk0,sk0,c3]
   exact lE hM (h.err _ (by rw[hpt,if_pos (fun q=>by rw[q]at c3;simp at c3)]))
  have hl0:R2.l=[]:=List.length_eq_zero_iff.1 (by omega)
  rw[if_neg (Classical.not_not.2 hl0)]at hpt
  simp only[PP,P1,P2,P14,P15,simprocAttr,aQ,aL,aP,aC,aR,bD,aK,aJ,aN,aT,aU,aV,aW,aS,bA,aE,aF,aA,aG,aY,aZ,aO,bE,a8,aX,aM,bB,aH,bC,aI,aB,aD,gk0,sk0,c3]
  refine QIf.intro (fun c4=>?_) (fun c4=>?_)
  rotate_left
  ·simp only[PP,P1,P2,P14,P15,simprocAttr,aQ,aL,aP,aC,aR,bD,aK,aJ,aN,aT,aU,aV,aW,aS,bA,aE,aF,aA,aG,aY,aZ,aO,bE,a8,aX,aM,bB,aH,bC,aI,aB,aD,gk0,sk0,c4]
   exact lE hM (h.err _ (by rw[hpt,if_pos c4]))
  rw[if_neg (Classical.not_not.2 c4)]at hpt
  simp only[PP,P1,P2,P14,P15,simprocAttr,aQ,aL,aP,aC,aR,bD,aK,aJ,aN,aT,aU,aV,aW,aS,bA,aE,aF,aA,aG,aY,aZ,aO,bE,a8,aX,aM,bB,aH,bC,aI,aB,aD,gk0,sk0,c4]
  obtain⟨hBw,h99,hPos⟩:=hpk i u0 hpt
  have hcut:(M++rdO v' R2::(G++Y)).all (cL (M++rdO v' R2::(G++Y)).length)=true:=by
   have hlen:M.length<(M++rdO v' R2::(G++Y)).length:=by simp
   rw[List.all_append,dV (by simp) hM,List.all_cons,zN,List.all_append,hGl _ hlen,hY _ hlen]
   rfl
  refine bS (bR ?_)
  simp only[PP,P1,P2,P14,P15,simprocAttr]
  refine aDU T hBw h99 hPos hq hcut ⟨fun hc=>?_,fun hc jid b L StF A0 M0 J hA0 hA1 hS hX=>?_⟩
  ·simp only[PP,P1,P2,P14,P15,simprocAttr]
   refine bS (bR ?_)
   simp only[PP,P1,P2,P14,P15,simprocAttr,hc]
   exact lE hM (h.bad i u0 hpt hc)
  ·simp only[PP,P1,P2,P14,P15,simprocAttr]
   refine bS (bR ?_)
   simp only[PP,P1,P2,P14,P15,simprocAttr]
   refine bS (bR ?_)
   simp only[PP,P1,P2,P14,P15,simprocAttr]
   have JX:=J.X A0 hA0 hA1
   obtain⟨X,hX⟩:=hX
   have hpre:∀m M',StF A0 m M'->∃Z,M'=M++Z:=fun m M' hS=>by
    obtain⟨Z,hZ⟩:=J.pre A0 m M' hS
    exact⟨rdO v' R2::(G++Y)++(X++Z),by rw[hZ,hX];simp⟩
   refine JX.step0 hS (by omega) (by omega) (fun m M' bb p1 p2 p3 p4 p5 p6=>?_) (fun m M' p1 p2 p3 p4 p5=>?_)
   ·obtain⟨vj,wj,widj,gj⟩:=JX.job m M' p6
    simp only[PP,P1,P2,P14,P15,simprocAttr,gj]
    refine QIf.intro (fun c5=>?_) (fun c5=>?_)
    ·simp only[PP,P1,P2,P14,P15,simprocAttr,c5]
     obtain⟨Z,rfl⟩:=hpre m M' p6
     have hbb:bb=true:=by
      cases bb with
      | true=>rfl
      | false=>have:=p4 rfl;omega
     exact lE hM (h.few i u0 hpt hc m (by omega) (.inl (p3.1 hbb)) fun j hj=>p5 j (Nat.zero_le _) hj)
    ·simp only[PP,P1,P2,P14,P15,simprocAttr,c5]
     refine bR ?_
     simp only[PP,P1,P2,P14,P15,simprocAttr]
     have hm:m=u0:=by omega
     subst hm
     refine Gh.same ⟨_,rfl,h.ok i m hpt hc (fun j hj=>p5 j (Nat.zero_le _) hj) jid b L StF A0 M' J hA0 hA1 p6 ⟨rdO v' R2::(G++Y)++X,by rw[hX];simp⟩⟩
   ·simp only[PP,P1,P2,P14,P15,simprocAttr]
    obtain⟨Z,rfl⟩:=hpre m M' p5
    exact lE hM (h.few i u0 hpt hc m (by omega) (.inr p4) fun j hj=>p3 j (Nat.zero_le _) hj)
end
structure At (tab:FuncId->Option AF) (i:In) (jid b L:Nat) (StF:Mem->Nat->Mem->Prop) (m:Nat) (Mm:Mem):Prop where
 J:JobF tab jid b L i StF
 at_:∃A X Z,Mm=(A++X)++Z/\A.length=b/\A.all (cL b)=true/\StF A m (A++X)
def FK (Mm:Mem):Prop:=Mm.all (cL Mm.length)=true
section
variable {tab:FuncId->Option AF} {i:In} {jid b L:Nat} {StF:Mem->Nat->Mem->Prop} {m:Nat} {Mm:Mem}
theorem At.len (h:At tab i jid b L StF m Mm):b<=L/\L<=Mm.length:=by
 obtain⟨A,X,Z,rfl,h1,h2,h3⟩:=h.at_
 have:=(h.J.X A h1 h2).len _ _ h3
 simp only[List.length_append]at this ⊢
 omega
theorem At.more (h:At tab i jid b L StF m Mm) (Y:Mem):At tab i jid b L StF m (Mm++Y):=by
 obtain⟨A,X,Z,rfl,h1,h2,h3⟩:=h.at_
 exact⟨h.J,A,X,Z++Y,by simp,h1,h2,h3⟩
theorem At.step (h:At tab i jid b L StF m Mm) (hc:FK Mm) {k:Int} {K:PV->Mem->Prop} (hk0:0<=k) (hk1:k<=9223372036854775807) (hnf:∀m,¬i.fails m)
  (hk:∀m' M' bb,m<=m'->(m':Int)<=m+k->(bb=true↔i.done m')->(bb=false->(m':Int)=m+k)->(∀j,m<=j->j<m'->¬i.done j)->At tab i jid b L StF m' M'->FK M'->M'.length=Mm.length->
   (∀{i2:In} {jid2 b2 L2:Nat} {StF2:Mem->Nat->Mem->Prop} {m2:Nat},At tab i2 jid2 b2 L2 StF2 m2 Mm->L<=b2\/L2<=b->At tab i2 jid2 b2 L2 StF2 m2 M')->K (.tuple [.bool bb,p64 0]) M'):
  SemC tab 18 [.ptr jid 0 0,p64 k] Mm K:=by
 obtain⟨A,X,Z,rfl,h1,h2,h3⟩:=h.at_
 have JX:=h.J.X A h1 h2
 have hL:=JX.len _ _ h3
 refine JX.step m (A++X) h3 Z k K hk0 hk1 (fun m' M' bb p1 p2 p3 p4 p5 p6=>?_) (fun m' M' _ _ _ p _=>absurd p (hnf m'))
 have hL':=JX.len _ _ p6
 have hC':=JX.cut _ _ p6
 obtain⟨X',rfl⟩:=h.J.pre A m' M' p6
 have hlen:((A++X')++Z).length=((A++X)++Z).length:=by
  simp only[List.length_append]at hL hL' ⊢
  omega
 have hcM:FK ((A++X')++Z):=by
  unfold FK at hc ⊢
  rw[hlen,List.all_append,dV (by simp only[List.length_append]at hL ⊢;omega) hC']
  rw[List.all_append,Bool.and_eq_true]at hc
  rw[hc.2];rfl
 refine hk m' _ bb p1 p2 p3 p4 (fun j a1 a2=>(p5 j a1 a2).1) ⟨h.J,A,X',Z,rfl,h1,h2,p6⟩ hcM hlen ?_
 intro i2 jid2 b2 L2 StF2 m2 g hord
 obtain⟨A2,X2,Z2,e,g1,g2,g3⟩:=g.at_
 have hL2:=(g.J.X A2 g1 g2).len _ _ g3
 refine⟨g.J,?_⟩
 rcases hord with hord | hord
 ·--the other job lies behind
  obtain⟨S,hS⟩:∃S,A2=(A++X)++S:=by
   have e':(A++X)++Z=A2++(X2++Z2):=by rw[e,List.append_assoc]
   rcases List.append_eq_append_iff.1 e' with⟨S,q,_⟩ | ⟨S,q,_⟩
   ·exact⟨S,q⟩
   ·have:=congrArg List.length q
    simp only[List.length_append]at this hL
    have hS0:S.length=0:=by omega
    exact⟨[],by rw[q,List.length_eq_zero_iff.1 hS0];simp⟩
  have hZ:Z=S++(X2++Z2):=by
   have e2:(A++X)++Z=(A++X)++(S++(X2++Z2)):=by rw[e,hS];simp
   exact List.append_cancel_left e2
  refine⟨(A++X')++S,X2,Z2,by rw[hZ];simp,?_,?_,?_⟩
  ·rw[<-g1,hS]
   simp only[List.length_append]at hL hL' ⊢
   omega
  ·rw[hS,List.all_append,Bool.and_eq_true]at g2
   rw[List.all_append,g2.2,dV (by rw[<-g1,hS];simp only[List.length_append]at hL ⊢;omega) hC'];rfl
  ·rw[List.append_assoc,<-List.append_assoc]
   refine g.J.bas A2 _ m2 X2 g1 ?_ g3
   rw[<-g1,hS]
   simp only[List.length_append]at hL hL' ⊢
   omega
 ·--the other job lies in front
  obtain⟨S,hS⟩:∃S,A=(A2++X2)++S:=by
   have e':(A2++X2)++Z2=A++(X++Z):=by rw[<-e,List.append_assoc]
   rcases List.append_eq_append_iff.1 e' with⟨S,q,_⟩ | ⟨S,q,_⟩
   ·exact⟨S,q⟩
   ·have:=congrArg List.length q
    simp only[List.length_append]at this hL2
    have hS0:S.length=0:=by omega
    exact⟨[],by rw[q,List.length_eq_zero_iff.1 hS0];simp⟩
  exact⟨A2,X2,S++X'++Z,by rw[hS];simp,g1,g2,g3⟩
theorem At.sav (h:At tab i jid b L StF m Mm) (hm:m<=2147483647) {K:PV->Mem->Prop} (hk:K (.str (i.txtS m)) Mm):SemC tab 23 [.ptr jid 0 0] Mm K:=by
 obtain⟨A,X,Z,rfl,h1,h2,h3⟩:=h.at_
 exact h.J.sav A h1 h2 m _ h3 hm Z K hk
theorem At.res (h:At tab i jid b L StF m Mm) {K:PV->Mem->Prop} (hk:∀r,i.rp m r->K r.pv Mm):SemC tab 20 [.ptr jid 0 0] Mm K:=by
 obtain⟨A,X,Z,rfl,h1,h2,h3⟩:=h.at_
 exact(h.J.X A h1 h2).res m _ h3 Z K hk
variable (T:HasA tab)
include T
theorem At.units (h:At tab i jid b L StF m Mm) {K:PV->Mem->Prop} (hk:K (p64 (m:Int)) Mm):SemC tab 22 [.ptr jid 0 0] Mm K:=by
 obtain⟨A,X,Z,rfl,h1,h2,h3⟩:=h.at_
 exact(h.J.X A h1 h2).units T h3 hk
end
end Go.Am.Ar

