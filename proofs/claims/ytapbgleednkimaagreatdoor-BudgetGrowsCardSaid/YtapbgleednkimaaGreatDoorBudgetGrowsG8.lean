/- An input of any kind: few, start, its job; how its results grow, and what goes with it. -/
import Derived.Test.YtapbgleednkimaaGreatDoorBudgetGrowsG7
import Derived.Test.YtapbgleednkimaaGreatDoorBudgetGrowsG0
import Derived.Test.YtapbgleednkimaaGreatDoorPmL
import Derived.Test.YtapbgleednkimaaGreatDoorBudgetGrowsG3
import Derived.Test.YtapbgleednkimaaGreatDoorPmC
import Derived.Test.YtapbgleednkimaaGreatDoorBudgetGrowsG2
set_option linter.unusedVariables false
set_option linter.unusedSimpArgs false
set_option maxRecDepth 10000
namespace Go.Am.Ar
open Go.Am.PV renaming junk->Zj
inductive In where
 | n (N:NF) | d (D:DF) | g (ow pr:List Int) (su:List (List Int))
def In.k:In->Int
 | .n _=>0 | .d _=>1 | .g .. =>2
def In.N:In->NF
 | .n N=>N | _=>⟨0,0,[],[],[]⟩
def In.D:In->DF
 | .d D=>D | _=>⟨0,0,[],[]⟩
def In.ow:In->List Int
 | .g ow _ _=>ow | _=>[]
def In.pr:In->List Int
 | .g _ pr _=>pr | _=>[]
def In.su:In->List (List Int)
 | .g _ _ su=>su | _=>[]
abbrev In.cs (f o:Bool) (i:In):List PV:=csC f o i.k i.N i.D i.ow i.pr i.su
theorem TZ {k a1 a2 d1 d2:PV} {st st' fi fi' es es' nx nx' df df' ow ow' pr pr' su su':PV} (h1:PvWk st st') (h2:PvWk fi fi') (h3:PvWk es es') (h4:PvWk nx nx') (h5:PvWk df df') (h6:PvWk ow ow') (h7:PvWk pr pr') (h8:PvWk su su'):
  PvWk (.agg [k,a1,a2,st,fi,es,d1,d2,nx,df,ow,pr,su]) (.agg [k,a1,a2,st',fi',es',d1,d2,nx',df',ow',pr',su']):=by
 refine PvWk.agg rfl fun i y z p q=>?_
 match i,p,q with
 | 0,p,q=>cases p;cases q;exact PvWk.refl _
 | 1,p,q=>cases p;cases q;exact PvWk.refl _
 | 2,p,q=>cases p;cases q;exact PvWk.refl _
 | 3,p,q=>cases p;cases q;exact h1
 | 4,p,q=>cases p;cases q;exact h2
 | 5,p,q=>cases p;cases q;exact h3
 | 6,p,q=>cases p;cases q;exact PvWk.refl _
 | 7,p,q=>cases p;cases q;exact PvWk.refl _
 | 8,p,q=>cases p;cases q;exact h4
 | 9,p,q=>cases p;cases q;exact h5
 | 10,p,q=>cases p;cases q;exact h6
 | 11,p,q=>cases p;cases q;exact h7
 | 12,p,q=>cases p;cases q;exact h8
 | i+13,p,q=>simp at p
def SH (k:Int) (N:NF) (D:DF) (ow pr:List Int) (su:List (List Int)):In:=
 if EU k=0 then .n (aE3 N) else if EU k=1 then .d (EV D) else .g (ow.take 4) (pr.take 4) (H8 su)
def In.Bn:In->Prop
 | .n N=>BnN N
 | .d D=>BnD D/\D.nx.length<=99
 | .g ow pr su=>Bnd ow pr su/\ow.length<=99
def In.few:In->Prop
 | .n N=>N.n<=12
 | _=>True
def In.chk:In->Int
 | .n N=>gJ N
 | .d D=>eP D
 | .g ow pr su=>dU ow pr su
def In.done:In->Nat->Prop
 | .n N=>fun m=>(stK N m).length<=m
 | .d D=>fun m=>dA D (m+1)=dA D m
 | .g ow pr su=>fun m=>uB ow.length (gL ow pr su) (itN ow.length (gL ow pr su) m)
def In.fails:In->Nat->Prop
 | .n N=>fun m=>m<(stK N m).length/\4096<(stK N (m+1)).length
 | _=>fun _=>False
def In.rp:In->Nat->Res->Prop
 | .n N=>RpD N
 | .d D=>RpM D
 | .g ow pr su=>RpP ow pr su
theorem In.no_fail {i:In} (h0:i.chk=0) (h:i.few) (m:Nat):¬i.fails m:=by
 cases i with
 | n N=>
  rintro⟨_,h2⟩
  have h1:=aCX (tG h0) (m+1)
  have h3:N.n.toNat<=12:=by have:N.n<=12:=h;omega
  have h4:=Nat.pow_le_pow_right (n:=2) (by omega) h3
  omega
 | d D=>exact fun q=>q
 | g ow pr su=>exact fun q=>q
theorem NY (N:NF) (m:Nat):∀d,∃t,rwK N (m+d)=rwK N m++t
 | 0=>⟨[],by simp⟩
 | d+1=>by
  obtain⟨t,h⟩:=NY N m d
  show ∃t,rwK N (m+d+1)=_
  cases g:(stK N (m+d))[m+d]? with
  | some a=>
   refine⟨t++[zW (b9 N) (bJ N) (eH (b9 N) a (bJ N) (stK N (m+d))) a],?_⟩
   rw[show rwK N (m+d+1)=_ from xC g,<-List.append_assoc,<-h]
  | none=>
   refine⟨t,?_⟩
   have hl:=List.getElem?_eq_none_iff.1 g
   have e1:=xD hl
   have e2:=mX hl
   have e3:(stK N (m+d+1)).length<=m+d+1:=by
    rw[show stK N (m+d+1)=stK N (m+d) from e2];omega
   have e4:=xD e3
   rw[show rwK N (m+d+1)=_ from e4,show fF (b9 N) (bJ N) (eI N) (m+d+1)=_ from e2,<-e1]
   exact h
structure Grow (r q:Res):Prop where
 s:∀(i:Nat) x,r.sets[i]? =some x->q.sets[i]? =some x
 w:∀(i:Nat) x,r.rows[i]? =some x->q.rows[i]? =some x
 cl:q.cls.length=r.cls.length
 c:∀(i k:Nat) a b,r.cls[i]? =some a->r.cls[k]? =some b->q.cls[i]? =q.cls[k]? ->a=b
 ml:r.ms.length<=q.ms.length
 m:∀(i:Nat) x y,r.ms[i]? =some x->q.ms[i]? =some y->vP x y<=0
structure Res.Sm (r:Res):Prop where
 s:r.sets.length<big
 w:r.rows.length<big
 sr:∀x∈r.sets,x.length<big
 wr:∀x∈r.rows,x.length<big
 f:r.fins.length<big
 c:r.cls.length<big
 m:r.ms.length<big
theorem In.rp_sm {i:In} (h0:i.chk=0) (hB:i.Bn) {m:Nat} {r:Res} (h:i.rp m r):r.Sm:=by
 cases i with
 | n N=>
  obtain⟨rfl,h1,h2⟩:=h
  have C:=tG h0
  have hrl:(rwK N m).length=m:=o7 h1
  have hfl:=ER h1
  have hsl:(hO (stK N m)).length=(stK N m).length:=by unfold hO;rw[List.length_map]
  have hlet:bJ N<=64:=C.let64
  refine⟨?_,?_,?_,?_,?_,by show 0<1000000000000;omega,by show 0<1000000000000;omega⟩
  ·show(hO (stK N m)).length<1000000000000;omega
  ·show(rwK N m).length<1000000000000;omega
  ·intro r hr
   obtain⟨a,_,rfl⟩:=List.mem_map.1 hr
   have:=y8 a
   simp only[D5,List.length_map]
   show _<1000000000000
   omega
  ·intro r hr
   obtain⟨a,_,rfl⟩:=List.mem_map.1 hr
   rw[GE]
   show _<1000000000000
   omega
  ·show(fnK N m).length<1000000000000;omega
 | d D=>
  obtain rfl:=h
  have:(dA D m).length<big:=by rw[gN];exact hB.1.n
  exact⟨by show 0<1000000000000;omega,by show 0<1000000000000;omega,fun x hx=>absurd hx (by simp),fun x hx=>absurd hx (by simp),by show 0<1000000000000;omega,this,by show 0<1000000000000;omega⟩
 | g ow pr su=>
  obtain⟨ms,rfl,hS,hN⟩:=h
  have:ms.length<big:=by rw[hS.l];exact hB.1.o
  exact⟨by show 0<1000000000000;omega,by show 0<1000000000000;omega,fun x hx=>absurd hx (by simp),fun x hx=>absurd hx (by simp),by show 0<1000000000000;omega,by show 0<1000000000000;omega,this⟩
theorem OY {l:List Int} {i:Nat} {a:Int} (h:l[i]? =some a):l.getD i 0=a:=by simp[List.getD,h]
theorem In.grow {i:In} (h0:i.chk=0) {m d:Nat} {r q:Res} (hr:i.rp m r) (hq:i.rp (m+d) q):Grow r q:=by
 cases i with
 | n N=>
  obtain⟨rfl,h1,h2⟩:=hr
  obtain⟨rfl,h3,h4⟩:=hq
  obtain⟨t,ht⟩:=CS (b9 N) (bJ N) (eI N) m d
  have hs:hO (stK N (m+d))=hO (stK N m)++hO t:=by
   show hO (fF _ _ _ _)=_
   rw[ht];unfold hO;rw[List.map_append]
  have hw:∃t2,rwK N (m+d)=rwK N m++t2:=NY N m d
  obtain⟨t2,ht2⟩:=hw
  refine⟨fun i x h=>?_,fun i x h=>?_,rfl,fun i k a b ha=>by simp at ha,Nat.le_refl _,fun i x y hx=>by simp at hx⟩
  ·show(hO (stK N (m+d)))[i]? =_
   rw[hs];exact fU h _
  ·show(rwK N (m+d))[i]? =_
   rw[ht2];exact fU h _
 | d D=>
  have hr:r=⟨0,[],[],[],dA D m,[]⟩:=hr
  have hq:q=⟨0,[],[],[],dA D (m+d),[]⟩:=hq
  subst hr
  subst hq
  refine⟨fun i x h=>by simp at h,fun i x h=>by simp at h,by show(dA D (m+d)).length=(dA D m).length;rw[gN,gN],fun i k a b ha hb hh=>?_,Nat.le_refl _,fun i x y hx=>by simp at hx⟩
  have l1:i<D.nx.length:=by have:=aZ ha;rw[gN]at this;exact this
  have l2:k<D.nx.length:=by have:=aZ hb;rw[gN]at this;exact this
  have:=xE D m i k l1 l2 d (by unfold List.getD;rw[show(dA D (m+d))[i]? =(dA D (m+d))[k]? from hh])
  rw[OY ha,OY hb]at this
  exact this
 | g ow pr su=>
  obtain⟨ms,rfl,hS,hN⟩:=hr
  obtain⟨ms2,rfl,hS2,hN2⟩:=hq
  refine⟨fun i x h=>by simp at h,fun i x h=>by simp at h,rfl,fun i k a b ha=>by simp at ha,by show ms.length<=ms2.length;rw[hS.l,hS2.l];exact Nat.le_refl _,fun i x y hx hy=>?_⟩
  refine(EY (hS.ok x (List.mem_of_getElem? hx)) (hS2.ok y (List.mem_of_getElem? hy))).2 ?_
  rw[<-sN hx,<-sN hy,hN,hN2]
  exact XN m i d
theorem aBs (k:Int) (N:NF) (D:DF) (ow pr:List Int) (su:List (List Int)) (hN:∀x∈N.es,(0<=x.ps/\x.ps<=255)/\(0<=x.ng/\x.ng<=255)):(SH k N D ow pr su).Bn/\(SH k N D ow pr su).few:=by
 have tk:∀{α:Type} (l:List α) (c:Nat),c<=65->(l.take c).length<big:=fun l c h=>by rw[List.length_take];show _<1000000000000;omega
 unfold SH
 split
 ·refine⟨⟨tk _ _ (by omega),tk _ _ (by omega),tk _ _ (by omega),fun x hx=>hN x (List.mem_of_mem_take hx)⟩,?_⟩
  show min N.n 5<=12
  omega
 ·split
  ·refine⟨⟨⟨?_,fun r hr=>?_,tk _ _ (by omega)⟩,?_⟩,trivial⟩
   ·unfold EV
    rw[List.length_map];exact tk _ _ (by omega)
   ·obtain⟨x,_,rfl⟩:=List.mem_map.1 hr
    exact tk _ _ (by omega)
   ·unfold EV
    rw[List.length_map,List.length_take];omega
  ·refine⟨⟨⟨tk _ _ (by omega),tk _ _ (by omega),?_,fun r hr=>?_⟩,?_⟩,trivial⟩
   ·unfold H8
    rw[List.length_map];exact tk _ _ (by omega)
   ·obtain⟨x,_,rfl⟩:=List.mem_map.1 hr
    exact tk _ _ (by omega)
   ·rw[List.length_take];omega
section
variable {tab:FuncId->Option AF} (T:HasA tab)
include T
theorem aE2 {M:Mem} {K:PV->Mem->Prop} {k:Int} {N:NF} {D:DF} {ow pr:List Int} {su:List (List Int)}
  (hk:K (.agg ((SH k N D ow pr su).cs false true)) M):SemC tab 10 [.agg (csC false false k N D ow pr su)] M K:=by
 unfold SH at hk
 rcases LR k with h | h | h
 ·rw[if_pos h]at hk
  exact j4 (aDJ T h ⟨_,TZ (PvWk.refl _) (PvWk.refl _) (PvWk.refl _) (PvWk.nils _ _ _) (PvWk.nils _ _ _) (PvWk.nils _ _ _) (PvWk.nils _ _ _) (PvWk.nils _ _ _),hk⟩)
 ·rw[if_neg (by omega),if_pos h]at hk
  exact j4 (aDI T h ⟨_,TZ (PvWk.nils _ _ _) (PvWk.nils _ _ _) (PvWk.nils _ _ _) (PvWk.refl _) (PvWk.refl _) (PvWk.nils _ _ _) (PvWk.nils _ _ _) (PvWk.nils _ _ _),hk⟩)
 ·rw[if_neg (by omega),if_neg (by omega)]at hk
  exact j4 (aDH T h ⟨_,TZ (PvWk.nils _ _ _) (PvWk.nils _ _ _) (PvWk.nils _ _ _) (PvWk.nils _ _ _) (PvWk.nils _ _ _) (PvWk.refl _) (PvWk.refl _) (PvWk.refl _),hk⟩)
theorem aAo {A:Mem} {K:PV->Mem->Prop} {f o:Bool} {i:In} (hB:i.Bn) (hA:A.all (bH A.length)=true)
  (hk1:i.chk≠0->K (.tuple [.nilptr,p64 i.chk]) A)
  (hk2:i.chk=0->∀jid St L M0,JobX tab jid 10 i.done i.fails St L i.rp->St 0 M0->(∃X,M0=A++X)->K (.tuple [.ptr jid 0 0,p64 0]) M0):
  SemC tab 11 [.agg (i.cs f o)] A K:=by
 cases i with
 | n N=>
  refine UP T hB hA hk1 fun hc X1 X2 q v h1 h2=>?_
  have hA2:(A++[X1,X2]).all (bH (A++[X1,X2]).length)=true:=by
   rw[List.all_append,eD (by simp) hA]
   simp[h1,h2]
  have J:=XF T hc hB hA2
  simp only[List.length_append,List.length_cons,List.length_nil]at J
  refine hk2 hc _ _ _ _ J ⟨⟨by omega,?_⟩,false,true,false,true,false,true,true,false,q,v,rfl⟩ ⟨[X1,X2]++_,by unfold kH;rw[List.append_assoc]⟩
  ·show [eI N].length<=4096
   simp
 | d D=>
  refine UO T hB.1 (fun _=>hB.2) hA hk1 fun hc X0 X1 X2 v h0 h1 h2=>?_
  have hA2:(A++[X0,X1,X2]).all (bH (A++[X0,X1,X2]).length)=true:=by
   rw[List.all_append,eD (by simp) hA]
   simp[h0,h1,h2]
  have J:=XE T hc hB.1 hB.2 hA2
  simp only[List.length_append,List.length_cons,List.length_nil]at J
  refine hk2 hc _ _ _ _ J ⟨fun j hj=>by omega,false,true,false,true,false,true,false,true,v,0,rfl⟩ ⟨[X0,X1,X2]++_,by unfold nN;rw[List.append_assoc]⟩
 | g ow pr su=>
  refine UN T hB.1 hA hk1 fun hc X0 X1 X2 v1 v2 ms b h0 h1 h2 hAf=>?_
  have hA2:(A++[X0,X1,X2]).all (bH (A++[X0,X1,X2]).length)=true:=by
   rw[List.all_append,eD (by simp) hA]
   simp[h0,h1,h2]
  have J:=R9 T hA2 hc hB.1 hB.2
  simp only[List.length_append,List.length_cons,List.length_nil]at J
  have hc:dU ow pr su=0:=hc
  rcases hAf with⟨a,_⟩ | ⟨_,a,_⟩ | ⟨_,_,a3,a4,a5,_⟩
  ·exact absurd hc a
  ·omega
  ·refine hk2 hc _ _ _ _ J ⟨Nat.zero_le _,false,true,false,true,false,true,false,true,ms,v1,v2,0,b,a3,a4,?_,rfl⟩ ⟨[X0,X1,X2]++_,by unfold jJ;rw[List.append_assoc]⟩
   rw[a5,a4];exact Iff.rfl
end
open Go.Am renaming lF->P1,tB->P2,PKNo->P3,ppack->P4,PObj.under->P5,pput->P6,ptset->P7,ptget->P8,pev->P9,ofAV->P10,ofAV1->P11,ppad->P12,pfill->P13,eZ->P14,AO.effect->P15
open List renaming replicate->L1
open Nat renaming reduceAdd->N1,reduceSub->N2,reduceMul->N3,reduceLT->N4,reduceLeDiff->N5,reduceEqDiff->N6,reduceBEq->N7
open Int renaming reduceToNat->I1,reduceLT->I2,reduceLE->I3,reduceEq->I4,reduceAdd->I5,reduceSub->I6,reduceNeg->I7
abbrev p8 (n:Int):PV:= .int .u8 n
section
variable {tab:FuncId->Option AF} (T:HasA tab)
include T
set_option maxHeartbeats 4000000 in
theorem aBq {k:Int} {N:NF} {D:DF} {ow pr:List Int} {su:List (List Int)} {a b:Int} (hN:∀x∈N.es,(0<=x.ps/\x.ps<=255)/\(0<=x.ng/\x.ng<=255)) (ha:0<=a/\a<=255) (hb:0<=b/\b<=255):
  SemC tab 7 [.agg (csC false false k N D ow pr su),.agg [p8 a,p8 b]] [] fun r _=>r= .bool true:=by
 obtain⟨hB,hF⟩:=aBs k N D ow pr su hN
 refine jN T.h7 ?_
 simp only[af7]
 refine bL (bD ?_)
 simp only[PP,P1,P2,P14,P15,N1,N2,N3,N4,N5,N6,N7,I1,I2,I3,I4,I5,I6,I7,reduceIte,reduceCtorEq,dN]
 refine bL (bD ?_)
 simp only[PP,P1,P2,P14,P15,N1,N2,N3,N4,N5,N6,N7,I1,I2,I3,I4,I5,I6,I7,reduceIte,reduceCtorEq,dN]
 refine aE2 T ?_
 generalize hi:SH k N D ow pr su=i at*
 simp only[PP,P1,P2,P14,P15,N1,N2,N3,N4,N5,N6,N7,I1,I2,I3,I4,I5,I6,I7,reduceIte,reduceCtorEq,dN]
 refine bL (bD ?_)
 simp only[PP,P1,P2,P14,P15,N1,N2,N3,N4,N5,N6,N7,I1,I2,I3,I4,I5,I6,I7,reduceIte,reduceCtorEq,dN]
 refine aAo T hB ?_ (fun hc=>?_) (fun hc jid St L M0 J hS hX=>?_)
 ·simp[bH,aU,PV.under,fW,bW,cI,dT]
 ·simp only[PP,P1,P2,P14,P15,N1,N2,N3,N4,N5,N6,N7,I1,I2,I3,I4,I5,I6,I7,reduceIte,reduceCtorEq]
  refine bL (bD ?_)
  simp only[PP,P1,P2,P14,P15,N1,N2,N3,N4,N5,N6,N7,I1,I2,I3,I4,I5,I6,I7,reduceIte,reduceCtorEq,hc]
  refine C0 T.awake ?_
  simp only[PP,P1,P2,P14,P15,N1,N2,N3,N4,N5,N6,N7,I1,I2,I3,I4,I5,I6,I7,reduceIte,reduceCtorEq]
 ·simp only[PP,P1,P2,P14,P15,N1,N2,N3,N4,N5,N6,N7,I1,I2,I3,I4,I5,I6,I7,reduceIte,reduceCtorEq]
  have g1:M0[1]? =some (.cells 0 0 [p8 a,p8 b]):=by
   obtain⟨X,rfl⟩:=hX
   rfl
  clear hX
  have nf:=In.no_fail hc hF
  have ra:∃a':Nat,a.tmod 8=(a':Int)/\a'<=7:=by
   have h1:=Int.tmod_lt_of_pos a (b:=8) (by omega)
   have h2:=Int.tmod_nonneg (a:=a) 8 ha.1
   exact⟨(a.tmod 8).toNat,by omega,by omega⟩
  have rb:∃b':Nat,b.tmod 8=(b':Int)/\b'<=7:=by
   have h1:=Int.tmod_lt_of_pos b (b:=8) (by omega)
   have h2:=Int.tmod_nonneg (a:=b) 8 hb.1
   exact⟨(b.tmod 8).toNat,by omega,by omega⟩
  obtain⟨a',ra,ra7⟩:=ra
  obtain⟨b',rb,rb7⟩:=rb
  have e1:dW .rem (p8 a) (p8 8)=some (p8 a'):=by
   simp[dW,dQ,gA,dE,d9,ofAV1,ra]
  have e2:dW .rem (p8 b) (p8 8)=some (p8 b'):=by
   simp[dW,dQ,gA,dE,d9,ofAV1,rb]
  refine bL (bD ?_)
  simp only[PP,P1,P2,P14,P15,N1,N2,N3,N4,N5,N6,N7,I1,I2,I3,I4,I5,I6,I7,reduceIte,reduceCtorEq]
  refine bL (bD ?_)
  have w1:IntKind.i64.wrap (a':Int)=a':=by rw[wrap64]<;>omega
  have w2:IntKind.i64.wrap (b':Int)=b':=by rw[wrap64]<;>omega
  simp only[PP,P1,P2,P14,P15,N1,N2,N3,N4,N5,N6,N7,I1,I2,I3,I4,I5,I6,I7,reduceIte,reduceCtorEq,g1,e1,e2,w1,w2]
  refine bL (bD ?_)
  simp only[PP,P1,P2,P14,P15,N1,N2,N3,N4,N5,N6,N7,I1,I2,I3,I4,I5,I6,I7,reduceIte,reduceCtorEq]
  refine J.step0 hS (by omega) (by omega) (fun m1 M1 b1 p1 p2 p3 p4 _ p6=>?_) (fun m M' _ _ _ p _=>absurd p (nf m))
  simp only[PP,P1,P2,P14,P15,N1,N2,N3,N4,N5,N6,N7,I1,I2,I3,I4,I5,I6,I7,reduceIte,reduceCtorEq]
  refine bL (bD ?_)
  simp only[PP,P1,P2,P14,P15,N1,N2,N3,N4,N5,N6,N7,I1,I2,I3,I4,I5,I6,I7,reduceIte,reduceCtorEq]
  refine J.res0 p6 fun r hr=>?_
  simp only[PP,P1,P2,P14,P15,N1,N2,N3,N4,N5,N6,N7,I1,I2,I3,I4,I5,I6,I7,reduceIte,reduceCtorEq]
  refine J.units0 T p6 ?_
  have hL1:=J.len _ _ p6
  simp only[PP,P1,P2,P14,P15,N1,N2,N3,N4,N5,N6,N7,I1,I2,I3,I4,I5,I6,I7,reduceIte,reduceCtorEq,Res.pv,gk0,sk0]
  refine bL (bD ?_)
  simp only[PP,P1,P2,P14,P15,N1,N2,N3,N4,N5,N6,N7,I1,I2,I3,I4,I5,I6,I7,reduceIte,reduceCtorEq]
  refine J.step _ _ p6 _ _ _ (by omega) (by omega) (fun m2 M2 b2 q1 q2 q3 q4 q5 q6=>?_) (fun m M' _ _ _ p _=>absurd p (nf m))
  simp only[PP,P1,P2,P14,P15,N1,N2,N3,N4,N5,N6,N7,I1,I2,I3,I4,I5,I6,I7,reduceIte,reduceCtorEq]
  have hL2:=J.len _ _ q6
  refine bL (bD ?_)
  simp only[PP,P1,P2,P14,P15,N1,N2,N3,N4,N5,N6,N7,I1,I2,I3,I4,I5,I6,I7,reduceIte,reduceCtorEq]
  refine J.res _ _ q6 _ _ fun q hq=>?_
  simp only[PP,P1,P2,P14,P15,N1,N2,N3,N4,N5,N6,N7,I1,I2,I3,I4,I5,I6,I7,reduceIte,reduceCtorEq]
  refine J.units T q6 ?_
  simp only[PP,P1,P2,P14,P15,N1,N2,N3,N4,N5,N6,N7,I1,I2,I3,I4,I5,I6,I7,reduceIte,reduceCtorEq,Res.pv]
  simp only[PP,P1,P2,P14,P15,N1,N2,N3,N4,N5,N6,N7,I1,I2,I3,I4,I5,I6,I7,reduceIte,reduceCtorEq,gk,gk0,sk,sk0,List.append_assoc]
  simp only[hL1,hL2]
  have G:=In.grow (d:=m2-m1) hc hr (by rw[show m1+(m2-m1)=m2 by omega];exact hq)
  have Sr:=In.rp_sm hc hB hr
  have Sq:=In.rp_sm hc hB hq
  have ob1:(M2++[PObj.cells 0 1 [p64 r.vs,p64 0,slR false true false true .i64 r.rows,slB false true r.fins,slR false true false true .i64 r.sets,slI false true .i64 r.cls,slM false true r.ms],PObj.cells 0 1 [p64 q.vs,p64 0,slR false true false true .i64 q.rows,slB false true q.fins,slR false true false true .i64 q.sets,slI false true .i64 q.cls,slM false true q.ms]])[L]? =some (PObj.cells 0 1 [p64 r.vs,p64 0,slR false true false true .i64 r.rows,slB false true r.fins,slR false true false true .i64 r.sets,slI false true .i64 r.cls,slM false true r.ms]):=by
   rw[<-hL2,gk0];rfl
  have ob2:(M2++[PObj.cells 0 1 [p64 r.vs,p64 0,slR false true false true .i64 r.rows,slB false true r.fins,slR false true false true .i64 r.sets,slI false true .i64 r.cls,slM false true r.ms],PObj.cells 0 1 [p64 q.vs,p64 0,slR false true false true .i64 q.rows,slB false true q.fins,slR false true false true .i64 q.sets,slI false true .i64 q.cls,slM false true q.ms]])[L+1]? =some (PObj.cells 0 1 [p64 q.vs,p64 0,slR false true false true .i64 q.rows,slB false true q.fins,slR false true false true .i64 q.sets,slI false true .i64 q.cls,slM false true q.ms]):=by
   rw[<-hL2,gk];rfl
  generalize (M2++[PObj.cells 0 1 [p64 r.vs,p64 0,slR false true false true .i64 r.rows,slB false true r.fins,slR false true false true .i64 r.sets,slI false true .i64 r.cls,slM false true r.ms],PObj.cells 0 1 [p64 q.vs,p64 0,slR false true false true .i64 q.rows,slB false true q.fins,slR false true false true .i64 q.sets,slI false true .i64 q.cls,slM false true q.ms]])=Mf at*
  have c1:¬(m1:Int)>a':=by omega
  have c2:¬(m2:Int)>IntKind.i64.wrap ((m1:Int)+b'):=by rw[wrap64]<;>omega
  have c3:b1=false->(m1:Int)=a':=fun h=>by have:=p4 h;omega
  have c4:b2=false->(m2:Int)=IntKind.i64.wrap ((m1:Int)+b'):=fun h=>by rw[q4 h,wrap64]<;>omega
  have c5:b1=true->m2=m1/\b2=true:=fun h=>by
   have hd:=p3.1 h
   have e:m2=m1:=by
    by_cases c:m2=m1
    ·exact c
    ·exact absurd hd (q5 m1 (by omega) (by omega)).1
   exact⟨e,q3.2 (by rw[e];exact hd)⟩
  refine bL (jV (Qn:=fun b N=>PWeak b (zj 12++ .ptr L 0 0::zj 3++ .ptr (L+1) 0 0::zj 222)/\N=Mf) ?_ ?_ (fun _ _ h=>h) (fun _ _ _ h=>h))
  ·refine bL (bD ?_)
   have c6:∀x:Int,¬x<x:=fun x=>Int.lt_irrefl x
   cases b1
   ·obtain rfl:m1=a':=by have:=c3 rfl;omega
    cases b2
    ·have c4:=c4 rfl
     simp only[PP,P1,P2,P14,P15,N1,N2,N3,N4,N5,N6,N7,I1,I2,I3,I4,I5,I6,I7,reduceIte,reduceCtorEq,c1,c2,c4,c6]
     refine bD ?_
     simp only[PP,P1,P2,P14,P15,N1,N2,N3,N4,N5,N6,N7,I1,I2,I3,I4,I5,I6,I7,reduceIte,reduceCtorEq]
     exact(by simp only[PW])
    ·simp only[PP,P1,P2,P14,P15,N1,N2,N3,N4,N5,N6,N7,I1,I2,I3,I4,I5,I6,I7,reduceIte,reduceCtorEq,c1,c2,c6]
     refine bD ?_
     simp only[PP,P1,P2,P14,P15,N1,N2,N3,N4,N5,N6,N7,I1,I2,I3,I4,I5,I6,I7,reduceIte,reduceCtorEq]
     exact(by simp only[PW])
   ·obtain⟨rfl,rfl⟩:=c5 rfl
    simp only[PP,P1,P2,P14,P15,N1,N2,N3,N4,N5,N6,N7,I1,I2,I3,I4,I5,I6,I7,reduceIte,reduceCtorEq,c1,c2,c6]
    refine bD ?_
    simp only[PP,P1,P2,P14,P15,N1,N2,N3,N4,N5,N6,N7,I1,I2,I3,I4,I5,I6,I7,reduceIte,reduceCtorEq]
    exact(by simp only[PW])
  rintro b3 My ⟨hw3,hMy⟩
  rw[hMy]
  refine bB ?_ hw3
  refine bL (jV (Qn:=fun b N=>PWeak b (zj 12++ .ptr L 0 0::zj 3++ .ptr (L+1) 0 0::zj 222)/\N=Mf) ?_ ?_ (fun _ _ h=>h) (fun _ _ _ h=>h))
  ·refine bL (bD ?_)
   simp only[PP,P1,P2,P14,P15,N1,N2,N3,N4,N5,N6,N7,I1,I2,I3,I4,I5,I6,I7,reduceIte,reduceCtorEq]
   refine oW ?_
   refine iF (fun(j:Nat) (_:Unit)=>j<=r.sets.length) (fun j _=>(zj 12++ .ptr L 0 0::zj 3++ .ptr (L+1) 0 0:: .junk::p64 j::zj 220)) (fun j _=>Mf) (fun j _=>r.sets.length-j) 0 () (by omega) (by simp only[PW]) rfl ?_
   intro j _ hj ih
   refine bZ (by kernel_rfl) ?_
   simp only[PP,P1,P2,P14,P15,N1,N2,N3,N4,N5,N6,N7,I1,I2,I3,I4,I5,I6,I7,reduceIte,reduceCtorEq,ob1,ob2]
   refine QIf.intro (fun c=>?_) (fun c=>?_)
   ·obtain⟨x,gx⟩:=bY (xs:=r.sets) (k:=j) (by omega)
    have gy:=G.s j x gx
    have ly:=aZ gy
    have l1:¬(q.sets.length:Int)<=j:=by omega
    have l2:(j:Int)<q.sets.length:=by omega
    have j0:(0:Int)<=j:=by omega
    have hw:=bG (k:=j) (by have:=Sr.s;show _<1000000000000;have:r.sets.length<1000000000000:=this;omega)
    simp only[PP,P1,P2,P14,P15,N1,N2,N3,N4,N5,N6,N7,I1,I2,I3,I4,I5,I6,I7,reduceIte,reduceCtorEq,c,l1,l2,j0,gx,gy,ob1,ob2]
    refine u9 T (Sr.sr x (List.mem_of_getElem? gx)) ?_
    simp only[PP,P1,P2,P14,P15,N1,N2,N3,N4,N5,N6,N7,I1,I2,I3,I4,I5,I6,I7,reduceIte,reduceCtorEq,hw]
    refine bB (ih (j+1) () (by omega) (by omega)) (by simp only[PW])
   ·simp only[PP,P1,P2,P14,P15,N1,N2,N3,N4,N5,N6,N7,I1,I2,I3,I4,I5,I6,I7,reduceIte,reduceCtorEq,c]
    exact(by simp only[PW])
  rintro b3 My ⟨hw3,hMy⟩
  rw[hMy]
  refine bB ?_ hw3
  refine bL (jV (Qn:=fun b N=>PWeak b (zj 12++ .ptr L 0 0::zj 3++ .ptr (L+1) 0 0::zj 222)/\N=Mf) ?_ ?_ (fun _ _ h=>h) (fun _ _ _ h=>h))
  ·refine bL (bD ?_)
   simp only[PP,P1,P2,P14,P15,N1,N2,N3,N4,N5,N6,N7,I1,I2,I3,I4,I5,I6,I7,reduceIte,reduceCtorEq]
   refine oW ?_
   refine iF (fun(j:Nat) (_:Unit)=>j<=r.rows.length) (fun j _=>(zj 12++ .ptr L 0 0::zj 3++ .ptr (L+1) 0 0:: .junk:: .junk::p64 j::zj 219)) (fun j _=>Mf) (fun j _=>r.rows.length-j) 0 () (by omega) (by simp only[PW]) rfl ?_
   intro j _ hj ih
   refine bZ (by kernel_rfl) ?_
   simp only[PP,P1,P2,P14,P15,N1,N2,N3,N4,N5,N6,N7,I1,I2,I3,I4,I5,I6,I7,reduceIte,reduceCtorEq,ob1,ob2]
   refine QIf.intro (fun c=>?_) (fun c=>?_)
   ·obtain⟨x,gx⟩:=bY (xs:=r.rows) (k:=j) (by omega)
    have gy:=G.w j x gx
    have ly:=aZ gy
    have l1:¬(q.rows.length:Int)<=j:=by omega
    have l2:(j:Int)<q.rows.length:=by omega
    have j0:(0:Int)<=j:=by omega
    have hw:=bG (k:=j) (by have:=Sr.w;show _<1000000000000;have:r.rows.length<1000000000000:=this;omega)
    simp only[PP,P1,P2,P14,P15,N1,N2,N3,N4,N5,N6,N7,I1,I2,I3,I4,I5,I6,I7,reduceIte,reduceCtorEq,c,l1,l2,j0,gx,gy,ob1,ob2]
    refine u9 T (Sr.wr x (List.mem_of_getElem? gx)) ?_
    simp only[PP,P1,P2,P14,P15,N1,N2,N3,N4,N5,N6,N7,I1,I2,I3,I4,I5,I6,I7,reduceIte,reduceCtorEq,hw]
    refine bB (ih (j+1) () (by omega) (by omega)) (by simp only[PW])
   ·simp only[PP,P1,P2,P14,P15,N1,N2,N3,N4,N5,N6,N7,I1,I2,I3,I4,I5,I6,I7,reduceIte,reduceCtorEq,c]
    exact(by simp only[PW])
  rintro b3 My ⟨hw3,hMy⟩
  rw[hMy]
  refine bB ?_ hw3
  refine bL (jV (Qn:=fun b N=>PWeak b (zj 12++ .ptr L 0 0::zj 3++ .ptr (L+1) 0 0::zj 222)/\N=Mf) ?_ ?_ (fun _ _ h=>h) (fun _ _ _ h=>h))
  ·refine bL (bD ?_)
   simp only[PP,P1,P2,P14,P15,N1,N2,N3,N4,N5,N6,N7,I1,I2,I3,I4,I5,I6,I7,reduceIte,reduceCtorEq]
   refine oW ?_
   refine iF (fun(j:Nat) (_:Unit)=>j<=r.cls.length) (fun j _=>(zj 12++ .ptr L 0 0::zj 3++ .ptr (L+1) 0 0::zj 3++p64 j::zj 218)) (fun j _=>Mf) (fun j _=>r.cls.length-j) 0 () (by omega) (by simp only[PW]) rfl ?_
   intro j _ hj ih
   refine bZ (by kernel_rfl) ?_
   simp only[PP,P1,P2,P14,P15,N1,N2,N3,N4,N5,N6,N7,I1,I2,I3,I4,I5,I6,I7,reduceIte,reduceCtorEq,ob1,ob2]
   refine QIf.intro (fun c=>?_) (fun c=>?_)
   ·have hw:=bG (k:=j) (by have:=Sr.c;show _<1000000000000;have:r.cls.length<1000000000000:=this;omega)
    obtain⟨x,gx⟩:=bY (xs:=r.cls) (k:=j) (by omega)
    obtain⟨x2,gx2⟩:=bY (xs:=q.cls) (k:=j) (by rw[G.cl];omega)
    have l2:(j:Int)<q.cls.length:=by rw[G.cl];omega
    have j0:(0:Int)<=j:=by omega
    simp only[PP,P1,P2,P14,P15,N1,N2,N3,N4,N5,N6,N7,I1,I2,I3,I4,I5,I6,I7,reduceIte,reduceCtorEq,c]
    refine iF (fun(n:Nat) (_:Unit)=>n<=j) (fun n _=>(zj 12++ .ptr L 0 0::zj 3++ .ptr (L+1) 0 0::zj 3++p64 j::p64 n::zj 217)) (fun n _=>Mf) (fun n _=>j-n) 0 () (by omega) (by simp only[PW]) rfl ?_
    intro n _ hn ih2
    refine bZ (by kernel_rfl) ?_
    simp only[PP,P1,P2,P14,P15,N1,N2,N3,N4,N5,N6,N7,I1,I2,I3,I4,I5,I6,I7,reduceIte,reduceCtorEq,ob1,ob2]
    refine QIf.intro (fun c2=>?_) (fun c2=>?_)
    ·have hw2:=bG (k:=n) (by have:=Sr.c;show _<1000000000000;have:r.cls.length<1000000000000:=this;omega)
     obtain⟨y,gy⟩:=bY (xs:=r.cls) (k:=n) (by omega)
     obtain⟨y2,gy2⟩:=bY (xs:=q.cls) (k:=n) (by rw[G.cl];omega)
     have l3:(n:Int)<q.cls.length:=by rw[G.cl];omega
     have l4:(n:Int)<r.cls.length:=by omega
     have n0:(0:Int)<=n:=by omega
     have cl:(q.cls.length:Int)=r.cls.length:=by rw[G.cl]
     have hx:=G.c j n x y gx gy
     rw[gx2,gy2]at hx
     simp only[PP,P1,P2,P14,P15,N1,N2,N3,N4,N5,N6,N7,I1,I2,I3,I4,I5,I6,I7,reduceIte,reduceCtorEq,c,c2,l2,l3,l4,n0,j0,gx,gy,gx2,gy2,ob1,ob2,cl]
     by_cases e:x2=y2
     ·have hx:=hx (by rw[e])
      simp only[PP,P1,P2,P14,P15,N1,N2,N3,N4,N5,N6,N7,I1,I2,I3,I4,I5,I6,I7,reduceIte,reduceCtorEq,e,hx,hw2,ob1,ob2,gx,gy,l4,c,n0,j0]
      refine bB (ih2 (n+1) () (by omega) (by omega)) (by simp only[PW])
     ·simp only[PP,P1,P2,P14,P15,N1,N2,N3,N4,N5,N6,N7,I1,I2,I3,I4,I5,I6,I7,reduceIte,reduceCtorEq,e,hw2]
      refine bB (ih2 (n+1) () (by omega) (by omega)) (by simp only[PW])
    ·simp only[PP,P1,P2,P14,P15,N1,N2,N3,N4,N5,N6,N7,I1,I2,I3,I4,I5,I6,I7,reduceIte,reduceCtorEq,c2,hw]
     refine bB (ih (j+1) () (by omega) (by omega)) (by simp only[PW])
   ·simp only[PP,P1,P2,P14,P15,N1,N2,N3,N4,N5,N6,N7,I1,I2,I3,I4,I5,I6,I7,reduceIte,reduceCtorEq,c]
    exact(by simp only[PW])
  rintro b3 My ⟨hw3,hMy⟩
  rw[hMy]
  refine bB ?_ hw3
  refine bL (jV (Qn:=fun b N=>PWeak b (zj 12++ .ptr L 0 0::zj 3++ .ptr (L+1) 0 0::zj 222)/\N=Mf) ?_ ?_ (fun _ _ h=>h) (fun _ _ _ h=>h))
  ·refine bL (bD ?_)
   simp only[PP,P1,P2,P14,P15,N1,N2,N3,N4,N5,N6,N7,I1,I2,I3,I4,I5,I6,I7,reduceIte,reduceCtorEq]
   refine oW ?_
   refine iF (fun(j:Nat) (_:Unit)=>j<=r.ms.length) (fun j _=>(zj 12++ .ptr L 0 0::zj 3++ .ptr (L+1) 0 0::zj 5++p64 j::zj 216)) (fun j _=>Mf) (fun j _=>r.ms.length-j) 0 () (by omega) (by simp only[PW]) rfl ?_
   intro j _ hj ih
   refine bZ (by kernel_rfl) ?_
   simp only[PP,P1,P2,P14,P15,N1,N2,N3,N4,N5,N6,N7,I1,I2,I3,I4,I5,I6,I7,reduceIte,reduceCtorEq,aP,aS,aR,aC,bK,aL,aE,z9,z9t,aQ,aO,aT,aM,aJ,aN,aK,aH,aF,aB,aD,aA,z8,aG,aY,aI,aX,aW,aV,ob1,ob2]
   refine QIf.intro (fun c=>?_) (fun c=>?_)
   ·obtain⟨x,gx⟩:=bY (xs:=r.ms) (k:=j) (by omega)
    obtain⟨y,gy⟩:=bY (xs:=q.ms) (k:=j) (by have:=G.ml;omega)
    have ly:=aZ gy
    have l1:¬(q.ms.length:Int)<=j:=by omega
    have l2:(j:Int)<q.ms.length:=by omega
    have j0:(0:Int)<=j:=by omega
    have hw:=bG (k:=j) (by have:=Sr.m;show _<1000000000000;have:r.ms.length<1000000000000:=this;omega)
    have hm:=G.m j x y gx gy
    have hm':¬vP x y>0:=by omega
    simp only[PP,P1,P2,P14,P15,N1,N2,N3,N4,N5,N6,N7,I1,I2,I3,I4,I5,I6,I7,reduceIte,reduceCtorEq,aP,aS,aR,aC,bK,aL,aE,z9,z9t,aQ,aO,aT,aM,aJ,aN,aK,aH,aF,aB,aD,aA,z8,aG,aY,aI,aX,aW,aV,c,l1,l2,j0,gx,gy,ob1,ob2]
    refine⟨by omega,by omega,?_⟩
    rw[hP gx,hP gy]
    refine kW T ?_
    have hm2:¬(0:Int)<vP x y:=by omega
    simp only[PP,P1,P2,P14,P15,N1,N2,N3,N4,N5,N6,N7,I1,I2,I3,I4,I5,I6,I7,reduceIte,reduceCtorEq,hm2,hw]
    refine bB (ih (j+1) () (by omega) (by omega)) (by simp only[PW])
   ·simp only[PP,P1,P2,P14,P15,N1,N2,N3,N4,N5,N6,N7,I1,I2,I3,I4,I5,I6,I7,reduceIte,reduceCtorEq,c]
    exact(by simp only[PW])
  rintro b3 My ⟨hw3,hMy⟩
  rw[hMy]
  refine bB ?_ hw3
  refine bD ?_
  simp only[PP,P1,P2,P14,P15,N1,N2,N3,N4,N5,N6,N7,I1,I2,I3,I4,I5,I6,I7,reduceIte,reduceCtorEq]
  refine C0 T.awake ?_
  simp only[PP,P1,P2,P14,P15,N1,N2,N3,N4,N5,N6,N7,I1,I2,I3,I4,I5,I6,I7,reduceIte,reduceCtorEq]
end
abbrev aDE:Ty:= .pair (.slice (.int .u8)) (.pair (.slice (.int .i64)) (.pair (.slice (.slice (.int .i64))) .unit))
theorem UZ {tab:FuncId->Option AF} {g:FuncId} {args:List AV} {h:H} (hc:C (lim tab) g args h fun v _=>v= .bool true):∃n h',(run tab n).call g args h=some (.bool true,h'):=by
 unfold C at hc
 obtain⟨v,h',he,rfl⟩:=hc
 obtain⟨n,hn⟩:=(iD tab).1 he
 exact⟨n,h',hn⟩
theorem aEt {A B:Ty} {args:List AV} {h:H} (hs:ZL [A,B] args h):∃a b,args=[a,b]/\ShV A a h/\ShV B b h:=by
 match args,hs with
 | [a,b],⟨h1,h2,_⟩=>exact⟨a,b,rfl,h1,h2⟩
abbrev edgeTy:Ty:= .pair (.int .i64) (.pair (.int .i64) (.pair (.int .u8) (.pair (.int .u8) .unit)))
abbrev aEz:Ty:= .pair (.int .i64) (.pair (.int .i64) (.pair (.slice (.int .i64)) (.pair (.slice (.int .i64)) (.pair (.slice edgeTy) .unit))))
theorem aAr {h:H} {cs:List AV} (hs:Sh edgeTy cs h):∃e:Eg,e.fit/\cs.length=4/\RepL (wH h) (egC e) cs:=by
 obtain⟨c1,c2,rfl,⟨a,rfl,a1,a2⟩,c3,c4,rfl,⟨b,rfl,b1,b2⟩,c5,c6,rfl,⟨p,rfl,p1,p2⟩,c7,c8,rfl,⟨q,rfl,q1,q2⟩,h8⟩:=hs
 have h8:c8=[]:=h8
 subst h8
 exact⟨⟨a,b,p,q⟩,⟨⟨a1,a2⟩,⟨b1,b2⟩,⟨p1,p2⟩,⟨q1,q2⟩⟩,rfl,.cons (.int _ _) (.cons (.int _ _) (.cons (.int _ _) (.cons (.int _ _) (.nil _))))⟩
theorem UT {h:H} :∀{n:Nat} {cells:List AV},cells.length=n*4->(∀i,i<n->Sh edgeTy ((cells.drop (i*4)).take 4) h)->∃es:List Eg,es.length=n/\RepL (wH h) (egL es) cells/\∀x∈es,x.fit
 | 0,cells,hl,_=>by
  have:cells=[]:=List.length_eq_zero_iff.1 (by simpa using hl)
  subst this
  exact⟨[],rfl,.nil _,fun x hx=>by cases hx⟩
 | n+1,cells,hl,hs=>by
  obtain⟨x,hx,_,r1⟩:=aAr (by simpa using hs 0 (by omega))
  obtain⟨es,e1,r2,e3⟩:=UT (n:=n) (cells:=cells.drop 4) (by simp;omega) (fun i hi=>by
   have:=hs (i+1) (by omega)
   rw[List.drop_drop,show 4+i*4=(i+1)*4 by omega];exact this)
  refine⟨x::es,by simp[e1],?_,fun y hy=>?_⟩
  ·have:=r1.append r2
   rw[List.take_append_drop]at this
   exact this
  ·rcases List.mem_cons.1 hy with rfl | hy
   ·exact hx
   ·exact e3 y hy
theorem UU {cs:List AV} {h:H} (hs:Sh (.slice edgeTy) cs h):∃v,∃es:List Eg,cs=[v]/\RepV (wH h) (slE false false es) v/\es.length<=9223372036854775807/\∀x∈es,x.fit:=by
 rcases hs with rfl | ⟨b,n,cells,rfl,h2,h3,h4,h5⟩
 ·exact⟨.nilslice,[],rfl,.slN,by simp,fun x hx=>by cases hx⟩
 ·have e4:edgeTy.size=4:=rfl
  rw[e4]at h4 h5
  obtain⟨es,e1,r,e3⟩:=UT h4 h5
  refine⟨_,es,rfl,?_,by rw[e1];simpa [maxLen] using h2,e3⟩
  have hl:=r.len
  have:=RepV.sl (fl:=false) (own:=false) (sz:=4) (n:=n) (cs:=egL es) (fl':=false) (off:=0) (show(wH h).imm b=_ from h3) (by omega) (by rw[kQ,e1]) (fun q=>by cases q) (fun q=>by cases q) (fun _ _=>H.lt_of_get h3) (fun i y z p q=>r.get i y z p (by simpa using q))
  rw[<-e1]at this
  rw[<-e1]
  exact this
section
variable {tab:FuncId->Option AF} (T:HasA tab)
include T
end
section
variable {tab:FuncId->Option AF} (T:HasA tab)
include T
end
section
variable {tab:FuncId->Option AF} (T:HasA tab)
include T
end
section
variable {N:NF} {rs0 rs:List (List Bool)} {ch:Bool} {done done':Nat->Nat->Prop} {p q:Nat}
end
section
variable {tab:FuncId->Option AF} (T:HasA tab)
include T
end
section
variable {tab:FuncId->Option AF} (T:HasA tab)
include T
end
section
variable {tab:FuncId->Option AF} (T:HasA tab)
include T
end
section
variable {tab:FuncId->Option AF} (T:HasA tab)
include T
end
theorem QX {cs:List AV} {h:H} (hs:Sh (.slice .bool) cs h):∃v,∃xs:List Bool,cs=[v]/\RepV (wH h) (slB false false xs) v/\xs.length<=9223372036854775807:=by
 obtain⟨v,cells,rfl,h1,h2,h3⟩:=US rfl hs
 have:∀cells:List AV,(∀c∈cells,Sh .bool [c] h)->∃xs:List Bool,cells=xs.map AV.bool:=by
  intro cells
  induction cells with
  | nil=>intro _;exact⟨[],rfl⟩
  | cons c cells ih=>
   intro hc
   obtain⟨xs,e⟩:=ih (fun c' h'=>hc c' (List.mem_cons_of_mem _ h'))
   obtain⟨b,e1⟩:=hc c (by simp)
   cases e1
   exact⟨b::xs,by simp[e]⟩
 obtain⟨xs,rfl⟩:=this cells h2
 refine⟨v,xs,rfl,?_,by simpa using h1⟩
 have:=h3 (xs.map PV.bool) ⟨by simp,fun i y z p q=>by
  rw[List.getElem?_map]at p q
  cases hx:xs[i]? with
  | none=>rw[hx]at p;cases p
  | some x=>rw[hx]at p q;cases p;cases q;exact .bool x⟩
 simpa using this
section
variable {tab:FuncId->Option AF} (T:HasA tab)
include T
end
abbrev aFa:Ty:= .pair (.int .i64) (.pair (.int .i64) (.pair (.slice (.slice (.int .i64))) (.pair (.slice .bool) .unit)))
section
variable {tab:FuncId->Option AF} (T:HasA tab)
include T
end
abbrev caseTy:Ty:= .pair (.int .i64) (.pair aEz (.pair aFa (.pair aDE .unit)))
theorem YQ {v:AV} {h:H} (hs:ShV caseTy v h):∃(k:Int) (N:NF) (D:DF) (ow pr:List Int) (su:List (List Int)),RepV (wH h) (.agg (csC false false k N D ow pr su)) v/\(∀x∈N.es,(0<=x.ps/\x.ps<=255)/\(0<=x.ng/\x.ng<=255))/\∀x∈ow,0<=x:=by
 obtain⟨avs,hs,rfl⟩:=hs
 obtain⟨c1,c2,rfl,⟨k,rfl,k1,k2⟩,d1,d2,rfl,hn,d3,d4,rfl,hd,d5,d6,rfl,hg,h0⟩:=hs
 have h0:d6=[]:=h0
 subst h0
 obtain⟨c1,c2,rfl,⟨a,rfl,a1,a2⟩,c3,c4,rfl,⟨b,rfl,b1,b2⟩,c5,c6,rfl,h3,c7,c8,rfl,h4,c9,c10,rfl,h5,h6⟩:=hn
 have h6:c10=[]:=h6
 subst h6
 obtain⟨vo,st,rfl,p1,q1,r1⟩:=oC h3
 obtain⟨vp,fi,rfl,p2,q2,r2⟩:=oC h4
 obtain⟨vs,es,rfl,p3,q3,r3⟩:=UU h5
 obtain⟨e1,e2,rfl,⟨a',rfl,a1',a2'⟩,e3,e4,rfl,⟨b',rfl,b1',b2'⟩,e5,e6,rfl,h3',e7,e8,rfl,h4',h6'⟩:=hd
 have h6':e8=[]:=h6'
 subst h6'
 obtain⟨vn,nx,rfl,p4,q4,r4⟩:=F8 h3'
 obtain⟨vf,fb,rfl,p5,q5⟩:=QX h4'
 obtain⟨g1,g2,rfl,g3,g4,g5,rfl,g6,g7,g8,rfl,g9,g10⟩:=hg
 have g10:g8=[]:=g10
 subst g10
 obtain⟨vw,ow,rfl,p6,q6,r6⟩:=oC g3
 obtain⟨vq,pr,rfl,p7,q7,r7⟩:=oC g6
 obtain⟨vr,su,rfl,p8,q8,r8⟩:=F8 g9
 refine⟨k,⟨a,b,st,fi,es⟩,⟨a',b',nx,fb⟩,ow,pr,su,?_,fun x hx=>⟨(r3 x hx).2.2.1,(r3 x hx).2.2.2⟩,fun x hx=>(r6 x hx).1⟩
 have:=RepL.cons (.int .i64 k) (.cons (.int .i64 a) (.cons (.int .i64 b) (.cons p1 (.cons p2 (.cons p3 (.cons (.int .i64 a') (.cons (.int .i64 b') (.cons p4 (.cons p5 (.cons p6 (.cons p7 (.cons p8 (.nil (wH h))))))))))))))
 exact .agg this.len this.get
abbrev twoTy:Ty:= .pair (.int .u8) (.pair (.int .u8) .unit)
theorem aBQ {v:AV} {h:H} (hs:ShV twoTy v h):∃a b:Int,RepV (wH h) (.agg [.int .u8 a,.int .u8 b]) v/\(0<=a/\a<=255)/\(0<=b/\b<=255):=by
 obtain⟨avs,hs,rfl⟩:=hs
 obtain⟨c1,c2,rfl,⟨a,rfl,a1⟩,c3,c4,rfl,⟨b,rfl,b1⟩,h6⟩:=hs
 have h6:c4=[]:=h6
 subst h6
 have:=RepL.cons (.int .u8 a) (.cons (.int .u8 b) (.nil (wH h)))
 exact⟨a,b,.agg this.len this.get,a1,b1⟩
theorem bgrows_all {tab:FuncId->Option AF} (T:HasA tab) (args:List AV) (h:H) (hs:ZL [caseTy,twoTy] args h):
  ∃n h',(run tab n).call 7 args h=some (.bool true,h'):=by
 obtain⟨a,b,rfl,ha,hb⟩:=aEt hs
 obtain⟨k,N,D,ow,pr,su,r1,hN,_⟩:=YQ ha
 obtain⟨x,y,r2,hx,hy⟩:=aBQ hb
 exact UZ (LA (.cons r1 (.cons r2 (.nil _))) (aBq T hN hx hy))
end Go.Am.Ar

