/- Contract: the reader reads an automaton, and what goes with it. -/
import Derived.Test.YtapbgleednkimaaGreatDoorBudgetFinishesG7
import Derived.Test.YtapbgleednkimaaGreatDoorPmC
import Derived.Test.YtapbgleednkimaaGreatDoorBudgetFinishesG6
import Derived.Test.YtapbgleednkimaaGreatDoorBudgetFinishesG0
import Derived.Test.YtapbgleednkimaaGreatDoorPmL
import Derived.Test.YtapbgleednkimaaGreatDoorBudgetFinishesG3
set_option linter.unusedVariables false
set_option linter.unusedSimpArgs false
set_option maxRecDepth 10000
--P14
namespace Go.Am.Ar
open Go.Am.PV renaming junk->Zj
open Go.Am renaming pchk->P1,pold->P2,PKNo->P3,ppack->P4,PObj.under->P5,pput->P6,ptset->P7,ptget->P8,pev->P9,ofAV->P10,ofAV1->P11,ppad->P12,pfill->P13,bW->P14,AO.effect->P15
open List renaming replicate->L1
section
variable {tab:FuncId->Option AF} (T:HasA tab)
include T
end
section
variable {tab:FuncId->Option AF} (T:HasA tab)
include T
end
section
variable {tab:FuncId->Option AF} (T:HasA tab)
include T
end
section
variable {tab:FuncId->Option AF} (T:HasA tab)
include T
end
section
variable {tab:FuncId->Option AF} (T:HasA tab)
include T
end
section
variable {tab:FuncId->Option AF} {i:In} {jid b L:Nat} {StF:Mem->Nat->Mem->Prop} {m:Nat} {Mm:Mem}
variable (T:HasA tab)
include T
end
end Go.Am.Ar
--P14
namespace Go.Am.Ar
open Go.Am.PV renaming junk->Zj
open Go.Am renaming pchk->P1,pold->P2,PKNo->P3,ppack->P4,PObj.under->P5,pput->P6,ptset->P7,ptget->P8,pev->P9,ofAV->P10,ofAV1->P11,ppad->P12,pfill->P13,bW->P14,AO.effect->P15
open List renaming replicate->L1
def D0:DF:=⟨0,0,[[0]],[true]⟩
section
variable {tab:FuncId->Option AF} (T:HasA tab)
include T
end
theorem aAn{k:Int}{N:NF}{D:DF}{ow pr:List Int}{su:List (List Int)}(h:∀x∈ow,0<=x):(AG k N D ow pr su).Pos:=by
 unfold AG;split
 ·trivial
 ·split
  ·trivial
  ·exact fun x hx=>h x (List.mem_of_mem_take hx)
section
variable {tab:FuncId->Option AF} (T:HasA tab)
include T
end
section
variable {tab:FuncId->Option AF} (T:HasA tab)
include T
theorem NB{M:Mem}{K:PV->Mem->Prop}{f1 o1 f2 o2 f3 o3:Bool}{D:DF}(hc:cA D=0)(B:BnD D)(h99:D.nx.length<=99){m:Nat}(hm:m<=D.nx.length)(hd:aX D (m+1)=aX D m)(hk:K (.tuple [slI false true .i64 (aX D m),p64 0]) M):
  SemC tab 34 [.agg (dfC f1 o1 f2 o2 f3 o3 D)] M K:=by
 refine aE T.h34 (by simp only[PP,simprocAttr]) ?_;simp only[af34,PP,simprocAttr];refine xA T B (fun _=>h99) (fun q=>absurd hc q) (fun _=>?_) (by omega);have e:aX D D.nx.length=aX D m:=by
  have:=s6 hd (D.nx.length-m);rwa [show m+(D.nx.length-m)=D.nx.length by omega]at this
 rw[e];simp only[PP,simprocAttr];exact hk
set_option maxHeartbeats 4000000 in
theorem MU{k:Int}{N:NF}{D:DF}{ow pr:List Int}{su:List (List Int)}(hN:∀x∈N.es,(0<=x.ps/\x.ps<=255)/\(0<=x.ng/\x.ng<=255))(hO:∀x∈ow,0<=x):
  SemC tab 9 [.agg (csC false false k N D ow pr su)] [] fun r _=>r= .bool true:=by
 obtain⟨hB,hF⟩:=aDi k N D ow pr su hN;have hP:=aAn (k:=k) (N:=N) (D:=D) (pr:=pr) (su:=su) hO;have h4:=UJ k N D ow pr su;refine dV T.h9 ?_;simp only[af9];refine aB (aA ?_);simp only[PP,simprocAttr,bD];refine aB (aA ?_);simp only[PP,simprocAttr,bD];refine aHc T ?_;generalize AG k N D ow pr su=i at*;simp only[PP,simprocAttr,bD];refine aB (aA ?_);simp only[PP,simprocAttr,bD];have hA0:([PObj.cells 0 0 (csC false false k N D ow pr su),PObj.cells 0 1 (i.cs false true)]:Mem).all (aI 2)=true:=by simp[aI,aC,PV.under,dB,aP,aR,bH]
 refine W0 T hB hP hA0 ⟨fun hc=>?_,fun hc jid b L StF A0 M0 J hb hcut hS hX=>?_⟩
 ·simp only[PP,simprocAttr];refine aB (aA ?_);simp only[PP,simprocAttr,PI,hc];refine o5 T.awake ?_;simp only[PP,simprocAttr]
 ·obtain⟨X,hX⟩:=hX;have JX:=J.X A0 hb hcut;have nf:=In.no_fail hc hF;simp only[PP,simprocAttr];refine aB (aA ?_);simp only[PP,simprocAttr];refine aB (aA ?_);simp only[PP,simprocAttr];refine JX.step0 hS (by omega) (by omega) (fun m M1 bb p1 p2 p3 p4 p5 p6=>?_) (fun m M' _ _ _ p _=>absurd p (nf m));have hnd:∀j,j<m->¬i.done j:=fun j hj=>(p5 j (Nat.zero_le _) hj).1;obtain rfl:bb=true:=by
   cases bb with
   | true=>rfl
   | false=>
    have h1:=p4 rfl;have h2:¬i.done m:=fun q=>by have:=p3.2 q;cases this
    have h3:=In.ends hc hB hF h4 (m:=m) fun j hj=>by
     by_cases e:j=m
     ·rw[e];exact h2
     ·exact hnd j (by omega)
    omega
  have hd:i.done m:=p3.1 rfl;obtain⟨Z,hZ⟩:=J.pre A0 m M1 p6;have g1:M1[1]? =some (.cells 0 1 (i.cs false true)):=by rw[hZ,hX];rfl
  have hlen:=aD g1;simp only[PP,simprocAttr];refine aB (aA ?_);simp only[PP,simprocAttr];refine aB (aA ?_);simp only[PP,simprocAttr];refine JX.res0 p6 fun r hr=>?_;simp only[PP,simprocAttr,Res.pv,gk0,sk0];refine aB (aA ?_);have lt1:1<M1.length:=hlen;have g2:∀Y,(M1++Y)[1]? =some (.cells 0 1 (i.cs false true)):=fun Y=>bY g1 Y;have Sr:=In.rp_sm hc hB hr
  cases i with
  | n N'=>
   obtain⟨rfl,r1,r2⟩:=hr;have hd:(stK N' m).length<=m:=hd;have e1:m=(stK N' m).length:=by omega
   simp only[PP,simprocAttr,g2,In.k,In.N,In.D,In.ow,In.pr,In.su];refine aHn T hc hF hB hd ?_;simp only[PP,simprocAttr,gk,gk0,sk,sk0,List.append_assoc];have Bd:BnD ⟨N'.vs,0,rwK N' m,fnK N' m⟩:=⟨Sr.w,Sr.wr,Sr.f⟩;refine I6 T (D:=⟨N'.vs,0,rwK N' m,fnK N' m⟩) (D':=⟨N'.vs,0,rwK N' m,fnK N' m⟩) Bd fun b hb=>?_;obtain rfl:b=true:=hb.2 rfl;simp only[PP,simprocAttr,gk,gk0];refine nZ T Sr.s Sr.sr ?_;simp only[PP,simprocAttr,gk,gk0];refine JX.units T p6 ?_;have e2:(cG (stK N' m)).length=m:=by unfold cG;rw[List.length_map];omega
   simp only[PP,simprocAttr,e2];refine o5 T.awake ?_;simp only[PP,simprocAttr]
  | d D'=>
   obtain rfl:r=⟨0,[],[],[],aX D' m,[]⟩:=hr;have hd:aX D' (m+1)=aX D' m:=hd;have hml:=aE1 (D:=D') (m:=m) fun j hj=>hnd j hj;simp only[PP,simprocAttr,g2,In.k,In.N,In.D,In.ow,In.pr,In.su];refine NB T hc hB.1 hB.2 hml hd ?_;simp only[PP,simprocAttr,gk0];refine n7 T Sr.c ?_;simp only[PP,simprocAttr];refine JX.units T p6 ?_;have hle:(m:Int)<=D'.nx.length:=by omega
   simp only[PP,simprocAttr,g2,In.k,In.N,In.D,In.ow,In.pr,In.su,hle];refine o5 T.awake ?_;simp only[PP,simprocAttr]
  | g ow' pr' su'=>obtain⟨ms,rfl,hS2,hN2⟩:=hr;have hd:kS ow'.length (gL ow' pr' su') (itN ow'.length (gL ow' pr' su') m):=hd;simp only[PP,simprocAttr,g2,In.k,In.N,In.D,In.ow,In.pr,In.su];refine aB (aA ?_);simp only[PP,simprocAttr,g2,In.k,In.N,In.D,In.ow,In.pr,In.su];refine L8 T hB.1 fun ms' e hA=>?_;obtain⟨rfl,rfl⟩:=TP hc hd hS2 hN2 hA;simp only[PP,simprocAttr];refine aA ?_;simp only[PP,simprocAttr,gk0];refine aAu T Sr (In.rp_fit (i:= .g ow' pr' su') hc ⟨ms',rfl,hS2,hN2⟩) ?_;simp only[PP,simprocAttr];refine o5 T.awake ?_;simp only[PP,simprocAttr]
end
abbrev aFJ:Ty:= .pair (.slice (.int .u8)) (.pair (.slice (.int .i64)) (.pair (.slice (.slice (.int .i64))) .unit))
theorem XE{tab:FuncId->Option AF}{g:FuncId}{args:List AV}{h:H}(hc:C (lim tab) g args h fun v _=>v= .bool true):∃n h',(run tab n).call g args h=some (.bool true,h'):=by unfold C at hc;obtain⟨v,h',he,rfl⟩:=hc;obtain⟨n,hn⟩:=(e9 tab).1 he;exact⟨n,h',hn⟩
theorem aGD{A:Ty}{args:List AV}{h:H}(hs:aBw [A] args h):∃a,args=[a]/\ShV A a h:=by
 match args,hs with
 | [a],⟨h1,_⟩=>exact⟨a,rfl,h1⟩
abbrev edgeTy:Ty:= .pair (.int .i64) (.pair (.int .i64) (.pair (.int .u8) (.pair (.int .u8) .unit)))
abbrev aGJ:Ty:= .pair (.int .i64) (.pair (.int .i64) (.pair (.slice (.int .i64)) (.pair (.slice (.int .i64)) (.pair (.slice edgeTy) .unit))))
theorem aCb{h:H}{cs:List AV}(hs:Sh edgeTy cs h):∃e:Eg,e.fit/\cs.length=4/\RepL (wH h) (egC e) cs:=by obtain⟨c1,c2,rfl,⟨a,rfl,a1,a2⟩,c3,c4,rfl,⟨b,rfl,b1,b2⟩,c5,c6,rfl,⟨p,rfl,p1,p2⟩,c7,c8,rfl,⟨q,rfl,q1,q2⟩,h8⟩:=hs;have h8:c8=[]:=h8;subst h8;exact⟨⟨a,b,p,q⟩,⟨⟨a1,a2⟩,⟨b1,b2⟩,⟨p1,p2⟩,⟨q1,q2⟩⟩,rfl,.cons (.int _ _) (.cons (.int _ _) (.cons (.int _ _) (.cons (.int _ _) (.nil _))))⟩
theorem W8{h:H} :∀{n:Nat} {cells:List AV},cells.length=n*4->(∀i,i<n->Sh edgeTy ((cells.drop (i*4)).take 4) h)->∃es:List Eg,es.length=n/\RepL (wH h) (egL es) cells/\∀x∈es,x.fit
 | 0,cells,hl,_=>by have:cells=[]:=List.length_eq_zero_iff.1 (by simpa using hl);subst this;exact⟨[],rfl,.nil _,fun x hx=>by cases hx⟩
 | n+1,cells,hl,hs=>by
  obtain⟨x,hx,_,r1⟩:=aCb (by simpa using hs 0 (by omega));obtain⟨es,e1,r2,e3⟩:=W8 (n:=n) (cells:=cells.drop 4) (by simp;omega) (fun i hi=>by
   have:=hs (i+1) (by omega);rw[List.drop_drop,show 4+i*4=(i+1)*4 by omega];exact this)
  refine⟨x::es,by simp[e1],?_,fun y hy=>?_⟩
  ·have:=r1.append r2;rw[List.take_append_drop]at this;exact this
  ·rcases List.mem_cons.1 hy with rfl | hy
   ·exact hx
   ·exact e3 y hy
theorem W9{cs:List AV}{h:H}(hs:Sh (.slice edgeTy) cs h):∃v,∃es:List Eg,cs=[v]/\RepV (wH h) (slE false false es) v/\es.length<=9223372036854775807/\∀x∈es,x.fit:=by
 rcases hs with rfl | ⟨b,n,cells,rfl,h2,h3,h4,h5⟩
 ·exact⟨.nilslice,[],rfl,.slN,by simp,fun x hx=>by cases hx⟩
 ·have e4:edgeTy.size=4:=rfl;rw[e4]at h4 h5;obtain⟨es,e1,r,e3⟩:=W8 h4 h5;refine⟨_,es,rfl,?_,by rw[e1];simpa [maxLen]using h2,e3⟩;have hl:=r.len;have:=RepV.sl (fl:=false) (own:=false) (sz:=4) (n:=n) (cs:=egL es) (fl':=false) (off:=0) (show(wH h).imm b=_ from h3) (by omega) (by rw[iH,e1]) (fun q=>by cases q) (fun q=>by cases q) (fun _ _=>H.lt_of_get h3) (fun i y z p q=>r.get i y z p (by simpa using q));rw[<-e1]at this;rw[<-e1];exact this
section
variable {tab:FuncId->Option AF} (T:HasA tab)
include T
end
section
variable {tab:FuncId->Option AF} (T:HasA tab)
include T
end
section
variable {tab:FuncId->Option AF} (T:HasA tab)
include T
end
end Go.Am.Ar

