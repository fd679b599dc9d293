/- Contract: Step, whatever the job's computation is, and what goes with it. -/
import Derived.Test.YtapbgleednkimaaGreatDoorBudgetGrowsG3
import Derived.Test.YtapbgleednkimaaGreatDoorBudgetGrowsG0
import Derived.Test.YtapbgleednkimaaGreatDoorPmC
set_option linter.unusedVariables false
set_option linter.unusedSimpArgs false
set_option maxRecDepth 10000
namespace Go.Am.Ar
open Go.Am.PV renaming junk->Zj
open Go.Am renaming lF->P1,tB->P2,PKNo->P3,ppack->P4,PObj.under->P5,pput->P6,ptset->P7,ptget->P8,pev->P9,ofAV->P10,ofAV1->P11,ppad->P12,pfill->P13,eZ->P14,AO.effect->P15
open List renaming replicate->L1
open Nat renaming reduceAdd->N1,reduceSub->N2,reduceMul->N3,reduceLT->N4,reduceLeDiff->N5,reduceEqDiff->N6,reduceBEq->N7
open Int renaming reduceToNat->I1,reduceLT->I2,reduceLE->I3,reduceEq->I4,reduceAdd->I5,reduceSub->I6,reduceNeg->I7
structure JobK (tab:FuncId->Option AF) (jid wid:Nat) (ty:TypeId) (fu fl:FuncId) (e:Int) (D F:Nat->Prop) (lft:Nat->Bool) (St:Nat->Mem->Prop):Prop where
 job:∀m M,St m M->∃v,M[jid]? =some (.cells 0 v [.iface ty (.ptr wid 0 0),p64 (m:Int)])
 sm:∀m M,St m M->m<4000000000000000000
 unit:∀m M,St m M->∀K:PV->Mem->Prop,(D m->∀M2,St m M2->K (.tuple [.bool false,p64 0]) M2)->(F m->∀M2,St m M2->K (.tuple [.bool false,p64 e]) M2)->
  (¬D m->¬F m->∀M2 v,M2[jid]? =some (.cells 0 v [.iface ty (.ptr wid 0 0),p64 (m:Int)])->St (m+1) (M2.set jid (.cells 0 (v+1) [.iface ty (.ptr wid 0 0),p64 ((m+1:Nat):Int)]))->K (.tuple [.bool true,p64 0]) M2)->SemC tab fu [.ptr wid 0 0] M K
 left:∀m M,St m M->∀K:PV->Mem->Prop,(∀M2,St m M2->K (.bool (lft m)) M2)->SemC tab fl [.ptr wid 0 0] M K
 meth:(ty=116/\fu=253/\fl=252)\/(ty=122/\fu=261/\fl=260)\/(ty=125/\fu=265/\fl=264)
section
variable {tab:FuncId->Option AF} (T:HasA tab)
include T
set_option maxHeartbeats 1000000 in
theorem aBk {jid wid:Nat} {ty:TypeId} {fu fl:FuncId} {e:Int} {D F:Nat->Prop} {lft:Nat->Bool} {St:Nat->Mem->Prop} (J:JobK tab jid wid ty fu fl e D F lft St) (he:e≠0) {M:Mem} {K:PV->Mem->Prop} {n:Nat} {k:Int} (hS:St n M) (hk0:0<=k) (hk1:k<=9223372036854775807)
  (hA:∀m M',n<=m->(m:Int)=n+k->(∀j,n<=j->j<m->¬D j/\¬F j)->St m M'->K (.tuple [.bool (!lft m),p64 0]) M')
  (hB:∀m M',n<=m->(m:Int)<n+k->(∀j,n<=j->j<m->¬D j/\¬F j)->D m->St m M'->K (.tuple [.bool true,p64 0]) M')
  (hC:∀m M',n<=m->(m:Int)<n+k->(∀j,n<=j->j<m->¬D j/\¬F j)->F m->St m M'->K (.tuple [.bool false,p64 e]) M'):
  SemC tab 18 [.ptr jid 0 0,p64 k] M K:=by
 refine cK T.h18 ?_
 obtain⟨v0,hM⟩:=J.job n M hS
 have hk2:¬k<0:=by omega
 simp only[af18,PP,P1,P2,P14,P15,N1,N2,N3,N4,N5,N6,N7,I1,I2,I3,I4,I5,I6,I7,reduceIte,reduceCtorEq,iR,dZ,dS,gS,fK,gR,gQ,iP,iQ,eQ,dM,eE,dX,dK,dH,eC,dL,hM,hk2]
 have hu:(if(116:Int)=(ty:Int) then some 253 else if(122:Int)=(ty:Int) then some 261 else if(125:Int)=(ty:Int) then some 265 else fJ [] ty)=some fu:=by
  rcases J.meth with⟨rfl,rfl,rfl⟩ | ⟨rfl,rfl,rfl⟩ | ⟨rfl,rfl,rfl⟩<;>rfl
 have hlf:(if(116:Int)=(ty:Int) then some 252 else if(122:Int)=(ty:Int) then some 260 else if(125:Int)=(ty:Int) then some 264 else fJ [] ty)=some fl:=by
  rcases J.meth with⟨rfl,rfl,rfl⟩ | ⟨rfl,rfl,rfl⟩ | ⟨rfl,rfl,rfl⟩<;>rfl
 refine iF (fun(i:Nat) (N:Mem)=>(i:Int)<=k/\St (n+i) N/\∀j,n<=j->j<n+i->¬D j/\¬F j) (fun i N=>(.ptr jid 0 0::zj 20++p64 k::p64 i::zj 28)) (fun i N=>N) (fun i _=>k.toNat-i) 0 M ⟨hk0,hS,fun j h1 h2=>by omega⟩ (by simp only[PW]) rfl ?_
 intro i N ⟨hi,hSi,hj⟩ ih
 obtain⟨v,hN⟩:=J.job _ N hSi
 refine bZ (by kernel_rfl) ?_
 simp only[PP,P1,P2,P14,P15,N1,N2,N3,N4,N5,N6,N7,I1,I2,I3,I4,I5,I6,I7,reduceIte,reduceCtorEq]
 refine QIf.intro (fun c=>?_) (fun c=>?_)
 ·have hsm:=J.sm _ N hSi
  have hwi:IntKind.i64.wrap ((i:Int)+1)=((i+1:Nat):Int):=by rw[wrap64]<;>omega
  have hwu:IntKind.i64.wrap (((n+i:Nat):Int)+1)=((n+i+1:Nat):Int):=by rw[wrap64]<;>omega
  simp only[PP,P1,P2,P14,P15,N1,N2,N3,N4,N5,N6,N7,I1,I2,I3,I4,I5,I6,I7,reduceIte,reduceCtorEq,iR,dZ,dS,gS,fK,gR,gQ,iP,iQ,eQ,dM,eE,dX,dK,dH,eC,dL,hN,c,hu]
  refine J.unit _ N hSi _ (fun d M2 s2=>?_) (fun d M2 s2=>?_) (fun d1 d2 M2 v2 h2 s2=>?_)
  ·simp only[PP,P1,P2,P14,P15,N1,N2,N3,N4,N5,N6,N7,I1,I2,I3,I4,I5,I6,I7,reduceIte,reduceCtorEq]
   exact hB (n+i) M2 (by omega) (by omega) hj d s2
  ·simp only[PP,P1,P2,P14,P15,N1,N2,N3,N4,N5,N6,N7,I1,I2,I3,I4,I5,I6,I7,reduceIte,reduceCtorEq,he]
   exact hC (n+i) M2 (by omega) (by omega) hj d s2
  ·simp only[PP,P1,P2,P14,P15,N1,N2,N3,N4,N5,N6,N7,I1,I2,I3,I4,I5,I6,I7,reduceIte,reduceCtorEq,h2,hwu,hwi]
   refine bB (ih (i+1) _ ⟨by omega,s2,fun j h3 h4=>?_⟩ (by omega)) (by simp only[PW])
   by_cases q:j=n+i
   ·subst q;exact⟨d1,d2⟩
   ·exact hj j h3 (by omega)
 ·simp only[PP,P1,P2,P14,P15,N1,N2,N3,N4,N5,N6,N7,I1,I2,I3,I4,I5,I6,I7,reduceIte,reduceCtorEq,iR,dZ,dS,gS,fK,gR,gQ,iP,iQ,eQ,dM,eE,dX,dK,dH,eC,dL,hN,c,hlf]
  refine J.left _ N hSi _ fun M2 s2=>?_
  simp only[PP,P1,P2,P14,P15,N1,N2,N3,N4,N5,N6,N7,I1,I2,I3,I4,I5,I6,I7,reduceIte,reduceCtorEq]
  exact hA (n+i) M2 (by omega) (by omega) hj s2
end
abbrev stK (N:NF) (m:Nat):List (BitVec 64):=fF (b9 N) (bJ N) (eI N) m
abbrev rwK (N:NF) (m:Nat):List (List Int):=uL (b9 N) (bJ N) (eI N) m
def fnK (N:NF) (m:Nat):List Bool:=((stK N m).take m).map (ET N)
theorem XV {N:NF} {m:Nat} {a:BitVec 64} (h:(stK N m)[m]? =some a):fnK N (m+1)=fnK N m++[ET N a]:=by
 have hk:=aZ h
 obtain⟨r,e2⟩:=kZ (b9 N) a (bJ N) (stK N m)
 unfold fnK
 rw[show stK N (m+1)=eH (b9 N) a (bJ N) (stK N m) from i7 h]
 have e3:(eH (b9 N) a (bJ N) (stK N m)).take (m+1)=(stK N m).take m++[a]:=by
  rw[e2,List.take_append_of_le_length (by omega),List.take_add_one,h];rfl
 rw[e3,List.map_append];rfl
def StD (A:Mem) (N:NF) (m:Nat) (M:Mem):Prop:=
 (m<=(stK N m).length/\(stK N m).length<=4096)/\∃(f1 o1 f2 o2 f3 o3 f o:Bool) (q:Nat->Nat) (v:Nat),M=kH A f1 o1 f2 o2 f3 o3 f o N q (stK N m) (rwK N m) (fnK N m) v m
theorem CE {A:Mem} {f1 o1 f2 o2 f3 o3 f o:Bool} {N:NF} {q:Nat->Nat} {S:List (BitVec 64)} {rows:List (List Int)} {fins:List Bool} {v:Nat} {u:Int} :
  (kH A f1 o1 f2 o2 f3 o3 f o N q S rows fins v u).take (A.length+7)=A++f8 A.length f1 o1 f2 o2 f3 o3 f o N q S rows fins:=mQ
theorem SB {A:Mem} {f1 o1 f2 o2 f3 o3 f o:Bool} {N:NF} {q:Nat->Nat} {S:List (BitVec 64)} {rows:List (List Int)} {fins:List Bool} {v:Nat} {u:Int} :
  (kH A f1 o1 f2 o2 f3 o3 f o N q S rows fins v u).drop (A.length+7)=[.cells 0 v [.iface 116 (.ptr (A.length+4) 0 0),p64 u]]:=by
 unfold kH
 rw[<-List.append_assoc]
 exact List.drop_left' (by simp[f8])
theorem EL {A:Mem} {f1 o1 f2 o2 f3 o3 f o:Bool} {N:NF} {q:Nat->Nat} {S:List (BitVec 64)} {rows:List (List Int)} {fins:List Bool} {v:Nat} {u:Int} :
  (kH A f1 o1 f2 o2 f3 o3 f o N q S rows fins v u)[A.length+7]? =some (.cells 0 v [.iface 116 (.ptr (A.length+4) 0 0),p64 u]):=by
 unfold kH;rw[gk];rfl
theorem XI {A:Mem} {f1 o1 f2 o2 f3 o3 f o:Bool} {N:NF} {q:Nat->Nat} {S:List (BitVec 64)} {rows:List (List Int)} {fins:List Bool} {v v':Nat} {u u':Int} :
  (kH A f1 o1 f2 o2 f3 o3 f o N q S rows fins v u).set (A.length+7) (.cells 0 v' [.iface 116 (.ptr (A.length+4) 0 0),p64 u'])=kH A f1 o1 f2 o2 f3 o3 f o N q S rows fins v' u':=by
 unfold kH;rw[sk];rfl
theorem HV {A:Mem} {f1 o1 f2 o2 f3 o3 f o:Bool} {N:NF} {q:Nat->Nat} {S:List (BitVec 64)} {rows:List (List Int)} {fins:List Bool} {v:Nat} {u:Int} :
  (A++f8 A.length f1 o1 f2 o2 f3 o3 f o N q S rows fins)++[.cells 0 v [.iface 116 (.ptr (A.length+4) 0 0),p64 u]]=kH A f1 o1 f2 o2 f3 o3 f o N q S rows fins v u:=by
 unfold kH;rw[List.append_assoc]
theorem ER {N:NF} {m:Nat} (h:m<=(stK N m).length):(fnK N m).length=m:=by unfold fnK;rw[List.length_map,List.length_take];omega
section
variable {tab:FuncId->Option AF} (T:HasA tab)
include T
theorem XH {A:Mem} {N:NF} (hc:gJ N=0) (B:BnN N) (hA:A.all (bH A.length)=true):
  JobK tab (A.length+7) (A.length+4) 116 253 252 10 (fun m=>(stK N m).length<=m) (fun m=>m<(stK N m).length/\4096<(stK N (m+1)).length) (fun m=>decide (m<(stK N m).length)) (StD A N) where
 job:=by
  rintro m M ⟨_,f1,o1,f2,o2,f3,o3,f,o,q,v,rfl⟩
  exact⟨v,EL⟩
 sm:=by
  rintro m M ⟨⟨h1,h2⟩,_⟩
  omega
 unit:=by
  rintro m M ⟨⟨h1,h2⟩,f1,o1,f2,o2,f3,o3,f,o,q,v,rfl⟩ K k1 k2 k3
  have hrl:(rwK N m).length=m:=o7 h1
  have hfl:=ER h1
  have fin:∀(r:PV) (f1 o1 f2 o2 f3 o3 f o:Bool) (q:Nat->Nat) (S:List (BitVec 64)) (rows:List (List Int)) (fins:List Bool),r.under (A.length+7)=true->K r (kH A f1 o1 f2 o2 f3 o3 f o N q S rows fins v m)->
    r.under (A.length+7)=true/\(A++f8 A.length f1 o1 f2 o2 f3 o3 f o N q S rows fins).length=A.length+7/\(A++f8 A.length f1 o1 f2 o2 f3 o3 f o N q S rows fins).all (bH (A.length+7))=true/\K r ((A++f8 A.length f1 o1 f2 o2 f3 o3 f o N q S rows fins)++[.cells 0 v [.iface 116 (.ptr (A.length+4) 0 0),p64 m]]):=
   fun r f1 o1 f2 o2 f3 o3 f o q S rows fins hr hK=>⟨hr,by simp[f8],oS hA ..,by rw[HV];exact hK⟩
  refine oX (m:=A.length+7) (by simp[kH,f8]) (by simp[aU,PV.under]) (by rw[CE];exact oS hA ..) ?_
  rw[CE,SB]
  refine aBw T hc B hA (lL _ _ _ m) h2 (by rw[hrl,hfl]) (fun h=>?_) (fun a ga h=>?_) (fun a ga h q'=>?_)
  ·rw[hrl]at h
   exact fin _ _ _ _ _ _ _ _ _ _ _ _ _ (by simp[PV.under,aU]) (k1 h _ ⟨⟨h1,h2⟩,_,_,_,_,_,_,_,_,_,_,rfl⟩)
  ·rw[hrl]at ga
   have hs:stK N (m+1)=eH (b9 N) a (bJ N) (stK N m):=i7 ga
   rw[<-hs]at h
   exact fin _ _ _ _ _ _ _ _ _ _ _ _ _ (by simp[PV.under,aU]) (k2 ⟨aZ ga,h⟩ _ ⟨⟨h1,h2⟩,_,_,_,_,_,_,_,_,_,_,rfl⟩)
  ·rw[hrl]at ga
   have hs:stK N (m+1)=eH (b9 N) a (bJ N) (stK N m):=i7 ga
   have hr:=xC ga
   have hf:=XV ga
   have hlt:=aZ ga
   rw[<-hs]at h
   refine fin _ _ _ _ _ _ _ _ _ _ _ _ _ (by simp[PV.under,aU]) (k3 (by omega) (fun q=>by omega) _ v EL ?_)
   rw[XI]
   refine⟨⟨?_,h⟩,f1,o1,f2,o2,f3,o3,true,false,q',v+1,?_⟩
   ·obtain⟨r,e⟩:=kZ (b9 N) a (bJ N) (stK N m)
    by_cases hl:(stK N m).length=m
    ·omega
    ·rw[hs,e];simp;omega
   ·rw[hs,show rwK N (m+1)=_ from hr,hf]
 left:=by
  rintro m M ⟨⟨h1,h2⟩,f1,o1,f2,o2,f3,o3,f,o,q,v,rfl⟩ K k
  have hrl:(rwK N m).length=m:=o7 h1
  unfold kH
  refine O2 T ?_
  rw[hrl]
  exact k _ ⟨⟨h1,h2⟩,_,_,_,_,_,_,_,_,_,_,rfl⟩
 meth:= .inl ⟨rfl,rfl,rfl⟩
end
section
variable {tab:FuncId->Option AF} (T:HasA tab)
include T
end
def itr (f:Nat->Nat) (v:Nat):Nat->Nat
 | 0=>v
 | j+1=>f (itr f v j)
def its (f:Nat->Nat) (v m:Nat):List Nat:=(List.range m).map (itr f v)
section
variable {O:Nat->Int} {S:Nat->List Nat} {R:Nat->Int} {D:Nat->Prop} {p q:Int}
end
def mT:List Nat->Nat
 | []=>1
 | n::ns=>(n+1)*mT ns
def mr:List Nat->List Int->Nat
 | n::ns,c::cs=>c.toNat+(n+1)*mr ns cs
 | _,_=>0
def mOk:List Nat->List Int->Prop
 | n::ns,c::cs=>0<=c/\c<=n/\mOk ns cs
 | [],[]=>True
 | _,_=>False
theorem WG:∀ns:List Nat,0<mT ns
 | []=>by decide
 | n::ns=>Nat.mul_pos (Nat.succ_pos _) (WG ns)
theorem OI:∀{ns:List Nat} {cs:List Int},mOk ns cs->cs.length=ns.length
 | [],[],_=>rfl
 | n::ns,c::cs,h=>by simp[OI h.2.2]
 | [],_::_,h=>h.elim
 | _::_,[],h=>h.elim
theorem B6:∀{ns:List Nat} {cs:List Int},mOk ns cs->mr ns cs<mT ns
 | [],[],_=>by decide
 | n::ns,c::cs,⟨h0,h1,h2⟩=>by
  have:=B6 h2
  have h3:(n+1)*(mr ns cs+1)<=(n+1)*mT ns:=Nat.mul_le_mul_left _ this
  rw[Nat.mul_add]at h3
  show c.toNat+(n+1)*mr ns cs<(n+1)*mT ns
  omega
 | [],_::_,h=>h.elim
 | _::_,[],h=>h.elim
theorem WA:∀{ns:List Nat} {cs ds:List Int},mOk ns cs->mOk ns ds->mr ns cs=mr ns ds->cs=ds
 | [],[],[],_,_,_=>rfl
 | n::ns,c::cs,d::ds,⟨h0,h1,h2⟩,⟨g0,g1,g2⟩,e=>by
  have e:c.toNat+(n+1)*mr ns cs=d.toNat+(n+1)*mr ns ds:=e
  have e1:=congrArg (· % (n+1)) e
  simp only[Nat.add_mul_mod_self_left]at e1
  rw[Nat.mod_eq_of_lt (by omega),Nat.mod_eq_of_lt (by omega)]at e1
  have e2:(n+1)*mr ns cs=(n+1)*mr ns ds:=by omega
  have e3:=Nat.eq_of_mul_eq_mul_left (Nat.succ_pos n) e2
  rw[WA h2 g2 e3,show c=d by omega]
 | [],_::_,_,h,_,_=>h.elim
 | _::_,[],_,h,_,_=>h.elim
 | [],[],_::_,_,h,_=>h.elim
 | _::_,_::_,[],_,h,_=>h.elim
theorem WH:∀{ns:List Nat} {cs:List Int},cs.length=ns.length->(∀(u:Nat) (c:Int) (n:Nat),cs[u]? =some c->ns[u]? =some n->0<=c/\c<=n)->mOk ns cs
 | [],[],_,_=>trivial
 | n::ns,c::cs,hl,h=>⟨(h 0 c n rfl rfl).1,(h 0 c n rfl rfl).2,WH (by simpa using hl) fun u c n h1 h2=>h (u+1) c n (by simpa using h1) (by simpa using h2)⟩
 | [],_::_,h,_=>by simp at h
 | _::_,[],h,_=>by simp at h
theorem OJ:∀{ns:List Nat} {cs:List Int},mOk ns cs->∀{u:Nat} {c:Int} {n:Nat},cs[u]? =some c->ns[u]? =some n->0<=c/\c<=n
 | n::ns,c::cs,⟨h0,h1,h2⟩,0,x,y,hx,hy=>by simp at hx hy;subst hx;subst hy;exact⟨h0,h1⟩
 | n::ns,c::cs,⟨h0,h1,h2⟩,u+1,x,y,hx,hy=>OJ h2 (by simpa using hx) (by simpa using hy)
 | [],[],_,_,_,_,hx,_=>by simp at hx
 | [],_::_,h,_,_,_,_,_=>h.elim
 | _::_,[],h,_,_,_,_,_=>h.elim
def mB (ns:List Nat) (q:Nat):Nat:=mT (ns.take q)
theorem WI (ns:List Nat) (q:Nat):0<mB ns q:=WG _
theorem oO:∀(ns:List Nat) (q:Nat),mT ns=mB ns q*mT (ns.drop q)
 | ns,0=>by simp[mB,mT]
 | [],q+1=>by simp[mB,mT]
 | n::ns,q+1=>by
  have h:=oO ns q
  show(n+1)*mT ns=(n+1)*mT (ns.take q)*mT (ns.drop q)
  rw[h,Nat.mul_assoc];rfl
theorem aAX {ns:List Nat} {q n:Nat} (h:ns[q]? =some n):mB ns (q+1)=mB ns q*(n+1):=by
 induction ns generalizing q with
 | nil=>simp at h
 | cons a ns ih=>
  cases q with
  | zero=>simp at h;subst h;simp[mB,mT]
  | succ q=>
   have:=ih (q:=q) (by simpa using h)
   show(a+1)*mB ns (q+1)=(a+1)*mB ns q*(n+1)
   rw[this,Nat.mul_assoc]
theorem rP:∀{ns:List Nat} {cs:List Int} (q:Nat),mOk ns cs->mOk (ns.drop q) (cs.drop q)
 | ns,cs,0,h=>by simpa using h
 | [],[],q+1,h=>by simpa using h
 | n::ns,c::cs,q+1,h=>by simpa using rP q h.2.2
 | [],_::_,_+1,h=>h.elim
 | _::_,[],_+1,h=>h.elim
theorem D7:∀{ns:List Nat} {cs:List Int} (q:Nat),mOk ns cs->mr ns cs / mB ns q=mr (ns.drop q) (cs.drop q)
 | ns,cs,0,h=>by simp[mB,mT]
 | [],[],q+1,h=>by simp[mB,mT,mr]
 | n::ns,c::cs,q+1,⟨h0,h1,h2⟩=>by
  show(c.toNat+(n+1)*mr ns cs) / ((n+1)*mB ns q)=mr (ns.drop q) (cs.drop q)
  rw[<-Nat.div_div_eq_div_mul,Nat.add_mul_div_left _ _ (Nat.succ_pos n),Nat.div_eq_of_lt (show c.toNat<n.succ by show c.toNat<n+1;omega),Nat.zero_add,D7 q h2]
 | [],_::_,_+1,h=>h.elim
 | _::_,[],_+1,h=>h.elim
theorem xU:∀(q:Nat) {ns:List Nat} {ds:List Int},ds.length+q=ns.length->mr ns (List.replicate q 0++ds)=mB ns q*mr (ns.drop q) ds
 | 0,ns,ds,h=>by simp[mB,mT]
 | q+1,[],ds,h=>by simp at h
 | q+1,n::ns,ds,h=>by
  show(0:Int).toNat+(n+1)*mr ns (List.replicate q 0++ds)=(n+1)*mB ns q*mr (ns.drop q) ds
  rw[xU q (by simp at h;omega),Nat.mul_assoc];simp
theorem tI:∀(q:Nat) {ns:List Nat} {ds:List Int},q<=ns.length->mOk (ns.drop q) ds->mOk ns (List.replicate q 0++ds)
 | 0,ns,ds,_,h=>by simpa using h
 | q+1,[],ds,h,_=>by simp at h
 | q+1,n::ns,ds,h,h2=>⟨by decide,by omega,tI q (by simpa using h) (by simpa using h2)⟩
structure Ms where
 top:Bool
 c:List Int
 h:c.length=8
def Ms.Ok (ns:List Nat) (x:Ms):Prop:=mOk ns x.c/\(x.top=true->x.c=List.replicate 8 0)
def Ms.num (ns:List Nat) (x:Ms):Nat:=if x.top=true then mT ns else mr ns x.c
def mz:Ms:=⟨false,List.replicate 8 0,by simp⟩
def mtop:Ms:=⟨true,List.replicate 8 0,by simp⟩
theorem Ms.ext' {x y:Ms} (h1:x.top=y.top) (h2:x.c=y.c):x=y:=by
 cases x;cases y;cases h1;cases h2;rfl
theorem D9:∀(ns:List Nat),mOk ns (List.replicate ns.length 0)
 | []=>trivial
 | n::ns=>⟨by decide,by omega,D9 ns⟩
theorem V9:∀(ns:List Nat) (k:Nat),mr ns (List.replicate k 0)=0
 | [],k=>by simp[mr]
 | n::ns,0=>by simp[mr]
 | n::ns,k+1=>by
  show(0:Int).toNat+(n+1)*mr ns (List.replicate k 0)=0
  rw[V9 ns k];simp
section
variable {ns:List Nat}
theorem Ms.num_le {x:Ms} (h:x.Ok ns):x.num ns<=mT ns:=by
 unfold Ms.num
 split
 ·exact Nat.le_refl _
 ·exact Nat.le_of_lt (B6 h.1)
theorem Ms.num_top {x:Ms} (h:x.Ok ns):x.num ns=mT ns↔x.top=true:=by
 unfold Ms.num
 split
 ·rename_i e;simp[e]
 ·rename_i e;have:=B6 h.1;simp[e];omega
theorem Ms.inj {x y:Ms} (hx:x.Ok ns) (hy:y.Ok ns) (e:x.num ns=y.num ns):x=y:=by
 have h1:=Ms.num_top hx
 have h2:=Ms.num_top hy
 rw[e]at h1
 have h3:x.top=true↔y.top=true:=h1.symm.trans h2
 cases hxt:x.top with
 | true=>
  have hyt:=h3.1 hxt
  exact Ms.ext' (by rw[hxt,hyt]) (by rw[hx.2 hxt,hy.2 hyt])
 | false=>
  have hyt:y.top=false:=by
   cases q:y.top with
   | true=>rw[h3.2 q]at hxt;cases hxt
   | false=>rfl
  refine Ms.ext' (by rw[hxt,hyt]) (WA hx.1 hy.1 ?_)
  simpa [Ms.num,hxt,hyt] using e
theorem aEA (h:ns.length=8):mz.Ok ns:=⟨by show mOk ns (List.replicate 8 0);rw[<-h];exact D9 ns,fun h=>by cases h⟩
theorem OH (h:ns.length=8):mtop.Ok ns:=⟨by show mOk ns (List.replicate 8 0);rw[<-h];exact D9 ns,fun _=>rfl⟩
theorem V4:mz.num ns=0:=by
 show(if false=true then _ else mr ns (List.replicate 8 0))=0
 rw[if_neg (by decide),V9]
theorem V5:mtop.num ns=mT ns:=if_pos rfl
end
def lP (a b:Int):Int:=if a<b then-1 else if b<a then 1 else 0
def l5:List Int->List Int->Int
 | c::cs,d::ds=>if l5 cs ds=0 then lP c d else l5 cs ds
 | _,_=>0
def vP (x y:Ms):Int:=if x.top=true then(if y.top=true then 0 else 1) else if y.top=true then-1 else l5 x.c y.c
theorem pI {a b:Int} (h:a<b):lP a b= -1:=if_pos h
theorem pJ {a b:Int} (h:b<a):lP a b=1:=by unfold lP;rw[if_neg (by omega),if_pos h]
theorem tU (a:Int):lP a a=0:=by simp[lP]
theorem tT {a b:Int} :lP a b=0↔a=b:=by
 unfold lP;split
 ·constructor<;>intro h<;>omega
 ·split<;>constructor<;>intro h<;>omega
theorem CQ:∀{cs ds:List Int} (k:Nat),l5 (cs.drop k) (ds.drop k)≠0->l5 cs ds=l5 (cs.drop k) (ds.drop k)
 | cs,ds,0,_=>by simp
 | [],ds,k+1,h=>by simp[l5]at h
 | _::_,[],k+1,h=>by simp[l5]at h
 | c::cs,d::ds,k+1,h=>by
  have h:l5 (cs.drop k) (ds.drop k)≠0:=h
  have:=CQ k h
  show(if l5 cs ds=0 then lP c d else l5 cs ds)=l5 (cs.drop k) (ds.drop k)
  rw[if_neg (by rw[this];exact h),this]
theorem aBH {cs ds:List Int} {k:Nat} {c d:Int} (hc:cs[k]? =some c) (hd:ds[k]? =some d) (h:l5 (cs.drop (k+1)) (ds.drop (k+1))=0):l5 (cs.drop k) (ds.drop k)=lP c d:=by
 obtain⟨h1,e1⟩:=List.getElem?_eq_some_iff.1 hc
 obtain⟨h2,e2⟩:=List.getElem?_eq_some_iff.1 hd
 rw[List.drop_eq_getElem_cons h1,List.drop_eq_getElem_cons h2]
 show(if l5 _ _=0 then _ else _)=_
 rw[if_pos h,e1,e2]
theorem X7:∀{ns:List Nat} {cs ds:List Int},mOk ns cs->mOk ns ds->l5 cs ds=lP (mr ns cs) (mr ns ds)
 | [],[],[],_,_=>by simp[l5,lP,mr]
 | n::ns,c::cs,d::ds,⟨h0,h1,h2⟩,⟨g0,g1,g2⟩=>by
  have ih:=X7 h2 g2
  show(if l5 cs ds=0 then lP c d else l5 cs ds)=lP ((c.toNat+(n+1)*mr ns cs:Nat):Int) ((d.toNat+(n+1)*mr ns ds:Nat):Int)
  rw[ih]
  split
  ·rename_i e
   rw[tT]at e
   have e:mr ns cs=mr ns ds:=by omega
   rw[e]
   rcases Int.lt_trichotomy c d with q | q | q
   ·rw[pI q,pI (by omega)]
   ·rw[q,tU,tU]
   ·rw[pJ q,pJ (by omega)]
  ·rename_i e
   rw[tT]at e
   by_cases q1:mr ns cs<mr ns ds
   ·have:=Nat.mul_le_mul_left (n+1) (show mr ns cs+1<=mr ns ds by omega)
    rw[Nat.mul_add]at this
    rw[pI (by omega),pI (by omega)]
   ·have:=Nat.mul_le_mul_left (n+1) (show mr ns ds+1<=mr ns cs by omega)
    rw[Nat.mul_add]at this
    rw[pJ (by omega),pJ (by omega)]
 | [],_::_,_,h,_=>h.elim
 | _::_,[],_,h,_=>h.elim
 | [],[],_::_,_,h=>h.elim
 | _::_,_::_,[],_,h=>h.elim
theorem wG {ns:List Nat} {x y:Ms} (hx:x.Ok ns) (hy:y.Ok ns):vP x y=lP (x.num ns) (y.num ns):=by
 have h1:=B6 hx.1
 have h2:=B6 hy.1
 unfold vP Ms.num
 split
 ·split
  ·rw[tU]
  ·rw[pJ (by omega)]
 ·split
  ·rw[pI (by omega)]
  ·exact X7 hx.1 hy.1
theorem oU {a b:Int} :0<lP a b↔b<a:=by
 unfold lP;split
 ·constructor<;>intro h<;>omega
 ·split<;>constructor<;>intro h<;>omega
theorem II {a b:Int} :lP a b<0↔a<b:=by
 unfold lP;split
 ·constructor<;>intro h<;>omega
 ·split<;>constructor<;>intro h<;>omega
def vN (ns:List Nat) (p x:Nat):Nat:=min (mT ns) ((x / mB ns (p / 2)+p % 2)*mB ns (p / 2))
section
variable {ns:List Nat}
theorem aCr (p x:Nat):vN ns p x<=mT ns:=Nat.min_le_left _ _
theorem NQ {p x y:Nat} (h:x<=y):vN ns p x<=vN ns p y:=by
 unfold vN
 have h1:=Nat.div_le_div_right (c:=mB ns (p / 2)) h
 have h2:=Nat.mul_le_mul_right (mB ns (p / 2)) (Nat.add_le_add_right h1 (p % 2))
 omega
theorem aCT (p:Nat):vN ns p (mT ns)=mT ns:=by
 unfold vN
 have h:=oO ns (p / 2)
 have e:mT ns / mB ns (p / 2)=mT (ns.drop (p / 2)):=by
  rw[h,Nat.mul_div_cancel_left _ (WI _ _)]
 rw[e,Nat.add_mul,Nat.mul_comm (mT (ns.drop (p / 2)))]
 omega
theorem IF {q x:Nat} (h:x<mT ns):x / mB ns q<mT (ns.drop q):=by
 rw[Nat.div_lt_iff_lt_mul (WI _ _),Nat.mul_comm,<-oO];exact h
theorem T4 {p x:Nat} (h:x<mT ns):vN ns p x=(x / mB ns (p / 2)+p % 2)*mB ns (p / 2):=by
 unfold vN
 have h1:=IF (q:=p / 2) h
 have h2:(x / mB ns (p / 2)+p % 2)*mB ns (p / 2)<=mT (ns.drop (p / 2))*mB ns (p / 2):=Nat.mul_le_mul_right _ (by have:=Nat.mod_lt p (show 0<2 by decide);omega)
 rw[Nat.mul_comm (mT _),<-oO]at h2
 omega
theorem jK {α:Type} {l:List α} {q:Nat} {x:α} (h:l[q]? =some x):l.drop q=x::l.drop (q+1):=by
 obtain⟨h1,e⟩:=List.getElem?_eq_some_iff.1 h
 rw[List.drop_eq_getElem_cons h1,e]
end
def FI (f:Nat->Nat):List Nat->Nat
 | []=>0
 | [a]=>f a
 | a::b::l=>min (f a) (FI f (b::l))
def C3 (f:Nat->Nat):List Nat->Nat
 | []=>0
 | a::l=>max (f a) (C3 f l)
theorem qW {f:Nat->Nat} :∀{l:List Nat},l≠[]->∃u∈l,FI f l=f u
 | [],h=>absurd rfl h
 | [a],_=>⟨a,by simp,rfl⟩
 | a::b::l,_=>by
  obtain⟨u,h1,h2⟩:=qW (f:=f) (l:=b::l) (by simp)
  show ∃u∈a::b::l,min (f a) (FI f (b::l))=f u
  rcases Nat.le_total (f a) (FI f (b::l)) with h | h
  ·exact⟨a,by simp,Nat.min_eq_left h⟩
  ·exact⟨u,List.mem_cons_of_mem _ h1,by rw[Nat.min_eq_right h,h2]⟩
theorem C1 {f:Nat->Nat} :∀{l:List Nat} {u:Nat},u∈l->FI f l<=f u
 | [a],u,h=>by rw[List.mem_singleton]at h;subst h;exact Nat.le_refl _
 | a::b::l,u,h=>by
  show min (f a) (FI f (b::l))<=f u
  rcases List.mem_cons.1 h with e | h
  ·subst e;exact Nat.min_le_left _ _
  ·exact Nat.le_trans (Nat.min_le_right _ _) (C1 h)
theorem qX {f:Nat->Nat} :∀{l:List Nat},l≠[]->∃u∈l,C3 f l=f u
 | [],h=>absurd rfl h
 | [a],_=>⟨a,by simp,by simp[C3]⟩
 | a::b::l,_=>by
  obtain⟨u,h1,h2⟩:=qX (f:=f) (l:=b::l) (by simp)
  show ∃u∈a::b::l,max (f a) (C3 f (b::l))=f u
  rcases Nat.le_total (f a) (C3 f (b::l)) with h | h
  ·exact⟨u,List.mem_cons_of_mem _ h1,by rw[Nat.max_eq_right h,h2]⟩
  ·exact⟨a,by simp,Nat.max_eq_left h⟩
theorem C2 {f:Nat->Nat} :∀{l:List Nat} {u:Nat},u∈l->f u<=C3 f l
 | a::l,u,h=>by
  show f u<=max (f a) (C3 f l)
  rcases List.mem_cons.1 h with e | h
  ·subst e;exact Nat.le_max_left _ _
  ·exact Nat.le_trans (C2 h) (Nat.le_max_right _ _)
theorem aAg {f:Nat->Nat} {l:List Nat} {y:Nat} (h1:∃u∈l,y=f u) (h2:∀u∈l,y<=f u):y=FI f l:=by
 obtain⟨u,hu,e⟩:=h1
 obtain⟨w,hw,e2⟩:=qW (f:=f) (l:=l) (fun q=>by rw[q]at hu;cases hu)
 have:=C1 (f:=f) hu
 have:=h2 w hw
 omega
theorem aAh {f:Nat->Nat} {l:List Nat} {y:Nat} (h1:∃u∈l,y=f u) (h2:∀u∈l,f u<=y):y=C3 f l:=by
 obtain⟨u,hu,e⟩:=h1
 obtain⟨w,hw,e2⟩:=qX (f:=f) (l:=l) (fun q=>by rw[q]at hu;cases hu)
 have:=C2 (f:=f) hu
 have:=h2 w hw
 omega
def lN (ns:List Nat) (O:Nat->Int) (S:Nat->List Nat) (R:Nat->Int) (m:Nat->Nat) (v:Nat):Nat:=
 if O v=0 then FI (fun u=>vN ns (R v).toNat (m u)) (S v) else C3 (fun u=>vN ns (R v).toNat (m u)) (S v)
def m3 (m:Nat->Nat) (v x:Nat):Nat->Nat:=fun u=>if u=v then x else m u
structure Lft (n T:Nat) (L:(Nat->Nat)->Nat->Nat):Prop where
 bnd:∀m v,v<n->L m v<=T
 mono:∀m m' v,v<n->(∀u,u<n->m u<=m' u)->L m v<=L m' v
def uB (n:Nat) (L:(Nat->Nat)->Nat->Nat) (m:Nat->Nat):Prop:=∀v,v<n->L m v<=m v
structure LI (n T:Nat) (L:(Nat->Nat)->Nat->Nat) (m:Nat->Nat):Prop where
 bnd:∀v,v<n->m v<=T
 up:∀v,v<n->m v<=L m v
 low:∀m',uB n L m'->∀v,v<n->m v<=m' v
theorem aDl {n:Nat} {ns:List Nat} {O:Nat->Int} {S:Nat->List Nat} {R:Nat->Int} (hS:∀v,v<n->S v≠[]/\∀u∈S v,u<n):Lft n (mT ns) (lN ns O S R) where
 bnd:=fun m v hv=>by
  unfold lN
  split
  ·obtain⟨u,_,e⟩:=qW (f:=fun u=>vN ns (R v).toNat (m u)) (hS v hv).1
   rw[e];exact aCr _ _
  ·obtain⟨u,_,e⟩:=qX (f:=fun u=>vN ns (R v).toNat (m u)) (hS v hv).1
   rw[e];exact aCr _ _
 mono:=fun m m' v hv h=>by
  unfold lN
  split
  ·obtain⟨u,hu,e⟩:=qW (f:=fun u=>vN ns (R v).toNat (m' u)) (hS v hv).1
   rw[e]
   exact Nat.le_trans (C1 hu) (NQ (h u ((hS v hv).2 u hu)))
  ·obtain⟨u,hu,e⟩:=qX (f:=fun u=>vN ns (R v).toNat (m u)) (hS v hv).1
   rw[e]
   exact Nat.le_trans (NQ (h u ((hS v hv).2 u hu))) (C2 (f:=fun u=>vN ns (R v).toNat (m' u)) hu)
section
variable {n T:Nat} {L:(Nat->Nat)->Nat->Nat} {m:Nat->Nat}
theorem LI.zero (hL:Lft n T L):LI n T L fun _=>0:=⟨fun _ _=>Nat.zero_le _,fun _ _=>Nat.zero_le _,fun _ _ _ _=>Nat.zero_le _⟩
theorem LI.step (hL:Lft n T L) (h:LI n T L m) {v:Nat} (hv:v<n):LI n T L (m3 m v (L m v)):=by
 have le:∀u,u<n->m u<=m3 m v (L m v) u:=fun u hu=>by
  unfold m3;split
  ·rename_i e;subst e;exact h.up u hu
  ·exact Nat.le_refl _
 refine⟨fun u hu=>?_,fun u hu=>?_,fun m' hm u hu=>?_⟩
 ·unfold m3;split
  ·exact hL.bnd _ _ hv
  ·exact h.bnd u hu
 ·have:=hL.mono m _ u hu le
  show(if u=v then L m v else m u)<=_
  split
  ·rename_i e;subst e;exact this
  ·exact Nat.le_trans (h.up u hu) this
 ·unfold m3;split
  ·rename_i e;subst e
   exact Nat.le_trans (hL.mono m m' u hu (h.low m' hm)) (hm u hu)
  ·exact h.low m' hm u hu
def rC:Nat->(Nat->Nat)->Nat
 | 0,_=>0
 | n+1,m=>rC n m+m n
theorem NT:∀{n:Nat} {m:Nat->Nat},(∀v,v<n->m v<=T)->rC n m<=n*T
 | 0,_,_=>by simp[rC]
 | n+1,m,h=>by
  have:=NT (n:=n) (m:=m) (fun v hv=>h v (by omega))
  have:=h n (by omega)
  show rC n m+m n<=(n+1)*T
  rw[Nat.add_mul];omega
theorem wY:∀{n:Nat} {m m':Nat->Nat},(∀v,v<n->m v=m' v)->rC n m=rC n m'
 | 0,_,_,_=>rfl
 | n+1,m,m',h=>by
  show rC n m+m n=rC n m'+m' n
  rw[wY (fun v hv=>h v (by omega)),h n (by omega)]
theorem FT:∀{n:Nat} {m:Nat->Nat} {v x:Nat},v<n->m v<x->rC n m<rC n (m3 m v x)
 | 0,_,_,_,h,_=>by omega
 | n+1,m,v,x,h,hx=>by
  show rC n m+m n<rC n (m3 m v x)+m3 m v x n
  by_cases e:v=n
  ·subst e
   rw[wY (n:=v) (m:=m3 m v x) (m':=m) (fun u hu=>by unfold m3;rw[if_neg (by omega)])]
   unfold m3;rw[if_pos rfl];omega
  ·have:=FT (n:=n) (m:=m) (v:=v) (x:=x) (by omega) hx
   have e2:m3 m v x n=m n:=by unfold m3;rw[if_neg (by omega)]
   omega
def FstN (n:Nat) (L:(Nat->Nat)->Nat->Nat) (m:Nat->Nat) (v:Nat):Prop:=v<n/\m v<L m v/\∀u,u<v->L m u<=m u
theorem FstN.eq {v u:Nat} (h:FstN n L m v) (k:FstN n L m u):v=u:=by
 rcases Nat.lt_trichotomy v u with q | q | q
 ·have:=k.2.2 v q;have:=h.2.1;omega
 ·exact q
 ·have:=h.2.2 u q;have:=k.2.1;omega
open Classical in
noncomputable def rG (n:Nat) (L:(Nat->Nat)->Nat->Nat) (m:Nat->Nat):Nat->Nat:=
 if h:∃v,FstN n L m v then m3 m (Classical.choose h) (L m (Classical.choose h)) else m
theorem rF {v:Nat} (h:FstN n L m v):rG n L m=m3 m v (L m v):=by
 unfold rG
 have q:∃v,FstN n L m v:=⟨v,h⟩
 rw[dif_pos q,(Classical.choose_spec q).eq h]
theorem UH (h:uB n L m):rG n L m=m:=by
 unfold rG
 rw[dif_neg]
 rintro⟨v,h1,h2,_⟩
 have:=h v h1;omega
noncomputable def itN (n:Nat) (L:(Nat->Nat)->Nat->Nat):Nat->Nat->Nat
 | 0=>fun _=>0
 | k+1=>rG n L (itN n L k)
theorem XO (hL:Lft n T L):∀k,LI n T L (itN n L k)
 | 0=>LI.zero hL
 | k+1=>by
  have ih:=XO hL k
  by_cases h:∃v,FstN n L (itN n L k) v
  ·obtain⟨v,hv⟩:=h
   show LI n T L (rG n L (itN n L k))
   rw[rF hv];exact ih.step hL hv.1
  ·show LI n T L (rG n L (itN n L k))
   unfold rG;rw[dif_neg h];exact ih
theorem OV {k:Nat} (h:uB n L (itN n L k)):∀d,itN n L (k+d)=itN n L k
 | 0=>rfl
 | d+1=>by
  show rG n L (itN n L (k+d))=_
  rw[OV h d,UH h]
end
def msC (x:Ms):List PV:=PV.bool x.top::x.c.map (PV.int .i64)
def msL (l:List Ms):List PV:=l.flatMap msC
def cA (pr:List Int):List Nat:=vH 8 fun k=>pr.count ((2*k+1:Nat):Int)
def kB (l:List Nat):List PV:=l.map fun(n:Nat)=>p64 n
def kJ (f1 o1 f2 o2 f3 o3 f4 o4:Bool) (ow pr:List Int) (su:List (List Int)):List PV:=slI f1 o1 .u8 ow::slI f2 o2 .i64 pr::slR f3 o3 f4 o4 .i64 su::kB (cA pr)
abbrev slM (f o:Bool) (l:List Ms):PV:= .sl f o 9 l.length (msL l)
def Ms.put (x:Ms) (k:Nat) (c:Int):Ms:=⟨x.top,x.c.set k c,by simp[x.h]⟩
theorem aP (x:Ms):(msC x).length=9:=by simp[msC,x.h]
theorem mM (pr:List Int):(cA pr).length=8:=oA _ _
theorem aJ (pr:List Int):(kB (cA pr)).length=8:=by simp[kB,mM]
theorem aS (x:Ms):(msC x).all PV.one=true:=by simp[msC,PV.one]
theorem aN (l:List Nat):(kB l).all PV.one=true:=by simp[kB,PV.one]
theorem aR (m:Nat) (x:Ms):aU m (msC x)=true:=by
 unfold msC;rw[hH,bW];simp[PV.under]
theorem aK (m:Nat) (l:List Nat):aU m (kB l)=true:=by
 unfold kB;exact gG _ _ (fun _=>by simp[PV.under]) _
theorem bK (x:Ms):(msC x)[0]? =some (.bool x.top):=rfl
theorem K6 {x:Ms} {k:Nat} {c:Int} (h:x.c[k]? =some c):(msC x)[1+k]? =some (p64 c):=by
 rw[Nat.add_comm];unfold msC;simp[h]
theorem D6 (x:Ms) (k:Nat) (c:Int):(msC x).set (1+k) (p64 c)=msC (x.put k c):=by
 rw[Nat.add_comm];unfold msC Ms.put;simp[List.map_set]
theorem aL (x:Ms):cW (msC x) 0 9=msC x:=dJ _ _ (aP x).symm
theorem aD (pr:List Int):cW (kB (cA pr)) 0 8=kB (cA pr):=dJ _ _ (aJ pr).symm
theorem GP {a b:List PV} (h:a.length=b.length) (h2:2<=b.length):lR a 0 b=b:=by
 match b,h2 with
 | x::y::l,_=>
  show a.take 0++(x::y::l)++a.drop (0+(x::y::l).length)=x::y::l
  rw[List.drop_of_length_le (by rw[h];simp)];simp
theorem aE (x y:Ms):lR (msC y) 0 (msC x)=msC x:=GP (by rw[aP,aP]) (by rw[aP];decide)
def aAZ:List Nat:=List.replicate 8 0
theorem z8:[p64 0,p64 0,p64 0,p64 0,p64 0,p64 0,p64 0,p64 0]=kB aAZ:=rfl
theorem z9:PV.bool false::kB aAZ=msC mz:=rfl
theorem z9t:(msC mz).set 0 (.bool true)=msC mtop:=rfl
theorem aA (pr:List Int):lR (kB aAZ) 0 (kB (cA pr))=kB (cA pr):=GP (by rw[aJ];rfl) (by rw[aJ];decide)
theorem OM {l:List Nat} {k n:Nat} (h:l[k]? =some n):(kB l)[k]? =some (p64 n):=by unfold kB;simp[h]
theorem WP (l:List Nat) (k n:Nat):(kB l).set k (p64 n)=kB (l.set k n):=by unfold kB;simp[List.map_set]
section
variable {f1 o1 f2 o2 f3 o3 f4 o4:Bool} {ow pr:List Int} {su:List (List Int)}
theorem aX:(kJ f1 o1 f2 o2 f3 o3 f4 o4 ow pr su)[0]? =some (slI f1 o1 .u8 ow):=rfl
theorem aW:(kJ f1 o1 f2 o2 f3 o3 f4 o4 ow pr su)[1]? =some (slI f2 o2 .i64 pr):=rfl
theorem aV:(kJ f1 o1 f2 o2 f3 o3 f4 o4 ow pr su)[2]? =some (slR f3 o3 f4 o4 .i64 su):=rfl
theorem NV {k n:Nat} (h:(cA pr)[k]? =some n):(kJ f1 o1 f2 o2 f3 o3 f4 o4 ow pr su)[3+k]? =some (p64 n):=by
 rw[Nat.add_comm];exact OM h
theorem aI (m:Nat):aU m (kJ f1 o1 f2 o2 f3 o3 f4 o4 ow pr su)=true:=by
 unfold kJ
 simp only[hH,gT,l9,aK,Bool.and_self]
end
theorem aG (cs:List PV) (o:Nat):dY (.cp cs o)=[.cp cs o]:=(rfl)
theorem aY (cs:List PV) (o:Nat):PV.one (.cp cs o)=true:=(rfl)
theorem aH:(kB aAZ).length=8:=rfl
theorem aF (n:Nat) (M:Mem) (x:Ms):gD n M (msC x)=some (msC x):=j7 (aR _ _)
theorem aB (n:Nat) (M:Mem) (l:List Nat):gD n M (kB l)=some (kB l):=j7 (aK _ _)
theorem aQ (l:List Ms):(msL l).length=l.length*9:=by
 unfold msL
 induction l with
 | nil=>rfl
 | cons x l ih=>rw[List.flatMap_cons,List.length_append,ih,aP,List.length_cons,Nat.add_mul];omega
theorem aT (l:List Ms):(msL l).all PV.one=true:=by
 unfold msL
 induction l with
 | nil=>rfl
 | cons x l ih=>rw[List.flatMap_cons,List.all_append,ih,aS];rfl
theorem aO (m:Nat) (l:List Ms):aU m (msL l)=true:=by
 unfold msL
 induction l with
 | nil=>exact iS _
 | cons x l ih=>rw[List.flatMap_cons,lW,ih,aR];rfl
theorem aC (m:Nat) (f o:Bool) (sz n:Nat) (l:List Ms):PV.under m (.sl f o sz n (msL l))=true:=by
 simp only[PV.under];exact aO m l
theorem aAT (l:List Ms) (x:Ms):msL l++msC x=msL (l++[x]):=by simp[msL]
theorem B5 {l:List Ms} {k:Nat} {x:Ms} (h:l[k]? =some x):∃a b,msL l=a++msC x++b/\a.length=k*9/\(∀y,msL (l.set k y)=a++msC y++b):=by
 obtain⟨hk,e⟩:=List.getElem?_eq_some_iff.1 h
 refine⟨msL (l.take k),msL (l.drop (k+1)),?_,?_,fun y=>?_⟩
 ·conv=>lhs;rw[<-List.take_append_drop k l,List.drop_eq_getElem_cons hk,e]
  simp[msL]
 ·rw[aQ];simp;omega
 ·rw[List.set_eq_take_append_cons_drop,if_pos hk]
  simp[msL]
theorem hP {l:List Ms} {k:Nat} {x:Ms} (h:l[k]? =some x):cW (msL l) (k*9) 9=msC x:=by
 obtain⟨a,b,h1,h2,_⟩:=B5 h
 unfold cW
 rw[h1,<-h2,List.append_assoc,List.drop_left,List.take_left' (aP x)]
theorem B0 {l:List Ms} {k:Nat} (y:Ms) (h:k<l.length):lR (msL l) (k*9) (msC y)=msL (l.set k y):=by
 obtain⟨a,b,h1,h2,h3⟩:=B5 (List.getElem?_eq_getElem h)
 rw[h3,h1,<-h2]
 have e:msC y=PV.bool y.top::y.c.map (PV.int .i64):=rfl
 have hl:(msC y).length=9:=aP y
 have hc:∃c cs,y.c.map (PV.int .i64)=c::cs:=by
  cases q:y.c.map (PV.int .i64) with
  | nil=>rw[e,q]at hl;simp at hl
  | cons c cs=>exact⟨c,cs,rfl⟩
 obtain⟨c,cs,q⟩:=hc
 have:lR (a++msC (l[k])++b) a.length (msC y)=(a++msC l[k]++b).take a.length++msC y++(a++msC l[k]++b).drop (a.length+(msC y).length):=by
  rw[e,q];rfl
 rw[this,hl,<-aP l[k],<-List.length_append,List.drop_left,List.append_assoc a,List.take_left' rfl]
theorem aM (n:Nat):eZ n (msC mz)=msL (List.replicate n mz):=by
 induction n with
 | zero=>rfl
 | succ n ih=>show msC mz++eZ n (msC mz)=_;rw[ih,List.replicate_succ];rfl
theorem xT {l:List Ms} {k:Nat} {x:Ms} (h:l[k]? =some x):k*9+9<=l.length*9:=by
 have:=aZ h;omega
instance:DecidableEq Ms:=fun x y=>if h:x.top=y.top/\x.c=y.c then isTrue (Ms.ext' h.1 h.2) else isFalse fun e=>h (by subst e;exact⟨rfl,rfl⟩)
def Ms.fit (x:Ms):Prop:=∀c∈x.c,-9223372036854775808<=c/\c<=9223372036854775807
theorem wV:∀l:List Int,hI (l.map (PV.int .i64))=some (l.map (AV.int .i64))
 | []=>rfl
 | x::l=>by
  show(match dQ (PV.int .i64 x),hI (l.map (PV.int .i64)) with | some x,some xs=>some (x::xs) | _,_=>none)=_
  rw[wV l];rfl
theorem HQ {c:Int} (h: -9223372036854775808<=c/\c<=9223372036854775807):R6 .i64 c=true:=by
 unfold R6;simp;exact h
theorem IB:∀{a b:List Int},a.length=b.length->(∀c∈a,-9223372036854775808<=c/\c<=9223372036854775807)->(∀c∈b,-9223372036854775808<=c/\c<=9223372036854775807)->gP (List.replicate a.length (some .i64)) (a.map (AV.int .i64)) (b.map (AV.int .i64))=some (decide (a=b))
 | [],[],_,_,_=>rfl
 | x::a,y::b,hl,ha,hb=>by
  have ih:=IB (a:=a) (b:=b) (by simpa using hl) (fun c h=>ha c (List.mem_cons_of_mem _ h)) (fun c h=>hb c (List.mem_cons_of_mem _ h))
  rw[List.length_cons,List.replicate_succ,List.map_cons,List.map_cons]
  unfold gP
  rw[if_pos ⟨rfl,rfl,HQ (ha x (by simp)),HQ (hb y (by simp))⟩,ih]
  simp only[Option.some.injEq,List.cons.injEq]
  by_cases e:x=y<;>by_cases e2:a=b<;>simp[e,e2]
 | [],_::_,h,_,_=>by simp at h
 | _::_,[],h,_,_=>by simp at h
theorem aAG {x y:Ms} (hx:x.fit) (hy:y.fit):oI [none,some .i64,some .i64,some .i64,some .i64,some .i64,some .i64,some .i64,some .i64] (msC x) (msC y)=some (decide (x=y)):=by
 have h:=IB (a:=x.c) (b:=y.c) (by rw[x.h,y.h]) hx hy
 rw[x.h]at h
 unfold oI msC
 have e1:∀z:Ms,hI (PV.bool z.top::z.c.map (PV.int .i64))=some (AV.bool z.top::z.c.map (AV.int .i64)):=fun z=>by
  show(match dQ (PV.bool z.top),hI (z.c.map (PV.int .i64)) with | some x,some xs=>some (x::xs) | _,_=>none)=_
  rw[wV];rfl
 rw[e1 x,e1 y]
 show gP (none::List.replicate 8 (some .i64)) (AV.bool x.top::x.c.map (AV.int .i64)) (AV.bool y.top::y.c.map (AV.int .i64))=_
 unfold gP
 rw[h]
 simp only[Option.some.injEq]
 by_cases e:x=y
 ·subst e;simp
 ·rw[decide_eq_false e]
  by_cases e1:x.top=y.top
  ·have:x.c≠y.c:=fun q=>e (Ms.ext' e1 q)
   simp[this]
  ·have:(x.top==y.top)=false:=by simpa using e1
   rw[this];rfl
theorem Ms.Ok.fit {ns:List Nat} {x:Ms} (h:x.Ok ns) (hn:∀n∈ns,n<1000000000000):x.fit:=fun c hc=>by
 obtain⟨k,hk⟩:=List.getElem?_of_mem hc
 have hl:=OI h.1
 have hk2:k<ns.length:=by have:=aZ hk;omega
 have key:∀{ns:List Nat} {cs:List Int},mOk ns cs->∀{u:Nat} {c:Int} {n:Nat},cs[u]? =some c->ns[u]? =some n->0<=c/\c<=n:=by
  intro ns
  induction ns with
  | nil=>intro cs h u c n hx hy;simp at hy
  | cons n ns ih=>
   intro cs h u c m hx hy
   cases cs with
   | nil=>exact h.elim
   | cons a cs=>
    cases u with
    | zero=>simp at hx hy;subst hx;subst hy;exact⟨h.1,h.2.1⟩
    | succ u=>exact ih h.2.2 (by simpa using hx) (by simpa using hy)
 have h1:=key h.1 hk (List.getElem?_eq_getElem hk2)
 have h2:=hn _ (List.getElem_mem hk2)
 omega
theorem OL {pr:List Int} (hb:pr.length<1000000000000):∀n∈cA pr,n<1000000000000:=fun n hn=>by
 obtain⟨v,_,rfl⟩:=FQ hn
 have:pr.count ((2*v+1:Nat):Int)<=pr.length:=List.count_le_length
 omega
theorem Ms.get {x:Ms} {k:Nat} (h:k<8):∃c,x.c[k]? =some c:=bY (by rw[x.h];exact h)
theorem G0 {j:Nat} (h:j<1000000000000):IntKind.i64.wrap ((j:Int)-1)=(j:Int)-1:=wrap64 (by omega) (by omega)
section
variable {tab:FuncId->Option AF} (T:HasA tab)
include T
theorem OX {M:Mem} {K:PV->Mem->Prop} {a:Int} (hk:K (.bool false) M):SemC tab 133 [p64 a] M K:=by
 refine a8 T.h133 (by simp only[PP,P1,P2,P14,P15,N1,N2,N3,N4,N5,N6,N7,I1,I2,I3,I4,I5,I6,I7,reduceIte,reduceCtorEq]) ?_
 simp only[af133,PP,P1,P2,P14,P15,N1,N2,N3,N4,N5,N6,N7,I1,I2,I3,I4,I5,I6,I7,reduceIte,reduceCtorEq]
 exact hk
theorem aFb {M:Mem} {K:PV->Mem->Prop} {a b:Int} (hk:K (p64 (lP a b)) M):SemC tab 78 [p64 a,p64 b] M K:=by
 refine a8 T.h78 (by simp only[PP,P1,P2,P14,P15,N1,N2,N3,N4,N5,N6,N7,I1,I2,I3,I4,I5,I6,I7,reduceIte,reduceCtorEq]) ?_
 simp only[af78,PP,P1,P2,P14,P15,N1,N2,N3,N4,N5,N6,N7,I1,I2,I3,I4,I5,I6,I7,reduceIte,reduceCtorEq]
 refine OX T ?_
 simp only[PP,P1,P2,P14,P15,N1,N2,N3,N4,N5,N6,N7,I1,I2,I3,I4,I5,I6,I7,reduceIte,reduceCtorEq]
 refine OX T ?_
 simp only[PP,P1,P2,P14,P15,N1,N2,N3,N4,N5,N6,N7,I1,I2,I3,I4,I5,I6,I7,reduceIte,reduceCtorEq]
 refine QIf.intro (fun c=>?_) (fun c=>?_)
 ·simp only[PP,P1,P2,P14,P15,N1,N2,N3,N4,N5,N6,N7,I1,I2,I3,I4,I5,I6,I7,reduceIte,reduceCtorEq,c]
  rw[pI c]at hk;exact hk
 ·simp only[PP,P1,P2,P14,P15,N1,N2,N3,N4,N5,N6,N7,I1,I2,I3,I4,I5,I6,I7,reduceIte,reduceCtorEq,c]
  refine QIf.intro (fun d=>?_) (fun d=>?_)
  ·simp only[PP,P1,P2,P14,P15,N1,N2,N3,N4,N5,N6,N7,I1,I2,I3,I4,I5,I6,I7,reduceIte,reduceCtorEq,d]
   rw[pJ d]at hk;exact hk
  ·simp only[PP,P1,P2,P14,P15,N1,N2,N3,N4,N5,N6,N7,I1,I2,I3,I4,I5,I6,I7,reduceIte,reduceCtorEq,d]
   rw[show lP a b=0 from by rw[tT];omega]at hk;exact hk
theorem kW {M:Mem} {K:PV->Mem->Prop} {x y:Ms} (hk:K (p64 (vP x y)) M):SemC tab 30 [.agg (msC x),.agg (msC y)] M K:=by
 refine a8 T.h30 (by simp only[PP,P1,P2,P14,P15,N1,N2,N3,N4,N5,N6,N7,I1,I2,I3,I4,I5,I6,I7,reduceIte,reduceCtorEq,aP,aS,aR,aC,bK,aL,aE,z9,z9t,aQ,aO,aT,aM,aJ,aN,aK,aH,aF,aB,aD,aA,z8,aG,aY,aI,aX,aW,aV]) ?_
 simp only[af30,PP,P1,P2,P14,P15,N1,N2,N3,N4,N5,N6,N7,I1,I2,I3,I4,I5,I6,I7,reduceIte,reduceCtorEq,aP,aS,aR,aC,bK,aL,aE,z9,z9t,aQ,aO,aT,aM,aJ,aN,aK,aH,aF,aB,aD,aA,z8,aG,aY,aI,aX,aW,aV]
 unfold vP at hk
 cases hx:x.top with
 | true=>
  rw[hx,if_pos rfl]at hk
  cases hy:y.top with
  | true=>rw[hy,if_pos rfl]at hk;simp only[PP,P1,P2,P14,P15,N1,N2,N3,N4,N5,N6,N7,I1,I2,I3,I4,I5,I6,I7,reduceIte,reduceCtorEq,aP,aS,aR,aC,bK,aL,aE,z9,z9t,aQ,aO,aT,aM,aJ,aN,aK,aH,aF,aB,aD,aA,z8,aG,aY,aI,aX,aW,aV,hx,hy];exact hk
  | false=>rw[hy,if_neg (by decide)]at hk;simp only[PP,P1,P2,P14,P15,N1,N2,N3,N4,N5,N6,N7,I1,I2,I3,I4,I5,I6,I7,reduceIte,reduceCtorEq,aP,aS,aR,aC,bK,aL,aE,z9,z9t,aQ,aO,aT,aM,aJ,aN,aK,aH,aF,aB,aD,aA,z8,aG,aY,aI,aX,aW,aV,hx,hy];exact hk
 | false=>
  rw[hx,if_neg (by decide)]at hk
  cases hy:y.top with
  | true=>rw[hy,if_pos rfl]at hk;simp only[PP,P1,P2,P14,P15,N1,N2,N3,N4,N5,N6,N7,I1,I2,I3,I4,I5,I6,I7,reduceIte,reduceCtorEq,aP,aS,aR,aC,bK,aL,aE,z9,z9t,aQ,aO,aT,aM,aJ,aN,aK,aH,aF,aB,aD,aA,z8,aG,aY,aI,aX,aW,aV,hx,hy];exact hk
  | false=>
   rw[hy,if_neg (by decide)]at hk
   simp only[PP,P1,P2,P14,P15,N1,N2,N3,N4,N5,N6,N7,I1,I2,I3,I4,I5,I6,I7,reduceIte,reduceCtorEq,aP,aS,aR,aC,bK,aL,aE,z9,z9t,aQ,aO,aT,aM,aJ,aN,aK,aH,aF,aB,aD,aA,z8,aG,aY,aI,aX,aW,aV,hx,hy]
   refine mL (fun(k:Int)=> -1<=k/\k<=7/\l5 (x.c.drop (k+1).toNat) (y.c.drop (k+1).toNat)=0) (fun k=>(.junk:: .junk:: .ptr 0 0 0:: .ptr 1 0 0:: .junk::p64 k::zj 30))
    (fun k=>[.cells 0 0 (msC x),.cells 0 0 (msC y)]) (fun k=>(k+1).toNat) 7 ⟨by decide,by decide,by
     rw[List.drop_of_length_le (by rw[x.h];decide)];rfl⟩ (by simp only[PW]) rfl ?_
   intro k ⟨h1,h2,h3⟩ ih
   refine bZ (by kernel_rfl) ?_
   simp only[PP,P1,P2,P14,P15,N1,N2,N3,N4,N5,N6,N7,I1,I2,I3,I4,I5,I6,I7,reduceIte,reduceCtorEq]
   refine QIf.intro (fun c=>?_) (fun c=>?_)
   ·obtain⟨j,rfl⟩:∃j:Nat,k=j:=⟨k.toNat,by omega⟩
    have j8:(j:Int)<8:=by omega
    obtain⟨a,ga⟩:=Ms.get (x:=x) (k:=j) (by omega)
    obtain⟨b,gb⟩:=Ms.get (x:=y) (k:=j) (by omega)
    have g1:=K6 ga
    have g2:=K6 gb
    have hwk:=G0 (j:=j) (by omega)
    have ej:((j:Int)+1).toNat=j+1:=by omega
    rw[ej]at h3
    have h4:=aBH ga gb h3
    simp only[PP,P1,P2,P14,P15,N1,N2,N3,N4,N5,N6,N7,I1,I2,I3,I4,I5,I6,I7,reduceIte,reduceCtorEq,c,j8,g1,g2]
    refine aFb T ?_
    simp only[PP,P1,P2,P14,P15,N1,N2,N3,N4,N5,N6,N7,I1,I2,I3,I4,I5,I6,I7,reduceIte,reduceCtorEq]
    by_cases e:lP a b=0
    ·simp only[PP,P1,P2,P14,P15,N1,N2,N3,N4,N5,N6,N7,I1,I2,I3,I4,I5,I6,I7,reduceIte,reduceCtorEq,e,hwk]
     refine bB (ih ((j:Int)-1) ⟨by omega,by omega,?_⟩ (by omega)) (by simp only[PW])
     rw[show((j:Int)-1+1).toNat=j by omega,h4];exact e
    ·simp only[PP,P1,P2,P14,P15,N1,N2,N3,N4,N5,N6,N7,I1,I2,I3,I4,I5,I6,I7,reduceIte,reduceCtorEq,e]
     rw[CQ j (by rw[h4];exact e),h4]at hk;exact hk
   ·have:k= -1:=by omega
    subst this
    have h3:l5 x.c y.c=0:=by simpa using h3
    rw[h3]at hk
    simp only[PP,P1,P2,P14,P15,N1,N2,N3,N4,N5,N6,N7,I1,I2,I3,I4,I5,I6,I7,reduceIte,reduceCtorEq]
    exact hk
end
theorem aCQ {l:List Int} {k:Nat} :(List.replicate k (0:Int)++l.drop k)[k]? =l[k]? :=by
 rw[List.getElem?_append_right (by simp),List.length_replicate,Nat.sub_self,List.getElem?_drop,Nat.add_zero]
theorem TU {l:List Int} {k:Nat} (y:Int) (h:k<l.length):(List.replicate k (0:Int)++l.drop k).set k y=List.replicate k 0++y::l.drop (k+1):=by
 rw[List.set_append_right _ _ (by simp),List.length_replicate,Nat.sub_self,List.drop_eq_getElem_cons h,List.set_cons_zero]
theorem NI {l:List Int} {k:Nat} (h:k<l.length):(List.replicate k (0:Int)++l.drop k).set k 0=List.replicate (k+1) 0++l.drop (k+1):=by
 rw[TU 0 h,List.replicate_succ',List.append_assoc];rfl
section
variable {ns:List Nat} {x y:Ms} {q k:Nat}
theorem tD (ht:x.top=false):x.num ns=mr ns x.c:=by unfold Ms.num;rw[ht,if_neg (by decide)]
theorem T2 (h:x.Ok ns) (ht:x.top=false) (hl:ns.length=8) (hq:q<=8) (hy:y.top=false) (hc:y.c=List.replicate q 0++x.c.drop q):y.Ok ns/\y.num ns=(x.num ns / mB ns q)*mB ns q:=by
 have h1:=rP q h.1
 refine⟨⟨by rw[hc];exact tI q (by omega) h1,fun e=>by rw[hy]at e;cases e⟩,?_⟩
 rw[tD hy,tD ht,hc,xU q (by simp[x.h];omega),D7 q h.1,Nat.mul_comm]
def FC (ns:List Nat) (x:Ms) (q k:Nat):Prop:=∀(i:Nat) (c:Int) (n:Nat),q<=i->i<k->x.c[i]? =some c->ns[i]? =some n->c=n
theorem T5 (h:x.Ok ns) (hl:ns.length=8):∀{k:Nat},q<=k->k<=8->FC ns x q k->(mr (ns.drop k) (x.c.drop k)+1)*mB ns k=(mr (ns.drop q) (x.c.drop q)+1)*mB ns q
 | 0,h1,h2,hf=>by
  have:q=0:=by omega
  subst this;rfl
 | k+1,h1,h2,hf=>by
  by_cases e:q=k+1
  ·subst e;rfl
  ·rw[<-T5 h hl (k:=k) (by omega) (by omega) (fun i c n a b=>hf i c n a (by omega))]
   obtain⟨n,gn⟩:∃n,ns[k]? =some n:=⟨_,List.getElem?_eq_getElem (by omega)⟩
   obtain⟨c,gc⟩:=Ms.get (x:=x) (k:=k) (by omega)
   have e1:=hf k c n (by omega) (by omega) gc gn
   rw[aAX gn,jK gn,jK gc]
   show _=(c.toNat+(n+1)*mr (ns.drop (k+1)) (x.c.drop (k+1))+1)*mB ns k
   rw[e1,Int.toNat_natCast,show n+(n+1)*mr (ns.drop (k+1)) (x.c.drop (k+1))+1=(n+1)*(mr (ns.drop (k+1)) (x.c.drop (k+1))+1) by rw[Nat.mul_add];omega]
   rw[Nat.mul_comm (mB ns k),<-Nat.mul_assoc,Nat.mul_comm (n+1)]
theorem aAe (h:x.Ok ns) (ht:x.top=false) (hl:ns.length=8) (hq:q<=k) (hk:k<8) (hf:FC ns x q k) {c:Int} {n:Nat} (gc:x.c[k]? =some c) (gn:ns[k]? =some n) (hlt:c<n) (hy:y.top=false)
  (hc:y.c=List.replicate k 0++(c+1)::x.c.drop (k+1)):y.Ok ns/\y.num ns=(x.num ns / mB ns q+1)*mB ns q:=by
 have h1:=rP k h.1
 rw[jK gn,jK gc]at h1
 have hd:mOk (ns.drop k) ((c+1)::x.c.drop (k+1)):=by
  rw[jK gn];exact⟨by have:=h1.1;omega,by omega,h1.2.2⟩
 refine⟨⟨by rw[hc];exact tI k (by omega) hd,fun e=>by rw[hy]at e;cases e⟩,?_⟩
 rw[tD hy,tD ht,hc,xU k (by simp[x.h];omega),D7 q h.1,<-T5 h hl hq (by omega) hf,Nat.mul_comm,jK gn,jK gc]
 congr 1
 show(c+1).toNat+(n+1)*_=c.toNat+(n+1)*_+1
 have:=h1.1
 omega
theorem T3 (h:x.Ok ns) (ht:x.top=false) (hl:ns.length=8) (hq:q<=8) (hf:FC ns x q 8):mT ns=(x.num ns / mB ns q+1)*mB ns q:=by
 rw[tD ht,D7 q h.1,<-T5 h hl hq (Nat.le_refl _) hf,List.drop_of_length_le (by omega),oO ns 8,List.drop_of_length_le (by omega)]
 simp[mr,mT]
theorem Ms.num_lt (h:x.Ok ns) (ht:x.top=false):x.num ns<mT ns:=by rw[tD ht];exact B6 h.1
end
def aFf (pr:List Int):Prop:=pr.length<1000000000000/\∀x∈pr,0<=x/\x<=16
theorem rS (pr:List Int) {q:Nat} (h:q<8):(cA pr)[q]? =some (pr.count ((2*q+1:Nat):Int)):=q9 h
theorem RV {pr:List Int} {k:Nat} {x:Int} (g:pr[k]? =some x) (h:x % 2=0):cA (pr.take (k+1))=cA (pr.take k):=wX fun v hv=>by
 rw[iB g,List.count_append,List.count_singleton]
 have:¬(x==((2*v+1:Nat):Int))=true:=by simp;omega
 rw[if_neg this];rfl
theorem WN {pr:List Int} {k q:Nat} {x:Int} (g:pr[k]? =some x) (h:x=((2*q+1:Nat):Int)) (hq:q<8):(cA (pr.take k)).set q ((pr.take k).count ((2*q+1:Nat):Int)+1)=cA (pr.take (k+1)):=by
 unfold cA
 rw[UD _ hq]
 refine wX fun v hv=>?_
 rw[iB g,List.count_append,List.count_singleton]
 by_cases e:v=q
 ·subst e;rw[if_pos rfl,if_pos (by simp[h])]
 ·rw[if_neg e,if_neg (by simp[h];omega)];rfl
section
variable {tab:FuncId->Option AF} (T:HasA tab)
include T
theorem uT {M:Mem} {K:PV->Mem->Prop} {f1 o1 f2 o2 f3 o3 f4 o4:Bool} {ow pr:List Int} {su:List (List Int)} (P:aFf pr) (hk:K (.cp (kJ f1 o1 f2 o2 f3 o3 f4 o4 ow pr su) 0) M):
  SemC tab 89 [gmP f1 o1 f2 o2 f3 o3 f4 o4 ow pr su] M K:=by
 obtain⟨hn,hp⟩:=P
 refine ZN (by simp only[PP,P1,P2,P14,P15,N1,N2,N3,N4,N5,N6,N7,I1,I2,I3,I4,I5,I6,I7,reduceIte,reduceCtorEq]) ?_
 refine cK T.h89 ?_
 simp only[af89,PP,P1,P2,P14,P15,N1,N2,N3,N4,N5,N6,N7,I1,I2,I3,I4,I5,I6,I7,reduceIte,reduceCtorEq,aP,aS,aR,aC,bK,aL,aE,z9,z9t,aQ,aO,aT,aM,aJ,aN,aK,aH,aF,aB,aD,aA,z8,aG,aY,aI,aX,aW,aV]
 refine iF (fun(k ver:Nat)=>k<=pr.length) (fun k ver=>(zj 3++ .ptr 1 0 0::zj 6++slI f2 o2 .i64 pr::p64 pr.length::p64 k::zj 19))
  (fun k ver=>[.cells 0 0 [slI f1 o1 .u8 ow,slI f2 o2 .i64 pr,slR f3 o3 f4 o4 .i64 su],.cells 0 ver (slI f1 o1 .u8 ow::slI f2 o2 .i64 pr::slR f3 o3 f4 o4 .i64 su::kB (cA (pr.take k)))])
  (fun k _=>pr.length-k) 0 0 (by omega) (by simp only[PW]) rfl ?_
 intro k ver hle ih
 refine bZ (by kernel_rfl) ?_
 simp only[PP,P1,P2,P14,P15,N1,N2,N3,N4,N5,N6,N7,I1,I2,I3,I4,I5,I6,I7,reduceIte,reduceCtorEq]
 refine QIf.intro (fun c=>?_) (fun c=>?_)
 ·have hk':k<pr.length:=by omega
  have k0:(0:Int)<=k:=by omega
  have kn:(k:Int)<pr.length:=by omega
  have hwk:=bG (k:=k) (by show _<1000000000000;omega)
  obtain⟨x,g1⟩:=bY (xs:=pr) (k:=k) hk'
  obtain⟨x0,x1⟩:=hp x (List.mem_of_getElem? g1)
  have hrem:x.tmod 2=x % 2:=Int.tmod_eq_emod_of_nonneg x0
  simp only[PP,P1,P2,P14,P15,N1,N2,N3,N4,N5,N6,N7,I1,I2,I3,I4,I5,I6,I7,reduceIte,reduceCtorEq,c,k0,kn,g1,aC9 (show(2:Int)≠0 by decide),hrem]
  refine QIf.intro (fun d=>?_) (fun d=>?_)
  ·obtain⟨q,hq,hq8⟩:∃q:Nat,x=((2*q+1:Nat):Int)/\q<8:=⟨(x / 2).toNat,by omega,by omega⟩
   have hquo:IntKind.i64.wrap (x.tdiv 2)=(q:Int):=by
    rw[Int.tdiv_eq_ediv_of_nonneg x0,wrap64 (by omega) (by omega)];omega
   have hcl:(pr.take k).count ((2*q+1:Nat):Int)<=(pr.take k).length:=List.count_le_length
   have hcl2:(pr.take k).length<=pr.length:=by simp;omega
   have gl:=OM (rS (pr.take k) hq8)
   have hw2:=bG (k:=(pr.take k).count ((2*q+1:Nat):Int)) (by show _<1000000000000;omega)
   have g3:(slI f1 o1 .u8 ow::slI f2 o2 .i64 pr::slR f3 o3 f4 o4 .i64 su::kB (cA (pr.take k)))[3+q]? =some (p64 ((pr.take k).count ((2*q+1:Nat):Int))):=by rw[Nat.add_comm];exact gl
   have g4:∀y:PV,(slI f1 o1 .u8 ow::slI f2 o2 .i64 pr::slR f3 o3 f4 o4 .i64 su::kB (cA (pr.take k))).set (3+q) y=slI f1 o1 .u8 ow::slI f2 o2 .i64 pr::slR f3 o3 f4 o4 .i64 su::(kB (cA (pr.take k))).set q y:=fun y=>by rw[Nat.add_comm];rfl
   have q0:(0:Int)<=q:=by omega
   have q8:(q:Int)<8:=by omega
   have q3:3+q+1<=11:=by omega
   simp only[PP,P1,P2,P14,P15,N1,N2,N3,N4,N5,N6,N7,I1,I2,I3,I4,I5,I6,I7,reduceIte,reduceCtorEq,aP,aS,aR,aC,bK,aL,aE,z9,z9t,aQ,aO,aT,aM,aJ,aN,aK,aH,aF,aB,aD,aA,z8,aG,aY,aI,aX,aW,aV,d,k0,kn,xM _ _ _ (show(2:Int)≠0 by decide),hquo,q0,q8,q3,g3,g4,hw2,hwk]
   refine dR (ih (k+1) (ver+1) (by omega) (by omega)) (by simp only[PW]) ?_
   rw[WP,WN g1 hq hq8]
  ·simp only[PP,P1,P2,P14,P15,N1,N2,N3,N4,N5,N6,N7,I1,I2,I3,I4,I5,I6,I7,reduceIte,reduceCtorEq,d,hwk]
   refine dR (ih (k+1) ver (by omega) (by omega)) (by simp only[PW]) ?_
   rw[RV g1 (by omega)]
 ·have:k=pr.length:=by omega
  subst this
  simp only[PP,P1,P2,P14,P15,N1,N2,N3,N4,N5,N6,N7,I1,I2,I3,I4,I5,I6,I7,reduceIte,reduceCtorEq,c]
  refine⟨1,0,ver,kJ f1 o1 f2 o2 f3 o3 f4 o4 ow pr su,rfl,?_,aI _,hk⟩
  rw[List.take_of_length_le (Nat.le_refl _)];rfl
end
end Go.Am.Ar

