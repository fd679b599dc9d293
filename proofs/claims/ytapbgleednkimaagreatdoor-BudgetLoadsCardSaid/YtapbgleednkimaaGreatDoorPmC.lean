/- The pure machine: its rules as equations for the simplifier, and what goes with it. -/
import Derived.Test.YtapbgleednkimaaGreatDoorPmS
set_option linter.all false
open Classical renaming byContradiction->Cb
open Bool renaming false_eq_true->Bf,and_eq_true->Au,and_self->Dp,true->Jo,false->Jp
open List renaming replicate->Ah,mem_of_getElem?->Af,getElem?_take->Bc,getElem?_drop->Bg,getElem?_eq_getElem->Ad,getElem?_set_ne->Bo,getElem?_set_self->Cj,getElem?_append_left->Bj,ext_getElem?->Ej,getElem?_set->Ew,getElem?_map->Av,map_congr_left->Dt,map_map->Du,getElem?_eq_none->Bk,getElem?_append_right->Bx,length_map->Ap
open Nat renaming le_refl->Ac,lt_or_ge->Ba,zero_le->Ai,le_trans->Aj,lt_of_lt_of_le->Bi,not_lt_zero->Ff,zero_add->Az,mul_one->Ct,sub_add_cancel->Hb
open And renaming intro->Aa
open Option renaming some->Jm,none->Jn
namespace Go.Am
structure cv {α:Sort _} (k:α):Type where
 n:Nat
structure mu (A B:Prop):Type where
 n:Nat
def rK(v:PV)(k:IntKind->Int->Prop)(t:cv k):Prop:=vG v k
def FI(v:PV)(k:Bool->Prop)(t:cv k):Prop:=MP v k
def HY(v:PV)(k:List PV->Prop)(t:cv k):Prop:=RA v k
def aFl(v:PV)(k:List PV->Prop)(t:cv k):Prop:=aHQ v k
def ZOb(o:Option cm)(g:Nat)(k:Nat->List PV->Prop)(t:cv k):Prop:=QOb o g k
def dW{α:Type}(o:Option α)(k:α->Prop)(t:cv k):Prop:=gG o k
def aCK(v:PV)(M:Mem)(k:PV->Prop)(t:cv k):Prop:=aHS v M k
def aFv(size:Nat)(v i:PV)(M:Mem)(k:PV->Prop)(t:cv k):Prop:=aHU size v i M k
def UB(len size:Nat)(v i:PV)(M:Mem)(k:PV->Prop)(t:cv k):Prop:=aC3 len size v i M k
def aFx(off:Nat)(v:PV)(M:Mem)(k:PV->Prop)(t:cv k):Prop:=aHV off v M k
def FH(v:PV)(M:Mem)(k:PV->List Nat->Prop)(t:cv k):Prop:=ML v M k
def vD(n:Nat)(v:PV)(M:Mem)(k:PV->List Nat->Prop)(t:cv k):Prop:=CF n v M k
def QP(n:Nat)(p x:PV)(M:Mem)(k:Mem->List Nat->Prop)(t:cv k):Prop:=Q5 n p x M k
def MD(size:Nat)(x:PV)(M:Mem)(k:List PV->Nat->Prop)(t:cv k):Prop:=MI size x M k
def aCT(size bytes:Nat)(s x:PV)(M:Mem)(K:PV->Mem->List Nat->List Nat->Prop)(t:cv K):Prop:=aC5 size bytes s x M K
def xA(a:List PV)(x:Option AR)(k:Option Int->Prop)(t:cv k):Prop:=C3 a x k
def CA(size:Nat)(v:PV)(l r m:Option Int)(M:Mem)(k:PV->Prop)(t:cv k):Prop:=Q6 size v l r m M k
def rI(v:PV)(M:Mem)(k:Prop)(t:cv k):Prop:=CE v M k
def rJ(kd:Nat)(x y:PV)(M:Mem)(k:Bool->Prop)(t:cv k):Prop:=MJ kd x y M k
def fZ(v:PV)(u:Bool)(A B:Prop)(t:mu A B):Prop:=lA v u A B
def nX(v:PV)(A B:Prop)(t:mu A B):Prop:=MN v A B
def QIf(p A B:Prop)(t:mu A B):Prop:=(p->A)/\(¬p->B)
def QIf.intro{p A B:Prop}{t:mu A B}(h1:p->A)(h2:¬p->B):QIf p A B t:=⟨h1,h2⟩
def aC2(A B:Prop)(t:mu A B):QIf True A B t=A:=by simp[QIf]
def X9(A B:Prop)(t:mu A B):QIf False A B t=B:=by simp[QIf]
def aFD(p A B:Prop)(t:mu A B):QIf (¬p) A B t=QIf p B A ⟨0⟩:=by
 apply propext;constructor
 ·rintro⟨h1,h2⟩;exact⟨fun h=>h2 (fun u=>u h),h1⟩
 ·rintro⟨h1,h2⟩;exact⟨h2,fun h=>h1 (Cb h)⟩
def aCL(b:IntKind)(o:Int)(k:IntKind->Int->Prop)(t:cv k):rK (.int b o) k t=k b o:=by simp[rK,vG,and_assoc]
def QZ(b:Bool)(k:Bool->Prop)(t:cv k):FI (.bool b) k t=k b:=by simp[FI,MP]
def aCU(b:List PV)(k:List PV->Prop)(t:cv k):HY (.agg b) k t=k b:=by simp[HY,RA]
def QN(b:List PV)(k:List PV->Prop)(t:cv k):aFl (.tuple b) k t=k b:=by simp[aFl,aHQ]
def XR(g ver:Nat)(cs:List PV)(k:Nat->List PV->Prop)(t:cv k):ZOb (Jm (.cells g ver cs)) g k t=k ver cs:=by
 apply propext;constructor
 ·rintro⟨_,_,e,h⟩;cases e;exact h
 ·intro h;exact⟨_,_,rfl,h⟩
def QR{α:Type}(x:α)(k:α->Prop)(t:cv k):dW (Jm x) k t=k x:=by simp[dW,gG]
def XV(M:Mem)(k:PV->Prop)(t:cv k):aCK .ah M k t=k (p64 0):=(rfl)
def aFs(u own:Bool)(sz n:Nat)(cs:List PV)(M:Mem)(k:PV->Prop)(t:cv k):aCK (.sl u own sz n cs) M k t=k (p64 n):=(rfl)
def aCI(id g sz off n:Nat)(M:Mem)(k:PV->Prop)(t:cv k):aCK (.ref id g sz off n) M k t=ZOb M[id]? g (fun _ _=>k (p64 n)) ⟨0⟩:=(rfl)
def aFu(size:Nat)(u own:Bool)(sz n:Nat)(cs:List PV)(i:PV)(M:Mem)(k:PV->Prop)(t:cv k):aFv size (.sl u own sz n cs) i M k t=rK i (fun _ j=>(sz=size/\0<=j/\j<n)/\k (.cp cs (j.toNat*size))) ⟨0⟩:=(rfl)
def aCN(size id g sz off n:Nat)(i:PV)(M:Mem)(k:PV->Prop)(t:cv k):aFv size (.ref id g sz off n) i M k t=ZOb M[id]? g (fun _ _=>rK i (fun _ j=>(sz=size/\0<=j/\j<n)/\k (.ptr id g (off+j.toNat*size))) ⟨0⟩) ⟨0⟩:=(rfl)
def XY(len size id g o:Nat)(i:PV)(M:Mem)(k:PV->Prop)(t:cv k):UB len size (.ptr id g o) i M k t=ZOb M[id]? g (fun _ _=>rK i (fun _ j=>(0<=j/\j<len)/\k (.ptr id g (o+j.toNat*size))) ⟨0⟩) ⟨0⟩:=(rfl)
def aCO(len size:Nat)(cs:List PV)(o:Nat)(i:PV)(M:Mem)(k:PV->Prop)(t:cv k):UB len size (.cp cs o) i M k t=rK i (fun _ j=>(0<=j/\j<len)/\k (.cp cs (o+j.toNat*size))) ⟨0⟩:=(rfl)
def aCP(off id g o:Nat)(M:Mem)(k:PV->Prop)(t:cv k):aFx off (.ptr id g o) M k t=ZOb M[id]? g (fun _ _=>k (.ptr id g (o+off))) ⟨0⟩:=(rfl)
def aFw(off:Nat)(cs:List PV)(o:Nat)(M:Mem)(k:PV->Prop)(t:cv k):aFx off (.cp cs o) M k t=k (.cp cs (o+off)):=(rfl)
def XT(id g o:Nat)(M:Mem)(k:PV->List Nat->Prop)(t:cv k):FH (.ptr id g o) M k t=ZOb M[id]? g (fun _ cs=>dW cs[o]? (fun x=>k x [id]) ⟨0⟩) ⟨0⟩:=(rfl)
def aCH(cs:List PV)(o:Nat)(M:Mem)(k:PV->List Nat->Prop)(t:cv k):FH (.cp cs o) M k t=dW cs[o]? (fun x=>k x []) ⟨0⟩:=(rfl)
def QW(n id g o:Nat)(M:Mem)(k:PV->List Nat->Prop)(t:cv k):vD n (.ptr id g o) M k t=ZOb M[id]? g (fun _ cs=>o+n<=cs.length/\k (.agg (aY cs o n)) [id]) ⟨0⟩:=(rfl)
def XU(n:Nat)(cs:List PV)(o:Nat)(M:Mem)(k:PV->List Nat->Prop)(t:cv k):vD n (.cp cs o) M k t=(o+n<=cs.length/\k (.agg (aY cs o n)) []):=(rfl)
def QO(n id g o:Nat)(x:PV)(M:Mem)(k:Mem->List Nat->Prop)(t:cv k):QP n (.ptr id g o) x M k t=ZOb M[id]? g (fun ver cs=>((bY x).length=n/\o+n<=cs.length/\(bY x).all PV.one=Jo)/\k (M.set id (.cells g (ver+1) (jO cs o (bY x)))) [id]) ⟨0⟩:=(rfl)
def XP(size:Nat)(M:Mem)(k:List PV->Nat->Prop)(t:cv k):MD size .ah M k t=k [] 0:=(rfl)
def aFm(size:Nat)(u own:Bool)(sz n:Nat)(cs:List PV)(M:Mem)(k:List PV->Nat->Prop)(t:cv k):MD size (.sl u own sz n cs) M k t=(sz=size/\k cs n):=(rfl)
def aCC(size id g sz off n:Nat)(M:Mem)(k:List PV->Nat->Prop)(t:cv k):MD size (.ref id g sz off n) M k t=ZOb M[id]? g (fun _ cs=>(sz=size/\off+n*size<=cs.length)/\k (aY cs off (n*size)) n) ⟨0⟩:=(rfl)
def aCB(size:Nat)(s:ByteArray)(M:Mem)(k:List PV->Nat->Prop)(t:cv k):MD size (.str s) M k t=(size=1/\k (s.data.toList.map fun b=> .int .u8 b.toNat) s.size):=(rfl)
def X7(size bytes:Nat)(x:PV)(M:Mem)(K:PV->Mem->List Nat->List Nat->Prop)(t:cv K):aCT size bytes .ah x M K t=MD size x M (fun new n=>(n*bytes<=140737488355328/\n<=9223372036854775807/\new.all PV.one=Jo)/\K (.ref M.length 0 size 0 n) (M++[.cells 0 0 new]) [] []) ⟨0⟩:=(rfl)
def aFz(size bytes:Nat)(u own:Bool)(sz m:Nat)(cs:List PV)(x:PV)(M:Mem)(K:PV->Mem->List Nat->List Nat->Prop)(t:cv K):aCT size bytes (.sl u own sz m cs) x M K t=MD size x M (fun new n=>QIf (n=0) (K (.sl u own sz m cs) M [] []) ((u=Jo/\own=Jo/\sz=size/\(m+n)*bytes<=140737488355328/\m+n<=9223372036854775807/\new.all PV.one=Jo)/\K (.ref M.length 0 size 0 (m+n)) (M++[.cells 0 0 (cs++new)]) [] []) ⟨0⟩) ⟨0⟩:=by show aC5 size bytes (.sl u own sz m cs) x M K=MI size x M _;unfold aC5;congr 1;funext new n;by_cases h:n=0<;>simp[QIf,h]
def aCS(size bytes id g sz off m:Nat)(x:PV)(M:Mem)(K:PV->Mem->List Nat->List Nat->Prop)(t:cv K):aCT size bytes (.ref id g sz off m) x M K t=MD size x M (fun new n=>ZOb M[id]? g (fun ver cs=>(sz=size/\off+m*size<=cs.length/\(0<n\/(off=0/\m*size=cs.length))/\(m+n)*bytes<=140737488355328/\m+n<=9223372036854775807/\new.all PV.one=Jo)/\K (.ref id (g+1) size 0 (m+n)) (M.set id (.cells (g+1) 0 (aY cs off (m*size)++new))) [] [id]) ⟨0⟩) ⟨0⟩:=(rfl)
def X5(a:List PV)(k:Option Int->Prop)(t:cv k):xA a Jn k t=k Jn:=(rfl)
def X4(a:List PV)(x:AR)(k:Option Int->Prop)(t:cv k):xA a (Jm x) k t=rK (pev a x) (fun _ n=>k (Jm n)) ⟨0⟩:=(rfl)
def ME(size:Nat)(l r m:Option Int)(M:Mem)(k:PV->Prop)(t:cv k):CA size .ah l r m M k t=((l.getD 0=0/\r.getD 0=0/\(m=Jn\/m=r))/\k .ah):=(rfl)
def XQ(size:Nat)(u own:Bool)(sz n:Nat)(cs:List PV)(l r m:Option Int)(M:Mem)(k:PV->Prop)(t:cv k):CA size (.sl u own sz n cs) l r m M k t=((sz=size/\(m=Jn\/m=r)/\0<=l.getD 0/\l.getD 0<=r.getD n/\r.getD n<=n)/\k (.sl (if own=Jo then(if r.isSome=Jo then Jp else u)else u) own sz (r.getD n-l.getD 0).toNat (aY cs ((l.getD 0).toNat*size) ((r.getD n-l.getD 0).toNat*size)))):=(rfl)
def QS(size id g sz off n:Nat)(l r m:Option Int)(M:Mem)(k:PV->Prop)(t:cv k):CA size (.ref id g sz off n) l r m M k t=ZOb M[id]? g (fun _ _=>(sz=size/\(m=Jn\/m=r)/\0<=l.getD 0/\l.getD 0<=r.getD n/\r.getD n<=n)/\k (.ref id g sz (off+(l.getD 0).toNat*size) (r.getD n-l.getD 0).toNat)) ⟨0⟩:=(rfl)
def QT(id g o:Nat)(M:Mem)(k:Prop)(t:cv k):rI (.ptr id g o) M k t=ZOb M[id]? g (fun _ _=>k) ⟨0⟩:=(rfl)
def MF(f:FuncId)(l c:List PV)(M:Mem)(k:Prop)(t:cv k):rI (.func (.func f) l c) M k t=k:=by simp[rI,CE,zJ]
def XS(cs:List PV)(o:Nat)(M:Mem)(k:Prop)(t:cv k):rI (.cp cs o) M k t=k:=by simp[rI,CE,zJ]
def aFn(M:Mem)(k:Bool->Prop)(t:cv k):rJ 0 .ah .ah M k t=k Jo:=(rfl)
def aFo(u own:Bool)(sz n:Nat)(cs:List PV)(M:Mem)(k:Bool->Prop)(t:cv k):rJ 0 (.sl u own sz n cs) .ah M k t=QIf (n=0) (k Jo/\k Jp) (k Jp) ⟨0⟩:=by by_cases h:n=0<;>simp[rJ,MJ,QIf,h]
def aCE(id g sz off n:Nat)(M:Mem)(k:Bool->Prop)(t:cv k):rJ 0 (.ref id g sz off n) .ah M k t=ZOb M[id]? g (fun _ _=>QIf (n=0) (k Jo/\k Jp) (k Jp) ⟨0⟩) ⟨0⟩:=by by_cases h:n=0<;>simp[rJ,MJ,ZOb,QIf,h]
def XZ(A B:Prop)(t:mu A B):fZ (.bool Jo) Jo A B t=A:=by simp[fZ,lA]
def X2(A B:Prop)(t:mu A B):fZ (.bool Jp) Jp A B t=A:=by simp[fZ,lA]
def X0(A B:Prop)(t:mu A B):fZ (.bool Jo) Jp A B t=B:=by simp[fZ,lA]
def X1(A B:Prop)(t:mu A B):fZ (.bool Jp) Jo A B t=B:=by simp[fZ,lA]
def HS(l:List PV)(u:Bool)(A B:Prop)(t:mu A B):fZ (.tuple l) u A B t=B:=by simp[fZ,lA]
def HU(p:Prop) [Decidable p](A B:Prop)(t:mu A B):fZ (.bool (decide p)) Jo A B t=QIf p A B ⟨0⟩:=by by_cases u:p<;>simp[fZ,lA,u,QIf]
def HV(p:Prop) [Decidable p](A B:Prop)(t:mu A B):fZ (.bool (decide p)) Jp A B t=QIf p B A ⟨0⟩:=by by_cases u:p<;>simp[fZ,lA,u,QIf]
def QX(A B:Prop)(t:mu A B):nX (.bool Jo) A B t=A:=by simp[nX,MN]
def MG(A B:Prop)(t:mu A B):nX (.bool Jp) A B t=B:=by simp[nX,MN]
def X3(p:Prop) [Decidable p](A B:Prop)(t:mu A B):nX (.bool (decide p)) A B t=QIf p A B ⟨0⟩:=by by_cases u:p<;>simp[nX,MN,u,QIf]
def QY(p:Prop) [Decidable p](x y:PV)(A B:Prop)(t:mu A B):nX (ED (decide p) x y) A B t=QIf p (nX x A B ⟨0⟩) (nX y A B ⟨0⟩) ⟨0⟩:=by by_cases u:p<;>simp[QIf,ED,u,nX]
def NZ(x y:PV):ED Jo x y=x:=(rfl)
def JW(x y:PV):ED Jp x y=y:=(rfl)
section
variable (tab:Tb) (m:Nat)
def RX:=PX tab m
def RO:=PO tab
def RD:=PD tab
def RS:=PS tab
def aDg(y:AC)(u B:Kl)(E:Nat->Kl)(a:List PV)(M:Mem):Prop:=RX tab m y a M u B E
def H8(u:List Nat)(x:AC)(y B:Kl)(E:Nat->Kl)(a:List PV)(M:Mem):Prop:=bV tab m (.loop u x) a M y B E
def MW(id:Nat)(u:Kl)(y:Nat->Kl)(i:Nat)(a:List PV)(M:Mem):Prop:=if i=id then u a M else y i a M
def UI(d:Option Nat)(os:List aw)(a:List PV)(Q:Kl)(v:PV)(M:Mem)(rd u:List Nat):Prop:=RO tab os (ig a d v) M Q
def H7(d:Option Nat)(B:Bool)(chk:List Nat)(os:List aw)(i:Nat)(a:List PV)(M:Mem)(u:List lh)(Q:Kl)(v:PV)(E:Mem)(rd y:List Nat):Prop:=
 jj B rd y M u chk=Jo/\RD tab os (i+1) (ig a d v) E (⟨i,rd,y,M,E.length⟩::u) Q
section
variable (a:List PV) (M:Mem) (Qn Qr:Kl) (Qe:Nat->Kl)
def aFF:RX tab m .skip a M Qn Qr Qe=Qn a M:=(rfl)
def aHY:RX tab m .ret a M Qn Qr Qe=Qr a M:=(rfl)
def aFH(i:Nat):RX tab m (.exit i) a M Qn Qr Qe=Qe i a M:=(rfl)
def YA(os:List aw):RX tab m (.region os) a M Qn Qr Qe=RO tab os a M Qn:=(rfl)
def RC(os:List aw):RX tab m (.fc os) a M Qn Qr Qe=RD tab os 0 a M [] Qn:=(rfl)
def aHX(x y:AC):RX tab m (.seq x y) a M Qn Qr Qe=RX tab m x a M (aDg tab m y Qn Qr Qe) Qr Qe:=(rfl)
def aFI(c:AR)(x y:AC):RX tab m (.cond c x y) a M Qn Qr Qe=nX (pev a c) (RX tab m x a M Qn Qr Qe) (RX tab m y a M Qn Qr Qe) ⟨0⟩:=(rfl)
def aC7(id:Nat)(x:AC):RX tab m (.block id x) a M Qn Qr Qe=RX tab m x a M Qn Qr (MW id Qn Qe):=(rfl)
def aFG(u:List Nat)(x:AC):RX tab m (.loop u x) a M Qn Qr Qe=bV tab m (.loop u x) a M Qn Qr Qe:=(rfl)
def aC6(f:AR)(y:List Nat)(u body:AC):RX tab m (.rangeFunc f y u body) a M Qn Qr Qe=bV tab m (.rangeFunc f y u body) a M Qn Qr Qe:=(rfl)
def aDf(y:AC):aDg tab m y Qn Qr Qe a M=RX tab m y a M Qn Qr Qe:=(rfl)
def YN(u:List Nat)(x:AC):H8 tab m u x Qn Qr Qe a M=bV tab m (.loop u x) a M Qn Qr Qe:=(rfl)
def aDj(id i:Nat):MW id Qn Qe i a M=if i=id then Qn a M else Qe i a M:=(rfl)
end
section
variable (a:List PV) (M:Mem) (Q:Kl)
def aH5:RO tab [] a M Q=Q a M:=(rfl)
def aFP(d:Option Nat)(o:AO)(chk:List Nat)(os:List aw):RO tab (⟨d,o,Jn,chk⟩::os) a M Q=RS tab o a M (UI tab d os a Q):=(rfl)
def aFO(d:Option Nat)(o:AO)(t:Nat)(u:Bool)(chk:List Nat)(os:List aw):RO tab (⟨d,o,Jm (t,u),chk⟩::os) a M Q=fZ (ct a t) u (RS tab o a M (UI tab d os a Q)) (RO tab os (ig a d (.tuple [])) M Q) ⟨0⟩:=(rfl)
def aH6(i:Nat)(u:List lh):RD tab [] i a M u Q=Q a M:=(rfl)
def aFR(d:Option Nat)(o:AO)(chk:List Nat)(os:List aw)(i:Nat)(u:List lh):RD tab (⟨d,o,Jn,chk⟩::os) i a M u Q=RS tab o a M (H7 tab d o.effect chk os i a M u Q):=(rfl)
def aFQ(d:Option Nat)(o:AO)(t:Nat)(u:Bool)(chk:List Nat)(os:List aw)(i:Nat)(y:List lh):RD tab (⟨d,o,Jm (t,u),chk⟩::os) i a M y Q=fZ (ct a t) u (RS tab o a M (H7 tab d o.effect chk os i a M y Q)) (RD tab os (i+1) (ig a d (.tuple [])) M y Q) ⟨0⟩:=(rfl)
def aDi(d:Option Nat)(os:List aw)(v:PV)(rd u:List Nat):UI tab d os a Q v M rd u=RO tab os (ig a d v) M Q:=(rfl)
def YL(d:Option Nat)(B:Bool)(chk:List Nat)(os:List aw)(i:Nat)(u:List lh)(v:PV)(E:Mem)(rd y:List Nat):
  H7 tab d B chk os i a M u Q v E rd y=(jj B rd y M u chk=Jo/\RD tab os (i+1) (ig a d v) E (⟨i,rd,y,M,E.length⟩::u) Q):=(rfl)
end
section
variable (a:List PV) (M:Mem) (K:PV->Mem->List Nat->List Nat->Prop)
def aFK(x:AR):RS tab (.move x) a M K=K (pev a x) M [] []:=(rfl)
def aFJ(c x y:AR):RS tab (.pick c x y) a M K=FI (pev a c) (fun b=>K (ED b (pev a x) (pev a y)) M [] []) ⟨0⟩:=(rfl)
def aDe(cs:List AV):RS tab (.alloc cs) a M K=K (.ptr M.length 0 0) (M++[.cells 0 0 (cs.map bd)]) [] []:=(rfl)
def aH3(x:AR):RS tab (.box x) a M K=((bY (pev a x)).all PV.one=Jo/\K (.ptr M.length 0 0) (M++[.cells 0 0 (bY (pev a x))]) [] []):=(rfl)
def aDd(z:List AV)(u:List (Nat×Nat×AR)):RS tab (.build z u) a M K=dW (dv a (z.map bd) u) (fun cs=>K (.agg cs) M [] []) ⟨0⟩:=(rfl)
def C7(size len:Nat)(z:List AV)(u:List (Nat×Nat×AR)):RS tab (.buildSlice size len z u) a M K=((z.length=size/\0<size)/\dW (dv a (cK len (z.map bd)) u) (fun cs=>K (.sl Jo Jo size len cs) M [] []) ⟨0⟩):=(rfl)
def aFL(x:AR):RS tab (.load x) a M K=FH (pev a x) M (fun v rd=>K v M rd []) ⟨0⟩:=(rfl)
def RI(n:Nat)(x:AR):RS tab (.dw n x) a M K=vD n (pev a x) M (fun v rd=>K v M rd []) ⟨0⟩:=(rfl)
def aC8(n:Nat)(p x:AR):RS tab (.store n p x) a M K=QP n (pev a p) (pev a x) M (fun y u=>K (.tuple []) y [] u) ⟨0⟩:=(rfl)
def MT(x:AR):RS tab (.nilCheck x) a M K=rI (pev a x) M (K (pev a x) M [] []) ⟨0⟩:=(rfl)
def aH4(op:BinOp)(x y:AR):RS tab (.bin op x y) a M K=dW (cD op (pev a x) (pev a y)) (fun v=>K v M [] []) ⟨0⟩:=(rfl)
def aH2(neg:Bool)(x y:AR):RS tab (.eqB neg x y) a M K=FI (pev a x) (fun p=>FI (pev a y) (fun q=>K (.bool (if neg=Jo then !(p==q)else p==q)) M [] []) ⟨0⟩) ⟨0⟩:=(rfl)
def aDa(kd:Nat)(neg:Bool)(x y:AR):RS tab (.isNil kd neg x y) a M K=rJ kd (pev a x) (pev a y) M (fun b=>K (.bool (if neg=Jo then !b else b)) M [] []) ⟨0⟩:=(rfl)
def RK(neg:Bool)(T:List (Option IntKind))(x y:AR):RS tab (.dz neg T x y) a M K=HY (pev a x) (fun p=>HY (pev a y) (fun q=>dW (oJ T p q) (fun b=>K (.bool (if neg=Jo then !b else b)) M [] []) ⟨0⟩) ⟨0⟩) ⟨0⟩:=(rfl)
def aI4(op:UnOp)(x:AR):RS tab (.un op x) a M K=dW (pun op (pev a x)) (fun v=>K v M [] []) ⟨0⟩:=(rfl)
def RL(k:IntKind)(x:AR):RS tab (.da k x) a M K=rK (pev a x) (fun _ n=>K (.int k (k.wrap n)) M [] []) ⟨0⟩:=(rfl)
def YC(g:FuncId)(f c:List AR):RS tab (.gi (.func g) f c) a M K=K (.func (.func g) (f.map (pev a)) (c.map (pev a))) M [] []:=by simp[RS,PS]
def H4(bytes:Nat)(z:List AV)(n c:AR):RS tab (.makeSlice bytes z n c) a M K=rK (pev a n) (fun u l=>rK (pev a c) (fun kw m=>(u= .i64/\kw= .i64/\0<=l/\l<=m/\m*bytes<=140737488355328/\m<=9223372036854775807)/\K (.ref M.length 0 z.length 0 l.toNat) (M++[.cells 0 0 (cK l.toNat (z.map bd))]) [] []) ⟨0⟩) ⟨0⟩:=(rfl)
def aC9(size:Nat)(x:AR)(u y B:Option AR):RS tab (.slice size x u y B) a M K=xA a u (fun l=>xA a y (fun r=>xA a B (fun m=>CA size (pev a x) l r m M (fun v=>K v M [] []) ⟨0⟩) ⟨0⟩) ⟨0⟩) ⟨0⟩:=(rfl)
def H6(off:Nat)(x:AR):RS tab (.fieldAddr off x) a M K=aFx off (pev a x) M (fun v=>K v M [] []) ⟨0⟩:=(rfl)
def aDc(off:Nat)(x:AR):RS tab (.field off Jn x) a M K=HY (pev a x) (fun cs=>dW cs[off]? (fun v=>K v M [] []) ⟨0⟩) ⟨0⟩:=(rfl)
def YH(off n:Nat)(x:AR):RS tab (.field off (Jm n) x) a M K=HY (pev a x) (fun cs=>off+n<=cs.length/\K (.agg (aY cs off n)) M [] []) ⟨0⟩:=(rfl)
def H5(size:Nat)(x i:AR):RS tab (.indexAddr size x i) a M K=aFv size (pev a x) (pev a i) M (fun v=>K v M [] []) ⟨0⟩:=(rfl)
def C5(len size:Nat)(x i:AR):RS tab (.be len size x i) a M K=UB len size (pev a x) (pev a i) M (fun v=>K v M [] []) ⟨0⟩:=(rfl)
def aDb(len size:Nat)(x i:AR):RS tab (.index len size Jp x i) a M K=HY (pev a x) (fun cs=>rK (pev a i) (fun _ j=>(0<=j/\j<len)/\dW cs[j.toNat*size]? (fun v=>K v M [] []) ⟨0⟩) ⟨0⟩) ⟨0⟩:=by simp only[RS,PS,Bf,if_false,if_true];rfl
def YG(len size:Nat)(x i:AR):RS tab (.index len size Jo x i) a M K=HY (pev a x) (fun cs=>rK (pev a i) (fun _ j=>(0<=j/\j<len)/\j.toNat*size+size<=cs.length/\K (.agg (aY cs (j.toNat*size) size)) M [] []) ⟨0⟩) ⟨0⟩:=by simp only[RS,PS,Bf,if_false,if_true];rfl
def RJ(x:AR)(i:Nat):RS tab (.extract x i) a M K=aFl (pev a x) (fun u=>dW u[i]? (fun v=>K v M [] []) ⟨0⟩) ⟨0⟩:=(rfl)
def aFM(f:AR)(args:List AR):RS tab (.call f args) a M K=CG tab (pev a f) (args.map (pev a)) M (KPC M K):=(rfl)
def YI(size bytes:Nat)(s x:AR):RS tab (.append size bytes s x) a M K=(0<size/\aCT size bytes (pev a s) (pev a x) M K ⟨0⟩):=(rfl)
def aH1(x:AR):RS tab (.len x) a M K=aCK (pev a x) M (fun v=>K v M [] []) ⟨0⟩:=(rfl)
def aH0(x:AR)(u:List AR):RS tab (.max x u) a M K=dW (J3 (pev a x) (u.map (pev a))) (fun v=>K v M [] []) ⟨0⟩:=(rfl)
def aHZ(x:AR)(u:List AR):RS tab (.min x u) a M K=dW (zK (pev a x) (u.map (pev a))) (fun v=>K v M [] []) ⟨0⟩:=(rfl)
end
def Q9(g:FuncId)(first u args:List PV)(M:Mem)(K:Kp):CG tab (.func (.func g) first u) args M K=aj tab g (first++args++u) M K:=(rfl)
def aH9(M:Mem)(K:PV->Mem->List Nat->List Nat->Prop)(v:PV)(u:Mem):KPC M K v u=K v u [] (T1 M u):=(rfl)
end
def j7:∀(i:Nat) (M:Mem),bT i M M=[]
 | _,[]=>rfl
 | i,o::M=>by simp[bT,iR,j7 (i+1) M]
def wN:∀(i:Nat) (M l:Mem),bT i M (M++l)=[]
 | _,[],_=>by simp[bT]
 | i,o::M,l=>by simp[bT,iR,wN (i+1) M l]
def aB5(M u:Mem):T1 M u=bT 0 M u:=(rfl)
def L5(i:Nat)(M:Mem):bT i [] M=[]:=by simp[bT]
def BV(i:Nat)(o:cm)(M u:Mem):bT i (o::M) (o::u)=bT (i+1) M u:=by simp[bT,iR]
def qK(i g u v y:Nat)(cs B:List PV)(M E:Mem):bT i (.cells g v cs::M) (.cells u y B::E)=if g=u/\v=y then bT (i+1) M E else i::bT (i+1) M E:=by by_cases h:g=u/\v=y<;>simp[bT,lZ,h]
def aAe(u:Bool)(rd y:List Nat)(M:Mem)(B:List lh):jj u rd y M B []=Jo:=by simp[jj]
section
variable (k:IntKind) (x y:Int)
def aAo:cD .add (.int k x) (.int k y)=Jm (.int k (k.wrap (x+y))):=by simp[cD,cB,aCz,bd]
def aAf:cD .sub (.int k x) (.int k y)=Jm (.int k (k.wrap (x-y))):=by simp[cD,cB,aCr,bd]
def aAi:cD .mul (.int k x) (.int k y)=Jm (.int k (k.wrap (x*y))):=by simp[cD,cB,aCt,bd]
def aAn:cD .eql (.int k x) (.int k y)=Jm (.bool (decide (x=y))):=by simp[cD,cB,aCy,bd]
def aAh:cD .neq (.int k x) (.int k y)=Jm (.bool (decide (x≠y))):=by simp[cD,cB,aCs,bd]
def aAj:cD .lss (.int k x) (.int k y)=Jm (.bool (decide (x<y))):=by simp[cD,cB,aCu,bd]
def aAk:cD .leq (.int k x) (.int k y)=Jm (.bool (decide (x<=y))):=by simp[cD,cB,aCv,bd]
def aAl:cD .gtr (.int k x) (.int k y)=Jm (.bool (decide (y<x))):=by simp[cD,cB,aCw,bd]
def aAm:cD .geq (.int k x) (.int k y)=Jm (.bool (decide (y<=x))):=by simp[cD,cB,aCx,bd]
def oK(u:y≠0):cD .quo (.int k x) (.int k y)=Jm (.int k (k.wrap (x.tdiv y))):=by simp[cD,cB,gI,bW,dS,u,bd]
def VU:J3 (.int k x) [.int k y]=Jm (.int k (max x y)):=by have:=aAL k x y;simp only[aGZ]at this;simp[J3,cB,fT,this,bd]
end
def aDM(b:Bool):pun .not (.bool b)=Jm (.bool (!b)):=(rfl)
def aDN(k:IntKind)(x:Int):pun .neg (.int k x)=Jm (.int k (k.wrap (0-x))):=by simp[pun,cB,aun,bd]
def EC(n:Nat)(c:PV):cK n [c]=Ah n c:=by
 induction n with
 | zero=>rfl
 | succ n u=>simp[cK,u,List.replicate_succ]
def VS(cs:List PV)(o:Nat)(x:PV):jO cs o [x]=cs.set o x:=(rfl)
def aK(cs:List PV)(n:Nat)(h:n=cs.length):aY cs 0 n=cs:=by subst h;simp[aY]
def VI(cs:List PV):aY cs 0 cs.length=cs:=by simp[aY]
def N1(cs:List PV)(o:Nat)(x y:PV)(l:List PV):jO cs o (x::y::l)=cs.take o++(x::y::l)++cs.drop (o+(x::y::l).length):=(rfl)
def aDQ(x:PV)(cs:List PV)(n:Nat):aY (x::cs) 0 (n+1)=x::aY cs 0 n:=by simp[aY]
def aDO(cs:List PV)(o:Nat):aY cs o 0=[]:=by simp[aY]
def aDP(x:PV)(cs:List PV)(o n:Nat):aY (x::cs) (o+1) n=aY cs o n:=by simp[aY]
def ZW(o n:Nat):aY [] o n=[]:=by simp[aY]
def OH(k:IntKind)(n:Int):bY (.int k n)=[.int k n]:=(rfl)
def KA(b:Bool):bY (.bool b)=[.bool b]:=(rfl)
def J8:bY .ah=[.ah]:=(rfl)
def V5(u own:Bool)(sz n:Nat)(cs:List PV):bY (.sl u own sz n cs)=[.sl u own sz n cs]:=(rfl)
def OD(id g sz off n:Nat):bY (.ref id g sz off n)=[.ref id g sz off n]:=(rfl)
def OE(id g o:Nat):bY (.ptr id g o)=[.ptr id g o]:=(rfl)
def J9(fn:Go.Fn)(f c:List PV):bY (.func fn f c)=[.func fn f c]:=(rfl)
def OI(cs:List PV):bY (.agg cs)=cs:=(rfl)
def aD1(k:IntKind)(n:Int):PV.one (.int k n)=Jo:=(rfl)
def aAu(b:Bool):PV.one (.bool b)=Jo:=(rfl)
def aAs:PV.one .ah=Jo:=(rfl)
def OL:PV.one .au=Jo:=(rfl)
def KD:PV.one .aq=Jo:=(rfl)
def aGP(u own:Bool)(sz n:Nat)(cs:List PV):PV.one (.sl u own sz n cs)=Jo:=(rfl)
def aDY(id g sz off n:Nat):PV.one (.ref id g sz off n)=Jo:=(rfl)
def aDZ(id g o:Nat):PV.one (.ptr id g o)=Jo:=(rfl)
def aAt(fn:Go.Fn)(f c:List PV):PV.one (.func fn f c)=Jo:=(rfl)
def tE(k:IntKind)(u:List Int):(u.map (PV.int k)).all PV.one=Jo:=by simp[PV.one]
def MH{u:Tb}(m:Nat)(c:AC){a:List PV}{M:Mem}{y B:Kl}{E:Nat->Kl}(G:RX u m c a M y B E):bV u m c a M y B E:=MQ m c G
def X8{u:Tb}{m:Nat}{y:List Nat}{x:AC}{a:List PV}{M:Mem}{G B:Kl}{E:Nat->Kl}(I:RX u m x (uB a y) M (H8 u m y x G B E) B E):
  bV u m (.loop y x) a M G B E:=Q1 I
def dh:List PV->List PV->Prop
 | [],[]=>True
 | x::a,y::b=>(y= .aa\/x=y)/\dh a b
 | _,_=>False
def dh.rep{w:PWd} :∀{a b:List PV} {u:List AV},dh a b->al w a u->al w b u
 | [],[],u,_,h=>h
 | x::a,y::b,[],_,h=>by have:=h.len;simp at this
 | x::a,y::b,v::u,⟨h1,h2⟩,h=>by
  refine .cons ?_ (dh.rep h2 h.tl);rcases h1 with rfl | rfl
  ·exact .aa _
  ·exact h.hd
 | [],_::_,u,hw,h=>hw.elim
 | _::_,[],u,hw,h=>hw.elim
def aE{u:Tb}{m:Nat}{c:AC}{a b:List PV}{M:Mem}{y B:Kl}{E:Nat->Kl}(h:bV u m c b M y B E)(hw:dh a b):bV u m c a M y B E:=
 fun w hh G h0 hm s I=>h w hh G h0 hm s (hw.rep I)
def YB:dh [] []=True:=(rfl)
def RG(x:PV)(a b:List PV):dh (x::a) (.aa::b)=dh a b:=by simp[dh]
def RE(x:PV)(a b:List PV):dh (x::a) (x::b)=dh a b:=by simp[dh]
def WZ:Nat->List Nat->List PV->Bool
 | _,[],_=>Jo
 | _,_::_,[]=>Jp
 | i,s::u,v::b=>match Nat.beq i s with
  | true=>match v with
   | .aa=>WZ (i+1) u b
   | _=>Jp
  | false=>WZ (i+1) (s::u) b
def zI:∀(a:List PV) (t:Nat),ct a t= .aa->du a t .aa=a
 | [],_,_=>rfl
 | v::a,0,h=>by simp only[ct]at h;simp[du,h]
 | v::a,t+1,h=>by simp only[ct]at h;simp[du,zI a t h]
def A8:∀(b:List PV) (i:Nat) (u:List Nat),WZ i u b=Jo->∀s∈u,i<=s/\ct b (s-i)= .aa
 | b,i,[],_,s,hs=>by cases hs
 | [],i,y::u,h,s,hs=>by simp[WZ]at h
 | v::b,i,y::u,h,s,hs=>by
  unfold WZ at h;split at h
  ·rename_i he;have he:i=y:=Nat.eq_of_beq_eq_true he;split at h
   ·rcases List.mem_cons.1 hs with rfl | hs
    ·subst he;exact⟨Ac _,by simp[ct]⟩
    ·obtain⟨h1,h2⟩:=A8 b (i+1) u h s hs;refine⟨by omega,?_⟩;rw[show s-i=(s-(i+1))+1 by omega];simpa [ct]using h2
   ·cases h
  ·obtain⟨h1,h2⟩:=A8 b (i+1) (y::u) h s hs;refine⟨by omega,?_⟩;rw[show s-i=(s-(i+1))+1 by omega];simpa [ct]using h2
def vT:∀(u:List Nat) (b:List PV),(∀s∈u,ct b s= .aa)->uB b u=b
 | [],b,_=>rfl
 | s::u,b,h=>by simp only[uB];rw[zI b s (h s (by simp))];exact vT u b fun t ht=>h t (List.mem_cons_of_mem _ ht)
def aH{u:Tb}{m:Nat}{y:List Nat}{x:AC}{a:List PV}{M:Mem}{G B:Kl}{E:Nat->Kl}(I:WZ 0 y a=Jo)(J:RX u m x a M (H8 u m y x G B E) B E):
  bV u m (.loop y x) a M G B E:=by
 refine X8 ?_;rw[vT y a fun s hs=>by simpa using (A8 a 0 y I s hs).2];exact J
def dN{G:Type}{y:Tb}{m:Nat}{L:List Nat}{x:AC}{a:List PV}{M:Mem}{O Q:Kl}{R:Nat->Kl}(I:G->Prop)(S:G->List PV)(B:G->Mem)(E:G->Nat)
  (K:G) (h0:I K) (hw:dh a (S K)) (U:M=B K)
  (step:∀(u:G),I u->(∀(J:G),I J->E J<E u->bV y m (.loop L x) (S J) (B J) O Q R)->bV y m (.loop L x) (S u) (B u) O Q R):bV y m (.loop L x) a M O Q R:=by
 subst U;refine aE ?_ hw;have T:∀(k:Nat) (u:G),E u<k->I u->bV y m (.loop L x) (S u) (B u) O Q R:=by
  intro k
  induction k with
  | zero=>intro u h;omega
  | succ k V=>intro u h Y;exact step u Y fun J Z hm=>V J (by omega) Z
 exact T (E K+1) K (by omega) h0
def cQ{J:Type}{K:Type}{B:Tb}{m:Nat}{S:List Nat}{x:AC}{a:List PV}{M:Mem}{T U:Kl}{V:Nat->Kl}(I:J->K->Prop)(Y:J->K->List PV)(E:J->K->Mem)(G:J->K->Nat)
  (Q:J) (R:K) (h0:I Q R) (hw:dh a (Y Q R)) (hM:M=E Q R)
  (step:∀(u:J) (y:K),I u y->(∀(L:J) (O:K),I L O->G L O<G u y->bV B m (.loop S x) (Y L O) (E L O) T U V)->bV B m (.loop S x) (Y u y) (E u y) T U V):bV B m (.loop S x) a M T U V:=by
 subst hM;refine aE ?_ hw;have Z:∀(k:Nat) (u:J) (y:K),G u y<k->I u y->bV B m (.loop S x) (Y u y) (E u y) T U V:=by
  intro k
  induction k with
  | zero=>intro u y h;omega
  | succ k ih=>intro u y h hi;exact step u y hi fun L O hy hm=>ih L O (by omega) hy
 exact Z (G Q R+1) Q R (by omega) h0
def kV{K:Type}{L:Type}{O:Type}{E:Tb}{m:Nat}{Y:List Nat}{x:AC}{a:List PV}{M:Mem}{Z Qr:Kl}{Qe:Nat->Kl}(I:K->L->O->Prop)(fr:K->L->O->List PV)(G:K->L->O->Mem)(J:K->L->O->Nat)
  (T:K) (U:L) (V:O) (h0:I T U V) (hw:dh a (fr T U V)) (hM:M=G T U V)
  (step:∀(u:K) (y:L) (B:O),I u y B->(∀(Q:K) (R:L) (S:O),I Q R S->J Q R S<J u y B->bV E m (.loop Y x) (fr Q R S) (G Q R S) Z Qr Qe)->bV E m (.loop Y x) (fr u y B) (G u y B) Z Qr Qe):bV E m (.loop Y x) a M Z Qr Qe:=by
 subst hM;refine aE ?_ hw;have a0:∀(k:Nat) (u:K) (y:L) (B:O),J u y B<k->I u y B->bV E m (.loop Y x) (fr u y B) (G u y B) Z Qr Qe:=by
  intro k
  induction k with
  | zero=>intro u y B h;omega
  | succ k ih=>intro u y B h hi;exact step u y B hi fun Q R S hy hm=>ih Q R S (by omega) hy
 exact a0 (J T U V+1) T U V (by omega) h0
def wA{L:Type}{O:Type}{Q:Type}{R:Type}{G:Tb}{m:Nat}{sc:List Nat}{x:AC}{a:List PV}{M:Mem}{Qn Qr:Kl}{Qe:Nat->Kl}(I:L->O->Q->R->Prop)(fr:L->O->Q->R->List PV)(J:L->O->Q->R->Mem)(K:L->O->Q->R->Nat)
  (Y:L) (Z:O) (z3:Q) (z4:R) (h0:I Y Z z3 z4) (hw:dh a (fr Y Z z3 z4)) (hM:M=J Y Z z3 z4)
  (step:∀(u:L) (y:O) (B:Q) (E:R),I u y B E->(∀(S:L) (T:O) (U:Q) (V:R),I S T U V->K S T U V<K u y B E->bV G m (.loop sc x) (fr S T U V) (J S T U V) Qn Qr Qe)->bV G m (.loop sc x) (fr u y B E) (J u y B E) Qn Qr Qe):bV G m (.loop sc x) a M Qn Qr Qe:=by
 subst hM;refine aE ?_ hw;have a0:∀(k:Nat) (u:L) (y:O) (B:Q) (E:R),K u y B E<k->I u y B E->bV G m (.loop sc x) (fr u y B E) (J u y B E) Qn Qr Qe:=by
  intro k
  induction k with
  | zero=>intro u y B E h;omega
  | succ k ih=>intro u y B E h hi;exact step u y B E hi fun S T U V hy hm=>ih S T U V (by omega) hy
 exact a0 (K Y Z z3 z4+1) Y Z z3 z4 (by omega) h0
def aAU{O:Type}{Q:Type}{R:Type}{S:Type}{T:Type}{J:Tb}{m:Nat}{sc:List Nat}{x:AC}{a:List PV}{M:Mem}{Qn Qr:Kl}{Qe:Nat->Kl}(I:O->Q->R->S->T->Prop)(fr:O->Q->R->S->T->List PV)(K:O->Q->R->S->T->Mem)(L:O->Q->R->S->T->Nat)
  (z1:O) (z2:Q) (z3:R) (z4:S) (z5:T) (h0:I z1 z2 z3 z4 z5) (hw:dh a (fr z1 z2 z3 z4 z5)) (hM:M=K z1 z2 z3 z4 z5)
  (step:∀(u:O) (y:Q) (B:R) (E:S) (G:T),I u y B E G->(∀(U:O) (V:Q) (Y:R) (Z:S) (y5:T),I U V Y Z y5->L U V Y Z y5<L u y B E G->bV J m (.loop sc x) (fr U V Y Z y5) (K U V Y Z y5) Qn Qr Qe)->bV J m (.loop sc x) (fr u y B E G) (K u y B E G) Qn Qr Qe):bV J m (.loop sc x) a M Qn Qr Qe:=by
 subst hM;refine aE ?_ hw;have a0:∀(k:Nat) (u:O) (y:Q) (B:R) (E:S) (G:T),L u y B E G<k->I u y B E G->bV J m (.loop sc x) (fr u y B E G) (K u y B E G) Qn Qr Qe:=by
  intro k
  induction k with
  | zero=>intro u y B E G h;omega
  | succ k ih=>intro u y B E G h hi;exact step u y B E G hi fun U V Y Z y5 hy hm=>ih U V Y Z y5 (by omega) hy
 exact a0 (L z1 z2 z3 z4 z5+1) z1 z2 z3 z4 z5 (by omega) h0
def aIv{R:Type}{S:Type}{T:Type}{U:Type}{V:Type}{Y:Type}{Z:Type}{L:Tb}{m:Nat}{sc:List Nat}{x:AC}{a:List PV}{M:Mem}{Qn Qr:Kl}{Qe:Nat->Kl}(I:R->S->T->U->V->Y->Z->Prop)(fr:R->S->T->U->V->Y->Z->List PV)(O:R->S->T->U->V->Y->Z->Mem)(Q:R->S->T->U->V->Y->Z->Nat)
  (z1:R) (z2:S) (z3:T) (z4:U) (z5:V) (z6:Y) (z7:Z) (h0:I z1 z2 z3 z4 z5 z6 z7) (hw:dh a (fr z1 z2 z3 z4 z5 z6 z7)) (hM:M=O z1 z2 z3 z4 z5 z6 z7)
  (step:∀(u:R) (y:S) (B:T) (E:U) (G:V) (J:Y) (K:Z),I u y B E G J K->(∀(y1:R) (y2:S) (y3:T) (y4:U) (y5:V) (y6:Y) (y7:Z),I y1 y2 y3 y4 y5 y6 y7->Q y1 y2 y3 y4 y5 y6 y7<Q u y B E G J K->bV L m (.loop sc x) (fr y1 y2 y3 y4 y5 y6 y7) (O y1 y2 y3 y4 y5 y6 y7) Qn Qr Qe)->bV L m (.loop sc x) (fr u y B E G J K) (O u y B E G J K) Qn Qr Qe):bV L m (.loop sc x) a M Qn Qr Qe:=by
 subst hM;refine aE ?_ hw;have a0:∀(k:Nat) (u:R) (y:S) (B:T) (E:U) (G:V) (J:Y) (K:Z),Q u y B E G J K<k->I u y B E G J K->bV L m (.loop sc x) (fr u y B E G J K) (O u y B E G J K) Qn Qr Qe:=by
  intro k
  induction k with
  | zero=>intro u y B E G J K h;omega
  | succ k ih=>intro u y B E G J K h hi;exact step u y B E G J K hi fun y1 y2 y3 y4 y5 y6 y7 hy hm=>ih y1 y2 y3 y4 y5 y6 y7 (by omega) hy
 exact a0 (Q z1 z2 z3 z4 z5 z6 z7+1) z1 z2 z3 z4 z5 z6 z7 (by omega) h0
attribute [irreducible] QIf rK FI HY aFl ZOb dW aCK aFv UB aFx FH vD QP MD aCT xA CA rI rJ fZ nX RX RO RD RS aDg MW UI H7 H8
mutual
def PV.under(m:Nat):PV->Bool
 | .ptr id _ _=>decide (id<m)
 | .ref id _ _ _ _=>decide (id<m)
 | .map id=>decide (id<m)
 | .yld id f=>decide (id<m)&&aD m f
 | .cp cs _=>aD m cs
 | .sl _ _ _ _ cs=>aD m cs
 | .func _ f c=>aD m f&&aD m c
 | .iface _ v=>PV.under m v
 | .agg cs=>aD m cs
 | .tuple cs=>aD m cs
 | .aa=>Jo
 | .bool _=>Jo
 | .int _ _=>Jo
 | .str _=>Jo
 | .au=>Jo
 | .ah=>Jo
 | .bc=>Jo
 | .aq=>Jo
 | .ae=>Jo
def aD(m:Nat):List PV->Bool
 | []=>Jo
 | v::l=>PV.under m v&&aD m l
end
def cY(m:Nat):∀(l:List PV),aD m l=Jo↔∀v∈l,v.under m=Jo
 | []=>by simp[aD]
 | v::l=>by simp[aD,cY m l]
def fS{m:Nat}{l:List PV}(h:aD m l=Jo){i:Nat}{y:PV}(u:l[i]? =Jm y):y.under m=Jo:=(cY m l).1 h y (Af u)
def aO(m:Nat)(k:IntKind)(u:List Int):aD m (u.map (PV.int k))=Jo:=(cY m _).2 fun v hv=>by obtain⟨x,_,rfl⟩:=List.mem_map.1 hv;simp[PV.under]
def dK{α:Type}(m:Nat)(f:α->PV)(hf:∀x,(f x).under m=Jo)(u:List α):aD m (u.map f)=Jo:=(cY m _).2 fun v hv=>by obtain⟨x,_,rfl⟩:=List.mem_map.1 hv;exact hf x
def lL(m:Nat)(l u:List PV):aD m (l++u)=(aD m l&&aD m u):=by
 induction l with
 | nil=>simp[aD]
 | cons v l y=>simp[aD,y,Bool.and_assoc]
def vJ{m:Nat}{l:List PV}(h:aD m l=Jo)(k:Nat):aD m (l.drop k)=Jo:=(cY m _).2 fun v hv=>(cY m l).1 h v (List.mem_of_mem_drop hv)
def vI{m:Nat}{l:List PV}(h:aD m l=Jo)(k:Nat):aD m (l.take k)=Jo:=(cY m _).2 fun v hv=>(cY m l).1 h v (List.mem_of_mem_take hv)
def az.low{w w':PWd}{m:Nat}(h0:w'.n0=w.n0)(J:∀b o,w.imm b=Jm o->w'.imm b=Jm o)(he:∀id,id<m->w'.env id=w.env id){v:PV}{x:AV}(h:az w v x):v.under m=Jo->az w' v x:=by
 induction h with
 | aa x=>intro _;exact .aa x
 | bool b=>intro _;exact .bool b
 | int k n=>intro _;exact .int k n
 | str s=>intro _;exact .str s
 | au=>intro _;exact .au
 | ah=>intro _;exact .ah
 | bc=>intro _;exact .bc
 | aq=>intro _;exact .aq
 | ae=>intro _;exact .ae
 | ptr h1 h2 h3=>intro hb;simp only[PV.under,decide_eq_true_eq]at hb;exact .ptr (by rw[he _ hb];exact h1) h2 h3
 | mi x q h1 h2=>intro hb;simp only[PV.under,decide_eq_true_eq]at hb;exact .mi x q (by rw[he _ hb];exact h1) h2
 | cp h1 h2 h3 u=>intro hb;simp only[PV.under]at hb;exact .cp (J _ _ h1) h2 fun i y z p q=>u i y z p q (fS hb p)
 | sl h1 h2 h3 B E K L u=>intro hb;simp only[PV.under]at hb;exact .sl (J _ _ h1) h2 h3 B (by rw[h0];exact E) (by rw[h0];exact K) fun i y z p q=>u i y z p q (fS hb p)
 | slN=>intro _;exact .slN
 | ref h1 h2 h3=>intro hb;simp only[PV.under,decide_eq_true_eq]at hb;exact .ref (by rw[he _ hb];exact h1) h2 h3
 | ma h1 h2 h3=>intro hb;simp only[PV.under,decide_eq_true_eq]at hb;exact .ma (by rw[he _ hb];exact h1) h2 h3
 | nj x q h1 h2=>intro hb;simp only[PV.under,decide_eq_true_eq]at hb;exact .nj x q (by rw[he _ hb];exact h1) h2
 | map h1 h2 h3=>intro hb;simp only[PV.under,decide_eq_true_eq]at hb;exact .map (by rw[he _ hb];exact h1) h2 h3
 | oa x q h1 h2=>intro hb;simp only[PV.under,decide_eq_true_eq]at hb;exact .oa x q (by rw[he _ hb];exact h1) h2
 | func h1 h2 h3 B E G I=>intro hb;simp only[PV.under,Au]at hb;exact .func h1 h2 h3 (fun i y z p q=>G i y z p q (fS hb.1 p)) fun i y z p q=>I i y z p q (fS hb.2 p)
 | yld h1 h2 h3 B E u=>intro hb;simp only[PV.under,Au,decide_eq_true_eq]at hb;exact .yld (by rw[he _ hb.1];exact h1) h2 h3 B fun i y z p q=>u i y z p q (fS hb.2 p)
 | nv x q h1 h2=>intro hb;simp only[PV.under,Au,decide_eq_true_eq]at hb;exact .nv x q (by rw[he _ hb.1];exact h1) h2
 | iface h u=>intro hb;simp only[PV.under]at hb;exact .iface (u hb)
 | agg h1 h2 u=>intro hb;simp only[PV.under]at hb;exact .agg h1 fun i y z p q=>u i y z p q (fS hb p)
 | tuple h1 h2 u=>intro hb;simp only[PV.under]at hb;exact .tuple h1 fun i y z p q=>u i y z p q (fS hb p)
def al.low{w w':PWd}{m:Nat}(h0:w'.n0=w.n0)(u:∀b o,w.imm b=Jm o->w'.imm b=Jm o)(he:∀id,id<m->w'.env id=w.env id){l:List PV}{l':List AV}(h:al w l l')(hb:aD m l=Jo):al w' l l':=
 ⟨h.len,fun i y z p q=>(h.get i y z p q).low h0 u he (fS hb p)⟩
def bX(m:Nat)(M:Mem):PV->Option PV
 | .ref id g sz off n=>if id<m then Jm (.ref id g sz off n)else match M[id]? with
  | some (.cells u _ cs)=>if u=g/\off+n*sz<=cs.length/\aD m cs=Jo then Jm (.sl Jp Jo sz n (aY cs off (n*sz)))else Jn
  | _=>Jn
 | v=>if v.under m=Jo then Jm v else Jn
def dM(m:Nat)(M:Mem):List PV->Option (List PV)
 | []=>Jm []
 | v::l=>match bX m M v,dM m M l with
  | some x,Jm u=>Jm (x::u)
  | _,_=>Jn
def cP(m:Nat)(M:Mem):PV->Option PV
 | .agg cs=>(dM m M cs).map .agg
 | v=>bX m M v
def gU(m:Nat)(M:Mem):List PV->Option (List PV)
 | []=>Jm []
 | v::l=>match cP m M v,gU m M l with
  | some x,Jm u=>Jm (x::u)
  | _,_=>Jn
def fP(m:Nat)(M:Mem):PV->Option PV
 | .tuple cs=>(gU m M cs).map .tuple
 | v=>cP m M v
def BG{m:Nat}{M:Mem}{v r:PV}(hr:bX m M v=Jm r):r.under m=Jo:=by
 have u:(if v.under m=Jo then Jm v else Jn)=Jm r->r.under m=Jo:=by
  intro hr;split at hr
  ·rename_i hb;cases hr;exact hb
  ·cases hr
 unfold bX at hr;split at hr
 ·split at hr
  ·rename_i y;cases hr;simp[PV.under,y]
  ·split at hr
   ·split at hr
    ·rename_i B;cases hr;simp only[PV.under];exact vI (vJ B.2.2 _) _
    ·cases hr
   ·cases hr
 ·exact u hr
def BE{m:Nat}{M:Mem} :∀{l r:List PV},dM m M l=Jm r->aD m r=Jo
 | [],r,hr=>by simp only[dM]at hr;cases hr;rfl
 | v::l,r,hr=>by
  simp only[dM]at hr;split at hr
  ·rename_i a b h1 h2;cases hr;simp[aD,BG h1,BE h2]
  ·cases hr
def BF{m:Nat}{M:Mem}{v r:PV}(hr:cP m M v=Jm r):r.under m=Jo:=by
 unfold cP at hr;split at hr
 ·rename_i cs
  cases u:dM m M cs with
  | none=>rw[u]at hr;cases hr
  | some y=>rw[u]at hr;cases hr;simp only[PV.under];exact BE u
 ·exact BG hr
def wK{m:Nat}{M:Mem} :∀{l r:List PV},gU m M l=Jm r->aD m r=Jo
 | [],r,hr=>by simp only[gU]at hr;cases hr;rfl
 | v::l,r,hr=>by
  simp only[gU]at hr;split at hr
  ·rename_i a b h1 h2;cases hr;simp[aD,BF h1,wK h2]
  ·cases hr
def W3{m:Nat}{M:Mem}{v r:PV}(hr:fP m M v=Jm r):r.under m=Jo:=by
 unfold fP at hr;split at hr
 ·rename_i cs
  cases u:gU m M cs with
  | none=>rw[u]at hr;cases hr
  | some y=>rw[u]at hr;cases hr;simp only[PV.under];exact wK u
 ·exact BF hr
def cm.under(m:Nat):cm->Bool
 | .cells _ _ cs=>aD m cs
 | .gone=>Jo
 | _=>Jp
open Classical in
noncomputable def PWd.cut(w:PWd)(h:H)(m:Nat)(M:Mem):PWd where
 n0:=w.n0
 id0:=w.id0
 env:=fun id=>if id<m then w.env id else Jn
 imm:=fun b=>if ∃id,m<=id/\af w M id b then h.get b else w.imm b
open Classical in
def lJ{w:PWd}{h:H}{M:Mem}(s:PSt w h M)(m:Nat):∀b o,w.imm b=Jm o->(w.cut h m M).imm b=Jm o:=by
 intro b o hb;show(if _ then _ else _)=_;split
 ·exact s.imm b o hb
 ·exact hb
def gR{w:PWd}{h:H}{M:Mem}{m id:Nat}(u:id<m):(w.cut h m M).env id=w.env id:=by show(if _ then _ else _)=_;rw[if_pos u]
def tA{w:PWd}{h:H}{M:Mem}{m id x:Nat}(hl:af (w.cut h m M) (M.take m) id x):id<m/\af w M id x:=by
 obtain⟨o,e,h1,h2,h3,y⟩:=hl;have u:id<m:=by have:=aI h1;simp at this;omega
 rw[gR u]at h3;rw[Bc,if_pos u]at h1;exact⟨u,o,e,h1,h2,h3,y⟩
open Classical in
def PSt.cut{w:PWd}{h:H}{M:Mem}(s:PSt w h M){m:Nat}(hm:m<=M.length)(hb:(M.take m).all (cm.under m)=Jo):
  PSt (w.cut h m M) h (M.take m)/\∀(w0:PWd) (h0:H) (J:Mem),dr m w0 h0 J w h M->dr m w0 h0 J (w.cut h m M) h (M.take m):=by
 have hlen:(M.take m).length=m:=by simp;omega
 refine⟨⟨?_,?_,?_,?_,?_,?_,s.base⟩,fun w0 h0 J t=>⟨by omega,⟨t.le.n0,t.le.id0,fun b o u=>lJ s m b o (t.le.imm b o u),fun id y e he=>?_⟩,t.next,t.dx,fun id x hl G=>t.live id x (tA hl).2 G,?_⟩⟩
 ·intro b o u;have u:(if ∃id,m<=id/\af w M id b then h.get b else w.imm b)=Jm o:=u;split at u
  ·exact u
  ·exact s.imm b o u
 ·intro id e he;have he:(if id<m then w.env id else Jn)=Jm e:=he;split at he
  ·rename_i y;omega
  ·cases he
 ·intro id e b he B;have he:(if id<m then w.env id else Jn)=Jm e:=he;split at he
  ·exact s.blk id e b he B
  ·cases he
 ·intro id o K;have y:id<m:=by have:=aI K;omega
  have I:=K;rw[Bc,if_pos y]at I;have u:o.under m=Jo:=by rw[List.all_eq_true]at hb;exact hb o (Af K)
  have r:=s.obj id o I
  cases o with
  | cells g ver cs=>
   obtain⟨e,h1,h2,h3⟩:=r;refine⟨e,by rw[gR y];exact h1,h2,?_⟩
   cases B:e.blk with
   | none=>rw[B]at h3;exact h3
   | some b=>rw[B]at h3;obtain⟨L,R,S⟩:=h3;exact⟨L,R,S.low (w:=w) (w':=w.cut h m M) rfl (lJ s m) (fun id y=>gR y) u⟩
  | gone=>trivial
  | _=>simp[cm.under]at u
 ·intro i j x h1 h2;exact s.inj i j x (tA h1).2 (tA h2).2
 ·intro i x h1;obtain⟨y,hl⟩:=tA h1;refine⟨?_,(s.sep i x hl).2⟩;show(if _ then _ else _)=_;split
  ·rename_i O;obtain⟨j,T,Q⟩:=O;have:=s.inj i j x hl Q;omega
  ·exact(s.sep i x hl).1
 ·rw[gR y];exact t.le.env id y e he
 ·intro x G;have G:(if ∃id,m<=id/\af w M id x then h.get x else w.imm x)≠Jn:=G;split at G
  ·rename_i O;obtain⟨id,hid,hl⟩:=O;rcases Ba x h0.next with E | E
   ·exact .inr (.inr ⟨id,hid,t.live id x hl E⟩)
   ·exact .inr (.inl E)
  ·exact t.new x G
open Classical in
def LS{w:PWd}{h:H}{M:Mem}(s:PSt w h M){m:Nat}(h0:w.id0<=m){v r:PV}{x:AV}(hv:az w v x)(hr:bX m M v=Jm r):az (w.cut h m M) r x:=by
 have low:∀{u:PV},az w u x->u.under m=Jo->az (w.cut h m M) u x:=fun Q hb=>Q.low (w:=w) (w':=w.cut h m M) rfl (lJ s m) (fun id G=>gR G) hb;have B:(if v.under m=Jo then Jm v else Jn)=Jm r->az (w.cut h m M) r x:=by
  intro hr;split at hr
  ·rename_i hb;cases hr;exact low hv hb
  ·cases hr
 unfold bX at hr;split at hr
 ·rename_i id g sz off n;split at hr
  ·rename_i G;cases hr;exact low hv (by simp[PV.under,G])
  ·rename_i G;split at hr
   ·rename_i U ver cs hm;split at hr
    ·rename_i R;obtain⟨rfl,hl,hb⟩:=R;cases hr;obtain⟨e,V,Y,S⟩:=s.ij hm hv;rcases S with⟨rfl,rfl,rfl,_,rfl⟩ | ⟨Z,b,I,rfl,q1,T,K,L⟩
     ·simpa [aY]using az.slN
     ·have E:∃i,m<=i/\af w M i b:=⟨id,by omega,L⟩;have J:(w.cut h m M).imm b=Jm (.cells (e.v0+ver) Jo I):=by
       show(if _ then _ else _)=_;rw[if_pos E];exact T
      have hlen:(aY cs off (n*sz)).length=n*sz:=by simp[aY];omega
      have hs:=(fJ K off (n*sz)).low (w:=w) (w':=w.cut h m M) rfl (lJ s m) (fun id G=>gR G) (vI (vJ hb off) _);refine .sl J (by rw[hlen,<-K.len];exact hl) hlen (fun hf=>by cases hf) (fun _=>⟨(s.sep id b L).2 (by omega),rfl⟩) (fun q=>by cases q) fun i y z O hz=>hs.get i y z O ?_;rw[Bc,if_pos (by have:=aI O;omega),Bg];exact hz
    ·cases hr
   ·cases hr
 ·exact B hr
def sW{w:PWd}{h:H}{M:Mem}(s:PSt w h M){m:Nat}(h0:w.id0<=m):∀{l r:List PV} {u:List AV},al w l u->dM m M l=Jm r->al (w.cut h m M) r u
 | [],r,u,hl,hr=>by simp only[dM]at hr;cases hr;exact⟨hl.len,fun i y z h=>by simp at h⟩
 | v::l,r,[],hl,hr=>by have:=hl.len;simp at this
 | v::l,r,x::u,hl,hr=>by
  simp only[dM]at hr;split at hr
  ·rename_i a b h1 h2;cases hr;exact .cons (LS s h0 hl.hd h1) (sW s h0 hl.tl h2)
  ·cases hr
def LR{w:PWd}{h:H}{M:Mem}(s:PSt w h M){m:Nat}(h0:w.id0<=m){v r:PV}{x:AV}(hv:az w v x)(hr:cP m M v=Jm r):az (w.cut h m M) r x:=by
 unfold cP at hr;split at hr
 ·rename_i cs
  cases u:dM m M cs with
  | none=>rw[u]at hr;cases hr
  | some y=>rw[u]at hr;cases hr;obtain⟨B,rfl,hl⟩:=nD hv;have:=sW s h0 hl u;exact .agg this.len this.get
 ·exact LS s h0 hv hr
def E3{w:PWd}{h:H}{M:Mem}(s:PSt w h M){m:Nat}(h0:w.id0<=m):∀{l r:List PV} {u:List AV},al w l u->gU m M l=Jm r->al (w.cut h m M) r u
 | [],r,u,hl,hr=>by simp only[gU]at hr;cases hr;exact⟨hl.len,fun i y z h=>by simp at h⟩
 | v::l,r,[],hl,hr=>by have:=hl.len;simp at this
 | v::l,r,x::u,hl,hr=>by
  simp only[gU]at hr;split at hr
  ·rename_i a b h1 h2;cases hr;exact .cons (LR s h0 hl.hd h1) (E3 s h0 hl.tl h2)
  ·cases hr
def HH{w:PWd}{h:H}{M:Mem}(s:PSt w h M){m:Nat}(h0:w.id0<=m){v r:PV}{x:AV}(hv:az w v x)(hr:fP m M v=Jm r):az (w.cut h m M) r x:=by
 unfold fP at hr;split at hr
 ·rename_i cs
  cases u:gU m M cs with
  | none=>rw[u]at hr;cases hr
  | some y=>rw[u]at hr;cases hr;obtain⟨B,rfl,hl⟩:=pI hv;have:=E3 s h0 hl u;exact .tuple this.len this.get
 ·exact LR s h0 hv hr
section
variable {tab:Tb}
def iX{L:Rec}{g:FuncId}{args:List AV}{h:H}{K y:AV->H->Prop}(B:C L g args h K)(E:∀v u,K v u->y v u):C L g args h y:=by unfold C at B ⊢;obtain⟨v,u,h1,h2⟩:=B;exact⟨v,u,h1,E v u h2⟩
def aj.mono{g:FuncId}{args:List PV}{M:Mem}{K B:Kp}(E:aj tab g args M K)(G:∀v y,K v y->B v y):aj tab g args M B:=
 fun w h u h0 s I=>iX (E w h u h0 s I) fun v R ⟨w',r,y,J,L,O,Q⟩=>⟨w',r,y,J,L,O,G _ _ Q⟩
def CD{g:FuncId}{args:List PV}{M:Mem}{K:Kp}(I:aj tab g args M fun r y=>(y.take M.length).all (cm.under M.length)=Jo/\gG (fP M.length y r) fun B=>K B (y.take M.length)):aj tab g args M K:=by intro w h u h0 s J;refine iX (I w h u h0 s J) ?_;rintro v U ⟨w',r,y,E,G,L,O,B,Q,R⟩;obtain⟨S,T⟩:=G.cut E.len O;exact⟨_,B,_,T w h M E,S,HH G (by rw[E.le.id0];exact h0) L Q,R⟩
def rO{g:FuncId}{args:List PV}{M:Mem}{K:Kp}(hb:aD 0 args=Jo)(U:aj tab g args [] fun r M'=>gG (fP 0 M' r) fun R=>K R M):aj tab g args M K:=by
 intro w h y h0 s ha
 let w0:PWd:={w with env:=fun _=>Jn,id0:=0}
 have s0:PSt w0 h []:=⟨s.imm,(fun id e he=>by cases he),(fun id e b he=>by cases he),(fun id o V=>by simp at V),(fun i j x ⟨_,_,h1,_⟩=>by simp at h1),(fun i x ⟨_,_,h1,_⟩=>by simp at h1),s.base⟩;have a0:al w0 args y:=ha.low (w:=w) (w':=w0) rfl (fun _ _ h=>h) (fun id Z=>by omega) hb;refine iX (U w0 h y (Ac _) s0 a0) ?_;rintro v L ⟨O,r,S,B,p2,p3,R,p5,p6⟩;have q1:=HH p2 (by rw[B.le.id0];exact Ac _) p3 p5;obtain⟨z1,z2⟩:=p2.cut (m:=0) (Ai _) (by simp);have B:=z2 w0 h [] B;have Y:O.n0=w.n0:=B.le.n0;have G:∀x id,¬af w0 [] id x:=fun x id ⟨_,_,h1,_⟩=>by simp at h1
 have E:∀x,x<h.next->L.get x=h.get x:=fun x Q=>B.dx x Q (G x)
 let T:PWd:={n0:=w.n0,id0:=w.id0,env:=w.env,imm:=(O.cut L 0 S).imm}
 have hl:Le M.length w T:=⟨rfl,rfl,fun b o I=>B.le.imm b o I,fun id Z e he=>⟨e,he,.inr rfl⟩⟩;have hr:az T R v:=by exact q1.low (w:=O.cut L 0 S) (w':=T) (m:=0) Y.symm (fun _ _ h=>h) (fun id Z=>by omega) (W3 p5)
 refine⟨T,R,M,⟨Ac _,hl,B.next,fun x Q _=>E x Q,fun id x u _=>u,?_⟩,⟨fun b o I=>z1.imm b o I,s.env,?_,?_,s.inj,?_,Aj s.base B.next⟩,hr,p6⟩
 ·intro x Q;rcases B.new x Q with e | e | ⟨id,_,e⟩
  ·exact .inl e
  ·exact .inr (.inl e)
  ·exact absurd e (G x id)
 ·intro id e b he J;exact Bi (s.blk id e b he J) B.next
 ·intro id o V;exact lg.mono s hl (s.obj id o V) (fun e he=>he) fun e b he J=>E b (s.blk id e b he J)
 ·intro i x u;have u:af w M i x:=u;refine⟨?_,(s.sep i x u).2⟩;show(O.cut L 0 S).imm x=Jn
  cases U:(O.cut L 0 S).imm x with
  | none=>rfl
  | some o=>
   rcases B.new x (by rw[U];simp)with e | e | ⟨id,_,e⟩
   ·exact absurd (s.sep i x u).1 e
   ·have:=u.next s;omega
   ·exact absurd e (G x id)
end
section
variable {tab:Tb}
def UG(u:List jt)(K:Kp)(a:List PV)(M:Mem):Prop:=g9 u a M fun y=>K (fe y) M
def pA(u:List jt)(Q:PV->Prop)(a:List PV)(M:Mem):Prop:=g9 u a M fun y=>gG (fP 0 M (fe y)) Q
def ls(i:Nat)(a:List PV)(M:Mem):Prop:=False
def aDh(u:List jt)(K:Kp)(a:List PV)(M:Mem):UG u K a M=g9 u a M fun y=>K (fe y) M:=(rfl)
def YM(u:List jt)(Q:PV->Prop)(a:List PV)(M:Mem):pA u Q a M=g9 u a M fun y=>dW (fP 0 M (fe y)) Q ⟨0⟩:=by unfold dW;rfl
def YK(a:List PV)(M:Mem)(K:List PV->Prop):g9 [] a M K=K []:=(rfl)
def YJ(t:Nat)(u:List jt)(a:List PV)(M:Mem)(K:List PV->Prop):g9 (.tmp t::u) a M K=g9 u a M fun y=>K (ct a t::y):=(rfl)
def RM(t:Nat)(u:List jt)(a:List PV)(M:Mem)(K:List PV->Prop):g9 (.cell t::u) a M K=FH (ct a t) M (fun v _=>g9 u a M fun y=>K (v::y)) ⟨0⟩:=by unfold FH;rfl
def MV(t n:Nat)(u:List jt)(a:List PV)(M:Mem)(K:List PV->Prop):g9 (.cells t n::u) a M K=vD n (ct a t) M (fun v _=>g9 u a M fun y=>K (v::y)) ⟨0⟩:=by unfold vD;rfl
def aT{g:FuncId}{F:AFn}(hg:tab g=Jm (.fn F)){args:List PV}{M:Mem}{K:Kp}
  (u:RX tab M.length F.body (ll args F.ntmps) M (UG F.results K) (UG F.results K) ls):aj tab g args M K:=
 cA hg (MH _ _ u)
def aF{g:FuncId}{F:AFn}(hg:tab g=Jm (.fn F)){args:List PV}{M:Mem}{K:Kp}(hb:aD 0 args=Jo)
  (u:RX tab 0 F.body (ll args F.ntmps) [] (pA F.results fun r=>K r M) (pA F.results fun r=>K r M) ls):aj tab g args M K:=
 rO hb (aT hg u)
end
def bo(r u:PV):Prop:=∀w x,az w r x->az w u x
def bo.refl(r:PV):bo r r:=fun _ _ h=>h
def bo.ah(u own:Bool)(sz:Nat):bo .ah (.sl u own sz 0 []):=fun w x h=>by rw[dB h];exact .slN
def bo.sl(u:Bool)(sz n:Nat)(cs:List PV):bo (.sl u Jo sz n cs) (.sl Jp Jo sz n cs):=fun w x h=>by
 cases h with
 | sl h1 h2 h3 E y G B=>exact .sl h1 h2 h3 (fun q=>by cases q) y (fun q=>by cases q) B
 | slN=>exact .slN
def bo.sl0(u own:Bool)(sz n:Nat)(cs:List PV):bo (.sl u own sz n cs) (.sl Jo Jp sz n cs):=fun w x h=>by
 cases h with
 | sl h1 h2 h3 B E G y=>exact .sl h1 h2 h3 (fun _ q=>by cases q) (fun q=>by cases q) (fun _ q=>by cases q) y
 | slN=>exact .slN
def bo.agg{l u:List PV}(hl:l.length=u.length)(h:∀(i:Nat) (y z:PV),l[i]? =Jm y->u[i]? =Jm z->bo y z):bo (.agg l) (.agg u):=fun w x E=>by
 obtain⟨G,rfl,hr⟩:=nD E;refine .agg (by rw[<-hl];exact hr.len) fun i y z h1 h2=>?_;have B:i<l.length:=by rw[hl];exact aI h1
 exact h i l[i] y (Ad B) h1 w z (hr.get i _ _ (Ad B) h2)
def bo.tuple{l u:List PV}(hl:l.length=u.length)(h:∀(i:Nat) (y z:PV),l[i]? =Jm y->u[i]? =Jm z->bo y z):bo (.tuple l) (.tuple u):=fun w x E=>by
 obtain⟨G,rfl,hr⟩:=pI E;refine .tuple (by rw[<-hl];exact hr.len) fun i y z h1 h2=>?_;have B:i<l.length:=by rw[hl];exact aI h1
 exact h i l[i] y (Ad B) h1 w z (hr.get i _ _ (Ad B) h2)
section
variable {tab:Tb}
def iK{g:FuncId}{args:List PV}{M:Mem}{K:Kp}(h:aj tab g args M fun r B=>∃y,bo r y/\K y B):aj tab g args M K:=
 fun w hh u h0 s E=>iX (h w hh u h0 s E) fun v Q ⟨w',r,B,G,I,J,y,L,O⟩=>⟨w',y,B,G,I,L w' v J,O⟩
end
abbrev slI(f o:Bool)(k:IntKind)(u:List Int):PV:= .sl f o 1 u.length (u.map (PV.int k))
abbrev slR(f o u y:Bool)(k:IntKind)(su:List (List Int)):PV:= .sl f o 1 su.length (su.map (slI u y k))
abbrev slB(f o:Bool)(u:List Bool):PV:= .sl f o 1 u.length (u.map PV.bool)
def NC(m:Nat):PV.under m .aa=Jo:=by simp[PV.under]
def DA(m:Nat)(k:IntKind)(n:Int):PV.under m (.int k n)=Jo:=by simp[PV.under]
def qN(m:Nat)(b:Bool):PV.under m (.bool b)=Jo:=by simp[PV.under]
def NB(m:Nat):PV.under m .ah=Jo:=by simp[PV.under]
def e8(m:Nat)(f o:Bool)(sz n:Nat)(k:IntKind)(u:List Int):PV.under m (.sl f o sz n (u.map (PV.int k)))=Jo:=by simp[PV.under,aO]
def tM(m:Nat)(f o:Bool)(sz n:Nat)(u:List Bool):PV.under m (.sl f o sz n (u.map PV.bool))=Jo:=by simp only[PV.under];exact dK m _ (fun x=>qN m x) u
def lW(m:Nat)(f o u y:Bool)(sz n:Nat)(k:IntKind)(su:List (List Int)):PV.under m (.sl f o sz n (su.map (slI u y k)))=Jo:=by simp only[PV.under];exact dK m _ (fun x=>e8 m u y 1 _ k x) su
def UW(m:Nat)(cs:List PV):PV.under m (.agg cs)=aD m cs:=by simp[PV.under]
def IK(m:Nat)(cs:List PV):PV.under m (.tuple cs)=aD m cs:=by simp[PV.under]
def UV(m id g o:Nat):PV.under m (.ptr id g o)=decide (id<m):=by simp[PV.under]
def UU(m id g sz off n:Nat):PV.under m (.ref id g sz off n)=decide (id<m):=by simp[PV.under]
def yG(m:Nat)(fn:Go.Fn)(f c:List PV):PV.under m (.func fn f c)=(aD m f&&aD m c):=by simp[PV.under]
def gS(m:Nat):aD m []=Jo:=by simp[aD]
def eJ(m:Nat)(v:PV)(l:List PV):aD m (v::l)=(v.under m&&aD m l):=by simp[aD]
def sV(o:Option cm)(g sz off n:Nat):Option PV:=match o with
 | some (.cells u _ cs)=>if u=g/\off+n*sz<=cs.length/\aD 0 cs=Jo then Jm (.sl Jp Jo sz n (aY cs off (n*sz)))else Jn
 | _=>Jn
def V3(M:Mem)(id g sz off n:Nat):bX 0 M (.ref id g sz off n)=sV M[id]? g sz off n:=by unfold bX sV;simp only[Ff,if_false];all_goals (generalize M[id]? =x;rcases x with _ | o<;>first | rfl | (cases o<;>rfl))
def dO{g ver off n sz:Nat}{cs:List PV}(h1:off+n*sz<=cs.length)(h2:aD 0 cs=Jo):sV (Jm (.cells g ver cs)) g sz off n=Jm (.sl Jp Jo sz n (aY cs off (n*sz))):=by unfold sV;simp only;rw[if_pos ⟨trivial,h1,h2⟩]
def Z9(M:Mem)(k:IntKind)(n:Int):fP 0 M (.int k n)=Jm (.int k n):=by simp[fP,cP,bX,PV.under]
def VW(M:Mem)(b:Bool):fP 0 M (.bool b)=Jm (.bool b):=by simp[fP,cP,bX,PV.under]
def V4(M:Mem)(k:IntKind)(n:Int):bX 0 M (.int k n)=Jm (.int k n):=by simp[bX,PV.under]
def OB(M:Mem)(b:Bool):bX 0 M (.bool b)=Jm (.bool b):=by simp[bX,PV.under]
def OA(M:Mem):bX 0 M .ah=Jm .ah:=by simp[bX,PV.under]
def aAd{M:Mem}{f o:Bool}{sz n:Nat}{cs:List PV}(h:aD 0 cs=Jo):bX 0 M (.sl f o sz n cs)=Jm (.sl f o sz n cs):=by simp[bX,PV.under,h]
def N3(M:Mem)(cs:List PV):fP 0 M (.tuple cs)=(gU 0 M cs).map .tuple:=by simp[fP]
def aAa(M:Mem)(cs:List PV):fP 0 M (.agg cs)=(dM 0 M cs).map .agg:=by simp[fP,cP]
def aDT{M:Mem}{f o:Bool}{sz n:Nat}{cs:List PV}(h:aD 0 cs=Jo):fP 0 M (.sl f o sz n cs)=Jm (.sl f o sz n cs):=by simp[fP,cP,bX,PV.under,h]
def aGN(M:Mem)(id g sz off n:Nat):fP 0 M (.ref id g sz off n)=bX 0 M (.ref id g sz off n):=by simp[fP,cP]
def VV(M:Mem):fP 0 M .ah=Jm .ah:=by simp[fP,cP,bX,PV.under]
def V1(M:Mem)(cs:List PV):cP 0 M (.agg cs)=(dM 0 M cs).map .agg:=by simp[cP]
def V0(M:Mem)(k:IntKind)(n:Int):cP 0 M (.int k n)=Jm (.int k n):=by simp[cP,bX,PV.under]
def N9(M:Mem)(b:Bool):cP 0 M (.bool b)=Jm (.bool b):=by simp[cP,bX,PV.under]
def N8(M:Mem):cP 0 M .ah=Jm .ah:=by simp[cP,bX,PV.under]
def aAc{M:Mem}{f o:Bool}{sz n:Nat}{cs:List PV}(h:aD 0 cs=Jo):cP 0 M (.sl f o sz n cs)=Jm (.sl f o sz n cs):=by simp[cP,bX,PV.under,h]
def aDU(M:Mem)(id g sz off n:Nat):cP 0 M (.ref id g sz off n)=bX 0 M (.ref id g sz off n):=by simp[cP]
def VX(M:Mem):dM 0 M []=Jm []:=(rfl)
def zW(x:Option PV)(l:Option (List PV)):Option (List PV):=match x,l with
 | some x,Jm u=>Jm (x::u)
 | _,_=>Jn
def OQ(x:PV)(l:List PV):zW (Jm x) (Jm l)=Jm (x::l):=(rfl)
def N6(M:Mem)(v:PV)(l:List PV):dM 0 M (v::l)=zW (bX 0 M v) (dM 0 M l):=by simp only[dM,zW];all_goals (split<;>simp_all)
def N7(M:Mem):gU 0 M []=Jm []:=(rfl)
def J6(M:Mem)(v:PV)(l:List PV):gU 0 M (v::l)=zW (cP 0 M v) (gU 0 M l):=by simp only[gU,zW];all_goals (split<;>simp_all)
def aW(m:Nat)(f o:Bool)(k:IntKind)(su:List (List Int)):aD m (su.map (slI f o k))=Jo:=dK m _ (fun x=>e8 m f o 1 _ k x) su
def bS(m:Nat)(u:List Bool):aD m (u.map PV.bool)=Jo:=dK m _ (fun x=>qN m x) u
def JV{α:Type}(f:α->PV)(u:List α):aY (u.map f) 0 u.length=u.map f:=aK _ _ (by simp)
def MA(f o:Bool)(k:IntKind)(su:List (List Int)):(su.map (slI f o k)).all PV.one=Jo:=by simp[PV.one]
def C2(u:List Bool):(u.map PV.bool).all PV.one=Jo:=by simp[PV.one]
attribute [irreducible] UG pA ls
section
variable {tab:Tb} {m:Nat} {c:AC} {Qn Qr:Kl} {Qe:Nat->Kl}
def aR{a b:List PV}{M N:Mem}(h:bV tab m c b N Qn Qr Qe)(hw:dh a b)(u:M=N):bV tab m c a M Qn Qr Qe:=by subst u;exact aE h hw
structure GStep (m:Nat) (a:List PV) (M:Mem) (b:List PV) (N:Mem):Prop where
 len:m<=M.length->m<=N.length
 go:∀(w:PWd) (hh:H) (a':List AV),w.id0<=m->m<=M.length->PSt w hh M->al w a a'->∃w',dr m w hh M w' hh N/\PSt w' hh N/\al w' b a'
def aU{a b:List PV}{M N:Mem}(g:GStep m a M b N)(h:bV tab m c b N Qn Qr Qe):bV tab m c a M Qn Qr Qe:=by intro w hh y h0 hm s B;obtain⟨w',t,E,u⟩:=g.go w hh y h0 hm s B;exact jN (h w' hh y (by rw[t.le.id0];exact h0) (g.len hm) E u) (fun _ _ q=>q.trans t) (fun _ _ q=>q.trans t) fun _ _ _ q=>q.trans t
def GStep.trans{a b d:List PV}{M N O:Mem}(g:GStep m a M b N)(k:GStep m b N d O):GStep m a M d O:=
 ⟨fun h=>k.len (g.len h),fun w hh a' h0 hm s y=>by obtain⟨B,u,E,G⟩:=g.go w hh a' h0 hm s y;obtain⟨I,J,K,L⟩:=k.go B hh a' (by rw[u.le.id0];exact h0) (g.len hm) E G;exact⟨I,u.trans J (Ac _),K,L⟩⟩
def Gh(m:Nat)(Q:Kl)(a:List PV)(M:Mem):Prop:=∃b N,GStep m a M b N/\Q b N
def Gh.same{Q:Kl}{a:List PV}{M:Mem}(h:Q a M):Gh m Q a M:=
 ⟨a,M,⟨fun h=>h,fun w hh y h0 hm s u=>⟨w,dr.refl hm w hh,s,u⟩⟩,h⟩
def Gh.step{Q:Kl}{a b:List PV}{M N:Mem}(g:GStep m a M b N)(h:Gh m Q b N):Gh m Q a M:=by obtain⟨d,O,k,u⟩:=h;exact⟨d,O,g.trans k,u⟩
def aDl{w:PWd}{h:H}{M:Mem}(h0:w.id0<=m){Q:Kl}{u:List AV}{y:H}(hl:Lf m w h M (Gh m Q) u y):Lf m w h M Q u y:=by obtain⟨E,S,T,B,G,I,b,N,g,J⟩:=hl;obtain⟨K,L,O,R⟩:=g.go E y u (by rw[B.le.id0];exact h0) B.len G I;exact⟨K,b,N,B.trans L (Ac _),O,R,J⟩
def UE{a:List PV}{M:Mem}(h:bV tab m c a M (Gh m Qn) (Gh m Qr) fun i=>Gh m (Qe i)):bV tab m c a M Qn Qr Qe:=
 fun w hh u h0 hm s y=>jN (h w hh u h0 hm s y) (fun _ _ q=>aDl h0 q) (fun _ _ q=>aDl h0 q) fun _ _ _ q=>aDl h0 q
def GStep.nil{a b:List PV}{M N:Mem}(t sz:Nat)(ht:ct a t= .ah)(hb:du a t (.ref M.length 0 sz 0 0)=b)(B:M++[.cells 0 0 []]=N):GStep m a M b N:=by
 subst hb B;refine⟨fun hm=>by simp;omega,fun w hh a' h0 hm s u=>?_⟩;obtain⟨E,y⟩:=s.ky (v0:=0);refine⟨_,y.weaken hm,E,?_⟩;have h1:=u.dl t;rw[ht]at h1;have h2:=u.mono y.le s.env;have h3:=h2.iz t (v:= .ref M.length 0 sz 0 0) (x:=dl a' t) (by
  rw[dB h1];exact .ma (e:=⟨Jn,0,0⟩) (by show(if _=_ then _ else _)=_;rw[if_pos rfl]) rfl rfl)
 have G:iz a' t (dl a' t)=a':=by
  have:∀(l:List AV) (t:Nat),iz l t (dl l t)=l:=by
   intro l
   induction l with
   | nil=>intro t;rfl
   | cons x l I=>intro t;cases t with
    | zero=>rfl
    | succ t=>simp[iz,dl,I t]
  exact this a' t
 rwa [G]at h3
def PSt.rh{w:PWd}{h:H}{M:Mem}(s:PSt w h M){id g ver:Nat}{cs cs2:List PV}(hm:M[id]? =Jm (.cells g ver cs))(hr:∀u,al w cs u->al w cs2 u):
  PSt w h (M.set id (.cells g ver cs2))/\∀m,m<=M.length->dr m w h M w h (M.set id (.cells g ver cs2)):=by
 have hid:=aI hm;have live:∀i x,af w (M.set id (.cells g ver cs2)) i x->af w M i x:=by
  rintro i x ⟨G,J,h1,h2,h3,E⟩;by_cases B:id=i
  ·subst B;exact⟨_,J,hm,by simp,h3,E⟩
  ·rw[Bo B]at h1;exact⟨G,J,h1,h2,h3,E⟩
 refine⟨⟨s.imm,?_,s.blk,?_,fun i j x h1 h2=>s.inj i j x (live i x h1) (live j x h2),fun i x h1=>s.sep i x (live i x h1),s.base⟩,fun m I=>⟨by simpa using I,Le.refl _ _,Ac _,fun _ _ _=>rfl,fun i x h1 _=>live i x h1,fun x K=> .inl K⟩⟩
 ·intro i e he;simpa using s.env i e he
 ·intro i G B;by_cases y:id=i
  ·subst y;rw[Cj hid]at B;cases B;obtain⟨e,h1,h2,h3⟩:=s.obj id _ hm;refine⟨e,h1,h2,?_⟩
   cases hb:e.blk with
   | none=>rw[hb]at h3;have h3:cs=[]:=h3;subst h3;have:=(hr [] (al.nil w)).len;exact List.length_eq_zero_iff.1 (by simpa using this)
   | some b=>rw[hb]at h3;obtain⟨u,E,L⟩:=h3;exact⟨u,E,hr u L⟩
  ·rw[Bo y]at B;exact s.obj i G B
def GStep.ew{a:List PV}{M N:Mem}(id o sz:Nat){g ver:Nat}{cs:List PV}(E:M[id]? =Jm (.cells g ver cs))(K:cs[o]? =Jm .ah)(L:M.set id (.cells g ver (cs.set o (.ref M.length 0 sz 0 0)))++[.cells 0 0 []]=N):GStep m a M a N:=by
 subst L;refine⟨fun hm=>by simp;omega,fun w hh a' h0 hm s O=>?_⟩;obtain⟨Q,G⟩:=s.ky (v0:=0);have hid:=aI E;have y:(M++[.cells 0 0 []])[id]? =Jm (.cells g ver cs):=by rw[Bj hid];exact E
 obtain⟨I,J⟩:=Q.rh (cs2:=cs.set o (.ref M.length 0 sz 0 0)) y (by
  intro u hr;obtain⟨z,hz,hv⟩:=hr.je K;have B:=dB hv;subst B;have:=hr.set o (v:= .ref M.length 0 sz 0 0) (x:= .ag) (.ma (e:=⟨Jn,0,0⟩) (by show(if _=_ then _ else _)=_;rw[if_pos rfl]) rfl rfl);have hb:u.set o .ag=u:=by
   apply Ej;intro i;rw[Ew];by_cases e:o=i
   ·subst e;rw[if_pos rfl,if_pos (aI hz)];exact hz.symm
   ·rw[if_neg e]
  rwa [hb]at this)
 have he:(M++[cm.cells 0 0 []]).set id (.cells g ver (cs.set o (.ref M.length 0 sz 0 0)))=M.set id (.cells g ver (cs.set o (.ref M.length 0 sz 0 0)))++[.cells 0 0 []]:=by rw[List.set_append_left _ _ hid]
 rw[he]at I J;exact⟨_,(G.weaken hm).trans (J m (by simp;omega)) (Ac _),I,O.mono G.le s.env⟩
def jx(id g:Nat)(cs:List PV):List PV->List PV->Prop
 | [],[]=>True
 | x::a,y::b=>(y= .aa\/x=y\/∃sz off n,x= .ref id g sz off n/\off+n*sz<=cs.length/\y= .sl Jp Jo sz n (aY cs off (n*sz)))/\jx id g cs a b
 | _,_=>False
def cG(id g:Nat)(cs:List PV):jx id g cs [] []=True:=(rfl)
def mU(id g:Nat)(cs:List PV)(x:PV)(a b:List PV):jx id g cs (x::a) (.aa::b)=jx id g cs a b:=by simp[jx]
def bI(id g:Nat)(cs:List PV)(x:PV)(a b:List PV):jx id g cs (x::a) (x::b)=jx id g cs a b:=by simp[jx]
def f0{id g sz off n:Nat}{cs:List PV}{y:PV}{a b:List PV}(h1:off+n*sz<=cs.length)(h2:y= .sl Jp Jo sz n (aY cs off (n*sz))):jx id g cs (.ref id g sz off n::a) (y::b)=jx id g cs a b:=by simp only[jx,eq_iff_iff,and_iff_right_iff_imp];intro _;exact .inr (.inr ⟨sz,off,n,rfl,h1,h2⟩)
def PSt.freeze{w:PWd}{h:H}{M:Mem}(s:PSt w h M){id g ver:Nat}{cs:List PV}(hm:M[id]? =Jm (.cells g ver cs))(h0:w.id0<=id):
  ∃w',PSt w' h (M.set id .gone)/\(∀m,m<=id->dr m w h M w' h (M.set id .gone))/\Le M.length w w'/\∀sz off n x,az w (.ref id g sz off n) x->off+n*sz<=cs.length->az w' (.sl Jp Jo sz n (aY cs off (n*sz))) x:=by
 obtain⟨e,h1,h2,h3⟩:=s.kx hm;have hid:=aI hm;rcases h3 with⟨hb,rfl⟩ | ⟨b,Y,hb,hg,hr,Q⟩
 ·have live:∀i x,af w (M.set id .gone) i x->af w M i x:=by
   rintro i x ⟨R,K,E,S,T,I⟩;by_cases u:id=i
   ·subst u;rw[Cj hid]at E;cases E;exact absurd rfl S
   ·rw[Bo u]at E;exact⟨R,K,E,S,T,I⟩
  refine⟨w,⟨s.imm,fun i K he=>by simpa using s.env i K he,s.blk,?_,fun i j x J U=>s.inj i j x (live i x J) (live j x U),fun i x J=>s.sep i x (live i x J),s.base⟩,fun m Z=>⟨by simp;omega,Le.refl _ _,Ac _,fun _ _ _=>rfl,fun i x J _=>live i x J,fun x G=> .inl G⟩,Le.refl _ _,?_⟩
  ·intro i R u;by_cases B:id=i
   ·subst B;rw[Cj hid]at u;cases u;trivial
   ·rw[Bo B]at u;exact s.obj i R u
  ·intro sz off n x G hl;obtain⟨e2,E,S,T⟩:=s.ij hm G;rcases T with⟨rfl,rfl,rfl,_,_⟩ | ⟨_,b,_,_,I,_⟩
   ·simpa [aY]using az.slN
   ·rw[h1]at E;cases E;rw[hb]at I;cases I
 ·let w':=w.gm b (.cells (e.v0+ver) Jo Y)
  have L:=s.sep id b Q;have hl:Le M.length w w':=qT L.1;have V:∀x,x≠b->w'.imm x=w.imm x:=fun x G=>by show(if _=_ then _ else _)=_;rw[if_neg G]
  have O:w'.imm b=Jm (.cells (e.v0+ver) Jo Y):=by show(if _=_ then _ else _)=_;rw[if_pos rfl]
  have live:∀i x,af w' (M.set id .gone) i x->i≠id/\af w M i x:=by
   rintro i x ⟨R,K,E,S,T,I⟩;by_cases u:id=i
   ·subst u;rw[Cj hid]at E;cases E;exact absurd rfl S
   ·rw[Bo u]at E;exact⟨fun q=>u q.symm,R,K,E,S,T,I⟩
  refine⟨w',⟨?_,fun i K he=>by simpa using s.env i K he,s.blk,?_,fun i j x J U=>s.inj i j x (live i x J).2 (live j x U).2,?_,s.base⟩,fun m Z=>⟨by simp;omega,⟨hl.n0,hl.id0,hl.imm,fun i u=>hl.env i (by omega)⟩,Ac _,fun _ _ _=>rfl,fun i x J _=>(live i x J).2,?_⟩,hl,?_⟩
  ·intro x o G;by_cases e1:x=b
   ·subst e1;rw[O]at G;cases G;exact hg
   ·rw[V x e1]at G;exact s.imm x o G
  ·intro i R u;by_cases B:id=i
   ·subst B;rw[Cj hid]at u;cases u;trivial
   ·rw[Bo B]at u;exact lg.mono s hl (s.obj i R u) (fun K he=>he) fun _ _ _ _=>rfl
  ·intro i x J;obtain⟨a1,U⟩:=live i x J;have:x≠b:=by rintro rfl;exact a1 (s.inj i id x U Q)
   exact⟨by rw[V x this];exact(s.sep i x U).1,(s.sep i x U).2⟩
  ·intro x G;by_cases e1:x=b
   ·subst e1;exact .inr (.inr ⟨id,Z,Q⟩)
   ·rw[V x e1]at G;exact .inl G
  ·intro sz off n x G hlen;obtain⟨e2,E,S,T⟩:=s.ij hm G;rw[h1]at E;cases E;rcases T with⟨_,_,_,I,_⟩ | ⟨fl,b2,a2,rfl,I,p5,p6,_⟩
   ·rw[hb]at I;cases I
   ·rw[hb]at I;cases I;rw[hg]at p5;cases p5;have a0:(aY cs off (n*sz)).length=n*sz:=by simp[aY];omega
    have hs:=(fJ p6 off (n*sz)).mono hl s.env;refine .sl O (by rw[a0,<-p6.len];exact hlen) a0 (fun q=>by cases q) (fun _=>⟨L.2 h0,rfl⟩) (fun q=>by cases q) fun i y z hy hz=>hs.get i y z hy ?_;rw[Bc,if_pos (by have:=aI hy;omega),Bg];exact hz
def jx.rep{w w':PWd}{M:Mem}{id g:Nat}{cs:List PV}(hl:Le M.length w w')(hd:∀i e,w.env i=Jm e->i<M.length)(hf:∀sz off n x,az w (.ref id g sz off n) x->off+n*sz<=cs.length->az w' (.sl Jp Jo sz n (aY cs off (n*sz))) x):
  ∀{a b:List PV} {u:List AV},jx id g cs a b->al w a u->al w' b u
 | [],[],u,_,h=>⟨h.len,fun i y z q=>by simp at q⟩
 | x::a,y::b,[],_,h=>by have:=h.len;simp at this
 | x::a,y::b,v::u,⟨h1,h2⟩,h=>by
  refine .cons ?_ (jx.rep hl hd hf h2 h.tl);rcases h1 with rfl | rfl | ⟨sz,off,n,rfl,B,rfl⟩
  ·exact .aa _
  ·exact h.hd.mono hl hd
  ·exact hf sz off n v h.hd B
 | [],_::_,u,hw,h=>hw.elim
 | _::_,[],u,hw,h=>hw.elim
def GStep.freeze{a b:List PV}{M N:Mem}(id:Nat){g ver:Nat}{cs:List PV}(hid:m<=id)(u:M[id]? =Jm (.cells g ver cs))(hf:jx id g cs a b)(y:M.set id .gone=N):GStep m a M b N:=by subst y;refine⟨fun hm=>by simpa using hm,fun w hh a' h0 hm s B=>?_⟩;obtain⟨w',E,G,hl,hr⟩:=s.freeze u (Aj h0 hid);exact⟨w',G m hid,E,hf.rep hl s.env hr B⟩
def GStep.drop{a b:List PV}{M N:Mem}(n:Nat)(u:m<=n)(hl:n<=M.length)(hw:dh a b)(y:aD n b=Jo)(B:(M.take n).all (cm.under n)=Jo)(E:M.take n=N):GStep m a M b N:=by subst E;refine⟨fun hm=>by simp;omega,fun w hh a' h0 hm s hr=>?_⟩;obtain⟨G,I⟩:=s.cut hl B;exact⟨_,(I w hh M (dr.refl (Ac _) w hh |>.weaken hl)).weaken u,G,(hw.rep hr).low (w:=w) (w':=w.cut hh n M) rfl (lJ s n) (fun id J=>gR J) y⟩
end
attribute [irreducible] Gh
set_option maxRecDepth 10000
def zj(n:Nat):List PV:=Ah n .aa
def hP:zj 0=[]:=rfl
def hU(n:Nat):zj (n+1)= .aa::zj n:=rfl
def U8{n:Nat}(h:n<2^8):(⟨⟨⟨n,h⟩⟩⟩:UInt8)=UInt8.ofNat n:=by apply UInt8.toNat_inj.1;show n=_;simp;omega
def AL(l:List UInt8):Array.mk l=List.toArray l:=rfl
def mk(t:Option AFn){x:AFn}(_:t=Jm x:=by
 conv=>lhs;reduce;simp only[Int.reduceOfNat,Int.reduceNegSucc,U8,UInt8.reduceOfNat,AL]):AFn:=x
def aIs(t:Option AFn){x:AFn}(h:t=Jm x):mk t h=x:=rfl
def VQ:fe []= .tuple []:=rfl
def VP(a b:PV)(l:List PV):fe (a::b::l)= .tuple (a::b::l):=rfl
def PP:=(Aa (Aa (Aa (Aa (Aa (Aa (Aa (Aa @aFF @aHY) (Aa @aFH (Aa @YA @RC))) (Aa (Aa @aHX @aFI) (Aa @aC7 (Aa @aFG @aC6)))) (Aa (Aa (Aa @aDf @aDj) (Aa @YN (Aa @aH5 @aFP))) (Aa (Aa @aFO (Aa @aH6 @aFR)) (Aa @aFQ (Aa @aDi @YL))))) (Aa (Aa (Aa (Aa @aFK @aFJ) (Aa @aDe (Aa @aH3 @aDd))) (Aa (Aa @C7 @aFL) (Aa @RI (Aa @aC8 @MT)))) (Aa (Aa (Aa @aH4 @aH2) (Aa @aDa (Aa @RK @aI4))) (Aa (Aa @RL (Aa @YC @H4)) (Aa @aC9 (Aa @H6 @aDc)))))) (Aa (Aa (Aa (Aa (Aa @YH @H5) (Aa @C5 (Aa @aDb @YG))) (Aa (Aa @RJ @aFM) (Aa @YI (Aa @aH1 @aH0)))) (Aa (Aa (Aa @aHZ @Q9) (Aa @aH9 (Aa @aB5 @j7))) (Aa (Aa @wN (Aa @L5 @BV)) (Aa @qK (Aa @Nat.add_eq_left @Nat.left_eq_add))))) (Aa (Aa (Aa (Aa @Nat.succ_ne_self @Nat.one_ne_zero) (Aa @aAe (Aa @List.contains_cons.{0} @List.contains_nil.{0}))) (Aa (Aa @Bool.or_false @Bool.false_or) (Aa @Bool.or_true (Aa @Bool.true_or @aCL)))) (Aa (Aa (Aa @QZ @aCU) (Aa @QN (Aa @XR @QR))) (Aa (Aa @XV (Aa @aFs @aCI)) (Aa @aFu (Aa @aCN @XY))))))) (Aa (Aa (Aa (Aa (Aa (Aa @aCO @aCP) (Aa @aFw (Aa @XT @aCH))) (Aa (Aa @QW @XU) (Aa @QO (Aa @XP @aFm)))) (Aa (Aa (Aa @aCC @aCB) (Aa @X7 (Aa @aFz @aCS))) (Aa (Aa @X5 (Aa @X4 @ME)) (Aa @XQ (Aa @QS @QT))))) (Aa (Aa (Aa (Aa @MF @XS) (Aa @aFn (Aa @aFo @aCE))) (Aa (Aa @XZ @X2) (Aa @X0 (Aa @X1 @HS)))) (Aa (Aa (Aa @HU @HV) (Aa @QX (Aa @MG @X3))) (Aa (Aa @QY (Aa @aC2 @X9)) (Aa @aFD (Aa @NZ @JW)))))) (Aa (Aa (Aa (Aa (Aa @aAo @aAf) (Aa @aAi (Aa @aAn @aAh))) (Aa (Aa @aAj @aAk) (Aa @aAl (Aa @aAm @VU)))) (Aa (Aa (Aa @aDM @aDN) (Aa @EC (Aa @VS @OQ))) (Aa (Aa @N1 (Aa @aDQ @aDO)) (Aa @aDP (Aa @VI @JV))))) (Aa (Aa (Aa (Aa @List.take_zero.{0} @List.take_succ_cons.{0}) (Aa @List.drop_succ_cons.{0} (Aa @List.drop_zero.{0} @List.drop_nil.{0}))) (Aa (Aa @List.take_nil.{0} (Aa @ZW @MA)) (Aa @C2 (Aa @OH @KA)))) (Aa (Aa (Aa @J8 @V5) (Aa @OD (Aa @OE @J9))) (Aa (Aa @OI (Aa @aD1 @aAu)) (Aa @aAs (Aa @OL @KD)))))))) (Aa (Aa (Aa (Aa (Aa (Aa (Aa @aGP @aDY) (Aa @aDZ (Aa @aAt @tE))) (Aa (Aa @aDh @YM) (Aa @YK (Aa @YJ @RM)))) (Aa (Aa (Aa @MV @NC) (Aa @DA (Aa @qN @NB))) (Aa (Aa @e8 (Aa @tM @lW)) (Aa @UW (Aa @IK @UV))))) (Aa (Aa (Aa (Aa @UU @yG) (Aa @gS (Aa @eJ @aO))) (Aa (Aa @aW @bS) (Aa @lL (Aa @V3 @dO)))) (Aa (Aa (Aa @Z9 @VW) (Aa @V4 (Aa @OB @OA))) (Aa (Aa @aAd (Aa @N3 @aAa)) (Aa @aDT (Aa @aGN @VV)))))) (Aa (Aa (Aa (Aa (Aa @V1 @V0) (Aa @N9 (Aa @N8 @aAc))) (Aa (Aa @aDU @VX) (Aa @N6 (Aa @N7 @J6)))) (Aa (Aa (Aa @List.length_cons.{0} @List.length_nil.{0}) (Aa @List.length_append.{0} (Aa @List.length_replicate.{0} @List.length_set.{0}))) (Aa (Aa @List.length_map.{0,0} (Aa @List.cons_append.{0} @List.nil_append.{0})) (Aa @List.append_nil.{0} (Aa @List.map_cons.{0,0} @List.map_nil.{0,0}))))) (Aa (Aa (Aa (Aa @List.map_append.{0,0} @List.all_cons.{0}) (Aa @List.all_nil.{0} (Aa @List.all_append.{0} @List.set_cons_zero.{0}))) (Aa (Aa @List.set_cons_succ.{0} (Aa @List.getElem?_cons_zero.{0} @List.getElem?_cons_succ.{0})) (Aa @List.getElem?_map.{0,0} (Aa @List.getElem?_nil.{0} @Option.map_some.{0,0})))) (Aa (Aa (Aa @Option.map_none.{0,0} @Az) (Aa @Nat.add_zero (Aa @Ct @Nat.one_mul))) (Aa (Aa @Nat.zero_mul (Aa @Ac @Ff)) (Aa @Nat.zero_lt_succ (Aa @Nat.lt_add_one @Int.cast_ofNat_Int))))))) (Aa (Aa (Aa (Aa (Aa (Aa @Int.toNat_natCast @Int.toNat_zero) (Aa @ite_true.{1} (Aa @ite_false.{1} @if_true.{1}))) (Aa (Aa @if_false.{1} @Bf) (Aa @decide_true (Aa @decide_false @decide_eq_true_eq)))) (Aa (Aa (Aa @Bool.not_true @Bool.not_false) (Aa @Bool.and_true (Aa @Bool.true_and @Bool.and_false))) (Aa (Aa @Bool.false_and (Aa @Dp @beq_self_eq_true.{0})) (Aa @ne_eq.{1} (Aa @not_true_eq_false @not_false_eq_true))))) (Aa (Aa (Aa (Aa @true_and @and_true) (Aa @and_self (Aa @false_and @and_false))) (Aa (Aa @true_or @or_true) (Aa @false_or (Aa @or_false @or_self)))) (Aa (Aa (Aa @Option.getD_none.{0} @Option.getD_some.{0}) (Aa @Option.isSome_none.{0} (Aa @Option.isSome_some.{0} @gt_iff_lt.{0}))) (Aa (Aa @ge_iff_le.{0} (Aa @ig.eq_1 @ig.eq_2)) (Aa @du.eq_1 (Aa @du.eq_2 @du.eq_3)))))) (Aa (Aa (Aa (Aa (Aa @ct.eq_1 @ct.eq_2) (Aa @ct.eq_3 (Aa @pev.eq_1 @pev.eq_2))) (Aa (Aa @ji.eq_1 @ji.eq_2) (Aa @ji.eq_3 (Aa @ji.eq_4 @ji.eq_5)))) (Aa (Aa (Aa @ji.eq_6 @ji.eq_7) (Aa @ji.eq_8 (Aa @ji.eq_9 @ji.eq_10))) (Aa (Aa @ji.eq_11 (Aa @ji.eq_12 @bd.eq_1)) (Aa @bd.eq_2 (Aa @bd.eq_3 @bd.eq_4))))) (Aa (Aa (Aa (Aa @bd.eq_5 @bd.eq_6) (Aa @bd.eq_7 (Aa @bd.eq_8 @bd.eq_9))) (Aa (Aa @ll.eq_1 (Aa @dv.eq_1 @dv.eq_2)) (Aa @ls.eq_1 (Aa @fe.eq_1 @VQ)))) (Aa (Aa (Aa @VP @cm.under.eq_1) (Aa @cm.under.eq_2 (Aa @List.replicate.eq_1.{0} @List.replicate.eq_2.{0}))) (Aa (Aa @hP (Aa @hU @aIs)) (Aa @jj.eq_1 (Aa @mj.eq_1 @AO.effect.eq_def)))))))))
def PW:=Aa @YB (Aa @RG (Aa @RE (Aa @Int.cast_ofNat_Int (Aa @List.length_append.{0} (Aa @List.length_cons.{0} (Aa @List.length_nil.{0} (Aa @Az (Aa @hP (Aa @hU (Aa @List.cons_append.{0} @List.nil_append.{0}))))))))))
def az.eqv{w w':PWd}(h0:w'.n0=w.n0)(J:∀b o,w.imm b=Jm o->w'.imm b=Jm o)(he:∀id e,w.env id=Jm e->w'.env id=Jm e){v:PV}{x:AV}(h:az w v x):az w' v x:=by
 induction h with
 | aa x=>exact .aa x
 | bool b=>exact .bool b
 | int k n=>exact .int k n
 | str s=>exact .str s
 | au=>exact .au
 | ah=>exact .ah
 | bc=>exact .bc
 | aq=>exact .aq
 | ae=>exact .ae
 | ptr h1 h2 h3=>exact .ptr (he _ _ h1) h2 h3
 | mi x q h1 h2=>exact .mi x q (he _ _ h1) h2
 | cp h1 h2 h3 u=>exact .cp (J _ _ h1) h2 fun i y z p q=>u i y z p q
 | sl h1 h2 h3 B E K L u=>exact .sl (J _ _ h1) h2 h3 B (by rw[h0];exact E) (by rw[h0];exact K) fun i y z p q=>u i y z p q
 | slN=>exact .slN
 | ref h1 h2 h3=>exact .ref (he _ _ h1) h2 h3
 | ma h1 h2 h3=>exact .ma (he _ _ h1) h2 h3
 | nj x q h1 h2=>exact .nj x q (he _ _ h1) h2
 | map h1 h2 h3=>exact .map (he _ _ h1) h2 h3
 | oa x q h1 h2=>exact .oa x q (he _ _ h1) h2
 | func h1 h2 h3 B E G I=>exact .func h1 h2 h3 (fun i y z p q=>G i y z p q) fun i y z p q=>I i y z p q
 | yld h1 h2 h3 B E u=>exact .yld (he _ _ h1) h2 h3 B fun i y z p q=>u i y z p q
 | nv x q h1 h2=>exact .nv x q (he _ _ h1) h2
 | iface h u=>exact .iface u
 | agg h1 h2 u=>exact .agg h1 fun i y z p q=>u i y z p q
 | tuple h1 h2 u=>exact .tuple h1 fun i y z p q=>u i y z p q
def al.eqv{w w':PWd}(h0:w'.n0=w.n0)(u:∀b o,w.imm b=Jm o->w'.imm b=Jm o)(he:∀id e,w.env id=Jm e->w'.env id=Jm e){l:List PV}{l':List AV}(h:al w l l'):al w' l l':=
 ⟨h.len,fun i y z p q=>(h.get i y z p q).eqv h0 u he⟩
mutual
def PV.age:PV->PV
 | .sl _ _ sz n cs=> .sl Jp Jp sz n (gN cs)
 | .cp cs o=> .cp (gN cs) o
 | .agg cs=> .agg (gN cs)
 | .tuple cs=> .tuple (gN cs)
 | .func fn f c=> .func fn (gN f) (gN c)
 | .yld id f=> .yld id (gN f)
 | .iface t v=> .iface t (PV.age v)
 | .aa=> .aa
 | .bool b=> .bool b
 | .int k n=> .int k n
 | .str s=> .str s
 | .au=> .au
 | .ah=> .ah
 | .bc=> .bc
 | .aq=> .aq
 | .ae=> .ae
 | .ptr id g o=> .ptr id g o
 | .ref id g sz off n=> .ref id g sz off n
 | .map id=> .map id
def gN:List PV->List PV
 | []=>[]
 | v::l=>PV.age v::gN l
def PV.swp:PV->PV
 | .sl fl own sz n cs=>match fl,own with
  | false,Jp=> .sl Jp Jp sz n (r9 cs)
  | _,_=> .aa
 | .cp _ _=> .aa
 | .agg cs=> .agg (r9 cs)
 | .tuple cs=> .tuple (r9 cs)
 | .func fn f c=> .func fn (r9 f) (r9 c)
 | .yld id f=> .yld id (r9 f)
 | .iface t v=> .iface t (PV.swp v)
 | .aa=> .aa
 | .bool b=> .bool b
 | .int k n=> .int k n
 | .str s=> .str s
 | .au=> .au
 | .ah=> .ah
 | .bc=> .bc
 | .aq=> .aq
 | .ae=> .ae
 | .ptr id g o=> .ptr id g o
 | .ref id g sz off n=> .ref id g sz off n
 | .map id=> .map id
def r9:List PV->List PV
 | []=>[]
 | v::l=>PV.swp v::r9 l
end
def iJ:∀l:List PV,gN l=l.map PV.age
 | []=>rfl
 | v::l=>by simp[gN,iJ l]
def r8:∀l:List PV,r9 l=l.map PV.swp
 | []=>rfl
 | v::l=>by simp[r9,r8 l]
def MB{l:List PV}{i:Nat}{y:PV}(h:(gN l)[i]? =Jm y):∃z,l[i]? =Jm z/\y=z.age:=by
 rw[iJ,Av]at h
 cases hl:l[i]? with
 | none=>rw[hl]at h;cases h
 | some z=>rw[hl]at h;cases h;exact⟨z,rfl,rfl⟩
def IW{l:List PV}{i:Nat}{y:PV}(h:(r9 l)[i]? =Jm y):∃z,l[i]? =Jm z/\y=z.swp:=by
 rw[r8,Av]at h
 cases hl:l[i]? with
 | none=>rw[hl]at h;cases h
 | some z=>rw[hl]at h;cases h;exact⟨z,rfl,rfl⟩
def az.age{w w':PWd}(hb:∀b o,w.imm b=Jm o->b<w'.n0)(L:∀b o,w.imm b=Jm o->w'.imm b=Jm o)(he:∀id e,w.env id=Jm e->w'.env id=Jm e){v:PV}{x:AV}(h:az w v x):az w' v.age x:=by
 have E:∀{l:List PV} {G:List AV} {f:Nat->Nat},(∀(i:Nat) (y:PV) (z:AV),l[i]? =Jm y->G[f i]? =Jm z->az w' y.age z)->∀(i:Nat) (y:PV) (z:AV),(gN l)[i]? =Jm y->G[f i]? =Jm z->az w' y z:=by intro l G f h i y z p q;obtain⟨u,h1,rfl⟩:=MB p;exact h i u z h1 q
 have len:∀l:List PV,(gN l).length=l.length:=fun l=>by rw[iJ];simp
 induction h with
 | aa x=>simp only[PV.age];exact .aa x
 | bool b=>simp only[PV.age];exact .bool b
 | int k n=>simp only[PV.age];exact .int k n
 | str s=>simp only[PV.age];exact .str s
 | au=>simp only[PV.age];exact .au
 | ah=>simp only[PV.age];exact .ah
 | bc=>simp only[PV.age];exact .bc
 | aq=>simp only[PV.age];exact .aq
 | ae=>simp only[PV.age];exact .ae
 | ptr h1 h2 h3=>simp only[PV.age];exact .ptr (he _ _ h1) h2 h3
 | mi x q h1 h2=>simp only[PV.age];exact .mi x q (he _ _ h1) h2
 | cp h1 h2 h3 B=>simp only[PV.age];exact .cp (L _ _ h1) (by rw[len];exact h2) (E B)
 | sl h1 h2 h3 I M O Q B=>simp only[PV.age];exact .sl (L _ _ h1) (by rw[len];exact h2) (by rw[len];exact h3) (fun q=>by cases q) (fun q=>by cases q) (fun _ _=>hb _ _ h1) (E B)
 | slN=>simp only[PV.age,gN];exact .slN
 | ref h1 h2 h3=>simp only[PV.age];exact .ref (he _ _ h1) h2 h3
 | ma h1 h2 h3=>simp only[PV.age];exact .ma (he _ _ h1) h2 h3
 | nj x q h1 h2=>simp only[PV.age];exact .nj x q (he _ _ h1) h2
 | map h1 h2 h3=>simp only[PV.age];exact .map (he _ _ h1) h2 h3
 | oa x q h1 h2=>simp only[PV.age];exact .oa x q (he _ _ h1) h2
 | func h1 h2 h3 I M J K=>simp only[PV.age];exact .func h1 (by rw[len];exact h2) (by rw[len];exact h3) (E (f:=id) J) (E (f:=id) K)
 | yld h1 h2 h3 I M B=>simp only[PV.age];exact .yld (he _ _ h1) h2 h3 (by rw[len];exact I) (E (f:=id) B)
 | nv x q h1 h2=>simp only[PV.age];exact .nv x q (he _ _ h1) h2
 | iface h B=>simp only[PV.age];exact .iface B
 | agg h1 h2 B=>simp only[PV.age];exact .agg (by rw[len];exact h1) (E (f:=id) B)
 | tuple h1 h2 B=>simp only[PV.age];exact .tuple (by rw[len];exact h1) (E (f:=id) B)
def az.swp{w w':PWd}(h0:w'.n0=w.n0)(O:∀b o,w.imm b=Jm o->b<w.n0->w'.imm b=Jm o)(he:∀id e,w.env id=Jm e->w'.env id=Jm e){v:PV}{x:AV}(h:az w v x):az w' v.swp x:=by
 have E:∀{l:List PV} {G:List AV} {f:Nat->Nat},(∀(i:Nat) (y:PV) (z:AV),l[i]? =Jm y->G[f i]? =Jm z->az w' y.swp z)->∀(i:Nat) (y:PV) (z:AV),(r9 l)[i]? =Jm y->G[f i]? =Jm z->az w' y z:=by intro l G f h i y z p q;obtain⟨u,h1,rfl⟩:=IW p;exact h i u z h1 q
 have len:∀l:List PV,(r9 l).length=l.length:=fun l=>by rw[r8];simp
 induction h with
 | aa x=>simp only[PV.swp];exact .aa x
 | bool b=>simp only[PV.swp];exact .bool b
 | int k n=>simp only[PV.swp];exact .int k n
 | str s=>simp only[PV.swp];exact .str s
 | au=>simp only[PV.swp];exact .au
 | ah=>simp only[PV.swp];exact .ah
 | bc=>simp only[PV.swp];exact .bc
 | aq=>simp only[PV.swp];exact .aq
 | ae=>simp only[PV.swp];exact .ae
 | ptr h1 h2 h3=>simp only[PV.swp];exact .ptr (he _ _ h1) h2 h3
 | mi x q h1 h2=>simp only[PV.swp];exact .mi x q (he _ _ h1) h2
 | cp h1 h2 h3 B=>simp only[PV.swp];exact .aa _
 | @sl fl own sz n cs fl' b ver rw bcs off h1 h2 h3 I L M Q B=>
  cases fl<;>cases own<;>simp only[PV.swp]
  ·exact .sl (O _ _ h1 (M rfl rfl)) (by rw[len];exact h2) (by rw[len];exact h3) (fun q=>by cases q) (fun q=>by cases q) (fun _ _=>by rw[h0];exact M rfl rfl) (E B)
  all_goals exact .aa _
 | @slN fl own sz=>cases fl<;>cases own<;>simp only[PV.swp,r9]<;>first | exact .slN | exact .aa _
 | ref h1 h2 h3=>simp only[PV.swp];exact .ref (he _ _ h1) h2 h3
 | ma h1 h2 h3=>simp only[PV.swp];exact .ma (he _ _ h1) h2 h3
 | nj x q h1 h2=>simp only[PV.swp];exact .nj x q (he _ _ h1) h2
 | map h1 h2 h3=>simp only[PV.swp];exact .map (he _ _ h1) h2 h3
 | oa x q h1 h2=>simp only[PV.swp];exact .oa x q (he _ _ h1) h2
 | func h1 h2 h3 I L J K=>simp only[PV.swp];exact .func h1 (by rw[len];exact h2) (by rw[len];exact h3) (E (f:=id) J) (E (f:=id) K)
 | yld h1 h2 h3 I L B=>simp only[PV.swp];exact .yld (he _ _ h1) h2 h3 (by rw[len];exact I) (E (f:=id) B)
 | nv x q h1 h2=>simp only[PV.swp];exact .nv x q (he _ _ h1) h2
 | iface h B=>simp only[PV.swp];exact .iface B
 | agg h1 h2 B=>simp only[PV.swp];exact .agg (by rw[len];exact h1) (E (f:=id) B)
 | tuple h1 h2 B=>simp only[PV.swp];exact .tuple (by rw[len];exact h1) (E (f:=id) B)
def al.age{w w':PWd}(hb:∀b o,w.imm b=Jm o->b<w'.n0)(B:∀b o,w.imm b=Jm o->w'.imm b=Jm o)(he:∀id e,w.env id=Jm e->w'.env id=Jm e){l:List PV}{l':List AV}(h:al w l l'):al w' (gN l) l':=
 ⟨by rw[iJ];simpa using h.len,fun i y z p q=>by
  obtain⟨u,h1,rfl⟩:=MB p;exact(h.get i u z h1 q).age hb B he⟩
def al.swp{w w':PWd}(h0:w'.n0=w.n0)(B:∀b o,w.imm b=Jm o->b<w.n0->w'.imm b=Jm o)(he:∀id e,w.env id=Jm e->w'.env id=Jm e){l:List PV}{l':List AV}(h:al w l l'):al w' (r9 l) l':=
 ⟨by rw[r8];simpa using h.len,fun i y z p q=>by
  obtain⟨u,h1,rfl⟩:=IW p;exact(h.get i u z h1 q).swp h0 B he⟩
def cm.mapC(f:List PV->List PV):cm->cm
 | .cells g ver cs=> .cells g ver (f cs)
 | _=> .gone
section
variable (tab:Tb)
variable {tab}
def wH(h:H):PWd:=⟨h.next,0,fun _=>Jn,h.get⟩
def aFU(h:H):PSt (wH h) h []:=
 ⟨fun b o hb=>hb,(fun id e he=>by cases he),(fun id e b he=>by cases he),(fun id o u=>by simp at u),fun i j x ⟨_,_,h1,_⟩=>by simp at h1,fun i x ⟨_,_,h1,_⟩=>by simp at h1,Ac _⟩
def O2{g:FuncId}{y:List PV}{u:List AV}{h:H}(B:al (wH h) y u)(E:aj tab g y [] fun r _=>r= .bool Jo):C (lim tab) g u h fun v _=>v= .bool Jo:=
 iX (E (wH h) h u (Ac _) (aFU h) B) fun v J ⟨w',r,K,_,_,G,I⟩=>by subst I;exact jB G
end
def aFi(f o:Bool)(sz n:Nat)(k:IntKind)(u:List Int):PV.age (.sl f o sz n (u.map (PV.int k)))= .sl Jp Jp sz n (u.map (PV.int k)):=by
 have e:u.map (PV.age∘PV.int k)=u.map (PV.int k):=Dt fun x _=>by simp[PV.age]
 simp only[PV.age,iJ,Du,e]
def FG(k:IntKind)(u:List Int):gN (u.map (PV.int k))=u.map (PV.int k):=by rw[iJ,Du];exact Dt fun x _=>by simp[PV.age]
def aCj(f o:Bool)(k:IntKind)(su:List (List Int)):gN (su.map (slI f o k))=su.map (slI Jp Jp k):=by rw[iJ,Du];exact Dt fun x _=>aFi f o 1 _ k x
def B7(u:List Bool):gN (u.map PV.bool)=u.map PV.bool:=by rw[iJ,Du];exact Dt fun x _=>by simp[PV.age]
section
variable {tab:Tb}
end
def yH(n:Nat)(u:List (PV×PV)):Bool:=u.all fun p=>p.1.under n&&p.2.under n
def nh.low{w w':PWd}{m:Nat}(h0:w'.n0=w.n0)(B:∀b o,w.imm b=Jm o->w'.imm b=Jm o)(he:∀id,id<m->w'.env id=w.env id){l:List (PV×PV)}{l':List (AV×AV)}(h:nh w l l')(hb:yH m l=Jo):nh w' l l':=
 ⟨h.len,fun i y z p q=>by have u:=(List.all_eq_true.1 hb) y (Af p);rw[Au]at u;obtain⟨a,b⟩:=h.get i y z p q;exact⟨a.low h0 B he u.1,b.low h0 B he u.2⟩⟩
def oI(n:Nat)(M:Mem):cm->Option cm
 | .cells g ver cs=>(dM n M cs).map (.cells g ver)
 | .map ver u=>if yH n u=Jo then Jm (.map ver u)else Jn
 | .gone=>Jm .gone
 | _=>Jn
def jP(n:Nat)(M:Mem):Mem->Option Mem
 | []=>Jm []
 | o::l=>match oI n M o,jP n M l with
  | some x,Jm u=>Jm (x::u)
  | _,_=>Jn
def uD{n:Nat}{M:Mem} :∀{l N:Mem},jP n M l=Jm N->N.length=l.length/\∀(i:Nat) (o:cm),N[i]? =Jm o->∃u,l[i]? =Jm u/\oI n M u=Jm o
 | [],N,h=>by simp only[jP]at h;cases h;exact⟨rfl,fun i o h=>by simp at h⟩
 | o::l,N,h=>by
  simp only[jP]at h;split at h
  ·rename_i x I h1 h2;cases h;obtain⟨p,q⟩:=uD h2;refine⟨by simp[p],fun i B y=>?_⟩
   cases i with
   | zero=>simp at y;subst y;exact⟨o,rfl,h1⟩
   | succ i=>obtain⟨u,E,G⟩:=q i B (by simpa using y);exact⟨u,by simpa using E,G⟩
  ·cases h
open Classical in
def PSt.cutF{w:PWd}{h:H}{M N:Mem}(s:PSt w h M){m n:Nat}(h0:w.id0<=n)(hm:n<=M.length)(Y:jP n M (M.take n)=Jm N):
  PSt (w.cut h n M) h N/\∀m,m<=n->dr m w h M (w.cut h n M) h N:=by
 obtain⟨hlen,I⟩:=uD Y;have hlen:N.length=n:=by rw[hlen];simp;omega
 have live:∀{id x:Nat},af (w.cut h n M) N id x->id<n/\af w M id x:=by
  rintro id x ⟨o,e,h1,h2,h3,J⟩;obtain⟨L,K,u⟩:=I id o h1;have y:id<n:=by have:=aI h1;omega
  rw[gR y]at h3;rw[Bc,if_pos y]at K;refine⟨y,L,e,K,?_,h3,J⟩;rintro rfl;simp only[oI]at u;cases u;exact h2 rfl
 refine⟨⟨?_,?_,?_,?_,?_,?_,s.base⟩,fun m Z=>⟨by omega,⟨rfl,rfl,lJ s n,fun id y e he=>⟨e,by rw[gR (by omega)];exact he,.inr rfl⟩⟩,Ac _,fun _ _ _=>rfl,fun id x hl _=>(live hl).2,?_⟩⟩
 ·intro b o B;have B:(if ∃id,n<=id/\af w M id b then h.get b else w.imm b)=Jm o:=B;split at B
  ·exact B
  ·exact s.imm b o B
 ·intro id e he;have he:(if id<n then w.env id else Jn)=Jm e:=he;split at he
  ·omega
  ·cases he
 ·intro id e b he E;have he:(if id<n then w.env id else Jn)=Jm e:=he;split at he
  ·exact s.blk id e b he E
  ·cases he
 ·intro id o V;have y:id<n:=by have:=aI V;omega
  obtain⟨L,K,u⟩:=I id o V;rw[Bc,if_pos y]at K;have r:=s.obj id L K
  cases L with
  | cells g ver cs=>
   simp only[oI]at u
   cases G:dM n M cs with
   | none=>rw[G]at u;cases u
   | some a0=>
    rw[G]at u;cases u;obtain⟨e,h1,h2,h3⟩:=r;refine⟨e,by rw[gR y];exact h1,h2,?_⟩
    cases E:e.blk with
    | none=>rw[E]at h3;have h3:cs=[]:=h3;subst h3;simp only[dM]at G;cases G;rfl
    | some b=>rw[E]at h3;obtain⟨Q,J,R⟩:=h3;exact⟨Q,J,sW s h0 R G⟩
  | gone=>simp only[oI]at u;cases u;trivial
  | map ver es=>
   simp only[oI]at u;by_cases G:yH n es=Jo
   ·rw[if_pos G]at u;cases u;obtain⟨e,b,h1,h2,h3,S,J,R⟩:=r;exact⟨e,b,by rw[gR y];exact h1,h2,h3,S,J,R.low (w:=w) (w':=w.cut h n M) rfl (lJ s n) (fun id y=>gR y) G⟩
   ·rw[if_neg G]at u;cases u
  | loop ver r=>simp[oI]at u
 ·intro i j x h1 h2;exact s.inj i j x (live h1).2 (live h2).2
 ·intro i x h1;obtain⟨y,hl⟩:=live h1;refine⟨?_,(s.sep i x hl).2⟩;show(if _ then _ else _)=_;split
  ·rename_i T;obtain⟨j,hj,U⟩:=T;have:=s.inj i j x hl U;omega
  ·exact(s.sep i x hl).1
 ·intro x O;have O:(if ∃id,n<=id/\af w M id x then h.get x else w.imm x)≠Jn:=O;split at O
  ·rename_i T;obtain⟨id,hid,hl⟩:=T;exact .inr (.inr ⟨id,by omega,hl⟩)
  ·exact .inl O
def GStep.cutF{m:Nat}{a b c:List PV}{M N:Mem}(n:Nat)(u:m<=n)(hl:n<=M.length)(hw:dh a b)(B:dM n M b=Jm c)(y:jP n M (M.take n)=Jm N):GStep m a M c N:=
 ⟨fun hm=>by obtain⟨q,_⟩:=uD y;rw[q];simp;omega,fun w hh a' h0 hm s hr=>by
  obtain⟨E,G⟩:=s.cutF (m:=m) (Aj h0 u) hl y;exact⟨_,G m u,E,sW s (Aj h0 u) (hw.rep hr) B⟩⟩
section
variable {tab:Tb}
def dI{g:FuncId}{args:List PV}{M:Mem}{K:Kp}(h:aj tab g args M fun r G=>Gh M.length (fun a N=>∃y,a=[y]/\K y N) [r] G):aj tab g args M K:=by intro w hh u h0 s I;refine iX (h w hh u h0 s I) ?_;rintro v J ⟨L,r,Y,B,O,Q,E⟩;unfold Gh at E;obtain⟨b,N,gs,y,rfl,R⟩:=E;obtain⟨S,T,U,V⟩:=gs.go L J [v] (by rw[B.le.id0];exact h0) B.len O (.cons Q (.nil _));exact⟨S,y,N,B.trans T (Ac _),U,V.hd,R⟩
end
def zN(n:Nat)(M:Mem)(k:IntKind)(x:Int):bX n M (.int k x)=Jm (.int k x):=by simp[bX,PV.under]
def V2{n:Nat}{M:Mem}{f o:Bool}{sz k:Nat}{cs:List PV}(h:aD n cs=Jo):bX n M (.sl f o sz k cs)=Jm (.sl f o sz k cs):=by simp[bX,PV.under,h]
def vW{n:Nat}{M:Mem}{fn:Go.Fn}{f c:List PV}(h:(aD n f&&aD n c)=Jo):bX n M (.func fn f c)=Jm (.func fn f c):=by unfold bX;simp only;rw[if_pos (by rw[yG];exact h)]
def eT{n:Nat}{M:Mem}{id g sz off k ver:Nat}{cs:List PV}(y:n<=id)(u:M[id]? =Jm (.cells g ver cs))(h1:off+k*sz<=cs.length)(h2:aD n cs=Jo):bX n M (.ref id g sz off k)=Jm (.sl Jp Jo sz k (aY cs off (k*sz))):=by unfold bX;simp only;rw[if_neg (by omega),u];simp only;rw[if_pos ⟨trivial,h1,h2⟩]
def vV(n:Nat)(M:Mem)(v:PV)(l:List PV):dM n M (v::l)=zW (bX n M v) (dM n M l):=by simp only[dM,zW];all_goals (split<;>simp_all)
def EI{n:Nat}{M:Mem} :∀{l r:List PV},l.length=r.length->(∀(i:Nat) (v x:PV),l[i]? =Jm v->r[i]? =Jm x->bX n M v=Jm x)->dM n M l=Jm r
 | [],[],_,_=>rfl
 | [],_::_,h,_=>by simp at h
 | _::_,[],h,_=>by simp at h
 | v::l,x::r,h,u=>by rw[vV,u 0 v x rfl rfl,EI (by simpa using h) (fun i v x h1 h2=>u (i+1) v x (by simpa using h1) (by simpa using h2))];rfl
def PV.nq:PV->Bool
 | .bool _ | .int _ _ | .au | .ah | .bc | .aq | .ae=>Jo
 | _=>Jp
def PV.nd:PV->Bool
 | .agg vs=>vs.all PV.nq
 | v=>v.nq
def PV.flat:PV->Bool
 | .tuple vs=>vs.all PV.nd
 | v=>v.nd
def E6{w w':PWd}{r:PV}{x:AV}(hf:r.nq=Jo)(h:az w r x):az w' r x:=by cases h<;>first | (simp[PV.nq]at hf;done) | constructor
def E5{w w':PWd}{r:PV}{x:AV}(hf:r.nd=Jo)(h:az w r x):az w' r x:=by
 cases r with
 | agg B=>
  cases h with
  | agg h1 h2=>refine .agg h1 fun i y z u hz=>E6 ?_ (h2 i y z u hz);exact(List.all_eq_true.1 hf) y (Af u)
 | _=>exact E6 hf h
def aBH{w w':PWd}{r:PV}{x:AV}(hf:r.flat=Jo)(h:az w r x):az w' r x:=by
 cases r with
 | tuple B=>
  cases h with
  | tuple h1 h2=>refine .tuple h1 fun i y z u hz=>E5 ?_ (h2 i y z u hz);exact(List.all_eq_true.1 hf) y (Af u)
 | _=>exact E5 hf h
inductive jk (M:Mem):List PV->List PV->Prop
 | nil:jk M [] []
 | same {v:PV} {a b:List PV} :v.under 0=Jo->jk M a b->jk M (v::a) (v::b)
 | ref {id g ver sz off n:Nat} {cs cs2:List PV} {a b:List PV} :M[id]? =Jm (.cells g ver cs)->off+n*sz<=cs.length->aD 0 cs2=Jo->aY cs off (n*sz)=cs2->jk M a b->
   jk M (.ref id g sz off n::a) (.sl Jo Jp sz n cs2::b)
 | nest {id g ver sz off n:Nat} {cs cs2:List PV} {a b:List PV} :M[id]? =Jm (.cells g ver cs)->off+n*sz<=cs.length->jk M (aY cs off (n*sz)) cs2->jk M a b->
   jk M (.ref id g sz off n::a) (.sl Jo Jp sz n cs2::b)
 | agg {cs cs2 a b:List PV} :jk M cs cs2->jk M a b->jk M (.agg cs::a) (.agg cs2::b)
def jk.len{M:Mem}{a b:List PV}(h:jk M a b):a.length=b.length:=by
 induction h with
 | nil=>rfl
 | same _ _ u=>simp[u]
 | ref _ _ _ _ _ u=>simp[u]
 | nest _ _ _ _ _ u=>simp[u]
 | agg _ _ _ u=>simp[u]
section
variable {tab:Tb}
def iL{g:FuncId}{args args2:List PV}{M:Mem}{K:Kp}(hb:jk M args args2)(hc:aj tab g args2 [] fun r _=>r.flat=Jo/\K r M):aj tab g args M K:=by
 intro w h u h0 s B
 classical
 let w0:PWd:={n0:=w.n0,env:=fun _=>Jn,id0:=0,imm:=fun b=>if ∃id,af w M id b then h.get b else w.imm b}
 have O:∀b o,w.imm b=Jm o->w0.imm b=Jm o:=fun b o E=>by
  show(if _ then _ else _)=_;split
  ·exact s.imm b o E
  ·exact E
 have s0:PSt w0 h []:=⟨(fun b o E=>by
   have E:(if ∃id,af w M id b then h.get b else w.imm b)=Jm o:=E;split at E
   ·exact E
   ·exact s.imm b o E),(fun id e he=>by cases he),(fun id e b he=>by cases he),(fun id o ho=>by simp at ho),(fun i j x ⟨_,_,h1,_⟩=>by simp at h1),(fun i x ⟨_,_,h1,_⟩=>by simp at h1),s.base⟩
 have a0:al w0 args2 u:=by
  clear hc
  induction hb generalizing u with
  | nil=>exact⟨B.len,fun i y z Q=>by simp at Q⟩
  | @same v a b hv _ R=>
   match u,B with
   | x::l,B=>exact .cons (B.hd.low (w:=w) (w':=w0) (m:=0) rfl O (fun id hi=>by omega) hv) (R l B.tl)
   | [],B=>exact absurd B.len (by simp)
  | @ref id g ver sz off n cs J a b hm hl hu a1 _ R=>
   match u,B with
   | x::l,B=>
    refine .cons ?_ (R l B.tl);subst a1;obtain⟨e,S,p2,V⟩:=s.ij hm B.hd;rcases V with⟨rfl,rfl,rfl,_,_⟩ | ⟨fl,b,a2,rfl,p4,Y,T,p7⟩
    ·simpa [aY]using az.slN
    ·have G:(aY cs off (n*sz)).length=n*sz:=by simp[aY];omega
     have hg:w0.imm b=h.get b:=by show(if _ then _ else _)=_;rw[if_pos ⟨id,p7⟩]
     have hs:=(fJ T off (n*sz)).low (w:=w) (w':=w0) (m:=0) rfl O (fun id hi=>by omega) hu;refine .sl (hg.trans Y) (by rw[G,<-T.len];exact hl) G (fun _ q=>by cases q) (fun q=>by cases q) (fun _ q=>by cases q) fun i y z Q hz=>hs.get i y z Q ?_;rw[Bc,if_pos (by have:=aI Q;omega),Bg];exact hz
   | [],B=>exact absurd B.len (by simp)
  | @nest id g ver sz off n cs J a b hm hl a3 _ L R=>
   match u,B with
   | x::l,B=>
    refine .cons ?_ (R l B.tl);obtain⟨e,S,p2,V⟩:=s.ij hm B.hd;have G:J.length=n*sz:=by rw[<-a3.len];simp[aY];omega
    rcases V with⟨rfl,rfl,rfl,_,rfl⟩ | ⟨fl,b,a2,rfl,p4,Y,T,p7⟩
    ·have:J=[]:=List.length_eq_zero_iff.1 (by rw[G];simp);subst this;exact az.slN
    ·have hg:w0.imm b=h.get b:=by show(if _ then _ else _)=_;rw[if_pos ⟨id,p7⟩]
     have hs:=L _ (fJ T off (n*sz));refine .sl (hg.trans Y) (by rw[G,<-T.len];exact hl) G (fun _ q=>by cases q) (fun q=>by cases q) (fun _ q=>by cases q) fun i y z Q hz=>hs.get i y z Q ?_;rw[Bc,if_pos (by have:=aI Q;omega),Bg];exact hz
   | [],B=>exact absurd B.len (by simp)
  | @agg cs J a b _ _ L R=>
   match u,B with
   | x::l,B=>
    refine .cons ?_ (R l B.tl)
    cases B.hd with
    | agg h1 h2=>exact .agg (L _ ⟨h1,h2⟩).len (L _ ⟨h1,h2⟩).get
   | [],B=>exact absurd B.len (by simp)
 refine iX (hc w0 h u (Ac _) s0 a0) ?_;rintro v h' ⟨w1,r,M1,S,p2,V,Y,T⟩;have a4:∀x id,¬af w0 [] id x:=fun x id ⟨_,_,h1,_⟩=>by simp at h1
 have I:∀x,x<h.next->h'.get x=h.get x:=fun x Z=>S.dx x Z (a4 x);refine⟨w,r,M,⟨Ac _,Le.refl _ _,S.next,fun x Z _=>I x Z,fun id x a5 _=>a5,fun x Z=> .inl Z⟩,⟨fun b o E=>?_,s.env,fun id e b he U=>Bi (s.blk id e b he U) S.next,fun id o ho=>?_,s.inj,s.sep,Aj s.base S.next⟩,aBH Y V,T⟩
 ·exact p2.imm b o (S.le.imm b o (O b o E))
 ·exact lg.mono s (Le.refl _ _) (s.obj id o ho) (fun e he=>he) fun e b he U=>I b (s.blk id e b he U)
end
def jk.ints{M:Mem}{k:IntKind}{id g ver n:Nat}{u:List Int}{a b:List PV}(hm:M[id]? =Jm (.cells g ver (u.map (PV.int k))))(y:u.length=n)(h:jk M a b):jk M (.ref id g 1 0 n::a) (slI Jo Jp k u::b):=by subst y;exact .ref hm (by simp) (aO _ _ _) (by rw[Ct,JV]) h
def al.wkAt{w:PWd}{v':PV} :∀{a:List PV} {u:List AV} (t:Nat),bo (ct a t) v'->al w a u->al w (du a t v') u
 | [],u,t,_,h=>by cases t<;>exact h
 | x::a,[],t,_,h=>absurd h.len (by simp)
 | x::a,y::u,0,hw,h=> .cons (hw w y h.hd) h.tl
 | x::a,y::u,t+1,hw,h=> .cons h.hd (al.wkAt (a:=a) t hw h.tl)
def GStep.wk{m:Nat}{a b:List PV}{M:Mem}(t:Nat)(u:PV)(h:bo (ct a t) u)(hb:du a t u=b):GStep m a M b M:=by subst hb;exact⟨fun hm=>hm,fun w hh a' h0 hm s y=>⟨w,dr.refl hm w hh,s,y.wkAt t h⟩⟩
def lD(a:List PV):List Nat->List PV->List PV
 | t::u,v::y=>lD (du a t v) u y
 | _,_=>a
def al.eu{w:PWd} :∀(u:List Nat) {a:List PV} {B:List AV} {G:List PV} {E:List AV},al w a B->al w G E->al w (lD a u G) (_root_.Go.Am.eu B u E)
 | [],a,B,G,E,h,hv=>by simpa [lD,_root_.Go.Am.eu]using h
 | t::u,a,B,[],[],h,hv=>by simpa [lD,_root_.Go.Am.eu]using h
 | t::u,a,B,[],_::_,h,hv=>by have:=hv.len;simp at this
 | t::u,a,B,_::_,[],h,hv=>by have:=hv.len;simp at this
 | t::u,a,B,v::G,x::I,h,hv=>al.eu u (h.iz t hv.hd) hv.tl
def PSt.oe{w:PWd}{h:H}{M:Mem}(s:PSt w h M){id ver:Nat}{r:ju}(hm:M[id]? =Jm (.loop ver r)):
  ∃e b u,w.env id=Jm e/\e.g=0/\e.blk=Jm b/\h.get b=Jm (.loop (e.v0+ver) u)/\pn w r u/\af w M id b:=by
 obtain⟨e,b,h1,h2,h3,u,y,B⟩:=s.obj _ _ hm;exact⟨e,b,u,h1,h2,h3,y,B,_,e,hm,by simp,h1,h3⟩
def PSt.lv{w:PWd}{h:H}{M:Mem}(s:PSt w h M){id ver ver2 b:Nat}{r r2:ju}{r2':jy}{e:Ent}(hm:M[id]? =Jm (.loop ver r))(he:w.env id=Jm e)(hg:e.g=0)(hb:e.blk=Jm b)(hr:pn w r2 r2'):
  PSt w (h.set b (.loop (e.v0+ver2) r2')) (M.set id (.loop ver2 r2))/\dr M.length w h M w (h.set b (.loop (e.v0+ver2) r2')) (M.set id (.loop ver2 r2)):=by
 have u:af w M id b:=⟨_,e,hm,by simp,he,hb⟩;have Q:=u.next s;have hid:=u.lt;have live:∀i x,af w (M.set id (.loop ver2 r2)) i x->af w M i x:=by
  rintro i x ⟨O,L,h1,h2,h3,S⟩;by_cases G:id=i
  ·subst G;exact⟨_,L,hm,by simp,h3,S⟩
  ·rw[Bo G]at h1;exact⟨O,L,h1,h2,h3,S⟩
 have y:∀x,x≠b->(h.set b (.loop (e.v0+ver2) r2')).get x=h.get x:=fun x I=>H.bj I;have J:(h.set b (.loop (e.v0+ver2) r2')).get b=Jm (.loop (e.v0+ver2) r2'):=by rw[H.ie,if_pos ⟨rfl,Q⟩]
 refine⟨⟨?_,?_,s.blk,?_,fun i j x h1 h2=>s.inj i j x (live i x h1) (live j x h2),fun i x h1=>s.sep i x (live i x h1),s.base⟩,⟨by simp,Le.refl _ _,Ac _,?_,fun i x h1 _=>live i x h1,fun x I=> .inl I⟩⟩
 ·intro x o I;have:x≠b:=by rintro rfl;rw[(s.sep id x u).1]at I;cases I
  rw[y x this];exact s.imm x o I
 ·intro i L K;have:=s.env i L K;simpa using this
 ·intro i O G;by_cases B:id=i
  ·subst B;rw[Cj hid]at G;cases G;exact⟨e,b,he,hg,hb,r2',J,hr⟩
  ·rw[Bo B]at G;by_cases E:O= .gone
   ·subst E;trivial
   ·refine lg.mono s (Le.refl _ _) (s.obj i O G) (fun _ h=>h) fun L T K R=>y T ?_;rintro rfl;exact B (s.inj id i T u ⟨O,L,G,E,K,R⟩)
 ·intro x I U;refine y x ?_;rintro rfl;exact U id u
section
variable {tab:Tb}
def yB(id:Nat)(K:Kp)(e:Ex)(a:List PV)(M:Mem):Prop:=
 ∃ver r,M[id]? =Jm (.loop ver r)/\(if e= .normal then K (.bool Jo) (M.set id (.loop (ver+1) {r with state:= .ready,pending:=Jn}))else K (.bool Jp) (M.set id (.loop (ver+1) {r with state:= .done,pending:=Jm e})))
def CC{id:Nat}{args:List PV}{M:Mem}{K:Kp}{ver:Nat}{r:ju}(hm:M[id]? =Jm (.loop ver r))(hl:args.length=r.params.length)
  (h:bV tab M.length r.assign (lD r.tmps r.params args) M (fun a1 M1=>∃G Q,M1[id]? =Jm (.loop G Q)/\Q.state= .ready/\
   bV tab M.length r.body a1 (M1.set id (.loop (G+1) {Q with state:= .busy})) (yB id K .normal) (yB id K .ret) fun i=>yB id K (.exit i)) (fun _ _=>False) fun _ _ _=>False):Q0 tab id args M K:=by
 intro w hh b u h0 s c4 ha;obtain⟨e,b2,r',he,hg,hb,b0,hr,c8⟩:=s.oe hm;have E:b2=b:=by obtain⟨o,e2,_,_,R,S⟩:=c4;rw[he]at R;cases R;rw[hb]at S;cases S;rfl
 subst E;unfold UJ;have hlen:u.length=r'.params.length:=by rw[hr.params,<-ha.len];exact hl
 have y:=h w hh (eu r'.tmps r'.params u) h0 (Ac _) s (by rw[hr.params];exact al.eu _ hr.tmps ha);unfold W at y;obtain⟨e1,a1,h1,y,hq⟩:=y
 cases e1 with
 | ret=>obtain⟨_,_,_,_,_,_,q⟩:=hq;exact q.elim
 | exit i=>obtain⟨_,_,_,_,_,_,q⟩:=hq;exact q.elim
 | normal=>
  obtain⟨w1,d4,M1,t1,s1,c5,G,Q,c0,b1,V⟩:=hq;obtain⟨e2,b3,c1,Y,c6,I,Z,B,c9⟩:=s1.oe c0;have E:b3=b2:=by
   obtain⟨e3,R,S⟩:=t1.le.env id (s.env id e he) e he;rw[Y]at R;cases R;rcases S with S | rfl
   ·omega
   ·rw[hb]at I;cases I;rfl
  subst E;have b4:pn w1 {Q with state:= .busy} {c1 with state:= .busy} :=⟨rfl,B.pending,B.params,B.assign,B.body,B.tmps⟩;obtain⟨s2,t2⟩:=s1.lv (ver2:=G+1) (r2:={Q with state:= .busy}) c0 Y c6 I b4;have c7:M.length<=(M1.set id (.loop (G+1) {Q with state:= .busy})).length:=by simpa using t1.len
  have J:=V w1 _ a1 (by rw[t1.le.id0];exact h0) c7 s2 c5;unfold W at J;obtain⟨e4,a4,h4,J,a2⟩:=J;have b6:∃U a3 M4,dr M.length w1 (h1.set b3 (.loop (e2.v0+(G+1)) {c1 with state:= .busy})) (M1.set id (.loop (G+1) {Q with state:= .busy})) U h4 M4/\PSt U h4 M4/\al U a3 a4/\yB id K e4 a3 M4:=by
   cases e4 with
   | normal=>exact a2
   | ret=>exact a2
   | exit i=>exact a2
  obtain⟨U,a3,M4,t4,s4,d5,v4,r4,a5,hk⟩:=b6;obtain⟨e5,b5,a6,a7,c2,L,a0,O,d0⟩:=s4.oe a5;have E:b5=b3:=by
   obtain⟨e3,R,S⟩:=t4.le.env id (s.env id e he) e2 Y;rw[a7]at R;cases R;rcases S with S | rfl
   ·omega
   ·rw[I]at L;cases L;rfl
  subst E;have tt:dr M.length w hh M U h4 M4:=(t1.trans (t2.weaken t1.len) (Ac _)).trans t4 (Ac _);have c3:∀(b:Bool) (st:LoopState) (pd:Option Ex),pn U {r4 with state:=st,pending:=pd} {a6 with state:=st,pending:=pd} :=fun _ _ _=>⟨rfl,rfl,O.params,O.assign,O.body,O.tmps⟩;have hcall:∀a9,(if e4= .normal then Jm (AV.bool Jo,h4.set b5 (.loop (e5.v0+v4+1) {a6 with state:= .ready,pending:=Jn}))else Jm (AV.bool Jp,h4.set b5 (.loop (e5.v0+v4+1) {a6 with state:= .done,pending:=Jm e4})))=Jm a9->dP (lim tab) (.func (.yield b5) [] []) u hh=Jm a9:=by intro a9 b7;have g1:hh.get b5=Jm (.loop (e.v0+ver) r'):=b0;simp only[dP,g1,List.nil_append];rw[if_pos hlen,AH,hr.assign,y];simp only[Z];rw[if_pos (by rw[B.state];exact b1),AH,hr.body,show e2.v0+G+1=e2.v0+(G+1) by omega,J];simp only[a0];exact b7
  by_cases hn:e4= .normal
  ·rw[if_pos hn]at hk;obtain⟨s5,t5⟩:=s4.lv (ver2:=v4+1) (r2:={r4 with state:= .ready,pending:=Jn}) a5 a7 c2 L (c3 Jo _ _);exact⟨_,_,hcall _ (by rw[if_pos hn];rfl),U,.bool Jo,_,tt.trans (t5.weaken tt.len) (Ac _),s5,.bool Jo,hk⟩
  ·rw[if_neg hn]at hk;obtain⟨s5,t5⟩:=s4.lv (ver2:=v4+1) (r2:={r4 with state:= .done,pending:=Jm e4}) a5 a7 c2 L (c3 Jo _ _);exact⟨_,_,hcall _ (by rw[if_neg hn];rfl),U,.bool Jp,_,tt.trans (t5.weaken tt.len) (Ac _),s5,.bool Jp,hk⟩
def UH(id:Nat)(a:List PV)(u y:Kl)(B:Nat->Kl)(v:PV)(M:Mem):Prop:=
 ∃ver r,M[id]? =Jm (.loop ver r)/\r.state≠ .busy/\match r.pending.getD .normal with
  | .normal=>u a (M.set id (.loop (ver+1) {r with state:= .exhausted}))
  | .ret=>y a (M.set id (.loop (ver+1) {r with state:= .exhausted}))
  | .exit i=>B i a (M.set id (.loop (ver+1) {r with state:= .exhausted}))
def Q2{m:Nat}{f:AR}{S:List Nat}{G body:AC}{a:List PV}{M:Mem}{Qn Qr:Kl}{Qe:Nat->Kl}{g:FuncId}{first K:List PV}(hf:pev a f= .func (.func g) first K)
  (h:aj tab g (first++[.yld M.length []]++K) (M++[.loop 0 {state:= .ready,pending:=Jn,tmps:=a,params:=S,assign:=G,body:=body}]) (UH M.length a Qn Qr Qe)):bV tab m (.rangeFunc f S G body) a M Qn Qr Qe:=by
 intro w hh T h0 hm s ha;have hx:=aQ ha f;rw[hf]at hx;revert hx;generalize hu:ev T f=u;intro hx
 cases hx with
 | func q1 q2 q3 q4 q5=>
  rename_i E I
  let lp:jy:={state:= .ready,pending:=Jn,tmps:=T,params:=S,assign:=G,body:=body}
  obtain⟨s1,t1⟩:=s.alloc (o:= .loop 0 {state:= .ready,pending:=Jn,tmps:=a,params:=S,assign:=G,body:=body}) (o':= .loop 0 lp) (e:=⟨Jm hh.next,0,0⟩) rfl fun w' hl he=>⟨_,_,he,rfl,rfl,lp,H.ai _ _,rfl,rfl,rfl,rfl,rfl,ha.mono hl s.env⟩;have J:(w.bp M.length ⟨Jm hh.next,0,0⟩).env M.length=Jm ⟨Jm hh.next,0,0⟩:=by show(if _=_ then _ else _)=_;rw[if_pos rfl]
  have a0:az (w.bp M.length ⟨Jm hh.next,0,0⟩) (.yld M.length []) (.func (.yield hh.next) [] []):= .yld J rfl rfl rfl (fun i y z p=>by simp at p);have r1:al w first E:=⟨q2,q4⟩
  have r2:al w K I:=⟨q3,q5⟩;have hc:=h _ _ (E++[.func (.yield hh.next) [] []]++I) (by show w.id0<=_;simp;omega) s1 (((r1.mono t1.le s.env).append (.cons a0 (.nil _))).append (r2.mono t1.le s.env));unfold C at hc;obtain⟨v,h',hcall,w2,rv,M2,t2,s2,rr,ver,r,U,a1,Q⟩:=hc;obtain⟨e2,b2,r',V,a2,Y,L,B,a5⟩:=s2.oe U;have a3:b2=hh.next:=by
   obtain⟨e3,p1,p2⟩:=t2.le.env M.length (by simp) _ J;rw[V]at p1;cases p1;rcases p2 with p2 | rfl
   ·have p2:0<e2.g:=p2;omega
   ·cases Y;rfl
  subst a3;have Z:r'.state≠ .busy:=by rw[B.state];exact a1
  obtain⟨s3,t3⟩:=s2.lv (ver2:=ver+1) (r2:={r with state:= .exhausted}) (r2':={r' with state:= .exhausted}) U V a2 Y ⟨rfl,B.pending,B.params,B.assign,B.body,B.tmps⟩;have R:=(t1.trans t2 (by simp)).trans (t3.weaken (Aj (by simp) t2.len)) (Ac _);have O:al w2 a T:=ha.mono R.le s.env;have a4:aN (lim tab) (.rangeFunc f S G body) T hh=Jm (r.pending.getD .normal,T,h'.set hh.next (.loop (e2.v0+(ver+1)) {r' with state:= .exhausted})):=by
   simp only[aN,hu];rw[hcall];simp only[L];rw[if_neg Z,B.pending];rfl
  unfold W;refine⟨_,_,_,a4,?_⟩;have R:=R.weaken hm
  cases hp:r.pending.getD .normal with
  | normal=>rw[hp]at Q;exact⟨w2,a,_,R,s3,O,Q⟩
  | ret=>rw[hp]at Q;exact⟨w2,a,_,R,s3,O,Q⟩
  | exit i=>rw[hp]at Q;exact⟨w2,a,_,R,s3,O,Q⟩
end
section
variable {tab:Tb} {m:Nat} {a:List PV} {M:Mem} {Qn Qr:Kl} {Qe:Nat->Kl}
def aA{x y:AC}(h:bV tab m x a M (fun b N=>bV tab m y b N Qn Qr Qe) Qr Qe):bV tab m (.seq x y) a M Qn Qr Qe:=by intro w hh B h0 hm s E;rw[aGe];refine jN (h w hh B h0 hm s E) (fun G h1 hl=>?_) (fun _ _ h=>h) fun _ _ _ h=>h;obtain⟨I,b,N,u,J,K,q⟩:=hl;rw[UM];exact jN (q I h1 G (by rw[u.le.id0];exact h0) u.len J K) (fun _ _ h=>h.trans u) (fun _ _ h=>h.trans u) fun _ _ _ h=>h.trans u
def gP{id:Nat}{x:AC}(h:bV tab m x a M Qn Qr (MW id Qn Qe)):bV tab m (.block id x) a M Qn Qr Qe:=by
 intro w hh G h0 hm s I;rw[UC];refine jN (h w hh G h0 hm s I) (fun _ _ h=>h) (fun _ _ h=>h) fun i J h1 hl=>?_;obtain⟨u,b,N,y,B,E,q⟩:=hl;rw[mV];unfold MW at q;by_cases e:i=id
 ·rw[if_pos e]at q ⊢;exact⟨u,b,N,y,B,E,q⟩
 ·rw[if_neg e]at q ⊢;exact⟨u,b,N,y,B,E,q⟩
def aB{c:AC}(h:RX tab m c a M Qn Qr Qe):bV tab m c a M Qn Qr Qe:=MH m c h
def fC{c:AC}{u y:Kl}{B:Nat->Kl}(h:bV tab m c a M Qn Qr Qe)(h1:∀b N,Qn b N->u b N)(h2:∀b N,Qr b N->y b N)(h3:∀i b N,Qe i b N->B i b N):bV tab m c a M u y B:=by
 intro w hh O h0 hm s Q;refine jN (h w hh O h0 hm s Q) ?_ ?_ ?_
 ·rintro L E ⟨G,b,N,I,J,K,q⟩;exact⟨G,b,N,I,J,K,h1 _ _ q⟩
 ·rintro L E ⟨G,b,N,I,J,K,q⟩;exact⟨G,b,N,I,J,K,h2 _ _ q⟩
 ·rintro i L E ⟨G,b,N,I,J,K,q⟩;exact⟨G,b,N,I,J,K,h3 _ _ _ q⟩
def o9{f:AR}{E:List Nat}{y body:AC}{g:FuncId}{first B:List PV}(hf:pev a f= .func (.func g) first B)
  (h:∀u:ju,u.state= .ready->u.pending=Jn->u.tmps=a->u.params=E->u.assign=y->u.body=body->
   aj tab g (first++[.yld M.length []]++B) (M++[.loop 0 u]) (UH M.length a Qn Qr Qe)):bV tab m (.rangeFunc f E y body) a M Qn Qr Qe:=
 Q2 hf (h _ rfl rfl rfl rfl rfl rfl)
def aAT{u:ju}(h1:u.state= .ready)(h2:u.pending=Jn):{u with state:= .ready,pending:=Jn} =u:=by cases u;simp_all
end
def cJ{α:Type}(n:Nat)(f:Nat->α):List α:=(List.range n).map f
def bN{α:Type}(n:Nat)(f:Nat->α):(cJ n f).length=n:=by simp[cJ]
def eV{α:Type}{n:Nat}{f:Nat->α}{v:Nat}(h:v<n):(cJ n f)[v]? =Jm (f v):=by simp[cJ,h]
def U2{α:Type}{n:Nat}{f:Nat->α}{v:Nat}(h:n<=v):(cJ n f)[v]? =Jn:=Bk (by rw[bN];exact h)
def yQ{α:Type}{n:Nat}{f:Nat->α}{a:List α}(hl:a.length=n)(h:∀v,v<n->a[v]? =Jm (f v)):a=cJ n f:=by
 apply Ej;intro v;rcases Ba v n with q | q
 ·rw[h v q,eV q]
 ·rw[Bk (by omega),U2 q]
def fU{α:Type}{n:Nat}{f g:Nat->α}(h:∀v,v<n->f v=g v):cJ n f=cJ n g:=yQ (bN _ _) fun v hv=>by rw[eV hv,h v hv]
def rW{α:Type}{n:Nat}{f:Nat->α}{u:Nat}(x:α)(h:u<n):(cJ n f).set u x=cJ n (fun v=>if v=u then x else f v):=yQ (by rw[List.length_set,bN]) fun v hv=>by
 rw[Ew];by_cases e:u=v
 ·subst e;rw[if_pos rfl,if_pos (by rw[bN];exact h),if_pos rfl]
 ·rw[if_neg e,eV hv,if_neg fun q=>e q.symm]
def rZ{α:Type}(n:Nat)(x:α):Ah n x=cJ n (fun _=>x):=yQ (by simp) fun v hv=>by simp[hv]
def yP{α β:Type}(n:Nat)(f:Nat->α)(g:α->β):(cJ n f).map g=cJ n (fun v=>g (f v)):=by simp[cJ,Du,Function.comp_def]
def yO{α:Type}{n:Nat}{f:Nat->α}{x:α}(h:x∈cJ n f):∃v,v<n/\f v=x:=by obtain⟨v,hv,e⟩:=List.mem_map.1 h;exact⟨v,List.mem_range.1 hv,e⟩
def dh.refl:∀a:List PV,dh a a
 | []=>trivial
 | _::a=>⟨.inr rfl,dh.refl a⟩
def J7{n:Nat}{M:Mem}{v:PV}(h:v.under n=Jo):bX n M v=Jm v:=by cases v<;>simp_all [bX,PV.under]
def jD{n:Nat}{M:Mem} :∀{l:List PV},aD n l=Jo->dM n M l=Jm l
 | [],_=>rfl
 | v::l,h=>by have h2:=(cY n (v::l)).1 h;rw[vV,J7 (h2 v (by simp)),jD ((cY n l).2 fun x u=>h2 x (by simp[u]))];rfl
def aG(n:Nat):cm->Bool
 | .cells _ _ cs=>aD n cs
 | .map _ u=>yH n u
 | .gone=>Jo
 | _=>Jp
def aAb{n:Nat}{M:Mem}{o:cm}(h:aG n o=Jo):oI n M o=Jm o:=by
 cases o with
 | cells g ver cs=>simp only[aG]at h;simp only[oI,jD h,Option.map_some]
 | map ver u=>simp only[aG]at h;simp only[oI,h,if_true]
 | gone=>rfl
 | loop ver r=>simp[aG]at h
def N4{n:Nat}{M l u:Mem}{o x:cm}(h1:oI n M o=Jm x)(h2:jP n M l=Jm u):jP n M (o::l)=Jm (x::u):=by simp only[jP,h1,h2]
def J5{n:Nat}{M:Mem} :∀{l r xs:Mem},l.all (aG n)=Jo->jP n M r=Jm xs->jP n M (l++r)=Jm (l++xs)
 | [],r,xs,_,h=>h
 | o::l,r,xs,u,h=>by simp only[List.all_cons,Au]at u;exact N4 (aAb u.1) (J5 u.2 h)
def JS{w w':PWd}{h:H}{m id:Nat}{o:cm}(h0:w'.n0=w.n0)(E:∀b o,w.imm b=Jm o->w'.imm b=Jm o)(he:∀id,id<m->w'.env id=w.env id)(hid:id<m)(u:aG m o=Jo)(G:lg w h id o):lg w' h id o:=by
 cases o with
 | cells g ver cs=>
  obtain⟨e,h1,h2,h3⟩:=G;refine⟨e,by rw[he id hid];exact h1,h2,?_⟩
  cases hb:e.blk with
  | none=>rw[hb]at h3;exact h3
  | some b=>rw[hb]at h3;obtain⟨y,I,J⟩:=h3;exact⟨y,I,J.low h0 E he u⟩
 | gone=>trivial
 | map ver M=>obtain⟨e,b,h1,h2,h3,B,K,L⟩:=G;exact⟨e,b,by rw[he id hid];exact h1,h2,h3,B,K,L.low h0 E he u⟩
 | loop ver r=>cases u
section
variable {tab:Tb}
def lK{m:Nat}{g:FuncId}{args:List PV}{M:Mem}{K:Kp}(hm:m<=M.length)(hb:aD m args=Jo)(hM:(M.take m).all (aG m)=Jo)
  (hc:aj tab g args (M.take m) fun r E=>r.under m=Jo/\E.length=m/\E.all (aG m)=Jo/\K r (E++M.drop m)):aj tab g args M K:=by
 intro w h O h0 s ha
 let w0:PWd:={n0:=w.n0,id0:=min w.id0 m,imm:=w.imm,env:=fun id=>if id<m then w.env id else Jn}
 have hlen:(M.take m).length=m:=by simp;omega
 have we:∀id,id<m->w0.env id=w.env id:=fun id u=>by show(if _ then _ else _)=_;rw[if_pos u]
 have wn:∀id e,w0.env id=Jm e->id<m/\w.env id=Jm e:=fun id e he=>by
  have he:(if id<m then w.env id else Jn)=Jm e:=he;split at he
  ·rename_i q;exact⟨q,he⟩
  ·cases he
 have S:∀id,id<m->(M.take m)[id]? =M[id]? :=fun id u=>by rw[Bc,if_pos u]
 have live:∀id x,af w0 (M.take m) id x->id<m/\af w M id x:=by rintro id x ⟨o,e,B,Y,p3,p4⟩;obtain⟨G,Q⟩:=wn id e p3;rw[S id G]at B;exact⟨G,o,e,B,Y,Q,p4⟩
 have s0:PSt w0 h (M.take m):=by
  refine⟨s.imm,fun id e he=>by rw[hlen];exact(wn id e he).1,fun id e b he I=>s.blk id e b (wn id e he).2 I,fun id o R=>?_,fun i j x h1 h2=>s.inj i j x (live i x h1).2 (live j x h2).2,fun i x h1=>⟨(s.sep i x (live i x h1).2).1,fun q=>(s.sep i x (live i x h1).2).2 ?_⟩,s.base⟩
  ·have u:=aI R;rw[hlen]at u;have Z:=(List.all_eq_true.1 hM) o (Af R);rw[S id u]at R;exact JS (w:=w) (w':=w0) rfl (fun _ _ h=>h) we u Z (s.obj id o R)
  ·have:=(live i x h1).1;have q:min w.id0 m<=i:=q;omega
 have a0:al w0 args O:=ha.low (w:=w) (w':=w0) rfl (fun _ _ h=>h) we hb;refine iX (hc w0 h O (by rw[hlen];exact Nat.min_le_right _ _) s0 a0) ?_;rintro v h' ⟨T,r,E,B,Y,p3,k1,k2,k3,k4⟩;rw[hlen]at B
 let U:PWd:={n0:=w.n0,id0:=w.id0,imm:=T.imm,env:=fun id=>if id<m then T.env id else w.env id}
 have a2:U.n0=T.n0:=B.le.n0.symm;have e1:∀id,id<m->U.env id=T.env id:=fun id u=>by show(if _ then _ else _)=_;rw[if_pos u]
 have e2:∀id,¬id<m->U.env id=w.env id:=fun id u=>by show(if _ then _ else _)=_;rw[if_neg u]
 have g1:∀id,id<m->(E++M.drop m)[id]? =E[id]? :=fun id u=>Bj (by omega);have g2:∀id,¬id<m->(E++M.drop m)[id]? =M[id]? :=fun id u=>by
  rw[Bx (by omega),Bg,k2,show m+(id-m)=id by omega]
 have hl:Le M.length w U:=by
  refine⟨rfl,rfl,fun b o a4=>B.le.imm b o a4,fun id u e he=>?_⟩;by_cases q:id<m
  ·rw[e1 id q];exact B.le.env id q e (by rw[we id q];exact he)
  ·rw[e2 id q];exact⟨e,he,.inr rfl⟩
 have J:∀i x,i<m->af U (E++M.drop m) i x->af T E i x:=by rintro i x u ⟨o,e,G,Q,q3,q4⟩;rw[g1 i u]at G;rw[e1 i u]at q3;exact⟨o,e,G,Q,q3,q4⟩
 have L:∀i x,¬i<m->af U (E++M.drop m) i x->af w M i x:=by rintro i x u ⟨o,e,G,Q,q3,q4⟩;rw[g2 i u]at G;rw[e2 i u]at q3;exact⟨o,e,G,Q,q3,q4⟩
 have a3:∀i x,i<m->af T E i x->x<h.next->af w M i x:=fun i x u y hx=>(live i x (B.live i x y hx)).2;have V:∀i j x,i<m->¬j<m->af T E i x->af w M j x->False:=fun i j x u hj h1 h2=>by have:=s.inj i j x (a3 i x u h1 (h2.next s)) h2;omega
 have a1:∀i x,¬i<m->af w M i x->h'.get x=h.get x:=fun i x u y=>B.dx x (y.next s) fun j hj=>by obtain⟨G,Q⟩:=live j x hj;have:=s.inj i j x y Q;omega
 refine⟨U,r,E++M.drop m,⟨by simp;omega,hl,B.next,fun x hx hn=>B.dx x hx fun j hj=>hn j (live j x hj).2,fun i x y hx=>?_,fun x hx=>?_⟩,⟨Y.imm,fun id e he=>?_,fun id e b he I=>?_,fun id o R=>?_,fun i j x h1 h2=>?_,fun i x h1=>?_,Aj s.base B.next⟩,p3.low (w:=T) (w':=U) a2 (fun _ _ h=>h) e1 k1,k4⟩
 ·by_cases q:i<m
  ·exact a3 i x q (J i x q y) hx
  ·exact L i x q y
 ·rcases B.new x hx with e | e | ⟨id,G,Q⟩
  ·exact .inl e
  ·exact .inr (.inl e)
  ·have:=(live id x Q).1;omega
 ·by_cases q:id<m
  ·simp;omega
  ·rw[e2 id q]at he;have:=s.env id e he;simp;omega
 ·by_cases q:id<m
  ·rw[e1 id q]at he;exact Y.blk id e b he I
  ·rw[e2 id q]at he;exact Bi (s.blk id e b he I) B.next
 ·by_cases q:id<m
  ·rw[g1 id q]at R;have Z:=(List.all_eq_true.1 k3) o (Af R);exact JS a2 (fun _ _ h=>h) e1 q Z (Y.obj id o R)
  ·rw[g2 id q]at R;by_cases hg:o= .gone
   ·subst hg;trivial
   ·exact lg.mono s hl (s.obj id o R) (fun e he=>by rw[e2 id q];exact he) fun e b he I=>a1 id b q ⟨o,e,R,hg,he,I⟩
 ·by_cases qi:i<m
  ·by_cases qj:j<m
   ·exact Y.inj i j x (J i x qi h1) (J j x qj h2)
   ·exact(V i j x qi qj (J i x qi h1) (L j x qj h2)).elim
  ·by_cases qj:j<m
   ·exact(V j i x qj qi (J j x qj h2) (L i x qi h1)).elim
   ·exact s.inj i j x (L i x qi h1) (L j x qj h2)
 ·by_cases q:i<m
  ·have:=Y.sep i x (J i x q h1);refine⟨this.1,fun G=>?_⟩;have h3:=this.2 (by rw[B.le.id0];exact Aj (Nat.min_le_left _ _) G);rwa [B.le.n0]at h3
  ·have y:=L i x q h1;have:=s.sep i x y;refine⟨?_,this.2⟩;refine Cb fun a5=>?_;rcases B.new x a5 with e | e | ⟨id,G,Q⟩
   ·exact e this.1
   ·have:=y.next s;omega
   ·have:=(live id x Q).1;omega
def mR{g:FuncId}{args:List PV}{M:Mem}{K:Kp}(h:aj tab g args M fun r B=>∃y N,fP M.length B r=Jm y/\jP M.length B (B.take M.length)=Jm N/\K y N):aj tab g args M K:=
 fun w hh u h0 s J=>iX (h w hh u h0 s J) fun v L ⟨G,r,O,E,I,Q,y,N,R,S,T⟩=>by
  have hid:G.id0<=M.length:=by rw[E.le.id0];exact h0
  obtain⟨U,V⟩:=I.cutF (m:=M.length) hid E.len S;exact⟨G.cut L M.length O,y,N,E.trans (V M.length (Ac _)) (Ac _),U,HH I hid Q R,T⟩
def g8{n:Nat}{M l:Mem}(h:l.all (aG n)=Jo):jP n M l=Jm l:=by have:=J5 (M:=M) (r:=[]) (xs:=[]) h rfl;simpa using this
end
def PSt.qf{w:PWd}{h:H}{M:Mem}(s:PSt w h M){id g ver:Nat}{cs cs2:List PV}(hm:M[id]? =Jm (.cells g ver cs))(hl:cs2.length=cs.length)
  (hr:∀e b u,w.env id=Jm e->e.blk=Jm b->h.get b=Jm (.cells (e.v0+ver) Jo u)->al w cs2 u):
  PSt w h (M.set id (.cells g ver cs2))/\∀m,m<=M.length->dr m w h M w h (M.set id (.cells g ver cs2)):=by
 have hid:=aI hm;have live:∀i x,af w (M.set id (.cells g ver cs2)) i x->af w M i x:=by
  rintro i x ⟨G,J,h1,h2,h3,E⟩;by_cases B:id=i
  ·subst B;exact⟨_,J,hm,by simp,h3,E⟩
  ·rw[Bo B]at h1;exact⟨G,J,h1,h2,h3,E⟩
 refine⟨⟨s.imm,?_,s.blk,?_,fun i j x h1 h2=>s.inj i j x (live i x h1) (live j x h2),fun i x h1=>s.sep i x (live i x h1),s.base⟩,fun m I=>⟨by simpa using I,Le.refl _ _,Ac _,fun _ _ _=>rfl,fun i x h1 _=>live i x h1,fun x K=> .inl K⟩⟩
 ·intro i e he;simpa using s.env i e he
 ·intro i G B;by_cases y:id=i
  ·subst y;rw[Cj hid]at B;cases B;obtain⟨e,h1,h2,h3⟩:=s.obj id _ hm;refine⟨e,h1,h2,?_⟩
   cases hb:e.blk with
   | none=>rw[hb]at h3;have h3:cs=[]:=h3;subst h3;exact List.length_eq_zero_iff.1 (by simpa using hl)
   | some b=>rw[hb]at h3;obtain⟨u,E,L⟩:=h3;exact⟨u,E,hr e b u h1 hb E⟩
  ·rw[Bo y]at B;exact s.obj i G B
def jx.len{id g:Nat}{cs:List PV} :∀{a b:List PV},jx id g cs a b->b.length=a.length
 | [],[],_=>rfl
 | _::a,_::b,h=>by simp[jx.len h.2]
 | [],_::_,h=>h.elim
 | _::_,[],h=>h.elim
def GStep.fw{m:Nat}{a b:List PV}{M N:Mem}(id j:Nat){g ver B E:Nat}{cs G cj2:List PV}(hid:m<=id)(V:M[id]? =Jm (.cells g ver cs))(L:M[j]? =Jm (.cells B E G))(I:id≠j)(hf:jx id g cs a b)(u:jx id g cs G cj2)
  (Y:(M.set id .gone).set j (.cells B E cj2)=N):GStep m a M b N:=by
 subst Y;refine⟨fun hm=>by simpa using hm,fun w hh a' h0 hm s Z=>?_⟩;obtain⟨w',O,s2,hl,hr⟩:=s.freeze V (Aj h0 hid);have y:(M.set id .gone)[j]? =Jm (.cells B E G):=by rw[Bo I];exact L
 obtain⟨J,k1,k2,Q⟩:=s.obj j _ L;obtain⟨t1,t2⟩:=O.qf (cs2:=cj2) y u.len (fun e b a1 he hb hg=>by
  obtain⟨e',R,p2,p3⟩:=O.obj j _ y;rw[he]at R;cases R;obtain⟨e1,S,q2⟩:=hl.env j (s.env j J k1) J k1;rw[he]at S;cases S;have K:e=J:=by
   rcases q2 with q | q
   ·omega
   ·exact q
  subst K;rw[hb]at Q;obtain⟨T,U,r2⟩:=Q;rw[hg]at U;cases U;exact u.rep hl s.env hr r2)
 exact⟨w',(s2 m hid).trans (t2 m (by simpa using hm)) (Ac _),t1,hf.rep hl s.env hr Z⟩
def GStep.wkC{m:Nat}{a:List PV}{M N:Mem}(id o:Nat){g ver:Nat}{cs:List PV}{v':PV}(E:M[id]? =Jm (.cells g ver cs))(hw:∀v,cs[o]? =Jm v->bo v v')(L:M.set id (.cells g ver (cs.set o v'))=N):GStep m a M a N:=by
 subst L;refine⟨fun hm=>by simpa using hm,fun w hh a' h0 hm s O=>?_⟩;obtain⟨U,k1,k2,G⟩:=s.obj id _ E;obtain⟨Q,R⟩:=s.qf (cs2:=cs.set o v') E (by simp) (fun e b T he hb hg=>by
  rw[k1]at he;cases he;rw[hb]at G;obtain⟨I,J,B⟩:=G;rw[hg]at J;cases J;refine⟨by simpa using B.len,fun i y z u hz=>?_⟩;rw[Ew]at u;split at u
  ·rename_i q;subst q;split at u
   ·rename_i K;cases u;exact hw _ (Ad K) w z (B.get _ _ z (Ad K) hz)
   ·cases u
  ·exact B.get i y z u hz)
 exact⟨w,R m hm,Q,O⟩
section
variable {tab:Tb}
def pW{m:Nat}{a:List PV}{M:Mem}{G K:Kl}{L:Nat->Kl}{os:List aw}{d size len:Nat}{z:List AV}{y:List (Nat×Nat×AR)}{chk:List Nat}
  (h:∃cs,dv a (cK len (z.map bd)) y=Jm cs/\RO tab os (du a d (.ref M.length 0 size 0 len)) (M++[.cells 0 0 cs]) G):
  bV tab m (.region (⟨Jm d,.buildSlice size len z y,Jn,chk⟩::os)) a M G K L:=by
 intro w hh a' h0 hm s I;rw[CB];obtain⟨cs,O,J⟩:=h
 delta RO at J
 obtain⟨B,Q,R⟩:=mE I y (jA (cZ w z) len) O;obtain⟨S,u⟩:=s.alloc (o:= .cells 0 0 cs) (o':= .cells 0 Jo B) (e:=⟨Jm hh.next,0,0⟩) rfl fun w' hl he=>⟨_,he,rfl,_,H.ai _ _,R.mono hl s.env⟩;have hv:az (w.bp M.length ⟨Jm hh.next,0,0⟩) (.ref M.length 0 size 0 len) (.slice Jo size hh.next 0 len):= .ref (e:=⟨Jm hh.next,0,0⟩) (by show(if _=_ then _ else _)=_;rw[if_pos rfl]) rfl rfl;obtain⟨E,h2,T,U,V,Y,Z,s3,r3,q3⟩:=mS os (by rw[u.le.id0];have:=u.len;omega) S ((I.mono u.le s.env).iz d hv) J;unfold WO;refine⟨E,h2,?_,U,V,Y,(u.trans Z u.len).weaken hm,s3,r3,q3⟩;simp only[hO,bR,fY,aop,Q];exact T
def bQ{g:FuncId}{F:AFn}(hg:tab g=Jm (.fn F)){args:List PV}{M:Mem}{K:Kp}(hb:aD 0 args=Jo)
  (u:bV tab 0 F.body (ll args F.ntmps) [] (pA F.results fun r=>K r M) (pA F.results fun r=>K r M) ls):aj tab g args M K:=by
 refine rO hb (cA hg (fC u (fun b N q=>?_) (fun b N q=>?_) fun i b N q=>?_))
 ·unfold pA at q;exact q
 ·unfold pA at q;exact q
 ·unfold ls at q;exact q
end
section
variable {tab:Tb}
open Classical in
def aE1{w:PWd}{h:H}{M:Mem}(s:PSt w h M){id g ver:Nat}{cs:List PV}(hm:M[id]? =Jm (.cells g ver cs))(I:aD 0 cs=Jo){v:AV}(hv:az w (.ptr id g 0) v):az (w.cut h 0 M) (.cp cs 0) v:=by
 obtain⟨e,h1,h2,h3⟩:=s.kx hm
 cases hv with
 | @ptr _ _ _ J b u K E=>
  rw[h1]at u;cases u;rcases h3 with⟨h3,_⟩ | ⟨S,B,h3,L,O,Q⟩
  ·rw[E]at h3;cases h3
  ·rw[E]at h3;cases h3;have G:(w.cut h 0 M).imm b=Jm (.cells (e.v0+ver) Jo B):=by show(if _ then _ else _)=_;rw[if_pos ⟨id,Ai _,Q⟩];exact L
   have hr:al (w.cut h 0 M) cs B:=al.low (w:=w) (w':=w.cut h 0 M) (m:=0) rfl (lJ s 0) (fun id G=>by omega) O I;have:=az.cp (o:=0) (off:=0) G (by rw[hr.len];omega) (fun i y z R hz=>hr.get i y z R (by simpa using hz));simpa using this
 | @mi _ _ _ J _ T u K=>rw[h1]at u;cases u;omega
def aCW{g:FuncId}{args:List PV}{M:Mem}{K:Kp}(hb:aD 0 args=Jo)(T:aj tab g args [] fun r M'=>∃id g ver cs,r= .ptr id g 0/\M'[id]? =Jm (.cells g ver cs)/\aD 0 cs=Jo/\K (.cp cs 0) M):aj tab g args M K:=by
 intro w h y h0 s ha
 let w0:PWd:={w with env:=fun _=>Jn,id0:=0}
 have s0:PSt w0 h []:=⟨s.imm,(fun id e he=>by cases he),(fun id e b he=>by cases he),(fun id o U=>by simp at U),(fun i j x ⟨_,_,h1,_⟩=>by simp at h1),(fun i x ⟨_,_,h1,_⟩=>by simp at h1),s.base⟩;have a0:al w0 args y:=ha.low (w:=w) (w':=w0) rfl (fun _ _ h=>h) (fun id Y=>by omega) hb;refine iX (T w0 h y (Ac _) s0 a0) ?_;rintro v L ⟨O,r,R,E,Z,p3,id,g,ver,cs,rfl,p4,p5,p6⟩;have q1:=aE1 Z p4 p5 p3;obtain⟨z1,z2⟩:=Z.cut (m:=0) (Ai _) (by simp);have E:=z2 w0 h [] E;have V:O.n0=w.n0:=E.le.n0;have G:∀x id,¬af w0 [] id x:=fun x id ⟨_,_,h1,_⟩=>by simp at h1
 have B:∀x,x<h.next->L.get x=h.get x:=fun x Q=>E.dx x Q (G x)
 let S:PWd:={n0:=w.n0,id0:=w.id0,env:=w.env,imm:=(O.cut L 0 R).imm}
 have hl:Le M.length w S:=⟨rfl,rfl,fun b o I=>E.le.imm b o I,fun id Y e he=>⟨e,he,.inr rfl⟩⟩;have hr:az S (.cp cs 0) v:=by exact q1.low (w:=O.cut L 0 R) (w':=S) (m:=0) V.symm (fun _ _ h=>h) (fun id Y=>by omega) (by simp only[PV.under];exact p5)
 refine⟨S,_,M,⟨Ac _,hl,E.next,fun x Q _=>B x Q,fun id x u _=>u,?_⟩,⟨fun b o I=>z1.imm b o I,s.env,?_,?_,s.inj,?_,Aj s.base E.next⟩,hr,p6⟩
 ·intro x Q;rcases E.new x Q with e | e | ⟨id,_,e⟩
  ·exact .inl e
  ·exact .inr (.inl e)
  ·exact absurd e (G x id)
 ·intro id e b he J;exact Bi (s.blk id e b he J) E.next
 ·intro id o U;exact lg.mono s hl (s.obj id o U) (fun e he=>he) fun e b he J=>B b (s.blk id e b he J)
 ·intro i x u;have u:af w M i x:=u;refine⟨?_,(s.sep i x u).2⟩;show(O.cut L 0 R).imm x=Jn
  cases T:(O.cut L 0 R).imm x with
  | none=>rfl
  | some o=>
   rcases E.new x (by rw[T];simp)with e | e | ⟨id,_,e⟩
   ·exact absurd (s.sep i x u).1 e
   ·have:=u.next s;omega
   ·exact absurd e (G x id)
end
def ZMp(o:Option cm)(k:Nat->List (PV×PV)->Prop)(t:cv k):Prop:=QMp o k
def UA(kd:Nat)(u:Bool)(z x i:PV)(M:Mem)(K:PV->Mem->List Nat->List Nat->Prop)(t:cv K):Prop:=aC0 kd u z x i M K
def T9(kd:Nat)(m i v:PV)(M:Mem)(K:PV->Mem->List Nat->List Nat->Prop)(t:cv K):Prop:=aCZ kd m i v M K
def aFr(ver:Nat)(u:List (PV×PV))(k:Nat->List (PV×PV)->Prop)(t:cv k):ZMp (Jm (.map ver u)) k t=k ver u:=by
 apply propext;constructor
 ·rintro⟨_,_,e,h⟩;cases e;exact h
 ·intro h;exact⟨_,_,rfl,h⟩
section
variable (tab:Tb) (a:List PV) (M:Mem) (K:PV->Mem->List Nat->List Nat->Prop)
def RH:RS tab .makeMap a M K=K (.map M.length) (M++[.map 0 []]) [] []:=by delta RS;rfl
def YD(kd:Nat)(u:Bool)(z:AV)(x i:AR):RS tab (.lookup kd u z x i) a M K=UA kd u (bd z) (pev a x) (pev a i) M K ⟨0⟩:=by delta RS;rfl
def H2(kd:Nat)(m i v:AR):RS tab (.mapUpdate kd m i v) a M K=T9 kd (pev a m) (pev a i) (pev a v) M K ⟨0⟩:=by delta RS;rfl
end
def Z4(z v:PV):vU Jo z (Jm v)= .tuple [v,.bool Jo]:=(rfl)
def Z5(z v:PV):vU Jp z (Jm v)=v:=(rfl)
def Z6(z:PV):vU Jo z Jn= .tuple [z,.bool Jp]:=(rfl)
def Z7(z:PV):vU Jp z Jn=z:=(rfl)
attribute [irreducible] ZMp UA T9
def jg(id g:Nat)(cs:List PV):List PV->List PV->Prop
 | [],[]=>True
 | x::a,y::b=>(y= .aa\/x=y\/∃o,x= .ptr id g o/\y= .cp cs o)/\jg id g cs a b
 | _,_=>False
def fE(id g:Nat)(cs:List PV):jg id g cs [] []=True:=(rfl)
def eD(id g:Nat)(cs:List PV)(x:PV)(a b:List PV):jg id g cs (x::a) (.aa::b)=jg id g cs a b:=by simp[jg]
def eC(id g:Nat)(cs:List PV)(x:PV)(a b:List PV):jg id g cs (x::a) (x::b)=jg id g cs a b:=by simp[jg]
def fD(id g o:Nat)(cs:List PV)(a b:List PV):jg id g cs (.ptr id g o::a) (.cp cs o::b)=jg id g cs a b:=by simp[jg]
def PSt.ff{w:PWd}{h:H}{M:Mem}(s:PSt w h M){id g ver:Nat}{cs:List PV}(hm:M[id]? =Jm (.cells g ver cs))(h0:w.id0<=id):
  ∃w',PSt w' h (M.set id .gone)/\(∀m,m<=id->dr m w h M w' h (M.set id .gone))/\Le M.length w w'/\∀o x,az w (.ptr id g o) x->az w' (.cp cs o) x:=by
 obtain⟨e,h1,h2,h3⟩:=s.kx hm;have hid:=aI hm;rcases h3 with⟨hb,rfl⟩ | ⟨b,S,hb,hg,hr,O⟩
 ·have live:∀i x,af w (M.set id .gone) i x->af w M i x:=by
   rintro i x ⟨Q,K,J,T,p3,p4⟩;by_cases B:id=i
   ·subst B;rw[Cj hid]at J;cases J;exact absurd rfl T
   ·rw[Bo B]at J;exact⟨Q,K,J,T,p3,p4⟩
  refine⟨w,⟨s.imm,fun i K he=>by simpa using s.env i K he,s.blk,?_,fun i j x u I=>s.inj i j x (live i x u) (live j x I),fun i x u=>s.sep i x (live i x u),s.base⟩,fun m U=>⟨by simp;omega,Le.refl _ _,Ac _,fun _ _ _=>rfl,fun i x u _=>live i x u,fun x G=> .inl G⟩,Le.refl _ _,?_⟩
  ·intro i Q B;by_cases E:id=i
   ·subst E;rw[Cj hid]at B;cases B;trivial
   ·rw[Bo E]at B;exact s.obj i Q B
  ·intro o x G
   cases G with
   | ptr u I V=>rw[h1]at u;cases u;rw[hb]at V;cases V
   | mi x q0 u I=>rw[h1]at u;cases u;omega
 ·let w':=w.gm b (.cells (e.v0+ver) Jo S)
  have Y:=s.sep id b O;have hl:Le M.length w w':=qT Y.1;have R:∀x,x≠b->w'.imm x=w.imm x:=fun x G=>by show(if _=_ then _ else _)=_;rw[if_neg G]
  have L:w'.imm b=Jm (.cells (e.v0+ver) Jo S):=by show(if _=_ then _ else _)=_;rw[if_pos rfl]
  have live:∀i x,af w' (M.set id .gone) i x->i≠id/\af w M i x:=by
   rintro i x ⟨Q,K,J,T,p3,p4⟩;by_cases B:id=i
   ·subst B;rw[Cj hid]at J;cases J;exact absurd rfl T
   ·rw[Bo B]at J;exact⟨fun q=>B q.symm,Q,K,J,T,p3,p4⟩
  refine⟨w',⟨?_,fun i K he=>by simpa using s.env i K he,s.blk,?_,fun i j x u I=>s.inj i j x (live i x u).2 (live j x I).2,?_,s.base⟩,fun m U=>⟨by simp;omega,⟨hl.n0,hl.id0,hl.imm,fun i B=>hl.env i (by omega)⟩,Ac _,fun _ _ _=>rfl,fun i x u _=>(live i x u).2,?_⟩,hl,?_⟩
  ·intro x o G;by_cases Z:x=b
   ·subst Z;rw[L]at G;cases G;exact hg
   ·rw[R x Z]at G;exact s.imm x o G
  ·intro i Q B;by_cases E:id=i
   ·subst E;rw[Cj hid]at B;cases B;trivial
   ·rw[Bo E]at B;exact lg.mono s hl (s.obj i Q B) (fun K he=>he) fun _ _ _ _=>rfl
  ·intro i x u;obtain⟨a0,I⟩:=live i x u;have:x≠b:=by rintro rfl;exact a0 (s.inj i id x I O)
   exact⟨by rw[R x this];exact(s.sep i x I).1,(s.sep i x I).2⟩
  ·intro x G;by_cases Z:x=b
   ·subst Z;exact .inr (.inr ⟨id,U,O⟩)
   ·rw[R x Z]at G;exact .inl G
  ·intro o x G
   cases G with
   | ptr u I V=>rw[h1]at u;cases u;rw[hb]at V;cases V;have hs:=hr.mono hl s.env;have:=az.cp (o:=o) (off:=0) L (by rw[hr.len];omega) (fun i y z hy hz=>hs.get i y z hy (by simpa using hz));simpa using this
   | mi x q0 u I=>rw[h1]at u;cases u;omega
def jg.rep{w w':PWd}{M:Mem}{id g:Nat}{cs:List PV}(hl:Le M.length w w')(hd:∀i e,w.env i=Jm e->i<M.length)(hf:∀o x,az w (.ptr id g o) x->az w' (.cp cs o) x):
  ∀{a b:List PV} {u:List AV},jg id g cs a b->al w a u->al w' b u
 | [],[],u,_,h=>⟨h.len,fun i y z q=>by simp at q⟩
 | x::a,y::b,[],_,h=>by have:=h.len;simp at this
 | x::a,y::b,v::u,⟨h1,h2⟩,h=>by
  refine .cons ?_ (jg.rep hl hd hf h2 h.tl);rcases h1 with rfl | rfl | ⟨o,rfl,rfl⟩
  ·exact .aa _
  ·exact h.hd.mono hl hd
  ·exact hf o v h.hd
 | [],_::_,u,hw,h=>hw.elim
 | _::_,[],u,hw,h=>hw.elim
def GStep.ff{m:Nat}{a b:List PV}{M N:Mem}(id:Nat){g ver:Nat}{cs:List PV}(hid:m<=id)(u:M[id]? =Jm (.cells g ver cs))(hf:jg id g cs a b)(y:M.set id .gone=N):GStep m a M b N:=by subst y;refine⟨fun hm=>by simpa using hm,fun w hh a' h0 hm s B=>?_⟩;obtain⟨w',E,G,hl,hr⟩:=s.ff u (Aj h0 hid);exact⟨w',G m hid,E,hf.rep hl s.env hr B⟩
def B9(v:PV)(k:ByteArray->Prop)(t:cv k):Prop:=∃s,v= .str s/\k s
def aCA(s:ByteArray)(k:ByteArray->Prop)(t:cv k):B9 (.str s) k t=k s:=by simp[B9]
section
variable (tab:Tb) (a:List PV) (M:Mem) (K:PV->Mem->List Nat->List Nat->Prop)
def MU(x i:AR):RS tab (.dc x i) a M K=B9 (pev a x) (fun s=>rK (pev a i) (fun _ k=>0<=k/\dW s[k.toNat]? (fun c=>K (.int .u8 c.toNat) M [] []) ⟨0⟩) ⟨0⟩) ⟨0⟩:=by delta RS B9 rK dW;rfl
end
attribute [irreducible] B9
def PSt.here{w:PWd}{h:H}{M:Mem}(s:PSt w h M):PSt {w with id0:=M.length} h M:=by
 let w':PWd:={w with id0:=M.length}
 exact⟨s.imm,s.env,s.blk,fun id o I=>by
   have r:=s.obj id o I
   cases o with
   | cells g ver cs=>
    obtain⟨e,h1,h2,h3⟩:=r;refine⟨e,h1,h2,?_⟩
    cases hb:e.blk with
    | none=>rw[hb]at h3;exact h3
    | some b=>rw[hb]at h3;obtain⟨E,B,u⟩:=h3;exact⟨E,B,u.eqv (w:=w) (w':=w') rfl (fun _ _ h=>h) fun _ _ h=>h⟩
   | map ver L=>obtain⟨e,b,h1,h2,h3,G,B,u⟩:=r;exact⟨e,b,h1,h2,h3,G,B,u.len,fun i y z p q=>⟨(u.get i y z p q).1.eqv (w:=w) (w':=w') rfl (fun _ _ h=>h) (fun _ _ h=>h),(u.get i y z p q).2.eqv (w:=w) (w':=w') rfl (fun _ _ h=>h) fun _ _ h=>h⟩⟩
   | loop ver r=>obtain⟨e,b,h1,h2,h3,J,B,u⟩:=r;exact⟨e,b,h1,h2,h3,J,B,u.state,u.pending,u.params,u.assign,u.body,u.tmps.eqv (w:=w) (w':=w') rfl (fun _ _ h=>h) fun _ _ h=>h⟩
   | gone=>trivial,s.inj,fun i x hl=>⟨(s.sep i x hl).1,fun K=>by have:i<M.length:=af.lt (w:=w) hl;have:M.length<=i:=K;omega⟩,s.base⟩
section
variable (tab:Tb)
variable {tab}
variable {c x y:AC} {a b:List PV} {M N:Mem} {Qn Qr:Kl} {Qe:Nat->Kl}
end
section
variable {tab:Tb}
end
section
variable {tab:Tb}
def rM{m:Nat}{a:List PV}{M:Mem}{u B:Kl}{E:Nat->Kl}{c:AR}{x y:AC}(I:pev a c= .bool Jo)(h:bV tab m x a M u B E):bV tab m (.cond c x y) a M u B E:=by intro w hh J h0 hm s G;rw[HZ];have hv:=aQ G c;rw[I]at hv;refine⟨Jo,jB hv,?_⟩;rw[if_pos rfl];exact h w hh J h0 hm s G
end
mutual
def PV.de:PV->Bool
 | .sl _ own _ _ cs=>own&&kI cs
 | .agg cs=>kI cs
 | .tuple cs=>kI cs
 | .bool _=>Jo
 | .int _ _=>Jo
 | .str _=>Jo
 | .au=>Jo
 | .ah=>Jo
 | .bc=>Jo
 | .aq=>Jo
 | .ae=>Jo
 | .aa=>Jo
 | .ptr _ _ _=>Jp
 | .ref _ _ _ _ _=>Jp
 | .map _=>Jp
 | .yld _ _=>Jp
 | .cp _ _=>Jp
 | .func _ _ _=>Jp
 | .iface _ _=>Jp
def kI:List PV->Bool
 | []=>Jo
 | v::l=>PV.de v&&kI l
end
def iO:∀(l:List PV),kI l=Jo↔∀v∈l,v.de=Jo
 | []=>by simp[kI]
 | v::l=>by simp[kI,iO l]
def qM{l:List PV}(h:kI l=Jo){i:Nat}{y:PV}(u:l[i]? =Jm y):y.de=Jo:=(iO l).1 h y (Af u)
def IA(k:IntKind)(u:List Int):kI (u.map (PV.int k))=Jo:=(iO _).2 fun v hv=>by obtain⟨x,_,rfl⟩:=List.mem_map.1 hv;simp[PV.de]
def UN(f:Bool)(sz n:Nat)(k:IntKind)(u:List Int):PV.de (.sl f Jo sz n (u.map (PV.int k)))=Jo:=by simp[PV.de,IA]
def UO(k:IntKind)(n:Int):PV.de (.int k n)=Jo:=by simp[PV.de]
def yD(b:Bool):PV.de (.bool b)=Jo:=by simp[PV.de]
def yC(f:Bool)(sz n:Nat)(cs:List PV):PV.de (.sl f Jo sz n cs)=kI cs:=by simp[PV.de]
def az.de{w w':PWd}(h0:w'.n0<=w.n0)(I:∀b o,w.imm b=Jm o->w.n0<=b->w'.imm b=Jm o){v:PV}{x:AV}(h:az w v x):v.de=Jo->az w' v x:=by
 induction h with
 | aa x=>intro _;exact .aa x
 | bool b=>intro _;exact .bool b
 | int k n=>intro _;exact .int k n
 | str s=>intro _;exact .str s
 | au=>intro _;exact .au
 | ah=>intro _;exact .ah
 | bc=>intro _;exact .bc
 | aq=>intro _;exact .aq
 | ae=>intro _;exact .ae
 | sl h1 h2 h3 B E M O u=>intro hb;simp only[PV.de,Au]at hb;obtain⟨G,J⟩:=E hb.1;exact .sl (I _ _ h1 G) h2 h3 B (fun _=>⟨Aj h0 G,J⟩) (fun q=>by rw[hb.1]at q;cases q) fun i y z p q=>u i y z p q (qM hb.2 p)
 | slN=>intro _;exact .slN
 | agg h1 h2 u=>intro hb;simp only[PV.de]at hb;exact .agg h1 fun i y z p q=>u i y z p q (qM hb p)
 | tuple h1 h2 u=>intro hb;simp only[PV.de]at hb;exact .tuple h1 fun i y z p q=>u i y z p q (qM hb p)
 | ptr h1 h2 h3=>intro hb;simp[PV.de]at hb
 | mi x q h1 h2=>intro hb;simp[PV.de]at hb
 | cp h1 h2 h3 u=>intro hb;simp[PV.de]at hb
 | ref h1 h2 h3=>intro hb;simp[PV.de]at hb
 | ma h1 h2 h3=>intro hb;simp[PV.de]at hb
 | nj x q h1 h2=>intro hb;simp[PV.de]at hb
 | map h1 h2 h3=>intro hb;simp[PV.de]at hb
 | oa x q h1 h2=>intro hb;simp[PV.de]at hb
 | func h1 h2 h3 B E K L=>intro hb;simp[PV.de]at hb
 | yld h1 h2 h3 B E u=>intro hb;simp[PV.de]at hb
 | nv x q h1 h2=>intro hb;simp[PV.de]at hb
 | iface h u=>intro hb;simp[PV.de]at hb
section
variable {tab:Tb}
open Classical in
def T2{w w0:PWd}{h:H}{M:Mem}(s:PSt w h M)(hn:w0.n0=w.n0)(O:∀b o,w.imm b=Jm o->w0.imm b=Jm o)(Q:∀id b,af w M id b->w0.imm b=h.get b){args G:List PV}(hb:jk M args G){u:List AV}(B:al w args u):al w0 G u:=by
 induction hb generalizing u with
 | nil=>exact⟨B.len,fun i y z K=>by simp at K⟩
 | @same v a b hv _ L=>
  match u,B with
  | x::l,B=>exact .cons (B.hd.low (w:=w) (w':=w0) (m:=0) hn O (fun id hi=>by omega) hv) (L B.tl)
  | [],B=>exact absurd B.len (by simp)
 | @ref id g ver sz off n cs I a b hm hl hu S _ L=>
  match u,B with
  | x::l,B=>
   refine .cons ?_ (L B.tl);subst S;obtain⟨e,p1,p2,T⟩:=s.ij hm B.hd;rcases T with⟨rfl,rfl,rfl,_,_⟩ | ⟨fl,b,U,rfl,p4,V,R,Y⟩
   ·simpa [aY]using az.slN
   ·have E:(aY cs off (n*sz)).length=n*sz:=by simp[aY];omega
    have hg:w0.imm b=h.get b:=Q id b Y;have hs:=(fJ R off (n*sz)).low (w:=w) (w':=w0) (m:=0) hn O (fun id hi=>by omega) hu;refine .sl (hg.trans V) (by rw[E,<-R.len];exact hl) E (fun _ q=>by cases q) (fun q=>by cases q) (fun _ q=>by cases q) fun i y z K hz=>hs.get i y z K ?_;rw[Bc,if_pos (by have:=aI K;omega),Bg];exact hz
  | [],B=>exact absurd B.len (by simp)
 | @nest id g ver sz off n cs I a b hm hl Z _ J L=>
  match u,B with
  | x::l,B=>
   refine .cons ?_ (L B.tl);obtain⟨e,p1,p2,T⟩:=s.ij hm B.hd;have E:I.length=n*sz:=by rw[<-Z.len];simp[aY];omega
   rcases T with⟨rfl,rfl,rfl,_,_⟩ | ⟨fl,b,U,rfl,p4,V,R,Y⟩
   ·have:I=[]:=List.length_eq_zero_iff.1 (by rw[E];simp);subst this;exact az.slN
   ·have hg:w0.imm b=h.get b:=Q id b Y;have hs:=J (fJ R off (n*sz));refine .sl (hg.trans V) (by rw[E,<-R.len];exact hl) E (fun _ q=>by cases q) (fun q=>by cases q) (fun _ q=>by cases q) fun i y z K hz=>hs.get i y z K ?_;rw[Bc,if_pos (by have:=aI K;omega),Bg];exact hz
  | [],B=>exact absurd B.len (by simp)
 | @agg cs I a b _ _ J L=>
  match u,B with
  | x::l,B=>
   refine .cons ?_ (L B.tl)
   cases B.hd with
   | agg h1 h2=>exact .agg (J ⟨h1,h2⟩).len (J ⟨h1,h2⟩).get
  | [],B=>exact absurd B.len (by simp)
open Classical in
def vE{g:FuncId}{args args2 args3:List PV}{M:Mem}{K:Kp}(hb:jk M args args2)(he:gN args2=args3)(hc:aj tab g args3 [] fun r _=>r.de=Jo/\K r M):aj tab g args M K:=by
 subst he;intro w h y h0 s ha
 let w0:PWd:={n0:=w.n0,env:=fun _=>Jn,id0:=0,imm:=fun b=>if ∃id,af w M id b then h.get b else w.imm b}
 have T:∀b o,w.imm b=Jm o->w0.imm b=Jm o:=fun b o u=>by
  show(if _ then _ else _)=_;split
  ·exact s.imm b o u
  ·exact u
 have J:∀b o,w0.imm b=Jm o->h.get b=Jm o:=fun b o u=>by
  have u:(if ∃id,af w M id b then h.get b else w.imm b)=Jm o:=u;split at u
  ·exact u
  ·exact s.imm b o u
 have a0:al w0 args2 y:=T2 (w0:=w0) s rfl T (fun id b hl=>by show(if _ then _ else _)=_;rw[if_pos ⟨id,hl⟩]) hb ha;have hlt:∀b o,w0.imm b=Jm o->b<h.next:=fun b o u=>by
  have u:(if ∃id,af w M id b then h.get b else w.imm b)=Jm o:=u;split at u
  ·rename_i q;obtain⟨id,hl⟩:=q;exact hl.next s
  ·exact s.kh u
 let L:PWd:={w0 with n0:=h.next}
 have s1:PSt L h []:=⟨J,(fun id e he=>by cases he),(fun id e b he=>by cases he),(fun id o U=>by simp at U),(fun i j x ⟨_,_,h1,_⟩=>by simp at h1),(fun i x ⟨_,_,h1,_⟩=>by simp at h1),Ac _⟩;have a1:al L (gN args2) y:=a0.age (w:=w0) (w':=L) hlt (fun _ _ h=>h) fun _ _ h=>h;refine iX (hc L h y (Ac _) s1 a1) ?_;rintro v h' ⟨R,r,M1,O,p2,p3,p5,p6⟩;have V:∀x id,¬af L [] id x:=fun x id ⟨_,_,h1,_⟩=>by simp at h1
 have B:∀x,x<h.next->h'.get x=h.get x:=fun x I=>O.dx x I (V x)
 let Q:PWd:={w with imm:=fun b=>if h.next<=b then R.imm b else w.imm b}
 have S:∀b,b<h.next->Q.imm b=w.imm b:=fun b hb=>by show(if _ then _ else _)=_;rw[if_neg (by omega)]
 have Z:∀b,h.next<=b->Q.imm b=R.imm b:=fun b hb=>by show(if _ then _ else _)=_;rw[if_pos hb]
 have hl:Le M.length w Q:=⟨rfl,rfl,fun b o u=>by rw[S b (s.kh u)];exact u,fun id hi e he=>⟨e,he,.inr rfl⟩⟩;have Y:R.n0=h.next:=O.le.n0;refine⟨Q,r,M,⟨Ac _,hl,O.next,fun x I _=>B x I,fun id x E _=>E,fun x I=>?_⟩,⟨fun b o u=>?_,s.env,fun id e b he G=>Bi (s.blk id e b he G) O.next,fun id o U=>?_,s.inj,fun i x E=>?_,Aj s.base O.next⟩,p3.de (w:=R) (w':=Q) (by rw[Y];exact s.base) (fun b o u hb=>by rw[Z b (by omega)];exact u) p5,p6⟩
 ·by_cases q:h.next<=x
  ·exact .inr (.inl q)
  ·rw[S x (by omega)]at I;exact .inl I
 ·by_cases q:h.next<=b
  ·rw[Z b q]at u;exact p2.imm b o u
  ·rw[S b (by omega)]at u;rw[B b (by omega)];exact s.imm b o u
 ·exact lg.mono s hl (s.obj id o U) (fun e he=>he) fun e b he G=>B b (s.blk id e b he G)
 ·have E:af w M i x:=E;exact⟨by rw[S x (E.next s)];exact(s.sep i x E).1,(s.sep i x E).2⟩
end
mutual
def PV.sh(k:Nat):PV->PV
 | .ref id g sz off n=> .ref (id+k) g sz off n
 | .ptr id g o=> .ptr (id+k) g o
 | .agg cs=> .agg (shL k cs)
 | .tuple cs=> .tuple (shL k cs)
 | v=>v
def shL(k:Nat):List PV->List PV
 | []=>[]
 | v::l=>PV.sh k v::shL k l
end
mutual
def PV.mw:PV->Bool
 | .ref _ _ _ _ _=>Jo
 | .ptr _ _ _=>Jo
 | .agg cs=>oD cs
 | .tuple cs=>oD cs
 | .sl _ own _ _ cs=>own&&kI cs
 | .bool _=>Jo
 | .int _ _=>Jo
 | .str _=>Jo
 | .au=>Jo
 | .ah=>Jo
 | .bc=>Jo
 | .aq=>Jo
 | .ae=>Jo
 | .aa=>Jo
 | _=>Jp
def oD:List PV->Bool
 | []=>Jo
 | v::l=>PV.mw v&&oD l
end
def shO(k:Nat):cm->cm
 | .cells g v cs=> .cells g v (shL k cs)
 | _=> .gone
def aFY:cm->Bool
 | .cells _ _ cs=>oD cs
 | _=>Jo
def xK(k:Nat):∀(l:List PV) (i:Nat),(shL k l)[i]? =(l[i]?).map (PV.sh k)
 | [],i=>by simp[shL]
 | v::l,0=>by simp[shL]
 | v::l,i+1=>by simp[shL,xK k l i]
def xJ(k:Nat):∀l:List PV,(shL k l).length=l.length
 | []=>rfl
 | v::l=>by simp[shL,xJ k l]
def t6:∀(l:List PV),oD l=Jo↔∀v∈l,v.mw=Jo
 | []=>by simp[oD]
 | v::l=>by simp[oD,t6 l]
def t7{l:List PV}(h:oD l=Jo){i:Nat}{y:PV}(u:l[i]? =Jm y):y.mw=Jo:=(t6 l).1 h y (Af u)
def az.sh{k:Nat}{w w':PWd}(h0:w'.n0<=w.n0)(J:∀b o,w.imm b=Jm o->w.n0<=b->w'.imm b=Jm o)(he:∀id e,w.env id=Jm e->w'.env (id+k)=Jm e){v:PV}{x:AV}(h:az w v x):v.mw=Jo->az w' (v.sh k) x:=by
 induction h with
 | aa x=>intro _;exact .aa x
 | bool b=>intro _;exact .bool b
 | int k n=>intro _;exact .int k n
 | str s=>intro _;exact .str s
 | au=>intro _;exact .au
 | ah=>intro _;exact .ah
 | bc=>intro _;exact .bc
 | aq=>intro _;exact .aq
 | ae=>intro _;exact .ae
 | sl h1 h2 h3 G I K L B=>intro hb;simp only[PV.mw,Au]at hb;exact(az.sl h1 h2 h3 G I K L).de h0 J (by simp only[PV.de,hb.1,hb.2,Dp])
 | slN=>intro _;exact .slN
 | agg h1 h2 B=>intro hb;simp only[PV.mw]at hb;refine .agg (by rw[xJ,h1]) fun i y z p q=>?_;rw[xK]at p;obtain⟨u,E,rfl⟩:=Option.map_eq_some_iff.1 p;exact B i u z E q (t7 hb E)
 | tuple h1 h2 B=>intro hb;simp only[PV.mw]at hb;refine .tuple (by rw[xJ,h1]) fun i y z p q=>?_;rw[xK]at p;obtain⟨u,E,rfl⟩:=Option.map_eq_some_iff.1 p;exact B i u z E q (t7 hb E)
 | ptr h1 h2 h3=>intro _;exact .ptr (he _ _ h1) h2 h3
 | mi x q h1 h2=>intro _;exact .mi x q (he _ _ h1) h2
 | cp h1 h2 h3 B=>intro hb;simp[PV.mw]at hb
 | ref h1 h2 h3=>intro _;exact .ref (he _ _ h1) h2 h3
 | ma h1 h2 h3=>intro _;exact .ma (he _ _ h1) h2 h3
 | nj x q h1 h2=>intro _;exact .nj x q (he _ _ h1) h2
 | map h1 h2 h3=>intro hb;simp[PV.mw]at hb
 | oa x q h1 h2=>intro hb;simp[PV.mw]at hb
 | func h1 h2 h3 G I M O=>intro hb;simp[PV.mw]at hb
 | yld h1 h2 h3 G I B=>intro hb;simp[PV.mw]at hb
 | nv x q h1 h2=>intro hb;simp[PV.mw]at hb
 | iface h B=>intro hb;simp[PV.mw]at hb
def al.shl{k:Nat}{w w':PWd}(h0:w'.n0<=w.n0)(E:∀b o,w.imm b=Jm o->w.n0<=b->w'.imm b=Jm o)(he:∀id e,w.env id=Jm e->w'.env (id+k)=Jm e){l:List PV}{l':List AV}(h:al w l l')(hb:oD l=Jo):al w' (shL k l) l':=
 ⟨by rw[xJ];exact h.len,fun i y z p q=>by
  rw[xK]at p;obtain⟨u,B,rfl⟩:=Option.map_eq_some_iff.1 p;exact(h.get i u z B q).sh h0 E he (t7 hb B)⟩
section
variable {tab:Tb}
open Classical in
def aCX{g:FuncId}{args args2 args3:List PV}{M:Mem}{K:Kp}(hb:jk M args args2)(he:gN args2=args3)
  (hc:aj tab g args3 [] fun r N=>∃O:Mem,(∀(i:Nat) o,O[i]? =Jm o->o= .gone\/N[i]? =Jm o)/\N.length<=O.length/\r.mw=Jo/\O.all aFY=Jo/\K (r.sh M.length) (M++O.map (shO M.length))):aj tab g args M K:=by
 subst he;intro w h E h0 s ha
 let w0:PWd:={n0:=w.n0,env:=fun _=>Jn,id0:=0,imm:=fun b=>if ∃id,af w M id b then h.get b else w.imm b}
 have b0:∀b o,w.imm b=Jm o->w0.imm b=Jm o:=fun b o u=>by
  show(if _ then _ else _)=_;split
  ·exact s.imm b o u
  ·exact u
 have a3:∀b o,w0.imm b=Jm o->h.get b=Jm o:=fun b o u=>by
  have u:(if ∃id,af w M id b then h.get b else w.imm b)=Jm o:=u;split at u
  ·exact u
  ·exact s.imm b o u
 have a0:al w0 args2 E:=T2 (w0:=w0) s rfl b0 (fun id b hl=>by show(if _ then _ else _)=_;rw[if_pos ⟨id,hl⟩]) hb ha;have hlt:∀b o,w0.imm b=Jm o->b<h.next:=fun b o u=>by
  have u:(if ∃id,af w M id b then h.get b else w.imm b)=Jm o:=u;split at u
  ·rename_i q;obtain⟨id,hl⟩:=q;exact hl.next s
  ·exact s.kh u
 let w1:PWd:={w0 with n0:=h.next}
 have s1:PSt w1 h []:=⟨a3,(fun id e he=>by cases he),(fun id e b he=>by cases he),(fun id o Z=>by simp at Z),(fun i j x ⟨_,_,h1,_⟩=>by simp at h1),(fun i x ⟨_,_,h1,_⟩=>by simp at h1),Ac _⟩;have a1:al w1 (gN args2) E:=a0.age (w:=w0) (w':=w1) hlt (fun _ _ h=>h) fun _ _ h=>h;refine iX (hc w1 h E (Ac _) s1 a1) ?_;rintro v h' ⟨G,r,N,p1,U,p5,O,n1,n2,r1,o1,p6⟩;have b1:∀x id,¬af w1 [] id x:=fun x id ⟨_,_,h1,_⟩=>by simp at h1
 have I:∀x,x<h.next->h'.get x=h.get x:=fun x V=>p1.dx x V (b1 x);have a5:G.n0=h.next:=p1.le.n0;have a4:G.id0=0:=p1.le.id0
 --what is live in the a2 end is new
 have B:∀i x,af G N i x->h.next<=x:=fun i x hl=>by have:=(U.sep i x hl).2 (by rw[a4];exact Ai _);rw[a5]at this;exact this
 let m:=M.length
 let Q:PWd:={w with imm:=fun b=>if h.next<=b then G.imm b else w.imm b,env:=fun id=>if id<m then w.env id else G.env (id-m)}
 have i1:∀b,b<h.next->Q.imm b=w.imm b:=fun b hb=>by show(if _ then _ else _)=_;rw[if_neg (by omega)]
 have i2:∀b,h.next<=b->Q.imm b=G.imm b:=fun b hb=>by show(if _ then _ else _)=_;rw[if_pos hb]
 have e1:∀id,id<m->Q.env id=w.env id:=fun id R=>by show(if _ then _ else _)=_;rw[if_pos R]
 have e2:∀id,Q.env (id+m)=G.env id:=fun id=>by show(if _ then _ else _)=_;rw[if_neg (by omega),Nat.add_sub_cancel]
 have hl:Le M.length w Q:=⟨rfl,rfl,fun b o u=>by rw[i1 b (s.kh u)];exact u,fun id R e he=>⟨e,by rw[e1 id R];exact he,.inr rfl⟩⟩;have g1:∀id,id<m->(M++O.map (shO m))[id]? =M[id]? :=fun id R=>Bj R;have g2:∀id,¬id<m->(M++O.map (shO m))[id]? =(O[id-m]?).map (shO m):=fun id R=>by
  rw[Bx (by omega),Av]
 have Y:∀id e,G.env id=Jm e->Q.env (id+m)=Jm e:=fun id e he=>by rw[e2];exact he
 have a6:∀b o,G.imm b=Jm o->G.n0<=b->Q.imm b=Jm o:=fun b o u hb=>by rw[i2 b (by omega)];exact u
 have a7:Q.n0<=G.n0:=by rw[a5];exact s.base
 have J:∀i x,i<m->af Q (M++O.map (shO m)) i x->af w M i x:=by rintro i x R ⟨o,e,q1,q2,q3,q4⟩;rw[g1 i R]at q1;rw[e1 i R]at q3;exact⟨o,e,q1,q2,q3,q4⟩
 have L:∀i x,¬i<m->af Q (M++O.map (shO m)) i x->af G N (i-m) x:=by
  rintro i x R ⟨o,e,q1,q2,q3,q4⟩;rw[g2 i R]at q1;obtain⟨o',S,rfl⟩:=Option.map_eq_some_iff.1 q1;have q3:G.env (i-m)=Jm e:=by rw[<-e2,Hb (by omega)];exact q3
  rcases n1 _ _ S with rfl | hN
  ·exact absurd rfl q2
  ·exact⟨o',e,hN,fun q=>q2 (by rw[q];rfl),q3,q4⟩
 refine⟨Q,r.sh m,M++O.map (shO m),⟨by simp,hl,p1.next,fun x V _=>I x V,fun id x y V=>?_,fun x V=>?_⟩,⟨fun b o u=>?_,fun id e he=>?_,fun id e b he T=>?_,fun id o Z=>?_,fun i j x h1 h2=>?_,fun i x y=>?_,Aj s.base p1.next⟩,p5.sh a7 a6 Y r1,p6⟩
 ·by_cases q:id<m
  ·exact J id x q y
  ·have:=B _ x (L id x q y);omega
 ·by_cases q:h.next<=x
  ·exact .inr (.inl q)
  ·rw[i1 x (by omega)]at V;exact .inl V
 ·by_cases q:h.next<=b
  ·rw[i2 b q]at u;exact U.imm b o u
  ·rw[i1 b (by omega)]at u;rw[I b (by omega)];exact s.imm b o u
 ·by_cases q:id<m
  ·simp;omega
  ·have he:G.env (id-m)=Jm e:=by rw[<-e2,Hb (by omega)];exact he
   have:=U.env _ _ he;simp;omega
 ·by_cases q:id<m
  ·rw[e1 id q]at he;exact Bi (s.blk id e b he T) p1.next
  ·have he:G.env (id-m)=Jm e:=by rw[<-e2,Hb (by omega)];exact he
   exact U.blk _ e b he T
 ·by_cases q:id<m
  ·rw[g1 id q]at Z;exact lg.mono s hl (s.obj id o Z) (fun e he=>by rw[e1 id q];exact he) fun e b he T=>I b (s.blk id e b he T)
  ·rw[g2 id q]at Z;obtain⟨o',S,rfl⟩:=Option.map_eq_some_iff.1 Z;have ok:=(List.all_eq_true.1 o1) o' (Af S);rcases n1 _ _ S with rfl | hN
   ·trivial
   ·have hr:=U.obj _ _ hN
    match o',hr,ok with
    | .cells gg vv cs,⟨e,q4,q5,q6⟩,ok=>
     refine⟨e,?_,q5,?_⟩
     ·have:=Y _ _ q4;rwa [Hb (by omega)]at this
     ·cases a9:e.blk with
      | none=>rw[a9]at q6;simp only at q6 ⊢;subst q6;simp[shL]
      | some b=>rw[a9]at q6;obtain⟨b2,z1,z2⟩:=q6;exact⟨b2,z1,z2.shl a7 a6 Y ok⟩
    | .map _ _,_,_=>trivial
    | .loop _ _,_,_=>trivial
    | .gone,_,_=>trivial
 ·by_cases qi:i<m
  ·by_cases qj:j<m
   ·exact s.inj i j x (J i x qi h1) (J j x qj h2)
   ·have a:=(J i x qi h1).next s;have b:=B _ x (L j x qj h2);omega
  ·by_cases qj:j<m
   ·have a:=(J j x qj h2).next s;have b:=B _ x (L i x qi h1);omega
   ·have:=U.inj _ _ x (L i x qi h1) (L j x qj h2);omega
 ·by_cases q:i<m
  ·have y:=J i x q y;exact⟨by rw[i1 x (y.next s)];exact(s.sep i x y).1,(s.sep i x y).2⟩
  ·have y:=L i x q y;have hf:=B _ x y;exact⟨by rw[i2 x hf];exact(U.sep _ x y).1,fun _=>by have:=s.base;show w.n0<=x;omega⟩
end
def aHM(len size:Nat)(x:PV)(l r:Option Int)(M:Mem)(k:PV->List Nat->Prop)(t:cv k):Prop:=aHR len size x l r M k
def aCR(x:PV)(M:Mem)(k:PV->List Nat->Prop)(t:cv k):Prop:=aHW x M k
def aCJ(x:PV)(M:Mem)(k:PV->List Nat->Prop)(t:cv k):Prop:=aC1 x M k
def aCD(len size id g o:Nat)(l r:Option Int)(M:Mem)(k:PV->List Nat->Prop)(t:cv k):
  aHM len size (.ptr id g o) l r M k t=ZOb M[id]? g (fun _ cs=>(o+len*size<=cs.length/\0<=l.getD 0/\l.getD 0<=r.getD len/\r.getD len<=len)/\k (.ref id g size (o+(l.getD 0).toNat*size) (r.getD len-l.getD 0).toNat) [id]) ⟨0⟩:=by unfold ZOb;rfl
def X6(M:Mem)(k:PV->List Nat->Prop)(t:cv k):aCR .ah M k t=k (.str ⟨#[]⟩) []:=(rfl)
def aFy(u own:Bool)(sz n:Nat)(cs:List PV)(M:Mem)(k:PV->List Nat->Prop)(t:cv k):aCR (.sl u own sz n cs) M k t=(sz=1/\dW (mF cs) (fun s=>k (.str ⟨s.toArray⟩) []) ⟨0⟩):=by unfold dW;rfl
def aCQ(id g sz off n:Nat)(M:Mem)(k:PV->List Nat->Prop)(t:cv k):aCR (.ref id g sz off n) M k t=ZOb M[id]? g (fun _ cs=>(sz=1/\off+n<=cs.length)/\dW (mF (aY cs off n)) (fun s=>k (.str ⟨s.toArray⟩) [id]) ⟨0⟩) ⟨0⟩:=by unfold ZOb dW;rfl
def XW(id:Nat)(M:Mem)(k:PV->List Nat->Prop)(t:cv k):aCJ (.map id) M k t=ZMp M[id]? (fun _ u=>k (p64 u.length) [id]) ⟨0⟩:=by unfold ZMp;rfl
section
variable (tab:Tb) (a:List PV) (M:Mem) (K:PV->Mem->List Nat->List Nat->Prop)
def MR(x:AR)(u y:Option AR):RS tab (.ep x u y) a M K=B9 (pev a x) (fun s=>xA a u (fun l=>xA a y (fun r=>(0<=l.getD 0/\l.getD 0<=r.getD s.size/\r.getD s.size<=s.size)/\K (.str (s.extract (l.getD 0).toNat (r.getD s.size).toNat)) M [] []) ⟨0⟩) ⟨0⟩) ⟨0⟩:=by delta RS B9 xA;rfl
def YE(x:AR):RS tab (.jd x) a M K=B9 (pev a x) (fun s=>K (p64 s.size) M [] []) ⟨0⟩:=by delta RS B9;rfl
def MS(len size:Nat)(x:AR)(u y:Option AR):RS tab (.cz len size x u y) a M K=xA a u (fun l=>xA a y (fun r=>aHM len size (pev a x) l r M (fun v rd=>K v M rd []) ⟨0⟩) ⟨0⟩) ⟨0⟩:=by delta RS xA;rfl
def C6(x:AR):RS tab (.bu x) a M K=aCR (pev a x) M (fun v rd=>K v M rd []) ⟨0⟩:=by delta RS;rfl
def YF(x:AR):RS tab (.iv x) a M K=aCJ (pev a x) M (fun v rd=>K v M rd []) ⟨0⟩:=by delta RS;rfl
end
def QV(kd:Nat)(u:Bool)(z:PV)(id:Nat)(s:ByteArray)(M:Mem)(K:PV->Mem->List Nat->List Nat->Prop)(t:cv K):
  UA kd u z (.map id) (.str s) M K t=ZMp M[id]? (fun _ y=>dW (cU kd (.str s) y) (fun r=>K (vU u z r) M [id] []) ⟨0⟩) ⟨0⟩:=by unfold ZMp UA;delta dW;rfl
def QU(kd:Nat)(id:Nat)(s:ByteArray)(v:PV)(M:Mem)(K:PV->Mem->List Nat->List Nat->Prop)(t:cv K):
  T9 kd (.map id) (.str s) v M K t=ZMp M[id]? (fun ver u=>dW (cU kd (.str s) u) (fun _=>v.one=Jo/\K (.tuple []) (M.set id (.map (ver+1) (f7 kd (.str s) (.str s) v u))) [] [id]) ⟨0⟩) ⟨0⟩:=by unfold ZMp T9;delta dW;rfl
def QJ(a b:ByteArray):(a==b)=decide (a=b):=by
 cases a with | mk x=>cases b with | mk y=>
 show(x==y)=_;by_cases h:x=y
 ·subst h;simp
 ·simp[h]
def smE(l:List (ByteArray×PV)):List (PV×PV):=l.map fun p=>(PV.str p.1,p.2)
def sD(k:ByteArray):List (ByteArray×PV)->Option PV
 | []=>Jn
 | p::l=>if k=p.1 then Jm p.2 else sD k l
def aDx(l:List (ByteArray×PV)):(smE l).length=l.length:=Ap _
def y9(k:ByteArray):∀l:List (ByteArray×PV),cU 2 (.str k) (smE l)=Jm (sD k l)
 | []=>rfl
 | p::l=>by
  show(match Jm (k==p.1)with | some Jo=>Jm (Jm _) | some Jp=>cU 2 (.str k) (smE l) | none=>Jn)=_;unfold sD;by_cases e:k=p.1
  ·rw[if_pos e,show(k==p.1)=Jo by rw[QJ];simp[e]]
  ·rw[if_neg e,show(k==p.1)=Jp by rw[QJ];simp[e]];exact y9 k l
def F5(k:ByteArray)(v:PV):∀l:List (ByteArray×PV),sD k l=Jn->f7 2 (.str k) (.str k) v (smE l)=smE (l++[(k,v)])
 | [],_=>rfl
 | p::l,h=>by
  unfold sD at h;by_cases e:k=p.1
  ·rw[if_pos e]at h;cases h
  ·rw[if_neg e]at h;show(match Jm (k==p.1)with | some Jo=>_ | _=>_::f7 2 (.str k) (.str k) v (smE l))=_;rw[show(k==p.1)=Jp by rw[QJ];simp[e],F5 k v l h];rfl
def Z8(n:Nat)(M:Mem)(s:ByteArray):fP n M (.str s)=Jm (.str s):=rfl
def US(m:Nat)(s:ByteArray):PV.under m (.str s)=Jo:=by simp[PV.under]
def aDW(s:ByteArray):PV.one (.str s)=Jo:=rfl
def OC(s:ByteArray):bY (.str s)=[.str s]:=rfl
def aD0(i:Nat):PV.one (.map i)=Jo:=rfl
def OG(i:Nat):bY (.map i)=[.map i]:=rfl
def GE(kd:Nat)(k:AV):cU kd k []=Jm Jn:=rfl
def J4(kd:Nat)(key:PV)(k:AV)(v:PV):f7 kd key k v []=[(key,v)]:=rfl
attribute [irreducible] aHM aCR aCJ
def PT:=(Aa (Aa (Aa (Aa (Aa @YE @RH) (Aa @YD @H2)) (Aa (Aa @YF @aFr) (Aa @QV @QU))) (Aa (Aa (Aa @XW @Z4) (Aa @Z5 @Z6)) (Aa (Aa @Z7 @y9) (Aa @aDx @MR)))) (Aa (Aa (Aa (Aa @MS @C6) (Aa @MU @aCA)) (Aa (Aa @aCD @X6) (Aa @aFy @aCQ))) (Aa (Aa (Aa @Z8 @US) (Aa @aDW @OC)) (Aa (Aa @aD0 @OG) (Aa @GE @J4)))))
mutual
def mX{m n:Nat}(h:m<=n):∀v:PV,v.under m=Jo->v.under n=Jo
 | .ptr id g o,q=>by simp only[PV.under,decide_eq_true_eq]at q ⊢;omega
 | .ref id g sz off k,q=>by simp only[PV.under,decide_eq_true_eq]at q ⊢;omega
 | .map id,q=>by simp only[PV.under,decide_eq_true_eq]at q ⊢;omega
 | .yld id f,q=>by simp only[PV.under,Au,decide_eq_true_eq]at q ⊢;exact⟨by omega,dU h f q.2⟩
 | .cp cs o,q=>by simp only[PV.under]at q ⊢;exact dU h cs q
 | .sl a b c d cs,q=>by simp only[PV.under]at q ⊢;exact dU h cs q
 | .func fn f c,q=>by simp only[PV.under,Au]at q ⊢;exact⟨dU h f q.1,dU h c q.2⟩
 | .iface t v,q=>by simp only[PV.under]at q ⊢;exact mX h v q
 | .agg cs,q=>by simp only[PV.under]at q ⊢;exact dU h cs q
 | .tuple cs,q=>by simp only[PV.under]at q ⊢;exact dU h cs q
 | .aa,_=>by simp[PV.under]
 | .bool _,_=>by simp[PV.under]
 | .int _ _,_=>by simp[PV.under]
 | .str _,_=>by simp[PV.under]
 | .au,_=>by simp[PV.under]
 | .ah,_=>by simp[PV.under]
 | .bc,_=>by simp[PV.under]
 | .aq,_=>by simp[PV.under]
 | .ae,_=>by simp[PV.under]
def dU{m n:Nat}(h:m<=n):∀l:List PV,aD m l=Jo->aD n l=Jo
 | [],_=>by simp[aD]
 | v::l,q=>by simp only[aD,Au]at q ⊢;exact⟨mX h v q.1,dU h l q.2⟩
end
def PU{m n:Nat}(h:m<=n){o:cm}(q:aG m o=Jo):aG n o=Jo:=by
 cases o with
 | cells g ver cs=>exact dU h cs q
 | map ver y=>refine List.all_eq_true.2 fun p u=>?_;have:=(List.all_eq_true.1 q) p u;simp only[Au]at this ⊢;exact⟨mX h _ this.1,mX h _ this.2⟩
 | gone=>rfl
 | loop ver r=>cases q
def bE{m n:Nat}(h:m<=n){l:Mem}(q:l.all (aG m)=Jo):l.all (aG n)=Jo:=
 List.all_eq_true.2 fun o u=>PU h ((List.all_eq_true.1 q) o u)
def GStep.im{m:Nat}{a b:List PV}{M N:Mem}(n:Nat)(u:m<=n)(hl:n<=M.length)(hw:dh a b)(y:aD n b=Jo)(B:(M.take n).all (aG n)=Jo)(E:M.take n=N):GStep m a M b N:=by subst E;exact GStep.cutF n u hl hw (jD y) (g8 B)
def aDy{n:Nat}{l:List (ByteArray×PV)}(h:∀p∈l,p.2.under n=Jo)(ver:Nat):aG n (.map ver (l.map fun p=>(PV.str p.1,p.2)))=Jo:=by refine List.all_eq_true.2 fun p u=>?_;obtain⟨q,y,rfl⟩:=List.mem_map.1 u;simp only[Au];exact⟨by simp[PV.under],h q y⟩
section
variable {tab:Tb}
def rL{m:Nat}{a:List PV}{M:Mem}{Q U:Kl}{V:Nat->Kl}{os:List aw}(k:Nat){d size len:Nat}{z:List AV}{I:List (Nat×Nat×AR)}{chk:List Nat}
  (Y:os[k]? =Jm ⟨Jm d,.buildSlice size len z I,Jn,chk⟩)
  (h:RO tab (os.take k) a M fun b N=>∃cs,dv b (cK len (z.map bd)) I=Jm cs/\RO tab (os.drop (k+1)) (du b d (.ref N.length 0 size 0 len)) (N++[.cells 0 0 cs]) Q):
  bV tab m (.region os) a M Q U V:=by
 have he:os=os.take k++⟨Jm d,.buildSlice size len z I,Jn,chk⟩::os.drop (k+1):=by obtain⟨hl,e⟩:=List.getElem?_eq_some_iff.1 Y;rw[<-e,List.getElem_cons_drop,List.take_append_drop]
 generalize os.take k=y at he h;generalize os.drop (k+1)=J at he h;subst he;intro w hh a' h0 hm s Z;rw[CB]
 delta RO at h
 obtain⟨a0,h1,e1,R,b,N,B,K,S,cs,q1,q2⟩:=mS y (Aj h0 hm) s Z h;obtain⟨L,f1,f2⟩:=mE S I (jA (cZ R z) len) q1;obtain⟨s2,E⟩:=K.alloc (o:= .cells 0 0 cs) (o':= .cells 0 Jo L) (e:=⟨Jm h1.next,0,0⟩) rfl fun w' hl he=>⟨_,he,rfl,_,H.ai _ _,f2.mono hl K.env⟩;have hv:az (R.bp N.length ⟨Jm h1.next,0,0⟩) (.ref N.length 0 size 0 len) (.slice Jo size h1.next 0 len):= .ref (e:=⟨Jm h1.next,0,0⟩) (by show(if _=_ then _ else _)=_;rw[if_pos rfl]) rfl rfl;obtain⟨O,h2,e2,w2,a2,M2,t3,s3,r3,q3⟩:=mS J (by rw[E.le.id0,B.le.id0];have:=B.len;have:=E.len;omega) s2 ((S.mono E.le K.env).iz d hv) q2;unfold WO;refine⟨O,h2,?_,w2,a2,M2,((B.trans E B.len).trans t3 (Aj B.len E.len)).weaken hm,s3,r3,q3⟩;have app:∀(G u:List aw) {a b:List AV} {h h1:H},hO (lim tab) G a h=Jm (b,h1)->hO (lim tab) (G++u) a h=hO (lim tab) u b h1:=by
  intro G
  induction G with
  | nil=>intro u a b h h1 e;simp only[hO]at e;cases e;rfl
  | cons o G T=>
   intro u a b h h1 e;simp only[hO,List.cons_append]at e ⊢
   cases hw:bR a o.guard with
   | none=>rw[hw]at e;cases e
   | some t=>
    rw[hw]at e
    cases t with
    | false=>exact T u e
    | true=>
     simp only at e ⊢;split at e
     ·exact T u e
     ·cases e
 rw[app y _ e1];simp only[hO,bR,fY,aop,f1];exact e2
end
def aFt(v:PV)(y:Prop)(u:TypeId->PV->Prop)(t:cv u):Prop:=aHT v y u
def aCM(u:Prop)(y:TypeId->PV->Prop)(t:cv y):aFt .ae u y t=u:=(rfl)
def XX(y:TypeId)(v:PV)(B:Prop)(u:TypeId->PV->Prop)(t:cv u):aFt (.iface y v) B u t=u y v:=(rfl)
def aCG(M:Mem)(k:Bool->Prop)(t:cv k):rJ 4 .ae .ae M k t=k Jo:=by simp[rJ,MJ]
def aCF(u:TypeId)(v:PV)(M:Mem)(k:Bool->Prop)(t:cv k):rJ 4 (.iface u v) .ae M k t=k Jp:=by simp[rJ,MJ]
def aFp(id g o:Nat)(M:Mem)(k:Bool->Prop)(t:cv k):rJ 1 (.ptr id g o) .au M k t=ZOb M[id]? g (fun _ _=>k Jp) ⟨0⟩:=by unfold rJ ZOb;rfl
def aFq(M:Mem)(k:Bool->Prop)(t:cv k):rJ 1 .au .au M k t=k Jo:=by simp[rJ,MJ]
def zM(k1 k2:IntKind)(u g:Int)(r:List PV)(t:TypeId):dT (.int k1 u:: .int k2 g::r) t=if u=(t:Int)then Jm g.toNat else dT r t:=(rfl)
def pJ(t:TypeId)(v:PV):PV.one (.iface t v)=Jo:=(rfl)
def GJ:PV.one .ae=Jo:=(rfl)
def jU(t:TypeId)(v:PV):bY (.iface t v)=[.iface t v]:=(rfl)
def wY:bY .ae=[.ae]:=(rfl)
def IL(m:Nat)(t:TypeId)(v:PV):PV.under m (.iface t v)=PV.under m v:=by simp[PV.under]
def yF(m:Nat):PV.under m .ae=Jo:=by simp[PV.under]
section
variable (tab:Tb) (a:List PV) (M:Mem) (K:PV->Mem->List Nat->List Nat->Prop)
def Q8(t:TypeId)(n:String)(u y:List PV)(B:TypeId)(v:PV)(args:List PV)(K:Kp):
  CG tab (.func (.methodOf t n) u y) (.iface B v::args) M K=dW (dT u B) (fun g=>aj tab g (v::args) M K) ⟨0⟩:=by delta dW;rfl
def aFN(t:TypeId)(z:AV)(x:AR):RS tab (.pq t z x) a M K=aFt (pev a x) (K (.tuple [bd z,.bool Jp]) M [] []) (fun u v=>K (if u=t then .tuple [v,.bool Jo]else .tuple [bd z,.bool Jp]) M [] []) ⟨0⟩:=by delta RS;rfl
def nT(t:TypeId)(x:AR):RS tab (.gu t x) a M K=K (.iface t (pev a x)) M [] []:=by delta RS;rfl
def aFB(v:PV)(k:ByteArray->Prop):aFC v k=∃s,v= .str s/\k s:=by cases v<;>simp[aFC]
def C4(x:AR):RS tab (.cu x) a M K=B9 (pev a x) (fun s=>s.size<=140737488355328/\K (.sl Jo Jp 1 s.size (s.data.toList.map fun b=> .int .u8 b.toNat)) M [] []) ⟨0⟩:=by
 delta RS B9
 exact aFB _ _
end
attribute [irreducible] aFt
def PI:=(Aa (Aa (Aa (Aa @aFN @nT) (Aa @C4 @aCM)) (Aa (Aa @XX @aCG) (Aa @aCF @aFp))) (Aa (Aa (Aa @aFq @Q8) (Aa @zM @pJ)) (Aa (Aa @GJ @jU) (Aa @wY (Aa @IL @yF)))))
section
variable {tab:Tb}
def RHL(tab:Tb):List aw->List Nat->Nat->List PV->Mem->List lh->(Kl)->Prop
 | os,[],i,a,M,u,Q=>RD tab os i a M u Q
 | [],_::_,_,_,_,_,_=>False
 | ⟨d,o,Jn,chk⟩::os,j::B,i,a,M,u,Q=>
  if i=j then ∃size len z E cs,o= .buildSlice size len z E/\dv a (cK len (z.map bd)) E=Jm cs/\chk=[]/\RHL tab os B (i+1) (ig a d (.ref M.length 0 size 0 len)) (M++[.cells 0 0 cs]) (⟨i,[],[],M,M.length+1⟩::u) Q
  else RS tab o a M fun v G rd y=>jj o.effect rd y M u chk=Jo/\RHL tab os (j::B) (i+1) (ig a d v) G (⟨i,rd,y,M,G.length⟩::u) Q
 | ⟨_,_,Jm _,_⟩::_,_::_,_,_,_,_,_=>False
def KHL(tab:Tb)(j:Nat)(G:List Nat)(d:Option Nat)(B:Bool)(chk:List Nat)(os:List aw)(i:Nat)(a:List PV)(M:Mem)(u:List lh)(Q:Kl)(v:PV)(E:Mem)(rd y:List Nat):Prop:=
 jj B rd y M u chk=Jo/\RHL tab os (j::G) (i+1) (ig a d v) E (⟨i,rd,y,M,E.length⟩::u) Q
def RT(j:Nat)(G:List Nat)(d:Option Nat)(B:Bool)(chk:List Nat)(os:List aw)(i:Nat)(a:List PV)(M:Mem)(u:List lh)(Q:Kl)(v:PV)(E:Mem)(rd y:List Nat):
  KHL tab j G d B chk os i a M u Q v E rd y=(jj B rd y M u chk=Jo/\RHL tab os (j::G) (i+1) (ig a d v) E (⟨i,rd,y,M,E.length⟩::u) Q):=(rfl)
def Q4(j i:Nat)(B:List Nat)(y:¬i=j)(d:Option Nat)(o:AO)(chk:List Nat)(os:List aw)(a:List PV)(M:Mem)(u:List lh)(Q:Kl):
  RHL tab (⟨d,o,Jn,chk⟩::os) (j::B) i a M u Q=RS tab o a M (KHL tab j B d o.effect chk os i a M u Q):=by
 show(if i=j then _ else _)=_;rw[if_neg y];rfl
def yA(i:Nat)(os:List aw)(a:List PV)(M:Mem)(u:List lh)(Q:Kl):RHL tab os [] i a M u Q=RD tab os i a M u Q:=by cases os<;>rfl
def H1(j:Nat)(y:List Nat)(d:Option Nat)(size len:Nat)(z:List AV)(B:List (Nat×Nat×AR))(os:List aw)(a:List PV)(M:Mem)(u:List lh)(Q:Kl):
  RHL tab (⟨d,.buildSlice size len z B,Jn,[]⟩::os) (j::y) j a M u Q=∃cs,dv a (cK len (z.map bd)) B=Jm cs/\RHL tab os y (j+1) (ig a d (.ref M.length 0 size 0 len)) (M++[.cells 0 0 cs]) (⟨j,[],[],M,M.length+1⟩::u) Q:=by
 show(if j=j then _ else _)=_;rw[if_pos rfl];apply propext;constructor
 ·rintro⟨_,_,_,_,cs,e,h1,_,h2⟩;cases e;exact⟨cs,h1,h2⟩
 ·rintro⟨cs,h1,h2⟩;exact⟨_,_,_,_,cs,rfl,h1,rfl,h2⟩
def vF:∀(os:List aw) (js:List Nat) (i:Nat) {w:PWd} {h:H} {M:Mem} {a:List PV} {Y:List AV} {y:List jz} {u:List lh} {Q:Kl},w.id0<=M.length->PSt w h M->al w a Y->ii w h M y u->RHL tab os js i a M u Q->
  ∃G h2,eH (lim tab) os i Y h y=Jm (G,h2)/\∃S Z T,dr M.length w h M S h2 T/\PSt S h2 T/\al S Z G/\Q Z T
 | os,[],i,w,h,M,a,Y,y,u,Q,h0,s,L,hl,E=>by
  rw[yA]at E
  delta RD at E
  exact tG os i h0 s L hl E
 | [],_::_,i,w,h,M,a,Y,y,u,Q,h0,s,L,hl,E=>E.elim
 | ⟨d,o,Jm (t,a4),chk⟩::os,_::_,i,w,h,M,a,Y,y,u,Q,h0,s,L,hl,E=>E.elim
 | ⟨d,o,Jn,chk⟩::os,j::js,i,w,h,M,a,Y,y,u,Q,h0,s,L,hl,E=>by
  have E:(if i=j then _ else _):=E;by_cases e:i=j
  ·rw[if_pos e]at E;obtain⟨size,len,z,ps,cs,rfl,q1,rfl,q2⟩:=E;obtain⟨K,f1,f2⟩:=mE L ps (jA (cZ w z) len) q1;obtain⟨U,J⟩:=s.alloc (o:= .cells 0 0 cs) (o':= .cells 0 Jo K) (e:=⟨Jm h.next,0,0⟩) rfl fun w' hl he=>⟨_,he,rfl,_,H.ai _ _,f2.mono hl s.env⟩;have hv:az (w.bp M.length ⟨Jm h.next,0,0⟩) (.ref M.length 0 size 0 len) (.slice Jo size h.next 0 len):= .ref (e:=⟨Jm h.next,0,0⟩) (by show(if _=_ then _ else _)=_;rw[if_pos rfl]) rfl rfl;have hc:=u7 s U J (rd0:=[]) (prd:=[]) (chg:=[]) (fun x B=>by cases B) (dq.app M _ _) hl (eff:=AO.effect (.buildSlice size len z ps)) (chk:=[]) (by simp[jj]);have I:ii (w.bp M.length ⟨Jm h.next,0,0⟩) (h.alloc (.cells 0 Jo K)) (M++[.cells 0 0 cs]) (⟨i,rdx h (h.alloc (.cells 0 Jo K)) [],h,h.alloc (.cells 0 Jo K)⟩::y) (⟨i,[],[],M,(M++[cm.cells 0 0 cs]).length⟩::u):=by
    refine .cons ⟨rfl,w,_,_,s,U,J,dr.refl (Ac _) _ _,dq.app M _ _,rfl,fun x B=>?_⟩ (hl.mono J);simp only at B ⊢;unfold rdx at B;split at B
    ·rename_i hlt;rcases List.mem_cons.1 B with rfl | B
     ·exact .inl ⟨rfl,hlt⟩
     ·cases B
    ·cases B
   obtain⟨G,h2,e2,S,Z,T,t3,s3,r3,q3⟩:=vF os js (i+1) (by rw[J.le.id0];exact Aj h0 J.len) U ((L.mono J.le s.env).put d hv) I (by simpa using q2);refine⟨G,h2,?_,S,Z,T,J.trans t3 J.len,s3,r3,q3⟩;simp only[eH,bR,fY,aop,f1];rw[if_pos hc];exact e2
  ·rw[if_neg e]at E
   delta RS at E
   obtain⟨v,h1,rd,e1,w1,p,M1,a0,a1,O,U,hr,V,R,a3,hk⟩:=CH h0 s L o E;have hc:=u7 s U O V R hl a3;have I:ii w1 h1 M1 (⟨i,rdx h h1 rd,h,h1⟩::y) (⟨i,a0,a1,M,M1.length⟩::u):=by
    refine .cons ⟨rfl,w,w1,M1,s,U,O,dr.refl (Ac _) w1 h1,R,rfl,fun x B=>?_⟩ (hl.mono O);simp only at B ⊢;unfold rdx at B;split at B
    ·rename_i hlt;rcases List.mem_cons.1 B with rfl | B
     ·exact .inl ⟨rfl,hlt⟩
     ·exact .inr (V x B)
    ·exact .inr (V x B)
   obtain⟨G,h2,e2,S,Z,T,t1,J,t3,t4⟩:=vF os (j::js) (i+1) (by rw[O.le.id0];exact Aj h0 O.len) U ((L.mono O.le s.env).put d hr) I hk;refine⟨G,h2,?_,S,Z,T,O.trans t1 O.len,J,t3,t4⟩;simp only[eH,bR,e1];rw[if_pos hc];exact e2
def Q3{m:Nat}{a:List PV}{M:Mem}{y E:Kl}{G:Nat->Kl}{os:List aw}(B:List Nat)(h:RHL tab os B 0 a M [] y):bV tab m (.fc os) a M y E G:=by intro w hh U h0 hm s I;rw[FJ];obtain⟨u,h2,J,K,L,O,Q,R,S,T⟩:=vF os B 0 (Aj h0 hm) s I .nil h;unfold WD;exact⟨u,h2,J,K,L,O,Q.weaken hm,R,S,T⟩
end
def GStep.wkO{m:Nat}{a:List PV}{M N:Mem}(id:Nat){g ver:Nat}{cs cs2:List PV}(y:M[id]? =Jm (.cells g ver cs))(hr:∀w u,al w cs u->al w cs2 u)(B:M.set id (.cells g ver cs2)=N):GStep m a M a N:=by subst B;refine⟨fun hm=>by simpa using hm,fun w hh a' h0 hm s E=>?_⟩;obtain⟨G,I⟩:=s.rh y (hr w);exact⟨w,I m hm,G,E⟩
def al.wkL{w:PWd}{l u:List PV}{l':List AV}(h:al w l l')(hl:l.length=u.length)(hw:∀(i:Nat) (x y:PV),l[i]? =Jm x->u[i]? =Jm y->bo x y):al w u l':=
 ⟨by rw[<-hl];exact h.len,fun i y z p q=>by
  obtain⟨x,B⟩:∃x,l[i]? =Jm x:=⟨_,Ad (by rw[hl];exact aI p)⟩;exact hw i x y B p w z (h.get i x z B q)⟩
def al.wkM{w:PWd}{α:Type}{f g:α->PV}(hw:∀x,bo (f x) (g x)){xs:List α}{l':List AV}(h:al w (xs.map f) l'):al w (xs.map g) l':=
 h.wkL (by simp) fun i x y p q=>by
  rw[Av]at p q
  cases B:xs[i]? with
  | none=>rw[B]at p;cases p
  | some u=>rw[B]at p q;cases p;cases q;exact hw u
def al.wkA{w:PWd}{α:Type}{E f2 g:α->PV}(h1:∀x,bo (E x) (g x))(h2:∀x,bo (f2 x) (g x)){B ys:List α}{l':List AV}(h:al w (B.map E++ys.map f2) l'):al w ((B++ys).map g) l':=
 h.wkL (by simp) fun i x y p q=>by
  rw[List.map_append]at q;by_cases G:i<B.length
  ·rw[Bj (by simpa using G),Av,Ad G]at p q;cases p;cases q;exact h1 _
  ·rw[Bx (by simp;omega),Ap,Av]at p q
   cases I:ys[i-B.length]? with
   | none=>rw[I]at p;cases p
   | some u=>rw[I]at p q;cases p;cases q;exact h2 u
attribute [irreducible] RHL KHL
end Go.Am

