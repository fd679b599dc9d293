/- The pure machine: its rules as equations for the simplifier, and what goes with it. -/
import Derived.Test.YtapbgleednkimaaGreatDoorPmS
set_option linter.all false
set_option maxRecDepth 10000
open Classical renaming byContradiction->Bq
open Bool renaming false_eq_true->Bs,and_eq_true->Aq,and_self->Dp,true->Jb,false->Jc
open List renaming replicate->Ag,mem_of_getElem?->Ae,getElem?_take->Bc,getElem?_drop->Bf,getElem?_eq_getElem->Ad,getElem?_set_ne->Bj,getElem?_set_self->Cg,getElem?_append_left->Bh,ext_getElem?->Ea,getElem?_set->Eh,getElem?_map->Ap,map_congr_left->Di,map_map->Dj,getElem?_eq_none->Bi,getElem?_append_right->Bo,length_map->Al
open Nat renaming le_refl->Ac,lt_or_ge->Az,zero_le->Af,le_trans->Ah,lt_of_lt_of_le->Bg,not_lt_zero->Eb,zero_add->Aw,mul_one->Cj,sub_add_cancel->Gn
open And renaming intro->Aa
open Option renaming some->Iz,none->Ja
namespace Go.Am
structure cu {α:Sort _} (k:α):Type where
 n:Nat
structure ls (A B:Prop):Type where
 n:Nat
def qT(v:PV)(k:IntKind->Int->Prop)(t:cu k):Prop:=uK v k
def D2(v:PV)(k:Bool->Prop)(t:cu k):Prop:=KX v k
def F1(v:PV)(k:List PV->Prop)(t:cu k):Prop:=OO v k
def aC8(v:PV)(k:List PV->Prop)(t:cu k):Prop:=aFl v k
def ZOb(o:Option bp)(g:Nat)(k:Nat->List PV->Prop)(t:cu k):Prop:=QOb o g k
def dX{α:Type}(o:Option α)(k:α->Prop)(t:cu k):Prop:=gC o k
def aAT(v:PV)(M:Mem)(k:PV->Prop)(t:cu k):Prop:=aFn v M k
def aDi(size:Nat)(v i:PV)(M:Mem)(k:PV->Prop)(t:cu k):Prop:=aFp size v i M k
def RN(len size:Nat)(v i:PV)(M:Mem)(k:PV->Prop)(t:cu k):Prop:=aBd len size v i M k
def aDk(off:Nat)(v:PV)(M:Mem)(k:PV->Prop)(t:cu k):Prop:=aFq off v M k
def D1(v:PV)(M:Mem)(k:PV->List Nat->Prop)(t:cu k):Prop:=KU v M k
def uH(n:Nat)(v:PV)(M:Mem)(k:PV->List Nat->Prop)(t:cu k):Prop:=A9 n v M k
def N3(n:Nat)(p x:PV)(M:Mem)(k:Mem->List Nat->Prop)(t:cu k):Prop:=OJ n p x M k
def KL(size:Nat)(x:PV)(M:Mem)(k:List PV->Nat->Prop)(t:cu k):Prop:=KR size x M k
def aA2(size bytes:Nat)(s x:PV)(M:Mem)(K:PV->Mem->List Nat->List Nat->Prop)(t:cu K):Prop:=aBf size bytes s x M K
def wC(a:List PV)(x:Option AR)(k:Option Int->Prop)(t:cu k):Prop:=BV a x k
def AX(size:Nat)(v:PV)(l r m:Option Int)(M:Mem)(k:PV->Prop)(t:cu k):Prop:=OK size v l r m M k
def qR(v:PV)(M:Mem)(k:Prop)(t:cu k):Prop:=A8 v M k
def qS(kd:Nat)(x y:PV)(M:Mem)(k:Bool->Prop)(t:cu k):Prop:=KS kd x y M k
def fV(v:PV)(u:Bool)(A B:Prop)(t:ls A B):Prop:=kQ v u A B
def nR(v:PV)(A B:Prop)(t:ls A B):Prop:=KV v A B
def QIf(p A B:Prop)(t:ls A B):Prop:=(p->A)/\(¬p->B)
def QIf.intro{p A B:Prop}{t:ls A B}(h1:p->A)(h2:¬p->B):QIf p A B t:=⟨h1,h2⟩
def aBc(A B:Prop)(t:ls A B):QIf True A B t=A:=by simp[QIf]
def VL(A B:Prop)(t:ls A B):QIf False A B t=B:=by simp[QIf]
def aDr(p A B:Prop)(t:ls A B):QIf (¬p) A B t=QIf p B A ⟨0⟩:=by
 apply propext;constructor
 ·rintro⟨h1,h2⟩;exact⟨fun h=>h2 (fun u=>u h),h1⟩
 ·rintro⟨h1,h2⟩;exact⟨h2,fun h=>h1 (Bq h)⟩
def aAU(b:IntKind)(o:Int)(k:IntKind->Int->Prop)(t:cu k):qT (.int b o) k t=k b o:=by simp[qT,uK,and_assoc]
def OC(b:Bool)(k:Bool->Prop)(t:cu k):D2 (.bool b) k t=k b:=by simp[D2,KX]
def aA3(b:List PV)(k:List PV->Prop)(t:cu k):F1 (.agg b) k t=k b:=by simp[F1,OO]
def N1(b:List PV)(k:List PV->Prop)(t:cu k):aC8 (.tuple b) k t=k b:=by simp[aC8,aFl]
def U1(g ver:Nat)(cs:List PV)(k:Nat->List PV->Prop)(t:cu k):ZOb (Iz (.cells g ver cs)) g k t=k ver cs:=by
 apply propext;constructor
 ·rintro⟨_,_,e,h⟩;cases e;exact h
 ·intro h;exact⟨_,_,rfl,h⟩
def N4{α:Type}(x:α)(k:α->Prop)(t:cu k):dX (Iz x) k t=k x:=by simp[dX,gC]
def U6(M:Mem)(k:PV->Prop)(t:cu k):aAT .aa M k t=k (p64 0):=(rfl)
def aDf(u own:Bool)(sz n:Nat)(cs:List PV)(M:Mem)(k:PV->Prop)(t:cu k):aAT (.sl u own sz n cs) M k t=k (p64 n):=(rfl)
def aAR(id g sz off n:Nat)(M:Mem)(k:PV->Prop)(t:cu k):aAT (.ref id g sz off n) M k t=ZOb M[id]? g (fun _ _=>k (p64 n)) ⟨0⟩:=(rfl)
def aDh(size:Nat)(u own:Bool)(sz n:Nat)(cs:List PV)(i:PV)(M:Mem)(k:PV->Prop)(t:cu k):aDi size (.sl u own sz n cs) i M k t=qT i (fun _ j=>(sz=size/\0<=j/\j<n)/\k (.cp cs (j.toNat*size))) ⟨0⟩:=(rfl)
def aAW(size id g sz off n:Nat)(i:PV)(M:Mem)(k:PV->Prop)(t:cu k):aDi size (.ref id g sz off n) i M k t=ZOb M[id]? g (fun _ _=>qT i (fun _ j=>(sz=size/\0<=j/\j<n)/\k (.ptr id g (off+j.toNat*size))) ⟨0⟩) ⟨0⟩:=(rfl)
def VA(len size id g o:Nat)(i:PV)(M:Mem)(k:PV->Prop)(t:cu k):RN len size (.ptr id g o) i M k t=ZOb M[id]? g (fun _ _=>qT i (fun _ j=>(0<=j/\j<len)/\k (.ptr id g (o+j.toNat*size))) ⟨0⟩) ⟨0⟩:=(rfl)
def aAX(len size:Nat)(cs:List PV)(o:Nat)(i:PV)(M:Mem)(k:PV->Prop)(t:cu k):RN len size (.cp cs o) i M k t=qT i (fun _ j=>(0<=j/\j<len)/\k (.cp cs (o+j.toNat*size))) ⟨0⟩:=(rfl)
def aAY(off id g o:Nat)(M:Mem)(k:PV->Prop)(t:cu k):aDk off (.ptr id g o) M k t=ZOb M[id]? g (fun _ _=>k (.ptr id g (o+off))) ⟨0⟩:=(rfl)
def aDj(off:Nat)(cs:List PV)(o:Nat)(M:Mem)(k:PV->Prop)(t:cu k):aDk off (.cp cs o) M k t=k (.cp cs (o+off)):=(rfl)
def U4(id g o:Nat)(M:Mem)(k:PV->List Nat->Prop)(t:cu k):D1 (.ptr id g o) M k t=ZOb M[id]? g (fun _ cs=>dX cs[o]? (fun x=>k x [id]) ⟨0⟩) ⟨0⟩:=(rfl)
def aAQ(cs:List PV)(o:Nat)(M:Mem)(k:PV->List Nat->Prop)(t:cu k):D1 (.cp cs o) M k t=dX cs[o]? (fun x=>k x []) ⟨0⟩:=(rfl)
def N9(n id g o:Nat)(M:Mem)(k:PV->List Nat->Prop)(t:cu k):uH n (.ptr id g o) M k t=ZOb M[id]? g (fun _ cs=>o+n<=cs.length/\k (.agg (aZ cs o n)) [id]) ⟨0⟩:=(rfl)
def U5(n:Nat)(cs:List PV)(o:Nat)(M:Mem)(k:PV->List Nat->Prop)(t:cu k):uH n (.cp cs o) M k t=(o+n<=cs.length/\k (.agg (aZ cs o n)) []):=(rfl)
def N2(n id g o:Nat)(x:PV)(M:Mem)(k:Mem->List Nat->Prop)(t:cu k):N3 n (.ptr id g o) x M k t=ZOb M[id]? g (fun ver cs=>((cB x).length=n/\o+n<=cs.length/\(cB x).all PV.one=Jb)/\k (M.set id (.cells g (ver+1) (jL cs o (cB x)))) [id]) ⟨0⟩:=(rfl)
def UZ(size:Nat)(M:Mem)(k:List PV->Nat->Prop)(t:cu k):KL size .aa M k t=k [] 0:=(rfl)
def aC9(size:Nat)(u own:Bool)(sz n:Nat)(cs:List PV)(M:Mem)(k:List PV->Nat->Prop)(t:cu k):KL size (.sl u own sz n cs) M k t=(sz=size/\k cs n):=(rfl)
def aAL(size id g sz off n:Nat)(M:Mem)(k:List PV->Nat->Prop)(t:cu k):KL size (.ref id g sz off n) M k t=ZOb M[id]? g (fun _ cs=>(sz=size/\off+n*size<=cs.length)/\k (aZ cs off (n*size)) n) ⟨0⟩:=(rfl)
def aAK(size:Nat)(s:ByteArray)(M:Mem)(k:List PV->Nat->Prop)(t:cu k):KL size (.str s) M k t=(size=1/\k (s.data.toList.map fun b=> .int .u8 b.toNat) s.size):=(rfl)
def VJ(size bytes:Nat)(x:PV)(M:Mem)(K:PV->Mem->List Nat->List Nat->Prop)(t:cu K):aA2 size bytes .aa x M K t=KL size x M (fun new n=>(n*bytes<=140737488355328/\n<=9223372036854775807/\new.all PV.one=Jb)/\K (.ref M.length 0 size 0 n) (M++[.cells 0 0 new]) [] []) ⟨0⟩:=(rfl)
def aDm(size bytes:Nat)(u own:Bool)(sz m:Nat)(cs:List PV)(x:PV)(M:Mem)(K:PV->Mem->List Nat->List Nat->Prop)(t:cu K):aA2 size bytes (.sl u own sz m cs) x M K t=KL size x M (fun new n=>QIf (n=0) (K (.sl u own sz m cs) M [] []) ((u=Jb/\own=Jb/\sz=size/\(m+n)*bytes<=140737488355328/\m+n<=9223372036854775807/\new.all PV.one=Jb)/\K (.ref M.length 0 size 0 (m+n)) (M++[.cells 0 0 (cs++new)]) [] []) ⟨0⟩) ⟨0⟩:=by show aBf size bytes (.sl u own sz m cs) x M K=KR size x M _;unfold aBf;congr 1;funext new n;by_cases h:n=0<;>simp[QIf,h]
def aA1(size bytes id g sz off m:Nat)(x:PV)(M:Mem)(K:PV->Mem->List Nat->List Nat->Prop)(t:cu K):aA2 size bytes (.ref id g sz off m) x M K t=KL size x M (fun new n=>ZOb M[id]? g (fun ver cs=>(sz=size/\off+m*size<=cs.length/\(0<n\/(off=0/\m*size=cs.length))/\(m+n)*bytes<=140737488355328/\m+n<=9223372036854775807/\new.all PV.one=Jb)/\K (.ref id (g+1) size 0 (m+n)) (M.set id (.cells (g+1) 0 (aZ cs off (m*size)++new))) [] [id]) ⟨0⟩) ⟨0⟩:=(rfl)
def VH(a:List PV)(k:Option Int->Prop)(t:cu k):wC a Ja k t=k Ja:=(rfl)
def VG(a:List PV)(x:AR)(k:Option Int->Prop)(t:cu k):wC a (Iz x) k t=qT (pev a x) (fun _ n=>k (Iz n)) ⟨0⟩:=(rfl)
def KM(size:Nat)(l r m:Option Int)(M:Mem)(k:PV->Prop)(t:cu k):AX size .aa l r m M k t=((l.getD 0=0/\r.getD 0=0/\(m=Ja\/m=r))/\k .aa):=(rfl)
def U0(size:Nat)(u own:Bool)(sz n:Nat)(cs:List PV)(l r m:Option Int)(M:Mem)(k:PV->Prop)(t:cu k):AX size (.sl u own sz n cs) l r m M k t=((sz=size/\(m=Ja\/m=r)/\0<=l.getD 0/\l.getD 0<=r.getD n/\r.getD n<=n)/\k (.sl (if own=Jb then(if r.isSome=Jb then Jc else u)else u) own sz (r.getD n-l.getD 0).toNat (aZ cs ((l.getD 0).toNat*size) ((r.getD n-l.getD 0).toNat*size)))):=(rfl)
def N5(size id g sz off n:Nat)(l r m:Option Int)(M:Mem)(k:PV->Prop)(t:cu k):AX size (.ref id g sz off n) l r m M k t=ZOb M[id]? g (fun _ _=>(sz=size/\(m=Ja\/m=r)/\0<=l.getD 0/\l.getD 0<=r.getD n/\r.getD n<=n)/\k (.ref id g sz (off+(l.getD 0).toNat*size) (r.getD n-l.getD 0).toNat)) ⟨0⟩:=(rfl)
def N6(id g o:Nat)(M:Mem)(k:Prop)(t:cu k):qR (.ptr id g o) M k t=ZOb M[id]? g (fun _ _=>k) ⟨0⟩:=(rfl)
def KN(f:FuncId)(l c:List PV)(M:Mem)(k:Prop)(t:cu k):qR (.func (.func f) l c) M k t=k:=by simp[qR,A8,yK]
def U2(cs:List PV)(o:Nat)(M:Mem)(k:Prop)(t:cu k):qR (.cp cs o) M k t=k:=by simp[qR,A8,yK]
def aDa(M:Mem)(k:Bool->Prop)(t:cu k):qS 0 .aa .aa M k t=k Jb:=(rfl)
def aDb(u own:Bool)(sz n:Nat)(cs:List PV)(M:Mem)(k:Bool->Prop)(t:cu k):qS 0 (.sl u own sz n cs) .aa M k t=QIf (n=0) (k Jb/\k Jc) (k Jc) ⟨0⟩:=by by_cases h:n=0<;>simp[qS,KS,QIf,h]
def aAN(id g sz off n:Nat)(M:Mem)(k:Bool->Prop)(t:cu k):qS 0 (.ref id g sz off n) .aa M k t=ZOb M[id]? g (fun _ _=>QIf (n=0) (k Jb/\k Jc) (k Jc) ⟨0⟩) ⟨0⟩:=by by_cases h:n=0<;>simp[qS,KS,ZOb,QIf,h]
def VB(A B:Prop)(t:ls A B):fV (.bool Jb) Jb A B t=A:=by simp[fV,kQ]
def VE(A B:Prop)(t:ls A B):fV (.bool Jc) Jc A B t=A:=by simp[fV,kQ]
def VC(A B:Prop)(t:ls A B):fV (.bool Jb) Jc A B t=B:=by simp[fV,kQ]
def VD(A B:Prop)(t:ls A B):fV (.bool Jc) Jb A B t=B:=by simp[fV,kQ]
def FY(l:List PV)(u:Bool)(A B:Prop)(t:ls A B):fV (.tuple l) u A B t=B:=by simp[fV,kQ]
def FZ(p:Prop) [Decidable p](A B:Prop)(t:ls A B):fV (.bool (decide p)) Jb A B t=QIf p A B ⟨0⟩:=by by_cases u:p<;>simp[fV,kQ,u,QIf]
def F0(p:Prop) [Decidable p](A B:Prop)(t:ls A B):fV (.bool (decide p)) Jc A B t=QIf p B A ⟨0⟩:=by by_cases u:p<;>simp[fV,kQ,u,QIf]
def OA(A B:Prop)(t:ls A B):nR (.bool Jb) A B t=A:=by simp[nR,KV]
def KP(A B:Prop)(t:ls A B):nR (.bool Jc) A B t=B:=by simp[nR,KV]
def VF(p:Prop) [Decidable p](A B:Prop)(t:ls A B):nR (.bool (decide p)) A B t=QIf p A B ⟨0⟩:=by by_cases u:p<;>simp[nR,KV,u,QIf]
def OB(p:Prop) [Decidable p](x y:PV)(A B:Prop)(t:ls A B):nR (C1 (decide p) x y) A B t=QIf p (nR x A B ⟨0⟩) (nR y A B ⟨0⟩) ⟨0⟩:=by by_cases u:p<;>simp[QIf,C1,u,nR]
def L5(x y:PV):C1 Jb x y=x:=(rfl)
def H8(x y:PV):C1 Jc x y=y:=(rfl)
section
variable (tab:FuncId->Option AF) (m:Nat)
def RX:=PX tab m
def RO:=PO tab
def RD:=PD tab
def RS:=PS tab
def aBr(y:AC)(u B:List PV->Mem->Prop)(E:Nat->List PV->Mem->Prop)(a:List PV)(M:Mem):Prop:=RX tab m y a M u B E
def GA(u:List Nat)(x:AC)(y B:List PV->Mem->Prop)(E:Nat->List PV->Mem->Prop)(a:List PV)(M:Mem):Prop:=b9 tab m (.loop u x) a M y B E
def K4(id:Nat)(u:List PV->Mem->Prop)(y:Nat->List PV->Mem->Prop)(i:Nat)(a:List PV)(M:Mem):Prop:=if i=id then u a M else y i a M
def RY(d:Option Nat)(os:List aw)(a:List PV)(Q:List PV->Mem->Prop)(v:PV)(M:Mem)(rd u:List Nat):Prop:=RO tab os (gi a d v) M Q
def F9(d:Option Nat)(B:Bool)(chk:List Nat)(os:List aw)(i:Nat)(a:List PV)(M:Mem)(u:List ke)(Q:List PV->Mem->Prop)(v:PV)(E:Mem)(rd y:List Nat):Prop:=
 jd B rd y M u chk=Jb/\RD tab os (i+1) (gi a d v) E (⟨i,rd,y,M,E.length⟩::u) Q
section
variable (a:List PV) (M:Mem) (Qn Qr:List PV->Mem->Prop) (Qe:Nat->List PV->Mem->Prop)
def aDt:RX tab m .skip a M Qn Qr Qe=Qn a M:=(rfl)
def aFt:RX tab m .ret a M Qn Qr Qe=Qr a M:=(rfl)
def aDv(i:Nat):RX tab m (.exit i) a M Qn Qr Qe=Qe i a M:=(rfl)
def VM(os:List aw):RX tab m (.region os) a M Qn Qr Qe=RO tab os a M Qn:=(rfl)
def OP(os:List aw):RX tab m (.fe os) a M Qn Qr Qe=RD tab os 0 a M [] Qn:=(rfl)
def aFs(x y:AC):RX tab m (.seq x y) a M Qn Qr Qe=RX tab m x a M (aBr tab m y Qn Qr Qe) Qr Qe:=(rfl)
def aDw(c:AR)(x y:AC):RX tab m (.cond c x y) a M Qn Qr Qe=nR (pev a c) (RX tab m x a M Qn Qr Qe) (RX tab m y a M Qn Qr Qe) ⟨0⟩:=(rfl)
def aBh(id:Nat)(x:AC):RX tab m (.block id x) a M Qn Qr Qe=RX tab m x a M Qn Qr (K4 id Qn Qe):=(rfl)
def aDu(u:List Nat)(x:AC):RX tab m (.loop u x) a M Qn Qr Qe=b9 tab m (.loop u x) a M Qn Qr Qe:=(rfl)
def aBg(f:AR)(y:List Nat)(u body:AC):RX tab m (.rangeFunc f y u body) a M Qn Qr Qe=b9 tab m (.rangeFunc f y u body) a M Qn Qr Qe:=(rfl)
def aBq(y:AC):aBr tab m y Qn Qr Qe a M=RX tab m y a M Qn Qr Qe:=(rfl)
def V0(u:List Nat)(x:AC):GA tab m u x Qn Qr Qe a M=b9 tab m (.loop u x) a M Qn Qr Qe:=(rfl)
def aBu(id i:Nat):K4 id Qn Qe i a M=if i=id then Qn a M else Qe i a M:=(rfl)
end
section
variable (a:List PV) (M:Mem) (Q:List PV->Mem->Prop)
def aFA:RO tab [] a M Q=Q a M:=(rfl)
def aDD(d:Option Nat)(o:AO)(chk:List Nat)(os:List aw):RO tab (⟨d,o,Ja,chk⟩::os) a M Q=RS tab o a M (RY tab d os a Q):=(rfl)
def aDC(d:Option Nat)(o:AO)(t:Nat)(u:Bool)(chk:List Nat)(os:List aw):RO tab (⟨d,o,Iz (t,u),chk⟩::os) a M Q=fV (bu a t) u (RS tab o a M (RY tab d os a Q)) (RO tab os (gi a d (.tuple [])) M Q) ⟨0⟩:=(rfl)
def aFB(i:Nat)(u:List ke):RD tab [] i a M u Q=Q a M:=(rfl)
def aDF(d:Option Nat)(o:AO)(chk:List Nat)(os:List aw)(i:Nat)(u:List ke):RD tab (⟨d,o,Ja,chk⟩::os) i a M u Q=RS tab o a M (F9 tab d o.effect chk os i a M u Q):=(rfl)
def aDE(d:Option Nat)(o:AO)(t:Nat)(u:Bool)(chk:List Nat)(os:List aw)(i:Nat)(y:List ke):RD tab (⟨d,o,Iz (t,u),chk⟩::os) i a M y Q=fV (bu a t) u (RS tab o a M (F9 tab d o.effect chk os i a M y Q)) (RD tab os (i+1) (gi a d (.tuple [])) M y Q) ⟨0⟩:=(rfl)
def aBt(d:Option Nat)(os:List aw)(v:PV)(rd u:List Nat):RY tab d os a Q v M rd u=RO tab os (gi a d v) M Q:=(rfl)
def VY(d:Option Nat)(B:Bool)(chk:List Nat)(os:List aw)(i:Nat)(u:List ke)(v:PV)(E:Mem)(rd y:List Nat):
  F9 tab d B chk os i a M u Q v E rd y=(jd B rd y M u chk=Jb/\RD tab os (i+1) (gi a d v) E (⟨i,rd,y,M,E.length⟩::u) Q):=(rfl)
end
section
variable (a:List PV) (M:Mem) (K:PV->Mem->List Nat->List Nat->Prop)
def aDy(x:AR):RS tab (.move x) a M K=K (pev a x) M [] []:=(rfl)
def aDx(c x y:AR):RS tab (.pick c x y) a M K=D2 (pev a c) (fun b=>K (C1 b (pev a x) (pev a y)) M [] []) ⟨0⟩:=(rfl)
def aBp(cs:List AV):RS tab (.alloc cs) a M K=K (.ptr M.length 0 0) (M++[.cells 0 0 (cs.map ay)]) [] []:=(rfl)
def aFy(x:AR):RS tab (.box x) a M K=((cB (pev a x)).all PV.one=Jb/\K (.ptr M.length 0 0) (M++[.cells 0 0 (cB (pev a x))]) [] []):=(rfl)
def aBo(z:List AV)(u:List (Nat×Nat×AR)):RS tab (.build z u) a M K=dX (dq a (z.map ay) u) (fun cs=>K (.agg cs) M [] []) ⟨0⟩:=(rfl)
def B0(size len:Nat)(z:List AV)(u:List (Nat×Nat×AR)):RS tab (.buildSlice size len z u) a M K=((z.length=size/\0<size)/\dX (dq a (cG len (z.map ay)) u) (fun cs=>K (.sl Jb Jb size len cs) M [] []) ⟨0⟩):=(rfl)
def aDz(x:AR):RS tab (.load x) a M K=D1 (pev a x) M (fun v rd=>K v M rd []) ⟨0⟩:=(rfl)
def OU(n:Nat)(x:AR):RS tab (.ew n x) a M K=uH n (pev a x) M (fun v rd=>K v M rd []) ⟨0⟩:=(rfl)
def aBi(n:Nat)(p x:AR):RS tab (.store n p x) a M K=N3 n (pev a p) (pev a x) M (fun y u=>K (.tuple []) y [] u) ⟨0⟩:=(rfl)
def K1(x:AR):RS tab (.nilCheck x) a M K=qR (pev a x) M (K (pev a x) M [] []) ⟨0⟩:=(rfl)
def aFz(op:BinOp)(x y:AR):RS tab (.bin op x y) a M K=dX (bL op (pev a x) (pev a y)) (fun v=>K v M [] []) ⟨0⟩:=(rfl)
def aFx(neg:Bool)(x y:AR):RS tab (.eqB neg x y) a M K=D2 (pev a x) (fun p=>D2 (pev a y) (fun q=>K (.bool (if neg=Jb then !(p==q)else p==q)) M [] []) ⟨0⟩) ⟨0⟩:=(rfl)
def aBl(kd:Nat)(neg:Bool)(x y:AR):RS tab (.isNil kd neg x y) a M K=qS kd (pev a x) (pev a y) M (fun b=>K (.bool (if neg=Jb then !b else b)) M [] []) ⟨0⟩:=(rfl)
def OW(neg:Bool)(T:List (Option IntKind))(x y:AR):RS tab (.dz neg T x y) a M K=F1 (pev a x) (fun p=>F1 (pev a y) (fun q=>dX (oD T p q) (fun b=>K (.bool (if neg=Jb then !b else b)) M [] []) ⟨0⟩) ⟨0⟩) ⟨0⟩:=(rfl)
def aGj(op:UnOp)(x:AR):RS tab (.un op x) a M K=dX (pun op (pev a x)) (fun v=>K v M [] []) ⟨0⟩:=(rfl)
def OX(k:IntKind)(x:AR):RS tab (.dt k x) a M K=qT (pev a x) (fun _ n=>K (.int k (k.wrap n)) M [] []) ⟨0⟩:=(rfl)
def VO(g:FuncId)(f c:List AR):RS tab (.iv (.func g) f c) a M K=K (.func (.func g) (f.map (pev a)) (c.map (pev a))) M [] []:=by simp[RS,PS]
def F6(bytes:Nat)(z:List AV)(n c:AR):RS tab (.makeSlice bytes z n c) a M K=qT (pev a n) (fun u l=>qT (pev a c) (fun kw m=>(u= .i64/\kw= .i64/\0<=l/\l<=m/\m*bytes<=140737488355328/\m<=9223372036854775807)/\K (.ref M.length 0 z.length 0 l.toNat) (M++[.cells 0 0 (cG l.toNat (z.map ay))]) [] []) ⟨0⟩) ⟨0⟩:=(rfl)
def aBj(size:Nat)(x:AR)(u y B:Option AR):RS tab (.slice size x u y B) a M K=wC a u (fun l=>wC a y (fun r=>wC a B (fun m=>AX size (pev a x) l r m M (fun v=>K v M [] []) ⟨0⟩) ⟨0⟩) ⟨0⟩) ⟨0⟩:=(rfl)
def F8(off:Nat)(x:AR):RS tab (.fieldAddr off x) a M K=aDk off (pev a x) M (fun v=>K v M [] []) ⟨0⟩:=(rfl)
def aBn(off:Nat)(x:AR):RS tab (.field off Ja x) a M K=F1 (pev a x) (fun cs=>dX cs[off]? (fun v=>K v M [] []) ⟨0⟩) ⟨0⟩:=(rfl)
def VU(off n:Nat)(x:AR):RS tab (.field off (Iz n) x) a M K=F1 (pev a x) (fun cs=>off+n<=cs.length/\K (.agg (aZ cs off n)) M [] []) ⟨0⟩:=(rfl)
def F7(size:Nat)(x i:AR):RS tab (.indexAddr size x i) a M K=aDi size (pev a x) (pev a i) M (fun v=>K v M [] []) ⟨0⟩:=(rfl)
def BX(len size:Nat)(x i:AR):RS tab (.bj len size x i) a M K=RN len size (pev a x) (pev a i) M (fun v=>K v M [] []) ⟨0⟩:=(rfl)
def aBm(len size:Nat)(x i:AR):RS tab (.index len size Jc x i) a M K=F1 (pev a x) (fun cs=>qT (pev a i) (fun _ j=>(0<=j/\j<len)/\dX cs[j.toNat*size]? (fun v=>K v M [] []) ⟨0⟩) ⟨0⟩) ⟨0⟩:=by simp only[RS,PS,Bs,if_false,if_true];rfl
def VT(len size:Nat)(x i:AR):RS tab (.index len size Jb x i) a M K=F1 (pev a x) (fun cs=>qT (pev a i) (fun _ j=>(0<=j/\j<len)/\j.toNat*size+size<=cs.length/\K (.agg (aZ cs (j.toNat*size) size)) M [] []) ⟨0⟩) ⟨0⟩:=by simp only[RS,PS,Bs,if_false,if_true];rfl
def OV(x:AR)(i:Nat):RS tab (.extract x i) a M K=aC8 (pev a x) (fun u=>dX u[i]? (fun v=>K v M [] []) ⟨0⟩) ⟨0⟩:=(rfl)
def aDA(f:AR)(args:List AR):RS tab (.call f args) a M K=BA tab (pev a f) (args.map (pev a)) M (KPC M K):=(rfl)
def VV(size bytes:Nat)(s x:AR):RS tab (.append size bytes s x) a M K=(0<size/\aA2 size bytes (pev a s) (pev a x) M K ⟨0⟩):=(rfl)
def aFw(x:AR):RS tab (.len x) a M K=aAT (pev a x) M (fun v=>K v M [] []) ⟨0⟩:=(rfl)
def aFv(x:AR)(u:List AR):RS tab (.max x u) a M K=dX (IE (pev a x) (u.map (pev a))) (fun v=>K v M [] []) ⟨0⟩:=(rfl)
def aFu(x:AR)(u:List AR):RS tab (.min x u) a M K=dX (yL (pev a x) (u.map (pev a))) (fun v=>K v M [] []) ⟨0⟩:=(rfl)
end
def ON(g:FuncId)(first u args:List PV)(M:Mem)(K:PV->Mem->Prop):BA tab (.func (.func g) first u) args M K=ai tab g (first++args++u) M K:=(rfl)
def aFE(M:Mem)(K:PV->Mem->List Nat->List Nat->Prop)(v:PV)(u:Mem):KPC M K v u=K v u [] (RA M u):=(rfl)
end
def jY:∀(i:Nat) (M:Mem),bW i M M=[]
 | _,[]=>rfl
 | i,o::M=>by simp[bW,iN,jY (i+1) M]
def vO:∀(i:Nat) (M l:Mem),bW i M (M++l)=[]
 | _,[],_=>by simp[bW]
 | i,o::M,l=>by simp[bW,iN,vO (i+1) M l]
def aAe(M u:Mem):RA M u=bW 0 M u:=(rfl)
def KB(i:Nat)(M:Mem):bW i [] M=[]:=by simp[bW]
def AB(i:Nat)(o:bp)(M u:Mem):bW i (o::M) (o::u)=bW (i+1) M u:=by simp[bW,iN]
def pU(i g u v y:Nat)(cs B:List PV)(M E:Mem):bW i (.cells g v cs::M) (.cells u y B::E)=if g=u/\v=y then bW (i+1) M E else i::bW (i+1) M E:=by by_cases h:g=u/\v=y<;>simp[bW,lR,h]
def XS(u:Bool)(rd y:List Nat)(M:Mem)(B:List ke):jd u rd y M B []=Jb:=by simp[jd]
section
variable (k:IntKind) (x y:Int)
def X5:bL .add (.int k x) (.int k y)=Iz (.int k (k.wrap (x+y))):=by simp[bL,bQ,aAI,ay]
def XT:bL .sub (.int k x) (.int k y)=Iz (.int k (k.wrap (x-y))):=by simp[bL,bQ,aAA,ay]
def XW:bL .mul (.int k x) (.int k y)=Iz (.int k (k.wrap (x*y))):=by simp[bL,bQ,aAC,ay]
def X4:bL .eql (.int k x) (.int k y)=Iz (.bool (decide (x=y))):=by simp[bL,bQ,aAH,ay]
def XV:bL .neq (.int k x) (.int k y)=Iz (.bool (decide (x≠y))):=by simp[bL,bQ,aAB,ay]
def XX:bL .lss (.int k x) (.int k y)=Iz (.bool (decide (x<y))):=by simp[bL,bQ,aAD,ay]
def XY:bL .leq (.int k x) (.int k y)=Iz (.bool (decide (x<=y))):=by simp[bL,bQ,aAE,ay]
def XZ:bL .gtr (.int k x) (.int k y)=Iz (.bool (decide (y<x))):=by simp[bL,bQ,aAF,ay]
def X3:bL .geq (.int k x) (.int k y)=Iz (.bool (decide (y<=x))):=by simp[bL,bQ,aAG,ay]
def oE(u:y≠0):bL .quo (.int k x) (.int k y)=Iz (.int k (k.wrap (x.tdiv y))):=by simp[bL,bQ,eY,bR,dH,u,ay]
def TH:IE (.int k x) [.int k y]=Iz (.int k (max x y)):=by have:=YU k x y;simp only[aEL]at this;simp[IE,bQ,fI,this,ay]
end
def aBW(b:Bool):pun .not (.bool b)=Iz (.bool (!b)):=(rfl)
def aBX(k:IntKind)(x:Int):pun .neg (.int k x)=Iz (.int k (k.wrap (0-x))):=by simp[pun,bQ,aun,ay]
def C0(n:Nat)(c:PV):cG n [c]=Ag n c:=by
 induction n with
 | zero=>rfl
 | succ n u=>simp[cG,u,List.replicate_succ]
def TF(cs:List PV)(o:Nat)(x:PV):jL cs o [x]=cs.set o x:=(rfl)
def aK(cs:List PV)(n:Nat)(h:n=cs.length):aZ cs 0 n=cs:=by subst h;simp[aZ]
def S6(cs:List PV):aZ cs 0 cs.length=cs:=by simp[aZ]
def L7(cs:List PV)(o:Nat)(x y:PV)(l:List PV):jL cs o (x::y::l)=cs.take o++(x::y::l)++cs.drop (o+(x::y::l).length):=(rfl)
def aB0(x:PV)(cs:List PV)(n:Nat):aZ (x::cs) 0 (n+1)=x::aZ cs 0 n:=by simp[aZ]
def aBY(cs:List PV)(o:Nat):aZ cs o 0=[]:=by simp[aZ]
def aBZ(x:PV)(cs:List PV)(o n:Nat):aZ (x::cs) (o+1) n=aZ cs o n:=by simp[aZ]
def XA(o n:Nat):aZ [] o n=[]:=by simp[aZ]
def MO(k:IntKind)(n:Int):cB (.int k n)=[.int k n]:=(rfl)
def IK(b:Bool):cB (.bool b)=[.bool b]:=(rfl)
def II:cB .aa=[.aa]:=(rfl)
def TU(u own:Bool)(sz n:Nat)(cs:List PV):cB (.sl u own sz n cs)=[.sl u own sz n cs]:=(rfl)
def MJ(id g sz off n:Nat):cB (.ref id g sz off n)=[.ref id g sz off n]:=(rfl)
def ML(id g o:Nat):cB (.ptr id g o)=[.ptr id g o]:=(rfl)
def IJ(fn:Go.Fn)(f c:List PV):cB (.func fn f c)=[.func fn f c]:=(rfl)
def MP(cs:List PV):cB (.agg cs)=cs:=(rfl)
def aCb(k:IntKind)(n:Int):PV.one (.int k n)=Jb:=(rfl)
def YB(b:Bool):PV.one (.bool b)=Jb:=(rfl)
def X9:PV.one .aa=Jb:=(rfl)
def MS:PV.one .al=Jb:=(rfl)
def IO:PV.one .aq=Jb:=(rfl)
def aEz(u own:Bool)(sz n:Nat)(cs:List PV):PV.one (.sl u own sz n cs)=Jb:=(rfl)
def aB8(id g sz off n:Nat):PV.one (.ref id g sz off n)=Jb:=(rfl)
def aB9(id g o:Nat):PV.one (.ptr id g o)=Jb:=(rfl)
def YA(fn:Go.Fn)(f c:List PV):PV.one (.func fn f c)=Jb:=(rfl)
def sN(k:IntKind)(u:List Int):(u.map (PV.int k)).all PV.one=Jb:=by simp[PV.one]
def KQ{u:FuncId->Option AF}(m:Nat)(c:AC){a:List PV}{M:Mem}{y B:List PV->Mem->Prop}{E:Nat->List PV->Mem->Prop}(G:RX u m c a M y B E):b9 u m c a M y B E:=KY m c G
def D4{u:FuncId->Option AF}{m:Nat}{y:List Nat}{x:AC}{a:List PV}{M:Mem}{G B:List PV->Mem->Prop}{E:Nat->List PV->Mem->Prop}(I:RX u m x (qA a y) M (GA u m y x G B E) B E):
  b9 u m (.loop y x) a M G B E:=OE I
def dl:List PV->List PV->Prop
 | [],[]=>True
 | x::a,y::b=>(y= .ae\/x=y)/\dl a b
 | _,_=>False
def dl.rep{w:PWd} :∀{a b:List PV} {u:List AV},dl a b->ak w a u->ak w b u
 | [],[],u,_,h=>h
 | x::a,y::b,[],_,h=>by have:=h.len;simp at this
 | x::a,y::b,v::u,⟨h1,h2⟩,h=>by
  refine .cons ?_ (dl.rep h2 h.tl);rcases h1 with rfl | rfl
  ·exact .ae _
  ·exact h.hd
 | [],_::_,u,hw,h=>hw.elim
 | _::_,[],u,hw,h=>hw.elim
def aE{u:FuncId->Option AF}{m:Nat}{c:AC}{a b:List PV}{M:Mem}{y B:List PV->Mem->Prop}{E:Nat->List PV->Mem->Prop}(h:b9 u m c b M y B E)(hw:dl a b:=by simp only[PW]):b9 u m c a M y B E:=
 fun w hh G h0 hm s I=>h w hh G h0 hm s (hw.rep I)
def VN:dl [] []=True:=(rfl)
def OS(x:PV)(a b:List PV):dl (x::a) (.ae::b)=dl a b:=by simp[dl]
def OQ(x:PV)(a b:List PV):dl (x::a) (x::b)=dl a b:=by simp[dl]
def M7:Nat->List Nat->List PV->Bool
 | _,[],_=>Jb
 | _,_::_,[]=>Jc
 | i,s::u,v::b=>match Nat.beq i s with
  | true=>match v with
   | .ae=>M7 (i+1) u b
   | _=>Jc
  | false=>M7 (i+1) (s::u) b
def yJ:∀(a:List PV) (t:Nat),bu a t= .ae->di a t .ae=a
 | [],_,_=>rfl
 | v::a,0,h=>by simp only[bu]at h;simp[di,h]
 | v::a,t+1,h=>by simp only[bu]at h;simp[di,yJ a t h]
def r9:∀(b:List PV) (i:Nat) (u:List Nat),M7 i u b=Jb->∀s∈u,i<=s/\bu b (s-i)= .ae
 | b,i,[],_,s,hs=>by cases hs
 | [],i,y::u,h,s,hs=>by simp[M7]at h
 | v::b,i,y::u,h,s,hs=>by
  unfold M7 at h;split at h
  ·rename_i he;have he:i=y:=Nat.eq_of_beq_eq_true he;split at h
   ·rcases List.mem_cons.1 hs with rfl | hs
    ·subst he;exact⟨Ac _,by simp[bu]⟩
    ·obtain⟨h1,h2⟩:=r9 b (i+1) u h s hs;refine⟨by omega,?_⟩;rw[show s-i=(s-(i+1))+1 by omega];simpa [bu]using h2
   ·cases h
  ·obtain⟨h1,h2⟩:=r9 b (i+1) (y::u) h s hs;refine⟨by omega,?_⟩;rw[show s-i=(s-(i+1))+1 by omega];simpa [bu]using h2
def oB:∀(u:List Nat) (b:List PV),(∀s∈u,bu b s= .ae)->qA b u=b
 | [],b,_=>rfl
 | s::u,b,h=>by simp only[qA];rw[yJ b s (h s (by simp))];exact oB u b fun t ht=>h t (List.mem_cons_of_mem _ ht)
def aH{u:FuncId->Option AF}{m:Nat}{y:List Nat}{x:AC}{a:List PV}{M:Mem}{G B:List PV->Mem->Prop}{E:Nat->List PV->Mem->Prop}(I:M7 0 y a=Jb)(J:RX u m x a M (GA u m y x G B E) B E):
  b9 u m (.loop y x) a M G B E:=by
 refine D4 ?_;rw[oB y a fun s hs=>by simpa using (r9 a 0 y I s hs).2];exact J
def cM{G:Type}{y:FuncId->Option AF}{m:Nat}{L:List Nat}{x:AC}{a:List PV}{M:Mem}{O Q:List PV->Mem->Prop}{R:Nat->List PV->Mem->Prop}(I:G->Prop)(S:G->List PV)(B:G->Mem)(E:G->Nat)
  (K:G) (h0:I K)
  (step:∀(u:G),I u->(∀(J:G),I J->E J<E u->b9 y m (.loop L x) (S J) (B J) O Q R)->b9 y m (.loop L x) (S u) (B u) O Q R) (hw:dl a (S K):=by simp only[PW]) (U:M=B K:=by rfl):b9 y m (.loop L x) a M O Q R:=by
 subst U;refine aE ?_ hw;have T:∀(k:Nat) (u:G),E u<k->I u->b9 y m (.loop L x) (S u) (B u) O Q R:=by
  intro k
  induction k with
  | zero=>intro u h;omega
  | succ k V=>intro u h Y;exact step u Y fun J Z hm=>V J (by omega) Z
 exact T (E K+1) K (by omega) h0
def cL{y:Type}{B:Type}{E:FuncId->Option AF}{m:Nat}{T:List Nat}{x:AC}{a:List PV}{M:Mem}{U V:List PV->Mem->Prop}{Y:Nat->List PV->Mem->Prop}(I:y->B->Prop)(L:y->B->List PV)(u:y->B->Mem)(G:y->B->Nat)
  (O:y) (Q:B) (h0:I O Q)
  (step:∀(R:y) (S:B),I R S->(∀(J:y) (K:B),I J K->G J K<G R S->b9 E m (.loop T x) (L J K) (u J K) U V Y)->b9 E m (.loop T x) (L R S) (u R S) U V Y) (hw:dl a (L O Q):=by simp only[PW]) (Z:M=u O Q:=by rfl):b9 E m (.loop T x) a M U V Y:=
 cM (fun p:y×B=>I p.1 p.2) (fun p=>L p.1 p.2) (fun p=>u p.1 p.2) (fun p=>G p.1 p.2) (O,Q) h0 (fun p h ih=>step p.1 p.2 h fun J K h' hm=>ih (J,K) h' hm) hw Z
def jE{y:Type}{B:Type}{E:Type}{G:FuncId->Option AF}{m:Nat}{Z:List Nat}{x:AC}{a:List PV}{M:Mem}{Qn Qr:List PV->Mem->Prop}{Qe:Nat->List PV->Mem->Prop}(I:y->B->E->Prop)(Q:y->B->E->List PV)(u:y->B->E->Mem)(J:y->B->E->Nat)
  (R:y) (S:B) (T:E) (h0:I R S T)
  (step:∀(U:y) (V:B) (Y:E),I U V Y->(∀(K:y) (L:B) (O:E),I K L O->J K L O<J U V Y->b9 G m (.loop Z x) (Q K L O) (u K L O) Qn Qr Qe)->b9 G m (.loop Z x) (Q U V Y) (u U V Y) Qn Qr Qe) (hw:dl a (Q R S T):=by simp only[PW]) (hM:M=u R S T:=by rfl):b9 G m (.loop Z x) a M Qn Qr Qe:=
 cM (fun p:y×B×E=>I p.1 p.2.1 p.2.2) (fun p=>Q p.1 p.2.1 p.2.2) (fun p=>u p.1 p.2.1 p.2.2) (fun p=>J p.1 p.2.1 p.2.2) (R,S,T) h0 (fun p h ih=>step p.1 p.2.1 p.2.2 h fun K L O h' hm=>ih (K,L,O) h' hm) hw hM
def vC{y:Type}{B:Type}{E:Type}{G:Type}{J:FuncId->Option AF}{m:Nat}{sc:List Nat}{x:AC}{a:List PV}{M:Mem}{Qn Qr:List PV->Mem->Prop}{Qe:Nat->List PV->Mem->Prop}(I:y->B->E->G->Prop)(S:y->B->E->G->List PV)(u:y->B->E->G->Mem)(K:y->B->E->G->Nat)
  (T:y) (U:B) (V:E) (Y:G) (h0:I T U V Y)
  (step:∀(Z:y) (x2:B) (x3:E) (x4:G),I Z x2 x3 x4->(∀(L:y) (O:B) (Q:E) (R:G),I L O Q R->K L O Q R<K Z x2 x3 x4->b9 J m (.loop sc x) (S L O Q R) (u L O Q R) Qn Qr Qe)->b9 J m (.loop sc x) (S Z x2 x3 x4) (u Z x2 x3 x4) Qn Qr Qe) (hw:dl a (S T U V Y):=by simp only[PW]) (hM:M=u T U V Y:=by rfl):b9 J m (.loop sc x) a M Qn Qr Qe:=
 cM (fun p:y×B×E×G=>I p.1 p.2.1 p.2.2.1 p.2.2.2) (fun p=>S p.1 p.2.1 p.2.2.1 p.2.2.2) (fun p=>u p.1 p.2.1 p.2.2.1 p.2.2.2) (fun p=>K p.1 p.2.1 p.2.2.1 p.2.2.2) (T,U,V,Y) h0 (fun p h ih=>step p.1 p.2.1 p.2.2.1 p.2.2.2 h fun L O Q R h' hm=>ih (L,O,Q,R) h' hm) hw hM
def Y2{y:Type}{B:Type}{E:Type}{G:Type}{J:Type}{K:FuncId->Option AF}{m:Nat}{sc:List Nat}{x:AC}{a:List PV}{M:Mem}{Qn Qr:List PV->Mem->Prop}{Qe:Nat->List PV->Mem->Prop}(I:y->B->E->G->J->Prop)(U:y->B->E->G->J->List PV)(u:y->B->E->G->J->Mem)(L:y->B->E->G->J->Nat)
  (V:y) (Y:B) (Z:E) (z4:G) (z5:J) (h0:I V Y Z z4 z5)
  (step:∀(x1:y) (x2:B) (x3:E) (x4:G) (x5:J),I x1 x2 x3 x4 x5->(∀(O:y) (Q:B) (R:E) (S:G) (T:J),I O Q R S T->L O Q R S T<L x1 x2 x3 x4 x5->b9 K m (.loop sc x) (U O Q R S T) (u O Q R S T) Qn Qr Qe)->b9 K m (.loop sc x) (U x1 x2 x3 x4 x5) (u x1 x2 x3 x4 x5) Qn Qr Qe) (hw:dl a (U V Y Z z4 z5):=by simp only[PW]) (hM:M=u V Y Z z4 z5:=by rfl):b9 K m (.loop sc x) a M Qn Qr Qe:=
 cM (fun p:y×B×E×G×J=>I p.1 p.2.1 p.2.2.1 p.2.2.2.1 p.2.2.2.2) (fun p=>U p.1 p.2.1 p.2.2.1 p.2.2.2.1 p.2.2.2.2) (fun p=>u p.1 p.2.1 p.2.2.1 p.2.2.2.1 p.2.2.2.2) (fun p=>L p.1 p.2.1 p.2.2.1 p.2.2.2.1 p.2.2.2.2) (V,Y,Z,z4,z5) h0 (fun p h ih=>step p.1 p.2.1 p.2.2.1 p.2.2.2.1 p.2.2.2.2 h fun O Q R S T h' hm=>ih (O,Q,R,S,T) h' hm) hw hM
def aF3{y:Type}{B:Type}{E:Type}{G:Type}{J:Type}{K:Type}{L:Type}{O:FuncId->Option AF}{m:Nat}{sc:List Nat}{x:AC}{a:List PV}{M:Mem}{Qn Qr:List PV->Mem->Prop}{Qe:Nat->List PV->Mem->Prop}(I:y->B->E->G->J->K->L->Prop)(fr:y->B->E->G->J->K->L->List PV)(u:y->B->E->G->J->K->L->Mem)(Q:y->B->E->G->J->K->L->Nat)
  (z1:y) (z2:B) (z3:E) (z4:G) (z5:J) (z6:K) (z7:L) (h0:I z1 z2 z3 z4 z5 z6 z7)
  (step:∀(x1:y) (x2:B) (x3:E) (x4:G) (x5:J) (x6:K) (x7:L),I x1 x2 x3 x4 x5 x6 x7->(∀(R:y) (S:B) (T:E) (U:G) (V:J) (Y:K) (Z:L),I R S T U V Y Z->Q R S T U V Y Z<Q x1 x2 x3 x4 x5 x6 x7->b9 O m (.loop sc x) (fr R S T U V Y Z) (u R S T U V Y Z) Qn Qr Qe)->b9 O m (.loop sc x) (fr x1 x2 x3 x4 x5 x6 x7) (u x1 x2 x3 x4 x5 x6 x7) Qn Qr Qe) (hw:dl a (fr z1 z2 z3 z4 z5 z6 z7):=by simp only[PW]) (hM:M=u z1 z2 z3 z4 z5 z6 z7:=by rfl):b9 O m (.loop sc x) a M Qn Qr Qe:=
 cM (fun p:y×B×E×G×J×K×L=>I p.1 p.2.1 p.2.2.1 p.2.2.2.1 p.2.2.2.2.1 p.2.2.2.2.2.1 p.2.2.2.2.2.2) (fun p=>fr p.1 p.2.1 p.2.2.1 p.2.2.2.1 p.2.2.2.2.1 p.2.2.2.2.2.1 p.2.2.2.2.2.2) (fun p=>u p.1 p.2.1 p.2.2.1 p.2.2.2.1 p.2.2.2.2.1 p.2.2.2.2.2.1 p.2.2.2.2.2.2) (fun p=>Q p.1 p.2.1 p.2.2.1 p.2.2.2.1 p.2.2.2.2.1 p.2.2.2.2.2.1 p.2.2.2.2.2.2) (z1,z2,z3,z4,z5,z6,z7) h0 (fun p h ih=>step p.1 p.2.1 p.2.2.1 p.2.2.2.1 p.2.2.2.2.1 p.2.2.2.2.2.1 p.2.2.2.2.2.2 h fun R S T U V Y Z h' hm=>ih (R,S,T,U,V,Y,Z) h' hm) hw hM
attribute [irreducible] QIf qT D2 F1 aC8 ZOb dX aAT aDi RN aDk D1 uH N3 KL aA2 wC AX qR qS fV nR RX RO RD RS aBr K4 RY F9 GA
mutual
def PV.under(m:Nat):PV->Bool
 | .ptr id _ _=>decide (id<m)
 | .ref id _ _ _ _=>decide (id<m)
 | .map id=>decide (id<m)
 | .yld id f=>decide (id<m)&&aD m f
 | .cp cs _=>aD m cs
 | .sl _ _ _ _ cs=>aD m cs
 | .func _ f c=>aD m f&&aD m c
 | .iface _ v=>PV.under m v
 | .agg cs=>aD m cs
 | .tuple cs=>aD m cs
 | .ae=>Jb
 | .bool _=>Jb
 | .int _ _=>Jb
 | .str _=>Jb
 | .al=>Jb
 | .aa=>Jb
 | .bd=>Jb
 | .aq=>Jb
 | .af=>Jb
def aD(m:Nat):List PV->Bool
 | []=>Jb
 | v::l=>PV.under m v&&aD m l
end
def dE(m:Nat):∀(l:List PV),aD m l=Jb↔∀v∈l,v.under m=Jb
 | []=>by simp[aD]
 | v::l=>by simp[aD,dE m l]
def fP{m:Nat}{l:List PV}(h:aD m l=Jb){i:Nat}{y:PV}(u:l[i]? =Iz y):y.under m=Jb:=(dE m l).1 h y (Ae u)
def aL(m:Nat)(k:IntKind)(u:List Int):aD m (u.map (PV.int k))=Jb:=(dE m _).2 fun v hv=>by obtain⟨x,_,rfl⟩:=List.mem_map.1 hv;simp[PV.under]
def dR{α:Type}(m:Nat)(f:α->PV)(hf:∀x,(f x).under m=Jb)(u:List α):aD m (u.map f)=Jb:=(dE m _).2 fun v hv=>by obtain⟨x,_,rfl⟩:=List.mem_map.1 hv;exact hf x
def lF(m:Nat)(l u:List PV):aD m (l++u)=(aD m l&&aD m u):=by
 induction l with
 | nil=>simp[aD]
 | cons v l y=>simp[aD,y,Bool.and_assoc]
def uO{m:Nat}{l:List PV}(h:aD m l=Jb)(k:Nat):aD m (l.drop k)=Jb:=(dE m _).2 fun v hv=>(dE m l).1 h v (List.mem_of_mem_drop hv)
def uN{m:Nat}{l:List PV}(h:aD m l=Jb)(k:Nat):aD m (l.take k)=Jb:=(dE m _).2 fun v hv=>(dE m l).1 h v (List.mem_of_mem_take hv)
def az.low{w w':PWd}{m:Nat}(h0:w'.n0=w.n0)(J:∀b o,w.imm b=Iz o->w'.imm b=Iz o)(he:∀id,id<m->w'.env id=w.env id){v:PV}{x:AV}(h:az w v x):v.under m=Jb->az w' v x:=by
 induction h with
 | ae x=>intro _;exact .ae x
 | bool b=>intro _;exact .bool b
 | int k n=>intro _;exact .int k n
 | str s=>intro _;exact .str s
 | al=>intro _;exact .al
 | aa=>intro _;exact .aa
 | bd=>intro _;exact .bd
 | aq=>intro _;exact .aq
 | af=>intro _;exact .af
 | ptr h1 h2 h3=>intro hb;simp only[PV.under,decide_eq_true_eq]at hb;exact .ptr (by rw[he _ hb];exact h1) h2 h3
 | ln x q h1 h2=>intro hb;simp only[PV.under,decide_eq_true_eq]at hb;exact .ln x q (by rw[he _ hb];exact h1) h2
 | cp h1 h2 h3 u=>intro hb;simp only[PV.under]at hb;exact .cp (J _ _ h1) h2 fun i y z p q=>u i y z p q (fP hb p)
 | sl h1 h2 h3 B E K L u=>intro hb;simp only[PV.under]at hb;exact .sl (J _ _ h1) h2 h3 B (by rw[h0];exact E) (by rw[h0];exact K) fun i y z p q=>u i y z p q (fP hb p)
 | slN=>intro _;exact .slN
 | ref h1 h2 h3=>intro hb;simp only[PV.under,decide_eq_true_eq]at hb;exact .ref (by rw[he _ hb];exact h1) h2 h3
 | lf h1 h2 h3=>intro hb;simp only[PV.under,decide_eq_true_eq]at hb;exact .lf (by rw[he _ hb];exact h1) h2 h3
 | mi x q h1 h2=>intro hb;simp only[PV.under,decide_eq_true_eq]at hb;exact .mi x q (by rw[he _ hb];exact h1) h2
 | map h1 h2 h3=>intro hb;simp only[PV.under,decide_eq_true_eq]at hb;exact .map (by rw[he _ hb];exact h1) h2 h3
 | nd x q h1 h2=>intro hb;simp only[PV.under,decide_eq_true_eq]at hb;exact .nd x q (by rw[he _ hb];exact h1) h2
 | func h1 h2 h3 B E G I=>intro hb;simp only[PV.under,Aq]at hb;exact .func h1 h2 h3 (fun i y z p q=>G i y z p q (fP hb.1 p)) fun i y z p q=>I i y z p q (fP hb.2 p)
 | yld h1 h2 h3 B E u=>intro hb;simp only[PV.under,Aq,decide_eq_true_eq]at hb;exact .yld (by rw[he _ hb.1];exact h1) h2 h3 B fun i y z p q=>u i y z p q (fP hb.2 p)
 | mv x q h1 h2=>intro hb;simp only[PV.under,Aq,decide_eq_true_eq]at hb;exact .mv x q (by rw[he _ hb.1];exact h1) h2
 | iface h u=>intro hb;simp only[PV.under]at hb;exact .iface (u hb)
 | agg h1 h2 u=>intro hb;simp only[PV.under]at hb;exact .agg h1 fun i y z p q=>u i y z p q (fP hb p)
 | tuple h1 h2 u=>intro hb;simp only[PV.under]at hb;exact .tuple h1 fun i y z p q=>u i y z p q (fP hb p)
def ak.low{w w':PWd}{m:Nat}(h0:w'.n0=w.n0)(u:∀b o,w.imm b=Iz o->w'.imm b=Iz o)(he:∀id,id<m->w'.env id=w.env id){l:List PV}{l':List AV}(h:ak w l l')(hb:aD m l=Jb):ak w' l l':=
 ⟨h.len,fun i y z p q=>(h.get i y z p q).low h0 u he (fP hb p)⟩
def bX(m:Nat)(M:Mem):PV->Option PV
 | .ref id g sz off n=>if id<m then Iz (.ref id g sz off n)else match M[id]? with
  | some (.cells u _ cs)=>if u=g/\off+n*sz<=cs.length/\aD m cs=Jb then Iz (.sl Jc Jb sz n (aZ cs off (n*sz)))else Ja
  | _=>Ja
 | v=>if v.under m=Jb then Iz v else Ja
def dS(m:Nat)(M:Mem):List PV->Option (List PV)
 | []=>Iz []
 | v::l=>match bX m M v,dS m M l with
  | some x,Iz u=>Iz (x::u)
  | _,_=>Ja
def cO(m:Nat)(M:Mem):PV->Option PV
 | .agg cs=>(dS m M cs).map .agg
 | v=>bX m M v
def gR(m:Nat)(M:Mem):List PV->Option (List PV)
 | []=>Iz []
 | v::l=>match cO m M v,gR m M l with
  | some x,Iz u=>Iz (x::u)
  | _,_=>Ja
def fG(m:Nat)(M:Mem):PV->Option PV
 | .tuple cs=>(gR m M cs).map .tuple
 | v=>cO m M v
def zL{m:Nat}{M:Mem}{v r:PV}(hr:bX m M v=Iz r):r.under m=Jb:=by
 have u:(if v.under m=Jb then Iz v else Ja)=Iz r->r.under m=Jb:=by
  intro hr;split at hr
  ·rename_i hb;cases hr;exact hb
  ·cases hr
 unfold bX at hr;split at hr
 ·split at hr
  ·rename_i y;cases hr;simp[PV.under,y]
  ·split at hr
   ·split at hr
    ·rename_i B;cases hr;simp only[PV.under];exact uN (uO B.2.2 _) _
    ·cases hr
   ·cases hr
 ·exact u hr
def zJ{m:Nat}{M:Mem} :∀{l r:List PV},dS m M l=Iz r->aD m r=Jb
 | [],r,hr=>by simp only[dS]at hr;cases hr;rfl
 | v::l,r,hr=>by
  simp only[dS]at hr;split at hr
  ·rename_i a b h1 h2;cases hr;simp[aD,zL h1,zJ h2]
  ·cases hr
def zK{m:Nat}{M:Mem}{v r:PV}(hr:cO m M v=Iz r):r.under m=Jb:=by
 unfold cO at hr;split at hr
 ·rename_i cs
  cases u:dS m M cs with
  | none=>rw[u]at hr;cases hr
  | some y=>rw[u]at hr;cases hr;simp only[PV.under];exact zJ u
 ·exact zL hr
def vK{m:Nat}{M:Mem} :∀{l r:List PV},gR m M l=Iz r->aD m r=Jb
 | [],r,hr=>by simp only[gR]at hr;cases hr;rfl
 | v::l,r,hr=>by
  simp only[gR]at hr;split at hr
  ·rename_i a b h1 h2;cases hr;simp[aD,zK h1,vK h2]
  ·cases hr
def UD{m:Nat}{M:Mem}{v r:PV}(hr:fG m M v=Iz r):r.under m=Jb:=by
 unfold fG at hr;split at hr
 ·rename_i cs
  cases u:gR m M cs with
  | none=>rw[u]at hr;cases hr
  | some y=>rw[u]at hr;cases hr;simp only[PV.under];exact vK u
 ·exact zK hr
def bp.under(m:Nat):bp->Bool
 | .cells _ _ cs=>aD m cs
 | .gone=>Jb
 | _=>Jc
open Classical in
noncomputable def PWd.cut(w:PWd)(h:H)(m:Nat)(M:Mem):PWd where
 n0:=w.n0
 id0:=w.id0
 env:=fun id=>if id<m then w.env id else Ja
 imm:=fun b=>if ∃id,m<=id/\ag w M id b then h.get b else w.imm b
open Classical in
def lC{w:PWd}{h:H}{M:Mem}(s:PSt w h M)(m:Nat):∀b o,w.imm b=Iz o->(w.cut h m M).imm b=Iz o:=by
 intro b o hb;show(if _ then _ else _)=_;split
 ·exact s.imm b o hb
 ·exact hb
def gN{w:PWd}{h:H}{M:Mem}{m id:Nat}(u:id<m):(w.cut h m M).env id=w.env id:=by show(if _ then _ else _)=_;rw[if_pos u]
def sH{w:PWd}{h:H}{M:Mem}{m id x:Nat}(hl:ag (w.cut h m M) (M.take m) id x):id<m/\ag w M id x:=by
 obtain⟨o,e,h1,h2,h3,y⟩:=hl;have u:id<m:=by have:=aI h1;simp at this;omega
 rw[gN u]at h3;rw[Bc,if_pos u]at h1;exact⟨u,o,e,h1,h2,h3,y⟩
open Classical in
def PSt.cut{w:PWd}{h:H}{M:Mem}(s:PSt w h M){m:Nat}(hm:m<=M.length)(hb:(M.take m).all (bp.under m)=Jb):
  PSt (w.cut h m M) h (M.take m)/\∀(w0:PWd) (h0:H) (J:Mem),dx m w0 h0 J w h M->dx m w0 h0 J (w.cut h m M) h (M.take m):=by
 have hlen:(M.take m).length=m:=by simp;omega
 refine⟨⟨?_,?_,?_,?_,?_,?_,s.base⟩,fun w0 h0 J t=>⟨by omega,⟨t.le.n0,t.le.id0,fun b o u=>lC s m b o (t.le.imm b o u),fun id y e he=>?_⟩,t.next,t.il,fun id x hl G=>t.live id x (sH hl).2 G,?_⟩⟩
 ·intro b o u;have u:(if ∃id,m<=id/\ag w M id b then h.get b else w.imm b)=Iz o:=u;split at u
  ·exact u
  ·exact s.imm b o u
 ·intro id e he;have he:(if id<m then w.env id else Ja)=Iz e:=he;split at he
  ·rename_i y;omega
  ·cases he
 ·intro id e b he B;have he:(if id<m then w.env id else Ja)=Iz e:=he;split at he
  ·exact s.blk id e b he B
  ·cases he
 ·intro id o K;have y:id<m:=by have:=aI K;omega
  have I:=K;rw[Bc,if_pos y]at I;have u:o.under m=Jb:=by rw[List.all_eq_true]at hb;exact hb o (Ae K)
  have r:=s.obj id o I
  cases o with
  | cells g ver cs=>
   obtain⟨e,h1,h2,h3⟩:=r;refine⟨e,by rw[gN y];exact h1,h2,?_⟩
   cases B:e.blk with
   | none=>rw[B]at h3;exact h3
   | some b=>rw[B]at h3;obtain⟨L,R,S⟩:=h3;exact⟨L,R,S.low (w:=w) (w':=w.cut h m M) rfl (lC s m) (fun id y=>gN y) u⟩
  | gone=>trivial
  | _=>simp[bp.under]at u
 ·intro i j x h1 h2;exact s.inj i j x (sH h1).2 (sH h2).2
 ·intro i x h1;obtain⟨y,hl⟩:=sH h1;refine⟨?_,(s.sep i x hl).2⟩;show(if _ then _ else _)=_;split
  ·rename_i O;obtain⟨j,T,Q⟩:=O;have:=s.inj i j x hl Q;omega
  ·exact(s.sep i x hl).1
 ·rw[gN y];exact t.le.env id y e he
 ·intro x G;have G:(if ∃id,m<=id/\ag w M id x then h.get x else w.imm x)≠Ja:=G;split at G
  ·rename_i O;obtain⟨id,hid,hl⟩:=O;rcases Az x h0.next with E | E
   ·exact .inr (.inr ⟨id,hid,t.live id x hl E⟩)
   ·exact .inr (.inl E)
  ·exact t.new x G
open Classical in
def JU{w:PWd}{h:H}{M:Mem}(s:PSt w h M){m:Nat}(h0:w.id0<=m){v r:PV}{x:AV}(hv:az w v x)(hr:bX m M v=Iz r):az (w.cut h m M) r x:=by
 have low:∀{u:PV},az w u x->u.under m=Jb->az (w.cut h m M) u x:=fun Q hb=>Q.low (w:=w) (w':=w.cut h m M) rfl (lC s m) (fun id G=>gN G) hb;have B:(if v.under m=Jb then Iz v else Ja)=Iz r->az (w.cut h m M) r x:=by
  intro hr;split at hr
  ·rename_i hb;cases hr;exact low hv hb
  ·cases hr
 unfold bX at hr;split at hr
 ·rename_i id g sz off n;split at hr
  ·rename_i G;cases hr;exact low hv (by simp[PV.under,G])
  ·rename_i G;split at hr
   ·rename_i U ver cs hm;split at hr
    ·rename_i R;obtain⟨rfl,hl,hb⟩:=R;cases hr;obtain⟨e,V,Y,S⟩:=s.gp hm hv;rcases S with⟨rfl,rfl,rfl,_,rfl⟩ | ⟨Z,b,I,rfl,q1,T,K,L⟩
     ·simpa [aZ]using az.slN
     ·have E:∃i,m<=i/\ag w M i b:=⟨id,by omega,L⟩;have J:(w.cut h m M).imm b=Iz (.cells (e.v0+ver) Jb I):=by
       show(if _ then _ else _)=_;rw[if_pos E];exact T
      have hlen:(aZ cs off (n*sz)).length=n*sz:=by simp[aZ];omega
      have hs:=(eV K off (n*sz)).low (w:=w) (w':=w.cut h m M) rfl (lC s m) (fun id G=>gN G) (uN (uO hb off) _);refine .sl J (by rw[hlen,<-K.len];exact hl) hlen (fun hf=>by cases hf) (fun _=>⟨(s.sep id b L).2 (by omega),rfl⟩) (fun q=>by cases q) fun i y z O hz=>hs.get i y z O ?_;rw[Bc,if_pos (by have:=aI O;omega),Bf];exact hz
    ·cases hr
   ·cases hr
 ·exact B hr
def sC{w:PWd}{h:H}{M:Mem}(s:PSt w h M){m:Nat}(h0:w.id0<=m):∀{l r:List PV} {u:List AV},ak w l u->dS m M l=Iz r->ak (w.cut h m M) r u
 | [],r,u,hl,hr=>by simp only[dS]at hr;cases hr;exact⟨hl.len,fun i y z h=>by simp at h⟩
 | v::l,r,[],hl,hr=>by have:=hl.len;simp at this
 | v::l,r,x::u,hl,hr=>by
  simp only[dS]at hr;split at hr
  ·rename_i a b h1 h2;cases hr;exact .cons (JU s h0 hl.hd h1) (sC s h0 hl.tl h2)
  ·cases hr
def JT{w:PWd}{h:H}{M:Mem}(s:PSt w h M){m:Nat}(h0:w.id0<=m){v r:PV}{x:AV}(hv:az w v x)(hr:cO m M v=Iz r):az (w.cut h m M) r x:=by
 unfold cO at hr;split at hr
 ·rename_i cs
  cases u:dS m M cs with
  | none=>rw[u]at hr;cases hr
  | some y=>rw[u]at hr;cases hr;obtain⟨B,rfl,hl⟩:=mZ hv;have:=sC s h0 hl u;exact .agg this.len this.get
 ·exact JU s h0 hv hr
def DJ{w:PWd}{h:H}{M:Mem}(s:PSt w h M){m:Nat}(h0:w.id0<=m):∀{l r:List PV} {u:List AV},ak w l u->gR m M l=Iz r->ak (w.cut h m M) r u
 | [],r,u,hl,hr=>by simp only[gR]at hr;cases hr;exact⟨hl.len,fun i y z h=>by simp at h⟩
 | v::l,r,[],hl,hr=>by have:=hl.len;simp at this
 | v::l,r,x::u,hl,hr=>by
  simp only[gR]at hr;split at hr
  ·rename_i a b h1 h2;cases hr;exact .cons (JT s h0 hl.hd h1) (DJ s h0 hl.tl h2)
  ·cases hr
def FP{w:PWd}{h:H}{M:Mem}(s:PSt w h M){m:Nat}(h0:w.id0<=m){v r:PV}{x:AV}(hv:az w v x)(hr:fG m M v=Iz r):az (w.cut h m M) r x:=by
 unfold fG at hr;split at hr
 ·rename_i cs
  cases u:gR m M cs with
  | none=>rw[u]at hr;cases hr
  | some y=>rw[u]at hr;cases hr;obtain⟨B,rfl,hl⟩:=o7 hv;have:=DJ s h0 hl u;exact .tuple this.len this.get
 ·exact JT s h0 hv hr
section
variable {tab:FuncId->Option AF}
def iH{L:Rec}{g:FuncId}{args:List AV}{h:H}{K y:AV->H->Prop}(B:C L g args h K)(E:∀v u,K v u->y v u):C L g args h y:=by unfold C at B ⊢;obtain⟨v,u,h1,h2⟩:=B;exact⟨v,u,h1,E v u h2⟩
def ai.mono{g:FuncId}{args:List PV}{M:Mem}{K B:PV->Mem->Prop}(E:ai tab g args M K)(G:∀v y,K v y->B v y):ai tab g args M B:=
 fun w h u h0 s I=>iH (E w h u h0 s I) fun v R ⟨w',r,y,J,L,O,Q⟩=>⟨w',r,y,J,L,O,G _ _ Q⟩
def sP{g:FuncId}{args:List PV}{M:Mem}{K:PV->Mem->Prop}(I:ai tab g args M fun r y=>(y.take M.length).all (bp.under M.length)=Jb/\gC (fG M.length y r) fun B=>K B (y.take M.length)):ai tab g args M K:=by intro w h u h0 s J;refine iH (I w h u h0 s J) ?_;rintro v U ⟨w',r,y,E,G,L,O,B,Q,R⟩;obtain⟨S,T⟩:=G.cut E.len O;exact⟨_,B,_,T w h M E,S,FP G (by rw[E.le.id0];exact h0) L Q,R⟩
def nM{g:FuncId}{args:List PV}{M:Mem}{K:PV->Mem->Prop}(hb:aD 0 args=Jb)(U:ai tab g args [] fun r M'=>gC (fG 0 M' r) fun R=>K R M):ai tab g args M K:=by
 intro w h y h0 s ha
 let w0:PWd:={w with env:=fun _=>Ja,id0:=0}
 have s0:PSt w0 h []:=⟨s.imm,(fun id e he=>by cases he),(fun id e b he=>by cases he),(fun id o V=>by simp at V),(fun i j x ⟨_,_,h1,_⟩=>by simp at h1),(fun i x ⟨_,_,h1,_⟩=>by simp at h1),s.base⟩;have a0:ak w0 args y:=ha.low (w:=w) (w':=w0) rfl (fun _ _ h=>h) (fun id Z=>by omega) hb;refine iH (U w0 h y (Ac _) s0 a0) ?_;rintro v L ⟨O,r,S,B,p2,p3,R,p5,p6⟩;have q1:=FP p2 (by rw[B.le.id0];exact Ac _) p3 p5;obtain⟨z1,z2⟩:=p2.cut (m:=0) (Af _) (by simp);have B:=z2 w0 h [] B;have Y:O.n0=w.n0:=B.le.n0;have G:∀x id,¬ag w0 [] id x:=fun x id ⟨_,_,h1,_⟩=>by simp at h1
 have E:∀x,x<h.next->L.get x=h.get x:=fun x Q=>B.il x Q (G x)
 let T:PWd:={n0:=w.n0,id0:=w.id0,env:=w.env,imm:=(O.cut L 0 S).imm}
 have hl:Le M.length w T:=⟨rfl,rfl,fun b o I=>B.le.imm b o I,fun id Z e he=>⟨e,he,.inr rfl⟩⟩;have hr:az T R v:=by exact q1.low (w:=O.cut L 0 S) (w':=T) (m:=0) Y.symm (fun _ _ h=>h) (fun id Z=>by omega) (UD p5)
 refine⟨T,R,M,⟨Ac _,hl,B.next,fun x Q _=>E x Q,fun id x u _=>u,?_⟩,⟨fun b o I=>z1.imm b o I,s.env,?_,?_,s.inj,?_,Ah s.base B.next⟩,hr,p6⟩
 ·intro x Q;rcases B.new x Q with e | e | ⟨id,_,e⟩
  ·exact .inl e
  ·exact .inr (.inl e)
  ·exact absurd e (G x id)
 ·intro id e b he J;exact Bg (s.blk id e b he J) B.next
 ·intro id o V;exact kb.mono s hl (s.obj id o V) (fun e he=>he) fun e b he J=>E b (s.blk id e b he J)
 ·intro i x u;have u:ag w M i x:=u;refine⟨?_,(s.sep i x u).2⟩;show(O.cut L 0 S).imm x=Ja
  cases U:(O.cut L 0 S).imm x with
  | none=>rfl
  | some o=>
   rcases B.new x (by rw[U];simp)with e | e | ⟨id,_,e⟩
   ·exact absurd (s.sep i x u).1 e
   ·have:=u.next s;omega
   ·exact absurd e (G x id)
end
section
variable {tab:FuncId->Option AF}
def RV(u:List ll)(K:PV->Mem->Prop)(a:List PV)(M:Mem):Prop:=g7 u a M fun y=>K (ec y) M
def oV(u:List ll)(Q:PV->Prop)(a:List PV)(M:Mem):Prop:=g7 u a M fun y=>gC (fG 0 M (ec y)) Q
def kg(i:Nat)(a:List PV)(M:Mem):Prop:=False
def aBs(u:List ll)(K:PV->Mem->Prop)(a:List PV)(M:Mem):RV u K a M=g7 u a M fun y=>K (ec y) M:=(rfl)
def VZ(u:List ll)(Q:PV->Prop)(a:List PV)(M:Mem):oV u Q a M=g7 u a M fun y=>dX (fG 0 M (ec y)) Q ⟨0⟩:=by unfold dX;rfl
def VX(a:List PV)(M:Mem)(K:List PV->Prop):g7 [] a M K=K []:=(rfl)
def VW(t:Nat)(u:List ll)(a:List PV)(M:Mem)(K:List PV->Prop):g7 (.tmp t::u) a M K=g7 u a M fun y=>K (bu a t::y):=(rfl)
def OY(t:Nat)(u:List ll)(a:List PV)(M:Mem)(K:List PV->Prop):g7 (.cell t::u) a M K=D1 (bu a t) M (fun v _=>g7 u a M fun y=>K (v::y)) ⟨0⟩:=by unfold D1;rfl
def K3(t n:Nat)(u:List ll)(a:List PV)(M:Mem)(K:List PV->Prop):g7 (.cells t n::u) a M K=uH n (bu a t) M (fun v _=>g7 u a M fun y=>K (v::y)) ⟨0⟩:=by unfold uH;rfl
def aN{g:FuncId}{F:AFn}(hg:tab g=Iz (.fn F)){args:List PV}{M:Mem}{K:PV->Mem->Prop}
  (u:RX tab M.length F.body (jq args F.ntmps) M (RV F.results K) (RV F.results K) kg):ai tab g args M K:=
 cA hg (KQ _ _ u)
def aF{g:FuncId}{F:AFn}(hg:tab g=Iz (.fn F)){args:List PV}{M:Mem}{K:PV->Mem->Prop}(hb:aD 0 args=Jb)
  (u:RX tab 0 F.body (jq args F.ntmps) [] (oV F.results fun r=>K r M) (oV F.results fun r=>K r M) kg):ai tab g args M K:=
 nM hb (aN hg u)
end
def bc(r u:PV):Prop:=∀w x,az w r x->az w u x
def bc.refl(r:PV):bc r r:=fun _ _ h=>h
def bc.aa(u own:Bool)(sz:Nat):bc .aa (.sl u own sz 0 []):=fun w x h=>by rw[dI h];exact .slN
def bc.sl(u:Bool)(sz n:Nat)(cs:List PV):bc (.sl u Jb sz n cs) (.sl Jc Jb sz n cs):=fun w x h=>by
 cases h with
 | sl h1 h2 h3 E y G B=>exact .sl h1 h2 h3 (fun q=>by cases q) y (fun q=>by cases q) B
 | slN=>exact .slN
def bc.sl0(u own:Bool)(sz n:Nat)(cs:List PV):bc (.sl u own sz n cs) (.sl Jb Jc sz n cs):=fun w x h=>by
 cases h with
 | sl h1 h2 h3 B E G y=>exact .sl h1 h2 h3 (fun _ q=>by cases q) (fun q=>by cases q) (fun _ q=>by cases q) y
 | slN=>exact .slN
def bc.agg{l u:List PV}(hl:l.length=u.length)(h:∀(i:Nat) (y z:PV),l[i]? =Iz y->u[i]? =Iz z->bc y z):bc (.agg l) (.agg u):=fun w x E=>by
 obtain⟨G,rfl,hr⟩:=mZ E;refine .agg (by rw[<-hl];exact hr.len) fun i y z h1 h2=>?_;have B:i<l.length:=by rw[hl];exact aI h1
 exact h i l[i] y (Ad B) h1 w z (hr.get i _ _ (Ad B) h2)
def bc.tuple{l u:List PV}(hl:l.length=u.length)(h:∀(i:Nat) (y z:PV),l[i]? =Iz y->u[i]? =Iz z->bc y z):bc (.tuple l) (.tuple u):=fun w x E=>by
 obtain⟨G,rfl,hr⟩:=o7 E;refine .tuple (by rw[<-hl];exact hr.len) fun i y z h1 h2=>?_;have B:i<l.length:=by rw[hl];exact aI h1
 exact h i l[i] y (Ad B) h1 w z (hr.get i _ _ (Ad B) h2)
section
variable {tab:FuncId->Option AF}
def fM{g:FuncId}{args:List PV}{M:Mem}{K:PV->Mem->Prop}(h:ai tab g args M fun r B=>∃y,bc r y/\K y B):ai tab g args M K:=
 fun w hh u h0 s E=>iH (h w hh u h0 s E) fun v Q ⟨w',r,B,G,I,J,y,L,O⟩=>⟨w',y,B,G,I,L w' v J,O⟩
end
abbrev slI(f o:Bool)(k:IntKind)(u:List Int):PV:= .sl f o 1 u.length (u.map (PV.int k))
abbrev slR(f o u y:Bool)(k:IntKind)(su:List (List Int)):PV:= .sl f o 1 su.length (su.map (slI u y k))
abbrev slB(f o:Bool)(u:List Bool):PV:= .sl f o 1 u.length (u.map PV.bool)
def LE(m:Nat):PV.under m .ae=Jb:=by simp[PV.under]
def B3(m:Nat)(k:IntKind)(n:Int):PV.under m (.int k n)=Jb:=by simp[PV.under]
def pY(m:Nat)(b:Bool):PV.under m (.bool b)=Jb:=by simp[PV.under]
def LD(m:Nat):PV.under m .aa=Jb:=by simp[PV.under]
def fC(m:Nat)(f o:Bool)(sz n:Nat)(k:IntKind)(u:List Int):PV.under m (.sl f o sz n (u.map (PV.int k)))=Jb:=by simp[PV.under,aL]
def sU(m:Nat)(f o:Bool)(sz n:Nat)(u:List Bool):PV.under m (.sl f o sz n (u.map PV.bool))=Jb:=by simp only[PV.under];exact dR m _ (fun x=>pY m x) u
def lO(m:Nat)(f o u y:Bool)(sz n:Nat)(k:IntKind)(su:List (List Int)):PV.under m (.sl f o sz n (su.map (slI u y k)))=Jb:=by simp only[PV.under];exact dR m _ (fun x=>fC m u y 1 _ k x) su
def SJ(m:Nat)(cs:List PV):PV.under m (.agg cs)=aD m cs:=by simp[PV.under]
def GO(m:Nat)(cs:List PV):PV.under m (.tuple cs)=aD m cs:=by simp[PV.under]
def SI(m id g o:Nat):PV.under m (.ptr id g o)=decide (id<m):=by simp[PV.under]
def SH(m id g sz off n:Nat):PV.under m (.ref id g sz off n)=decide (id<m):=by simp[PV.under]
def xH(m:Nat)(fn:Go.Fn)(f c:List PV):PV.under m (.func fn f c)=(aD m f&&aD m c):=by simp[PV.under]
def gP(m:Nat):aD m []=Jb:=by simp[aD]
def eL(m:Nat)(v:PV)(l:List PV):aD m (v::l)=(v.under m&&aD m l):=by simp[aD]
def pN(o:Option bp)(g sz off n:Nat):Option PV:=match o with
 | some (.cells u _ cs)=>if u=g/\off+n*sz<=cs.length/\aD 0 cs=Jb then Iz (.sl Jc Jb sz n (aZ cs off (n*sz)))else Ja
 | _=>Ja
def TQ(M:Mem)(id g sz off n:Nat):bX 0 M (.ref id g sz off n)=pN M[id]? g sz off n:=by unfold bX pN;simp only[Eb,if_false];all_goals (generalize M[id]? =x;rcases x with _ | o<;>first | rfl | (cases o<;>rfl))
def cQ{g ver off n sz:Nat}{cs:List PV}(h1:off+n*sz<=cs.length)(h2:aD 0 cs=Jb):pN (Iz (.cells g ver cs)) g sz off n=Iz (.sl Jc Jb sz n (aZ cs off (n*sz))):=by unfold pN;simp only;rw[if_pos ⟨trivial,h1,h2⟩]
def XN(M:Mem)(k:IntKind)(n:Int):fG 0 M (.int k n)=Iz (.int k n):=by simp[fG,cO,bX,PV.under]
def TJ(M:Mem)(b:Bool):fG 0 M (.bool b)=Iz (.bool b):=by simp[fG,cO,bX,PV.under]
def TS(M:Mem)(k:IntKind)(n:Int):bX 0 M (.int k n)=Iz (.int k n):=by simp[bX,PV.under]
def MH(M:Mem)(b:Bool):bX 0 M (.bool b)=Iz (.bool b):=by simp[bX,PV.under]
def MG(M:Mem):bX 0 M .aa=Iz .aa:=by simp[bX,PV.under]
def XR{M:Mem}{f o:Bool}{sz n:Nat}{cs:List PV}(h:aD 0 cs=Jb):bX 0 M (.sl f o sz n cs)=Iz (.sl f o sz n cs):=by simp[bX,PV.under,h]
def L9(M:Mem)(cs:List PV):fG 0 M (.tuple cs)=(gR 0 M cs).map .tuple:=by simp[fG]
def XO(M:Mem)(cs:List PV):fG 0 M (.agg cs)=(dS 0 M cs).map .agg:=by simp[fG,cO]
def aB3{M:Mem}{f o:Bool}{sz n:Nat}{cs:List PV}(h:aD 0 cs=Jb):fG 0 M (.sl f o sz n cs)=Iz (.sl f o sz n cs):=by simp[fG,cO,bX,PV.under,h]
def aEx(M:Mem)(id g sz off n:Nat):fG 0 M (.ref id g sz off n)=bX 0 M (.ref id g sz off n):=by simp[fG,cO]
def TI(M:Mem):fG 0 M .aa=Iz .aa:=by simp[fG,cO,bX,PV.under]
def TO(M:Mem)(cs:List PV):cO 0 M (.agg cs)=(dS 0 M cs).map .agg:=by simp[cO]
def TN(M:Mem)(k:IntKind)(n:Int):cO 0 M (.int k n)=Iz (.int k n):=by simp[cO,bX,PV.under]
def MF(M:Mem)(b:Bool):cO 0 M (.bool b)=Iz (.bool b):=by simp[cO,bX,PV.under]
def ME(M:Mem):cO 0 M .aa=Iz .aa:=by simp[cO,bX,PV.under]
def XQ{M:Mem}{f o:Bool}{sz n:Nat}{cs:List PV}(h:aD 0 cs=Jb):cO 0 M (.sl f o sz n cs)=Iz (.sl f o sz n cs):=by simp[cO,bX,PV.under,h]
def aB4(M:Mem)(id g sz off n:Nat):cO 0 M (.ref id g sz off n)=bX 0 M (.ref id g sz off n):=by simp[cO]
def TK(M:Mem):dS 0 M []=Iz []:=(rfl)
def yV(x:Option PV)(l:Option (List PV)):Option (List PV):=match x,l with
 | some x,Iz u=>Iz (x::u)
 | _,_=>Ja
def MT(x:PV)(l:List PV):yV (Iz x) (Iz l)=Iz (x::l):=(rfl)
def MC(M:Mem)(v:PV)(l:List PV):dS 0 M (v::l)=yV (bX 0 M v) (dS 0 M l):=by simp only[dS,yV];all_goals (split<;>simp_all)
def MD(M:Mem):gR 0 M []=Iz []:=(rfl)
def IH(M:Mem)(v:PV)(l:List PV):gR 0 M (v::l)=yV (cO 0 M v) (gR 0 M l):=by simp only[gR,yV];all_goals (split<;>simp_all)
def aT(m:Nat)(f o:Bool)(k:IntKind)(su:List (List Int)):aD m (su.map (slI f o k))=Jb:=dR m _ (fun x=>fC m f o 1 _ k x) su
def bF(m:Nat)(u:List Bool):aD m (u.map PV.bool)=Jb:=dR m _ (fun x=>pY m x) u
def H6{α:Type}(f:α->PV)(u:List α):aZ (u.map f) 0 u.length=u.map f:=aK _ _ (by simp)
def KI(f o:Bool)(k:IntKind)(su:List (List Int)):(su.map (slI f o k)).all PV.one=Jb:=by simp[PV.one]
def BU(u:List Bool):(u.map PV.bool).all PV.one=Jb:=by simp[PV.one]
attribute [irreducible] RV oV kg
section
variable {tab:FuncId->Option AF} {m:Nat} {c:AC} {Qn Qr:List PV->Mem->Prop} {Qe:Nat->List PV->Mem->Prop}
def aR{a b:List PV}{M N:Mem}(h:b9 tab m c b N Qn Qr Qe)(hw:dl a b)(u:M=N):b9 tab m c a M Qn Qr Qe:=by subst u;exact aE h hw
structure GStep (m:Nat) (a:List PV) (M:Mem) (b:List PV) (N:Mem):Prop where
 len:m<=M.length->m<=N.length
 go:∀(w:PWd) (hh:H) (a':List AV),w.id0<=m->m<=M.length->PSt w hh M->ak w a a'->∃w',dx m w hh M w' hh N/\PSt w' hh N/\ak w' b a'
def aU{a b:List PV}{M N:Mem}(g:GStep m a M b N)(h:b9 tab m c b N Qn Qr Qe):b9 tab m c a M Qn Qr Qe:=by intro w hh y h0 hm s B;obtain⟨w',t,E,u⟩:=g.go w hh y h0 hm s B;exact iF (h w' hh y (by rw[t.le.id0];exact h0) (g.len hm) E u) (fun _ _ q=>q.trans t) (fun _ _ q=>q.trans t) fun _ _ _ q=>q.trans t
def GStep.trans{a b d:List PV}{M N O:Mem}(g:GStep m a M b N)(k:GStep m b N d O):GStep m a M d O:=
 ⟨fun h=>k.len (g.len h),fun w hh a' h0 hm s y=>by obtain⟨B,u,E,G⟩:=g.go w hh a' h0 hm s y;obtain⟨I,J,K,L⟩:=k.go B hh a' (by rw[u.le.id0];exact h0) (g.len hm) E G;exact⟨I,u.trans J (Ac _),K,L⟩⟩
def Gh(m:Nat)(Q:List PV->Mem->Prop)(a:List PV)(M:Mem):Prop:=∃b N,GStep m a M b N/\Q b N
def Gh.same{Q:List PV->Mem->Prop}{a:List PV}{M:Mem}(h:Q a M):Gh m Q a M:=
 ⟨a,M,⟨fun h=>h,fun w hh y h0 hm s u=>⟨w,dx.refl hm w hh,s,u⟩⟩,h⟩
def Gh.step{Q:List PV->Mem->Prop}{a b:List PV}{M N:Mem}(g:GStep m a M b N)(h:Gh m Q b N):Gh m Q a M:=by obtain⟨d,O,k,u⟩:=h;exact⟨d,O,g.trans k,u⟩
def aBw{w:PWd}{h:H}{M:Mem}(h0:w.id0<=m){Q:List PV->Mem->Prop}{u:List AV}{y:H}(hl:Lf m w h M (Gh m Q) u y):Lf m w h M Q u y:=by obtain⟨E,S,T,B,G,I,b,N,g,J⟩:=hl;obtain⟨K,L,O,R⟩:=g.go E y u (by rw[B.le.id0];exact h0) B.len G I;exact⟨K,b,N,B.trans L (Ac _),O,R,J⟩
def RT{a:List PV}{M:Mem}(h:b9 tab m c a M (Gh m Qn) (Gh m Qr) fun i=>Gh m (Qe i)):b9 tab m c a M Qn Qr Qe:=
 fun w hh u h0 hm s y=>iF (h w hh u h0 hm s y) (fun _ _ q=>aBw h0 q) (fun _ _ q=>aBw h0 q) fun _ _ _ q=>aBw h0 q
def GStep.nil{a b:List PV}{M N:Mem}(t sz:Nat)(ht:bu a t= .aa)(hb:di a t (.ref M.length 0 sz 0 0)=b)(B:M++[.cells 0 0 []]=N):GStep m a M b N:=by
 subst hb B;refine⟨fun hm=>by simp;omega,fun w hh a' h0 hm s u=>?_⟩;obtain⟨E,y⟩:=s.ka (v0:=0);refine⟨_,y.weaken hm,E,?_⟩;have h1:=u.fp t;rw[ht]at h1;have h2:=u.mono y.le s.env;have h3:=h2.iu t (v:= .ref M.length 0 sz 0 0) (x:=fp a' t) (by
  rw[dI h1];exact .lf (e:=⟨Ja,0,0⟩) (by show(if _=_ then _ else _)=_;rw[if_pos rfl]) rfl rfl)
 have G:iu a' t (fp a' t)=a':=by
  have:∀(l:List AV) (t:Nat),iu l t (fp l t)=l:=by
   intro l
   induction l with
   | nil=>intro t;rfl
   | cons x l I=>intro t;cases t with
    | zero=>rfl
    | succ t=>simp[iu,fp,I t]
  exact this a' t
 rwa [G]at h3
def PSt.pu{w:PWd}{h:H}{M:Mem}(s:PSt w h M){id g ver:Nat}{cs cs2:List PV}(hm:M[id]? =Iz (.cells g ver cs))(hr:∀u,ak w cs u->ak w cs2 u):
  PSt w h (M.set id (.cells g ver cs2))/\∀m,m<=M.length->dx m w h M w h (M.set id (.cells g ver cs2)):=by
 have hid:=aI hm;have live:∀i x,ag w (M.set id (.cells g ver cs2)) i x->ag w M i x:=by
  rintro i x ⟨G,J,h1,h2,h3,E⟩;by_cases B:id=i
  ·subst B;exact⟨_,J,hm,by simp,h3,E⟩
  ·rw[Bj B]at h1;exact⟨G,J,h1,h2,h3,E⟩
 refine⟨⟨s.imm,?_,s.blk,?_,fun i j x h1 h2=>s.inj i j x (live i x h1) (live j x h2),fun i x h1=>s.sep i x (live i x h1),s.base⟩,fun m I=>⟨by simpa using I,Le.refl _ _,Ac _,fun _ _ _=>rfl,fun i x h1 _=>live i x h1,fun x K=> .inl K⟩⟩
 ·intro i e he;simpa using s.env i e he
 ·intro i G B;by_cases y:id=i
  ·subst y;rw[Cg hid]at B;cases B;obtain⟨e,h1,h2,h3⟩:=s.obj id _ hm;refine⟨e,h1,h2,?_⟩
   cases hb:e.blk with
   | none=>rw[hb]at h3;have h3:cs=[]:=h3;subst h3;have:=(hr [] (ak.nil w)).len;exact List.length_eq_zero_iff.1 (by simpa using this)
   | some b=>rw[hb]at h3;obtain⟨u,E,L⟩:=h3;exact⟨u,E,hr u L⟩
  ·rw[Bj y]at B;exact s.obj i G B
def GStep.dy{a:List PV}{M N:Mem}(id o sz:Nat){g ver:Nat}{cs:List PV}(E:M[id]? =Iz (.cells g ver cs))(K:cs[o]? =Iz .aa)(L:M.set id (.cells g ver (cs.set o (.ref M.length 0 sz 0 0)))++[.cells 0 0 []]=N):GStep m a M a N:=by
 subst L;refine⟨fun hm=>by simp;omega,fun w hh a' h0 hm s O=>?_⟩;obtain⟨Q,G⟩:=s.ka (v0:=0);have hid:=aI E;have y:(M++[.cells 0 0 []])[id]? =Iz (.cells g ver cs):=by rw[Bh hid];exact E
 obtain⟨I,J⟩:=Q.pu (cs2:=cs.set o (.ref M.length 0 sz 0 0)) y (by
  intro u hr;obtain⟨z,hz,hv⟩:=hr.iz K;have B:=dI hv;subst B;have:=hr.set o (v:= .ref M.length 0 sz 0 0) (x:= .ah) (.lf (e:=⟨Ja,0,0⟩) (by show(if _=_ then _ else _)=_;rw[if_pos rfl]) rfl rfl);have hb:u.set o .ah=u:=by
   apply Ea;intro i;rw[Eh];by_cases e:o=i
   ·subst e;rw[if_pos rfl,if_pos (aI hz)];exact hz.symm
   ·rw[if_neg e]
  rwa [hb]at this)
 have he:(M++[bp.cells 0 0 []]).set id (.cells g ver (cs.set o (.ref M.length 0 sz 0 0)))=M.set id (.cells g ver (cs.set o (.ref M.length 0 sz 0 0)))++[.cells 0 0 []]:=by rw[List.set_append_left _ _ hid]
 rw[he]at I J;exact⟨_,(G.weaken hm).trans (J m (by simp;omega)) (Ac _),I,O.mono G.le s.env⟩
def jm(id g:Nat)(cs:List PV):List PV->List PV->Prop
 | [],[]=>True
 | x::a,y::b=>(y= .ae\/x=y\/∃sz off n,x= .ref id g sz off n/\off+n*sz<=cs.length/\y= .sl Jc Jb sz n (aZ cs off (n*sz)))/\jm id g cs a b
 | _,_=>False
def cI(id g:Nat)(cs:List PV):jm id g cs [] []=True:=(rfl)
def mL(id g:Nat)(cs:List PV)(x:PV)(a b:List PV):jm id g cs (x::a) (.ae::b)=jm id g cs a b:=by simp[jm]
def bJ(id g:Nat)(cs:List PV)(x:PV)(a b:List PV):jm id g cs (x::a) (x::b)=jm id g cs a b:=by simp[jm]
def fW{id g sz off n:Nat}{cs:List PV}{y:PV}{a b:List PV}(h1:off+n*sz<=cs.length)(h2:y= .sl Jc Jb sz n (aZ cs off (n*sz))):jm id g cs (.ref id g sz off n::a) (y::b)=jm id g cs a b:=by simp only[jm,eq_iff_iff,and_iff_right_iff_imp];intro _;exact .inr (.inr ⟨sz,off,n,rfl,h1,h2⟩)
def PSt.freeze{w:PWd}{h:H}{M:Mem}(s:PSt w h M){id g ver:Nat}{cs:List PV}(hm:M[id]? =Iz (.cells g ver cs))(h0:w.id0<=id):
  ∃w',PSt w' h (M.set id .gone)/\(∀m,m<=id->dx m w h M w' h (M.set id .gone))/\Le M.length w w'/\∀sz off n x,az w (.ref id g sz off n) x->off+n*sz<=cs.length->az w' (.sl Jc Jb sz n (aZ cs off (n*sz))) x:=by
 obtain⟨e,h1,h2,h3⟩:=s.jz hm;have hid:=aI hm;rcases h3 with⟨hb,rfl⟩ | ⟨b,Y,hb,hg,hr,Q⟩
 ·have live:∀i x,ag w (M.set id .gone) i x->ag w M i x:=by
   rintro i x ⟨R,K,E,S,T,I⟩;by_cases u:id=i
   ·subst u;rw[Cg hid]at E;cases E;exact absurd rfl S
   ·rw[Bj u]at E;exact⟨R,K,E,S,T,I⟩
  refine⟨w,⟨s.imm,fun i K he=>by simpa using s.env i K he,s.blk,?_,fun i j x J U=>s.inj i j x (live i x J) (live j x U),fun i x J=>s.sep i x (live i x J),s.base⟩,fun m Z=>⟨by simp;omega,Le.refl _ _,Ac _,fun _ _ _=>rfl,fun i x J _=>live i x J,fun x G=> .inl G⟩,Le.refl _ _,?_⟩
  ·intro i R u;by_cases B:id=i
   ·subst B;rw[Cg hid]at u;cases u;trivial
   ·rw[Bj B]at u;exact s.obj i R u
  ·intro sz off n x G hl;obtain⟨e2,E,S,T⟩:=s.gp hm G;rcases T with⟨rfl,rfl,rfl,_,_⟩ | ⟨_,b,_,_,I,_⟩
   ·simpa [aZ]using az.slN
   ·rw[h1]at E;cases E;rw[hb]at I;cases I
 ·let w':=w.gm b (.cells (e.v0+ver) Jb Y)
  have L:=s.sep id b Q;have hl:Le M.length w w':=qF L.1;have V:∀x,x≠b->w'.imm x=w.imm x:=fun x G=>by show(if _=_ then _ else _)=_;rw[if_neg G]
  have O:w'.imm b=Iz (.cells (e.v0+ver) Jb Y):=by show(if _=_ then _ else _)=_;rw[if_pos rfl]
  have live:∀i x,ag w' (M.set id .gone) i x->i≠id/\ag w M i x:=by
   rintro i x ⟨R,K,E,S,T,I⟩;by_cases u:id=i
   ·subst u;rw[Cg hid]at E;cases E;exact absurd rfl S
   ·rw[Bj u]at E;exact⟨fun q=>u q.symm,R,K,E,S,T,I⟩
  refine⟨w',⟨?_,fun i K he=>by simpa using s.env i K he,s.blk,?_,fun i j x J U=>s.inj i j x (live i x J).2 (live j x U).2,?_,s.base⟩,fun m Z=>⟨by simp;omega,⟨hl.n0,hl.id0,hl.imm,fun i u=>hl.env i (by omega)⟩,Ac _,fun _ _ _=>rfl,fun i x J _=>(live i x J).2,?_⟩,hl,?_⟩
  ·intro x o G;by_cases e1:x=b
   ·subst e1;rw[O]at G;cases G;exact hg
   ·rw[V x e1]at G;exact s.imm x o G
  ·intro i R u;by_cases B:id=i
   ·subst B;rw[Cg hid]at u;cases u;trivial
   ·rw[Bj B]at u;exact kb.mono s hl (s.obj i R u) (fun K he=>he) fun _ _ _ _=>rfl
  ·intro i x J;obtain⟨a1,U⟩:=live i x J;have:x≠b:=by rintro rfl;exact a1 (s.inj i id x U Q)
   exact⟨by rw[V x this];exact(s.sep i x U).1,(s.sep i x U).2⟩
  ·intro x G;by_cases e1:x=b
   ·subst e1;exact .inr (.inr ⟨id,Z,Q⟩)
   ·rw[V x e1]at G;exact .inl G
  ·intro sz off n x G hlen;obtain⟨e2,E,S,T⟩:=s.gp hm G;rw[h1]at E;cases E;rcases T with⟨_,_,_,I,_⟩ | ⟨fl,b2,a2,rfl,I,p5,p6,_⟩
   ·rw[hb]at I;cases I
   ·rw[hb]at I;cases I;rw[hg]at p5;cases p5;have a0:(aZ cs off (n*sz)).length=n*sz:=by simp[aZ];omega
    have hs:=(eV p6 off (n*sz)).mono hl s.env;refine .sl O (by rw[a0,<-p6.len];exact hlen) a0 (fun q=>by cases q) (fun _=>⟨L.2 h0,rfl⟩) (fun q=>by cases q) fun i y z hy hz=>hs.get i y z hy ?_;rw[Bc,if_pos (by have:=aI hy;omega),Bf];exact hz
def jm.rep{w w':PWd}{M:Mem}{id g:Nat}{cs:List PV}(hl:Le M.length w w')(hd:∀i e,w.env i=Iz e->i<M.length)(hf:∀sz off n x,az w (.ref id g sz off n) x->off+n*sz<=cs.length->az w' (.sl Jc Jb sz n (aZ cs off (n*sz))) x):
  ∀{a b:List PV} {u:List AV},jm id g cs a b->ak w a u->ak w' b u
 | [],[],u,_,h=>⟨h.len,fun i y z q=>by simp at q⟩
 | x::a,y::b,[],_,h=>by have:=h.len;simp at this
 | x::a,y::b,v::u,⟨h1,h2⟩,h=>by
  refine .cons ?_ (jm.rep hl hd hf h2 h.tl);rcases h1 with rfl | rfl | ⟨sz,off,n,rfl,B,rfl⟩
  ·exact .ae _
  ·exact h.hd.mono hl hd
  ·exact hf sz off n v h.hd B
 | [],_::_,u,hw,h=>hw.elim
 | _::_,[],u,hw,h=>hw.elim
def GStep.freeze{a b:List PV}{M N:Mem}(id:Nat){g ver:Nat}{cs:List PV}(hid:m<=id)(u:M[id]? =Iz (.cells g ver cs))(hf:jm id g cs a b)(y:M.set id .gone=N):GStep m a M b N:=by subst y;refine⟨fun hm=>by simpa using hm,fun w hh a' h0 hm s B=>?_⟩;obtain⟨w',E,G,hl,hr⟩:=s.freeze u (Ah h0 hid);exact⟨w',G m hid,E,hf.rep hl s.env hr B⟩
def GStep.drop{a b:List PV}{M N:Mem}(n:Nat)(u:m<=n)(hl:n<=M.length)(hw:dl a b)(y:aD n b=Jb)(B:(M.take n).all (bp.under n)=Jb)(E:M.take n=N):GStep m a M b N:=by subst E;refine⟨fun hm=>by simp;omega,fun w hh a' h0 hm s hr=>?_⟩;obtain⟨G,I⟩:=s.cut hl B;exact⟨_,(I w hh M (dx.refl (Ac _) w hh |>.weaken hl)).weaken u,G,(hw.rep hr).low (w:=w) (w':=w.cut hh n M) rfl (lC s n) (fun id J=>gN J) y⟩
end
attribute [irreducible] Gh
def zj(n:Nat):List PV:=Ag n .ae
def gE:zj 0=[]:=rfl
def gF(n:Nat):zj (n+1)= .ae::zj n:=rfl
def U8{n:Nat}(h:n<2^8):(⟨⟨⟨n,h⟩⟩⟩:UInt8)=UInt8.ofNat n:=by apply UInt8.toNat_inj.1;show n=_;simp;omega
def AL(l:List UInt8):Array.mk l=List.toArray l:=rfl
def mk(t:Option AFn){x:AFn}(_:t=Iz x:=by
 conv=>lhs;reduce;simp only[Int.reduceOfNat,Int.reduceNegSucc,U8,UInt8.reduceOfNat,AL]):AFn:=x
def aF0(t:Option AFn){x:AFn}(h:t=Iz x):mk t h=x:=rfl
def TE:ec []= .tuple []:=rfl
def TD(a b:PV)(l:List PV):ec (a::b::l)= .tuple (a::b::l):=rfl
def PP:=(Aa (Aa (Aa (Aa (Aa (Aa (Aa (Aa @aDt @aFt) (Aa @aDv (Aa @VM @OP))) (Aa (Aa @aFs @aDw) (Aa @aBh (Aa @aDu @aBg)))) (Aa (Aa (Aa @aBq @aBu) (Aa @V0 (Aa @aFA @aDD))) (Aa (Aa @aDC (Aa @aFB @aDF)) (Aa @aDE (Aa @aBt @VY))))) (Aa (Aa (Aa (Aa @aDy @aDx) (Aa @aBp (Aa @aFy @aBo))) (Aa (Aa @B0 @aDz) (Aa @OU (Aa @aBi @K1)))) (Aa (Aa (Aa @aFz @aFx) (Aa @aBl (Aa @OW @aGj))) (Aa (Aa @OX (Aa @VO @F6)) (Aa @aBj (Aa @F8 @aBn)))))) (Aa (Aa (Aa (Aa (Aa @VU @F7) (Aa @BX (Aa @aBm @VT))) (Aa (Aa @OV @aDA) (Aa @VV (Aa @aFw @aFv)))) (Aa (Aa (Aa @aFu @ON) (Aa @aFE (Aa @aAe @jY))) (Aa (Aa @vO (Aa @KB @AB)) (Aa @pU (Aa @Nat.add_eq_left @Nat.left_eq_add))))) (Aa (Aa (Aa (Aa @Nat.succ_ne_self @Nat.one_ne_zero) (Aa @XS (Aa @List.contains_cons.{0} @List.contains_nil.{0}))) (Aa (Aa @Bool.or_false @Bool.false_or) (Aa @Bool.or_true (Aa @Bool.true_or @aAU)))) (Aa (Aa (Aa @OC @aA3) (Aa @N1 (Aa @U1 @N4))) (Aa (Aa @U6 (Aa @aDf @aAR)) (Aa @aDh (Aa @aAW @VA))))))) (Aa (Aa (Aa (Aa (Aa (Aa @aAX @aAY) (Aa @aDj (Aa @U4 @aAQ))) (Aa (Aa @N9 @U5) (Aa @N2 (Aa @UZ @aC9)))) (Aa (Aa (Aa @aAL @aAK) (Aa @VJ (Aa @aDm @aA1))) (Aa (Aa @VH (Aa @VG @KM)) (Aa @U0 (Aa @N5 @N6))))) (Aa (Aa (Aa (Aa @KN @U2) (Aa @aDa (Aa @aDb @aAN))) (Aa (Aa @VB @VE) (Aa @VC (Aa @VD @FY)))) (Aa (Aa (Aa @FZ @F0) (Aa @OA (Aa @KP @VF))) (Aa (Aa @OB (Aa @aBc @VL)) (Aa @aDr (Aa @L5 @H8)))))) (Aa (Aa (Aa (Aa (Aa @X5 @XT) (Aa @XW (Aa @X4 @XV))) (Aa (Aa @XX @XY) (Aa @XZ (Aa @X3 @TH)))) (Aa (Aa (Aa @aBW @aBX) (Aa @C0 (Aa @TF @MT))) (Aa (Aa @L7 (Aa @aB0 @aBY)) (Aa @aBZ (Aa @S6 @H6))))) (Aa (Aa (Aa (Aa @List.take_zero.{0} @List.take_succ_cons.{0}) (Aa @List.drop_succ_cons.{0} (Aa @List.drop_zero.{0} @List.drop_nil.{0}))) (Aa (Aa @List.take_nil.{0} (Aa @XA @KI)) (Aa @BU (Aa @MO @IK)))) (Aa (Aa (Aa @II @TU) (Aa @MJ (Aa @ML @IJ))) (Aa (Aa @MP (Aa @aCb @YB)) (Aa @X9 (Aa @MS @IO)))))))) (Aa (Aa (Aa (Aa (Aa (Aa (Aa @aEz @aB8) (Aa @aB9 (Aa @YA @sN))) (Aa (Aa @aBs @VZ) (Aa @VX (Aa @VW @OY)))) (Aa (Aa (Aa @K3 @LE) (Aa @B3 (Aa @pY @LD))) (Aa (Aa @fC (Aa @sU @lO)) (Aa @SJ (Aa @GO @SI))))) (Aa (Aa (Aa (Aa @SH @xH) (Aa @gP (Aa @eL @aL))) (Aa (Aa @aT @bF) (Aa @lF (Aa @TQ @cQ)))) (Aa (Aa (Aa @XN @TJ) (Aa @TS (Aa @MH @MG))) (Aa (Aa @XR (Aa @L9 @XO)) (Aa @aB3 (Aa @aEx @TI)))))) (Aa (Aa (Aa (Aa (Aa @TO @TN) (Aa @MF (Aa @ME @XQ))) (Aa (Aa @aB4 @TK) (Aa @MC (Aa @MD @IH)))) (Aa (Aa (Aa @List.length_cons.{0} @List.length_nil.{0}) (Aa @List.length_append.{0} (Aa @List.length_replicate.{0} @List.length_set.{0}))) (Aa (Aa @List.length_map.{0,0} (Aa @List.cons_append.{0} @List.nil_append.{0})) (Aa @List.append_nil.{0} (Aa @List.map_cons.{0,0} @List.map_nil.{0,0}))))) (Aa (Aa (Aa (Aa @List.map_append.{0,0} @List.all_cons.{0}) (Aa @List.all_nil.{0} (Aa @List.all_append.{0} @List.set_cons_zero.{0}))) (Aa (Aa @List.set_cons_succ.{0} (Aa @List.getElem?_cons_zero.{0} @List.getElem?_cons_succ.{0})) (Aa @List.getElem?_map.{0,0} (Aa @List.getElem?_nil.{0} @Option.map_some.{0,0})))) (Aa (Aa (Aa @Option.map_none.{0,0} @Aw) (Aa @Nat.add_zero (Aa @Cj @Nat.one_mul))) (Aa (Aa @Nat.zero_mul (Aa @Ac @Eb)) (Aa @Nat.zero_lt_succ (Aa @Nat.lt_add_one @Int.cast_ofNat_Int))))))) (Aa (Aa (Aa (Aa (Aa (Aa @Int.toNat_natCast @Int.toNat_zero) (Aa @ite_true.{1} (Aa @ite_false.{1} @if_true.{1}))) (Aa (Aa @if_false.{1} @Bs) (Aa @decide_true (Aa @decide_false @decide_eq_true_eq)))) (Aa (Aa (Aa @Bool.not_true @Bool.not_false) (Aa @Bool.and_true (Aa @Bool.true_and @Bool.and_false))) (Aa (Aa @Bool.false_and (Aa @Dp @beq_self_eq_true.{0})) (Aa @ne_eq.{1} (Aa @not_true_eq_false @not_false_eq_true))))) (Aa (Aa (Aa (Aa @true_and @and_true) (Aa @and_self (Aa @false_and @and_false))) (Aa (Aa @true_or @or_true) (Aa @false_or (Aa @or_false @or_self)))) (Aa (Aa (Aa @Option.getD_none.{0} @Option.getD_some.{0}) (Aa @Option.isSome_none.{0} (Aa @Option.isSome_some.{0} @gt_iff_lt.{0}))) (Aa (Aa @ge_iff_le.{0} (Aa @gi.eq_1 @gi.eq_2)) (Aa @di.eq_1 (Aa @di.eq_2 @di.eq_3)))))) (Aa (Aa (Aa (Aa (Aa @bu.eq_1 @bu.eq_2) (Aa @bu.eq_3 (Aa @pev.eq_1 @pev.eq_2))) (Aa (Aa @iy.eq_1 @iy.eq_2) (Aa @iy.eq_3 (Aa @iy.eq_4 @iy.eq_5)))) (Aa (Aa (Aa @iy.eq_6 @iy.eq_7) (Aa @iy.eq_8 (Aa @iy.eq_9 @iy.eq_10))) (Aa (Aa @iy.eq_11 (Aa @iy.eq_12 @ay.eq_1)) (Aa @ay.eq_2 (Aa @ay.eq_3 @ay.eq_4))))) (Aa (Aa (Aa (Aa @ay.eq_5 @ay.eq_6) (Aa @ay.eq_7 (Aa @ay.eq_8 @ay.eq_9))) (Aa (Aa @jq.eq_1 (Aa @dq.eq_1 @dq.eq_2)) (Aa @kg.eq_1 (Aa @ec.eq_1 @TE)))) (Aa (Aa (Aa @TD @bp.under.eq_1) (Aa @bp.under.eq_2 (Aa @List.replicate.eq_1.{0} @List.replicate.eq_2.{0}))) (Aa (Aa @gE (Aa @gF @aF0)) (Aa @jd.eq_1 (Aa @ku.eq_1 @AO.effect.eq_def)))))))))
def PW:=Aa @VN (Aa @OS (Aa @OQ (Aa @Int.cast_ofNat_Int (Aa @List.length_append.{0} (Aa @List.length_cons.{0} (Aa @List.length_nil.{0} (Aa @Aw (Aa @gE (Aa @gF (Aa @List.cons_append.{0} @List.nil_append.{0}))))))))))
def az.eqv{w w':PWd}(h0:w'.n0=w.n0)(J:∀b o,w.imm b=Iz o->w'.imm b=Iz o)(he:∀id e,w.env id=Iz e->w'.env id=Iz e){v:PV}{x:AV}(h:az w v x):az w' v x:=by
 induction h with
 | ae x=>exact .ae x
 | bool b=>exact .bool b
 | int k n=>exact .int k n
 | str s=>exact .str s
 | al=>exact .al
 | aa=>exact .aa
 | bd=>exact .bd
 | aq=>exact .aq
 | af=>exact .af
 | ptr h1 h2 h3=>exact .ptr (he _ _ h1) h2 h3
 | ln x q h1 h2=>exact .ln x q (he _ _ h1) h2
 | cp h1 h2 h3 u=>exact .cp (J _ _ h1) h2 fun i y z p q=>u i y z p q
 | sl h1 h2 h3 B E K L u=>exact .sl (J _ _ h1) h2 h3 B (by rw[h0];exact E) (by rw[h0];exact K) fun i y z p q=>u i y z p q
 | slN=>exact .slN
 | ref h1 h2 h3=>exact .ref (he _ _ h1) h2 h3
 | lf h1 h2 h3=>exact .lf (he _ _ h1) h2 h3
 | mi x q h1 h2=>exact .mi x q (he _ _ h1) h2
 | map h1 h2 h3=>exact .map (he _ _ h1) h2 h3
 | nd x q h1 h2=>exact .nd x q (he _ _ h1) h2
 | func h1 h2 h3 B E G I=>exact .func h1 h2 h3 (fun i y z p q=>G i y z p q) fun i y z p q=>I i y z p q
 | yld h1 h2 h3 B E u=>exact .yld (he _ _ h1) h2 h3 B fun i y z p q=>u i y z p q
 | mv x q h1 h2=>exact .mv x q (he _ _ h1) h2
 | iface h u=>exact .iface u
 | agg h1 h2 u=>exact .agg h1 fun i y z p q=>u i y z p q
 | tuple h1 h2 u=>exact .tuple h1 fun i y z p q=>u i y z p q
def ak.eqv{w w':PWd}(h0:w'.n0=w.n0)(u:∀b o,w.imm b=Iz o->w'.imm b=Iz o)(he:∀id e,w.env id=Iz e->w'.env id=Iz e){l:List PV}{l':List AV}(h:ak w l l'):ak w' l l':=
 ⟨h.len,fun i y z p q=>(h.get i y z p q).eqv h0 u he⟩
mutual
def PV.age:PV->PV
 | .sl _ _ sz n cs=> .sl Jc Jc sz n (gK cs)
 | .cp cs o=> .cp (gK cs) o
 | .agg cs=> .agg (gK cs)
 | .tuple cs=> .tuple (gK cs)
 | .func fn f c=> .func fn (gK f) (gK c)
 | .yld id f=> .yld id (gK f)
 | .iface t v=> .iface t (PV.age v)
 | .ae=> .ae
 | .bool b=> .bool b
 | .int k n=> .int k n
 | .str s=> .str s
 | .al=> .al
 | .aa=> .aa
 | .bd=> .bd
 | .aq=> .aq
 | .af=> .af
 | .ptr id g o=> .ptr id g o
 | .ref id g sz off n=> .ref id g sz off n
 | .map id=> .map id
def gK:List PV->List PV
 | []=>[]
 | v::l=>PV.age v::gK l
def PV.swp:PV->PV
 | .sl fl own sz n cs=>match fl,own with
  | false,Jc=> .sl Jc Jc sz n (rE cs)
  | _,_=> .ae
 | .cp _ _=> .ae
 | .agg cs=> .agg (rE cs)
 | .tuple cs=> .tuple (rE cs)
 | .func fn f c=> .func fn (rE f) (rE c)
 | .yld id f=> .yld id (rE f)
 | .iface t v=> .iface t (PV.swp v)
 | .ae=> .ae
 | .bool b=> .bool b
 | .int k n=> .int k n
 | .str s=> .str s
 | .al=> .al
 | .aa=> .aa
 | .bd=> .bd
 | .aq=> .aq
 | .af=> .af
 | .ptr id g o=> .ptr id g o
 | .ref id g sz off n=> .ref id g sz off n
 | .map id=> .map id
def rE:List PV->List PV
 | []=>[]
 | v::l=>PV.swp v::rE l
end
def iE:∀l:List PV,gK l=l.map PV.age
 | []=>rfl
 | v::l=>by simp[gK,iE l]
def rD:∀l:List PV,rE l=l.map PV.swp
 | []=>rfl
 | v::l=>by simp[rE,rD l]
def KJ{l:List PV}{i:Nat}{y:PV}(h:(gK l)[i]? =Iz y):∃z,l[i]? =Iz z/\y=z.age:=by
 rw[iE,Ap]at h
 cases hl:l[i]? with
 | none=>rw[hl]at h;cases h
 | some z=>rw[hl]at h;cases h;exact⟨z,rfl,rfl⟩
def GY{l:List PV}{i:Nat}{y:PV}(h:(rE l)[i]? =Iz y):∃z,l[i]? =Iz z/\y=z.swp:=by
 rw[rD,Ap]at h
 cases hl:l[i]? with
 | none=>rw[hl]at h;cases h
 | some z=>rw[hl]at h;cases h;exact⟨z,rfl,rfl⟩
def az.age{w w':PWd}(hb:∀b o,w.imm b=Iz o->b<w'.n0)(L:∀b o,w.imm b=Iz o->w'.imm b=Iz o)(he:∀id e,w.env id=Iz e->w'.env id=Iz e){v:PV}{x:AV}(h:az w v x):az w' v.age x:=by
 have E:∀{l:List PV} {G:List AV} {f:Nat->Nat},(∀(i:Nat) (y:PV) (z:AV),l[i]? =Iz y->G[f i]? =Iz z->az w' y.age z)->∀(i:Nat) (y:PV) (z:AV),(gK l)[i]? =Iz y->G[f i]? =Iz z->az w' y z:=by intro l G f h i y z p q;obtain⟨u,h1,rfl⟩:=KJ p;exact h i u z h1 q
 have len:∀l:List PV,(gK l).length=l.length:=fun l=>by rw[iE];simp
 induction h with
 | ae x=>simp only[PV.age];exact .ae x
 | bool b=>simp only[PV.age];exact .bool b
 | int k n=>simp only[PV.age];exact .int k n
 | str s=>simp only[PV.age];exact .str s
 | al=>simp only[PV.age];exact .al
 | aa=>simp only[PV.age];exact .aa
 | bd=>simp only[PV.age];exact .bd
 | aq=>simp only[PV.age];exact .aq
 | af=>simp only[PV.age];exact .af
 | ptr h1 h2 h3=>simp only[PV.age];exact .ptr (he _ _ h1) h2 h3
 | ln x q h1 h2=>simp only[PV.age];exact .ln x q (he _ _ h1) h2
 | cp h1 h2 h3 B=>simp only[PV.age];exact .cp (L _ _ h1) (by rw[len];exact h2) (E B)
 | sl h1 h2 h3 I M O Q B=>simp only[PV.age];exact .sl (L _ _ h1) (by rw[len];exact h2) (by rw[len];exact h3) (fun q=>by cases q) (fun q=>by cases q) (fun _ _=>hb _ _ h1) (E B)
 | slN=>simp only[PV.age,gK];exact .slN
 | ref h1 h2 h3=>simp only[PV.age];exact .ref (he _ _ h1) h2 h3
 | lf h1 h2 h3=>simp only[PV.age];exact .lf (he _ _ h1) h2 h3
 | mi x q h1 h2=>simp only[PV.age];exact .mi x q (he _ _ h1) h2
 | map h1 h2 h3=>simp only[PV.age];exact .map (he _ _ h1) h2 h3
 | nd x q h1 h2=>simp only[PV.age];exact .nd x q (he _ _ h1) h2
 | func h1 h2 h3 I M J K=>simp only[PV.age];exact .func h1 (by rw[len];exact h2) (by rw[len];exact h3) (E (f:=id) J) (E (f:=id) K)
 | yld h1 h2 h3 I M B=>simp only[PV.age];exact .yld (he _ _ h1) h2 h3 (by rw[len];exact I) (E (f:=id) B)
 | mv x q h1 h2=>simp only[PV.age];exact .mv x q (he _ _ h1) h2
 | iface h B=>simp only[PV.age];exact .iface B
 | agg h1 h2 B=>simp only[PV.age];exact .agg (by rw[len];exact h1) (E (f:=id) B)
 | tuple h1 h2 B=>simp only[PV.age];exact .tuple (by rw[len];exact h1) (E (f:=id) B)
def az.swp{w w':PWd}(h0:w'.n0=w.n0)(O:∀b o,w.imm b=Iz o->b<w.n0->w'.imm b=Iz o)(he:∀id e,w.env id=Iz e->w'.env id=Iz e){v:PV}{x:AV}(h:az w v x):az w' v.swp x:=by
 have E:∀{l:List PV} {G:List AV} {f:Nat->Nat},(∀(i:Nat) (y:PV) (z:AV),l[i]? =Iz y->G[f i]? =Iz z->az w' y.swp z)->∀(i:Nat) (y:PV) (z:AV),(rE l)[i]? =Iz y->G[f i]? =Iz z->az w' y z:=by intro l G f h i y z p q;obtain⟨u,h1,rfl⟩:=GY p;exact h i u z h1 q
 have len:∀l:List PV,(rE l).length=l.length:=fun l=>by rw[rD];simp
 induction h with
 | ae x=>simp only[PV.swp];exact .ae x
 | bool b=>simp only[PV.swp];exact .bool b
 | int k n=>simp only[PV.swp];exact .int k n
 | str s=>simp only[PV.swp];exact .str s
 | al=>simp only[PV.swp];exact .al
 | aa=>simp only[PV.swp];exact .aa
 | bd=>simp only[PV.swp];exact .bd
 | aq=>simp only[PV.swp];exact .aq
 | af=>simp only[PV.swp];exact .af
 | ptr h1 h2 h3=>simp only[PV.swp];exact .ptr (he _ _ h1) h2 h3
 | ln x q h1 h2=>simp only[PV.swp];exact .ln x q (he _ _ h1) h2
 | cp h1 h2 h3 B=>simp only[PV.swp];exact .ae _
 | @sl fl own sz n cs fl' b ver rw bcs off h1 h2 h3 I L M Q B=>
  cases fl<;>cases own<;>simp only[PV.swp]
  ·exact .sl (O _ _ h1 (M rfl rfl)) (by rw[len];exact h2) (by rw[len];exact h3) (fun q=>by cases q) (fun q=>by cases q) (fun _ _=>by rw[h0];exact M rfl rfl) (E B)
  all_goals exact .ae _
 | @slN fl own sz=>cases fl<;>cases own<;>simp only[PV.swp,rE]<;>first | exact .slN | exact .ae _
 | ref h1 h2 h3=>simp only[PV.swp];exact .ref (he _ _ h1) h2 h3
 | lf h1 h2 h3=>simp only[PV.swp];exact .lf (he _ _ h1) h2 h3
 | mi x q h1 h2=>simp only[PV.swp];exact .mi x q (he _ _ h1) h2
 | map h1 h2 h3=>simp only[PV.swp];exact .map (he _ _ h1) h2 h3
 | nd x q h1 h2=>simp only[PV.swp];exact .nd x q (he _ _ h1) h2
 | func h1 h2 h3 I L J K=>simp only[PV.swp];exact .func h1 (by rw[len];exact h2) (by rw[len];exact h3) (E (f:=id) J) (E (f:=id) K)
 | yld h1 h2 h3 I L B=>simp only[PV.swp];exact .yld (he _ _ h1) h2 h3 (by rw[len];exact I) (E (f:=id) B)
 | mv x q h1 h2=>simp only[PV.swp];exact .mv x q (he _ _ h1) h2
 | iface h B=>simp only[PV.swp];exact .iface B
 | agg h1 h2 B=>simp only[PV.swp];exact .agg (by rw[len];exact h1) (E (f:=id) B)
 | tuple h1 h2 B=>simp only[PV.swp];exact .tuple (by rw[len];exact h1) (E (f:=id) B)
def ak.age{w w':PWd}(hb:∀b o,w.imm b=Iz o->b<w'.n0)(B:∀b o,w.imm b=Iz o->w'.imm b=Iz o)(he:∀id e,w.env id=Iz e->w'.env id=Iz e){l:List PV}{l':List AV}(h:ak w l l'):ak w' (gK l) l':=
 ⟨by rw[iE];simpa using h.len,fun i y z p q=>by
  obtain⟨u,h1,rfl⟩:=KJ p;exact(h.get i u z h1 q).age hb B he⟩
def ak.swp{w w':PWd}(h0:w'.n0=w.n0)(B:∀b o,w.imm b=Iz o->b<w.n0->w'.imm b=Iz o)(he:∀id e,w.env id=Iz e->w'.env id=Iz e){l:List PV}{l':List AV}(h:ak w l l'):ak w' (rE l) l':=
 ⟨by rw[rD];simpa using h.len,fun i y z p q=>by
  obtain⟨u,h1,rfl⟩:=GY p;exact(h.get i u z h1 q).swp h0 B he⟩
def bp.mapC(f:List PV->List PV):bp->bp
 | .cells g ver cs=> .cells g ver (f cs)
 | _=> .gone
section
variable (tab:FuncId->Option AF)
variable {tab}
def wH(h:H):PWd:=⟨h.next,0,fun _=>Ja,h.get⟩
def aDI(h:H):PSt (wH h) h []:=
 ⟨fun b o hb=>hb,(fun id e he=>by cases he),(fun id e b he=>by cases he),(fun id o u=>by simp at u),fun i j x ⟨_,_,h1,_⟩=>by simp at h1,fun i x ⟨_,_,h1,_⟩=>by simp at h1,Ac _⟩
def M6{g:FuncId}{y:List PV}{u:List AV}{h:H}(B:ak (wH h) y u)(E:ai tab g y [] fun r _=>r= .bool Jb):C (lim tab) g u h fun v _=>v= .bool Jb:=
 iH (E (wH h) h u (Ac _) (aDI h) B) fun v J ⟨w',r,K,_,_,G,I⟩=>by subst I;exact i7 G
end
def aC5(f o:Bool)(sz n:Nat)(k:IntKind)(u:List Int):PV.age (.sl f o sz n (u.map (PV.int k)))= .sl Jc Jc sz n (u.map (PV.int k)):=by
 have e:u.map (PV.age∘PV.int k)=u.map (PV.int k):=Di fun x _=>by simp[PV.age]
 simp only[PV.age,iE,Dj,e]
def DZ(k:IntKind)(u:List Int):gK (u.map (PV.int k))=u.map (PV.int k):=by rw[iE,Dj];exact Di fun x _=>by simp[PV.age]
def aAs(f o:Bool)(k:IntKind)(su:List (List Int)):gK (su.map (slI f o k))=su.map (slI Jc Jc k):=by rw[iE,Dj];exact Di fun x _=>aC5 f o 1 _ k x
def AQ(u:List Bool):gK (u.map PV.bool)=u.map PV.bool:=by rw[iE,Dj];exact Di fun x _=>by simp[PV.age]
section
variable {tab:FuncId->Option AF}
end
def xI(n:Nat)(u:List (PV×PV)):Bool:=u.all fun p=>p.1.under n&&p.2.under n
def mf.low{w w':PWd}{m:Nat}(h0:w'.n0=w.n0)(B:∀b o,w.imm b=Iz o->w'.imm b=Iz o)(he:∀id,id<m->w'.env id=w.env id){l:List (PV×PV)}{l':List (AV×AV)}(h:mf w l l')(hb:xI m l=Jb):mf w' l l':=
 ⟨h.len,fun i y z p q=>by have u:=(List.all_eq_true.1 hb) y (Ae p);rw[Aq]at u;obtain⟨a,b⟩:=h.get i y z p q;exact⟨a.low h0 B he u.1,b.low h0 B he u.2⟩⟩
def oC(n:Nat)(M:Mem):bp->Option bp
 | .cells g ver cs=>(dS n M cs).map (.cells g ver)
 | .map ver u=>if xI n u=Jb then Iz (.map ver u)else Ja
 | .gone=>Iz .gone
 | _=>Ja
def jM(n:Nat)(M:Mem):Mem->Option Mem
 | []=>Iz []
 | o::l=>match oC n M o,jM n M l with
  | some x,Iz u=>Iz (x::u)
  | _,_=>Ja
def tK{n:Nat}{M:Mem} :∀{l N:Mem},jM n M l=Iz N->N.length=l.length/\∀(i:Nat) (o:bp),N[i]? =Iz o->∃u,l[i]? =Iz u/\oC n M u=Iz o
 | [],N,h=>by simp only[jM]at h;cases h;exact⟨rfl,fun i o h=>by simp at h⟩
 | o::l,N,h=>by
  simp only[jM]at h;split at h
  ·rename_i x I h1 h2;cases h;obtain⟨p,q⟩:=tK h2;refine⟨by simp[p],fun i B y=>?_⟩
   cases i with
   | zero=>simp at y;subst y;exact⟨o,rfl,h1⟩
   | succ i=>obtain⟨u,E,G⟩:=q i B (by simpa using y);exact⟨u,by simpa using E,G⟩
  ·cases h
open Classical in
def PSt.cutF{w:PWd}{h:H}{M N:Mem}(s:PSt w h M){m n:Nat}(h0:w.id0<=n)(hm:n<=M.length)(Y:jM n M (M.take n)=Iz N):
  PSt (w.cut h n M) h N/\∀m,m<=n->dx m w h M (w.cut h n M) h N:=by
 obtain⟨hlen,I⟩:=tK Y;have hlen:N.length=n:=by rw[hlen];simp;omega
 have live:∀{id x:Nat},ag (w.cut h n M) N id x->id<n/\ag w M id x:=by
  rintro id x ⟨o,e,h1,h2,h3,J⟩;obtain⟨L,K,u⟩:=I id o h1;have y:id<n:=by have:=aI h1;omega
  rw[gN y]at h3;rw[Bc,if_pos y]at K;refine⟨y,L,e,K,?_,h3,J⟩;rintro rfl;simp only[oC]at u;cases u;exact h2 rfl
 refine⟨⟨?_,?_,?_,?_,?_,?_,s.base⟩,fun m Z=>⟨by omega,⟨rfl,rfl,lC s n,fun id y e he=>⟨e,by rw[gN (by omega)];exact he,.inr rfl⟩⟩,Ac _,fun _ _ _=>rfl,fun id x hl _=>(live hl).2,?_⟩⟩
 ·intro b o B;have B:(if ∃id,n<=id/\ag w M id b then h.get b else w.imm b)=Iz o:=B;split at B
  ·exact B
  ·exact s.imm b o B
 ·intro id e he;have he:(if id<n then w.env id else Ja)=Iz e:=he;split at he
  ·omega
  ·cases he
 ·intro id e b he E;have he:(if id<n then w.env id else Ja)=Iz e:=he;split at he
  ·exact s.blk id e b he E
  ·cases he
 ·intro id o V;have y:id<n:=by have:=aI V;omega
  obtain⟨L,K,u⟩:=I id o V;rw[Bc,if_pos y]at K;have r:=s.obj id L K
  cases L with
  | cells g ver cs=>
   simp only[oC]at u
   cases G:dS n M cs with
   | none=>rw[G]at u;cases u
   | some a0=>
    rw[G]at u;cases u;obtain⟨e,h1,h2,h3⟩:=r;refine⟨e,by rw[gN y];exact h1,h2,?_⟩
    cases E:e.blk with
    | none=>rw[E]at h3;have h3:cs=[]:=h3;subst h3;simp only[dS]at G;cases G;rfl
    | some b=>rw[E]at h3;obtain⟨Q,J,R⟩:=h3;exact⟨Q,J,sC s h0 R G⟩
  | gone=>simp only[oC]at u;cases u;trivial
  | map ver es=>
   simp only[oC]at u;by_cases G:xI n es=Jb
   ·rw[if_pos G]at u;cases u;obtain⟨e,b,h1,h2,h3,S,J,R⟩:=r;exact⟨e,b,by rw[gN y];exact h1,h2,h3,S,J,R.low (w:=w) (w':=w.cut h n M) rfl (lC s n) (fun id y=>gN y) G⟩
   ·rw[if_neg G]at u;cases u
  | loop ver r=>simp[oC]at u
 ·intro i j x h1 h2;exact s.inj i j x (live h1).2 (live h2).2
 ·intro i x h1;obtain⟨y,hl⟩:=live h1;refine⟨?_,(s.sep i x hl).2⟩;show(if _ then _ else _)=_;split
  ·rename_i T;obtain⟨j,hj,U⟩:=T;have:=s.inj i j x hl U;omega
  ·exact(s.sep i x hl).1
 ·intro x O;have O:(if ∃id,n<=id/\ag w M id x then h.get x else w.imm x)≠Ja:=O;split at O
  ·rename_i T;obtain⟨id,hid,hl⟩:=T;exact .inr (.inr ⟨id,by omega,hl⟩)
  ·exact .inl O
def GStep.cutF{m:Nat}{a b c:List PV}{M N:Mem}(n:Nat)(u:m<=n)(hl:n<=M.length)(hw:dl a b)(B:dS n M b=Iz c)(y:jM n M (M.take n)=Iz N):GStep m a M c N:=
 ⟨fun hm=>by obtain⟨q,_⟩:=tK y;rw[q];simp;omega,fun w hh a' h0 hm s hr=>by
  obtain⟨E,G⟩:=s.cutF (m:=m) (Ah h0 u) hl y;exact⟨_,G m u,E,sC s (Ah h0 u) (hw.rep hr) B⟩⟩
section
variable {tab:FuncId->Option AF}
def cN{g:FuncId}{args:List PV}{M:Mem}{K:PV->Mem->Prop}(h:ai tab g args M fun r G=>Gh M.length (fun a N=>∃y,a=[y]/\K y N) [r] G):ai tab g args M K:=by intro w hh u h0 s I;refine iH (h w hh u h0 s I) ?_;rintro v J ⟨L,r,Y,B,O,Q,E⟩;unfold Gh at E;obtain⟨b,N,gs,y,rfl,R⟩:=E;obtain⟨S,T,U,V⟩:=gs.go L J [v] (by rw[B.le.id0];exact h0) B.len O (.cons Q (.nil _));exact⟨S,y,N,B.trans T (Ac _),U,V.hd,R⟩
end
def yO(n:Nat)(M:Mem)(k:IntKind)(x:Int):bX n M (.int k x)=Iz (.int k x):=by simp[bX,PV.under]
def TP{n:Nat}{M:Mem}{f o:Bool}{sz k:Nat}{cs:List PV}(h:aD n cs=Jb):bX n M (.sl f o sz k cs)=Iz (.sl f o sz k cs):=by simp[bX,PV.under,h]
def uZ{n:Nat}{M:Mem}{fn:Go.Fn}{f c:List PV}(h:(aD n f&&aD n c)=Jb):bX n M (.func fn f c)=Iz (.func fn f c):=by unfold bX;simp only;rw[if_pos (by rw[xH];exact h)]
def eB{n:Nat}{M:Mem}{id g sz off k ver:Nat}{cs:List PV}(y:n<=id)(u:M[id]? =Iz (.cells g ver cs))(h1:off+k*sz<=cs.length)(h2:aD n cs=Jb):bX n M (.ref id g sz off k)=Iz (.sl Jc Jb sz k (aZ cs off (k*sz))):=by unfold bX;simp only;rw[if_neg (by omega),u];simp only;rw[if_pos ⟨trivial,h1,h2⟩]
def uX(n:Nat)(M:Mem)(v:PV)(l:List PV):dS n M (v::l)=yV (bX n M v) (dS n M l):=by simp only[dS,yV];all_goals (split<;>simp_all)
def C4{n:Nat}{M:Mem} :∀{l r:List PV},l.length=r.length->(∀(i:Nat) (v x:PV),l[i]? =Iz v->r[i]? =Iz x->bX n M v=Iz x)->dS n M l=Iz r
 | [],[],_,_=>rfl
 | [],_::_,h,_=>by simp at h
 | _::_,[],h,_=>by simp at h
 | v::l,x::r,h,u=>by rw[uX,u 0 v x rfl rfl,C4 (by simpa using h) (fun i v x h1 h2=>u (i+1) v x (by simpa using h1) (by simpa using h2))];rfl
def PV.mu:PV->Bool
 | .bool _ | .int _ _ | .al | .aa | .bd | .aq | .af=>Jb
 | _=>Jc
def PV.mb:PV->Bool
 | .agg vs=>vs.all PV.mu
 | v=>v.mu
def PV.flat:PV->Bool
 | .tuple vs=>vs.all PV.mb
 | v=>v.mb
def DM{w w':PWd}{r:PV}{x:AV}(hf:r.mu=Jb)(h:az w r x):az w' r x:=by cases h<;>first | (simp[PV.mu]at hf;done) | constructor
def DL{w w':PWd}{r:PV}{x:AV}(hf:r.mb=Jb)(h:az w r x):az w' r x:=by
 cases r with
 | agg B=>
  cases h with
  | agg h1 h2=>refine .agg h1 fun i y z u hz=>DM ?_ (h2 i y z u hz);exact(List.all_eq_true.1 hf) y (Ae u)
 | _=>exact DM hf h
def JY{w w':PWd}{r:PV}{x:AV}(hf:r.flat=Jb)(h:az w r x):az w' r x:=by
 cases r with
 | tuple B=>
  cases h with
  | tuple h1 h2=>refine .tuple h1 fun i y z u hz=>DL ?_ (h2 i y z u hz);exact(List.all_eq_true.1 hf) y (Ae u)
 | _=>exact DL hf h
inductive je (M:Mem):List PV->List PV->Prop
 | nil:je M [] []
 | same {v:PV} {a b:List PV} :v.under 0=Jb->je M a b->je M (v::a) (v::b)
 | ref {id g ver sz off n:Nat} {cs cs2:List PV} {a b:List PV} :M[id]? =Iz (.cells g ver cs)->off+n*sz<=cs.length->aD 0 cs2=Jb->aZ cs off (n*sz)=cs2->je M a b->
   je M (.ref id g sz off n::a) (.sl Jb Jc sz n cs2::b)
 | nest {id g ver sz off n:Nat} {cs cs2:List PV} {a b:List PV} :M[id]? =Iz (.cells g ver cs)->off+n*sz<=cs.length->je M (aZ cs off (n*sz)) cs2->je M a b->
   je M (.ref id g sz off n::a) (.sl Jb Jc sz n cs2::b)
 | agg {cs cs2 a b:List PV} :je M cs cs2->je M a b->je M (.agg cs::a) (.agg cs2::b)
def je.len{M:Mem}{a b:List PV}(h:je M a b):a.length=b.length:=by
 induction h with
 | nil=>rfl
 | same _ _ u=>simp[u]
 | ref _ _ _ _ _ u=>simp[u]
 | nest _ _ _ _ _ u=>simp[u]
 | agg _ _ _ u=>simp[u]
section
variable {tab:FuncId->Option AF}
def iG{g:FuncId}{args args2:List PV}{M:Mem}{K:PV->Mem->Prop}(hb:je M args args2)(hc:ai tab g args2 [] fun r _=>r.flat=Jb/\K r M):ai tab g args M K:=by
 intro w h u h0 s B
 classical
 let w0:PWd:={n0:=w.n0,env:=fun _=>Ja,id0:=0,imm:=fun b=>if ∃id,ag w M id b then h.get b else w.imm b}
 have O:∀b o,w.imm b=Iz o->w0.imm b=Iz o:=fun b o E=>by
  show(if _ then _ else _)=_;split
  ·exact s.imm b o E
  ·exact E
 have s0:PSt w0 h []:=⟨(fun b o E=>by
   have E:(if ∃id,ag w M id b then h.get b else w.imm b)=Iz o:=E;split at E
   ·exact E
   ·exact s.imm b o E),(fun id e he=>by cases he),(fun id e b he=>by cases he),(fun id o ho=>by simp at ho),(fun i j x ⟨_,_,h1,_⟩=>by simp at h1),(fun i x ⟨_,_,h1,_⟩=>by simp at h1),s.base⟩
 have a0:ak w0 args2 u:=by
  clear hc
  induction hb generalizing u with
  | nil=>exact⟨B.len,fun i y z Q=>by simp at Q⟩
  | @same v a b hv _ R=>
   match u,B with
   | x::l,B=>exact .cons (B.hd.low (w:=w) (w':=w0) (m:=0) rfl O (fun id hi=>by omega) hv) (R l B.tl)
   | [],B=>exact absurd B.len (by simp)
  | @ref id g ver sz off n cs J a b hm hl hu a1 _ R=>
   match u,B with
   | x::l,B=>
    refine .cons ?_ (R l B.tl);subst a1;obtain⟨e,S,p2,V⟩:=s.gp hm B.hd;rcases V with⟨rfl,rfl,rfl,_,_⟩ | ⟨fl,b,a2,rfl,p4,Y,T,p7⟩
    ·simpa [aZ]using az.slN
    ·have G:(aZ cs off (n*sz)).length=n*sz:=by simp[aZ];omega
     have hg:w0.imm b=h.get b:=by show(if _ then _ else _)=_;rw[if_pos ⟨id,p7⟩]
     have hs:=(eV T off (n*sz)).low (w:=w) (w':=w0) (m:=0) rfl O (fun id hi=>by omega) hu;refine .sl (hg.trans Y) (by rw[G,<-T.len];exact hl) G (fun _ q=>by cases q) (fun q=>by cases q) (fun _ q=>by cases q) fun i y z Q hz=>hs.get i y z Q ?_;rw[Bc,if_pos (by have:=aI Q;omega),Bf];exact hz
   | [],B=>exact absurd B.len (by simp)
  | @nest id g ver sz off n cs J a b hm hl a3 _ L R=>
   match u,B with
   | x::l,B=>
    refine .cons ?_ (R l B.tl);obtain⟨e,S,p2,V⟩:=s.gp hm B.hd;have G:J.length=n*sz:=by rw[<-a3.len];simp[aZ];omega
    rcases V with⟨rfl,rfl,rfl,_,rfl⟩ | ⟨fl,b,a2,rfl,p4,Y,T,p7⟩
    ·have:J=[]:=List.length_eq_zero_iff.1 (by rw[G];simp);subst this;exact az.slN
    ·have hg:w0.imm b=h.get b:=by show(if _ then _ else _)=_;rw[if_pos ⟨id,p7⟩]
     have hs:=L _ (eV T off (n*sz));refine .sl (hg.trans Y) (by rw[G,<-T.len];exact hl) G (fun _ q=>by cases q) (fun q=>by cases q) (fun _ q=>by cases q) fun i y z Q hz=>hs.get i y z Q ?_;rw[Bc,if_pos (by have:=aI Q;omega),Bf];exact hz
   | [],B=>exact absurd B.len (by simp)
  | @agg cs J a b _ _ L R=>
   match u,B with
   | x::l,B=>
    refine .cons ?_ (R l B.tl)
    cases B.hd with
    | agg h1 h2=>exact .agg (L _ ⟨h1,h2⟩).len (L _ ⟨h1,h2⟩).get
   | [],B=>exact absurd B.len (by simp)
 refine iH (hc w0 h u (Ac _) s0 a0) ?_;rintro v h' ⟨w1,r,M1,S,p2,V,Y,T⟩;have a4:∀x id,¬ag w0 [] id x:=fun x id ⟨_,_,h1,_⟩=>by simp at h1
 have I:∀x,x<h.next->h'.get x=h.get x:=fun x Z=>S.il x Z (a4 x);refine⟨w,r,M,⟨Ac _,Le.refl _ _,S.next,fun x Z _=>I x Z,fun id x a5 _=>a5,fun x Z=> .inl Z⟩,⟨fun b o E=>?_,s.env,fun id e b he U=>Bg (s.blk id e b he U) S.next,fun id o ho=>?_,s.inj,s.sep,Ah s.base S.next⟩,JY Y V,T⟩
 ·exact p2.imm b o (S.le.imm b o (O b o E))
 ·exact kb.mono s (Le.refl _ _) (s.obj id o ho) (fun e he=>he) fun e b he U=>I b (s.blk id e b he U)
end
def je.ints{M:Mem}{k:IntKind}{id g ver n:Nat}{u:List Int}{a b:List PV}(hm:M[id]? =Iz (.cells g ver (u.map (PV.int k))))(y:u.length=n)(h:je M a b):je M (.ref id g 1 0 n::a) (slI Jb Jc k u::b):=by subst y;exact .ref hm (by simp) (aL _ _ _) (by rw[Cj,H6]) h
def ak.wkAt{w:PWd}{v':PV} :∀{a:List PV} {u:List AV} (t:Nat),bc (bu a t) v'->ak w a u->ak w (di a t v') u
 | [],u,t,_,h=>by cases t<;>exact h
 | x::a,[],t,_,h=>absurd h.len (by simp)
 | x::a,y::u,0,hw,h=> .cons (hw w y h.hd) h.tl
 | x::a,y::u,t+1,hw,h=> .cons h.hd (ak.wkAt (a:=a) t hw h.tl)
def GStep.wk{m:Nat}{a b:List PV}{M:Mem}(t:Nat)(u:PV)(h:bc (bu a t) u)(hb:di a t u=b):GStep m a M b M:=by subst hb;exact⟨fun hm=>hm,fun w hh a' h0 hm s y=>⟨w,dx.refl hm w hh,s,y.wkAt t h⟩⟩
def kW(a:List PV):List Nat->List PV->List PV
 | t::u,v::y=>kW (di a t v) u y
 | _,_=>a
def ak.fq{w:PWd} :∀(u:List Nat) {a:List PV} {B:List AV} {G:List PV} {E:List AV},ak w a B->ak w G E->ak w (kW a u G) (_root_.Go.Am.fq B u E)
 | [],a,B,G,E,h,hv=>by simpa [kW,_root_.Go.Am.fq]using h
 | t::u,a,B,[],[],h,hv=>by simpa [kW,_root_.Go.Am.fq]using h
 | t::u,a,B,[],_::_,h,hv=>by have:=hv.len;simp at this
 | t::u,a,B,_::_,[],h,hv=>by have:=hv.len;simp at this
 | t::u,a,B,v::G,x::I,h,hv=>ak.fq u (h.iu t hv.hd) hv.tl
def PSt.nf{w:PWd}{h:H}{M:Mem}(s:PSt w h M){id ver:Nat}{r:jl}(hm:M[id]? =Iz (.loop ver r)):
  ∃e b u,w.env id=Iz e/\e.g=0/\e.blk=Iz b/\h.get b=Iz (.loop (e.v0+ver) u)/\ny w r u/\ag w M id b:=by
 obtain⟨e,b,h1,h2,h3,u,y,B⟩:=s.obj _ _ hm;exact⟨e,b,u,h1,h2,h3,y,B,_,e,hm,by simp,h1,h3⟩
def PSt.ky{w:PWd}{h:H}{M:Mem}(s:PSt w h M){id ver ver2 b:Nat}{r r2:jl}{r2':lm}{e:Ent}(hm:M[id]? =Iz (.loop ver r))(he:w.env id=Iz e)(hg:e.g=0)(hb:e.blk=Iz b)(hr:ny w r2 r2'):
  PSt w (h.set b (.loop (e.v0+ver2) r2')) (M.set id (.loop ver2 r2))/\dx M.length w h M w (h.set b (.loop (e.v0+ver2) r2')) (M.set id (.loop ver2 r2)):=by
 have u:ag w M id b:=⟨_,e,hm,by simp,he,hb⟩;have Q:=u.next s;have hid:=u.lt;have live:∀i x,ag w (M.set id (.loop ver2 r2)) i x->ag w M i x:=by
  rintro i x ⟨O,L,h1,h2,h3,S⟩;by_cases G:id=i
  ·subst G;exact⟨_,L,hm,by simp,h3,S⟩
  ·rw[Bj G]at h1;exact⟨O,L,h1,h2,h3,S⟩
 have y:∀x,x≠b->(h.set b (.loop (e.v0+ver2) r2')).get x=h.get x:=fun x I=>H.bf I;have J:(h.set b (.loop (e.v0+ver2) r2')).get b=Iz (.loop (e.v0+ver2) r2'):=by rw[H.ib,if_pos ⟨rfl,Q⟩]
 refine⟨⟨?_,?_,s.blk,?_,fun i j x h1 h2=>s.inj i j x (live i x h1) (live j x h2),fun i x h1=>s.sep i x (live i x h1),s.base⟩,⟨by simp,Le.refl _ _,Ac _,?_,fun i x h1 _=>live i x h1,fun x I=> .inl I⟩⟩
 ·intro x o I;have:x≠b:=by rintro rfl;rw[(s.sep id x u).1]at I;cases I
  rw[y x this];exact s.imm x o I
 ·intro i L K;have:=s.env i L K;simpa using this
 ·intro i O G;by_cases B:id=i
  ·subst B;rw[Cg hid]at G;cases G;exact⟨e,b,he,hg,hb,r2',J,hr⟩
  ·rw[Bj B]at G;by_cases E:O= .gone
   ·subst E;trivial
   ·refine kb.mono s (Le.refl _ _) (s.obj i O G) (fun _ h=>h) fun L T K R=>y T ?_;rintro rfl;exact B (s.inj id i T u ⟨O,L,G,E,K,R⟩)
 ·intro x I U;refine y x ?_;rintro rfl;exact U id u
section
variable {tab:FuncId->Option AF}
def xC(id:Nat)(K:PV->Mem->Prop)(e:Ex)(a:List PV)(M:Mem):Prop:=
 ∃ver r,M[id]? =Iz (.loop ver r)/\(if e= .normal then K (.bool Jb) (M.set id (.loop (ver+1) {r with state:= .ready,pending:=Ja}))else K (.bool Jc) (M.set id (.loop (ver+1) {r with state:= .done,pending:=Iz e})))
def AZ{id:Nat}{args:List PV}{M:Mem}{K:PV->Mem->Prop}{ver:Nat}{r:jl}(hm:M[id]? =Iz (.loop ver r))(hl:args.length=r.params.length)
  (h:b9 tab M.length r.assign (kW r.tmps r.params args) M (fun a1 M1=>∃G Q,M1[id]? =Iz (.loop G Q)/\Q.state= .ready/\
   b9 tab M.length r.body a1 (M1.set id (.loop (G+1) {Q with state:= .busy})) (xC id K .normal) (xC id K .ret) fun i=>xC id K (.exit i)) (fun _ _=>False) fun _ _ _=>False):OD tab id args M K:=by
 intro w hh b u h0 s c3 ha;obtain⟨e,b2,r',he,hg,hb,b0,hr,c7⟩:=s.nf hm;have E:b2=b:=by obtain⟨o,e2,_,_,R,S⟩:=c3;rw[he]at R;cases R;rw[hb]at S;cases S;rfl
 subst E;unfold RZ;have hlen:u.length=r'.params.length:=by rw[hr.params,<-ha.len];exact hl
 have y:=h w hh (fq r'.tmps r'.params u) h0 (Ac _) s (by rw[hr.params];exact ak.fq _ hr.tmps ha);unfold W at y;obtain⟨e1,a1,h1,y,hq⟩:=y
 cases e1 with
 | ret=>obtain⟨_,_,_,_,_,_,q⟩:=hq;exact q.elim
 | exit i=>obtain⟨_,_,_,_,_,_,q⟩:=hq;exact q.elim
 | normal=>
  obtain⟨w1,d0,M1,t1,s1,c4,G,Q,b8,b1,V⟩:=hq;obtain⟨e2,b3,c0,Y,c5,I,Z,B,c8⟩:=s1.nf b8;have E:b3=b2:=by
   obtain⟨e3,R,S⟩:=t1.le.env id (s.env id e he) e he;rw[Y]at R;cases R;rcases S with S | rfl
   ·omega
   ·rw[hb]at I;cases I;rfl
  subst E;have b4:ny w1 {Q with state:= .busy} {c0 with state:= .busy} :=⟨rfl,B.pending,B.params,B.assign,B.body,B.tmps⟩;obtain⟨s2,t2⟩:=s1.ky (ver2:=G+1) (r2:={Q with state:= .busy}) b8 Y c5 I b4;have c6:M.length<=(M1.set id (.loop (G+1) {Q with state:= .busy})).length:=by simpa using t1.len
  have J:=V w1 _ a1 (by rw[t1.le.id0];exact h0) c6 s2 c4;unfold W at J;obtain⟨e4,a4,h4,J,a2⟩:=J;have b6:∃U a3 M4,dx M.length w1 (h1.set b3 (.loop (e2.v0+(G+1)) {c0 with state:= .busy})) (M1.set id (.loop (G+1) {Q with state:= .busy})) U h4 M4/\PSt U h4 M4/\ak U a3 a4/\xC id K e4 a3 M4:=by
   cases e4 with
   | normal=>exact a2
   | ret=>exact a2
   | exit i=>exact a2
  obtain⟨U,a3,M4,t4,s4,d4,v4,r4,a5,hk⟩:=b6;obtain⟨e5,b5,a6,a7,c1,L,a0,O,c9⟩:=s4.nf a5;have E:b5=b3:=by
   obtain⟨e3,R,S⟩:=t4.le.env id (s.env id e he) e2 Y;rw[a7]at R;cases R;rcases S with S | rfl
   ·omega
   ·rw[I]at L;cases L;rfl
  subst E;have tt:dx M.length w hh M U h4 M4:=(t1.trans (t2.weaken t1.len) (Ac _)).trans t4 (Ac _);have c2:∀(b:Bool) (st:LoopState) (pd:Option Ex),ny U {r4 with state:=st,pending:=pd} {a6 with state:=st,pending:=pd} :=fun _ _ _=>⟨rfl,rfl,O.params,O.assign,O.body,O.tmps⟩;have hcall:∀a9,(if e4= .normal then Iz (AV.bool Jb,h4.set b5 (.loop (e5.v0+v4+1) {a6 with state:= .ready,pending:=Ja}))else Iz (AV.bool Jc,h4.set b5 (.loop (e5.v0+v4+1) {a6 with state:= .done,pending:=Iz e4})))=Iz a9->eX (lim tab) (.func (.yield b5) [] []) u hh=Iz a9:=by intro a9 b7;have g1:hh.get b5=Iz (.loop (e.v0+ver) r'):=b0;simp only[eX,g1,List.nil_append];rw[if_pos hlen,rT,hr.assign,y];simp only[Z];rw[if_pos (by rw[B.state];exact b1),rT,hr.body,show e2.v0+G+1=e2.v0+(G+1) by omega,J];simp only[a0];exact b7
  by_cases hn:e4= .normal
  ·rw[if_pos hn]at hk;obtain⟨s5,t5⟩:=s4.ky (ver2:=v4+1) (r2:={r4 with state:= .ready,pending:=Ja}) a5 a7 c1 L (c2 Jb _ _);exact⟨_,_,hcall _ (by rw[if_pos hn];rfl),U,.bool Jb,_,tt.trans (t5.weaken tt.len) (Ac _),s5,.bool Jb,hk⟩
  ·rw[if_neg hn]at hk;obtain⟨s5,t5⟩:=s4.ky (ver2:=v4+1) (r2:={r4 with state:= .done,pending:=Iz e4}) a5 a7 c1 L (c2 Jb _ _);exact⟨_,_,hcall _ (by rw[if_neg hn];rfl),U,.bool Jc,_,tt.trans (t5.weaken tt.len) (Ac _),s5,.bool Jc,hk⟩
def RW(id:Nat)(a:List PV)(u y:List PV->Mem->Prop)(B:Nat->List PV->Mem->Prop)(v:PV)(M:Mem):Prop:=
 ∃ver r,M[id]? =Iz (.loop ver r)/\r.state≠ .busy/\match r.pending.getD .normal with
  | .normal=>u a (M.set id (.loop (ver+1) {r with state:= .exhausted}))
  | .ret=>y a (M.set id (.loop (ver+1) {r with state:= .exhausted}))
  | .exit i=>B i a (M.set id (.loop (ver+1) {r with state:= .exhausted}))
def OG{m:Nat}{f:AR}{S:List Nat}{G body:AC}{a:List PV}{M:Mem}{Qn Qr:List PV->Mem->Prop}{Qe:Nat->List PV->Mem->Prop}{g:FuncId}{first K:List PV}(hf:pev a f= .func (.func g) first K)
  (h:ai tab g (first++[.yld M.length []]++K) (M++[.loop 0 {state:= .ready,pending:=Ja,tmps:=a,params:=S,assign:=G,body:=body}]) (RW M.length a Qn Qr Qe)):b9 tab m (.rangeFunc f S G body) a M Qn Qr Qe:=by
 intro w hh T h0 hm s ha;have hx:=aQ ha f;rw[hf]at hx;revert hx;generalize hu:ev T f=u;intro hx
 cases hx with
 | func q1 q2 q3 q4 q5=>
  rename_i E I
  let lp:lm:={state:= .ready,pending:=Ja,tmps:=T,params:=S,assign:=G,body:=body}
  obtain⟨s1,t1⟩:=s.alloc (o:= .loop 0 {state:= .ready,pending:=Ja,tmps:=a,params:=S,assign:=G,body:=body}) (o':= .loop 0 lp) (e:=⟨Iz hh.next,0,0⟩) rfl fun w' hl he=>⟨_,_,he,rfl,rfl,lp,H.aj _ _,rfl,rfl,rfl,rfl,rfl,ha.mono hl s.env⟩;have J:(w.bo M.length ⟨Iz hh.next,0,0⟩).env M.length=Iz ⟨Iz hh.next,0,0⟩:=by show(if _=_ then _ else _)=_;rw[if_pos rfl]
  have a0:az (w.bo M.length ⟨Iz hh.next,0,0⟩) (.yld M.length []) (.func (.yield hh.next) [] []):= .yld J rfl rfl rfl (fun i y z p=>by simp at p);have r1:ak w first E:=⟨q2,q4⟩
  have r2:ak w K I:=⟨q3,q5⟩;have hc:=h _ _ (E++[.func (.yield hh.next) [] []]++I) (by show w.id0<=_;simp;omega) s1 (((r1.mono t1.le s.env).append (.cons a0 (.nil _))).append (r2.mono t1.le s.env));unfold C at hc;obtain⟨v,h',hcall,w2,rv,M2,t2,s2,rr,ver,r,U,a1,Q⟩:=hc;obtain⟨e2,b2,r',V,a2,Y,L,B,a5⟩:=s2.nf U;have a3:b2=hh.next:=by
   obtain⟨e3,p1,p2⟩:=t2.le.env M.length (by simp) _ J;rw[V]at p1;cases p1;rcases p2 with p2 | rfl
   ·have p2:0<e2.g:=p2;omega
   ·cases Y;rfl
  subst a3;have Z:r'.state≠ .busy:=by rw[B.state];exact a1
  obtain⟨s3,t3⟩:=s2.ky (ver2:=ver+1) (r2:={r with state:= .exhausted}) (r2':={r' with state:= .exhausted}) U V a2 Y ⟨rfl,B.pending,B.params,B.assign,B.body,B.tmps⟩;have R:=(t1.trans t2 (by simp)).trans (t3.weaken (Ah (by simp) t2.len)) (Ac _);have O:ak w2 a T:=ha.mono R.le s.env;have a4:aS (lim tab) (.rangeFunc f S G body) T hh=Iz (r.pending.getD .normal,T,h'.set hh.next (.loop (e2.v0+(ver+1)) {r' with state:= .exhausted})):=by
   simp only[aS,hu];rw[hcall];simp only[L];rw[if_neg Z,B.pending];rfl
  unfold W;refine⟨_,_,_,a4,?_⟩;have R:=R.weaken hm
  cases hp:r.pending.getD .normal with
  | normal=>rw[hp]at Q;exact⟨w2,a,_,R,s3,O,Q⟩
  | ret=>rw[hp]at Q;exact⟨w2,a,_,R,s3,O,Q⟩
  | exit i=>rw[hp]at Q;exact⟨w2,a,_,R,s3,O,Q⟩
end
section
variable {tab:FuncId->Option AF} {m:Nat} {a:List PV} {M:Mem} {Qn Qr:List PV->Mem->Prop} {Qe:Nat->List PV->Mem->Prop}
def aA{x y:AC}(h:b9 tab m x a M (fun b N=>b9 tab m y b N Qn Qr Qe) Qr Qe):b9 tab m (.seq x y) a M Qn Qr Qe:=by intro w hh B h0 hm s E;rw[aDX];refine iF (h w hh B h0 hm s E) (fun G h1 hl=>?_) (fun _ _ h=>h) fun _ _ _ h=>h;obtain⟨I,b,N,u,J,K,q⟩:=hl;rw[R9];exact iF (q I h1 G (by rw[u.le.id0];exact h0) u.len J K) (fun _ _ h=>h.trans u) (fun _ _ h=>h.trans u) fun _ _ _ h=>h.trans u
def dJ{id:Nat}{x:AC}(h:b9 tab m x a M Qn Qr (K4 id Qn Qe)):b9 tab m (.block id x) a M Qn Qr Qe:=by
 intro w hh G h0 hm s I;rw[RQ];refine iF (h w hh G h0 hm s I) (fun _ _ h=>h) (fun _ _ h=>h) fun i J h1 hl=>?_;obtain⟨u,b,N,y,B,E,q⟩:=hl;rw[mM];unfold K4 at q;by_cases e:i=id
 ·rw[if_pos e]at q ⊢;exact⟨u,b,N,y,B,E,q⟩
 ·rw[if_neg e]at q ⊢;exact⟨u,b,N,y,B,E,q⟩
def D5{u:List Nat}{x:AC}(E:M7 0 u a=Jb)(h:b9 tab m x a M (fun b N=>b9 tab m (.loop u x) b N Qn Qr Qe) Qr Qe):b9 tab m (.loop u x) a M Qn Qr Qe:=by
 intro w hh O h0 hm s G;rw[aA4 _ _ _ _ _ _ _ _ (rT tab)];have e:=oB u a fun s hs=>by simpa using (r9 a 0 u E s hs).2
 have y:=ak.ie u G;rw[e]at y;refine iF (h w hh _ h0 hm s y) (fun I h1 hl=>?_) (fun _ _ h=>h) fun _ _ _ h=>h;obtain⟨J,b,N,B,K,L,q⟩:=hl;rw[aDY];exact iF (q J h1 I (by rw[B.le.id0];exact h0) B.len K L) (fun _ _ h=>h.trans B) (fun _ _ h=>h.trans B) fun _ _ _ h=>h.trans B
def aB{c:AC}(h:RX tab m c a M Qn Qr Qe):b9 tab m c a M Qn Qr Qe:=KQ m c h
def fF{c:AC}{u y:List PV->Mem->Prop}{B:Nat->List PV->Mem->Prop}(h:b9 tab m c a M Qn Qr Qe)(h1:∀b N,Qn b N->u b N)(h2:∀b N,Qr b N->y b N)(h3:∀i b N,Qe i b N->B i b N):b9 tab m c a M u y B:=by
 intro w hh O h0 hm s Q;refine iF (h w hh O h0 hm s Q) ?_ ?_ ?_
 ·rintro L E ⟨G,b,N,I,J,K,q⟩;exact⟨G,b,N,I,J,K,h1 _ _ q⟩
 ·rintro L E ⟨G,b,N,I,J,K,q⟩;exact⟨G,b,N,I,J,K,h2 _ _ q⟩
 ·rintro i L E ⟨G,b,N,I,J,K,q⟩;exact⟨G,b,N,I,J,K,h3 _ _ _ q⟩
def oU{f:AR}{E:List Nat}{y body:AC}{g:FuncId}{first B:List PV}(hf:pev a f= .func (.func g) first B)
  (h:∀u:jl,u.state= .ready->u.pending=Ja->u.tmps=a->u.params=E->u.assign=y->u.body=body->
   ai tab g (first++[.yld M.length []]++B) (M++[.loop 0 u]) (RW M.length a Qn Qr Qe)):b9 tab m (.rangeFunc f E y body) a M Qn Qr Qe:=
 OG hf (h _ rfl rfl rfl rfl rfl rfl)
def Y1{u:jl}(h1:u.state= .ready)(h2:u.pending=Ja):{u with state:= .ready,pending:=Ja} =u:=by cases u;simp_all
end
def cK{α:Type}(n:Nat)(f:Nat->α):List α:=(List.range n).map f
def bT{α:Type}(n:Nat)(f:Nat->α):(cK n f).length=n:=by simp[cK]
def e8{α:Type}{n:Nat}{f:Nat->α}{v:Nat}(h:v<n):(cK n f)[v]? =Iz (f v):=by simp[cK,h]
def SP{α:Type}{n:Nat}{f:Nat->α}{v:Nat}(h:n<=v):(cK n f)[v]? =Ja:=Bi (by rw[bT];exact h)
def xQ{α:Type}{n:Nat}{f:Nat->α}{a:List α}(hl:a.length=n)(h:∀v,v<n->a[v]? =Iz (f v)):a=cK n f:=by
 apply Ea;intro v;rcases Az v n with q | q
 ·rw[h v q,e8 q]
 ·rw[Bi (by omega),SP q]
def fQ{α:Type}{n:Nat}{f g:Nat->α}(h:∀v,v<n->f v=g v):cK n f=cK n g:=xQ (bT _ _) fun v hv=>by rw[e8 hv,h v hv]
def rB{α:Type}{n:Nat}{f:Nat->α}{u:Nat}(x:α)(h:u<n):(cK n f).set u x=cK n (fun v=>if v=u then x else f v):=xQ (by rw[List.length_set,bT]) fun v hv=>by
 rw[Eh];by_cases e:u=v
 ·subst e;rw[if_pos rfl,if_pos (by rw[bT];exact h),if_pos rfl]
 ·rw[if_neg e,e8 hv,if_neg fun q=>e q.symm]
def rC{α:Type}(n:Nat)(x:α):Ag n x=cK n (fun _=>x):=xQ (by simp) fun v hv=>by simp[hv]
def xP{α β:Type}(n:Nat)(f:Nat->α)(g:α->β):(cK n f).map g=cK n (fun v=>g (f v)):=by simp[cK,Dj,Function.comp_def]
def xO{α:Type}{n:Nat}{f:Nat->α}{x:α}(h:x∈cK n f):∃v,v<n/\f v=x:=by obtain⟨v,hv,e⟩:=List.mem_map.1 h;exact⟨v,List.mem_range.1 hv,e⟩
def dl.refl:∀a:List PV,dl a a
 | []=>trivial
 | _::a=>⟨.inr rfl,dl.refl a⟩
def uY{n:Nat}{M:Mem}{v:PV}(h:v.under n=Jb):bX n M v=Iz v:=by cases v<;>simp_all [bX,PV.under]
def jB{n:Nat}{M:Mem} :∀{l:List PV},aD n l=Jb->dS n M l=Iz l
 | [],_=>rfl
 | v::l,h=>by have h2:=(dE n (v::l)).1 h;rw[uX,uY (h2 v (by simp)),jB ((dE n l).2 fun x u=>h2 x (by simp[u]))];rfl
def aG(n:Nat):bp->Bool
 | .cells _ _ cs=>aD n cs
 | .map _ u=>xI n u
 | .gone=>Jb
 | _=>Jc
def XP{n:Nat}{M:Mem}{o:bp}(h:aG n o=Jb):oC n M o=Iz o:=by
 cases o with
 | cells g ver cs=>simp only[aG]at h;simp only[oC,jB h,Option.map_some]
 | map ver u=>simp only[aG]at h;simp only[oC,h,if_true]
 | gone=>rfl
 | loop ver r=>simp[aG]at h
def MA{n:Nat}{M l u:Mem}{o x:bp}(h1:oC n M o=Iz x)(h2:jM n M l=Iz u):jM n M (o::l)=Iz (x::u):=by simp only[jM,h1,h2]
def IG{n:Nat}{M:Mem} :∀{l r xs:Mem},l.all (aG n)=Jb->jM n M r=Iz xs->jM n M (l++r)=Iz (l++xs)
 | [],r,xs,_,h=>h
 | o::l,r,xs,u,h=>by simp only[List.all_cons,Aq]at u;exact MA (XP u.1) (IG u.2 h)
def H5{w w':PWd}{h:H}{m id:Nat}{o:bp}(h0:w'.n0=w.n0)(E:∀b o,w.imm b=Iz o->w'.imm b=Iz o)(he:∀id,id<m->w'.env id=w.env id)(hid:id<m)(u:aG m o=Jb)(G:kb w h id o):kb w' h id o:=by
 cases o with
 | cells g ver cs=>
  obtain⟨e,h1,h2,h3⟩:=G;refine⟨e,by rw[he id hid];exact h1,h2,?_⟩
  cases hb:e.blk with
  | none=>rw[hb]at h3;exact h3
  | some b=>rw[hb]at h3;obtain⟨y,I,J⟩:=h3;exact⟨y,I,J.low h0 E he u⟩
 | gone=>trivial
 | map ver M=>obtain⟨e,b,h1,h2,h3,B,K,L⟩:=G;exact⟨e,b,by rw[he id hid];exact h1,h2,h3,B,K,L.low h0 E he u⟩
 | loop ver r=>cases u
section
variable {tab:FuncId->Option AF}
def lE{m:Nat}{g:FuncId}{args:List PV}{M:Mem}{K:PV->Mem->Prop}(hm:m<=M.length)(hb:aD m args=Jb)(hM:(M.take m).all (aG m)=Jb)
  (hc:ai tab g args (M.take m) fun r E=>r.under m=Jb/\E.length=m/\E.all (aG m)=Jb/\K r (E++M.drop m)):ai tab g args M K:=by
 intro w h O h0 s ha
 let w0:PWd:={n0:=w.n0,id0:=min w.id0 m,imm:=w.imm,env:=fun id=>if id<m then w.env id else Ja}
 have hlen:(M.take m).length=m:=by simp;omega
 have we:∀id,id<m->w0.env id=w.env id:=fun id u=>by show(if _ then _ else _)=_;rw[if_pos u]
 have wn:∀id e,w0.env id=Iz e->id<m/\w.env id=Iz e:=fun id e he=>by
  have he:(if id<m then w.env id else Ja)=Iz e:=he;split at he
  ·rename_i q;exact⟨q,he⟩
  ·cases he
 have S:∀id,id<m->(M.take m)[id]? =M[id]? :=fun id u=>by rw[Bc,if_pos u]
 have live:∀id x,ag w0 (M.take m) id x->id<m/\ag w M id x:=by rintro id x ⟨o,e,B,Y,p3,p4⟩;obtain⟨G,Q⟩:=wn id e p3;rw[S id G]at B;exact⟨G,o,e,B,Y,Q,p4⟩
 have s0:PSt w0 h (M.take m):=by
  refine⟨s.imm,fun id e he=>by rw[hlen];exact(wn id e he).1,fun id e b he I=>s.blk id e b (wn id e he).2 I,fun id o R=>?_,fun i j x h1 h2=>s.inj i j x (live i x h1).2 (live j x h2).2,fun i x h1=>⟨(s.sep i x (live i x h1).2).1,fun q=>(s.sep i x (live i x h1).2).2 ?_⟩,s.base⟩
  ·have u:=aI R;rw[hlen]at u;have Z:=(List.all_eq_true.1 hM) o (Ae R);rw[S id u]at R;exact H5 (w:=w) (w':=w0) rfl (fun _ _ h=>h) we u Z (s.obj id o R)
  ·have:=(live i x h1).1;have q:min w.id0 m<=i:=q;omega
 have a0:ak w0 args O:=ha.low (w:=w) (w':=w0) rfl (fun _ _ h=>h) we hb;refine iH (hc w0 h O (by rw[hlen];exact Nat.min_le_right _ _) s0 a0) ?_;rintro v h' ⟨T,r,E,B,Y,p3,k1,k2,k3,k4⟩;rw[hlen]at B
 let U:PWd:={n0:=w.n0,id0:=w.id0,imm:=T.imm,env:=fun id=>if id<m then T.env id else w.env id}
 have a2:U.n0=T.n0:=B.le.n0.symm;have e1:∀id,id<m->U.env id=T.env id:=fun id u=>by show(if _ then _ else _)=_;rw[if_pos u]
 have e2:∀id,¬id<m->U.env id=w.env id:=fun id u=>by show(if _ then _ else _)=_;rw[if_neg u]
 have g1:∀id,id<m->(E++M.drop m)[id]? =E[id]? :=fun id u=>Bh (by omega);have g2:∀id,¬id<m->(E++M.drop m)[id]? =M[id]? :=fun id u=>by
  rw[Bo (by omega),Bf,k2,show m+(id-m)=id by omega]
 have hl:Le M.length w U:=by
  refine⟨rfl,rfl,fun b o a4=>B.le.imm b o a4,fun id u e he=>?_⟩;by_cases q:id<m
  ·rw[e1 id q];exact B.le.env id q e (by rw[we id q];exact he)
  ·rw[e2 id q];exact⟨e,he,.inr rfl⟩
 have J:∀i x,i<m->ag U (E++M.drop m) i x->ag T E i x:=by rintro i x u ⟨o,e,G,Q,q3,q4⟩;rw[g1 i u]at G;rw[e1 i u]at q3;exact⟨o,e,G,Q,q3,q4⟩
 have L:∀i x,¬i<m->ag U (E++M.drop m) i x->ag w M i x:=by rintro i x u ⟨o,e,G,Q,q3,q4⟩;rw[g2 i u]at G;rw[e2 i u]at q3;exact⟨o,e,G,Q,q3,q4⟩
 have a3:∀i x,i<m->ag T E i x->x<h.next->ag w M i x:=fun i x u y hx=>(live i x (B.live i x y hx)).2;have V:∀i j x,i<m->¬j<m->ag T E i x->ag w M j x->False:=fun i j x u hj h1 h2=>by have:=s.inj i j x (a3 i x u h1 (h2.next s)) h2;omega
 have a1:∀i x,¬i<m->ag w M i x->h'.get x=h.get x:=fun i x u y=>B.il x (y.next s) fun j hj=>by obtain⟨G,Q⟩:=live j x hj;have:=s.inj i j x y Q;omega
 refine⟨U,r,E++M.drop m,⟨by simp;omega,hl,B.next,fun x hx hn=>B.il x hx fun j hj=>hn j (live j x hj).2,fun i x y hx=>?_,fun x hx=>?_⟩,⟨Y.imm,fun id e he=>?_,fun id e b he I=>?_,fun id o R=>?_,fun i j x h1 h2=>?_,fun i x h1=>?_,Ah s.base B.next⟩,p3.low (w:=T) (w':=U) a2 (fun _ _ h=>h) e1 k1,k4⟩
 ·by_cases q:i<m
  ·exact a3 i x q (J i x q y) hx
  ·exact L i x q y
 ·rcases B.new x hx with e | e | ⟨id,G,Q⟩
  ·exact .inl e
  ·exact .inr (.inl e)
  ·have:=(live id x Q).1;omega
 ·by_cases q:id<m
  ·simp;omega
  ·rw[e2 id q]at he;have:=s.env id e he;simp;omega
 ·by_cases q:id<m
  ·rw[e1 id q]at he;exact Y.blk id e b he I
  ·rw[e2 id q]at he;exact Bg (s.blk id e b he I) B.next
 ·by_cases q:id<m
  ·rw[g1 id q]at R;have Z:=(List.all_eq_true.1 k3) o (Ae R);exact H5 a2 (fun _ _ h=>h) e1 q Z (Y.obj id o R)
  ·rw[g2 id q]at R;by_cases hg:o= .gone
   ·subst hg;trivial
   ·exact kb.mono s hl (s.obj id o R) (fun e he=>by rw[e2 id q];exact he) fun e b he I=>a1 id b q ⟨o,e,R,hg,he,I⟩
 ·by_cases qi:i<m
  ·by_cases qj:j<m
   ·exact Y.inj i j x (J i x qi h1) (J j x qj h2)
   ·exact(V i j x qi qj (J i x qi h1) (L j x qj h2)).elim
  ·by_cases qj:j<m
   ·exact(V j i x qj qi (J j x qj h2) (L i x qi h1)).elim
   ·exact s.inj i j x (L i x qi h1) (L j x qj h2)
 ·by_cases q:i<m
  ·have:=Y.sep i x (J i x q h1);refine⟨this.1,fun G=>?_⟩;have h3:=this.2 (by rw[B.le.id0];exact Ah (Nat.min_le_left _ _) G);rwa [B.le.n0]at h3
  ·have y:=L i x q h1;have:=s.sep i x y;refine⟨?_,this.2⟩;refine Bq fun a5=>?_;rcases B.new x a5 with e | e | ⟨id,G,Q⟩
   ·exact e this.1
   ·have:=y.next s;omega
   ·have:=(live id x Q).1;omega
def mJ{g:FuncId}{args:List PV}{M:Mem}{K:PV->Mem->Prop}(h:ai tab g args M fun r B=>∃y N,fG M.length B r=Iz y/\jM M.length B (B.take M.length)=Iz N/\K y N):ai tab g args M K:=
 fun w hh u h0 s J=>iH (h w hh u h0 s J) fun v L ⟨G,r,O,E,I,Q,y,N,R,S,T⟩=>by
  have hid:G.id0<=M.length:=by rw[E.le.id0];exact h0
  obtain⟨U,V⟩:=I.cutF (m:=M.length) hid E.len S;exact⟨G.cut L M.length O,y,N,E.trans (V M.length (Ac _)) (Ac _),U,FP I hid Q R,T⟩
def gZ{n:Nat}{M l:Mem}(h:l.all (aG n)=Jb):jM n M l=Iz l:=by have:=IG (M:=M) (r:=[]) (xs:=[]) h rfl;simpa using this
end
def PSt.oj{w:PWd}{h:H}{M:Mem}(s:PSt w h M){id g ver:Nat}{cs cs2:List PV}(hm:M[id]? =Iz (.cells g ver cs))(hl:cs2.length=cs.length)
  (hr:∀e b u,w.env id=Iz e->e.blk=Iz b->h.get b=Iz (.cells (e.v0+ver) Jb u)->ak w cs2 u):
  PSt w h (M.set id (.cells g ver cs2))/\∀m,m<=M.length->dx m w h M w h (M.set id (.cells g ver cs2)):=by
 have hid:=aI hm;have live:∀i x,ag w (M.set id (.cells g ver cs2)) i x->ag w M i x:=by
  rintro i x ⟨G,J,h1,h2,h3,E⟩;by_cases B:id=i
  ·subst B;exact⟨_,J,hm,by simp,h3,E⟩
  ·rw[Bj B]at h1;exact⟨G,J,h1,h2,h3,E⟩
 refine⟨⟨s.imm,?_,s.blk,?_,fun i j x h1 h2=>s.inj i j x (live i x h1) (live j x h2),fun i x h1=>s.sep i x (live i x h1),s.base⟩,fun m I=>⟨by simpa using I,Le.refl _ _,Ac _,fun _ _ _=>rfl,fun i x h1 _=>live i x h1,fun x K=> .inl K⟩⟩
 ·intro i e he;simpa using s.env i e he
 ·intro i G B;by_cases y:id=i
  ·subst y;rw[Cg hid]at B;cases B;obtain⟨e,h1,h2,h3⟩:=s.obj id _ hm;refine⟨e,h1,h2,?_⟩
   cases hb:e.blk with
   | none=>rw[hb]at h3;have h3:cs=[]:=h3;subst h3;exact List.length_eq_zero_iff.1 (by simpa using hl)
   | some b=>rw[hb]at h3;obtain⟨u,E,L⟩:=h3;exact⟨u,E,hr e b u h1 hb E⟩
  ·rw[Bj y]at B;exact s.obj i G B
def jm.len{id g:Nat}{cs:List PV} :∀{a b:List PV},jm id g cs a b->b.length=a.length
 | [],[],_=>rfl
 | _::a,_::b,h=>by simp[jm.len h.2]
 | [],_::_,h=>h.elim
 | _::_,[],h=>h.elim
def GStep.ft{m:Nat}{a b:List PV}{M N:Mem}(id j:Nat){g ver B E:Nat}{cs G cj2:List PV}(hid:m<=id)(V:M[id]? =Iz (.cells g ver cs))(L:M[j]? =Iz (.cells B E G))(I:id≠j)(hf:jm id g cs a b)(u:jm id g cs G cj2)
  (Y:(M.set id .gone).set j (.cells B E cj2)=N):GStep m a M b N:=by
 subst Y;refine⟨fun hm=>by simpa using hm,fun w hh a' h0 hm s Z=>?_⟩;obtain⟨w',O,s2,hl,hr⟩:=s.freeze V (Ah h0 hid);have y:(M.set id .gone)[j]? =Iz (.cells B E G):=by rw[Bj I];exact L
 obtain⟨J,k1,k2,Q⟩:=s.obj j _ L;obtain⟨t1,t2⟩:=O.oj (cs2:=cj2) y u.len (fun e b a1 he hb hg=>by
  obtain⟨e',R,p2,p3⟩:=O.obj j _ y;rw[he]at R;cases R;obtain⟨e1,S,q2⟩:=hl.env j (s.env j J k1) J k1;rw[he]at S;cases S;have K:e=J:=by
   rcases q2 with q | q
   ·omega
   ·exact q
  subst K;rw[hb]at Q;obtain⟨T,U,r2⟩:=Q;rw[hg]at U;cases U;exact u.rep hl s.env hr r2)
 exact⟨w',(s2 m hid).trans (t2 m (by simpa using hm)) (Ac _),t1,hf.rep hl s.env hr Z⟩
def GStep.wkC{m:Nat}{a:List PV}{M N:Mem}(id o:Nat){g ver:Nat}{cs:List PV}{v':PV}(E:M[id]? =Iz (.cells g ver cs))(hw:∀v,cs[o]? =Iz v->bc v v')(L:M.set id (.cells g ver (cs.set o v'))=N):GStep m a M a N:=by
 subst L;refine⟨fun hm=>by simpa using hm,fun w hh a' h0 hm s O=>?_⟩;obtain⟨U,k1,k2,G⟩:=s.obj id _ E;obtain⟨Q,R⟩:=s.oj (cs2:=cs.set o v') E (by simp) (fun e b T he hb hg=>by
  rw[k1]at he;cases he;rw[hb]at G;obtain⟨I,J,B⟩:=G;rw[hg]at J;cases J;refine⟨by simpa using B.len,fun i y z u hz=>?_⟩;rw[Eh]at u;split at u
  ·rename_i q;subst q;split at u
   ·rename_i K;cases u;exact hw _ (Ad K) w z (B.get _ _ z (Ad K) hz)
   ·cases u
  ·exact B.get i y z u hz)
 exact⟨w,R m hm,Q,O⟩
section
variable {tab:FuncId->Option AF}
def pL{m:Nat}{a:List PV}{M:Mem}{G K:List PV->Mem->Prop}{L:Nat->List PV->Mem->Prop}{os:List aw}{d size len:Nat}{z:List AV}{y:List (Nat×Nat×AR)}{chk:List Nat}
  (h:∃cs,dq a (cG len (z.map ay)) y=Iz cs/\RO tab os (di a d (.ref M.length 0 size 0 len)) (M++[.cells 0 0 cs]) G):
  b9 tab m (.region (⟨Iz d,.buildSlice size len z y,Ja,chk⟩::os)) a M G K L:=by
 intro w hh a' h0 hm s I;rw[AY];obtain⟨cs,O,J⟩:=h
 delta RO at J
 obtain⟨B,Q,R⟩:=lV I y (iZ (dF w z) len) O;obtain⟨S,u⟩:=s.alloc (o:= .cells 0 0 cs) (o':= .cells 0 Jb B) (e:=⟨Iz hh.next,0,0⟩) rfl fun w' hl he=>⟨_,he,rfl,_,H.aj _ _,R.mono hl s.env⟩;have hv:az (w.bo M.length ⟨Iz hh.next,0,0⟩) (.ref M.length 0 size 0 len) (.slice Jb size hh.next 0 len):= .ref (e:=⟨Iz hh.next,0,0⟩) (by show(if _=_ then _ else _)=_;rw[if_pos rfl]) rfl rfl;obtain⟨E,h2,T,U,V,Y,Z,s3,r3,q3⟩:=mK os (by rw[u.le.id0];have:=u.len;omega) S ((I.mono u.le s.env).iu d hv) J;unfold WO;refine⟨E,h2,?_,U,V,Y,(u.trans Z u.len).weaken hm,s3,r3,q3⟩;simp only[iJ,dB,gJ,aop,Q];exact T
def bD{g:FuncId}{F:AFn}(hg:tab g=Iz (.fn F)){args:List PV}{M:Mem}{K:PV->Mem->Prop}(hb:aD 0 args=Jb)
  (u:b9 tab 0 F.body (jq args F.ntmps) [] (oV F.results fun r=>K r M) (oV F.results fun r=>K r M) kg):ai tab g args M K:=by
 refine nM hb (cA hg (fF u (fun b N q=>?_) (fun b N q=>?_) fun i b N q=>?_))
 ·unfold oV at q;exact q
 ·unfold oV at q;exact q
 ·unfold kg at q;exact q
end
section
variable {tab:FuncId->Option AF}
open Classical in
def aCO{w:PWd}{h:H}{M:Mem}(s:PSt w h M){id g ver:Nat}{cs:List PV}(hm:M[id]? =Iz (.cells g ver cs))(I:aD 0 cs=Jb){v:AV}(hv:az w (.ptr id g 0) v):az (w.cut h 0 M) (.cp cs 0) v:=by
 obtain⟨e,h1,h2,h3⟩:=s.jz hm
 cases hv with
 | @ptr _ _ _ J b u K E=>
  rw[h1]at u;cases u;rcases h3 with⟨h3,_⟩ | ⟨S,B,h3,L,O,Q⟩
  ·rw[E]at h3;cases h3
  ·rw[E]at h3;cases h3;have G:(w.cut h 0 M).imm b=Iz (.cells (e.v0+ver) Jb B):=by show(if _ then _ else _)=_;rw[if_pos ⟨id,Af _,Q⟩];exact L
   have hr:ak (w.cut h 0 M) cs B:=ak.low (w:=w) (w':=w.cut h 0 M) (m:=0) rfl (lC s 0) (fun id G=>by omega) O I;have:=az.cp (o:=0) (off:=0) G (by rw[hr.len];omega) (fun i y z R hz=>hr.get i y z R (by simpa using hz));simpa using this
 | @ln _ _ _ J _ T u K=>rw[h1]at u;cases u;omega
def aA5{g:FuncId}{args:List PV}{M:Mem}{K:PV->Mem->Prop}(hb:aD 0 args=Jb)(T:ai tab g args [] fun r M'=>∃id g ver cs,r= .ptr id g 0/\M'[id]? =Iz (.cells g ver cs)/\aD 0 cs=Jb/\K (.cp cs 0) M):ai tab g args M K:=by
 intro w h y h0 s ha
 let w0:PWd:={w with env:=fun _=>Ja,id0:=0}
 have s0:PSt w0 h []:=⟨s.imm,(fun id e he=>by cases he),(fun id e b he=>by cases he),(fun id o U=>by simp at U),(fun i j x ⟨_,_,h1,_⟩=>by simp at h1),(fun i x ⟨_,_,h1,_⟩=>by simp at h1),s.base⟩;have a0:ak w0 args y:=ha.low (w:=w) (w':=w0) rfl (fun _ _ h=>h) (fun id Y=>by omega) hb;refine iH (T w0 h y (Ac _) s0 a0) ?_;rintro v L ⟨O,r,R,E,Z,p3,id,g,ver,cs,rfl,p4,p5,p6⟩;have q1:=aCO Z p4 p5 p3;obtain⟨z1,z2⟩:=Z.cut (m:=0) (Af _) (by simp);have E:=z2 w0 h [] E;have V:O.n0=w.n0:=E.le.n0;have G:∀x id,¬ag w0 [] id x:=fun x id ⟨_,_,h1,_⟩=>by simp at h1
 have B:∀x,x<h.next->L.get x=h.get x:=fun x Q=>E.il x Q (G x)
 let S:PWd:={n0:=w.n0,id0:=w.id0,env:=w.env,imm:=(O.cut L 0 R).imm}
 have hl:Le M.length w S:=⟨rfl,rfl,fun b o I=>E.le.imm b o I,fun id Y e he=>⟨e,he,.inr rfl⟩⟩;have hr:az S (.cp cs 0) v:=by exact q1.low (w:=O.cut L 0 R) (w':=S) (m:=0) V.symm (fun _ _ h=>h) (fun id Y=>by omega) (by simp only[PV.under];exact p5)
 refine⟨S,_,M,⟨Ac _,hl,E.next,fun x Q _=>B x Q,fun id x u _=>u,?_⟩,⟨fun b o I=>z1.imm b o I,s.env,?_,?_,s.inj,?_,Ah s.base E.next⟩,hr,p6⟩
 ·intro x Q;rcases E.new x Q with e | e | ⟨id,_,e⟩
  ·exact .inl e
  ·exact .inr (.inl e)
  ·exact absurd e (G x id)
 ·intro id e b he J;exact Bg (s.blk id e b he J) E.next
 ·intro id o U;exact kb.mono s hl (s.obj id o U) (fun e he=>he) fun e b he J=>B b (s.blk id e b he J)
 ·intro i x u;have u:ag w M i x:=u;refine⟨?_,(s.sep i x u).2⟩;show(O.cut L 0 R).imm x=Ja
  cases T:(O.cut L 0 R).imm x with
  | none=>rfl
  | some o=>
   rcases E.new x (by rw[T];simp)with e | e | ⟨id,_,e⟩
   ·exact absurd (s.sep i x u).1 e
   ·have:=u.next s;omega
   ·exact absurd e (G x id)
end
def ZMp(o:Option bp)(k:Nat->List (PV×PV)->Prop)(t:cu k):Prop:=QMp o k
def RM(kd:Nat)(u:Bool)(z x i:PV)(M:Mem)(K:PV->Mem->List Nat->List Nat->Prop)(t:cu K):Prop:=aBa kd u z x i M K
def RL(kd:Nat)(m i v:PV)(M:Mem)(K:PV->Mem->List Nat->List Nat->Prop)(t:cu K):Prop:=aA9 kd m i v M K
def aDe(ver:Nat)(u:List (PV×PV))(k:Nat->List (PV×PV)->Prop)(t:cu k):ZMp (Iz (.map ver u)) k t=k ver u:=by
 apply propext;constructor
 ·rintro⟨_,_,e,h⟩;cases e;exact h
 ·intro h;exact⟨_,_,rfl,h⟩
section
variable (tab:FuncId->Option AF) (a:List PV) (M:Mem) (K:PV->Mem->List Nat->List Nat->Prop)
def OT:RS tab .makeMap a M K=K (.map M.length) (M++[.map 0 []]) [] []:=by delta RS;rfl
def VP(kd:Nat)(u:Bool)(z:AV)(x i:AR):RS tab (.lookup kd u z x i) a M K=RM kd u (ay z) (pev a x) (pev a i) M K ⟨0⟩:=by delta RS;rfl
def F5(kd:Nat)(m i v:AR):RS tab (.mapUpdate kd m i v) a M K=RL kd (pev a m) (pev a i) (pev a v) M K ⟨0⟩:=by delta RS;rfl
end
def XI(z v:PV):uW Jb z (Iz v)= .tuple [v,.bool Jb]:=(rfl)
def XJ(z v:PV):uW Jc z (Iz v)=v:=(rfl)
def XK(z:PV):uW Jb z Ja= .tuple [z,.bool Jc]:=(rfl)
def XL(z:PV):uW Jc z Ja=z:=(rfl)
attribute [irreducible] ZMp RM RL
def jc(id g:Nat)(cs:List PV):List PV->List PV->Prop
 | [],[]=>True
 | x::a,y::b=>(y= .ae\/x=y\/∃o,x= .ptr id g o/\y= .cp cs o)/\jc id g cs a b
 | _,_=>False
def dQ(id g:Nat)(cs:List PV):jc id g cs [] []=True:=(rfl)
def cU(id g:Nat)(cs:List PV)(x:PV)(a b:List PV):jc id g cs (x::a) (.ae::b)=jc id g cs a b:=by simp[jc]
def cT(id g:Nat)(cs:List PV)(x:PV)(a b:List PV):jc id g cs (x::a) (x::b)=jc id g cs a b:=by simp[jc]
def dP(id g o:Nat)(cs:List PV)(a b:List PV):jc id g cs (.ptr id g o::a) (.cp cs o::b)=jc id g cs a b:=by simp[jc]
def PSt.dw{w:PWd}{h:H}{M:Mem}(s:PSt w h M){id g ver:Nat}{cs:List PV}(hm:M[id]? =Iz (.cells g ver cs))(h0:w.id0<=id):
  ∃w',PSt w' h (M.set id .gone)/\(∀m,m<=id->dx m w h M w' h (M.set id .gone))/\Le M.length w w'/\∀o x,az w (.ptr id g o) x->az w' (.cp cs o) x:=by
 obtain⟨e,h1,h2,h3⟩:=s.jz hm;have hid:=aI hm;rcases h3 with⟨hb,rfl⟩ | ⟨b,S,hb,hg,hr,O⟩
 ·have live:∀i x,ag w (M.set id .gone) i x->ag w M i x:=by
   rintro i x ⟨Q,K,J,T,p3,p4⟩;by_cases B:id=i
   ·subst B;rw[Cg hid]at J;cases J;exact absurd rfl T
   ·rw[Bj B]at J;exact⟨Q,K,J,T,p3,p4⟩
  refine⟨w,⟨s.imm,fun i K he=>by simpa using s.env i K he,s.blk,?_,fun i j x u I=>s.inj i j x (live i x u) (live j x I),fun i x u=>s.sep i x (live i x u),s.base⟩,fun m U=>⟨by simp;omega,Le.refl _ _,Ac _,fun _ _ _=>rfl,fun i x u _=>live i x u,fun x G=> .inl G⟩,Le.refl _ _,?_⟩
  ·intro i Q B;by_cases E:id=i
   ·subst E;rw[Cg hid]at B;cases B;trivial
   ·rw[Bj E]at B;exact s.obj i Q B
  ·intro o x G
   cases G with
   | ptr u I V=>rw[h1]at u;cases u;rw[hb]at V;cases V
   | ln x q0 u I=>rw[h1]at u;cases u;omega
 ·let w':=w.gm b (.cells (e.v0+ver) Jb S)
  have Y:=s.sep id b O;have hl:Le M.length w w':=qF Y.1;have R:∀x,x≠b->w'.imm x=w.imm x:=fun x G=>by show(if _=_ then _ else _)=_;rw[if_neg G]
  have L:w'.imm b=Iz (.cells (e.v0+ver) Jb S):=by show(if _=_ then _ else _)=_;rw[if_pos rfl]
  have live:∀i x,ag w' (M.set id .gone) i x->i≠id/\ag w M i x:=by
   rintro i x ⟨Q,K,J,T,p3,p4⟩;by_cases B:id=i
   ·subst B;rw[Cg hid]at J;cases J;exact absurd rfl T
   ·rw[Bj B]at J;exact⟨fun q=>B q.symm,Q,K,J,T,p3,p4⟩
  refine⟨w',⟨?_,fun i K he=>by simpa using s.env i K he,s.blk,?_,fun i j x u I=>s.inj i j x (live i x u).2 (live j x I).2,?_,s.base⟩,fun m U=>⟨by simp;omega,⟨hl.n0,hl.id0,hl.imm,fun i B=>hl.env i (by omega)⟩,Ac _,fun _ _ _=>rfl,fun i x u _=>(live i x u).2,?_⟩,hl,?_⟩
  ·intro x o G;by_cases Z:x=b
   ·subst Z;rw[L]at G;cases G;exact hg
   ·rw[R x Z]at G;exact s.imm x o G
  ·intro i Q B;by_cases E:id=i
   ·subst E;rw[Cg hid]at B;cases B;trivial
   ·rw[Bj E]at B;exact kb.mono s hl (s.obj i Q B) (fun K he=>he) fun _ _ _ _=>rfl
  ·intro i x u;obtain⟨a0,I⟩:=live i x u;have:x≠b:=by rintro rfl;exact a0 (s.inj i id x I O)
   exact⟨by rw[R x this];exact(s.sep i x I).1,(s.sep i x I).2⟩
  ·intro x G;by_cases Z:x=b
   ·subst Z;exact .inr (.inr ⟨id,U,O⟩)
   ·rw[R x Z]at G;exact .inl G
  ·intro o x G
   cases G with
   | ptr u I V=>rw[h1]at u;cases u;rw[hb]at V;cases V;have hs:=hr.mono hl s.env;have:=az.cp (o:=o) (off:=0) L (by rw[hr.len];omega) (fun i y z hy hz=>hs.get i y z hy (by simpa using hz));simpa using this
   | ln x q0 u I=>rw[h1]at u;cases u;omega
def jc.rep{w w':PWd}{M:Mem}{id g:Nat}{cs:List PV}(hl:Le M.length w w')(hd:∀i e,w.env i=Iz e->i<M.length)(hf:∀o x,az w (.ptr id g o) x->az w' (.cp cs o) x):
  ∀{a b:List PV} {u:List AV},jc id g cs a b->ak w a u->ak w' b u
 | [],[],u,_,h=>⟨h.len,fun i y z q=>by simp at q⟩
 | x::a,y::b,[],_,h=>by have:=h.len;simp at this
 | x::a,y::b,v::u,⟨h1,h2⟩,h=>by
  refine .cons ?_ (jc.rep hl hd hf h2 h.tl);rcases h1 with rfl | rfl | ⟨o,rfl,rfl⟩
  ·exact .ae _
  ·exact h.hd.mono hl hd
  ·exact hf o v h.hd
 | [],_::_,u,hw,h=>hw.elim
 | _::_,[],u,hw,h=>hw.elim
def GStep.dw{m:Nat}{a b:List PV}{M N:Mem}(id:Nat){g ver:Nat}{cs:List PV}(hid:m<=id)(u:M[id]? =Iz (.cells g ver cs))(hf:jc id g cs a b)(y:M.set id .gone=N):GStep m a M b N:=by subst y;refine⟨fun hm=>by simpa using hm,fun w hh a' h0 hm s B=>?_⟩;obtain⟨w',E,G,hl,hr⟩:=s.dw u (Ah h0 hid);exact⟨w',G m hid,E,hf.rep hl s.env hr B⟩
def AW(v:PV)(k:ByteArray->Prop)(t:cu k):Prop:=∃s,v= .str s/\k s
def aAJ(s:ByteArray)(k:ByteArray->Prop)(t:cu k):AW (.str s) k t=k s:=by simp[AW]
section
variable (tab:FuncId->Option AF) (a:List PV) (M:Mem) (K:PV->Mem->List Nat->List Nat->Prop)
def K2(x i:AR):RS tab (.da x i) a M K=AW (pev a x) (fun s=>qT (pev a i) (fun _ k=>0<=k/\dX s[k.toNat]? (fun c=>K (.int .u8 c.toNat) M [] []) ⟨0⟩) ⟨0⟩) ⟨0⟩:=by delta RS AW qT dX;rfl
end
attribute [irreducible] AW
def PSt.here{w:PWd}{h:H}{M:Mem}(s:PSt w h M):PSt {w with id0:=M.length} h M:=by
 let w':PWd:={w with id0:=M.length}
 exact⟨s.imm,s.env,s.blk,fun id o I=>by
   have r:=s.obj id o I
   cases o with
   | cells g ver cs=>
    obtain⟨e,h1,h2,h3⟩:=r;refine⟨e,h1,h2,?_⟩
    cases hb:e.blk with
    | none=>rw[hb]at h3;exact h3
    | some b=>rw[hb]at h3;obtain⟨E,B,u⟩:=h3;exact⟨E,B,u.eqv (w:=w) (w':=w') rfl (fun _ _ h=>h) fun _ _ h=>h⟩
   | map ver L=>obtain⟨e,b,h1,h2,h3,G,B,u⟩:=r;exact⟨e,b,h1,h2,h3,G,B,u.len,fun i y z p q=>⟨(u.get i y z p q).1.eqv (w:=w) (w':=w') rfl (fun _ _ h=>h) (fun _ _ h=>h),(u.get i y z p q).2.eqv (w:=w) (w':=w') rfl (fun _ _ h=>h) fun _ _ h=>h⟩⟩
   | loop ver r=>obtain⟨e,b,h1,h2,h3,J,B,u⟩:=r;exact⟨e,b,h1,h2,h3,J,B,u.state,u.pending,u.params,u.assign,u.body,u.tmps.eqv (w:=w) (w':=w') rfl (fun _ _ h=>h) fun _ _ h=>h⟩
   | gone=>trivial,s.inj,fun i x hl=>⟨(s.sep i x hl).1,fun K=>by have:i<M.length:=ag.lt (w:=w) hl;have:M.length<=i:=K;omega⟩,s.base⟩
section
variable (tab:FuncId->Option AF)
variable {tab}
variable {c x y:AC} {a b:List PV} {M N:Mem} {Qn Qr:List PV->Mem->Prop} {Qe:Nat->List PV->Mem->Prop}
end
section
variable {tab:FuncId->Option AF}
end
section
variable {tab:FuncId->Option AF}
def qU{m:Nat}{a:List PV}{M:Mem}{u B:List PV->Mem->Prop}{E:Nat->List PV->Mem->Prop}{c:AR}{x y:AC}(I:pev a c= .bool Jb)(h:b9 tab m x a M u B E):b9 tab m (.cond c x y) a M u B E:=by intro w hh J h0 hm s G;rw[F2];have hv:=aQ G c;rw[I]at hv;refine⟨Jb,i7 hv,?_⟩;rw[if_pos rfl];exact h w hh J h0 hm s G
end
mutual
def PV.de:PV->Bool
 | .sl _ own _ _ cs=>own&&kA cs
 | .agg cs=>kA cs
 | .tuple cs=>kA cs
 | .bool _=>Jb
 | .int _ _=>Jb
 | .str _=>Jb
 | .al=>Jb
 | .aa=>Jb
 | .bd=>Jb
 | .aq=>Jb
 | .af=>Jb
 | .ae=>Jb
 | .ptr _ _ _=>Jc
 | .ref _ _ _ _ _=>Jc
 | .map _=>Jc
 | .yld _ _=>Jc
 | .cp _ _=>Jc
 | .func _ _ _=>Jc
 | .iface _ _=>Jc
def kA:List PV->Bool
 | []=>Jb
 | v::l=>PV.de v&&kA l
end
def iL:∀(l:List PV),kA l=Jb↔∀v∈l,v.de=Jb
 | []=>by simp[kA]
 | v::l=>by simp[kA,iL l]
def pW{l:List PV}(h:kA l=Jb){i:Nat}{y:PV}(u:l[i]? =Iz y):y.de=Jb:=(iL l).1 h y (Ae u)
def GC(k:IntKind)(u:List Int):kA (u.map (PV.int k))=Jb:=(iL _).2 fun v hv=>by obtain⟨x,_,rfl⟩:=List.mem_map.1 hv;simp[PV.de]
def SA(f:Bool)(sz n:Nat)(k:IntKind)(u:List Int):PV.de (.sl f Jb sz n (u.map (PV.int k)))=Jb:=by simp[PV.de,GC]
def SB(k:IntKind)(n:Int):PV.de (.int k n)=Jb:=by simp[PV.de]
def xE(b:Bool):PV.de (.bool b)=Jb:=by simp[PV.de]
def xD(f:Bool)(sz n:Nat)(cs:List PV):PV.de (.sl f Jb sz n cs)=kA cs:=by simp[PV.de]
def az.de{w w':PWd}(h0:w'.n0<=w.n0)(I:∀b o,w.imm b=Iz o->w.n0<=b->w'.imm b=Iz o){v:PV}{x:AV}(h:az w v x):v.de=Jb->az w' v x:=by
 induction h with
 | ae x=>intro _;exact .ae x
 | bool b=>intro _;exact .bool b
 | int k n=>intro _;exact .int k n
 | str s=>intro _;exact .str s
 | al=>intro _;exact .al
 | aa=>intro _;exact .aa
 | bd=>intro _;exact .bd
 | aq=>intro _;exact .aq
 | af=>intro _;exact .af
 | sl h1 h2 h3 B E M O u=>intro hb;simp only[PV.de,Aq]at hb;obtain⟨G,J⟩:=E hb.1;exact .sl (I _ _ h1 G) h2 h3 B (fun _=>⟨Ah h0 G,J⟩) (fun q=>by rw[hb.1]at q;cases q) fun i y z p q=>u i y z p q (pW hb.2 p)
 | slN=>intro _;exact .slN
 | agg h1 h2 u=>intro hb;simp only[PV.de]at hb;exact .agg h1 fun i y z p q=>u i y z p q (pW hb p)
 | tuple h1 h2 u=>intro hb;simp only[PV.de]at hb;exact .tuple h1 fun i y z p q=>u i y z p q (pW hb p)
 | ptr h1 h2 h3=>intro hb;simp[PV.de]at hb
 | ln x q h1 h2=>intro hb;simp[PV.de]at hb
 | cp h1 h2 h3 u=>intro hb;simp[PV.de]at hb
 | ref h1 h2 h3=>intro hb;simp[PV.de]at hb
 | lf h1 h2 h3=>intro hb;simp[PV.de]at hb
 | mi x q h1 h2=>intro hb;simp[PV.de]at hb
 | map h1 h2 h3=>intro hb;simp[PV.de]at hb
 | nd x q h1 h2=>intro hb;simp[PV.de]at hb
 | func h1 h2 h3 B E K L=>intro hb;simp[PV.de]at hb
 | yld h1 h2 h3 B E u=>intro hb;simp[PV.de]at hb
 | mv x q h1 h2=>intro hb;simp[PV.de]at hb
 | iface h u=>intro hb;simp[PV.de]at hb
section
variable {tab:FuncId->Option AF}
open Classical in
def RC{w w0:PWd}{h:H}{M:Mem}(s:PSt w h M)(hn:w0.n0=w.n0)(O:∀b o,w.imm b=Iz o->w0.imm b=Iz o)(Q:∀id b,ag w M id b->w0.imm b=h.get b){args G:List PV}(hb:je M args G){u:List AV}(B:ak w args u):ak w0 G u:=by
 induction hb generalizing u with
 | nil=>exact⟨B.len,fun i y z K=>by simp at K⟩
 | @same v a b hv _ L=>
  match u,B with
  | x::l,B=>exact .cons (B.hd.low (w:=w) (w':=w0) (m:=0) hn O (fun id hi=>by omega) hv) (L B.tl)
  | [],B=>exact absurd B.len (by simp)
 | @ref id g ver sz off n cs I a b hm hl hu S _ L=>
  match u,B with
  | x::l,B=>
   refine .cons ?_ (L B.tl);subst S;obtain⟨e,p1,p2,T⟩:=s.gp hm B.hd;rcases T with⟨rfl,rfl,rfl,_,_⟩ | ⟨fl,b,U,rfl,p4,V,R,Y⟩
   ·simpa [aZ]using az.slN
   ·have E:(aZ cs off (n*sz)).length=n*sz:=by simp[aZ];omega
    have hg:w0.imm b=h.get b:=Q id b Y;have hs:=(eV R off (n*sz)).low (w:=w) (w':=w0) (m:=0) hn O (fun id hi=>by omega) hu;refine .sl (hg.trans V) (by rw[E,<-R.len];exact hl) E (fun _ q=>by cases q) (fun q=>by cases q) (fun _ q=>by cases q) fun i y z K hz=>hs.get i y z K ?_;rw[Bc,if_pos (by have:=aI K;omega),Bf];exact hz
  | [],B=>exact absurd B.len (by simp)
 | @nest id g ver sz off n cs I a b hm hl Z _ J L=>
  match u,B with
  | x::l,B=>
   refine .cons ?_ (L B.tl);obtain⟨e,p1,p2,T⟩:=s.gp hm B.hd;have E:I.length=n*sz:=by rw[<-Z.len];simp[aZ];omega
   rcases T with⟨rfl,rfl,rfl,_,_⟩ | ⟨fl,b,U,rfl,p4,V,R,Y⟩
   ·have:I=[]:=List.length_eq_zero_iff.1 (by rw[E];simp);subst this;exact az.slN
   ·have hg:w0.imm b=h.get b:=Q id b Y;have hs:=J (eV R off (n*sz));refine .sl (hg.trans V) (by rw[E,<-R.len];exact hl) E (fun _ q=>by cases q) (fun q=>by cases q) (fun _ q=>by cases q) fun i y z K hz=>hs.get i y z K ?_;rw[Bc,if_pos (by have:=aI K;omega),Bf];exact hz
  | [],B=>exact absurd B.len (by simp)
 | @agg cs I a b _ _ J L=>
  match u,B with
  | x::l,B=>
   refine .cons ?_ (L B.tl)
   cases B.hd with
   | agg h1 h2=>exact .agg (J ⟨h1,h2⟩).len (J ⟨h1,h2⟩).get
  | [],B=>exact absurd B.len (by simp)
open Classical in
def uI{g:FuncId}{args args2 args3:List PV}{M:Mem}{K:PV->Mem->Prop}(hb:je M args args2)(he:gK args2=args3)(hc:ai tab g args3 [] fun r _=>r.de=Jb/\K r M):ai tab g args M K:=by
 subst he;intro w h y h0 s ha
 let w0:PWd:={n0:=w.n0,env:=fun _=>Ja,id0:=0,imm:=fun b=>if ∃id,ag w M id b then h.get b else w.imm b}
 have T:∀b o,w.imm b=Iz o->w0.imm b=Iz o:=fun b o u=>by
  show(if _ then _ else _)=_;split
  ·exact s.imm b o u
  ·exact u
 have J:∀b o,w0.imm b=Iz o->h.get b=Iz o:=fun b o u=>by
  have u:(if ∃id,ag w M id b then h.get b else w.imm b)=Iz o:=u;split at u
  ·exact u
  ·exact s.imm b o u
 have a0:ak w0 args2 y:=RC (w0:=w0) s rfl T (fun id b hl=>by show(if _ then _ else _)=_;rw[if_pos ⟨id,hl⟩]) hb ha;have hlt:∀b o,w0.imm b=Iz o->b<h.next:=fun b o u=>by
  have u:(if ∃id,ag w M id b then h.get b else w.imm b)=Iz o:=u;split at u
  ·rename_i q;obtain⟨id,hl⟩:=q;exact hl.next s
  ·exact s.ju u
 let L:PWd:={w0 with n0:=h.next}
 have s1:PSt L h []:=⟨J,(fun id e he=>by cases he),(fun id e b he=>by cases he),(fun id o U=>by simp at U),(fun i j x ⟨_,_,h1,_⟩=>by simp at h1),(fun i x ⟨_,_,h1,_⟩=>by simp at h1),Ac _⟩;have a1:ak L (gK args2) y:=a0.age (w:=w0) (w':=L) hlt (fun _ _ h=>h) fun _ _ h=>h;refine iH (hc L h y (Ac _) s1 a1) ?_;rintro v h' ⟨R,r,M1,O,p2,p3,p5,p6⟩;have V:∀x id,¬ag L [] id x:=fun x id ⟨_,_,h1,_⟩=>by simp at h1
 have B:∀x,x<h.next->h'.get x=h.get x:=fun x I=>O.il x I (V x)
 let Q:PWd:={w with imm:=fun b=>if h.next<=b then R.imm b else w.imm b}
 have S:∀b,b<h.next->Q.imm b=w.imm b:=fun b hb=>by show(if _ then _ else _)=_;rw[if_neg (by omega)]
 have Z:∀b,h.next<=b->Q.imm b=R.imm b:=fun b hb=>by show(if _ then _ else _)=_;rw[if_pos hb]
 have hl:Le M.length w Q:=⟨rfl,rfl,fun b o u=>by rw[S b (s.ju u)];exact u,fun id hi e he=>⟨e,he,.inr rfl⟩⟩;have Y:R.n0=h.next:=O.le.n0;refine⟨Q,r,M,⟨Ac _,hl,O.next,fun x I _=>B x I,fun id x E _=>E,fun x I=>?_⟩,⟨fun b o u=>?_,s.env,fun id e b he G=>Bg (s.blk id e b he G) O.next,fun id o U=>?_,s.inj,fun i x E=>?_,Ah s.base O.next⟩,p3.de (w:=R) (w':=Q) (by rw[Y];exact s.base) (fun b o u hb=>by rw[Z b (by omega)];exact u) p5,p6⟩
 ·by_cases q:h.next<=x
  ·exact .inr (.inl q)
  ·rw[S x (by omega)]at I;exact .inl I
 ·by_cases q:h.next<=b
  ·rw[Z b q]at u;exact p2.imm b o u
  ·rw[S b (by omega)]at u;rw[B b (by omega)];exact s.imm b o u
 ·exact kb.mono s hl (s.obj id o U) (fun e he=>he) fun e b he G=>B b (s.blk id e b he G)
 ·have E:ag w M i x:=E;exact⟨by rw[S x (E.next s)];exact(s.sep i x E).1,(s.sep i x E).2⟩
end
mutual
def PV.sh(k:Nat):PV->PV
 | .ref id g sz off n=> .ref (id+k) g sz off n
 | .ptr id g o=> .ptr (id+k) g o
 | .agg cs=> .agg (shL k cs)
 | .tuple cs=> .tuple (shL k cs)
 | v=>v
def shL(k:Nat):List PV->List PV
 | []=>[]
 | v::l=>PV.sh k v::shL k l
end
mutual
def PV.lv:PV->Bool
 | .ref _ _ _ _ _=>Jb
 | .ptr _ _ _=>Jb
 | .agg cs=>nX cs
 | .tuple cs=>nX cs
 | .sl _ own _ _ cs=>own&&kA cs
 | .bool _=>Jb
 | .int _ _=>Jb
 | .str _=>Jb
 | .al=>Jb
 | .aa=>Jb
 | .bd=>Jb
 | .aq=>Jb
 | .af=>Jb
 | .ae=>Jb
 | _=>Jc
def nX:List PV->Bool
 | []=>Jb
 | v::l=>PV.lv v&&nX l
end
def shO(k:Nat):bp->bp
 | .cells g v cs=> .cells g v (shL k cs)
 | _=> .gone
def aDM:bp->Bool
 | .cells _ _ cs=>nX cs
 | _=>Jb
def wN(k:Nat):∀(l:List PV) (i:Nat),(shL k l)[i]? =(l[i]?).map (PV.sh k)
 | [],i=>by simp[shL]
 | v::l,0=>by simp[shL]
 | v::l,i+1=>by simp[shL,wN k l i]
def wM(k:Nat):∀l:List PV,(shL k l).length=l.length
 | []=>rfl
 | v::l=>by simp[shL,wM k l]
def tF:∀(l:List PV),nX l=Jb↔∀v∈l,v.lv=Jb
 | []=>by simp[nX]
 | v::l=>by simp[nX,tF l]
def tG{l:List PV}(h:nX l=Jb){i:Nat}{y:PV}(u:l[i]? =Iz y):y.lv=Jb:=(tF l).1 h y (Ae u)
def az.sh{k:Nat}{w w':PWd}(h0:w'.n0<=w.n0)(J:∀b o,w.imm b=Iz o->w.n0<=b->w'.imm b=Iz o)(he:∀id e,w.env id=Iz e->w'.env (id+k)=Iz e){v:PV}{x:AV}(h:az w v x):v.lv=Jb->az w' (v.sh k) x:=by
 induction h with
 | ae x=>intro _;exact .ae x
 | bool b=>intro _;exact .bool b
 | int k n=>intro _;exact .int k n
 | str s=>intro _;exact .str s
 | al=>intro _;exact .al
 | aa=>intro _;exact .aa
 | bd=>intro _;exact .bd
 | aq=>intro _;exact .aq
 | af=>intro _;exact .af
 | sl h1 h2 h3 G I K L B=>intro hb;simp only[PV.lv,Aq]at hb;exact(az.sl h1 h2 h3 G I K L).de h0 J (by simp only[PV.de,hb.1,hb.2,Dp])
 | slN=>intro _;exact .slN
 | agg h1 h2 B=>intro hb;simp only[PV.lv]at hb;refine .agg (by rw[wM,h1]) fun i y z p q=>?_;rw[wN]at p;obtain⟨u,E,rfl⟩:=Option.map_eq_some_iff.1 p;exact B i u z E q (tG hb E)
 | tuple h1 h2 B=>intro hb;simp only[PV.lv]at hb;refine .tuple (by rw[wM,h1]) fun i y z p q=>?_;rw[wN]at p;obtain⟨u,E,rfl⟩:=Option.map_eq_some_iff.1 p;exact B i u z E q (tG hb E)
 | ptr h1 h2 h3=>intro _;exact .ptr (he _ _ h1) h2 h3
 | ln x q h1 h2=>intro _;exact .ln x q (he _ _ h1) h2
 | cp h1 h2 h3 B=>intro hb;simp[PV.lv]at hb
 | ref h1 h2 h3=>intro _;exact .ref (he _ _ h1) h2 h3
 | lf h1 h2 h3=>intro _;exact .lf (he _ _ h1) h2 h3
 | mi x q h1 h2=>intro _;exact .mi x q (he _ _ h1) h2
 | map h1 h2 h3=>intro hb;simp[PV.lv]at hb
 | nd x q h1 h2=>intro hb;simp[PV.lv]at hb
 | func h1 h2 h3 G I M O=>intro hb;simp[PV.lv]at hb
 | yld h1 h2 h3 G I B=>intro hb;simp[PV.lv]at hb
 | mv x q h1 h2=>intro hb;simp[PV.lv]at hb
 | iface h B=>intro hb;simp[PV.lv]at hb
def ak.shl{k:Nat}{w w':PWd}(h0:w'.n0<=w.n0)(E:∀b o,w.imm b=Iz o->w.n0<=b->w'.imm b=Iz o)(he:∀id e,w.env id=Iz e->w'.env (id+k)=Iz e){l:List PV}{l':List AV}(h:ak w l l')(hb:nX l=Jb):ak w' (shL k l) l':=
 ⟨by rw[wM];exact h.len,fun i y z p q=>by
  rw[wN]at p;obtain⟨u,B,rfl⟩:=Option.map_eq_some_iff.1 p;exact(h.get i u z B q).sh h0 E he (tG hb B)⟩
section
variable {tab:FuncId->Option AF}
def VK{g:FuncId}{args:List PV}{M:Mem}{K y:PV->Mem->Prop}(h:ai tab g args M K)(B:∀r N,K r N->y r N):ai tab g args M y:=
 fun w hh u h0 s E=>iH (h w hh u h0 s E) fun v Q ⟨G,r,I,J,L,O,q⟩=>⟨G,r,I,J,L,O,B _ _ q⟩
open Classical in
def aA6{g:FuncId}{args args2 args3:List PV}{M:Mem}{K:PV->Mem->Prop}(hb:je M args args2)(he:gK args2=args3)
  (hc:ai tab g args3 [] fun r N=>∃O:Mem,(∀(i:Nat) o,O[i]? =Iz o->o= .gone\/N[i]? =Iz o)/\N.length<=O.length/\r.lv=Jb/\O.all aDM=Jb/\K (r.sh M.length) (M++O.map (shO M.length))):ai tab g args M K:=by
 subst he;intro w h E h0 s ha
 let w0:PWd:={n0:=w.n0,env:=fun _=>Ja,id0:=0,imm:=fun b=>if ∃id,ag w M id b then h.get b else w.imm b}
 have b0:∀b o,w.imm b=Iz o->w0.imm b=Iz o:=fun b o u=>by
  show(if _ then _ else _)=_;split
  ·exact s.imm b o u
  ·exact u
 have a3:∀b o,w0.imm b=Iz o->h.get b=Iz o:=fun b o u=>by
  have u:(if ∃id,ag w M id b then h.get b else w.imm b)=Iz o:=u;split at u
  ·exact u
  ·exact s.imm b o u
 have a0:ak w0 args2 E:=RC (w0:=w0) s rfl b0 (fun id b hl=>by show(if _ then _ else _)=_;rw[if_pos ⟨id,hl⟩]) hb ha;have hlt:∀b o,w0.imm b=Iz o->b<h.next:=fun b o u=>by
  have u:(if ∃id,ag w M id b then h.get b else w.imm b)=Iz o:=u;split at u
  ·rename_i q;obtain⟨id,hl⟩:=q;exact hl.next s
  ·exact s.ju u
 let w1:PWd:={w0 with n0:=h.next}
 have s1:PSt w1 h []:=⟨a3,(fun id e he=>by cases he),(fun id e b he=>by cases he),(fun id o Z=>by simp at Z),(fun i j x ⟨_,_,h1,_⟩=>by simp at h1),(fun i x ⟨_,_,h1,_⟩=>by simp at h1),Ac _⟩;have a1:ak w1 (gK args2) E:=a0.age (w:=w0) (w':=w1) hlt (fun _ _ h=>h) fun _ _ h=>h;refine iH (hc w1 h E (Ac _) s1 a1) ?_;rintro v h' ⟨G,r,N,p1,U,p5,O,n1,n2,r1,o1,p6⟩;have b1:∀x id,¬ag w1 [] id x:=fun x id ⟨_,_,h1,_⟩=>by simp at h1
 have I:∀x,x<h.next->h'.get x=h.get x:=fun x V=>p1.il x V (b1 x);have a5:G.n0=h.next:=p1.le.n0;have a4:G.id0=0:=p1.le.id0
 --what is live in the a2 end is new
 have B:∀i x,ag G N i x->h.next<=x:=fun i x hl=>by have:=(U.sep i x hl).2 (by rw[a4];exact Af _);rw[a5]at this;exact this
 let m:=M.length
 let Q:PWd:={w with imm:=fun b=>if h.next<=b then G.imm b else w.imm b,env:=fun id=>if id<m then w.env id else G.env (id-m)}
 have i1:∀b,b<h.next->Q.imm b=w.imm b:=fun b hb=>by show(if _ then _ else _)=_;rw[if_neg (by omega)]
 have i2:∀b,h.next<=b->Q.imm b=G.imm b:=fun b hb=>by show(if _ then _ else _)=_;rw[if_pos hb]
 have e1:∀id,id<m->Q.env id=w.env id:=fun id R=>by show(if _ then _ else _)=_;rw[if_pos R]
 have e2:∀id,Q.env (id+m)=G.env id:=fun id=>by show(if _ then _ else _)=_;rw[if_neg (by omega),Nat.add_sub_cancel]
 have hl:Le M.length w Q:=⟨rfl,rfl,fun b o u=>by rw[i1 b (s.ju u)];exact u,fun id R e he=>⟨e,by rw[e1 id R];exact he,.inr rfl⟩⟩;have g1:∀id,id<m->(M++O.map (shO m))[id]? =M[id]? :=fun id R=>Bh R;have g2:∀id,¬id<m->(M++O.map (shO m))[id]? =(O[id-m]?).map (shO m):=fun id R=>by
  rw[Bo (by omega),Ap]
 have Y:∀id e,G.env id=Iz e->Q.env (id+m)=Iz e:=fun id e he=>by rw[e2];exact he
 have a6:∀b o,G.imm b=Iz o->G.n0<=b->Q.imm b=Iz o:=fun b o u hb=>by rw[i2 b (by omega)];exact u
 have a7:Q.n0<=G.n0:=by rw[a5];exact s.base
 have J:∀i x,i<m->ag Q (M++O.map (shO m)) i x->ag w M i x:=by rintro i x R ⟨o,e,q1,q2,q3,q4⟩;rw[g1 i R]at q1;rw[e1 i R]at q3;exact⟨o,e,q1,q2,q3,q4⟩
 have L:∀i x,¬i<m->ag Q (M++O.map (shO m)) i x->ag G N (i-m) x:=by
  rintro i x R ⟨o,e,q1,q2,q3,q4⟩;rw[g2 i R]at q1;obtain⟨o',S,rfl⟩:=Option.map_eq_some_iff.1 q1;have q3:G.env (i-m)=Iz e:=by rw[<-e2,Gn (by omega)];exact q3
  rcases n1 _ _ S with rfl | hN
  ·exact absurd rfl q2
  ·exact⟨o',e,hN,fun q=>q2 (by rw[q];rfl),q3,q4⟩
 refine⟨Q,r.sh m,M++O.map (shO m),⟨by simp,hl,p1.next,fun x V _=>I x V,fun id x y V=>?_,fun x V=>?_⟩,⟨fun b o u=>?_,fun id e he=>?_,fun id e b he T=>?_,fun id o Z=>?_,fun i j x h1 h2=>?_,fun i x y=>?_,Ah s.base p1.next⟩,p5.sh a7 a6 Y r1,p6⟩
 ·by_cases q:id<m
  ·exact J id x q y
  ·have:=B _ x (L id x q y);omega
 ·by_cases q:h.next<=x
  ·exact .inr (.inl q)
  ·rw[i1 x (by omega)]at V;exact .inl V
 ·by_cases q:h.next<=b
  ·rw[i2 b q]at u;exact U.imm b o u
  ·rw[i1 b (by omega)]at u;rw[I b (by omega)];exact s.imm b o u
 ·by_cases q:id<m
  ·simp;omega
  ·have he:G.env (id-m)=Iz e:=by rw[<-e2,Gn (by omega)];exact he
   have:=U.env _ _ he;simp;omega
 ·by_cases q:id<m
  ·rw[e1 id q]at he;exact Bg (s.blk id e b he T) p1.next
  ·have he:G.env (id-m)=Iz e:=by rw[<-e2,Gn (by omega)];exact he
   exact U.blk _ e b he T
 ·by_cases q:id<m
  ·rw[g1 id q]at Z;exact kb.mono s hl (s.obj id o Z) (fun e he=>by rw[e1 id q];exact he) fun e b he T=>I b (s.blk id e b he T)
  ·rw[g2 id q]at Z;obtain⟨o',S,rfl⟩:=Option.map_eq_some_iff.1 Z;have ok:=(List.all_eq_true.1 o1) o' (Ae S);rcases n1 _ _ S with rfl | hN
   ·trivial
   ·have hr:=U.obj _ _ hN
    match o',hr,ok with
    | .cells gg vv cs,⟨e,q4,q5,q6⟩,ok=>
     refine⟨e,?_,q5,?_⟩
     ·have:=Y _ _ q4;rwa [Gn (by omega)]at this
     ·cases a9:e.blk with
      | none=>rw[a9]at q6;simp only at q6 ⊢;subst q6;simp[shL]
      | some b=>rw[a9]at q6;obtain⟨b2,z1,z2⟩:=q6;exact⟨b2,z1,z2.shl a7 a6 Y ok⟩
    | .map _ _,_,_=>trivial
    | .loop _ _,_,_=>trivial
    | .gone,_,_=>trivial
 ·by_cases qi:i<m
  ·by_cases qj:j<m
   ·exact s.inj i j x (J i x qi h1) (J j x qj h2)
   ·have a:=(J i x qi h1).next s;have b:=B _ x (L j x qj h2);omega
  ·by_cases qj:j<m
   ·have a:=(J j x qj h2).next s;have b:=B _ x (L i x qi h1);omega
   ·have:=U.inj _ _ x (L i x qi h1) (L j x qj h2);omega
 ·by_cases q:i<m
  ·have y:=J i x q y;exact⟨by rw[i1 x (y.next s)];exact(s.sep i x y).1,(s.sep i x y).2⟩
  ·have y:=L i x q y;have hf:=B _ x y;exact⟨by rw[i2 x hf];exact(U.sep _ x y).1,fun _=>by have:=s.base;show w.n0<=x;omega⟩
end
def aFi(len size:Nat)(x:PV)(l r:Option Int)(M:Mem)(k:PV->List Nat->Prop)(t:cu k):Prop:=aFm len size x l r M k
def aA0(x:PV)(M:Mem)(k:PV->List Nat->Prop)(t:cu k):Prop:=aFr x M k
def aAS(x:PV)(M:Mem)(k:PV->List Nat->Prop)(t:cu k):Prop:=aBb x M k
def aAM(len size id g o:Nat)(l r:Option Int)(M:Mem)(k:PV->List Nat->Prop)(t:cu k):
  aFi len size (.ptr id g o) l r M k t=ZOb M[id]? g (fun _ cs=>(o+len*size<=cs.length/\0<=l.getD 0/\l.getD 0<=r.getD len/\r.getD len<=len)/\k (.ref id g size (o+(l.getD 0).toNat*size) (r.getD len-l.getD 0).toNat) [id]) ⟨0⟩:=by unfold ZOb;rfl
def VI(M:Mem)(k:PV->List Nat->Prop)(t:cu k):aA0 .aa M k t=k (.str ⟨#[]⟩) []:=(rfl)
def aDl(u own:Bool)(sz n:Nat)(cs:List PV)(M:Mem)(k:PV->List Nat->Prop)(t:cu k):aA0 (.sl u own sz n cs) M k t=(sz=1/\dX (kG cs) (fun s=>k (.str ⟨s.toArray⟩) []) ⟨0⟩):=by unfold dX;rfl
def aAZ(id g sz off n:Nat)(M:Mem)(k:PV->List Nat->Prop)(t:cu k):aA0 (.ref id g sz off n) M k t=ZOb M[id]? g (fun _ cs=>(sz=1/\off+n<=cs.length)/\dX (kG (aZ cs off n)) (fun s=>k (.str ⟨s.toArray⟩) [id]) ⟨0⟩) ⟨0⟩:=by unfold ZOb dX;rfl
def U7(id:Nat)(M:Mem)(k:PV->List Nat->Prop)(t:cu k):aAS (.map id) M k t=ZMp M[id]? (fun _ u=>k (p64 u.length) [id]) ⟨0⟩:=by unfold ZMp;rfl
section
variable (tab:FuncId->Option AF) (a:List PV) (M:Mem) (K:PV->Mem->List Nat->List Nat->Prop)
def KZ(x:AR)(u y:Option AR):RS tab (.ep x u y) a M K=AW (pev a x) (fun s=>wC a u (fun l=>wC a y (fun r=>(0<=l.getD 0/\l.getD 0<=r.getD s.size/\r.getD s.size<=s.size)/\K (.str (s.extract (l.getD 0).toNat (r.getD s.size).toNat)) M [] []) ⟨0⟩) ⟨0⟩) ⟨0⟩:=by delta RS AW wC;rfl
def VQ(x:AR):RS tab (.iw x) a M K=AW (pev a x) (fun s=>K (p64 s.size) M [] []) ⟨0⟩:=by delta RS AW;rfl
def K0(len size:Nat)(x:AR)(u y:Option AR):RS tab (.cw len size x u y) a M K=wC a u (fun l=>wC a y (fun r=>aFi len size (pev a x) l r M (fun v rd=>K v M rd []) ⟨0⟩) ⟨0⟩) ⟨0⟩:=by delta RS wC;rfl
def BZ(x:AR):RS tab (.br x) a M K=aA0 (pev a x) M (fun v rd=>K v M rd []) ⟨0⟩:=by delta RS;rfl
def VS(x:AR):RS tab (.ii x) a M K=aAS (pev a x) M (fun v rd=>K v M rd []) ⟨0⟩:=by delta RS;rfl
end
def N8(kd:Nat)(u:Bool)(z:PV)(id:Nat)(s:ByteArray)(M:Mem)(K:PV->Mem->List Nat->List Nat->Prop)(t:cu K):
  RM kd u z (.map id) (.str s) M K t=ZMp M[id]? (fun _ y=>dX (cZ kd (.str s) y) (fun r=>K (uW u z r) M [id] []) ⟨0⟩) ⟨0⟩:=by unfold ZMp RM;delta dX;rfl
def N7(kd:Nat)(id:Nat)(s:ByteArray)(v:PV)(M:Mem)(K:PV->Mem->List Nat->List Nat->Prop)(t:cu K):
  RL kd (.map id) (.str s) v M K t=ZMp M[id]? (fun ver u=>dX (cZ kd (.str s) u) (fun _=>v.one=Jb/\K (.tuple []) (M.set id (.map (ver+1) (fZ kd (.str s) (.str s) v u))) [] [id]) ⟨0⟩) ⟨0⟩:=by unfold ZMp RL;delta dX;rfl
def NW(a b:ByteArray):(a==b)=decide (a=b):=by
 cases a with | mk x=>cases b with | mk y=>
 show(x==y)=_;by_cases h:x=y
 ·subst h;simp
 ·simp[h]
def smE(l:List (ByteArray×PV)):List (PV×PV):=l.map fun p=>(PV.str p.1,p.2)
def rJ(k:ByteArray):List (ByteArray×PV)->Option PV
 | []=>Ja
 | p::l=>if k=p.1 then Iz p.2 else rJ k l
def aBH(l:List (ByteArray×PV)):(smE l).length=l.length:=Al _
def yA(k:ByteArray):∀l:List (ByteArray×PV),cZ 2 (.str k) (smE l)=Iz (rJ k l)
 | []=>rfl
 | p::l=>by
  show(match Iz (k==p.1)with | some Jb=>Iz (Iz _) | some Jc=>cZ 2 (.str k) (smE l) | none=>Ja)=_;unfold rJ;by_cases e:k=p.1
  ·rw[if_pos e,show(k==p.1)=Jb by rw[NW];simp[e]]
  ·rw[if_neg e,show(k==p.1)=Jc by rw[NW];simp[e]];exact yA k l
def ER(k:ByteArray)(v:PV):∀l:List (ByteArray×PV),rJ k l=Ja->fZ 2 (.str k) (.str k) v (smE l)=smE (l++[(k,v)])
 | [],_=>rfl
 | p::l,h=>by
  unfold rJ at h;by_cases e:k=p.1
  ·rw[if_pos e]at h;cases h
  ·rw[if_neg e]at h;show(match Iz (k==p.1)with | some Jb=>_ | _=>_::fZ 2 (.str k) (.str k) v (smE l))=_;rw[show(k==p.1)=Jc by rw[NW];simp[e],ER k v l h];rfl
def XM(n:Nat)(M:Mem)(s:ByteArray):fG n M (.str s)=Iz (.str s):=rfl
def SF(m:Nat)(s:ByteArray):PV.under m (.str s)=Jb:=by simp[PV.under]
def aB6(s:ByteArray):PV.one (.str s)=Jb:=rfl
def MI(s:ByteArray):cB (.str s)=[.str s]:=rfl
def aCa(i:Nat):PV.one (.map i)=Jb:=rfl
def MN(i:Nat):cB (.map i)=[.map i]:=rfl
def E0(kd:Nat)(k:AV):cZ kd k []=Iz Ja:=rfl
def IF(kd:Nat)(key:PV)(k:AV)(v:PV):fZ kd key k v []=[(key,v)]:=rfl
attribute [irreducible] aFi aA0 aAS
def PT:=(Aa (Aa (Aa (Aa (Aa @VQ @OT) (Aa @VP @F5)) (Aa (Aa @VS @aDe) (Aa @N8 @N7))) (Aa (Aa (Aa @U7 @XI) (Aa @XJ @XK)) (Aa (Aa @XL @yA) (Aa @aBH @KZ)))) (Aa (Aa (Aa (Aa @K0 @BZ) (Aa @K2 @aAJ)) (Aa (Aa @aAM @VI) (Aa @aDl @aAZ))) (Aa (Aa (Aa @XM @SF) (Aa @aB6 @MI)) (Aa (Aa @aCa @MN) (Aa @E0 @IF)))))
mutual
def mO{m n:Nat}(h:m<=n):∀v:PV,v.under m=Jb->v.under n=Jb
 | .ptr id g o,q=>by simp only[PV.under,decide_eq_true_eq]at q ⊢;omega
 | .ref id g sz off k,q=>by simp only[PV.under,decide_eq_true_eq]at q ⊢;omega
 | .map id,q=>by simp only[PV.under,decide_eq_true_eq]at q ⊢;omega
 | .yld id f,q=>by simp only[PV.under,Aq,decide_eq_true_eq]at q ⊢;exact⟨by omega,dV h f q.2⟩
 | .cp cs o,q=>by simp only[PV.under]at q ⊢;exact dV h cs q
 | .sl a b c d cs,q=>by simp only[PV.under]at q ⊢;exact dV h cs q
 | .func fn f c,q=>by simp only[PV.under,Aq]at q ⊢;exact⟨dV h f q.1,dV h c q.2⟩
 | .iface t v,q=>by simp only[PV.under]at q ⊢;exact mO h v q
 | .agg cs,q=>by simp only[PV.under]at q ⊢;exact dV h cs q
 | .tuple cs,q=>by simp only[PV.under]at q ⊢;exact dV h cs q
 | .ae,_=>by simp[PV.under]
 | .bool _,_=>by simp[PV.under]
 | .int _ _,_=>by simp[PV.under]
 | .str _,_=>by simp[PV.under]
 | .al,_=>by simp[PV.under]
 | .aa,_=>by simp[PV.under]
 | .bd,_=>by simp[PV.under]
 | .aq,_=>by simp[PV.under]
 | .af,_=>by simp[PV.under]
def dV{m n:Nat}(h:m<=n):∀l:List PV,aD m l=Jb->aD n l=Jb
 | [],_=>by simp[aD]
 | v::l,q=>by simp only[aD,Aq]at q ⊢;exact⟨mO h v q.1,dV h l q.2⟩
end
def NK{m n:Nat}(h:m<=n){o:bp}(q:aG m o=Jb):aG n o=Jb:=by
 cases o with
 | cells g ver cs=>exact dV h cs q
 | map ver y=>refine List.all_eq_true.2 fun p u=>?_;have:=(List.all_eq_true.1 q) p u;simp only[Aq]at this ⊢;exact⟨mO h _ this.1,mO h _ this.2⟩
 | gone=>rfl
 | loop ver r=>cases q
def bC{m n:Nat}(h:m<=n){l:Mem}(q:l.all (aG m)=Jb):l.all (aG n)=Jb:=
 List.all_eq_true.2 fun o u=>NK h ((List.all_eq_true.1 q) o u)
def GStep.fx{m:Nat}{a b:List PV}{M N:Mem}(n:Nat)(u:m<=n)(hl:n<=M.length)(hw:dl a b)(y:aD n b=Jb)(B:(M.take n).all (aG n)=Jb)(E:M.take n=N):GStep m a M b N:=by subst E;exact GStep.cutF n u hl hw (jB y) (gZ B)
def aBI{n:Nat}{l:List (ByteArray×PV)}(h:∀p∈l,p.2.under n=Jb)(ver:Nat):aG n (.map ver (l.map fun p=>(PV.str p.1,p.2)))=Jb:=by refine List.all_eq_true.2 fun p u=>?_;obtain⟨q,y,rfl⟩:=List.mem_map.1 u;simp only[Aq];exact⟨by simp[PV.under],h q y⟩
section
variable {tab:FuncId->Option AF}
def nL{m:Nat}{a:List PV}{M:Mem}{Q U:List PV->Mem->Prop}{V:Nat->List PV->Mem->Prop}{os:List aw}(k:Nat){d size len:Nat}{z:List AV}{I:List (Nat×Nat×AR)}{chk:List Nat}
  (Y:os[k]? =Iz ⟨Iz d,.buildSlice size len z I,Ja,chk⟩)
  (h:RO tab (os.take k) a M fun b N=>∃cs,dq b (cG len (z.map ay)) I=Iz cs/\RO tab (os.drop (k+1)) (di b d (.ref N.length 0 size 0 len)) (N++[.cells 0 0 cs]) Q):
  b9 tab m (.region os) a M Q U V:=by
 have he:os=os.take k++⟨Iz d,.buildSlice size len z I,Ja,chk⟩::os.drop (k+1):=by obtain⟨hl,e⟩:=List.getElem?_eq_some_iff.1 Y;rw[<-e,List.getElem_cons_drop,List.take_append_drop]
 generalize os.take k=y at he h;generalize os.drop (k+1)=J at he h;subst he;intro w hh a' h0 hm s Z;rw[AY]
 delta RO at h
 obtain⟨a0,h1,e1,R,b,N,B,K,S,cs,q1,q2⟩:=mK y (Ah h0 hm) s Z h;obtain⟨L,f1,f2⟩:=lV S I (iZ (dF R z) len) q1;obtain⟨s2,E⟩:=K.alloc (o:= .cells 0 0 cs) (o':= .cells 0 Jb L) (e:=⟨Iz h1.next,0,0⟩) rfl fun w' hl he=>⟨_,he,rfl,_,H.aj _ _,f2.mono hl K.env⟩;have hv:az (R.bo N.length ⟨Iz h1.next,0,0⟩) (.ref N.length 0 size 0 len) (.slice Jb size h1.next 0 len):= .ref (e:=⟨Iz h1.next,0,0⟩) (by show(if _=_ then _ else _)=_;rw[if_pos rfl]) rfl rfl;obtain⟨O,h2,e2,w2,a2,M2,t3,s3,r3,q3⟩:=mK J (by rw[E.le.id0,B.le.id0];have:=B.len;have:=E.len;omega) s2 ((S.mono E.le K.env).iu d hv) q2;unfold WO;refine⟨O,h2,?_,w2,a2,M2,((B.trans E B.len).trans t3 (Ah B.len E.len)).weaken hm,s3,r3,q3⟩;have app:∀(G u:List aw) {a b:List AV} {h h1:H},iJ (lim tab) G a h=Iz (b,h1)->iJ (lim tab) (G++u) a h=iJ (lim tab) u b h1:=by
  intro G
  induction G with
  | nil=>intro u a b h h1 e;simp only[iJ]at e;cases e;rfl
  | cons o G T=>
   intro u a b h h1 e;simp only[iJ,List.cons_append]at e ⊢
   cases hw:dB a o.guard with
   | none=>rw[hw]at e;cases e
   | some t=>
    rw[hw]at e
    cases t with
    | false=>exact T u e
    | true=>
     simp only at e ⊢;split at e
     ·exact T u e
     ·cases e
 rw[app y _ e1];simp only[iJ,dB,gJ,aop,f1];exact e2
end
def aDg(v:PV)(y:Prop)(u:TypeId->PV->Prop)(t:cu u):Prop:=aFo v y u
def aAV(u:Prop)(y:TypeId->PV->Prop)(t:cu y):aDg .af u y t=u:=(rfl)
def U9(y:TypeId)(v:PV)(B:Prop)(u:TypeId->PV->Prop)(t:cu u):aDg (.iface y v) B u t=u y v:=(rfl)
def aAP(M:Mem)(k:Bool->Prop)(t:cu k):qS 4 .af .af M k t=k Jb:=by simp[qS,KS]
def aAO(u:TypeId)(v:PV)(M:Mem)(k:Bool->Prop)(t:cu k):qS 4 (.iface u v) .af M k t=k Jc:=by simp[qS,KS]
def aDc(id g o:Nat)(M:Mem)(k:Bool->Prop)(t:cu k):qS 1 (.ptr id g o) .al M k t=ZOb M[id]? g (fun _ _=>k Jc) ⟨0⟩:=by unfold qS ZOb;rfl
def aDd(M:Mem)(k:Bool->Prop)(t:cu k):qS 1 .al .al M k t=k Jb:=by simp[qS,KS]
def yN(k1 k2:IntKind)(u g:Int)(r:List PV)(t:TypeId):dU (.int k1 u:: .int k2 g::r) t=if u=(t:Int)then Iz g.toNat else dU r t:=(rfl)
def o8(t:TypeId)(v:PV):PV.one (.iface t v)=Jb:=(rfl)
def E5:PV.one .af=Jb:=(rfl)
def jQ(t:TypeId)(v:PV):cB (.iface t v)=[.iface t v]:=(rfl)
def vY:cB .af=[.af]:=(rfl)
def GP(m:Nat)(t:TypeId)(v:PV):PV.under m (.iface t v)=PV.under m v:=by simp[PV.under]
def xG(m:Nat):PV.under m .af=Jb:=by simp[PV.under]
section
variable (tab:FuncId->Option AF) (a:List PV) (M:Mem) (K:PV->Mem->List Nat->List Nat->Prop)
def OM(t:TypeId)(n:String)(u y:List PV)(B:TypeId)(v:PV)(args:List PV)(K:PV->Mem->Prop):
  BA tab (.func (.methodOf t n) u y) (.iface B v::args) M K=dX (dU u B) (fun g=>ai tab g (v::args) M K) ⟨0⟩:=by delta dX;rfl
def aDB(t:TypeId)(z:AV)(x:AR):RS tab (.oe t z x) a M K=aDg (pev a x) (K (.tuple [ay z,.bool Jc]) M [] []) (fun u v=>K (if u=t then .tuple [v,.bool Jb]else .tuple [ay z,.bool Jc]) M [] []) ⟨0⟩:=by delta RS;rfl
def nN(t:TypeId)(x:AR):RS tab (.ia t x) a M K=K (.iface t (pev a x)) M [] []:=by delta RS;rfl
def aDp(v:PV)(k:ByteArray->Prop):aDq v k=∃s,v= .str s/\k s:=by cases v<;>simp[aDq]
def BW(x:AR):RS tab (.cr x) a M K=AW (pev a x) (fun s=>s.size<=140737488355328/\K (.sl Jb Jc 1 s.size (s.data.toList.map fun b=> .int .u8 b.toNat)) M [] []) ⟨0⟩:=by
 delta RS AW
 exact aDp _ _
end
attribute [irreducible] aDg
def PI:=(Aa (Aa (Aa (Aa @aDB @nN) (Aa @BW @aAV)) (Aa (Aa @U9 @aAP) (Aa @aAO @aDc))) (Aa (Aa (Aa @aDd @OM) (Aa @yN @o8)) (Aa (Aa @E5 @jQ) (Aa @vY (Aa @GP @xG)))))
section
variable {tab:FuncId->Option AF}
def RHL(tab:FuncId->Option AF):List aw->List Nat->Nat->List PV->Mem->List ke->(List PV->Mem->Prop)->Prop
 | os,[],i,a,M,u,Q=>RD tab os i a M u Q
 | [],_::_,_,_,_,_,_=>False
 | ⟨d,o,Ja,chk⟩::os,j::B,i,a,M,u,Q=>
  if i=j then ∃size len z E cs,o= .buildSlice size len z E/\dq a (cG len (z.map ay)) E=Iz cs/\chk=[]/\RHL tab os B (i+1) (gi a d (.ref M.length 0 size 0 len)) (M++[.cells 0 0 cs]) (⟨i,[],[],M,M.length+1⟩::u) Q
  else RS tab o a M fun v G rd y=>jd o.effect rd y M u chk=Jb/\RHL tab os (j::B) (i+1) (gi a d v) G (⟨i,rd,y,M,G.length⟩::u) Q
 | ⟨_,_,Iz _,_⟩::_,_::_,_,_,_,_,_=>False
def KHL(tab:FuncId->Option AF)(j:Nat)(G:List Nat)(d:Option Nat)(B:Bool)(chk:List Nat)(os:List aw)(i:Nat)(a:List PV)(M:Mem)(u:List ke)(Q:List PV->Mem->Prop)(v:PV)(E:Mem)(rd y:List Nat):Prop:=
 jd B rd y M u chk=Jb/\RHL tab os (j::G) (i+1) (gi a d v) E (⟨i,rd,y,M,E.length⟩::u) Q
def O2(j:Nat)(G:List Nat)(d:Option Nat)(B:Bool)(chk:List Nat)(os:List aw)(i:Nat)(a:List PV)(M:Mem)(u:List ke)(Q:List PV->Mem->Prop)(v:PV)(E:Mem)(rd y:List Nat):
  KHL tab j G d B chk os i a M u Q v E rd y=(jd B rd y M u chk=Jb/\RHL tab os (j::G) (i+1) (gi a d v) E (⟨i,rd,y,M,E.length⟩::u) Q):=(rfl)
def OI(j i:Nat)(B:List Nat)(y:¬i=j)(d:Option Nat)(o:AO)(chk:List Nat)(os:List aw)(a:List PV)(M:Mem)(u:List ke)(Q:List PV->Mem->Prop):
  RHL tab (⟨d,o,Ja,chk⟩::os) (j::B) i a M u Q=RS tab o a M (KHL tab j B d o.effect chk os i a M u Q):=by
 show(if i=j then _ else _)=_;rw[if_neg y];rfl
def xB(i:Nat)(os:List aw)(a:List PV)(M:Mem)(u:List ke)(Q:List PV->Mem->Prop):RHL tab os [] i a M u Q=RD tab os i a M u Q:=by cases os<;>rfl
def F4(j:Nat)(y:List Nat)(d:Option Nat)(size len:Nat)(z:List AV)(B:List (Nat×Nat×AR))(os:List aw)(a:List PV)(M:Mem)(u:List ke)(Q:List PV->Mem->Prop):
  RHL tab (⟨d,.buildSlice size len z B,Ja,[]⟩::os) (j::y) j a M u Q=∃cs,dq a (cG len (z.map ay)) B=Iz cs/\RHL tab os y (j+1) (gi a d (.ref M.length 0 size 0 len)) (M++[.cells 0 0 cs]) (⟨j,[],[],M,M.length+1⟩::u) Q:=by
 show(if j=j then _ else _)=_;rw[if_pos rfl];apply propext;constructor
 ·rintro⟨_,_,_,_,cs,e,h1,_,h2⟩;cases e;exact⟨cs,h1,h2⟩
 ·rintro⟨cs,h1,h2⟩;exact⟨_,_,_,_,cs,rfl,h1,rfl,h2⟩
def uJ:∀(os:List aw) (js:List Nat) (i:Nat) {w:PWd} {h:H} {M:Mem} {a:List PV} {Y:List AV} {y:List mg} {u:List ke} {Q:List PV->Mem->Prop},w.id0<=M.length->PSt w h M->ak w a Y->ic w h M y u->RHL tab os js i a M u Q->
  ∃G h2,fL (lim tab) os i Y h y=Iz (G,h2)/\∃S Z T,dx M.length w h M S h2 T/\PSt S h2 T/\ak S Z G/\Q Z T
 | os,[],i,w,h,M,a,Y,y,u,Q,h0,s,L,hl,E=>by
  rw[xB]at E
  delta RD at E
  exact sQ os i h0 s L hl E
 | [],_::_,i,w,h,M,a,Y,y,u,Q,h0,s,L,hl,E=>E.elim
 | ⟨d,o,Iz (t,a4),chk⟩::os,_::_,i,w,h,M,a,Y,y,u,Q,h0,s,L,hl,E=>E.elim
 | ⟨d,o,Ja,chk⟩::os,j::js,i,w,h,M,a,Y,y,u,Q,h0,s,L,hl,E=>by
  have E:(if i=j then _ else _):=E;by_cases e:i=j
  ·rw[if_pos e]at E;obtain⟨size,len,z,ps,cs,rfl,q1,rfl,q2⟩:=E;obtain⟨K,f1,f2⟩:=lV L ps (iZ (dF w z) len) q1;obtain⟨U,J⟩:=s.alloc (o:= .cells 0 0 cs) (o':= .cells 0 Jb K) (e:=⟨Iz h.next,0,0⟩) rfl fun w' hl he=>⟨_,he,rfl,_,H.aj _ _,f2.mono hl s.env⟩;have hv:az (w.bo M.length ⟨Iz h.next,0,0⟩) (.ref M.length 0 size 0 len) (.slice Jb size h.next 0 len):= .ref (e:=⟨Iz h.next,0,0⟩) (by show(if _=_ then _ else _)=_;rw[if_pos rfl]) rfl rfl;have hc:=uD s U J (rd0:=[]) (prd:=[]) (chg:=[]) (fun x B=>by cases B) (du.app M _ _) hl (eff:=AO.effect (.buildSlice size len z ps)) (chk:=[]) (by simp[jd]);have I:ic (w.bo M.length ⟨Iz h.next,0,0⟩) (h.alloc (.cells 0 Jb K)) (M++[.cells 0 0 cs]) (⟨i,rdx h (h.alloc (.cells 0 Jb K)) [],h,h.alloc (.cells 0 Jb K)⟩::y) (⟨i,[],[],M,(M++[bp.cells 0 0 cs]).length⟩::u):=by
    refine .cons ⟨rfl,w,_,_,s,U,J,dx.refl (Ac _) _ _,du.app M _ _,rfl,fun x B=>?_⟩ (hl.mono J);simp only at B ⊢;unfold rdx at B;split at B
    ·rename_i hlt;rcases List.mem_cons.1 B with rfl | B
     ·exact .inl ⟨rfl,hlt⟩
     ·cases B
    ·cases B
   obtain⟨G,h2,e2,S,Z,T,t3,s3,r3,q3⟩:=uJ os js (i+1) (by rw[J.le.id0];exact Ah h0 J.len) U ((L.mono J.le s.env).put d hv) I (by simpa using q2);refine⟨G,h2,?_,S,Z,T,J.trans t3 J.len,s3,r3,q3⟩;simp only[fL,dB,gJ,aop,f1];rw[if_pos hc];exact e2
  ·rw[if_neg e]at E
   delta RS at E
   obtain⟨v,h1,rd,e1,w1,p,M1,a0,a1,O,U,hr,V,R,a3,hk⟩:=BB h0 s L o E;have hc:=uD s U O V R hl a3;have I:ic w1 h1 M1 (⟨i,rdx h h1 rd,h,h1⟩::y) (⟨i,a0,a1,M,M1.length⟩::u):=by
    refine .cons ⟨rfl,w,w1,M1,s,U,O,dx.refl (Ac _) w1 h1,R,rfl,fun x B=>?_⟩ (hl.mono O);simp only at B ⊢;unfold rdx at B;split at B
    ·rename_i hlt;rcases List.mem_cons.1 B with rfl | B
     ·exact .inl ⟨rfl,hlt⟩
     ·exact .inr (V x B)
    ·exact .inr (V x B)
   obtain⟨G,h2,e2,S,Z,T,t1,J,t3,t4⟩:=uJ os (j::js) (i+1) (by rw[O.le.id0];exact Ah h0 O.len) U ((L.mono O.le s.env).put d hr) I hk;refine⟨G,h2,?_,S,Z,T,O.trans t1 O.len,J,t3,t4⟩;simp only[fL,dB,e1];rw[if_pos hc];exact e2
def OH{m:Nat}{a:List PV}{M:Mem}{y E:List PV->Mem->Prop}{G:Nat->List PV->Mem->Prop}{os:List aw}(B:List Nat)(h:RHL tab os B 0 a M [] y):b9 tab m (.fe os) a M y E G:=by intro w hh U h0 hm s I;rw[D3];obtain⟨u,h2,J,K,L,O,Q,R,S,T⟩:=uJ os B 0 (Ah h0 hm) s I .nil h;unfold WD;exact⟨u,h2,J,K,L,O,Q.weaken hm,R,S,T⟩
end
def GStep.wkO{m:Nat}{a:List PV}{M N:Mem}(id:Nat){g ver:Nat}{cs cs2:List PV}(y:M[id]? =Iz (.cells g ver cs))(hr:∀w u,ak w cs u->ak w cs2 u)(B:M.set id (.cells g ver cs2)=N):GStep m a M a N:=by subst B;refine⟨fun hm=>by simpa using hm,fun w hh a' h0 hm s E=>?_⟩;obtain⟨G,I⟩:=s.pu y (hr w);exact⟨w,I m hm,G,E⟩
def ak.wkL{w:PWd}{l u:List PV}{l':List AV}(h:ak w l l')(hl:l.length=u.length)(hw:∀(i:Nat) (x y:PV),l[i]? =Iz x->u[i]? =Iz y->bc x y):ak w u l':=
 ⟨by rw[<-hl];exact h.len,fun i y z p q=>by
  obtain⟨x,B⟩:∃x,l[i]? =Iz x:=⟨_,Ad (by rw[hl];exact aI p)⟩;exact hw i x y B p w z (h.get i x z B q)⟩
def ak.wkM{w:PWd}{α:Type}{f g:α->PV}(hw:∀x,bc (f x) (g x)){xs:List α}{l':List AV}(h:ak w (xs.map f) l'):ak w (xs.map g) l':=
 h.wkL (by simp) fun i x y p q=>by
  rw[Ap]at p q
  cases B:xs[i]? with
  | none=>rw[B]at p;cases p
  | some u=>rw[B]at p q;cases p;cases q;exact hw u
def ak.wkA{w:PWd}{α:Type}{E f2 g:α->PV}(h1:∀x,bc (E x) (g x))(h2:∀x,bc (f2 x) (g x)){B ys:List α}{l':List AV}(h:ak w (B.map E++ys.map f2) l'):ak w ((B++ys).map g) l':=
 h.wkL (by simp) fun i x y p q=>by
  rw[List.map_append]at q;by_cases G:i<B.length
  ·rw[Bh (by simpa using G),Ap,Ad G]at p q;cases p;cases q;exact h1 _
  ·rw[Bo (by simp;omega),Al,Ap]at p q
   cases I:ys[i-B.length]? with
   | none=>rw[I]at p;cases p
   | some u=>rw[I]at p q;cases p;cases q;exact h2 u
attribute [irreducible] RHL KHL
def KO(v:PV)(M:Mem)(k:PV->Mem->List Nat->Prop)(t:cu k):Prop:=aA8 v M k
def U3(id g sz off n:Nat)(M:Mem)(k:PV->Mem->List Nat->Prop)(t:cu k):KO (.ref id g sz off n) M k t=ZOb M[id]? g (fun _ cs=>(0<n/\off+n*sz<=cs.length)/\k (.sl Jb Jc sz n (aZ cs off (n*sz))) (M.set id (.cells (g+1) 0 [])) [id]) ⟨0⟩:=by
 delta KO ZOb;rfl
section
variable (tab:FuncId->Option AF) (a:List PV) (M:Mem) (K:PV->Mem->List Nat->List Nat->Prop)
def aBk(x:AR):RS tab (.jk x) a M K=KO (pev a x) M (fun v y u=>K v y [] u) ⟨0⟩:=by
 delta RS KO;rfl
end
attribute [irreducible] KO
end Go.Am

