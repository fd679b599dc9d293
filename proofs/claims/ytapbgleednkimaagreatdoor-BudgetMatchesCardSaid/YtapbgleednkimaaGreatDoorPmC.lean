/- The pure machine: its rules as equations for the simplifier, and what goes with it. -/
import Derived.Test.YtapbgleednkimaaGreatDoorPmS
set_option linter.all false
set_option maxRecDepth 10000
open Classical renaming byContradiction->Cd
open Bool renaming false_eq_true->Aq,and_eq_true->Aw,and_self->Bz,true->Jr,false->Js
open List renaming replicate->Ae,mem_cons_of_mem->Cy,mem_of_getElem?->Af,getElem?_take->Bp,getElem?_drop->Br,getElem?_eq_getElem->Ad,getElem?_set_ne->Bt,getElem?_set_self->Ck,getElem?_append_left->Bm,ext_getElem?->Em,getElem?_set->Dy,getElem?_map->Ap,map_congr_left->Cq,map_map->Cs,getElem?_eq_none->Bu,getElem?_append_right->Bv,length_map->Ag
open Nat renaming le_refl->Ab,lt_or_ge->Bi,zero_le->Au,le_trans->As,lt_of_lt_of_le->Bk,not_lt_zero->Ed,zero_add->Bg,mul_one->Ce,sub_add_cancel->Gy
open And renaming intro->Aa
open Option renaming some->Jp,none->Jq
namespace Go.Am
structure dh {α:Sort _} (k:α):Type where
 n:Nat
structure mi (A B:Prop):Type where
 n:Nat
def uY(v:PV)(k:IntKind->Int->Prop)(t:dh k):Prop:=yY v k
def HK(v:PV)(k:Bool->Prop)(t:dh k):Prop:=PU v k
def J3(v:PV)(k:List PV->Prop)(t:dh k):Prop:=TV v k
def aFJ(v:PV)(k:List PV->Prop)(t:dh k):Prop:=aH4 v k
def ZOb(o:Option bl)(g:Nat)(k:Nat->List PV->Prop)(t:dh k):Prop:=QOb o g k
def iP{α:Type}(o:Option α)(k:α->Prop)(t:dh k):Prop:=kU o k
def aDn(v:PV)(M:Mem)(k:PV->Prop)(t:dh k):Prop:=aH6 v M k
def aFT(size:Nat)(v i:PV)(M:Mem)(k:PV->Prop)(t:dh k):Prop:=aH8 size v i M k
def WB(len size:Nat)(v i:PV)(M:Mem)(k:PV->Prop)(t:dh k):Prop:=aDO len size v i M k
def aFV(off:Nat)(v:PV)(M:Mem)(k:PV->Prop)(t:dh k):Prop:=aH9 off v M k
def HJ(v:PV)(M:Mem)(k:PV->List Nat->Prop)(t:dh k):Prop:=PM v M k
def yV(n:Nat)(v:PV)(M:Mem)(k:PV->List Nat->Prop)(t:dh k):Prop:=EI n v M k
def S8(n:Nat)(p x:PV)(M:Mem)(k:Mem->List Nat->Prop)(t:dh k):Prop:=TO n p x M k
def PE(size:Nat)(x:PV)(M:Mem)(k:List PV->Nat->Prop)(t:dh k):Prop:=PK size x M k
def aDw(size bytes:Nat)(s x:PV)(M:Mem)(K:PV->Mem->List Nat->List Nat->Prop)(t:dh K):Prop:=aDQ size bytes s x M K
def AY(a:List PV)(x:Option AR)(k:Option Int->Prop)(t:dh k):Prop:=E8 a x k
def EB(size:Nat)(v:PV)(l r m:Option Int)(M:Mem)(k:PV->Prop)(t:dh k):Prop:=TP size v l r m M k
def uW(v:PV)(M:Mem)(k:Prop)(t:dh k):Prop:=EH v M k
def uX(kd:Nat)(x y:PV)(M:Mem)(k:Bool->Prop)(t:dh k):Prop:=PL kd x y M k
def kG(v:PV)(u:Bool)(A B:Prop)(t:mi A B):Prop:=oM v u A B
def rO(v:PV)(A B:Prop)(t:mi A B):Prop:=PQ v A B
def QIf(p A B:Prop)(t:mi A B):Prop:=(p->A)/\(¬p->B)
def QIf.intro{p A B:Prop}{t:mi A B}(h1:p->A)(h2:¬p->B):QIf p A B t:=⟨h1,h2⟩
def aDN(A B:Prop)(t:mi A B):QIf True A B t=A:=by simp[QIf]
def Z4(A B:Prop)(t:mi A B):QIf False A B t=B:=by simp[QIf]
def aF9(p A B:Prop)(t:mi A B):QIf (¬p) A B t=QIf p B A ⟨0⟩:=by
 apply propext;constructor
 ·rintro⟨h1,h2⟩;exact⟨fun h=>h2 (fun u=>u h),h1⟩
 ·rintro⟨h1,h2⟩;exact⟨h2,fun h=>h1 (Cd h)⟩
def aDo(b:IntKind)(o:Int)(k:IntKind->Int->Prop)(t:dh k):uY (.int b o) k t=k b o:=by simp[uY,yY,and_assoc]
def TH(b:Bool)(k:Bool->Prop)(t:dh k):HK (.bool b) k t=k b:=by simp[HK,PU]
def aDx(b:List PV)(k:List PV->Prop)(t:dh k):J3 (.agg b) k t=k b:=by simp[J3,TV]
def S6(b:List PV)(k:List PV->Prop)(t:dh k):aFJ (.tuple b) k t=k b:=by simp[aFJ,aH4]
def ZK(g ver:Nat)(cs:List PV)(k:Nat->List PV->Prop)(t:dh k):ZOb (Jp (.cells g ver cs)) g k t=k ver cs:=by
 apply propext;constructor
 ·rintro⟨_,_,e,h⟩;cases e;exact h
 ·intro h;exact⟨_,_,rfl,h⟩
def S9{α:Type}(x:α)(k:α->Prop)(t:dh k):iP (Jp x) k t=k x:=by simp[iP,kU]
def ZO(M:Mem)(k:PV->Prop)(t:dh k):aDn .ai M k t=k (p64 0):=(rfl)
def aFQ(fl own:Bool)(sz n:Nat)(cs:List PV)(M:Mem)(k:PV->Prop)(t:dh k):aDn (.sl fl own sz n cs) M k t=k (p64 n):=(rfl)
def aDl(id g sz off n:Nat)(M:Mem)(k:PV->Prop)(t:dh k):aDn (.ref id g sz off n) M k t=ZOb M[id]? g (fun _ _=>k (p64 n)) ⟨0⟩:=(rfl)
def aFS(size:Nat)(fl own:Bool)(sz n:Nat)(cs:List PV)(i:PV)(M:Mem)(k:PV->Prop)(t:dh k):aFT size (.sl fl own sz n cs) i M k t=uY i (fun _ j=>(sz=size/\0<=j/\j<n)/\k (.cp cs (j.toNat*size))) ⟨0⟩:=(rfl)
def aDq(size id g sz off n:Nat)(i:PV)(M:Mem)(k:PV->Prop)(t:dh k):aFT size (.ref id g sz off n) i M k t=ZOb M[id]? g (fun _ _=>uY i (fun _ j=>(sz=size/\0<=j/\j<n)/\k (.ptr id g (off+j.toNat*size))) ⟨0⟩) ⟨0⟩:=(rfl)
def ZR(len size id g o:Nat)(i:PV)(M:Mem)(k:PV->Prop)(t:dh k):WB len size (.ptr id g o) i M k t=ZOb M[id]? g (fun _ _=>uY i (fun _ j=>(0<=j/\j<len)/\k (.ptr id g (o+j.toNat*size))) ⟨0⟩) ⟨0⟩:=(rfl)
def aDr(len size:Nat)(cs:List PV)(o:Nat)(i:PV)(M:Mem)(k:PV->Prop)(t:dh k):WB len size (.cp cs o) i M k t=uY i (fun _ j=>(0<=j/\j<len)/\k (.cp cs (o+j.toNat*size))) ⟨0⟩:=(rfl)
def aDs(off id g o:Nat)(M:Mem)(k:PV->Prop)(t:dh k):aFV off (.ptr id g o) M k t=ZOb M[id]? g (fun _ _=>k (.ptr id g (o+off))) ⟨0⟩:=(rfl)
def aFU(off:Nat)(cs:List PV)(o:Nat)(M:Mem)(k:PV->Prop)(t:dh k):aFV off (.cp cs o) M k t=k (.cp cs (o+off)):=(rfl)
def ZM(id g o:Nat)(M:Mem)(k:PV->List Nat->Prop)(t:dh k):HJ (.ptr id g o) M k t=ZOb M[id]? g (fun _ cs=>iP cs[o]? (fun x=>k x [id]) ⟨0⟩) ⟨0⟩:=(rfl)
def aDk(cs:List PV)(o:Nat)(M:Mem)(k:PV->List Nat->Prop)(t:dh k):HJ (.cp cs o) M k t=iP cs[o]? (fun x=>k x []) ⟨0⟩:=(rfl)
def TE(n id g o:Nat)(M:Mem)(k:PV->List Nat->Prop)(t:dh k):yV n (.ptr id g o) M k t=ZOb M[id]? g (fun _ cs=>o+n<=cs.length/\k (.agg (dQ cs o n)) [id]) ⟨0⟩:=(rfl)
def ZN(n:Nat)(cs:List PV)(o:Nat)(M:Mem)(k:PV->List Nat->Prop)(t:dh k):yV n (.cp cs o) M k t=(o+n<=cs.length/\k (.agg (dQ cs o n)) []):=(rfl)
def S7(n id g o:Nat)(x:PV)(M:Mem)(k:Mem->List Nat->Prop)(t:dh k):S8 n (.ptr id g o) x M k t=ZOb M[id]? g (fun ver cs=>((fO x).length=n/\o+n<=cs.length/\(fO x).all PV.one=Jr)/\k (M.set id (.cells g (ver+1) (oR cs o (fO x)))) [id]) ⟨0⟩:=(rfl)
def ZI(size:Nat)(M:Mem)(k:List PV->Nat->Prop)(t:dh k):PE size .ai M k t=k [] 0:=(rfl)
def aFK(size:Nat)(fl own:Bool)(sz n:Nat)(cs:List PV)(M:Mem)(k:List PV->Nat->Prop)(t:dh k):PE size (.sl fl own sz n cs) M k t=(sz=size/\k cs n):=(rfl)
def aDf(size id g sz off n:Nat)(M:Mem)(k:List PV->Nat->Prop)(t:dh k):PE size (.ref id g sz off n) M k t=ZOb M[id]? g (fun _ cs=>(sz=size/\off+n*size<=cs.length)/\k (dQ cs off (n*size)) n) ⟨0⟩:=(rfl)
def aDe(size:Nat)(s:ByteArray)(M:Mem)(k:List PV->Nat->Prop)(t:dh k):PE size (.str s) M k t=(size=1/\k (s.data.toList.map fun b=> .int .u8 b.toNat) s.size):=(rfl)
def Z0(size bytes:Nat)(x:PV)(M:Mem)(K:PV->Mem->List Nat->List Nat->Prop)(t:dh K):aDw size bytes .ai x M K t=PE size x M (fun new n=>(n*bytes<=140737488355328/\n<=9223372036854775807/\new.all PV.one=Jr)/\K (.ref M.length 0 size 0 n) (M++[.cells 0 0 new]) [] []) ⟨0⟩:=(rfl)
def aFX(size bytes:Nat)(fl own:Bool)(sz m:Nat)(cs:List PV)(x:PV)(M:Mem)(K:PV->Mem->List Nat->List Nat->Prop)(t:dh K):aDw size bytes (.sl fl own sz m cs) x M K t=PE size x M (fun new n=>QIf (n=0) (K (.sl fl own sz m cs) M [] []) ((fl=Jr/\own=Jr/\sz=size/\(m+n)*bytes<=140737488355328/\m+n<=9223372036854775807/\new.all PV.one=Jr)/\K (.ref M.length 0 size 0 (m+n)) (M++[.cells 0 0 (cs++new)]) [] []) ⟨0⟩) ⟨0⟩:=by show aDQ size bytes (.sl fl own sz m cs) x M K=PK size x M _;unfold aDQ;congr 1;funext new n;by_cases h:n=0<;>simp[QIf,h]
def aDv(size bytes id g sz off m:Nat)(x:PV)(M:Mem)(K:PV->Mem->List Nat->List Nat->Prop)(t:dh K):aDw size bytes (.ref id g sz off m) x M K t=PE size x M (fun new n=>ZOb M[id]? g (fun ver cs=>(sz=size/\off+m*size<=cs.length/\(0<n\/(off=0/\m*size=cs.length))/\(m+n)*bytes<=140737488355328/\m+n<=9223372036854775807/\new.all PV.one=Jr)/\K (.ref id (g+1) size 0 (m+n)) (M.set id (.cells (g+1) 0 (dQ cs off (m*size)++new))) [] [id]) ⟨0⟩) ⟨0⟩:=(rfl)
def ZY(a:List PV)(k:Option Int->Prop)(t:dh k):AY a Jq k t=k Jq:=(rfl)
def ZX(a:List PV)(x:AR)(k:Option Int->Prop)(t:dh k):AY a (Jp x) k t=uY (pev a x) (fun _ n=>k (Jp n)) ⟨0⟩:=(rfl)
def PF(size:Nat)(l r m:Option Int)(M:Mem)(k:PV->Prop)(t:dh k):EB size .ai l r m M k t=((l.getD 0=0/\r.getD 0=0/\(m=Jq\/m=r))/\k .ai):=(rfl)
def ZJ(size:Nat)(fl own:Bool)(sz n:Nat)(cs:List PV)(l r m:Option Int)(M:Mem)(k:PV->Prop)(t:dh k):EB size (.sl fl own sz n cs) l r m M k t=((sz=size/\(m=Jq\/m=r)/\0<=l.getD 0/\l.getD 0<=r.getD n/\r.getD n<=n)/\k (.sl (if own=Jr then(if r.isSome=Jr then Js else fl)else fl) own sz (r.getD n-l.getD 0).toNat (dQ cs ((l.getD 0).toNat*size) ((r.getD n-l.getD 0).toNat*size)))):=(rfl)
def TA(size id g sz off n:Nat)(l r m:Option Int)(M:Mem)(k:PV->Prop)(t:dh k):EB size (.ref id g sz off n) l r m M k t=ZOb M[id]? g (fun _ _=>(sz=size/\(m=Jq\/m=r)/\0<=l.getD 0/\l.getD 0<=r.getD n/\r.getD n<=n)/\k (.ref id g sz (off+(l.getD 0).toNat*size) (r.getD n-l.getD 0).toNat)) ⟨0⟩:=(rfl)
def TB(id g o:Nat)(M:Mem)(k:Prop)(t:dh k):uW (.ptr id g o) M k t=ZOb M[id]? g (fun _ _=>k) ⟨0⟩:=(rfl)
def PG(f:FuncId)(l c:List PV)(M:Mem)(k:Prop)(t:dh k):uW (.func (.func f) l c) M k t=k:=by simp[uW,EH,CV]
def ZL(cs:List PV)(o:Nat)(M:Mem)(k:Prop)(t:dh k):uW (.cp cs o) M k t=k:=by simp[uW,EH,CV]
def aFL(M:Mem)(k:Bool->Prop)(t:dh k):uX 0 .ai .ai M k t=k Jr:=(rfl)
def aFM(fl own:Bool)(sz n:Nat)(cs:List PV)(M:Mem)(k:Bool->Prop)(t:dh k):uX 0 (.sl fl own sz n cs) .ai M k t=QIf (n=0) (k Jr/\k Js) (k Js) ⟨0⟩:=by by_cases h:n=0<;>simp[uX,PL,QIf,h]
def aDh(id g sz off n:Nat)(M:Mem)(k:Bool->Prop)(t:dh k):uX 0 (.ref id g sz off n) .ai M k t=ZOb M[id]? g (fun _ _=>QIf (n=0) (k Jr/\k Js) (k Js) ⟨0⟩) ⟨0⟩:=by by_cases h:n=0<;>simp[uX,PL,ZOb,QIf,h]
def ZS(A B:Prop)(t:mi A B):kG (.bool Jr) Jr A B t=A:=by simp[kG,oM]
def ZV(A B:Prop)(t:mi A B):kG (.bool Js) Js A B t=A:=by simp[kG,oM]
def ZT(A B:Prop)(t:mi A B):kG (.bool Jr) Js A B t=B:=by simp[kG,oM]
def ZU(A B:Prop)(t:mi A B):kG (.bool Js) Jr A B t=B:=by simp[kG,oM]
def J0(l:List PV)(u:Bool)(A B:Prop)(t:mi A B):kG (.tuple l) u A B t=B:=by simp[kG,oM]
def J1(p:Prop) [Decidable p](A B:Prop)(t:mi A B):kG (.bool (decide p)) Jr A B t=QIf p A B ⟨0⟩:=by by_cases u:p<;>simp[kG,oM,u,QIf]
def J2(p:Prop) [Decidable p](A B:Prop)(t:mi A B):kG (.bool (decide p)) Js A B t=QIf p B A ⟨0⟩:=by by_cases u:p<;>simp[kG,oM,u,QIf]
def TF(A B:Prop)(t:mi A B):rO (.bool Jr) A B t=A:=by simp[rO,PQ]
def PH(A B:Prop)(t:mi A B):rO (.bool Js) A B t=B:=by simp[rO,PQ]
def ZW(p:Prop) [Decidable p](A B:Prop)(t:mi A B):rO (.bool (decide p)) A B t=QIf p A B ⟨0⟩:=by by_cases u:p<;>simp[rO,PQ,u,QIf]
def TG(p:Prop) [Decidable p](x y:PV)(A B:Prop)(t:mi A B):rO (GH (decide p) x y) A B t=QIf p (rO x A B ⟨0⟩) (rO y A B ⟨0⟩) ⟨0⟩:=by by_cases u:p<;>simp[QIf,GH,u,rO]
def RG(x y:PV):GH Jr x y=x:=(rfl)
def L9(x y:PV):GH Js x y=y:=(rfl)
section
variable (tab:FuncId->Option AF) (m:Nat)
def RX:=PX tab m
def RO:=PO tab
def RD:=PD tab
def RS:=PS tab
def aD1(y:AC)(u B:List PV->Mem->Prop)(E:Nat->List PV->Mem->Prop)(a:List PV)(M:Mem):Prop:=RX tab m y a M u B E
def KB(u:List Nat)(x:AC)(y B:List PV->Mem->Prop)(E:Nat->List PV->Mem->Prop)(a:List PV)(M:Mem):Prop:=fL tab m (.loop u x) a M y B E
def QD(id:Nat)(u:List PV->Mem->Prop)(y:Nat->List PV->Mem->Prop)(i:Nat)(a:List PV)(M:Mem):Prop:=if i=id then u a M else y i a M
def WG(d:Option Nat)(os:List aw)(a:List PV)(Q:List PV->Mem->Prop)(v:PV)(M:Mem)(rd u:List Nat):Prop:=RO tab os (fy a d v) M Q
def KA(d:Option Nat)(B:Bool)(chk:List Nat)(os:List aw)(i:Nat)(a:List PV)(M:Mem)(u:List ko)(Q:List PV->Mem->Prop)(v:PV)(E:Mem)(rd y:List Nat):Prop:=
 jc B rd y M u chk=Jr/\RD tab os (i+1) (fy a d v) E (⟨i,rd,y,M,E.length⟩::u) Q
section
variable (a:List PV) (M:Mem) (Qn Qr:List PV->Mem->Prop) (Qe:Nat->List PV->Mem->Prop)
def aGb:RX tab m .skip a M Qn Qr Qe=Qn a M:=(rfl)
def aIc:RX tab m .ret a M Qn Qr Qe=Qr a M:=(rfl)
def aGd(i:Nat):RX tab m (.exit i) a M Qn Qr Qe=Qe i a M:=(rfl)
def Z5(os:List aw):RX tab m (.region os) a M Qn Qr Qe=RO tab os a M Qn:=(rfl)
def TW(os:List aw):RX tab m (.ff os) a M Qn Qr Qe=RD tab os 0 a M [] Qn:=(rfl)
def aIb(x y:AC):RX tab m (.seq x y) a M Qn Qr Qe=RX tab m x a M (aD1 tab m y Qn Qr Qe) Qr Qe:=(rfl)
def aGe(c:AR)(x y:AC):RX tab m (.cond c x y) a M Qn Qr Qe=rO (pev a c) (RX tab m x a M Qn Qr Qe) (RX tab m y a M Qn Qr Qe) ⟨0⟩:=(rfl)
def aDS(id:Nat)(x:AC):RX tab m (.block id x) a M Qn Qr Qe=RX tab m x a M Qn Qr (QD id Qn Qe):=(rfl)
def aGc(u:List Nat)(x:AC):RX tab m (.loop u x) a M Qn Qr Qe=fL tab m (.loop u x) a M Qn Qr Qe:=(rfl)
def aDR(f:AR)(y:List Nat)(u body:AC):RX tab m (.rangeFunc f y u body) a M Qn Qr Qe=fL tab m (.rangeFunc f y u body) a M Qn Qr Qe:=(rfl)
def aD0(y:AC):aD1 tab m y Qn Qr Qe a M=RX tab m y a M Qn Qr Qe:=(rfl)
def aAj(u:List Nat)(x:AC):KB tab m u x Qn Qr Qe a M=fL tab m (.loop u x) a M Qn Qr Qe:=(rfl)
def aD4(id i:Nat):QD id Qn Qe i a M=if i=id then Qn a M else Qe i a M:=(rfl)
end
section
variable (a:List PV) (M:Mem) (Q:List PV->Mem->Prop)
def aIk:RO tab [] a M Q=Q a M:=(rfl)
def aGm(d:Option Nat)(o:AO)(chk:List Nat)(os:List aw):RO tab (⟨d,o,Jq,chk⟩::os) a M Q=RS tab o a M (WG tab d os a Q):=(rfl)
def aGl(d:Option Nat)(o:AO)(t:Nat)(u:Bool)(chk:List Nat)(os:List aw):RO tab (⟨d,o,Jp (t,u),chk⟩::os) a M Q=kG (bf a t) u (RS tab o a M (WG tab d os a Q)) (RO tab os (fy a d (.tuple [])) M Q) ⟨0⟩:=(rfl)
def aIo(i:Nat)(u:List ko):RD tab [] i a M u Q=Q a M:=(rfl)
def aGo(d:Option Nat)(o:AO)(chk:List Nat)(os:List aw)(i:Nat)(u:List ko):RD tab (⟨d,o,Jq,chk⟩::os) i a M u Q=RS tab o a M (KA tab d o.effect chk os i a M u Q):=(rfl)
def aGn(d:Option Nat)(o:AO)(t:Nat)(u:Bool)(chk:List Nat)(os:List aw)(i:Nat)(y:List ko):RD tab (⟨d,o,Jp (t,u),chk⟩::os) i a M y Q=kG (bf a t) u (RS tab o a M (KA tab d o.effect chk os i a M y Q)) (RD tab os (i+1) (fy a d (.tuple [])) M y Q) ⟨0⟩:=(rfl)
def aD3(d:Option Nat)(os:List aw)(v:PV)(rd u:List Nat):WG tab d os a Q v M rd u=RO tab os (fy a d v) M Q:=(rfl)
def aAh(d:Option Nat)(B:Bool)(chk:List Nat)(os:List aw)(i:Nat)(u:List ko)(v:PV)(E:Mem)(rd y:List Nat):
  KA tab d B chk os i a M u Q v E rd y=(jc B rd y M u chk=Jr/\RD tab os (i+1) (fy a d v) E (⟨i,rd,y,M,E.length⟩::u) Q):=(rfl)
end
section
variable (a:List PV) (M:Mem) (K:PV->Mem->List Nat->List Nat->Prop)
def aGh(x:AR):RS tab (.move x) a M K=K (pev a x) M [] []:=(rfl)
def aGg(c x y:AR):RS tab (.pick c x y) a M K=HK (pev a c) (fun b=>K (GH b (pev a x) (pev a y)) M [] []) ⟨0⟩:=(rfl)
def aDZ(cs:List AV):RS tab (.alloc cs) a M K=K (.ptr M.length 0 0) (M++[.cells 0 0 (cs.map bd)]) [] []:=(rfl)
def aIh(x:AR):RS tab (.box x) a M K=((fO (pev a x)).all PV.one=Jr/\K (.ptr M.length 0 0) (M++[.cells 0 0 (fO (pev a x))]) [] []):=(rfl)
def aDY(z:List AV)(u:List (Nat×Nat×AR)):RS tab (.build z u) a M K=iP (dw a (z.map bd) u) (fun cs=>K (.agg cs) M [] []) ⟨0⟩:=(rfl)
def FC(size len:Nat)(z:List AV)(u:List (Nat×Nat×AR)):RS tab (.buildSlice size len z u) a M K=((z.length=size/\0<size)/\iP (dw a (fY len (z.map bd)) u) (fun cs=>K (.sl Jr Jr size len cs) M [] []) ⟨0⟩):=(rfl)
def aGi(x:AR):RS tab (.load x) a M K=HJ (pev a x) M (fun v rd=>K v M rd []) ⟨0⟩:=(rfl)
def T0(n:Nat)(x:AR):RS tab (.eh n x) a M K=yV n (pev a x) M (fun v rd=>K v M rd []) ⟨0⟩:=(rfl)
def aDT(n:Nat)(p x:AR):RS tab (.store n p x) a M K=S8 n (pev a p) (pev a x) M (fun y u=>K (.tuple []) y [] u) ⟨0⟩:=(rfl)
def QA(x:AR):RS tab (.nilCheck x) a M K=uW (pev a x) M (K (pev a x) M [] []) ⟨0⟩:=(rfl)
def aIi(op:BinOp)(x y:AR):RS tab (.bin op x y) a M K=iP (eE op (pev a x) (pev a y)) (fun v=>K v M [] []) ⟨0⟩:=(rfl)
def aIg(neg:Bool)(x y:AR):RS tab (.eqB neg x y) a M K=HK (pev a x) (fun p=>HK (pev a y) (fun q=>K (.bool (if neg=Jr then !(p==q)else p==q)) M [] []) ⟨0⟩) ⟨0⟩:=(rfl)
def aDV(kd:Nat)(neg:Bool)(x y:AR):RS tab (.isNil kd neg x y) a M K=uX kd (pev a x) (pev a y) M (fun b=>K (.bool (if neg=Jr then !b else b)) M [] []) ⟨0⟩:=(rfl)
def T2(neg:Bool)(T:List (Option IntKind))(x y:AR):RS tab (.ec neg T x y) a M K=J3 (pev a x) (fun p=>J3 (pev a y) (fun q=>iP (sE T p q) (fun b=>K (.bool (if neg=Jr then !b else b)) M [] []) ⟨0⟩) ⟨0⟩) ⟨0⟩:=(rfl)
def aI9(op:UnOp)(x:AR):RS tab (.un op x) a M K=iP (pun op (pev a x)) (fun v=>K v M [] []) ⟨0⟩:=(rfl)
def T3(k:IntKind)(x:AR):RS tab (.du k x) a M K=uY (pev a x) (fun _ n=>K (.int k (k.wrap n)) M [] []) ⟨0⟩:=(rfl)
def Z7(g:FuncId)(f c:List AR):RS tab (.ig (.func g) f c) a M K=K (.func (.func g) (f.map (pev a)) (c.map (pev a))) M [] []:=by simp[RS,PS]
def J7(bytes:Nat)(z:List AV)(n c:AR):RS tab (.makeSlice bytes z n c) a M K=uY (pev a n) (fun u l=>uY (pev a c) (fun kw m=>(u= .i64/\kw= .i64/\0<=l/\l<=m/\m*bytes<=140737488355328/\m<=9223372036854775807)/\K (.ref M.length 0 z.length 0 l.toNat) (M++[.cells 0 0 (fY l.toNat (z.map bd))]) [] []) ⟨0⟩) ⟨0⟩:=(rfl)
def aDU(size:Nat)(x:AR)(u y B:Option AR):RS tab (.slice size x u y B) a M K=AY a u (fun l=>AY a y (fun r=>AY a B (fun m=>EB size (pev a x) l r m M (fun v=>K v M [] []) ⟨0⟩) ⟨0⟩) ⟨0⟩) ⟨0⟩:=(rfl)
def J9(off:Nat)(x:AR):RS tab (.fieldAddr off x) a M K=aFV off (pev a x) M (fun v=>K v M [] []) ⟨0⟩:=(rfl)
def aDX(off:Nat)(x:AR):RS tab (.field off Jq x) a M K=J3 (pev a x) (fun cs=>iP cs[off]? (fun v=>K v M [] []) ⟨0⟩) ⟨0⟩:=(rfl)
def aAc(off n:Nat)(x:AR):RS tab (.field off (Jp n) x) a M K=J3 (pev a x) (fun cs=>off+n<=cs.length/\K (.agg (dQ cs off n)) M [] []) ⟨0⟩:=(rfl)
def J8(size:Nat)(x i:AR):RS tab (.indexAddr size x i) a M K=aFT size (pev a x) (pev a i) M (fun v=>K v M [] []) ⟨0⟩:=(rfl)
def FA(len size:Nat)(x i:AR):RS tab (.bq len size x i) a M K=WB len size (pev a x) (pev a i) M (fun v=>K v M [] []) ⟨0⟩:=(rfl)
def aDW(len size:Nat)(x i:AR):RS tab (.index len size Js x i) a M K=J3 (pev a x) (fun cs=>uY (pev a i) (fun _ j=>(0<=j/\j<len)/\iP cs[j.toNat*size]? (fun v=>K v M [] []) ⟨0⟩) ⟨0⟩) ⟨0⟩:=by simp only[RS,PS,Aq,if_false,if_true];rfl
def aAb(len size:Nat)(x i:AR):RS tab (.index len size Jr x i) a M K=J3 (pev a x) (fun cs=>uY (pev a i) (fun _ j=>(0<=j/\j<len)/\j.toNat*size+size<=cs.length/\K (.agg (dQ cs (j.toNat*size) size)) M [] []) ⟨0⟩) ⟨0⟩:=by simp only[RS,PS,Aq,if_false,if_true];rfl
def T1(x:AR)(i:Nat):RS tab (.extract x i) a M K=aFJ (pev a x) (fun u=>iP u[i]? (fun v=>K v M [] []) ⟨0⟩) ⟨0⟩:=(rfl)
def aGj(f:AR)(args:List AR):RS tab (.call f args) a M K=EJ tab (pev a f) (args.map (pev a)) M (KPC M K):=(rfl)
def aAd(size bytes:Nat)(s x:AR):RS tab (.append size bytes s x) a M K=(0<size/\aDw size bytes (pev a s) (pev a x) M K ⟨0⟩):=(rfl)
def aIf(x:AR):RS tab (.len x) a M K=aDn (pev a x) M (fun v=>K v M [] []) ⟨0⟩:=(rfl)
def aIe(x:AR)(u:List AR):RS tab (.max x u) a M K=iP (ME (pev a x) (u.map (pev a))) (fun v=>K v M [] []) ⟨0⟩:=(rfl)
def aId(x:AR)(u:List AR):RS tab (.min x u) a M K=iP (tZ (pev a x) (u.map (pev a))) (fun v=>K v M [] []) ⟨0⟩:=(rfl)
end
def TU(g:FuncId)(first u args:List PV)(M:Mem)(K:PV->Mem->Prop):EJ tab (.func (.func g) first u) args M K=au tab g (first++args++u) M K:=(rfl)
def aIs(M:Mem)(K:PV->Mem->List Nat->List Nat->Prop)(v:PV)(u:Mem):KPC M K v u=K v u [] (V0 M u):=(rfl)
end
def rH:∀(i:Nat) (M:Mem),f8 i M M=[]
 | _,[]=>rfl
 | i,o::M=>by simp[f8,mJ,rH (i+1) M]
def AA:∀(i:Nat) (M l:Mem),f8 i M (M++l)=[]
 | _,[],_=>by simp[f8]
 | i,o::M,l=>by simp[f8,mJ,AA (i+1) M l]
def aCR(M u:Mem):V0 M u=f8 0 M u:=(rfl)
def O2(i:Nat)(M:Mem):f8 i [] M=[]:=by simp[f8]
def SU(i:Nat)(o:bl)(M u:Mem):f8 i (o::M) (o::u)=f8 (i+1) M u:=by simp[f8,mJ]
def E5(i g u v y:Nat)(cs B:List PV)(M E:Mem):f8 i (.cells g v cs::M) (.cells u y B::E)=if g=u/\v=y then f8 (i+1) M E else i::f8 (i+1) M E:=by by_cases h:g=u/\v=y<;>simp[f8,pI,h]
def aBk(u:Bool)(rd y:List Nat)(M:Mem)(B:List ko):jc u rd y M B []=Jr:=by simp[jc]
section
variable (k:IntKind) (x y:Int)
def aBu:eE .add (.int k x) (.int k y)=Jp (.int k (k.wrap (x+y))):=by simp[eE,eZ,dC,bd]
def aBl:eE .sub (.int k x) (.int k y)=Jp (.int k (k.wrap (x-y))):=by simp[eE,eZ,cT,bd]
def aBo:eE .mul (.int k x) (.int k y)=Jp (.int k (k.wrap (x*y))):=by simp[eE,eZ,cV,bd]
def aBt:eE .eql (.int k x) (.int k y)=Jp (.bool (decide (x=y))):=by simp[eE,eZ,dB,bd]
def aBn:eE .neq (.int k x) (.int k y)=Jp (.bool (decide (x≠y))):=by simp[eE,eZ,cU,bd]
def aBp:eE .lss (.int k x) (.int k y)=Jp (.bool (decide (x<y))):=by simp[eE,eZ,cW,bd]
def aBq:eE .leq (.int k x) (.int k y)=Jp (.bool (decide (x<=y))):=by simp[eE,eZ,cY,bd]
def aBr:eE .gtr (.int k x) (.int k y)=Jp (.bool (decide (y<x))):=by simp[eE,eZ,cZ,bd]
def aBs:eE .geq (.int k x) (.int k y)=Jp (.bool (decide (y<=x))):=by simp[eE,eZ,dA,bd]
def sF(u:y≠0):eE .quo (.int k x) (.int k y)=Jp (.int k (k.wrap (x.tdiv y))):=by simp[eE,eZ,i7,eY,gG,u,bd]
def XX:ME (.int k x) [.int k y]=Jp (.int k (max x y)):=by have:=cR k x y;simp only[aBX]at this;simp[ME,eZ,kA,this,bd]
end
def aEC(b:Bool):pun .not (.bool b)=Jp (.bool (!b)):=(rfl)
def aED(k:IntKind)(x:Int):pun .neg (.int k x)=Jp (.int k (k.wrap (0-x))):=by simp[pun,eZ,aun,bd]
def GG(n:Nat)(c:PV):fY n [c]=Ae n c:=by
 induction n with
 | zero=>rfl
 | succ n u=>simp[fY,u,List.replicate_succ]
def XV(cs:List PV)(o:Nat)(x:PV):oR cs o [x]=cs.set o x:=(rfl)
def cN(cs:List PV)(n:Nat)(h:n=cs.length):dQ cs 0 n=cs:=by subst h;simp[dQ]
def XM(cs:List PV):dQ cs 0 cs.length=cs:=by simp[dQ]
def RI(cs:List PV)(o:Nat)(x y:PV)(l:List PV):oR cs o (x::y::l)=cs.take o++(x::y::l)++cs.drop (o+(x::y::l).length):=(rfl)
def aEG(x:PV)(cs:List PV)(n:Nat):dQ (x::cs) 0 (n+1)=x::dQ cs 0 n:=by simp[dQ]
def aEE(cs:List PV)(o:Nat):dQ cs o 0=[]:=by simp[dQ]
def aEF(x:PV)(cs:List PV)(o n:Nat):dQ (x::cs) (o+1) n=dQ cs o n:=by simp[dQ]
def aA3(o n:Nat):dQ [] o n=[]:=by simp[dQ]
def R1(k:IntKind)(n:Int):fO (.int k n)=[.int k n]:=(rfl)
def MP(b:Bool):fO (.bool b)=[.bool b]:=(rfl)
def MN:fO .ai=[.ai]:=(rfl)
def YA(fl own:Bool)(sz n:Nat)(cs:List PV):fO (.sl fl own sz n cs)=[.sl fl own sz n cs]:=(rfl)
def RY(id g sz off n:Nat):fO (.ref id g sz off n)=[.ref id g sz off n]:=(rfl)
def RZ(id g o:Nat):fO (.ptr id g o)=[.ptr id g o]:=(rfl)
def MO(fn:Go.Fn)(f c:List PV):fO (.func fn f c)=[.func fn f c]:=(rfl)
def R2(cs:List PV):fO (.agg cs)=cs:=(rfl)
def aER(k:IntKind)(n:Int):PV.one (.int k n)=Jr:=(rfl)
def aBB(b:Bool):PV.one (.bool b)=Jr:=(rfl)
def aBz:PV.one .ai=Jr:=(rfl)
def R6:PV.one .aq=Jr:=(rfl)
def MV:PV.one .al=Jr:=(rfl)
def aHp(fl own:Bool)(sz n:Nat)(cs:List PV):PV.one (.sl fl own sz n cs)=Jr:=(rfl)
def aEO(id g sz off n:Nat):PV.one (.ref id g sz off n)=Jr:=(rfl)
def aEP(id g o:Nat):PV.one (.ptr id g o)=Jr:=(rfl)
def aBA(fn:Go.Fn)(f c:List PV):PV.one (.func fn f c)=Jr:=(rfl)
def wY(k:IntKind)(u:List Int):(u.map (PV.int k)).all PV.one=Jr:=by simp[PV.one]
def EG{tab:FuncId->Option AF}(m:Nat)(c:AC){a:List PV}{M:Mem}{u y:List PV->Mem->Prop}{B:Nat->List PV->Mem->Prop}(E:RX tab m c a M u y B):fL tab m c a M u y B:=PY m c E
def tU{u:FuncId->Option AF}{m:Nat}{y:List Nat}{x:AC}{a:List PV}{M:Mem}{G B:List PV->Mem->Prop}{E:Nat->List PV->Mem->Prop}(I:RX u m x (qR a y) M (KB u m y x G B E) B E):
  fL u m (.loop y x) a M G B E:=TK I
def db:List PV->List PV->Prop
 | [],[]=>True
 | x::a,y::b=>(y= .aa\/x=y)/\db a b
 | _,_=>False
def db.rep{w:PWd} :∀{a b:List PV} {u:List AV},db a b->ak w a u->ak w b u
 | [],[],u,_,h=>h
 | x::a,y::b,[],_,h=>by have:=h.len;simp at this
 | x::a,y::b,v::u,⟨h1,h2⟩,h=>by
  refine .cons ?_ (db.rep h2 h.tl);rcases h1 with rfl | rfl
  ·exact .aa _
  ·exact h.hd
 | [],_::_,u,hw,h=>hw.elim
 | _::_,[],u,hw,h=>hw.elim
def aG{u:FuncId->Option AF}{m:Nat}{c:AC}{a b:List PV}{M:Mem}{y B:List PV->Mem->Prop}{E:Nat->List PV->Mem->Prop}(h:fL u m c b M y B E)(hw:db a b:=by simp only[PW]):fL u m c a M y B E:=
 fun w hh G h0 hm s I=>h w hh G h0 hm s (hw.rep I)
def Z6:db [] []=True:=(rfl)
def TY(x:PV)(a b:List PV):db (x::a) (.aa::b)=db a b:=by simp[db]
def TX(x:PV)(a b:List PV):db (x::a) (x::b)=db a b:=by simp[db]
def SF:Nat->List Nat->List PV->Bool
 | _,[],_=>Jr
 | _,_::_,[]=>Js
 | i,s::u,v::b=>match Nat.beq i s with
  | true=>match v with
   | .aa=>SF (i+1) u b
   | _=>Js
  | false=>SF (i+1) (s::u) b
def CU:∀(a:List PV) (t:Nat),bf a t= .aa->dr a t .aa=a
 | [],_,_=>rfl
 | v::a,0,h=>by simp only[bf]at h;simp[dr,h]
 | v::a,t+1,h=>by simp only[bf]at h;simp[dr,CU a t h]
def wM:∀(b:List PV) (i:Nat) (u:List Nat),SF i u b=Jr->∀s∈u,i<=s/\bf b (s-i)= .aa
 | b,i,[],_,s,hs=>by cases hs
 | [],i,y::u,h,s,hs=>by simp[SF]at h
 | v::b,i,y::u,h,s,hs=>by
  unfold SF at h;split at h
  ·rename_i he;have he:i=y:=Nat.eq_of_beq_eq_true he;split at h
   ·rcases List.mem_cons.1 hs with rfl | hs
    ·subst he;exact⟨Ab _,by simp[bf]⟩
    ·obtain⟨h1,h2⟩:=wM b (i+1) u h s hs;refine⟨by omega,?_⟩;rw[show s-i=(s-(i+1))+1 by omega];simpa [bf]using h2
   ·cases h
  ·obtain⟨h1,h2⟩:=wM b (i+1) (y::u) h s hs;refine⟨by omega,?_⟩;rw[show s-i=(s-(i+1))+1 by omega];simpa [bf]using h2
def sC:∀(u:List Nat) (b:List PV),(∀s∈u,bf b s= .aa)->qR b u=b
 | [],b,_=>rfl
 | s::u,b,h=>by simp only[qR];rw[CU b s (h s (by simp))];exact sC u b fun t ht=>h t (Cy _ ht)
def aH{u:FuncId->Option AF}{m:Nat}{y:List Nat}{x:AC}{a:List PV}{M:Mem}{G B:List PV->Mem->Prop}{E:Nat->List PV->Mem->Prop}(I:SF 0 y a=Jr)(J:RX u m x a M (KB u m y x G B E) B E):
  fL u m (.loop y x) a M G B E:=by
 refine tU ?_;rw[sC y a fun s hs=>by simpa using (wM a 0 y I s hs).2];exact J
def fT{G:Type}{y:FuncId->Option AF}{m:Nat}{L:List Nat}{x:AC}{a:List PV}{M:Mem}{O Q:List PV->Mem->Prop}{R:Nat->List PV->Mem->Prop}(I:G->Prop)(S:G->List PV)(B:G->Mem)(E:G->Nat)
  (K:G) (h0:I K)
  (step:∀(u:G),I u->(∀(J:G),I J->E J<E u->fL y m (.loop L x) (S J) (B J) O Q R)->fL y m (.loop L x) (S u) (B u) O Q R) (hw:db a (S K):=by simp only[PW]) (U:M=B K:=by rfl):fL y m (.loop L x) a M O Q R:=by
 subst U;refine aG ?_ hw;have T:∀(k:Nat) (u:G),E u<k->I u->fL y m (.loop L x) (S u) (B u) O Q R:=by
  intro k
  induction k with
  | zero=>intro u h;omega
  | succ k V=>intro u h Y;exact step u Y fun J Z hm=>V J (by omega) Z
 exact T (E K+1) K (by omega) h0
def iN{y:Type}{B:Type}{E:FuncId->Option AF}{m:Nat}{T:List Nat}{x:AC}{a:List PV}{M:Mem}{U V:List PV->Mem->Prop}{Y:Nat->List PV->Mem->Prop}(I:y->B->Prop)(L:y->B->List PV)(u:y->B->Mem)(G:y->B->Nat)
  (O:y) (Q:B) (h0:I O Q)
  (step:∀(R:y) (S:B),I R S->(∀(J:y) (K:B),I J K->G J K<G R S->fL E m (.loop T x) (L J K) (u J K) U V Y)->fL E m (.loop T x) (L R S) (u R S) U V Y) (hw:db a (L O Q):=by simp only[PW]) (Z:M=u O Q:=by rfl):fL E m (.loop T x) a M U V Y:=
 fT (fun p:y×B=>I p.1 p.2) (fun p=>L p.1 p.2) (fun p=>u p.1 p.2) (fun p=>G p.1 p.2) (O,Q) h0 (fun p h ih=>step p.1 p.2 h fun J K h' hm=>ih (J,K) h' hm) hw Z
def nL{y:Type}{B:Type}{E:Type}{G:FuncId->Option AF}{m:Nat}{Z:List Nat}{x:AC}{a:List PV}{M:Mem}{Qn Qr:List PV->Mem->Prop}{Qe:Nat->List PV->Mem->Prop}(I:y->B->E->Prop)(Q:y->B->E->List PV)(u:y->B->E->Mem)(J:y->B->E->Nat)
  (R:y) (S:B) (T:E) (h0:I R S T)
  (step:∀(U:y) (V:B) (Y:E),I U V Y->(∀(K:y) (L:B) (O:E),I K L O->J K L O<J U V Y->fL G m (.loop Z x) (Q K L O) (u K L O) Qn Qr Qe)->fL G m (.loop Z x) (Q U V Y) (u U V Y) Qn Qr Qe) (hw:db a (Q R S T):=by simp only[PW]) (hM:M=u R S T:=by rfl):fL G m (.loop Z x) a M Qn Qr Qe:=
 fT (fun p:y×B×E=>I p.1 p.2.1 p.2.2) (fun p=>Q p.1 p.2.1 p.2.2) (fun p=>u p.1 p.2.1 p.2.2) (fun p=>J p.1 p.2.1 p.2.2) (R,S,T) h0 (fun p h ih=>step p.1 p.2.1 p.2.2 h fun K L O h' hm=>ih (K,L,O) h' hm) hw hM
def C8{y:Type}{B:Type}{E:Type}{G:Type}{J:FuncId->Option AF}{m:Nat}{sc:List Nat}{x:AC}{a:List PV}{M:Mem}{Qn Qr:List PV->Mem->Prop}{Qe:Nat->List PV->Mem->Prop}(I:y->B->E->G->Prop)(S:y->B->E->G->List PV)(u:y->B->E->G->Mem)(K:y->B->E->G->Nat)
  (T:y) (U:B) (V:E) (Y:G) (h0:I T U V Y)
  (step:∀(Z:y) (x2:B) (x3:E) (x4:G),I Z x2 x3 x4->(∀(L:y) (O:B) (Q:E) (R:G),I L O Q R->K L O Q R<K Z x2 x3 x4->fL J m (.loop sc x) (S L O Q R) (u L O Q R) Qn Qr Qe)->fL J m (.loop sc x) (S Z x2 x3 x4) (u Z x2 x3 x4) Qn Qr Qe) (hw:db a (S T U V Y):=by simp only[PW]) (hM:M=u T U V Y:=by rfl):fL J m (.loop sc x) a M Qn Qr Qe:=
 fT (fun p:y×B×E×G=>I p.1 p.2.1 p.2.2.1 p.2.2.2) (fun p=>S p.1 p.2.1 p.2.2.1 p.2.2.2) (fun p=>u p.1 p.2.1 p.2.2.1 p.2.2.2) (fun p=>K p.1 p.2.1 p.2.2.1 p.2.2.2) (T,U,V,Y) h0 (fun p h ih=>step p.1 p.2.1 p.2.2.1 p.2.2.2 h fun L O Q R h' hm=>ih (L,O,Q,R) h' hm) hw hM
def aGB{y:Type}{B:Type}{E:Type}{G:Type}{J:Type}{K:FuncId->Option AF}{m:Nat}{sc:List Nat}{x:AC}{a:List PV}{M:Mem}{Qn Qr:List PV->Mem->Prop}{Qe:Nat->List PV->Mem->Prop}(I:y->B->E->G->J->Prop)(U:y->B->E->G->J->List PV)(u:y->B->E->G->J->Mem)(L:y->B->E->G->J->Nat)
  (V:y) (Y:B) (Z:E) (z4:G) (z5:J) (h0:I V Y Z z4 z5)
  (step:∀(x1:y) (x2:B) (x3:E) (x4:G) (x5:J),I x1 x2 x3 x4 x5->(∀(O:y) (Q:B) (R:E) (S:G) (T:J),I O Q R S T->L O Q R S T<L x1 x2 x3 x4 x5->fL K m (.loop sc x) (U O Q R S T) (u O Q R S T) Qn Qr Qe)->fL K m (.loop sc x) (U x1 x2 x3 x4 x5) (u x1 x2 x3 x4 x5) Qn Qr Qe) (hw:db a (U V Y Z z4 z5):=by simp only[PW]) (hM:M=u V Y Z z4 z5:=by rfl):fL K m (.loop sc x) a M Qn Qr Qe:=
 fT (fun p:y×B×E×G×J=>I p.1 p.2.1 p.2.2.1 p.2.2.2.1 p.2.2.2.2) (fun p=>U p.1 p.2.1 p.2.2.1 p.2.2.2.1 p.2.2.2.2) (fun p=>u p.1 p.2.1 p.2.2.1 p.2.2.2.1 p.2.2.2.2) (fun p=>L p.1 p.2.1 p.2.2.1 p.2.2.2.1 p.2.2.2.2) (V,Y,Z,z4,z5) h0 (fun p h ih=>step p.1 p.2.1 p.2.2.1 p.2.2.2.1 p.2.2.2.2 h fun O Q R S T h' hm=>ih (O,Q,R,S,T) h' hm) hw hM
def aIR{y:Type}{B:Type}{E:Type}{G:Type}{J:Type}{K:Type}{L:Type}{O:FuncId->Option AF}{m:Nat}{sc:List Nat}{x:AC}{a:List PV}{M:Mem}{Qn Qr:List PV->Mem->Prop}{Qe:Nat->List PV->Mem->Prop}(I:y->B->E->G->J->K->L->Prop)(fr:y->B->E->G->J->K->L->List PV)(u:y->B->E->G->J->K->L->Mem)(Q:y->B->E->G->J->K->L->Nat)
  (z1:y) (z2:B) (z3:E) (z4:G) (z5:J) (z6:K) (z7:L) (h0:I z1 z2 z3 z4 z5 z6 z7)
  (step:∀(x1:y) (x2:B) (x3:E) (x4:G) (x5:J) (x6:K) (x7:L),I x1 x2 x3 x4 x5 x6 x7->(∀(R:y) (S:B) (T:E) (U:G) (V:J) (Y:K) (Z:L),I R S T U V Y Z->Q R S T U V Y Z<Q x1 x2 x3 x4 x5 x6 x7->fL O m (.loop sc x) (fr R S T U V Y Z) (u R S T U V Y Z) Qn Qr Qe)->fL O m (.loop sc x) (fr x1 x2 x3 x4 x5 x6 x7) (u x1 x2 x3 x4 x5 x6 x7) Qn Qr Qe) (hw:db a (fr z1 z2 z3 z4 z5 z6 z7):=by simp only[PW]) (hM:M=u z1 z2 z3 z4 z5 z6 z7:=by rfl):fL O m (.loop sc x) a M Qn Qr Qe:=
 fT (fun p:y×B×E×G×J×K×L=>I p.1 p.2.1 p.2.2.1 p.2.2.2.1 p.2.2.2.2.1 p.2.2.2.2.2.1 p.2.2.2.2.2.2) (fun p=>fr p.1 p.2.1 p.2.2.1 p.2.2.2.1 p.2.2.2.2.1 p.2.2.2.2.2.1 p.2.2.2.2.2.2) (fun p=>u p.1 p.2.1 p.2.2.1 p.2.2.2.1 p.2.2.2.2.1 p.2.2.2.2.2.1 p.2.2.2.2.2.2) (fun p=>Q p.1 p.2.1 p.2.2.1 p.2.2.2.1 p.2.2.2.2.1 p.2.2.2.2.2.1 p.2.2.2.2.2.2) (z1,z2,z3,z4,z5,z6,z7) h0 (fun p h ih=>step p.1 p.2.1 p.2.2.1 p.2.2.2.1 p.2.2.2.2.1 p.2.2.2.2.2.1 p.2.2.2.2.2.2 h fun R S T U V Y Z h' hm=>ih (R,S,T,U,V,Y,Z) h' hm) hw hM
attribute [irreducible] QIf uY HK J3 aFJ ZOb iP aDn aFT WB aFV HJ yV S8 PE aDw AY EB uW uX kG rO RX RO RD RS aD1 QD WG KA KB
mutual
def PV.under(m:Nat):PV->Bool
 | .ptr id _ _=>decide (id<m)
 | .ref id _ _ _ _=>decide (id<m)
 | .map id=>decide (id<m)
 | .yld id f=>decide (id<m)&&aD m f
 | .cp cs _=>aD m cs
 | .sl _ _ _ _ cs=>aD m cs
 | .func _ f c=>aD m f&&aD m c
 | .iface _ v=>PV.under m v
 | .agg cs=>aD m cs
 | .tuple cs=>aD m cs
 | .aa=>Jr
 | .bool _=>Jr
 | .int _ _=>Jr
 | .str _=>Jr
 | .aq=>Jr
 | .ai=>Jr
 | .bc=>Jr
 | .al=>Jr
 | .ae=>Jr
def aD(m:Nat):List PV->Bool
 | []=>Jr
 | v::l=>PV.under m v&&aD m l
end
def fW(m:Nat):∀(l:List PV),aD m l=Jr↔∀v∈l,v.under m=Jr
 | []=>by simp[aD]
 | v::l=>by simp[aD,fW m l]
def j9{m:Nat}{l:List PV}(h:aD m l=Jr){i:Nat}{y:PV}(u:l[i]? =Jp y):y.under m=Jr:=(fW m l).1 h y (Af u)
def b9(m:Nat)(k:IntKind)(u:List Int):aD m (u.map (PV.int k))=Jr:=(fW m _).2 fun v hv=>by obtain⟨x,_,rfl⟩:=List.mem_map.1 hv;simp[PV.under]
def iT{α:Type}(m:Nat)(f:α->PV)(hf:∀x,(f x).under m=Jr)(u:List α):aD m (u.map f)=Jr:=(fW m _).2 fun v hv=>by obtain⟨x,_,rfl⟩:=List.mem_map.1 hv;exact hf x
def oZ(m:Nat)(l u:List PV):aD m (l++u)=(aD m l&&aD m u):=by
 induction l with
 | nil=>simp[aD]
 | cons v l y=>simp[aD,y,Bool.and_assoc]
def zB{m:Nat}{l:List PV}(h:aD m l=Jr)(k:Nat):aD m (l.drop k)=Jr:=(fW m _).2 fun v hv=>(fW m l).1 h v (List.mem_of_mem_drop hv)
def zA{m:Nat}{l:List PV}(h:aD m l=Jr)(k:Nat):aD m (l.take k)=Jr:=(fW m _).2 fun v hv=>(fW m l).1 h v (List.mem_of_mem_take hv)
def az.low{w w':PWd}{m:Nat}(h0:w'.n0=w.n0)(J:∀b o,w.imm b=Jp o->w'.imm b=Jp o)(he:∀id,id<m->w'.env id=w.env id){v:PV}{x:AV}(h:az w v x):v.under m=Jr->az w' v x:=by
 induction h with
 | aa x=>intro _;exact .aa x
 | bool b=>intro _;exact .bool b
 | int k n=>intro _;exact .int k n
 | str s=>intro _;exact .str s
 | aq=>intro _;exact .aq
 | ai=>intro _;exact .ai
 | bc=>intro _;exact .bc
 | al=>intro _;exact .al
 | ae=>intro _;exact .ae
 | ptr h1 h2 h3=>intro hb;simp only[PV.under,decide_eq_true_eq]at hb;exact .ptr (by rw[he _ hb];exact h1) h2 h3
 | jo x q h1 h2=>intro hb;simp only[PV.under,decide_eq_true_eq]at hb;exact .jo x q (by rw[he _ hb];exact h1) h2
 | cp h1 h2 h3 u=>intro hb;simp only[PV.under]at hb;exact .cp (J _ _ h1) h2 fun i y z p q=>u i y z p q (j9 hb p)
 | sl h1 h2 h3 B E K L u=>intro hb;simp only[PV.under]at hb;exact .sl (J _ _ h1) h2 h3 B (by rw[h0];exact E) (by rw[h0];exact K) fun i y z p q=>u i y z p q (j9 hb p)
 | slN=>intro _;exact .slN
 | ref h1 h2 h3=>intro hb;simp only[PV.under,decide_eq_true_eq]at hb;exact .ref (by rw[he _ hb];exact h1) h2 h3
 | jk h1 h2 h3=>intro hb;simp only[PV.under,decide_eq_true_eq]at hb;exact .jk (by rw[he _ hb];exact h1) h2 h3
 | kj x q h1 h2=>intro hb;simp only[PV.under,decide_eq_true_eq]at hb;exact .kj x q (by rw[he _ hb];exact h1) h2
 | map h1 h2 h3=>intro hb;simp only[PV.under,decide_eq_true_eq]at hb;exact .map (by rw[he _ hb];exact h1) h2 h3
 | lj x q h1 h2=>intro hb;simp only[PV.under,decide_eq_true_eq]at hb;exact .lj x q (by rw[he _ hb];exact h1) h2
 | func h1 h2 h3 B E G I=>intro hb;simp only[PV.under,Aw]at hb;exact .func h1 h2 h3 (fun i y z p q=>G i y z p q (j9 hb.1 p)) fun i y z p q=>I i y z p q (j9 hb.2 p)
 | yld h1 h2 h3 B E u=>intro hb;simp only[PV.under,Aw,decide_eq_true_eq]at hb;exact .yld (by rw[he _ hb.1];exact h1) h2 h3 B fun i y z p q=>u i y z p q (j9 hb.2 p)
 | ll x q h1 h2=>intro hb;simp only[PV.under,Aw,decide_eq_true_eq]at hb;exact .ll x q (by rw[he _ hb.1];exact h1) h2
 | iface h u=>intro hb;simp only[PV.under]at hb;exact .iface (u hb)
 | agg h1 h2 u=>intro hb;simp only[PV.under]at hb;exact .agg h1 fun i y z p q=>u i y z p q (j9 hb p)
 | tuple h1 h2 u=>intro hb;simp only[PV.under]at hb;exact .tuple h1 fun i y z p q=>u i y z p q (j9 hb p)
def ak.low{w w':PWd}{m:Nat}(h0:w'.n0=w.n0)(u:∀b o,w.imm b=Jp o->w'.imm b=Jp o)(he:∀id,id<m->w'.env id=w.env id){l:List PV}{l':List AV}(h:ak w l l')(hb:aD m l=Jr):ak w' l l':=
 ⟨h.len,fun i y z p q=>(h.get i y z p q).low h0 u he (j9 hb p)⟩
def gD(m:Nat)(M:Mem):PV->Option PV
 | .ref id g sz off n=>if id<m then Jp (.ref id g sz off n)else match M[id]? with
  | some (.cells u _ cs)=>if u=g/\off+n*sz<=cs.length/\aD m cs=Jr then Jp (.sl Js Jr sz n (dQ cs off (n*sz)))else Jq
  | _=>Jq
 | v=>if v.under m=Jr then Jp v else Jq
def jI(m:Nat)(M:Mem):List PV->Option (List PV)
 | []=>Jp []
 | v::l=>match gD m M v,jI m M l with
  | some x,Jp u=>Jp (x::u)
  | _,_=>Jq
def iM(m:Nat)(M:Mem):PV->Option PV
 | .agg cs=>(jI m M cs).map .agg
 | v=>gD m M v
def lI(m:Nat)(M:Mem):List PV->Option (List PV)
 | []=>Jp []
 | v::l=>match iM m M v,lI m M l with
  | some x,Jp u=>Jp (x::u)
  | _,_=>Jq
def lR(m:Nat)(M:Mem):PV->Option PV
 | .tuple cs=>(lI m M cs).map .tuple
 | v=>iM m M v
def DN{m:Nat}{M:Mem}{v r:PV}(hr:gD m M v=Jp r):r.under m=Jr:=by
 have u:(if v.under m=Jr then Jp v else Jq)=Jp r->r.under m=Jr:=by
  intro hr;split at hr
  ·rename_i hb;cases hr;exact hb
  ·cases hr
 unfold gD at hr;split at hr
 ·split at hr
  ·rename_i y;cases hr;simp[PV.under,y]
  ·split at hr
   ·split at hr
    ·rename_i B;cases hr;simp only[PV.under];exact zA (zB B.2.2 _) _
    ·cases hr
   ·cases hr
 ·exact u hr
def DL{m:Nat}{M:Mem} :∀{l r:List PV},jI m M l=Jp r->aD m r=Jr
 | [],r,hr=>by simp only[jI]at hr;cases hr;rfl
 | v::l,r,hr=>by
  simp only[jI]at hr;split at hr
  ·rename_i a b h1 h2;cases hr;simp[aD,DN h1,DL h2]
  ·cases hr
def DM{m:Nat}{M:Mem}{v r:PV}(hr:iM m M v=Jp r):r.under m=Jr:=by
 unfold iM at hr;split at hr
 ·rename_i cs
  cases u:jI m M cs with
  | none=>rw[u]at hr;cases hr
  | some y=>rw[u]at hr;cases hr;simp only[PV.under];exact DL u
 ·exact DN hr
def zX{m:Nat}{M:Mem} :∀{l r:List PV},lI m M l=Jp r->aD m r=Jr
 | [],r,hr=>by simp only[lI]at hr;cases hr;rfl
 | v::l,r,hr=>by
  simp only[lI]at hr;split at hr
  ·rename_i a b h1 h2;cases hr;simp[aD,DM h1,zX h2]
  ·cases hr
def YY{m:Nat}{M:Mem}{v r:PV}(hr:lR m M v=Jp r):r.under m=Jr:=by
 unfold lR at hr;split at hr
 ·rename_i cs
  cases u:lI m M cs with
  | none=>rw[u]at hr;cases hr
  | some y=>rw[u]at hr;cases hr;simp only[PV.under];exact zX u
 ·exact DM hr
def bl.under(m:Nat):bl->Bool
 | .cells _ _ cs=>aD m cs
 | .gone=>Jr
 | _=>Js
open Classical in
noncomputable def PWd.cut(w:PWd)(h:H)(m:Nat)(M:Mem):PWd where
 n0:=w.n0
 id0:=w.id0
 env:=fun id=>if id<m then w.env id else Jq
 imm:=fun b=>if ∃id,m<=id/\af w M id b then h.get b else w.imm b
open Classical in
def oW{w:PWd}{h:H}{M:Mem}(s:PSt w h M)(m:Nat):∀b o,w.imm b=Jp o->(w.cut h m M).imm b=Jp o:=by
 intro b o hb;show(if _ then _ else _)=_;split
 ·exact s.imm b o hb
 ·exact hb
def lD{w:PWd}{h:H}{M:Mem}{m id:Nat}(u:id<m):(w.cut h m M).env id=w.env id:=by show(if _ then _ else _)=_;rw[if_pos u]
def wS{w:PWd}{h:H}{M:Mem}{m id x:Nat}(hl:af (w.cut h m M) (M.take m) id x):id<m/\af w M id x:=by
 obtain⟨o,e,h1,h2,h3,y⟩:=hl;have u:id<m:=by have:=aF h1;simp at this;omega
 rw[lD u]at h3;rw[Bp,if_pos u]at h1;exact⟨u,o,e,h1,h2,h3,y⟩
open Classical in
def PSt.cut{w:PWd}{h:H}{M:Mem}(s:PSt w h M){m:Nat}(hm:m<=M.length)(hb:(M.take m).all (bl.under m)=Jr):
  PSt (w.cut h m M) h (M.take m)/\∀(w0:PWd) (h0:H) (J:Mem),eg m w0 h0 J w h M->eg m w0 h0 J (w.cut h m M) h (M.take m):=by
 have hlen:(M.take m).length=m:=by simp;omega
 refine⟨⟨?_,?_,?_,?_,?_,?_,s.base⟩,fun w0 h0 J t=>⟨by omega,⟨t.le.n0,t.le.id0,fun b o u=>oW s m b o (t.le.imm b o u),fun id y e he=>?_⟩,t.next,t.fc,fun id x hl G=>t.live id x (wS hl).2 G,?_⟩⟩
 ·intro b o u;have u:(if ∃id,m<=id/\af w M id b then h.get b else w.imm b)=Jp o:=u;split at u
  ·exact u
  ·exact s.imm b o u
 ·intro id e he;have he:(if id<m then w.env id else Jq)=Jp e:=he;split at he
  ·rename_i y;omega
  ·cases he
 ·intro id e b he B;have he:(if id<m then w.env id else Jq)=Jp e:=he;split at he
  ·exact s.blk id e b he B
  ·cases he
 ·intro id o K;have y:id<m:=by have:=aF K;omega
  have I:=K;rw[Bp,if_pos y]at I;have u:o.under m=Jr:=by rw[List.all_eq_true]at hb;exact hb o (Af K)
  have r:=s.obj id o I
  cases o with
  | cells g ver cs=>
   obtain⟨e,h1,h2,h3⟩:=r;refine⟨e,by rw[lD y];exact h1,h2,?_⟩
   cases B:e.blk with
   | none=>rw[B]at h3;exact h3
   | some b=>rw[B]at h3;obtain⟨L,R,S⟩:=h3;exact⟨L,R,S.low (w:=w) (w':=w.cut h m M) rfl (oW s m) (fun id y=>lD y) u⟩
  | gone=>trivial
  | _=>simp[bl.under]at u
 ·intro i j x h1 h2;exact s.inj i j x (wS h1).2 (wS h2).2
 ·intro i x h1;obtain⟨y,hl⟩:=wS h1;refine⟨?_,(s.sep i x hl).2⟩;show(if _ then _ else _)=_;split
  ·rename_i O;obtain⟨j,T,Q⟩:=O;have:=s.inj i j x hl Q;omega
  ·exact(s.sep i x hl).1
 ·rw[lD y];exact t.le.env id y e he
 ·intro x G;have G:(if ∃id,m<=id/\af w M id x then h.get x else w.imm x)≠Jq:=G;split at G
  ·rename_i O;obtain⟨id,hid,hl⟩:=O;rcases Bi x h0.next with E | E
   ·exact .inr (.inr ⟨id,hid,t.live id x hl E⟩)
   ·exact .inr (.inl E)
  ·exact t.new x G
open Classical in
def OG{w:PWd}{h:H}{M:Mem}(s:PSt w h M){m:Nat}(h0:w.id0<=m){v r:PV}{x:AV}(hv:az w v x)(hr:gD m M v=Jp r):az (w.cut h m M) r x:=by
 have low:∀{u:PV},az w u x->u.under m=Jr->az (w.cut h m M) u x:=fun Q hb=>Q.low (w:=w) (w':=w.cut h m M) rfl (oW s m) (fun id G=>lD G) hb;have B:(if v.under m=Jr then Jp v else Jq)=Jp r->az (w.cut h m M) r x:=by
  intro hr;split at hr
  ·rename_i hb;cases hr;exact low hv hb
  ·cases hr
 unfold gD at hr;split at hr
 ·rename_i id g sz off n;split at hr
  ·rename_i G;cases hr;exact low hv (by simp[PV.under,G])
  ·rename_i G;split at hr
   ·rename_i U ver cs hm;split at hr
    ·rename_i R;obtain⟨rfl,hl,hb⟩:=R;cases hr;obtain⟨e,V,Y,S⟩:=s.ic hm hv;rcases S with⟨rfl,rfl,rfl,_,rfl⟩ | ⟨fl,b,I,rfl,Z,T,K,L⟩
     ·simpa [dQ]using az.slN
     ·have E:∃i,m<=i/\af w M i b:=⟨id,by omega,L⟩;have J:(w.cut h m M).imm b=Jp (.cells (e.v0+ver) Jr I):=by
       show(if _ then _ else _)=_;rw[if_pos E];exact T
      have hlen:(dQ cs off (n*sz)).length=n*sz:=by simp[dQ];omega
      have hs:=(jP K off (n*sz)).low (w:=w) (w':=w.cut h m M) rfl (oW s m) (fun id G=>lD G) (zA (zB hb off) _);refine .sl J (by rw[hlen,<-K.len];exact hl) hlen (fun hf=>by cases hf) (fun _=>⟨(s.sep id b L).2 (by omega),rfl⟩) (fun q=>by cases q) fun i y z O hz=>hs.get i y z O ?_;rw[Bp,if_pos (by have:=aF O;omega),Br];exact hz
    ·cases hr
   ·cases hr
 ·exact B hr
def wO{w:PWd}{h:H}{M:Mem}(s:PSt w h M){m:Nat}(h0:w.id0<=m):∀{l r:List PV} {u:List AV},ak w l u->jI m M l=Jp r->ak (w.cut h m M) r u
 | [],r,u,hl,hr=>by simp only[jI]at hr;cases hr;exact⟨hl.len,fun i y z h=>by simp at h⟩
 | v::l,r,[],hl,hr=>by have:=hl.len;simp at this
 | v::l,r,x::u,hl,hr=>by
  simp only[jI]at hr;split at hr
  ·rename_i a b h1 h2;cases hr;exact .cons (OG s h0 hl.hd h1) (wO s h0 hl.tl h2)
  ·cases hr
def OE{w:PWd}{h:H}{M:Mem}(s:PSt w h M){m:Nat}(h0:w.id0<=m){v r:PV}{x:AV}(hv:az w v x)(hr:iM m M v=Jp r):az (w.cut h m M) r x:=by
 unfold iM at hr;split at hr
 ·rename_i cs
  cases u:jI m M cs with
  | none=>rw[u]at hr;cases hr
  | some y=>rw[u]at hr;cases hr;obtain⟨B,rfl,hl⟩:=lX hv;have:=wO s h0 hl u;exact .agg this.len this.get
 ·exact OG s h0 hv hr
def GZ{w:PWd}{h:H}{M:Mem}(s:PSt w h M){m:Nat}(h0:w.id0<=m):∀{l r:List PV} {u:List AV},ak w l u->lI m M l=Jp r->ak (w.cut h m M) r u
 | [],r,u,hl,hr=>by simp only[lI]at hr;cases hr;exact⟨hl.len,fun i y z h=>by simp at h⟩
 | v::l,r,[],hl,hr=>by have:=hl.len;simp at this
 | v::l,r,x::u,hl,hr=>by
  simp only[lI]at hr;split at hr
  ·rename_i a b h1 h2;cases hr;exact .cons (OE s h0 hl.hd h1) (GZ s h0 hl.tl h2)
  ·cases hr
def JK{w:PWd}{h:H}{M:Mem}(s:PSt w h M){m:Nat}(h0:w.id0<=m){v r:PV}{x:AV}(hv:az w v x)(hr:lR m M v=Jp r):az (w.cut h m M) r x:=by
 unfold lR at hr;split at hr
 ·rename_i cs
  cases u:lI m M cs with
  | none=>rw[u]at hr;cases hr
  | some y=>rw[u]at hr;cases hr;obtain⟨B,rfl,hl⟩:=tG hv;have:=GZ s h0 hl u;exact .tuple this.len this.get
 ·exact OE s h0 hv hr
section
variable {tab:FuncId->Option AF}
def mS{L:Rec}{g:FuncId}{args:List AV}{h:H}{K y:AV->H->Prop}(B:C L g args h K)(E:∀v u,K v u->y v u):C L g args h y:=by unfold C at B ⊢;obtain⟨v,u,h1,h2⟩:=B;exact⟨v,u,h1,E v u h2⟩
def au.mono{g:FuncId}{args:List PV}{M:Mem}{K B:PV->Mem->Prop}(E:au tab g args M K)(G:∀v y,K v y->B v y):au tab g args M B:=
 fun w h u h0 s I=>mS (E w h u h0 s I) fun v R ⟨w',r,y,J,L,O,Q⟩=>⟨w',r,y,J,L,O,G _ _ Q⟩
def w7{g:FuncId}{args:List PV}{M:Mem}{K:PV->Mem->Prop}(I:au tab g args M fun r y=>(y.take M.length).all (bl.under M.length)=Jr/\kU (lR M.length y r) fun B=>K B (y.take M.length)):au tab g args M K:=by intro w h u h0 s J;refine mS (I w h u h0 s J) ?_;rintro v U ⟨w',r,y,E,G,L,O,B,Q,R⟩;obtain⟨S,T⟩:=G.cut E.len O;exact⟨_,B,_,T w h M E,S,JK G (by rw[E.le.id0];exact h0) L Q,R⟩
def vA{g:FuncId}{args:List PV}{M:Mem}{K:PV->Mem->Prop}(hb:aD 0 args=Jr)(U:au tab g args [] fun r M'=>kU (lR 0 M' r) fun R=>K R M):au tab g args M K:=by
 intro w h y h0 s ha
 let w0:PWd:={w with env:=fun _=>Jq,id0:=0}
 have s0:PSt w0 h []:=⟨s.imm,(fun id e he=>by cases he),(fun id e b he=>by cases he),(fun id o V=>by simp at V),(fun i j x ⟨_,_,h1,_⟩=>by simp at h1),(fun i x ⟨_,_,h1,_⟩=>by simp at h1),s.base⟩;have a0:ak w0 args y:=ha.low (w:=w) (w':=w0) rfl (fun _ _ h=>h) (fun id Z=>by omega) hb;refine mS (U w0 h y (Ab _) s0 a0) ?_;rintro v L ⟨O,r,S,B,p2,p3,R,p5,p6⟩;have q1:=JK p2 (by rw[B.le.id0];exact Ab _) p3 p5;obtain⟨z1,z2⟩:=p2.cut (m:=0) (Au _) (by simp);have B:=z2 w0 h [] B;have Y:O.n0=w.n0:=B.le.n0;have G:∀x id,¬af w0 [] id x:=fun x id ⟨_,_,h1,_⟩=>by simp at h1
 have E:∀x,x<h.next->L.get x=h.get x:=fun x Q=>B.fc x Q (G x)
 let T:PWd:={n0:=w.n0,id0:=w.id0,env:=w.env,imm:=(O.cut L 0 S).imm}
 have hl:Le M.length w T:=⟨rfl,rfl,fun b o I=>B.le.imm b o I,fun id Z e he=>⟨e,he,.inr rfl⟩⟩;have hr:az T R v:=by exact q1.low (w:=O.cut L 0 S) (w':=T) (m:=0) Y.symm (fun _ _ h=>h) (fun id Z=>by omega) (YY p5)
 refine⟨T,R,M,⟨Ab _,hl,B.next,fun x Q _=>E x Q,fun id x u _=>u,?_⟩,⟨fun b o I=>z1.imm b o I,s.env,?_,?_,s.inj,?_,As s.base B.next⟩,hr,p6⟩
 ·intro x Q;rcases B.new x Q with e | e | ⟨id,_,e⟩
  ·exact .inl e
  ·exact .inr (.inl e)
  ·exact absurd e (G x id)
 ·intro id e b he J;exact Bk (s.blk id e b he J) B.next
 ·intro id o V;exact kg.mono s hl (s.obj id o V) (fun e he=>he) fun e b he J=>E b (s.blk id e b he J)
 ·intro i x u;have u:af w M i x:=u;refine⟨?_,(s.sep i x u).2⟩;show(O.cut L 0 S).imm x=Jq
  cases U:(O.cut L 0 S).imm x with
  | none=>rfl
  | some o=>
   rcases B.new x (by rw[U];simp)with e | e | ⟨id,_,e⟩
   ·exact absurd (s.sep i x u).1 e
   ·have:=u.next s;omega
   ·exact absurd e (G x id)
end
section
variable {tab:FuncId->Option AF}
def WE(res:List lk)(K:PV->Mem->Prop)(a:List PV)(M:Mem):Prop:=lC res a M fun u=>K (ep u) M
def sY(res:List lk)(Q:PV->Prop)(a:List PV)(M:Mem):Prop:=lC res a M fun u=>kU (lR 0 M (ep u)) Q
def kq(i:Nat)(a:List PV)(M:Mem):Prop:=False
def aD2(res:List lk)(K:PV->Mem->Prop)(a:List PV)(M:Mem):WE res K a M=lC res a M fun u=>K (ep u) M:=(rfl)
def aAi(res:List lk)(Q:PV->Prop)(a:List PV)(M:Mem):sY res Q a M=lC res a M fun u=>iP (lR 0 M (ep u)) Q ⟨0⟩:=by unfold iP;rfl
def aAg(a:List PV)(M:Mem)(K:List PV->Prop):lC [] a M K=K []:=(rfl)
def aAf(t:Nat)(u:List lk)(a:List PV)(M:Mem)(K:List PV->Prop):lC (.tmp t::u) a M K=lC u a M fun y=>K (bf a t::y):=(rfl)
def T4(t:Nat)(u:List lk)(a:List PV)(M:Mem)(K:List PV->Prop):lC (.cell t::u) a M K=HJ (bf a t) M (fun v _=>lC u a M fun y=>K (v::y)) ⟨0⟩:=by unfold HJ;rfl
def QC(t n:Nat)(u:List lk)(a:List PV)(M:Mem)(K:List PV->Prop):lC (.cells t n::u) a M K=yV n (bf a t) M (fun v _=>lC u a M fun y=>K (v::y)) ⟨0⟩:=by unfold yV;rfl
def aV{g:FuncId}{F:AFn}(hg:tab g=Jp (.fn F)){args:List PV}{M:Mem}{K:PV->Mem->Prop}
  (u:RX tab M.length F.body (jl args F.ntmps) M (WE F.results K) (WE F.results K) kq):au tab g args M K:=
 jV hg (EG _ _ u)
def aB{g:FuncId}{F:AFn}(hg:tab g=Jp (.fn F)){args:List PV}{M:Mem}{K:PV->Mem->Prop}(hb:aD 0 args=Jr)
  (u:RX tab 0 F.body (jl args F.ntmps) [] (sY F.results fun r=>K r M) (sY F.results fun r=>K r M) kq):au tab g args M K:=
 vA hb (aV hg u)
end
def bh(r u:PV):Prop:=∀w x,az w r x->az w u x
def bh.refl(r:PV):bh r r:=fun _ _ h=>h
def bh.ai(fl own:Bool)(sz:Nat):bh .ai (.sl fl own sz 0 []):=fun w x h=>by rw[gU h];exact .slN
def bh.sl(fl:Bool)(sz n:Nat)(cs:List PV):bh (.sl fl Jr sz n cs) (.sl Js Jr sz n cs):=fun w x h=>by
 cases h with
 | sl h1 h2 h3 B u E y=>exact .sl h1 h2 h3 (fun q=>by cases q) u (fun q=>by cases q) y
 | slN=>exact .slN
def bh.sl0(fl own:Bool)(sz n:Nat)(cs:List PV):bh (.sl fl own sz n cs) (.sl Jr Js sz n cs):=fun w x h=>by
 cases h with
 | sl h1 h2 h3 y B E u=>exact .sl h1 h2 h3 (fun _ q=>by cases q) (fun q=>by cases q) (fun _ q=>by cases q) u
 | slN=>exact .slN
def bh.agg{l u:List PV}(hl:l.length=u.length)(h:∀(i:Nat) (y z:PV),l[i]? =Jp y->u[i]? =Jp z->bh y z):bh (.agg l) (.agg u):=fun w x E=>by
 obtain⟨G,rfl,hr⟩:=lX E;refine .agg (by rw[<-hl];exact hr.len) fun i y z h1 h2=>?_;have B:i<l.length:=by rw[hl];exact aF h1
 exact h i l[i] y (Ad B) h1 w z (hr.get i _ _ (Ad B) h2)
def bh.tuple{l u:List PV}(hl:l.length=u.length)(h:∀(i:Nat) (y z:PV),l[i]? =Jp y->u[i]? =Jp z->bh y z):bh (.tuple l) (.tuple u):=fun w x E=>by
 obtain⟨G,rfl,hr⟩:=tG E;refine .tuple (by rw[<-hl];exact hr.len) fun i y z h1 h2=>?_;have B:i<l.length:=by rw[hl];exact aF h1
 exact h i l[i] y (Ad B) h1 w z (hr.get i _ _ (Ad B) h2)
section
variable {tab:FuncId->Option AF}
def kR{g:FuncId}{args:List PV}{M:Mem}{K:PV->Mem->Prop}(h:au tab g args M fun r B=>∃y,bh r y/\K y B):au tab g args M K:=
 fun w hh u h0 s E=>mS (h w hh u h0 s E) fun v Q ⟨w',r,B,G,I,J,y,L,O⟩=>⟨w',y,B,G,I,L w' v J,O⟩
end
abbrev slI(f o:Bool)(k:IntKind)(u:List Int):PV:= .sl f o 1 u.length (u.map (PV.int k))
abbrev slR(f o u y:Bool)(k:IntKind)(su:List (List Int)):PV:= .sl f o 1 su.length (su.map (slI u y k))
abbrev slB(f o:Bool)(u:List Bool):PV:= .sl f o 1 u.length (u.map PV.bool)
def QO(m:Nat):PV.under m .aa=Jr:=by simp[PV.under]
def FH(m:Nat)(k:IntKind)(n:Int):PV.under m (.int k n)=Jr:=by simp[PV.under]
def uD(m:Nat)(b:Bool):PV.under m (.bool b)=Jr:=by simp[PV.under]
def QN(m:Nat):PV.under m .ai=Jr:=by simp[PV.under]
def jW(m:Nat)(f o:Bool)(sz n:Nat)(k:IntKind)(u:List Int):PV.under m (.sl f o sz n (u.map (PV.int k)))=Jr:=by simp[PV.under,b9]
def xG(m:Nat)(f o:Bool)(sz n:Nat)(u:List Bool):PV.under m (.sl f o sz n (u.map PV.bool))=Jr:=by simp only[PV.under];exact iT m _ (fun x=>uD m x) u
def pE(m:Nat)(f o u y:Bool)(sz n:Nat)(k:IntKind)(su:List (List Int)):PV.under m (.sl f o sz n (su.map (slI u y k)))=Jr:=by simp only[PV.under];exact iT m _ (fun x=>jW m u y 1 _ k x) su
def WX(m:Nat)(cs:List PV):PV.under m (.agg cs)=aD m cs:=by simp[PV.under]
def KR(m:Nat)(cs:List PV):PV.under m (.tuple cs)=aD m cs:=by simp[PV.under]
def WW(m id g o:Nat):PV.under m (.ptr id g o)=decide (id<m):=by simp[PV.under]
def WV(m id g sz off n:Nat):PV.under m (.ref id g sz off n)=decide (id<m):=by simp[PV.under]
def B5(m:Nat)(fn:Go.Fn)(f c:List PV):PV.under m (.func fn f c)=(aD m f&&aD m c):=by simp[PV.under]
def lG(m:Nat):aD m []=Jr:=by simp[aD]
def jG(m:Nat)(v:PV)(l:List PV):aD m (v::l)=(v.under m&&aD m l):=by simp[aD]
def uO(o:Option bl)(g sz off n:Nat):Option PV:=match o with
 | some (.cells u _ cs)=>if u=g/\off+n*sz<=cs.length/\aD 0 cs=Jr then Jp (.sl Js Jr sz n (dQ cs off (n*sz)))else Jq
 | _=>Jq
def X8(M:Mem)(id g sz off n:Nat):gD 0 M (.ref id g sz off n)=uO M[id]? g sz off n:=by unfold gD uO;simp only[Ed,if_false];all_goals (generalize M[id]? =x;rcases x with _ | o<;>first | rfl | (cases o<;>rfl))
def gT{g ver off n sz:Nat}{cs:List PV}(h1:off+n*sz<=cs.length)(h2:aD 0 cs=Jr):uO (Jp (.cells g ver cs)) g sz off n=Jp (.sl Js Jr sz n (dQ cs off (n*sz))):=by unfold uO;simp only;rw[if_pos ⟨trivial,h1,h2⟩]
def MI(M:Mem)(k:IntKind)(n:Int):lR 0 M (.int k n)=Jp (.int k n):=by simp[lR,iM,gD,PV.under]
def XZ(M:Mem)(b:Bool):lR 0 M (.bool b)=Jp (.bool b):=by simp[lR,iM,gD,PV.under]
def X9(M:Mem)(k:IntKind)(n:Int):gD 0 M (.int k n)=Jp (.int k n):=by simp[gD,PV.under]
def RV(M:Mem)(b:Bool):gD 0 M (.bool b)=Jp (.bool b):=by simp[gD,PV.under]
def RU(M:Mem):gD 0 M .ai=Jp .ai:=by simp[gD,PV.under]
def aBj{M:Mem}{f o:Bool}{sz n:Nat}{cs:List PV}(h:aD 0 cs=Jr):gD 0 M (.sl f o sz n cs)=Jp (.sl f o sz n cs):=by simp[gD,PV.under,h]
def RK(M:Mem)(cs:List PV):lR 0 M (.tuple cs)=(lI 0 M cs).map .tuple:=by simp[lR]
def aBg(M:Mem)(cs:List PV):lR 0 M (.agg cs)=(jI 0 M cs).map .agg:=by simp[lR,iM]
def aEJ{M:Mem}{f o:Bool}{sz n:Nat}{cs:List PV}(h:aD 0 cs=Jr):lR 0 M (.sl f o sz n cs)=Jp (.sl f o sz n cs):=by simp[lR,iM,gD,PV.under,h]
def aHm(M:Mem)(id g sz off n:Nat):lR 0 M (.ref id g sz off n)=gD 0 M (.ref id g sz off n):=by simp[lR,iM]
def XY(M:Mem):lR 0 M .ai=Jp .ai:=by simp[lR,iM,gD,PV.under]
def X7(M:Mem)(cs:List PV):iM 0 M (.agg cs)=(jI 0 M cs).map .agg:=by simp[iM]
def X6(M:Mem)(k:IntKind)(n:Int):iM 0 M (.int k n)=Jp (.int k n):=by simp[iM,gD,PV.under]
def RT(M:Mem)(b:Bool):iM 0 M (.bool b)=Jp (.bool b):=by simp[iM,gD,PV.under]
def RR(M:Mem):iM 0 M .ai=Jp .ai:=by simp[iM,gD,PV.under]
def aBi{M:Mem}{f o:Bool}{sz n:Nat}{cs:List PV}(h:aD 0 cs=Jr):iM 0 M (.sl f o sz n cs)=Jp (.sl f o sz n cs):=by simp[iM,gD,PV.under,h]
def aEK(M:Mem)(id g sz off n:Nat):iM 0 M (.ref id g sz off n)=gD 0 M (.ref id g sz off n):=by simp[iM]
def X3(M:Mem):jI 0 M []=Jp []:=(rfl)
def C1(x:Option PV)(l:Option (List PV)):Option (List PV):=match x,l with
 | some x,Jp u=>Jp (x::u)
 | _,_=>Jq
def R7(x:PV)(l:List PV):C1 (Jp x) (Jp l)=Jp (x::l):=(rfl)
def RN(M:Mem)(v:PV)(l:List PV):jI 0 M (v::l)=C1 (gD 0 M v) (jI 0 M l):=by simp only[jI,C1];all_goals (split<;>simp_all)
def RQ(M:Mem):lI 0 M []=Jp []:=(rfl)
def MM(M:Mem)(v:PV)(l:List PV):lI 0 M (v::l)=C1 (iM 0 M v) (lI 0 M l):=by simp only[lI,C1];all_goals (split<;>simp_all)
def cM(m:Nat)(f o:Bool)(k:IntKind)(su:List (List Int)):aD m (su.map (slI f o k))=Jr:=iT m _ (fun x=>jW m f o 1 _ k x) su
def eK(m:Nat)(u:List Bool):aD m (u.map PV.bool)=Jr:=iT m _ (fun x=>uD m x) u
def L7{α:Type}(f:α->PV)(u:List α):dQ (u.map f) 0 u.length=u.map f:=cN _ _ (by simp)
def O7(f o:Bool)(k:IntKind)(su:List (List Int)):(su.map (slI f o k)).all PV.one=Jr:=by simp[PV.one]
def E7(u:List Bool):(u.map PV.bool).all PV.one=Jr:=by simp[PV.one]
attribute [irreducible] WE sY kq
section
variable {tab:FuncId->Option AF} {m:Nat} {c:AC} {Qn Qr:List PV->Mem->Prop} {Qe:Nat->List PV->Mem->Prop}
def bZ{a b:List PV}{M N:Mem}(h:fL tab m c b N Qn Qr Qe)(hw:db a b)(u:M=N):fL tab m c a M Qn Qr Qe:=by subst u;exact aG h hw
structure GStep (m:Nat) (a:List PV) (M:Mem) (b:List PV) (N:Mem):Prop where
 len:m<=M.length->m<=N.length
 go:∀(w:PWd) (hh:H) (a':List AV),w.id0<=m->m<=M.length->PSt w hh M->ak w a a'->∃w',eg m w hh M w' hh N/\PSt w' hh N/\ak w' b a'
def cK{a b:List PV}{M N:Mem}(g:GStep m a M b N)(h:fL tab m c b N Qn Qr Qe):fL tab m c a M Qn Qr Qe:=by intro w hh y h0 hm s B;obtain⟨w',t,E,u⟩:=g.go w hh y h0 hm s B;exact hU (h w' hh y (by rw[t.le.id0];exact h0) (g.len hm) E u) (fun _ _ q=>q.trans t) (fun _ _ q=>q.trans t) fun _ _ _ q=>q.trans t
def GStep.trans{a b d:List PV}{M N O:Mem}(g:GStep m a M b N)(k:GStep m b N d O):GStep m a M d O:=
 ⟨fun h=>k.len (g.len h),fun w hh a' h0 hm s y=>by obtain⟨B,u,E,G⟩:=g.go w hh a' h0 hm s y;obtain⟨I,J,K,L⟩:=k.go B hh a' (by rw[u.le.id0];exact h0) (g.len hm) E G;exact⟨I,u.trans J (Ab _),K,L⟩⟩
def Gh(m:Nat)(Q:List PV->Mem->Prop)(a:List PV)(M:Mem):Prop:=∃b N,GStep m a M b N/\Q b N
def Gh.same{Q:List PV->Mem->Prop}{a:List PV}{M:Mem}(h:Q a M):Gh m Q a M:=
 ⟨a,M,⟨fun h=>h,fun w hh y h0 hm s u=>⟨w,eg.refl hm w hh,s,u⟩⟩,h⟩
def Gh.step{Q:List PV->Mem->Prop}{a b:List PV}{M N:Mem}(g:GStep m a M b N)(h:Gh m Q b N):Gh m Q a M:=by obtain⟨d,O,k,u⟩:=h;exact⟨d,O,g.trans k,u⟩
def aD5{w:PWd}{h:H}{M:Mem}(h0:w.id0<=m){Q:List PV->Mem->Prop}{u:List AV}{y:H}(hl:Lf m w h M (Gh m Q) u y):Lf m w h M Q u y:=by obtain⟨E,S,T,B,G,I,b,N,g,J⟩:=hl;obtain⟨K,L,O,R⟩:=g.go E y u (by rw[B.le.id0];exact h0) B.len G I;exact⟨K,b,N,B.trans L (Ab _),O,R,J⟩
def aF5{a:List PV}{M:Mem}(h:fL tab m c a M (Gh m Qn) (Gh m Qr) fun i=>Gh m (Qe i)):fL tab m c a M Qn Qr Qe:=
 fun w hh u h0 hm s y=>hU (h w hh u h0 hm s y) (fun _ _ q=>aD5 h0 q) (fun _ _ q=>aD5 h0 q) fun _ _ _ q=>aD5 h0 q
def GStep.nil{a b:List PV}{M N:Mem}(t sz:Nat)(ht:bf a t= .ai)(hb:dr a t (.ref M.length 0 sz 0 0)=b)(B:M++[.cells 0 0 []]=N):GStep m a M b N:=by
 subst hb B;refine⟨fun hm=>by simp;omega,fun w hh a' h0 hm s u=>?_⟩;obtain⟨E,y⟩:=s.ka (v0:=0);refine⟨_,y.weaken hm,E,?_⟩;have h1:=u.bu t;rw[ht]at h1;have h2:=u.mono y.le s.env;have h3:=h2.cr t (v:= .ref M.length 0 sz 0 0) (x:=bu a' t) (by
  rw[gU h1];exact .jk (e:=⟨Jq,0,0⟩) (by show(if _=_ then _ else _)=_;rw[if_pos rfl]) rfl rfl)
 have G:cr a' t (bu a' t)=a':=by
  have:∀(l:List AV) (t:Nat),cr l t (bu l t)=l:=by
   intro l
   induction l with
   | nil=>intro t;rfl
   | cons x l I=>intro t;cases t with
    | zero=>rfl
    | succ t=>simp[cr,bu,I t]
  exact this a' t
 rwa [G]at h3
def PSt.qt{w:PWd}{h:H}{M:Mem}(s:PSt w h M){id g ver:Nat}{cs cs2:List PV}(hm:M[id]? =Jp (.cells g ver cs))(hr:∀u,ak w cs u->ak w cs2 u):
  PSt w h (M.set id (.cells g ver cs2))/\∀m,m<=M.length->eg m w h M w h (M.set id (.cells g ver cs2)):=by
 have hid:=aF hm;have live:∀i x,af w (M.set id (.cells g ver cs2)) i x->af w M i x:=by
  rintro i x ⟨G,J,h1,h2,h3,E⟩;by_cases B:id=i
  ·subst B;exact⟨_,J,hm,by simp,h3,E⟩
  ·rw[Bt B]at h1;exact⟨G,J,h1,h2,h3,E⟩
 refine⟨⟨s.imm,?_,s.blk,?_,fun i j x h1 h2=>s.inj i j x (live i x h1) (live j x h2),fun i x h1=>s.sep i x (live i x h1),s.base⟩,fun m I=>⟨by simpa using I,Le.refl _ _,Ab _,fun _ _ _=>rfl,fun i x h1 _=>live i x h1,fun x K=> .inl K⟩⟩
 ·intro i e he;simpa using s.env i e he
 ·intro i G B;by_cases y:id=i
  ·subst y;rw[Ck hid]at B;cases B;obtain⟨e,h1,h2,h3⟩:=s.obj id _ hm;refine⟨e,h1,h2,?_⟩
   cases hb:e.blk with
   | none=>rw[hb]at h3;have h3:cs=[]:=h3;subst h3;have:=(hr [] (ak.nil w)).len;exact List.length_eq_zero_iff.1 (by simpa using this)
   | some b=>rw[hb]at h3;obtain⟨u,E,L⟩:=h3;exact⟨u,E,hr u L⟩
  ·rw[Bt y]at B;exact s.obj i G B
def GStep.lh{a:List PV}{M N:Mem}(id o sz:Nat){g ver:Nat}{cs:List PV}(E:M[id]? =Jp (.cells g ver cs))(K:cs[o]? =Jp .ai)(L:M.set id (.cells g ver (cs.set o (.ref M.length 0 sz 0 0)))++[.cells 0 0 []]=N):GStep m a M a N:=by
 subst L;refine⟨fun hm=>by simp;omega,fun w hh a' h0 hm s O=>?_⟩;obtain⟨Q,G⟩:=s.ka (v0:=0);have hid:=aF E;have y:(M++[.cells 0 0 []])[id]? =Jp (.cells g ver cs):=by rw[Bm hid];exact E
 obtain⟨I,J⟩:=Q.qt (cs2:=cs.set o (.ref M.length 0 sz 0 0)) y (by
  intro u hr;obtain⟨z,hz,hv⟩:=hr.iy K;have B:=gU hv;subst B;have:=hr.set o (v:= .ref M.length 0 sz 0 0) (x:= .ag) (.jk (e:=⟨Jq,0,0⟩) (by show(if _=_ then _ else _)=_;rw[if_pos rfl]) rfl rfl);have hb:u.set o .ag=u:=by
   apply Em;intro i;rw[Dy];by_cases e:o=i
   ·subst e;rw[if_pos rfl,if_pos (aF hz)];exact hz.symm
   ·rw[if_neg e]
  rwa [hb]at this)
 have he:(M++[bl.cells 0 0 []]).set id (.cells g ver (cs.set o (.ref M.length 0 sz 0 0)))=M.set id (.cells g ver (cs.set o (.ref M.length 0 sz 0 0)))++[.cells 0 0 []]:=by rw[List.set_append_left _ _ hid]
 rw[he]at I J;exact⟨_,(G.weaken hm).trans (J m (by simp;omega)) (Ab _),I,O.mono G.le s.env⟩
def jn(id g:Nat)(cs:List PV):List PV->List PV->Prop
 | [],[]=>True
 | x::a,y::b=>(y= .aa\/x=y\/∃sz off n,x= .ref id g sz off n/\off+n*sz<=cs.length/\y= .sl Js Jr sz n (dQ cs off (n*sz)))/\jn id g cs a b
 | _,_=>False
def oN(id g:Nat)(cs:List PV):jn id g cs [] []=True:=(rfl)
def qF(id g:Nat)(cs:List PV)(x:PV)(a b:List PV):jn id g cs (x::a) (.aa::b)=jn id g cs a b:=by simp[jn]
def lQ(id g:Nat)(cs:List PV)(x:PV)(a b:List PV):jn id g cs (x::a) (x::b)=jn id g cs a b:=by simp[jn]
def sZ{id g sz off n:Nat}{cs:List PV}{y:PV}{a b:List PV}(h1:off+n*sz<=cs.length)(h2:y= .sl Js Jr sz n (dQ cs off (n*sz))):jn id g cs (.ref id g sz off n::a) (y::b)=jn id g cs a b:=by simp only[jn,eq_iff_iff,and_iff_right_iff_imp];intro _;exact .inr (.inr ⟨sz,off,n,rfl,h1,h2⟩)
def PSt.freeze{w:PWd}{h:H}{M:Mem}(s:PSt w h M){id g ver:Nat}{cs:List PV}(hm:M[id]? =Jp (.cells g ver cs))(h0:w.id0<=id):
  ∃w',PSt w' h (M.set id .gone)/\(∀m,m<=id->eg m w h M w' h (M.set id .gone))/\Le M.length w w'/\∀sz off n x,az w (.ref id g sz off n) x->off+n*sz<=cs.length->az w' (.sl Js Jr sz n (dQ cs off (n*sz))) x:=by
 obtain⟨e,h1,h2,h3⟩:=s.jy hm;have hid:=aF hm;rcases h3 with⟨hb,rfl⟩ | ⟨b,Y,hb,hg,hr,Q⟩
 ·have live:∀i x,af w (M.set id .gone) i x->af w M i x:=by
   rintro i x ⟨R,K,E,S,T,I⟩;by_cases u:id=i
   ·subst u;rw[Ck hid]at E;cases E;exact absurd rfl S
   ·rw[Bt u]at E;exact⟨R,K,E,S,T,I⟩
  refine⟨w,⟨s.imm,fun i K he=>by simpa using s.env i K he,s.blk,?_,fun i j x J U=>s.inj i j x (live i x J) (live j x U),fun i x J=>s.sep i x (live i x J),s.base⟩,fun m Z=>⟨by simp;omega,Le.refl _ _,Ab _,fun _ _ _=>rfl,fun i x J _=>live i x J,fun x G=> .inl G⟩,Le.refl _ _,?_⟩
  ·intro i R u;by_cases B:id=i
   ·subst B;rw[Ck hid]at u;cases u;trivial
   ·rw[Bt B]at u;exact s.obj i R u
  ·intro sz off n x G hl;obtain⟨e2,E,S,T⟩:=s.ic hm G;rcases T with⟨rfl,rfl,rfl,_,_⟩ | ⟨_,b,_,_,I,_⟩
   ·simpa [dQ]using az.slN
   ·rw[h1]at E;cases E;rw[hb]at I;cases I
 ·let w':=w.gh b (.cells (e.v0+ver) Jr Y)
  have L:=s.sep id b Q;have hl:Le M.length w w':=uM L.1;have V:∀x,x≠b->w'.imm x=w.imm x:=fun x G=>by show(if _=_ then _ else _)=_;rw[if_neg G]
  have O:w'.imm b=Jp (.cells (e.v0+ver) Jr Y):=by show(if _=_ then _ else _)=_;rw[if_pos rfl]
  have live:∀i x,af w' (M.set id .gone) i x->i≠id/\af w M i x:=by
   rintro i x ⟨R,K,E,S,T,I⟩;by_cases u:id=i
   ·subst u;rw[Ck hid]at E;cases E;exact absurd rfl S
   ·rw[Bt u]at E;exact⟨fun q=>u q.symm,R,K,E,S,T,I⟩
  refine⟨w',⟨?_,fun i K he=>by simpa using s.env i K he,s.blk,?_,fun i j x J U=>s.inj i j x (live i x J).2 (live j x U).2,?_,s.base⟩,fun m Z=>⟨by simp;omega,⟨hl.n0,hl.id0,hl.imm,fun i u=>hl.env i (by omega)⟩,Ab _,fun _ _ _=>rfl,fun i x J _=>(live i x J).2,?_⟩,hl,?_⟩
  ·intro x o G;by_cases e1:x=b
   ·subst e1;rw[O]at G;cases G;exact hg
   ·rw[V x e1]at G;exact s.imm x o G
  ·intro i R u;by_cases B:id=i
   ·subst B;rw[Ck hid]at u;cases u;trivial
   ·rw[Bt B]at u;exact kg.mono s hl (s.obj i R u) (fun K he=>he) fun _ _ _ _=>rfl
  ·intro i x J;obtain⟨a1,U⟩:=live i x J;have:x≠b:=by rintro rfl;exact a1 (s.inj i id x U Q)
   exact⟨by rw[V x this];exact(s.sep i x U).1,(s.sep i x U).2⟩
  ·intro x G;by_cases e1:x=b
   ·subst e1;exact .inr (.inr ⟨id,Z,Q⟩)
   ·rw[V x e1]at G;exact .inl G
  ·intro sz off n x G hlen;obtain⟨e2,E,S,T⟩:=s.ic hm G;rw[h1]at E;cases E;rcases T with⟨_,_,_,I,_⟩ | ⟨fl,b2,a2,rfl,I,p5,p6,_⟩
   ·rw[hb]at I;cases I
   ·rw[hb]at I;cases I;rw[hg]at p5;cases p5;have a0:(dQ cs off (n*sz)).length=n*sz:=by simp[dQ];omega
    have hs:=(jP p6 off (n*sz)).mono hl s.env;refine .sl O (by rw[a0,<-p6.len];exact hlen) a0 (fun q=>by cases q) (fun _=>⟨L.2 h0,rfl⟩) (fun q=>by cases q) fun i y z hy hz=>hs.get i y z hy ?_;rw[Bp,if_pos (by have:=aF hy;omega),Br];exact hz
def jn.rep{w w':PWd}{M:Mem}{id g:Nat}{cs:List PV}(hl:Le M.length w w')(hd:∀i e,w.env i=Jp e->i<M.length)(hf:∀sz off n x,az w (.ref id g sz off n) x->off+n*sz<=cs.length->az w' (.sl Js Jr sz n (dQ cs off (n*sz))) x):
  ∀{a b:List PV} {u:List AV},jn id g cs a b->ak w a u->ak w' b u
 | [],[],u,_,h=>⟨h.len,fun i y z q=>by simp at q⟩
 | x::a,y::b,[],_,h=>by have:=h.len;simp at this
 | x::a,y::b,v::u,⟨h1,h2⟩,h=>by
  refine .cons ?_ (jn.rep hl hd hf h2 h.tl);rcases h1 with rfl | rfl | ⟨sz,off,n,rfl,B,rfl⟩
  ·exact .aa _
  ·exact h.hd.mono hl hd
  ·exact hf sz off n v h.hd B
 | [],_::_,u,hw,h=>hw.elim
 | _::_,[],u,hw,h=>hw.elim
def GStep.freeze{a b:List PV}{M N:Mem}(id:Nat){g ver:Nat}{cs:List PV}(hid:m<=id)(u:M[id]? =Jp (.cells g ver cs))(hf:jn id g cs a b)(y:M.set id .gone=N):GStep m a M b N:=by subst y;refine⟨fun hm=>by simpa using hm,fun w hh a' h0 hm s B=>?_⟩;obtain⟨w',E,G,hl,hr⟩:=s.freeze u (As h0 hid);exact⟨w',G m hid,E,hf.rep hl s.env hr B⟩
def GStep.drop{a b:List PV}{M N:Mem}(n:Nat)(u:m<=n)(hl:n<=M.length)(hw:db a b)(y:aD n b=Jr)(B:(M.take n).all (bl.under n)=Jr)(E:M.take n=N):GStep m a M b N:=by subst E;refine⟨fun hm=>by simp;omega,fun w hh a' h0 hm s hr=>?_⟩;obtain⟨G,I⟩:=s.cut hl B;exact⟨_,(I w hh M (eg.refl (Ab _) w hh |>.weaken hl)).weaken u,G,(hw.rep hr).low (w:=w) (w':=w.cut hh n M) rfl (oW s n) (fun id J=>lD J) y⟩
end
attribute [irreducible] Gh
def zj(n:Nat):List PV:=Ae n .aa
def mX:zj 0=[]:=rfl
def mY(n:Nat):zj (n+1)= .aa::zj n:=rfl
def U8{n:Nat}(h:n<2^8):(⟨⟨⟨n,h⟩⟩⟩:UInt8)=UInt8.ofNat n:=by apply UInt8.toNat_inj.1;show n=_;simp;omega
def AL(l:List UInt8):Array.mk l=List.toArray l:=rfl
def mk(t:Option AFn){x:AFn}(_:t=Jp x:=by
 conv=>lhs;reduce;simp only[Int.reduceOfNat,Int.reduceNegSucc,U8,UInt8.reduceOfNat,AL]):AFn:=x
def fS(t:Option AFn){x:AFn}(h:t=Jp x):mk t h=x:=rfl
def XU:ep []= .tuple []:=rfl
def XT(a b:PV)(l:List PV):ep (a::b::l)= .tuple (a::b::l):=rfl
def PP:=(Aa (Aa (Aa (Aa (Aa (Aa (Aa (Aa @aGb @aIc) (Aa @aGd (Aa @Z5 @TW))) (Aa (Aa @aIb @aGe) (Aa @aDS (Aa @aGc @aDR)))) (Aa (Aa (Aa @aD0 @aD4) (Aa @aAj (Aa @aIk @aGm))) (Aa (Aa @aGl (Aa @aIo @aGo)) (Aa @aGn (Aa @aD3 @aAh))))) (Aa (Aa (Aa (Aa @aGh @aGg) (Aa @aDZ (Aa @aIh @aDY))) (Aa (Aa @FC @aGi) (Aa @T0 (Aa @aDT @QA)))) (Aa (Aa (Aa @aIi @aIg) (Aa @aDV (Aa @T2 @aI9))) (Aa (Aa @T3 (Aa @Z7 @J7)) (Aa @aDU (Aa @J9 @aDX)))))) (Aa (Aa (Aa (Aa (Aa @aAc @J8) (Aa @FA (Aa @aDW @aAb))) (Aa (Aa @T1 @aGj) (Aa @aAd (Aa @aIf @aIe)))) (Aa (Aa (Aa @aId @TU) (Aa @aIs (Aa @aCR @rH))) (Aa (Aa @AA (Aa @O2 @SU)) (Aa @E5 (Aa @Nat.add_eq_left @Nat.left_eq_add))))) (Aa (Aa (Aa (Aa @Nat.succ_ne_self @Nat.one_ne_zero) (Aa @aBk (Aa @List.contains_cons.{0} @List.contains_nil.{0}))) (Aa (Aa @Bool.or_false @Bool.false_or) (Aa @Bool.or_true (Aa @Bool.true_or @aDo)))) (Aa (Aa (Aa @TH @aDx) (Aa @S6 (Aa @ZK @S9))) (Aa (Aa @ZO (Aa @aFQ @aDl)) (Aa @aFS (Aa @aDq @ZR))))))) (Aa (Aa (Aa (Aa (Aa (Aa @aDr @aDs) (Aa @aFU (Aa @ZM @aDk))) (Aa (Aa @TE @ZN) (Aa @S7 (Aa @ZI @aFK)))) (Aa (Aa (Aa @aDf @aDe) (Aa @Z0 (Aa @aFX @aDv))) (Aa (Aa @ZY (Aa @ZX @PF)) (Aa @ZJ (Aa @TA @TB))))) (Aa (Aa (Aa (Aa @PG @ZL) (Aa @aFL (Aa @aFM @aDh))) (Aa (Aa @ZS @ZV) (Aa @ZT (Aa @ZU @J0)))) (Aa (Aa (Aa @J1 @J2) (Aa @TF (Aa @PH @ZW))) (Aa (Aa @TG (Aa @aDN @Z4)) (Aa @aF9 (Aa @RG @L9)))))) (Aa (Aa (Aa (Aa (Aa @aBu @aBl) (Aa @aBo (Aa @aBt @aBn))) (Aa (Aa @aBp @aBq) (Aa @aBr (Aa @aBs @XX)))) (Aa (Aa (Aa @aEC @aED) (Aa @GG (Aa @XV @R7))) (Aa (Aa @RI (Aa @aEG @aEE)) (Aa @aEF (Aa @XM @L7))))) (Aa (Aa (Aa (Aa @List.take_zero.{0} @List.take_succ_cons.{0}) (Aa @List.drop_succ_cons.{0} (Aa @List.drop_zero.{0} @List.drop_nil.{0}))) (Aa (Aa @List.take_nil.{0} (Aa @aA3 @O7)) (Aa @E7 (Aa @R1 @MP)))) (Aa (Aa (Aa @MN @YA) (Aa @RY (Aa @RZ @MO))) (Aa (Aa @R2 (Aa @aER @aBB)) (Aa @aBz (Aa @R6 @MV)))))))) (Aa (Aa (Aa (Aa (Aa (Aa (Aa @aHp @aEO) (Aa @aEP (Aa @aBA @wY))) (Aa (Aa @aD2 @aAi) (Aa @aAg (Aa @aAf @T4)))) (Aa (Aa (Aa @QC @QO) (Aa @FH (Aa @uD @QN))) (Aa (Aa @jW (Aa @xG @pE)) (Aa @WX (Aa @KR @WW))))) (Aa (Aa (Aa (Aa @WV @B5) (Aa @lG (Aa @jG @b9))) (Aa (Aa @cM @eK) (Aa @oZ (Aa @X8 @gT)))) (Aa (Aa (Aa @MI @XZ) (Aa @X9 (Aa @RV @RU))) (Aa (Aa @aBj (Aa @RK @aBg)) (Aa @aEJ (Aa @aHm @XY)))))) (Aa (Aa (Aa (Aa (Aa @X7 @X6) (Aa @RT (Aa @RR @aBi))) (Aa (Aa @aEK @X3) (Aa @RN (Aa @RQ @MM)))) (Aa (Aa (Aa @List.length_cons.{0} @List.length_nil.{0}) (Aa @List.length_append.{0} (Aa @List.length_replicate.{0} @List.length_set.{0}))) (Aa (Aa @List.length_map.{0,0} (Aa @List.cons_append.{0} @List.nil_append.{0})) (Aa @List.append_nil.{0} (Aa @List.map_cons.{0,0} @List.map_nil.{0,0}))))) (Aa (Aa (Aa (Aa @List.map_append.{0,0} @List.all_cons.{0}) (Aa @List.all_nil.{0} (Aa @List.all_append.{0} @List.set_cons_zero.{0}))) (Aa (Aa @List.set_cons_succ.{0} (Aa @List.getElem?_cons_zero.{0} @List.getElem?_cons_succ.{0})) (Aa @List.getElem?_map.{0,0} (Aa @List.getElem?_nil.{0} @Option.map_some.{0,0})))) (Aa (Aa (Aa @Option.map_none.{0,0} @Bg) (Aa @Nat.add_zero (Aa @Ce @Nat.one_mul))) (Aa (Aa @Nat.zero_mul (Aa @Ab @Ed)) (Aa @Nat.zero_lt_succ (Aa @Nat.lt_add_one @Int.cast_ofNat_Int))))))) (Aa (Aa (Aa (Aa (Aa (Aa @Int.toNat_natCast @Int.toNat_zero) (Aa @ite_true.{1} (Aa @ite_false.{1} @if_true.{1}))) (Aa (Aa @if_false.{1} @Aq) (Aa @decide_true (Aa @decide_false @decide_eq_true_eq)))) (Aa (Aa (Aa @Bool.not_true @Bool.not_false) (Aa @Bool.and_true (Aa @Bool.true_and @Bool.and_false))) (Aa (Aa @Bool.false_and (Aa @Bz @beq_self_eq_true.{0})) (Aa @ne_eq.{1} (Aa @not_true_eq_false @not_false_eq_true))))) (Aa (Aa (Aa (Aa @true_and @and_true) (Aa @and_self (Aa @false_and @and_false))) (Aa (Aa @true_or @or_true) (Aa @false_or (Aa @or_false @or_self)))) (Aa (Aa (Aa @Option.getD_none.{0} @Option.getD_some.{0}) (Aa @Option.isSome_none.{0} (Aa @Option.isSome_some.{0} @gt_iff_lt.{0}))) (Aa (Aa @ge_iff_le.{0} (Aa @fy.eq_1 @fy.eq_2)) (Aa @dr.eq_1 (Aa @dr.eq_2 @dr.eq_3)))))) (Aa (Aa (Aa (Aa (Aa @bf.eq_1 @bf.eq_2) (Aa @bf.eq_3 (Aa @pev.eq_1 @pev.eq_2))) (Aa (Aa @iw.eq_1 @iw.eq_2) (Aa @iw.eq_3 (Aa @iw.eq_4 @iw.eq_5)))) (Aa (Aa (Aa @iw.eq_6 @iw.eq_7) (Aa @iw.eq_8 (Aa @iw.eq_9 @iw.eq_10))) (Aa (Aa @iw.eq_11 (Aa @iw.eq_12 @bd.eq_1)) (Aa @bd.eq_2 (Aa @bd.eq_3 @bd.eq_4))))) (Aa (Aa (Aa (Aa @bd.eq_5 @bd.eq_6) (Aa @bd.eq_7 (Aa @bd.eq_8 @bd.eq_9))) (Aa (Aa @jl.eq_1 (Aa @dw.eq_1 @dw.eq_2)) (Aa @kq.eq_1 (Aa @ep.eq_1 @XU)))) (Aa (Aa (Aa @XT @bl.under.eq_1) (Aa @bl.under.eq_2 (Aa @List.replicate.eq_1.{0} @List.replicate.eq_2.{0}))) (Aa (Aa @mX (Aa @mY @fS)) (Aa @jc.eq_1 (Aa @lg.eq_1 @AO.effect.eq_def)))))))))
def PW:=Aa @Z6 (Aa @TY (Aa @TX (Aa @Int.cast_ofNat_Int (Aa @List.length_append.{0} (Aa @List.length_cons.{0} (Aa @List.length_nil.{0} (Aa @Bg (Aa @mX (Aa @mY (Aa @List.cons_append.{0} @List.nil_append.{0}))))))))))
def az.eqv{w w':PWd}(h0:w'.n0=w.n0)(J:∀b o,w.imm b=Jp o->w'.imm b=Jp o)(he:∀id e,w.env id=Jp e->w'.env id=Jp e){v:PV}{x:AV}(h:az w v x):az w' v x:=by
 induction h with
 | aa x=>exact .aa x
 | bool b=>exact .bool b
 | int k n=>exact .int k n
 | str s=>exact .str s
 | aq=>exact .aq
 | ai=>exact .ai
 | bc=>exact .bc
 | al=>exact .al
 | ae=>exact .ae
 | ptr h1 h2 h3=>exact .ptr (he _ _ h1) h2 h3
 | jo x q h1 h2=>exact .jo x q (he _ _ h1) h2
 | cp h1 h2 h3 u=>exact .cp (J _ _ h1) h2 fun i y z p q=>u i y z p q
 | sl h1 h2 h3 B E K L u=>exact .sl (J _ _ h1) h2 h3 B (by rw[h0];exact E) (by rw[h0];exact K) fun i y z p q=>u i y z p q
 | slN=>exact .slN
 | ref h1 h2 h3=>exact .ref (he _ _ h1) h2 h3
 | jk h1 h2 h3=>exact .jk (he _ _ h1) h2 h3
 | kj x q h1 h2=>exact .kj x q (he _ _ h1) h2
 | map h1 h2 h3=>exact .map (he _ _ h1) h2 h3
 | lj x q h1 h2=>exact .lj x q (he _ _ h1) h2
 | func h1 h2 h3 B E G I=>exact .func h1 h2 h3 (fun i y z p q=>G i y z p q) fun i y z p q=>I i y z p q
 | yld h1 h2 h3 B E u=>exact .yld (he _ _ h1) h2 h3 B fun i y z p q=>u i y z p q
 | ll x q h1 h2=>exact .ll x q (he _ _ h1) h2
 | iface h u=>exact .iface u
 | agg h1 h2 u=>exact .agg h1 fun i y z p q=>u i y z p q
 | tuple h1 h2 u=>exact .tuple h1 fun i y z p q=>u i y z p q
def ak.eqv{w w':PWd}(h0:w'.n0=w.n0)(u:∀b o,w.imm b=Jp o->w'.imm b=Jp o)(he:∀id e,w.env id=Jp e->w'.env id=Jp e){l:List PV}{l':List AV}(h:ak w l l'):ak w' l l':=
 ⟨h.len,fun i y z p q=>(h.get i y z p q).eqv h0 u he⟩
mutual
def PV.age:PV->PV
 | .sl _ _ sz n cs=> .sl Js Js sz n (eD cs)
 | .cp cs o=> .cp (eD cs) o
 | .agg cs=> .agg (eD cs)
 | .tuple cs=> .tuple (eD cs)
 | .func fn f c=> .func fn (eD f) (eD c)
 | .yld id f=> .yld id (eD f)
 | .iface t v=> .iface t (PV.age v)
 | .aa=> .aa
 | .bool b=> .bool b
 | .int k n=> .int k n
 | .str s=> .str s
 | .aq=> .aq
 | .ai=> .ai
 | .bc=> .bc
 | .al=> .al
 | .ae=> .ae
 | .ptr id g o=> .ptr id g o
 | .ref id g sz off n=> .ref id g sz off n
 | .map id=> .map id
def eD:List PV->List PV
 | []=>[]
 | v::l=>PV.age v::eD l
def PV.swp:PV->PV
 | .sl fl own sz n cs=>match fl,own with
  | false,Js=> .sl Js Js sz n (vQ cs)
  | _,_=> .aa
 | .cp _ _=> .aa
 | .agg cs=> .agg (vQ cs)
 | .tuple cs=> .tuple (vQ cs)
 | .func fn f c=> .func fn (vQ f) (vQ c)
 | .yld id f=> .yld id (vQ f)
 | .iface t v=> .iface t (PV.swp v)
 | .aa=> .aa
 | .bool b=> .bool b
 | .int k n=> .int k n
 | .str s=> .str s
 | .aq=> .aq
 | .ai=> .ai
 | .bc=> .bc
 | .al=> .al
 | .ae=> .ae
 | .ptr id g o=> .ptr id g o
 | .ref id g sz off n=> .ref id g sz off n
 | .map id=> .map id
def vQ:List PV->List PV
 | []=>[]
 | v::l=>PV.swp v::vQ l
end
def gP:∀l:List PV,eD l=l.map PV.age
 | []=>rfl
 | v::l=>by simp[eD,gP l]
def vP:∀l:List PV,vQ l=l.map PV.swp
 | []=>rfl
 | v::l=>by simp[vQ,vP l]
def O9{l:List PV}{i:Nat}{y:PV}(h:(eD l)[i]? =Jp y):∃z,l[i]? =Jp z/\y=z.age:=by
 rw[gP,Ap]at h
 cases hl:l[i]? with
 | none=>rw[hl]at h;cases h
 | some z=>rw[hl]at h;cases h;exact⟨z,rfl,rfl⟩
def K1{l:List PV}{i:Nat}{y:PV}(h:(vQ l)[i]? =Jp y):∃z,l[i]? =Jp z/\y=z.swp:=by
 rw[vP,Ap]at h
 cases hl:l[i]? with
 | none=>rw[hl]at h;cases h
 | some z=>rw[hl]at h;cases h;exact⟨z,rfl,rfl⟩
def az.age{w w':PWd}(hb:∀b o,w.imm b=Jp o->b<w'.n0)(L:∀b o,w.imm b=Jp o->w'.imm b=Jp o)(he:∀id e,w.env id=Jp e->w'.env id=Jp e){v:PV}{x:AV}(h:az w v x):az w' v.age x:=by
 have E:∀{l:List PV} {G:List AV} {f:Nat->Nat},(∀(i:Nat) (y:PV) (z:AV),l[i]? =Jp y->G[f i]? =Jp z->az w' y.age z)->∀(i:Nat) (y:PV) (z:AV),(eD l)[i]? =Jp y->G[f i]? =Jp z->az w' y z:=by intro l G f h i y z p q;obtain⟨u,h1,rfl⟩:=O9 p;exact h i u z h1 q
 have len:∀l:List PV,(eD l).length=l.length:=fun l=>by rw[gP];simp
 induction h with
 | aa x=>simp only[PV.age];exact .aa x
 | bool b=>simp only[PV.age];exact .bool b
 | int k n=>simp only[PV.age];exact .int k n
 | str s=>simp only[PV.age];exact .str s
 | aq=>simp only[PV.age];exact .aq
 | ai=>simp only[PV.age];exact .ai
 | bc=>simp only[PV.age];exact .bc
 | al=>simp only[PV.age];exact .al
 | ae=>simp only[PV.age];exact .ae
 | ptr h1 h2 h3=>simp only[PV.age];exact .ptr (he _ _ h1) h2 h3
 | jo x q h1 h2=>simp only[PV.age];exact .jo x q (he _ _ h1) h2
 | cp h1 h2 h3 B=>simp only[PV.age];exact .cp (L _ _ h1) (by rw[len];exact h2) (E B)
 | sl h1 h2 h3 I M O Q B=>simp only[PV.age];exact .sl (L _ _ h1) (by rw[len];exact h2) (by rw[len];exact h3) (fun q=>by cases q) (fun q=>by cases q) (fun _ _=>hb _ _ h1) (E B)
 | slN=>simp only[PV.age,eD];exact .slN
 | ref h1 h2 h3=>simp only[PV.age];exact .ref (he _ _ h1) h2 h3
 | jk h1 h2 h3=>simp only[PV.age];exact .jk (he _ _ h1) h2 h3
 | kj x q h1 h2=>simp only[PV.age];exact .kj x q (he _ _ h1) h2
 | map h1 h2 h3=>simp only[PV.age];exact .map (he _ _ h1) h2 h3
 | lj x q h1 h2=>simp only[PV.age];exact .lj x q (he _ _ h1) h2
 | func h1 h2 h3 I M J K=>simp only[PV.age];exact .func h1 (by rw[len];exact h2) (by rw[len];exact h3) (E (f:=id) J) (E (f:=id) K)
 | yld h1 h2 h3 I M B=>simp only[PV.age];exact .yld (he _ _ h1) h2 h3 (by rw[len];exact I) (E (f:=id) B)
 | ll x q h1 h2=>simp only[PV.age];exact .ll x q (he _ _ h1) h2
 | iface h B=>simp only[PV.age];exact .iface B
 | agg h1 h2 B=>simp only[PV.age];exact .agg (by rw[len];exact h1) (E (f:=id) B)
 | tuple h1 h2 B=>simp only[PV.age];exact .tuple (by rw[len];exact h1) (E (f:=id) B)
def az.swp{w w':PWd}(h0:w'.n0=w.n0)(O:∀b o,w.imm b=Jp o->b<w.n0->w'.imm b=Jp o)(he:∀id e,w.env id=Jp e->w'.env id=Jp e){v:PV}{x:AV}(h:az w v x):az w' v.swp x:=by
 have E:∀{l:List PV} {G:List AV} {f:Nat->Nat},(∀(i:Nat) (y:PV) (z:AV),l[i]? =Jp y->G[f i]? =Jp z->az w' y.swp z)->∀(i:Nat) (y:PV) (z:AV),(vQ l)[i]? =Jp y->G[f i]? =Jp z->az w' y z:=by intro l G f h i y z p q;obtain⟨u,h1,rfl⟩:=K1 p;exact h i u z h1 q
 have len:∀l:List PV,(vQ l).length=l.length:=fun l=>by rw[vP];simp
 induction h with
 | aa x=>simp only[PV.swp];exact .aa x
 | bool b=>simp only[PV.swp];exact .bool b
 | int k n=>simp only[PV.swp];exact .int k n
 | str s=>simp only[PV.swp];exact .str s
 | aq=>simp only[PV.swp];exact .aq
 | ai=>simp only[PV.swp];exact .ai
 | bc=>simp only[PV.swp];exact .bc
 | al=>simp only[PV.swp];exact .al
 | ae=>simp only[PV.swp];exact .ae
 | ptr h1 h2 h3=>simp only[PV.swp];exact .ptr (he _ _ h1) h2 h3
 | jo x q h1 h2=>simp only[PV.swp];exact .jo x q (he _ _ h1) h2
 | cp h1 h2 h3 B=>simp only[PV.swp];exact .aa _
 | @sl fl own sz n cs fl' b ver rw bcs off h1 h2 h3 I L M Q B=>
  cases fl<;>cases own<;>simp only[PV.swp]
  ·exact .sl (O _ _ h1 (M rfl rfl)) (by rw[len];exact h2) (by rw[len];exact h3) (fun q=>by cases q) (fun q=>by cases q) (fun _ _=>by rw[h0];exact M rfl rfl) (E B)
  all_goals exact .aa _
 | @slN fl own sz=>cases fl<;>cases own<;>simp only[PV.swp,vQ]<;>first | exact .slN | exact .aa _
 | ref h1 h2 h3=>simp only[PV.swp];exact .ref (he _ _ h1) h2 h3
 | jk h1 h2 h3=>simp only[PV.swp];exact .jk (he _ _ h1) h2 h3
 | kj x q h1 h2=>simp only[PV.swp];exact .kj x q (he _ _ h1) h2
 | map h1 h2 h3=>simp only[PV.swp];exact .map (he _ _ h1) h2 h3
 | lj x q h1 h2=>simp only[PV.swp];exact .lj x q (he _ _ h1) h2
 | func h1 h2 h3 I L J K=>simp only[PV.swp];exact .func h1 (by rw[len];exact h2) (by rw[len];exact h3) (E (f:=id) J) (E (f:=id) K)
 | yld h1 h2 h3 I L B=>simp only[PV.swp];exact .yld (he _ _ h1) h2 h3 (by rw[len];exact I) (E (f:=id) B)
 | ll x q h1 h2=>simp only[PV.swp];exact .ll x q (he _ _ h1) h2
 | iface h B=>simp only[PV.swp];exact .iface B
 | agg h1 h2 B=>simp only[PV.swp];exact .agg (by rw[len];exact h1) (E (f:=id) B)
 | tuple h1 h2 B=>simp only[PV.swp];exact .tuple (by rw[len];exact h1) (E (f:=id) B)
def ak.age{w w':PWd}(hb:∀b o,w.imm b=Jp o->b<w'.n0)(B:∀b o,w.imm b=Jp o->w'.imm b=Jp o)(he:∀id e,w.env id=Jp e->w'.env id=Jp e){l:List PV}{l':List AV}(h:ak w l l'):ak w' (eD l) l':=
 ⟨by rw[gP];simpa using h.len,fun i y z p q=>by
  obtain⟨u,h1,rfl⟩:=O9 p;exact(h.get i u z h1 q).age hb B he⟩
def ak.swp{w w':PWd}(h0:w'.n0=w.n0)(B:∀b o,w.imm b=Jp o->b<w.n0->w'.imm b=Jp o)(he:∀id e,w.env id=Jp e->w'.env id=Jp e){l:List PV}{l':List AV}(h:ak w l l'):ak w' (vQ l) l':=
 ⟨by rw[vP];simpa using h.len,fun i y z p q=>by
  obtain⟨u,h1,rfl⟩:=K1 p;exact(h.get i u z h1 q).swp h0 B he⟩
def bl.po(f:List PV->List PV):bl->bl
 | .cells g ver cs=> .cells g ver (f cs)
 | _=> .gone
def ND{f:List PV->List PV}{M:Mem}{id:Nat}{o:bl}(h:(M.map (bl.po f))[id]? =Jp o):∃u,M[id]? =Jp u/\o=u.po f:=by
 rw[Ap]at h
 cases hl:M[id]? with
 | none=>rw[hl]at h;cases h
 | some z=>rw[hl]at h;cases h;exact⟨z,rfl,rfl⟩
def yF{f:List PV->List PV}{w w':PWd}{M:Mem}(he:∀id,w'.env id=w.env id){id x:Nat}(h:af w' (M.map (bl.po f)) id x):af w M id x:=by obtain⟨o,e,h1,h2,h3,u⟩:=h;obtain⟨y,B,rfl⟩:=ND h1;rw[he]at h3;refine⟨y,e,B,?_,h3,u⟩;rintro rfl;exact h2 rfl
section
variable (tab:FuncId->Option AF)
def LfT(Q:List PV->Mem->Prop)(u:List AV)(y:H):Prop:=∃w a M,PSt w y M/\ak w a u/\Q a M
def Top(c:AC)(a:List PV)(M:Mem)(y B:List PV->Mem->Prop):Prop:=
 ∀(w:PWd) (h:H) (u:List AV),PSt w h M->ak w a u->W (lim tab) c u h (LfT y) (LfT B) fun _ _ _=>False
variable {tab}
def wH(h:H):PWd:=⟨h.next,0,fun _=>Jq,h.get⟩
def aGq(h:H):PSt (wH h) h []:=
 ⟨fun b o hb=>hb,(fun id e he=>by cases he),(fun id e b he=>by cases he),(fun id o u=>by simp at u),fun i j x ⟨_,_,h1,_⟩=>by simp at h1,fun i x ⟨_,_,h1,_⟩=>by simp at h1,Ab _⟩
def xA(res:List lk)(a:List PV)(M:Mem):Prop:=lC res a M fun u=>ep u= .bool Jr
def SE{g:FuncId}{F:AFn}(hg:tab g=Jp (.fn F)){u:List PV}{y:List AV}{h:H}(G:ak (wH h) u y)(ht:Top tab F.body (jl u F.ntmps) [] (xA F.results) (xA F.results)):
  C (lim tab) g y h fun v _=>v= .bool Jr:=by
 rw[EN hg];have fin:∀B h1,LfT (xA F.results) B h1->T8 F.results (fun v _=>v= .bool Jr) B h1:=by rintro B h1 ⟨O,b,N,I,J,q⟩;obtain⟨Q,E,K,L,M⟩:=mL I J F.results q;rw[dW];have:=L3 L;rw[M]at this;exact⟨E,K,kZ this⟩
 exact hU (ht (wH h) h _ (aGq h) (U1 G _)) fin fin fun i B h1 q=>q.elim
end
def aAN{E:Ty}(G:E.size=1){cs:List AV}{h:H}(hs:Sh (.slice E) cs h):∃v cells,cs=[v]/\cells.length<=9223372036854775807/\(∀c∈cells,Sh E [c] h)/\
  ∀(u:List PV),ak (wH h) u cells->az (wH h) (.sl Js Js 1 cells.length u) v:=by
 rcases hs with rfl | ⟨b,n,cells,rfl,h2,h3,J,L⟩
 ·refine⟨.ag,[],rfl,by simp,(fun c I=>by cases I),fun u B=>?_⟩;have:u=[]:=List.length_eq_zero_iff.1 (by simpa using B.len);subst this;exact .slN
 ·rw[G,Ce]at J;subst J;rw[G];refine⟨_,cells,rfl,by simpa [maxLen]using h2,fun c I=>?_,fun u B=>?_⟩
  ·obtain⟨i,K,rfl⟩:=List.getElem_of_mem I;have:=L i K;rw[G,Ce,List.drop_eq_getElem_cons K]at this;exact this
  ·exact .sl (show(wH h).imm b=_ from h3) (by have:=B.len;omega) (by have:=B.len;omega) (fun q=>by cases q) (fun q=>by cases q) (fun _ _=>H.bj h3) (fun i y z p q=>B.get i y z p (by simpa using q))
def pH{k:IntKind}{cs:List AV}{h:H}(hs:Sh (.slice (.int k)) cs h):∃v,∃u:List Int,cs=[v]/\az (wH h) (slI Js Js k u) v/\u.length<=9223372036854775807/\∀x∈u,k.min<=x/\x<=k.max:=by
 obtain⟨v,cells,rfl,h1,h2,h3⟩:=aAN rfl hs;have:∀cells:List AV,(∀c∈cells,Sh (.int k) [c] h)->∃u:List Int,cells=u.map (AV.int k)/\∀x∈u,k.min<=x/\x<=k.max:=by
  intro cells
  induction cells with
  | nil=>intro _;exact⟨[],rfl,fun x B=>by cases B⟩
  | cons c cells G=>
   intro E;obtain⟨u,e,I⟩:=G fun J K=>E J (Cy _ K);obtain⟨n,L,M,O⟩:=E c (by simp);cases L;refine⟨n::u,by simp[e],fun x B=>?_⟩;rcases List.mem_cons.1 B with rfl | B
   ·exact⟨M,O⟩
   ·exact I x B
 obtain⟨u,rfl,hr⟩:=this cells h2;refine⟨v,u,rfl,?_,by simpa using h1,hr⟩;have:=h3 (u.map (PV.int k)) ⟨by simp,fun i y z p q=>by
  rw[Ap]at p q
  cases B:u[i]? with
  | none=>rw[B]at p;cases p
  | some x=>rw[B]at p q;cases p;cases q;exact .int k x⟩
 simpa using this
def LO{k:IntKind}{cs:List AV}{h:H}(hs:Sh (.slice (.slice (.int k))) cs h):∃v,∃su:List (List Int),cs=[v]/\az (wH h) (slR Js Js Js Js k su) v/\su.length<=9223372036854775807/\∀r∈su,r.length<=9223372036854775807/\∀x∈r,k.min<=x/\x<=k.max:=by
 obtain⟨v,cells,rfl,h1,h2,h3⟩:=aAN rfl hs;have:∀cells:List AV,(∀c∈cells,Sh (.slice (.int k)) [c] h)->∃su:List (List Int),cells.length=su.length/\ak (wH h) (su.map (slI Js Js k)) cells/\∀r∈su,r.length<=9223372036854775807/\∀x∈r,k.min<=x/\x<=k.max:=by
  intro cells
  induction cells with
  | nil=>intro _;exact⟨[],rfl,.nil _,fun x u=>by cases u⟩
  | cons c cells I=>
   intro G;obtain⟨su,e,y,B⟩:=I fun J K=>G J (Cy _ K);obtain⟨v,L,E,M,O,Q⟩:=pH (G c (by simp));cases E;refine⟨L::su,by simp[e],.cons M y,fun x u=>?_⟩;rcases List.mem_cons.1 u with rfl | u
   ·exact⟨O,Q⟩
   ·exact B x u
 obtain⟨su,E,y,B⟩:=this cells h2;have:=h3 _ y;rw[E]at this h1;exact⟨v,su,rfl,this,h1,B⟩
def JY(f o:Bool)(sz n:Nat)(k:IntKind)(u:List Int):PV.age (.sl f o sz n (u.map (PV.int k)))= .sl Js Js sz n (u.map (PV.int k)):=by
 have e:u.map (PV.age∘PV.int k)=u.map (PV.int k):=Cq fun x _=>by simp[PV.age]
 simp only[PV.age,gP,Cs,e]
def iK(k:IntKind)(u:List Int):eD (u.map (PV.int k))=u.map (PV.int k):=by rw[gP,Cs];exact Cq fun x _=>by simp[PV.age]
def aC5(f o:Bool)(k:IntKind)(su:List (List Int)):eD (su.map (slI f o k))=su.map (slI Js Js k):=by rw[gP,Cs];exact Cq fun x _=>JY f o 1 _ k x
def iZ(u:List Bool):eD (u.map PV.bool)=u.map PV.bool:=by rw[gP,Cs];exact Cq fun x _=>by simp[PV.age]
attribute [irreducible] xA
def qU(fl:Bool)(b o n:Nat)(kd:IntKind)(j:Int)(K:AV->Prop):FD 1 (.slice fl 1 b o n) (.int kd j) K=((True/\0<=j/\j<n)/\K (.ptr b (o+j.toNat*1))):=by unfold FD;rw[aN,cO];simp
structure Kp (w:PWd) (h h':H):Prop where
 next:h.next<=h'.next
 fc:∀x,x<h.next->x<w.n0\/w.imm x=Jq->h'.get x=h.get x
def Kp.refl(w:PWd)(h:H):Kp w h h:=⟨Ab _,fun _ _ _=>rfl⟩
def Kp.trans{w:PWd}{a b c:H}(p:Kp w a b)(q:Kp w b c):Kp w a c:=⟨As p.next q.next,fun x u y=>by rw[q.fc x (Bk u p.next) y,p.fc x u y]⟩
def Kp.alloc(w:PWd)(h:H)(o:cq):Kp w h (h.alloc o):=⟨by simp,fun x u _=>by rw[H.ay,if_neg (by omega)]⟩
def U4{w:PWd}{f:Bool}{cs:List PV}{n:Nat}{v:AV}(hr:az w (.sl f Jr 1 n cs) v):(v= .ag/\n=0)\/∃fl b off ver u,v= .slice fl 1 b off n/\w.imm b=Jp (.cells ver Jr u)/\w.n0<=b/\off+cs.length<=u.length/\∀(i:Nat),i<cs.length->∃y z,cs[i]? =Jp y/\u[off+i]? =Jp z/\az w y z:=by
 cases hr with
 | slN=>exact .inl ⟨rfl,rfl⟩
 | sl h1 h2 h3 K I L J=>obtain⟨E,rfl⟩:=I rfl;refine .inr ⟨_,_,_,_,_,rfl,h1,E,h2,fun i G=>?_⟩;have B:_+i<_:=Bk (Nat.add_lt_add_left G _) h2;exact⟨cs[i],_,Ad G,Ad B,J i _ _ (Ad G) (Ad B)⟩
section
variable {tab:FuncId->Option AF}
end
def HU(n:Nat)(u:List (PV×PV)):Bool:=u.all fun p=>p.1.under n&&p.2.under n
def mg.low{w w':PWd}{m:Nat}(h0:w'.n0=w.n0)(B:∀b o,w.imm b=Jp o->w'.imm b=Jp o)(he:∀id,id<m->w'.env id=w.env id){l:List (PV×PV)}{l':List (AV×AV)}(h:mg w l l')(hb:HU m l=Jr):mg w' l l':=
 ⟨h.len,fun i y z p q=>by have u:=(List.all_eq_true.1 hb) y (Af p);rw[Aw]at u;obtain⟨a,b⟩:=h.get i y z p q;exact⟨a.low h0 B he u.1,b.low h0 B he u.2⟩⟩
def sD(n:Nat)(M:Mem):bl->Option bl
 | .cells g ver cs=>(jI n M cs).map (.cells g ver)
 | .map ver u=>if HU n u=Jr then Jp (.map ver u)else Jq
 | .gone=>Jp .gone
 | _=>Jq
def pO(n:Nat)(M:Mem):Mem->Option Mem
 | []=>Jp []
 | o::l=>match sD n M o,pO n M l with
  | some x,Jp u=>Jp (x::u)
  | _,_=>Jq
def xY{n:Nat}{M:Mem} :∀{l N:Mem},pO n M l=Jp N->N.length=l.length/\∀(i:Nat) (o:bl),N[i]? =Jp o->∃u,l[i]? =Jp u/\sD n M u=Jp o
 | [],N,h=>by simp only[pO]at h;cases h;exact⟨rfl,fun i o h=>by simp at h⟩
 | o::l,N,h=>by
  simp only[pO]at h;split at h
  ·rename_i x I h1 h2;cases h;obtain⟨p,q⟩:=xY h2;refine⟨by simp[p],fun i B y=>?_⟩
   cases i with
   | zero=>simp at y;subst y;exact⟨o,rfl,h1⟩
   | succ i=>obtain⟨u,E,G⟩:=q i B (by simpa using y);exact⟨u,by simpa using E,G⟩
  ·cases h
open Classical in
def PSt.cutF{w:PWd}{h:H}{M N:Mem}(s:PSt w h M){m n:Nat}(h0:w.id0<=n)(hm:n<=M.length)(Y:pO n M (M.take n)=Jp N):
  PSt (w.cut h n M) h N/\∀m,m<=n->eg m w h M (w.cut h n M) h N:=by
 obtain⟨hlen,I⟩:=xY Y;have hlen:N.length=n:=by rw[hlen];simp;omega
 have live:∀{id x:Nat},af (w.cut h n M) N id x->id<n/\af w M id x:=by
  rintro id x ⟨o,e,h1,h2,h3,J⟩;obtain⟨L,K,u⟩:=I id o h1;have y:id<n:=by have:=aF h1;omega
  rw[lD y]at h3;rw[Bp,if_pos y]at K;refine⟨y,L,e,K,?_,h3,J⟩;rintro rfl;simp only[sD]at u;cases u;exact h2 rfl
 refine⟨⟨?_,?_,?_,?_,?_,?_,s.base⟩,fun m Z=>⟨by omega,⟨rfl,rfl,oW s n,fun id y e he=>⟨e,by rw[lD (by omega)];exact he,.inr rfl⟩⟩,Ab _,fun _ _ _=>rfl,fun id x hl _=>(live hl).2,?_⟩⟩
 ·intro b o B;have B:(if ∃id,n<=id/\af w M id b then h.get b else w.imm b)=Jp o:=B;split at B
  ·exact B
  ·exact s.imm b o B
 ·intro id e he;have he:(if id<n then w.env id else Jq)=Jp e:=he;split at he
  ·omega
  ·cases he
 ·intro id e b he E;have he:(if id<n then w.env id else Jq)=Jp e:=he;split at he
  ·exact s.blk id e b he E
  ·cases he
 ·intro id o V;have y:id<n:=by have:=aF V;omega
  obtain⟨L,K,u⟩:=I id o V;rw[Bp,if_pos y]at K;have r:=s.obj id L K
  cases L with
  | cells g ver cs=>
   simp only[sD]at u
   cases G:jI n M cs with
   | none=>rw[G]at u;cases u
   | some a0=>
    rw[G]at u;cases u;obtain⟨e,h1,h2,h3⟩:=r;refine⟨e,by rw[lD y];exact h1,h2,?_⟩
    cases E:e.blk with
    | none=>rw[E]at h3;have h3:cs=[]:=h3;subst h3;simp only[jI]at G;cases G;rfl
    | some b=>rw[E]at h3;obtain⟨Q,J,R⟩:=h3;exact⟨Q,J,wO s h0 R G⟩
  | gone=>simp only[sD]at u;cases u;trivial
  | map ver es=>
   simp only[sD]at u;by_cases G:HU n es=Jr
   ·rw[if_pos G]at u;cases u;obtain⟨e,b,h1,h2,h3,S,J,R⟩:=r;exact⟨e,b,by rw[lD y];exact h1,h2,h3,S,J,R.low (w:=w) (w':=w.cut h n M) rfl (oW s n) (fun id y=>lD y) G⟩
   ·rw[if_neg G]at u;cases u
  | loop ver r=>simp[sD]at u
 ·intro i j x h1 h2;exact s.inj i j x (live h1).2 (live h2).2
 ·intro i x h1;obtain⟨y,hl⟩:=live h1;refine⟨?_,(s.sep i x hl).2⟩;show(if _ then _ else _)=_;split
  ·rename_i T;obtain⟨j,hj,U⟩:=T;have:=s.inj i j x hl U;omega
  ·exact(s.sep i x hl).1
 ·intro x O;have O:(if ∃id,n<=id/\af w M id x then h.get x else w.imm x)≠Jq:=O;split at O
  ·rename_i T;obtain⟨id,hid,hl⟩:=T;exact .inr (.inr ⟨id,by omega,hl⟩)
  ·exact .inl O
def GStep.cutF{m:Nat}{a b c:List PV}{M N:Mem}(n:Nat)(u:m<=n)(hl:n<=M.length)(hw:db a b)(B:jI n M b=Jp c)(y:pO n M (M.take n)=Jp N):GStep m a M c N:=
 ⟨fun hm=>by obtain⟨q,_⟩:=xY y;rw[q];simp;omega,fun w hh a' h0 hm s hr=>by
  obtain⟨E,G⟩:=s.cutF (m:=m) (As h0 u) hl y;exact⟨_,G m u,E,wO s (As h0 u) (hw.rep hr) B⟩⟩
section
variable {tab:FuncId->Option AF}
def iG{g:FuncId}{args:List PV}{M:Mem}{K:PV->Mem->Prop}(h:au tab g args M fun r G=>Gh M.length (fun a N=>∃y,a=[y]/\K y N) [r] G):au tab g args M K:=by intro w hh u h0 s I;refine mS (h w hh u h0 s I) ?_;rintro v J ⟨L,r,Y,B,O,Q,E⟩;unfold Gh at E;obtain⟨b,N,gs,y,rfl,R⟩:=E;obtain⟨S,T,U,V⟩:=gs.go L J [v] (by rw[B.le.id0];exact h0) B.len O (.cons Q (.nil _));exact⟨S,y,N,B.trans T (Ab _),U,V.hd,R⟩
end
def zM{n:Nat}{M:Mem}{fn:Go.Fn}{f c:List PV}(h:(aD n f&&aD n c)=Jr):gD n M (.func fn f c)=Jp (.func fn f c):=by unfold gD;simp only;rw[if_pos (by rw[B5];exact h)]
def uH{n:Nat}{M:Mem}{id g sz off k ver:Nat}{cs:List PV}(y:n<=id)(u:M[id]? =Jp (.cells g ver cs))(h1:off+k*sz<=cs.length)(h2:aD n cs=Jr):gD n M (.ref id g sz off k)=Jp (.sl Js Jr sz k (dQ cs off (k*sz))):=by unfold gD;simp only;rw[if_neg (by omega),u];simp only;rw[if_pos ⟨trivial,h1,h2⟩]
def ML(n:Nat)(M:Mem)(v:PV)(l:List PV):jI n M (v::l)=C1 (gD n M v) (jI n M l):=by simp only[jI,C1];all_goals (split<;>simp_all)
def PV.ni:PV->Bool
 | .bool _ | .int _ _ | .aq | .ai | .bc | .al | .ae=>Jr
 | _=>Js
def PV.mw:PV->Bool
 | .agg vs=>vs.all PV.ni
 | v=>v.ni
def PV.flat:PV->Bool
 | .tuple vs=>vs.all PV.mw
 | v=>v.mw
def G2{w w':PWd}{r:PV}{x:AV}(hf:r.ni=Jr)(h:az w r x):az w' r x:=by cases h<;>first | (simp[PV.ni]at hf;done) | constructor
def G1{w w':PWd}{r:PV}{x:AV}(hf:r.mw=Jr)(h:az w r x):az w' r x:=by
 cases r with
 | agg B=>
  cases h with
  | agg h1 h2=>refine .agg h1 fun i y z u hz=>G2 ?_ (h2 i y z u hz);exact(List.all_eq_true.1 hf) y (Af u)
 | _=>exact G2 hf h
def wP{w w':PWd}{r:PV}{x:AV}(hf:r.flat=Jr)(h:az w r x):az w' r x:=by
 cases r with
 | tuple B=>
  cases h with
  | tuple h1 h2=>refine .tuple h1 fun i y z u hz=>G1 ?_ (h2 i y z u hz);exact(List.all_eq_true.1 hf) y (Af u)
 | _=>exact G1 hf h
inductive jf (M:Mem):List PV->List PV->Prop
 | nil:jf M [] []
 | same {v:PV} {a b:List PV} :v.under 0=Jr->jf M a b->jf M (v::a) (v::b)
 | ref {id g ver sz off n:Nat} {cs cs2:List PV} {a b:List PV} :M[id]? =Jp (.cells g ver cs)->off+n*sz<=cs.length->aD 0 cs2=Jr->dQ cs off (n*sz)=cs2->jf M a b->
   jf M (.ref id g sz off n::a) (.sl Jr Js sz n cs2::b)
 | nest {id g ver sz off n:Nat} {cs cs2:List PV} {a b:List PV} :M[id]? =Jp (.cells g ver cs)->off+n*sz<=cs.length->jf M (dQ cs off (n*sz)) cs2->jf M a b->
   jf M (.ref id g sz off n::a) (.sl Jr Js sz n cs2::b)
 | agg {cs cs2 a b:List PV} :jf M cs cs2->jf M a b->jf M (.agg cs::a) (.agg cs2::b)
def jf.len{M:Mem}{a b:List PV}(h:jf M a b):a.length=b.length:=by
 induction h with
 | nil=>rfl
 | same _ _ u=>simp[u]
 | ref _ _ _ _ _ u=>simp[u]
 | nest _ _ _ _ _ u=>simp[u]
 | agg _ _ _ u=>simp[u]
section
variable {tab:FuncId->Option AF}
def mE{g:FuncId}{args args2:List PV}{M:Mem}{K:PV->Mem->Prop}(hb:jf M args args2)(hc:au tab g args2 [] fun r _=>r.flat=Jr/\K r M):au tab g args M K:=by
 intro w h u h0 s B
 classical
 let w0:PWd:={n0:=w.n0,env:=fun _=>Jq,id0:=0,imm:=fun b=>if ∃id,af w M id b then h.get b else w.imm b}
 have O:∀b o,w.imm b=Jp o->w0.imm b=Jp o:=fun b o E=>by
  show(if _ then _ else _)=_;split
  ·exact s.imm b o E
  ·exact E
 have s0:PSt w0 h []:=⟨(fun b o E=>by
   have E:(if ∃id,af w M id b then h.get b else w.imm b)=Jp o:=E;split at E
   ·exact E
   ·exact s.imm b o E),(fun id e he=>by cases he),(fun id e b he=>by cases he),(fun id o ho=>by simp at ho),(fun i j x ⟨_,_,h1,_⟩=>by simp at h1),(fun i x ⟨_,_,h1,_⟩=>by simp at h1),s.base⟩
 have a0:ak w0 args2 u:=by
  clear hc
  induction hb generalizing u with
  | nil=>exact⟨B.len,fun i y z Q=>by simp at Q⟩
  | @same v a b hv _ R=>
   match u,B with
   | x::l,B=>exact .cons (B.hd.low (w:=w) (w':=w0) (m:=0) rfl O (fun id hi=>by omega) hv) (R l B.tl)
   | [],B=>exact absurd B.len (by simp)
  | @ref id g ver sz off n cs J a b hm hl hu a1 _ R=>
   match u,B with
   | x::l,B=>
    refine .cons ?_ (R l B.tl);subst a1;obtain⟨e,S,p2,V⟩:=s.ic hm B.hd;rcases V with⟨rfl,rfl,rfl,_,_⟩ | ⟨fl,b,a2,rfl,p4,Y,T,p7⟩
    ·simpa [dQ]using az.slN
    ·have G:(dQ cs off (n*sz)).length=n*sz:=by simp[dQ];omega
     have hg:w0.imm b=h.get b:=by show(if _ then _ else _)=_;rw[if_pos ⟨id,p7⟩]
     have hs:=(jP T off (n*sz)).low (w:=w) (w':=w0) (m:=0) rfl O (fun id hi=>by omega) hu;refine .sl (hg.trans Y) (by rw[G,<-T.len];exact hl) G (fun _ q=>by cases q) (fun q=>by cases q) (fun _ q=>by cases q) fun i y z Q hz=>hs.get i y z Q ?_;rw[Bp,if_pos (by have:=aF Q;omega),Br];exact hz
   | [],B=>exact absurd B.len (by simp)
  | @nest id g ver sz off n cs J a b hm hl a3 _ L R=>
   match u,B with
   | x::l,B=>
    refine .cons ?_ (R l B.tl);obtain⟨e,S,p2,V⟩:=s.ic hm B.hd;have G:J.length=n*sz:=by rw[<-a3.len];simp[dQ];omega
    rcases V with⟨rfl,rfl,rfl,_,rfl⟩ | ⟨fl,b,a2,rfl,p4,Y,T,p7⟩
    ·have:J=[]:=List.length_eq_zero_iff.1 (by rw[G];simp);subst this;exact az.slN
    ·have hg:w0.imm b=h.get b:=by show(if _ then _ else _)=_;rw[if_pos ⟨id,p7⟩]
     have hs:=L _ (jP T off (n*sz));refine .sl (hg.trans Y) (by rw[G,<-T.len];exact hl) G (fun _ q=>by cases q) (fun q=>by cases q) (fun _ q=>by cases q) fun i y z Q hz=>hs.get i y z Q ?_;rw[Bp,if_pos (by have:=aF Q;omega),Br];exact hz
   | [],B=>exact absurd B.len (by simp)
  | @agg cs J a b _ _ L R=>
   match u,B with
   | x::l,B=>
    refine .cons ?_ (R l B.tl)
    cases B.hd with
    | agg h1 h2=>exact .agg (L _ ⟨h1,h2⟩).len (L _ ⟨h1,h2⟩).get
   | [],B=>exact absurd B.len (by simp)
 refine mS (hc w0 h u (Ab _) s0 a0) ?_;rintro v h' ⟨w1,r,M1,S,p2,V,Y,T⟩;have a4:∀x id,¬af w0 [] id x:=fun x id ⟨_,_,h1,_⟩=>by simp at h1
 have I:∀x,x<h.next->h'.get x=h.get x:=fun x Z=>S.fc x Z (a4 x);refine⟨w,r,M,⟨Ab _,Le.refl _ _,S.next,fun x Z _=>I x Z,fun id x a5 _=>a5,fun x Z=> .inl Z⟩,⟨fun b o E=>?_,s.env,fun id e b he U=>Bk (s.blk id e b he U) S.next,fun id o ho=>?_,s.inj,s.sep,As s.base S.next⟩,wP Y V,T⟩
 ·exact p2.imm b o (S.le.imm b o (O b o E))
 ·exact kg.mono s (Le.refl _ _) (s.obj id o ho) (fun e he=>he) fun e b he U=>I b (s.blk id e b he U)
end
def jf.ints{M:Mem}{k:IntKind}{id g ver n:Nat}{u:List Int}{a b:List PV}(hm:M[id]? =Jp (.cells g ver (u.map (PV.int k))))(y:u.length=n)(h:jf M a b):jf M (.ref id g 1 0 n::a) (slI Jr Js k u::b):=by subst y;exact .ref hm (by simp) (b9 _ _ _) (by rw[Ce,L7]) h
def ak.wkAt{w:PWd}{v':PV} :∀{a:List PV} {u:List AV} (t:Nat),bh (bf a t) v'->ak w a u->ak w (dr a t v') u
 | [],u,t,_,h=>by cases t<;>exact h
 | x::a,[],t,_,h=>absurd h.len (by simp)
 | x::a,y::u,0,hw,h=> .cons (hw w y h.hd) h.tl
 | x::a,y::u,t+1,hw,h=> .cons h.hd (ak.wkAt (a:=a) t hw h.tl)
def GStep.wk{m:Nat}{a b:List PV}{M:Mem}(t:Nat)(u:PV)(h:bh (bf a t) u)(hb:dr a t u=b):GStep m a M b M:=by subst hb;exact⟨fun hm=>hm,fun w hh a' h0 hm s y=>⟨w,eg.refl hm w hh,s,y.wkAt t h⟩⟩
def oQ(a:List PV):List Nat->List PV->List PV
 | t::u,v::y=>oQ (dr a t v) u y
 | _,_=>a
def ak.ft{w:PWd} :∀(u:List Nat) {a:List PV} {B:List AV} {G:List PV} {E:List AV},ak w a B->ak w G E->ak w (oQ a u G) (_root_.Go.Am.ft B u E)
 | [],a,B,G,E,h,hv=>by simpa [oQ,_root_.Go.Am.ft]using h
 | t::u,a,B,[],[],h,hv=>by simpa [oQ,_root_.Go.Am.ft]using h
 | t::u,a,B,[],_::_,h,hv=>by have:=hv.len;simp at this
 | t::u,a,B,_::_,[],h,hv=>by have:=hv.len;simp at this
 | t::u,a,B,v::G,x::I,h,hv=>ak.ft u (h.cr t hv.hd) hv.tl
def PSt.nr{w:PWd}{h:H}{M:Mem}(s:PSt w h M){id ver:Nat}{r:jm}(hm:M[id]? =Jp (.loop ver r)):
  ∃e b u,w.env id=Jp e/\e.g=0/\e.blk=Jp b/\h.get b=Jp (.loop (e.v0+ver) u)/\ol w r u/\af w M id b:=by
 obtain⟨e,b,h1,h2,h3,u,y,B⟩:=s.obj _ _ hm;exact⟨e,b,u,h1,h2,h3,y,B,_,e,hm,by simp,h1,h3⟩
def PSt.ln{w:PWd}{h:H}{M:Mem}(s:PSt w h M){id ver ver2 b:Nat}{r r2:jm}{r2':mh}{e:Ent}(hm:M[id]? =Jp (.loop ver r))(he:w.env id=Jp e)(hg:e.g=0)(hb:e.blk=Jp b)(hr:ol w r2 r2'):
  PSt w (h.set b (.loop (e.v0+ver2) r2')) (M.set id (.loop ver2 r2))/\eg M.length w h M w (h.set b (.loop (e.v0+ver2) r2')) (M.set id (.loop ver2 r2)):=by
 have u:af w M id b:=⟨_,e,hm,by simp,he,hb⟩;have Q:=u.next s;have hid:=u.lt;have live:∀i x,af w (M.set id (.loop ver2 r2)) i x->af w M i x:=by
  rintro i x ⟨O,L,h1,h2,h3,S⟩;by_cases G:id=i
  ·subst G;exact⟨_,L,hm,by simp,h3,S⟩
  ·rw[Bt G]at h1;exact⟨O,L,h1,h2,h3,S⟩
 have y:∀x,x≠b->(h.set b (.loop (e.v0+ver2) r2')).get x=h.get x:=fun x I=>H.bp I;have J:(h.set b (.loop (e.v0+ver2) r2')).get b=Jp (.loop (e.v0+ver2) r2'):=by rw[H.gu,if_pos ⟨rfl,Q⟩]
 refine⟨⟨?_,?_,s.blk,?_,fun i j x h1 h2=>s.inj i j x (live i x h1) (live j x h2),fun i x h1=>s.sep i x (live i x h1),s.base⟩,⟨by simp,Le.refl _ _,Ab _,?_,fun i x h1 _=>live i x h1,fun x I=> .inl I⟩⟩
 ·intro x o I;have:x≠b:=by rintro rfl;rw[(s.sep id x u).1]at I;cases I
  rw[y x this];exact s.imm x o I
 ·intro i L K;have:=s.env i L K;simpa using this
 ·intro i O G;by_cases B:id=i
  ·subst B;rw[Ck hid]at G;cases G;exact⟨e,b,he,hg,hb,r2',J,hr⟩
  ·rw[Bt B]at G;by_cases E:O= .gone
   ·subst E;trivial
   ·refine kg.mono s (Le.refl _ _) (s.obj i O G) (fun _ h=>h) fun L T K R=>y T ?_;rintro rfl;exact B (s.inj id i T u ⟨O,L,G,E,K,R⟩)
 ·intro x I U;refine y x ?_;rintro rfl;exact U id u
section
variable {tab:FuncId->Option AF}
def BX(id:Nat)(K:PV->Mem->Prop)(e:Ex)(a:List PV)(M:Mem):Prop:=
 ∃ver r,M[id]? =Jp (.loop ver r)/\(if e= .normal then K (.bool Jr) (M.set id (.loop (ver+1) {r with state:= .ready,pending:=Jq}))else K (.bool Js) (M.set id (.loop (ver+1) {r with state:= .done,pending:=Jp e})))
def EE{id:Nat}{args:List PV}{M:Mem}{K:PV->Mem->Prop}{ver:Nat}{r:jm}(hm:M[id]? =Jp (.loop ver r))(hl:args.length=r.params.length)
  (h:fL tab M.length r.assign (oQ r.tmps r.params args) M (fun a1 M1=>∃G Q,M1[id]? =Jp (.loop G Q)/\Q.state= .ready/\
   fL tab M.length r.body a1 (M1.set id (.loop (G+1) {Q with state:= .busy})) (BX id K .normal) (BX id K .ret) fun i=>BX id K (.exit i)) (fun _ _=>False) fun _ _ _=>False):TJ tab id args M K:=by
 intro w hh b u h0 s c2 ha;obtain⟨e,b2,r',he,hg,hb,a9,hr,c6⟩:=s.nr hm;have E:b2=b:=by obtain⟨o,e2,_,_,R,S⟩:=c2;rw[he]at R;cases R;rw[hb]at S;cases S;rfl
 subst E;unfold EL;have hlen:u.length=r'.params.length:=by rw[hr.params,<-ha.len];exact hl
 have y:=h w hh (ft r'.tmps r'.params u) h0 (Ab _) s (by rw[hr.params];exact ak.ft _ hr.tmps ha);unfold W at y;obtain⟨e1,a1,h1,y,hq⟩:=y
 cases e1 with
 | ret=>obtain⟨_,_,_,_,_,_,q⟩:=hq;exact q.elim
 | exit i=>obtain⟨_,_,_,_,_,_,q⟩:=hq;exact q.elim
 | normal=>
  obtain⟨w1,c9,M1,t1,s1,c3,G,Q,b7,b0,V⟩:=hq;obtain⟨e2,b3,b8,Y,c4,I,Z,B,c7⟩:=s1.nr b7;have E:b3=b2:=by
   obtain⟨e3,R,S⟩:=t1.le.env id (s.env id e he) e he;rw[Y]at R;cases R;rcases S with S | rfl
   ·omega
   ·rw[hb]at I;cases I;rfl
  subst E;have b1:ol w1 {Q with state:= .busy} {b8 with state:= .busy} :=⟨rfl,B.pending,B.params,B.assign,B.body,B.tmps⟩;obtain⟨s2,t2⟩:=s1.ln (ver2:=G+1) (r2:={Q with state:= .busy}) b7 Y c4 I b1;have c5:M.length<=(M1.set id (.loop (G+1) {Q with state:= .busy})).length:=by simpa using t1.len
  have J:=V w1 _ a1 (by rw[t1.le.id0];exact h0) c5 s2 c3;unfold W at J;obtain⟨e4,a4,h4,J,a2⟩:=J;have b4:∃U a3 M4,eg M.length w1 (h1.set b3 (.loop (e2.v0+(G+1)) {b8 with state:= .busy})) (M1.set id (.loop (G+1) {Q with state:= .busy})) U h4 M4/\PSt U h4 M4/\ak U a3 a4/\BX id K e4 a3 M4:=by
   cases e4 with
   | normal=>exact a2
   | ret=>exact a2
   | exit i=>exact a2
  obtain⟨U,a3,M4,t4,s4,d0,v4,r4,a5,hk⟩:=b4;obtain⟨e5,b5,a6,a7,c0,L,a0,O,c8⟩:=s4.nr a5;have E:b5=b3:=by
   obtain⟨e3,R,S⟩:=t4.le.env id (s.env id e he) e2 Y;rw[a7]at R;cases R;rcases S with S | rfl
   ·omega
   ·rw[I]at L;cases L;rfl
  subst E;have tt:eg M.length w hh M U h4 M4:=(t1.trans (t2.weaken t1.len) (Ab _)).trans t4 (Ab _);have c1:∀(b:Bool) (st:LoopState) (pd:Option Ex),ol U {r4 with state:=st,pending:=pd} {a6 with state:=st,pending:=pd} :=fun _ _ _=>⟨rfl,rfl,O.params,O.assign,O.body,O.tmps⟩;have hcall:∀res,(if e4= .normal then Jp (AV.bool Jr,h4.set b5 (.loop (e5.v0+v4+1) {a6 with state:= .ready,pending:=Jq}))else Jp (AV.bool Js,h4.set b5 (.loop (e5.v0+v4+1) {a6 with state:= .done,pending:=Jp e4})))=Jp res->jQ (lim tab) (.func (.yield b5) [] []) u hh=Jp res:=by intro res b6;have g1:hh.get b5=Jp (.loop (e.v0+ver) r'):=a9;simp only[jQ,g1,List.nil_append];rw[if_pos hlen,oF,hr.assign,y];simp only[Z];rw[if_pos (by rw[B.state];exact b0),oF,hr.body,show e2.v0+G+1=e2.v0+(G+1) by omega,J];simp only[a0];exact b6
  by_cases hn:e4= .normal
  ·rw[if_pos hn]at hk;obtain⟨s5,t5⟩:=s4.ln (ver2:=v4+1) (r2:={r4 with state:= .ready,pending:=Jq}) a5 a7 c0 L (c1 Jr _ _);exact⟨_,_,hcall _ (by rw[if_pos hn];rfl),U,.bool Jr,_,tt.trans (t5.weaken tt.len) (Ab _),s5,.bool Jr,hk⟩
  ·rw[if_neg hn]at hk;obtain⟨s5,t5⟩:=s4.ln (ver2:=v4+1) (r2:={r4 with state:= .done,pending:=Jp e4}) a5 a7 c0 L (c1 Jr _ _);exact⟨_,_,hcall _ (by rw[if_neg hn];rfl),U,.bool Js,_,tt.trans (t5.weaken tt.len) (Ab _),s5,.bool Js,hk⟩
def WF(id:Nat)(a:List PV)(u y:List PV->Mem->Prop)(B:Nat->List PV->Mem->Prop)(v:PV)(M:Mem):Prop:=
 ∃ver r,M[id]? =Jp (.loop ver r)/\r.state≠ .busy/\match r.pending.getD .normal with
  | .normal=>u a (M.set id (.loop (ver+1) {r with state:= .exhausted}))
  | .ret=>y a (M.set id (.loop (ver+1) {r with state:= .exhausted}))
  | .exit i=>B i a (M.set id (.loop (ver+1) {r with state:= .exhausted}))
def TL{m:Nat}{f:AR}{S:List Nat}{G body:AC}{a:List PV}{M:Mem}{Qn Qr:List PV->Mem->Prop}{Qe:Nat->List PV->Mem->Prop}{g:FuncId}{first K:List PV}(hf:pev a f= .func (.func g) first K)
  (h:au tab g (first++[.yld M.length []]++K) (M++[.loop 0 {state:= .ready,pending:=Jq,tmps:=a,params:=S,assign:=G,body:=body}]) (WF M.length a Qn Qr Qe)):fL tab m (.rangeFunc f S G body) a M Qn Qr Qe:=by
 intro w hh T h0 hm s ha;have hx:=bE ha f;rw[hf]at hx;revert hx;generalize hu:ev T f=u;intro hx
 cases hx with
 | func q1 q2 q3 q4 q5=>
  rename_i E I
  let lp:mh:={state:= .ready,pending:=Jq,tmps:=T,params:=S,assign:=G,body:=body}
  obtain⟨s1,t1⟩:=s.alloc (o:= .loop 0 {state:= .ready,pending:=Jq,tmps:=a,params:=S,assign:=G,body:=body}) (o':= .loop 0 lp) (e:=⟨Jp hh.next,0,0⟩) rfl fun w' hl he=>⟨_,_,he,rfl,rfl,lp,H.ah _ _,rfl,rfl,rfl,rfl,rfl,ha.mono hl s.env⟩;have J:(w.bx M.length ⟨Jp hh.next,0,0⟩).env M.length=Jp ⟨Jp hh.next,0,0⟩:=by show(if _=_ then _ else _)=_;rw[if_pos rfl]
  have a0:az (w.bx M.length ⟨Jp hh.next,0,0⟩) (.yld M.length []) (.func (.yield hh.next) [] []):= .yld J rfl rfl rfl (fun i y z p=>by simp at p);have r1:ak w first E:=⟨q2,q4⟩
  have r2:ak w K I:=⟨q3,q5⟩;have hc:=h _ _ (E++[.func (.yield hh.next) [] []]++I) (by show w.id0<=_;simp;omega) s1 (((r1.mono t1.le s.env).append (.cons a0 (.nil _))).append (r2.mono t1.le s.env));unfold C at hc;obtain⟨v,h',hcall,w2,rv,M2,t2,s2,rr,ver,r,U,a1,Q⟩:=hc;obtain⟨e2,b2,r',V,a2,Y,L,B,a5⟩:=s2.nr U;have a3:b2=hh.next:=by
   obtain⟨e3,p1,p2⟩:=t2.le.env M.length (by simp) _ J;rw[V]at p1;cases p1;rcases p2 with p2 | rfl
   ·have p2:0<e2.g:=p2;omega
   ·cases Y;rfl
  subst a3;have Z:r'.state≠ .busy:=by rw[B.state];exact a1
  obtain⟨s3,t3⟩:=s2.ln (ver2:=ver+1) (r2:={r with state:= .exhausted}) (r2':={r' with state:= .exhausted}) U V a2 Y ⟨rfl,B.pending,B.params,B.assign,B.body,B.tmps⟩;have R:=(t1.trans t2 (by simp)).trans (t3.weaken (As (by simp) t2.len)) (Ab _);have O:ak w2 a T:=ha.mono R.le s.env;have a4:bC (lim tab) (.rangeFunc f S G body) T hh=Jp (r.pending.getD .normal,T,h'.set hh.next (.loop (e2.v0+(ver+1)) {r' with state:= .exhausted})):=by
   simp only[bC,hu];rw[hcall];simp only[L];rw[if_neg Z,B.pending];rfl
  unfold W;refine⟨_,_,_,a4,?_⟩;have R:=R.weaken hm
  cases hp:r.pending.getD .normal with
  | normal=>rw[hp]at Q;exact⟨w2,a,_,R,s3,O,Q⟩
  | ret=>rw[hp]at Q;exact⟨w2,a,_,R,s3,O,Q⟩
  | exit i=>rw[hp]at Q;exact⟨w2,a,_,R,s3,O,Q⟩
end
section
variable {tab:FuncId->Option AF} {m:Nat} {a:List PV} {M:Mem} {Qn Qr:List PV->Mem->Prop} {Qe:Nat->List PV->Mem->Prop}
def aE{x y:AC}(h:fL tab m x a M (fun b N=>fL tab m y b N Qn Qr Qe) Qr Qe):fL tab m (.seq x y) a M Qn Qr Qe:=by intro w hh B h0 hm s E;rw[eX];refine hU (h w hh B h0 hm s E) (fun G h1 hl=>?_) (fun _ _ h=>h) fun _ _ _ h=>h;obtain⟨I,b,N,u,J,K,q⟩:=hl;rw[cQ];exact hU (q I h1 G (by rw[u.le.id0];exact h0) u.len J K) (fun _ _ h=>h.trans u) (fun _ _ h=>h.trans u) fun _ _ _ h=>h.trans u
def sX{id:Nat}{x:AC}(h:fL tab m x a M Qn Qr (QD id Qn Qe)):fL tab m (.block id x) a M Qn Qr Qe:=by
 intro w hh G h0 hm s I;rw[dT];refine hU (h w hh G h0 hm s I) (fun _ _ h=>h) (fun _ _ h=>h) fun i J h1 hl=>?_;obtain⟨u,b,N,y,B,E,q⟩:=hl;rw[bM];unfold QD at q;by_cases e:i=id
 ·rw[if_pos e]at q ⊢;exact⟨u,b,N,y,B,E,q⟩
 ·rw[if_neg e]at q ⊢;exact⟨u,b,N,y,B,E,q⟩
def aC{c:AC}(h:RX tab m c a M Qn Qr Qe):fL tab m c a M Qn Qr Qe:=EG m c h
def qB{c:AC}{u y:List PV->Mem->Prop}{B:Nat->List PV->Mem->Prop}(h:fL tab m c a M Qn Qr Qe)(h1:∀b N,Qn b N->u b N)(h2:∀b N,Qr b N->y b N)(h3:∀i b N,Qe i b N->B i b N):fL tab m c a M u y B:=by
 intro w hh O h0 hm s Q;refine hU (h w hh O h0 hm s Q) ?_ ?_ ?_
 ·rintro L E ⟨G,b,N,I,J,K,q⟩;exact⟨G,b,N,I,J,K,h1 _ _ q⟩
 ·rintro L E ⟨G,b,N,I,J,K,q⟩;exact⟨G,b,N,I,J,K,h2 _ _ q⟩
 ·rintro i L E ⟨G,b,N,I,J,K,q⟩;exact⟨G,b,N,I,J,K,h3 _ _ _ q⟩
def sW{f:AR}{E:List Nat}{y body:AC}{g:FuncId}{first B:List PV}(hf:pev a f= .func (.func g) first B)
  (h:∀u:jm,u.state= .ready->u.pending=Jq->u.tmps=a->u.params=E->u.assign=y->u.body=body->
   au tab g (first++[.yld M.length []]++B) (M++[.loop 0 u]) (WF M.length a Qn Qr Qe)):fL tab m (.rangeFunc f E y body) a M Qn Qr Qe:=
 TL hf (h _ rfl rfl rfl rfl rfl rfl)
def aB5{u:jm}(h1:u.state= .ready)(h2:u.pending=Jq):{u with state:= .ready,pending:=Jq} =u:=by cases u;simp_all
end
def fX{α:Type}(n:Nat)(f:Nat->α):List α:=(List.range n).map f
def fB{α:Type}(n:Nat)(f:Nat->α):(fX n f).length=n:=by simp[fX]
def jR{α:Type}{n:Nat}{f:Nat->α}{v:Nat}(h:v<n):(fX n f)[v]? =Jp (f v):=by simp[fX,h]
def W5{α:Type}{n:Nat}{f:Nat->α}{v:Nat}(h:n<=v):(fX n f)[v]? =Jq:=Bu (by rw[fB];exact h)
def CC{α:Type}{n:Nat}{f:Nat->α}{a:List α}(hl:a.length=n)(h:∀v,v<n->a[v]? =Jp (f v)):a=fX n f:=by
 apply Em;intro v;rcases Bi v n with q | q
 ·rw[h v q,jR q]
 ·rw[Bu (by omega),W5 q]
def kB{α:Type}{n:Nat}{f g:Nat->α}(h:∀v,v<n->f v=g v):fX n f=fX n g:=CC (fB _ _) fun v hv=>by rw[jR hv,h v hv]
def vM{α:Type}{n:Nat}{f:Nat->α}{u:Nat}(x:α)(h:u<n):(fX n f).set u x=fX n (fun v=>if v=u then x else f v):=CC (by rw[List.length_set,fB]) fun v hv=>by
 rw[Dy];by_cases e:u=v
 ·subst e;rw[if_pos rfl,if_pos (by rw[fB];exact h),if_pos rfl]
 ·rw[if_neg e,jR hv,if_neg fun q=>e q.symm]
def vO{α:Type}(n:Nat)(x:α):Ae n x=fX n (fun _=>x):=CC (by simp) fun v hv=>by simp[hv]
def CB{α β:Type}(n:Nat)(f:Nat->α)(g:α->β):(fX n f).map g=fX n (fun v=>g (f v)):=by simp[fX,Cs,Function.comp_def]
def CA{α:Type}{n:Nat}{f:Nat->α}{x:α}(h:x∈fX n f):∃v,v<n/\f v=x:=by obtain⟨v,hv,e⟩:=List.mem_map.1 h;exact⟨v,List.mem_range.1 hv,e⟩
def db.refl:∀a:List PV,db a a
 | []=>trivial
 | _::a=>⟨.inr rfl,db.refl a⟩
def zL{n:Nat}{M:Mem}{v:PV}(h:v.under n=Jr):gD n M v=Jp v:=by cases v<;>simp_all [gD,PV.under]
def nA{n:Nat}{M:Mem} :∀{l:List PV},aD n l=Jr->jI n M l=Jp l
 | [],_=>rfl
 | v::l,h=>by have h2:=(fW n (v::l)).1 h;rw[ML,zL (h2 v (by simp)),nA ((fW n l).2 fun x u=>h2 x (by simp[u]))];rfl
def aI(n:Nat):bl->Bool
 | .cells _ _ cs=>aD n cs
 | .map _ u=>HU n u
 | .gone=>Jr
 | _=>Js
def aBh{n:Nat}{M:Mem}{o:bl}(h:aI n o=Jr):sD n M o=Jp o:=by
 cases o with
 | cells g ver cs=>simp only[aI]at h;simp only[sD,nA h,Option.map_some]
 | map ver u=>simp only[aI]at h;simp only[sD,h,if_true]
 | gone=>rfl
 | loop ver r=>simp[aI]at h
def RL{n:Nat}{M l u:Mem}{o x:bl}(h1:sD n M o=Jp x)(h2:pO n M l=Jp u):pO n M (o::l)=Jp (x::u):=by simp only[pO,h1,h2]
def MJ{n:Nat}{M:Mem} :∀{l r xs:Mem},l.all (aI n)=Jr->pO n M r=Jp xs->pO n M (l++r)=Jp (l++xs)
 | [],r,xs,_,h=>h
 | o::l,r,xs,u,h=>by simp only[List.all_cons,Aw]at u;exact RL (aBh u.1) (MJ u.2 h)
def L5{w w':PWd}{h:H}{m id:Nat}{o:bl}(h0:w'.n0=w.n0)(E:∀b o,w.imm b=Jp o->w'.imm b=Jp o)(he:∀id,id<m->w'.env id=w.env id)(hid:id<m)(u:aI m o=Jr)(G:kg w h id o):kg w' h id o:=by
 cases o with
 | cells g ver cs=>
  obtain⟨e,h1,h2,h3⟩:=G;refine⟨e,by rw[he id hid];exact h1,h2,?_⟩
  cases hb:e.blk with
  | none=>rw[hb]at h3;exact h3
  | some b=>rw[hb]at h3;obtain⟨y,I,J⟩:=h3;exact⟨y,I,J.low h0 E he u⟩
 | gone=>trivial
 | map ver M=>obtain⟨e,b,h1,h2,h3,B,K,L⟩:=G;exact⟨e,b,by rw[he id hid];exact h1,h2,h3,B,K,L.low h0 E he u⟩
 | loop ver r=>cases u
section
variable {tab:FuncId->Option AF}
def oX{m:Nat}{g:FuncId}{args:List PV}{M:Mem}{K:PV->Mem->Prop}(hm:m<=M.length)(hb:aD m args=Jr)(hM:(M.take m).all (aI m)=Jr)
  (hc:au tab g args (M.take m) fun r E=>r.under m=Jr/\E.length=m/\E.all (aI m)=Jr/\K r (E++M.drop m)):au tab g args M K:=by
 intro w h O h0 s ha
 let w0:PWd:={n0:=w.n0,id0:=min w.id0 m,imm:=w.imm,env:=fun id=>if id<m then w.env id else Jq}
 have hlen:(M.take m).length=m:=by simp;omega
 have we:∀id,id<m->w0.env id=w.env id:=fun id u=>by show(if _ then _ else _)=_;rw[if_pos u]
 have wn:∀id e,w0.env id=Jp e->id<m/\w.env id=Jp e:=fun id e he=>by
  have he:(if id<m then w.env id else Jq)=Jp e:=he;split at he
  ·rename_i q;exact⟨q,he⟩
  ·cases he
 have S:∀id,id<m->(M.take m)[id]? =M[id]? :=fun id u=>by rw[Bp,if_pos u]
 have live:∀id x,af w0 (M.take m) id x->id<m/\af w M id x:=by rintro id x ⟨o,e,B,Y,p3,p4⟩;obtain⟨G,Q⟩:=wn id e p3;rw[S id G]at B;exact⟨G,o,e,B,Y,Q,p4⟩
 have s0:PSt w0 h (M.take m):=by
  refine⟨s.imm,fun id e he=>by rw[hlen];exact(wn id e he).1,fun id e b he I=>s.blk id e b (wn id e he).2 I,fun id o R=>?_,fun i j x h1 h2=>s.inj i j x (live i x h1).2 (live j x h2).2,fun i x h1=>⟨(s.sep i x (live i x h1).2).1,fun q=>(s.sep i x (live i x h1).2).2 ?_⟩,s.base⟩
  ·have u:=aF R;rw[hlen]at u;have Z:=(List.all_eq_true.1 hM) o (Af R);rw[S id u]at R;exact L5 (w:=w) (w':=w0) rfl (fun _ _ h=>h) we u Z (s.obj id o R)
  ·have:=(live i x h1).1;have q:min w.id0 m<=i:=q;omega
 have a0:ak w0 args O:=ha.low (w:=w) (w':=w0) rfl (fun _ _ h=>h) we hb;refine mS (hc w0 h O (by rw[hlen];exact Nat.min_le_right _ _) s0 a0) ?_;rintro v h' ⟨T,r,E,B,Y,p3,k1,k2,k3,k4⟩;rw[hlen]at B
 let U:PWd:={n0:=w.n0,id0:=w.id0,imm:=T.imm,env:=fun id=>if id<m then T.env id else w.env id}
 have a2:U.n0=T.n0:=B.le.n0.symm;have e1:∀id,id<m->U.env id=T.env id:=fun id u=>by show(if _ then _ else _)=_;rw[if_pos u]
 have e2:∀id,¬id<m->U.env id=w.env id:=fun id u=>by show(if _ then _ else _)=_;rw[if_neg u]
 have g1:∀id,id<m->(E++M.drop m)[id]? =E[id]? :=fun id u=>Bm (by omega);have g2:∀id,¬id<m->(E++M.drop m)[id]? =M[id]? :=fun id u=>by
  rw[Bv (by omega),Br,k2,show m+(id-m)=id by omega]
 have hl:Le M.length w U:=by
  refine⟨rfl,rfl,fun b o a4=>B.le.imm b o a4,fun id u e he=>?_⟩;by_cases q:id<m
  ·rw[e1 id q];exact B.le.env id q e (by rw[we id q];exact he)
  ·rw[e2 id q];exact⟨e,he,.inr rfl⟩
 have J:∀i x,i<m->af U (E++M.drop m) i x->af T E i x:=by rintro i x u ⟨o,e,G,Q,q3,q4⟩;rw[g1 i u]at G;rw[e1 i u]at q3;exact⟨o,e,G,Q,q3,q4⟩
 have L:∀i x,¬i<m->af U (E++M.drop m) i x->af w M i x:=by rintro i x u ⟨o,e,G,Q,q3,q4⟩;rw[g2 i u]at G;rw[e2 i u]at q3;exact⟨o,e,G,Q,q3,q4⟩
 have a3:∀i x,i<m->af T E i x->x<h.next->af w M i x:=fun i x u y hx=>(live i x (B.live i x y hx)).2;have V:∀i j x,i<m->¬j<m->af T E i x->af w M j x->False:=fun i j x u hj h1 h2=>by have:=s.inj i j x (a3 i x u h1 (h2.next s)) h2;omega
 have a1:∀i x,¬i<m->af w M i x->h'.get x=h.get x:=fun i x u y=>B.fc x (y.next s) fun j hj=>by obtain⟨G,Q⟩:=live j x hj;have:=s.inj i j x y Q;omega
 refine⟨U,r,E++M.drop m,⟨by simp;omega,hl,B.next,fun x hx hn=>B.fc x hx fun j hj=>hn j (live j x hj).2,fun i x y hx=>?_,fun x hx=>?_⟩,⟨Y.imm,fun id e he=>?_,fun id e b he I=>?_,fun id o R=>?_,fun i j x h1 h2=>?_,fun i x h1=>?_,As s.base B.next⟩,p3.low (w:=T) (w':=U) a2 (fun _ _ h=>h) e1 k1,k4⟩
 ·by_cases q:i<m
  ·exact a3 i x q (J i x q y) hx
  ·exact L i x q y
 ·rcases B.new x hx with e | e | ⟨id,G,Q⟩
  ·exact .inl e
  ·exact .inr (.inl e)
  ·have:=(live id x Q).1;omega
 ·by_cases q:id<m
  ·simp;omega
  ·rw[e2 id q]at he;have:=s.env id e he;simp;omega
 ·by_cases q:id<m
  ·rw[e1 id q]at he;exact Y.blk id e b he I
  ·rw[e2 id q]at he;exact Bk (s.blk id e b he I) B.next
 ·by_cases q:id<m
  ·rw[g1 id q]at R;have Z:=(List.all_eq_true.1 k3) o (Af R);exact L5 a2 (fun _ _ h=>h) e1 q Z (Y.obj id o R)
  ·rw[g2 id q]at R;by_cases hg:o= .gone
   ·subst hg;trivial
   ·exact kg.mono s hl (s.obj id o R) (fun e he=>by rw[e2 id q];exact he) fun e b he I=>a1 id b q ⟨o,e,R,hg,he,I⟩
 ·by_cases qi:i<m
  ·by_cases qj:j<m
   ·exact Y.inj i j x (J i x qi h1) (J j x qj h2)
   ·exact(V i j x qi qj (J i x qi h1) (L j x qj h2)).elim
  ·by_cases qj:j<m
   ·exact(V j i x qj qi (J j x qj h2) (L i x qi h1)).elim
   ·exact s.inj i j x (L i x qi h1) (L j x qj h2)
 ·by_cases q:i<m
  ·have:=Y.sep i x (J i x q h1);refine⟨this.1,fun G=>?_⟩;have h3:=this.2 (by rw[B.le.id0];exact As (Nat.min_le_left _ _) G);rwa [B.le.n0]at h3
  ·have y:=L i x q h1;have:=s.sep i x y;refine⟨?_,this.2⟩;refine Cd fun a5=>?_;rcases B.new x a5 with e | e | ⟨id,G,Q⟩
   ·exact e this.1
   ·have:=y.next s;omega
   ·have:=(live id x Q).1;omega
def PJ{g:FuncId}{args:List PV}{M:Mem}{K:PV->Mem->Prop}(h:au tab g args M fun r B=>∃y N,lR M.length B r=Jp y/\pO M.length B (B.take M.length)=Jp N/\K y N):au tab g args M K:=
 fun w hh u h0 s J=>mS (h w hh u h0 s J) fun v L ⟨G,r,O,E,I,Q,y,N,R,S,T⟩=>by
  have hid:G.id0<=M.length:=by rw[E.le.id0];exact h0
  obtain⟨U,V⟩:=I.cutF (m:=M.length) hid E.len S;exact⟨G.cut L M.length O,y,N,E.trans (V M.length (Ab _)) (Ab _),U,JK I hid Q R,T⟩
def tH{n:Nat}{M l:Mem}(h:l.all (aI n)=Jr):pO n M l=Jp l:=by have:=MJ (M:=M) (r:=[]) (xs:=[]) h rfl;simpa using this
end
def PSt.ph{w:PWd}{h:H}{M:Mem}(s:PSt w h M){id g ver:Nat}{cs cs2:List PV}(hm:M[id]? =Jp (.cells g ver cs))(hl:cs2.length=cs.length)
  (hr:∀e b u,w.env id=Jp e->e.blk=Jp b->h.get b=Jp (.cells (e.v0+ver) Jr u)->ak w cs2 u):
  PSt w h (M.set id (.cells g ver cs2))/\∀m,m<=M.length->eg m w h M w h (M.set id (.cells g ver cs2)):=by
 have hid:=aF hm;have live:∀i x,af w (M.set id (.cells g ver cs2)) i x->af w M i x:=by
  rintro i x ⟨G,J,h1,h2,h3,E⟩;by_cases B:id=i
  ·subst B;exact⟨_,J,hm,by simp,h3,E⟩
  ·rw[Bt B]at h1;exact⟨G,J,h1,h2,h3,E⟩
 refine⟨⟨s.imm,?_,s.blk,?_,fun i j x h1 h2=>s.inj i j x (live i x h1) (live j x h2),fun i x h1=>s.sep i x (live i x h1),s.base⟩,fun m I=>⟨by simpa using I,Le.refl _ _,Ab _,fun _ _ _=>rfl,fun i x h1 _=>live i x h1,fun x K=> .inl K⟩⟩
 ·intro i e he;simpa using s.env i e he
 ·intro i G B;by_cases y:id=i
  ·subst y;rw[Ck hid]at B;cases B;obtain⟨e,h1,h2,h3⟩:=s.obj id _ hm;refine⟨e,h1,h2,?_⟩
   cases hb:e.blk with
   | none=>rw[hb]at h3;have h3:cs=[]:=h3;subst h3;exact List.length_eq_zero_iff.1 (by simpa using hl)
   | some b=>rw[hb]at h3;obtain⟨u,E,L⟩:=h3;exact⟨u,E,hr e b u h1 hb E⟩
  ·rw[Bt y]at B;exact s.obj i G B
def jn.len{id g:Nat}{cs:List PV} :∀{a b:List PV},jn id g cs a b->b.length=a.length
 | [],[],_=>rfl
 | _::a,_::b,h=>by simp[jn.len h.2]
 | [],_::_,h=>h.elim
 | _::_,[],h=>h.elim
def GStep.jd{m:Nat}{a b:List PV}{M N:Mem}(id j:Nat){g ver B E:Nat}{cs G cj2:List PV}(hid:m<=id)(V:M[id]? =Jp (.cells g ver cs))(L:M[j]? =Jp (.cells B E G))(I:id≠j)(hf:jn id g cs a b)(u:jn id g cs G cj2)
  (Y:(M.set id .gone).set j (.cells B E cj2)=N):GStep m a M b N:=by
 subst Y;refine⟨fun hm=>by simpa using hm,fun w hh a' h0 hm s Z=>?_⟩;obtain⟨w',O,s2,hl,hr⟩:=s.freeze V (As h0 hid);have y:(M.set id .gone)[j]? =Jp (.cells B E G):=by rw[Bt I];exact L
 obtain⟨J,k1,k2,Q⟩:=s.obj j _ L;obtain⟨t1,t2⟩:=O.ph (cs2:=cj2) y u.len (fun e b a1 he hb hg=>by
  obtain⟨e',R,p2,p3⟩:=O.obj j _ y;rw[he]at R;cases R;obtain⟨e1,S,q2⟩:=hl.env j (s.env j J k1) J k1;rw[he]at S;cases S;have K:e=J:=by
   rcases q2 with q | q
   ·omega
   ·exact q
  subst K;rw[hb]at Q;obtain⟨T,U,r2⟩:=Q;rw[hg]at U;cases U;exact u.rep hl s.env hr r2)
 exact⟨w',(s2 m hid).trans (t2 m (by simpa using hm)) (Ab _),t1,hf.rep hl s.env hr Z⟩
def GStep.wkC{m:Nat}{a:List PV}{M N:Mem}(id o:Nat){g ver:Nat}{cs:List PV}{v':PV}(E:M[id]? =Jp (.cells g ver cs))(hw:∀v,cs[o]? =Jp v->bh v v')(L:M.set id (.cells g ver (cs.set o v'))=N):GStep m a M a N:=by
 subst L;refine⟨fun hm=>by simpa using hm,fun w hh a' h0 hm s O=>?_⟩;obtain⟨U,k1,k2,G⟩:=s.obj id _ E;obtain⟨Q,R⟩:=s.ph (cs2:=cs.set o v') E (by simp) (fun e b T he hb hg=>by
  rw[k1]at he;cases he;rw[hb]at G;obtain⟨I,J,B⟩:=G;rw[hg]at J;cases J;refine⟨by simpa using B.len,fun i y z u hz=>?_⟩;rw[Dy]at u;split at u
  ·rename_i q;subst q;split at u
   ·rename_i K;cases u;exact hw _ (Ad K) w z (B.get _ _ z (Ad K) hz)
   ·cases u
  ·exact B.get i y z u hz)
 exact⟨w,R m hm,Q,O⟩
section
variable {tab:FuncId->Option AF}
def tV{m:Nat}{a:List PV}{M:Mem}{G K:List PV->Mem->Prop}{L:Nat->List PV->Mem->Prop}{os:List aw}{d size len:Nat}{z:List AV}{y:List (Nat×Nat×AR)}{chk:List Nat}
  (h:∃cs,dw a (fY len (z.map bd)) y=Jp cs/\RO tab os (dr a d (.ref M.length 0 size 0 len)) (M++[.cells 0 0 cs]) G):
  fL tab m (.region (⟨Jp d,.buildSlice size len z y,Jq,chk⟩::os)) a M G K L:=by
 intro w hh a' h0 hm s I;rw[cJ];obtain⟨cs,O,J⟩:=h
 delta RO at J
 obtain⟨B,Q,R⟩:=pM I y (m8 (gS w z) len) O;obtain⟨S,u⟩:=s.alloc (o:= .cells 0 0 cs) (o':= .cells 0 Jr B) (e:=⟨Jp hh.next,0,0⟩) rfl fun w' hl he=>⟨_,he,rfl,_,H.ah _ _,R.mono hl s.env⟩;have hv:az (w.bx M.length ⟨Jp hh.next,0,0⟩) (.ref M.length 0 size 0 len) (.slice Jr size hh.next 0 len):= .ref (e:=⟨Jp hh.next,0,0⟩) (by show(if _=_ then _ else _)=_;rw[if_pos rfl]) rfl rfl;obtain⟨E,h2,T,U,V,Y,Z,s3,r3,q3⟩:=qE os (by rw[u.le.id0];have:=u.len;omega) S ((I.mono u.le s.env).cr d hv) J;unfold WO;refine⟨E,h2,?_,U,V,Y,(u.trans Z u.len).weaken hm,s3,r3,q3⟩;simp only[j4,fH,j6,aop,Q];exact T
def eC{g:FuncId}{F:AFn}(hg:tab g=Jp (.fn F)){args:List PV}{M:Mem}{K:PV->Mem->Prop}(hb:aD 0 args=Jr)
  (u:fL tab 0 F.body (jl args F.ntmps) [] (sY F.results fun r=>K r M) (sY F.results fun r=>K r M) kq):au tab g args M K:=by
 refine vA hb (jV hg (qB u (fun b N q=>?_) (fun b N q=>?_) fun i b N q=>?_))
 ·unfold sY at q;exact q
 ·unfold sY at q;exact q
 ·unfold kq at q;exact q
end
section
variable {tab:FuncId->Option AF}
open Classical in
def aFo{w:PWd}{h:H}{M:Mem}(s:PSt w h M){id g ver:Nat}{cs:List PV}(hm:M[id]? =Jp (.cells g ver cs))(I:aD 0 cs=Jr){v:AV}(hv:az w (.ptr id g 0) v):az (w.cut h 0 M) (.cp cs 0) v:=by
 obtain⟨e,h1,h2,h3⟩:=s.jy hm
 cases hv with
 | @ptr _ _ _ J b u K E=>
  rw[h1]at u;cases u;rcases h3 with⟨h3,_⟩ | ⟨S,B,h3,L,O,Q⟩
  ·rw[E]at h3;cases h3
  ·rw[E]at h3;cases h3;have G:(w.cut h 0 M).imm b=Jp (.cells (e.v0+ver) Jr B):=by show(if _ then _ else _)=_;rw[if_pos ⟨id,Au _,Q⟩];exact L
   have hr:ak (w.cut h 0 M) cs B:=ak.low (w:=w) (w':=w.cut h 0 M) (m:=0) rfl (oW s 0) (fun id G=>by omega) O I;have:=az.cp (o:=0) (off:=0) G (by rw[hr.len];omega) (fun i y z R hz=>hr.get i y z R (by simpa using hz));simpa using this
 | @jo _ _ _ J _ T u K=>rw[h1]at u;cases u;omega
def aDH{g:FuncId}{args:List PV}{M:Mem}{K:PV->Mem->Prop}(hb:aD 0 args=Jr)(T:au tab g args [] fun r M'=>∃id g ver cs,r= .ptr id g 0/\M'[id]? =Jp (.cells g ver cs)/\aD 0 cs=Jr/\K (.cp cs 0) M):au tab g args M K:=by
 intro w h y h0 s ha
 let w0:PWd:={w with env:=fun _=>Jq,id0:=0}
 have s0:PSt w0 h []:=⟨s.imm,(fun id e he=>by cases he),(fun id e b he=>by cases he),(fun id o U=>by simp at U),(fun i j x ⟨_,_,h1,_⟩=>by simp at h1),(fun i x ⟨_,_,h1,_⟩=>by simp at h1),s.base⟩;have a0:ak w0 args y:=ha.low (w:=w) (w':=w0) rfl (fun _ _ h=>h) (fun id Y=>by omega) hb;refine mS (T w0 h y (Ab _) s0 a0) ?_;rintro v L ⟨O,r,R,E,Z,p3,id,g,ver,cs,rfl,p4,p5,p6⟩;have q1:=aFo Z p4 p5 p3;obtain⟨z1,z2⟩:=Z.cut (m:=0) (Au _) (by simp);have E:=z2 w0 h [] E;have V:O.n0=w.n0:=E.le.n0;have G:∀x id,¬af w0 [] id x:=fun x id ⟨_,_,h1,_⟩=>by simp at h1
 have B:∀x,x<h.next->L.get x=h.get x:=fun x Q=>E.fc x Q (G x)
 let S:PWd:={n0:=w.n0,id0:=w.id0,env:=w.env,imm:=(O.cut L 0 R).imm}
 have hl:Le M.length w S:=⟨rfl,rfl,fun b o I=>E.le.imm b o I,fun id Y e he=>⟨e,he,.inr rfl⟩⟩;have hr:az S (.cp cs 0) v:=by exact q1.low (w:=O.cut L 0 R) (w':=S) (m:=0) V.symm (fun _ _ h=>h) (fun id Y=>by omega) (by simp only[PV.under];exact p5)
 refine⟨S,_,M,⟨Ab _,hl,E.next,fun x Q _=>B x Q,fun id x u _=>u,?_⟩,⟨fun b o I=>z1.imm b o I,s.env,?_,?_,s.inj,?_,As s.base E.next⟩,hr,p6⟩
 ·intro x Q;rcases E.new x Q with e | e | ⟨id,_,e⟩
  ·exact .inl e
  ·exact .inr (.inl e)
  ·exact absurd e (G x id)
 ·intro id e b he J;exact Bk (s.blk id e b he J) E.next
 ·intro id o U;exact kg.mono s hl (s.obj id o U) (fun e he=>he) fun e b he J=>B b (s.blk id e b he J)
 ·intro i x u;have u:af w M i x:=u;refine⟨?_,(s.sep i x u).2⟩;show(O.cut L 0 R).imm x=Jq
  cases T:(O.cut L 0 R).imm x with
  | none=>rfl
  | some o=>
   rcases E.new x (by rw[T];simp)with e | e | ⟨id,_,e⟩
   ·exact absurd (s.sep i x u).1 e
   ·have:=u.next s;omega
   ·exact absurd e (G x id)
end
def ZMp(o:Option bl)(k:Nat->List (PV×PV)->Prop)(t:dh k):Prop:=QMp o k
def WA(kd:Nat)(u:Bool)(z x i:PV)(M:Mem)(K:PV->Mem->List Nat->List Nat->Prop)(t:dh K):Prop:=aDL kd u z x i M K
def V9(kd:Nat)(m i v:PV)(M:Mem)(K:PV->Mem->List Nat->List Nat->Prop)(t:dh K):Prop:=aDK kd m i v M K
def aFP(ver:Nat)(u:List (PV×PV))(k:Nat->List (PV×PV)->Prop)(t:dh k):ZMp (Jp (.map ver u)) k t=k ver u:=by
 apply propext;constructor
 ·rintro⟨_,_,e,h⟩;cases e;exact h
 ·intro h;exact⟨_,_,rfl,h⟩
section
variable (tab:FuncId->Option AF) (a:List PV) (M:Mem) (K:PV->Mem->List Nat->List Nat->Prop)
def TZ:RS tab .makeMap a M K=K (.map M.length) (M++[.map 0 []]) [] []:=by delta RS;rfl
def Z8(kd:Nat)(u:Bool)(z:AV)(x i:AR):RS tab (.lookup kd u z x i) a M K=WA kd u (bd z) (pev a x) (pev a i) M K ⟨0⟩:=by delta RS;rfl
def J6(kd:Nat)(m i v:AR):RS tab (.mapUpdate kd m i v) a M K=V9 kd (pev a m) (pev a i) (pev a v) M K ⟨0⟩:=by delta RS;rfl
end
def aBa(z v:PV):zK Jr z (Jp v)= .tuple [v,.bool Jr]:=(rfl)
def aBb(z v:PV):zK Js z (Jp v)=v:=(rfl)
def aBc(z:PV):zK Jr z Jq= .tuple [z,.bool Js]:=(rfl)
def aBd(z:PV):zK Js z Jq=z:=(rfl)
attribute [irreducible] ZMp WA V9
def ja(id g:Nat)(cs:List PV):List PV->List PV->Prop
 | [],[]=>True
 | x::a,y::b=>(y= .aa\/x=y\/∃o,x= .ptr id g o/\y= .cp cs o)/\ja id g cs a b
 | _,_=>False
def iD(id g:Nat)(cs:List PV):ja id g cs [] []=True:=(rfl)
def gJ(id g:Nat)(cs:List PV)(x:PV)(a b:List PV):ja id g cs (x::a) (.aa::b)=ja id g cs a b:=by simp[ja]
def gI(id g:Nat)(cs:List PV)(x:PV)(a b:List PV):ja id g cs (x::a) (x::b)=ja id g cs a b:=by simp[ja]
def iC(id g o:Nat)(cs:List PV)(a b:List PV):ja id g cs (.ptr id g o::a) (.cp cs o::b)=ja id g cs a b:=by simp[ja]
def PSt.dz{w:PWd}{h:H}{M:Mem}(s:PSt w h M){id g ver:Nat}{cs:List PV}(hm:M[id]? =Jp (.cells g ver cs))(h0:w.id0<=id):
  ∃w',PSt w' h (M.set id .gone)/\(∀m,m<=id->eg m w h M w' h (M.set id .gone))/\Le M.length w w'/\∀o x,az w (.ptr id g o) x->az w' (.cp cs o) x:=by
 obtain⟨e,h1,h2,h3⟩:=s.jy hm;have hid:=aF hm;rcases h3 with⟨hb,rfl⟩ | ⟨b,S,hb,hg,hr,O⟩
 ·have live:∀i x,af w (M.set id .gone) i x->af w M i x:=by
   rintro i x ⟨Q,K,J,T,p3,p4⟩;by_cases B:id=i
   ·subst B;rw[Ck hid]at J;cases J;exact absurd rfl T
   ·rw[Bt B]at J;exact⟨Q,K,J,T,p3,p4⟩
  refine⟨w,⟨s.imm,fun i K he=>by simpa using s.env i K he,s.blk,?_,fun i j x u I=>s.inj i j x (live i x u) (live j x I),fun i x u=>s.sep i x (live i x u),s.base⟩,fun m U=>⟨by simp;omega,Le.refl _ _,Ab _,fun _ _ _=>rfl,fun i x u _=>live i x u,fun x G=> .inl G⟩,Le.refl _ _,?_⟩
  ·intro i Q B;by_cases E:id=i
   ·subst E;rw[Ck hid]at B;cases B;trivial
   ·rw[Bt E]at B;exact s.obj i Q B
  ·intro o x G
   cases G with
   | ptr u I V=>rw[h1]at u;cases u;rw[hb]at V;cases V
   | jo x q0 u I=>rw[h1]at u;cases u;omega
 ·let w':=w.gh b (.cells (e.v0+ver) Jr S)
  have Y:=s.sep id b O;have hl:Le M.length w w':=uM Y.1;have R:∀x,x≠b->w'.imm x=w.imm x:=fun x G=>by show(if _=_ then _ else _)=_;rw[if_neg G]
  have L:w'.imm b=Jp (.cells (e.v0+ver) Jr S):=by show(if _=_ then _ else _)=_;rw[if_pos rfl]
  have live:∀i x,af w' (M.set id .gone) i x->i≠id/\af w M i x:=by
   rintro i x ⟨Q,K,J,T,p3,p4⟩;by_cases B:id=i
   ·subst B;rw[Ck hid]at J;cases J;exact absurd rfl T
   ·rw[Bt B]at J;exact⟨fun q=>B q.symm,Q,K,J,T,p3,p4⟩
  refine⟨w',⟨?_,fun i K he=>by simpa using s.env i K he,s.blk,?_,fun i j x u I=>s.inj i j x (live i x u).2 (live j x I).2,?_,s.base⟩,fun m U=>⟨by simp;omega,⟨hl.n0,hl.id0,hl.imm,fun i B=>hl.env i (by omega)⟩,Ab _,fun _ _ _=>rfl,fun i x u _=>(live i x u).2,?_⟩,hl,?_⟩
  ·intro x o G;by_cases Z:x=b
   ·subst Z;rw[L]at G;cases G;exact hg
   ·rw[R x Z]at G;exact s.imm x o G
  ·intro i Q B;by_cases E:id=i
   ·subst E;rw[Ck hid]at B;cases B;trivial
   ·rw[Bt E]at B;exact kg.mono s hl (s.obj i Q B) (fun K he=>he) fun _ _ _ _=>rfl
  ·intro i x u;obtain⟨a0,I⟩:=live i x u;have:x≠b:=by rintro rfl;exact a0 (s.inj i id x I O)
   exact⟨by rw[R x this];exact(s.sep i x I).1,(s.sep i x I).2⟩
  ·intro x G;by_cases Z:x=b
   ·subst Z;exact .inr (.inr ⟨id,U,O⟩)
   ·rw[R x Z]at G;exact .inl G
  ·intro o x G
   cases G with
   | ptr u I V=>rw[h1]at u;cases u;rw[hb]at V;cases V;have hs:=hr.mono hl s.env;have:=az.cp (o:=o) (off:=0) L (by rw[hr.len];omega) (fun i y z hy hz=>hs.get i y z hy (by simpa using hz));simpa using this
   | jo x q0 u I=>rw[h1]at u;cases u;omega
def ja.rep{w w':PWd}{M:Mem}{id g:Nat}{cs:List PV}(hl:Le M.length w w')(hd:∀i e,w.env i=Jp e->i<M.length)(hf:∀o x,az w (.ptr id g o) x->az w' (.cp cs o) x):
  ∀{a b:List PV} {u:List AV},ja id g cs a b->ak w a u->ak w' b u
 | [],[],u,_,h=>⟨h.len,fun i y z q=>by simp at q⟩
 | x::a,y::b,[],_,h=>by have:=h.len;simp at this
 | x::a,y::b,v::u,⟨h1,h2⟩,h=>by
  refine .cons ?_ (ja.rep hl hd hf h2 h.tl);rcases h1 with rfl | rfl | ⟨o,rfl,rfl⟩
  ·exact .aa _
  ·exact h.hd.mono hl hd
  ·exact hf o v h.hd
 | [],_::_,u,hw,h=>hw.elim
 | _::_,[],u,hw,h=>hw.elim
def GStep.dz{m:Nat}{a b:List PV}{M N:Mem}(id:Nat){g ver:Nat}{cs:List PV}(hid:m<=id)(u:M[id]? =Jp (.cells g ver cs))(hf:ja id g cs a b)(y:M.set id .gone=N):GStep m a M b N:=by subst y;refine⟨fun hm=>by simpa using hm,fun w hh a' h0 hm s B=>?_⟩;obtain⟨w',E,G,hl,hr⟩:=s.dz u (As h0 hid);exact⟨w',G m hid,E,hf.rep hl s.env hr B⟩
def EA(v:PV)(k:ByteArray->Prop)(t:dh k):Prop:=∃s,v= .str s/\k s
def aDd(s:ByteArray)(k:ByteArray->Prop)(t:dh k):EA (.str s) k t=k s:=by simp[EA]
section
variable (tab:FuncId->Option AF) (a:List PV) (M:Mem) (K:PV->Mem->List Nat->List Nat->Prop)
def QB(x i:AR):RS tab (.dq x i) a M K=EA (pev a x) (fun s=>uY (pev a i) (fun _ k=>0<=k/\iP s[k.toNat]? (fun c=>K (.int .u8 c.toNat) M [] []) ⟨0⟩) ⟨0⟩) ⟨0⟩:=by delta RS EA uY iP;rfl
end
attribute [irreducible] EA
def PSt.here{w:PWd}{h:H}{M:Mem}(s:PSt w h M):PSt {w with id0:=M.length} h M:=by
 let w':PWd:={w with id0:=M.length}
 exact⟨s.imm,s.env,s.blk,fun id o I=>by
   have r:=s.obj id o I
   cases o with
   | cells g ver cs=>
    obtain⟨e,h1,h2,h3⟩:=r;refine⟨e,h1,h2,?_⟩
    cases hb:e.blk with
    | none=>rw[hb]at h3;exact h3
    | some b=>rw[hb]at h3;obtain⟨E,B,u⟩:=h3;exact⟨E,B,u.eqv (w:=w) (w':=w') rfl (fun _ _ h=>h) fun _ _ h=>h⟩
   | map ver L=>obtain⟨e,b,h1,h2,h3,G,B,u⟩:=r;exact⟨e,b,h1,h2,h3,G,B,u.len,fun i y z p q=>⟨(u.get i y z p q).1.eqv (w:=w) (w':=w') rfl (fun _ _ h=>h) (fun _ _ h=>h),(u.get i y z p q).2.eqv (w:=w) (w':=w') rfl (fun _ _ h=>h) fun _ _ h=>h⟩⟩
   | loop ver r=>obtain⟨e,b,h1,h2,h3,J,B,u⟩:=r;exact⟨e,b,h1,h2,h3,J,B,u.state,u.pending,u.params,u.assign,u.body,u.tmps.eqv (w:=w) (w':=w') rfl (fun _ _ h=>h) fun _ _ h=>h⟩
   | gone=>trivial,s.inj,fun i x hl=>⟨(s.sep i x hl).1,fun K=>by have:i<M.length:=af.lt (w:=w) hl;have:M.length<=i:=K;omega⟩,s.base⟩
section
variable (tab:FuncId->Option AF)
def lB(c:AC)(a:List PV)(M:Mem)(y B:List PV->Mem->Prop)(E:Nat->List PV->Mem->Prop):Prop:=
 ∀(w:PWd) (h:H) (u:List AV),PSt w h M->ak w a u->W (lim tab) c u h (LfT y) (LfT B) fun i=>LfT (E i)
variable {tab}
variable {c x y:AC} {a b:List PV} {M N:Mem} {Qn Qr:List PV->Mem->Prop} {Qe:Nat->List PV->Mem->Prop}
def aDD(h:lB tab c a M Qn Qr fun _ _ _=>False):Top tab c a M Qn Qr:=
 fun w hh u s B=>hU (h w hh u s B) (fun _ _ q=>q) (fun _ _ q=>q) fun i E h1 ⟨_,_,_,_,_,q⟩=>q
def gA(h:RX tab M.length c a M Qn Qr Qe):lB tab c a M Qn Qr Qe:=by
 intro w hh J s K;have:=EG (tab:=tab) M.length c h;refine hU (this {w with id0:=M.length} hh J (Ab _) (Ab _) s.here (K.eqv (w:=w) (w':={w with id0:=M.length}) rfl (fun _ _ h=>h) fun _ _ h=>h)) ?_ ?_ ?_
 ·rintro I h1 ⟨u,b,N,_,B,E,G⟩;exact⟨u,b,N,B,E,G⟩
 ·rintro I h1 ⟨u,b,N,_,B,E,G⟩;exact⟨u,b,N,B,E,G⟩
 ·rintro i I h1 ⟨u,b,N,_,B,E,G⟩;exact⟨u,b,N,B,E,G⟩
def gE(h:lB tab x a M (fun b N=>lB tab y b N Qn Qr Qe) Qr Qe):lB tab (.seq x y) a M Qn Qr Qe:=by intro w hh u s B;rw[eX];refine hU (h w hh u s B) (fun E h1 hl=>?_) (fun _ _ h=>h) fun _ _ _ h=>h;obtain⟨G,b,N,I,J,q⟩:=hl;rw[cQ];exact q G h1 E I J
def ED{id:Nat}(h:lB tab x a M Qn Qr fun i b N=>if i=id then Qn b N else Qe i b N):lB tab (.block id x) a M Qn Qr Qe:=by
 intro w hh G s I;rw[dT];refine hU (h w hh G s I) (fun _ _ h=>h) (fun _ _ h=>h) fun i J h1 hl=>?_;rw[bM];obtain⟨u,b,N,B,E,q⟩:=hl;by_cases e:i=id
 ·rw[if_pos e]at q ⊢;exact⟨u,b,N,B,E,q⟩
 ·rw[if_neg e]at q ⊢;exact⟨u,b,N,B,E,q⟩
def kQ(h:lB tab c b N Qn Qr Qe)(hw:db a b)(u:M=N):lB tab c a M Qn Qr Qe:=by subst u;exact fun w hh B s E=>h w hh B s (hw.rep E)
def TI{u:List Nat}(B:SF 0 u a=Jr)(h:lB tab x a M (fun b N=>lB tab (.loop u x) b N Qn Qr Qe) Qr Qe):lB tab (.loop u x) a M Qn Qr Qe:=by intro w hh L s E;rw[EC _ _ _ _ _ _ _ _ (oF tab)];have hs:=ak.be u E;rw[sC u a fun s hs=>by simpa using (wM a 0 u B s hs).2]at hs;refine hU (h w hh _ s hs) (fun G h1 hl=>?_) (fun _ _ h=>h) fun _ _ _ h=>h;obtain⟨I,b,N,J,K,q⟩:=hl;rw[fR];exact q I h1 G J K
def Z1{A:Type}{G:List Nat}(I:A->Prop)(J:A->List PV)(u:A->Mem)(B:A->Nat)(z:A)(h0:I z)(hw:db a (J z))(L:M=u z)
  (step:∀y,I y->(∀E,I E->B E<B y->lB tab (.loop G x) (J E) (u E) Qn Qr Qe)->lB tab (.loop G x) (J y) (u y) Qn Qr Qe):lB tab (.loop G x) a M Qn Qr Qe:=by
 refine kQ ?_ hw L;have K:∀(k:Nat) (y:A),B y<k->I y->lB tab (.loop G x) (J y) (u y) Qn Qr Qe:=by
  intro k
  induction k with
  | zero=>intro y h;omega
  | succ k O=>intro y h Q;exact step y Q fun E R hm=>O E (by omega) R
 exact K (B z+1) z (by omega) h0
end
def PV.slq:PV->Bool
 | .sl .. =>Jr
 | .ai=>Jr
 | _=>Js
mutual
def PV.jnk:PV->PV
 | .sl fl own sz n cs=>if own=Jr then .sl fl Jr sz n (N7 cs)else if fl=Jr then .aa else .sl Js Js sz n (gW cs)
 | .cp _ _=> .aa
 | .agg cs=> .agg (gW cs)
 | .tuple cs=> .tuple (gW cs)
 | .func fn f c=> .func fn (gW f) (gW c)
 | .yld id f=> .yld id (gW f)
 | .iface t v=> .iface t (PV.jnk v)
 | .aa=> .aa
 | .bool b=> .bool b
 | .int k n=> .int k n
 | .str s=> .str s
 | .aq=> .aq
 | .ai=> .ai
 | .bc=> .bc
 | .al=> .al
 | .ae=> .ae
 | .ptr id g o=> .ptr id g o
 | .ref id g sz off n=> .ref id g sz off n
 | .map id=> .map id
def gW:List PV->List PV
 | []=>[]
 | v::l=>PV.jnk v::gW l
def N7:List PV->List PV
 | []=>[]
 | v::l=>(if v.slq=Jr then PV.jnk v else .aa)::N7 l
end
def kE:∀l:List PV,gW l=l.map PV.jnk
 | []=>by simp[gW]
 | v::l=>by simp[gW,kE l]
def DG:∀l:List PV,N7 l=l.map fun v=>if v.slq=Jr then PV.jnk v else .aa
 | []=>by simp[N7]
 | v::l=>by simp[N7,DG l]
structure Ov2 (w:PWd) (h h':H):Prop where
 next:h.next<=h'.next
 fc:∀x,x<h.next->x<w.n0\/w.imm x=Jq->h'.get x=h.get x
 cells:∀x ver bcs,w.imm x=Jp (.cells ver Jr bcs)->w.n0<=x->∃mj jz,h'.get x=Jp (.cells mj Jr jz)/\jz.length=bcs.length/\∀(i:Nat) (z:AV),bcs[i]? =Jp z->(∀k n,z≠ .int k n)->(∀b,z≠ .bool b)->jz[i]? =Jp z
def UZ{w:PWd}{v:PV}{z:AV}(h:az w v z)(u:v.slq=Jr):(∀k n,z≠ .int k n)/\∀b,z≠ .bool b:=by cases h<;>simp_all [PV.slq]
def az.jnk{w w':PWd}(h0:w'.n0=w.n0)(Y:∀b o,w.imm b=Jp o->b<w.n0->w'.imm b=Jp o)
  (Z:∀b ver bcs,w.imm b=Jp (.cells ver Jr bcs)->w.n0<=b->∃U K,w'.imm b=Jp (.cells U Jr K)/\K.length=bcs.length/\∀(i:Nat) (z:AV),bcs[i]? =Jp z->(∀k n,z≠ .int k n)->(∀b,z≠ .bool b)->K[i]? =Jp z)
  (he:∀id e,w.env id=Jp e->w'.env id=Jp e) {v:PV} {x:AV} (h:az w v x):az w' v.jnk x:=by
 have I:∀{l:List PV} {i:Nat} {y:PV},(gW l)[i]? =Jp y->∃z,l[i]? =Jp z/\y=z.jnk:=by
  intro l i y h;rw[kE,Ap]at h
  cases hl:l[i]? with
  | none=>rw[hl]at h;cases h
  | some z=>rw[hl]at h;cases h;exact⟨z,rfl,rfl⟩
 have J:∀{l:List PV} {i:Nat} {y:PV},(N7 l)[i]? =Jp y->∃z,l[i]? =Jp z/\y=if z.slq=Jr then z.jnk else .aa:=by
  intro l i y h;rw[DG,Ap]at h
  cases hl:l[i]? with
  | none=>rw[hl]at h;cases h
  | some z=>rw[hl]at h;cases h;exact⟨z,rfl,rfl⟩
 have G:∀{l:List PV} {M:List AV} {f:Nat->Nat},(∀(i:Nat) (y:PV) (z:AV),l[i]? =Jp y->M[f i]? =Jp z->az w' y.jnk z)->∀(i:Nat) (y:PV) (z:AV),(gW l)[i]? =Jp y->M[f i]? =Jp z->az w' y z:=by intro l M f h i y z p q;obtain⟨u,h1,rfl⟩:=I p;exact h i u z h1 q
 have len:∀l:List PV,(gW l).length=l.length:=fun l=>by rw[kE];simp
 have E:∀l:List PV,(N7 l).length=l.length:=fun l=>by rw[DG];simp
 induction h with
 | aa x=>simp only[PV.jnk];exact .aa x
 | bool b=>simp only[PV.jnk];exact .bool b
 | int k n=>simp only[PV.jnk];exact .int k n
 | str s=>simp only[PV.jnk];exact .str s
 | aq=>simp only[PV.jnk];exact .aq
 | ai=>simp only[PV.jnk];exact .ai
 | bc=>simp only[PV.jnk];exact .bc
 | al=>simp only[PV.jnk];exact .al
 | ae=>simp only[PV.jnk];exact .ae
 | ptr h1 h2 h3=>simp only[PV.jnk];exact .ptr (he _ _ h1) h2 h3
 | jo x q h1 h2=>simp only[PV.jnk];exact .jo x q (he _ _ h1) h2
 | cp h1 h2 h3 B=>simp only[PV.jnk];exact .aa _
 | @sl fl own sz n cs fl' b ver rw bcs off h1 h2 h3 L O V h6 B=>
  simp only[PV.jnk]
  cases own with
  | true=>
   obtain⟨hb,rfl⟩:=O rfl;obtain⟨U,K,q1,q2,q3⟩:=Z _ _ _ h1 hb;rw[if_pos rfl];refine .sl q1 (by rw[E,q2];exact h2) (by rw[E];exact h3) L (fun _=>⟨by rw[h0];exact hb,rfl⟩) (fun q=>by cases q) fun i y z p q=>?_;obtain⟨u,Q,rfl⟩:=J p;by_cases R:u.slq=Jr
   ·rw[if_pos R];have hlt:off+i<bcs.length:=by have:=aF Q;omega
    have hz:=Ad hlt;have r:=UZ (h6 i u _ Q hz) R;have:=q3 _ _ hz r.1 r.2;rw[q]at this;cases this;exact B i u _ Q hz
   ·rw[if_neg R];exact .aa _
  | false=>
   rw[if_neg (by decide)]
   cases fl with
   | true=>rw[if_pos rfl];exact .aa _
   | false=>rw[if_neg (by decide)];exact .sl (Y _ _ h1 (V rfl rfl)) (by rw[len];exact h2) (by rw[len];exact h3) (fun q=>by cases q) (fun q=>by cases q) (fun _ _=>by rw[h0];exact V rfl rfl) (G B)
 | @slN fl own sz=>simp only[PV.jnk,gW,N7];cases own<;>cases fl<;>simp only[if_true,if_false,Aq]<;>first | exact .slN | exact .aa _
 | ref h1 h2 h3=>simp only[PV.jnk];exact .ref (he _ _ h1) h2 h3
 | jk h1 h2 h3=>simp only[PV.jnk];exact .jk (he _ _ h1) h2 h3
 | kj x q h1 h2=>simp only[PV.jnk];exact .kj x q (he _ _ h1) h2
 | map h1 h2 h3=>simp only[PV.jnk];exact .map (he _ _ h1) h2 h3
 | lj x q h1 h2=>simp only[PV.jnk];exact .lj x q (he _ _ h1) h2
 | func h1 h2 h3 L O S T=>simp only[PV.jnk];exact .func h1 (by rw[len];exact h2) (by rw[len];exact h3) (G (f:=id) S) (G (f:=id) T)
 | yld h1 h2 h3 L O B=>simp only[PV.jnk];exact .yld (he _ _ h1) h2 h3 (by rw[len];exact L) (G (f:=id) B)
 | ll x q h1 h2=>simp only[PV.jnk];exact .ll x q (he _ _ h1) h2
 | iface h B=>simp only[PV.jnk];exact .iface B
 | agg h1 h2 B=>simp only[PV.jnk];exact .agg (by rw[len];exact h1) (G (f:=id) B)
 | tuple h1 h2 B=>simp only[PV.jnk];exact .tuple (by rw[len];exact h1) (G (f:=id) B)
def ak.jnk{w w':PWd}(h0:w'.n0=w.n0)(G:∀b o,w.imm b=Jp o->b<w.n0->w'.imm b=Jp o)
  (I:∀b ver B,w.imm b=Jp (.cells ver Jr B)->w.n0<=b->∃J E,w'.imm b=Jp (.cells J Jr E)/\E.length=B.length/\∀(i:Nat) (z:AV),B[i]? =Jp z->(∀k n,z≠ .int k n)->(∀b,z≠ .bool b)->E[i]? =Jp z)
  (he:∀id e,w.env id=Jp e->w'.env id=Jp e) {l:List PV} {l':List AV} (h:ak w l l'):ak w' (gW l) l':=
 ⟨by rw[kE];simpa using h.len,fun i y z p q=>by
  rw[kE,Ap]at p
  cases hl:l[i]? with
  | none=>rw[hl]at p;cases p
  | some u=>rw[hl]at p;cases p;exact(h.get i u z hl q).jnk h0 G I he⟩
section
variable {tab:FuncId->Option AF}
end
section
variable {tab:FuncId->Option AF}
def u7{m:Nat}{a:List PV}{M:Mem}{u B:List PV->Mem->Prop}{E:Nat->List PV->Mem->Prop}{c:AR}{x y:AC}(I:pev a c= .bool Jr)(h:fL tab m x a M u B E):fL tab m (.cond c x y) a M u B E:=by intro w hh J h0 hm s G;rw[BV];have hv:=bE G c;rw[I]at hv;refine⟨Jr,kZ hv,?_⟩;rw[if_pos rfl];exact h w hh J h0 hm s G
end
mutual
def PV.br:PV->Bool
 | .sl _ own _ _ cs=>own&&iS cs
 | .agg cs=>iS cs
 | .tuple cs=>iS cs
 | .bool _=>Jr
 | .int _ _=>Jr
 | .str _=>Jr
 | .aq=>Jr
 | .ai=>Jr
 | .bc=>Jr
 | .al=>Jr
 | .ae=>Jr
 | .aa=>Jr
 | .ptr _ _ _=>Js
 | .ref _ _ _ _ _=>Js
 | .map _=>Js
 | .yld _ _=>Js
 | .cp _ _=>Js
 | .func _ _ _=>Js
 | .iface _ _=>Js
def iS:List PV->Bool
 | []=>Jr
 | v::l=>PV.br v&&iS l
end
def mH:∀(l:List PV),iS l=Jr↔∀v∈l,v.br=Jr
 | []=>by simp[iS]
 | v::l=>by simp[iS,mH l]
def lF{l:List PV}(h:iS l=Jr){i:Nat}{y:PV}(u:l[i]? =Jp y):y.br=Jr:=(mH l).1 h y (Af u)
def KG(k:IntKind)(u:List Int):iS (u.map (PV.int k))=Jr:=(mH _).2 fun v hv=>by obtain⟨x,_,rfl⟩:=List.mem_map.1 hv;simp[PV.br]
def WK(f:Bool)(sz n:Nat)(k:IntKind)(u:List Int):PV.br (.sl f Jr sz n (u.map (PV.int k)))=Jr:=by simp[PV.br,KG]
def WM(k:IntKind)(n:Int):PV.br (.int k n)=Jr:=by simp[PV.br]
def B1(b:Bool):PV.br (.bool b)=Jr:=by simp[PV.br]
def B0(f:Bool)(sz n:Nat)(cs:List PV):PV.br (.sl f Jr sz n cs)=iS cs:=by simp[PV.br]
def az.br{w w':PWd}(h0:w'.n0<=w.n0)(I:∀b o,w.imm b=Jp o->w.n0<=b->w'.imm b=Jp o){v:PV}{x:AV}(h:az w v x):v.br=Jr->az w' v x:=by
 induction h with
 | aa x=>intro _;exact .aa x
 | bool b=>intro _;exact .bool b
 | int k n=>intro _;exact .int k n
 | str s=>intro _;exact .str s
 | aq=>intro _;exact .aq
 | ai=>intro _;exact .ai
 | bc=>intro _;exact .bc
 | al=>intro _;exact .al
 | ae=>intro _;exact .ae
 | sl h1 h2 h3 B E M O u=>intro hb;simp only[PV.br,Aw]at hb;obtain⟨G,J⟩:=E hb.1;exact .sl (I _ _ h1 G) h2 h3 B (fun _=>⟨As h0 G,J⟩) (fun q=>by rw[hb.1]at q;cases q) fun i y z p q=>u i y z p q (lF hb.2 p)
 | slN=>intro _;exact .slN
 | agg h1 h2 u=>intro hb;simp only[PV.br]at hb;exact .agg h1 fun i y z p q=>u i y z p q (lF hb p)
 | tuple h1 h2 u=>intro hb;simp only[PV.br]at hb;exact .tuple h1 fun i y z p q=>u i y z p q (lF hb p)
 | ptr h1 h2 h3=>intro hb;simp[PV.br]at hb
 | jo x q h1 h2=>intro hb;simp[PV.br]at hb
 | cp h1 h2 h3 u=>intro hb;simp[PV.br]at hb
 | ref h1 h2 h3=>intro hb;simp[PV.br]at hb
 | jk h1 h2 h3=>intro hb;simp[PV.br]at hb
 | kj x q h1 h2=>intro hb;simp[PV.br]at hb
 | map h1 h2 h3=>intro hb;simp[PV.br]at hb
 | lj x q h1 h2=>intro hb;simp[PV.br]at hb
 | func h1 h2 h3 B E K L=>intro hb;simp[PV.br]at hb
 | yld h1 h2 h3 B E u=>intro hb;simp[PV.br]at hb
 | ll x q h1 h2=>intro hb;simp[PV.br]at hb
 | iface h u=>intro hb;simp[PV.br]at hb
section
variable {tab:FuncId->Option AF}
open Classical in
def V1{w w0:PWd}{h:H}{M:Mem}(s:PSt w h M)(hn:w0.n0=w.n0)(O:∀b o,w.imm b=Jp o->w0.imm b=Jp o)(Q:∀id b,af w M id b->w0.imm b=h.get b){args G:List PV}(hb:jf M args G){u:List AV}(B:ak w args u):ak w0 G u:=by
 induction hb generalizing u with
 | nil=>exact⟨B.len,fun i y z K=>by simp at K⟩
 | @same v a b hv _ L=>
  match u,B with
  | x::l,B=>exact .cons (B.hd.low (w:=w) (w':=w0) (m:=0) hn O (fun id hi=>by omega) hv) (L B.tl)
  | [],B=>exact absurd B.len (by simp)
 | @ref id g ver sz off n cs I a b hm hl hu S _ L=>
  match u,B with
  | x::l,B=>
   refine .cons ?_ (L B.tl);subst S;obtain⟨e,p1,p2,T⟩:=s.ic hm B.hd;rcases T with⟨rfl,rfl,rfl,_,_⟩ | ⟨fl,b,U,rfl,p4,V,R,Y⟩
   ·simpa [dQ]using az.slN
   ·have E:(dQ cs off (n*sz)).length=n*sz:=by simp[dQ];omega
    have hg:w0.imm b=h.get b:=Q id b Y;have hs:=(jP R off (n*sz)).low (w:=w) (w':=w0) (m:=0) hn O (fun id hi=>by omega) hu;refine .sl (hg.trans V) (by rw[E,<-R.len];exact hl) E (fun _ q=>by cases q) (fun q=>by cases q) (fun _ q=>by cases q) fun i y z K hz=>hs.get i y z K ?_;rw[Bp,if_pos (by have:=aF K;omega),Br];exact hz
  | [],B=>exact absurd B.len (by simp)
 | @nest id g ver sz off n cs I a b hm hl Z _ J L=>
  match u,B with
  | x::l,B=>
   refine .cons ?_ (L B.tl);obtain⟨e,p1,p2,T⟩:=s.ic hm B.hd;have E:I.length=n*sz:=by rw[<-Z.len];simp[dQ];omega
   rcases T with⟨rfl,rfl,rfl,_,_⟩ | ⟨fl,b,U,rfl,p4,V,R,Y⟩
   ·have:I=[]:=List.length_eq_zero_iff.1 (by rw[E];simp);subst this;exact az.slN
   ·have hg:w0.imm b=h.get b:=Q id b Y;have hs:=J (jP R off (n*sz));refine .sl (hg.trans V) (by rw[E,<-R.len];exact hl) E (fun _ q=>by cases q) (fun q=>by cases q) (fun _ q=>by cases q) fun i y z K hz=>hs.get i y z K ?_;rw[Bp,if_pos (by have:=aF K;omega),Br];exact hz
  | [],B=>exact absurd B.len (by simp)
 | @agg cs I a b _ _ J L=>
  match u,B with
  | x::l,B=>
   refine .cons ?_ (L B.tl)
   cases B.hd with
   | agg h1 h2=>exact .agg (J ⟨h1,h2⟩).len (J ⟨h1,h2⟩).get
  | [],B=>exact absurd B.len (by simp)
open Classical in
def yW{g:FuncId}{args args2 args3:List PV}{M:Mem}{K:PV->Mem->Prop}(hb:jf M args args2)(he:eD args2=args3)(hc:au tab g args3 [] fun r _=>r.br=Jr/\K r M):au tab g args M K:=by
 subst he;intro w h y h0 s ha
 let w0:PWd:={n0:=w.n0,env:=fun _=>Jq,id0:=0,imm:=fun b=>if ∃id,af w M id b then h.get b else w.imm b}
 have T:∀b o,w.imm b=Jp o->w0.imm b=Jp o:=fun b o u=>by
  show(if _ then _ else _)=_;split
  ·exact s.imm b o u
  ·exact u
 have J:∀b o,w0.imm b=Jp o->h.get b=Jp o:=fun b o u=>by
  have u:(if ∃id,af w M id b then h.get b else w.imm b)=Jp o:=u;split at u
  ·exact u
  ·exact s.imm b o u
 have a0:ak w0 args2 y:=V1 (w0:=w0) s rfl T (fun id b hl=>by show(if _ then _ else _)=_;rw[if_pos ⟨id,hl⟩]) hb ha;have hlt:∀b o,w0.imm b=Jp o->b<h.next:=fun b o u=>by
  have u:(if ∃id,af w M id b then h.get b else w.imm b)=Jp o:=u;split at u
  ·rename_i q;obtain⟨id,hl⟩:=q;exact hl.next s
  ·exact s.ij u
 let L:PWd:={w0 with n0:=h.next}
 have s1:PSt L h []:=⟨J,(fun id e he=>by cases he),(fun id e b he=>by cases he),(fun id o U=>by simp at U),(fun i j x ⟨_,_,h1,_⟩=>by simp at h1),(fun i x ⟨_,_,h1,_⟩=>by simp at h1),Ab _⟩;have a1:ak L (eD args2) y:=a0.age (w:=w0) (w':=L) hlt (fun _ _ h=>h) fun _ _ h=>h;refine mS (hc L h y (Ab _) s1 a1) ?_;rintro v h' ⟨R,r,M1,O,p2,p3,p5,p6⟩;have V:∀x id,¬af L [] id x:=fun x id ⟨_,_,h1,_⟩=>by simp at h1
 have B:∀x,x<h.next->h'.get x=h.get x:=fun x I=>O.fc x I (V x)
 let Q:PWd:={w with imm:=fun b=>if h.next<=b then R.imm b else w.imm b}
 have S:∀b,b<h.next->Q.imm b=w.imm b:=fun b hb=>by show(if _ then _ else _)=_;rw[if_neg (by omega)]
 have Z:∀b,h.next<=b->Q.imm b=R.imm b:=fun b hb=>by show(if _ then _ else _)=_;rw[if_pos hb]
 have hl:Le M.length w Q:=⟨rfl,rfl,fun b o u=>by rw[S b (s.ij u)];exact u,fun id hi e he=>⟨e,he,.inr rfl⟩⟩;have Y:R.n0=h.next:=O.le.n0;refine⟨Q,r,M,⟨Ab _,hl,O.next,fun x I _=>B x I,fun id x E _=>E,fun x I=>?_⟩,⟨fun b o u=>?_,s.env,fun id e b he G=>Bk (s.blk id e b he G) O.next,fun id o U=>?_,s.inj,fun i x E=>?_,As s.base O.next⟩,p3.br (w:=R) (w':=Q) (by rw[Y];exact s.base) (fun b o u hb=>by rw[Z b (by omega)];exact u) p5,p6⟩
 ·by_cases q:h.next<=x
  ·exact .inr (.inl q)
  ·rw[S x (by omega)]at I;exact .inl I
 ·by_cases q:h.next<=b
  ·rw[Z b q]at u;exact p2.imm b o u
  ·rw[S b (by omega)]at u;rw[B b (by omega)];exact s.imm b o u
 ·exact kg.mono s hl (s.obj id o U) (fun e he=>he) fun e b he G=>B b (s.blk id e b he G)
 ·have E:af w M i x:=E;exact⟨by rw[S x (E.next s)];exact(s.sep i x E).1,(s.sep i x E).2⟩
end
mutual
def PV.sh(k:Nat):PV->PV
 | .ref id g sz off n=> .ref (id+k) g sz off n
 | .ptr id g o=> .ptr (id+k) g o
 | .agg cs=> .agg (shL k cs)
 | .tuple cs=> .tuple (shL k cs)
 | v=>v
def shL(k:Nat):List PV->List PV
 | []=>[]
 | v::l=>PV.sh k v::shL k l
end
mutual
def PV.mu:PV->Bool
 | .ref _ _ _ _ _=>Jr
 | .ptr _ _ _=>Jr
 | .agg cs=>rW cs
 | .tuple cs=>rW cs
 | .sl _ own _ _ cs=>own&&iS cs
 | .bool _=>Jr
 | .int _ _=>Jr
 | .str _=>Jr
 | .aq=>Jr
 | .ai=>Jr
 | .bc=>Jr
 | .al=>Jr
 | .ae=>Jr
 | .aa=>Jr
 | _=>Js
def rW:List PV->Bool
 | []=>Jr
 | v::l=>PV.mu v&&rW l
end
def shO(k:Nat):bl->bl
 | .cells g v cs=> .cells g v (shL k cs)
 | _=> .gone
def aGu:bl->Bool
 | .cells _ _ cs=>rW cs
 | _=>Jr
def BF(k:Nat):∀(l:List PV) (i:Nat),(shL k l)[i]? =(l[i]?).map (PV.sh k)
 | [],i=>by simp[shL]
 | v::l,0=>by simp[shL]
 | v::l,i+1=>by simp[shL,BF k l i]
def BE(k:Nat):∀l:List PV,(shL k l).length=l.length
 | []=>rfl
 | v::l=>by simp[shL,BE k l]
def xS:∀(l:List PV),rW l=Jr↔∀v∈l,v.mu=Jr
 | []=>by simp[rW]
 | v::l=>by simp[rW,xS l]
def xT{l:List PV}(h:rW l=Jr){i:Nat}{y:PV}(u:l[i]? =Jp y):y.mu=Jr:=(xS l).1 h y (Af u)
def az.sh{k:Nat}{w w':PWd}(h0:w'.n0<=w.n0)(J:∀b o,w.imm b=Jp o->w.n0<=b->w'.imm b=Jp o)(he:∀id e,w.env id=Jp e->w'.env (id+k)=Jp e){v:PV}{x:AV}(h:az w v x):v.mu=Jr->az w' (v.sh k) x:=by
 induction h with
 | aa x=>intro _;exact .aa x
 | bool b=>intro _;exact .bool b
 | int k n=>intro _;exact .int k n
 | str s=>intro _;exact .str s
 | aq=>intro _;exact .aq
 | ai=>intro _;exact .ai
 | bc=>intro _;exact .bc
 | al=>intro _;exact .al
 | ae=>intro _;exact .ae
 | sl h1 h2 h3 G I K L B=>intro hb;simp only[PV.mu,Aw]at hb;exact(az.sl h1 h2 h3 G I K L).br h0 J (by simp only[PV.br,hb.1,hb.2,Bz])
 | slN=>intro _;exact .slN
 | agg h1 h2 B=>intro hb;simp only[PV.mu]at hb;refine .agg (by rw[BE,h1]) fun i y z p q=>?_;rw[BF]at p;obtain⟨u,E,rfl⟩:=Option.map_eq_some_iff.1 p;exact B i u z E q (xT hb E)
 | tuple h1 h2 B=>intro hb;simp only[PV.mu]at hb;refine .tuple (by rw[BE,h1]) fun i y z p q=>?_;rw[BF]at p;obtain⟨u,E,rfl⟩:=Option.map_eq_some_iff.1 p;exact B i u z E q (xT hb E)
 | ptr h1 h2 h3=>intro _;exact .ptr (he _ _ h1) h2 h3
 | jo x q h1 h2=>intro _;exact .jo x q (he _ _ h1) h2
 | cp h1 h2 h3 B=>intro hb;simp[PV.mu]at hb
 | ref h1 h2 h3=>intro _;exact .ref (he _ _ h1) h2 h3
 | jk h1 h2 h3=>intro _;exact .jk (he _ _ h1) h2 h3
 | kj x q h1 h2=>intro _;exact .kj x q (he _ _ h1) h2
 | map h1 h2 h3=>intro hb;simp[PV.mu]at hb
 | lj x q h1 h2=>intro hb;simp[PV.mu]at hb
 | func h1 h2 h3 G I M O=>intro hb;simp[PV.mu]at hb
 | yld h1 h2 h3 G I B=>intro hb;simp[PV.mu]at hb
 | ll x q h1 h2=>intro hb;simp[PV.mu]at hb
 | iface h B=>intro hb;simp[PV.mu]at hb
def ak.shl{k:Nat}{w w':PWd}(h0:w'.n0<=w.n0)(E:∀b o,w.imm b=Jp o->w.n0<=b->w'.imm b=Jp o)(he:∀id e,w.env id=Jp e->w'.env (id+k)=Jp e){l:List PV}{l':List AV}(h:ak w l l')(hb:rW l=Jr):ak w' (shL k l) l':=
 ⟨by rw[BE];exact h.len,fun i y z p q=>by
  rw[BF]at p;obtain⟨u,B,rfl⟩:=Option.map_eq_some_iff.1 p;exact(h.get i u z B q).sh h0 E he (xT hb B)⟩
section
variable {tab:FuncId->Option AF}
open Classical in
def aDI{g:FuncId}{args args2 args3:List PV}{M:Mem}{K:PV->Mem->Prop}(hb:jf M args args2)(he:eD args2=args3)
  (hc:au tab g args3 [] fun r N=>∃O:Mem,(∀(i:Nat) o,O[i]? =Jp o->o= .gone\/N[i]? =Jp o)/\N.length<=O.length/\r.mu=Jr/\O.all aGu=Jr/\K (r.sh M.length) (M++O.map (shO M.length))):au tab g args M K:=by
 subst he;intro w h E h0 s ha
 let w0:PWd:={n0:=w.n0,env:=fun _=>Jq,id0:=0,imm:=fun b=>if ∃id,af w M id b then h.get b else w.imm b}
 have b0:∀b o,w.imm b=Jp o->w0.imm b=Jp o:=fun b o u=>by
  show(if _ then _ else _)=_;split
  ·exact s.imm b o u
  ·exact u
 have a3:∀b o,w0.imm b=Jp o->h.get b=Jp o:=fun b o u=>by
  have u:(if ∃id,af w M id b then h.get b else w.imm b)=Jp o:=u;split at u
  ·exact u
  ·exact s.imm b o u
 have a0:ak w0 args2 E:=V1 (w0:=w0) s rfl b0 (fun id b hl=>by show(if _ then _ else _)=_;rw[if_pos ⟨id,hl⟩]) hb ha;have hlt:∀b o,w0.imm b=Jp o->b<h.next:=fun b o u=>by
  have u:(if ∃id,af w M id b then h.get b else w.imm b)=Jp o:=u;split at u
  ·rename_i q;obtain⟨id,hl⟩:=q;exact hl.next s
  ·exact s.ij u
 let w1:PWd:={w0 with n0:=h.next}
 have s1:PSt w1 h []:=⟨a3,(fun id e he=>by cases he),(fun id e b he=>by cases he),(fun id o Z=>by simp at Z),(fun i j x ⟨_,_,h1,_⟩=>by simp at h1),(fun i x ⟨_,_,h1,_⟩=>by simp at h1),Ab _⟩;have a1:ak w1 (eD args2) E:=a0.age (w:=w0) (w':=w1) hlt (fun _ _ h=>h) fun _ _ h=>h;refine mS (hc w1 h E (Ab _) s1 a1) ?_;rintro v h' ⟨G,r,N,p1,U,p5,O,n1,n2,r1,o1,p6⟩;have b1:∀x id,¬af w1 [] id x:=fun x id ⟨_,_,h1,_⟩=>by simp at h1
 have I:∀x,x<h.next->h'.get x=h.get x:=fun x V=>p1.fc x V (b1 x);have a5:G.n0=h.next:=p1.le.n0;have a4:G.id0=0:=p1.le.id0
 --what is live in the a2 end is new
 have B:∀i x,af G N i x->h.next<=x:=fun i x hl=>by have:=(U.sep i x hl).2 (by rw[a4];exact Au _);rw[a5]at this;exact this
 let m:=M.length
 let Q:PWd:={w with imm:=fun b=>if h.next<=b then G.imm b else w.imm b,env:=fun id=>if id<m then w.env id else G.env (id-m)}
 have i1:∀b,b<h.next->Q.imm b=w.imm b:=fun b hb=>by show(if _ then _ else _)=_;rw[if_neg (by omega)]
 have i2:∀b,h.next<=b->Q.imm b=G.imm b:=fun b hb=>by show(if _ then _ else _)=_;rw[if_pos hb]
 have e1:∀id,id<m->Q.env id=w.env id:=fun id R=>by show(if _ then _ else _)=_;rw[if_pos R]
 have e2:∀id,Q.env (id+m)=G.env id:=fun id=>by show(if _ then _ else _)=_;rw[if_neg (by omega),Nat.add_sub_cancel]
 have hl:Le M.length w Q:=⟨rfl,rfl,fun b o u=>by rw[i1 b (s.ij u)];exact u,fun id R e he=>⟨e,by rw[e1 id R];exact he,.inr rfl⟩⟩;have g1:∀id,id<m->(M++O.map (shO m))[id]? =M[id]? :=fun id R=>Bm R;have g2:∀id,¬id<m->(M++O.map (shO m))[id]? =(O[id-m]?).map (shO m):=fun id R=>by
  rw[Bv (by omega),Ap]
 have Y:∀id e,G.env id=Jp e->Q.env (id+m)=Jp e:=fun id e he=>by rw[e2];exact he
 have a6:∀b o,G.imm b=Jp o->G.n0<=b->Q.imm b=Jp o:=fun b o u hb=>by rw[i2 b (by omega)];exact u
 have a7:Q.n0<=G.n0:=by rw[a5];exact s.base
 have J:∀i x,i<m->af Q (M++O.map (shO m)) i x->af w M i x:=by rintro i x R ⟨o,e,q1,q2,q3,q4⟩;rw[g1 i R]at q1;rw[e1 i R]at q3;exact⟨o,e,q1,q2,q3,q4⟩
 have L:∀i x,¬i<m->af Q (M++O.map (shO m)) i x->af G N (i-m) x:=by
  rintro i x R ⟨o,e,q1,q2,q3,q4⟩;rw[g2 i R]at q1;obtain⟨o',S,rfl⟩:=Option.map_eq_some_iff.1 q1;have q3:G.env (i-m)=Jp e:=by rw[<-e2,Gy (by omega)];exact q3
  rcases n1 _ _ S with rfl | hN
  ·exact absurd rfl q2
  ·exact⟨o',e,hN,fun q=>q2 (by rw[q];rfl),q3,q4⟩
 refine⟨Q,r.sh m,M++O.map (shO m),⟨by simp,hl,p1.next,fun x V _=>I x V,fun id x y V=>?_,fun x V=>?_⟩,⟨fun b o u=>?_,fun id e he=>?_,fun id e b he T=>?_,fun id o Z=>?_,fun i j x h1 h2=>?_,fun i x y=>?_,As s.base p1.next⟩,p5.sh a7 a6 Y r1,p6⟩
 ·by_cases q:id<m
  ·exact J id x q y
  ·have:=B _ x (L id x q y);omega
 ·by_cases q:h.next<=x
  ·exact .inr (.inl q)
  ·rw[i1 x (by omega)]at V;exact .inl V
 ·by_cases q:h.next<=b
  ·rw[i2 b q]at u;exact U.imm b o u
  ·rw[i1 b (by omega)]at u;rw[I b (by omega)];exact s.imm b o u
 ·by_cases q:id<m
  ·simp;omega
  ·have he:G.env (id-m)=Jp e:=by rw[<-e2,Gy (by omega)];exact he
   have:=U.env _ _ he;simp;omega
 ·by_cases q:id<m
  ·rw[e1 id q]at he;exact Bk (s.blk id e b he T) p1.next
  ·have he:G.env (id-m)=Jp e:=by rw[<-e2,Gy (by omega)];exact he
   exact U.blk _ e b he T
 ·by_cases q:id<m
  ·rw[g1 id q]at Z;exact kg.mono s hl (s.obj id o Z) (fun e he=>by rw[e1 id q];exact he) fun e b he T=>I b (s.blk id e b he T)
  ·rw[g2 id q]at Z;obtain⟨o',S,rfl⟩:=Option.map_eq_some_iff.1 Z;have ok:=(List.all_eq_true.1 o1) o' (Af S);rcases n1 _ _ S with rfl | hN
   ·trivial
   ·have hr:=U.obj _ _ hN
    match o',hr,ok with
    | .cells gg vv cs,⟨e,q4,q5,q6⟩,ok=>
     refine⟨e,?_,q5,?_⟩
     ·have:=Y _ _ q4;rwa [Gy (by omega)]at this
     ·cases a9:e.blk with
      | none=>rw[a9]at q6;simp only at q6 ⊢;subst q6;simp[shL]
      | some b=>rw[a9]at q6;obtain⟨b2,z1,z2⟩:=q6;exact⟨b2,z1,z2.shl a7 a6 Y ok⟩
    | .map _ _,_,_=>trivial
    | .loop _ _,_,_=>trivial
    | .gone,_,_=>trivial
 ·by_cases qi:i<m
  ·by_cases qj:j<m
   ·exact s.inj i j x (J i x qi h1) (J j x qj h2)
   ·have a:=(J i x qi h1).next s;have b:=B _ x (L j x qj h2);omega
  ·by_cases qj:j<m
   ·have a:=(J j x qj h2).next s;have b:=B _ x (L i x qi h1);omega
   ·have:=U.inj _ _ x (L i x qi h1) (L j x qj h2);omega
 ·by_cases q:i<m
  ·have y:=J i x q y;exact⟨by rw[i1 x (y.next s)];exact(s.sep i x y).1,(s.sep i x y).2⟩
  ·have y:=L i x q y;have hf:=B _ x y;exact⟨by rw[i2 x hf];exact(U.sep _ x y).1,fun _=>by have:=s.base;show w.n0<=x;omega⟩
end
def aH2(len size:Nat)(x:PV)(l r:Option Int)(M:Mem)(k:PV->List Nat->Prop)(t:dh k):Prop:=aH5 len size x l r M k
def aDu(x:PV)(M:Mem)(k:PV->List Nat->Prop)(t:dh k):Prop:=aIa x M k
def aDm(x:PV)(M:Mem)(k:PV->List Nat->Prop)(t:dh k):Prop:=aDM x M k
def aDg(len size id g o:Nat)(l r:Option Int)(M:Mem)(k:PV->List Nat->Prop)(t:dh k):
  aH2 len size (.ptr id g o) l r M k t=ZOb M[id]? g (fun _ cs=>(o+len*size<=cs.length/\0<=l.getD 0/\l.getD 0<=r.getD len/\r.getD len<=len)/\k (.ref id g size (o+(l.getD 0).toNat*size) (r.getD len-l.getD 0).toNat) [id]) ⟨0⟩:=by unfold ZOb;rfl
def ZZ(M:Mem)(k:PV->List Nat->Prop)(t:dh k):aDu .ai M k t=k (.str ⟨#[]⟩) []:=(rfl)
def aFW(fl own:Bool)(sz n:Nat)(cs:List PV)(M:Mem)(k:PV->List Nat->Prop)(t:dh k):aDu (.sl fl own sz n cs) M k t=(sz=1/\iP (pN cs) (fun s=>k (.str ⟨s.toArray⟩) []) ⟨0⟩):=by unfold iP;rfl
def aDt(id g sz off n:Nat)(M:Mem)(k:PV->List Nat->Prop)(t:dh k):aDu (.ref id g sz off n) M k t=ZOb M[id]? g (fun _ cs=>(sz=1/\off+n<=cs.length)/\iP (pN (dQ cs off n)) (fun s=>k (.str ⟨s.toArray⟩) [id]) ⟨0⟩) ⟨0⟩:=by unfold ZOb iP;rfl
def ZP(id:Nat)(M:Mem)(k:PV->List Nat->Prop)(t:dh k):aDm (.map id) M k t=ZMp M[id]? (fun _ u=>k (p64 u.length) [id]) ⟨0⟩:=by unfold ZMp;rfl
section
variable (tab:FuncId->Option AF) (a:List PV) (M:Mem) (K:PV->Mem->List Nat->List Nat->Prop)
def PZ(x:AR)(u y:Option AR):RS tab (.ew x u y) a M K=EA (pev a x) (fun s=>AY a u (fun l=>AY a y (fun r=>(0<=l.getD 0/\l.getD 0<=r.getD s.size/\r.getD s.size<=s.size)/\K (.str (s.extract (l.getD 0).toNat (r.getD s.size).toNat)) M [] []) ⟨0⟩) ⟨0⟩) ⟨0⟩:=by delta RS EA AY;rfl
def Z9(x:AR):RS tab (.iv x) a M K=EA (pev a x) (fun s=>K (p64 s.size) M [] []) ⟨0⟩:=by delta RS EA;rfl
def P0(len size:Nat)(x:AR)(u y:Option AR):RS tab (.dj len size x u y) a M K=AY a u (fun l=>AY a y (fun r=>aH2 len size (pev a x) l r M (fun v rd=>K v M rd []) ⟨0⟩) ⟨0⟩) ⟨0⟩:=by delta RS AY;rfl
def FB(x:AR):RS tab (.cg x) a M K=aDu (pev a x) M (fun v rd=>K v M rd []) ⟨0⟩:=by delta RS;rfl
def aAa(x:AR):RS tab (.ii x) a M K=aDm (pev a x) M (fun v rd=>K v M rd []) ⟨0⟩:=by delta RS;rfl
end
def TD(kd:Nat)(u:Bool)(z:PV)(id:Nat)(s:ByteArray)(M:Mem)(K:PV->Mem->List Nat->List Nat->Prop)(t:dh K):
  WA kd u z (.map id) (.str s) M K t=ZMp M[id]? (fun _ y=>iP (fZ kd (.str s) y) (fun r=>K (zK u z r) M [id] []) ⟨0⟩) ⟨0⟩:=by unfold ZMp WA;delta iP;rfl
def TC(kd:Nat)(id:Nat)(s:ByteArray)(v:PV)(M:Mem)(K:PV->Mem->List Nat->List Nat->Prop)(t:dh K):
  V9 kd (.map id) (.str s) v M K t=ZMp M[id]? (fun ver u=>iP (fZ kd (.str s) u) (fun _=>v.one=Jr/\K (.tuple []) (M.set id (.map (ver+1) (kK kd (.str s) (.str s) v u))) [] [id]) ⟨0⟩) ⟨0⟩:=by unfold ZMp V9;delta iP;rfl
def S2(a b:ByteArray):(a==b)=decide (a=b):=by
 cases a with | mk x=>cases b with | mk y=>
 show(x==y)=_;by_cases h:x=y
 ·subst h;simp
 ·simp[h]
def smE(l:List (ByteArray×PV)):List (PV×PV):=l.map fun p=>(PV.str p.1,p.2)
def zE(k:ByteArray):List (ByteArray×PV)->Option PV
 | []=>Jq
 | p::l=>if k=p.1 then Jp p.2 else zE k l
def aEl(l:List (ByteArray×PV)):(smE l).length=l.length:=Ag _
def LL(k:ByteArray):∀l:List (ByteArray×PV),fZ 2 (.str k) (smE l)=Jp (zE k l)
 | []=>rfl
 | p::l=>by
  show(match Jp (k==p.1)with | some Jr=>Jp (Jp _) | some Js=>fZ 2 (.str k) (smE l) | none=>Jq)=_;unfold zE;by_cases e:k=p.1
  ·rw[if_pos e,show(k==p.1)=Jr by rw[S2];simp[e]]
  ·rw[if_neg e,show(k==p.1)=Js by rw[S2];simp[e]];exact LL k l
def IF(k:ByteArray)(v:PV):∀l:List (ByteArray×PV),zE k l=Jq->kK 2 (.str k) (.str k) v (smE l)=smE (l++[(k,v)])
 | [],_=>rfl
 | p::l,h=>by
  unfold zE at h;by_cases e:k=p.1
  ·rw[if_pos e]at h;cases h
  ·rw[if_neg e]at h;show(match Jp (k==p.1)with | some Jr=>_ | _=>_::kK 2 (.str k) (.str k) v (smE l))=_;rw[show(k==p.1)=Js by rw[S2];simp[e],IF k v l h];rfl
def aBf(n:Nat)(M:Mem)(s:ByteArray):lR n M (.str s)=Jp (.str s):=rfl
def WT(m:Nat)(s:ByteArray):PV.under m (.str s)=Jr:=by simp[PV.under]
def aEM(s:ByteArray):PV.one (.str s)=Jr:=rfl
def RW(s:ByteArray):fO (.str s)=[.str s]:=rfl
def aEQ(i:Nat):PV.one (.map i)=Jr:=rfl
def R0(i:Nat):fO (.map i)=[.map i]:=rfl
def IO(kd:Nat)(k:AV):fZ kd k []=Jp Jq:=rfl
def MF(kd:Nat)(key:PV)(k:AV)(v:PV):kK kd key k v []=[(key,v)]:=rfl
attribute [irreducible] aH2 aDu aDm
def PT:=(Aa (Aa (Aa (Aa (Aa @Z9 @TZ) (Aa @Z8 @J6)) (Aa (Aa @aAa @aFP) (Aa @TD @TC))) (Aa (Aa (Aa @ZP @aBa) (Aa @aBb @aBc)) (Aa (Aa @aBd @LL) (Aa @aEl @PZ)))) (Aa (Aa (Aa (Aa @P0 @FB) (Aa @QB @aDd)) (Aa (Aa @aDg @ZZ) (Aa @aFW @aDt))) (Aa (Aa (Aa @aBf @WT) (Aa @aEM @RW)) (Aa (Aa @aEQ @R0) (Aa @IO @MF)))))
mutual
def qH{m n:Nat}(h:m<=n):∀v:PV,v.under m=Jr->v.under n=Jr
 | .ptr id g o,q=>by simp only[PV.under,decide_eq_true_eq]at q ⊢;omega
 | .ref id g sz off k,q=>by simp only[PV.under,decide_eq_true_eq]at q ⊢;omega
 | .map id,q=>by simp only[PV.under,decide_eq_true_eq]at q ⊢;omega
 | .yld id f,q=>by simp only[PV.under,Aw,decide_eq_true_eq]at q ⊢;exact⟨by omega,iL h f q.2⟩
 | .cp cs o,q=>by simp only[PV.under]at q ⊢;exact iL h cs q
 | .sl a b c d cs,q=>by simp only[PV.under]at q ⊢;exact iL h cs q
 | .func fn f c,q=>by simp only[PV.under,Aw]at q ⊢;exact⟨iL h f q.1,iL h c q.2⟩
 | .iface t v,q=>by simp only[PV.under]at q ⊢;exact qH h v q
 | .agg cs,q=>by simp only[PV.under]at q ⊢;exact iL h cs q
 | .tuple cs,q=>by simp only[PV.under]at q ⊢;exact iL h cs q
 | .aa,_=>by simp[PV.under]
 | .bool _,_=>by simp[PV.under]
 | .int _ _,_=>by simp[PV.under]
 | .str _,_=>by simp[PV.under]
 | .aq,_=>by simp[PV.under]
 | .ai,_=>by simp[PV.under]
 | .bc,_=>by simp[PV.under]
 | .al,_=>by simp[PV.under]
 | .ae,_=>by simp[PV.under]
def iL{m n:Nat}(h:m<=n):∀l:List PV,aD m l=Jr->aD n l=Jr
 | [],_=>by simp[aD]
 | v::l,q=>by simp only[aD,Aw]at q ⊢;exact⟨qH h v q.1,iL h l q.2⟩
end
def SP{m n:Nat}(h:m<=n){o:bl}(q:aI m o=Jr):aI n o=Jr:=by
 cases o with
 | cells g ver cs=>exact iL h cs q
 | map ver y=>refine List.all_eq_true.2 fun p u=>?_;have:=(List.all_eq_true.1 q) p u;simp only[Aw]at this ⊢;exact⟨qH h _ this.1,qH h _ this.2⟩
 | gone=>rfl
 | loop ver r=>cases q
def fJ{m n:Nat}(h:m<=n){l:Mem}(q:l.all (aI m)=Jr):l.all (aI n)=Jr:=
 List.all_eq_true.2 fun o u=>SP h ((List.all_eq_true.1 q) o u)
def GStep.ia{m:Nat}{a b:List PV}{M N:Mem}(n:Nat)(u:m<=n)(hl:n<=M.length)(hw:db a b)(y:aD n b=Jr)(B:(M.take n).all (aI n)=Jr)(E:M.take n=N):GStep m a M b N:=by subst E;exact GStep.cutF n u hl hw (nA y) (tH B)
def aEm{n:Nat}{l:List (ByteArray×PV)}(h:∀p∈l,p.2.under n=Jr)(ver:Nat):aI n (.map ver (l.map fun p=>(PV.str p.1,p.2)))=Jr:=by refine List.all_eq_true.2 fun p u=>?_;obtain⟨q,y,rfl⟩:=List.mem_map.1 u;simp only[Aw];exact⟨by simp[PV.under],h q y⟩
section
variable {tab:FuncId->Option AF}
def uZ{m:Nat}{a:List PV}{M:Mem}{Q U:List PV->Mem->Prop}{V:Nat->List PV->Mem->Prop}{os:List aw}(k:Nat){d size len:Nat}{z:List AV}{I:List (Nat×Nat×AR)}{chk:List Nat}
  (Y:os[k]? =Jp ⟨Jp d,.buildSlice size len z I,Jq,chk⟩)
  (h:RO tab (os.take k) a M fun b N=>∃cs,dw b (fY len (z.map bd)) I=Jp cs/\RO tab (os.drop (k+1)) (dr b d (.ref N.length 0 size 0 len)) (N++[.cells 0 0 cs]) Q):
  fL tab m (.region os) a M Q U V:=by
 have he:os=os.take k++⟨Jp d,.buildSlice size len z I,Jq,chk⟩::os.drop (k+1):=by obtain⟨hl,e⟩:=List.getElem?_eq_some_iff.1 Y;rw[<-e,List.getElem_cons_drop,List.take_append_drop]
 generalize os.take k=y at he h;generalize os.drop (k+1)=J at he h;subst he;intro w hh a' h0 hm s Z;rw[cJ]
 delta RO at h
 obtain⟨a0,h1,e1,R,b,N,B,K,S,cs,q1,q2⟩:=qE y (As h0 hm) s Z h;obtain⟨L,f1,f2⟩:=pM S I (m8 (gS R z) len) q1;obtain⟨s2,E⟩:=K.alloc (o:= .cells 0 0 cs) (o':= .cells 0 Jr L) (e:=⟨Jp h1.next,0,0⟩) rfl fun w' hl he=>⟨_,he,rfl,_,H.ah _ _,f2.mono hl K.env⟩;have hv:az (R.bx N.length ⟨Jp h1.next,0,0⟩) (.ref N.length 0 size 0 len) (.slice Jr size h1.next 0 len):= .ref (e:=⟨Jp h1.next,0,0⟩) (by show(if _=_ then _ else _)=_;rw[if_pos rfl]) rfl rfl;obtain⟨O,h2,e2,w2,a2,M2,t3,s3,r3,q3⟩:=qE J (by rw[E.le.id0,B.le.id0];have:=B.len;have:=E.len;omega) s2 ((S.mono E.le K.env).cr d hv) q2;unfold WO;refine⟨O,h2,?_,w2,a2,M2,((B.trans E B.len).trans t3 (As B.len E.len)).weaken hm,s3,r3,q3⟩;have app:∀(G u:List aw) {a b:List AV} {h h1:H},j4 (lim tab) G a h=Jp (b,h1)->j4 (lim tab) (G++u) a h=j4 (lim tab) u b h1:=by
  intro G
  induction G with
  | nil=>intro u a b h h1 e;simp only[j4]at e;cases e;rfl
  | cons o G T=>
   intro u a b h h1 e;simp only[j4,List.cons_append]at e ⊢
   cases hw:fH a o.guard with
   | none=>rw[hw]at e;cases e
   | some t=>
    rw[hw]at e
    cases t with
    | false=>exact T u e
    | true=>
     simp only at e ⊢;split at e
     ·exact T u e
     ·cases e
 rw[app y _ e1];simp only[j4,fH,j6,aop,f1];exact e2
end
def aFR(v:PV)(y:Prop)(u:TypeId->PV->Prop)(t:dh u):Prop:=aH7 v y u
def aDp(u:Prop)(y:TypeId->PV->Prop)(t:dh y):aFR .ae u y t=u:=(rfl)
def ZQ(y:TypeId)(v:PV)(B:Prop)(u:TypeId->PV->Prop)(t:dh u):aFR (.iface y v) B u t=u y v:=(rfl)
def aDj(M:Mem)(k:Bool->Prop)(t:dh k):uX 4 .ae .ae M k t=k Jr:=by simp[uX,PL]
def aDi(u:TypeId)(v:PV)(M:Mem)(k:Bool->Prop)(t:dh k):uX 4 (.iface u v) .ae M k t=k Js:=by simp[uX,PL]
def aFN(id g o:Nat)(M:Mem)(k:Bool->Prop)(t:dh k):uX 1 (.ptr id g o) .aq M k t=ZOb M[id]? g (fun _ _=>k Js) ⟨0⟩:=by unfold uX ZOb;rfl
def aFO(M:Mem)(k:Bool->Prop)(t:dh k):uX 1 .aq .aq M k t=k Jr:=by simp[uX,PL]
def CY(k1 k2:IntKind)(u g:Int)(r:List PV)(t:TypeId):iJ (.int k1 u:: .int k2 g::r) t=if u=(t:Int)then Jp g.toNat else iJ r t:=(rfl)
def tI(t:TypeId)(v:PV):PV.one (.iface t v)=Jr:=(rfl)
def IV:PV.one .ae=Jr:=(rfl)
def nO(t:TypeId)(v:PV):fO (.iface t v)=[.iface t v]:=(rfl)
def AQ:fO .ae=[.ae]:=(rfl)
def KS(m:Nat)(t:TypeId)(v:PV):PV.under m (.iface t v)=PV.under m v:=by simp[PV.under]
def B4(m:Nat):PV.under m .ae=Jr:=by simp[PV.under]
section
variable (tab:FuncId->Option AF) (a:List PV) (M:Mem) (K:PV->Mem->List Nat->List Nat->Prop)
def TS(t:TypeId)(n:String)(u y:List PV)(B:TypeId)(v:PV)(args:List PV)(K:PV->Mem->Prop):
  EJ tab (.func (.methodOf t n) u y) (.iface B v::args) M K=iP (iJ u B) (fun g=>au tab g (v::args) M K) ⟨0⟩:=by delta iP;rfl
def aGk(t:TypeId)(z:AV)(x:AR):RS tab (.ot t z x) a M K=aFR (pev a x) (K (.tuple [bd z,.bool Js]) M [] []) (fun u v=>K (if u=t then .tuple [v,.bool Jr]else .tuple [bd z,.bool Js]) M [] []) ⟨0⟩:=by delta RS;rfl
def rK(t:TypeId)(x:AR):RS tab (.gp t x) a M K=K (.iface t (pev a x)) M [] []:=by delta RS;rfl
def aF7(v:PV)(k:ByteArray->Prop):aF8 v k=∃s,v= .str s/\k s:=by cases v<;>simp[aF8]
def E9(x:AR):RS tab (.cz x) a M K=EA (pev a x) (fun s=>s.size<=140737488355328/\K (.sl Jr Js 1 s.size (s.data.toList.map fun b=> .int .u8 b.toNat)) M [] []) ⟨0⟩:=by
 delta RS EA
 exact aF7 _ _
end
attribute [irreducible] aFR
def PI:=(Aa (Aa (Aa (Aa @aGk @rK) (Aa @E9 @aDp)) (Aa (Aa @ZQ @aDj) (Aa @aDi @aFN))) (Aa (Aa (Aa @aFO @TS) (Aa @CY @tI)) (Aa (Aa @IV @nO) (Aa @AQ (Aa @KS @B4)))))
section
variable {tab:FuncId->Option AF}
def RHL(tab:FuncId->Option AF):List aw->List Nat->Nat->List PV->Mem->List ko->(List PV->Mem->Prop)->Prop
 | os,[],i,a,M,u,Q=>RD tab os i a M u Q
 | [],_::_,_,_,_,_,_=>False
 | ⟨d,o,Jq,chk⟩::os,j::B,i,a,M,u,Q=>
  if i=j then ∃size len z E cs,o= .buildSlice size len z E/\dw a (fY len (z.map bd)) E=Jp cs/\chk=[]/\RHL tab os B (i+1) (fy a d (.ref M.length 0 size 0 len)) (M++[.cells 0 0 cs]) (⟨i,[],[],M,M.length+1⟩::u) Q
  else RS tab o a M fun v G rd y=>jc o.effect rd y M u chk=Jr/\RHL tab os (j::B) (i+1) (fy a d v) G (⟨i,rd,y,M,G.length⟩::u) Q
 | ⟨_,_,Jp _,_⟩::_,_::_,_,_,_,_,_=>False
def KHL(tab:FuncId->Option AF)(j:Nat)(G:List Nat)(d:Option Nat)(B:Bool)(chk:List Nat)(os:List aw)(i:Nat)(a:List PV)(M:Mem)(u:List ko)(Q:List PV->Mem->Prop)(v:PV)(E:Mem)(rd y:List Nat):Prop:=
 jc B rd y M u chk=Jr/\RHL tab os (j::G) (i+1) (fy a d v) E (⟨i,rd,y,M,E.length⟩::u) Q
def T9(j:Nat)(G:List Nat)(d:Option Nat)(B:Bool)(chk:List Nat)(os:List aw)(i:Nat)(a:List PV)(M:Mem)(u:List ko)(Q:List PV->Mem->Prop)(v:PV)(E:Mem)(rd y:List Nat):
  KHL tab j G d B chk os i a M u Q v E rd y=(jc B rd y M u chk=Jr/\RHL tab os (j::G) (i+1) (fy a d v) E (⟨i,rd,y,M,E.length⟩::u) Q):=(rfl)
def TN(j i:Nat)(B:List Nat)(y:¬i=j)(d:Option Nat)(o:AO)(chk:List Nat)(os:List aw)(a:List PV)(M:Mem)(u:List ko)(Q:List PV->Mem->Prop):
  RHL tab (⟨d,o,Jq,chk⟩::os) (j::B) i a M u Q=RS tab o a M (KHL tab j B d o.effect chk os i a M u Q):=by
 show(if i=j then _ else _)=_;rw[if_neg y];rfl
def BW(i:Nat)(os:List aw)(a:List PV)(M:Mem)(u:List ko)(Q:List PV->Mem->Prop):RHL tab os [] i a M u Q=RD tab os i a M u Q:=by cases os<;>rfl
def J5(j:Nat)(y:List Nat)(d:Option Nat)(size len:Nat)(z:List AV)(B:List (Nat×Nat×AR))(os:List aw)(a:List PV)(M:Mem)(u:List ko)(Q:List PV->Mem->Prop):
  RHL tab (⟨d,.buildSlice size len z B,Jq,[]⟩::os) (j::y) j a M u Q=∃cs,dw a (fY len (z.map bd)) B=Jp cs/\RHL tab os y (j+1) (fy a d (.ref M.length 0 size 0 len)) (M++[.cells 0 0 cs]) (⟨j,[],[],M,M.length+1⟩::u) Q:=by
 show(if j=j then _ else _)=_;rw[if_pos rfl];apply propext;constructor
 ·rintro⟨_,_,_,_,cs,e,h1,_,h2⟩;cases e;exact⟨cs,h1,h2⟩
 ·rintro⟨cs,h1,h2⟩;exact⟨_,_,_,_,cs,rfl,h1,rfl,h2⟩
def yX:∀(os:List aw) (js:List Nat) (i:Nat) {w:PWd} {h:H} {M:Mem} {a:List PV} {Y:List AV} {y:List ku} {u:List ko} {Q:List PV->Mem->Prop},w.id0<=M.length->PSt w h M->ak w a Y->ib w h M y u->RHL tab os js i a M u Q->
  ∃G h2,jL (lim tab) os i Y h y=Jp (G,h2)/\∃S Z T,eg M.length w h M S h2 T/\PSt S h2 T/\ak S Z G/\Q Z T
 | os,[],i,w,h,M,a,Y,y,u,Q,h0,s,L,hl,E=>by
  rw[BW]at E
  delta RD at E
  exact xB os i h0 s L hl E
 | [],_::_,i,w,h,M,a,Y,y,u,Q,h0,s,L,hl,E=>E.elim
 | ⟨d,o,Jp (t,a4),chk⟩::os,_::_,i,w,h,M,a,Y,y,u,Q,h0,s,L,hl,E=>E.elim
 | ⟨d,o,Jq,chk⟩::os,j::js,i,w,h,M,a,Y,y,u,Q,h0,s,L,hl,E=>by
  have E:(if i=j then _ else _):=E;by_cases e:i=j
  ·rw[if_pos e]at E;obtain⟨size,len,z,ps,cs,rfl,q1,rfl,q2⟩:=E;obtain⟨K,f1,f2⟩:=pM L ps (m8 (gS w z) len) q1;obtain⟨U,J⟩:=s.alloc (o:= .cells 0 0 cs) (o':= .cells 0 Jr K) (e:=⟨Jp h.next,0,0⟩) rfl fun w' hl he=>⟨_,he,rfl,_,H.ah _ _,f2.mono hl s.env⟩;have hv:az (w.bx M.length ⟨Jp h.next,0,0⟩) (.ref M.length 0 size 0 len) (.slice Jr size h.next 0 len):= .ref (e:=⟨Jp h.next,0,0⟩) (by show(if _=_ then _ else _)=_;rw[if_pos rfl]) rfl rfl;have hc:=yR s U J (rd0:=[]) (prd:=[]) (chg:=[]) (fun x B=>by cases B) (dx.app M _ _) hl (eff:=AO.effect (.buildSlice size len z ps)) (chk:=[]) (by simp[jc]);have I:ib (w.bx M.length ⟨Jp h.next,0,0⟩) (h.alloc (.cells 0 Jr K)) (M++[.cells 0 0 cs]) (⟨i,rdx h (h.alloc (.cells 0 Jr K)) [],h,h.alloc (.cells 0 Jr K)⟩::y) (⟨i,[],[],M,(M++[bl.cells 0 0 cs]).length⟩::u):=by
    refine .cons ⟨rfl,w,_,_,s,U,J,eg.refl (Ab _) _ _,dx.app M _ _,rfl,fun x B=>?_⟩ (hl.mono J);simp only at B ⊢;unfold rdx at B;split at B
    ·rename_i hlt;rcases List.mem_cons.1 B with rfl | B
     ·exact .inl ⟨rfl,hlt⟩
     ·cases B
    ·cases B
   obtain⟨G,h2,e2,S,Z,T,t3,s3,r3,q3⟩:=yX os js (i+1) (by rw[J.le.id0];exact As h0 J.len) U ((L.mono J.le s.env).put d hv) I (by simpa using q2);refine⟨G,h2,?_,S,Z,T,J.trans t3 J.len,s3,r3,q3⟩;simp only[jL,fH,j6,aop,f1];rw[if_pos hc];exact e2
  ·rw[if_neg e]at E
   delta RS at E
   obtain⟨v,h1,rd,e1,w1,p,M1,a0,a1,O,U,hr,V,R,a3,hk⟩:=EK h0 s L o E;have hc:=yR s U O V R hl a3;have I:ib w1 h1 M1 (⟨i,rdx h h1 rd,h,h1⟩::y) (⟨i,a0,a1,M,M1.length⟩::u):=by
    refine .cons ⟨rfl,w,w1,M1,s,U,O,eg.refl (Ab _) w1 h1,R,rfl,fun x B=>?_⟩ (hl.mono O);simp only at B ⊢;unfold rdx at B;split at B
    ·rename_i hlt;rcases List.mem_cons.1 B with rfl | B
     ·exact .inl ⟨rfl,hlt⟩
     ·exact .inr (V x B)
    ·exact .inr (V x B)
   obtain⟨G,h2,e2,S,Z,T,t1,J,t3,t4⟩:=yX os (j::js) (i+1) (by rw[O.le.id0];exact As h0 O.len) U ((L.mono O.le s.env).put d hr) I hk;refine⟨G,h2,?_,S,Z,T,O.trans t1 O.len,J,t3,t4⟩;simp only[jL,fH,e1];rw[if_pos hc];exact e2
def TM{m:Nat}{a:List PV}{M:Mem}{y E:List PV->Mem->Prop}{G:Nat->List PV->Mem->Prop}{os:List aw}(B:List Nat)(h:RHL tab os B 0 a M [] y):fL tab m (.ff os) a M y E G:=by intro w hh U h0 hm s I;rw[cA];obtain⟨u,h2,J,K,L,O,Q,R,S,T⟩:=yX os B 0 (As h0 hm) s I .nil h;unfold WD;exact⟨u,h2,J,K,L,O,Q.weaken hm,R,S,T⟩
end
def GStep.wkO{m:Nat}{a:List PV}{M N:Mem}(id:Nat){g ver:Nat}{cs cs2:List PV}(y:M[id]? =Jp (.cells g ver cs))(hr:∀w u,ak w cs u->ak w cs2 u)(B:M.set id (.cells g ver cs2)=N):GStep m a M a N:=by subst B;refine⟨fun hm=>by simpa using hm,fun w hh a' h0 hm s E=>?_⟩;obtain⟨G,I⟩:=s.qt y (hr w);exact⟨w,I m hm,G,E⟩
def ak.wkL{w:PWd}{l u:List PV}{l':List AV}(h:ak w l l')(hl:l.length=u.length)(hw:∀(i:Nat) (x y:PV),l[i]? =Jp x->u[i]? =Jp y->bh x y):ak w u l':=
 ⟨by rw[<-hl];exact h.len,fun i y z p q=>by
  obtain⟨x,B⟩:∃x,l[i]? =Jp x:=⟨_,Ad (by rw[hl];exact aF p)⟩;exact hw i x y B p w z (h.get i x z B q)⟩
def ak.wkM{w:PWd}{α:Type}{f g:α->PV}(hw:∀x,bh (f x) (g x)){xs:List α}{l':List AV}(h:ak w (xs.map f) l'):ak w (xs.map g) l':=
 h.wkL (by simp) fun i x y p q=>by
  rw[Ap]at p q
  cases B:xs[i]? with
  | none=>rw[B]at p;cases p
  | some u=>rw[B]at p q;cases p;cases q;exact hw u
def ak.wkA{w:PWd}{α:Type}{E f2 g:α->PV}(h1:∀x,bh (E x) (g x))(h2:∀x,bh (f2 x) (g x)){B ys:List α}{l':List AV}(h:ak w (B.map E++ys.map f2) l'):ak w ((B++ys).map g) l':=
 h.wkL (by simp) fun i x y p q=>by
  rw[List.map_append]at q;by_cases G:i<B.length
  ·rw[Bm (by simpa using G),Ap,Ad G]at p q;cases p;cases q;exact h1 _
  ·rw[Bv (by simp;omega),Ag,Ap]at p q
   cases I:ys[i-B.length]? with
   | none=>rw[I]at p;cases p
   | some u=>rw[I]at p q;cases p;cases q;exact h2 u
attribute [irreducible] RHL KHL
end Go.Am

