/- The pure machine: its rules as equations for the simplifier, and what goes with it. -/
import Derived.Test.YtapbgleednkimaaGreatDoorPmS
set_option linter.unusedVariables false
set_option linter.unusedSimpArgs false
namespace Go.Am
structure KTag {α:Sort _} (k:α):Type where
 n:Nat
structure QTag (A B:Prop):Type where
 n:Nat
def qG(v:PV)(k:IntKind->Int->Prop)(t:KTag k):Prop:=t6 v k
def C1(v:PV)(k:Bool->Prop)(t:KTag k):Prop:=J0 v k
def FC(v:PV)(k:List PV->Prop)(t:KTag k):Prop:=OG v k
def aDK(v:PV)(k:List PV->Prop)(t:KTag k):Prop:=aGb v k
def ZOb(o:Option PObj)(g:Nat)(k:Nat->List PV->Prop)(t:KTag k):Prop:=QOb o g k
def dJ{α:Type}(o:Option α)(k:α->Prop)(t:KTag k):Prop:=fD o k
def aBk(v:PV)(M:Mem)(k:PV->Prop)(t:KTag k):Prop:=aGd v M k
def aDU(size:Nat)(v i:PV)(M:Mem)(k:PV->Prop)(t:KTag k):Prop:=aGf size v i M k
def RR(len size:Nat)(v i:PV)(M:Mem)(k:PV->Prop)(t:KTag k):Prop:=aBF len size v i M k
def aDW(off:Nat)(v:PV)(M:Mem)(k:PV->Prop)(t:KTag k):Prop:=aGg off v M k
def C0(v:PV)(M:Mem)(k:PV->List Nat->Prop)(t:KTag k):Prop:=JY v M k
def tW(n:Nat)(v:PV)(M:Mem)(k:PV->List Nat->Prop)(t:KTag k):Prop:=zM n v M k
def NW(n:Nat)(p x:PV)(M:Mem)(k:Mem->List Nat->Prop)(t:KTag k):Prop:=OA n p x M k
def JN(size:Nat)(x:PV)(M:Mem)(k:List PV->Nat->Prop)(t:KTag k):Prop:=JV size x M k
def aBt(size bytes:Nat)(s x:PV)(M:Mem)(K:PV->Mem->List Nat->List Nat->Prop)(t:KTag K):Prop:=aBH size bytes s x M K
def vH(a:List PV)(x:Option AR)(k:Option Int->Prop)(t:KTag k):Prop:=AQ a x k
def zI(size:Nat)(v:PV)(l r m:Option Int)(M:Mem)(k:PV->Prop)(t:KTag k):Prop:=OB size v l r m M k
def qE(v:PV)(M:Mem)(k:Prop)(t:KTag k):Prop:=zL v M k
def qF(kd:Nat)(x y:PV)(M:Mem)(k:Bool->Prop)(t:KTag k):Prop:=JW kd x y M k
def eX(v:PV)(want:Bool)(A B:Prop)(t:QTag A B):Prop:=j4 v want A B
def mY(v:PV)(A B:Prop)(t:QTag A B):Prop:=JZ v A B
def QIf(p A B:Prop)(t:QTag A B):Prop:=(p->A)/\(¬p->B)
theorem QIf.intro{p A B:Prop}{t:QTag A B}(h1:p->A)(h2:¬p->B):QIf p A B t:=⟨h1,h2⟩
theorem aBE(A B:Prop)(t:QTag A B):QIf True A B t=A:=by simp[QIf]
theorem VP(A B:Prop)(t:QTag A B):QIf False A B t=B:=by simp[QIf]
theorem aD3(p A B:Prop)(t:QTag A B):QIf (¬p) A B t=QIf p B A ⟨0⟩:=by
 apply propext;constructor
 ·rintro⟨h1,h2⟩;exact⟨fun h=>h2 (fun h'=>h' h),h1⟩
 ·rintro⟨h1,h2⟩;exact⟨h2,fun h=>h1 (Classical.byContradiction h)⟩
theorem aBl(b:IntKind)(o:Int)(k:IntKind->Int->Prop)(t:KTag k):qG (.int b o) k t=k b o:=by simp[qG,t6,and_assoc]
theorem N5(b:Bool)(k:Bool->Prop)(t:KTag k):C1 (.bool b) k t=k b:=by simp[C1,J0]
theorem aBu(b:List PV)(k:List PV->Prop)(t:KTag k):FC (.agg b) k t=k b:=by simp[FC,OG]
theorem NU(b:List PV)(k:List PV->Prop)(t:KTag k):aDK (.tuple b) k t=k b:=by simp[aDK,aGb]
theorem U5(g ver:Nat)(cs:List PV)(k:Nat->List PV->Prop)(t:KTag k):ZOb (some (.cells g ver cs)) g k t=k ver cs:=by
 apply propext;constructor
 ·rintro⟨_,_,e,h⟩;cases e;exact h
 ·intro h;exact⟨_,_,rfl,h⟩
theorem NX{α:Type}(x:α)(k:α->Prop)(t:KTag k):dJ (some x) k t=k x:=by simp[dJ,fD]
theorem VA(M:Mem)(k:PV->Prop)(t:KTag k):aBk .nils M k t=k (p64 0):=(rfl)
theorem aDR(fl own:Bool)(sz n:Nat)(cs:List PV)(M:Mem)(k:PV->Prop)(t:KTag k):aBk (.sl fl own sz n cs) M k t=k (p64 n):=(rfl)
theorem aBi(id g sz off n:Nat)(M:Mem)(k:PV->Prop)(t:KTag k):aBk (.ref id g sz off n) M k t=ZOb M[id]? g (fun _ _=>k (p64 n)) ⟨0⟩:=(rfl)
theorem aDT(size:Nat)(fl own:Bool)(sz n:Nat)(cs:List PV)(i:PV)(M:Mem)(k:PV->Prop)(t:KTag k):aDU size (.sl fl own sz n cs) i M k t=qG i (fun _ j=>(sz=size/\0<=j/\j<n)/\k (.cp cs (j.toNat*size))) ⟨0⟩:=(rfl)
theorem aBn(size id g sz off n:Nat)(i:PV)(M:Mem)(k:PV->Prop)(t:KTag k):aDU size (.ref id g sz off n) i M k t=ZOb M[id]? g (fun _ _=>qG i (fun _ j=>(sz=size/\0<=j/\j<n)/\k (.ptr id g (off+j.toNat*size))) ⟨0⟩) ⟨0⟩:=(rfl)
theorem VD(len size id g o:Nat)(i:PV)(M:Mem)(k:PV->Prop)(t:KTag k):RR len size (.ptr id g o) i M k t=ZOb M[id]? g (fun _ _=>qG i (fun _ j=>(0<=j/\j<len)/\k (.ptr id g (o+j.toNat*size))) ⟨0⟩) ⟨0⟩:=(rfl)
theorem aBo(len size:Nat)(cs:List PV)(o:Nat)(i:PV)(M:Mem)(k:PV->Prop)(t:KTag k):RR len size (.cp cs o) i M k t=qG i (fun _ j=>(0<=j/\j<len)/\k (.cp cs (o+j.toNat*size))) ⟨0⟩:=(rfl)
theorem aBp(off id g o:Nat)(M:Mem)(k:PV->Prop)(t:KTag k):aDW off (.ptr id g o) M k t=ZOb M[id]? g (fun _ _=>k (.ptr id g (o+off))) ⟨0⟩:=(rfl)
theorem aDV(off:Nat)(cs:List PV)(o:Nat)(M:Mem)(k:PV->Prop)(t:KTag k):aDW off (.cp cs o) M k t=k (.cp cs (o+off)):=(rfl)
theorem U7(id g o:Nat)(M:Mem)(k:PV->List Nat->Prop)(t:KTag k):C0 (.ptr id g o) M k t=ZOb M[id]? g (fun _ cs=>dJ cs[o]? (fun x=>k x [id]) ⟨0⟩) ⟨0⟩:=(rfl)
theorem aBh(cs:List PV)(o:Nat)(M:Mem)(k:PV->List Nat->Prop)(t:KTag k):C0 (.cp cs o) M k t=dJ cs[o]? (fun x=>k x []) ⟨0⟩:=(rfl)
theorem N2(n id g o:Nat)(M:Mem)(k:PV->List Nat->Prop)(t:KTag k):tW n (.ptr id g o) M k t=ZOb M[id]? g (fun _ cs=>o+n<=cs.length/\k (.agg (aY cs o n)) [id]) ⟨0⟩:=(rfl)
theorem U9(n:Nat)(cs:List PV)(o:Nat)(M:Mem)(k:PV->List Nat->Prop)(t:KTag k):tW n (.cp cs o) M k t=(o+n<=cs.length/\k (.agg (aY cs o n)) []):=(rfl)
theorem NV(n id g o:Nat)(x:PV)(M:Mem)(k:Mem->List Nat->Prop)(t:KTag k):NW n (.ptr id g o) x M k t=ZOb M[id]? g (fun ver cs=>((bS x).length=n/\o+n<=cs.length/\(bS x).all PV.one=true)/\k (M.set id (.cells g (ver+1) (kB cs o (bS x)))) [id]) ⟨0⟩:=(rfl)
theorem U3(size:Nat)(M:Mem)(k:List PV->Nat->Prop)(t:KTag k):JN size .nils M k t=k [] 0:=(rfl)
theorem aDL(size:Nat)(fl own:Bool)(sz n:Nat)(cs:List PV)(M:Mem)(k:List PV->Nat->Prop)(t:KTag k):JN size (.sl fl own sz n cs) M k t=(sz=size/\k cs n):=(rfl)
theorem aBc(size id g sz off n:Nat)(M:Mem)(k:List PV->Nat->Prop)(t:KTag k):JN size (.ref id g sz off n) M k t=ZOb M[id]? g (fun _ cs=>(sz=size/\off+n*size<=cs.length)/\k (aY cs off (n*size)) n) ⟨0⟩:=(rfl)
theorem aBb(size:Nat)(s:ByteArray)(M:Mem)(k:List PV->Nat->Prop)(t:KTag k):JN size (.str s) M k t=(size=1/\k (s.data.toList.map fun b=> .int .u8 b.toNat) s.size):=(rfl)
theorem VM(size bytes:Nat)(x:PV)(M:Mem)(K:PV->Mem->List Nat->List Nat->Prop)(t:KTag K):aBt size bytes .nils x M K t=JN size x M (fun new n=>(n*bytes<=140737488355328/\n<=9223372036854775807/\new.all PV.one=true)/\K (.ref M.length 0 size 0 n) (M++[.cells 0 0 new]) [] []) ⟨0⟩:=(rfl)
theorem aDY(size bytes:Nat)(fl own:Bool)(sz m:Nat)(cs:List PV)(x:PV)(M:Mem)(K:PV->Mem->List Nat->List Nat->Prop)(t:KTag K):aBt size bytes (.sl fl own sz m cs) x M K t=JN size x M (fun new n=>QIf (n=0) (K (.sl fl own sz m cs) M [] []) ((fl=true/\own=true/\sz=size/\(m+n)*bytes<=140737488355328/\m+n<=9223372036854775807/\new.all PV.one=true)/\K (.ref M.length 0 size 0 (m+n)) (M++[.cells 0 0 (cs++new)]) [] []) ⟨0⟩) ⟨0⟩:=by show aBH size bytes (.sl fl own sz m cs) x M K=JV size x M _;unfold aBH;congr 1;funext new n;by_cases h:n=0<;>simp[QIf,h]
theorem aBs(size bytes id g sz off m:Nat)(x:PV)(M:Mem)(K:PV->Mem->List Nat->List Nat->Prop)(t:KTag K):aBt size bytes (.ref id g sz off m) x M K t=JN size x M (fun new n=>ZOb M[id]? g (fun ver cs=>(sz=size/\off+m*size<=cs.length/\(0<n\/(off=0/\m*size=cs.length))/\(m+n)*bytes<=140737488355328/\m+n<=9223372036854775807/\new.all PV.one=true)/\K (.ref id (g+1) size 0 (m+n)) (M.set id (.cells (g+1) 0 (aY cs off (m*size)++new))) [] [id]) ⟨0⟩) ⟨0⟩:=(rfl)
theorem VK(a:List PV)(k:Option Int->Prop)(t:KTag k):vH a none k t=k none:=(rfl)
theorem VJ(a:List PV)(x:AR)(k:Option Int->Prop)(t:KTag k):vH a (some x) k t=qG (pev a x) (fun _ n=>k (some n)) ⟨0⟩:=(rfl)
theorem JO(size:Nat)(l r m:Option Int)(M:Mem)(k:PV->Prop)(t:KTag k):zI size .nils l r m M k t=((l.getD 0=0/\r.getD 0=0/\(m=none\/m=r))/\k .nils):=(rfl)
theorem U4(size:Nat)(fl own:Bool)(sz n:Nat)(cs:List PV)(l r m:Option Int)(M:Mem)(k:PV->Prop)(t:KTag k):zI size (.sl fl own sz n cs) l r m M k t=((sz=size/\(m=none\/m=r)/\0<=l.getD 0/\l.getD 0<=r.getD n/\r.getD n<=n)/\k (.sl (if own=true then(if r.isSome=true then false else fl)else fl) own sz (r.getD n-l.getD 0).toNat (aY cs ((l.getD 0).toNat*size) ((r.getD n-l.getD 0).toNat*size)))):=(rfl)
theorem NY(size id g sz off n:Nat)(l r m:Option Int)(M:Mem)(k:PV->Prop)(t:KTag k):zI size (.ref id g sz off n) l r m M k t=ZOb M[id]? g (fun _ _=>(sz=size/\(m=none\/m=r)/\0<=l.getD 0/\l.getD 0<=r.getD n/\r.getD n<=n)/\k (.ref id g sz (off+(l.getD 0).toNat*size) (r.getD n-l.getD 0).toNat)) ⟨0⟩:=(rfl)
theorem NZ(id g o:Nat)(M:Mem)(k:Prop)(t:KTag k):qE (.ptr id g o) M k t=ZOb M[id]? g (fun _ _=>k) ⟨0⟩:=(rfl)
theorem JP(f:FuncId)(l c:List PV)(M:Mem)(k:Prop)(t:KTag k):qE (.func (.func f) l c) M k t=k:=by simp[qE,zL,xH]
theorem U6(cs:List PV)(o:Nat)(M:Mem)(k:Prop)(t:KTag k):qE (.cp cs o) M k t=k:=by simp[qE,zL,xH]
theorem aDM(M:Mem)(k:Bool->Prop)(t:KTag k):qF 0 .nils .nils M k t=k true:=(rfl)
theorem aDN(fl own:Bool)(sz n:Nat)(cs:List PV)(M:Mem)(k:Bool->Prop)(t:KTag k):qF 0 (.sl fl own sz n cs) .nils M k t=QIf (n=0) (k true/\k false) (k false) ⟨0⟩:=by by_cases h:n=0<;>simp[qF,JW,QIf,h]
theorem aBe(id g sz off n:Nat)(M:Mem)(k:Bool->Prop)(t:KTag k):qF 0 (.ref id g sz off n) .nils M k t=ZOb M[id]? g (fun _ _=>QIf (n=0) (k true/\k false) (k false) ⟨0⟩) ⟨0⟩:=by by_cases h:n=0<;>simp[qF,JW,ZOb,QIf,h]
theorem VE(A B:Prop)(t:QTag A B):eX (.bool true) true A B t=A:=by simp[eX,j4]
theorem VH(A B:Prop)(t:QTag A B):eX (.bool false) false A B t=A:=by simp[eX,j4]
theorem VF(A B:Prop)(t:QTag A B):eX (.bool true) false A B t=B:=by simp[eX,j4]
theorem VG(A B:Prop)(t:QTag A B):eX (.bool false) true A B t=B:=by simp[eX,j4]
theorem E9(l:List PV)(want:Bool)(A B:Prop)(t:QTag A B):eX (.tuple l) want A B t=B:=by simp[eX,j4]
theorem FA(p:Prop) [Decidable p](A B:Prop)(t:QTag A B):eX (.bool (decide p)) true A B t=QIf p A B ⟨0⟩:=by by_cases hp:p<;>simp[eX,j4,hp,QIf]
theorem FB(p:Prop) [Decidable p](A B:Prop)(t:QTag A B):eX (.bool (decide p)) false A B t=QIf p B A ⟨0⟩:=by by_cases hp:p<;>simp[eX,j4,hp,QIf]
theorem N3(A B:Prop)(t:QTag A B):mY (.bool true) A B t=A:=by simp[mY,JZ]
theorem JQ(A B:Prop)(t:QTag A B):mY (.bool false) A B t=B:=by simp[mY,JZ]
theorem VI(p:Prop) [Decidable p](A B:Prop)(t:QTag A B):mY (.bool (decide p)) A B t=QIf p A B ⟨0⟩:=by by_cases hp:p<;>simp[mY,JZ,hp,QIf]
theorem N4(p:Prop) [Decidable p](x y:PV)(A B:Prop)(t:QTag A B):mY (B3 (decide p) x y) A B t=QIf p (mY x A B ⟨0⟩) (mY y A B ⟨0⟩) ⟨0⟩:=by by_cases hp:p<;>simp[QIf,B3,hp,mY]
theorem K8(x y:PV):B3 true x y=x:=(rfl)
theorem G7(x y:PV):B3 false x y=y:=(rfl)
section
variable (tab:FuncId->Option AF) (m:Nat)
def RX:=PX tab m
def RO:=PO tab
def RD:=PD tab
def RS:=PS tab
def aBS(y:AC)(Qn Qr:List PV->Mem->Prop)(Qe:Nat->List PV->Mem->Prop)(a:List PV)(M:Mem):Prop:=RX tab m y a M Qn Qr Qe
def FK(sc:List Nat)(x:AC)(Qn Qr:List PV->Mem->Prop)(Qe:Nat->List PV->Mem->Prop)(a:List PV)(M:Mem):Prop:=bQ tab m (.loop sc x) a M Qn Qr Qe
def J7(id:Nat)(Qn:List PV->Mem->Prop)(Qe:Nat->List PV->Mem->Prop)(i:Nat)(a:List PV)(M:Mem):Prop:=if i=id then Qn a M else Qe i a M
def RY(d:Option Nat)(os:List AOper)(a:List PV)(Q:List PV->Mem->Prop)(v:PV)(M:Mem)(rd chg:List Nat):Prop:=RO tab os (pput a d v) M Q
def FJ(d:Option Nat)(eff:Bool)(chk:List Nat)(os:List AOper)(i:Nat)(a:List PV)(M:Mem)(log:List PLog)(Q:List PV->Mem->Prop)(v:PV)(M':Mem)(rd chg:List Nat):Prop:=
 pchk eff rd chg M log chk=true/\RD tab os (i+1) (pput a d v) M' (⟨i,rd,chg,M,M'.length⟩::log) Q
section
variable (a:List PV) (M:Mem) (Qn Qr:List PV->Mem->Prop) (Qe:Nat->List PV->Mem->Prop)
theorem aD4:RX tab m .skip a M Qn Qr Qe=Qn a M:=(rfl)
theorem aGj:RX tab m .ret a M Qn Qr Qe=Qr a M:=(rfl)
theorem aD6(i:Nat):RX tab m (.exit i) a M Qn Qr Qe=Qe i a M:=(rfl)
theorem VQ(os:List AOper):RX tab m (.region os) a M Qn Qr Qe=RO tab os a M Qn:=(rfl)
theorem OH(os:List AOper):RX tab m (.regionD os) a M Qn Qr Qe=RD tab os 0 a M [] Qn:=(rfl)
theorem aGi(x y:AC):RX tab m (.seq x y) a M Qn Qr Qe=RX tab m x a M (aBS tab m y Qn Qr Qe) Qr Qe:=(rfl)
theorem aD7(c:AR)(x y:AC):RX tab m (.cond c x y) a M Qn Qr Qe=mY (pev a c) (RX tab m x a M Qn Qr Qe) (RX tab m y a M Qn Qr Qe) ⟨0⟩:=(rfl)
theorem aBJ(id:Nat)(x:AC):RX tab m (.block id x) a M Qn Qr Qe=RX tab m x a M Qn Qr (J7 id Qn Qe):=(rfl)
theorem aD5(sc:List Nat)(x:AC):RX tab m (.loop sc x) a M Qn Qr Qe=bQ tab m (.loop sc x) a M Qn Qr Qe:=(rfl)
theorem aBI(f:AR)(ps:List Nat)(asg body:AC):RX tab m (.rangeFunc f ps asg body) a M Qn Qr Qe=bQ tab m (.rangeFunc f ps asg body) a M Qn Qr Qe:=(rfl)
theorem aBR(y:AC):aBS tab m y Qn Qr Qe a M=RX tab m y a M Qn Qr Qe:=(rfl)
theorem V4(sc:List Nat)(x:AC):FK tab m sc x Qn Qr Qe a M=bQ tab m (.loop sc x) a M Qn Qr Qe:=(rfl)
theorem aBV(id i:Nat):J7 id Qn Qe i a M=if i=id then Qn a M else Qe i a M:=(rfl)
end
section
variable (a:List PV) (M:Mem) (Q:List PV->Mem->Prop)
theorem aGq:RO tab [] a M Q=Q a M:=(rfl)
theorem aEe(d:Option Nat)(o:AO)(chk:List Nat)(os:List AOper):RO tab (⟨d,o,none,chk⟩::os) a M Q=RS tab o a M (RY tab d os a Q):=(rfl)
theorem aEd(d:Option Nat)(o:AO)(t:Nat)(want:Bool)(chk:List Nat)(os:List AOper):RO tab (⟨d,o,some (t,want),chk⟩::os) a M Q=eX (ptget a t) want (RS tab o a M (RY tab d os a Q)) (RO tab os (pput a d (.tuple [])) M Q) ⟨0⟩:=(rfl)
theorem aGr(i:Nat)(log:List PLog):RD tab [] i a M log Q=Q a M:=(rfl)
theorem aEg(d:Option Nat)(o:AO)(chk:List Nat)(os:List AOper)(i:Nat)(log:List PLog):RD tab (⟨d,o,none,chk⟩::os) i a M log Q=RS tab o a M (FJ tab d o.effect chk os i a M log Q):=(rfl)
theorem aEf(d:Option Nat)(o:AO)(t:Nat)(want:Bool)(chk:List Nat)(os:List AOper)(i:Nat)(log:List PLog):RD tab (⟨d,o,some (t,want),chk⟩::os) i a M log Q=eX (ptget a t) want (RS tab o a M (FJ tab d o.effect chk os i a M log Q)) (RD tab os (i+1) (pput a d (.tuple [])) M log Q) ⟨0⟩:=(rfl)
theorem aBU(d:Option Nat)(os:List AOper)(v:PV)(rd chg:List Nat):RY tab d os a Q v M rd chg=RO tab os (pput a d v) M Q:=(rfl)
theorem V2(d:Option Nat)(eff:Bool)(chk:List Nat)(os:List AOper)(i:Nat)(log:List PLog)(v:PV)(M':Mem)(rd chg:List Nat):
  FJ tab d eff chk os i a M log Q v M' rd chg=(pchk eff rd chg M log chk=true/\RD tab os (i+1) (pput a d v) M' (⟨i,rd,chg,M,M'.length⟩::log) Q):=(rfl)
end
section
variable (a:List PV) (M:Mem) (K:PV->Mem->List Nat->List Nat->Prop)
theorem aD9(x:AR):RS tab (.move x) a M K=K (pev a x) M [] []:=(rfl)
theorem aD8(c x y:AR):RS tab (.pick c x y) a M K=C1 (pev a c) (fun b=>K (B3 b (pev a x) (pev a y)) M [] []) ⟨0⟩:=(rfl)
theorem aBQ(cs:List AV):RS tab (.alloc cs) a M K=K (.ptr M.length 0 0) (M++[.cells 0 0 (cs.map ofAV1)]) [] []:=(rfl)
theorem aGo(x:AR):RS tab (.box x) a M K=((bS (pev a x)).all PV.one=true/\K (.ptr M.length 0 0) (M++[.cells 0 0 (bS (pev a x))]) [] []):=(rfl)
theorem aBP(z:List AV)(ps:List (Nat×Nat×AR)):RS tab (.build z ps) a M K=dJ (pfill a (z.map ofAV1) ps) (fun cs=>K (.agg cs) M [] []) ⟨0⟩:=(rfl)
theorem AY(size len:Nat)(z:List AV)(ps:List (Nat×Nat×AR)):RS tab (.buildSlice size len z ps) a M K=((z.length=size/\0<size)/\dJ (pfill a (bW len (z.map ofAV1)) ps) (fun cs=>K (.sl true true size len cs) M [] []) ⟨0⟩):=(rfl)
theorem aEa(x:AR):RS tab (.load x) a M K=C0 (pev a x) M (fun v rd=>K v M rd []) ⟨0⟩:=(rfl)
theorem OL(n:Nat)(x:AR):RS tab (.loadAgg n x) a M K=tW n (pev a x) M (fun v rd=>K v M rd []) ⟨0⟩:=(rfl)
theorem aBK(n:Nat)(p x:AR):RS tab (.store n p x) a M K=NW n (pev a p) (pev a x) M (fun M' chg=>K (.tuple []) M' [] chg) ⟨0⟩:=(rfl)
theorem J4(x:AR):RS tab (.nilCheck x) a M K=qE (pev a x) M (K (pev a x) M [] []) ⟨0⟩:=(rfl)
theorem aGp(op:BinOp)(x y:AR):RS tab (.bin op x y) a M K=dJ (bX op (pev a x) (pev a y)) (fun v=>K v M [] []) ⟨0⟩:=(rfl)
theorem aGn(neg:Bool)(x y:AR):RS tab (.eqB neg x y) a M K=C1 (pev a x) (fun p=>C1 (pev a y) (fun q=>K (.bool (if neg=true then !(p==q)else p==q)) M [] []) ⟨0⟩) ⟨0⟩:=(rfl)
theorem aBM(kd:Nat)(neg:Bool)(x y:AR):RS tab (.isNil kd neg x y) a M K=qF kd (pev a x) (pev a y) M (fun b=>K (.bool (if neg=true then !b else b)) M [] []) ⟨0⟩:=(rfl)
theorem ON(neg:Bool)(T:List (Option IntKind))(x y:AR):RS tab (.eqCells neg T x y) a M K=FC (pev a x) (fun p=>FC (pev a y) (fun q=>dJ (nO T p q) (fun b=>K (.bool (if neg=true then !b else b)) M [] []) ⟨0⟩) ⟨0⟩) ⟨0⟩:=(rfl)
theorem aHt(op:UnOp)(x:AR):RS tab (.un op x) a M K=dJ (pun op (pev a x)) (fun v=>K v M [] []) ⟨0⟩:=(rfl)
theorem OO(k:IntKind)(x:AR):RS tab (.convInt k x) a M K=qG (pev a x) (fun _ n=>K (.int k (k.wrap n)) M [] []) ⟨0⟩:=(rfl)
theorem VT(g:FuncId)(f c:List AR):RS tab (.mkFunc (.func g) f c) a M K=K (.func (.func g) (f.map (pev a)) (c.map (pev a))) M [] []:=by simp[RS,PS]
theorem FG(bytes:Nat)(z:List AV)(n c:AR):RS tab (.makeSlice bytes z n c) a M K=qG (pev a n) (fun kv l=>qG (pev a c) (fun kw m=>(kv= .i64/\kw= .i64/\0<=l/\l<=m/\m*bytes<=140737488355328/\m<=9223372036854775807)/\K (.ref M.length 0 z.length 0 l.toNat) (M++[.cells 0 0 (bW l.toNat (z.map ofAV1))]) [] []) ⟨0⟩) ⟨0⟩:=(rfl)
theorem aBL(size:Nat)(x:AR)(lo hi mx:Option AR):RS tab (.slice size x lo hi mx) a M K=vH a lo (fun l=>vH a hi (fun r=>vH a mx (fun m=>zI size (pev a x) l r m M (fun v=>K v M [] []) ⟨0⟩) ⟨0⟩) ⟨0⟩) ⟨0⟩:=(rfl)
theorem FI(off:Nat)(x:AR):RS tab (.fieldAddr off x) a M K=aDW off (pev a x) M (fun v=>K v M [] []) ⟨0⟩:=(rfl)
theorem aBO(off:Nat)(x:AR):RS tab (.field off none x) a M K=FC (pev a x) (fun cs=>dJ cs[off]? (fun v=>K v M [] []) ⟨0⟩) ⟨0⟩:=(rfl)
theorem VY(off n:Nat)(x:AR):RS tab (.field off (some n) x) a M K=FC (pev a x) (fun cs=>off+n<=cs.length/\K (.agg (aY cs off n)) M [] []) ⟨0⟩:=(rfl)
theorem FH(size:Nat)(x i:AR):RS tab (.indexAddr size x i) a M K=aDU size (pev a x) (pev a i) M (fun v=>K v M [] []) ⟨0⟩:=(rfl)
theorem AW(len size:Nat)(x i:AR):RS tab (.indexAddrA len size x i) a M K=RR len size (pev a x) (pev a i) M (fun v=>K v M [] []) ⟨0⟩:=(rfl)
theorem aBN(len size:Nat)(x i:AR):RS tab (.index len size false x i) a M K=FC (pev a x) (fun cs=>qG (pev a i) (fun _ j=>(0<=j/\j<len)/\dJ cs[j.toNat*size]? (fun v=>K v M [] []) ⟨0⟩) ⟨0⟩) ⟨0⟩:=by simp only[RS,PS,Bool.false_eq_true,if_false,if_true];rfl
theorem VX(len size:Nat)(x i:AR):RS tab (.index len size true x i) a M K=FC (pev a x) (fun cs=>qG (pev a i) (fun _ j=>(0<=j/\j<len)/\j.toNat*size+size<=cs.length/\K (.agg (aY cs (j.toNat*size) size)) M [] []) ⟨0⟩) ⟨0⟩:=by simp only[RS,PS,Bool.false_eq_true,if_false,if_true];rfl
theorem OM(x:AR)(i:Nat):RS tab (.extract x i) a M K=aDK (pev a x) (fun vs=>dJ vs[i]? (fun v=>K v M [] []) ⟨0⟩) ⟨0⟩:=(rfl)
theorem aEb(f:AR)(args:List AR):RS tab (.call f args) a M K=zO tab (pev a f) (args.map (pev a)) M (KPC M K):=(rfl)
theorem VZ(size bytes:Nat)(s x:AR):RS tab (.append size bytes s x) a M K=(0<size/\aBt size bytes (pev a s) (pev a x) M K ⟨0⟩):=(rfl)
theorem aGm(x:AR):RS tab (.len x) a M K=aBk (pev a x) M (fun v=>K v M [] []) ⟨0⟩:=(rfl)
theorem aGl(x:AR)(xs:List AR):RS tab (.max x xs) a M K=dJ (HE (pev a x) (xs.map (pev a))) (fun v=>K v M [] []) ⟨0⟩:=(rfl)
theorem aGk(x:AR)(xs:List AR):RS tab (.min x xs) a M K=dJ (xI (pev a x) (xs.map (pev a))) (fun v=>K v M [] []) ⟨0⟩:=(rfl)
end
theorem OE(g:FuncId)(first cap args:List PV)(M:Mem)(K:PV->Mem->Prop):zO tab (.func (.func g) first cap) args M K=SemC tab g (first++args++cap) M K:=(rfl)
theorem aGu(M:Mem)(K:PV->Mem->List Nat->List Nat->Prop)(v:PV)(M':Mem):KPC M K v M'=K v M' [] (RC M M'):=(rfl)
end
theorem mN:∀(i:Nat) (M:Mem),b9 i M M=[]
 | _,[]=>rfl
 | i,o::M=>by simp[b9,gW,mN (i+1) M]
theorem uX:∀(i:Nat) (M l:Mem),b9 i M (M++l)=[]
 | _,[],_=>by simp[b9]
 | i,o::M,l=>by simp[b9,gW,uX (i+1) M l]
theorem aAJ(M M':Mem):RC M M'=b9 0 M M':=(rfl)
theorem JF(i:Nat)(M:Mem):b9 i [] M=[]:=by simp[b9]
theorem ND(i:Nat)(o:PObj)(M M':Mem):b9 i (o::M) (o::M')=b9 (i+1) M M':=by simp[b9,gW]
theorem AM(i g g' v v':Nat)(cs cs':List PV)(M M':Mem):b9 i (.cells g v cs::M) (.cells g' v' cs'::M')=if g=g'/\v=v' then b9 (i+1) M M' else i::b9 (i+1) M M':=by by_cases h:g=g'/\v=v'<;>simp[b9,kZ,h]
theorem XZ(eff:Bool)(rd chg:List Nat)(M:Mem)(log:List PLog):pchk eff rd chg M log []=true:=by simp[pchk]
section
variable (k:IntKind) (x y:Int)
theorem YC:bX .add (.int k x) (.int k y)=some (.int k (k.wrap (x+y))):=by simp[bX,bN,aA9,ofAV1]
theorem X3:bX .sub (.int k x) (.int k y)=some (.int k (k.wrap (x-y))):=by simp[bX,bN,aA1,ofAV1]
theorem X6:bX .mul (.int k x) (.int k y)=some (.int k (k.wrap (x*y))):=by simp[bX,bN,aA3,ofAV1]
theorem YB:bX .eql (.int k x) (.int k y)=some (.bool (decide (x=y))):=by simp[bX,bN,aA8,ofAV1]
theorem X5:bX .neq (.int k x) (.int k y)=some (.bool (decide (x≠y))):=by simp[bX,bN,aA2,ofAV1]
theorem X7:bX .lss (.int k x) (.int k y)=some (.bool (decide (x<y))):=by simp[bX,bN,aA4,ofAV1]
theorem X8:bX .leq (.int k x) (.int k y)=some (.bool (decide (x<=y))):=by simp[bX,bN,aA5,ofAV1]
theorem X9:bX .gtr (.int k x) (.int k y)=some (.bool (decide (y<x))):=by simp[bX,bN,aA6,ofAV1]
theorem YA:bX .geq (.int k x) (.int k y)=some (.bool (decide (y<=x))):=by simp[bX,bN,aA7,ofAV1]
theorem xN(hy:y≠0):bX .quo (.int k x) (.int k y)=some (.int k (k.wrap (x.tdiv y))):=by simp[bX,bN,eB,bF,cB,hy,ofAV1]
theorem S8:HE (.int k x) [.int k y]=some (.int k (max x y)):=by have:=Y1 k x y;simp only[aFm]at this;simp[HE,bN,eT,this,ofAV1]
end
theorem aCi(b:Bool):pun .not (.bool b)=some (.bool (!b)):=(rfl)
theorem aCj(k:IntKind)(x:Int):pun .neg (.int k x)=some (.int k (k.wrap (0-x))):=by simp[pun,bN,aun,ofAV1]
theorem B2(n:Nat)(c:PV):bW n [c]=List.replicate n c:=by
 induction n with
 | zero=>rfl
 | succ n ih=>simp[bW,ih,List.replicate_succ]
theorem S6(cs:List PV)(o:Nat)(x:PV):kB cs o [x]=cs.set o x:=(rfl)
theorem aU(cs:List PV)(n:Nat)(h:n=cs.length):aY cs 0 n=cs:=by subst h;simp[aY]
theorem SY(cs:List PV):aY cs 0 cs.length=cs:=by simp[aY]
theorem LA(cs:List PV)(o:Nat)(x y:PV)(l:List PV):kB cs o (x::y::l)=cs.take o++(x::y::l)++cs.drop (o+(x::y::l).length):=(rfl)
theorem aCm(x:PV)(cs:List PV)(n:Nat):aY (x::cs) 0 (n+1)=x::aY cs 0 n:=by simp[aY]
theorem aCk(cs:List PV)(o:Nat):aY cs o 0=[]:=by simp[aY]
theorem aCl(x:PV)(cs:List PV)(o n:Nat):aY (x::cs) (o+1) n=aY cs o n:=by simp[aY]
theorem XJ(o n:Nat):aY [] o n=[]:=by simp[aY]
theorem LQ(k:IntKind)(n:Int):bS (.int k n)=[.int k n]:=(rfl)
theorem HN(b:Bool):bS (.bool b)=[.bool b]:=(rfl)
theorem HL:bS .nils=[.nils]:=(rfl)
theorem TI(fl own:Bool)(sz n:Nat)(cs:List PV):bS (.sl fl own sz n cs)=[.sl fl own sz n cs]:=(rfl)
theorem LN(id g sz off n:Nat):bS (.ref id g sz off n)=[.ref id g sz off n]:=(rfl)
theorem LO(id g o:Nat):bS (.ptr id g o)=[.ptr id g o]:=(rfl)
theorem HM(fn:Go.Fn)(f c:List PV):bS (.func fn f c)=[.func fn f c]:=(rfl)
theorem LR(cs:List PV):bS (.agg cs)=cs:=(rfl)
theorem aCx(k:IntKind)(n:Int):PV.one (.int k n)=true:=(rfl)
theorem YJ(b:Bool):PV.one (.bool b)=true:=(rfl)
theorem YH:PV.one .nils=true:=(rfl)
theorem LT:PV.one .nilptr=true:=(rfl)
theorem HS:PV.one .nilfunc=true:=(rfl)
theorem aFd(fl own:Bool)(sz n:Nat)(cs:List PV):PV.one (.sl fl own sz n cs)=true:=(rfl)
theorem aCu(id g sz off n:Nat):PV.one (.ref id g sz off n)=true:=(rfl)
theorem aCv(id g o:Nat):PV.one (.ptr id g o)=true:=(rfl)
theorem YI(fn:Go.Fn)(f c:List PV):PV.one (.func fn f c)=true:=(rfl)
theorem sD(k:IntKind)(xs:List Int):(xs.map (PV.int k)).all PV.one=true:=by simp[PV.one]
theorem JU{tab:FuncId->Option AF}(m:Nat)(c:AC){a:List PV}{M:Mem}{Qn Qr:List PV->Mem->Prop}{Qe:Nat->List PV->Mem->Prop}(hp:RX tab m c a M Qn Qr Qe):bQ tab m c a M Qn Qr Qe:=J1 m c hp
theorem VN{tab:FuncId->Option AF}{m:Nat}{sc:List Nat}{x:AC}{a:List PV}{M:Mem}{Qn Qr:List PV->Mem->Prop}{Qe:Nat->List PV->Mem->Prop}(hp:RX tab m x (s8 a sc) M (FK tab m sc x Qn Qr Qe) Qr Qe):
  bQ tab m (.loop sc x) a M Qn Qr Qe:=N6 hp
def PWeak:List PV->List PV->Prop
 | [],[]=>True
 | x::a,y::b=>(y= .junk\/x=y)/\PWeak a b
 | _,_=>False
theorem PWeak.rep{w:PWd} :∀{a b:List PV} {a':List AV},PWeak a b->RepL w a a'->RepL w b a'
 | [],[],a',_,h=>h
 | x::a,y::b,[],_,h=>by have:=h.len;simp at this
 | x::a,y::b,v::a',⟨h1,h2⟩,h=>by
  refine .cons ?_ (PWeak.rep h2 h.tl);rcases h1 with rfl | rfl
  ·exact .junk _
  ·exact h.hd
 | [],_::_,a',hw,h=>hw.elim
 | _::_,[],a',hw,h=>hw.elim
theorem aG{tab:FuncId->Option AF}{m:Nat}{c:AC}{a b:List PV}{M:Mem}{Qn Qr:List PV->Mem->Prop}{Qe:Nat->List PV->Mem->Prop}(h:bQ tab m c b M Qn Qr Qe)(hw:PWeak a b):bQ tab m c a M Qn Qr Qe:=
 fun w hh a' h0 hm s ha=>h w hh a' h0 hm s (hw.rep ha)
theorem VS:PWeak [] []=True:=(rfl)
theorem OJ(x:PV)(a b:List PV):PWeak (x::a) (.junk::b)=PWeak a b:=by simp[PWeak]
theorem OI(x:PV)(a b:List PV):PWeak (x::a) (x::b)=PWeak a b:=by simp[PWeak]
def MN:Nat->List Nat->List PV->Bool
 | _,[],_=>true
 | _,_::_,[]=>false
 | i,s::sc,v::b=>match Nat.beq i s with
  | true=>match v with
   | .junk=>MN (i+1) sc b
   | _=>false
  | false=>MN (i+1) (s::sc) b
theorem xF:∀(a:List PV) (t:Nat),ptget a t= .junk->ptset a t .junk=a
 | [],_,_=>rfl
 | v::a,0,h=>by simp only[ptget]at h;simp[ptset,h]
 | v::a,t+1,h=>by simp only[ptget]at h;simp[ptset,xF a t h]
theorem rR:∀(b:List PV) (i:Nat) (sc:List Nat),MN i sc b=true->∀s∈sc,i<=s/\ptget b (s-i)= .junk
 | b,i,[],_,s,hs=>by cases hs
 | [],i,s0::sc,h,s,hs=>by simp[MN]at h
 | v::b,i,s0::sc,h,s,hs=>by
  unfold MN at h;split at h
  ·rename_i he;have he:i=s0:=Nat.eq_of_beq_eq_true he;split at h
   ·rcases List.mem_cons.1 hs with rfl | hs
    ·subst he;exact⟨Nat.le_refl _,by simp[ptget]⟩
    ·obtain⟨h1,h2⟩:=rR b (i+1) sc h s hs;refine⟨by omega,?_⟩;rw[show s-i=(s-(i+1))+1 by omega];simpa [ptget]using h2
   ·cases h
  ·obtain⟨h1,h2⟩:=rR b (i+1) (s0::sc) h s hs;refine⟨by omega,?_⟩;rw[show s-i=(s-(i+1))+1 by omega];simpa [ptget]using h2
theorem nL:∀(sc:List Nat) (b:List PV),(∀s∈sc,ptget b s= .junk)->s8 b sc=b
 | [],b,_=>rfl
 | s::sc,b,h=>by simp only[s8];rw[xF b s (h s (by simp))];exact nL sc b fun t ht=>h t (List.mem_cons_of_mem _ ht)
theorem aM{tab:FuncId->Option AF}{m:Nat}{sc:List Nat}{x:AC}{a:List PV}{M:Mem}{Qn Qr:List PV->Mem->Prop}{Qe:Nat->List PV->Mem->Prop}(hj:MN 0 sc a=true)(hp:RX tab m x a M (FK tab m sc x Qn Qr Qe) Qr Qe):
  bQ tab m (.loop sc x) a M Qn Qr Qe:=by
 refine VN ?_;rw[nL sc a fun s hs=>by simpa using (rR a 0 sc hj s hs).2];exact hp
theorem iX{A1:Type}{tab:FuncId->Option AF}{m:Nat}{sc:List Nat}{x:AC}{a:List PV}{M:Mem}{Qn Qr:List PV->Mem->Prop}{Qe:Nat->List PV->Mem->Prop}(I:A1->Prop)(fr:A1->List PV)(mem:A1->Mem)(mea:A1->Nat)
  (z1:A1) (h0:I z1) (hw:PWeak a (fr z1)) (hM:M=mem z1)
  (step:∀(x1:A1),I x1->(∀(y1:A1),I y1->mea y1<mea x1->bQ tab m (.loop sc x) (fr y1) (mem y1) Qn Qr Qe)->bQ tab m (.loop sc x) (fr x1) (mem x1) Qn Qr Qe):bQ tab m (.loop sc x) a M Qn Qr Qe:=by
 subst hM;refine aG ?_ hw;have key:∀(k:Nat) (x1:A1),mea x1<k->I x1->bQ tab m (.loop sc x) (fr x1) (mem x1) Qn Qr Qe:=by
  intro k
  induction k with
  | zero=>intro x1 h;omega
  | succ k ih=>intro x1 h hi;exact step x1 hi fun y1 hy hm=>ih y1 (by omega) hy
 exact key (mea z1+1) z1 (by omega) h0
theorem gU{A1:Type}{A2:Type}{tab:FuncId->Option AF}{m:Nat}{sc:List Nat}{x:AC}{a:List PV}{M:Mem}{Qn Qr:List PV->Mem->Prop}{Qe:Nat->List PV->Mem->Prop}(I:A1->A2->Prop)(fr:A1->A2->List PV)(mem:A1->A2->Mem)(mea:A1->A2->Nat)
  (z1:A1) (z2:A2) (h0:I z1 z2) (hw:PWeak a (fr z1 z2)) (hM:M=mem z1 z2)
  (step:∀(x1:A1) (x2:A2),I x1 x2->(∀(y1:A1) (y2:A2),I y1 y2->mea y1 y2<mea x1 x2->bQ tab m (.loop sc x) (fr y1 y2) (mem y1 y2) Qn Qr Qe)->bQ tab m (.loop sc x) (fr x1 x2) (mem x1 x2) Qn Qr Qe):bQ tab m (.loop sc x) a M Qn Qr Qe:=by
 subst hM;refine aG ?_ hw;have key:∀(k:Nat) (x1:A1) (x2:A2),mea x1 x2<k->I x1 x2->bQ tab m (.loop sc x) (fr x1 x2) (mem x1 x2) Qn Qr Qe:=by
  intro k
  induction k with
  | zero=>intro x1 x2 h;omega
  | succ k ih=>intro x1 x2 h hi;exact step x1 x2 hi fun y1 y2 hy hm=>ih y1 y2 (by omega) hy
 exact key (mea z1 z2+1) z1 z2 (by omega) h0
theorem nV{A1:Type}{A2:Type}{A3:Type}{tab:FuncId->Option AF}{m:Nat}{sc:List Nat}{x:AC}{a:List PV}{M:Mem}{Qn Qr:List PV->Mem->Prop}{Qe:Nat->List PV->Mem->Prop}(I:A1->A2->A3->Prop)(fr:A1->A2->A3->List PV)(mem:A1->A2->A3->Mem)(mea:A1->A2->A3->Nat)
  (z1:A1) (z2:A2) (z3:A3) (h0:I z1 z2 z3) (hw:PWeak a (fr z1 z2 z3)) (hM:M=mem z1 z2 z3)
  (step:∀(x1:A1) (x2:A2) (x3:A3),I x1 x2 x3->(∀(y1:A1) (y2:A2) (y3:A3),I y1 y2 y3->mea y1 y2 y3<mea x1 x2 x3->bQ tab m (.loop sc x) (fr y1 y2 y3) (mem y1 y2 y3) Qn Qr Qe)->bQ tab m (.loop sc x) (fr x1 x2 x3) (mem x1 x2 x3) Qn Qr Qe):bQ tab m (.loop sc x) a M Qn Qr Qe:=by
 subst hM;refine aG ?_ hw;have key:∀(k:Nat) (x1:A1) (x2:A2) (x3:A3),mea x1 x2 x3<k->I x1 x2 x3->bQ tab m (.loop sc x) (fr x1 x2 x3) (mem x1 x2 x3) Qn Qr Qe:=by
  intro k
  induction k with
  | zero=>intro x1 x2 x3 h;omega
  | succ k ih=>intro x1 x2 x3 h hi;exact step x1 x2 x3 hi fun y1 y2 y3 hy hm=>ih y1 y2 y3 (by omega) hy
 exact key (mea z1 z2 z3+1) z1 z2 z3 (by omega) h0
theorem pF{A1:Type}{A2:Type}{A3:Type}{A4:Type}{tab:FuncId->Option AF}{m:Nat}{sc:List Nat}{x:AC}{a:List PV}{M:Mem}{Qn Qr:List PV->Mem->Prop}{Qe:Nat->List PV->Mem->Prop}(I:A1->A2->A3->A4->Prop)(fr:A1->A2->A3->A4->List PV)(mem:A1->A2->A3->A4->Mem)(mea:A1->A2->A3->A4->Nat)
  (z1:A1) (z2:A2) (z3:A3) (z4:A4) (h0:I z1 z2 z3 z4) (hw:PWeak a (fr z1 z2 z3 z4)) (hM:M=mem z1 z2 z3 z4)
  (step:∀(x1:A1) (x2:A2) (x3:A3) (x4:A4),I x1 x2 x3 x4->(∀(y1:A1) (y2:A2) (y3:A3) (y4:A4),I y1 y2 y3 y4->mea y1 y2 y3 y4<mea x1 x2 x3 x4->bQ tab m (.loop sc x) (fr y1 y2 y3 y4) (mem y1 y2 y3 y4) Qn Qr Qe)->bQ tab m (.loop sc x) (fr x1 x2 x3 x4) (mem x1 x2 x3 x4) Qn Qr Qe):bQ tab m (.loop sc x) a M Qn Qr Qe:=by
 subst hM;refine aG ?_ hw;have key:∀(k:Nat) (x1:A1) (x2:A2) (x3:A3) (x4:A4),mea x1 x2 x3 x4<k->I x1 x2 x3 x4->bQ tab m (.loop sc x) (fr x1 x2 x3 x4) (mem x1 x2 x3 x4) Qn Qr Qe:=by
  intro k
  induction k with
  | zero=>intro x1 x2 x3 x4 h;omega
  | succ k ih=>intro x1 x2 x3 x4 h hi;exact step x1 x2 x3 x4 hi fun y1 y2 y3 y4 hy hm=>ih y1 y2 y3 y4 (by omega) hy
 exact key (mea z1 z2 z3 z4+1) z1 z2 z3 z4 (by omega) h0
theorem ZA{A1:Type}{A2:Type}{A3:Type}{A4:Type}{A5:Type}{tab:FuncId->Option AF}{m:Nat}{sc:List Nat}{x:AC}{a:List PV}{M:Mem}{Qn Qr:List PV->Mem->Prop}{Qe:Nat->List PV->Mem->Prop}(I:A1->A2->A3->A4->A5->Prop)(fr:A1->A2->A3->A4->A5->List PV)(mem:A1->A2->A3->A4->A5->Mem)(mea:A1->A2->A3->A4->A5->Nat)
  (z1:A1) (z2:A2) (z3:A3) (z4:A4) (z5:A5) (h0:I z1 z2 z3 z4 z5) (hw:PWeak a (fr z1 z2 z3 z4 z5)) (hM:M=mem z1 z2 z3 z4 z5)
  (step:∀(x1:A1) (x2:A2) (x3:A3) (x4:A4) (x5:A5),I x1 x2 x3 x4 x5->(∀(y1:A1) (y2:A2) (y3:A3) (y4:A4) (y5:A5),I y1 y2 y3 y4 y5->mea y1 y2 y3 y4 y5<mea x1 x2 x3 x4 x5->bQ tab m (.loop sc x) (fr y1 y2 y3 y4 y5) (mem y1 y2 y3 y4 y5) Qn Qr Qe)->bQ tab m (.loop sc x) (fr x1 x2 x3 x4 x5) (mem x1 x2 x3 x4 x5) Qn Qr Qe):bQ tab m (.loop sc x) a M Qn Qr Qe:=by
 subst hM;refine aG ?_ hw;have key:∀(k:Nat) (x1:A1) (x2:A2) (x3:A3) (x4:A4) (x5:A5),mea x1 x2 x3 x4 x5<k->I x1 x2 x3 x4 x5->bQ tab m (.loop sc x) (fr x1 x2 x3 x4 x5) (mem x1 x2 x3 x4 x5) Qn Qr Qe:=by
  intro k
  induction k with
  | zero=>intro x1 x2 x3 x4 x5 h;omega
  | succ k ih=>intro x1 x2 x3 x4 x5 h hi;exact step x1 x2 x3 x4 x5 hi fun y1 y2 y3 y4 y5 hy hm=>ih y1 y2 y3 y4 y5 (by omega) hy
 exact key (mea z1 z2 z3 z4 z5+1) z1 z2 z3 z4 z5 (by omega) h0
theorem aGP{A1:Type}{A2:Type}{A3:Type}{A4:Type}{A5:Type}{A6:Type}{A7:Type}{tab:FuncId->Option AF}{m:Nat}{sc:List Nat}{x:AC}{a:List PV}{M:Mem}{Qn Qr:List PV->Mem->Prop}{Qe:Nat->List PV->Mem->Prop}(I:A1->A2->A3->A4->A5->A6->A7->Prop)(fr:A1->A2->A3->A4->A5->A6->A7->List PV)(mem:A1->A2->A3->A4->A5->A6->A7->Mem)(mea:A1->A2->A3->A4->A5->A6->A7->Nat)
  (z1:A1) (z2:A2) (z3:A3) (z4:A4) (z5:A5) (z6:A6) (z7:A7) (h0:I z1 z2 z3 z4 z5 z6 z7) (hw:PWeak a (fr z1 z2 z3 z4 z5 z6 z7)) (hM:M=mem z1 z2 z3 z4 z5 z6 z7)
  (step:∀(x1:A1) (x2:A2) (x3:A3) (x4:A4) (x5:A5) (x6:A6) (x7:A7),I x1 x2 x3 x4 x5 x6 x7->(∀(y1:A1) (y2:A2) (y3:A3) (y4:A4) (y5:A5) (y6:A6) (y7:A7),I y1 y2 y3 y4 y5 y6 y7->mea y1 y2 y3 y4 y5 y6 y7<mea x1 x2 x3 x4 x5 x6 x7->bQ tab m (.loop sc x) (fr y1 y2 y3 y4 y5 y6 y7) (mem y1 y2 y3 y4 y5 y6 y7) Qn Qr Qe)->bQ tab m (.loop sc x) (fr x1 x2 x3 x4 x5 x6 x7) (mem x1 x2 x3 x4 x5 x6 x7) Qn Qr Qe):bQ tab m (.loop sc x) a M Qn Qr Qe:=by
 subst hM;refine aG ?_ hw;have key:∀(k:Nat) (x1:A1) (x2:A2) (x3:A3) (x4:A4) (x5:A5) (x6:A6) (x7:A7),mea x1 x2 x3 x4 x5 x6 x7<k->I x1 x2 x3 x4 x5 x6 x7->bQ tab m (.loop sc x) (fr x1 x2 x3 x4 x5 x6 x7) (mem x1 x2 x3 x4 x5 x6 x7) Qn Qr Qe:=by
  intro k
  induction k with
  | zero=>intro x1 x2 x3 x4 x5 x6 x7 h;omega
  | succ k ih=>intro x1 x2 x3 x4 x5 x6 x7 h hi;exact step x1 x2 x3 x4 x5 x6 x7 hi fun y1 y2 y3 y4 y5 y6 y7 hy hm=>ih y1 y2 y3 y4 y5 y6 y7 (by omega) hy
 exact key (mea z1 z2 z3 z4 z5 z6 z7+1) z1 z2 z3 z4 z5 z6 z7 (by omega) h0
attribute [irreducible] QIf qG C1 FC aDK ZOb dJ aBk aDU RR aDW C0 tW NW JN aBt vH zI qE qF eX mY RX RO RD RS aBS J7 RY FJ FK
mutual
def PV.under(m:Nat):PV->Bool
 | .ptr id _ _=>decide (id<m)
 | .ref id _ _ _ _=>decide (id<m)
 | .map id=>decide (id<m)
 | .yld id f=>decide (id<m)&&aC m f
 | .cp cs _=>aC m cs
 | .sl _ _ _ _ cs=>aC m cs
 | .func _ f c=>aC m f&&aC m c
 | .iface _ v=>PV.under m v
 | .agg cs=>aC m cs
 | .tuple cs=>aC m cs
 | .junk=>true
 | .bool _=>true
 | .int _ _=>true
 | .str _=>true
 | .nilptr=>true
 | .nils=>true
 | .nilmap=>true
 | .nilfunc=>true
 | .niliface=>true
def aC(m:Nat):List PV->Bool
 | []=>true
 | v::l=>PV.under m v&&aC m l
end
theorem dL(m:Nat):∀(l:List PV),aC m l=true↔∀v∈l,v.under m=true
 | []=>by simp[aC]
 | v::l=>by simp[aC,dL m l]
theorem eQ{m:Nat}{l:List PV}(h:aC m l=true){i:Nat}{y:PV}(hy:l[i]? =some y):y.under m=true:=(dL m l).1 h y (List.mem_of_getElem? hy)
theorem aP(m:Nat)(k:IntKind)(xs:List Int):aC m (xs.map (PV.int k))=true:=(dL m _).2 fun v hv=>by obtain⟨x,_,rfl⟩:=List.mem_map.1 hv;simp[PV.under]
theorem dK{α:Type}(m:Nat)(f:α->PV)(hf:∀x,(f x).under m=true)(xs:List α):aC m (xs.map f)=true:=(dL m _).2 fun v hv=>by obtain⟨x,_,rfl⟩:=List.mem_map.1 hv;exact hf x
theorem iF(m:Nat)(l l':List PV):aC m (l++l')=(aC m l&&aC m l'):=by
 induction l with
 | nil=>simp[aC]
 | cons v l ih=>simp[aC,ih,Bool.and_assoc]
theorem nC{m:Nat}{l:List PV}(h:aC m l=true)(k:Nat):aC m (l.drop k)=true:=(dL m _).2 fun v hv=>(dL m l).1 h v (List.mem_of_mem_drop hv)
theorem nB{m:Nat}{l:List PV}(h:aC m l=true)(k:Nat):aC m (l.take k)=true:=(dL m _).2 fun v hv=>(dL m l).1 h v (List.mem_of_mem_take hv)
theorem RepV.low{w w':PWd}{m:Nat}(h0:w'.n0=w.n0)(hi:∀b o,w.imm b=some o->w'.imm b=some o)(he:∀id,id<m->w'.env id=w.env id){v:PV}{x:AV}(h:RepV w v x):v.under m=true->RepV w' v x:=by
 induction h with
 | junk x=>intro _;exact .junk x
 | bool b=>intro _;exact .bool b
 | int k n=>intro _;exact .int k n
 | str s=>intro _;exact .str s
 | nilptr=>intro _;exact .nilptr
 | nils=>intro _;exact .nils
 | nilmap=>intro _;exact .nilmap
 | nilfunc=>intro _;exact .nilfunc
 | niliface=>intro _;exact .niliface
 | ptr h1 h2 h3=>intro hb;simp only[PV.under,decide_eq_true_eq]at hb;exact .ptr (by rw[he _ hb];exact h1) h2 h3
 | ptrS x q h1 h2=>intro hb;simp only[PV.under,decide_eq_true_eq]at hb;exact .ptrS x q (by rw[he _ hb];exact h1) h2
 | cp h1 h2 h3 ih=>intro hb;simp only[PV.under]at hb;exact .cp (hi _ _ h1) h2 (fun i y z p q=>ih i y z p q (eQ hb p))
 | sl h1 h2 h3 h4 h5 h7 h6 ih=>intro hb;simp only[PV.under]at hb;exact .sl (hi _ _ h1) h2 h3 h4 (by rw[h0];exact h5) (by rw[h0];exact h7) (fun i y z p q=>ih i y z p q (eQ hb p))
 | slN=>intro _;exact .slN
 | ref h1 h2 h3=>intro hb;simp only[PV.under,decide_eq_true_eq]at hb;exact .ref (by rw[he _ hb];exact h1) h2 h3
 | refN h1 h2 h3=>intro hb;simp only[PV.under,decide_eq_true_eq]at hb;exact .refN (by rw[he _ hb];exact h1) h2 h3
 | refS x q h1 h2=>intro hb;simp only[PV.under,decide_eq_true_eq]at hb;exact .refS x q (by rw[he _ hb];exact h1) h2
 | map h1 h2 h3=>intro hb;simp only[PV.under,decide_eq_true_eq]at hb;exact .map (by rw[he _ hb];exact h1) h2 h3
 | mapS x q h1 h2=>intro hb;simp only[PV.under,decide_eq_true_eq]at hb;exact .mapS x q (by rw[he _ hb];exact h1) h2
 | func h1 h2 h3 h4 h5 ih1 ih2=>intro hb;simp only[PV.under,Bool.and_eq_true]at hb;exact .func h1 h2 h3 (fun i y z p q=>ih1 i y z p q (eQ hb.1 p)) (fun i y z p q=>ih2 i y z p q (eQ hb.2 p))
 | yld h1 h2 h3 h4 h5 ih=>intro hb;simp only[PV.under,Bool.and_eq_true,decide_eq_true_eq]at hb;exact .yld (by rw[he _ hb.1];exact h1) h2 h3 h4 (fun i y z p q=>ih i y z p q (eQ hb.2 p))
 | yldS x q h1 h2=>intro hb;simp only[PV.under,Bool.and_eq_true,decide_eq_true_eq]at hb;exact .yldS x q (by rw[he _ hb.1];exact h1) h2
 | iface h ih=>intro hb;simp only[PV.under]at hb;exact .iface (ih hb)
 | agg h1 h2 ih=>intro hb;simp only[PV.under]at hb;exact .agg h1 (fun i y z p q=>ih i y z p q (eQ hb p))
 | tuple h1 h2 ih=>intro hb;simp only[PV.under]at hb;exact .tuple h1 (fun i y z p q=>ih i y z p q (eQ hb p))
theorem RepL.low{w w':PWd}{m:Nat}(h0:w'.n0=w.n0)(hi:∀b o,w.imm b=some o->w'.imm b=some o)(he:∀id,id<m->w'.env id=w.env id){l:List PV}{l':List AV}(h:RepL w l l')(hb:aC m l=true):RepL w' l l':=
 ⟨h.len,fun i y z p q=>(h.get i y z p q).low h0 hi he (eQ hb p)⟩
def cC(m:Nat)(M:Mem):PV->Option PV
 | .ref id g sz off n=>if id<m then some (.ref id g sz off n)else match M[id]? with
  | some (.cells g' _ cs)=>if g'=g/\off+n*sz<=cs.length/\aC m cs=true then some (.sl false true sz n (aY cs off (n*sz)))else none
  | _=>none
 | v=>if v.under m=true then some v else none
def dZ(m:Nat)(M:Mem):List PV->Option (List PV)
 | []=>some []
 | v::l=>match cC m M v,dZ m M l with
  | some x,some xs=>some (x::xs)
  | _,_=>none
def dD(m:Nat)(M:Mem):PV->Option PV
 | .agg cs=>(dZ m M cs).map .agg
 | v=>cC m M v
def fF(m:Nat)(M:Mem):List PV->Option (List PV)
 | []=>some []
 | v::l=>match dD m M v,fF m M l with
  | some x,some xs=>some (x::xs)
  | _,_=>none
def fG(m:Nat)(M:Mem):PV->Option PV
 | .tuple cs=>(fF m M cs).map .tuple
 | v=>dD m M v
theorem yQ{m:Nat}{M:Mem}{v r:PV}(hr:cC m M v=some r):r.under m=true:=by
 have other:(if v.under m=true then some v else none)=some r->r.under m=true:=by
  intro hr;split at hr
  ·rename_i hb;cases hr;exact hb
  ·cases hr
 unfold cC at hr;split at hr
 ·split at hr
  ·rename_i hi;cases hr;simp[PV.under,hi]
  ·split at hr
   ·split at hr
    ·rename_i hc;cases hr;simp only[PV.under];exact nB (nC hc.2.2 _) _
    ·cases hr
   ·cases hr
 ·exact other hr
theorem yO{m:Nat}{M:Mem} :∀{l r:List PV},dZ m M l=some r->aC m r=true
 | [],r,hr=>by simp only[dZ]at hr;cases hr;rfl
 | v::l,r,hr=>by
  simp only[dZ]at hr;split at hr
  ·rename_i a b h1 h2;cases hr;simp[aC,yQ h1,yO h2]
  ·cases hr
theorem yP{m:Nat}{M:Mem}{v r:PV}(hr:dD m M v=some r):r.under m=true:=by
 unfold dD at hr;split at hr
 ·rename_i cs
  cases hq:dZ m M cs with
  | none=>rw[hq]at hr;cases hr
  | some cs2=>rw[hq]at hr;cases hr;simp only[PV.under];exact yO hq
 ·exact yQ hr
theorem uT{m:Nat}{M:Mem} :∀{l r:List PV},fF m M l=some r->aC m r=true
 | [],r,hr=>by simp only[fF]at hr;cases hr;rfl
 | v::l,r,hr=>by
  simp only[fF]at hr;split at hr
  ·rename_i a b h1 h2;cases hr;simp[aC,yP h1,uT h2]
  ·cases hr
theorem UF{m:Nat}{M:Mem}{v r:PV}(hr:fG m M v=some r):r.under m=true:=by
 unfold fG at hr;split at hr
 ·rename_i cs
  cases hq:fF m M cs with
  | none=>rw[hq]at hr;cases hr
  | some cs2=>rw[hq]at hr;cases hr;simp only[PV.under];exact uT hq
 ·exact yP hr
def PObj.under(m:Nat):PObj->Bool
 | .cells _ _ cs=>aC m cs
 | .gone=>true
 | _=>false
open Classical in
noncomputable def PWd.cut(w:PWd)(h:H)(m:Nat)(M:Mem):PWd where
 n0:=w.n0
 id0:=w.id0
 env:=fun id=>if id<m then w.env id else none
 imm:=fun b=>if ∃id,m<=id/\LiveAt w M id b then h.get b else w.imm b
open Classical in
theorem kH{w:PWd}{h:H}{M:Mem}(s:PSt w h M)(m:Nat):∀b o,w.imm b=some o->(w.cut h m M).imm b=some o:=by
 intro b o hb;show(if _ then _ else _)=_;split
 ·exact s.imm b o hb
 ·exact hb
theorem fR{w:PWd}{h:H}{M:Mem}{m id:Nat}(hi:id<m):(w.cut h m M).env id=w.env id:=by show(if _ then _ else _)=_;rw[if_pos hi]
theorem sA{w:PWd}{h:H}{M:Mem}{m id x:Nat}(hl:LiveAt (w.cut h m M) (M.take m) id x):id<m/\LiveAt w M id x:=by
 obtain⟨o,e,h1,h2,h3,h4⟩:=hl;have hi:id<m:=by have:=aD h1;simp at this;omega
 rw[fR hi]at h3;rw[List.getElem?_take,if_pos hi]at h1;exact⟨hi,o,e,h1,h2,h3,h4⟩
open Classical in
theorem PSt.cut{w:PWd}{h:H}{M:Mem}(s:PSt w h M){m:Nat}(hm:m<=M.length)(hb:(M.take m).all (PObj.under m)=true):
  PSt (w.cut h m M) h (M.take m)/\∀(w0:PWd) (h0:H) (M0:Mem),PStp m w0 h0 M0 w h M->PStp m w0 h0 M0 (w.cut h m M) h (M.take m):=by
 have hlen:(M.take m).length=m:=by simp;omega
 refine⟨⟨?_,?_,?_,?_,?_,?_,s.base⟩,fun w0 h0 M0 t=>⟨by omega,⟨t.le.n0,t.le.id0,fun b o hbo=>kH s m b o (t.le.imm b o hbo),fun id hi e he=>?_⟩,t.next,t.keep,fun id x hl hx=>t.live id x (sA hl).2 hx,?_⟩⟩
 ·intro b o hbo;have hbo:(if ∃id,m<=id/\LiveAt w M id b then h.get b else w.imm b)=some o:=hbo;split at hbo
  ·exact hbo
  ·exact s.imm b o hbo
 ·intro id e he;have he:(if id<m then w.env id else none)=some e:=he;split at he
  ·rename_i hi;omega
  ·cases he
 ·intro id e b he hbl;have he:(if id<m then w.env id else none)=some e:=he;split at he
  ·exact s.blk id e b he hbl
  ·cases he
 ·intro id o ho;have hi:id<m:=by have:=aD ho;omega
  have ho':=ho;rw[List.getElem?_take,if_pos hi]at ho';have hbo:o.under m=true:=by rw[List.all_eq_true]at hb;exact hb o (List.mem_of_getElem? ho)
  have r:=s.obj id o ho'
  cases o with
  | cells g ver cs=>
   obtain⟨e,h1,h2,h3⟩:=r;refine⟨e,by rw[fR hi];exact h1,h2,?_⟩
   cases hbl:e.blk with
   | none=>rw[hbl]at h3;exact h3
   | some b=>rw[hbl]at h3;obtain⟨bcs,h4,h5⟩:=h3;exact⟨bcs,h4,h5.low (w:=w) (w':=w.cut h m M) rfl (kH s m) (fun id hi=>fR hi) hbo⟩
  | gone=>trivial
  | _=>simp[PObj.under]at hbo
 ·intro i j x h1 h2;exact s.inj i j x (sA h1).2 (sA h2).2
 ·intro i x h1;obtain⟨hi,hl⟩:=sA h1;refine⟨?_,(s.sep i x hl).2⟩;show(if _ then _ else _)=_;split
  ·rename_i hc;obtain⟨j,hj,hl2⟩:=hc;have:=s.inj i j x hl hl2;omega
  ·exact(s.sep i x hl).1
 ·rw[fR hi];exact t.le.env id hi e he
 ·intro x hx;have hx:(if ∃id,m<=id/\LiveAt w M id x then h.get x else w.imm x)≠none:=hx;split at hx
  ·rename_i hc;obtain⟨id,hid,hl⟩:=hc;rcases Nat.lt_or_ge x h0.next with hxn | hxn
   ·exact .inr (.inr ⟨id,hid,t.live id x hl hxn⟩)
   ·exact .inr (.inl hxn)
  ·exact t.new x hx
open Classical in
theorem IZ{w:PWd}{h:H}{M:Mem}(s:PSt w h M){m:Nat}(h0:w.id0<=m){v r:PV}{x:AV}(hv:RepV w v x)(hr:cC m M v=some r):RepV (w.cut h m M) r x:=by
 have low:∀{u:PV},RepV w u x->u.under m=true->RepV (w.cut h m M) u x:=fun hu hb=>hu.low (w:=w) (w':=w.cut h m M) rfl (kH s m) (fun id hi=>fR hi) hb;have other:(if v.under m=true then some v else none)=some r->RepV (w.cut h m M) r x:=by
  intro hr;split at hr
  ·rename_i hb;cases hr;exact low hv hb
  ·cases hr
 unfold cC at hr;split at hr
 ·rename_i id g sz off n;split at hr
  ·rename_i hi;cases hr;exact low hv (by simp[PV.under,hi])
  ·rename_i hi;split at hr
   ·rename_i g' ver cs hm;split at hr
    ·rename_i hc;obtain⟨rfl,hl,hb⟩:=hc;cases hr;obtain⟨e,p1,p2,p3⟩:=s.refAt hm hv;rcases p3 with⟨rfl,rfl,rfl,_,rfl⟩ | ⟨fl,b,bcs,rfl,q1,q2,q3,q4⟩
     ·simpa [aY]using RepV.slN
     ·have hlive:∃i,m<=i/\LiveAt w M i b:=⟨id,by omega,q4⟩;have him:(w.cut h m M).imm b=some (.cells (e.v0+ver) true bcs):=by
       show(if _ then _ else _)=_;rw[if_pos hlive];exact q2
      have hlen:(aY cs off (n*sz)).length=n*sz:=by simp[aY];omega
      have hs:=(eI q3 off (n*sz)).low (w:=w) (w':=w.cut h m M) rfl (kH s m) (fun id hi=>fR hi) (nB (nC hb off) _);refine .sl him (by rw[hlen,<-q3.len];exact hl) hlen (fun hf=>by cases hf) (fun _=>⟨(s.sep id b q4).2 (by omega),rfl⟩) (fun q=>by cases q) (fun i y z hy hz=>hs.get i y z hy ?_);rw[List.getElem?_take,if_pos (by have:=aD hy;omega),List.getElem?_drop];exact hz
    ·cases hr
   ·cases hr
 ·exact other hr
theorem rU{w:PWd}{h:H}{M:Mem}(s:PSt w h M){m:Nat}(h0:w.id0<=m):∀{l r:List PV} {l':List AV},RepL w l l'->dZ m M l=some r->RepL (w.cut h m M) r l'
 | [],r,l',hl,hr=>by simp only[dZ]at hr;cases hr;exact⟨hl.len,fun i y z h=>by simp at h⟩
 | v::l,r,[],hl,hr=>by have:=hl.len;simp at this
 | v::l,r,x::l',hl,hr=>by
  simp only[dZ]at hr;split at hr
  ·rename_i a b h1 h2;cases hr;exact .cons (IZ s h0 hl.hd h1) (rU s h0 hl.tl h2)
  ·cases hr
theorem IY{w:PWd}{h:H}{M:Mem}(s:PSt w h M){m:Nat}(h0:w.id0<=m){v r:PV}{x:AV}(hv:RepV w v x)(hr:dD m M v=some r):RepV (w.cut h m M) r x:=by
 unfold dD at hr;split at hr
 ·rename_i cs
  cases hq:dZ m M cs with
  | none=>rw[hq]at hr;cases hr
  | some cs2=>rw[hq]at hr;cases hr;obtain⟨cs',rfl,hl⟩:=mC hv;have:=rU s h0 hl hq;exact .agg this.len this.get
 ·exact IZ s h0 hv hr
theorem CN{w:PWd}{h:H}{M:Mem}(s:PSt w h M){m:Nat}(h0:w.id0<=m):∀{l r:List PV} {l':List AV},RepL w l l'->fF m M l=some r->RepL (w.cut h m M) r l'
 | [],r,l',hl,hr=>by simp only[fF]at hr;cases hr;exact⟨hl.len,fun i y z h=>by simp at h⟩
 | v::l,r,[],hl,hr=>by have:=hl.len;simp at this
 | v::l,r,x::l',hl,hr=>by
  simp only[fF]at hr;split at hr
  ·rename_i a b h1 h2;cases hr;exact .cons (IY s h0 hl.hd h1) (CN s h0 hl.tl h2)
  ·cases hr
theorem EY{w:PWd}{h:H}{M:Mem}(s:PSt w h M){m:Nat}(h0:w.id0<=m){v r:PV}{x:AV}(hv:RepV w v x)(hr:fG m M v=some r):RepV (w.cut h m M) r x:=by
 unfold fG at hr;split at hr
 ·rename_i cs
  cases hq:fF m M cs with
  | none=>rw[hq]at hr;cases hr
  | some cs2=>rw[hq]at hr;cases hr;obtain⟨cs',rfl,hl⟩:=oJ hv;have:=CN s h0 hl hq;exact .tuple this.len this.get
 ·exact IY s h0 hv hr
section
variable {tab:FuncId->Option AF}
theorem iD{L:Rec}{g:FuncId}{args:List AV}{h:H}{K K':AV->H->Prop}(hc:C L g args h K)(hk:∀v h',K v h'->K' v h'):C L g args h K':=by unfold C at hc ⊢;obtain⟨v,h',h1,h2⟩:=hc;exact⟨v,h',h1,hk v h' h2⟩
theorem SemC.mono{g:FuncId}{args:List PV}{M:Mem}{K K':PV->Mem->Prop}(hc:SemC tab g args M K)(hk:∀v M',K v M'->K' v M'):SemC tab g args M K':=
 fun w h args' h0 s ha=>iD (hc w h args' h0 s ha) fun v h' ⟨w',r,M',p1,p2,p3,p4⟩=>⟨w',r,M',p1,p2,p3,hk _ _ p4⟩
theorem sH{g:FuncId}{args:List PV}{M:Mem}{K:PV->Mem->Prop}(hc:SemC tab g args M fun r M'=>(M'.take M.length).all (PObj.under M.length)=true/\fD (fG M.length M' r) fun r'=>K r' (M'.take M.length)):SemC tab g args M K:=by intro w h args' h0 s ha;refine iD (hc w h args' h0 s ha) ?_;rintro v h' ⟨w',r,M',p1,p2,p3,p4,r',p5,p6⟩;obtain⟨q1,q2⟩:=p2.cut p1.len p4;exact⟨_,r',_,q2 w h M p1,q1,EY p2 (by rw[p1.le.id0];exact h0) p3 p5,p6⟩
theorem qJ{g:FuncId}{args:List PV}{M:Mem}{K:PV->Mem->Prop}(hb:aC 0 args=true)(hc:SemC tab g args [] fun r M'=>fD (fG 0 M' r) fun r'=>K r' M):SemC tab g args M K:=by
 intro w h args' h0 s ha
 let w0:PWd:={w with env:=fun _=>none,id0:=0}
 have s0:PSt w0 h []:=⟨s.imm,(fun id e he=>by cases he),(fun id e b he=>by cases he),(fun id o ho=>by simp at ho),(fun i j x ⟨_,_,h1,_⟩=>by simp at h1),(fun i x ⟨_,_,h1,_⟩=>by simp at h1),s.base⟩;have a0:RepL w0 args args':=ha.low (w:=w) (w':=w0) rfl (fun _ _ h=>h) (fun id hi=>by omega) hb;refine iD (hc w0 h args' (Nat.le_refl _) s0 a0) ?_;rintro v h' ⟨w1,r,M1,p1,p2,p3,r',p5,p6⟩;have q1:=EY p2 (by rw[p1.le.id0];exact Nat.le_refl _) p3 p5;obtain⟨z1,z2⟩:=p2.cut (m:=0) (Nat.zero_le _) (by simp);have p1:=z2 w0 h [] p1;have hle:w1.n0=w.n0:=p1.le.n0;have hnl:∀x id,¬LiveAt w0 [] id x:=fun x id ⟨_,_,h1,_⟩=>by simp at h1
 have hkeep:∀x,x<h.next->h'.get x=h.get x:=fun x hx=>p1.keep x hx (hnl x)
 let w2:PWd:={n0:=w.n0,id0:=w.id0,env:=w.env,imm:=(w1.cut h' 0 M1).imm}
 have hl:Le M.length w w2:=⟨rfl,rfl,fun b o hbo=>p1.le.imm b o hbo,fun id hi e he=>⟨e,he,.inr rfl⟩⟩;have hr:RepV w2 r' v:=by exact q1.low (w:=w1.cut h' 0 M1) (w':=w2) (m:=0) hle.symm (fun _ _ h=>h) (fun id hi=>by omega) (UF p5)
 refine⟨w2,r',M,⟨Nat.le_refl _,hl,p1.next,fun x hx _=>hkeep x hx,fun id x hlv _=>hlv,?_⟩,⟨fun b o hbo=>z1.imm b o hbo,s.env,?_,?_,s.inj,?_,Nat.le_trans s.base p1.next⟩,hr,p6⟩
 ·intro x hx;rcases p1.new x hx with e | e | ⟨id,_,e⟩
  ·exact .inl e
  ·exact .inr (.inl e)
  ·exact absurd e (hnl x id)
 ·intro id e b he hbl;exact Nat.lt_of_lt_of_le (s.blk id e b he hbl) p1.next
 ·intro id o ho;exact RepO.mono s hl (s.obj id o ho) (fun e he=>he) (fun e b he hbl=>hkeep b (s.blk id e b he hbl))
 ·intro i x hlv;have hlv:LiveAt w M i x:=hlv;refine⟨?_,(s.sep i x hlv).2⟩;show(w1.cut h' 0 M1).imm x=none
  cases hc:(w1.cut h' 0 M1).imm x with
  | none=>rfl
  | some o=>
   rcases p1.new x (by rw[hc];simp)with e | e | ⟨id,_,e⟩
   ·exact absurd (s.sep i x hlv).1 e
   ·have:=hlv.next s;omega
   ·exact absurd e (hnl x id)
end
section
variable {tab:FuncId->Option AF}
def RV(res:List ARes)(K:PV->Mem->Prop)(a:List PV)(M:Mem):Prop:=f7 res a M fun vs=>K (ppack vs) M
def oC(res:List ARes)(Q:PV->Prop)(a:List PV)(M:Mem):Prop:=f7 res a M fun vs=>fD (fG 0 M (ppack vs)) Q
def PKNo(i:Nat)(a:List PV)(M:Mem):Prop:=False
theorem aBT(res:List ARes)(K:PV->Mem->Prop)(a:List PV)(M:Mem):RV res K a M=f7 res a M fun vs=>K (ppack vs) M:=(rfl)
theorem V3(res:List ARes)(Q:PV->Prop)(a:List PV)(M:Mem):oC res Q a M=f7 res a M fun vs=>dJ (fG 0 M (ppack vs)) Q ⟨0⟩:=by unfold dJ;rfl
theorem V1(a:List PV)(M:Mem)(K:List PV->Prop):f7 [] a M K=K []:=(rfl)
theorem V0(t:Nat)(rs:List ARes)(a:List PV)(M:Mem)(K:List PV->Prop):f7 (.tmp t::rs) a M K=f7 rs a M fun vs=>K (ptget a t::vs):=(rfl)
theorem OP(t:Nat)(rs:List ARes)(a:List PV)(M:Mem)(K:List PV->Prop):f7 (.cell t::rs) a M K=C0 (ptget a t) M (fun v _=>f7 rs a M fun vs=>K (v::vs)) ⟨0⟩:=by unfold C0;rfl
theorem J6(t n:Nat)(rs:List ARes)(a:List PV)(M:Mem)(K:List PV->Prop):f7 (.cells t n::rs) a M K=tW n (ptget a t) M (fun v _=>f7 rs a M fun vs=>K (v::vs)) ⟨0⟩:=by unfold tW;rfl
theorem aT{g:FuncId}{F:AFn}(hg:tab g=some (.fn F)){args:List PV}{M:Mem}{K:PV->Mem->Prop}
  (hp:RX tab M.length F.body (ppad args F.ntmps) M (RV F.results K) (RV F.results K) PKNo):SemC tab g args M K:=
 dV hg (JU _ _ hp)
theorem aE{g:FuncId}{F:AFn}(hg:tab g=some (.fn F)){args:List PV}{M:Mem}{K:PV->Mem->Prop}(hb:aC 0 args=true)
  (hp:RX tab 0 F.body (ppad args F.ntmps) [] (oC F.results fun r=>K r M) (oC F.results fun r=>K r M) PKNo):SemC tab g args M K:=
 qJ hb (aT hg hp)
end
def PvWk(r r':PV):Prop:=∀w x,RepV w r x->RepV w r' x
theorem PvWk.refl(r:PV):PvWk r r:=fun _ _ h=>h
theorem PvWk.nils(fl own:Bool)(sz:Nat):PvWk .nils (.sl fl own sz 0 []):=fun w x h=>by rw[cT h];exact .slN
theorem PvWk.sl(fl:Bool)(sz n:Nat)(cs:List PV):PvWk (.sl fl true sz n cs) (.sl false true sz n cs):=fun w x h=>by
 cases h with
 | sl h1 h2 h3 h4 h5 h7 h6=>exact .sl h1 h2 h3 (fun q=>by cases q) h5 (fun q=>by cases q) h6
 | slN=>exact .slN
theorem PvWk.sl0(fl own:Bool)(sz n:Nat)(cs:List PV):PvWk (.sl fl own sz n cs) (.sl true false sz n cs):=fun w x h=>by
 cases h with
 | sl h1 h2 h3 h4 h5 h7 h6=>exact .sl h1 h2 h3 (fun _ q=>by cases q) (fun q=>by cases q) (fun _ q=>by cases q) h6
 | slN=>exact .slN
theorem PvWk.agg{l l':List PV}(hl:l.length=l'.length)(h:∀(i:Nat) (y z:PV),l[i]? =some y->l'[i]? =some z->PvWk y z):PvWk (.agg l) (.agg l'):=fun w x hx=>by
 obtain⟨cs',rfl,hr⟩:=mC hx;refine .agg (by rw[<-hl];exact hr.len) fun i y z h1 h2=>?_;have hi:i<l.length:=by rw[hl];exact aD h1
 exact h i l[i] y (List.getElem?_eq_getElem hi) h1 w z (hr.get i _ _ (List.getElem?_eq_getElem hi) h2)
theorem PvWk.tuple{l l':List PV}(hl:l.length=l'.length)(h:∀(i:Nat) (y z:PV),l[i]? =some y->l'[i]? =some z->PvWk y z):PvWk (.tuple l) (.tuple l'):=fun w x hx=>by
 obtain⟨cs',rfl,hr⟩:=oJ hx;refine .tuple (by rw[<-hl];exact hr.len) fun i y z h1 h2=>?_;have hi:i<l.length:=by rw[hl];exact aD h1
 exact h i l[i] y (List.getElem?_eq_getElem hi) h1 w z (hr.get i _ _ (List.getElem?_eq_getElem hi) h2)
section
variable {tab:FuncId->Option AF}
theorem fS{g:FuncId}{args:List PV}{M:Mem}{K:PV->Mem->Prop}(h:SemC tab g args M fun r M'=>∃r',PvWk r r'/\K r' M'):SemC tab g args M K:=
 fun w hh args' h0 s ha=>iD (h w hh args' h0 s ha) fun v h' ⟨w',r,M',p1,p2,p3,r',p4,p5⟩=>⟨w',r',M',p1,p2,p4 w' v p3,p5⟩
end
abbrev slI(f o:Bool)(k:IntKind)(xs:List Int):PV:= .sl f o 1 xs.length (xs.map (PV.int k))
abbrev slR(f o f' o':Bool)(k:IntKind)(su:List (List Int)):PV:= .sl f o 1 su.length (su.map (slI f' o' k))
abbrev slB(f o:Bool)(xs:List Bool):PV:= .sl f o 1 xs.length (xs.map PV.bool)
theorem KJ(m:Nat):PV.under m .junk=true:=by simp[PV.under]
theorem BA(m:Nat)(k:IntKind)(n:Int):PV.under m (.int k n)=true:=by simp[PV.under]
theorem pM(m:Nat)(b:Bool):PV.under m (.bool b)=true:=by simp[PV.under]
theorem KI(m:Nat):PV.under m .nils=true:=by simp[PV.under]
theorem dQ(m:Nat)(f o:Bool)(sz n:Nat)(k:IntKind)(xs:List Int):PV.under m (.sl f o sz n (xs.map (PV.int k)))=true:=by simp[PV.under,aP]
theorem SC(m:Nat)(f o:Bool)(sz n:Nat)(xs:List Bool):PV.under m (.sl f o sz n (xs.map PV.bool))=true:=by simp only[PV.under];exact dK m _ (fun x=>pM m x) xs
theorem kW(m:Nat)(f o f' o':Bool)(sz n:Nat)(k:IntKind)(su:List (List Int)):PV.under m (.sl f o sz n (su.map (slI f' o' k)))=true:=by simp only[PV.under];exact dK m _ (fun x=>dQ m f' o' 1 _ k x) su
theorem SE(m:Nat)(cs:List PV):PV.under m (.agg cs)=aC m cs:=by simp[PV.under]
theorem FY(m:Nat)(cs:List PV):PV.under m (.tuple cs)=aC m cs:=by simp[PV.under]
theorem SD(m id g o:Nat):PV.under m (.ptr id g o)=decide (id<m):=by simp[PV.under]
theorem A9(m id g sz off n:Nat):PV.under m (.ref id g sz off n)=decide (id<m):=by simp[PV.under]
theorem wN(m:Nat)(fn:Go.Fn)(f c:List PV):PV.under m (.func fn f c)=(aC m f&&aC m c):=by simp[PV.under]
theorem eP(m:Nat):aC m []=true:=by simp[aC]
theorem dX(m:Nat)(v:PV)(l:List PV):aC m (v::l)=(v.under m&&aC m l):=by simp[aC]
def pW(o:Option PObj)(g sz off n:Nat):Option PV:=match o with
 | some (.cells g' _ cs)=>if g'=g/\off+n*sz<=cs.length/\aC 0 cs=true then some (.sl false true sz n (aY cs off (n*sz)))else none
 | _=>none
theorem TG(M:Mem)(id g sz off n:Nat):cC 0 M (.ref id g sz off n)=pW M[id]? g sz off n:=by unfold cC pW;simp only[Nat.not_lt_zero,if_false];all_goals (generalize M[id]? =x;rcases x with _ | o<;>first | rfl | (cases o<;>rfl))
theorem cQ{g ver off n sz:Nat}{cs:List PV}(h1:off+n*sz<=cs.length)(h2:aC 0 cs=true):pW (some (.cells g ver cs)) g sz off n=some (.sl false true sz n (aY cs off (n*sz))):=by unfold pW;simp only;rw[if_pos ⟨trivial,h1,h2⟩]
theorem XU(M:Mem)(k:IntKind)(n:Int):fG 0 M (.int k n)=some (.int k n):=by simp[fG,dD,cC,PV.under]
theorem TA(M:Mem)(b:Bool):fG 0 M (.bool b)=some (.bool b):=by simp[fG,dD,cC,PV.under]
theorem TH(M:Mem)(k:IntKind)(n:Int):cC 0 M (.int k n)=some (.int k n):=by simp[cC,PV.under]
theorem LL(M:Mem)(b:Bool):cC 0 M (.bool b)=some (.bool b):=by simp[cC,PV.under]
theorem LK(M:Mem):cC 0 M .nils=some .nils:=by simp[cC,PV.under]
theorem XY{M:Mem}{f o:Bool}{sz n:Nat}{cs:List PV}(h:aC 0 cs=true):cC 0 M (.sl f o sz n cs)=some (.sl f o sz n cs):=by simp[cC,PV.under,h]
theorem LC(M:Mem)(cs:List PV):fG 0 M (.tuple cs)=(fF 0 M cs).map .tuple:=by simp[fG]
theorem XV(M:Mem)(cs:List PV):fG 0 M (.agg cs)=(dZ 0 M cs).map .agg:=by simp[fG,dD]
theorem aCp{M:Mem}{f o:Bool}{sz n:Nat}{cs:List PV}(h:aC 0 cs=true):fG 0 M (.sl f o sz n cs)=some (.sl f o sz n cs):=by simp[fG,dD,cC,PV.under,h]
theorem aFb(M:Mem)(id g sz off n:Nat):fG 0 M (.ref id g sz off n)=cC 0 M (.ref id g sz off n):=by simp[fG,dD]
theorem S9(M:Mem):fG 0 M .nils=some .nils:=by simp[fG,dD,cC,PV.under]
theorem TF(M:Mem)(cs:List PV):dD 0 M (.agg cs)=(dZ 0 M cs).map .agg:=by simp[dD]
theorem TE(M:Mem)(k:IntKind)(n:Int):dD 0 M (.int k n)=some (.int k n):=by simp[dD,cC,PV.under]
theorem LJ(M:Mem)(b:Bool):dD 0 M (.bool b)=some (.bool b):=by simp[dD,cC,PV.under]
theorem LH(M:Mem):dD 0 M .nils=some .nils:=by simp[dD,cC,PV.under]
theorem XX{M:Mem}{f o:Bool}{sz n:Nat}{cs:List PV}(h:aC 0 cs=true):dD 0 M (.sl f o sz n cs)=some (.sl f o sz n cs):=by simp[dD,cC,PV.under,h]
theorem aCq(M:Mem)(id g sz off n:Nat):dD 0 M (.ref id g sz off n)=cC 0 M (.ref id g sz off n):=by simp[dD]
theorem TB(M:Mem):dZ 0 M []=some []:=(rfl)
def xS(x:Option PV)(l:Option (List PV)):Option (List PV):=match x,l with
 | some x,some xs=>some (x::xs)
 | _,_=>none
theorem LY(x:PV)(l:List PV):xS (some x) (some l)=some (x::l):=(rfl)
theorem LF(M:Mem)(v:PV)(l:List PV):dZ 0 M (v::l)=xS (cC 0 M v) (dZ 0 M l):=by simp only[dZ,xS];all_goals (split<;>simp_all)
theorem LG(M:Mem):fF 0 M []=some []:=(rfl)
theorem HJ(M:Mem)(v:PV)(l:List PV):fF 0 M (v::l)=xS (dD 0 M v) (fF 0 M l):=by simp only[fF,xS];all_goals (split<;>simp_all)
theorem aR(m:Nat)(f o:Bool)(k:IntKind)(su:List (List Int)):aC m (su.map (slI f o k))=true:=dK m _ (fun x=>dQ m f o 1 _ k x) su
theorem bH(m:Nat)(xs:List Bool):aC m (xs.map PV.bool)=true:=dK m _ (fun x=>pM m x) xs
theorem G6{α:Type}(f:α->PV)(xs:List α):aY (xs.map f) 0 xs.length=xs.map f:=aU _ _ (by simp)
theorem JL(f o:Bool)(k:IntKind)(su:List (List Int)):(su.map (slI f o k)).all PV.one=true:=by simp[PV.one]
theorem AP(xs:List Bool):(xs.map PV.bool).all PV.one=true:=by simp[PV.one]
attribute [irreducible] RV oC PKNo
section
variable {tab:FuncId->Option AF} {m:Nat} {c:AC} {Qn Qr:List PV->Mem->Prop} {Qe:Nat->List PV->Mem->Prop}
theorem bA{a b:List PV}{M N:Mem}(h:bQ tab m c b N Qn Qr Qe)(hw:PWeak a b)(hM:M=N):bQ tab m c a M Qn Qr Qe:=by subst hM;exact aG h hw
structure GStep (m:Nat) (a:List PV) (M:Mem) (b:List PV) (N:Mem):Prop where
 len:m<=M.length->m<=N.length
 go:∀(w:PWd) (hh:H) (a':List AV),w.id0<=m->m<=M.length->PSt w hh M->RepL w a a'->∃w',PStp m w hh M w' hh N/\PSt w' hh N/\RepL w' b a'
theorem bB{a b:List PV}{M N:Mem}(g:GStep m a M b N)(h:bQ tab m c b N Qn Qr Qe):bQ tab m c a M Qn Qr Qe:=by intro w hh a' h0 hm s ha;obtain⟨w',t,s',ha'⟩:=g.go w hh a' h0 hm s ha;exact gS (h w' hh a' (by rw[t.le.id0];exact h0) (g.len hm) s' ha') (fun _ _ q=>q.trans t) (fun _ _ q=>q.trans t) (fun _ _ _ q=>q.trans t)
theorem GStep.trans{a b d:List PV}{M N O:Mem}(g:GStep m a M b N)(k:GStep m b N d O):GStep m a M d O:=
 ⟨fun h=>k.len (g.len h),fun w hh a' h0 hm s ha=>by obtain⟨w1,t1,s1,a1⟩:=g.go w hh a' h0 hm s ha;obtain⟨w2,t2,s2,a2⟩:=k.go w1 hh a' (by rw[t1.le.id0];exact h0) (g.len hm) s1 a1;exact⟨w2,t1.trans t2 (Nat.le_refl _),s2,a2⟩⟩
def Gh(m:Nat)(Q:List PV->Mem->Prop)(a:List PV)(M:Mem):Prop:=∃b N,GStep m a M b N/\Q b N
theorem Gh.same{Q:List PV->Mem->Prop}{a:List PV}{M:Mem}(h:Q a M):Gh m Q a M:=
 ⟨a,M,⟨fun h=>h,fun w hh a' h0 hm s ha=>⟨w,PStp.refl hm w hh,s,ha⟩⟩,h⟩
theorem Gh.step{Q:List PV->Mem->Prop}{a b:List PV}{M N:Mem}(g:GStep m a M b N)(h:Gh m Q b N):Gh m Q a M:=by obtain⟨d,O,k,hq⟩:=h;exact⟨d,O,g.trans k,hq⟩
theorem aBW{w:PWd}{h:H}{M:Mem}(h0:w.id0<=m){Q:List PV->Mem->Prop}{a':List AV}{h':H}(hl:Lf m w h M (Gh m Q) a' h'):Lf m w h M Q a' h':=by obtain⟨w1,a1,M1,t1,s1,r1,b,N,g,hq⟩:=hl;obtain⟨w2,t2,s2,r2⟩:=g.go w1 h' a' (by rw[t1.le.id0];exact h0) t1.len s1 r1;exact⟨w2,b,N,t1.trans t2 (Nat.le_refl _),s2,r2,hq⟩
theorem aDZ{a:List PV}{M:Mem}(h:bQ tab m c a M (Gh m Qn) (Gh m Qr) (fun i=>Gh m (Qe i))):bQ tab m c a M Qn Qr Qe:=
 fun w hh a' h0 hm s ha=>gS (h w hh a' h0 hm s ha) (fun _ _ q=>aBW h0 q) (fun _ _ q=>aBW h0 q) (fun _ _ _ q=>aBW h0 q)
theorem GStep.nil{a b:List PV}{M N:Mem}(t sz:Nat)(ht:ptget a t= .nils)(hb:ptset a t (.ref M.length 0 sz 0 0)=b)(hN:M++[.cells 0 0 []]=N):GStep m a M b N:=by
 subst hb hN;refine⟨fun hm=>by simp;omega,fun w hh a' h0 hm s ha=>?_⟩;obtain⟨s1,s2⟩:=s.allocNone (v0:=0);refine⟨_,s2.weaken hm,s1,?_⟩;have h1:=ha.tget t;rw[ht]at h1;have h2:=ha.mono s2.le s.env;have h3:=h2.tset t (v:= .ref M.length 0 sz 0 0) (x:=tget a' t) (by
  rw[cT h1];exact .refN (e:=⟨none,0,0⟩) (by show(if _=_ then _ else _)=_;rw[if_pos rfl]) rfl rfl)
 have h4:tset a' t (tget a' t)=a':=by
  have:∀(l:List AV) (t:Nat),tset l t (tget l t)=l:=by
   intro l
   induction l with
   | nil=>intro t;rfl
   | cons x l ih=>intro t;cases t with
    | zero=>rfl
    | succ t=>simp[tset,tget,ih t]
  exact this a' t
 rwa [h4]at h3
theorem PSt.reobj{w:PWd}{h:H}{M:Mem}(s:PSt w h M){id g ver:Nat}{cs cs2:List PV}(hm:M[id]? =some (.cells g ver cs))(hr:∀bcs,RepL w cs bcs->RepL w cs2 bcs):
  PSt w h (M.set id (.cells g ver cs2))/\∀m,m<=M.length->PStp m w h M w h (M.set id (.cells g ver cs2)):=by
 have hid:=aD hm;have live:∀i x,LiveAt w (M.set id (.cells g ver cs2)) i x->LiveAt w M i x:=by
  rintro i x ⟨ob,e',h1,h2,h3,h4⟩;by_cases hi:id=i
  ·subst hi;exact⟨_,e',hm,by simp,h3,h4⟩
  ·rw[List.getElem?_set_ne hi]at h1;exact⟨ob,e',h1,h2,h3,h4⟩
 refine⟨⟨s.imm,?_,s.blk,?_,fun i j x h1 h2=>s.inj i j x (live i x h1) (live j x h2),fun i x h1=>s.sep i x (live i x h1),s.base⟩,fun m hmm=>⟨by simpa using hmm,Le.refl _ _,Nat.le_refl _,fun _ _ _=>rfl,fun i x h1 _=>live i x h1,fun x hx=> .inl hx⟩⟩
 ·intro i e he;simpa using s.env i e he
 ·intro i ob hi;by_cases hid2:id=i
  ·subst hid2;rw[List.getElem?_set_self hid]at hi;cases hi;obtain⟨e,h1,h2,h3⟩:=s.obj id _ hm;refine⟨e,h1,h2,?_⟩
   cases hb:e.blk with
   | none=>rw[hb]at h3;have h3:cs=[]:=h3;subst h3;have:=(hr [] (RepL.nil w)).len;exact List.length_eq_zero_iff.1 (by simpa using this)
   | some b=>rw[hb]at h3;obtain⟨bcs,h4,h5⟩:=h3;exact⟨bcs,h4,hr bcs h5⟩
  ·rw[List.getElem?_set_ne hid2]at hi;exact s.obj i ob hi
theorem GStep.nilbox{a:List PV}{M N:Mem}(id o sz:Nat){g ver:Nat}{cs:List PV}(hM:M[id]? =some (.cells g ver cs))(ho:cs[o]? =some .nils)(hN:M.set id (.cells g ver (cs.set o (.ref M.length 0 sz 0 0)))++[.cells 0 0 []]=N):GStep m a M a N:=by
 subst hN;refine⟨fun hm=>by simp;omega,fun w hh a' h0 hm s ha=>?_⟩;obtain⟨s1,s2⟩:=s.allocNone (v0:=0);have hid:=aD hM;have hM2:(M++[.cells 0 0 []])[id]? =some (.cells g ver cs):=by rw[List.getElem?_append_left hid];exact hM
 obtain⟨s3,s4⟩:=s1.reobj (cs2:=cs.set o (.ref M.length 0 sz 0 0)) hM2 (by
  intro bcs hr;obtain⟨z,hz,hv⟩:=hr.getSome ho;have hz':=cT hv;subst hz';have:=hr.set o (v:= .ref M.length 0 sz 0 0) (x:= .nilslice) (.refN (e:=⟨none,0,0⟩) (by show(if _=_ then _ else _)=_;rw[if_pos rfl]) rfl rfl);have hb:bcs.set o .nilslice=bcs:=by
   apply List.ext_getElem?;intro i;rw[List.getElem?_set];by_cases e:o=i
   ·subst e;rw[if_pos rfl,if_pos (aD hz)];exact hz.symm
   ·rw[if_neg e]
  rwa [hb]at this)
 have he:(M++[PObj.cells 0 0 []]).set id (.cells g ver (cs.set o (.ref M.length 0 sz 0 0)))=M.set id (.cells g ver (cs.set o (.ref M.length 0 sz 0 0)))++[.cells 0 0 []]:=by rw[List.set_append_left _ _ hid]
 rw[he]at s3 s4;exact⟨_,(s2.weaken hm).trans (s4 m (by simp;omega)) (Nat.le_refl _),s3,ha.mono s2.le s.env⟩
def PFrz(id g:Nat)(cs:List PV):List PV->List PV->Prop
 | [],[]=>True
 | x::a,y::b=>(y= .junk\/x=y\/∃sz off n,x= .ref id g sz off n/\off+n*sz<=cs.length/\y= .sl false true sz n (aY cs off (n*sz)))/\PFrz id g cs a b
 | _,_=>False
theorem sJ(id g:Nat)(cs:List PV):PFrz id g cs [] []=True:=(rfl)
theorem V5(id g:Nat)(cs:List PV)(x:PV)(a b:List PV):PFrz id g cs (x::a) (.junk::b)=PFrz id g cs a b:=by simp[PFrz]
theorem o6(id g:Nat)(cs:List PV)(x:PV)(a b:List PV):PFrz id g cs (x::a) (x::b)=PFrz id g cs a b:=by simp[PFrz]
theorem J8{id g sz off n:Nat}{cs:List PV}{y:PV}{a b:List PV}(h1:off+n*sz<=cs.length)(h2:y= .sl false true sz n (aY cs off (n*sz))):PFrz id g cs (.ref id g sz off n::a) (y::b)=PFrz id g cs a b:=by simp only[PFrz,eq_iff_iff,and_iff_right_iff_imp];intro _;exact .inr (.inr ⟨sz,off,n,rfl,h1,h2⟩)
theorem PSt.freeze{w:PWd}{h:H}{M:Mem}(s:PSt w h M){id g ver:Nat}{cs:List PV}(hm:M[id]? =some (.cells g ver cs))(h0:w.id0<=id):
  ∃w',PSt w' h (M.set id .gone)/\(∀m,m<=id->PStp m w h M w' h (M.set id .gone))/\Le M.length w w'/\∀sz off n x,RepV w (.ref id g sz off n) x->off+n*sz<=cs.length->RepV w' (.sl false true sz n (aY cs off (n*sz))) x:=by
 obtain⟨e,h1,h2,h3⟩:=s.cellsAt hm;have hid:=aD hm;rcases h3 with⟨hb,rfl⟩ | ⟨b,bcs,hb,hg,hr,hlv⟩
 ·have live:∀i x,LiveAt w (M.set id .gone) i x->LiveAt w M i x:=by
   rintro i x ⟨ob,e',p1,p2,p3,p4⟩;by_cases hi:id=i
   ·subst hi;rw[List.getElem?_set_self hid]at p1;cases p1;exact absurd rfl p2
   ·rw[List.getElem?_set_ne hi]at p1;exact⟨ob,e',p1,p2,p3,p4⟩
  refine⟨w,⟨s.imm,fun i e' he=>by simpa using s.env i e' he,s.blk,?_,fun i j x q1 q2=>s.inj i j x (live i x q1) (live j x q2),fun i x q1=>s.sep i x (live i x q1),s.base⟩,fun m hmm=>⟨by simp;omega,Le.refl _ _,Nat.le_refl _,fun _ _ _=>rfl,fun i x q1 _=>live i x q1,fun x hx=> .inl hx⟩,Le.refl _ _,?_⟩
  ·intro i ob hi;by_cases hid2:id=i
   ·subst hid2;rw[List.getElem?_set_self hid]at hi;cases hi;trivial
   ·rw[List.getElem?_set_ne hid2]at hi;exact s.obj i ob hi
  ·intro sz off n x hx hl;obtain⟨e2,p1,p2,p3⟩:=s.refAt hm hx;rcases p3 with⟨rfl,rfl,rfl,_,_⟩ | ⟨_,b,_,_,p4,_⟩
   ·simpa [aY]using RepV.slN
   ·rw[h1]at p1;cases p1;rw[hb]at p4;cases p4
 ·let w':=w.withImm b (.cells (e.v0+ver) true bcs)
  have hsep:=s.sep id b hlv;have hl:Le M.length w w':=pR hsep.1;have him:∀x,x≠b->w'.imm x=w.imm x:=fun x hx=>by show(if _=_ then _ else _)=_;rw[if_neg hx]
  have hnew:w'.imm b=some (.cells (e.v0+ver) true bcs):=by show(if _=_ then _ else _)=_;rw[if_pos rfl]
  have live:∀i x,LiveAt w' (M.set id .gone) i x->i≠id/\LiveAt w M i x:=by
   rintro i x ⟨ob,e',p1,p2,p3,p4⟩;by_cases hi:id=i
   ·subst hi;rw[List.getElem?_set_self hid]at p1;cases p1;exact absurd rfl p2
   ·rw[List.getElem?_set_ne hi]at p1;exact⟨fun q=>hi q.symm,ob,e',p1,p2,p3,p4⟩
  refine⟨w',⟨?_,fun i e' he=>by simpa using s.env i e' he,s.blk,?_,fun i j x q1 q2=>s.inj i j x (live i x q1).2 (live j x q2).2,?_,s.base⟩,fun m hmm=>⟨by simp;omega,⟨hl.n0,hl.id0,hl.imm,fun i hi=>hl.env i (by omega)⟩,Nat.le_refl _,fun _ _ _=>rfl,fun i x q1 _=>(live i x q1).2,?_⟩,hl,?_⟩
  ·intro x o hx;by_cases e1:x=b
   ·subst e1;rw[hnew]at hx;cases hx;exact hg
   ·rw[him x e1]at hx;exact s.imm x o hx
  ·intro i ob hi;by_cases hid2:id=i
   ·subst hid2;rw[List.getElem?_set_self hid]at hi;cases hi;trivial
   ·rw[List.getElem?_set_ne hid2]at hi;exact RepO.mono s hl (s.obj i ob hi) (fun e' he=>he) (fun _ _ _ _=>rfl)
  ·intro i x q1;obtain⟨hne,q2⟩:=live i x q1;have:x≠b:=by rintro rfl;exact hne (s.inj i id x q2 hlv)
   exact⟨by rw[him x this];exact(s.sep i x q2).1,(s.sep i x q2).2⟩
  ·intro x hx;by_cases e1:x=b
   ·subst e1;exact .inr (.inr ⟨id,hmm,hlv⟩)
   ·rw[him x e1]at hx;exact .inl hx
  ·intro sz off n x hx hlen;obtain⟨e2,p1,p2,p3⟩:=s.refAt hm hx;rw[h1]at p1;cases p1;rcases p3 with⟨_,_,_,p4,_⟩ | ⟨fl,b2,bcs2,rfl,p4,p5,p6,_⟩
   ·rw[hb]at p4;cases p4
   ·rw[hb]at p4;cases p4;rw[hg]at p5;cases p5;have hl2:(aY cs off (n*sz)).length=n*sz:=by simp[aY];omega
    have hs:=(eI p6 off (n*sz)).mono hl s.env;refine .sl hnew (by rw[hl2,<-p6.len];exact hlen) hl2 (fun q=>by cases q) (fun _=>⟨hsep.2 h0,rfl⟩) (fun q=>by cases q) (fun i y z hy hz=>hs.get i y z hy ?_);rw[List.getElem?_take,if_pos (by have:=aD hy;omega),List.getElem?_drop];exact hz
theorem PFrz.rep{w w':PWd}{M:Mem}{id g:Nat}{cs:List PV}(hl:Le M.length w w')(hd:∀i e,w.env i=some e->i<M.length)(hf:∀sz off n x,RepV w (.ref id g sz off n) x->off+n*sz<=cs.length->RepV w' (.sl false true sz n (aY cs off (n*sz))) x):
  ∀{a b:List PV} {a':List AV},PFrz id g cs a b->RepL w a a'->RepL w' b a'
 | [],[],a',_,h=>⟨h.len,fun i y z q=>by simp at q⟩
 | x::a,y::b,[],_,h=>by have:=h.len;simp at this
 | x::a,y::b,v::a',⟨h1,h2⟩,h=>by
  refine .cons ?_ (PFrz.rep hl hd hf h2 h.tl);rcases h1 with rfl | rfl | ⟨sz,off,n,rfl,q1,rfl⟩
  ·exact .junk _
  ·exact h.hd.mono hl hd
  ·exact hf sz off n v h.hd q1
 | [],_::_,a',hw,h=>hw.elim
 | _::_,[],a',hw,h=>hw.elim
theorem GStep.freeze{a b:List PV}{M N:Mem}(id:Nat){g ver:Nat}{cs:List PV}(hid:m<=id)(hM:M[id]? =some (.cells g ver cs))(hf:PFrz id g cs a b)(hN:M.set id .gone=N):GStep m a M b N:=by subst hN;refine⟨fun hm=>by simpa using hm,fun w hh a' h0 hm s ha=>?_⟩;obtain⟨w',s1,s2,hl,hr⟩:=s.freeze hM (Nat.le_trans h0 hid);exact⟨w',s2 m hid,s1,hf.rep hl s.env hr ha⟩
theorem GStep.drop{a b:List PV}{M N:Mem}(n:Nat)(hn:m<=n)(hl:n<=M.length)(hw:PWeak a b)(ha:aC n b=true)(hM:(M.take n).all (PObj.under n)=true)(hN:M.take n=N):GStep m a M b N:=by subst hN;refine⟨fun hm=>by simp;omega,fun w hh a' h0 hm s hr=>?_⟩;obtain⟨s1,s2⟩:=s.cut hl hM;exact⟨_,(s2 w hh M (PStp.refl (Nat.le_refl _) w hh |>.weaken hl)).weaken hn,s1,(hw.rep hr).low (w:=w) (w':=w.cut hh n M) rfl (kH s n) (fun id hi=>fR hi) ha⟩
end
attribute [irreducible] Gh
set_option maxRecDepth 10000
set_option linter.defProp false
def zj(n:Nat):List PV:=List.replicate n .junk
theorem kK:zj 0=[]:=rfl
theorem kL(n:Nat):zj (n+1)= .junk::zj n:=rfl
theorem U8{n:Nat}(h:n<2^8):(⟨⟨⟨n,h⟩⟩⟩:UInt8)=UInt8.ofNat n:=by apply UInt8.toNat_inj.1;show n=_;simp;omega
theorem AL(l:List UInt8):Array.mk l=List.toArray l:=rfl
def mk(t:Option AFn){x:AFn}(_:t=some x:=by
 conv=>lhs;reduce;simp only[Int.reduceOfNat,Int.reduceNegSucc,U8,UInt8.reduceOfNat,AL]):AFn:=x
theorem aGM(t:Option AFn){x:AFn}(h:t=some x):mk t h=x:=rfl
theorem S5:ppack []= .tuple []:=rfl
theorem S4(a b:PV)(l:List PV):ppack (a::b::l)= .tuple (a::b::l):=rfl
def PP:=(And.intro (And.intro (And.intro (And.intro (And.intro (And.intro (And.intro (And.intro @aD4 @aGj) (And.intro @aD6 (And.intro @VQ @OH))) (And.intro (And.intro @aGi @aD7) (And.intro @aBJ (And.intro @aD5 @aBI)))) (And.intro (And.intro (And.intro @aBR @aBV) (And.intro @V4 (And.intro @aGq @aEe))) (And.intro (And.intro @aEd (And.intro @aGr @aEg)) (And.intro @aEf (And.intro @aBU @V2))))) (And.intro (And.intro (And.intro (And.intro @aD9 @aD8) (And.intro @aBQ (And.intro @aGo @aBP))) (And.intro (And.intro @AY @aEa) (And.intro @OL (And.intro @aBK @J4)))) (And.intro (And.intro (And.intro @aGp @aGn) (And.intro @aBM (And.intro @ON @aHt))) (And.intro (And.intro @OO (And.intro @VT @FG)) (And.intro @aBL (And.intro @FI @aBO)))))) (And.intro (And.intro (And.intro (And.intro (And.intro @VY @FH) (And.intro @AW (And.intro @aBN @VX))) (And.intro (And.intro @OM @aEb) (And.intro @VZ (And.intro @aGm @aGl)))) (And.intro (And.intro (And.intro @aGk @OE) (And.intro @aGu (And.intro @aAJ @mN))) (And.intro (And.intro @uX (And.intro @JF @ND)) (And.intro @AM (And.intro @Nat.add_eq_left @Nat.left_eq_add))))) (And.intro (And.intro (And.intro (And.intro @Nat.succ_ne_self @Nat.one_ne_zero) (And.intro @XZ (And.intro @List.contains_cons.{0} @List.contains_nil.{0}))) (And.intro (And.intro @Bool.or_false @Bool.false_or) (And.intro @Bool.or_true (And.intro @Bool.true_or @aBl)))) (And.intro (And.intro (And.intro @N5 @aBu) (And.intro @NU (And.intro @U5 @NX))) (And.intro (And.intro @VA (And.intro @aDR @aBi)) (And.intro @aDT (And.intro @aBn @VD))))))) (And.intro (And.intro (And.intro (And.intro (And.intro (And.intro @aBo @aBp) (And.intro @aDV (And.intro @U7 @aBh))) (And.intro (And.intro @N2 @U9) (And.intro @NV (And.intro @U3 @aDL)))) (And.intro (And.intro (And.intro @aBc @aBb) (And.intro @VM (And.intro @aDY @aBs))) (And.intro (And.intro @VK (And.intro @VJ @JO)) (And.intro @U4 (And.intro @NY @NZ))))) (And.intro (And.intro (And.intro (And.intro @JP @U6) (And.intro @aDM (And.intro @aDN @aBe))) (And.intro (And.intro @VE @VH) (And.intro @VF (And.intro @VG @E9)))) (And.intro (And.intro (And.intro @FA @FB) (And.intro @N3 (And.intro @JQ @VI))) (And.intro (And.intro @N4 (And.intro @aBE @VP)) (And.intro @aD3 (And.intro @K8 @G7)))))) (And.intro (And.intro (And.intro (And.intro (And.intro @YC @X3) (And.intro @X6 (And.intro @YB @X5))) (And.intro (And.intro @X7 @X8) (And.intro @X9 (And.intro @YA @S8)))) (And.intro (And.intro (And.intro @aCi @aCj) (And.intro @B2 (And.intro @S6 @LY))) (And.intro (And.intro @LA (And.intro @aCm @aCk)) (And.intro @aCl (And.intro @SY @G6))))) (And.intro (And.intro (And.intro (And.intro @List.take_zero.{0} @List.take_succ_cons.{0}) (And.intro @List.drop_succ_cons.{0} (And.intro @List.drop_zero.{0} @List.drop_nil.{0}))) (And.intro (And.intro @List.take_nil.{0} (And.intro @XJ @JL)) (And.intro @AP (And.intro @LQ @HN)))) (And.intro (And.intro (And.intro @HL @TI) (And.intro @LN (And.intro @LO @HM))) (And.intro (And.intro @LR (And.intro @aCx @YJ)) (And.intro @YH (And.intro @LT @HS)))))))) (And.intro (And.intro (And.intro (And.intro (And.intro (And.intro (And.intro @aFd @aCu) (And.intro @aCv (And.intro @YI @sD))) (And.intro (And.intro @aBT @V3) (And.intro @V1 (And.intro @V0 @OP)))) (And.intro (And.intro (And.intro @J6 @KJ) (And.intro @BA (And.intro @pM @KI))) (And.intro (And.intro @dQ (And.intro @SC @kW)) (And.intro @SE (And.intro @FY @SD))))) (And.intro (And.intro (And.intro (And.intro @A9 @wN) (And.intro @eP (And.intro @dX @aP))) (And.intro (And.intro @aR @bH) (And.intro @iF (And.intro @TG @cQ)))) (And.intro (And.intro (And.intro @XU @TA) (And.intro @TH (And.intro @LL @LK))) (And.intro (And.intro @XY (And.intro @LC @XV)) (And.intro @aCp (And.intro @aFb @S9)))))) (And.intro (And.intro (And.intro (And.intro (And.intro @TF @TE) (And.intro @LJ (And.intro @LH @XX))) (And.intro (And.intro @aCq @TB) (And.intro @LF (And.intro @LG @HJ)))) (And.intro (And.intro (And.intro @List.length_cons.{0} @List.length_nil.{0}) (And.intro @List.length_append.{0} (And.intro @List.length_replicate.{0} @List.length_set.{0}))) (And.intro (And.intro @List.length_map.{0,0} (And.intro @List.cons_append.{0} @List.nil_append.{0})) (And.intro @List.append_nil.{0} (And.intro @List.map_cons.{0,0} @List.map_nil.{0,0}))))) (And.intro (And.intro (And.intro (And.intro @List.map_append.{0,0} @List.all_cons.{0}) (And.intro @List.all_nil.{0} (And.intro @List.all_append.{0} @List.set_cons_zero.{0}))) (And.intro (And.intro @List.set_cons_succ.{0} (And.intro @List.getElem?_cons_zero.{0} @List.getElem?_cons_succ.{0})) (And.intro @List.getElem?_map.{0,0} (And.intro @List.getElem?_nil.{0} @Option.map_some.{0,0})))) (And.intro (And.intro (And.intro @Option.map_none.{0,0} @Nat.zero_add) (And.intro @Nat.add_zero (And.intro @Nat.mul_one @Nat.one_mul))) (And.intro (And.intro @Nat.zero_mul (And.intro @Nat.le_refl @Nat.not_lt_zero)) (And.intro @Nat.zero_lt_succ (And.intro @Nat.lt_add_one @Int.cast_ofNat_Int))))))) (And.intro (And.intro (And.intro (And.intro (And.intro (And.intro @Int.toNat_natCast @Int.toNat_zero) (And.intro @ite_true.{1} (And.intro @ite_false.{1} @if_true.{1}))) (And.intro (And.intro @if_false.{1} @Bool.false_eq_true) (And.intro @decide_true (And.intro @decide_false @decide_eq_true_eq)))) (And.intro (And.intro (And.intro @Bool.not_true @Bool.not_false) (And.intro @Bool.and_true (And.intro @Bool.true_and @Bool.and_false))) (And.intro (And.intro @Bool.false_and (And.intro @Bool.and_self @beq_self_eq_true.{0})) (And.intro @ne_eq.{1} (And.intro @not_true_eq_false @not_false_eq_true))))) (And.intro (And.intro (And.intro (And.intro @true_and @and_true) (And.intro @and_self (And.intro @false_and @and_false))) (And.intro (And.intro @true_or @or_true) (And.intro @false_or (And.intro @or_false @or_self)))) (And.intro (And.intro (And.intro @Option.getD_none.{0} @Option.getD_some.{0}) (And.intro @Option.isSome_none.{0} (And.intro @Option.isSome_some.{0} @gt_iff_lt.{0}))) (And.intro (And.intro @ge_iff_le.{0} (And.intro @pput.eq_1 @pput.eq_2)) (And.intro @ptset.eq_1 (And.intro @ptset.eq_2 @ptset.eq_3)))))) (And.intro (And.intro (And.intro (And.intro (And.intro @ptget.eq_1 @ptget.eq_2) (And.intro @ptget.eq_3 (And.intro @pev.eq_1 @pev.eq_2))) (And.intro (And.intro @ofAV.eq_1 @ofAV.eq_2) (And.intro @ofAV.eq_3 (And.intro @ofAV.eq_4 @ofAV.eq_5)))) (And.intro (And.intro (And.intro @ofAV.eq_6 @ofAV.eq_7) (And.intro @ofAV.eq_8 (And.intro @ofAV.eq_9 @ofAV.eq_10))) (And.intro (And.intro @ofAV.eq_11 (And.intro @ofAV.eq_12 @ofAV1.eq_1)) (And.intro @ofAV1.eq_2 (And.intro @ofAV1.eq_3 @ofAV1.eq_4))))) (And.intro (And.intro (And.intro (And.intro @ofAV1.eq_5 @ofAV1.eq_6) (And.intro @ofAV1.eq_7 (And.intro @ofAV1.eq_8 @ofAV1.eq_9))) (And.intro (And.intro @ppad.eq_1 (And.intro @pfill.eq_1 @pfill.eq_2)) (And.intro @PKNo.eq_1 (And.intro @ppack.eq_1 @S5)))) (And.intro (And.intro (And.intro @S4 @PObj.under.eq_1) (And.intro @PObj.under.eq_2 (And.intro @List.replicate.eq_1.{0} @List.replicate.eq_2.{0}))) (And.intro (And.intro @kK (And.intro @kL @aGM)) (And.intro @pchk.eq_1 (And.intro @pold.eq_1 @AO.effect.eq_def)))))))))
def PW:=And.intro @VS (And.intro @OJ (And.intro @OI (And.intro @Int.cast_ofNat_Int (And.intro @List.length_append.{0} (And.intro @List.length_cons.{0} (And.intro @List.length_nil.{0} (And.intro @Nat.zero_add (And.intro @kK (And.intro @kL (And.intro @List.cons_append.{0} @List.nil_append.{0}))))))))))
end Go.Am

