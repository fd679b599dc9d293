/- The pure machine: its rules as equations for the simplifier, and what goes with it. -/
import Derived.Test.YtapbgleednkimaaGreatDoorPmS
set_option linter.unusedVariables false
set_option linter.unusedSimpArgs false
namespace Go.Am
structure KTag {α:Sort _} (k:α):Type where
 n:Nat
structure QTag (A B:Prop):Type where
 n:Nat
def rB (v:PV) (k:IntKind->Int->Prop) (t:KTag k):Prop:=uL v k
def DC (v:PV) (k:Bool->Prop) (t:KTag k):Prop:=JK v k
def FB (v:PV) (k:List PV->Prop) (t:KTag k):Prop:=MQ v k
def aAX (v:PV) (k:List PV->Prop) (t:KTag k):Prop:=aCX v k
def ZOb (o:Option PObj) (g:Nat) (k:Nat->List PV->Prop) (t:KTag k):Prop:=QOb o g k
def gB {α:Type} (o:Option α) (k:α->Prop) (t:KTag k):Prop:=iT o k
def X6 (v:PV) (M:Mem) (k:PV->Prop) (t:KTag k):Prop:=aCZ v M k
def aA4 (size:Nat) (v i:PV) (M:Mem) (k:PV->Prop) (t:KTag k):Prop:=aC1 size v i M k
def OY (len size:Nat) (v i:PV) (M:Mem) (k:PV->Prop) (t:KTag k):Prop:=YO len size v i M k
def aA6 (off:Nat) (v:PV) (M:Mem) (k:PV->Prop) (t:KTag k):Prop:=aC2 off v M k
def DB (v:PV) (M:Mem) (k:PV->List Nat->Prop) (t:KTag k):Prop:=JH v M k
def uI (n:Nat) (v:PV) (M:Mem) (k:PV->List Nat->Prop) (t:KTag k):Prop:=AJ n v M k
def L8 (n:Nat) (p x:PV) (M:Mem) (k:Mem->List Nat->Prop) (t:KTag k):Prop:=MM n p x M k
def JA (size:Nat) (x:PV) (M:Mem) (k:List PV->Nat->Prop) (t:KTag k):Prop:=JF size x M k
def YD (size bytes:Nat) (s x:PV) (M:Mem) (K:PV->Mem->List Nat->List Nat->Prop) (t:KTag K):Prop:=YQ size bytes s x M K
def wA (a:List PV) (x:Option AR) (k:Option Int->Prop) (t:KTag k):Prop:=BJ a x k
def AB (size:Nat) (v:PV) (l r m:Option Int) (M:Mem) (k:PV->Prop) (t:KTag k):Prop:=MN size v l r m M k
def q9 (v:PV) (M:Mem) (k:Prop) (t:KTag k):Prop:=AH v M k
def rA (kd:Nat) (x y:PV) (M:Mem) (k:Bool->Prop) (t:KTag k):Prop:=JG kd x y M k
def iL (v:PV) (want:Bool) (A B:Prop) (t:QTag A B):Prop:=lZ v want A B
def oR (v:PV) (A B:Prop) (t:QTag A B):Prop:=JI v A B
def QIf (p A B:Prop) (t:QTag A B):Prop:=(p->A)/\(¬p->B)
theorem QIf.intro {p A B:Prop} {t:QTag A B} (h1:p->A) (h2:¬p->B):QIf p A B t:=⟨h1,h2⟩
theorem YN (A B:Prop) (t:QTag A B):QIf True A B t=A:=by simp[QIf]
theorem SO (A B:Prop) (t:QTag A B):QIf False A B t=B:=by simp[QIf]
theorem aBb (p A B:Prop) (t:QTag A B):QIf (¬p) A B t=QIf p B A ⟨0⟩:=by
 apply propext
 constructor
 ·rintro⟨h1,h2⟩;exact⟨fun h=>h2 (fun h'=>h' h),h1⟩
 ·rintro⟨h1,h2⟩;exact⟨h2,fun h=>h1 (Classical.byContradiction h)⟩
theorem X7 (b:IntKind) (o:Int) (k:IntKind->Int->Prop) (t:KTag k):rB (.int b o) k t=k b o:=by simp[rB,uL,and_assoc]
theorem MF (b:Bool) (k:Bool->Prop) (t:KTag k):DC (.bool b) k t=k b:=by simp[DC,JK]
theorem YE (b:List PV) (k:List PV->Prop) (t:KTag k):FB (.agg b) k t=k b:=by simp[FB,MQ]
theorem L6 (b:List PV) (k:List PV->Prop) (t:KTag k):aAX (.tuple b) k t=k b:=by simp[aAX,aCX]
theorem R9 (g ver:Nat) (cs:List PV) (k:Nat->List PV->Prop) (t:KTag k):ZOb (some (.cells g ver cs)) g k t=k ver cs:=by
 apply propext
 constructor
 ·rintro⟨_,_,e,h⟩;cases e;exact h
 ·intro h;exact⟨_,_,rfl,h⟩
theorem L9 {α:Type} (x:α) (k:α->Prop) (t:KTag k):gB (some x) k t=k x:=by simp[gB,iT]
theorem SD (M:Mem) (k:PV->Prop) (t:KTag k):X6 .nils M k t=k (p64 0):=(rfl)
theorem aA1 (fl own:Bool) (sz n:Nat) (cs:List PV) (M:Mem) (k:PV->Prop) (t:KTag k):X6 (.sl fl own sz n cs) M k t=k (p64 n):=(rfl)
theorem X4 (id g sz off n:Nat) (M:Mem) (k:PV->Prop) (t:KTag k):X6 (.ref id g sz off n) M k t=ZOb M[id]? g (fun _ _=>k (p64 n)) ⟨0⟩:=(rfl)
theorem aA3 (size:Nat) (fl own:Bool) (sz n:Nat) (cs:List PV) (i:PV) (M:Mem) (k:PV->Prop) (t:KTag k):aA4 size (.sl fl own sz n cs) i M k t=rB i (fun _ j=>(sz=size/\0<=j/\j<n)/\k (.cp cs (j.toNat*size))) ⟨0⟩:=(rfl)
theorem X8 (size id g sz off n:Nat) (i:PV) (M:Mem) (k:PV->Prop) (t:KTag k):aA4 size (.ref id g sz off n) i M k t=ZOb M[id]? g (fun _ _=>rB i (fun _ j=>(sz=size/\0<=j/\j<n)/\k (.ptr id g (off+j.toNat*size))) ⟨0⟩) ⟨0⟩:=(rfl)
theorem SE (len size id g o:Nat) (i:PV) (M:Mem) (k:PV->Prop) (t:KTag k):OY len size (.ptr id g o) i M k t=ZOb M[id]? g (fun _ _=>rB i (fun _ j=>(0<=j/\j<len)/\k (.ptr id g (o+j.toNat*size))) ⟨0⟩) ⟨0⟩:=(rfl)
theorem X9 (len size:Nat) (cs:List PV) (o:Nat) (i:PV) (M:Mem) (k:PV->Prop) (t:KTag k):OY len size (.cp cs o) i M k t=rB i (fun _ j=>(0<=j/\j<len)/\k (.cp cs (o+j.toNat*size))) ⟨0⟩:=(rfl)
theorem YA (off id g o:Nat) (M:Mem) (k:PV->Prop) (t:KTag k):aA6 off (.ptr id g o) M k t=ZOb M[id]? g (fun _ _=>k (.ptr id g (o+off))) ⟨0⟩:=(rfl)
theorem aA5 (off:Nat) (cs:List PV) (o:Nat) (M:Mem) (k:PV->Prop) (t:KTag k):aA6 off (.cp cs o) M k t=k (.cp cs (o+off)):=(rfl)
theorem SB (id g o:Nat) (M:Mem) (k:PV->List Nat->Prop) (t:KTag k):DB (.ptr id g o) M k t=ZOb M[id]? g (fun _ cs=>gB cs[o]? (fun x=>k x [id]) ⟨0⟩) ⟨0⟩:=(rfl)
theorem X3 (cs:List PV) (o:Nat) (M:Mem) (k:PV->List Nat->Prop) (t:KTag k):DB (.cp cs o) M k t=gB cs[o]? (fun x=>k x []) ⟨0⟩:=(rfl)
theorem MC (n id g o:Nat) (M:Mem) (k:PV->List Nat->Prop) (t:KTag k):uI n (.ptr id g o) M k t=ZOb M[id]? g (fun _ cs=>o+n<=cs.length/\k (.agg (dW cs o n)) [id]) ⟨0⟩:=(rfl)
theorem SC (n:Nat) (cs:List PV) (o:Nat) (M:Mem) (k:PV->List Nat->Prop) (t:KTag k):uI n (.cp cs o) M k t=(o+n<=cs.length/\k (.agg (dW cs o n)) []):=(rfl)
theorem L7 (n id g o:Nat) (x:PV) (M:Mem) (k:Mem->List Nat->Prop) (t:KTag k):L8 n (.ptr id g o) x M k t=ZOb M[id]? g (fun ver cs=>((eQ x).length=n/\o+n<=cs.length/\(eQ x).all PV.one=true)/\k (M.set id (.cells g (ver+1) (mC cs o (eQ x)))) [id]) ⟨0⟩:=(rfl)
theorem R7 (size:Nat) (M:Mem) (k:List PV->Nat->Prop) (t:KTag k):JA size .nils M k t=k [] 0:=(rfl)
theorem aAY (size:Nat) (fl own:Bool) (sz n:Nat) (cs:List PV) (M:Mem) (k:List PV->Nat->Prop) (t:KTag k):JA size (.sl fl own sz n cs) M k t=(sz=size/\k cs n):=(rfl)
theorem XY (size id g sz off n:Nat) (M:Mem) (k:List PV->Nat->Prop) (t:KTag k):JA size (.ref id g sz off n) M k t=ZOb M[id]? g (fun _ cs=>(sz=size/\off+n*size<=cs.length)/\k (dW cs off (n*size)) n) ⟨0⟩:=(rfl)
theorem XX (size:Nat) (s:ByteArray) (M:Mem) (k:List PV->Nat->Prop) (t:KTag k):JA size (.str s) M k t=(size=1/\k (s.data.toList.map fun b=> .int .u8 b.toNat) s.size):=(rfl)
theorem SM (size bytes:Nat) (x:PV) (M:Mem) (K:PV->Mem->List Nat->List Nat->Prop) (t:KTag K):YD size bytes .nils x M K t=JA size x M (fun new n=>(n*bytes<=140737488355328/\n<=9223372036854775807/\new.all PV.one=true)/\K (.ref M.length 0 size 0 n) (M++[.cells 0 0 new]) [] []) ⟨0⟩:=(rfl)
theorem aA7 (size bytes:Nat) (fl own:Bool) (sz m:Nat) (cs:List PV) (x:PV) (M:Mem) (K:PV->Mem->List Nat->List Nat->Prop) (t:KTag K):YD size bytes (.sl fl own sz m cs) x M K t=JA size x M (fun new n=>QIf (n=0) (K (.sl fl own sz m cs) M [] []) ((fl=true/\own=true/\sz=size/\(m+n)*bytes<=140737488355328/\m+n<=9223372036854775807/\new.all PV.one=true)/\K (.ref M.length 0 size 0 (m+n)) (M++[.cells 0 0 (cs++new)]) [] []) ⟨0⟩) ⟨0⟩:=by
 show YQ size bytes (.sl fl own sz m cs) x M K=JF size x M _
 unfold YQ
 congr 1
 funext new n
 by_cases h:n=0<;>simp[QIf,h]
theorem YC (size bytes id g sz off m:Nat) (x:PV) (M:Mem) (K:PV->Mem->List Nat->List Nat->Prop) (t:KTag K):YD size bytes (.ref id g sz off m) x M K t=JA size x M (fun new n=>ZOb M[id]? g (fun ver cs=>(sz=size/\off+m*size<=cs.length/\(0<n\/(off=0/\m*size=cs.length))/\(m+n)*bytes<=140737488355328/\m+n<=9223372036854775807/\new.all PV.one=true)/\K (.ref id (g+1) size 0 (m+n)) (M.set id (.cells (g+1) 0 (dW cs off (m*size)++new))) [] [id]) ⟨0⟩) ⟨0⟩:=(rfl)
theorem SL (a:List PV) (k:Option Int->Prop) (t:KTag k):wA a none k t=k none:=(rfl)
theorem SK (a:List PV) (x:AR) (k:Option Int->Prop) (t:KTag k):wA a (some x) k t=rB (pev a x) (fun _ n=>k (some n)) ⟨0⟩:=(rfl)
theorem JB (size:Nat) (l r m:Option Int) (M:Mem) (k:PV->Prop) (t:KTag k):AB size .nils l r m M k t=((l.getD 0=0/\r.getD 0=0/\(m=none\/m=r))/\k .nils):=(rfl)
theorem R8 (size:Nat) (fl own:Bool) (sz n:Nat) (cs:List PV) (l r m:Option Int) (M:Mem) (k:PV->Prop) (t:KTag k):AB size (.sl fl own sz n cs) l r m M k t=((sz=size/\(m=none\/m=r)/\0<=l.getD 0/\l.getD 0<=r.getD n/\r.getD n<=n)/\k (.sl (if own=true then(if r.isSome=true then false else fl) else fl) own sz (r.getD n-l.getD 0).toNat (dW cs ((l.getD 0).toNat*size) ((r.getD n-l.getD 0).toNat*size)))):=(rfl)
theorem MA (size id g sz off n:Nat) (l r m:Option Int) (M:Mem) (k:PV->Prop) (t:KTag k):AB size (.ref id g sz off n) l r m M k t=ZOb M[id]? g (fun _ _=>(sz=size/\(m=none\/m=r)/\0<=l.getD 0/\l.getD 0<=r.getD n/\r.getD n<=n)/\k (.ref id g sz (off+(l.getD 0).toNat*size) (r.getD n-l.getD 0).toNat)) ⟨0⟩:=(rfl)
theorem MB (id g o:Nat) (M:Mem) (k:Prop) (t:KTag k):q9 (.ptr id g o) M k t=ZOb M[id]? g (fun _ _=>k) ⟨0⟩:=(rfl)
theorem JC (f:FuncId) (l c:List PV) (M:Mem) (k:Prop) (t:KTag k):q9 (.func (.func f) l c) M k t=k:=by simp[q9,AH,x8]
theorem SA (cs:List PV) (o:Nat) (M:Mem) (k:Prop) (t:KTag k):q9 (.cp cs o) M k t=k:=by simp[q9,AH,x8]
theorem aAZ (M:Mem) (k:Bool->Prop) (t:KTag k):rA 0 .nils .nils M k t=k true:=(rfl)
theorem aA0 (fl own:Bool) (sz n:Nat) (cs:List PV) (M:Mem) (k:Bool->Prop) (t:KTag k):rA 0 (.sl fl own sz n cs) .nils M k t=QIf (n=0) (k true/\k false) (k false) ⟨0⟩:=by by_cases h:n=0<;>simp[rA,JG,QIf,h]
theorem XZ (id g sz off n:Nat) (M:Mem) (k:Bool->Prop) (t:KTag k):rA 0 (.ref id g sz off n) .nils M k t=ZOb M[id]? g (fun _ _=>QIf (n=0) (k true/\k false) (k false) ⟨0⟩) ⟨0⟩:=by by_cases h:n=0<;>simp[rA,JG,ZOb,QIf,h]
theorem SF (A B:Prop) (t:QTag A B):iL (.bool true) true A B t=A:=by simp[iL,lZ]
theorem SI (A B:Prop) (t:QTag A B):iL (.bool false) false A B t=A:=by simp[iL,lZ]
theorem SG (A B:Prop) (t:QTag A B):iL (.bool true) false A B t=B:=by simp[iL,lZ]
theorem SH (A B:Prop) (t:QTag A B):iL (.bool false) true A B t=B:=by simp[iL,lZ]
theorem E8 (l:List PV) (want:Bool) (A B:Prop) (t:QTag A B):iL (.tuple l) want A B t=B:=by simp[iL,lZ]
theorem E9 (p:Prop) [Decidable p] (A B:Prop) (t:QTag A B):iL (.bool (decide p)) true A B t=QIf p A B ⟨0⟩:=by by_cases hp:p<;>simp[iL,lZ,hp,QIf]
theorem FA (p:Prop) [Decidable p] (A B:Prop) (t:QTag A B):iL (.bool (decide p)) false A B t=QIf p B A ⟨0⟩:=by by_cases hp:p<;>simp[iL,lZ,hp,QIf]
theorem MD (A B:Prop) (t:QTag A B):oR (.bool true) A B t=A:=by simp[oR,JI]
theorem JD (A B:Prop) (t:QTag A B):oR (.bool false) A B t=B:=by simp[oR,JI]
theorem SJ (p:Prop) [Decidable p] (A B:Prop) (t:QTag A B):oR (.bool (decide p)) A B t=QIf p A B ⟨0⟩:=by by_cases hp:p<;>simp[oR,JI,hp,QIf]
theorem ME (p:Prop) [Decidable p] (x y:PV) (A B:Prop) (t:QTag A B):oR (CH (decide p) x y) A B t=QIf p (oR x A B ⟨0⟩) (oR y A B ⟨0⟩) ⟨0⟩:=by by_cases hp:p<;>simp[QIf,CH,hp,oR]
theorem KN (x y:PV):CH true x y=x:=(rfl)
theorem G1 (x y:PV):CH false x y=y:=(rfl)
section
variable (tab:FuncId->Option AF) (m:Nat)
def RX:=PX tab m
def RO:=PO tab
def RD:=PD tab
def RS:=PS tab
def Y1 (y:AC) (Qn Qr:List PV->Mem->Prop) (Qe:Nat->List PV->Mem->Prop) (a:List PV) (M:Mem):Prop:=RX tab m y a M Qn Qr Qe
def FI (sc:List Nat) (x:AC) (Qn Qr:List PV->Mem->Prop) (Qe:Nat->List PV->Mem->Prop) (a:List PV) (M:Mem):Prop:=eT tab m (.loop sc x) a M Qn Qr Qe
def JO (id:Nat) (Qn:List PV->Mem->Prop) (Qe:Nat->List PV->Mem->Prop) (i:Nat) (a:List PV) (M:Mem):Prop:=if i=id then Qn a M else Qe i a M
def O3 (d:Option Nat) (os:List AOper) (a:List PV) (Q:List PV->Mem->Prop) (v:PV) (M:Mem) (rd chg:List Nat):Prop:=RO tab os (pput a d v) M Q
def FH (d:Option Nat) (eff:Bool) (chk:List Nat) (os:List AOper) (i:Nat) (a:List PV) (M:Mem) (log:List PLog) (Q:List PV->Mem->Prop) (v:PV) (M':Mem) (rd chg:List Nat):Prop:=
 kV eff rd chg M log chk=true/\RD tab os (i+1) (pput a d v) M' (⟨i,rd,chg,M,M'.length⟩::log) Q
section
variable (a:List PV) (M:Mem) (Qn Qr:List PV->Mem->Prop) (Qe:Nat->List PV->Mem->Prop)
theorem aBc:RX tab m .skip a M Qn Qr Qe=Qn a M:=(rfl)
theorem aC5:RX tab m .ret a M Qn Qr Qe=Qr a M:=(rfl)
theorem aBe (i:Nat):RX tab m (.exit i) a M Qn Qr Qe=Qe i a M:=(rfl)
theorem SP (os:List AOper):RX tab m (.region os) a M Qn Qr Qe=RO tab os a M Qn:=(rfl)
theorem MR (os:List AOper):RX tab m (.regionD os) a M Qn Qr Qe=RD tab os 0 a M [] Qn:=(rfl)
theorem aC4 (x y:AC):RX tab m (.seq x y) a M Qn Qr Qe=RX tab m x a M (Y1 tab m y Qn Qr Qe) Qr Qe:=(rfl)
theorem aBf (c:AR) (x y:AC):RX tab m (.cond c x y) a M Qn Qr Qe=oR (pev a c) (RX tab m x a M Qn Qr Qe) (RX tab m y a M Qn Qr Qe) ⟨0⟩:=(rfl)
theorem YS (id:Nat) (x:AC):RX tab m (.block id x) a M Qn Qr Qe=RX tab m x a M Qn Qr (JO id Qn Qe):=(rfl)
theorem aBd (sc:List Nat) (x:AC):RX tab m (.loop sc x) a M Qn Qr Qe=eT tab m (.loop sc x) a M Qn Qr Qe:=(rfl)
theorem YR (f:AR) (ps:List Nat) (asg body:AC):RX tab m (.rangeFunc f ps asg body) a M Qn Qr Qe=eT tab m (.rangeFunc f ps asg body) a M Qn Qr Qe:=(rfl)
theorem Y0 (y:AC):Y1 tab m y Qn Qr Qe a M=RX tab m y a M Qn Qr Qe:=(rfl)
theorem SZ (sc:List Nat) (x:AC):FI tab m sc x Qn Qr Qe a M=eT tab m (.loop sc x) a M Qn Qr Qe:=(rfl)
theorem Y4 (id i:Nat):JO id Qn Qe i a M=if i=id then Qn a M else Qe i a M:=(rfl)
end
section
variable (a:List PV) (M:Mem) (Q:List PV->Mem->Prop)
theorem aDc:RO tab [] a M Q=Q a M:=(rfl)
theorem aBl (d:Option Nat) (o:AO) (chk:List Nat) (os:List AOper):RO tab (⟨d,o,none,chk⟩::os) a M Q=RS tab o a M (O3 tab d os a Q):=(rfl)
theorem aBk (d:Option Nat) (o:AO) (t:Nat) (want:Bool) (chk:List Nat) (os:List AOper):RO tab (⟨d,o,some (t,want),chk⟩::os) a M Q=iL (ptget a t) want (RS tab o a M (O3 tab d os a Q)) (RO tab os (pput a d (.tuple [])) M Q) ⟨0⟩:=(rfl)
theorem aDd (i:Nat) (log:List PLog):RD tab [] i a M log Q=Q a M:=(rfl)
theorem aBn (d:Option Nat) (o:AO) (chk:List Nat) (os:List AOper) (i:Nat) (log:List PLog):RD tab (⟨d,o,none,chk⟩::os) i a M log Q=RS tab o a M (FH tab d o.effect chk os i a M log Q):=(rfl)
theorem aBm (d:Option Nat) (o:AO) (t:Nat) (want:Bool) (chk:List Nat) (os:List AOper) (i:Nat) (log:List PLog):RD tab (⟨d,o,some (t,want),chk⟩::os) i a M log Q=iL (ptget a t) want (RS tab o a M (FH tab d o.effect chk os i a M log Q)) (RD tab os (i+1) (pput a d (.tuple [])) M log Q) ⟨0⟩:=(rfl)
theorem Y3 (d:Option Nat) (os:List AOper) (v:PV) (rd chg:List Nat):O3 tab d os a Q v M rd chg=RO tab os (pput a d v) M Q:=(rfl)
theorem SX (d:Option Nat) (eff:Bool) (chk:List Nat) (os:List AOper) (i:Nat) (log:List PLog) (v:PV) (M':Mem) (rd chg:List Nat):
  FH tab d eff chk os i a M log Q v M' rd chg=(kV eff rd chg M log chk=true/\RD tab os (i+1) (pput a d v) M' (⟨i,rd,chg,M,M'.length⟩::log) Q):=(rfl)
end
section
variable (a:List PV) (M:Mem) (K:PV->Mem->List Nat->List Nat->Prop)
theorem aBh (x:AR):RS tab (.move x) a M K=K (pev a x) M [] []:=(rfl)
theorem aBg (c x y:AR):RS tab (.pick c x y) a M K=DC (pev a c) (fun b=>K (CH b (pev a x) (pev a y)) M [] []) ⟨0⟩:=(rfl)
theorem YZ (cs:List AV):RS tab (.alloc cs) a M K=K (.ptr M.length 0 0) (M++[.cells 0 0 (cs.map ofAV1)]) [] []:=(rfl)
theorem aDa (x:AR):RS tab (.box x) a M K=((eQ (pev a x)).all PV.one=true/\K (.ptr M.length 0 0) (M++[.cells 0 0 (eQ (pev a x))]) [] []):=(rfl)
theorem YY (z:List AV) (ps:List (Nat×Nat×AR)):RS tab (.build z ps) a M K=gB (pfill a (z.map ofAV1) ps) (fun cs=>K (.agg cs) M [] []) ⟨0⟩:=(rfl)
theorem BL (size len:Nat) (z:List AV) (ps:List (Nat×Nat×AR)):RS tab (.buildSlice size len z ps) a M K=((z.length=size/\0<size)/\gB (pfill a (fF len (z.map ofAV1)) ps) (fun cs=>K (.sl true true size len cs) M [] []) ⟨0⟩):=(rfl)
theorem aBi (x:AR):RS tab (.load x) a M K=DB (pev a x) M (fun v rd=>K v M rd []) ⟨0⟩:=(rfl)
theorem MU (n:Nat) (x:AR):RS tab (.loadAgg n x) a M K=uI n (pev a x) M (fun v rd=>K v M rd []) ⟨0⟩:=(rfl)
theorem YT (n:Nat) (p x:AR):RS tab (.store n p x) a M K=L8 n (pev a p) (pev a x) M (fun M' chg=>K (.tuple []) M' [] chg) ⟨0⟩:=(rfl)
theorem JM (x:AR):RS tab (.nilCheck x) a M K=q9 (pev a x) M (K (pev a x) M [] []) ⟨0⟩:=(rfl)
theorem aDb (op:BinOp) (x y:AR):RS tab (.bin op x y) a M K=gB (eI op (pev a x) (pev a y)) (fun v=>K v M [] []) ⟨0⟩:=(rfl)
theorem aC9 (neg:Bool) (x y:AR):RS tab (.eqB neg x y) a M K=DC (pev a x) (fun p=>DC (pev a y) (fun q=>K (.bool (if neg=true then !(p==q) else p==q)) M [] []) ⟨0⟩) ⟨0⟩:=(rfl)
theorem YV (kd:Nat) (neg:Bool) (x y:AR):RS tab (.isNil kd neg x y) a M K=rA kd (pev a x) (pev a y) M (fun b=>K (.bool (if neg=true then !b else b)) M [] []) ⟨0⟩:=(rfl)
theorem MW (neg:Bool) (T:List (Option IntKind)) (x y:AR):RS tab (.eqCells neg T x y) a M K=FB (pev a x) (fun p=>FB (pev a y) (fun q=>gB (o5 T p q) (fun b=>K (.bool (if neg=true then !b else b)) M [] []) ⟨0⟩) ⟨0⟩) ⟨0⟩:=(rfl)
theorem aDZ (op:UnOp) (x:AR):RS tab (.un op x) a M K=gB (pun op (pev a x)) (fun v=>K v M [] []) ⟨0⟩:=(rfl)
theorem MX (k:IntKind) (x:AR):RS tab (.convInt k x) a M K=rB (pev a x) (fun _ n=>K (.int k (k.wrap n)) M [] []) ⟨0⟩:=(rfl)
theorem SR (g:FuncId) (f c:List AR):RS tab (.mkFunc (.func g) f c) a M K=K (.func (.func g) (f.map (pev a)) (c.map (pev a))) M [] []:=by simp[RS,PS]
theorem FE (bytes:Nat) (z:List AV) (n c:AR):RS tab (.makeSlice bytes z n c) a M K=rB (pev a n) (fun kv l=>rB (pev a c) (fun kw m=>(kv= .i64/\kw= .i64/\0<=l/\l<=m/\m*bytes<=140737488355328/\m<=9223372036854775807)/\K (.ref M.length 0 z.length 0 l.toNat) (M++[.cells 0 0 (fF l.toNat (z.map ofAV1))]) [] []) ⟨0⟩) ⟨0⟩:=(rfl)
theorem YU (size:Nat) (x:AR) (lo hi mx:Option AR):RS tab (.slice size x lo hi mx) a M K=wA a lo (fun l=>wA a hi (fun r=>wA a mx (fun m=>AB size (pev a x) l r m M (fun v=>K v M [] []) ⟨0⟩) ⟨0⟩) ⟨0⟩) ⟨0⟩:=(rfl)
theorem FG (off:Nat) (x:AR):RS tab (.fieldAddr off x) a M K=aA6 off (pev a x) M (fun v=>K v M [] []) ⟨0⟩:=(rfl)
theorem YX (off:Nat) (x:AR):RS tab (.field off none x) a M K=FB (pev a x) (fun cs=>gB cs[off]? (fun v=>K v M [] []) ⟨0⟩) ⟨0⟩:=(rfl)
theorem ST (off n:Nat) (x:AR):RS tab (.field off (some n) x) a M K=FB (pev a x) (fun cs=>off+n<=cs.length/\K (.agg (dW cs off n)) M [] []) ⟨0⟩:=(rfl)
theorem FF (size:Nat) (x i:AR):RS tab (.indexAddr size x i) a M K=aA4 size (pev a x) (pev a i) M (fun v=>K v M [] []) ⟨0⟩:=(rfl)
theorem BK (len size:Nat) (x i:AR):RS tab (.indexAddrA len size x i) a M K=OY len size (pev a x) (pev a i) M (fun v=>K v M [] []) ⟨0⟩:=(rfl)
theorem YW (len size:Nat) (x i:AR):RS tab (.index len size false x i) a M K=FB (pev a x) (fun cs=>rB (pev a i) (fun _ j=>(0<=j/\j<len)/\gB cs[j.toNat*size]? (fun v=>K v M [] []) ⟨0⟩) ⟨0⟩) ⟨0⟩:=by simp only[RS,PS,Bool.false_eq_true,if_false,if_true];rfl
theorem SS (len size:Nat) (x i:AR):RS tab (.index len size true x i) a M K=FB (pev a x) (fun cs=>rB (pev a i) (fun _ j=>(0<=j/\j<len)/\j.toNat*size+size<=cs.length/\K (.agg (dW cs (j.toNat*size) size)) M [] []) ⟨0⟩) ⟨0⟩:=by simp only[RS,PS,Bool.false_eq_true,if_false,if_true];rfl
theorem MV (x:AR) (i:Nat):RS tab (.extract x i) a M K=aAX (pev a x) (fun vs=>gB vs[i]? (fun v=>K v M [] []) ⟨0⟩) ⟨0⟩:=(rfl)
theorem aBj (f:AR) (args:List AR):RS tab (.call f args) a M K=AK tab (pev a f) (args.map (pev a)) M (KPC M K):=(rfl)
theorem SU (size bytes:Nat) (s x:AR):RS tab (.append size bytes s x) a M K=(0<size/\YD size bytes (pev a s) (pev a x) M K ⟨0⟩):=(rfl)
theorem aC8 (x:AR):RS tab (.len x) a M K=X6 (pev a x) M (fun v=>K v M [] []) ⟨0⟩:=(rfl)
theorem aC7 (x:AR) (xs:List AR):RS tab (.max x xs) a M K=gB (G6 (pev a x) (xs.map (pev a))) (fun v=>K v M [] []) ⟨0⟩:=(rfl)
theorem aC6 (x:AR) (xs:List AR):RS tab (.min x xs) a M K=gB (x9 (pev a x) (xs.map (pev a))) (fun v=>K v M [] []) ⟨0⟩:=(rfl)
end
theorem MP (g:FuncId) (first cap args:List PV) (M:Mem) (K:PV->Mem->Prop):AK tab (.func (.func g) first cap) args M K=SemC tab g (first++args++cap) M K:=(rfl)
theorem aDg (M:Mem) (K:PV->Mem->List Nat->List Nat->Prop) (v:PV) (M':Mem):KPC M K v M'=K v M' [] (OO M M'):=(rfl)
end
theorem lF:∀(i:Nat) (M:Mem),eL i M M=[]
 | _,[]=>rfl
 | i,o::M=>by simp[eL,j6,lF (i+1) M]
theorem vO:∀(i:Nat) (M l:Mem),eL i M (M++l)=[]
 | _,[],_=>by simp[eL]
 | i,o::M,l=>by simp[eL,j6,vO (i+1) M l]
theorem W3 (M M':Mem):OO M M'=eL 0 M M':=(rfl)
theorem I2 (i:Nat) (M:Mem):eL i [] M=[]:=by simp[eL]
theorem zQ (i:Nat) (o:PObj) (M M':Mem):eL i (o::M) (o::M')=eL (i+1) M M':=by simp[eL,j6]
theorem qH (i g g' v v':Nat) (cs cs':List PV) (M M':Mem):eL i (.cells g v cs::M) (.cells g' v' cs'::M')=if g=g'/\v=v' then eL (i+1) M M' else i::eL (i+1) M M':=by
 by_cases h:g=g'/\v=v'<;>simp[eL,mW,h]
theorem UL (eff:Bool) (rd chg:List Nat) (M:Mem) (log:List PLog):kV eff rd chg M log []=true:=by simp[kV]
section
variable (k:IntKind) (x y:Int)
theorem UV:eI .add (.int k x) (.int k y)=some (.int k (k.wrap (x+y))):=by simp[eI,eJ,XW,ofAV1]
theorem UM:eI .sub (.int k x) (.int k y)=some (.int k (k.wrap (x-y))):=by simp[eI,eJ,XO,ofAV1]
theorem UP:eI .mul (.int k x) (.int k y)=some (.int k (k.wrap (x*y))):=by simp[eI,eJ,XQ,ofAV1]
theorem UU:eI .eql (.int k x) (.int k y)=some (.bool (decide (x=y))):=by simp[eI,eJ,XV,ofAV1]
theorem UO:eI .neq (.int k x) (.int k y)=some (.bool (decide (x≠y))):=by simp[eI,eJ,XP,ofAV1]
theorem UQ:eI .lss (.int k x) (.int k y)=some (.bool (decide (x<y))):=by simp[eI,eJ,XR,ofAV1]
theorem UR:eI .leq (.int k x) (.int k y)=some (.bool (decide (x<=y))):=by simp[eI,eJ,XS,ofAV1]
theorem US:eI .gtr (.int k x) (.int k y)=some (.bool (decide (y<x))):=by simp[eI,eJ,XT,ofAV1]
theorem UT:eI .geq (.int k x) (.int k y)=some (.bool (decide (y<=x))):=by simp[eI,eJ,XU,ofAV1]
theorem yC (hy:y≠0):eI .quo (.int k x) (.int k y)=some (.int k (k.wrap (x.tdiv y))):=by simp[eI,eJ,gW,eF,fH,hy,ofAV1]
theorem QT:G6 (.int k x) [.int k y]=some (.int k (max x y)):=by
 have:=VL k x y
 simp only[aCo]at this
 simp[G6,eJ,iH,this,ofAV1]
end
theorem ZP (b:Bool):pun .not (.bool b)=some (.bool (!b)):=(rfl)
theorem ZQ (k:IntKind) (x:Int):pun .neg (.int k x)=some (.int k (k.wrap (0-x))):=by simp[pun,eJ,aun,ofAV1]
theorem CG (n:Nat) (c:PV):fF n [c]=List.replicate n c:=by
 induction n with
 | zero=>rfl
 | succ n ih=>simp[fF,ih,List.replicate_succ]
theorem QS (cs:List PV) (o:Nat) (x:PV):mC cs o [x]=cs.set o x:=(rfl)
theorem dQ (cs:List PV) (n:Nat) (h:n=cs.length):dW cs 0 n=cs:=by subst h;simp[dW]
theorem QK (cs:List PV):dW cs 0 cs.length=cs:=by simp[dW]
theorem KP (cs:List PV) (o:Nat) (x y:PV) (l:List PV):mC cs o (x::y::l)=cs.take o++(x::y::l)++cs.drop (o+(x::y::l).length):=(rfl)
theorem ZT (x:PV) (cs:List PV) (n:Nat):dW (x::cs) 0 (n+1)=x::dW cs 0 n:=by simp[dW]
theorem ZR (cs:List PV) (o:Nat):dW cs o 0=[]:=by simp[dW]
theorem ZS (x:PV) (cs:List PV) (o n:Nat):dW (x::cs) (o+1) n=dW cs o n:=by simp[dW]
theorem UC (o n:Nat):dW [] o n=[]:=by simp[dW]
theorem K1 (k:IntKind) (n:Int):eQ (.int k n)=[.int k n]:=(rfl)
theorem HE (b:Bool):eQ (.bool b)=[.bool b]:=(rfl)
theorem HA:eQ .nils=[.nils]:=(rfl)
theorem Q2 (fl own:Bool) (sz n:Nat) (cs:List PV):eQ (.sl fl own sz n cs)=[.sl fl own sz n cs]:=(rfl)
theorem KZ (id g sz off n:Nat):eQ (.ref id g sz off n)=[.ref id g sz off n]:=(rfl)
theorem K0 (id g o:Nat):eQ (.ptr id g o)=[.ptr id g o]:=(rfl)
theorem HD (fn:Go.Fn) (f c:List PV):eQ (.func fn f c)=[.func fn f c]:=(rfl)
theorem K2 (cs:List PV):eQ (.agg cs)=cs:=(rfl)
theorem Z3 (k:IntKind) (n:Int):PV.one (.int k n)=true:=(rfl)
theorem U2 (b:Bool):PV.one (.bool b)=true:=(rfl)
theorem U0:PV.one .nils=true:=(rfl)
theorem K5:PV.one .nilptr=true:=(rfl)
theorem HJ:PV.one .nilfunc=true:=(rfl)
theorem aCe (fl own:Bool) (sz n:Nat) (cs:List PV):PV.one (.sl fl own sz n cs)=true:=(rfl)
theorem Z0 (id g sz off n:Nat):PV.one (.ref id g sz off n)=true:=(rfl)
theorem Z1 (id g o:Nat):PV.one (.ptr id g o)=true:=(rfl)
theorem U1 (fn:Go.Fn) (f c:List PV):PV.one (.func fn f c)=true:=(rfl)
theorem sU (k:IntKind) (xs:List Int):(xs.map (PV.int k)).all PV.one=true:=by simp[PV.one]
theorem JE {tab:FuncId->Option AF} (m:Nat) (c:AC) {a:List PV} {M:Mem} {Qn Qr:List PV->Mem->Prop} {Qe:Nat->List PV->Mem->Prop} (hp:RX tab m c a M Qn Qr Qe):eT tab m c a M Qn Qr Qe:=JL m c hp
theorem SN {tab:FuncId->Option AF} {m:Nat} {sc:List Nat} {x:AC} {a:List PV} {M:Mem} {Qn Qr:List PV->Mem->Prop} {Qe:Nat->List PV->Mem->Prop} (hp:RX tab m x (tP a sc) M (FI tab m sc x Qn Qr Qe) Qr Qe):
  eT tab m (.loop sc x) a M Qn Qr Qe:=MH hp
def PWeak:List PV->List PV->Prop
 | [],[]=>True
 | x::a,y::b=>(y= .junk\/x=y)/\PWeak a b
 | _,_=>False
theorem PWeak.rep {w:PWd} :∀{a b:List PV} {a':List AV},PWeak a b->RepL w a a'->RepL w b a'
 | [],[],a',_,h=>h
 | x::a,y::b,[],_,h=>by have:=h.len;simp at this
 | x::a,y::b,v::a',⟨h1,h2⟩,h=>by
  refine .cons ?_ (PWeak.rep h2 h.tl)
  rcases h1 with rfl | rfl
  ·exact .junk _
  ·exact h.hd
 | [],_::_,a',hw,h=>hw.elim
 | _::_,[],a',hw,h=>hw.elim
theorem dB {tab:FuncId->Option AF} {m:Nat} {c:AC} {a b:List PV} {M:Mem} {Qn Qr:List PV->Mem->Prop} {Qe:Nat->List PV->Mem->Prop} (h:eT tab m c b M Qn Qr Qe) (hw:PWeak a b):eT tab m c a M Qn Qr Qe:=
 fun w hh a' h0 hm s ha=>h w hh a' h0 hm s (hw.rep ha)
theorem SQ:PWeak [] []=True:=(rfl)
theorem MT (x:PV) (a b:List PV):PWeak (x::a) (.junk::b)=PWeak a b:=by simp[PWeak]
theorem MS (x:PV) (a b:List PV):PWeak (x::a) (x::b)=PWeak a b:=by simp[PWeak]
def RH:Nat->List Nat->List PV->Bool
 | _,[],_=>true
 | _,_::_,[]=>false
 | i,s::sc,v::b=>match Nat.beq i s with
  | true=>match v with
   | .junk=>RH (i+1) sc b
   | _=>false
  | false=>RH (i+1) (s::sc) b
theorem xX:∀(a:List PV) (t:Nat),ptget a t= .junk->ptset a t .junk=a
 | [],_,_=>rfl
 | v::a,0,h=>by simp only[ptget]at h;simp[ptset,h]
 | v::a,t+1,h=>by simp only[ptget]at h;simp[ptset,xX a t h]
theorem yV:∀(b:List PV) (i:Nat) (sc:List Nat),RH i sc b=true->∀s∈sc,i<=s/\ptget b (s-i)= .junk
 | b,i,[],_,s,hs=>by cases hs
 | [],i,s0::sc,h,s,hs=>by simp[RH]at h
 | v::b,i,s0::sc,h,s,hs=>by
  unfold RH at h
  split at h
  ·rename_i he
   have he:i=s0:=Nat.eq_of_beq_eq_true he
   split at h
   ·rcases List.mem_cons.1 hs with rfl | hs
    ·subst he;exact⟨Nat.le_refl _,by simp[ptget]⟩
    ·obtain⟨h1,h2⟩:=yV b (i+1) sc h s hs
     refine⟨by omega,?_⟩
     rw[show s-i=(s-(i+1))+1 by omega]
     simpa [ptget] using h2
   ·cases h
  ·obtain⟨h1,h2⟩:=yV b (i+1) (s0::sc) h s hs
   refine⟨by omega,?_⟩
   rw[show s-i=(s-(i+1))+1 by omega]
   simpa [ptget] using h2
theorem uY:∀(sc:List Nat) (b:List PV),(∀s∈sc,ptget b s= .junk)->tP b sc=b
 | [],b,_=>rfl
 | s::sc,b,h=>by
  simp only[tP]
  rw[xX b s (h s (by simp))]
  exact uY sc b fun t ht=>h t (List.mem_cons_of_mem _ ht)
theorem dL {tab:FuncId->Option AF} {m:Nat} {sc:List Nat} {x:AC} {a:List PV} {M:Mem} {Qn Qr:List PV->Mem->Prop} {Qe:Nat->List PV->Mem->Prop} (hj:RH 0 sc a=true) (hp:RX tab m x a M (FI tab m sc x Qn Qr Qe) Qr Qe):
  eT tab m (.loop sc x) a M Qn Qr Qe:=by
 refine SN ?_
 rw[uY sc a fun s hs=>by simpa using (yV a 0 sc hj s hs).2]
 exact hp
theorem jZ {A1:Type} {tab:FuncId->Option AF} {m:Nat} {sc:List Nat} {x:AC} {a:List PV} {M:Mem} {Qn Qr:List PV->Mem->Prop} {Qe:Nat->List PV->Mem->Prop} (I:A1->Prop) (fr:A1->List PV) (mem:A1->Mem) (mea:A1->Nat)
  (z1:A1) (h0:I z1) (hw:PWeak a (fr z1)) (hM:M=mem z1)
  (step:∀(x1:A1),I x1->(∀(y1:A1),I y1->mea y1<mea x1->eT tab m (.loop sc x) (fr y1) (mem y1) Qn Qr Qe)->eT tab m (.loop sc x) (fr x1) (mem x1) Qn Qr Qe):eT tab m (.loop sc x) a M Qn Qr Qe:=by
 subst hM
 refine dB ?_ hw
 have key:∀(k:Nat) (x1:A1),mea x1<k->I x1->eT tab m (.loop sc x) (fr x1) (mem x1) Qn Qr Qe:=by
  intro k
  induction k with
  | zero=>intro x1 h;omega
  | succ k ih=>
   intro x1 h hi
   exact step x1 hi fun y1 hy hm=>ih y1 (by omega) hy
 exact key (mea z1+1) z1 (by omega) h0
theorem jY {A1:Type} {A2:Type} {tab:FuncId->Option AF} {m:Nat} {sc:List Nat} {x:AC} {a:List PV} {M:Mem} {Qn Qr:List PV->Mem->Prop} {Qe:Nat->List PV->Mem->Prop} (I:A1->A2->Prop) (fr:A1->A2->List PV) (mem:A1->A2->Mem) (mea:A1->A2->Nat)
  (z1:A1) (z2:A2) (h0:I z1 z2) (hw:PWeak a (fr z1 z2)) (hM:M=mem z1 z2)
  (step:∀(x1:A1) (x2:A2),I x1 x2->(∀(y1:A1) (y2:A2),I y1 y2->mea y1 y2<mea x1 x2->eT tab m (.loop sc x) (fr y1 y2) (mem y1 y2) Qn Qr Qe)->eT tab m (.loop sc x) (fr x1 x2) (mem x1 x2) Qn Qr Qe):eT tab m (.loop sc x) a M Qn Qr Qe:=by
 subst hM
 refine dB ?_ hw
 have key:∀(k:Nat) (x1:A1) (x2:A2),mea x1 x2<k->I x1 x2->eT tab m (.loop sc x) (fr x1 x2) (mem x1 x2) Qn Qr Qe:=by
  intro k
  induction k with
  | zero=>intro x1 x2 h;omega
  | succ k ih=>
   intro x1 x2 h hi
   exact step x1 x2 hi fun y1 y2 hy hm=>ih y1 y2 (by omega) hy
 exact key (mea z1 z2+1) z1 z2 (by omega) h0
theorem sG {A1:Type} {A2:Type} {A3:Type} {tab:FuncId->Option AF} {m:Nat} {sc:List Nat} {x:AC} {a:List PV} {M:Mem} {Qn Qr:List PV->Mem->Prop} {Qe:Nat->List PV->Mem->Prop} (I:A1->A2->A3->Prop) (fr:A1->A2->A3->List PV) (mem:A1->A2->A3->Mem) (mea:A1->A2->A3->Nat)
  (z1:A1) (z2:A2) (z3:A3) (h0:I z1 z2 z3) (hw:PWeak a (fr z1 z2 z3)) (hM:M=mem z1 z2 z3)
  (step:∀(x1:A1) (x2:A2) (x3:A3),I x1 x2 x3->(∀(y1:A1) (y2:A2) (y3:A3),I y1 y2 y3->mea y1 y2 y3<mea x1 x2 x3->eT tab m (.loop sc x) (fr y1 y2 y3) (mem y1 y2 y3) Qn Qr Qe)->eT tab m (.loop sc x) (fr x1 x2 x3) (mem x1 x2 x3) Qn Qr Qe):eT tab m (.loop sc x) a M Qn Qr Qe:=by
 subst hM
 refine dB ?_ hw
 have key:∀(k:Nat) (x1:A1) (x2:A2) (x3:A3),mea x1 x2 x3<k->I x1 x2 x3->eT tab m (.loop sc x) (fr x1 x2 x3) (mem x1 x2 x3) Qn Qr Qe:=by
  intro k
  induction k with
  | zero=>intro x1 x2 x3 h;omega
  | succ k ih=>
   intro x1 x2 x3 h hi
   exact step x1 x2 x3 hi fun y1 y2 y3 hy hm=>ih y1 y2 y3 (by omega) hy
 exact key (mea z1 z2 z3+1) z1 z2 z3 (by omega) h0
theorem yN {A1:Type} {A2:Type} {A3:Type} {A4:Type} {tab:FuncId->Option AF} {m:Nat} {sc:List Nat} {x:AC} {a:List PV} {M:Mem} {Qn Qr:List PV->Mem->Prop} {Qe:Nat->List PV->Mem->Prop} (I:A1->A2->A3->A4->Prop) (fr:A1->A2->A3->A4->List PV) (mem:A1->A2->A3->A4->Mem) (mea:A1->A2->A3->A4->Nat)
  (z1:A1) (z2:A2) (z3:A3) (z4:A4) (h0:I z1 z2 z3 z4) (hw:PWeak a (fr z1 z2 z3 z4)) (hM:M=mem z1 z2 z3 z4)
  (step:∀(x1:A1) (x2:A2) (x3:A3) (x4:A4),I x1 x2 x3 x4->(∀(y1:A1) (y2:A2) (y3:A3) (y4:A4),I y1 y2 y3 y4->mea y1 y2 y3 y4<mea x1 x2 x3 x4->eT tab m (.loop sc x) (fr y1 y2 y3 y4) (mem y1 y2 y3 y4) Qn Qr Qe)->eT tab m (.loop sc x) (fr x1 x2 x3 x4) (mem x1 x2 x3 x4) Qn Qr Qe):eT tab m (.loop sc x) a M Qn Qr Qe:=by
 subst hM
 refine dB ?_ hw
 have key:∀(k:Nat) (x1:A1) (x2:A2) (x3:A3) (x4:A4),mea x1 x2 x3 x4<k->I x1 x2 x3 x4->eT tab m (.loop sc x) (fr x1 x2 x3 x4) (mem x1 x2 x3 x4) Qn Qr Qe:=by
  intro k
  induction k with
  | zero=>intro x1 x2 x3 x4 h;omega
  | succ k ih=>
   intro x1 x2 x3 x4 h hi
   exact step x1 x2 x3 x4 hi fun y1 y2 y3 y4 hy hm=>ih y1 y2 y3 y4 (by omega) hy
 exact key (mea z1 z2 z3 z4+1) z1 z2 z3 z4 (by omega) h0
theorem VU {A1:Type} {A2:Type} {A3:Type} {A4:Type} {A5:Type} {tab:FuncId->Option AF} {m:Nat} {sc:List Nat} {x:AC} {a:List PV} {M:Mem} {Qn Qr:List PV->Mem->Prop} {Qe:Nat->List PV->Mem->Prop} (I:A1->A2->A3->A4->A5->Prop) (fr:A1->A2->A3->A4->A5->List PV) (mem:A1->A2->A3->A4->A5->Mem) (mea:A1->A2->A3->A4->A5->Nat)
  (z1:A1) (z2:A2) (z3:A3) (z4:A4) (z5:A5) (h0:I z1 z2 z3 z4 z5) (hw:PWeak a (fr z1 z2 z3 z4 z5)) (hM:M=mem z1 z2 z3 z4 z5)
  (step:∀(x1:A1) (x2:A2) (x3:A3) (x4:A4) (x5:A5),I x1 x2 x3 x4 x5->(∀(y1:A1) (y2:A2) (y3:A3) (y4:A4) (y5:A5),I y1 y2 y3 y4 y5->mea y1 y2 y3 y4 y5<mea x1 x2 x3 x4 x5->eT tab m (.loop sc x) (fr y1 y2 y3 y4 y5) (mem y1 y2 y3 y4 y5) Qn Qr Qe)->eT tab m (.loop sc x) (fr x1 x2 x3 x4 x5) (mem x1 x2 x3 x4 x5) Qn Qr Qe):eT tab m (.loop sc x) a M Qn Qr Qe:=by
 subst hM
 refine dB ?_ hw
 have key:∀(k:Nat) (x1:A1) (x2:A2) (x3:A3) (x4:A4) (x5:A5),mea x1 x2 x3 x4 x5<k->I x1 x2 x3 x4 x5->eT tab m (.loop sc x) (fr x1 x2 x3 x4 x5) (mem x1 x2 x3 x4 x5) Qn Qr Qe:=by
  intro k
  induction k with
  | zero=>intro x1 x2 x3 x4 x5 h;omega
  | succ k ih=>
   intro x1 x2 x3 x4 x5 h hi
   exact step x1 x2 x3 x4 x5 hi fun y1 y2 y3 y4 y5 hy hm=>ih y1 y2 y3 y4 y5 (by omega) hy
 exact key (mea z1 z2 z3 z4 z5+1) z1 z2 z3 z4 z5 (by omega) h0
theorem aDG {A1:Type} {A2:Type} {A3:Type} {A4:Type} {A5:Type} {A6:Type} {A7:Type} {tab:FuncId->Option AF} {m:Nat} {sc:List Nat} {x:AC} {a:List PV} {M:Mem} {Qn Qr:List PV->Mem->Prop} {Qe:Nat->List PV->Mem->Prop} (I:A1->A2->A3->A4->A5->A6->A7->Prop) (fr:A1->A2->A3->A4->A5->A6->A7->List PV) (mem:A1->A2->A3->A4->A5->A6->A7->Mem) (mea:A1->A2->A3->A4->A5->A6->A7->Nat)
  (z1:A1) (z2:A2) (z3:A3) (z4:A4) (z5:A5) (z6:A6) (z7:A7) (h0:I z1 z2 z3 z4 z5 z6 z7) (hw:PWeak a (fr z1 z2 z3 z4 z5 z6 z7)) (hM:M=mem z1 z2 z3 z4 z5 z6 z7)
  (step:∀(x1:A1) (x2:A2) (x3:A3) (x4:A4) (x5:A5) (x6:A6) (x7:A7),I x1 x2 x3 x4 x5 x6 x7->(∀(y1:A1) (y2:A2) (y3:A3) (y4:A4) (y5:A5) (y6:A6) (y7:A7),I y1 y2 y3 y4 y5 y6 y7->mea y1 y2 y3 y4 y5 y6 y7<mea x1 x2 x3 x4 x5 x6 x7->eT tab m (.loop sc x) (fr y1 y2 y3 y4 y5 y6 y7) (mem y1 y2 y3 y4 y5 y6 y7) Qn Qr Qe)->eT tab m (.loop sc x) (fr x1 x2 x3 x4 x5 x6 x7) (mem x1 x2 x3 x4 x5 x6 x7) Qn Qr Qe):eT tab m (.loop sc x) a M Qn Qr Qe:=by
 subst hM
 refine dB ?_ hw
 have key:∀(k:Nat) (x1:A1) (x2:A2) (x3:A3) (x4:A4) (x5:A5) (x6:A6) (x7:A7),mea x1 x2 x3 x4 x5 x6 x7<k->I x1 x2 x3 x4 x5 x6 x7->eT tab m (.loop sc x) (fr x1 x2 x3 x4 x5 x6 x7) (mem x1 x2 x3 x4 x5 x6 x7) Qn Qr Qe:=by
  intro k
  induction k with
  | zero=>intro x1 x2 x3 x4 x5 x6 x7 h;omega
  | succ k ih=>
   intro x1 x2 x3 x4 x5 x6 x7 h hi
   exact step x1 x2 x3 x4 x5 x6 x7 hi fun y1 y2 y3 y4 y5 y6 y7 hy hm=>ih y1 y2 y3 y4 y5 y6 y7 (by omega) hy
 exact key (mea z1 z2 z3 z4 z5 z6 z7+1) z1 z2 z3 z4 z5 z6 z7 (by omega) h0
attribute [irreducible] QIf rB DC FB aAX ZOb gB X6 aA4 OY aA6 DB uI L8 JA YD wA AB q9 rA iL oR RX RO RD RS Y1 JO O3 FH FI
mutual
def PV.under (m:Nat):PV->Bool
 | .ptr id _ _=>decide (id<m)
 | .ref id _ _ _ _=>decide (id<m)
 | .map id=>decide (id<m)
 | .yld id f=>decide (id<m)&&cE m f
 | .cp cs _=>cE m cs
 | .sl _ _ _ _ cs=>cE m cs
 | .func _ f c=>cE m f&&cE m c
 | .iface _ v=>PV.under m v
 | .agg cs=>cE m cs
 | .tuple cs=>cE m cs
 | .junk=>true
 | .bool _=>true
 | .int _ _=>true
 | .str _=>true
 | .nilptr=>true
 | .nils=>true
 | .nilmap=>true
 | .nilfunc=>true
 | .niliface=>true
def cE (m:Nat):List PV->Bool
 | []=>true
 | v::l=>PV.under m v&&cE m l
end
theorem gD (m:Nat):∀(l:List PV),cE m l=true↔∀v∈l,v.under m=true
 | []=>by simp[cE]
 | v::l=>by simp[cE,gD m l]
theorem iF {m:Nat} {l:List PV} (h:cE m l=true) {i:Nat} {y:PV} (hy:l[i]? =some y):y.under m=true:=(gD m l).1 h y (List.mem_of_getElem? hy)
theorem dI (m:Nat) (k:IntKind) (xs:List Int):cE m (xs.map (PV.int k))=true:=(gD m _).2 fun v hv=>by
 obtain⟨x,_,rfl⟩:=List.mem_map.1 hv;simp[PV.under]
theorem gC {α:Type} (m:Nat) (f:α->PV) (hf:∀x,(f x).under m=true) (xs:List α):cE m (xs.map f)=true:=(gD m _).2 fun v hv=>by
 obtain⟨x,_,rfl⟩:=List.mem_map.1 hv;exact hf x
theorem mK (m:Nat) (l l':List PV):cE m (l++l')=(cE m l&&cE m l'):=by
 induction l with
 | nil=>simp[cE]
 | cons v l ih=>simp[cE,ih,Bool.and_assoc]
theorem uQ {m:Nat} {l:List PV} (h:cE m l=true) (k:Nat):cE m (l.drop k)=true:=(gD m _).2 fun v hv=>(gD m l).1 h v (List.mem_of_mem_drop hv)
theorem uP {m:Nat} {l:List PV} (h:cE m l=true) (k:Nat):cE m (l.take k)=true:=(gD m _).2 fun v hv=>(gD m l).1 h v (List.mem_of_mem_take hv)
theorem RepV.low {w w':PWd} {m:Nat} (h0:w'.n0=w.n0) (hi:∀b o,w.imm b=some o->w'.imm b=some o) (he:∀id,id<m->w'.env id=w.env id) {v:PV} {x:AV} (h:RepV w v x):v.under m=true->RepV w' v x:=by
 induction h with
 | junk x=>intro _;exact .junk x
 | bool b=>intro _;exact .bool b
 | int k n=>intro _;exact .int k n
 | str s=>intro _;exact .str s
 | nilptr=>intro _;exact .nilptr
 | nils=>intro _;exact .nils
 | nilmap=>intro _;exact .nilmap
 | nilfunc=>intro _;exact .nilfunc
 | niliface=>intro _;exact .niliface
 | ptr h1 h2 h3=>intro hb;simp only[PV.under,decide_eq_true_eq]at hb;exact .ptr (by rw[he _ hb];exact h1) h2 h3
 | ptrS x q h1 h2=>intro hb;simp only[PV.under,decide_eq_true_eq]at hb;exact .ptrS x q (by rw[he _ hb];exact h1) h2
 | cp h1 h2 h3 ih=>intro hb;simp only[PV.under]at hb;exact .cp (hi _ _ h1) h2 (fun i y z p q=>ih i y z p q (iF hb p))
 | sl h1 h2 h3 h4 h5 h7 h6 ih=>intro hb;simp only[PV.under]at hb;exact .sl (hi _ _ h1) h2 h3 h4 (by rw[h0];exact h5) (by rw[h0];exact h7) (fun i y z p q=>ih i y z p q (iF hb p))
 | slN=>intro _;exact .slN
 | ref h1 h2 h3=>intro hb;simp only[PV.under,decide_eq_true_eq]at hb;exact .ref (by rw[he _ hb];exact h1) h2 h3
 | refN h1 h2 h3=>intro hb;simp only[PV.under,decide_eq_true_eq]at hb;exact .refN (by rw[he _ hb];exact h1) h2 h3
 | refS x q h1 h2=>intro hb;simp only[PV.under,decide_eq_true_eq]at hb;exact .refS x q (by rw[he _ hb];exact h1) h2
 | map h1 h2 h3=>intro hb;simp only[PV.under,decide_eq_true_eq]at hb;exact .map (by rw[he _ hb];exact h1) h2 h3
 | mapS x q h1 h2=>intro hb;simp only[PV.under,decide_eq_true_eq]at hb;exact .mapS x q (by rw[he _ hb];exact h1) h2
 | func h1 h2 h3 h4 h5 ih1 ih2=>
  intro hb;simp only[PV.under,Bool.and_eq_true]at hb
  exact .func h1 h2 h3 (fun i y z p q=>ih1 i y z p q (iF hb.1 p)) (fun i y z p q=>ih2 i y z p q (iF hb.2 p))
 | yld h1 h2 h3 h4 h5 ih=>
  intro hb;simp only[PV.under,Bool.and_eq_true,decide_eq_true_eq]at hb
  exact .yld (by rw[he _ hb.1];exact h1) h2 h3 h4 (fun i y z p q=>ih i y z p q (iF hb.2 p))
 | yldS x q h1 h2=>intro hb;simp only[PV.under,Bool.and_eq_true,decide_eq_true_eq]at hb;exact .yldS x q (by rw[he _ hb.1];exact h1) h2
 | iface h ih=>intro hb;simp only[PV.under]at hb;exact .iface (ih hb)
 | agg h1 h2 ih=>intro hb;simp only[PV.under]at hb;exact .agg h1 (fun i y z p q=>ih i y z p q (iF hb p))
 | tuple h1 h2 ih=>intro hb;simp only[PV.under]at hb;exact .tuple h1 (fun i y z p q=>ih i y z p q (iF hb p))
theorem RepL.low {w w':PWd} {m:Nat} (h0:w'.n0=w.n0) (hi:∀b o,w.imm b=some o->w'.imm b=some o) (he:∀id,id<m->w'.env id=w.env id) {l:List PV} {l':List AV} (h:RepL w l l') (hb:cE m l=true):RepL w' l l':=
 ⟨h.len,fun i y z p q=>(h.get i y z p q).low h0 hi he (iF hb p)⟩
def e9 (m:Nat) (M:Mem):PV->Option PV
 | .ref id g sz off n=>if id<m then some (.ref id g sz off n) else match M[id]? with
  | some (.cells g' _ cs)=>if g'=g/\off+n*sz<=cs.length/\cE m cs=true then some (.sl false true sz n (dW cs off (n*sz))) else none
  | _=>none
 | v=>if v.under m=true then some v else none
def gQ (m:Nat) (M:Mem):List PV->Option (List PV)
 | []=>some []
 | v::l=>match e9 m M v,gQ m M l with
  | some x,some xs=>some (x::xs)
  | _,_=>none
def fM (m:Nat) (M:Mem):PV->Option PV
 | .agg cs=>(gQ m M cs).map .agg
 | v=>e9 m M v
def jE (m:Nat) (M:Mem):List PV->Option (List PV)
 | []=>some []
 | v::l=>match fM m M v,jE m M l with
  | some x,some xs=>some (x::xs)
  | _,_=>none
def jF (m:Nat) (M:Mem):PV->Option PV
 | .tuple cs=>(jE m M cs).map .tuple
 | v=>fM m M v
theorem zB {m:Nat} {M:Mem} {v r:PV} (hr:e9 m M v=some r):r.under m=true:=by
 have other:(if v.under m=true then some v else none)=some r->r.under m=true:=by
  intro hr
  split at hr
  ·rename_i hb;cases hr;exact hb
  ·cases hr
 unfold e9 at hr
 split at hr
 ·split at hr
  ·rename_i hi;cases hr;simp[PV.under,hi]
  ·split at hr
   ·split at hr
    ·rename_i hc;cases hr;simp only[PV.under];exact uP (uQ hc.2.2 _) _
    ·cases hr
   ·cases hr
 ·exact other hr
theorem y9 {m:Nat} {M:Mem} :∀{l r:List PV},gQ m M l=some r->cE m r=true
 | [],r,hr=>by simp only[gQ]at hr;cases hr;rfl
 | v::l,r,hr=>by
  simp only[gQ]at hr
  split at hr
  ·rename_i a b h1 h2;cases hr;simp[cE,zB h1,y9 h2]
  ·cases hr
theorem zA {m:Nat} {M:Mem} {v r:PV} (hr:fM m M v=some r):r.under m=true:=by
 unfold fM at hr
 split at hr
 ·rename_i cs
  cases hq:gQ m M cs with
  | none=>rw[hq]at hr;cases hr
  | some cs2=>rw[hq]at hr;cases hr;simp only[PV.under];exact y9 hq
 ·exact zB hr
theorem vK {m:Nat} {M:Mem} :∀{l r:List PV},jE m M l=some r->cE m r=true
 | [],r,hr=>by simp only[jE]at hr;cases hr;rfl
 | v::l,r,hr=>by
  simp only[jE]at hr
  split at hr
  ·rename_i a b h1 h2;cases hr;simp[cE,zA h1,vK h2]
  ·cases hr
theorem RK {m:Nat} {M:Mem} {v r:PV} (hr:jF m M v=some r):r.under m=true:=by
 unfold jF at hr
 split at hr
 ·rename_i cs
  cases hq:jE m M cs with
  | none=>rw[hq]at hr;cases hr
  | some cs2=>rw[hq]at hr;cases hr;simp only[PV.under];exact vK hq
 ·exact zA hr
def PObj.under (m:Nat):PObj->Bool
 | .cells _ _ cs=>cE m cs
 | .gone=>true
 | _=>false
open Classical in
noncomputable def PWd.cut (w:PWd) (h:H) (m:Nat) (M:Mem):PWd where
 n0:=w.n0
 id0:=w.id0
 env:=fun id=>if id<m then w.env id else none
 imm:=fun b=>if ∃id,m<=id/\LiveAt w M id b then h.get b else w.imm b
open Classical in
theorem mI {w:PWd} {h:H} {M:Mem} (s:PSt w h M) (m:Nat):∀b o,w.imm b=some o->(w.cut h m M).imm b=some o:=by
 intro b o hb
 show(if _ then _ else _)=_
 split
 ·exact s.imm b o hb
 ·exact hb
theorem jB {w:PWd} {h:H} {M:Mem} {m id:Nat} (hi:id<m):(w.cut h m M).env id=w.env id:=by
 show(if _ then _ else _)=_;rw[if_pos hi]
theorem sO {w:PWd} {h:H} {M:Mem} {m id x:Nat} (hl:LiveAt (w.cut h m M) (M.take m) id x):id<m/\LiveAt w M id x:=by
 obtain⟨o,e,h1,h2,h3,h4⟩:=hl
 have hi:id<m:=by
  have:=cQ h1
  simp at this;omega
 rw[jB hi]at h3
 rw[List.getElem?_take,if_pos hi]at h1
 exact⟨hi,o,e,h1,h2,h3,h4⟩
open Classical in
theorem PSt.cut {w:PWd} {h:H} {M:Mem} (s:PSt w h M) {m:Nat} (hm:m<=M.length) (hb:(M.take m).all (PObj.under m)=true):
  PSt (w.cut h m M) h (M.take m)/\∀(w0:PWd) (h0:H) (M0:Mem),PStp m w0 h0 M0 w h M->PStp m w0 h0 M0 (w.cut h m M) h (M.take m):=by
 have hlen:(M.take m).length=m:=by simp;omega
 refine⟨⟨?_,?_,?_,?_,?_,?_,s.base⟩,fun w0 h0 M0 t=>⟨by omega,⟨t.le.n0,t.le.id0,fun b o hbo=>mI s m b o (t.le.imm b o hbo),fun id hi e he=>?_⟩,t.next,t.keep,fun id x hl hx=>t.live id x (sO hl).2 hx,?_⟩⟩
 ·intro b o hbo
  have hbo:(if ∃id,m<=id/\LiveAt w M id b then h.get b else w.imm b)=some o:=hbo
  split at hbo
  ·exact hbo
  ·exact s.imm b o hbo
 ·intro id e he
  have he:(if id<m then w.env id else none)=some e:=he
  split at he
  ·rename_i hi;omega
  ·cases he
 ·intro id e b he hbl
  have he:(if id<m then w.env id else none)=some e:=he
  split at he
  ·exact s.blk id e b he hbl
  ·cases he
 ·intro id o ho
  have hi:id<m:=by have:=cQ ho;omega
  have ho':=ho
  rw[List.getElem?_take,if_pos hi]at ho'
  have hbo:o.under m=true:=by
   rw[List.all_eq_true]at hb;exact hb o (List.mem_of_getElem? ho)
  have r:=s.obj id o ho'
  cases o with
  | cells g ver cs=>
   obtain⟨e,h1,h2,h3⟩:=r
   refine⟨e,by rw[jB hi];exact h1,h2,?_⟩
   cases hbl:e.blk with
   | none=>rw[hbl]at h3;exact h3
   | some b=>
    rw[hbl]at h3
    obtain⟨bcs,h4,h5⟩:=h3
    exact⟨bcs,h4,h5.low (w:=w) (w':=w.cut h m M) rfl (mI s m) (fun id hi=>jB hi) hbo⟩
  | gone=>trivial
  | _=>simp[PObj.under]at hbo
 ·intro i j x h1 h2;exact s.inj i j x (sO h1).2 (sO h2).2
 ·intro i x h1
  obtain⟨hi,hl⟩:=sO h1
  refine⟨?_,(s.sep i x hl).2⟩
  show(if _ then _ else _)=_
  split
  ·rename_i hc
   obtain⟨j,hj,hl2⟩:=hc
   have:=s.inj i j x hl hl2
   omega
  ·exact(s.sep i x hl).1
 ·rw[jB hi];exact t.le.env id hi e he
 ·intro x hx
  have hx:(if ∃id,m<=id/\LiveAt w M id x then h.get x else w.imm x)≠none:=hx
  split at hx
  ·rename_i hc
   obtain⟨id,hid,hl⟩:=hc
   rcases Nat.lt_or_ge x h0.next with hxn | hxn
   ·exact .inr (.inr ⟨id,hid,t.live id x hl hxn⟩)
   ·exact .inr (.inl hxn)
  ·exact t.new x hx
open Classical in
theorem IJ {w:PWd} {h:H} {M:Mem} (s:PSt w h M) {m:Nat} (h0:w.id0<=m) {v r:PV} {x:AV} (hv:RepV w v x) (hr:e9 m M v=some r):RepV (w.cut h m M) r x:=by
 have low:∀{u:PV},RepV w u x->u.under m=true->RepV (w.cut h m M) u x:=fun hu hb=>hu.low (w:=w) (w':=w.cut h m M) rfl (mI s m) (fun id hi=>jB hi) hb
 have other:(if v.under m=true then some v else none)=some r->RepV (w.cut h m M) r x:=by
  intro hr
  split at hr
  ·rename_i hb;cases hr;exact low hv hb
  ·cases hr
 unfold e9 at hr
 split at hr
 ·rename_i id g sz off n
  split at hr
  ·rename_i hi
   cases hr
   exact low hv (by simp[PV.under,hi])
  ·rename_i hi
   split at hr
   ·rename_i g' ver cs hm
    split at hr
    ·rename_i hc
     obtain⟨rfl,hl,hb⟩:=hc
     cases hr
     obtain⟨e,p1,p2,p3⟩:=s.refAt hm hv
     rcases p3 with⟨rfl,rfl,rfl,_,rfl⟩ | ⟨fl,b,bcs,rfl,q1,q2,q3,q4⟩
     ·simpa [dW] using RepV.slN
     ·have hlive:∃i,m<=i/\LiveAt w M i b:=⟨id,by omega,q4⟩
      have him:(w.cut h m M).imm b=some (.cells (e.v0+ver) true bcs):=by
       show(if _ then _ else _)=_
       rw[if_pos hlive];exact q2
      have hlen:(dW cs off (n*sz)).length=n*sz:=by simp[dW];omega
      have hs:=(iD q3 off (n*sz)).low (w:=w) (w':=w.cut h m M) rfl (mI s m) (fun id hi=>jB hi) (uP (uQ hb off) _)
      refine .sl him (by rw[hlen,<-q3.len];exact hl) hlen (fun hf=>by cases hf) (fun _=>⟨(s.sep id b q4).2 (by omega),rfl⟩) (fun q=>by cases q) (fun i y z hy hz=>hs.get i y z hy ?_)
      rw[List.getElem?_take,if_pos (by have:=cQ hy;omega),List.getElem?_drop];exact hz
    ·cases hr
   ·cases hr
 ·exact other hr
theorem sL {w:PWd} {h:H} {M:Mem} (s:PSt w h M) {m:Nat} (h0:w.id0<=m):∀{l r:List PV} {l':List AV},RepL w l l'->gQ m M l=some r->RepL (w.cut h m M) r l'
 | [],r,l',hl,hr=>by
  simp only[gQ]at hr;cases hr
  exact⟨hl.len,fun i y z h=>by simp at h⟩
 | v::l,r,[],hl,hr=>by have:=hl.len;simp at this
 | v::l,r,x::l',hl,hr=>by
  simp only[gQ]at hr
  split at hr
  ·rename_i a b h1 h2
   cases hr
   exact .cons (IJ s h0 hl.hd h1) (sL s h0 hl.tl h2)
  ·cases hr
theorem II {w:PWd} {h:H} {M:Mem} (s:PSt w h M) {m:Nat} (h0:w.id0<=m) {v r:PV} {x:AV} (hv:RepV w v x) (hr:fM m M v=some r):RepV (w.cut h m M) r x:=by
 unfold fM at hr
 split at hr
 ·rename_i cs
  cases hq:gQ m M cs with
  | none=>rw[hq]at hr;cases hr
  | some cs2=>
   rw[hq]at hr;cases hr
   obtain⟨cs',rfl,hl⟩:=oA hv
   have:=sL s h0 hl hq
   exact .agg this.len this.get
 ·exact IJ s h0 hv hr
theorem CU {w:PWd} {h:H} {M:Mem} (s:PSt w h M) {m:Nat} (h0:w.id0<=m):∀{l r:List PV} {l':List AV},RepL w l l'->jE m M l=some r->RepL (w.cut h m M) r l'
 | [],r,l',hl,hr=>by
  simp only[jE]at hr;cases hr
  exact⟨hl.len,fun i y z h=>by simp at h⟩
 | v::l,r,[],hl,hr=>by have:=hl.len;simp at this
 | v::l,r,x::l',hl,hr=>by
  simp only[jE]at hr
  split at hr
  ·rename_i a b h1 h2
   cases hr
   exact .cons (II s h0 hl.hd h1) (CU s h0 hl.tl h2)
  ·cases hr
theorem EX {w:PWd} {h:H} {M:Mem} (s:PSt w h M) {m:Nat} (h0:w.id0<=m) {v r:PV} {x:AV} (hv:RepV w v x) (hr:jF m M v=some r):RepV (w.cut h m M) r x:=by
 unfold jF at hr
 split at hr
 ·rename_i cs
  cases hq:jE m M cs with
  | none=>rw[hq]at hr;cases hr
  | some cs2=>
   rw[hq]at hr;cases hr
   obtain⟨cs',rfl,hl⟩:=pN hv
   have:=CU s h0 hl hq
   exact .tuple this.len this.get
 ·exact II s h0 hv hr
section
variable {tab:FuncId->Option AF}
theorem kE {L:Rec} {g:FuncId} {args:List AV} {h:H} {K K':AV->H->Prop} (hc:C L g args h K) (hk:∀v h',K v h'->K' v h'):C L g args h K':=by
 unfold C at hc ⊢
 obtain⟨v,h',h1,h2⟩:=hc
 exact⟨v,h',h1,hk v h' h2⟩
theorem SemC.mono {g:FuncId} {args:List PV} {M:Mem} {K K':PV->Mem->Prop} (hc:SemC tab g args M K) (hk:∀v M',K v M'->K' v M'):SemC tab g args M K':=
 fun w h args' h0 s ha=>kE (hc w h args' h0 s ha) fun v h' ⟨w',r,M',p1,p2,p3,p4⟩=>⟨w',r,M',p1,p2,p3,hk _ _ p4⟩
theorem sX {g:FuncId} {args:List PV} {M:Mem} {K:PV->Mem->Prop} (hc:SemC tab g args M fun r M'=>(M'.take M.length).all (PObj.under M.length)=true/\iT (jF M.length M' r) fun r'=>K r' (M'.take M.length)):SemC tab g args M K:=by
 intro w h args' h0 s ha
 refine kE (hc w h args' h0 s ha) ?_
 rintro v h' ⟨w',r,M',p1,p2,p3,p4,r',p5,p6⟩
 obtain⟨q1,q2⟩:=p2.cut p1.len p4
 exact⟨_,r',_,q2 w h M p1,q1,EX p2 (by rw[p1.le.id0];exact h0) p3 p5,p6⟩
theorem rF {g:FuncId} {args:List PV} {M:Mem} {K:PV->Mem->Prop} (hb:cE 0 args=true) (hc:SemC tab g args [] fun r M'=>iT (jF 0 M' r) fun r'=>K r' M):SemC tab g args M K:=by
 intro w h args' h0 s ha
 let w0:PWd:={w with env:=fun _=>none,id0:=0}
 have s0:PSt w0 h []:=⟨s.imm,(fun id e he=>by cases he),(fun id e b he=>by cases he),(fun id o ho=>by simp at ho),(fun i j x ⟨_,_,h1,_⟩=>by simp at h1),(fun i x ⟨_,_,h1,_⟩=>by simp at h1),s.base⟩
 have a0:RepL w0 args args':=ha.low (w:=w) (w':=w0) rfl (fun _ _ h=>h) (fun id hi=>by omega) hb
 refine kE (hc w0 h args' (Nat.le_refl _) s0 a0) ?_
 rintro v h' ⟨w1,r,M1,p1,p2,p3,r',p5,p6⟩
 have q1:=EX p2 (by rw[p1.le.id0];exact Nat.le_refl _) p3 p5
 obtain⟨z1,z2⟩:=p2.cut (m:=0) (Nat.zero_le _) (by simp)
 have p1:=z2 w0 h [] p1
 have hle:w1.n0=w.n0:=p1.le.n0
 have hnl:∀x id,¬LiveAt w0 [] id x:=fun x id ⟨_,_,h1,_⟩=>by simp at h1
 have hkeep:∀x,x<h.next->h'.get x=h.get x:=fun x hx=>p1.keep x hx (hnl x)
 let w2:PWd:={n0:=w.n0,id0:=w.id0,env:=w.env,imm:=(w1.cut h' 0 M1).imm}
 have hl:Le M.length w w2:=⟨rfl,rfl,fun b o hbo=>p1.le.imm b o hbo,fun id hi e he=>⟨e,he,.inr rfl⟩⟩
 have hr:RepV w2 r' v:=by
  exact q1.low (w:=w1.cut h' 0 M1) (w':=w2) (m:=0) hle.symm (fun _ _ h=>h) (fun id hi=>by omega) (RK p5)
 refine⟨w2,r',M,⟨Nat.le_refl _,hl,p1.next,fun x hx _=>hkeep x hx,fun id x hlv _=>hlv,?_⟩,⟨fun b o hbo=>z1.imm b o hbo,s.env,?_,?_,s.inj,?_,Nat.le_trans s.base p1.next⟩,hr,p6⟩
 ·intro x hx
  rcases p1.new x hx with e | e | ⟨id,_,e⟩
  ·exact .inl e
  ·exact .inr (.inl e)
  ·exact absurd e (hnl x id)
 ·intro id e b he hbl;exact Nat.lt_of_lt_of_le (s.blk id e b he hbl) p1.next
 ·intro id o ho
  exact RepO.mono s hl (s.obj id o ho) (fun e he=>he) (fun e b he hbl=>hkeep b (s.blk id e b he hbl))
 ·intro i x hlv
  have hlv:LiveAt w M i x:=hlv
  refine⟨?_,(s.sep i x hlv).2⟩
  show(w1.cut h' 0 M1).imm x=none
  cases hc:(w1.cut h' 0 M1).imm x with
  | none=>rfl
  | some o=>
   rcases p1.new x (by rw[hc];simp) with e | e | ⟨id,_,e⟩
   ·exact absurd (s.sep i x hlv).1 e
   ·have:=hlv.next s;omega
   ·exact absurd e (hnl x id)
end
section
variable {tab:FuncId->Option AF}
def O1 (res:List ARes) (K:PV->Mem->Prop) (a:List PV) (M:Mem):Prop:=jN res a M fun vs=>K (ppack vs) M
def pJ (res:List ARes) (Q:PV->Prop) (a:List PV) (M:Mem):Prop:=jN res a M fun vs=>iT (jF 0 M (ppack vs)) Q
def PKNo (i:Nat) (a:List PV) (M:Mem):Prop:=False
theorem Y2 (res:List ARes) (K:PV->Mem->Prop) (a:List PV) (M:Mem):O1 res K a M=jN res a M fun vs=>K (ppack vs) M:=(rfl)
theorem SY (res:List ARes) (Q:PV->Prop) (a:List PV) (M:Mem):pJ res Q a M=jN res a M fun vs=>gB (jF 0 M (ppack vs)) Q ⟨0⟩:=by unfold gB;rfl
theorem SW (a:List PV) (M:Mem) (K:List PV->Prop):jN [] a M K=K []:=(rfl)
theorem SV (t:Nat) (rs:List ARes) (a:List PV) (M:Mem) (K:List PV->Prop):jN (.tmp t::rs) a M K=jN rs a M fun vs=>K (ptget a t::vs):=(rfl)
theorem MY (t:Nat) (rs:List ARes) (a:List PV) (M:Mem) (K:List PV->Prop):jN (.cell t::rs) a M K=DB (ptget a t) M (fun v _=>jN rs a M fun vs=>K (v::vs)) ⟨0⟩:=by unfold DB;rfl
theorem JN (t n:Nat) (rs:List ARes) (a:List PV) (M:Mem) (K:List PV->Prop):jN (.cells t n::rs) a M K=uI n (ptget a t) M (fun v _=>jN rs a M fun vs=>K (v::vs)) ⟨0⟩:=by unfold uI;rfl
theorem dH {g:FuncId} {F:AFn} (hg:tab g=some (.fn F)) {args:List PV} {M:Mem} {K:PV->Mem->Prop}
  (hp:RX tab M.length F.body (ppad args F.ntmps) M (O1 F.results K) (O1 F.results K) PKNo):SemC tab g args M K:=
 fJ hg (JE _ _ hp)
theorem cP {g:FuncId} {F:AFn} (hg:tab g=some (.fn F)) {args:List PV} {M:Mem} {K:PV->Mem->Prop} (hb:cE 0 args=true)
  (hp:RX tab 0 F.body (ppad args F.ntmps) [] (pJ F.results fun r=>K r M) (pJ F.results fun r=>K r M) PKNo):SemC tab g args M K:=
 rF hb (dH hg hp)
end
def PvWk (r r':PV):Prop:=∀w x,RepV w r x->RepV w r' x
theorem PvWk.refl (r:PV):PvWk r r:=fun _ _ h=>h
theorem PvWk.nils (fl own:Bool) (sz:Nat):PvWk .nils (.sl fl own sz 0 []):=fun w x h=>by
 rw[fS h];exact .slN
theorem PvWk.sl (fl:Bool) (sz n:Nat) (cs:List PV):PvWk (.sl fl true sz n cs) (.sl false true sz n cs):=fun w x h=>by
 cases h with
 | sl h1 h2 h3 h4 h5 h7 h6=>exact .sl h1 h2 h3 (fun q=>by cases q) h5 (fun q=>by cases q) h6
 | slN=>exact .slN
theorem PvWk.sl0 (fl own:Bool) (sz n:Nat) (cs:List PV):PvWk (.sl fl own sz n cs) (.sl true false sz n cs):=fun w x h=>by
 cases h with
 | sl h1 h2 h3 h4 h5 h7 h6=>exact .sl h1 h2 h3 (fun _ q=>by cases q) (fun q=>by cases q) (fun _ q=>by cases q) h6
 | slN=>exact .slN
theorem PvWk.agg {l l':List PV} (hl:l.length=l'.length) (h:∀(i:Nat) (y z:PV),l[i]? =some y->l'[i]? =some z->PvWk y z):PvWk (.agg l) (.agg l'):=fun w x hx=>by
 obtain⟨cs',rfl,hr⟩:=oA hx
 refine .agg (by rw[<-hl];exact hr.len) fun i y z h1 h2=>?_
 have hi:i<l.length:=by rw[hl];exact cQ h1
 exact h i l[i] y (List.getElem?_eq_getElem hi) h1 w z (hr.get i _ _ (List.getElem?_eq_getElem hi) h2)
theorem PvWk.tuple {l l':List PV} (hl:l.length=l'.length) (h:∀(i:Nat) (y z:PV),l[i]? =some y->l'[i]? =some z->PvWk y z):PvWk (.tuple l) (.tuple l'):=fun w x hx=>by
 obtain⟨cs',rfl,hr⟩:=pN hx
 refine .tuple (by rw[<-hl];exact hr.len) fun i y z h1 h2=>?_
 have hi:i<l.length:=by rw[hl];exact cQ h1
 exact h i l[i] y (List.getElem?_eq_getElem hi) h1 w z (hr.get i _ _ (List.getElem?_eq_getElem hi) h2)
section
variable {tab:FuncId->Option AF}
theorem kI {g:FuncId} {args:List PV} {M:Mem} {K:PV->Mem->Prop} (h:SemC tab g args M fun r M'=>∃r',PvWk r r'/\K r' M'):SemC tab g args M K:=
 fun w hh args' h0 s ha=>kE (h w hh args' h0 s ha) fun v h' ⟨w',r,M',p1,p2,p3,r',p4,p5⟩=>⟨w',r',M',p1,p2,p4 w' v p3,p5⟩
end
abbrev slI (f o:Bool) (k:IntKind) (xs:List Int):PV:= .sl f o 1 xs.length (xs.map (PV.int k))
abbrev slR (f o f' o':Bool) (k:IntKind) (su:List (List Int)):PV:= .sl f o 1 su.length (su.map (slI f' o' k))
abbrev slB (f o:Bool) (xs:List Bool):PV:= .sl f o 1 xs.length (xs.map PV.bool)
theorem JW (m:Nat):PV.under m .junk=true:=by simp[PV.under]
theorem BO (m:Nat) (k:IntKind) (n:Int):PV.under m (.int k n)=true:=by simp[PV.under]
theorem qK (m:Nat) (b:Bool):PV.under m (.bool b)=true:=by simp[PV.under]
theorem JV (m:Nat):PV.under m .nils=true:=by simp[PV.under]
theorem hR (m:Nat) (f o:Bool) (sz n:Nat) (k:IntKind) (xs:List Int):PV.under m (.sl f o sz n (xs.map (PV.int k)))=true:=by simp[PV.under,dI]
theorem PE (m:Nat) (f o:Bool) (sz n:Nat) (xs:List Bool):PV.under m (.sl f o sz n (xs.map PV.bool))=true:=by
 simp only[PV.under];exact gC m _ (fun x=>qK m x) xs
theorem mR (m:Nat) (f o f' o':Bool) (sz n:Nat) (k:IntKind) (su:List (List Int)):PV.under m (.sl f o sz n (su.map (slI f' o' k)))=true:=by
 simp only[PV.under];exact gC m _ (fun x=>hR m f' o' 1 _ k x) su
theorem PH (m:Nat) (cs:List PV):PV.under m (.agg cs)=cE m cs:=by simp[PV.under]
theorem FR (m:Nat) (cs:List PV):PV.under m (.tuple cs)=cE m cs:=by simp[PV.under]
theorem PG (m id g o:Nat):PV.under m (.ptr id g o)=decide (id<m):=by simp[PV.under]
theorem PF (m id g sz off n:Nat):PV.under m (.ref id g sz off n)=decide (id<m):=by simp[PV.under]
theorem w9 (m:Nat) (fn:Go.Fn) (f c:List PV):PV.under m (.func fn f c)=(cE m f&&cE m c):=by simp[PV.under]
theorem jC (m:Nat):cE m []=true:=by simp[cE]
theorem iG (m:Nat) (v:PV) (l:List PV):cE m (v::l)=(v.under m&&cE m l):=by simp[cE]
def y8 (o:Option PObj) (g sz off n:Nat):Option PV:=match o with
 | some (.cells g' _ cs)=>if g'=g/\off+n*sz<=cs.length/\cE 0 cs=true then some (.sl false true sz n (dW cs off (n*sz))) else none
 | _=>none
theorem Q0 (M:Mem) (id g sz off n:Nat):e9 0 M (.ref id g sz off n)=y8 M[id]? g sz off n:=by
 unfold e9 y8
 simp only[Nat.not_lt_zero,if_false]
 all_goals (generalize M[id]? =x;rcases x with _ | o<;>first | rfl | (cases o<;>rfl))
theorem iJ {g ver off n sz:Nat} {cs:List PV} (h1:off+n*sz<=cs.length) (h2:cE 0 cs=true):y8 (some (.cells g ver cs)) g sz off n=some (.sl false true sz n (dW cs off (n*sz))):=by
 unfold y8
 simp only
 rw[if_pos ⟨trivial,h1,h2⟩]
theorem UG (M:Mem) (k:IntKind) (n:Int):jF 0 M (.int k n)=some (.int k n):=by simp[jF,fM,e9,PV.under]
theorem QV (M:Mem) (b:Bool):jF 0 M (.bool b)=some (.bool b):=by simp[jF,fM,e9,PV.under]
theorem Q1 (M:Mem) (k:IntKind) (n:Int):e9 0 M (.int k n)=some (.int k n):=by simp[e9,PV.under]
theorem KY (M:Mem) (b:Bool):e9 0 M (.bool b)=some (.bool b):=by simp[e9,PV.under]
theorem KX (M:Mem):e9 0 M .nils=some .nils:=by simp[e9,PV.under]
theorem UK {M:Mem} {f o:Bool} {sz n:Nat} {cs:List PV} (h:cE 0 cs=true):e9 0 M (.sl f o sz n cs)=some (.sl f o sz n cs):=by simp[e9,PV.under,h]
theorem KQ (M:Mem) (cs:List PV):jF 0 M (.tuple cs)=(jE 0 M cs).map .tuple:=by simp[jF]
theorem UH (M:Mem) (cs:List PV):jF 0 M (.agg cs)=(gQ 0 M cs).map .agg:=by simp[jF,fM]
theorem ZW {M:Mem} {f o:Bool} {sz n:Nat} {cs:List PV} (h:cE 0 cs=true):jF 0 M (.sl f o sz n cs)=some (.sl f o sz n cs):=by simp[jF,fM,e9,PV.under,h]
theorem aCc (M:Mem) (id g sz off n:Nat):jF 0 M (.ref id g sz off n)=e9 0 M (.ref id g sz off n):=by simp[jF,fM]
theorem QU (M:Mem):jF 0 M .nils=some .nils:=by simp[jF,fM,e9,PV.under]
theorem QZ (M:Mem) (cs:List PV):fM 0 M (.agg cs)=(gQ 0 M cs).map .agg:=by simp[fM]
theorem QY (M:Mem) (k:IntKind) (n:Int):fM 0 M (.int k n)=some (.int k n):=by simp[fM,e9,PV.under]
theorem KW (M:Mem) (b:Bool):fM 0 M (.bool b)=some (.bool b):=by simp[fM,e9,PV.under]
theorem KV (M:Mem):fM 0 M .nils=some .nils:=by simp[fM,e9,PV.under]
theorem UJ {M:Mem} {f o:Bool} {sz n:Nat} {cs:List PV} (h:cE 0 cs=true):fM 0 M (.sl f o sz n cs)=some (.sl f o sz n cs):=by simp[fM,e9,PV.under,h]
theorem ZX (M:Mem) (id g sz off n:Nat):fM 0 M (.ref id g sz off n)=e9 0 M (.ref id g sz off n):=by simp[fM]
theorem QW (M:Mem):gQ 0 M []=some []:=(rfl)
def yH (x:Option PV) (l:Option (List PV)):Option (List PV):=match x,l with
 | some x,some xs=>some (x::xs)
 | _,_=>none
theorem K6 (x:PV) (l:List PV):yH (some x) (some l)=some (x::l):=(rfl)
theorem KS (M:Mem) (v:PV) (l:List PV):gQ 0 M (v::l)=yH (e9 0 M v) (gQ 0 M l):=by
 simp only[gQ,yH]
 all_goals (split<;>simp_all)
theorem KU (M:Mem):jE 0 M []=some []:=(rfl)
theorem G9 (M:Mem) (v:PV) (l:List PV):jE 0 M (v::l)=yH (fM 0 M v) (jE 0 M l):=by
 simp only[jE,yH]
 all_goals (split<;>simp_all)
theorem dO (m:Nat) (f o:Bool) (k:IntKind) (su:List (List Int)):cE m (su.map (slI f o k))=true:=gC m _ (fun x=>hR m f o 1 _ k x) su
theorem eD (m:Nat) (xs:List Bool):cE m (xs.map PV.bool)=true:=gC m _ (fun x=>qK m x) xs
theorem GZ {α:Type} (f:α->PV) (xs:List α):dW (xs.map f) 0 xs.length=xs.map f:=dQ _ _ (by simp)
theorem I7 (f o:Bool) (k:IntKind) (su:List (List Int)):(su.map (slI f o k)).all PV.one=true:=by simp[PV.one]
theorem BI (xs:List Bool):(xs.map PV.bool).all PV.one=true:=by simp[PV.one]
attribute [irreducible] O1 pJ PKNo
section
variable {tab:FuncId->Option AF} {m:Nat} {c:AC} {Qn Qr:List PV->Mem->Prop} {Qe:Nat->List PV->Mem->Prop}
theorem dY {a b:List PV} {M N:Mem} (h:eT tab m c b N Qn Qr Qe) (hw:PWeak a b) (hM:M=N):eT tab m c a M Qn Qr Qe:=by
 subst hM;exact dB h hw
structure GStep (m:Nat) (a:List PV) (M:Mem) (b:List PV) (N:Mem):Prop where
 len:m<=M.length->m<=N.length
 go:∀(w:PWd) (hh:H) (a':List AV),w.id0<=m->m<=M.length->PSt w hh M->RepL w a a'->∃w',PStp m w hh M w' hh N/\PSt w' hh N/\RepL w' b a'
theorem eB {a b:List PV} {M N:Mem} (g:GStep m a M b N) (h:eT tab m c b N Qn Qr Qe):eT tab m c a M Qn Qr Qe:=by
 intro w hh a' h0 hm s ha
 obtain⟨w',t,s',ha'⟩:=g.go w hh a' h0 hm s ha
 exact lX (h w' hh a' (by rw[t.le.id0];exact h0) (g.len hm) s' ha') (fun _ _ q=>q.trans t) (fun _ _ q=>q.trans t) (fun _ _ _ q=>q.trans t)
theorem GStep.trans {a b d:List PV} {M N O:Mem} (g:GStep m a M b N) (k:GStep m b N d O):GStep m a M d O:=
 ⟨fun h=>k.len (g.len h),fun w hh a' h0 hm s ha=>by
  obtain⟨w1,t1,s1,a1⟩:=g.go w hh a' h0 hm s ha
  obtain⟨w2,t2,s2,a2⟩:=k.go w1 hh a' (by rw[t1.le.id0];exact h0) (g.len hm) s1 a1
  exact⟨w2,t1.trans t2 (Nat.le_refl _),s2,a2⟩⟩
def Gh (m:Nat) (Q:List PV->Mem->Prop) (a:List PV) (M:Mem):Prop:=∃b N,GStep m a M b N/\Q b N
theorem Gh.same {Q:List PV->Mem->Prop} {a:List PV} {M:Mem} (h:Q a M):Gh m Q a M:=
 ⟨a,M,⟨fun h=>h,fun w hh a' h0 hm s ha=>⟨w,PStp.refl hm w hh,s,ha⟩⟩,h⟩
theorem Gh.step {Q:List PV->Mem->Prop} {a b:List PV} {M N:Mem} (g:GStep m a M b N) (h:Gh m Q b N):Gh m Q a M:=by
 obtain⟨d,O,k,hq⟩:=h
 exact⟨d,O,g.trans k,hq⟩
theorem GStep.nil {a b:List PV} {M N:Mem} (t sz:Nat) (ht:ptget a t= .nils) (hb:ptset a t (.ref M.length 0 sz 0 0)=b) (hN:M++[.cells 0 0 []]=N):GStep m a M b N:=by
 subst hb hN
 refine⟨fun hm=>by simp;omega,fun w hh a' h0 hm s ha=>?_⟩
 obtain⟨s1,s2⟩:=s.allocNone (v0:=0)
 refine⟨_,s2.weaken hm,s1,?_⟩
 have h1:=ha.tget t
 rw[ht]at h1
 have h2:=ha.mono s2.le s.env
 have h3:=h2.tset t (v:= .ref M.length 0 sz 0 0) (x:=tget a' t) (by
  rw[fS h1]
  exact .refN (e:=⟨none,0,0⟩) (by show(if _=_ then _ else _)=_;rw[if_pos rfl]) rfl rfl)
 have h4:tset a' t (tget a' t)=a':=by
  have:∀(l:List AV) (t:Nat),tset l t (tget l t)=l:=by
   intro l
   induction l with
   | nil=>intro t;rfl
   | cons x l ih=>intro t;cases t with
    | zero=>rfl
    | succ t=>simp[tset,tget,ih t]
  exact this a' t
 rwa [h4]at h3
theorem PSt.reobj {w:PWd} {h:H} {M:Mem} (s:PSt w h M) {id g ver:Nat} {cs cs2:List PV} (hm:M[id]? =some (.cells g ver cs)) (hr:∀bcs,RepL w cs bcs->RepL w cs2 bcs):
  PSt w h (M.set id (.cells g ver cs2))/\∀m,m<=M.length->PStp m w h M w h (M.set id (.cells g ver cs2)):=by
 have hid:=cQ hm
 have live:∀i x,LiveAt w (M.set id (.cells g ver cs2)) i x->LiveAt w M i x:=by
  rintro i x ⟨ob,e',h1,h2,h3,h4⟩
  by_cases hi:id=i
  ·subst hi;exact⟨_,e',hm,by simp,h3,h4⟩
  ·rw[List.getElem?_set_ne hi]at h1;exact⟨ob,e',h1,h2,h3,h4⟩
 refine⟨⟨s.imm,?_,s.blk,?_,fun i j x h1 h2=>s.inj i j x (live i x h1) (live j x h2),fun i x h1=>s.sep i x (live i x h1),s.base⟩,fun m hmm=>⟨by simpa using hmm,Le.refl _ _,Nat.le_refl _,fun _ _ _=>rfl,fun i x h1 _=>live i x h1,fun x hx=> .inl hx⟩⟩
 ·intro i e he;simpa using s.env i e he
 ·intro i ob hi
  by_cases hid2:id=i
  ·subst hid2
   rw[List.getElem?_set_self hid]at hi
   cases hi
   obtain⟨e,h1,h2,h3⟩:=s.obj id _ hm
   refine⟨e,h1,h2,?_⟩
   cases hb:e.blk with
   | none=>
    rw[hb]at h3
    have h3:cs=[]:=h3
    subst h3
    have:=(hr [] (RepL.nil w)).len
    exact List.length_eq_zero_iff.1 (by simpa using this)
   | some b=>
    rw[hb]at h3
    obtain⟨bcs,h4,h5⟩:=h3
    exact⟨bcs,h4,hr bcs h5⟩
  ·rw[List.getElem?_set_ne hid2]at hi
   exact s.obj i ob hi
theorem GStep.nilbox {a:List PV} {M N:Mem} (id o sz:Nat) {g ver:Nat} {cs:List PV} (hM:M[id]? =some (.cells g ver cs)) (ho:cs[o]? =some .nils) (hN:M.set id (.cells g ver (cs.set o (.ref M.length 0 sz 0 0)))++[.cells 0 0 []]=N):GStep m a M a N:=by
 subst hN
 refine⟨fun hm=>by simp;omega,fun w hh a' h0 hm s ha=>?_⟩
 obtain⟨s1,s2⟩:=s.allocNone (v0:=0)
 have hid:=cQ hM
 have hM2:(M++[.cells 0 0 []])[id]? =some (.cells g ver cs):=by rw[List.getElem?_append_left hid];exact hM
 obtain⟨s3,s4⟩:=s1.reobj (cs2:=cs.set o (.ref M.length 0 sz 0 0)) hM2 (by
  intro bcs hr
  obtain⟨z,hz,hv⟩:=hr.getSome ho
  have hz':=fS hv
  subst hz'
  have:=hr.set o (v:= .ref M.length 0 sz 0 0) (x:= .nilslice) (.refN (e:=⟨none,0,0⟩) (by show(if _=_ then _ else _)=_;rw[if_pos rfl]) rfl rfl)
  have hb:bcs.set o .nilslice=bcs:=by
   apply List.ext_getElem?
   intro i
   rw[List.getElem?_set]
   by_cases e:o=i
   ·subst e;rw[if_pos rfl,if_pos (cQ hz)];exact hz.symm
   ·rw[if_neg e]
  rwa [hb]at this)
 have he:(M++[PObj.cells 0 0 []]).set id (.cells g ver (cs.set o (.ref M.length 0 sz 0 0)))=M.set id (.cells g ver (cs.set o (.ref M.length 0 sz 0 0)))++[.cells 0 0 []]:=by
  rw[List.set_append_left _ _ hid]
 rw[he]at s3 s4
 exact⟨_,(s2.weaken hm).trans (s4 m (by simp;omega)) (Nat.le_refl _),s3,ha.mono s2.le s.env⟩
def PFrz (id g:Nat) (cs:List PV):List PV->List PV->Prop
 | [],[]=>True
 | x::a,y::b=>(y= .junk\/x=y\/∃sz off n,x= .ref id g sz off n/\off+n*sz<=cs.length/\y= .sl false true sz n (dW cs off (n*sz)))/\PFrz id g cs a b
 | _,_=>False
theorem fX (id g:Nat) (cs:List PV):PFrz id g cs [] []=True:=(rfl)
theorem eM (id g:Nat) (cs:List PV) (x:PV) (a b:List PV):PFrz id g cs (x::a) (x::b)=PFrz id g cs a b:=by simp[PFrz]
theorem l5 {id g sz off n:Nat} {cs:List PV} {y:PV} {a b:List PV} (h1:off+n*sz<=cs.length) (h2:y= .sl false true sz n (dW cs off (n*sz))):PFrz id g cs (.ref id g sz off n::a) (y::b)=PFrz id g cs a b:=by
 simp only[PFrz,eq_iff_iff,and_iff_right_iff_imp]
 intro _
 exact .inr (.inr ⟨sz,off,n,rfl,h1,h2⟩)
theorem PSt.freeze {w:PWd} {h:H} {M:Mem} (s:PSt w h M) {id g ver:Nat} {cs:List PV} (hm:M[id]? =some (.cells g ver cs)) (h0:w.id0<=id):
  ∃w',PSt w' h (M.set id .gone)/\(∀m,m<=id->PStp m w h M w' h (M.set id .gone))/\Le M.length w w'/\∀sz off n x,RepV w (.ref id g sz off n) x->off+n*sz<=cs.length->RepV w' (.sl false true sz n (dW cs off (n*sz))) x:=by
 obtain⟨e,h1,h2,h3⟩:=s.cellsAt hm
 have hid:=cQ hm
 rcases h3 with⟨hb,rfl⟩ | ⟨b,bcs,hb,hg,hr,hlv⟩
 ·have live:∀i x,LiveAt w (M.set id .gone) i x->LiveAt w M i x:=by
   rintro i x ⟨ob,e',p1,p2,p3,p4⟩
   by_cases hi:id=i
   ·subst hi;rw[List.getElem?_set_self hid]at p1;cases p1;exact absurd rfl p2
   ·rw[List.getElem?_set_ne hi]at p1;exact⟨ob,e',p1,p2,p3,p4⟩
  refine⟨w,⟨s.imm,fun i e' he=>by simpa using s.env i e' he,s.blk,?_,fun i j x q1 q2=>s.inj i j x (live i x q1) (live j x q2),fun i x q1=>s.sep i x (live i x q1),s.base⟩,fun m hmm=>⟨by simp;omega,Le.refl _ _,Nat.le_refl _,fun _ _ _=>rfl,fun i x q1 _=>live i x q1,fun x hx=> .inl hx⟩,Le.refl _ _,?_⟩
  ·intro i ob hi
   by_cases hid2:id=i
   ·subst hid2;rw[List.getElem?_set_self hid]at hi;cases hi;trivial
   ·rw[List.getElem?_set_ne hid2]at hi;exact s.obj i ob hi
  ·intro sz off n x hx hl
   obtain⟨e2,p1,p2,p3⟩:=s.refAt hm hx
   rcases p3 with⟨rfl,rfl,rfl,_,_⟩ | ⟨_,b,_,_,p4,_⟩
   ·simpa [dW] using RepV.slN
   ·rw[h1]at p1;cases p1;rw[hb]at p4;cases p4
 ·let w':=w.withImm b (.cells (e.v0+ver) true bcs)
  have hsep:=s.sep id b hlv
  have hl:Le M.length w w':=qQ hsep.1
  have him:∀x,x≠b->w'.imm x=w.imm x:=fun x hx=>by show(if _=_ then _ else _)=_;rw[if_neg hx]
  have hnew:w'.imm b=some (.cells (e.v0+ver) true bcs):=by show(if _=_ then _ else _)=_;rw[if_pos rfl]
  have live:∀i x,LiveAt w' (M.set id .gone) i x->i≠id/\LiveAt w M i x:=by
   rintro i x ⟨ob,e',p1,p2,p3,p4⟩
   by_cases hi:id=i
   ·subst hi;rw[List.getElem?_set_self hid]at p1;cases p1;exact absurd rfl p2
   ·rw[List.getElem?_set_ne hi]at p1;exact⟨fun q=>hi q.symm,ob,e',p1,p2,p3,p4⟩
  refine⟨w',⟨?_,fun i e' he=>by simpa using s.env i e' he,s.blk,?_,fun i j x q1 q2=>s.inj i j x (live i x q1).2 (live j x q2).2,?_,s.base⟩,fun m hmm=>⟨by simp;omega,⟨hl.n0,hl.id0,hl.imm,fun i hi=>hl.env i (by omega)⟩,Nat.le_refl _,fun _ _ _=>rfl,fun i x q1 _=>(live i x q1).2,?_⟩,hl,?_⟩
  ·intro x o hx
   by_cases e1:x=b
   ·subst e1;rw[hnew]at hx;cases hx;exact hg
   ·rw[him x e1]at hx;exact s.imm x o hx
  ·intro i ob hi
   by_cases hid2:id=i
   ·subst hid2;rw[List.getElem?_set_self hid]at hi;cases hi;trivial
   ·rw[List.getElem?_set_ne hid2]at hi
    exact RepO.mono s hl (s.obj i ob hi) (fun e' he=>he) (fun _ _ _ _=>rfl)
  ·intro i x q1
   obtain⟨hne,q2⟩:=live i x q1
   have:x≠b:=by rintro rfl;exact hne (s.inj i id x q2 hlv)
   exact⟨by rw[him x this];exact(s.sep i x q2).1,(s.sep i x q2).2⟩
  ·intro x hx
   by_cases e1:x=b
   ·subst e1;exact .inr (.inr ⟨id,hmm,hlv⟩)
   ·rw[him x e1]at hx;exact .inl hx
  ·intro sz off n x hx hlen
   obtain⟨e2,p1,p2,p3⟩:=s.refAt hm hx
   rw[h1]at p1;cases p1
   rcases p3 with⟨_,_,_,p4,_⟩ | ⟨fl,b2,bcs2,rfl,p4,p5,p6,_⟩
   ·rw[hb]at p4;cases p4
   ·rw[hb]at p4;cases p4
    rw[hg]at p5;cases p5
    have hl2:(dW cs off (n*sz)).length=n*sz:=by simp[dW];omega
    have hs:=(iD p6 off (n*sz)).mono hl s.env
    refine .sl hnew (by rw[hl2,<-p6.len];exact hlen) hl2 (fun q=>by cases q) (fun _=>⟨hsep.2 h0,rfl⟩) (fun q=>by cases q) (fun i y z hy hz=>hs.get i y z hy ?_)
    rw[List.getElem?_take,if_pos (by have:=cQ hy;omega),List.getElem?_drop];exact hz
theorem PFrz.rep {w w':PWd} {M:Mem} {id g:Nat} {cs:List PV} (hl:Le M.length w w') (hd:∀i e,w.env i=some e->i<M.length) (hf:∀sz off n x,RepV w (.ref id g sz off n) x->off+n*sz<=cs.length->RepV w' (.sl false true sz n (dW cs off (n*sz))) x):
  ∀{a b:List PV} {a':List AV},PFrz id g cs a b->RepL w a a'->RepL w' b a'
 | [],[],a',_,h=>⟨h.len,fun i y z q=>by simp at q⟩
 | x::a,y::b,[],_,h=>by have:=h.len;simp at this
 | x::a,y::b,v::a',⟨h1,h2⟩,h=>by
  refine .cons ?_ (PFrz.rep hl hd hf h2 h.tl)
  rcases h1 with rfl | rfl | ⟨sz,off,n,rfl,q1,rfl⟩
  ·exact .junk _
  ·exact h.hd.mono hl hd
  ·exact hf sz off n v h.hd q1
 | [],_::_,a',hw,h=>hw.elim
 | _::_,[],a',hw,h=>hw.elim
theorem GStep.freeze {a b:List PV} {M N:Mem} (id:Nat) {g ver:Nat} {cs:List PV} (hid:m<=id) (hM:M[id]? =some (.cells g ver cs)) (hf:PFrz id g cs a b) (hN:M.set id .gone=N):GStep m a M b N:=by
 subst hN
 refine⟨fun hm=>by simpa using hm,fun w hh a' h0 hm s ha=>?_⟩
 obtain⟨w',s1,s2,hl,hr⟩:=s.freeze hM (Nat.le_trans h0 hid)
 exact⟨w',s2 m hid,s1,hf.rep hl s.env hr ha⟩
theorem GStep.drop {a b:List PV} {M N:Mem} (n:Nat) (hn:m<=n) (hl:n<=M.length) (hw:PWeak a b) (ha:cE n b=true) (hM:(M.take n).all (PObj.under n)=true) (hN:M.take n=N):GStep m a M b N:=by
 subst hN
 refine⟨fun hm=>by simp;omega,fun w hh a' h0 hm s hr=>?_⟩
 obtain⟨s1,s2⟩:=s.cut hl hM
 exact⟨_,(s2 w hh M (PStp.refl (Nat.le_refl _) w hh |>.weaken hl)).weaken hn,s1,(hw.rep hr).low (w:=w) (w':=w.cut hh n M) rfl (mI s n) (fun id hi=>jB hi) ha⟩
end
attribute [irreducible] Gh
set_option maxRecDepth 10000
set_option linter.defProp false
def zj (n:Nat):List PV:=List.replicate n .junk
theorem kJ:zj 0=[]:=rfl
theorem kK (n:Nat):zj (n+1)= .junk::zj n:=rfl
theorem U8 {n:Nat} (h:n<2^8):(⟨⟨⟨n,h⟩⟩⟩:UInt8)=UInt8.ofNat n:=by
 apply UInt8.toNat_inj.1
 show n=_
 simp;omega
theorem AL (l:List UInt8):Array.mk l=List.toArray l:=rfl
def mk (t:Option AFn) {x:AFn} (_:t=some x:=by
 conv=>lhs;reduce;simp only[Int.reduceOfNat,Int.reduceNegSucc,U8,UInt8.reduceOfNat,AL]):AFn:=x
theorem aDD (t:Option AFn) {x:AFn} (h:t=some x):mk t h=x:=rfl
theorem QR:ppack []= .tuple []:=rfl
theorem QQ (a b:PV) (l:List PV):ppack (a::b::l)= .tuple (a::b::l):=rfl
def PP:=(And.intro (And.intro (And.intro (And.intro (And.intro (And.intro (And.intro (And.intro @aBc @aC5) (And.intro @aBe (And.intro @SP @MR))) (And.intro (And.intro @aC4 @aBf) (And.intro @YS (And.intro @aBd @YR)))) (And.intro (And.intro (And.intro @Y0 @Y4) (And.intro @SZ (And.intro @aDc @aBl))) (And.intro (And.intro @aBk (And.intro @aDd @aBn)) (And.intro @aBm (And.intro @Y3 @SX))))) (And.intro (And.intro (And.intro (And.intro @aBh @aBg) (And.intro @YZ (And.intro @aDa @YY))) (And.intro (And.intro @BL @aBi) (And.intro @MU (And.intro @YT @JM)))) (And.intro (And.intro (And.intro @aDb @aC9) (And.intro @YV (And.intro @MW @aDZ))) (And.intro (And.intro @MX (And.intro @SR @FE)) (And.intro @YU (And.intro @FG @YX)))))) (And.intro (And.intro (And.intro (And.intro (And.intro @ST @FF) (And.intro @BK (And.intro @YW @SS))) (And.intro (And.intro @MV @aBj) (And.intro @SU (And.intro @aC8 @aC7)))) (And.intro (And.intro (And.intro @aC6 @MP) (And.intro @aDg (And.intro @W3 @lF))) (And.intro (And.intro @vO (And.intro @I2 @zQ)) (And.intro @qH (And.intro @Nat.add_eq_left @Nat.left_eq_add))))) (And.intro (And.intro (And.intro (And.intro @Nat.succ_ne_self @Nat.one_ne_zero) (And.intro @UL (And.intro @List.contains_cons.{0} @List.contains_nil.{0}))) (And.intro (And.intro @Bool.or_false @Bool.false_or) (And.intro @Bool.or_true (And.intro @Bool.true_or @X7)))) (And.intro (And.intro (And.intro @MF @YE) (And.intro @L6 (And.intro @R9 @L9))) (And.intro (And.intro @SD (And.intro @aA1 @X4)) (And.intro @aA3 (And.intro @X8 @SE))))))) (And.intro (And.intro (And.intro (And.intro (And.intro (And.intro @X9 @YA) (And.intro @aA5 (And.intro @SB @X3))) (And.intro (And.intro @MC @SC) (And.intro @L7 (And.intro @R7 @aAY)))) (And.intro (And.intro (And.intro @XY @XX) (And.intro @SM (And.intro @aA7 @YC))) (And.intro (And.intro @SL (And.intro @SK @JB)) (And.intro @R8 (And.intro @MA @MB))))) (And.intro (And.intro (And.intro (And.intro @JC @SA) (And.intro @aAZ (And.intro @aA0 @XZ))) (And.intro (And.intro @SF @SI) (And.intro @SG (And.intro @SH @E8)))) (And.intro (And.intro (And.intro @E9 @FA) (And.intro @MD (And.intro @JD @SJ))) (And.intro (And.intro @ME (And.intro @YN @SO)) (And.intro @aBb (And.intro @KN @G1)))))) (And.intro (And.intro (And.intro (And.intro (And.intro @UV @UM) (And.intro @UP (And.intro @UU @UO))) (And.intro (And.intro @UQ @UR) (And.intro @US (And.intro @UT @QT)))) (And.intro (And.intro (And.intro @ZP @ZQ) (And.intro @CG (And.intro @QS @K6))) (And.intro (And.intro @KP (And.intro @ZT @ZR)) (And.intro @ZS (And.intro @QK @GZ))))) (And.intro (And.intro (And.intro (And.intro @List.take_zero.{0} @List.take_succ_cons.{0}) (And.intro @List.drop_succ_cons.{0} (And.intro @List.drop_zero.{0} @List.drop_nil.{0}))) (And.intro (And.intro @List.take_nil.{0} @UC) (And.intro @I7 (And.intro @BI @K1)))) (And.intro (And.intro (And.intro @HE @HA) (And.intro @Q2 (And.intro @KZ @K0))) (And.intro (And.intro @HD (And.intro @K2 @Z3)) (And.intro @U2 (And.intro @U0 @K5)))))))) (And.intro (And.intro (And.intro (And.intro (And.intro (And.intro (And.intro @HJ @aCe) (And.intro @Z0 (And.intro @Z1 @U1))) (And.intro (And.intro @sU @Y2) (And.intro @SY (And.intro @SW @SV)))) (And.intro (And.intro (And.intro @MY @JN) (And.intro @JW (And.intro @BO @qK))) (And.intro (And.intro @JV (And.intro @hR @PE)) (And.intro @mR (And.intro @PH @FR))))) (And.intro (And.intro (And.intro (And.intro @PG @PF) (And.intro @w9 (And.intro @jC @iG))) (And.intro (And.intro @dI @dO) (And.intro @eD (And.intro @mK @Q0)))) (And.intro (And.intro (And.intro @iJ @UG) (And.intro @QV (And.intro @Q1 @KY))) (And.intro (And.intro @KX (And.intro @UK @KQ)) (And.intro @UH (And.intro @ZW @aCc)))))) (And.intro (And.intro (And.intro (And.intro (And.intro @QU @QZ) (And.intro @QY (And.intro @KW @KV))) (And.intro (And.intro @UJ @ZX) (And.intro @QW (And.intro @KS @KU)))) (And.intro (And.intro (And.intro @G9 @List.length_cons.{0}) (And.intro @List.length_nil.{0} (And.intro @List.length_append.{0} @List.length_replicate.{0}))) (And.intro (And.intro @List.length_set.{0} (And.intro @List.length_map.{0,0} @List.cons_append.{0})) (And.intro @List.nil_append.{0} (And.intro @List.append_nil.{0} @List.map_cons.{0,0}))))) (And.intro (And.intro (And.intro (And.intro @List.map_nil.{0,0} @List.map_append.{0,0}) (And.intro @List.all_cons.{0} (And.intro @List.all_nil.{0} @List.all_append.{0}))) (And.intro (And.intro @List.set_cons_zero.{0} @List.set_cons_succ.{0}) (And.intro @List.getElem?_cons_zero.{0} (And.intro @List.getElem?_cons_succ.{0} @List.getElem?_map.{0,0})))) (And.intro (And.intro (And.intro @List.getElem?_nil.{0} @Option.map_some.{0,0}) (And.intro @Option.map_none.{0,0} (And.intro @Nat.zero_add @Nat.add_zero))) (And.intro (And.intro @Nat.mul_one (And.intro @Nat.one_mul @Nat.zero_mul)) (And.intro @Nat.le_refl (And.intro @Nat.not_lt_zero @Nat.zero_lt_succ))))))) (And.intro (And.intro (And.intro (And.intro (And.intro (And.intro @Nat.lt_add_one @Int.cast_ofNat_Int) (And.intro @Int.toNat_natCast (And.intro @Int.toNat_zero @ite_true.{1}))) (And.intro (And.intro @ite_false.{1} @if_true.{1}) (And.intro @if_false.{1} (And.intro @Bool.false_eq_true @decide_true)))) (And.intro (And.intro (And.intro @decide_false @decide_eq_true_eq) (And.intro @Bool.not_true (And.intro @Bool.not_false @Bool.and_true))) (And.intro (And.intro @Bool.true_and (And.intro @Bool.and_false @Bool.false_and)) (And.intro @Bool.and_self (And.intro @beq_self_eq_true.{0} @ne_eq.{1}))))) (And.intro (And.intro (And.intro (And.intro @not_true_eq_false @not_false_eq_true) (And.intro @true_and (And.intro @and_true @and_self))) (And.intro (And.intro @false_and @and_false) (And.intro @true_or (And.intro @or_true @false_or)))) (And.intro (And.intro (And.intro @or_false @or_self) (And.intro @Option.getD_none.{0} (And.intro @Option.getD_some.{0} @Option.isSome_none.{0}))) (And.intro (And.intro @Option.isSome_some.{0} (And.intro @gt_iff_lt.{0} @ge_iff_le.{0})) (And.intro @pput.eq_1 (And.intro @pput.eq_2 @ptset.eq_1)))))) (And.intro (And.intro (And.intro (And.intro (And.intro @ptset.eq_2 @ptset.eq_3) (And.intro @ptget.eq_1 (And.intro @ptget.eq_2 @ptget.eq_3))) (And.intro (And.intro @pev.eq_1 @pev.eq_2) (And.intro @ofAV.eq_1 (And.intro @ofAV.eq_2 @ofAV.eq_3)))) (And.intro (And.intro (And.intro @ofAV.eq_4 @ofAV.eq_5) (And.intro @ofAV.eq_6 (And.intro @ofAV.eq_7 @ofAV.eq_8))) (And.intro (And.intro @ofAV.eq_9 (And.intro @ofAV.eq_10 @ofAV.eq_11)) (And.intro @ofAV.eq_12 (And.intro @ofAV1.eq_1 @ofAV1.eq_2))))) (And.intro (And.intro (And.intro (And.intro @ofAV1.eq_3 @ofAV1.eq_4) (And.intro @ofAV1.eq_5 (And.intro @ofAV1.eq_6 @ofAV1.eq_7))) (And.intro (And.intro @ofAV1.eq_8 @ofAV1.eq_9) (And.intro @ppad.eq_1 (And.intro @pfill.eq_1 @pfill.eq_2)))) (And.intro (And.intro (And.intro @PKNo.eq_1 @ppack.eq_1) (And.intro @QR (And.intro @QQ @PObj.under.eq_1))) (And.intro (And.intro @PObj.under.eq_2 (And.intro @List.replicate.eq_1.{0} @List.replicate.eq_2.{0})) (And.intro @kJ (And.intro @kK @aDD)))))))))
def PW:=And.intro @SQ (And.intro @MT (And.intro @MS (And.intro @Int.cast_ofNat_Int (And.intro @List.length_append.{0} (And.intro @List.length_cons.{0} (And.intro @List.length_nil.{0} (And.intro @Nat.zero_add (And.intro @kJ (And.intro @kK (And.intro @List.cons_append.{0} @List.nil_append.{0}))))))))))
end Go.Am

