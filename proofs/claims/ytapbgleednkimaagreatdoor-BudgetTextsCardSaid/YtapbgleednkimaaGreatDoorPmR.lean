/- The pure machine: its rules as equations for the simplifier, and what goes with it. -/
import Derived.Test.YtapbgleednkimaaGreatDoorPmS
set_option linter.unusedVariables false
set_option linter.unusedSimpArgs false
namespace Go.Am
structure KTag {α:Sort _} (k:α):Type where
 n:Nat
structure QTag (A B:Prop):Type where
 n:Nat
def qG (v:PV) (k:IntKind->Int->Prop) (t:KTag k):Prop:=tP v k
def CI (v:PV) (k:Bool->Prop) (t:KTag k):Prop:=IF v k
def ED (v:PV) (k:List PV->Prop) (t:KTag k):Prop:=LF v k
def Z1 (v:PV) (k:List PV->Prop) (t:KTag k):Prop:=aBX v k
def ZOb (o:Option PObj) (g:Nat) (k:Nat->List PV->Prop) (t:KTag k):Prop:=QOb o g k
def fT {α:Type} (o:Option α) (k:α->Prop) (t:KTag k):Prop:=iH o k
def WM (v:PV) (M:Mem) (k:PV->Prop) (t:KTag k):Prop:=aBZ v M k
def Z8 (size:Nat) (v i:PV) (M:Mem) (k:PV->Prop) (t:KTag k):Prop:=aB1 size v i M k
def NN (len size:Nat) (v i:PV) (M:Mem) (k:PV->Prop) (t:KTag k):Prop:=W5 len size v i M k
def aAa (off:Nat) (v:PV) (M:Mem) (k:PV->Prop) (t:KTag k):Prop:=aB2 off v M k
def CH (v:PV) (M:Mem) (k:PV->List Nat->Prop) (t:KTag k):Prop:=IC v M k
def tM (n:Nat) (v:PV) (M:Mem) (k:PV->List Nat->Prop) (t:KTag k):Prop:=zF n v M k
def KY (n:Nat) (p x:PV) (M:Mem) (k:Mem->List Nat->Prop) (t:KTag k):Prop:=LB n p x M k
def H5 (size:Nat) (x:PV) (M:Mem) (k:List PV->Nat->Prop) (t:KTag k):Prop:=IA size x M k
def WU (size bytes:Nat) (s x:PV) (M:Mem) (K:PV->Mem->List Nat->List Nat->Prop) (t:KTag K):Prop:=W7 size bytes s x M K
def vC (a:List PV) (x:Option AR) (k:Option Int->Prop) (t:KTag k):Prop:=AD a x k
def y9 (size:Nat) (v:PV) (l r m:Option Int) (M:Mem) (k:PV->Prop) (t:KTag k):Prop:=LC size v l r m M k
def qE (v:PV) (M:Mem) (k:Prop) (t:KTag k):Prop:=zE v M k
def qF (kd:Nat) (x y:PV) (M:Mem) (k:Bool->Prop) (t:KTag k):Prop:=IB kd x y M k
def hI (v:PV) (want:Bool) (A B:Prop) (t:QTag A B):Prop:=lJ v want A B
def oA (v:PV) (A B:Prop) (t:QTag A B):Prop:=ID v A B
def QIf (p A B:Prop) (t:QTag A B):Prop:=(p->A)/\(¬p->B)
theorem QIf.intro {p A B:Prop} {t:QTag A B} (h1:p->A) (h2:¬p->B):QIf p A B t:=⟨h1,h2⟩
theorem W4 (A B:Prop) (t:QTag A B):QIf True A B t=A:=by simp[QIf]
theorem Q9 (A B:Prop) (t:QTag A B):QIf False A B t=B:=by simp[QIf]
theorem aAf (p A B:Prop) (t:QTag A B):QIf (¬p) A B t=QIf p B A ⟨0⟩:=by
 apply propext
 constructor
 ·rintro⟨h1,h2⟩;exact⟨fun h=>h2 (fun h'=>h' h),h1⟩
 ·rintro⟨h1,h2⟩;exact⟨h2,fun h=>h1 (Classical.byContradiction h)⟩
theorem WN (b:IntKind) (o:Int) (k:IntKind->Int->Prop) (t:KTag k):qG (.int b o) k t=k b o:=by simp[qG,tP,and_assoc]
theorem K5 (b:Bool) (k:Bool->Prop) (t:KTag k):CI (.bool b) k t=k b:=by simp[CI,IF]
theorem WV (b:List PV) (k:List PV->Prop) (t:KTag k):ED (.agg b) k t=k b:=by simp[ED,LF]
theorem KW (b:List PV) (k:List PV->Prop) (t:KTag k):Z1 (.tuple b) k t=k b:=by simp[Z1,aBX]
theorem QU (g ver:Nat) (cs:List PV) (k:Nat->List PV->Prop) (t:KTag k):ZOb (some (.cells g ver cs)) g k t=k ver cs:=by
 apply propext
 constructor
 ·rintro⟨_,_,e,h⟩;cases e;exact h
 ·intro h;exact⟨_,_,rfl,h⟩
theorem KZ {α:Type} (x:α) (k:α->Prop) (t:KTag k):fT (some x) k t=k x:=by simp[fT,iH]
theorem QY (M:Mem) (k:PV->Prop) (t:KTag k):WM .nils M k t=k (p64 0):=(rfl)
theorem Z5 (fl own:Bool) (sz n:Nat) (cs:List PV) (M:Mem) (k:PV->Prop) (t:KTag k):WM (.sl fl own sz n cs) M k t=k (p64 n):=(rfl)
theorem WJ (id g sz off n:Nat) (M:Mem) (k:PV->Prop) (t:KTag k):WM (.ref id g sz off n) M k t=ZOb M[id]? g (fun _ _=>k (p64 n)) ⟨0⟩:=(rfl)
theorem Z7 (size:Nat) (fl own:Bool) (sz n:Nat) (cs:List PV) (i:PV) (M:Mem) (k:PV->Prop) (t:KTag k):Z8 size (.sl fl own sz n cs) i M k t=qG i (fun _ j=>(sz=size/\0<=j/\j<n)/\k (.cp cs (j.toNat*size))) ⟨0⟩:=(rfl)
theorem WP (size id g sz off n:Nat) (i:PV) (M:Mem) (k:PV->Prop) (t:KTag k):Z8 size (.ref id g sz off n) i M k t=ZOb M[id]? g (fun _ _=>qG i (fun _ j=>(sz=size/\0<=j/\j<n)/\k (.ptr id g (off+j.toNat*size))) ⟨0⟩) ⟨0⟩:=(rfl)
theorem QZ (len size id g o:Nat) (i:PV) (M:Mem) (k:PV->Prop) (t:KTag k):NN len size (.ptr id g o) i M k t=ZOb M[id]? g (fun _ _=>qG i (fun _ j=>(0<=j/\j<len)/\k (.ptr id g (o+j.toNat*size))) ⟨0⟩) ⟨0⟩:=(rfl)
theorem WQ (len size:Nat) (cs:List PV) (o:Nat) (i:PV) (M:Mem) (k:PV->Prop) (t:KTag k):NN len size (.cp cs o) i M k t=qG i (fun _ j=>(0<=j/\j<len)/\k (.cp cs (o+j.toNat*size))) ⟨0⟩:=(rfl)
theorem WR (off id g o:Nat) (M:Mem) (k:PV->Prop) (t:KTag k):aAa off (.ptr id g o) M k t=ZOb M[id]? g (fun _ _=>k (.ptr id g (o+off))) ⟨0⟩:=(rfl)
theorem Z9 (off:Nat) (cs:List PV) (o:Nat) (M:Mem) (k:PV->Prop) (t:KTag k):aAa off (.cp cs o) M k t=k (.cp cs (o+off)):=(rfl)
theorem QW (id g o:Nat) (M:Mem) (k:PV->List Nat->Prop) (t:KTag k):CH (.ptr id g o) M k t=ZOb M[id]? g (fun _ cs=>fT cs[o]? (fun x=>k x [id]) ⟨0⟩) ⟨0⟩:=(rfl)
theorem WI (cs:List PV) (o:Nat) (M:Mem) (k:PV->List Nat->Prop) (t:KTag k):CH (.cp cs o) M k t=fT cs[o]? (fun x=>k x []) ⟨0⟩:=(rfl)
theorem K2 (n id g o:Nat) (M:Mem) (k:PV->List Nat->Prop) (t:KTag k):tM n (.ptr id g o) M k t=ZOb M[id]? g (fun _ cs=>o+n<=cs.length/\k (.agg (dS cs o n)) [id]) ⟨0⟩:=(rfl)
theorem QX (n:Nat) (cs:List PV) (o:Nat) (M:Mem) (k:PV->List Nat->Prop) (t:KTag k):tM n (.cp cs o) M k t=(o+n<=cs.length/\k (.agg (dS cs o n)) []):=(rfl)
theorem KX (n id g o:Nat) (x:PV) (M:Mem) (k:Mem->List Nat->Prop) (t:KTag k):KY n (.ptr id g o) x M k t=ZOb M[id]? g (fun ver cs=>((eE x).length=n/\o+n<=cs.length/\(eE x).all PV.one=true)/\k (M.set id (.cells g (ver+1) (lQ cs o (eE x)))) [id]) ⟨0⟩:=(rfl)
theorem QS (size:Nat) (M:Mem) (k:List PV->Nat->Prop) (t:KTag k):H5 size .nils M k t=k [] 0:=(rfl)
theorem Z2 (size:Nat) (fl own:Bool) (sz n:Nat) (cs:List PV) (M:Mem) (k:List PV->Nat->Prop) (t:KTag k):H5 size (.sl fl own sz n cs) M k t=(sz=size/\k cs n):=(rfl)
theorem WG (size id g sz off n:Nat) (M:Mem) (k:List PV->Nat->Prop) (t:KTag k):H5 size (.ref id g sz off n) M k t=ZOb M[id]? g (fun _ cs=>(sz=size/\off+n*size<=cs.length)/\k (dS cs off (n*size)) n) ⟨0⟩:=(rfl)
theorem WF (size:Nat) (s:ByteArray) (M:Mem) (k:List PV->Nat->Prop) (t:KTag k):H5 size (.str s) M k t=(size=1/\k (s.data.toList.map fun b=> .int .u8 b.toNat) s.size):=(rfl)
theorem Q7 (size bytes:Nat) (x:PV) (M:Mem) (K:PV->Mem->List Nat->List Nat->Prop) (t:KTag K):WU size bytes .nils x M K t=H5 size x M (fun new n=>(n*bytes<=140737488355328/\n<=9223372036854775807/\new.all PV.one=true)/\K (.ref M.length 0 size 0 n) (M++[.cells 0 0 new]) [] []) ⟨0⟩:=(rfl)
theorem aAb (size bytes:Nat) (fl own:Bool) (sz m:Nat) (cs:List PV) (x:PV) (M:Mem) (K:PV->Mem->List Nat->List Nat->Prop) (t:KTag K):WU size bytes (.sl fl own sz m cs) x M K t=H5 size x M (fun new n=>QIf (n=0) (K (.sl fl own sz m cs) M [] []) ((fl=true/\own=true/\sz=size/\(m+n)*bytes<=140737488355328/\m+n<=9223372036854775807/\new.all PV.one=true)/\K (.ref M.length 0 size 0 (m+n)) (M++[.cells 0 0 (cs++new)]) [] []) ⟨0⟩) ⟨0⟩:=by
 show W7 size bytes (.sl fl own sz m cs) x M K=IA size x M _
 unfold W7
 congr 1
 funext new n
 by_cases h:n=0<;>simp[QIf,h]
theorem WT (size bytes id g sz off m:Nat) (x:PV) (M:Mem) (K:PV->Mem->List Nat->List Nat->Prop) (t:KTag K):WU size bytes (.ref id g sz off m) x M K t=H5 size x M (fun new n=>ZOb M[id]? g (fun ver cs=>(sz=size/\off+m*size<=cs.length/\(0<n\/(off=0/\m*size=cs.length))/\(m+n)*bytes<=140737488355328/\m+n<=9223372036854775807/\new.all PV.one=true)/\K (.ref id (g+1) size 0 (m+n)) (M.set id (.cells (g+1) 0 (dS cs off (m*size)++new))) [] [id]) ⟨0⟩) ⟨0⟩:=(rfl)
theorem Q6 (a:List PV) (k:Option Int->Prop) (t:KTag k):vC a none k t=k none:=(rfl)
theorem Q5 (a:List PV) (x:AR) (k:Option Int->Prop) (t:KTag k):vC a (some x) k t=qG (pev a x) (fun _ n=>k (some n)) ⟨0⟩:=(rfl)
theorem H6 (size:Nat) (l r m:Option Int) (M:Mem) (k:PV->Prop) (t:KTag k):y9 size .nils l r m M k t=((l.getD 0=0/\r.getD 0=0/\(m=none\/m=r))/\k .nils):=(rfl)
theorem QT (size:Nat) (fl own:Bool) (sz n:Nat) (cs:List PV) (l r m:Option Int) (M:Mem) (k:PV->Prop) (t:KTag k):y9 size (.sl fl own sz n cs) l r m M k t=((sz=size/\(m=none\/m=r)/\0<=l.getD 0/\l.getD 0<=r.getD n/\r.getD n<=n)/\k (.sl (if own=true then(if r.isSome=true then false else fl) else fl) own sz (r.getD n-l.getD 0).toNat (dS cs ((l.getD 0).toNat*size) ((r.getD n-l.getD 0).toNat*size)))):=(rfl)
theorem K0 (size id g sz off n:Nat) (l r m:Option Int) (M:Mem) (k:PV->Prop) (t:KTag k):y9 size (.ref id g sz off n) l r m M k t=ZOb M[id]? g (fun _ _=>(sz=size/\(m=none\/m=r)/\0<=l.getD 0/\l.getD 0<=r.getD n/\r.getD n<=n)/\k (.ref id g sz (off+(l.getD 0).toNat*size) (r.getD n-l.getD 0).toNat)) ⟨0⟩:=(rfl)
theorem K1 (id g o:Nat) (M:Mem) (k:Prop) (t:KTag k):qE (.ptr id g o) M k t=ZOb M[id]? g (fun _ _=>k) ⟨0⟩:=(rfl)
theorem H7 (f:FuncId) (l c:List PV) (M:Mem) (k:Prop) (t:KTag k):qE (.func (.func f) l c) M k t=k:=by simp[qE,zE,w7]
theorem QV (cs:List PV) (o:Nat) (M:Mem) (k:Prop) (t:KTag k):qE (.cp cs o) M k t=k:=by simp[qE,zE,w7]
theorem Z3 (M:Mem) (k:Bool->Prop) (t:KTag k):qF 0 .nils .nils M k t=k true:=(rfl)
theorem Z4 (fl own:Bool) (sz n:Nat) (cs:List PV) (M:Mem) (k:Bool->Prop) (t:KTag k):qF 0 (.sl fl own sz n cs) .nils M k t=QIf (n=0) (k true/\k false) (k false) ⟨0⟩:=by by_cases h:n=0<;>simp[qF,IB,QIf,h]
theorem WH (id g sz off n:Nat) (M:Mem) (k:Bool->Prop) (t:KTag k):qF 0 (.ref id g sz off n) .nils M k t=ZOb M[id]? g (fun _ _=>QIf (n=0) (k true/\k false) (k false) ⟨0⟩) ⟨0⟩:=by by_cases h:n=0<;>simp[qF,IB,ZOb,QIf,h]
theorem Q0 (A B:Prop) (t:QTag A B):hI (.bool true) true A B t=A:=by simp[hI,lJ]
theorem Q3 (A B:Prop) (t:QTag A B):hI (.bool false) false A B t=A:=by simp[hI,lJ]
theorem Q1 (A B:Prop) (t:QTag A B):hI (.bool true) false A B t=B:=by simp[hI,lJ]
theorem Q2 (A B:Prop) (t:QTag A B):hI (.bool false) true A B t=B:=by simp[hI,lJ]
theorem EA (l:List PV) (want:Bool) (A B:Prop) (t:QTag A B):hI (.tuple l) want A B t=B:=by simp[hI,lJ]
theorem EB (p:Prop) [Decidable p] (A B:Prop) (t:QTag A B):hI (.bool (decide p)) true A B t=QIf p A B ⟨0⟩:=by by_cases hp:p<;>simp[hI,lJ,hp,QIf]
theorem EC (p:Prop) [Decidable p] (A B:Prop) (t:QTag A B):hI (.bool (decide p)) false A B t=QIf p B A ⟨0⟩:=by by_cases hp:p<;>simp[hI,lJ,hp,QIf]
theorem K3 (A B:Prop) (t:QTag A B):oA (.bool true) A B t=A:=by simp[oA,ID]
theorem H8 (A B:Prop) (t:QTag A B):oA (.bool false) A B t=B:=by simp[oA,ID]
theorem Q4 (p:Prop) [Decidable p] (A B:Prop) (t:QTag A B):oA (.bool (decide p)) A B t=QIf p A B ⟨0⟩:=by by_cases hp:p<;>simp[oA,ID,hp,QIf]
theorem K4 (p:Prop) [Decidable p] (x y:PV) (A B:Prop) (t:QTag A B):oA (BP (decide p) x y) A B t=QIf p (oA x A B ⟨0⟩) (oA y A B ⟨0⟩) ⟨0⟩:=by by_cases hp:p<;>simp[QIf,BP,hp,oA]
theorem JH (x y:PV):BP true x y=x:=(rfl)
theorem FX (x y:PV):BP false x y=y:=(rfl)
section
variable (tab:FuncId->Option AF) (m:Nat)
def RX:=PX tab m
def RO:=PO tab
def RD:=PD tab
def RS:=PS tab
def XI (y:AC) (Qn Qr:List PV->Mem->Prop) (Qe:Nat->List PV->Mem->Prop) (a:List PV) (M:Mem):Prop:=RX tab m y a M Qn Qr Qe
def EL (sc:List Nat) (x:AC) (Qn Qr:List PV->Mem->Prop) (Qe:Nat->List PV->Mem->Prop) (a:List PV) (M:Mem):Prop:=eF tab m (.loop sc x) a M Qn Qr Qe
def IJ (id:Nat) (Qn:List PV->Mem->Prop) (Qe:Nat->List PV->Mem->Prop) (i:Nat) (a:List PV) (M:Mem):Prop:=if i=id then Qn a M else Qe i a M
def NS (d:Option Nat) (os:List AOper) (a:List PV) (Q:List PV->Mem->Prop) (v:PV) (M:Mem) (rd chg:List Nat):Prop:=RO tab os (pput a d v) M Q
def EK (d:Option Nat) (eff:Bool) (chk:List Nat) (os:List AOper) (i:Nat) (a:List PV) (M:Mem) (log:List PLog) (Q:List PV->Mem->Prop) (v:PV) (M':Mem) (rd chg:List Nat):Prop:=
 kF eff rd chg M log chk=true/\RD tab os (i+1) (pput a d v) M' (⟨i,rd,chg,M,M'.length⟩::log) Q
section
variable (a:List PV) (M:Mem) (Qn Qr:List PV->Mem->Prop) (Qe:Nat->List PV->Mem->Prop)
theorem aAg:RX tab m .skip a M Qn Qr Qe=Qn a M:=(rfl)
theorem aB5:RX tab m .ret a M Qn Qr Qe=Qr a M:=(rfl)
theorem aAi (i:Nat):RX tab m (.exit i) a M Qn Qr Qe=Qe i a M:=(rfl)
theorem RA (os:List AOper):RX tab m (.region os) a M Qn Qr Qe=RO tab os a M Qn:=(rfl)
theorem LG (os:List AOper):RX tab m (.regionD os) a M Qn Qr Qe=RD tab os 0 a M [] Qn:=(rfl)
theorem aB4 (x y:AC):RX tab m (.seq x y) a M Qn Qr Qe=RX tab m x a M (XI tab m y Qn Qr Qe) Qr Qe:=(rfl)
theorem aAj (c:AR) (x y:AC):RX tab m (.cond c x y) a M Qn Qr Qe=oA (pev a c) (RX tab m x a M Qn Qr Qe) (RX tab m y a M Qn Qr Qe) ⟨0⟩:=(rfl)
theorem W9 (id:Nat) (x:AC):RX tab m (.block id x) a M Qn Qr Qe=RX tab m x a M Qn Qr (IJ id Qn Qe):=(rfl)
theorem aAh (sc:List Nat) (x:AC):RX tab m (.loop sc x) a M Qn Qr Qe=eF tab m (.loop sc x) a M Qn Qr Qe:=(rfl)
theorem W8 (f:AR) (ps:List Nat) (asg body:AC):RX tab m (.rangeFunc f ps asg body) a M Qn Qr Qe=eF tab m (.rangeFunc f ps asg body) a M Qn Qr Qe:=(rfl)
theorem XH (y:AC):XI tab m y Qn Qr Qe a M=RX tab m y a M Qn Qr Qe:=(rfl)
theorem RM (sc:List Nat) (x:AC):EL tab m sc x Qn Qr Qe a M=eF tab m (.loop sc x) a M Qn Qr Qe:=(rfl)
theorem XL (id i:Nat):IJ id Qn Qe i a M=if i=id then Qn a M else Qe i a M:=(rfl)
end
section
variable (a:List PV) (M:Mem) (Q:List PV->Mem->Prop)
theorem aCc:RO tab [] a M Q=Q a M:=(rfl)
theorem aAp (d:Option Nat) (o:AO) (chk:List Nat) (os:List AOper):RO tab (⟨d,o,none,chk⟩::os) a M Q=RS tab o a M (NS tab d os a Q):=(rfl)
theorem aAo (d:Option Nat) (o:AO) (t:Nat) (want:Bool) (chk:List Nat) (os:List AOper):RO tab (⟨d,o,some (t,want),chk⟩::os) a M Q=hI (ptget a t) want (RS tab o a M (NS tab d os a Q)) (RO tab os (pput a d (.tuple [])) M Q) ⟨0⟩:=(rfl)
theorem aCd (i:Nat) (log:List PLog):RD tab [] i a M log Q=Q a M:=(rfl)
theorem aAr (d:Option Nat) (o:AO) (chk:List Nat) (os:List AOper) (i:Nat) (log:List PLog):RD tab (⟨d,o,none,chk⟩::os) i a M log Q=RS tab o a M (EK tab d o.effect chk os i a M log Q):=(rfl)
theorem aAq (d:Option Nat) (o:AO) (t:Nat) (want:Bool) (chk:List Nat) (os:List AOper) (i:Nat) (log:List PLog):RD tab (⟨d,o,some (t,want),chk⟩::os) i a M log Q=hI (ptget a t) want (RS tab o a M (EK tab d o.effect chk os i a M log Q)) (RD tab os (i+1) (pput a d (.tuple [])) M log Q) ⟨0⟩:=(rfl)
theorem XK (d:Option Nat) (os:List AOper) (v:PV) (rd chg:List Nat):NS tab d os a Q v M rd chg=RO tab os (pput a d v) M Q:=(rfl)
theorem RK (d:Option Nat) (eff:Bool) (chk:List Nat) (os:List AOper) (i:Nat) (log:List PLog) (v:PV) (M':Mem) (rd chg:List Nat):
  EK tab d eff chk os i a M log Q v M' rd chg=(kF eff rd chg M log chk=true/\RD tab os (i+1) (pput a d v) M' (⟨i,rd,chg,M,M'.length⟩::log) Q):=(rfl)
end
section
variable (a:List PV) (M:Mem) (K:PV->Mem->List Nat->List Nat->Prop)
theorem aAl (x:AR):RS tab (.move x) a M K=K (pev a x) M [] []:=(rfl)
theorem aAk (c x y:AR):RS tab (.pick c x y) a M K=CI (pev a c) (fun b=>K (BP b (pev a x) (pev a y)) M [] []) ⟨0⟩:=(rfl)
theorem XG (cs:List AV):RS tab (.alloc cs) a M K=K (.ptr M.length 0 0) (M++[.cells 0 0 (cs.map ofAV1)]) [] []:=(rfl)
theorem aCa (x:AR):RS tab (.box x) a M K=((eE (pev a x)).all PV.one=true/\K (.ptr M.length 0 0) (M++[.cells 0 0 (eE (pev a x))]) [] []):=(rfl)
theorem XF (z:List AV) (ps:List (Nat×Nat×AR)):RS tab (.build z ps) a M K=fT (pfill a (z.map ofAV1) ps) (fun cs=>K (.agg cs) M [] []) ⟨0⟩:=(rfl)
theorem AG (size len:Nat) (z:List AV) (ps:List (Nat×Nat×AR)):RS tab (.buildSlice size len z ps) a M K=((z.length=size/\0<size)/\fT (pfill a (eZ len (z.map ofAV1)) ps) (fun cs=>K (.sl true true size len cs) M [] []) ⟨0⟩):=(rfl)
theorem aAm (x:AR):RS tab (.load x) a M K=CH (pev a x) M (fun v rd=>K v M rd []) ⟨0⟩:=(rfl)
theorem LK (n:Nat) (x:AR):RS tab (.loadAgg n x) a M K=tM n (pev a x) M (fun v rd=>K v M rd []) ⟨0⟩:=(rfl)
theorem XA (n:Nat) (p x:AR):RS tab (.store n p x) a M K=KY n (pev a p) (pev a x) M (fun M' chg=>K (.tuple []) M' [] chg) ⟨0⟩:=(rfl)
theorem IH (x:AR):RS tab (.nilCheck x) a M K=qE (pev a x) M (K (pev a x) M [] []) ⟨0⟩:=(rfl)
theorem aCb (op:BinOp) (x y:AR):RS tab (.bin op x y) a M K=fT (eP op (pev a x) (pev a y)) (fun v=>K v M [] []) ⟨0⟩:=(rfl)
theorem aB9 (neg:Bool) (x y:AR):RS tab (.eqB neg x y) a M K=CI (pev a x) (fun p=>CI (pev a y) (fun q=>K (.bool (if neg=true then !(p==q) else p==q)) M [] []) ⟨0⟩) ⟨0⟩:=(rfl)
theorem XC (kd:Nat) (neg:Bool) (x y:AR):RS tab (.isNil kd neg x y) a M K=qF kd (pev a x) (pev a y) M (fun b=>K (.bool (if neg=true then !b else b)) M [] []) ⟨0⟩:=(rfl)
theorem LM (neg:Bool) (T:List (Option IntKind)) (x y:AR):RS tab (.eqCells neg T x y) a M K=ED (pev a x) (fun p=>ED (pev a y) (fun q=>fT (oJ T p q) (fun b=>K (.bool (if neg=true then !b else b)) M [] []) ⟨0⟩) ⟨0⟩) ⟨0⟩:=(rfl)
theorem aCR (op:UnOp) (x:AR):RS tab (.un op x) a M K=fT (pun op (pev a x)) (fun v=>K v M [] []) ⟨0⟩:=(rfl)
theorem LN (k:IntKind) (x:AR):RS tab (.convInt k x) a M K=qG (pev a x) (fun _ n=>K (.int k (k.wrap n)) M [] []) ⟨0⟩:=(rfl)
theorem RE (g:FuncId) (f c:List AR):RS tab (.mkFunc (.func g) f c) a M K=K (.func (.func g) (f.map (pev a)) (c.map (pev a))) M [] []:=by simp[RS,PS]
theorem EH (bytes:Nat) (z:List AV) (n c:AR):RS tab (.makeSlice bytes z n c) a M K=qG (pev a n) (fun kv l=>qG (pev a c) (fun kw m=>(kv= .i64/\kw= .i64/\0<=l/\l<=m/\m*bytes<=140737488355328/\m<=9223372036854775807)/\K (.ref M.length 0 z.length 0 l.toNat) (M++[.cells 0 0 (eZ l.toNat (z.map ofAV1))]) [] []) ⟨0⟩) ⟨0⟩:=(rfl)
theorem XB (size:Nat) (x:AR) (lo hi mx:Option AR):RS tab (.slice size x lo hi mx) a M K=vC a lo (fun l=>vC a hi (fun r=>vC a mx (fun m=>y9 size (pev a x) l r m M (fun v=>K v M [] []) ⟨0⟩) ⟨0⟩) ⟨0⟩) ⟨0⟩:=(rfl)
theorem EJ (off:Nat) (x:AR):RS tab (.fieldAddr off x) a M K=aAa off (pev a x) M (fun v=>K v M [] []) ⟨0⟩:=(rfl)
theorem XE (off:Nat) (x:AR):RS tab (.field off none x) a M K=ED (pev a x) (fun cs=>fT cs[off]? (fun v=>K v M [] []) ⟨0⟩) ⟨0⟩:=(rfl)
theorem RG (off n:Nat) (x:AR):RS tab (.field off (some n) x) a M K=ED (pev a x) (fun cs=>off+n<=cs.length/\K (.agg (dS cs off n)) M [] []) ⟨0⟩:=(rfl)
theorem EI (size:Nat) (x i:AR):RS tab (.indexAddr size x i) a M K=Z8 size (pev a x) (pev a i) M (fun v=>K v M [] []) ⟨0⟩:=(rfl)
theorem AE (len size:Nat) (x i:AR):RS tab (.indexAddrA len size x i) a M K=NN len size (pev a x) (pev a i) M (fun v=>K v M [] []) ⟨0⟩:=(rfl)
theorem XD (len size:Nat) (x i:AR):RS tab (.index len size false x i) a M K=ED (pev a x) (fun cs=>qG (pev a i) (fun _ j=>(0<=j/\j<len)/\fT cs[j.toNat*size]? (fun v=>K v M [] []) ⟨0⟩) ⟨0⟩) ⟨0⟩:=by simp only[RS,PS,Bool.false_eq_true,if_false,if_true];rfl
theorem RF (len size:Nat) (x i:AR):RS tab (.index len size true x i) a M K=ED (pev a x) (fun cs=>qG (pev a i) (fun _ j=>(0<=j/\j<len)/\j.toNat*size+size<=cs.length/\K (.agg (dS cs (j.toNat*size) size)) M [] []) ⟨0⟩) ⟨0⟩:=by simp only[RS,PS,Bool.false_eq_true,if_false,if_true];rfl
theorem LL (x:AR) (i:Nat):RS tab (.extract x i) a M K=Z1 (pev a x) (fun vs=>fT vs[i]? (fun v=>K v M [] []) ⟨0⟩) ⟨0⟩:=(rfl)
theorem aAn (f:AR) (args:List AR):RS tab (.call f args) a M K=zG tab (pev a f) (args.map (pev a)) M (KPC M K):=(rfl)
theorem RH (size bytes:Nat) (s x:AR):RS tab (.append size bytes s x) a M K=(0<size/\WU size bytes (pev a s) (pev a x) M K ⟨0⟩):=(rfl)
theorem aB8 (x:AR):RS tab (.len x) a M K=WM (pev a x) M (fun v=>K v M [] []) ⟨0⟩:=(rfl)
theorem aB7 (x:AR) (xs:List AR):RS tab (.max x xs) a M K=fT (F3 (pev a x) (xs.map (pev a))) (fun v=>K v M [] []) ⟨0⟩:=(rfl)
theorem aB6 (x:AR) (xs:List AR):RS tab (.min x xs) a M K=fT (w8 (pev a x) (xs.map (pev a))) (fun v=>K v M [] []) ⟨0⟩:=(rfl)
end
theorem LE (g:FuncId) (first cap args:List PV) (M:Mem) (K:PV->Mem->Prop):zG tab (.func (.func g) first cap) args M K=SemC tab g (first++args++cap) M K:=(rfl)
theorem aCg (M:Mem) (K:PV->Mem->List Nat->List Nat->Prop) (v:PV) (M':Mem):KPC M K v M'=K v M' [] (NC M M'):=(rfl)
end
theorem kQ:∀(i:Nat) (M:Mem),dZ i M M=[]
 | _,[]=>rfl
 | i,o::M=>by simp[dZ,jP,kQ (i+1) M]
theorem uQ:∀(i:Nat) (M l:Mem),dZ i M (M++l)=[]
 | _,[],_=>by simp[dZ]
 | i,o::M,l=>by simp[dZ,jP,uQ (i+1) M l]
theorem VL (M M':Mem):NC M M'=dZ 0 M M':=(rfl)
theorem HQ (i:Nat) (M:Mem):dZ i [] M=[]:=by simp[dZ]
theorem yR (i:Nat) (o:PObj) (M M':Mem):dZ i (o::M) (o::M')=dZ (i+1) M M':=by simp[dZ,jP]
theorem pK (i g g' v v':Nat) (cs cs':List PV) (M M':Mem):dZ i (.cells g v cs::M) (.cells g' v' cs'::M')=if g=g'/\v=v' then dZ (i+1) M M' else i::dZ (i+1) M M':=by
 by_cases h:g=g'/\v=v'<;>simp[dZ,mF,h]
theorem S7 (eff:Bool) (rd chg:List Nat) (M:Mem) (log:List PLog):kF eff rd chg M log []=true:=by simp[kF]
section
variable (k:IntKind) (x y:Int)
theorem TH:eP .add (.int k x) (.int k y)=some (.int k (k.wrap (x+y))):=by simp[eP,eK,WE,ofAV1]
theorem S8:eP .sub (.int k x) (.int k y)=some (.int k (k.wrap (x-y))):=by simp[eP,eK,V5,ofAV1]
theorem TB:eP .mul (.int k x) (.int k y)=some (.int k (k.wrap (x*y))):=by simp[eP,eK,V7,ofAV1]
theorem TG:eP .eql (.int k x) (.int k y)=some (.bool (decide (x=y))):=by simp[eP,eK,WC,ofAV1]
theorem TA:eP .neq (.int k x) (.int k y)=some (.bool (decide (x≠y))):=by simp[eP,eK,V6,ofAV1]
theorem TC:eP .lss (.int k x) (.int k y)=some (.bool (decide (x<y))):=by simp[eP,eK,V8,ofAV1]
theorem TD:eP .leq (.int k x) (.int k y)=some (.bool (decide (x<=y))):=by simp[eP,eK,V9,ofAV1]
theorem TE:eP .gtr (.int k x) (.int k y)=some (.bool (decide (y<x))):=by simp[eP,eK,WA,ofAV1]
theorem TF:eP .geq (.int k x) (.int k y)=some (.bool (decide (y<=x))):=by simp[eP,eK,WB,ofAV1]
theorem xB (hy:y≠0):eP .quo (.int k x) (.int k y)=some (.int k (k.wrap (x.tdiv y))):=by simp[eP,eK,iQ,eM,gH,hy,ofAV1]
theorem O3:F3 (.int k x) [.int k y]=some (.int k (max x y)):=by
 have:=T7 k x y
 simp only[aBs]at this
 simp[F3,eK,g7,this,ofAV1]
end
theorem X8 (b:Bool):pun .not (.bool b)=some (.bool (!b)):=(rfl)
theorem X9 (k:IntKind) (x:Int):pun .neg (.int k x)=some (.int k (k.wrap (0-x))):=by simp[pun,eK,aun,ofAV1]
theorem BO (n:Nat) (c:PV):eZ n [c]=List.replicate n c:=by
 induction n with
 | zero=>rfl
 | succ n ih=>simp[eZ,ih,List.replicate_succ]
theorem O2 (cs:List PV) (o:Nat) (x:PV):lQ cs o [x]=cs.set o x:=(rfl)
theorem dO (cs:List PV) (n:Nat) (h:n=cs.length):dS cs 0 n=cs:=by subst h;simp[dS]
theorem OU (cs:List PV):dS cs 0 cs.length=cs:=by simp[dS]
theorem JJ (cs:List PV) (o:Nat) (x y:PV) (l:List PV):lQ cs o (x::y::l)=cs.take o++(x::y::l)++cs.drop (o+(x::y::l).length):=(rfl)
theorem YC (x:PV) (cs:List PV) (n:Nat):dS (x::cs) 0 (n+1)=x::dS cs 0 n:=by simp[dS]
theorem YA (cs:List PV) (o:Nat):dS cs o 0=[]:=by simp[dS]
theorem YB (x:PV) (cs:List PV) (o n:Nat):dS (x::cs) (o+1) n=dS cs o n:=by simp[dS]
theorem SY (o n:Nat):dS [] o n=[]:=by simp[dS]
theorem JU (k:IntKind) (n:Int):eE (.int k n)=[.int k n]:=(rfl)
theorem GA (b:Bool):eE (.bool b)=[.bool b]:=(rfl)
theorem F8:eE .nils=[.nils]:=(rfl)
theorem PC (fl own:Bool) (sz n:Nat) (cs:List PV):eE (.sl fl own sz n cs)=[.sl fl own sz n cs]:=(rfl)
theorem JS (id g sz off n:Nat):eE (.ref id g sz off n)=[.ref id g sz off n]:=(rfl)
theorem JT (id g o:Nat):eE (.ptr id g o)=[.ptr id g o]:=(rfl)
theorem F9 (fn:Go.Fn) (f c:List PV):eE (.func fn f c)=[.func fn f c]:=(rfl)
theorem JV (cs:List PV):eE (.agg cs)=cs:=(rfl)
theorem YM (k:IntKind) (n:Int):PV.one (.int k n)=true:=(rfl)
theorem TN (b:Bool):PV.one (.bool b)=true:=(rfl)
theorem TL:PV.one .nils=true:=(rfl)
theorem JY:PV.one .nilptr=true:=(rfl)
theorem GG:PV.one .nilfunc=true:=(rfl)
theorem aBi (fl own:Bool) (sz n:Nat) (cs:List PV):PV.one (.sl fl own sz n cs)=true:=(rfl)
theorem YK (id g sz off n:Nat):PV.one (.ref id g sz off n)=true:=(rfl)
theorem YL (id g o:Nat):PV.one (.ptr id g o)=true:=(rfl)
theorem TM (fn:Go.Fn) (f c:List PV):PV.one (.func fn f c)=true:=(rfl)
theorem rW (k:IntKind) (xs:List Int):(xs.map (PV.int k)).all PV.one=true:=by simp[PV.one]
theorem H9 {tab:FuncId->Option AF} (m:Nat) (c:AC) {a:List PV} {M:Mem} {Qn Qr:List PV->Mem->Prop} {Qe:Nat->List PV->Mem->Prop} (hp:RX tab m c a M Qn Qr Qe):eF tab m c a M Qn Qr Qe:=IG m c hp
theorem Q8 {tab:FuncId->Option AF} {m:Nat} {sc:List Nat} {x:AC} {a:List PV} {M:Mem} {Qn Qr:List PV->Mem->Prop} {Qe:Nat->List PV->Mem->Prop} (hp:RX tab m x (sU a sc) M (EL tab m sc x Qn Qr Qe) Qr Qe):
  eF tab m (.loop sc x) a M Qn Qr Qe:=K7 hp
def PWeak:List PV->List PV->Prop
 | [],[]=>True
 | x::a,y::b=>(y= .junk\/x=y)/\PWeak a b
 | _,_=>False
theorem PWeak.rep {w:PWd} :∀{a b:List PV} {a':List AV},PWeak a b->RepL w a a'->RepL w b a'
 | [],[],a',_,h=>h
 | x::a,y::b,[],_,h=>by have:=h.len;simp at this
 | x::a,y::b,v::a',⟨h1,h2⟩,h=>by
  refine .cons ?_ (PWeak.rep h2 h.tl)
  rcases h1 with rfl | rfl
  ·exact .junk _
  ·exact h.hd
 | [],_::_,a',hw,h=>hw.elim
 | _::_,[],a',hw,h=>hw.elim
theorem dC {tab:FuncId->Option AF} {m:Nat} {c:AC} {a b:List PV} {M:Mem} {Qn Qr:List PV->Mem->Prop} {Qe:Nat->List PV->Mem->Prop} (h:eF tab m c b M Qn Qr Qe) (hw:PWeak a b):eF tab m c a M Qn Qr Qe:=
 fun w hh a' h0 hm s ha=>h w hh a' h0 hm s (hw.rep ha)
theorem RC:PWeak [] []=True:=(rfl)
theorem LJ (x:PV) (a b:List PV):PWeak (x::a) (.junk::b)=PWeak a b:=by simp[PWeak]
theorem LH (x:PV) (a b:List PV):PWeak (x::a) (x::b)=PWeak a b:=by simp[PWeak]
def PY:Nat->List Nat->List PV->Bool
 | _,[],_=>true
 | _,_::_,[]=>false
 | i,s::sc,v::b=>match Nat.beq i s with
  | true=>match v with
   | .junk=>PY (i+1) sc b
   | _=>false
  | false=>PY (i+1) (s::sc) b
theorem wY:∀(a:List PV) (t:Nat),ptget a t= .junk->ptset a t .junk=a
 | [],_,_=>rfl
 | v::a,0,h=>by simp only[ptget]at h;simp[ptset,h]
 | v::a,t+1,h=>by simp only[ptget]at h;simp[ptset,wY a t h]
theorem xX:∀(b:List PV) (i:Nat) (sc:List Nat),PY i sc b=true->∀s∈sc,i<=s/\ptget b (s-i)= .junk
 | b,i,[],_,s,hs=>by cases hs
 | [],i,s0::sc,h,s,hs=>by simp[PY]at h
 | v::b,i,s0::sc,h,s,hs=>by
  unfold PY at h
  split at h
  ·rename_i he
   have he:i=s0:=Nat.eq_of_beq_eq_true he
   split at h
   ·rcases List.mem_cons.1 hs with rfl | hs
    ·subst he;exact⟨Nat.le_refl _,by simp[ptget]⟩
    ·obtain⟨h1,h2⟩:=xX b (i+1) sc h s hs
     refine⟨by omega,?_⟩
     rw[show s-i=(s-(i+1))+1 by omega]
     simpa [ptget] using h2
   ·cases h
  ·obtain⟨h1,h2⟩:=xX b (i+1) (s0::sc) h s hs
   refine⟨by omega,?_⟩
   rw[show s-i=(s-(i+1))+1 by omega]
   simpa [ptget] using h2
theorem t8:∀(sc:List Nat) (b:List PV),(∀s∈sc,ptget b s= .junk)->sU b sc=b
 | [],b,_=>rfl
 | s::sc,b,h=>by
  simp only[sU]
  rw[wY b s (h s (by simp))]
  exact t8 sc b fun t ht=>h t (List.mem_cons_of_mem _ ht)
theorem dJ {tab:FuncId->Option AF} {m:Nat} {sc:List Nat} {x:AC} {a:List PV} {M:Mem} {Qn Qr:List PV->Mem->Prop} {Qe:Nat->List PV->Mem->Prop} (hj:PY 0 sc a=true) (hp:RX tab m x a M (EL tab m sc x Qn Qr Qe) Qr Qe):
  eF tab m (.loop sc x) a M Qn Qr Qe:=by
 refine Q8 ?_
 rw[t8 sc a fun s hs=>by simpa using (xX a 0 sc hj s hs).2]
 exact hp
theorem kH {A1:Type} {tab:FuncId->Option AF} {m:Nat} {sc:List Nat} {x:AC} {a:List PV} {M:Mem} {Qn Qr:List PV->Mem->Prop} {Qe:Nat->List PV->Mem->Prop} (I:A1->Prop) (fr:A1->List PV) (mem:A1->Mem) (mea:A1->Nat)
  (z1:A1) (h0:I z1) (hw:PWeak a (fr z1)) (hM:M=mem z1)
  (step:∀(x1:A1),I x1->(∀(y1:A1),I y1->mea y1<mea x1->eF tab m (.loop sc x) (fr y1) (mem y1) Qn Qr Qe)->eF tab m (.loop sc x) (fr x1) (mem x1) Qn Qr Qe):eF tab m (.loop sc x) a M Qn Qr Qe:=by
 subst hM
 refine dC ?_ hw
 have key:∀(k:Nat) (x1:A1),mea x1<k->I x1->eF tab m (.loop sc x) (fr x1) (mem x1) Qn Qr Qe:=by
  intro k
  induction k with
  | zero=>intro x1 h;omega
  | succ k ih=>
   intro x1 h hi
   exact step x1 hi fun y1 hy hm=>ih y1 (by omega) hy
 exact key (mea z1+1) z1 (by omega) h0
theorem jM {A1:Type} {A2:Type} {tab:FuncId->Option AF} {m:Nat} {sc:List Nat} {x:AC} {a:List PV} {M:Mem} {Qn Qr:List PV->Mem->Prop} {Qe:Nat->List PV->Mem->Prop} (I:A1->A2->Prop) (fr:A1->A2->List PV) (mem:A1->A2->Mem) (mea:A1->A2->Nat)
  (z1:A1) (z2:A2) (h0:I z1 z2) (hw:PWeak a (fr z1 z2)) (hM:M=mem z1 z2)
  (step:∀(x1:A1) (x2:A2),I x1 x2->(∀(y1:A1) (y2:A2),I y1 y2->mea y1 y2<mea x1 x2->eF tab m (.loop sc x) (fr y1 y2) (mem y1 y2) Qn Qr Qe)->eF tab m (.loop sc x) (fr x1 x2) (mem x1 x2) Qn Qr Qe):eF tab m (.loop sc x) a M Qn Qr Qe:=by
 subst hM
 refine dC ?_ hw
 have key:∀(k:Nat) (x1:A1) (x2:A2),mea x1 x2<k->I x1 x2->eF tab m (.loop sc x) (fr x1 x2) (mem x1 x2) Qn Qr Qe:=by
  intro k
  induction k with
  | zero=>intro x1 x2 h;omega
  | succ k ih=>
   intro x1 x2 h hi
   exact step x1 x2 hi fun y1 y2 hy hm=>ih y1 y2 (by omega) hy
 exact key (mea z1 z2+1) z1 z2 (by omega) h0
theorem xP {A1:Type} {A2:Type} {A3:Type} {tab:FuncId->Option AF} {m:Nat} {sc:List Nat} {x:AC} {a:List PV} {M:Mem} {Qn Qr:List PV->Mem->Prop} {Qe:Nat->List PV->Mem->Prop} (I:A1->A2->A3->Prop) (fr:A1->A2->A3->List PV) (mem:A1->A2->A3->Mem) (mea:A1->A2->A3->Nat)
  (z1:A1) (z2:A2) (z3:A3) (h0:I z1 z2 z3) (hw:PWeak a (fr z1 z2 z3)) (hM:M=mem z1 z2 z3)
  (step:∀(x1:A1) (x2:A2) (x3:A3),I x1 x2 x3->(∀(y1:A1) (y2:A2) (y3:A3),I y1 y2 y3->mea y1 y2 y3<mea x1 x2 x3->eF tab m (.loop sc x) (fr y1 y2 y3) (mem y1 y2 y3) Qn Qr Qe)->eF tab m (.loop sc x) (fr x1 x2 x3) (mem x1 x2 x3) Qn Qr Qe):eF tab m (.loop sc x) a M Qn Qr Qe:=by
 subst hM
 refine dC ?_ hw
 have key:∀(k:Nat) (x1:A1) (x2:A2) (x3:A3),mea x1 x2 x3<k->I x1 x2 x3->eF tab m (.loop sc x) (fr x1 x2 x3) (mem x1 x2 x3) Qn Qr Qe:=by
  intro k
  induction k with
  | zero=>intro x1 x2 x3 h;omega
  | succ k ih=>
   intro x1 x2 x3 h hi
   exact step x1 x2 x3 hi fun y1 y2 y3 hy hm=>ih y1 y2 y3 (by omega) hy
 exact key (mea z1 z2 z3+1) z1 z2 z3 (by omega) h0
theorem xO {A1:Type} {A2:Type} {A3:Type} {A4:Type} {tab:FuncId->Option AF} {m:Nat} {sc:List Nat} {x:AC} {a:List PV} {M:Mem} {Qn Qr:List PV->Mem->Prop} {Qe:Nat->List PV->Mem->Prop} (I:A1->A2->A3->A4->Prop) (fr:A1->A2->A3->A4->List PV) (mem:A1->A2->A3->A4->Mem) (mea:A1->A2->A3->A4->Nat)
  (z1:A1) (z2:A2) (z3:A3) (z4:A4) (h0:I z1 z2 z3 z4) (hw:PWeak a (fr z1 z2 z3 z4)) (hM:M=mem z1 z2 z3 z4)
  (step:∀(x1:A1) (x2:A2) (x3:A3) (x4:A4),I x1 x2 x3 x4->(∀(y1:A1) (y2:A2) (y3:A3) (y4:A4),I y1 y2 y3 y4->mea y1 y2 y3 y4<mea x1 x2 x3 x4->eF tab m (.loop sc x) (fr y1 y2 y3 y4) (mem y1 y2 y3 y4) Qn Qr Qe)->eF tab m (.loop sc x) (fr x1 x2 x3 x4) (mem x1 x2 x3 x4) Qn Qr Qe):eF tab m (.loop sc x) a M Qn Qr Qe:=by
 subst hM
 refine dC ?_ hw
 have key:∀(k:Nat) (x1:A1) (x2:A2) (x3:A3) (x4:A4),mea x1 x2 x3 x4<k->I x1 x2 x3 x4->eF tab m (.loop sc x) (fr x1 x2 x3 x4) (mem x1 x2 x3 x4) Qn Qr Qe:=by
  intro k
  induction k with
  | zero=>intro x1 x2 x3 x4 h;omega
  | succ k ih=>
   intro x1 x2 x3 x4 h hi
   exact step x1 x2 x3 x4 hi fun y1 y2 y3 y4 hy hm=>ih y1 y2 y3 y4 (by omega) hy
 exact key (mea z1 z2 z3 z4+1) z1 z2 z3 z4 (by omega) h0
theorem UF {A1:Type} {A2:Type} {A3:Type} {A4:Type} {A5:Type} {tab:FuncId->Option AF} {m:Nat} {sc:List Nat} {x:AC} {a:List PV} {M:Mem} {Qn Qr:List PV->Mem->Prop} {Qe:Nat->List PV->Mem->Prop} (I:A1->A2->A3->A4->A5->Prop) (fr:A1->A2->A3->A4->A5->List PV) (mem:A1->A2->A3->A4->A5->Mem) (mea:A1->A2->A3->A4->A5->Nat)
  (z1:A1) (z2:A2) (z3:A3) (z4:A4) (z5:A5) (h0:I z1 z2 z3 z4 z5) (hw:PWeak a (fr z1 z2 z3 z4 z5)) (hM:M=mem z1 z2 z3 z4 z5)
  (step:∀(x1:A1) (x2:A2) (x3:A3) (x4:A4) (x5:A5),I x1 x2 x3 x4 x5->(∀(y1:A1) (y2:A2) (y3:A3) (y4:A4) (y5:A5),I y1 y2 y3 y4 y5->mea y1 y2 y3 y4 y5<mea x1 x2 x3 x4 x5->eF tab m (.loop sc x) (fr y1 y2 y3 y4 y5) (mem y1 y2 y3 y4 y5) Qn Qr Qe)->eF tab m (.loop sc x) (fr x1 x2 x3 x4 x5) (mem x1 x2 x3 x4 x5) Qn Qr Qe):eF tab m (.loop sc x) a M Qn Qr Qe:=by
 subst hM
 refine dC ?_ hw
 have key:∀(k:Nat) (x1:A1) (x2:A2) (x3:A3) (x4:A4) (x5:A5),mea x1 x2 x3 x4 x5<k->I x1 x2 x3 x4 x5->eF tab m (.loop sc x) (fr x1 x2 x3 x4 x5) (mem x1 x2 x3 x4 x5) Qn Qr Qe:=by
  intro k
  induction k with
  | zero=>intro x1 x2 x3 x4 x5 h;omega
  | succ k ih=>
   intro x1 x2 x3 x4 x5 h hi
   exact step x1 x2 x3 x4 x5 hi fun y1 y2 y3 y4 y5 hy hm=>ih y1 y2 y3 y4 y5 (by omega) hy
 exact key (mea z1 z2 z3 z4 z5+1) z1 z2 z3 z4 z5 (by omega) h0
theorem aCC {A1:Type} {A2:Type} {A3:Type} {A4:Type} {A5:Type} {A6:Type} {A7:Type} {tab:FuncId->Option AF} {m:Nat} {sc:List Nat} {x:AC} {a:List PV} {M:Mem} {Qn Qr:List PV->Mem->Prop} {Qe:Nat->List PV->Mem->Prop} (I:A1->A2->A3->A4->A5->A6->A7->Prop) (fr:A1->A2->A3->A4->A5->A6->A7->List PV) (mem:A1->A2->A3->A4->A5->A6->A7->Mem) (mea:A1->A2->A3->A4->A5->A6->A7->Nat)
  (z1:A1) (z2:A2) (z3:A3) (z4:A4) (z5:A5) (z6:A6) (z7:A7) (h0:I z1 z2 z3 z4 z5 z6 z7) (hw:PWeak a (fr z1 z2 z3 z4 z5 z6 z7)) (hM:M=mem z1 z2 z3 z4 z5 z6 z7)
  (step:∀(x1:A1) (x2:A2) (x3:A3) (x4:A4) (x5:A5) (x6:A6) (x7:A7),I x1 x2 x3 x4 x5 x6 x7->(∀(y1:A1) (y2:A2) (y3:A3) (y4:A4) (y5:A5) (y6:A6) (y7:A7),I y1 y2 y3 y4 y5 y6 y7->mea y1 y2 y3 y4 y5 y6 y7<mea x1 x2 x3 x4 x5 x6 x7->eF tab m (.loop sc x) (fr y1 y2 y3 y4 y5 y6 y7) (mem y1 y2 y3 y4 y5 y6 y7) Qn Qr Qe)->eF tab m (.loop sc x) (fr x1 x2 x3 x4 x5 x6 x7) (mem x1 x2 x3 x4 x5 x6 x7) Qn Qr Qe):eF tab m (.loop sc x) a M Qn Qr Qe:=by
 subst hM
 refine dC ?_ hw
 have key:∀(k:Nat) (x1:A1) (x2:A2) (x3:A3) (x4:A4) (x5:A5) (x6:A6) (x7:A7),mea x1 x2 x3 x4 x5 x6 x7<k->I x1 x2 x3 x4 x5 x6 x7->eF tab m (.loop sc x) (fr x1 x2 x3 x4 x5 x6 x7) (mem x1 x2 x3 x4 x5 x6 x7) Qn Qr Qe:=by
  intro k
  induction k with
  | zero=>intro x1 x2 x3 x4 x5 x6 x7 h;omega
  | succ k ih=>
   intro x1 x2 x3 x4 x5 x6 x7 h hi
   exact step x1 x2 x3 x4 x5 x6 x7 hi fun y1 y2 y3 y4 y5 y6 y7 hy hm=>ih y1 y2 y3 y4 y5 y6 y7 (by omega) hy
 exact key (mea z1 z2 z3 z4 z5 z6 z7+1) z1 z2 z3 z4 z5 z6 z7 (by omega) h0
attribute [irreducible] QIf qG CI ED Z1 ZOb fT WM Z8 NN aAa CH tM KY H5 WU vC y9 qE qF hI oA RX RO RD RS XI IJ NS EK EL
mutual
def PV.under (m:Nat):PV->Bool
 | .ptr id _ _=>decide (id<m)
 | .ref id _ _ _ _=>decide (id<m)
 | .map id=>decide (id<m)
 | .yld id f=>decide (id<m)&&cF m f
 | .cp cs _=>cF m cs
 | .sl _ _ _ _ cs=>cF m cs
 | .func _ f c=>cF m f&&cF m c
 | .iface _ v=>PV.under m v
 | .agg cs=>cF m cs
 | .tuple cs=>cF m cs
 | .junk=>true
 | .bool _=>true
 | .int _ _=>true
 | .str _=>true
 | .nilptr=>true
 | .nils=>true
 | .nilmap=>true
 | .nilfunc=>true
 | .niliface=>true
def cF (m:Nat):List PV->Bool
 | []=>true
 | v::l=>PV.under m v&&cF m l
end
theorem fV (m:Nat):∀(l:List PV),cF m l=true↔∀v∈l,v.under m=true
 | []=>by simp[cF]
 | v::l=>by simp[cF,fV m l]
theorem gY {m:Nat} {l:List PV} (h:cF m l=true) {i:Nat} {y:PV} (hy:l[i]? =some y):y.under m=true:=(fV m l).1 h y (List.mem_of_getElem? hy)
theorem dH (m:Nat) (k:IntKind) (xs:List Int):cF m (xs.map (PV.int k))=true:=(fV m _).2 fun v hv=>by
 obtain⟨x,_,rfl⟩:=List.mem_map.1 hv;simp[PV.under]
theorem fU {α:Type} (m:Nat) (f:α->PV) (hf:∀x,(f x).under m=true) (xs:List α):cF m (xs.map f)=true:=(fV m _).2 fun v hv=>by
 obtain⟨x,_,rfl⟩:=List.mem_map.1 hv;exact hf x
theorem lX (m:Nat) (l l':List PV):cF m (l++l')=(cF m l&&cF m l'):=by
 induction l with
 | nil=>simp[cF]
 | cons v l ih=>simp[cF,ih,Bool.and_assoc]
theorem tT {m:Nat} {l:List PV} (h:cF m l=true) (k:Nat):cF m (l.drop k)=true:=(fV m _).2 fun v hv=>(fV m l).1 h v (List.mem_of_mem_drop hv)
theorem tS {m:Nat} {l:List PV} (h:cF m l=true) (k:Nat):cF m (l.take k)=true:=(fV m _).2 fun v hv=>(fV m l).1 h v (List.mem_of_mem_take hv)
theorem RepV.low {w w':PWd} {m:Nat} (h0:w'.n0=w.n0) (hi:∀b o,w.imm b=some o->w'.imm b=some o) (he:∀id,id<m->w'.env id=w.env id) {v:PV} {x:AV} (h:RepV w v x):v.under m=true->RepV w' v x:=by
 induction h with
 | junk x=>intro _;exact .junk x
 | bool b=>intro _;exact .bool b
 | int k n=>intro _;exact .int k n
 | str s=>intro _;exact .str s
 | nilptr=>intro _;exact .nilptr
 | nils=>intro _;exact .nils
 | nilmap=>intro _;exact .nilmap
 | nilfunc=>intro _;exact .nilfunc
 | niliface=>intro _;exact .niliface
 | ptr h1 h2 h3=>intro hb;simp only[PV.under,decide_eq_true_eq]at hb;exact .ptr (by rw[he _ hb];exact h1) h2 h3
 | ptrS x q h1 h2=>intro hb;simp only[PV.under,decide_eq_true_eq]at hb;exact .ptrS x q (by rw[he _ hb];exact h1) h2
 | cp h1 h2 h3 ih=>intro hb;simp only[PV.under]at hb;exact .cp (hi _ _ h1) h2 (fun i y z p q=>ih i y z p q (gY hb p))
 | sl h1 h2 h3 h4 h5 h7 h6 ih=>intro hb;simp only[PV.under]at hb;exact .sl (hi _ _ h1) h2 h3 h4 (by rw[h0];exact h5) (by rw[h0];exact h7) (fun i y z p q=>ih i y z p q (gY hb p))
 | slN=>intro _;exact .slN
 | ref h1 h2 h3=>intro hb;simp only[PV.under,decide_eq_true_eq]at hb;exact .ref (by rw[he _ hb];exact h1) h2 h3
 | refN h1 h2 h3=>intro hb;simp only[PV.under,decide_eq_true_eq]at hb;exact .refN (by rw[he _ hb];exact h1) h2 h3
 | refS x q h1 h2=>intro hb;simp only[PV.under,decide_eq_true_eq]at hb;exact .refS x q (by rw[he _ hb];exact h1) h2
 | map h1 h2 h3=>intro hb;simp only[PV.under,decide_eq_true_eq]at hb;exact .map (by rw[he _ hb];exact h1) h2 h3
 | mapS x q h1 h2=>intro hb;simp only[PV.under,decide_eq_true_eq]at hb;exact .mapS x q (by rw[he _ hb];exact h1) h2
 | func h1 h2 h3 h4 h5 ih1 ih2=>
  intro hb;simp only[PV.under,Bool.and_eq_true]at hb
  exact .func h1 h2 h3 (fun i y z p q=>ih1 i y z p q (gY hb.1 p)) (fun i y z p q=>ih2 i y z p q (gY hb.2 p))
 | yld h1 h2 h3 h4 h5 ih=>
  intro hb;simp only[PV.under,Bool.and_eq_true,decide_eq_true_eq]at hb
  exact .yld (by rw[he _ hb.1];exact h1) h2 h3 h4 (fun i y z p q=>ih i y z p q (gY hb.2 p))
 | yldS x q h1 h2=>intro hb;simp only[PV.under,Bool.and_eq_true,decide_eq_true_eq]at hb;exact .yldS x q (by rw[he _ hb.1];exact h1) h2
 | iface h ih=>intro hb;simp only[PV.under]at hb;exact .iface (ih hb)
 | agg h1 h2 ih=>intro hb;simp only[PV.under]at hb;exact .agg h1 (fun i y z p q=>ih i y z p q (gY hb p))
 | tuple h1 h2 ih=>intro hb;simp only[PV.under]at hb;exact .tuple h1 (fun i y z p q=>ih i y z p q (gY hb p))
theorem RepL.low {w w':PWd} {m:Nat} (h0:w'.n0=w.n0) (hi:∀b o,w.imm b=some o->w'.imm b=some o) (he:∀id,id<m->w'.env id=w.env id) {l:List PV} {l':List AV} (h:RepL w l l') (hb:cF m l=true):RepL w' l l':=
 ⟨h.len,fun i y z p q=>(h.get i y z p q).low h0 hi he (gY hb p)⟩
def eT (m:Nat) (M:Mem):PV->Option PV
 | .ref id g sz off n=>if id<m then some (.ref id g sz off n) else match M[id]? with
  | some (.cells g' _ cs)=>if g'=g/\off+n*sz<=cs.length/\cF m cs=true then some (.sl false true sz n (dS cs off (n*sz))) else none
  | _=>none
 | v=>if v.under m=true then some v else none
def gC (m:Nat) (M:Mem):List PV->Option (List PV)
 | []=>some []
 | v::l=>match eT m M v,gC m M l with
  | some x,some xs=>some (x::xs)
  | _,_=>none
def fH (m:Nat) (M:Mem):PV->Option PV
 | .agg cs=>(gC m M cs).map .agg
 | v=>eT m M v
def iU (m:Nat) (M:Mem):List PV->Option (List PV)
 | []=>some []
 | v::l=>match fH m M v,iU m M l with
  | some x,some xs=>some (x::xs)
  | _,_=>none
def jC (m:Nat) (M:Mem):PV->Option PV
 | .tuple cs=>(iU m M cs).map .tuple
 | v=>fH m M v
theorem yC {m:Nat} {M:Mem} {v r:PV} (hr:eT m M v=some r):r.under m=true:=by
 have other:(if v.under m=true then some v else none)=some r->r.under m=true:=by
  intro hr
  split at hr
  ·rename_i hb;cases hr;exact hb
  ·cases hr
 unfold eT at hr
 split at hr
 ·split at hr
  ·rename_i hi;cases hr;simp[PV.under,hi]
  ·split at hr
   ·split at hr
    ·rename_i hc;cases hr;simp only[PV.under];exact tS (tT hc.2.2 _) _
    ·cases hr
   ·cases hr
 ·exact other hr
theorem yA {m:Nat} {M:Mem} :∀{l r:List PV},gC m M l=some r->cF m r=true
 | [],r,hr=>by simp only[gC]at hr;cases hr;rfl
 | v::l,r,hr=>by
  simp only[gC]at hr
  split at hr
  ·rename_i a b h1 h2;cases hr;simp[cF,yC h1,yA h2]
  ·cases hr
theorem yB {m:Nat} {M:Mem} {v r:PV} (hr:fH m M v=some r):r.under m=true:=by
 unfold fH at hr
 split at hr
 ·rename_i cs
  cases hq:gC m M cs with
  | none=>rw[hq]at hr;cases hr
  | some cs2=>rw[hq]at hr;cases hr;simp only[PV.under];exact yA hq
 ·exact yC hr
theorem uM {m:Nat} {M:Mem} :∀{l r:List PV},iU m M l=some r->cF m r=true
 | [],r,hr=>by simp only[iU]at hr;cases hr;rfl
 | v::l,r,hr=>by
  simp only[iU]at hr
  split at hr
  ·rename_i a b h1 h2;cases hr;simp[cF,yB h1,uM h2]
  ·cases hr
theorem QA {m:Nat} {M:Mem} {v r:PV} (hr:jC m M v=some r):r.under m=true:=by
 unfold jC at hr
 split at hr
 ·rename_i cs
  cases hq:iU m M cs with
  | none=>rw[hq]at hr;cases hr
  | some cs2=>rw[hq]at hr;cases hr;simp only[PV.under];exact uM hq
 ·exact yB hr
def PObj.under (m:Nat):PObj->Bool
 | .cells _ _ cs=>cF m cs
 | .gone=>true
 | _=>false
open Classical in
noncomputable def PWd.cut (w:PWd) (h:H) (m:Nat) (M:Mem):PWd where
 n0:=w.n0
 id0:=w.id0
 env:=fun id=>if id<m then w.env id else none
 imm:=fun b=>if ∃id,m<=id/\LiveAt w M id b then h.get b else w.imm b
open Classical in
theorem lV {w:PWd} {h:H} {M:Mem} (s:PSt w h M) (m:Nat):∀b o,w.imm b=some o->(w.cut h m M).imm b=some o:=by
 intro b o hb
 show(if _ then _ else _)=_
 split
 ·exact s.imm b o hb
 ·exact hb
theorem iR {w:PWd} {h:H} {M:Mem} {m id:Nat} (hi:id<m):(w.cut h m M).env id=w.env id:=by
 show(if _ then _ else _)=_;rw[if_pos hi]
theorem rQ {w:PWd} {h:H} {M:Mem} {m id x:Nat} (hl:LiveAt (w.cut h m M) (M.take m) id x):id<m/\LiveAt w M id x:=by
 obtain⟨o,e,h1,h2,h3,h4⟩:=hl
 have hi:id<m:=by
  have:=cM h1
  simp at this;omega
 rw[iR hi]at h3
 rw[List.getElem?_take,if_pos hi]at h1
 exact⟨hi,o,e,h1,h2,h3,h4⟩
open Classical in
theorem PSt.cut {w:PWd} {h:H} {M:Mem} (s:PSt w h M) {m:Nat} (hm:m<=M.length) (hb:(M.take m).all (PObj.under m)=true):
  PSt (w.cut h m M) h (M.take m)/\∀(w0:PWd) (h0:H) (M0:Mem),PStp m w0 h0 M0 w h M->PStp m w0 h0 M0 (w.cut h m M) h (M.take m):=by
 have hlen:(M.take m).length=m:=by simp;omega
 refine⟨⟨?_,?_,?_,?_,?_,?_,s.base⟩,fun w0 h0 M0 t=>⟨by omega,⟨t.le.n0,t.le.id0,fun b o hbo=>lV s m b o (t.le.imm b o hbo),fun id hi e he=>?_⟩,t.next,t.keep,fun id x hl hx=>t.live id x (rQ hl).2 hx,?_⟩⟩
 ·intro b o hbo
  have hbo:(if ∃id,m<=id/\LiveAt w M id b then h.get b else w.imm b)=some o:=hbo
  split at hbo
  ·exact hbo
  ·exact s.imm b o hbo
 ·intro id e he
  have he:(if id<m then w.env id else none)=some e:=he
  split at he
  ·rename_i hi;omega
  ·cases he
 ·intro id e b he hbl
  have he:(if id<m then w.env id else none)=some e:=he
  split at he
  ·exact s.blk id e b he hbl
  ·cases he
 ·intro id o ho
  have hi:id<m:=by have:=cM ho;omega
  have ho':=ho
  rw[List.getElem?_take,if_pos hi]at ho'
  have hbo:o.under m=true:=by
   rw[List.all_eq_true]at hb;exact hb o (List.mem_of_getElem? ho)
  have r:=s.obj id o ho'
  cases o with
  | cells g ver cs=>
   obtain⟨e,h1,h2,h3⟩:=r
   refine⟨e,by rw[iR hi];exact h1,h2,?_⟩
   cases hbl:e.blk with
   | none=>rw[hbl]at h3;exact h3
   | some b=>
    rw[hbl]at h3
    obtain⟨bcs,h4,h5⟩:=h3
    exact⟨bcs,h4,h5.low (w:=w) (w':=w.cut h m M) rfl (lV s m) (fun id hi=>iR hi) hbo⟩
  | gone=>trivial
  | _=>simp[PObj.under]at hbo
 ·intro i j x h1 h2;exact s.inj i j x (rQ h1).2 (rQ h2).2
 ·intro i x h1
  obtain⟨hi,hl⟩:=rQ h1
  refine⟨?_,(s.sep i x hl).2⟩
  show(if _ then _ else _)=_
  split
  ·rename_i hc
   obtain⟨j,hj,hl2⟩:=hc
   have:=s.inj i j x hl hl2
   omega
  ·exact(s.sep i x hl).1
 ·rw[iR hi];exact t.le.env id hi e he
 ·intro x hx
  have hx:(if ∃id,m<=id/\LiveAt w M id x then h.get x else w.imm x)≠none:=hx
  split at hx
  ·rename_i hc
   obtain⟨id,hid,hl⟩:=hc
   rcases Nat.lt_or_ge x h0.next with hxn | hxn
   ·exact .inr (.inr ⟨id,hid,t.live id x hl hxn⟩)
   ·exact .inr (.inl hxn)
  ·exact t.new x hx
open Classical in
theorem HE {w:PWd} {h:H} {M:Mem} (s:PSt w h M) {m:Nat} (h0:w.id0<=m) {v r:PV} {x:AV} (hv:RepV w v x) (hr:eT m M v=some r):RepV (w.cut h m M) r x:=by
 have low:∀{u:PV},RepV w u x->u.under m=true->RepV (w.cut h m M) u x:=fun hu hb=>hu.low (w:=w) (w':=w.cut h m M) rfl (lV s m) (fun id hi=>iR hi) hb
 have other:(if v.under m=true then some v else none)=some r->RepV (w.cut h m M) r x:=by
  intro hr
  split at hr
  ·rename_i hb;cases hr;exact low hv hb
  ·cases hr
 unfold eT at hr
 split at hr
 ·rename_i id g sz off n
  split at hr
  ·rename_i hi
   cases hr
   exact low hv (by simp[PV.under,hi])
  ·rename_i hi
   split at hr
   ·rename_i g' ver cs hm
    split at hr
    ·rename_i hc
     obtain⟨rfl,hl,hb⟩:=hc
     cases hr
     obtain⟨e,p1,p2,p3⟩:=s.refAt hm hv
     rcases p3 with⟨rfl,rfl,rfl,_,rfl⟩ | ⟨fl,b,bcs,rfl,q1,q2,q3,q4⟩
     ·simpa [dS] using RepV.slN
     ·have hlive:∃i,m<=i/\LiveAt w M i b:=⟨id,by omega,q4⟩
      have him:(w.cut h m M).imm b=some (.cells (e.v0+ver) true bcs):=by
       show(if _ then _ else _)=_
       rw[if_pos hlive];exact q2
      have hlen:(dS cs off (n*sz)).length=n*sz:=by simp[dS];omega
      have hs:=(gV q3 off (n*sz)).low (w:=w) (w':=w.cut h m M) rfl (lV s m) (fun id hi=>iR hi) (tS (tT hb off) _)
      refine .sl him (by rw[hlen,<-q3.len];exact hl) hlen (fun hf=>by cases hf) (fun _=>⟨(s.sep id b q4).2 (by omega),rfl⟩) (fun q=>by cases q) (fun i y z hy hz=>hs.get i y z hy ?_)
      rw[List.getElem?_take,if_pos (by have:=cM hy;omega),List.getElem?_drop];exact hz
    ·cases hr
   ·cases hr
 ·exact other hr
theorem rM {w:PWd} {h:H} {M:Mem} (s:PSt w h M) {m:Nat} (h0:w.id0<=m):∀{l r:List PV} {l':List AV},RepL w l l'->gC m M l=some r->RepL (w.cut h m M) r l'
 | [],r,l',hl,hr=>by
  simp only[gC]at hr;cases hr
  exact⟨hl.len,fun i y z h=>by simp at h⟩
 | v::l,r,[],hl,hr=>by have:=hl.len;simp at this
 | v::l,r,x::l',hl,hr=>by
  simp only[gC]at hr
  split at hr
  ·rename_i a b h1 h2
   cases hr
   exact .cons (HE s h0 hl.hd h1) (rM s h0 hl.tl h2)
  ·cases hr
theorem HD {w:PWd} {h:H} {M:Mem} (s:PSt w h M) {m:Nat} (h0:w.id0<=m) {v r:PV} {x:AV} (hv:RepV w v x) (hr:fH m M v=some r):RepV (w.cut h m M) r x:=by
 unfold fH at hr
 split at hr
 ·rename_i cs
  cases hq:gC m M cs with
  | none=>rw[hq]at hr;cases hr
  | some cs2=>
   rw[hq]at hr;cases hr
   obtain⟨cs',rfl,hl⟩:=nL hv
   have:=rM s h0 hl hq
   exact .agg this.len this.get
 ·exact HE s h0 hv hr
theorem B3 {w:PWd} {h:H} {M:Mem} (s:PSt w h M) {m:Nat} (h0:w.id0<=m):∀{l r:List PV} {l':List AV},RepL w l l'->iU m M l=some r->RepL (w.cut h m M) r l'
 | [],r,l',hl,hr=>by
  simp only[iU]at hr;cases hr
  exact⟨hl.len,fun i y z h=>by simp at h⟩
 | v::l,r,[],hl,hr=>by have:=hl.len;simp at this
 | v::l,r,x::l',hl,hr=>by
  simp only[iU]at hr
  split at hr
  ·rename_i a b h1 h2
   cases hr
   exact .cons (HD s h0 hl.hd h1) (B3 s h0 hl.tl h2)
  ·cases hr
theorem D1 {w:PWd} {h:H} {M:Mem} (s:PSt w h M) {m:Nat} (h0:w.id0<=m) {v r:PV} {x:AV} (hv:RepV w v x) (hr:jC m M v=some r):RepV (w.cut h m M) r x:=by
 unfold jC at hr
 split at hr
 ·rename_i cs
  cases hq:iU m M cs with
  | none=>rw[hq]at hr;cases hr
  | some cs2=>
   rw[hq]at hr;cases hr
   obtain⟨cs',rfl,hl⟩:=oZ hv
   have:=B3 s h0 hl hq
   exact .tuple this.len this.get
 ·exact HD s h0 hv hr
section
variable {tab:FuncId->Option AF}
theorem jV {L:Rec} {g:FuncId} {args:List AV} {h:H} {K K':AV->H->Prop} (hc:C L g args h K) (hk:∀v h',K v h'->K' v h'):C L g args h K':=by
 unfold C at hc ⊢
 obtain⟨v,h',h1,h2⟩:=hc
 exact⟨v,h',h1,hk v h' h2⟩
theorem SemC.mono {g:FuncId} {args:List PV} {M:Mem} {K K':PV->Mem->Prop} (hc:SemC tab g args M K) (hk:∀v M',K v M'->K' v M'):SemC tab g args M K':=
 fun w h args' h0 s ha=>jV (hc w h args' h0 s ha) fun v h' ⟨w',r,M',p1,p2,p3,p4⟩=>⟨w',r,M',p1,p2,p3,hk _ _ p4⟩
theorem zD {g:FuncId} {args:List PV} {M:Mem} {K:PV->Mem->Prop} (hc:SemC tab g args M fun r M'=>(M'.take M.length).all (PObj.under M.length)=true/\iH (jC M.length M' r) fun r'=>K r' (M'.take M.length)):SemC tab g args M K:=by
 intro w h args' h0 s ha
 refine jV (hc w h args' h0 s ha) ?_
 rintro v h' ⟨w',r,M',p1,p2,p3,p4,r',p5,p6⟩
 obtain⟨q1,q2⟩:=p2.cut p1.len p4
 exact⟨_,r',_,q2 w h M p1,q1,D1 p2 (by rw[p1.le.id0];exact h0) p3 p5,p6⟩
theorem qK {g:FuncId} {args:List PV} {M:Mem} {K:PV->Mem->Prop} (hb:cF 0 args=true) (hc:SemC tab g args [] fun r M'=>iH (jC 0 M' r) fun r'=>K r' M):SemC tab g args M K:=by
 intro w h args' h0 s ha
 let w0:PWd:={w with env:=fun _=>none,id0:=0}
 have s0:PSt w0 h []:=⟨s.imm,(fun id e he=>by cases he),(fun id e b he=>by cases he),(fun id o ho=>by simp at ho),(fun i j x ⟨_,_,h1,_⟩=>by simp at h1),(fun i x ⟨_,_,h1,_⟩=>by simp at h1),s.base⟩
 have a0:RepL w0 args args':=ha.low (w:=w) (w':=w0) rfl (fun _ _ h=>h) (fun id hi=>by omega) hb
 refine jV (hc w0 h args' (Nat.le_refl _) s0 a0) ?_
 rintro v h' ⟨w1,r,M1,p1,p2,p3,r',p5,p6⟩
 have q1:=D1 p2 (by rw[p1.le.id0];exact Nat.le_refl _) p3 p5
 obtain⟨z1,z2⟩:=p2.cut (m:=0) (Nat.zero_le _) (by simp)
 have p1:=z2 w0 h [] p1
 have hle:w1.n0=w.n0:=p1.le.n0
 have hnl:∀x id,¬LiveAt w0 [] id x:=fun x id ⟨_,_,h1,_⟩=>by simp at h1
 have hkeep:∀x,x<h.next->h'.get x=h.get x:=fun x hx=>p1.keep x hx (hnl x)
 let w2:PWd:={n0:=w.n0,id0:=w.id0,env:=w.env,imm:=(w1.cut h' 0 M1).imm}
 have hl:Le M.length w w2:=⟨rfl,rfl,fun b o hbo=>p1.le.imm b o hbo,fun id hi e he=>⟨e,he,.inr rfl⟩⟩
 have hr:RepV w2 r' v:=by
  exact q1.low (w:=w1.cut h' 0 M1) (w':=w2) (m:=0) hle.symm (fun _ _ h=>h) (fun id hi=>by omega) (QA p5)
 refine⟨w2,r',M,⟨Nat.le_refl _,hl,p1.next,fun x hx _=>hkeep x hx,fun id x hlv _=>hlv,?_⟩,⟨fun b o hbo=>z1.imm b o hbo,s.env,?_,?_,s.inj,?_,Nat.le_trans s.base p1.next⟩,hr,p6⟩
 ·intro x hx
  rcases p1.new x hx with e | e | ⟨id,_,e⟩
  ·exact .inl e
  ·exact .inr (.inl e)
  ·exact absurd e (hnl x id)
 ·intro id e b he hbl;exact Nat.lt_of_lt_of_le (s.blk id e b he hbl) p1.next
 ·intro id o ho
  exact RepO.mono s hl (s.obj id o ho) (fun e he=>he) (fun e b he hbl=>hkeep b (s.blk id e b he hbl))
 ·intro i x hlv
  have hlv:LiveAt w M i x:=hlv
  refine⟨?_,(s.sep i x hlv).2⟩
  show(w1.cut h' 0 M1).imm x=none
  cases hc:(w1.cut h' 0 M1).imm x with
  | none=>rfl
  | some o=>
   rcases p1.new x (by rw[hc];simp) with e | e | ⟨id,_,e⟩
   ·exact absurd (s.sep i x hlv).1 e
   ·have:=hlv.next s;omega
   ·exact absurd e (hnl x id)
end
section
variable {tab:FuncId->Option AF}
def NQ (res:List ARes) (K:PV->Mem->Prop) (a:List PV) (M:Mem):Prop:=jA res a M fun vs=>K (ppack vs) M
def oW (res:List ARes) (Q:PV->Prop) (a:List PV) (M:Mem):Prop:=jA res a M fun vs=>iH (jC 0 M (ppack vs)) Q
def PKNo (i:Nat) (a:List PV) (M:Mem):Prop:=False
theorem XJ (res:List ARes) (K:PV->Mem->Prop) (a:List PV) (M:Mem):NQ res K a M=jA res a M fun vs=>K (ppack vs) M:=(rfl)
theorem RL (res:List ARes) (Q:PV->Prop) (a:List PV) (M:Mem):oW res Q a M=jA res a M fun vs=>fT (jC 0 M (ppack vs)) Q ⟨0⟩:=by unfold fT;rfl
theorem RJ (a:List PV) (M:Mem) (K:List PV->Prop):jA [] a M K=K []:=(rfl)
theorem RI (t:Nat) (rs:List ARes) (a:List PV) (M:Mem) (K:List PV->Prop):jA (.tmp t::rs) a M K=jA rs a M fun vs=>K (ptget a t::vs):=(rfl)
theorem LO (t:Nat) (rs:List ARes) (a:List PV) (M:Mem) (K:List PV->Prop):jA (.cell t::rs) a M K=CH (ptget a t) M (fun v _=>jA rs a M fun vs=>K (v::vs)) ⟨0⟩:=by unfold CH;rfl
theorem II (t n:Nat) (rs:List ARes) (a:List PV) (M:Mem) (K:List PV->Prop):jA (.cells t n::rs) a M K=tM n (ptget a t) M (fun v _=>jA rs a M fun vs=>K (v::vs)) ⟨0⟩:=by unfold tM;rfl
theorem dF {g:FuncId} {F:AFn} (hg:tab g=some (.fn F)) {args:List PV} {M:Mem} {K:PV->Mem->Prop}
  (hp:RX tab M.length F.body (ppad args F.ntmps) M (NQ F.results K) (NQ F.results K) PKNo):SemC tab g args M K:=
 fA hg (H9 _ _ hp)
theorem cW {g:FuncId} {F:AFn} (hg:tab g=some (.fn F)) {args:List PV} {M:Mem} {K:PV->Mem->Prop} (hb:cF 0 args=true)
  (hp:RX tab 0 F.body (ppad args F.ntmps) [] (oW F.results fun r=>K r M) (oW F.results fun r=>K r M) PKNo):SemC tab g args M K:=
 qK hb (dF hg hp)
end
def PvWk (r r':PV):Prop:=∀w x,RepV w r x->RepV w r' x
theorem PvWk.refl (r:PV):PvWk r r:=fun _ _ h=>h
theorem PvWk.nils (fl own:Bool) (sz:Nat):PvWk .nils (.sl fl own sz 0 []):=fun w x h=>by
 rw[fG h];exact .slN
theorem PvWk.sl (fl:Bool) (sz n:Nat) (cs:List PV):PvWk (.sl fl true sz n cs) (.sl false true sz n cs):=fun w x h=>by
 cases h with
 | sl h1 h2 h3 h4 h5 h7 h6=>exact .sl h1 h2 h3 (fun q=>by cases q) h5 (fun q=>by cases q) h6
 | slN=>exact .slN
theorem PvWk.sl0 (fl own:Bool) (sz n:Nat) (cs:List PV):PvWk (.sl fl own sz n cs) (.sl true false sz n cs):=fun w x h=>by
 cases h with
 | sl h1 h2 h3 h4 h5 h7 h6=>exact .sl h1 h2 h3 (fun _ q=>by cases q) (fun q=>by cases q) (fun _ q=>by cases q) h6
 | slN=>exact .slN
theorem PvWk.agg {l l':List PV} (hl:l.length=l'.length) (h:∀(i:Nat) (y z:PV),l[i]? =some y->l'[i]? =some z->PvWk y z):PvWk (.agg l) (.agg l'):=fun w x hx=>by
 obtain⟨cs',rfl,hr⟩:=nL hx
 refine .agg (by rw[<-hl];exact hr.len) fun i y z h1 h2=>?_
 have hi:i<l.length:=by rw[hl];exact cM h1
 exact h i l[i] y (List.getElem?_eq_getElem hi) h1 w z (hr.get i _ _ (List.getElem?_eq_getElem hi) h2)
theorem PvWk.tuple {l l':List PV} (hl:l.length=l'.length) (h:∀(i:Nat) (y z:PV),l[i]? =some y->l'[i]? =some z->PvWk y z):PvWk (.tuple l) (.tuple l'):=fun w x hx=>by
 obtain⟨cs',rfl,hr⟩:=oZ hx
 refine .tuple (by rw[<-hl];exact hr.len) fun i y z h1 h2=>?_
 have hi:i<l.length:=by rw[hl];exact cM h1
 exact h i l[i] y (List.getElem?_eq_getElem hi) h1 w z (hr.get i _ _ (List.getElem?_eq_getElem hi) h2)
section
variable {tab:FuncId->Option AF}
theorem nY {g:FuncId} {args:List PV} {M:Mem} {K:PV->Mem->Prop} (h:SemC tab g args M fun r M'=>∃r',PvWk r r'/\K r' M'):SemC tab g args M K:=
 fun w hh args' h0 s ha=>jV (h w hh args' h0 s ha) fun v h' ⟨w',r,M',p1,p2,p3,r',p4,p5⟩=>⟨w',r',M',p1,p2,p4 w' v p3,p5⟩
end
abbrev slI (f o:Bool) (k:IntKind) (xs:List Int):PV:= .sl f o 1 xs.length (xs.map (PV.int k))
abbrev slR (f o f' o':Bool) (k:IntKind) (su:List (List Int)):PV:= .sl f o 1 su.length (su.map (slI f' o' k))
abbrev slB (f o:Bool) (xs:List Bool):PV:= .sl f o 1 xs.length (xs.map PV.bool)
theorem IU (m:Nat):PV.under m .junk=true:=by simp[PV.under]
theorem AK (m:Nat) (k:IntKind) (n:Int):PV.under m (.int k n)=true:=by simp[PV.under]
theorem pN (m:Nat) (b:Bool):PV.under m (.bool b)=true:=by simp[PV.under]
theorem IR (m:Nat):PV.under m .nils=true:=by simp[PV.under]
theorem gP (m:Nat) (f o:Bool) (sz n:Nat) (k:IntKind) (xs:List Int):PV.under m (.sl f o sz n (xs.map (PV.int k)))=true:=by simp[PV.under,dH]
theorem N3 (m:Nat) (f o:Bool) (sz n:Nat) (xs:List Bool):PV.under m (.sl f o sz n (xs.map PV.bool))=true:=by
 simp only[PV.under];exact fU m _ (fun x=>pN m x) xs
theorem mC (m:Nat) (f o f' o':Bool) (sz n:Nat) (k:IntKind) (su:List (List Int)):PV.under m (.sl f o sz n (su.map (slI f' o' k)))=true:=by
 simp only[PV.under];exact fU m _ (fun x=>gP m f' o' 1 _ k x) su
theorem N6 (m:Nat) (cs:List PV):PV.under m (.agg cs)=cF m cs:=by simp[PV.under]
theorem EU (m:Nat) (cs:List PV):PV.under m (.tuple cs)=cF m cs:=by simp[PV.under]
theorem N5 (m id g o:Nat):PV.under m (.ptr id g o)=decide (id<m):=by simp[PV.under]
theorem N4 (m id g sz off n:Nat):PV.under m (.ref id g sz off n)=decide (id<m):=by simp[PV.under]
theorem wA (m:Nat) (fn:Go.Fn) (f c:List PV):PV.under m (.func fn f c)=(cF m f&&cF m c):=by simp[PV.under]
theorem iS (m:Nat):cF m []=true:=by simp[cF]
theorem gZ (m:Nat) (v:PV) (l:List PV):cF m (v::l)=(v.under m&&cF m l):=by simp[cF]
def D2 (o:Option PObj) (g sz off n:Nat):Option PV:=match o with
 | some (.cells g' _ cs)=>if g'=g/\off+n*sz<=cs.length/\cF 0 cs=true then some (.sl false true sz n (dS cs off (n*sz))) else none
 | _=>none
theorem PA (M:Mem) (id g sz off n:Nat):eT 0 M (.ref id g sz off n)=D2 M[id]? g sz off n:=by
 unfold eT D2
 simp only[Nat.not_lt_zero,if_false]
 all_goals (generalize M[id]? =x;rcases x with _ | o<;>first | rfl | (cases o<;>rfl))
theorem jR {g ver off n sz:Nat} {cs:List PV} (h1:off+n*sz<=cs.length) (h2:cF 0 cs=true):D2 (some (.cells g ver cs)) g sz off n=some (.sl false true sz n (dS cs off (n*sz))):=by
 unfold D2
 simp only
 rw[if_pos ⟨trivial,h1,h2⟩]
theorem S2 (M:Mem) (k:IntKind) (n:Int):jC 0 M (.int k n)=some (.int k n):=by simp[jC,fH,eT,PV.under]
theorem O5 (M:Mem) (b:Bool):jC 0 M (.bool b)=some (.bool b):=by simp[jC,fH,eT,PV.under]
theorem PB (M:Mem) (k:IntKind) (n:Int):eT 0 M (.int k n)=some (.int k n):=by simp[eT,PV.under]
theorem JR (M:Mem) (b:Bool):eT 0 M (.bool b)=some (.bool b):=by simp[eT,PV.under]
theorem JQ (M:Mem):eT 0 M .nils=some .nils:=by simp[eT,PV.under]
theorem S6 {M:Mem} {f o:Bool} {sz n:Nat} {cs:List PV} (h:cF 0 cs=true):eT 0 M (.sl f o sz n cs)=some (.sl f o sz n cs):=by simp[eT,PV.under,h]
theorem JK (M:Mem) (cs:List PV):jC 0 M (.tuple cs)=(iU 0 M cs).map .tuple:=by simp[jC]
theorem S3 (M:Mem) (cs:List PV):jC 0 M (.agg cs)=(gC 0 M cs).map .agg:=by simp[jC,fH]
theorem YF {M:Mem} {f o:Bool} {sz n:Nat} {cs:List PV} (h:cF 0 cs=true):jC 0 M (.sl f o sz n cs)=some (.sl f o sz n cs):=by simp[jC,fH,eT,PV.under,h]
theorem aBg (M:Mem) (id g sz off n:Nat):jC 0 M (.ref id g sz off n)=eT 0 M (.ref id g sz off n):=by simp[jC,fH]
theorem O4 (M:Mem):jC 0 M .nils=some .nils:=by simp[jC,fH,eT,PV.under]
theorem O9 (M:Mem) (cs:List PV):fH 0 M (.agg cs)=(gC 0 M cs).map .agg:=by simp[fH]
theorem O8 (M:Mem) (k:IntKind) (n:Int):fH 0 M (.int k n)=some (.int k n):=by simp[fH,eT,PV.under]
theorem JP (M:Mem) (b:Bool):fH 0 M (.bool b)=some (.bool b):=by simp[fH,eT,PV.under]
theorem JO (M:Mem):fH 0 M .nils=some .nils:=by simp[fH,eT,PV.under]
theorem S5 {M:Mem} {f o:Bool} {sz n:Nat} {cs:List PV} (h:cF 0 cs=true):fH 0 M (.sl f o sz n cs)=some (.sl f o sz n cs):=by simp[fH,eT,PV.under,h]
theorem YG (M:Mem) (id g sz off n:Nat):fH 0 M (.ref id g sz off n)=eT 0 M (.ref id g sz off n):=by simp[fH]
theorem O6 (M:Mem):gC 0 M []=some []:=(rfl)
def xH (x:Option PV) (l:Option (List PV)):Option (List PV):=match x,l with
 | some x,some xs=>some (x::xs)
 | _,_=>none
theorem JZ (x:PV) (l:List PV):xH (some x) (some l)=some (x::l):=(rfl)
theorem JM (M:Mem) (v:PV) (l:List PV):gC 0 M (v::l)=xH (eT 0 M v) (gC 0 M l):=by
 simp only[gC,xH]
 all_goals (split<;>simp_all)
theorem JN (M:Mem):iU 0 M []=some []:=(rfl)
theorem F6 (M:Mem) (v:PV) (l:List PV):iU 0 M (v::l)=xH (fH 0 M v) (iU 0 M l):=by
 simp only[iU,xH]
 all_goals (split<;>simp_all)
theorem dR (m:Nat) (f o:Bool) (k:IntKind) (su:List (List Int)):cF m (su.map (slI f o k))=true:=fU m _ (fun x=>gP m f o 1 _ k x) su
theorem eU (m:Nat) (xs:List Bool):cF m (xs.map PV.bool)=true:=fU m _ (fun x=>pN m x) xs
theorem FV {α:Type} (f:α->PV) (xs:List α):dS (xs.map f) 0 xs.length=xs.map f:=dO _ _ (by simp)
theorem H1 (f o:Bool) (k:IntKind) (su:List (List Int)):(su.map (slI f o k)).all PV.one=true:=by simp[PV.one]
theorem AB (xs:List Bool):(xs.map PV.bool).all PV.one=true:=by simp[PV.one]
attribute [irreducible] NQ oW PKNo
section
variable {tab:FuncId->Option AF} {m:Nat} {c:AC} {Qn Qr:List PV->Mem->Prop} {Qe:Nat->List PV->Mem->Prop}
theorem dV {a b:List PV} {M N:Mem} (h:eF tab m c b N Qn Qr Qe) (hw:PWeak a b) (hM:M=N):eF tab m c a M Qn Qr Qe:=by
 subst hM;exact dC h hw
structure GStep (m:Nat) (a:List PV) (M:Mem) (b:List PV) (N:Mem):Prop where
 len:m<=M.length->m<=N.length
 go:∀(w:PWd) (hh:H) (a':List AV),w.id0<=m->m<=M.length->PSt w hh M->RepL w a a'->∃w',PStp m w hh M w' hh N/\PSt w' hh N/\RepL w' b a'
theorem eA {a b:List PV} {M N:Mem} (g:GStep m a M b N) (h:eF tab m c b N Qn Qr Qe):eF tab m c a M Qn Qr Qe:=by
 intro w hh a' h0 hm s ha
 obtain⟨w',t,s',ha'⟩:=g.go w hh a' h0 hm s ha
 exact lI (h w' hh a' (by rw[t.le.id0];exact h0) (g.len hm) s' ha') (fun _ _ q=>q.trans t) (fun _ _ q=>q.trans t) (fun _ _ _ q=>q.trans t)
theorem GStep.trans {a b d:List PV} {M N O:Mem} (g:GStep m a M b N) (k:GStep m b N d O):GStep m a M d O:=
 ⟨fun h=>k.len (g.len h),fun w hh a' h0 hm s ha=>by
  obtain⟨w1,t1,s1,a1⟩:=g.go w hh a' h0 hm s ha
  obtain⟨w2,t2,s2,a2⟩:=k.go w1 hh a' (by rw[t1.le.id0];exact h0) (g.len hm) s1 a1
  exact⟨w2,t1.trans t2 (Nat.le_refl _),s2,a2⟩⟩
def Gh (m:Nat) (Q:List PV->Mem->Prop) (a:List PV) (M:Mem):Prop:=∃b N,GStep m a M b N/\Q b N
theorem Gh.same {Q:List PV->Mem->Prop} {a:List PV} {M:Mem} (h:Q a M):Gh m Q a M:=
 ⟨a,M,⟨fun h=>h,fun w hh a' h0 hm s ha=>⟨w,PStp.refl hm w hh,s,ha⟩⟩,h⟩
theorem Gh.step {Q:List PV->Mem->Prop} {a b:List PV} {M N:Mem} (g:GStep m a M b N) (h:Gh m Q b N):Gh m Q a M:=by
 obtain⟨d,O,k,hq⟩:=h
 exact⟨d,O,g.trans k,hq⟩
theorem GStep.nil {a b:List PV} {M N:Mem} (t sz:Nat) (ht:ptget a t= .nils) (hb:ptset a t (.ref M.length 0 sz 0 0)=b) (hN:M++[.cells 0 0 []]=N):GStep m a M b N:=by
 subst hb hN
 refine⟨fun hm=>by simp;omega,fun w hh a' h0 hm s ha=>?_⟩
 obtain⟨s1,s2⟩:=s.allocNone (v0:=0)
 refine⟨_,s2.weaken hm,s1,?_⟩
 have h1:=ha.tget t
 rw[ht]at h1
 have h2:=ha.mono s2.le s.env
 have h3:=h2.tset t (v:= .ref M.length 0 sz 0 0) (x:=tget a' t) (by
  rw[fG h1]
  exact .refN (e:=⟨none,0,0⟩) (by show(if _=_ then _ else _)=_;rw[if_pos rfl]) rfl rfl)
 have h4:tset a' t (tget a' t)=a':=by
  have:∀(l:List AV) (t:Nat),tset l t (tget l t)=l:=by
   intro l
   induction l with
   | nil=>intro t;rfl
   | cons x l ih=>intro t;cases t with
    | zero=>rfl
    | succ t=>simp[tset,tget,ih t]
  exact this a' t
 rwa [h4]at h3
theorem PSt.reobj {w:PWd} {h:H} {M:Mem} (s:PSt w h M) {id g ver:Nat} {cs cs2:List PV} (hm:M[id]? =some (.cells g ver cs)) (hr:∀bcs,RepL w cs bcs->RepL w cs2 bcs):
  PSt w h (M.set id (.cells g ver cs2))/\∀m,m<=M.length->PStp m w h M w h (M.set id (.cells g ver cs2)):=by
 have hid:=cM hm
 have live:∀i x,LiveAt w (M.set id (.cells g ver cs2)) i x->LiveAt w M i x:=by
  rintro i x ⟨ob,e',h1,h2,h3,h4⟩
  by_cases hi:id=i
  ·subst hi;exact⟨_,e',hm,by simp,h3,h4⟩
  ·rw[List.getElem?_set_ne hi]at h1;exact⟨ob,e',h1,h2,h3,h4⟩
 refine⟨⟨s.imm,?_,s.blk,?_,fun i j x h1 h2=>s.inj i j x (live i x h1) (live j x h2),fun i x h1=>s.sep i x (live i x h1),s.base⟩,fun m hmm=>⟨by simpa using hmm,Le.refl _ _,Nat.le_refl _,fun _ _ _=>rfl,fun i x h1 _=>live i x h1,fun x hx=> .inl hx⟩⟩
 ·intro i e he;simpa using s.env i e he
 ·intro i ob hi
  by_cases hid2:id=i
  ·subst hid2
   rw[List.getElem?_set_self hid]at hi
   cases hi
   obtain⟨e,h1,h2,h3⟩:=s.obj id _ hm
   refine⟨e,h1,h2,?_⟩
   cases hb:e.blk with
   | none=>
    rw[hb]at h3
    have h3:cs=[]:=h3
    subst h3
    have:=(hr [] (RepL.nil w)).len
    exact List.length_eq_zero_iff.1 (by simpa using this)
   | some b=>
    rw[hb]at h3
    obtain⟨bcs,h4,h5⟩:=h3
    exact⟨bcs,h4,hr bcs h5⟩
  ·rw[List.getElem?_set_ne hid2]at hi
   exact s.obj i ob hi
theorem GStep.nilbox {a:List PV} {M N:Mem} (id o sz:Nat) {g ver:Nat} {cs:List PV} (hM:M[id]? =some (.cells g ver cs)) (ho:cs[o]? =some .nils) (hN:M.set id (.cells g ver (cs.set o (.ref M.length 0 sz 0 0)))++[.cells 0 0 []]=N):GStep m a M a N:=by
 subst hN
 refine⟨fun hm=>by simp;omega,fun w hh a' h0 hm s ha=>?_⟩
 obtain⟨s1,s2⟩:=s.allocNone (v0:=0)
 have hid:=cM hM
 have hM2:(M++[.cells 0 0 []])[id]? =some (.cells g ver cs):=by rw[List.getElem?_append_left hid];exact hM
 obtain⟨s3,s4⟩:=s1.reobj (cs2:=cs.set o (.ref M.length 0 sz 0 0)) hM2 (by
  intro bcs hr
  obtain⟨z,hz,hv⟩:=hr.getSome ho
  have hz':=fG hv
  subst hz'
  have:=hr.set o (v:= .ref M.length 0 sz 0 0) (x:= .nilslice) (.refN (e:=⟨none,0,0⟩) (by show(if _=_ then _ else _)=_;rw[if_pos rfl]) rfl rfl)
  have hb:bcs.set o .nilslice=bcs:=by
   apply List.ext_getElem?
   intro i
   rw[List.getElem?_set]
   by_cases e:o=i
   ·subst e;rw[if_pos rfl,if_pos (cM hz)];exact hz.symm
   ·rw[if_neg e]
  rwa [hb]at this)
 have he:(M++[PObj.cells 0 0 []]).set id (.cells g ver (cs.set o (.ref M.length 0 sz 0 0)))=M.set id (.cells g ver (cs.set o (.ref M.length 0 sz 0 0)))++[.cells 0 0 []]:=by
  rw[List.set_append_left _ _ hid]
 rw[he]at s3 s4
 exact⟨_,(s2.weaken hm).trans (s4 m (by simp;omega)) (Nat.le_refl _),s3,ha.mono s2.le s.env⟩
def PFrz (id g:Nat) (cs:List PV):List PV->List PV->Prop
 | [],[]=>True
 | x::a,y::b=>(y= .junk\/x=y\/∃sz off n,x= .ref id g sz off n/\off+n*sz<=cs.length/\y= .sl false true sz n (dS cs off (n*sz)))/\PFrz id g cs a b
 | _,_=>False
theorem fN (id g:Nat) (cs:List PV):PFrz id g cs [] []=True:=(rfl)
theorem eB (id g:Nat) (cs:List PV) (x:PV) (a b:List PV):PFrz id g cs (x::a) (x::b)=PFrz id g cs a b:=by simp[PFrz]
theorem lK {id g sz off n:Nat} {cs:List PV} {y:PV} {a b:List PV} (h1:off+n*sz<=cs.length) (h2:y= .sl false true sz n (dS cs off (n*sz))):PFrz id g cs (.ref id g sz off n::a) (y::b)=PFrz id g cs a b:=by
 simp only[PFrz,eq_iff_iff,and_iff_right_iff_imp]
 intro _
 exact .inr (.inr ⟨sz,off,n,rfl,h1,h2⟩)
theorem PSt.freeze {w:PWd} {h:H} {M:Mem} (s:PSt w h M) {id g ver:Nat} {cs:List PV} (hm:M[id]? =some (.cells g ver cs)) (h0:w.id0<=id):
  ∃w',PSt w' h (M.set id .gone)/\(∀m,m<=id->PStp m w h M w' h (M.set id .gone))/\Le M.length w w'/\∀sz off n x,RepV w (.ref id g sz off n) x->off+n*sz<=cs.length->RepV w' (.sl false true sz n (dS cs off (n*sz))) x:=by
 obtain⟨e,h1,h2,h3⟩:=s.cellsAt hm
 have hid:=cM hm
 rcases h3 with⟨hb,rfl⟩ | ⟨b,bcs,hb,hg,hr,hlv⟩
 ·have live:∀i x,LiveAt w (M.set id .gone) i x->LiveAt w M i x:=by
   rintro i x ⟨ob,e',p1,p2,p3,p4⟩
   by_cases hi:id=i
   ·subst hi;rw[List.getElem?_set_self hid]at p1;cases p1;exact absurd rfl p2
   ·rw[List.getElem?_set_ne hi]at p1;exact⟨ob,e',p1,p2,p3,p4⟩
  refine⟨w,⟨s.imm,fun i e' he=>by simpa using s.env i e' he,s.blk,?_,fun i j x q1 q2=>s.inj i j x (live i x q1) (live j x q2),fun i x q1=>s.sep i x (live i x q1),s.base⟩,fun m hmm=>⟨by simp;omega,Le.refl _ _,Nat.le_refl _,fun _ _ _=>rfl,fun i x q1 _=>live i x q1,fun x hx=> .inl hx⟩,Le.refl _ _,?_⟩
  ·intro i ob hi
   by_cases hid2:id=i
   ·subst hid2;rw[List.getElem?_set_self hid]at hi;cases hi;trivial
   ·rw[List.getElem?_set_ne hid2]at hi;exact s.obj i ob hi
  ·intro sz off n x hx hl
   obtain⟨e2,p1,p2,p3⟩:=s.refAt hm hx
   rcases p3 with⟨rfl,rfl,rfl,_,_⟩ | ⟨_,b,_,_,p4,_⟩
   ·simpa [dS] using RepV.slN
   ·rw[h1]at p1;cases p1;rw[hb]at p4;cases p4
 ·let w':=w.withImm b (.cells (e.v0+ver) true bcs)
  have hsep:=s.sep id b hlv
  have hl:Le M.length w w':=pU hsep.1
  have him:∀x,x≠b->w'.imm x=w.imm x:=fun x hx=>by show(if _=_ then _ else _)=_;rw[if_neg hx]
  have hnew:w'.imm b=some (.cells (e.v0+ver) true bcs):=by show(if _=_ then _ else _)=_;rw[if_pos rfl]
  have live:∀i x,LiveAt w' (M.set id .gone) i x->i≠id/\LiveAt w M i x:=by
   rintro i x ⟨ob,e',p1,p2,p3,p4⟩
   by_cases hi:id=i
   ·subst hi;rw[List.getElem?_set_self hid]at p1;cases p1;exact absurd rfl p2
   ·rw[List.getElem?_set_ne hi]at p1;exact⟨fun q=>hi q.symm,ob,e',p1,p2,p3,p4⟩
  refine⟨w',⟨?_,fun i e' he=>by simpa using s.env i e' he,s.blk,?_,fun i j x q1 q2=>s.inj i j x (live i x q1).2 (live j x q2).2,?_,s.base⟩,fun m hmm=>⟨by simp;omega,⟨hl.n0,hl.id0,hl.imm,fun i hi=>hl.env i (by omega)⟩,Nat.le_refl _,fun _ _ _=>rfl,fun i x q1 _=>(live i x q1).2,?_⟩,hl,?_⟩
  ·intro x o hx
   by_cases e1:x=b
   ·subst e1;rw[hnew]at hx;cases hx;exact hg
   ·rw[him x e1]at hx;exact s.imm x o hx
  ·intro i ob hi
   by_cases hid2:id=i
   ·subst hid2;rw[List.getElem?_set_self hid]at hi;cases hi;trivial
   ·rw[List.getElem?_set_ne hid2]at hi
    exact RepO.mono s hl (s.obj i ob hi) (fun e' he=>he) (fun _ _ _ _=>rfl)
  ·intro i x q1
   obtain⟨hne,q2⟩:=live i x q1
   have:x≠b:=by rintro rfl;exact hne (s.inj i id x q2 hlv)
   exact⟨by rw[him x this];exact(s.sep i x q2).1,(s.sep i x q2).2⟩
  ·intro x hx
   by_cases e1:x=b
   ·subst e1;exact .inr (.inr ⟨id,hmm,hlv⟩)
   ·rw[him x e1]at hx;exact .inl hx
  ·intro sz off n x hx hlen
   obtain⟨e2,p1,p2,p3⟩:=s.refAt hm hx
   rw[h1]at p1;cases p1
   rcases p3 with⟨_,_,_,p4,_⟩ | ⟨fl,b2,bcs2,rfl,p4,p5,p6,_⟩
   ·rw[hb]at p4;cases p4
   ·rw[hb]at p4;cases p4
    rw[hg]at p5;cases p5
    have hl2:(dS cs off (n*sz)).length=n*sz:=by simp[dS];omega
    have hs:=(gV p6 off (n*sz)).mono hl s.env
    refine .sl hnew (by rw[hl2,<-p6.len];exact hlen) hl2 (fun q=>by cases q) (fun _=>⟨hsep.2 h0,rfl⟩) (fun q=>by cases q) (fun i y z hy hz=>hs.get i y z hy ?_)
    rw[List.getElem?_take,if_pos (by have:=cM hy;omega),List.getElem?_drop];exact hz
theorem PFrz.rep {w w':PWd} {M:Mem} {id g:Nat} {cs:List PV} (hl:Le M.length w w') (hd:∀i e,w.env i=some e->i<M.length) (hf:∀sz off n x,RepV w (.ref id g sz off n) x->off+n*sz<=cs.length->RepV w' (.sl false true sz n (dS cs off (n*sz))) x):
  ∀{a b:List PV} {a':List AV},PFrz id g cs a b->RepL w a a'->RepL w' b a'
 | [],[],a',_,h=>⟨h.len,fun i y z q=>by simp at q⟩
 | x::a,y::b,[],_,h=>by have:=h.len;simp at this
 | x::a,y::b,v::a',⟨h1,h2⟩,h=>by
  refine .cons ?_ (PFrz.rep hl hd hf h2 h.tl)
  rcases h1 with rfl | rfl | ⟨sz,off,n,rfl,q1,rfl⟩
  ·exact .junk _
  ·exact h.hd.mono hl hd
  ·exact hf sz off n v h.hd q1
 | [],_::_,a',hw,h=>hw.elim
 | _::_,[],a',hw,h=>hw.elim
theorem GStep.freeze {a b:List PV} {M N:Mem} (id:Nat) {g ver:Nat} {cs:List PV} (hid:m<=id) (hM:M[id]? =some (.cells g ver cs)) (hf:PFrz id g cs a b) (hN:M.set id .gone=N):GStep m a M b N:=by
 subst hN
 refine⟨fun hm=>by simpa using hm,fun w hh a' h0 hm s ha=>?_⟩
 obtain⟨w',s1,s2,hl,hr⟩:=s.freeze hM (Nat.le_trans h0 hid)
 exact⟨w',s2 m hid,s1,hf.rep hl s.env hr ha⟩
theorem GStep.drop {a b:List PV} {M N:Mem} (n:Nat) (hn:m<=n) (hl:n<=M.length) (hw:PWeak a b) (ha:cF n b=true) (hM:(M.take n).all (PObj.under n)=true) (hN:M.take n=N):GStep m a M b N:=by
 subst hN
 refine⟨fun hm=>by simp;omega,fun w hh a' h0 hm s hr=>?_⟩
 obtain⟨s1,s2⟩:=s.cut hl hM
 exact⟨_,(s2 w hh M (PStp.refl (Nat.le_refl _) w hh |>.weaken hl)).weaken hn,s1,(hw.rep hr).low (w:=w) (w':=w.cut hh n M) rfl (lV s n) (fun id hi=>iR hi) ha⟩
end
attribute [irreducible] Gh
set_option maxRecDepth 10000
set_option linter.defProp false
def zj (n:Nat):List PV:=List.replicate n .junk
theorem kW:zj 0=[]:=rfl
theorem kX (n:Nat):zj (n+1)= .junk::zj n:=rfl
theorem U8 {n:Nat} (h:n<2^8):(⟨⟨⟨n,h⟩⟩⟩:UInt8)=UInt8.ofNat n:=by
 apply UInt8.toNat_inj.1
 show n=_
 simp;omega
theorem AL (l:List UInt8):Array.mk l=List.toArray l:=rfl
def mk (t:Option AFn) {x:AFn} (_:t=some x:=by
 conv=>lhs;reduce;simp only[Int.reduceOfNat,Int.reduceNegSucc,U8,UInt8.reduceOfNat,AL]):AFn:=x
theorem aCz (t:Option AFn) {x:AFn} (h:t=some x):mk t h=x:=rfl
theorem O1:ppack []= .tuple []:=rfl
theorem O0 (a b:PV) (l:List PV):ppack (a::b::l)= .tuple (a::b::l):=rfl
def PP:=(And.intro (And.intro (And.intro (And.intro (And.intro (And.intro (And.intro (And.intro @aAg @aB5) (And.intro @aAi (And.intro @RA @LG))) (And.intro (And.intro @aB4 @aAj) (And.intro @W9 (And.intro @aAh @W8)))) (And.intro (And.intro (And.intro @XH @XL) (And.intro @RM (And.intro @aCc @aAp))) (And.intro (And.intro @aAo (And.intro @aCd @aAr)) (And.intro @aAq (And.intro @XK @RK))))) (And.intro (And.intro (And.intro (And.intro @aAl @aAk) (And.intro @XG (And.intro @aCa @XF))) (And.intro (And.intro @AG @aAm) (And.intro @LK (And.intro @XA @IH)))) (And.intro (And.intro (And.intro @aCb @aB9) (And.intro @XC (And.intro @LM @aCR))) (And.intro (And.intro @LN (And.intro @RE @EH)) (And.intro @XB (And.intro @EJ @XE)))))) (And.intro (And.intro (And.intro (And.intro (And.intro @RG @EI) (And.intro @AE (And.intro @XD @RF))) (And.intro (And.intro @LL @aAn) (And.intro @RH (And.intro @aB8 @aB7)))) (And.intro (And.intro (And.intro @aB6 @LE) (And.intro @aCg (And.intro @VL @kQ))) (And.intro (And.intro @uQ (And.intro @HQ @yR)) (And.intro @pK (And.intro @Nat.add_eq_left @Nat.left_eq_add))))) (And.intro (And.intro (And.intro (And.intro @Nat.succ_ne_self @Nat.one_ne_zero) (And.intro @S7 (And.intro @List.contains_cons.{0} @List.contains_nil.{0}))) (And.intro (And.intro @Bool.or_false @Bool.false_or) (And.intro @Bool.or_true (And.intro @Bool.true_or @WN)))) (And.intro (And.intro (And.intro @K5 @WV) (And.intro @KW (And.intro @QU @KZ))) (And.intro (And.intro @QY (And.intro @Z5 @WJ)) (And.intro @Z7 (And.intro @WP @QZ))))))) (And.intro (And.intro (And.intro (And.intro (And.intro (And.intro @WQ @WR) (And.intro @Z9 (And.intro @QW @WI))) (And.intro (And.intro @K2 @QX) (And.intro @KX (And.intro @QS @Z2)))) (And.intro (And.intro (And.intro @WG @WF) (And.intro @Q7 (And.intro @aAb @WT))) (And.intro (And.intro @Q6 (And.intro @Q5 @H6)) (And.intro @QT (And.intro @K0 @K1))))) (And.intro (And.intro (And.intro (And.intro @H7 @QV) (And.intro @Z3 (And.intro @Z4 @WH))) (And.intro (And.intro @Q0 @Q3) (And.intro @Q1 (And.intro @Q2 @EA)))) (And.intro (And.intro (And.intro @EB @EC) (And.intro @K3 (And.intro @H8 @Q4))) (And.intro (And.intro @K4 (And.intro @W4 @Q9)) (And.intro @aAf (And.intro @JH @FX)))))) (And.intro (And.intro (And.intro (And.intro (And.intro @TH @S8) (And.intro @TB (And.intro @TG @TA))) (And.intro (And.intro @TC @TD) (And.intro @TE (And.intro @TF @O3)))) (And.intro (And.intro (And.intro @X8 @X9) (And.intro @BO (And.intro @O2 @JZ))) (And.intro (And.intro @JJ (And.intro @YC @YA)) (And.intro @YB (And.intro @OU @FV))))) (And.intro (And.intro (And.intro (And.intro @List.take_zero.{0} @List.take_succ_cons.{0}) (And.intro @List.drop_succ_cons.{0} (And.intro @List.drop_zero.{0} @List.drop_nil.{0}))) (And.intro (And.intro @List.take_nil.{0} @SY) (And.intro @H1 (And.intro @AB @JU)))) (And.intro (And.intro (And.intro @GA @F8) (And.intro @PC (And.intro @JS @JT))) (And.intro (And.intro @F9 (And.intro @JV @YM)) (And.intro @TN (And.intro @TL @JY)))))))) (And.intro (And.intro (And.intro (And.intro (And.intro (And.intro (And.intro @GG @aBi) (And.intro @YK (And.intro @YL @TM))) (And.intro (And.intro @rW @XJ) (And.intro @RL (And.intro @RJ @RI)))) (And.intro (And.intro (And.intro @LO @II) (And.intro @IU (And.intro @AK @pN))) (And.intro (And.intro @IR (And.intro @gP @N3)) (And.intro @mC (And.intro @N6 @EU))))) (And.intro (And.intro (And.intro (And.intro @N5 @N4) (And.intro @wA (And.intro @iS @gZ))) (And.intro (And.intro @dH @dR) (And.intro @eU (And.intro @lX @PA)))) (And.intro (And.intro (And.intro @jR @S2) (And.intro @O5 (And.intro @PB @JR))) (And.intro (And.intro @JQ (And.intro @S6 @JK)) (And.intro @S3 (And.intro @YF @aBg)))))) (And.intro (And.intro (And.intro (And.intro (And.intro @O4 @O9) (And.intro @O8 (And.intro @JP @JO))) (And.intro (And.intro @S5 @YG) (And.intro @O6 (And.intro @JM @JN)))) (And.intro (And.intro (And.intro @F6 @List.length_cons.{0}) (And.intro @List.length_nil.{0} (And.intro @List.length_append.{0} @List.length_replicate.{0}))) (And.intro (And.intro @List.length_set.{0} (And.intro @List.length_map.{0,0} @List.cons_append.{0})) (And.intro @List.nil_append.{0} (And.intro @List.append_nil.{0} @List.map_cons.{0,0}))))) (And.intro (And.intro (And.intro (And.intro @List.map_nil.{0,0} @List.map_append.{0,0}) (And.intro @List.all_cons.{0} (And.intro @List.all_nil.{0} @List.all_append.{0}))) (And.intro (And.intro @List.set_cons_zero.{0} @List.set_cons_succ.{0}) (And.intro @List.getElem?_cons_zero.{0} (And.intro @List.getElem?_cons_succ.{0} @List.getElem?_map.{0,0})))) (And.intro (And.intro (And.intro @List.getElem?_nil.{0} @Option.map_some.{0,0}) (And.intro @Option.map_none.{0,0} (And.intro @Nat.zero_add @Nat.add_zero))) (And.intro (And.intro @Nat.mul_one (And.intro @Nat.one_mul @Nat.zero_mul)) (And.intro @Nat.le_refl (And.intro @Nat.not_lt_zero @Nat.zero_lt_succ))))))) (And.intro (And.intro (And.intro (And.intro (And.intro (And.intro @Nat.lt_add_one @Int.cast_ofNat_Int) (And.intro @Int.toNat_natCast (And.intro @Int.toNat_zero @ite_true.{1}))) (And.intro (And.intro @ite_false.{1} @if_true.{1}) (And.intro @if_false.{1} (And.intro @Bool.false_eq_true @decide_true)))) (And.intro (And.intro (And.intro @decide_false @decide_eq_true_eq) (And.intro @Bool.not_true (And.intro @Bool.not_false @Bool.and_true))) (And.intro (And.intro @Bool.true_and (And.intro @Bool.and_false @Bool.false_and)) (And.intro @Bool.and_self (And.intro @beq_self_eq_true.{0} @ne_eq.{1}))))) (And.intro (And.intro (And.intro (And.intro @not_true_eq_false @not_false_eq_true) (And.intro @true_and (And.intro @and_true @and_self))) (And.intro (And.intro @false_and @and_false) (And.intro @true_or (And.intro @or_true @false_or)))) (And.intro (And.intro (And.intro @or_false @or_self) (And.intro @Option.getD_none.{0} (And.intro @Option.getD_some.{0} @Option.isSome_none.{0}))) (And.intro (And.intro @Option.isSome_some.{0} (And.intro @gt_iff_lt.{0} @ge_iff_le.{0})) (And.intro @pput.eq_1 (And.intro @pput.eq_2 @ptset.eq_1)))))) (And.intro (And.intro (And.intro (And.intro (And.intro @ptset.eq_2 @ptset.eq_3) (And.intro @ptget.eq_1 (And.intro @ptget.eq_2 @ptget.eq_3))) (And.intro (And.intro @pev.eq_1 @pev.eq_2) (And.intro @ofAV.eq_1 (And.intro @ofAV.eq_2 @ofAV.eq_3)))) (And.intro (And.intro (And.intro @ofAV.eq_4 @ofAV.eq_5) (And.intro @ofAV.eq_6 (And.intro @ofAV.eq_7 @ofAV.eq_8))) (And.intro (And.intro @ofAV.eq_9 (And.intro @ofAV.eq_10 @ofAV.eq_11)) (And.intro @ofAV.eq_12 (And.intro @ofAV1.eq_1 @ofAV1.eq_2))))) (And.intro (And.intro (And.intro (And.intro @ofAV1.eq_3 @ofAV1.eq_4) (And.intro @ofAV1.eq_5 (And.intro @ofAV1.eq_6 @ofAV1.eq_7))) (And.intro (And.intro @ofAV1.eq_8 @ofAV1.eq_9) (And.intro @ppad.eq_1 (And.intro @pfill.eq_1 @pfill.eq_2)))) (And.intro (And.intro (And.intro @PKNo.eq_1 @ppack.eq_1) (And.intro @O1 (And.intro @O0 @PObj.under.eq_1))) (And.intro (And.intro @PObj.under.eq_2 (And.intro @List.replicate.eq_1.{0} @List.replicate.eq_2.{0})) (And.intro @kW (And.intro @kX @aCz)))))))))
def PW:=And.intro @RC (And.intro @LJ (And.intro @LH (And.intro @Int.cast_ofNat_Int (And.intro @List.length_append.{0} (And.intro @List.length_cons.{0} (And.intro @List.length_nil.{0} (And.intro @Nat.zero_add (And.intro @kW (And.intro @kX (And.intro @List.cons_append.{0} @List.nil_append.{0}))))))))))
end Go.Am

