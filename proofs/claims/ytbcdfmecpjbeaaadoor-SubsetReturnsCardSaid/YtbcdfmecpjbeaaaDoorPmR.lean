/- The pure machine: its rules as equations for the simplifier, and what goes with it. -/
import Derived.Test.YtbcdfmecpjbeaaaDoorPmS
set_option linter.unusedVariables false
set_option linter.unusedSimpArgs false
namespace Go.Am
structure KTag {α:Sort _} (k:α):Type where
 n:Nat
structure QTag (A B:Prop):Type where
 n:Nat
def ZInt (v:PV) (k:IntKind→Int→Prop) (t:KTag k):Prop:=QInt v k
def ZBool (v:PV) (k:Bool→Prop) (t:KTag k):Prop:=QBool v k
def ZAgg (v:PV) (k:List PV→Prop) (t:KTag k):Prop:=QAgg v k
def ZTup (v:PV) (k:List PV→Prop) (t:KTag k):Prop:=QTup v k
def ZOb (o:Option PObj) (g:Nat) (k:Nat→List PV→Prop) (t:KTag k):Prop:=QOb o g k
def ZSome {α:Type} (o:Option α) (k:α→Prop) (t:KTag k):Prop:=QSome o k
def ZLen (v:PV) (M:Mem) (k:PV→Prop) (t:KTag k):Prop:=QLen v M k
def ZIdx (size:Nat) (v i:PV) (M:Mem) (k:PV→Prop) (t:KTag k):Prop:=QIdx size v i M k
def ZIdxA (len size:Nat) (v i:PV) (M:Mem) (k:PV→Prop) (t:KTag k):Prop:=QIdxA len size v i M k
def ZFld (off:Nat) (v:PV) (M:Mem) (k:PV→Prop) (t:KTag k):Prop:=QFld off v M k
def ZLoad (v:PV) (M:Mem) (k:PV→List Nat→Prop) (t:KTag k):Prop:=QLoad v M k
def ZLoadN (n:Nat) (v:PV) (M:Mem) (k:PV→List Nat→Prop) (t:KTag k):Prop:=QLoadN n v M k
def ZStore (n:Nat) (p x:PV) (M:Mem) (k:Mem→List Nat→Prop) (t:KTag k):Prop:=QStore n p x M k
def ZSrc (size:Nat) (x:PV) (M:Mem) (k:List PV→Nat→Prop) (t:KTag k):Prop:=QSrc size x M k
def ZApp (size bytes:Nat) (s x:PV) (M:Mem) (K:PV→Mem→List Nat→List Nat→Prop) (t:KTag K):Prop:=QApp size bytes s x M K
def ZBnd (a:List PV) (x:Option AR) (k:Option Int→Prop) (t:KTag k):Prop:=QBnd a x k
def ZSlice (size:Nat) (v:PV) (l r m:Option Int) (M:Mem) (k:PV→Prop) (t:KTag k):Prop:=QSlice size v l r m M k
def ZNilOk (v:PV) (M:Mem) (k:Prop) (t:KTag k):Prop:=QNilOk v M k
def ZNil (kd:Nat) (x y:PV) (M:Mem) (k:Bool→Prop) (t:KTag k):Prop:=QNil kd x y M k
def ZGuard (v:PV) (want:Bool) (A B:Prop) (t:QTag A B):Prop:=QGuard v want A B
def ZCond (v:PV) (A B:Prop) (t:QTag A B):Prop:=QCond v A B
def QIf (p A B:Prop) (t:QTag A B):Prop:=(p→A)∧(¬p→B)
theorem QIf.intro {p A B:Prop} {t:QTag A B} (h1:p→A) (h2:¬p→B):QIf p A B t:=⟨h1,h2⟩
theorem QIf_true (A B:Prop) (t:QTag A B):QIf True A B t=A:=by simp[QIf]
theorem QIf_false (A B:Prop) (t:QTag A B):QIf False A B t=B:=by simp[QIf]
theorem QIf_not (p A B:Prop) (t:QTag A B):QIf (¬p) A B t=QIf p B A ⟨0⟩:=by
 apply propext
 constructor
 ·rintro⟨h1,h2⟩;exact⟨fun h=>h2 (fun h'=>h' h),h1⟩
 ·rintro⟨h1,h2⟩;exact⟨h2,fun h=>h1 (Classical.byContradiction h)⟩
theorem ZInt_int (b:IntKind) (o:Int) (k:IntKind→Int→Prop) (t:KTag k):ZInt (.int b o) k t=k b o:=by simp[ZInt,QInt,and_assoc]
theorem ZBool_bool (b:Bool) (k:Bool→Prop) (t:KTag k):ZBool (.bool b) k t=k b:=by simp[ZBool,QBool]
theorem ZAgg_agg (b:List PV) (k:List PV→Prop) (t:KTag k):ZAgg (.agg b) k t=k b:=by simp[ZAgg,QAgg]
theorem ZTup_tuple (b:List PV) (k:List PV→Prop) (t:KTag k):ZTup (.tuple b) k t=k b:=by simp[ZTup,QTup]
theorem ZOb_cells (g ver:Nat) (cs:List PV) (k:Nat→List PV→Prop) (t:KTag k):ZOb (some (.cells g ver cs)) g k t=k ver cs:=by
 apply propext
 constructor
 ·rintro⟨_,_,e,h⟩;cases e;exact h
 ·intro h;exact⟨_,_,rfl,h⟩
theorem ZSome_some {α:Type} (x:α) (k:α→Prop) (t:KTag k):ZSome (some x) k t=k x:=by simp[ZSome,QSome]
theorem ZLen_nils (M:Mem) (k:PV→Prop) (t:KTag k):ZLen .nils M k t=k (p64 0):=(rfl)
theorem ZLen_sl (fl own:Bool) (sz n:Nat) (cs:List PV) (M:Mem) (k:PV→Prop) (t:KTag k):ZLen (.sl fl own sz n cs) M k t=k (p64 n):=(rfl)
theorem ZLen_ref (id g sz off n:Nat) (M:Mem) (k:PV→Prop) (t:KTag k):ZLen (.ref id g sz off n) M k t=ZOb M[id]? g (fun _ _=>k (p64 n)) ⟨0⟩:=(rfl)
theorem ZIdx_sl (size:Nat) (fl own:Bool) (sz n:Nat) (cs:List PV) (i:PV) (M:Mem) (k:PV→Prop) (t:KTag k):ZIdx size (.sl fl own sz n cs) i M k t=ZInt i (fun _ j=>(sz=size∧0≤j∧j<n)∧k (.cp cs (j.toNat*size))) ⟨0⟩:=(rfl)
theorem ZIdx_ref (size id g sz off n:Nat) (i:PV) (M:Mem) (k:PV→Prop) (t:KTag k):ZIdx size (.ref id g sz off n) i M k t=ZOb M[id]? g (fun _ _=>ZInt i (fun _ j=>(sz=size∧0≤j∧j<n)∧k (.ptr id g (off+j.toNat*size))) ⟨0⟩) ⟨0⟩:=(rfl)
theorem ZIdxA_ptr (len size id g o:Nat) (i:PV) (M:Mem) (k:PV→Prop) (t:KTag k):ZIdxA len size (.ptr id g o) i M k t=ZOb M[id]? g (fun _ _=>ZInt i (fun _ j=>(0≤j∧j<len)∧k (.ptr id g (o+j.toNat*size))) ⟨0⟩) ⟨0⟩:=(rfl)
theorem ZIdxA_cp (len size:Nat) (cs:List PV) (o:Nat) (i:PV) (M:Mem) (k:PV→Prop) (t:KTag k):ZIdxA len size (.cp cs o) i M k t=ZInt i (fun _ j=>(0≤j∧j<len)∧k (.cp cs (o+j.toNat*size))) ⟨0⟩:=(rfl)
theorem ZFld_ptr (off id g o:Nat) (M:Mem) (k:PV→Prop) (t:KTag k):ZFld off (.ptr id g o) M k t=ZOb M[id]? g (fun _ _=>k (.ptr id g (o+off))) ⟨0⟩:=(rfl)
theorem ZFld_cp (off:Nat) (cs:List PV) (o:Nat) (M:Mem) (k:PV→Prop) (t:KTag k):ZFld off (.cp cs o) M k t=k (.cp cs (o+off)):=(rfl)
theorem ZLoad_ptr (id g o:Nat) (M:Mem) (k:PV→List Nat→Prop) (t:KTag k):ZLoad (.ptr id g o) M k t=ZOb M[id]? g (fun _ cs=>ZSome cs[o]? (fun x=>k x [id]) ⟨0⟩) ⟨0⟩:=(rfl)
theorem ZLoad_cp (cs:List PV) (o:Nat) (M:Mem) (k:PV→List Nat→Prop) (t:KTag k):ZLoad (.cp cs o) M k t=ZSome cs[o]? (fun x=>k x []) ⟨0⟩:=(rfl)
theorem ZLoadN_ptr (n id g o:Nat) (M:Mem) (k:PV→List Nat→Prop) (t:KTag k):ZLoadN n (.ptr id g o) M k t=ZOb M[id]? g (fun _ cs=>o+n≤cs.length∧k (.agg (psub cs o n)) [id]) ⟨0⟩:=(rfl)
theorem ZLoadN_cp (n:Nat) (cs:List PV) (o:Nat) (M:Mem) (k:PV→List Nat→Prop) (t:KTag k):ZLoadN n (.cp cs o) M k t=(o+n≤cs.length∧k (.agg (psub cs o n)) []):=(rfl)
theorem ZStore_ptr (n id g o:Nat) (x:PV) (M:Mem) (k:Mem→List Nat→Prop) (t:KTag k):ZStore n (.ptr id g o) x M k t=ZOb M[id]? g (fun ver cs=>((q66 x).length=n∧o+n≤cs.length∧(q66 x).all PV.one=true)∧k (M.set id (.cells g (ver+1) (pover cs o (q66 x)))) [id]) ⟨0⟩:=(rfl)
theorem ZSrc_nils (size:Nat) (M:Mem) (k:List PV→Nat→Prop) (t:KTag k):ZSrc size .nils M k t=k [] 0:=(rfl)
theorem ZSrc_sl (size:Nat) (fl own:Bool) (sz n:Nat) (cs:List PV) (M:Mem) (k:List PV→Nat→Prop) (t:KTag k):ZSrc size (.sl fl own sz n cs) M k t=(sz=size∧k cs n):=(rfl)
theorem ZSrc_ref (size id g sz off n:Nat) (M:Mem) (k:List PV→Nat→Prop) (t:KTag k):ZSrc size (.ref id g sz off n) M k t=ZOb M[id]? g (fun _ cs=>(sz=size∧off+n*size≤cs.length)∧k (psub cs off (n*size)) n) ⟨0⟩:=(rfl)
theorem ZApp_nils (size bytes:Nat) (x:PV) (M:Mem) (K:PV→Mem→List Nat→List Nat→Prop) (t:KTag K):ZApp size bytes .nils x M K t=ZSrc size x M (fun new n=>(n*bytes≤140737488355328∧n≤9223372036854775807∧new.all PV.one=true)∧K (.ref M.length 0 size 0 n) (M++[.cells 0 0 new]) [] []) ⟨0⟩:=(rfl)
theorem ZApp_sl (size bytes:Nat) (fl own:Bool) (sz m:Nat) (cs:List PV) (x:PV) (M:Mem) (K:PV→Mem→List Nat→List Nat→Prop) (t:KTag K):ZApp size bytes (.sl fl own sz m cs) x M K t=ZSrc size x M (fun new n=>QIf (n=0) (K (.sl fl own sz m cs) M [] []) ((fl=true∧own=true∧sz=size∧(m+n)*bytes≤140737488355328∧m+n≤9223372036854775807∧new.all PV.one=true)∧K (.ref M.length 0 size 0 (m+n)) (M++[.cells 0 0 (cs++new)]) [] []) ⟨0⟩) ⟨0⟩:=by
 show QApp size bytes (.sl fl own sz m cs) x M K=QSrc size x M _
 unfold QApp
 congr 1
 funext new n
 by_cases h:n=0<;>simp[QIf,h]
theorem ZApp_ref (size bytes id g sz off m:Nat) (x:PV) (M:Mem) (K:PV→Mem→List Nat→List Nat→Prop) (t:KTag K):ZApp size bytes (.ref id g sz off m) x M K t=ZSrc size x M (fun new n=>ZOb M[id]? g (fun ver cs=>(sz=size∧off+m*size≤cs.length∧(0<n∨(off=0∧m*size=cs.length))∧(m+n)*bytes≤140737488355328∧m+n≤9223372036854775807∧new.all PV.one=true)∧K (.ref id (g+1) size 0 (m+n)) (M.set id (.cells (g+1) 0 (psub cs off (m*size)++new))) [] [id]) ⟨0⟩) ⟨0⟩:=(rfl)
theorem ZBnd_none (a:List PV) (k:Option Int→Prop) (t:KTag k):ZBnd a none k t=k none:=(rfl)
theorem ZBnd_some (a:List PV) (x:AR) (k:Option Int→Prop) (t:KTag k):ZBnd a (some x) k t=ZInt (pev a x) (fun _ n=>k (some n)) ⟨0⟩:=(rfl)
theorem ZSlice_nils (size:Nat) (l r m:Option Int) (M:Mem) (k:PV→Prop) (t:KTag k):ZSlice size .nils l r m M k t=((l.getD 0=0∧r.getD 0=0∧(m=none∨m=r))∧k .nils):=(rfl)
theorem ZSlice_sl (size:Nat) (fl own:Bool) (sz n:Nat) (cs:List PV) (l r m:Option Int) (M:Mem) (k:PV→Prop) (t:KTag k):ZSlice size (.sl fl own sz n cs) l r m M k t=((sz=size∧(m=none∨m=r)∧0≤l.getD 0∧l.getD 0≤r.getD n∧r.getD n≤n)∧k (.sl (if own=true then(if r.isSome=true then false else fl) else fl) own sz (r.getD n-l.getD 0).toNat (psub cs ((l.getD 0).toNat*size) ((r.getD n-l.getD 0).toNat*size)))):=(rfl)
theorem ZSlice_ref (size id g sz off n:Nat) (l r m:Option Int) (M:Mem) (k:PV→Prop) (t:KTag k):ZSlice size (.ref id g sz off n) l r m M k t=ZOb M[id]? g (fun _ _=>(sz=size∧(m=none∨m=r)∧0≤l.getD 0∧l.getD 0≤r.getD n∧r.getD n≤n)∧k (.ref id g sz (off+(l.getD 0).toNat*size) (r.getD n-l.getD 0).toNat)) ⟨0⟩:=(rfl)
theorem ZNilOk_ptr (id g o:Nat) (M:Mem) (k:Prop) (t:KTag k):ZNilOk (.ptr id g o) M k t=ZOb M[id]? g (fun _ _=>k) ⟨0⟩:=(rfl)
theorem ZNilOk_func (f:FuncId) (l c:List PV) (M:Mem) (k:Prop) (t:KTag k):ZNilOk (.func (.func f) l c) M k t=k:=by simp[ZNilOk,QNilOk,pnilOk]
theorem ZNilOk_cp (cs:List PV) (o:Nat) (M:Mem) (k:Prop) (t:KTag k):ZNilOk (.cp cs o) M k t=k:=by simp[ZNilOk,QNilOk,pnilOk]
theorem ZNil_ss (M:Mem) (k:Bool→Prop) (t:KTag k):ZNil 0 .nils .nils M k t=k true:=(rfl)
theorem ZNil_sl (fl own:Bool) (sz n:Nat) (cs:List PV) (M:Mem) (k:Bool→Prop) (t:KTag k):ZNil 0 (.sl fl own sz n cs) .nils M k t=QIf (n=0) (k true∧k false) (k false) ⟨0⟩:=by by_cases h:n=0<;>simp[ZNil,QNil,QIf,h]
theorem ZNil_ref (id g sz off n:Nat) (M:Mem) (k:Bool→Prop) (t:KTag k):ZNil 0 (.ref id g sz off n) .nils M k t=ZOb M[id]? g (fun _ _=>QIf (n=0) (k true∧k false) (k false) ⟨0⟩) ⟨0⟩:=by by_cases h:n=0<;>simp[ZNil,QNil,ZOb,QIf,h]
theorem ZGuard_tt (A B:Prop) (t:QTag A B):ZGuard (.bool true) true A B t=A:=by simp[ZGuard,QGuard]
theorem ZGuard_ff (A B:Prop) (t:QTag A B):ZGuard (.bool false) false A B t=A:=by simp[ZGuard,QGuard]
theorem ZGuard_tf (A B:Prop) (t:QTag A B):ZGuard (.bool true) false A B t=B:=by simp[ZGuard,QGuard]
theorem ZGuard_ft (A B:Prop) (t:QTag A B):ZGuard (.bool false) true A B t=B:=by simp[ZGuard,QGuard]
theorem ZGuard_tuple (l:List PV) (want:Bool) (A B:Prop) (t:QTag A B):ZGuard (.tuple l) want A B t=B:=by simp[ZGuard,QGuard]
theorem ZGuard_dec_t (p:Prop) [Decidable p] (A B:Prop) (t:QTag A B):ZGuard (.bool (decide p)) true A B t=QIf p A B ⟨0⟩:=by by_cases hp:p<;>simp[ZGuard,QGuard,hp,QIf]
theorem ZGuard_dec_f (p:Prop) [Decidable p] (A B:Prop) (t:QTag A B):ZGuard (.bool (decide p)) false A B t=QIf p B A ⟨0⟩:=by by_cases hp:p<;>simp[ZGuard,QGuard,hp,QIf]
theorem ZCond_true (A B:Prop) (t:QTag A B):ZCond (.bool true) A B t=A:=by simp[ZCond,QCond]
theorem ZCond_false (A B:Prop) (t:QTag A B):ZCond (.bool false) A B t=B:=by simp[ZCond,QCond]
theorem ZCond_dec (p:Prop) [Decidable p] (A B:Prop) (t:QTag A B):ZCond (.bool (decide p)) A B t=QIf p A B ⟨0⟩:=by by_cases hp:p<;>simp[ZCond,QCond,hp,QIf]
theorem ZCond_pick (p:Prop) [Decidable p] (x y:PV) (A B:Prop) (t:QTag A B):ZCond (ppick (decide p) x y) A B t=QIf p (ZCond x A B ⟨0⟩) (ZCond y A B ⟨0⟩) ⟨0⟩:=by by_cases hp:p<;>simp[QIf,ppick,hp,ZCond]
theorem ZCond_bool (b:Bool) (A B:Prop) (t:QTag A B):ZCond (.bool b) A B t=QIf (b=true) A B ⟨0⟩:=by cases b<;>simp[ZCond,QCond,QIf]
theorem ppick_true (x y:PV):ppick true x y=x:=(rfl)
theorem ppick_false (x y:PV):ppick false x y=y:=(rfl)
section
variable (tab:FuncId→Option AF) (m:Nat)
def RX:=PX tab m
def RO:=PO tab
def RD:=PD tab
def RS:=PS tab
def PKSeq (y:AC) (Qn Qr:List PV→Mem→Prop) (Qe:Nat→List PV→Mem→Prop) (a:List PV) (M:Mem):Prop:=RX tab m y a M Qn Qr Qe
def PKLoop (sc:List Nat) (x:AC) (Qn Qr:List PV→Mem→Prop) (Qe:Nat→List PV→Mem→Prop) (a:List PV) (M:Mem):Prop:=SemW tab m (.loop sc x) a M Qn Qr Qe
def PKBlk (id:Nat) (Qn:List PV→Mem→Prop) (Qe:Nat→List PV→Mem→Prop) (i:Nat) (a:List PV) (M:Mem):Prop:=if i=id then Qn a M else Qe i a M
def PKPut (d:Option Nat) (os:List AOper) (a:List PV) (Q:List PV→Mem→Prop) (v:PV) (M:Mem) (rd chg:List Nat):Prop:=RO tab os (pput a d v) M Q
def PKPutD (d:Option Nat) (eff:Bool) (chk:List Nat) (os:List AOper) (i:Nat) (a:List PV) (M:Mem) (log:List PLog) (Q:List PV→Mem→Prop) (v:PV) (M':Mem) (rd chg:List Nat):Prop:=
 pchk eff rd chg M log chk=true∧RD tab os (i+1) (pput a d v) M' (⟨i,rd,chg,M,M'.length⟩::log) Q
section
variable (a:List PV) (M:Mem) (Qn Qr:List PV→Mem→Prop) (Qe:Nat→List PV→Mem→Prop)
theorem PX_skip:RX tab m .skip a M Qn Qr Qe=Qn a M:=(rfl)
theorem PX_ret:RX tab m .ret a M Qn Qr Qe=Qr a M:=(rfl)
theorem PX_exit (i:Nat):RX tab m (.exit i) a M Qn Qr Qe=Qe i a M:=(rfl)
theorem PX_region (os:List AOper):RX tab m (.region os) a M Qn Qr Qe=RO tab os a M Qn:=(rfl)
theorem PX_regionD (os:List AOper):RX tab m (.regionD os) a M Qn Qr Qe=RD tab os 0 a M [] Qn:=(rfl)
theorem PX_seq (x y:AC):RX tab m (.seq x y) a M Qn Qr Qe=RX tab m x a M (PKSeq tab m y Qn Qr Qe) Qr Qe:=(rfl)
theorem PX_cond (c:AR) (x y:AC):RX tab m (.cond c x y) a M Qn Qr Qe=ZCond (pev a c) (RX tab m x a M Qn Qr Qe) (RX tab m y a M Qn Qr Qe) ⟨0⟩:=(rfl)
theorem PX_block (id:Nat) (x:AC):RX tab m (.block id x) a M Qn Qr Qe=RX tab m x a M Qn Qr (PKBlk id Qn Qe):=(rfl)
theorem PX_loop (sc:List Nat) (x:AC):RX tab m (.loop sc x) a M Qn Qr Qe=SemW tab m (.loop sc x) a M Qn Qr Qe:=(rfl)
theorem PX_range (f:AR) (ps:List Nat) (asg body:AC):RX tab m (.rangeFunc f ps asg body) a M Qn Qr Qe=SemW tab m (.rangeFunc f ps asg body) a M Qn Qr Qe:=(rfl)
theorem PKSeq_eq (y:AC):PKSeq tab m y Qn Qr Qe a M=RX tab m y a M Qn Qr Qe:=(rfl)
theorem PKLoop_eq (sc:List Nat) (x:AC):PKLoop tab m sc x Qn Qr Qe a M=SemW tab m (.loop sc x) a M Qn Qr Qe:=(rfl)
theorem PKBlk_eq (id i:Nat):PKBlk id Qn Qe i a M=if i=id then Qn a M else Qe i a M:=(rfl)
end
section
variable (a:List PV) (M:Mem) (Q:List PV→Mem→Prop)
theorem PO_nil:RO tab [] a M Q=Q a M:=(rfl)
theorem PO_none (d:Option Nat) (o:AO) (chk:List Nat) (os:List AOper):RO tab (⟨d,o,none,chk⟩::os) a M Q=RS tab o a M (PKPut tab d os a Q):=(rfl)
theorem PO_some (d:Option Nat) (o:AO) (t:Nat) (want:Bool) (chk:List Nat) (os:List AOper):RO tab (⟨d,o,some (t,want),chk⟩::os) a M Q=ZGuard (ptget a t) want (RS tab o a M (PKPut tab d os a Q)) (RO tab os (pput a d (.tuple [])) M Q) ⟨0⟩:=(rfl)
theorem PD_nil (i:Nat) (log:List PLog):RD tab [] i a M log Q=Q a M:=(rfl)
theorem PD_none (d:Option Nat) (o:AO) (chk:List Nat) (os:List AOper) (i:Nat) (log:List PLog):RD tab (⟨d,o,none,chk⟩::os) i a M log Q=RS tab o a M (PKPutD tab d o.effect chk os i a M log Q):=(rfl)
theorem PD_some (d:Option Nat) (o:AO) (t:Nat) (want:Bool) (chk:List Nat) (os:List AOper) (i:Nat) (log:List PLog):RD tab (⟨d,o,some (t,want),chk⟩::os) i a M log Q=ZGuard (ptget a t) want (RS tab o a M (PKPutD tab d o.effect chk os i a M log Q)) (RD tab os (i+1) (pput a d (.tuple [])) M log Q) ⟨0⟩:=(rfl)
theorem PKPut_eq (d:Option Nat) (os:List AOper) (v:PV) (rd chg:List Nat):PKPut tab d os a Q v M rd chg=RO tab os (pput a d v) M Q:=(rfl)
theorem PKPutD_eq (d:Option Nat) (eff:Bool) (chk:List Nat) (os:List AOper) (i:Nat) (log:List PLog) (v:PV) (M':Mem) (rd chg:List Nat):
  PKPutD tab d eff chk os i a M log Q v M' rd chg=(pchk eff rd chg M log chk=true∧RD tab os (i+1) (pput a d v) M' (⟨i,rd,chg,M,M'.length⟩::log) Q):=(rfl)
end
section
variable (a:List PV) (M:Mem) (K:PV→Mem→List Nat→List Nat→Prop)
theorem PS_move (x:AR):RS tab (.move x) a M K=K (pev a x) M [] []:=(rfl)
theorem PS_pick (c x y:AR):RS tab (.pick c x y) a M K=ZBool (pev a c) (fun b=>K (ppick b (pev a x) (pev a y)) M [] []) ⟨0⟩:=(rfl)
theorem PS_alloc (cs:List AV):RS tab (.alloc cs) a M K=K (.ptr M.length 0 0) (M++[.cells 0 0 (cs.map q57)]) [] []:=(rfl)
theorem PS_box (x:AR):RS tab (.box x) a M K=((q66 (pev a x)).all PV.one=true∧K (.ptr M.length 0 0) (M++[.cells 0 0 (q66 (pev a x))]) [] []):=(rfl)
theorem PS_build (z:List AV) (ps:List (Nat×Nat×AR)):RS tab (.build z ps) a M K=ZSome (pfill a (z.map q57) ps) (fun cs=>K (.agg cs) M [] []) ⟨0⟩:=(rfl)
theorem PS_buildSlice (size len:Nat) (z:List AV) (ps:List (Nat×Nat×AR)):RS tab (.buildSlice size len z ps) a M K=((z.length=size∧0<size)∧ZSome (pfill a (prepl len (z.map q57)) ps) (fun cs=>K (.sl true true size len cs) M [] []) ⟨0⟩):=(rfl)
theorem PS_load (x:AR):RS tab (.load x) a M K=ZLoad (pev a x) M (fun v rd=>K v M rd []) ⟨0⟩:=(rfl)
theorem PS_loadAgg (n:Nat) (x:AR):RS tab (.loadAgg n x) a M K=ZLoadN n (pev a x) M (fun v rd=>K v M rd []) ⟨0⟩:=(rfl)
theorem PS_store (n:Nat) (p x:AR):RS tab (.store n p x) a M K=ZStore n (pev a p) (pev a x) M (fun M' chg=>K (.tuple []) M' [] chg) ⟨0⟩:=(rfl)
theorem PS_nilCheck (x:AR):RS tab (.nilCheck x) a M K=ZNilOk (pev a x) M (K (pev a x) M [] []) ⟨0⟩:=(rfl)
theorem PS_bin (op:BinOp) (x y:AR):RS tab (.bin op x y) a M K=ZSome (pbin op (pev a x) (pev a y)) (fun v=>K v M [] []) ⟨0⟩:=(rfl)
theorem PS_eqB (neg:Bool) (x y:AR):RS tab (.eqB neg x y) a M K=ZBool (pev a x) (fun p=>ZBool (pev a y) (fun q=>K (.bool (if neg=true then !(p==q) else p==q)) M [] []) ⟨0⟩) ⟨0⟩:=(rfl)
theorem PS_isNil (kd:Nat) (neg:Bool) (x y:AR):RS tab (.isNil kd neg x y) a M K=ZNil kd (pev a x) (pev a y) M (fun b=>K (.bool (if neg=true then !b else b)) M [] []) ⟨0⟩:=(rfl)
theorem PS_eqCells (neg:Bool) (T:List (Option IntKind)) (x y:AR):RS tab (.eqCells neg T x y) a M K=ZAgg (pev a x) (fun p=>ZAgg (pev a y) (fun q=>ZSome (peqCells T p q) (fun b=>K (.bool (if neg=true then !b else b)) M [] []) ⟨0⟩) ⟨0⟩) ⟨0⟩:=(rfl)
theorem PS_un (op:UnOp) (x:AR):RS tab (.un op x) a M K=ZSome (pun op (pev a x)) (fun v=>K v M [] []) ⟨0⟩:=(rfl)
theorem PS_convInt (k:IntKind) (x:AR):RS tab (.convInt k x) a M K=ZInt (pev a x) (fun _ n=>K (.int k (k.wrap n)) M [] []) ⟨0⟩:=(rfl)
theorem PS_mkFunc (g:FuncId) (f c:List AR):RS tab (.mkFunc (.func g) f c) a M K=K (.func (.func g) (f.map (pev a)) (c.map (pev a))) M [] []:=by simp[RS,PS]
theorem PS_makeSlice (bytes:Nat) (z:List AV) (n c:AR):RS tab (.makeSlice bytes z n c) a M K=ZInt (pev a n) (fun kv l=>ZInt (pev a c) (fun kw m=>(kv= .i64∧kw= .i64∧0≤l∧l≤m∧m*bytes≤140737488355328∧m≤9223372036854775807)∧K (.ref M.length 0 z.length 0 l.toNat) (M++[.cells 0 0 (prepl l.toNat (z.map q57))]) [] []) ⟨0⟩) ⟨0⟩:=(rfl)
theorem PS_slice (size:Nat) (x:AR) (lo hi mx:Option AR):RS tab (.slice size x lo hi mx) a M K=ZBnd a lo (fun l=>ZBnd a hi (fun r=>ZBnd a mx (fun m=>ZSlice size (pev a x) l r m M (fun v=>K v M [] []) ⟨0⟩) ⟨0⟩) ⟨0⟩) ⟨0⟩:=(rfl)
theorem PS_fieldAddr (off:Nat) (x:AR):RS tab (.fieldAddr off x) a M K=ZFld off (pev a x) M (fun v=>K v M [] []) ⟨0⟩:=(rfl)
theorem PS_field (off:Nat) (x:AR):RS tab (.field off none x) a M K=ZAgg (pev a x) (fun cs=>ZSome cs[off]? (fun v=>K v M [] []) ⟨0⟩) ⟨0⟩:=(rfl)
theorem PS_fieldN (off n:Nat) (x:AR):RS tab (.field off (some n) x) a M K=ZAgg (pev a x) (fun cs=>off+n≤cs.length∧K (.agg (psub cs off n)) M [] []) ⟨0⟩:=(rfl)
theorem PS_indexAddr (size:Nat) (x i:AR):RS tab (.indexAddr size x i) a M K=ZIdx size (pev a x) (pev a i) M (fun v=>K v M [] []) ⟨0⟩:=(rfl)
theorem PS_indexAddrA (len size:Nat) (x i:AR):RS tab (.indexAddrA len size x i) a M K=ZIdxA len size (pev a x) (pev a i) M (fun v=>K v M [] []) ⟨0⟩:=(rfl)
theorem PS_index (len size:Nat) (x i:AR):RS tab (.index len size false x i) a M K=ZAgg (pev a x) (fun cs=>ZInt (pev a i) (fun _ j=>(0≤j∧j<len)∧ZSome cs[j.toNat*size]? (fun v=>K v M [] []) ⟨0⟩) ⟨0⟩) ⟨0⟩:=by simp only[RS,PS,Bool.false_eq_true,if_false,if_true];rfl
theorem PS_indexN (len size:Nat) (x i:AR):RS tab (.index len size true x i) a M K=ZAgg (pev a x) (fun cs=>ZInt (pev a i) (fun _ j=>(0≤j∧j<len)∧j.toNat*size+size≤cs.length∧K (.agg (psub cs (j.toNat*size) size)) M [] []) ⟨0⟩) ⟨0⟩:=by simp only[RS,PS,Bool.false_eq_true,if_false,if_true];rfl
theorem PS_extract (x:AR) (i:Nat):RS tab (.extract x i) a M K=ZTup (pev a x) (fun vs=>ZSome vs[i]? (fun v=>K v M [] []) ⟨0⟩) ⟨0⟩:=(rfl)
theorem PS_call (f:AR) (args:List AR):RS tab (.call f args) a M K=QCall tab (pev a f) (args.map (pev a)) M (KPC M K):=(rfl)
theorem PS_append (size bytes:Nat) (s x:AR):RS tab (.append size bytes s x) a M K=(0<size∧ZApp size bytes (pev a s) (pev a x) M K ⟨0⟩):=(rfl)
theorem PS_len (x:AR):RS tab (.len x) a M K=ZLen (pev a x) M (fun v=>K v M [] []) ⟨0⟩:=(rfl)
theorem PS_max (x:AR) (xs:List AR):RS tab (.max x xs) a M K=ZSome (pmaxV (pev a x) (xs.map (pev a))) (fun v=>K v M [] []) ⟨0⟩:=(rfl)
theorem PS_min (x:AR) (xs:List AR):RS tab (.min x xs) a M K=ZSome (pminV (pev a x) (xs.map (pev a))) (fun v=>K v M [] []) ⟨0⟩:=(rfl)
end
theorem QCall_func (g:FuncId) (first cap args:List PV) (M:Mem) (K:PV→Mem→Prop):QCall tab (.func (.func g) first cap) args M K=SemC tab g (first++args++cap) M K:=(rfl)
theorem KPC_eq (M:Mem) (K:PV→Mem→List Nat→List Nat→Prop) (v:PV) (M':Mem):KPC M K v M'=K v M' [] (chgOf M M'):=(rfl)
end
theorem chgFrom_same:∀(i:Nat) (M:Mem),chgFrom i M M=[]
 | _,[]=>rfl
 | i,o::M=>by simp[chgFrom,sameG_refl,chgFrom_same (i+1) M]
theorem chgFrom_app:∀(i:Nat) (M l:Mem),chgFrom i M (M++l)=[]
 | _,[],_=>by simp[chgFrom]
 | i,o::M,l=>by simp[chgFrom,sameG_refl,chgFrom_app (i+1) M l]
theorem chgOf_eq (M M':Mem):chgOf M M'=chgFrom 0 M M':=(rfl)
theorem chgFrom_nil (i:Nat) (M:Mem):chgFrom i [] M=[]:=by simp[chgFrom]
theorem chgFrom_co (i:Nat) (o:PObj) (M M':Mem):chgFrom i (o::M) (o::M')=chgFrom (i+1) M M':=by simp[chgFrom,sameG_refl]
theorem chgFrom_cells (i g g' v v':Nat) (cs cs':List PV) (M M':Mem):chgFrom i (.cells g v cs::M) (.cells g' v' cs'::M')=if g=g'∧v=v' then chgFrom (i+1) M M' else i::chgFrom (i+1) M M':=by
 by_cases h:g=g'∧v=v'<;>simp[chgFrom,sameG,h]
theorem pchk_nil (eff:Bool) (rd chg:List Nat) (M:Mem) (log:List PLog):pchk eff rd chg M log []=true:=by simp[pchk]
section
variable (k:IntKind) (x y:Int)
theorem pbin_add:pbin .add (.int k x) (.int k y)=some (.int k (k.wrap (x+y))):=by simp[pbin,toAV0,abin_add,q57]
theorem pbin_sub:pbin .sub (.int k x) (.int k y)=some (.int k (k.wrap (x-y))):=by simp[pbin,toAV0,abin_sub,q57]
theorem pbin_mul:pbin .mul (.int k x) (.int k y)=some (.int k (k.wrap (x*y))):=by simp[pbin,toAV0,abin_mul,q57]
theorem pbin_eql:pbin .eql (.int k x) (.int k y)=some (.bool (decide (x=y))):=by simp[pbin,toAV0,abin_eql,q57]
theorem pbin_neq:pbin .neq (.int k x) (.int k y)=some (.bool (decide (x≠y))):=by simp[pbin,toAV0,abin_neq,q57]
theorem pbin_lss:pbin .lss (.int k x) (.int k y)=some (.bool (decide (x<y))):=by simp[pbin,toAV0,abin_lss,q57]
theorem pbin_leq:pbin .leq (.int k x) (.int k y)=some (.bool (decide (x≤y))):=by simp[pbin,toAV0,abin_leq,q57]
theorem pbin_gtr:pbin .gtr (.int k x) (.int k y)=some (.bool (decide (y<x))):=by simp[pbin,toAV0,abin_gtr,q57]
theorem pbin_geq:pbin .geq (.int k x) (.int k y)=some (.bool (decide (y≤x))):=by simp[pbin,toAV0,abin_geq,q57]
theorem pmaxV_two:pmaxV (.int k x) [.int k y]=some (.int k (max x y)):=by
 have:=maxV_two k x y
 simp only[maxV]at this
 simp[pmaxV,toAV0,toAVs,this,q57]
end
theorem pun_not (b:Bool):pun .not (.bool b)=some (.bool (!b)):=(rfl)
theorem pun_neg (k:IntKind) (x:Int):pun .neg (.int k x)=some (.int k (k.wrap (0-x))):=by simp[pun,toAV0,aun,q57]
theorem prepl_one (n:Nat) (c:PV):prepl n [c]=List.replicate n c:=by
 induction n with
 | zero=>rfl
 | succ n ih=>simp[prepl,ih,List.replicate_succ]
theorem pover_one (cs:List PV) (o:Nat) (x:PV):pover cs o [x]=cs.set o x:=(rfl)
theorem q63 (cs:List PV) (n:Nat) (h:n=cs.length):psub cs 0 n=cs:=by subst h;simp[psub]
theorem psub_zero (cs:List PV):psub cs 0 cs.length=cs:=by simp[psub]
theorem pover_many (cs:List PV) (o:Nat) (x y:PV) (l:List PV):pover cs o (x::y::l)=cs.take o++(x::y::l)++cs.drop (o+(x::y::l).length):=(rfl)
theorem psub_c0 (x:PV) (cs:List PV) (n:Nat):psub (x::cs) 0 (n+1)=x::psub cs 0 n:=by simp[psub]
theorem psub_cz (cs:List PV) (o:Nat):psub cs o 0=[]:=by simp[psub]
theorem psub_cs (x:PV) (cs:List PV) (o n:Nat):psub (x::cs) (o+1) n=psub cs o n:=by simp[psub]
theorem psub_nil (o n:Nat):psub [] o n=[]:=by simp[psub]
theorem pcells_int (k:IntKind) (n:Int):q66 (.int k n)=[.int k n]:=(rfl)
theorem pcells_bool (b:Bool):q66 (.bool b)=[.bool b]:=(rfl)
theorem pcells_nils:q66 .nils=[.nils]:=(rfl)
theorem pcells_sl (fl own:Bool) (sz n:Nat) (cs:List PV):q66 (.sl fl own sz n cs)=[.sl fl own sz n cs]:=(rfl)
theorem pcells_ref (id g sz off n:Nat):q66 (.ref id g sz off n)=[.ref id g sz off n]:=(rfl)
theorem pcells_ptr (id g o:Nat):q66 (.ptr id g o)=[.ptr id g o]:=(rfl)
theorem pcells_func (fn:Go.Fn) (f c:List PV):q66 (.func fn f c)=[.func fn f c]:=(rfl)
theorem pcells_agg (cs:List PV):q66 (.agg cs)=cs:=(rfl)
theorem one_int (k:IntKind) (n:Int):PV.one (.int k n)=true:=(rfl)
theorem one_bool (b:Bool):PV.one (.bool b)=true:=(rfl)
theorem one_nils:PV.one .nils=true:=(rfl)
theorem one_nilptr:PV.one .nilptr=true:=(rfl)
theorem one_nilfunc:PV.one .nilfunc=true:=(rfl)
theorem one_sl (fl own:Bool) (sz n:Nat) (cs:List PV):PV.one (.sl fl own sz n cs)=true:=(rfl)
theorem one_ref (id g sz off n:Nat):PV.one (.ref id g sz off n)=true:=(rfl)
theorem one_ptr (id g o:Nat):PV.one (.ptr id g o)=true:=(rfl)
theorem one_func (fn:Go.Fn) (f c:List PV):PV.one (.func fn f c)=true:=(rfl)
theorem all_one_ints (k:IntKind) (xs:List Int):(xs.map (PV.int k)).all PV.one=true:=by simp[PV.one]
theorem RX_sound {tab:FuncId→Option AF} (m:Nat) (c:AC) {a:List PV} {M:Mem} {Qn Qr:List PV→Mem→Prop} {Qe:Nat→List PV→Mem→Prop} (hp:RX tab m c a M Qn Qr Qe):SemW tab m c a M Qn Qr Qe:=PX_sound m c hp
theorem SemW_step {tab:FuncId→Option AF} {m:Nat} {sc:List Nat} {x:AC} {a:List PV} {M:Mem} {Qn Qr:List PV→Mem→Prop} {Qe:Nat→List PV→Mem→Prop} (hp:RX tab m x (pscrub a sc) M (PKLoop tab m sc x Qn Qr Qe) Qr Qe):
  SemW tab m (.loop sc x) a M Qn Qr Qe:=SemW_round hp
def PWeak:List PV→List PV→Prop
 | [],[]=>True
 | x::a,y::b=>(y= .junk∨x=y)∧PWeak a b
 | _,_=>False
theorem PWeak.rep {w:PWd} :∀{a b:List PV} {a':List AV},PWeak a b→RepL w a a'→RepL w b a'
 | [],[],a',_,h=>h
 | x::a,y::b,[],_,h=>by have:=h.len;simp at this
 | x::a,y::b,v::a',⟨h1,h2⟩,h=>by
  refine .cons ?_ (PWeak.rep h2 h.tl)
  rcases h1 with rfl | rfl
  ·exact .junk _
  ·exact h.hd
 | [],_::_,a',hw,h=>hw.elim
 | _::_,[],a',hw,h=>hw.elim
theorem q35 {tab:FuncId→Option AF} {m:Nat} {c:AC} {a b:List PV} {M:Mem} {Qn Qr:List PV→Mem→Prop} {Qe:Nat→List PV→Mem→Prop} (h:SemW tab m c b M Qn Qr Qe) (hw:PWeak a b):SemW tab m c a M Qn Qr Qe:=
 fun w hh a' h0 hm s ha=>h w hh a' h0 hm s (hw.rep ha)
theorem PWeak_nil:PWeak [] []=True:=(rfl)
theorem PWeak_junk (x:PV) (a b:List PV):PWeak (x::a) (.junk::b)=PWeak a b:=by simp[PWeak]
theorem PWeak_same (x:PV) (a b:List PV):PWeak (x::a) (x::b)=PWeak a b:=by simp[PWeak]
def jchk:Nat→List Nat→List PV→Bool
 | _,[],_=>true
 | _,_::_,[]=>false
 | i,s::sc,v::b=>match Nat.beq i s with
  | true=>match v with
   | .junk=>jchk (i+1) sc b
   | _=>false
  | false=>jchk (i+1) (s::sc) b
theorem ptset_self:∀(a:List PV) (t:Nat),ptget a t= .junk→ptset a t .junk=a
 | [],_,_=>rfl
 | v::a,0,h=>by simp only[ptget]at h;simp[ptset,h]
 | v::a,t+1,h=>by simp only[ptget]at h;simp[ptset,ptset_self a t h]
theorem jchk_get:∀(b:List PV) (i:Nat) (sc:List Nat),jchk i sc b=true→∀s∈sc,i≤s∧ptget b (s-i)= .junk
 | b,i,[],_,s,hs=>by cases hs
 | [],i,s0::sc,h,s,hs=>by simp[jchk]at h
 | v::b,i,s0::sc,h,s,hs=>by
  unfold jchk at h
  split at h
  ·rename_i he
   have he:i=s0:=Nat.eq_of_beq_eq_true he
   split at h
   ·rcases List.mem_cons.1 hs with rfl | hs
    ·subst he;exact⟨Nat.le_refl _,by simp[ptget]⟩
    ·obtain⟨h1,h2⟩:=jchk_get b (i+1) sc h s hs
     refine⟨by omega,?_⟩
     rw[show s-i=(s-(i+1))+1 by omega]
     simpa [ptget] using h2
   ·cases h
  ·obtain⟨h1,h2⟩:=jchk_get b (i+1) (s0::sc) h s hs
   refine⟨by omega,?_⟩
   rw[show s-i=(s-(i+1))+1 by omega]
   simpa [ptget] using h2
theorem pscrub_same:∀(sc:List Nat) (b:List PV),(∀s∈sc,ptget b s= .junk)→pscrub b sc=b
 | [],b,_=>rfl
 | s::sc,b,h=>by
  simp only[pscrub]
  rw[ptset_self b s (h s (by simp))]
  exact pscrub_same sc b fun t ht=>h t (List.mem_cons_of_mem _ ht)
theorem q48 {tab:FuncId→Option AF} {m:Nat} {sc:List Nat} {x:AC} {a:List PV} {M:Mem} {Qn Qr:List PV→Mem→Prop} {Qe:Nat→List PV→Mem→Prop} (hj:jchk 0 sc a=true) (hp:RX tab m x a M (PKLoop tab m sc x Qn Qr Qe) Qr Qe):
  SemW tab m (.loop sc x) a M Qn Qr Qe:=by
 refine SemW_step ?_
 rw[pscrub_same sc a fun s hs=>by simpa using (jchk_get a 0 sc hj s hs).2]
 exact hp
theorem loop1 {A1:Type} {tab:FuncId→Option AF} {m:Nat} {sc:List Nat} {x:AC} {a:List PV} {M:Mem} {Qn Qr:List PV→Mem→Prop} {Qe:Nat→List PV→Mem→Prop} (I:A1→Prop) (fr:A1→List PV) (mem:A1→Mem) (mea:A1→Nat)
  (z1:A1) (h0:I z1) (hw:PWeak a (fr z1)) (hM:M=mem z1)
  (step:∀(x1:A1),I x1→(∀(y1:A1),I y1→mea y1<mea x1→SemW tab m (.loop sc x) (fr y1) (mem y1) Qn Qr Qe)→SemW tab m (.loop sc x) (fr x1) (mem x1) Qn Qr Qe):SemW tab m (.loop sc x) a M Qn Qr Qe:=by
 subst hM
 refine q35 ?_ hw
 have key:∀(k:Nat) (x1:A1),mea x1<k→I x1→SemW tab m (.loop sc x) (fr x1) (mem x1) Qn Qr Qe:=by
  intro k
  induction k with
  | zero=>intro x1 h;omega
  | succ k ih=>
   intro x1 h hi
   exact step x1 hi fun y1 hy hm=>ih y1 (by omega) hy
 exact key (mea z1+1) z1 (by omega) h0
theorem loop2 {A1:Type} {A2:Type} {tab:FuncId→Option AF} {m:Nat} {sc:List Nat} {x:AC} {a:List PV} {M:Mem} {Qn Qr:List PV→Mem→Prop} {Qe:Nat→List PV→Mem→Prop} (I:A1→A2→Prop) (fr:A1→A2→List PV) (mem:A1→A2→Mem) (mea:A1→A2→Nat)
  (z1:A1) (z2:A2) (h0:I z1 z2) (hw:PWeak a (fr z1 z2)) (hM:M=mem z1 z2)
  (step:∀(x1:A1) (x2:A2),I x1 x2→(∀(y1:A1) (y2:A2),I y1 y2→mea y1 y2<mea x1 x2→SemW tab m (.loop sc x) (fr y1 y2) (mem y1 y2) Qn Qr Qe)→SemW tab m (.loop sc x) (fr x1 x2) (mem x1 x2) Qn Qr Qe):SemW tab m (.loop sc x) a M Qn Qr Qe:=by
 subst hM
 refine q35 ?_ hw
 have key:∀(k:Nat) (x1:A1) (x2:A2),mea x1 x2<k→I x1 x2→SemW tab m (.loop sc x) (fr x1 x2) (mem x1 x2) Qn Qr Qe:=by
  intro k
  induction k with
  | zero=>intro x1 x2 h;omega
  | succ k ih=>
   intro x1 x2 h hi
   exact step x1 x2 hi fun y1 y2 hy hm=>ih y1 y2 (by omega) hy
 exact key (mea z1 z2+1) z1 z2 (by omega) h0
theorem loop3 {A1:Type} {A2:Type} {A3:Type} {tab:FuncId→Option AF} {m:Nat} {sc:List Nat} {x:AC} {a:List PV} {M:Mem} {Qn Qr:List PV→Mem→Prop} {Qe:Nat→List PV→Mem→Prop} (I:A1→A2→A3→Prop) (fr:A1→A2→A3→List PV) (mem:A1→A2→A3→Mem) (mea:A1→A2→A3→Nat)
  (z1:A1) (z2:A2) (z3:A3) (h0:I z1 z2 z3) (hw:PWeak a (fr z1 z2 z3)) (hM:M=mem z1 z2 z3)
  (step:∀(x1:A1) (x2:A2) (x3:A3),I x1 x2 x3→(∀(y1:A1) (y2:A2) (y3:A3),I y1 y2 y3→mea y1 y2 y3<mea x1 x2 x3→SemW tab m (.loop sc x) (fr y1 y2 y3) (mem y1 y2 y3) Qn Qr Qe)→SemW tab m (.loop sc x) (fr x1 x2 x3) (mem x1 x2 x3) Qn Qr Qe):SemW tab m (.loop sc x) a M Qn Qr Qe:=by
 subst hM
 refine q35 ?_ hw
 have key:∀(k:Nat) (x1:A1) (x2:A2) (x3:A3),mea x1 x2 x3<k→I x1 x2 x3→SemW tab m (.loop sc x) (fr x1 x2 x3) (mem x1 x2 x3) Qn Qr Qe:=by
  intro k
  induction k with
  | zero=>intro x1 x2 x3 h;omega
  | succ k ih=>
   intro x1 x2 x3 h hi
   exact step x1 x2 x3 hi fun y1 y2 y3 hy hm=>ih y1 y2 y3 (by omega) hy
 exact key (mea z1 z2 z3+1) z1 z2 z3 (by omega) h0
theorem loop4 {A1:Type} {A2:Type} {A3:Type} {A4:Type} {tab:FuncId→Option AF} {m:Nat} {sc:List Nat} {x:AC} {a:List PV} {M:Mem} {Qn Qr:List PV→Mem→Prop} {Qe:Nat→List PV→Mem→Prop} (I:A1→A2→A3→A4→Prop) (fr:A1→A2→A3→A4→List PV) (mem:A1→A2→A3→A4→Mem) (mea:A1→A2→A3→A4→Nat)
  (z1:A1) (z2:A2) (z3:A3) (z4:A4) (h0:I z1 z2 z3 z4) (hw:PWeak a (fr z1 z2 z3 z4)) (hM:M=mem z1 z2 z3 z4)
  (step:∀(x1:A1) (x2:A2) (x3:A3) (x4:A4),I x1 x2 x3 x4→(∀(y1:A1) (y2:A2) (y3:A3) (y4:A4),I y1 y2 y3 y4→mea y1 y2 y3 y4<mea x1 x2 x3 x4→SemW tab m (.loop sc x) (fr y1 y2 y3 y4) (mem y1 y2 y3 y4) Qn Qr Qe)→SemW tab m (.loop sc x) (fr x1 x2 x3 x4) (mem x1 x2 x3 x4) Qn Qr Qe):SemW tab m (.loop sc x) a M Qn Qr Qe:=by
 subst hM
 refine q35 ?_ hw
 have key:∀(k:Nat) (x1:A1) (x2:A2) (x3:A3) (x4:A4),mea x1 x2 x3 x4<k→I x1 x2 x3 x4→SemW tab m (.loop sc x) (fr x1 x2 x3 x4) (mem x1 x2 x3 x4) Qn Qr Qe:=by
  intro k
  induction k with
  | zero=>intro x1 x2 x3 x4 h;omega
  | succ k ih=>
   intro x1 x2 x3 x4 h hi
   exact step x1 x2 x3 x4 hi fun y1 y2 y3 y4 hy hm=>ih y1 y2 y3 y4 (by omega) hy
 exact key (mea z1 z2 z3 z4+1) z1 z2 z3 z4 (by omega) h0
theorem loop5 {A1:Type} {A2:Type} {A3:Type} {A4:Type} {A5:Type} {tab:FuncId→Option AF} {m:Nat} {sc:List Nat} {x:AC} {a:List PV} {M:Mem} {Qn Qr:List PV→Mem→Prop} {Qe:Nat→List PV→Mem→Prop} (I:A1→A2→A3→A4→A5→Prop) (fr:A1→A2→A3→A4→A5→List PV) (mem:A1→A2→A3→A4→A5→Mem) (mea:A1→A2→A3→A4→A5→Nat)
  (z1:A1) (z2:A2) (z3:A3) (z4:A4) (z5:A5) (h0:I z1 z2 z3 z4 z5) (hw:PWeak a (fr z1 z2 z3 z4 z5)) (hM:M=mem z1 z2 z3 z4 z5)
  (step:∀(x1:A1) (x2:A2) (x3:A3) (x4:A4) (x5:A5),I x1 x2 x3 x4 x5→(∀(y1:A1) (y2:A2) (y3:A3) (y4:A4) (y5:A5),I y1 y2 y3 y4 y5→mea y1 y2 y3 y4 y5<mea x1 x2 x3 x4 x5→SemW tab m (.loop sc x) (fr y1 y2 y3 y4 y5) (mem y1 y2 y3 y4 y5) Qn Qr Qe)→SemW tab m (.loop sc x) (fr x1 x2 x3 x4 x5) (mem x1 x2 x3 x4 x5) Qn Qr Qe):SemW tab m (.loop sc x) a M Qn Qr Qe:=by
 subst hM
 refine q35 ?_ hw
 have key:∀(k:Nat) (x1:A1) (x2:A2) (x3:A3) (x4:A4) (x5:A5),mea x1 x2 x3 x4 x5<k→I x1 x2 x3 x4 x5→SemW tab m (.loop sc x) (fr x1 x2 x3 x4 x5) (mem x1 x2 x3 x4 x5) Qn Qr Qe:=by
  intro k
  induction k with
  | zero=>intro x1 x2 x3 x4 x5 h;omega
  | succ k ih=>
   intro x1 x2 x3 x4 x5 h hi
   exact step x1 x2 x3 x4 x5 hi fun y1 y2 y3 y4 y5 hy hm=>ih y1 y2 y3 y4 y5 (by omega) hy
 exact key (mea z1 z2 z3 z4 z5+1) z1 z2 z3 z4 z5 (by omega) h0
attribute [irreducible] QIf ZInt ZBool ZAgg ZTup ZOb ZSome ZLen ZIdx ZIdxA ZFld ZLoad ZLoadN ZStore ZSrc ZApp ZBnd ZSlice ZNilOk ZNil ZGuard ZCond RX RO RD RS PKSeq PKBlk PKPut PKPutD PKLoop
mutual
def PV.under (m:Nat):PV→Bool
 | .ptr id _ _=>decide (id<m)
 | .ref id _ _ _ _=>decide (id<m)
 | .map id=>decide (id<m)
 | .yld id f=>decide (id<m)&&q19 m f
 | .cp cs _=>q19 m cs
 | .sl _ _ _ _ cs=>q19 m cs
 | .func _ f c=>q19 m f&&q19 m c
 | .iface _ v=>PV.under m v
 | .agg cs=>q19 m cs
 | .tuple cs=>q19 m cs
 | .junk=>true
 | .bool _=>true
 | .int _ _=>true
 | .str _=>true
 | .nilptr=>true
 | .nils=>true
 | .nilmap=>true
 | .nilfunc=>true
 | .niliface=>true
def q19 (m:Nat):List PV→Bool
 | []=>true
 | v::l=>PV.under m v&&q19 m l
end
theorem underL_iff (m:Nat):∀(l:List PV),q19 m l=true↔∀v∈l,v.under m=true
 | []=>by simp[q19]
 | v::l=>by simp[q19,underL_iff m l]
theorem underL_get {m:Nat} {l:List PV} (h:q19 m l=true) {i:Nat} {y:PV} (hy:l[i]? =some y):y.under m=true:=(underL_iff m l).1 h y (List.mem_of_getElem? hy)
theorem underL_ints (m:Nat) (k:IntKind) (xs:List Int):q19 m (xs.map (PV.int k))=true:=(underL_iff m _).2 fun v hv=>by
 obtain⟨x,_,rfl⟩:=List.mem_map.1 hv;simp[PV.under]
theorem underL_map {α:Type} (m:Nat) (f:α→PV) (hf:∀x,(f x).under m=true) (xs:List α):q19 m (xs.map f)=true:=(underL_iff m _).2 fun v hv=>by
 obtain⟨x,_,rfl⟩:=List.mem_map.1 hv;exact hf x
theorem underL_append (m:Nat) (l l':List PV):q19 m (l++l')=(q19 m l&&q19 m l'):=by
 induction l with
 | nil=>simp[q19]
 | cons v l ih=>simp[q19,ih,Bool.and_assoc]
theorem underL_drop {m:Nat} {l:List PV} (h:q19 m l=true) (k:Nat):q19 m (l.drop k)=true:=(underL_iff m _).2 fun v hv=>(underL_iff m l).1 h v (List.mem_of_mem_drop hv)
theorem underL_take {m:Nat} {l:List PV} (h:q19 m l=true) (k:Nat):q19 m (l.take k)=true:=(underL_iff m _).2 fun v hv=>(underL_iff m l).1 h v (List.mem_of_mem_take hv)
theorem RepV.low {w w':PWd} {m:Nat} (h0:w'.n0=w.n0) (hi:∀b o,w.imm b=some o→w'.imm b=some o) (he:∀id,id<m→w'.env id=w.env id) {v:PV} {x:AV} (h:RepV w v x):v.under m=true→RepV w' v x:=by
 induction h with
 | junk x=>intro _;exact .junk x
 | bool b=>intro _;exact .bool b
 | int k n=>intro _;exact .int k n
 | str s=>intro _;exact .str s
 | nilptr=>intro _;exact .nilptr
 | nils=>intro _;exact .nils
 | nilmap=>intro _;exact .nilmap
 | nilfunc=>intro _;exact .nilfunc
 | niliface=>intro _;exact .niliface
 | ptr h1 h2 h3=>intro hb;simp only[PV.under,decide_eq_true_eq]at hb;exact .ptr (by rw[he _ hb];exact h1) h2 h3
 | ptrS x q h1 h2=>intro hb;simp only[PV.under,decide_eq_true_eq]at hb;exact .ptrS x q (by rw[he _ hb];exact h1) h2
 | cp h1 h2 h3 ih=>intro hb;simp only[PV.under]at hb;exact .cp (hi _ _ h1) h2 (fun i y z p q=>ih i y z p q (underL_get hb p))
 | sl h1 h2 h3 h4 h5 h7 h6 ih=>intro hb;simp only[PV.under]at hb;exact .sl (hi _ _ h1) h2 h3 h4 (by rw[h0];exact h5) (by rw[h0];exact h7) (fun i y z p q=>ih i y z p q (underL_get hb p))
 | slN=>intro _;exact .slN
 | ref h1 h2 h3=>intro hb;simp only[PV.under,decide_eq_true_eq]at hb;exact .ref (by rw[he _ hb];exact h1) h2 h3
 | refN h1 h2 h3=>intro hb;simp only[PV.under,decide_eq_true_eq]at hb;exact .refN (by rw[he _ hb];exact h1) h2 h3
 | refS x q h1 h2=>intro hb;simp only[PV.under,decide_eq_true_eq]at hb;exact .refS x q (by rw[he _ hb];exact h1) h2
 | map h1 h2 h3=>intro hb;simp only[PV.under,decide_eq_true_eq]at hb;exact .map (by rw[he _ hb];exact h1) h2 h3
 | mapS x q h1 h2=>intro hb;simp only[PV.under,decide_eq_true_eq]at hb;exact .mapS x q (by rw[he _ hb];exact h1) h2
 | func h1 h2 h3 h4 h5 ih1 ih2=>
  intro hb;simp only[PV.under,Bool.and_eq_true]at hb
  exact .func h1 h2 h3 (fun i y z p q=>ih1 i y z p q (underL_get hb.1 p)) (fun i y z p q=>ih2 i y z p q (underL_get hb.2 p))
 | yld h1 h2 h3 h4 h5 ih=>
  intro hb;simp only[PV.under,Bool.and_eq_true,decide_eq_true_eq]at hb
  exact .yld (by rw[he _ hb.1];exact h1) h2 h3 h4 (fun i y z p q=>ih i y z p q (underL_get hb.2 p))
 | yldS x q h1 h2=>intro hb;simp only[PV.under,Bool.and_eq_true,decide_eq_true_eq]at hb;exact .yldS x q (by rw[he _ hb.1];exact h1) h2
 | iface h ih=>intro hb;simp only[PV.under]at hb;exact .iface (ih hb)
 | agg h1 h2 ih=>intro hb;simp only[PV.under]at hb;exact .agg h1 (fun i y z p q=>ih i y z p q (underL_get hb p))
 | tuple h1 h2 ih=>intro hb;simp only[PV.under]at hb;exact .tuple h1 (fun i y z p q=>ih i y z p q (underL_get hb p))
theorem RepL.low {w w':PWd} {m:Nat} (h0:w'.n0=w.n0) (hi:∀b o,w.imm b=some o→w'.imm b=some o) (he:∀id,id<m→w'.env id=w.env id) {l:List PV} {l':List AV} (h:RepL w l l') (hb:q19 m l=true):RepL w' l l':=
 ⟨h.len,fun i y z p q=>(h.get i y z p q).low h0 hi he (underL_get hb p)⟩
def q67 (m:Nat) (M:Mem):PV→Option PV
 | .ref id g sz off n=>if id<m then some (.ref id g sz off n) else match M[id]? with
  | some (.cells g' _ cs)=>if g'=g∧off+n*sz≤cs.length∧q19 m cs=true then some (.sl false true sz n (psub cs off (n*sz))) else none
  | _=>none
 | v=>if v.under m=true then some v else none
def pfrzL (m:Nat) (M:Mem):List PV→Option (List PV)
 | []=>some []
 | v::l=>match q67 m M v,pfrzL m M l with
  | some x,some xs=>some (x::xs)
  | _,_=>none
def pfrz2 (m:Nat) (M:Mem):PV→Option PV
 | .agg cs=>(pfrzL m M cs).map .agg
 | v=>q67 m M v
def pfrzL2 (m:Nat) (M:Mem):List PV→Option (List PV)
 | []=>some []
 | v::l=>match pfrz2 m M v,pfrzL2 m M l with
  | some x,some xs=>some (x::xs)
  | _,_=>none
def pfrz (m:Nat) (M:Mem):PV→Option PV
 | .tuple cs=>(pfrzL2 m M cs).map .tuple
 | v=>pfrz2 m M v
theorem frz1_below {m:Nat} {M:Mem} {v r:PV} (hr:q67 m M v=some r):r.under m=true:=by
 have other:(if v.under m=true then some v else none)=some r→r.under m=true:=by
  intro hr
  split at hr
  ·rename_i hb;cases hr;exact hb
  ·cases hr
 unfold q67 at hr
 split at hr
 ·split at hr
  ·rename_i hi;cases hr;simp[PV.under,hi]
  ·split at hr
   ·split at hr
    ·rename_i hc;cases hr;simp only[PV.under];exact underL_take (underL_drop hc.2.2 _) _
    ·cases hr
   ·cases hr
 ·exact other hr
theorem frzL_below {m:Nat} {M:Mem} :∀{l r:List PV},pfrzL m M l=some r→q19 m r=true
 | [],r,hr=>by simp only[pfrzL]at hr;cases hr;rfl
 | v::l,r,hr=>by
  simp only[pfrzL]at hr
  split at hr
  ·rename_i a b h1 h2;cases hr;simp[q19,frz1_below h1,frzL_below h2]
  ·cases hr
theorem frz2_below {m:Nat} {M:Mem} {v r:PV} (hr:pfrz2 m M v=some r):r.under m=true:=by
 unfold pfrz2 at hr
 split at hr
 ·rename_i cs
  cases hq:pfrzL m M cs with
  | none=>rw[hq]at hr;cases hr
  | some cs2=>rw[hq]at hr;cases hr;simp only[PV.under];exact frzL_below hq
 ·exact frz1_below hr
theorem frzL2_below {m:Nat} {M:Mem} :∀{l r:List PV},pfrzL2 m M l=some r→q19 m r=true
 | [],r,hr=>by simp only[pfrzL2]at hr;cases hr;rfl
 | v::l,r,hr=>by
  simp only[pfrzL2]at hr
  split at hr
  ·rename_i a b h1 h2;cases hr;simp[q19,frz2_below h1,frzL2_below h2]
  ·cases hr
theorem frz_below {m:Nat} {M:Mem} {v r:PV} (hr:pfrz m M v=some r):r.under m=true:=by
 unfold pfrz at hr
 split at hr
 ·rename_i cs
  cases hq:pfrzL2 m M cs with
  | none=>rw[hq]at hr;cases hr
  | some cs2=>rw[hq]at hr;cases hr;simp only[PV.under];exact frzL2_below hq
 ·exact frz2_below hr
def PObj.under (m:Nat):PObj→Bool
 | .cells _ _ cs=>q19 m cs
 | .gone=>true
 | _=>false
open Classical in
noncomputable def PWd.cut (w:PWd) (h:H) (m:Nat) (M:Mem):PWd where
 n0:=w.n0
 id0:=w.id0
 env:=fun id=>if id<m then w.env id else none
 imm:=fun b=>if ∃id,m≤id∧LiveAt w M id b then h.get b else w.imm b
open Classical in
theorem cut_imm {w:PWd} {h:H} {M:Mem} (s:PSt w h M) (m:Nat):∀b o,w.imm b=some o→(w.cut h m M).imm b=some o:=by
 intro b o hb
 show(if _ then _ else _)=_
 split
 ·exact s.imm b o hb
 ·exact hb
theorem cut_env {w:PWd} {h:H} {M:Mem} {m id:Nat} (hi:id<m):(w.cut h m M).env id=w.env id:=by
 show(if _ then _ else _)=_;rw[if_pos hi]
theorem cut_live {w:PWd} {h:H} {M:Mem} {m id x:Nat} (hl:LiveAt (w.cut h m M) (M.take m) id x):id<m∧LiveAt w M id x:=by
 obtain⟨o,e,h1,h2,h3,h4⟩:=hl
 have hi:id<m:=by
  have:=q27 h1
  simp at this;omega
 rw[cut_env hi]at h3
 rw[List.getElem?_take,if_pos hi]at h1
 exact⟨hi,o,e,h1,h2,h3,h4⟩
open Classical in
theorem PSt.cut {w:PWd} {h:H} {M:Mem} (s:PSt w h M) {m:Nat} (hm:m≤M.length) (hb:(M.take m).all (PObj.under m)=true):
  PSt (w.cut h m M) h (M.take m)∧∀(w0:PWd) (h0:H) (M0:Mem),PStp m w0 h0 M0 w h M→PStp m w0 h0 M0 (w.cut h m M) h (M.take m):=by
 have hlen:(M.take m).length=m:=by simp;omega
 refine⟨⟨?_,?_,?_,?_,?_,?_,s.base⟩,fun w0 h0 M0 t=>⟨by omega,⟨t.le.n0,t.le.id0,fun b o hbo=>cut_imm s m b o (t.le.imm b o hbo),fun id hi e he=>?_⟩,t.next,t.keep,fun id x hl hx=>t.live id x (cut_live hl).2 hx,?_⟩⟩
 ·intro b o hbo
  have hbo:(if ∃id,m≤id∧LiveAt w M id b then h.get b else w.imm b)=some o:=hbo
  split at hbo
  ·exact hbo
  ·exact s.imm b o hbo
 ·intro id e he
  have he:(if id<m then w.env id else none)=some e:=he
  split at he
  ·rename_i hi;omega
  ·cases he
 ·intro id e b he hbl
  have he:(if id<m then w.env id else none)=some e:=he
  split at he
  ·exact s.blk id e b he hbl
  ·cases he
 ·intro id o ho
  have hi:id<m:=by have:=q27 ho;omega
  have ho':=ho
  rw[List.getElem?_take,if_pos hi]at ho'
  have hbo:o.under m=true:=by
   rw[List.all_eq_true]at hb;exact hb o (List.mem_of_getElem? ho)
  have r:=s.obj id o ho'
  cases o with
  | cells g ver cs=>
   obtain⟨e,h1,h2,h3⟩:=r
   refine⟨e,by rw[cut_env hi];exact h1,h2,?_⟩
   cases hbl:e.blk with
   | none=>rw[hbl]at h3;exact h3
   | some b=>
    rw[hbl]at h3
    obtain⟨bcs,h4,h5⟩:=h3
    exact⟨bcs,h4,h5.low (w:=w) (w':=w.cut h m M) rfl (cut_imm s m) (fun id hi=>cut_env hi) hbo⟩
  | gone=>trivial
  | _=>simp[PObj.under]at hbo
 ·intro i j x h1 h2;exact s.inj i j x (cut_live h1).2 (cut_live h2).2
 ·intro i x h1
  obtain⟨hi,hl⟩:=cut_live h1
  refine⟨?_,(s.sep i x hl).2⟩
  show(if _ then _ else _)=_
  split
  ·rename_i hc
   obtain⟨j,hj,hl2⟩:=hc
   have:=s.inj i j x hl hl2
   omega
  ·exact(s.sep i x hl).1
 ·rw[cut_env hi];exact t.le.env id hi e he
 ·intro x hx
  have hx:(if ∃id,m≤id∧LiveAt w M id x then h.get x else w.imm x)≠none:=hx
  split at hx
  ·rename_i hc
   obtain⟨id,hid,hl⟩:=hc
   rcases Nat.lt_or_ge x h0.next with hxn | hxn
   ·exact .inr (.inr ⟨id,hid,t.live id x hl hxn⟩)
   ·exact .inr (.inl hxn)
  ·exact t.new x hx
open Classical in
theorem frz1_rep {w:PWd} {h:H} {M:Mem} (s:PSt w h M) {m:Nat} (h0:w.id0≤m) {v r:PV} {x:AV} (hv:RepV w v x) (hr:q67 m M v=some r):RepV (w.cut h m M) r x:=by
 have low:∀{u:PV},RepV w u x→u.under m=true→RepV (w.cut h m M) u x:=fun hu hb=>hu.low (w:=w) (w':=w.cut h m M) rfl (cut_imm s m) (fun id hi=>cut_env hi) hb
 have other:(if v.under m=true then some v else none)=some r→RepV (w.cut h m M) r x:=by
  intro hr
  split at hr
  ·rename_i hb;cases hr;exact low hv hb
  ·cases hr
 unfold q67 at hr
 split at hr
 ·rename_i id g sz off n
  split at hr
  ·rename_i hi
   cases hr
   exact low hv (by simp[PV.under,hi])
  ·rename_i hi
   split at hr
   ·rename_i g' ver cs hm
    split at hr
    ·rename_i hc
     obtain⟨rfl,hl,hb⟩:=hc
     cases hr
     obtain⟨e,p1,p2,p3⟩:=s.refAt hm hv
     rcases p3 with⟨rfl,rfl,rfl,_,rfl⟩ | ⟨fl,b,bcs,rfl,q1,q2,q3,q4⟩
     ·simpa [psub] using RepV.slN
     ·have hlive:∃i,m≤i∧LiveAt w M i b:=⟨id,by omega,q4⟩
      have him:(w.cut h m M).imm b=some (.cells (e.v0+ver) true bcs):=by
       show(if _ then _ else _)=_
       rw[if_pos hlive];exact q2
      have hlen:(psub cs off (n*sz)).length=n*sz:=by simp[psub];omega
      have hs:=(rep_sub q3 off (n*sz)).low (w:=w) (w':=w.cut h m M) rfl (cut_imm s m) (fun id hi=>cut_env hi) (underL_take (underL_drop hb off) _)
      refine .sl him (by rw[hlen,←q3.len];exact hl) hlen (fun hf=>by cases hf) (fun _=>⟨(s.sep id b q4).2 (by omega),rfl⟩) (fun q=>by cases q) (fun i y z hy hz=>hs.get i y z hy ?_)
      rw[List.getElem?_take,if_pos (by have:=q27 hy;omega),List.getElem?_drop];exact hz
    ·cases hr
   ·cases hr
 ·exact other hr
theorem frzL_rep {w:PWd} {h:H} {M:Mem} (s:PSt w h M) {m:Nat} (h0:w.id0≤m):∀{l r:List PV} {l':List AV},RepL w l l'→pfrzL m M l=some r→RepL (w.cut h m M) r l'
 | [],r,l',hl,hr=>by
  simp only[pfrzL]at hr;cases hr
  exact⟨hl.len,fun i y z h=>by simp at h⟩
 | v::l,r,[],hl,hr=>by have:=hl.len;simp at this
 | v::l,r,x::l',hl,hr=>by
  simp only[pfrzL]at hr
  split at hr
  ·rename_i a b h1 h2
   cases hr
   exact .cons (frz1_rep s h0 hl.hd h1) (frzL_rep s h0 hl.tl h2)
  ·cases hr
theorem frz2_rep {w:PWd} {h:H} {M:Mem} (s:PSt w h M) {m:Nat} (h0:w.id0≤m) {v r:PV} {x:AV} (hv:RepV w v x) (hr:pfrz2 m M v=some r):RepV (w.cut h m M) r x:=by
 unfold pfrz2 at hr
 split at hr
 ·rename_i cs
  cases hq:pfrzL m M cs with
  | none=>rw[hq]at hr;cases hr
  | some cs2=>
   rw[hq]at hr;cases hr
   obtain⟨cs',rfl,hl⟩:=rep_agg hv
   have:=frzL_rep s h0 hl hq
   exact .agg this.len this.get
 ·exact frz1_rep s h0 hv hr
theorem frzL2_rep {w:PWd} {h:H} {M:Mem} (s:PSt w h M) {m:Nat} (h0:w.id0≤m):∀{l r:List PV} {l':List AV},RepL w l l'→pfrzL2 m M l=some r→RepL (w.cut h m M) r l'
 | [],r,l',hl,hr=>by
  simp only[pfrzL2]at hr;cases hr
  exact⟨hl.len,fun i y z h=>by simp at h⟩
 | v::l,r,[],hl,hr=>by have:=hl.len;simp at this
 | v::l,r,x::l',hl,hr=>by
  simp only[pfrzL2]at hr
  split at hr
  ·rename_i a b h1 h2
   cases hr
   exact .cons (frz2_rep s h0 hl.hd h1) (frzL2_rep s h0 hl.tl h2)
  ·cases hr
theorem frz_rep {w:PWd} {h:H} {M:Mem} (s:PSt w h M) {m:Nat} (h0:w.id0≤m) {v r:PV} {x:AV} (hv:RepV w v x) (hr:pfrz m M v=some r):RepV (w.cut h m M) r x:=by
 unfold pfrz at hr
 split at hr
 ·rename_i cs
  cases hq:pfrzL2 m M cs with
  | none=>rw[hq]at hr;cases hr
  | some cs2=>
   rw[hq]at hr;cases hr
   obtain⟨cs',rfl,hl⟩:=rep_tuple hv
   have:=frzL2_rep s h0 hl hq
   exact .tuple this.len this.get
 ·exact frz2_rep s h0 hv hr
section
variable {tab:FuncId→Option AF}
theorem C_mono {L:Rec} {g:FuncId} {args:List AV} {h:H} {K K':AV→H→Prop} (hc:C L g args h K) (hk:∀v h',K v h'→K' v h'):C L g args h K':=by
 unfold C at hc ⊢
 obtain⟨v,h',h1,h2⟩:=hc
 exact⟨v,h',h1,hk v h' h2⟩
theorem SemC.mono {g:FuncId} {args:List PV} {M:Mem} {K K':PV→Mem→Prop} (hc:SemC tab g args M K) (hk:∀v M',K v M'→K' v M'):SemC tab g args M K':=
 fun w h args' h0 s ha=>C_mono (hc w h args' h0 s ha) fun v h' ⟨w',r,M',p1,p2,p3,p4⟩=>⟨w',r,M',p1,p2,p3,hk _ _ p4⟩
theorem SemC_frame {g:FuncId} {args:List PV} {M:Mem} {K:PV→Mem→Prop} (hb:q19 0 args=true) (hc:SemC tab g args [] fun r M'=>QSome (pfrz 0 M' r) fun r'=>K r' M):SemC tab g args M K:=by
 intro w h args' h0 s ha
 let w0:PWd:={w with env:=fun _=>none,id0:=0}
 have s0:PSt w0 h []:=⟨s.imm,(fun id e he=>by cases he),(fun id e b he=>by cases he),(fun id o ho=>by simp at ho),(fun i j x ⟨_,_,h1,_⟩=>by simp at h1),(fun i x ⟨_,_,h1,_⟩=>by simp at h1),s.base⟩
 have a0:RepL w0 args args':=ha.low (w:=w) (w':=w0) rfl (fun _ _ h=>h) (fun id hi=>by omega) hb
 refine C_mono (hc w0 h args' (Nat.le_refl _) s0 a0) ?_
 rintro v h' ⟨w1,r,M1,p1,p2,p3,r',p5,p6⟩
 have q1:=frz_rep p2 (by rw[p1.le.id0];exact Nat.le_refl _) p3 p5
 obtain⟨z1,z2⟩:=p2.cut (m:=0) (Nat.zero_le _) (by simp)
 have p1:=z2 w0 h [] p1
 have hle:w1.n0=w.n0:=p1.le.n0
 have hnl:∀x id,¬LiveAt w0 [] id x:=fun x id ⟨_,_,h1,_⟩=>by simp at h1
 have hkeep:∀x,x<h.next→h'.get x=h.get x:=fun x hx=>p1.keep x hx (hnl x)
 let w2:PWd:={n0:=w.n0,id0:=w.id0,env:=w.env,imm:=(w1.cut h' 0 M1).imm}
 have hl:Le M.length w w2:=⟨rfl,rfl,fun b o hbo=>p1.le.imm b o hbo,fun id hi e he=>⟨e,he,.inr rfl⟩⟩
 have hr:RepV w2 r' v:=by
  exact q1.low (w:=w1.cut h' 0 M1) (w':=w2) (m:=0) hle.symm (fun _ _ h=>h) (fun id hi=>by omega) (frz_below p5)
 refine⟨w2,r',M,⟨Nat.le_refl _,hl,p1.next,fun x hx _=>hkeep x hx,fun id x hlv _=>hlv,?_⟩,⟨fun b o hbo=>z1.imm b o hbo,s.env,?_,?_,s.inj,?_,Nat.le_trans s.base p1.next⟩,hr,p6⟩
 ·intro x hx
  rcases p1.new x hx with e | e | ⟨id,_,e⟩
  ·exact .inl e
  ·exact .inr (.inl e)
  ·exact absurd e (hnl x id)
 ·intro id e b he hbl;exact Nat.lt_of_lt_of_le (s.blk id e b he hbl) p1.next
 ·intro id o ho
  exact RepO.mono s hl (s.obj id o ho) (fun e he=>he) (fun e b he hbl=>hkeep b (s.blk id e b he hbl))
 ·intro i x hlv
  have hlv:LiveAt w M i x:=hlv
  refine⟨?_,(s.sep i x hlv).2⟩
  show(w1.cut h' 0 M1).imm x=none
  cases hc:(w1.cut h' 0 M1).imm x with
  | none=>rfl
  | some o=>
   rcases p1.new x (by rw[hc];simp) with e | e | ⟨id,_,e⟩
   ·exact absurd (s.sep i x hlv).1 e
   ·have:=hlv.next s;omega
   ·exact absurd e (hnl x id)
end
section
variable {tab:FuncId→Option AF}
def PKRet (res:List ARes) (K:PV→Mem→Prop) (a:List PV) (M:Mem):Prop:=PKRes res a M fun vs=>K (ppack vs) M
def PKPure (res:List ARes) (Q:PV→Prop) (a:List PV) (M:Mem):Prop:=PKRes res a M fun vs=>QSome (pfrz 0 M (ppack vs)) Q
def PKNo (i:Nat) (a:List PV) (M:Mem):Prop:=False
theorem PKRet_eq (res:List ARes) (K:PV→Mem→Prop) (a:List PV) (M:Mem):PKRet res K a M=PKRes res a M fun vs=>K (ppack vs) M:=(rfl)
theorem PKPure_eq (res:List ARes) (Q:PV→Prop) (a:List PV) (M:Mem):PKPure res Q a M=PKRes res a M fun vs=>ZSome (pfrz 0 M (ppack vs)) Q ⟨0⟩:=by unfold ZSome;rfl
theorem PKRes_nil (a:List PV) (M:Mem) (K:List PV→Prop):PKRes [] a M K=K []:=(rfl)
theorem PKRes_tmp (t:Nat) (rs:List ARes) (a:List PV) (M:Mem) (K:List PV→Prop):PKRes (.tmp t::rs) a M K=PKRes rs a M fun vs=>K (ptget a t::vs):=(rfl)
theorem PKRes_cell (t:Nat) (rs:List ARes) (a:List PV) (M:Mem) (K:List PV→Prop):PKRes (.cell t::rs) a M K=ZLoad (ptget a t) M (fun v _=>PKRes rs a M fun vs=>K (v::vs)) ⟨0⟩:=by unfold ZLoad;rfl
theorem PKRes_cells (t n:Nat) (rs:List ARes) (a:List PV) (M:Mem) (K:List PV→Prop):PKRes (.cells t n::rs) a M K=ZLoadN n (ptget a t) M (fun v _=>PKRes rs a M fun vs=>K (v::vs)) ⟨0⟩:=by unfold ZLoadN;rfl
theorem SemC_fn {g:FuncId} {F:AFn} (hg:tab g=some (.fn F)) {args:List PV} {M:Mem} {K:PV→Mem→Prop}
  (hp:RX tab M.length F.body (ppad args F.ntmps) M (PKRet F.results K) (PKRet F.results K) PKNo):SemC tab g args M K:=
 SemC_sem hg (RX_sound _ _ hp)
theorem q18 {g:FuncId} {F:AFn} (hg:tab g=some (.fn F)) {args:List PV} {M:Mem} {K:PV→Mem→Prop} (hb:q19 0 args=true)
  (hp:RX tab 0 F.body (ppad args F.ntmps) [] (PKPure F.results fun r=>K r M) (PKPure F.results fun r=>K r M) PKNo):SemC tab g args M K:=
 SemC_frame hb (SemC_fn hg hp)
end
def PvWk (r r':PV):Prop:=∀w x,RepV w r x→RepV w r' x
theorem PvWk.refl (r:PV):PvWk r r:=fun _ _ h=>h
theorem PvWk.nils (fl own:Bool) (sz:Nat):PvWk .nils (.sl fl own sz 0 []):=fun w x h=>by
 rw[rep_nils h];exact .slN
theorem PvWk.sl (fl:Bool) (sz n:Nat) (cs:List PV):PvWk (.sl fl true sz n cs) (.sl false true sz n cs):=fun w x h=>by
 cases h with
 | sl h1 h2 h3 h4 h5 h7 h6=>exact .sl h1 h2 h3 (fun q=>by cases q) h5 (fun q=>by cases q) h6
 | slN=>exact .slN
theorem PvWk.agg {l l':List PV} (hl:l.length=l'.length) (h:∀(i:Nat) (y z:PV),l[i]? =some y→l'[i]? =some z→PvWk y z):PvWk (.agg l) (.agg l'):=fun w x hx=>by
 obtain⟨cs',rfl,hr⟩:=rep_agg hx
 refine .agg (by rw[←hl];exact hr.len) fun i y z h1 h2=>?_
 have hi:i<l.length:=by rw[hl];exact q27 h1
 exact h i l[i] y (List.getElem?_eq_getElem hi) h1 w z (hr.get i _ _ (List.getElem?_eq_getElem hi) h2)
theorem PvWk.tuple {l l':List PV} (hl:l.length=l'.length) (h:∀(i:Nat) (y z:PV),l[i]? =some y→l'[i]? =some z→PvWk y z):PvWk (.tuple l) (.tuple l'):=fun w x hx=>by
 obtain⟨cs',rfl,hr⟩:=rep_tuple hx
 refine .tuple (by rw[←hl];exact hr.len) fun i y z h1 h2=>?_
 have hi:i<l.length:=by rw[hl];exact q27 h1
 exact h i l[i] y (List.getElem?_eq_getElem hi) h1 w z (hr.get i _ _ (List.getElem?_eq_getElem hi) h2)
section
variable {tab:FuncId→Option AF}
theorem SemC_wk {g:FuncId} {args:List PV} {M:Mem} {K:PV→Mem→Prop} (h:SemC tab g args M fun r M'=>∃r',PvWk r r'∧K r' M'):SemC tab g args M K:=
 fun w hh args' h0 s ha=>C_mono (h w hh args' h0 s ha) fun v h' ⟨w',r,M',p1,p2,p3,r',p4,p5⟩=>⟨w',r',M',p1,p2,p4 w' v p3,p5⟩
end
abbrev slI (f o:Bool) (k:IntKind) (xs:List Int):PV:= .sl f o 1 xs.length (xs.map (PV.int k))
abbrev slR (f o f' o':Bool) (k:IntKind) (su:List (List Int)):PV:= .sl f o 1 su.length (su.map (slI f' o' k))
abbrev slB (f o:Bool) (xs:List Bool):PV:= .sl f o 1 xs.length (xs.map PV.bool)
theorem under_junk (m:Nat):PV.under m .junk=true:=by simp[PV.under]
theorem under_int (m:Nat) (k:IntKind) (n:Int):PV.under m (.int k n)=true:=by simp[PV.under]
theorem under_bool (m:Nat) (b:Bool):PV.under m (.bool b)=true:=by simp[PV.under]
theorem under_nils (m:Nat):PV.under m .nils=true:=by simp[PV.under]
theorem under_slI (m:Nat) (f o:Bool) (sz n:Nat) (k:IntKind) (xs:List Int):PV.under m (.sl f o sz n (xs.map (PV.int k)))=true:=by simp[PV.under,underL_ints]
theorem under_slB (m:Nat) (f o:Bool) (sz n:Nat) (xs:List Bool):PV.under m (.sl f o sz n (xs.map PV.bool))=true:=by
 simp only[PV.under];exact underL_map m _ (fun x=>under_bool m x) xs
theorem under_slR (m:Nat) (f o f' o':Bool) (sz n:Nat) (k:IntKind) (su:List (List Int)):PV.under m (.sl f o sz n (su.map (slI f' o' k)))=true:=by
 simp only[PV.under];exact underL_map m _ (fun x=>under_slI m f' o' 1 _ k x) su
theorem under_agg (m:Nat) (cs:List PV):PV.under m (.agg cs)=q19 m cs:=by simp[PV.under]
theorem under_tuple (m:Nat) (cs:List PV):PV.under m (.tuple cs)=q19 m cs:=by simp[PV.under]
theorem under_ptr (m id g o:Nat):PV.under m (.ptr id g o)=decide (id<m):=by simp[PV.under]
theorem under_ref (m id g sz off n:Nat):PV.under m (.ref id g sz off n)=decide (id<m):=by simp[PV.under]
theorem under_func (m:Nat) (fn:Go.Fn) (f c:List PV):PV.under m (.func fn f c)=(q19 m f&&q19 m c):=by simp[PV.under]
theorem underL_nil (m:Nat):q19 m []=true:=by simp[q19]
theorem underL_cons (m:Nat) (v:PV) (l:List PV):q19 m (v::l)=(v.under m&&q19 m l):=by simp[q19]
def frzO (o:Option PObj) (g sz off n:Nat):Option PV:=match o with
 | some (.cells g' _ cs)=>if g'=g∧off+n*sz≤cs.length∧q19 0 cs=true then some (.sl false true sz n (psub cs off (n*sz))) else none
 | _=>none
theorem pfrz1_ref (M:Mem) (id g sz off n:Nat):q67 0 M (.ref id g sz off n)=frzO M[id]? g sz off n:=by
 unfold q67 frzO
 simp only[Nat.not_lt_zero,if_false]
 all_goals (generalize M[id]? =x;rcases x with _ | o<;>first | rfl | (cases o<;>rfl))
theorem frzO_cells {g ver off n sz:Nat} {cs:List PV} (h1:off+n*sz≤cs.length) (h2:q19 0 cs=true):frzO (some (.cells g ver cs)) g sz off n=some (.sl false true sz n (psub cs off (n*sz))):=by
 unfold frzO
 simp only
 rw[if_pos ⟨trivial,h1,h2⟩]
theorem pfrz_int (M:Mem) (k:IntKind) (n:Int):pfrz 0 M (.int k n)=some (.int k n):=by simp[pfrz,pfrz2,q67,PV.under]
theorem pfrz_bool (M:Mem) (b:Bool):pfrz 0 M (.bool b)=some (.bool b):=by simp[pfrz,pfrz2,q67,PV.under]
theorem pfrz1_int (M:Mem) (k:IntKind) (n:Int):q67 0 M (.int k n)=some (.int k n):=by simp[q67,PV.under]
theorem pfrz1_bool (M:Mem) (b:Bool):q67 0 M (.bool b)=some (.bool b):=by simp[q67,PV.under]
theorem pfrz1_nils (M:Mem):q67 0 M .nils=some .nils:=by simp[q67,PV.under]
theorem pfrz1_sl {M:Mem} {f o:Bool} {sz n:Nat} {cs:List PV} (h:q19 0 cs=true):q67 0 M (.sl f o sz n cs)=some (.sl f o sz n cs):=by simp[q67,PV.under,h]
theorem pfrz_tuple (M:Mem) (cs:List PV):pfrz 0 M (.tuple cs)=(pfrzL2 0 M cs).map .tuple:=by simp[pfrz]
theorem pfrz_agg (M:Mem) (cs:List PV):pfrz 0 M (.agg cs)=(pfrzL 0 M cs).map .agg:=by simp[pfrz,pfrz2]
theorem pfrz_sl {M:Mem} {f o:Bool} {sz n:Nat} {cs:List PV} (h:q19 0 cs=true):pfrz 0 M (.sl f o sz n cs)=some (.sl f o sz n cs):=by simp[pfrz,pfrz2,q67,PV.under,h]
theorem pfrz_r (M:Mem) (id g sz off n:Nat):pfrz 0 M (.ref id g sz off n)=q67 0 M (.ref id g sz off n):=by simp[pfrz,pfrz2]
theorem pfrz_nils (M:Mem):pfrz 0 M .nils=some .nils:=by simp[pfrz,pfrz2,q67,PV.under]
theorem pfrz2_agg (M:Mem) (cs:List PV):pfrz2 0 M (.agg cs)=(pfrzL 0 M cs).map .agg:=by simp[pfrz2]
theorem pfrz2_int (M:Mem) (k:IntKind) (n:Int):pfrz2 0 M (.int k n)=some (.int k n):=by simp[pfrz2,q67,PV.under]
theorem pfrz2_bool (M:Mem) (b:Bool):pfrz2 0 M (.bool b)=some (.bool b):=by simp[pfrz2,q67,PV.under]
theorem pfrz2_nils (M:Mem):pfrz2 0 M .nils=some .nils:=by simp[pfrz2,q67,PV.under]
theorem pfrz2_sl {M:Mem} {f o:Bool} {sz n:Nat} {cs:List PV} (h:q19 0 cs=true):pfrz2 0 M (.sl f o sz n cs)=some (.sl f o sz n cs):=by simp[pfrz2,q67,PV.under,h]
theorem pfrz2_r (M:Mem) (id g sz off n:Nat):pfrz2 0 M (.ref id g sz off n)=q67 0 M (.ref id g sz off n):=by simp[pfrz2]
theorem pfrzL_nil (M:Mem):pfrzL 0 M []=some []:=(rfl)
def oCons (x:Option PV) (l:Option (List PV)):Option (List PV):=match x,l with
 | some x,some xs=>some (x::xs)
 | _,_=>none
theorem oCons_some (x:PV) (l:List PV):oCons (some x) (some l)=some (x::l):=(rfl)
theorem pfrzL_cons (M:Mem) (v:PV) (l:List PV):pfrzL 0 M (v::l)=oCons (q67 0 M v) (pfrzL 0 M l):=by
 simp only[pfrzL,oCons]
 all_goals (split<;>simp_all)
theorem pfrzL2_nil (M:Mem):pfrzL2 0 M []=some []:=(rfl)
theorem pfrzL2_cons (M:Mem) (v:PV) (l:List PV):pfrzL2 0 M (v::l)=oCons (pfrz2 0 M v) (pfrzL2 0 M l):=by
 simp only[pfrzL2,oCons]
 all_goals (split<;>simp_all)
theorem underL_slRs (m:Nat) (f o:Bool) (k:IntKind) (su:List (List Int)):q19 m (su.map (slI f o k))=true:=underL_map m _ (fun x=>under_slI m f o 1 _ k x) su
theorem underL_bools (m:Nat) (xs:List Bool):q19 m (xs.map PV.bool)=true:=underL_map m _ (fun x=>under_bool m x) xs
theorem psub_map {α:Type} (f:α→PV) (xs:List α):psub (xs.map f) 0 xs.length=xs.map f:=q63 _ _ (by simp)
theorem all_one_slI (f o:Bool) (k:IntKind) (su:List (List Int)):(su.map (slI f o k)).all PV.one=true:=by simp[PV.one]
theorem all_one_bools (xs:List Bool):(xs.map PV.bool).all PV.one=true:=by simp[PV.one]
attribute [irreducible] PKRet PKPure PKNo
section
variable {tab:FuncId→Option AF} {m:Nat} {c:AC} {Qn Qr:List PV→Mem→Prop} {Qe:Nat→List PV→Mem→Prop}
theorem SemW_to {a b:List PV} {M N:Mem} (h:SemW tab m c b N Qn Qr Qe) (hw:PWeak a b) (hM:M=N):SemW tab m c a M Qn Qr Qe:=by
 subst hM;exact q35 h hw
structure GStep (m:Nat) (a:List PV) (M:Mem) (b:List PV) (N:Mem):Prop where
 len:m≤M.length→m≤N.length
 go:∀(w:PWd) (hh:H) (a':List AV),w.id0≤m→m≤M.length→PSt w hh M→RepL w a a'→∃w',PStp m w hh M w' hh N∧PSt w' hh N∧RepL w' b a'
theorem SemW_re {a b:List PV} {M N:Mem} (g:GStep m a M b N) (h:SemW tab m c b N Qn Qr Qe):SemW tab m c a M Qn Qr Qe:=by
 intro w hh a' h0 hm s ha
 obtain⟨w',t,s',ha'⟩:=g.go w hh a' h0 hm s ha
 exact W_mono (h w' hh a' (by rw[t.le.id0];exact h0) (g.len hm) s' ha') (fun _ _ q=>q.trans t) (fun _ _ q=>q.trans t) (fun _ _ _ q=>q.trans t)
theorem GStep.trans {a b d:List PV} {M N O:Mem} (g:GStep m a M b N) (k:GStep m b N d O):GStep m a M d O:=
 ⟨fun h=>k.len (g.len h),fun w hh a' h0 hm s ha=>by
  obtain⟨w1,t1,s1,a1⟩:=g.go w hh a' h0 hm s ha
  obtain⟨w2,t2,s2,a2⟩:=k.go w1 hh a' (by rw[t1.le.id0];exact h0) (g.len hm) s1 a1
  exact⟨w2,t1.trans t2 (Nat.le_refl _),s2,a2⟩⟩
def Gh (m:Nat) (Q:List PV→Mem→Prop) (a:List PV) (M:Mem):Prop:=∃b N,GStep m a M b N∧Q b N
theorem Gh.same {Q:List PV→Mem→Prop} {a:List PV} {M:Mem} (h:Q a M):Gh m Q a M:=
 ⟨a,M,⟨fun h=>h,fun w hh a' h0 hm s ha=>⟨w,PStp.refl hm w hh,s,ha⟩⟩,h⟩
theorem Gh.step {Q:List PV→Mem→Prop} {a b:List PV} {M N:Mem} (g:GStep m a M b N) (h:Gh m Q b N):Gh m Q a M:=by
 obtain⟨d,O,k,hq⟩:=h
 exact⟨d,O,g.trans k,hq⟩
theorem Lf_gh {w:PWd} {h:H} {M:Mem} (h0:w.id0≤m) {Q:List PV→Mem→Prop} {a':List AV} {h':H} (hl:Lf m w h M (Gh m Q) a' h'):Lf m w h M Q a' h':=by
 obtain⟨w1,a1,M1,t1,s1,r1,b,N,g,hq⟩:=hl
 obtain⟨w2,t2,s2,r2⟩:=g.go w1 h' a' (by rw[t1.le.id0];exact h0) t1.len s1 r1
 exact⟨w2,b,N,t1.trans t2 (Nat.le_refl _),s2,r2,hq⟩
theorem SemW_gh {a:List PV} {M:Mem} (h:SemW tab m c a M (Gh m Qn) (Gh m Qr) (fun i=>Gh m (Qe i))):SemW tab m c a M Qn Qr Qe:=
 fun w hh a' h0 hm s ha=>W_mono (h w hh a' h0 hm s ha) (fun _ _ q=>Lf_gh h0 q) (fun _ _ q=>Lf_gh h0 q) (fun _ _ _ q=>Lf_gh h0 q)
theorem GStep.nil {a b:List PV} {M N:Mem} (t sz:Nat) (ht:ptget a t= .nils) (hb:ptset a t (.ref M.length 0 sz 0 0)=b) (hN:M++[.cells 0 0 []]=N):GStep m a M b N:=by
 subst hb hN
 refine⟨fun hm=>by simp;omega,fun w hh a' h0 hm s ha=>?_⟩
 obtain⟨s1,s2⟩:=s.allocNone (v0:=0)
 refine⟨_,s2.weaken hm,s1,?_⟩
 have h1:=ha.tget t
 rw[ht]at h1
 have h2:=ha.mono s2.le s.env
 have h3:=h2.tset t (v:= .ref M.length 0 sz 0 0) (x:=tget a' t) (by
  rw[rep_nils h1]
  exact .refN (e:=⟨none,0,0⟩) (by show(if _=_ then _ else _)=_;rw[if_pos rfl]) rfl rfl)
 have h4:tset a' t (tget a' t)=a':=by
  have:∀(l:List AV) (t:Nat),tset l t (tget l t)=l:=by
   intro l
   induction l with
   | nil=>intro t;rfl
   | cons x l ih=>intro t;cases t with
    | zero=>rfl
    | succ t=>simp[tset,tget,ih t]
  exact this a' t
 rwa [h4]at h3
theorem PSt.reobj {w:PWd} {h:H} {M:Mem} (s:PSt w h M) {id g ver:Nat} {cs cs2:List PV} (hm:M[id]? =some (.cells g ver cs)) (hr:∀bcs,RepL w cs bcs→RepL w cs2 bcs):
  PSt w h (M.set id (.cells g ver cs2))∧∀m,m≤M.length→PStp m w h M w h (M.set id (.cells g ver cs2)):=by
 have hid:=q27 hm
 have live:∀i x,LiveAt w (M.set id (.cells g ver cs2)) i x→LiveAt w M i x:=by
  rintro i x ⟨ob,e',h1,h2,h3,h4⟩
  by_cases hi:id=i
  ·subst hi;exact⟨_,e',hm,by simp,h3,h4⟩
  ·rw[List.getElem?_set_ne hi]at h1;exact⟨ob,e',h1,h2,h3,h4⟩
 refine⟨⟨s.imm,?_,s.blk,?_,fun i j x h1 h2=>s.inj i j x (live i x h1) (live j x h2),fun i x h1=>s.sep i x (live i x h1),s.base⟩,fun m hmm=>⟨by simpa using hmm,Le.refl _ _,Nat.le_refl _,fun _ _ _=>rfl,fun i x h1 _=>live i x h1,fun x hx=> .inl hx⟩⟩
 ·intro i e he;simpa using s.env i e he
 ·intro i ob hi
  by_cases hid2:id=i
  ·subst hid2
   rw[List.getElem?_set_self hid]at hi
   cases hi
   obtain⟨e,h1,h2,h3⟩:=s.obj id _ hm
   refine⟨e,h1,h2,?_⟩
   cases hb:e.blk with
   | none=>
    rw[hb]at h3
    have h3:cs=[]:=h3
    subst h3
    have:=(hr [] (RepL.nil w)).len
    exact List.length_eq_zero_iff.1 (by simpa using this)
   | some b=>
    rw[hb]at h3
    obtain⟨bcs,h4,h5⟩:=h3
    exact⟨bcs,h4,hr bcs h5⟩
  ·rw[List.getElem?_set_ne hid2]at hi
   exact s.obj i ob hi
theorem GStep.nilbox {a:List PV} {M N:Mem} (id o sz:Nat) {g ver:Nat} {cs:List PV} (hM:M[id]? =some (.cells g ver cs)) (ho:cs[o]? =some .nils) (hN:M.set id (.cells g ver (cs.set o (.ref M.length 0 sz 0 0)))++[.cells 0 0 []]=N):GStep m a M a N:=by
 subst hN
 refine⟨fun hm=>by simp;omega,fun w hh a' h0 hm s ha=>?_⟩
 obtain⟨s1,s2⟩:=s.allocNone (v0:=0)
 have hid:=q27 hM
 have hM2:(M++[.cells 0 0 []])[id]? =some (.cells g ver cs):=by rw[List.getElem?_append_left hid];exact hM
 obtain⟨s3,s4⟩:=s1.reobj (cs2:=cs.set o (.ref M.length 0 sz 0 0)) hM2 (by
  intro bcs hr
  obtain⟨z,hz,hv⟩:=hr.getSome ho
  have hz':=rep_nils hv
  subst hz'
  have:=hr.set o (v:= .ref M.length 0 sz 0 0) (x:= .nilslice) (.refN (e:=⟨none,0,0⟩) (by show(if _=_ then _ else _)=_;rw[if_pos rfl]) rfl rfl)
  have hb:bcs.set o .nilslice=bcs:=by
   apply List.ext_getElem?
   intro i
   rw[List.getElem?_set]
   by_cases e:o=i
   ·subst e;rw[if_pos rfl,if_pos (q27 hz)];exact hz.symm
   ·rw[if_neg e]
  rwa [hb]at this)
 have he:(M++[PObj.cells 0 0 []]).set id (.cells g ver (cs.set o (.ref M.length 0 sz 0 0)))=M.set id (.cells g ver (cs.set o (.ref M.length 0 sz 0 0)))++[.cells 0 0 []]:=by
  rw[List.set_append_left _ _ hid]
 rw[he]at s3 s4
 exact⟨_,(s2.weaken hm).trans (s4 m (by simp;omega)) (Nat.le_refl _),s3,ha.mono s2.le s.env⟩
def PFrz (id g:Nat) (cs:List PV):List PV→List PV→Prop
 | [],[]=>True
 | x::a,y::b=>(y= .junk∨x=y∨∃sz off n,x= .ref id g sz off n∧off+n*sz≤cs.length∧y= .sl false true sz n (psub cs off (n*sz)))∧PFrz id g cs a b
 | _,_=>False
theorem PFrz_nil (id g:Nat) (cs:List PV):PFrz id g cs [] []=True:=(rfl)
theorem PFrz_junk (id g:Nat) (cs:List PV) (x:PV) (a b:List PV):PFrz id g cs (x::a) (.junk::b)=PFrz id g cs a b:=by simp[PFrz]
theorem PFrz_same (id g:Nat) (cs:List PV) (x:PV) (a b:List PV):PFrz id g cs (x::a) (x::b)=PFrz id g cs a b:=by simp[PFrz]
theorem PFrz_ref {id g sz off n:Nat} {cs:List PV} {y:PV} {a b:List PV} (h1:off+n*sz≤cs.length) (h2:y= .sl false true sz n (psub cs off (n*sz))):PFrz id g cs (.ref id g sz off n::a) (y::b)=PFrz id g cs a b:=by
 simp only[PFrz,eq_iff_iff,and_iff_right_iff_imp]
 intro _
 exact .inr (.inr ⟨sz,off,n,rfl,h1,h2⟩)
theorem PSt.freeze {w:PWd} {h:H} {M:Mem} (s:PSt w h M) {id g ver:Nat} {cs:List PV} (hm:M[id]? =some (.cells g ver cs)) (h0:w.id0≤id):
  ∃w',PSt w' h (M.set id .gone)∧(∀m,m≤id→PStp m w h M w' h (M.set id .gone))∧Le M.length w w'∧∀sz off n x,RepV w (.ref id g sz off n) x→off+n*sz≤cs.length→RepV w' (.sl false true sz n (psub cs off (n*sz))) x:=by
 obtain⟨e,h1,h2,h3⟩:=s.cellsAt hm
 have hid:=q27 hm
 rcases h3 with⟨hb,rfl⟩ | ⟨b,bcs,hb,hg,hr,hlv⟩
 ·have live:∀i x,LiveAt w (M.set id .gone) i x→LiveAt w M i x:=by
   rintro i x ⟨ob,e',p1,p2,p3,p4⟩
   by_cases hi:id=i
   ·subst hi;rw[List.getElem?_set_self hid]at p1;cases p1;exact absurd rfl p2
   ·rw[List.getElem?_set_ne hi]at p1;exact⟨ob,e',p1,p2,p3,p4⟩
  refine⟨w,⟨s.imm,fun i e' he=>by simpa using s.env i e' he,s.blk,?_,fun i j x q1 q2=>s.inj i j x (live i x q1) (live j x q2),fun i x q1=>s.sep i x (live i x q1),s.base⟩,fun m hmm=>⟨by simp;omega,Le.refl _ _,Nat.le_refl _,fun _ _ _=>rfl,fun i x q1 _=>live i x q1,fun x hx=> .inl hx⟩,Le.refl _ _,?_⟩
  ·intro i ob hi
   by_cases hid2:id=i
   ·subst hid2;rw[List.getElem?_set_self hid]at hi;cases hi;trivial
   ·rw[List.getElem?_set_ne hid2]at hi;exact s.obj i ob hi
  ·intro sz off n x hx hl
   obtain⟨e2,p1,p2,p3⟩:=s.refAt hm hx
   rcases p3 with⟨rfl,rfl,rfl,_,_⟩ | ⟨_,b,_,_,p4,_⟩
   ·simpa [psub] using RepV.slN
   ·rw[h1]at p1;cases p1;rw[hb]at p4;cases p4
 ·let w':=w.withImm b (.cells (e.v0+ver) true bcs)
  have hsep:=s.sep id b hlv
  have hl:Le M.length w w':=le_withImm hsep.1
  have him:∀x,x≠b→w'.imm x=w.imm x:=fun x hx=>by show(if _=_ then _ else _)=_;rw[if_neg hx]
  have hnew:w'.imm b=some (.cells (e.v0+ver) true bcs):=by show(if _=_ then _ else _)=_;rw[if_pos rfl]
  have live:∀i x,LiveAt w' (M.set id .gone) i x→i≠id∧LiveAt w M i x:=by
   rintro i x ⟨ob,e',p1,p2,p3,p4⟩
   by_cases hi:id=i
   ·subst hi;rw[List.getElem?_set_self hid]at p1;cases p1;exact absurd rfl p2
   ·rw[List.getElem?_set_ne hi]at p1;exact⟨fun q=>hi q.symm,ob,e',p1,p2,p3,p4⟩
  refine⟨w',⟨?_,fun i e' he=>by simpa using s.env i e' he,s.blk,?_,fun i j x q1 q2=>s.inj i j x (live i x q1).2 (live j x q2).2,?_,s.base⟩,fun m hmm=>⟨by simp;omega,⟨hl.n0,hl.id0,hl.imm,fun i hi=>hl.env i (by omega)⟩,Nat.le_refl _,fun _ _ _=>rfl,fun i x q1 _=>(live i x q1).2,?_⟩,hl,?_⟩
  ·intro x o hx
   by_cases e1:x=b
   ·subst e1;rw[hnew]at hx;cases hx;exact hg
   ·rw[him x e1]at hx;exact s.imm x o hx
  ·intro i ob hi
   by_cases hid2:id=i
   ·subst hid2;rw[List.getElem?_set_self hid]at hi;cases hi;trivial
   ·rw[List.getElem?_set_ne hid2]at hi
    exact RepO.mono s hl (s.obj i ob hi) (fun e' he=>he) (fun _ _ _ _=>rfl)
  ·intro i x q1
   obtain⟨hne,q2⟩:=live i x q1
   have:x≠b:=by rintro rfl;exact hne (s.inj i id x q2 hlv)
   exact⟨by rw[him x this];exact(s.sep i x q2).1,(s.sep i x q2).2⟩
  ·intro x hx
   by_cases e1:x=b
   ·subst e1;exact .inr (.inr ⟨id,hmm,hlv⟩)
   ·rw[him x e1]at hx;exact .inl hx
  ·intro sz off n x hx hlen
   obtain⟨e2,p1,p2,p3⟩:=s.refAt hm hx
   rw[h1]at p1;cases p1
   rcases p3 with⟨_,_,_,p4,_⟩ | ⟨fl,b2,bcs2,rfl,p4,p5,p6,_⟩
   ·rw[hb]at p4;cases p4
   ·rw[hb]at p4;cases p4
    rw[hg]at p5;cases p5
    have hl2:(psub cs off (n*sz)).length=n*sz:=by simp[psub];omega
    have hs:=(rep_sub p6 off (n*sz)).mono hl s.env
    refine .sl hnew (by rw[hl2,←p6.len];exact hlen) hl2 (fun q=>by cases q) (fun _=>⟨hsep.2 h0,rfl⟩) (fun q=>by cases q) (fun i y z hy hz=>hs.get i y z hy ?_)
    rw[List.getElem?_take,if_pos (by have:=q27 hy;omega),List.getElem?_drop];exact hz
theorem PFrz.rep {w w':PWd} {M:Mem} {id g:Nat} {cs:List PV} (hl:Le M.length w w') (hd:∀i e,w.env i=some e→i<M.length) (hf:∀sz off n x,RepV w (.ref id g sz off n) x→off+n*sz≤cs.length→RepV w' (.sl false true sz n (psub cs off (n*sz))) x):
  ∀{a b:List PV} {a':List AV},PFrz id g cs a b→RepL w a a'→RepL w' b a'
 | [],[],a',_,h=>⟨h.len,fun i y z q=>by simp at q⟩
 | x::a,y::b,[],_,h=>by have:=h.len;simp at this
 | x::a,y::b,v::a',⟨h1,h2⟩,h=>by
  refine .cons ?_ (PFrz.rep hl hd hf h2 h.tl)
  rcases h1 with rfl | rfl | ⟨sz,off,n,rfl,q1,rfl⟩
  ·exact .junk _
  ·exact h.hd.mono hl hd
  ·exact hf sz off n v h.hd q1
 | [],_::_,a',hw,h=>hw.elim
 | _::_,[],a',hw,h=>hw.elim
theorem GStep.freeze {a b:List PV} {M N:Mem} (id:Nat) {g ver:Nat} {cs:List PV} (hid:m≤id) (hM:M[id]? =some (.cells g ver cs)) (hf:PFrz id g cs a b) (hN:M.set id .gone=N):GStep m a M b N:=by
 subst hN
 refine⟨fun hm=>by simpa using hm,fun w hh a' h0 hm s ha=>?_⟩
 obtain⟨w',s1,s2,hl,hr⟩:=s.freeze hM (Nat.le_trans h0 hid)
 exact⟨w',s2 m hid,s1,hf.rep hl s.env hr ha⟩
theorem GStep.drop {a b:List PV} {M N:Mem} (n:Nat) (hn:m≤n) (hl:n≤M.length) (hw:PWeak a b) (ha:q19 n b=true) (hM:(M.take n).all (PObj.under n)=true) (hN:M.take n=N):GStep m a M b N:=by
 subst hN
 refine⟨fun hm=>by simp;omega,fun w hh a' h0 hm s hr=>?_⟩
 obtain⟨s1,s2⟩:=s.cut hl hM
 exact⟨_,(s2 w hh M (PStp.refl (Nat.le_refl _) w hh |>.weaken hl)).weaken hn,s1,(hw.rep hr).low (w:=w) (w':=w.cut hh n M) rfl (cut_imm s n) (fun id hi=>cut_env hi) ha⟩
end
attribute [irreducible] Gh
set_option maxRecDepth 10000
set_option linter.defProp false
def PP:=(And.intro (And.intro (And.intro (And.intro (And.intro (And.intro (And.intro (And.intro @PX_skip @PX_ret) (And.intro @PX_exit @PX_region)) (And.intro (And.intro @PX_regionD @PX_seq) (And.intro @PX_cond (And.intro @PX_block @PX_loop)))) (And.intro (And.intro (And.intro @PX_range @PKSeq_eq) (And.intro @PKBlk_eq @PKLoop_eq)) (And.intro (And.intro @PO_nil @PO_none) (And.intro @PO_some (And.intro @PD_nil @PD_none))))) (And.intro (And.intro (And.intro (And.intro @PD_some @PKPut_eq) (And.intro @PKPutD_eq @PS_move)) (And.intro (And.intro @PS_pick @PS_alloc) (And.intro @PS_box (And.intro @PS_build @PS_buildSlice)))) (And.intro (And.intro (And.intro @PS_load @PS_loadAgg) (And.intro @PS_store @PS_nilCheck)) (And.intro (And.intro @PS_bin @PS_eqB) (And.intro @PS_isNil (And.intro @PS_eqCells @PS_un)))))) (And.intro (And.intro (And.intro (And.intro (And.intro @PS_convInt @PS_mkFunc) (And.intro @PS_makeSlice @PS_slice)) (And.intro (And.intro @PS_fieldAddr @PS_field) (And.intro @PS_fieldN (And.intro @PS_indexAddr @PS_indexAddrA)))) (And.intro (And.intro (And.intro @PS_index @PS_indexN) (And.intro @PS_extract @PS_call)) (And.intro (And.intro @PS_append @PS_len) (And.intro @PS_max (And.intro @PS_min @QCall_func))))) (And.intro (And.intro (And.intro (And.intro @KPC_eq @chgOf_eq) (And.intro @chgFrom_same @chgFrom_app)) (And.intro (And.intro @chgFrom_nil @chgFrom_co) (And.intro @chgFrom_cells (And.intro @Nat.add_eq_left @Nat.left_eq_add)))) (And.intro (And.intro (And.intro @Nat.succ_ne_self @Nat.one_ne_zero) (And.intro @pchk_nil @List.contains_cons.{0})) (And.intro (And.intro @List.contains_nil.{0} @Bool.or_false) (And.intro @Bool.false_or (And.intro @Bool.or_true @Bool.true_or))))))) (And.intro (And.intro (And.intro (And.intro (And.intro (And.intro @ZInt_int @ZBool_bool) (And.intro @ZAgg_agg @ZTup_tuple)) (And.intro (And.intro @ZOb_cells @ZSome_some) (And.intro @ZLen_nils (And.intro @ZLen_sl @ZLen_ref)))) (And.intro (And.intro (And.intro @ZIdx_sl @ZIdx_ref) (And.intro @ZIdxA_ptr @ZIdxA_cp)) (And.intro (And.intro @ZFld_ptr @ZFld_cp) (And.intro @ZLoad_ptr (And.intro @ZLoad_cp @ZLoadN_ptr))))) (And.intro (And.intro (And.intro (And.intro @ZLoadN_cp @ZStore_ptr) (And.intro @ZSrc_nils @ZSrc_sl)) (And.intro (And.intro @ZSrc_ref @ZApp_nils) (And.intro @ZApp_sl (And.intro @ZApp_ref @ZBnd_none)))) (And.intro (And.intro (And.intro @ZBnd_some @ZSlice_nils) (And.intro @ZSlice_sl @ZSlice_ref)) (And.intro (And.intro @ZNilOk_ptr @ZNilOk_func) (And.intro @ZNilOk_cp (And.intro @ZNil_ss @ZNil_sl)))))) (And.intro (And.intro (And.intro (And.intro (And.intro @ZNil_ref @ZGuard_tt) (And.intro @ZGuard_ff @ZGuard_tf)) (And.intro (And.intro @ZGuard_ft @ZGuard_tuple) (And.intro @ZGuard_dec_t (And.intro @ZGuard_dec_f @ZCond_true)))) (And.intro (And.intro (And.intro @ZCond_false @ZCond_dec) (And.intro @ZCond_pick @QIf_true)) (And.intro (And.intro @QIf_false @QIf_not) (And.intro @ppick_true (And.intro @ppick_false @pbin_add))))) (And.intro (And.intro (And.intro (And.intro @pbin_sub @pbin_mul) (And.intro @pbin_eql @pbin_neq)) (And.intro (And.intro @pbin_lss @pbin_leq) (And.intro @pbin_gtr (And.intro @pbin_geq @pmaxV_two)))) (And.intro (And.intro (And.intro @pun_not @pun_neg) (And.intro @prepl_one (And.intro @pover_one @oCons_some))) (And.intro (And.intro @pover_many @psub_c0) (And.intro @psub_cz (And.intro @psub_cs @psub_zero)))))))) (And.intro (And.intro (And.intro (And.intro (And.intro (And.intro (And.intro @psub_map @List.take_zero.{0}) (And.intro @List.take_succ_cons.{0} @List.drop_succ_cons.{0})) (And.intro (And.intro @List.drop_zero.{0} @List.drop_nil.{0}) (And.intro @List.take_nil.{0} (And.intro @psub_nil @all_one_slI)))) (And.intro (And.intro (And.intro @all_one_bools @pcells_int) (And.intro @pcells_bool @pcells_nils)) (And.intro (And.intro @pcells_sl @pcells_ref) (And.intro @pcells_ptr (And.intro @pcells_func @pcells_agg))))) (And.intro (And.intro (And.intro (And.intro @one_int @one_bool) (And.intro @one_nils @one_nilptr)) (And.intro (And.intro @one_nilfunc @one_sl) (And.intro @one_ref (And.intro @one_ptr @one_func)))) (And.intro (And.intro (And.intro @all_one_ints @PKRet_eq) (And.intro @PKPure_eq @PKRes_nil)) (And.intro (And.intro @PKRes_tmp @PKRes_cell) (And.intro @PKRes_cells (And.intro @under_junk @under_int)))))) (And.intro (And.intro (And.intro (And.intro (And.intro @under_bool @under_nils) (And.intro @under_slI @under_slB)) (And.intro (And.intro @under_slR @under_agg) (And.intro @under_tuple (And.intro @under_ptr @under_ref)))) (And.intro (And.intro (And.intro @under_func @underL_nil) (And.intro @underL_cons @underL_ints)) (And.intro (And.intro @underL_slRs @underL_bools) (And.intro @underL_append (And.intro @pfrz1_ref @frzO_cells))))) (And.intro (And.intro (And.intro (And.intro @pfrz_int @pfrz_bool) (And.intro @pfrz1_int @pfrz1_bool)) (And.intro (And.intro @pfrz1_nils @pfrz1_sl) (And.intro @pfrz_tuple (And.intro @pfrz_agg @pfrz_sl)))) (And.intro (And.intro (And.intro @pfrz_r @pfrz_nils) (And.intro @pfrz2_agg @pfrz2_int)) (And.intro (And.intro @pfrz2_bool @pfrz2_nils) (And.intro @pfrz2_sl (And.intro @pfrz2_r @pfrzL_nil))))))) (And.intro (And.intro (And.intro (And.intro (And.intro (And.intro @pfrzL_cons @pfrzL2_nil) (And.intro @pfrzL2_cons @List.length_cons.{0})) (And.intro (And.intro @List.length_nil.{0} @List.length_append.{0}) (And.intro @List.length_replicate.{0} (And.intro @List.length_set.{0} @List.length_map.{0,0})))) (And.intro (And.intro (And.intro @List.cons_append.{0} @List.nil_append.{0}) (And.intro @List.append_nil.{0} @List.map_cons.{0,0})) (And.intro (And.intro @List.map_nil.{0,0} @List.map_append.{0,0}) (And.intro @List.all_cons.{0} (And.intro @List.all_nil.{0} @List.all_append.{0}))))) (And.intro (And.intro (And.intro (And.intro @List.set_cons_zero.{0} @List.set_cons_succ.{0}) (And.intro @List.getElem?_cons_zero.{0} @List.getElem?_cons_succ.{0})) (And.intro (And.intro @List.getElem?_map.{0,0} @List.getElem?_nil.{0}) (And.intro @Option.map_some.{0,0} (And.intro @Option.map_none.{0,0} @Nat.zero_add)))) (And.intro (And.intro (And.intro @Nat.add_zero @Nat.mul_one) (And.intro @Nat.one_mul @Nat.zero_mul)) (And.intro (And.intro @Nat.le_refl @Nat.not_lt_zero) (And.intro @Nat.zero_lt_succ (And.intro @Nat.lt_add_one @Int.cast_ofNat_Int)))))) (And.intro (And.intro (And.intro (And.intro (And.intro @Int.toNat_natCast @Int.toNat_zero) (And.intro @ite_true.{1} @ite_false.{1})) (And.intro (And.intro @if_true.{1} @if_false.{1}) (And.intro @Bool.false_eq_true (And.intro @decide_true @decide_false)))) (And.intro (And.intro (And.intro @decide_eq_true_eq @Bool.not_true) (And.intro @Bool.not_false @Bool.and_true)) (And.intro (And.intro @Bool.true_and @Bool.and_false) (And.intro @Bool.false_and (And.intro @Bool.and_self @beq_self_eq_true.{0}))))) (And.intro (And.intro (And.intro (And.intro @ne_eq.{1} @not_true_eq_false) (And.intro @not_false_eq_true @true_and)) (And.intro (And.intro @and_true @and_self) (And.intro @false_and (And.intro @and_false @true_or)))) (And.intro (And.intro (And.intro @or_true @false_or) (And.intro @or_false (And.intro @or_self @Option.getD_none.{0}))) (And.intro (And.intro @Option.getD_some.{0} @Option.isSome_none.{0}) (And.intro @Option.isSome_some.{0} (And.intro @gt_iff_lt.{0} @ge_iff_le.{0})))))))))
def PW:=And.intro @PWeak_nil (And.intro @PWeak_junk (And.intro @PWeak_same (And.intro @Int.cast_ofNat_Int (And.intro @List.length_append.{0} (And.intro @List.length_cons.{0} (And.intro @List.length_nil.{0} @Nat.zero_add))))))
end Go.Am

