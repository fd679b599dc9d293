/- The third evaluator: its code and functions, and that what it answers, the first answers too. -/
import Derived.Test.YtbcdfmecpjbeaaaDoorAmK2
set_option linter.unusedVariables false
set_option linter.unusedSimpArgs false
namespace Go.Am
abbrev KE:=Ex→TT→H→Bool
structure KRec where
 code:AC→Nat→TT→H→KE→Bool
 call:FuncId→List AV→H→(AV→H→Bool)→Bool
structure KROk (R:KRec) (rec:Rec):Prop where
 code:∀c n t h k,R.code c n t h k=true→∀a,Rl n t a→∃e a' t' h',rec.code c a h=some (e,a',h')∧Rl n t' a'∧k e t' h'=true
 call:∀g args h k,R.call g args h k=true→∃v h',rec.call g args h=some (v,h')∧k v h'=true
noncomputable def kofL (l:List AV):Nat→TT→(TT→Bool)→Bool:=List.rec (motive:=fun _=>Nat→TT→(TT→Bool)→Bool) (fun _ t k=>k t) (fun v _ ih i t k=>TT.sk v t i fun t=>ih (Nat.succ i) t k) l
theorem tget_append_at (p:List AV) (v:AV):tget (p++[v]) p.length=v:=by
 induction p with
 | nil=>rfl
 | cons x p ih=>simpa [tget] using ih
theorem tget_append_lt:∀(p q:List AV) (j:Nat),j<p.length→tget (p++q) j=tget p j
 | [],q,j,h=>by simp at h
 | x::p,q,0,h=>rfl
 | x::p,q,j+1,h=>by simp only[List.cons_append,tget];exact tget_append_lt p q j (by simpa using h)
theorem tget_outK:∀(a:List AV) (i:Nat),a.length≤i→tget a i= .junk
 | [],_,_=>rfl
 | x::l,0,h=>by simp at h
 | x::l,i+1,h=>by simp only[tget];exact tget_outK l i (by simpa using h)
theorem kofL_ok:∀(l:List AV) {i:Nat} {t:TT} {k:TT→Bool} (p:List AV),p.length=i→(∀j,t.get j=tget p j)→kofL l i t k=true→∃t',k t'=true∧∀j,t'.get j=tget (p++l) j
 | [],i,t,k,p,hp,ht,h=>⟨t,h,by simpa using ht⟩
 | v::l,i,t,k,p,hp,ht,h=>by
  obtain⟨t1,h1,h2⟩:=TT.sk_ok (v:=v) (t:=t) (i:=i) (k:=fun t=>kofL l (i+1) t k) h
  obtain⟨t',h3,h4⟩:=kofL_ok l (p++[v]) (by simp[hp]) (fun j=>by
   rw[h2 j,ht j]
   by_cases e:j=i
   ·rw[if_pos e,e,←hp,tget_append_at]
   ·rw[if_neg e]
    rcases Nat.lt_or_ge j i with hj | hj
    ·rw[tget_append_lt p [v] j (by omega)]
    ·rw[tget_outK p j (by omega),tget_outK (p++[v]) j (by simp;omega)]) h1
  exact⟨t',h3,by simpa using h4⟩
noncomputable def tjsel (n:Nat) (k:TT→Bool):Bool:=Bool.rec (Bool.rec (Bool.rec (k tj9) (k tj7) (Nat.ble n (nat_lit 254))) (k tj5) (Nat.ble n (nat_lit 62))) (k tj3) (Nat.ble n (nat_lit 14))
theorem tjsel_ok {n:Nat} {k:TT→Bool} (h:tjsel n k=true):∃t,(∀j,t.get j= .junk)∧k t=true:=by
 unfold tjsel at h
 cases h1:Nat.ble n 14 with
 | true=>rw[h1]at h;exact⟨tj3,fun j=>tjn (fun i=>tjn (fun i=>tjn tj0_get i) i) j,h⟩
 | false=>
  rw[h1]at h
  cases h2:Nat.ble n 62 with
  | true=>rw[h2]at h;exact⟨tj5,fun j=>tjn (fun i=>tjn (fun i=>tjn (fun i=>tjn (fun i=>tjn tj0_get i) i) i) i) j,h⟩
  | false=>
   rw[h2]at h
   cases h3:Nat.ble n 254 with
   | true=>rw[h3]at h;exact⟨tj7,fun j=>tjn (fun i=>tjn (fun i=>tjn (fun i=>tjn (fun i=>tjn (fun i=>tjn (fun i=>tjn tj0_get i) i) i) i) i) i) j,h⟩
   | false=>rw[h3]at h;exact⟨tj9,tj9_get,h⟩
theorem kload_ok {l:List AV} {k:TT→Bool} {n:Nat} (h:tjsel n (fun t=>kofL l (nat_lit 0) t k)=true):∃t,k t=true∧∀j,t.get j=tget l j:=by
 obtain⟨t0,h1,h2⟩:=tjsel_ok h
 obtain⟨t,h3,h4⟩:=kofL_ok l [] rfl (fun j=>by rw[h1];rfl) h2
 exact⟨t,h3,by simpa using h4⟩
inductive KM where
 | drop
 | all
 | keep (b:Bool) (l r:KM)
def KM.has:KM→Nat→Bool
 | .drop,_=>false
 | .all,_=>true
 | .keep b l r,i=>if i=0 then b else if i % 2=1 then l.has (i / 2) else r.has (i / 2-1)
theorem KM.has_keep (b:Bool) (l r:KM) (i:Nat):(KM.keep b l r).has i=if i=0 then b else if i % 2=1 then l.has (i / 2) else r.has (i / 2-1):=rfl
noncomputable def KM.rmk (b:Bool) (l r:KM) (i:Nat) (ih:Nat→KM→KM):KM:=Bool.rec (Bool.rec (.keep b l (ih (Nat.sub (Nat.div i (nat_lit 2)) (nat_lit 1)) r)) (.keep b (ih (Nat.div i (nat_lit 2)) l) r) (Nat.beq (Nat.mod i (nat_lit 2)) (nat_lit 1))) (.keep false l r) (Nat.beq i (nat_lit 0))
noncomputable def KM.rm (fuel:Nat):Nat→KM→KM:=Nat.rec (motive:=fun _=>Nat→KM→KM) (fun _ _=> .all) (fun _ ih i m=>KM.casesOn m .drop (KM.rmk true .all .all i ih) (fun b l r=>KM.rmk b l r i ih)) fuel
theorem KM.rmk_has {b:Bool} {l r:KM} {i:Nat} {ih:Nat→KM→KM} (hi:∀i' m j,i'<i→(ih i' m).has j=(m.has j&& !(j==i'))) (j:Nat):(KM.rmk b l r i ih).has j=((KM.keep b l r).has j&& !(j==i)):=by
 unfold KM.rmk
 cases h0:Nat.beq i 0 with
 | true=>
  have:=Nat.eq_of_beq_eq_true h0;subst this
  show(KM.keep false l r).has j=_
  rw[KM.has_keep,KM.has_keep]
  by_cases hj:j=0
  ·simp[hj]
  ·simp[hj]
 | false=>
  have hi0:=q53 h0
  have h0i:((0:Nat)==i)=false:=by simp;omega
  cases h1:Nat.beq (Nat.mod i 2) 1 with
  | true=>
   have hm:i % 2=1:=Nat.eq_of_beq_eq_true h1
   show(KM.keep b (ih (i / 2) l) r).has j=_
   rw[KM.has_keep,KM.has_keep]
   by_cases hj:j=0
   ·subst hj;rw[if_pos rfl,if_pos rfl,h0i];simp
   ·rw[if_neg hj,if_neg hj]
    by_cases hp:j % 2=1
    ·rw[if_pos hp,if_pos hp,hi _ _ _ (by omega)]
     by_cases e:j=i
     ·subst e;simp
     ·have:j / 2≠i / 2:=by omega
      have e1:(j / 2==i / 2)=false:=by simpa using this
      have e2:(j==i)=false:=by simpa using e
      rw[e1,e2]
    ·rw[if_neg hp,if_neg hp]
     have:j≠i:=by omega
     simp[this]
  | false=>
   have hm:¬i % 2=1:=q53 h1
   show(KM.keep b l (ih (i / 2-1) r)).has j=_
   rw[KM.has_keep,KM.has_keep]
   by_cases hj:j=0
   ·subst hj;rw[if_pos rfl,if_pos rfl,h0i];simp
   ·rw[if_neg hj,if_neg hj]
    by_cases hp:j % 2=1
    ·rw[if_pos hp,if_pos hp]
     have:j≠i:=by omega
     simp[this]
    ·rw[if_neg hp,if_neg hp,hi _ _ _ (by omega)]
     by_cases e:j=i
     ·subst e;simp
     ·have:j / 2-1≠i / 2-1:=by omega
      have e1:(j / 2-1==i / 2-1)=false:=by simpa using this
      have e2:(j==i)=false:=by simpa using e
      rw[e1,e2]
theorem KM.rm_has:∀{fuel i:Nat} {m:KM} {j:Nat},i<fuel→(KM.rm fuel i m).has j=(m.has j&& !(j==i))
 | 0,i,m,j,h=>by omega
 | fuel+1,i,m,j,h=>by
  show(KM.casesOn (motive:=fun _=>KM) m KM.drop (KM.rmk true .all .all i (KM.rm fuel)) (fun b l r=>KM.rmk b l r i (KM.rm fuel))).has j=_
  cases m with
  | drop=>simp[KM.has]
  | all=>
   show(KM.rmk true .all .all i (KM.rm fuel)).has j=_
   rw[KM.rmk_has (fun i' m j h'=>KM.rm_has (by omega))]
   congr 1
   simp[KM.has]
  | keep b l r=>exact KM.rmk_has (fun i' m j h'=>KM.rm_has (by omega)) j
noncomputable def KM.isDrop (m:KM) (a b:KM):KM:=KM.casesOn m a b (fun _ _ _=>b)
noncomputable def KM.prune (m:KM):KM:=KM.rec (motive:=fun _=>KM) .drop .all (fun b _ _ l r=>Bool.rec (l.isDrop (r.isDrop .drop (.keep b l r)) (.keep b l r)) (.keep b l r) b) m
theorem KM.prune_has:∀(m:KM) (j:Nat),m.prune.has j=m.has j
 | .drop,j=>rfl
 | .all,j=>rfl
 | .keep b l r,j=>by
  have e:(KM.keep b l.prune r.prune).has j=(KM.keep b l r).has j:=by
   unfold KM.has
   rw[KM.prune_has l,KM.prune_has r]
  rw[←e]
  show(@Bool.rec (fun _=>KM) (l.prune.isDrop (r.prune.isDrop .drop (.keep b l.prune r.prune)) (.keep b l.prune r.prune)) (.keep b l.prune r.prune) b).has j=_
  cases b with
  | true=>rfl
  | false=>
   cases hl:l.prune with
   | drop=>cases hr:r.prune with
    | drop=>simp[KM.isDrop,KM.has]
    | all=>rfl
    | keep _ _ _=>rfl
   | all=>rfl
   | keep _ _ _=>rfl
noncomputable def KM.rms (l:List Nat):KM:=List.rec (motive:=fun _=>KM) .all (fun i _ ih=>KM.rm (Nat.succ i) i ih) l
theorem KM.rms_has:∀(l:List Nat) (j:Nat),(KM.rms l).has j= !l.contains j
 | [],j=>rfl
 | i::l,j=>by
  show(KM.rm (i+1) i (KM.rms l)).has j=_
  rw[KM.rm_has (Nat.lt_succ_self i),KM.rms_has l]
  have e:(i::l).contains j=(j==i||l.contains j):=List.contains_cons
  rw[e]
  cases l.contains j<;>cases (j==i)<;>rfl
noncomputable def KM.mask (l:List Nat):KM:=(KM.rms l).prune
theorem KM.mask_has (l:List Nat) (j:Nat):(KM.mask l).has j= !l.contains j:=by unfold KM.mask;rw[KM.prune_has,KM.rms_has]
noncomputable def KM.filt (m:KM):TT→TT→(TT→Bool)→Bool:=KM.rec (motive:=fun _=>TT→TT→(TT→Bool)→Bool) (fun j _ k=>k j) (fun _ t k=>k t)
 (fun b _ _ il ir j t k=>TT.casesOn j false fun _ jl _=>TT.casesOn t false fun v tl tr=>il jl tl fun tl=>ir jl tr fun tr=>Bool.casesOn b (k (.node .junk tl tr)) (k (.node v tl tr))) m
inductive JT:TT→Prop where
 | leaf:JT .leaf
 | node (t:TT) (h:JT t):JT (.node .junk t t)
theorem JT.get {t:TT} (h:JT t) (i:Nat):t.get i= .junk:=by
 induction h generalizing i with
 | leaf=>rfl
 | node t _ ih=>exact tjn ih i
theorem KM.filt_ok:∀{m:KM} {j t:TT} {k:TT→Bool},JT j→KM.filt m j t k=true→∃t',k t'=true∧∀i,t'.get i=if m.has i=true then t.get i else .junk
 | .drop,j,t,k,hj,h=>⟨j,h,fun i=>by rw[hj.get];simp[KM.has]⟩
 | .all,j,t,k,hj,h=>⟨t,h,fun i=>by simp[KM.has]⟩
 | .keep b l r,j,t,k,hj,h=>by
  cases hj with
  | leaf=>cases h
  | node jl hjl=>
   cases t with
   | leaf=>cases h
   | node v tl tr=>
    have h':KM.filt l jl tl (fun tl=>KM.filt r jl tr fun tr=>Bool.casesOn b (k (.node .junk tl tr)) (k (.node v tl tr)))=true:=h
    obtain⟨tl',h1,h2⟩:=KM.filt_ok hjl h'
    obtain⟨tr',h3,h4⟩:=KM.filt_ok hjl h1
    have fin:∀x:AV,x=(if b=true then v else .junk)→∀i,(TT.node x tl' tr').get i=if(KM.keep b l r).has i=true then(TT.node v tl tr).get i else .junk:=by
     intro x hx i
     rw[TT.get_node,TT.get_node,h2,h4,KM.has_keep]
     by_cases h0:i=0
     ·simp only[h0,if_true];exact hx
     ·simp only[if_neg h0]
      by_cases hp:i % 2=1
      ·simp only[if_pos hp]
      ·simp only[if_neg hp]
    cases b with
    | false=>exact⟨_,h3,fin _ (by simp)⟩
    | true=>exact⟨_,h3,fin _ (by simp)⟩
theorem JT.tj0:JT tj0:= .node _ .leaf
theorem JT.tj3:JT tj3:= .node _ (.node _ (.node _ JT.tj0))
theorem JT.tj5:JT tj5:= .node _ (.node _ JT.tj3)
theorem JT.tj7:JT tj7:= .node _ (.node _ JT.tj5)
theorem JT.tj9:JT tj9:= .node _ (.node _ JT.tj7)
theorem tjsel_jt {n:Nat} {k:TT→Bool} (h:tjsel n k=true):∃t,JT t∧k t=true:=by
 unfold tjsel at h
 cases h1:Nat.ble n 14 with
 | true=>rw[h1]at h;exact⟨tj3,JT.tj3,h⟩
 | false=>
  rw[h1]at h
  cases h2:Nat.ble n 62 with
  | true=>rw[h2]at h;exact⟨tj5,JT.tj5,h⟩
  | false=>
   rw[h2]at h
   cases h3:Nat.ble n 254 with
   | true=>rw[h3]at h;exact⟨tj7,JT.tj7,h⟩
   | false=>rw[h3]at h;exact⟨tj9,JT.tj9,h⟩
theorem scrub_length:∀(l:List Nat) (a:List AV),(scrub a l).length=a.length
 | [],a=>rfl
 | i::l,a=>by rw[scrub,scrub_length l,length_tsetF]
theorem scrub_get:∀(l:List Nat) (a:List AV) (i:Nat),tget (scrub a l) i=if l.contains i=true then .junk else tget a i
 | [],a,i=>by simp[scrub]
 | x::l,a,i=>by
  rw[scrub,scrub_get l]
  by_cases h1:l.contains i=true
  ·simp only[h1,if_true];simp at h1;simp[h1]
  ·simp only[h1,if_false,Bool.false_eq_true]
   have e:(x::l).contains i=(i==x):=by
    have h1':l.contains i=false:=by simpa using h1
    rw[List.contains_cons,h1'];simp
   rw[e]
   rcases Nat.lt_or_ge x a.length with hx | hx
   ·rw[tget_tsetF _ _ _ _ hx];simp
   ·have hts:∀(b:List AV) (y:Nat),b.length≤y→tset b y .junk=b:=by
     intro b
     induction b with
     | nil=>intro y _;rfl
     | cons z b ih=>intro y hy;cases y with
      | zero=>simp at hy
      | succ y=>simp only[tset];rw[ih y (by simpa using hy)]
    rw[hts a x hx]
    by_cases hix:i=x
    ·subst hix;simp;exact tget_outK a i hx
    ·simp[hix]
noncomputable def H.lk (h:H) (i:Nat) (k:Nat→ALoop→Bool):Bool:=h.gk i fun o=>AObj.casesOn o (fun _ _ _=>false) (fun _ _=>false) (fun v r=>k v r) false
theorem H.lk_ok {h:H} {i:Nat} {k:Nat→ALoop→Bool} (hk:h.lk i k=true):∃ver r,h.get i=some (.loop ver r)∧k ver r=true:=by
 obtain⟨o,h1,h2⟩:=H.gk_ok hk
 cases o with
 | loop ver r=>exact⟨ver,r,h1,h2⟩
 | _=>cases h2
def onReady (s:LoopState) (k:Bool):Bool:=match s with | .ready=>k | _=>false
theorem onReady_ok {s:LoopState} {k:Bool} (h:onReady s k=true):s= .ready∧k=true:=by cases s<;>first | exact⟨rfl,h⟩ | cases h
def notBusy (s:LoopState) (k:Bool):Bool:=match s with | .busy=>false | _=>k
theorem notBusy_ok {s:LoopState} {k:Bool} (h:notBusy s k=true):s≠ .busy∧k=true:=by
 cases s with
 | busy=>cases h
 | _=>exact⟨(fun e=>by cases e),h⟩
section
variable (R:KRec)
noncomputable def kround (l:Nat) (args:List AV) (h:H) (k:AV→H→Bool):Bool:=
 h.lk l fun _ r=>ALoop.casesOn r fun _ _ tmps params assign body=>kif (Nat.beq (klen args) params.length) (fN (klen tmps) fun n=>tjsel n fun t=>kofL (setAll tmps params args) (nat_lit 0) t fun t=>
  R.code assign n t h fun e t1 h1=>Ex.casesOn e (h1.lk l fun v1 r1=>onReady r1.state (h1.sk l (.loop (v1+1) {r1 with state:= .busy}) fun h2=>
   R.code body n t1 h2 fun e _ h3=>h3.lk l fun v3 r3=>Ex.casesOn e
    (h3.sk l (.loop (v3+1) {r3 with state:= .ready,pending:=none}) fun h4=>k (.bool true) h4)
    (h3.sk l (.loop (v3+1) {r3 with state:= .done,pending:=some .ret}) fun h4=>k (.bool false) h4)
    (fun i=>h3.sk l (.loop (v3+1) {r3 with state:= .done,pending:=some (.exit i)}) fun h4=>k (.bool false) h4))) false (fun _=>false))
noncomputable def kcallFn (fn:Fn) (first cap args:List AV) (h:H) (k:AV→H→Bool):Bool:=match fn with
 | .func g=>lak args cap fun l=>lak first l fun l=>R.call g l h k
 | .yield l=>lak first args fun args=>kround R l args h k
 | _=>false
noncomputable def kcallV (f:AV) (args:List AV) (h:H) (k:AV→H→Bool):Bool:=onFunc f fun fn first cap=>kcallFn R fn first cap args h k
noncomputable def kCall (f:AR) (args:List AR) (t:TT) (h:H) (k:KO):Bool:=kev f t fun f=>kevL args t fun args=>kcallV R f args h fun v h=>k v h []
noncomputable def kFieldO (off:Nat) (n:Option Nat) (x:AR):TT→H→KO→Bool:=match n with
 | none=>kField off x
 | some n=>kFieldN off n x
noncomputable def kIndexO (len size:Nat) (b:Bool) (x i:AR):TT→H→KO→Bool:=match b with
 | false=>kIndex len size x i
 | true=>kGen (.index len size true x i)
noncomputable def kstep (o:AO):TT→H→KO→Bool:=match o with
 | .move x=>kMove x
 | .pick c x y=>kPick c x y
 | .alloc cs=>kAlloc cs
 | .box x=>kBox x
 | .load x=>kLoad x
 | .loadAgg n x=>kLoadAgg n x
 | .store n p x=>kStore n p x
 | .nilCheck x=>kNil x
 | .bin op x y=>kBin op x y
 | .eqB n x y=>kEqB n x y
 | .un op x=>kNot op x
 | .convInt kd x=>kConv kd x
 | .mkFunc fn f c=>kMkFunc fn f c
 | .field off n x=>kFieldO off n x
 | .fieldAddr off x=>kFieldAddr off x
 | .indexAddr s x i=>kIndexAddr s x i
 | .indexAddrA l s x i=>kIndexAddrA l s x i
 | .index l s b x i=>kIndexO l s b x i
 | .extract x i=>kExtract x i
 | .len x=>kLen x
 | .append s b x y=>kAppend s b x y
 | .makeSlice b z n c=>kMake b z n c
 | .call f args=>kCall R f args
 | o=>kGen o
noncomputable def kput (n:Nat) (t:TT) (d:Option Nat) (v:AV) (k:TT→Bool):Bool:=Option.casesOn d (k t) (fun d=>kif (Nat.ble (Nat.succ d) n) (TT.sk v t d k))
noncomputable def kguard (t:TT) (g:Option (Nat×Bool)) (yes no:Bool):Bool:=Option.casesOn g yes (fun p=>Prod.casesOn p fun i want=>t.gk i fun v=>onGuard v (fun b=>Bool.rec (Bool.rec yes no want) (Bool.rec no yes want) b) no)
noncomputable def koper (n:Nat) (o:AOper) (t:TT) (h:H) (k:TT→H→Bool):Bool:=AOper.casesOn o fun dst op guard _=>
 kguard t guard (kstep R op t h fun v h' _=>kput n t dst v fun t=>k t h') (kput n t dst (.tuple []) fun t=>k t h)
noncomputable def kops (n:Nat) (os:List AOper):TT→H→(TT→H→Bool)→Bool:=List.rec (motive:=fun _=>TT→H→(TT→H→Bool)→Bool) (fun t h k=>k t h) (fun o _ ih t h k=>koper R n o t h fun t h=>ih t h k) os
def kchk (eff:Bool) (rd:List Nat) (hb ha:H) (log:List LogE) (chk:List Nat) (k:Bool):Bool:=match chk with
 | []=>k
 | c::cs=>chkOk eff rd hb ha log (c::cs)&&k
noncomputable def koperD (n:Nat) (o:AOper) (i:Nat) (t:TT) (h:H) (log:List LogE) (k:TT→H→List LogE→Bool):Bool:=AOper.casesOn o fun dst op guard chk=>
 kguard t guard (kstep R op t h fun v h' rd=>kchk op.effect (rdx h h' rd) h h' log chk (kput n t dst v fun t=>k t h' (⟨i,rdx h h' rd,h,h'⟩::log))) (kput n t dst (.tuple []) fun t=>k t h log)
noncomputable def kopsD (n:Nat) (os:List AOper):Nat→TT→H→List LogE→(TT→H→Bool)→Bool:=List.rec (motive:=fun _=>Nat→TT→H→List LogE→(TT→H→Bool)→Bool) (fun _ t h _ k=>k t h) (fun o _ ih i t h log k=>koperD R n o i t h log fun t h log=>ih (Nat.succ i) t h log k) os
noncomputable def kscrub (n:Nat) (l:List Nat) (t:TT) (k:TT→Bool):Bool:=tjsel n fun j=>KM.filt (KM.mask l) j t k
noncomputable def ktoL (t:TT) (n:Nat):List AV→(List AV→Bool)→Bool:=Nat.rec (motive:=fun _=>List AV→(List AV→Bool)→Bool) (fun acc k=>k acc) (fun i ih acc k=>t.gk i fun v=>ih (v::acc) k) n
noncomputable def krange (n:Nat) (f:AR) (ps:List Nat) (asg body:AC) (t:TT) (h:H) (k:KE):Bool:=
 kev f t fun f=>onFunc f fun fn first cap=>kFnG fn fun g=>ktoL t n [] fun tmps=>H.casesOn h fun nx ht=>lak first (.func (.yield nx) [] []::cap) fun args=>
  (H.mk nx ht).ak (.loop Nat.zero {state:= .ready,pending:=none,tmps:=tmps,params:=ps,assign:=asg,body:=body}) fun h1=>
  R.call g args h1 fun _ h'=>h'.lk nx fun ver r=>notBusy r.state (h'.sk nx (.loop (ver+1) {r with state:= .exhausted}) fun h2=>k (r.pending.getD .normal) t h2)
where kFnG (fn:Fn) (k:FuncId→Bool):Bool:=match fn with
 | .func g=>k g
 | _=>false
noncomputable def kcode (n:Nat) (c:AC):TT→H→KE→Bool:=
 AC.rec (motive:=fun _=>TT→H→KE→Bool)
  (fun t h k=>k .normal t h)
  (fun ops t h k=>kops R n ops t h fun t h=>k .normal t h)
  (fun ops t h k=>kopsD R n ops (nat_lit 0) t h [] fun t h=>k .normal t h)
  (fun _ _ ia ib t h k=>ia t h fun e t h=>Ex.casesOn e (ib t h k) (k .ret t h) (fun i=>k (.exit i) t h))
  (fun c _ _ ia ib t h k=>kev c t fun v=>onBool v fun b=>Bool.rec (ib t h k) (ia t h k) b)
  (fun id _ ia t h k=>ia t h fun e t h=>Ex.casesOn e (k .normal t h) (k .ret t h) (fun i=>Bool.rec (k (.exit i) t h) (k .normal t h) (Nat.beq i id)))
  (fun sc x ia t h k=>kscrub n sc t fun t=>ia t h fun e t h=>Ex.casesOn e (R.code (.loop sc x) n t h k) (k .ret t h) (fun i=>k (.exit i) t h))
  (fun f ps asg body _ _ t h k=>krange R n f ps asg body t h k)
  (fun id t h k=>k (.exit id) t h)
  (fun t h k=>k .ret t h) c
noncomputable def kares (t:TT) (h:H) (r:ARes) (k:AV→Bool):Bool:=ARes.casesOn r (fun i=>t.gk i k) (fun i=>t.gk i fun v=>onPtr v fun b o=>h.ck b fun _ _ cs=>lgk cs o k) (fun i n=>t.gk i fun v=>onPtr v fun b o=>gck h b o n fun cs=>k (.agg cs))
noncomputable def karesL (t:TT) (h:H) (l:List ARes):(List AV→Bool)→Bool:=List.rec (motive:=fun _=>(List AV→Bool)→Bool) (fun k=>k []) (fun r _ ih k=>kares t h r fun v=>ih fun vs=>k (v::vs)) l
noncomputable def kpack (l:List AV) (k:AV→Bool):Bool:=List.casesOn l (k (.tuple [])) (fun v l=>List.casesOn l (k v) (fun w l=>k (.tuple (v::w::l))))
end
inductive KT where
 | leaf
 | node (l:KT) (g:Nat) (F:AFn) (r:KT)
 | tru (l:KT) (g:Nat) (r:KT)
 | tz (l:KT) (g:Nat) (r:KT)
def tzTab:List Nat:=[0,1,56,2,57,49,28,3,61,58,42,50,38,29,17,4,62,47,59,36,45,43,51,22,53,39,33,30,24,18,12,5,63,55,48,27,60,41,37,16,46,35,44,21,52,32,23,11,54,26,40,15,34,20,31,10,25,14,19,9,13,8,7,6]
def tzAnd (x:Int):Int:=IntKind.u64.wrap (BitVec.ofInt IntKind.u64.bits x&&& BitVec.ofInt IntKind.u64.bits (IntKind.u64.wrap (-x))).toNat
def tzIdx (x:Int):Int:=IntKind.u64.wrap (tzAnd x*285870213051353865) / 288230376151711744
def tzF (x:Int):Int:=if x=0 then 64 else((tzTab[(tzIdx x).toNat]?).getD 0:Nat)
def primTzV:List AV→Option Int
 | [.int .u64 x]=>some (tzF x)
 | _=>none
def primTz (args:List AV) (h:H):Option (AV×H):=match primTzV args with
 | some n=>some (.int .i64 n,h)
 | none=>none
noncomputable def kTz (args:List AV) (h:H) (k:AV→H→Bool):Bool:=Option.casesOn (primTzV args) false (fun n=>fI n fun n=>k (.int .i64 n) h)
theorem kTz_ok {args:List AV} {h:H} {k:AV→H→Bool} (hk:kTz args h k=true):∃v h',primTz args h=some (v,h')∧k v h'=true:=by
 unfold kTz at hk
 unfold primTz
 cases hp:primTzV args with
 | none=>rw[hp]at hk;cases hk
 | some n=>
  rw[hp]at hk
  have hk:fI n (fun n=>k (.int .i64 n) h)=true:=hk
  rw[fI_eq]at hk
  exact⟨_,_,rfl,hk⟩
def primTrue:List AV→H→Option (AV×H)
 | [],h=>some (.bool true,h)
 | _::_,_=>none
def KT.find:KT→Nat→Option AF
 | .leaf,_=>none
 | .node l k f r,g=>if g=k then some (.fn f) else if g≤k then l.find g else r.find g
 | .tru l k r,g=>if g=k then some (.prim primTrue) else if g≤k then l.find g else r.find g
 | .tz l k r,g=>if g=k then some (.prim primTz) else if g≤k then l.find g else r.find g
noncomputable def KT.fk (T:KT) (g:Nat) (kf:AFn→Bool) (kt kz:Bool):Bool:=KT.rec (motive:=fun _=>Bool) false
 (fun _ k f _ il ir=>Bool.rec (Bool.rec ir il (Nat.ble g k)) (kf f) (Nat.beq g k))
 (fun _ k _ il ir=>Bool.rec (Bool.rec ir il (Nat.ble g k)) kt (Nat.beq g k))
 (fun _ k _ il ir=>Bool.rec (Bool.rec ir il (Nat.ble g k)) kz (Nat.beq g k)) T
theorem ble_false_lt {a b:Nat} (h:Nat.ble a b=false):¬a≤b:=by
 intro hl;rw[Nat.ble_eq_true_of_le hl]at h;cases h
theorem KT.fk_ok:∀{T:KT} {g:Nat} {kf:AFn→Bool} {kt kz:Bool},T.fk g kf kt kz=true→(∃F,T.find g=some (.fn F)∧kf F=true)∨(T.find g=some (.prim primTrue)∧kt=true)∨(T.find g=some (.prim primTz)∧kz=true)
 | .leaf,g,kf,kt,kz,h=>by cases h
 | .node l k f r,g,kf,kt,kz,h=>by
  have h':Bool.rec (Bool.rec (r.fk g kf kt kz) (l.fk g kf kt kz) (Nat.ble g k)) (kf f) (Nat.beq g k)=true:=h
  simp only[KT.find]
  cases hb:Nat.beq g k with
  | true=>rw[hb]at h';rw[if_pos (Nat.eq_of_beq_eq_true hb)];exact .inl ⟨f,rfl,h'⟩
  | false=>
   rw[hb]at h';rw[if_neg (q53 hb)]
   cases hc:Nat.ble g k with
   | true=>rw[hc]at h';rw[if_pos (Nat.le_of_ble_eq_true hc)];exact KT.fk_ok (T:=l) h'
   | false=>rw[hc]at h';rw[if_neg (ble_false_lt hc)];exact KT.fk_ok (T:=r) h'
 | .tru l k r,g,kf,kt,kz,h=>by
  have h':Bool.rec (Bool.rec (r.fk g kf kt kz) (l.fk g kf kt kz) (Nat.ble g k)) kt (Nat.beq g k)=true:=h
  simp only[KT.find]
  cases hb:Nat.beq g k with
  | true=>rw[hb]at h';rw[if_pos (Nat.eq_of_beq_eq_true hb)];exact .inr (.inl ⟨rfl,h'⟩)
  | false=>
   rw[hb]at h';rw[if_neg (q53 hb)]
   cases hc:Nat.ble g k with
   | true=>rw[hc]at h';rw[if_pos (Nat.le_of_ble_eq_true hc)];exact KT.fk_ok (T:=l) h'
   | false=>rw[hc]at h';rw[if_neg (ble_false_lt hc)];exact KT.fk_ok (T:=r) h'
 | .tz l k r,g,kf,kt,kz,h=>by
  have h':Bool.rec (Bool.rec (r.fk g kf kt kz) (l.fk g kf kt kz) (Nat.ble g k)) kz (Nat.beq g k)=true:=h
  simp only[KT.find]
  cases hb:Nat.beq g k with
  | true=>rw[hb]at h';rw[if_pos (Nat.eq_of_beq_eq_true hb)];exact .inr (.inr ⟨rfl,h'⟩)
  | false=>
   rw[hb]at h';rw[if_neg (q53 hb)]
   cases hc:Nat.ble g k with
   | true=>rw[hc]at h';rw[if_pos (Nat.le_of_ble_eq_true hc)];exact KT.fk_ok (T:=l) h'
   | false=>rw[hc]at h';rw[if_neg (ble_false_lt hc)];exact KT.fk_ok (T:=r) h'
noncomputable def kfin (res:List ARes) (t:TT) (h:H) (k:AV→H→Bool):Bool:=karesL t h res fun vs=>kpack vs fun v=>k v h
noncomputable def kbody (R:KRec) (F:AFn) (args:List AV) (h:H) (k:AV→H→Bool):Bool:=AFn.casesOn F fun nt res body=>kif (Nat.ble (klen args) nt) (tjsel nt fun t=>kofL args (nat_lit 0) t fun t=>
 kcode R nt body t h fun e t h=>Ex.casesOn e (kfin res t h k) (kfin res t h k) (fun _=>false))
noncomputable def kcallF (R:KRec) (T:KT) (g:FuncId) (args:List AV) (h:H) (k:AV→H→Bool):Bool:=T.fk g (fun F=>kbody R F args h k) (List.casesOn args (k (.bool true) h) (fun _ _=>false)) (kTz args h k)
noncomputable def krun (T:KT) (n:Nat):KRec:=Nat.rec (motive:=fun _=>KRec) ⟨fun _ _ _ _ _=>false,fun _ _ _ _=>false⟩ (fun _ ih=>⟨fun c n t h k=>kcode ih n c t h k,fun g args h k=>kcallF ih T g args h k⟩) n
end Go.Am

