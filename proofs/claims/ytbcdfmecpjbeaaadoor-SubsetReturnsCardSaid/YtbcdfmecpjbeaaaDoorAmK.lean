/- A third evaluator of the abstract machine, made for the kernel: everything is handed on, nothing is put off, every branch is closed. What it answers, the first answers too. This text: trees, lists, numbers. -/
import Derived.Test.YtbcdfmecpjbeaaaDoorAmFast2
set_option linter.unusedVariables false
set_option linter.unusedSimpArgs false
namespace Go.Am
noncomputable def TT.gk (t:TT):Nat→(AV→Bool)→Bool:=
 TT.rec (motive:=fun _=>Nat→(AV→Bool)→Bool) (fun _ k=>k .junk)
  (fun v _ _ ihl ihr i k=>Bool.rec (Bool.rec (ihr (Nat.sub (Nat.div i (nat_lit 2)) (nat_lit 1)) k) (ihl (Nat.div i (nat_lit 2)) k) (Nat.beq (Nat.mod i (nat_lit 2)) (nat_lit 1))) (k v) (Nat.beq i (nat_lit 0))) t
theorem TT.gk_eq:∀(t:TT) (i:Nat) (k:AV→Bool),t.gk i k=k (t.get i)
 | .leaf,i,k=>rfl
 | .node v l r,i,k=>by
  show Bool.rec (Bool.rec (r.gk (i / 2-1) k) (l.gk (i / 2) k) (Nat.beq (i % 2) 1)) (k v) (Nat.beq i 0)=k (bif Nat.beq i 0 then v else bif Nat.beq (i % 2) 1 then l.get (i / 2) else r.get (i / 2-1))
  cases Nat.beq i 0 with
  | true=>rfl
  | false=>cases Nat.beq (i % 2) 1 with
   | true=>exact TT.gk_eq l _ k
   | false=>exact TT.gk_eq r _ k
noncomputable def TT.sk (v:AV) (t:TT):Nat→(TT→Bool)→Bool:=
 TT.rec (motive:=fun _=>Nat→(TT→Bool)→Bool) (fun _ _=>false)
  (fun x l r ihl ihr i k=>Bool.rec (Bool.rec (ihr (Nat.sub (Nat.div i (nat_lit 2)) (nat_lit 1)) (fun t=>k (.node x l t))) (ihl (Nat.div i (nat_lit 2)) (fun t=>k (.node x t r))) (Nat.beq (Nat.mod i (nat_lit 2)) (nat_lit 1))) (k (.node v l r)) (Nat.beq i (nat_lit 0))) t
theorem TT.sk_ok {v:AV} :∀{t:TT} {i:Nat} {k:TT→Bool},TT.sk v t i k=true→∃t',k t'=true∧∀j,t'.get j=if j=i then v else t.get j
 | .leaf,i,k,h=>by cases h
 | .node x l r,i,k,h=>by
  have h':Bool.rec (Bool.rec (TT.sk v r (i / 2-1) (fun t=>k (.node x l t))) (TT.sk v l (i / 2) (fun t=>k (.node x t r))) (Nat.beq (i % 2) 1)) (k (.node v l r)) (Nat.beq i 0)=true:=h
  cases hb:Nat.beq i 0 with
  | true=>
   rw[hb]at h'
   have:=Nat.eq_of_beq_eq_true hb;subst this
   refine⟨_,h',fun j=>?_⟩
   rw[TT.get_node,TT.get_node]
   by_cases hj:j=0
   ·simp[hj]
   ·simp[hj]
  | false=>
   have hi0:i≠0:=by rintro rfl;cases hb
   rw[hb]at h'
   cases hc:Nat.beq (i % 2) 1 with
   | true=>
    rw[hc]at h'
    have hm:=Nat.eq_of_beq_eq_true hc
    obtain⟨t',h1,h2⟩:=TT.sk_ok (t:=l) (k:=fun t=>k (.node x t r)) h'
    refine⟨_,h1,fun j=>?_⟩
    rw[TT.get_node,TT.get_node]
    by_cases hj0:j=0
    ·rw[if_pos hj0,if_neg (by omega),if_pos hj0]
    ·rw[if_neg hj0,if_neg hj0]
     by_cases hj1:j % 2=1
     ·rw[if_pos hj1,if_pos hj1,h2]
      by_cases e:j=i
      ·subst e;simp
      ·rw[if_neg (by omega),if_neg e]
     ·rw[if_neg hj1,if_neg (by omega),if_neg hj1]
   | false=>
    rw[hc]at h'
    have hm:i % 2≠1:=by intro e;rw[e]at hc;cases hc
    obtain⟨t',h1,h2⟩:=TT.sk_ok (t:=r) (k:=fun t=>k (.node x l t)) h'
    refine⟨_,h1,fun j=>?_⟩
    rw[TT.get_node,TT.get_node]
    by_cases hj0:j=0
    ·rw[if_pos hj0,if_neg (by omega),if_pos hj0]
    ·rw[if_neg hj0,if_neg hj0]
     by_cases hj1:j % 2=1
     ·rw[if_pos hj1,if_neg (by omega),if_pos hj1]
     ·rw[if_neg hj1,if_neg hj1,h2]
      by_cases e:j=i
      ·subst e;simp
      ·rw[if_neg (by omega),if_neg e]
def tj0:TT:= .node .junk .leaf .leaf
def tj1:TT:= .node .junk tj0 tj0
def tj2:TT:= .node .junk tj1 tj1
def tj3:TT:= .node .junk tj2 tj2
def tj4:TT:= .node .junk tj3 tj3
def tj5:TT:= .node .junk tj4 tj4
def tj6:TT:= .node .junk tj5 tj5
def tj7:TT:= .node .junk tj6 tj6
def tj8:TT:= .node .junk tj7 tj7
def tj9:TT:= .node .junk tj8 tj8
theorem tjn {t:TT} (h:∀i,t.get i= .junk) (i:Nat):(TT.node .junk t t).get i= .junk:=by
 rw[TT.get_node];split
 ·rfl
 ·split<;>exact h _
theorem tj0_get (i:Nat):tj0.get i= .junk:=tjn (t:= .leaf) (fun _=>rfl) i
theorem tj9_get (i:Nat):tj9.get i= .junk:=tjn (fun i=>tjn (fun i=>tjn (fun i=>tjn (fun i=>tjn (fun i=>tjn (fun i=>tjn (fun i=>tjn (fun i=>tjn tj0_get i) i) i) i) i) i) i) i) i
noncomputable def HT.gk (t:HT):Nat→(AObj→Bool)→Bool:=
 HT.rec (motive:=fun _=>Nat→(AObj→Bool)→Bool) (fun _ _=>false)
  (fun v _ _ ihl ihr i k=>Bool.rec (Bool.rec (ihr (Nat.sub (Nat.div i (nat_lit 2)) (nat_lit 1)) k) (ihl (Nat.div i (nat_lit 2)) k) (Nat.beq (Nat.mod i (nat_lit 2)) (nat_lit 1))) (Option.casesOn v false k) (Nat.beq i (nat_lit 0))) t
theorem HT.get_node (y:Option AObj) (l r:HT) (j:Nat):(HT.node y l r).get j=if j=0 then y else if j % 2=1 then l.get (j / 2) else r.get (j / 2-1):=rfl
theorem q53 {i j:Nat} (h:Nat.beq i j=false):i≠j:=by
 rintro rfl
 rw[Nat.beq_refl]at h;cases h
theorem HT.gk_ok:∀{t:HT} {i:Nat} {k:AObj→Bool},t.gk i k=true→∃o,t.get i=some o∧k o=true
 | .leaf,i,k,h=>by cases h
 | .node v l r,i,k,h=>by
  have h':Bool.rec (Bool.rec (r.gk (i / 2-1) k) (l.gk (i / 2) k) (Nat.beq (i % 2) 1)) (Option.casesOn v false k) (Nat.beq i 0)=true:=h
  rw[HT.get_node]
  cases hb:Nat.beq i 0 with
  | true=>
   rw[hb]at h'
   rw[if_pos (Nat.eq_of_beq_eq_true hb)]
   cases v with
   | none=>cases h'
   | some o=>exact⟨o,rfl,h'⟩
  | false=>
   rw[hb]at h'
   rw[if_neg (q53 hb)]
   cases hc:Nat.beq (i % 2) 1 with
   | true=>rw[hc]at h';rw[if_pos (Nat.eq_of_beq_eq_true hc)];exact HT.gk_ok (t:=l) h'
   | false=>rw[hc]at h';rw[if_neg (q53 hc)];exact HT.gk_ok (t:=r) h'
noncomputable def HT.mk (o:AObj) (fuel:Nat):Nat→(HT→Bool)→Bool:=
 Nat.rec (motive:=fun _=>Nat→(HT→Bool)→Bool) (fun _ _=>false)
  (fun _ ih i k=>Bool.rec (Bool.rec (ih (Nat.sub (Nat.div i (nat_lit 2)) (nat_lit 1)) (fun t=>k (.node none .leaf t))) (ih (Nat.div i (nat_lit 2)) (fun t=>k (.node none t .leaf))) (Nat.beq (Nat.mod i (nat_lit 2)) (nat_lit 1))) (k (.node (some o) .leaf .leaf)) (Nat.beq i (nat_lit 0))) fuel
theorem HT.set_leaf (o:AObj) (fuel i:Nat):HT.set o (fuel+1) .leaf i=if i=0 then .node (some o) .leaf .leaf else if i % 2=1 then .node none (HT.set o fuel .leaf (i / 2)) .leaf else .node none .leaf (HT.set o fuel .leaf (i / 2-1)):=rfl
theorem HT.set_node (o:AObj) (fuel i:Nat) (v:Option AObj) (l r:HT):HT.set o (fuel+1) (.node v l r) i=if i=0 then .node (some o) l r else if i % 2=1 then .node v (HT.set o fuel l (i / 2)) r else .node v l (HT.set o fuel r (i / 2-1)):=rfl
theorem HT.mk_ok {o:AObj} :∀{fuel i f:Nat} {k:HT→Bool},i<f→HT.mk o fuel i k=true→k (HT.set o f .leaf i)=true
 | 0,i,f,k,hi,h=>by cases h
 | fuel+1,i,0,k,hi,h=>by omega
 | fuel+1,i,f+1,k,hi,h=>by
  have h':Bool.rec (Bool.rec (HT.mk o fuel (i / 2-1) (fun t=>k (.node none .leaf t))) (HT.mk o fuel (i / 2) (fun t=>k (.node none t .leaf))) (Nat.beq (i % 2) 1)) (k (.node (some o) .leaf .leaf)) (Nat.beq i 0)=true:=h
  rw[HT.set_leaf]
  cases hb:Nat.beq i 0 with
  | true=>rw[hb]at h';rw[if_pos (Nat.eq_of_beq_eq_true hb)];exact h'
  | false=>
   rw[hb]at h'
   have:=q53 hb
   rw[if_neg this]
   cases hc:Nat.beq (i % 2) 1 with
   | true=>rw[hc]at h';rw[if_pos (Nat.eq_of_beq_eq_true hc)];exact HT.mk_ok (k:=fun t=>k (.node none t .leaf)) (by omega) h'
   | false=>rw[hc]at h';rw[if_neg (q53 hc)];exact HT.mk_ok (k:=fun t=>k (.node none .leaf t)) (by omega) h'
noncomputable def HT.sk (o:AObj) (t:HT):Nat→(HT→Bool)→Bool:=
 HT.rec (motive:=fun _=>Nat→(HT→Bool)→Bool) (fun i k=>HT.mk o (nat_lit 64) i k)
  (fun v l r ihl ihr i k=>Bool.rec (Bool.rec (ihr (Nat.sub (Nat.div i (nat_lit 2)) (nat_lit 1)) (fun t=>k (.node v l t))) (ihl (Nat.div i (nat_lit 2)) (fun t=>k (.node v t r))) (Nat.beq (Nat.mod i (nat_lit 2)) (nat_lit 1))) (k (.node (some o) l r)) (Nat.beq i (nat_lit 0))) t
theorem HT.sk_ok {o:AObj} :∀{t:HT} {i f:Nat} {k:HT→Bool},i<f→HT.sk o t i k=true→k (HT.set o f t i)=true
 | .leaf,i,f,k,hi,h=>HT.mk_ok hi (show HT.mk o 64 i k=true from h)
 | .node v l r,i,0,k,hi,h=>by omega
 | .node v l r,i,f+1,k,hi,h=>by
  have h':Bool.rec (Bool.rec (HT.sk o r (i / 2-1) (fun t=>k (.node v l t))) (HT.sk o l (i / 2) (fun t=>k (.node v t r))) (Nat.beq (i % 2) 1)) (k (.node (some o) l r)) (Nat.beq i 0)=true:=h
  rw[HT.set_node]
  cases hb:Nat.beq i 0 with
  | true=>rw[hb]at h';rw[if_pos (Nat.eq_of_beq_eq_true hb)];exact h'
  | false=>
   rw[hb]at h'
   have:=q53 hb
   rw[if_neg this]
   cases hc:Nat.beq (i % 2) 1 with
   | true=>rw[hc]at h';rw[if_pos (Nat.eq_of_beq_eq_true hc)];exact HT.sk_ok (t:=l) (k:=fun t=>k (.node v t r)) (by omega) h'
   | false=>rw[hc]at h';rw[if_neg (q53 hc)];exact HT.sk_ok (t:=r) (k:=fun t=>k (.node v l t)) (by omega) h'
noncomputable def fN (m:Nat) (k:Nat→Bool):Bool:=Nat.casesOn m (k Nat.zero) (fun p=>k (Nat.succ p))
theorem fN_eq (m:Nat) (k:Nat→Bool):fN m k=k m:=by cases m<;>rfl
noncomputable def fI (n:Int) (k:Int→Bool):Bool:=Int.casesOn n (fun m=>fN m fun m=>k (.ofNat m)) (fun m=>fN m fun m=>k (.negSucc m))
theorem fI_eq (n:Int) (k:Int→Bool):fI n k=k n:=by cases n<;>simp[fI,fN_eq]
noncomputable def fB (b:Bool) (k:Bool→Bool):Bool:=Bool.casesOn b (k false) (k true)
theorem fB_eq (b:Bool) (k:Bool→Bool):fB b k=k b:=by cases b<;>rfl
noncomputable def kif (c:Bool) (k:Bool):Bool:=Bool.rec false k c
theorem kif_ok {c k:Bool} (h:kif c k=true):c=true∧k=true:=by
 cases c with
 | false=>cases h
 | true=>exact⟨rfl,h⟩
noncomputable def H.gk (h:H) (i:Nat) (k:AObj→Bool):Bool:=H.casesOn h fun n t=>kif (Nat.ble (Nat.succ i) n) (HT.gk t i k)
theorem H.gk_ok {h:H} {i:Nat} {k:AObj→Bool} (hk:h.gk i k=true):∃o,h.get i=some o∧k o=true:=by
 obtain⟨n,t⟩:=h
 obtain⟨h1,h2⟩:=kif_ok hk
 obtain⟨o,h3,h4⟩:=HT.gk_ok h2
 refine⟨o,?_,h4⟩
 show(if i<n then t.get i else none)=some o
 rw[if_pos (show i<n from Nat.le_of_ble_eq_true h1)];exact h3
noncomputable def H.ck (h:H) (i:Nat) (k:Nat→Bool→List AV→Bool):Bool:=h.gk i fun o=>AObj.casesOn o (fun v rw cs=>k v rw cs) (fun _ _=>false) (fun _ _=>false) false
theorem H.ck_ok {h:H} {i:Nat} {k:Nat→Bool→List AV→Bool} (hk:h.ck i k=true):∃ver rw cs,h.get i=some (.cells ver rw cs)∧k ver rw cs=true:=by
 obtain⟨o,h1,h2⟩:=H.gk_ok hk
 cases o with
 | cells ver rw cs=>exact⟨ver,rw,cs,h1,h2⟩
 | _=>cases h2
noncomputable def H.ak (h:H) (o:AObj) (k:H→Bool):Bool:=H.casesOn h fun n t=>fN (Nat.succ n) fun n'=>HT.sk o t n fun t'=>k ⟨n',t'⟩
theorem H.ak_ok {h:H} {o:AObj} {k:H→Bool} (hk:h.ak o k=true):k (h.alloc o)=true:=by
 obtain⟨n,t⟩:=h
 unfold H.ak at hk
 simp only[fN_eq]at hk
 exact HT.sk_ok (k:=fun t'=>k ⟨n+1,t'⟩) (Nat.lt_succ_self n) hk
noncomputable def H.sk (h:H) (i:Nat) (o:AObj) (k:H→Bool):Bool:=H.casesOn h fun n t=>HT.sk o t i fun t'=>k ⟨n,t'⟩
theorem H.sk_ok {h:H} {i:Nat} {o:AObj} {k:H→Bool} (hk:h.sk i o k=true):k (h.set i o)=true:=by
 obtain⟨n,t⟩:=h
 exact HT.sk_ok (k:=fun t'=>k ⟨n,t'⟩) (Nat.lt_succ_self i) hk
noncomputable def lgk (l:List AV):Nat→(AV→Bool)→Bool:=
 List.rec (motive:=fun _=>Nat→(AV→Bool)→Bool) (fun _ _=>false) (fun v _ ih i k=>Bool.rec (ih (Nat.sub i (nat_lit 1)) k) (k v) (Nat.beq i (nat_lit 0))) l
theorem lgk_ok:∀{l:List AV} {i:Nat} {k:AV→Bool},lgk l i k=true→∃v,l[i]? =some v∧k v=true
 | [],i,k,h=>by cases h
 | v::l,0,k,h=>⟨v,rfl,h⟩
 | v::l,i+1,k,h=>lgk_ok (l:=l) (i:=i) h
noncomputable def lsk (w:AV) (l:List AV):Nat→(List AV→Bool)→Bool:=
 List.rec (motive:=fun _=>Nat→(List AV→Bool)→Bool) (fun _ _=>false) (fun v tl ih i k=>Bool.rec (ih (Nat.sub i (nat_lit 1)) (fun l=>k (v::l))) (k (w::tl)) (Nat.beq i (nat_lit 0))) l
theorem lsk_ok {w:AV} :∀{l:List AV} {i:Nat} {k:List AV→Bool},lsk w l i k=true→i+1≤l.length∧k (over l i [w])=true
 | [],i,k,h=>by cases h
 | v::l,0,k,h=>⟨by simp,by have h':k (w::l)=true:=h;simpa [over] using h'⟩
 | v::l,i+1,k,h=>by
  obtain⟨h1,h2⟩:=lsk_ok (l:=l) (i:=i) (k:=fun l=>k (v::l)) h
  exact⟨by simpa using h1,h2⟩
noncomputable def ldk (l:List AV):Nat→(List AV→Bool)→Bool:=
 List.rec (motive:=fun _=>Nat→(List AV→Bool)→Bool) (fun i k=>kif (Nat.beq i (nat_lit 0)) (k [])) (fun v tl ih i k=>Bool.rec (ih (Nat.sub i (nat_lit 1)) k) (k (v::tl)) (Nat.beq i (nat_lit 0))) l
theorem ldk_ok:∀{l:List AV} {i:Nat} {k:List AV→Bool},ldk l i k=true→i≤l.length∧k (l.drop i)=true
 | [],i,k,h=>by
  obtain⟨h1,h2⟩:=kif_ok (c:=Nat.beq i 0) h
  have:=Nat.eq_of_beq_eq_true h1;subst this
  exact⟨Nat.le_refl _,h2⟩
 | v::l,0,k,h=>⟨by simp,h⟩
 | v::l,i+1,k,h=>by
  obtain⟨h1,h2⟩:=ldk_ok (l:=l) (i:=i) (k:=k) h
  exact⟨by simpa using h1,h2⟩
noncomputable def ltk (l:List AV):Nat→(List AV→Bool)→Bool:=
 List.rec (motive:=fun _=>Nat→(List AV→Bool)→Bool) (fun i k=>kif (Nat.beq i (nat_lit 0)) (k [])) (fun v _ ih i k=>Bool.rec (ih (Nat.sub i (nat_lit 1)) (fun l=>k (v::l))) (k []) (Nat.beq i (nat_lit 0))) l
theorem ltk_ok:∀{l:List AV} {i:Nat} {k:List AV→Bool},ltk l i k=true→i≤l.length∧k (l.take i)=true
 | [],i,k,h=>by
  obtain⟨h1,h2⟩:=kif_ok (c:=Nat.beq i 0) h
  have:=Nat.eq_of_beq_eq_true h1;subst this
  exact⟨Nat.le_refl _,h2⟩
 | v::l,0,k,h=>⟨by simp,h⟩
 | v::l,i+1,k,h=>by
  obtain⟨h1,h2⟩:=ltk_ok (l:=l) (i:=i) (k:=fun l=>k (v::l)) h
  exact⟨by simpa using h1,h2⟩
noncomputable def lak (l m:List AV) (k:List AV→Bool):Bool:=
 List.rec (motive:=fun _=>(List AV→Bool)→Bool) (fun k=>k m) (fun v _ ih k=>ih (fun t=>k (v::t))) l k
theorem lak_eq:∀(l m:List AV) (k:List AV→Bool),lak l m k=k (l++m)
 | [],m,k=>rfl
 | v::l,m,k=>lak_eq l m (fun t=>k (v::t))
noncomputable def gck (h:H) (b i n:Nat) (k:List AV→Bool):Bool:=h.ck b fun _ _ cs=>ldk cs i fun l=>ltk l n k
theorem gck_ok {h:H} {b i n:Nat} {k:List AV→Bool} (hk:gck h b i n k=true):∃cs,q56 h b i n=some cs∧cs.length=n∧k cs=true:=by
 obtain⟨ver,rw,cs,h1,h2⟩:=H.ck_ok hk
 obtain⟨h3,h4⟩:=ldk_ok h2
 obtain⟨h5,h6⟩:=ltk_ok h4
 rw[List.length_drop]at h5
 refine⟨_,?_,?_,h6⟩
 ·unfold q56;rw[h1];simp only;rw[if_pos (by omega)]
 ·rw[List.length_take,List.length_drop];omega
noncomputable def onBool (v:AV) (k:Bool→Bool):Bool:=AV.casesOn (motive_1:=fun _=>Bool) v false (fun b=>k b) (fun _ _=>false) (fun _=>false) false (fun _ _=>false) false (fun _ _ _ _ _=>false) false (fun _=>false) (fun _ _ _=>false) false (fun _ _=>false) false (fun _=>false) (fun _=>false)
theorem onBool_ok {v:AV} {k:Bool→Bool} (h:onBool v k=true):∃b,v= .bool b∧k b=true:=by cases v<;>first | exact⟨_,rfl,h⟩ | cases h
noncomputable def onInt (v:AV) (k:IntKind→Int→Bool):Bool:=AV.casesOn (motive_1:=fun _=>Bool) v false (fun _=>false) (fun a b=>k a b) (fun _=>false) false (fun _ _=>false) false (fun _ _ _ _ _=>false) false (fun _=>false) (fun _ _ _=>false) false (fun _ _=>false) false (fun _=>false) (fun _=>false)
theorem onInt_ok {v:AV} {k:IntKind→Int→Bool} (h:onInt v k=true):∃a b,v= .int a b∧k a b=true:=by cases v<;>first | exact⟨_,_,rfl,h⟩ | cases h
noncomputable def onPtr (v:AV) (k:Nat→Nat→Bool):Bool:=AV.casesOn (motive_1:=fun _=>Bool) v false (fun _=>false) (fun _ _=>false) (fun _=>false) false (fun a b=>k a b) false (fun _ _ _ _ _=>false) false (fun _=>false) (fun _ _ _=>false) false (fun _ _=>false) false (fun _=>false) (fun _=>false)
theorem onPtr_ok {v:AV} {k:Nat→Nat→Bool} (h:onPtr v k=true):∃a b,v= .ptr a b∧k a b=true:=by cases v<;>first | exact⟨_,_,rfl,h⟩ | cases h
noncomputable def onAgg (v:AV) (k:List AV→Bool):Bool:=AV.casesOn (motive_1:=fun _=>Bool) v false (fun _=>false) (fun _ _=>false) (fun _=>false) false (fun _ _=>false) false (fun _ _ _ _ _=>false) false (fun _=>false) (fun _ _ _=>false) false (fun _ _=>false) false (fun cs=>k cs) (fun _=>false)
theorem onAgg_ok {v:AV} {k:List AV→Bool} (h:onAgg v k=true):∃a,v= .agg a∧k a=true:=by cases v<;>first | exact⟨_,rfl,h⟩ | cases h
noncomputable def onTuple (v:AV) (k:List AV→Bool):Bool:=AV.casesOn (motive_1:=fun _=>Bool) v false (fun _=>false) (fun _ _=>false) (fun _=>false) false (fun _ _=>false) false (fun _ _ _ _ _=>false) false (fun _=>false) (fun _ _ _=>false) false (fun _ _=>false) false (fun _=>false) (fun cs=>k cs)
theorem onTuple_ok {v:AV} {k:List AV→Bool} (h:onTuple v k=true):∃a,v= .tuple a∧k a=true:=by cases v<;>first | exact⟨_,rfl,h⟩ | cases h
noncomputable def onSlice (v:AV) (kn:Bool) (k:Bool→Nat→Nat→Nat→Nat→Bool):Bool:=AV.casesOn (motive_1:=fun _=>Bool) v false (fun _=>false) (fun _ _=>false) (fun _=>false) false (fun _ _=>false) kn (fun a b c d e=>k a b c d e) false (fun _=>false) (fun _ _ _=>false) false (fun _ _=>false) false (fun _=>false) (fun _=>false)
theorem onSlice_ok {v:AV} {kn:Bool} {k:Bool→Nat→Nat→Nat→Nat→Bool} (h:onSlice v kn k=true):(v= .nilslice∧kn=true)∨∃a b c d e,v= .slice a b c d e∧k a b c d e=true:=by cases v<;>first | exact .inl ⟨rfl,h⟩ | exact .inr ⟨_,_,_,_,_,rfl,h⟩ | cases h
noncomputable def onGuard (v:AV) (k:Bool→Bool) (no:Bool):Bool:=AV.casesOn (motive_1:=fun _=>Bool) v false (fun b=>k b) (fun _ _=>false) (fun _=>false) false (fun _ _=>false) false (fun _ _ _ _ _=>false) false (fun _=>false) (fun _ _ _=>false) false (fun _ _=>false) false (fun _=>false) (fun _=>no)
theorem onGuard_ok {v:AV} {k:Bool→Bool} {no:Bool} (h:onGuard v k no=true):(∃b,v= .bool b∧k b=true)∨(∃l,v= .tuple l∧no=true):=by cases v<;>first | exact .inl ⟨_,rfl,h⟩ | exact .inr ⟨_,rfl,h⟩ | cases h
noncomputable def isOne (v:AV) (k:Bool):Bool:=AV.casesOn (motive_1:=fun _=>Bool) v false (fun _=>k) (fun _ _=>k) (fun _=>k) k (fun _ _=>k) k (fun _ _ _ _ _=>k) k (fun _=>k) (fun _ _ _=>k) k (fun _ _=>k) k (fun _=>false) (fun _=>false)
theorem isOne_ok {v:AV} {k:Bool} (h:isOne v k=true):v.one=true∧v.cells=[v]∧k=true:=by cases v<;>first | exact⟨rfl,rfl,h⟩ | cases h
noncomputable def allOne (l:List AV) (k:Bool):Bool:=List.rec (motive:=fun _=>Bool) k (fun v _ ih=>isOne v ih) l
theorem allOne_ok:∀{l:List AV} {k:Bool},allOne l k=true→l.all AV.one=true∧k=true
 | [],k,h=>⟨rfl,h⟩
 | v::l,k,h=>by
  obtain⟨h1,_,h3⟩:=isOne_ok (v:=v) h
  obtain⟨h4,h5⟩:=allOne_ok (l:=l) h3
  exact⟨by simp[h1,h4],h5⟩
noncomputable def onFunc (v:AV) (k:Fn→List AV→List AV→Bool):Bool:=AV.casesOn (motive_1:=fun _=>Bool) v false (fun _=>false) (fun _ _=>false) (fun _=>false) false (fun _ _=>false) false (fun _ _ _ _ _=>false) false (fun _=>false) (fun a b c=>k a b c) false (fun _ _=>false) false (fun _=>false) (fun _=>false)
theorem onFunc_ok {v:AV} {k:Fn→List AV→List AV→Bool} (h:onFunc v k=true):∃a b c,v= .func a b c∧k a b c=true:=by cases v<;>first | exact⟨_,_,_,rfl,h⟩ | cases h
end Go.Am

