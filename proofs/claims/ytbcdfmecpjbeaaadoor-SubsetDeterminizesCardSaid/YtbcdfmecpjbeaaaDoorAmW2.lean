/- The calculus: the operations. -/
import Derived.Test.YtbcdfmecpjbeaaaDoorAmW
set_option linter.unusedVariables false
set_option linter.unusedSimpArgs false
namespace Go.Am
def PSome {α:Type} (o:Option α) (k:α→Prop):Prop:=∃x,o=some x∧k x
theorem PSome_some {α:Type} (x:α) (k:α→Prop):PSome (some x) k=k x:=by simp[PSome,and_assoc]
def PPtr (v:AV) (k:Nat→Nat→Prop):Prop:=∃b o,v= .ptr b o∧k b o
theorem PPtr_ptr (b o:Nat) (k:Nat→Nat→Prop):PPtr (.ptr b o) k=k b o:=by simp[PPtr,and_assoc]
def PInt (v:AV) (k:IntKind→Int→Prop):Prop:=∃b o,v= .int b o∧k b o
theorem PInt_int (b:IntKind) (o:Int) (k:IntKind→Int→Prop):PInt (.int b o) k=k b o:=by simp[PInt,and_assoc]
def PBool (v:AV) (k:Bool→Prop):Prop:=∃b,v= .bool b∧k b
theorem PBool_bool (b:Bool) (k:Bool→Prop):PBool (.bool b) k=k b:=by simp[PBool,and_assoc]
def PAgg (v:AV) (k:List AV→Prop):Prop:=∃b,v= .agg b∧k b
theorem PAgg_agg (b:List AV) (k:List AV→Prop):PAgg (.agg b) k=k b:=by simp[PAgg,and_assoc]
def PTuple (v:AV) (k:List AV→Prop):Prop:=∃b,v= .tuple b∧k b
theorem q51 (b:List AV) (k:List AV→Prop):PTuple (.tuple b) k=k b:=by simp[PTuple,and_assoc]
def PSlice (v:AV) (kn:Prop) (k:Bool→Nat→Nat→Nat→Nat→Prop):Prop:=(v= .nilslice∧kn)∨∃fl sz b o n,v= .slice fl sz b o n∧k fl sz b o n
theorem PSlice_nil (kn:Prop) (k:Bool→Nat→Nat→Nat→Nat→Prop):PSlice .nilslice kn k=kn:=by simp[PSlice]
theorem q34 (fl:Bool) (sz b o n:Nat) (kn:Prop) (k:Bool→Nat→Nat→Nat→Nat→Prop):PSlice (.slice fl sz b o n) kn k=k fl sz b o n:=by
 apply propext
 constructor
 ·rintro(⟨e,_⟩ | ⟨_,_,_,_,_,e,hk⟩)
  ·cases e
  ·cases e;exact hk
 ·intro hk;exact .inr ⟨_,_,_,_,_,rfl,hk⟩
def PLen (v:AV) (k:AV→Prop):Prop:=PSlice v (k (i64 0)) (fun _ _ _ _ n=>k (i64 n))
theorem PLen_nil (k:AV→Prop):PLen .nilslice k=k (i64 0):=PSlice_nil _ _
theorem PLen_slice (fl:Bool) (sz b o n:Nat) (k:AV→Prop):PLen (.slice fl sz b o n) k=k (i64 n):=q34 _ _ _ _ _ _ _
def PIdx (size:Nat) (v i:AV) (k:AV→Prop):Prop:=PSlice v False (fun _ sz b o n=>PInt i fun _ j=>(sz=size∧0≤j∧j<n)∧k (.ptr b (o+j.toNat*size)))
@[congr] theorem PSome_congr {α:Type} {o o':Option α} {k:α→Prop} (e:o=o'):PSome o k=PSome o' k:=by rw[e]
@[congr] theorem PPtr_congr {v v':AV} {k:Nat→Nat→Prop} (e:v=v'):PPtr v k=PPtr v' k:=by rw[e]
@[congr] theorem PInt_congr {v v':AV} {k:IntKind→Int→Prop} (e:v=v'):PInt v k=PInt v' k:=by rw[e]
@[congr] theorem PBool_congr {v v':AV} {k:Bool→Prop} (e:v=v'):PBool v k=PBool v' k:=by rw[e]
@[congr] theorem PAgg_congr {v v':AV} {k:List AV→Prop} (e:v=v'):PAgg v k=PAgg v' k:=by rw[e]
@[congr] theorem PTuple_congr {v v':AV} {k:List AV→Prop} (e:v=v'):PTuple v k=PTuple v' k:=by rw[e]
@[congr] theorem PLen_congr {v v':AV} {k:AV→Prop} (e:v=v'):PLen v k=PLen v' k:=by rw[e]
@[congr] theorem PIdx_congr {size:Nat} {v v' i i':AV} {k:AV→Prop} (e:v=v') (e2:i=i'):PIdx size v i k=PIdx size v' i' k:=by rw[e,e2]
def C (L:Rec) (g:FuncId) (args:List AV) (h:H) (K:AV→H→Prop):Prop:=∃v h',L.call g args h=some (v,h')∧K v h'
def PCall (L:Rec) (f:AV) (args:List AV) (h:H) (K:AV→H→Prop):Prop:=∃v h',acallV L f args h=some (v,h')∧K v h'
theorem q63 (L:Rec) (g:FuncId) (first cap args:List AV) (h:H) (K:AV→H→Prop):PCall L (.func (.func g) first cap) args h K=C L g (first++args++cap) h K:=rfl
section
variable (L:Rec) (a:List AV) (h:H) (K:AV→H→List Nat→Prop)
theorem WS_of {o:AO} (P:Prop) (hc:∀f args,o≠ .call f args) (hP:P↔∃v h' rd,aop a h o=some (v,h',rd)∧K v h' rd):WS L o a h K=P:=by
 apply propext
 rw[hP]
 have:astep L o a h=aop a h o:=by
  cases o with
  | call f args=>exact absurd rfl (hc f args)
  | _=>rfl
 unfold WS
 rw[this]
def KCall (K:AV→H→List Nat→Prop) (v:AV) (h:H):Prop:=K v h []
theorem KCall_eq (K:AV→H→List Nat→Prop) (v:AV) (h:H):KCall K v h=K v h []:=rfl
theorem WS_call (f:AR) (args:List AR):WS L (.call f args) a h K=PCall L (ev a f) (args.map (ev a)) h (KCall K):=by
 apply propext
 unfold WS PCall
 simp only[astep]
 constructor
 ·rintro⟨v,h',rd,he,hk⟩
  split at he
  ·rename_i v1 h1 hc
   cases he
   exact⟨_,_,hc,hk⟩
  ·cases he
 ·rintro⟨v,h',he,hk⟩
  exact⟨v,h',[],by rw[he],hk⟩
theorem WS_move (x:AR):WS L (.move x) a h K=K (ev a x) h []:=by
 refine WS_of L a h K _ (fun _ _ e=>by cases e) ?_
 simp[aop,and_assoc]
def pickV (b:Bool) (x y:AV):AV:=if b=true then x else y
theorem pickV_true (x y:AV):pickV true x y=x:=rfl
theorem q60 (x y:AV):pickV false x y=y:=rfl
theorem pickV_dec (p:Prop) [Decidable p] (x y:AV):pickV (decide p) x y=if p then x else y:=by by_cases hp:p<;>simp[pickV,hp]
theorem WS_pick (c x y:AR):WS L (.pick c x y) a h K=PBool (ev a c) fun b=>K (pickV b (ev a x) (ev a y)) h []:=by
 refine WS_of L a h K _ (fun _ _ e=>by cases e) ?_
 simp only[aop,PBool]
 constructor
 ·rintro⟨b,hb,hk⟩
  rw[hb]
  cases b with
  | true=>exact⟨_,_,_,rfl,hk⟩
  | false=>exact⟨_,_,_,rfl,hk⟩
 ·rintro⟨v,h',rd,he,hk⟩
  split at he
  ·rename_i hb;cases he;exact⟨true,hb,hk⟩
  ·rename_i hb;cases he;exact⟨false,hb,hk⟩
  ·cases he
theorem WS_alloc (cs:List AV):WS L (.alloc cs) a h K=K (.ptr h.next 0) (h.alloc (.cells 0 true cs)) []:=by
 refine WS_of L a h K _ (fun _ _ e=>by cases e) ?_
 simp[aop,and_assoc]
theorem WS_box (x:AR):WS L (.box x) a h K=((ev a x).cells.all AV.one=true∧K (.ptr h.next 0) (h.alloc (.cells 0 true (ev a x).cells)) []):=by
 refine WS_of L a h K _ (fun _ _ e=>by cases e) ?_
 simp only[aop]
 constructor
 ·rintro⟨h1,h2⟩;exact⟨_,_,_,by rw[if_pos h1],h2⟩
 ·rintro⟨v,h',rd,he,hk⟩
  split at he
  ·rename_i h1;cases he;exact⟨h1,hk⟩
  ·cases he
theorem WS_build (z:List AV) (ps:List (Nat×Nat×AR)):WS L (.build z ps) a h K=PSome (fillA a z ps) fun cs=>K (.agg cs) h []:=by
 refine WS_of L a h K _ (fun _ _ e=>by cases e) ?_
 simp only[aop,PSome]
 constructor
 ·rintro⟨cs,h1,h2⟩;rw[h1];exact⟨_,_,_,rfl,h2⟩
 ·rintro⟨v,h',rd,he,hk⟩
  split at he
  ·rename_i cs hcs;cases he;exact⟨cs,hcs,hk⟩
  ·cases he
theorem q36 (size len:Nat) (z:List AV) (ps:List (Nat×Nat×AR)):WS L (.buildSlice size len z ps) a h K=PSome (fillA a (repl len z) ps) fun cs=>K (.slice true size h.next 0 len) (h.alloc (.cells 0 true cs)) []:=by
 refine WS_of L a h K _ (fun _ _ e=>by cases e) ?_
 simp only[aop,PSome]
 constructor
 ·rintro⟨cs,h1,h2⟩;rw[h1];exact⟨_,_,_,rfl,h2⟩
 ·rintro⟨v,h',rd,he,hk⟩
  split at he
  ·rename_i cs hcs;cases he;exact⟨cs,hcs,hk⟩
  ·cases he
theorem WS_load (x:AR):WS L (.load x) a h K=PPtr (ev a x) fun b o=>PSome (getCell h b o) fun v=>K v h [b]:=by
 refine WS_of L a h K _ (fun _ _ e=>by cases e) ?_
 simp only[aop,PSome,PPtr]
 constructor
 ·rintro⟨b,o,h1,v,h2,h3⟩;rw[h1];simp only[h2];exact⟨_,_,_,rfl,h3⟩
 ·rintro⟨v,h',rd,he,hk⟩
  split at he
  ·rename_i b o hb
   split at he
   ·rename_i w hw;cases he;exact⟨b,o,hb,_,hw,hk⟩
   ·cases he
  ·cases he
theorem WS_loadAgg (n:Nat) (x:AR):WS L (.loadAgg n x) a h K=PPtr (ev a x) fun b o=>PSome (q41 h b o n) fun cs=>K (.agg cs) h [b]:=by
 refine WS_of L a h K _ (fun _ _ e=>by cases e) ?_
 simp only[aop,PSome,PPtr]
 constructor
 ·rintro⟨b,o,h1,v,h2,h3⟩;rw[h1];simp only[h2];exact⟨_,_,_,rfl,h3⟩
 ·rintro⟨v,h',rd,he,hk⟩
  split at he
  ·rename_i b o hb
   split at he
   ·rename_i w hw;cases he;exact⟨b,o,hb,_,hw,hk⟩
   ·cases he
  ·cases he
theorem WS_store (n:Nat) (p x:AR):WS L (.store n p x) a h K=PPtr (ev a p) fun b o=>(ev a x).cells.length=n∧PSome (putCells h b o (ev a x).cells) fun h'=>K (.tuple []) h' []:=by
 refine WS_of L a h K _ (fun _ _ e=>by cases e) ?_
 simp only[aop,PSome,PPtr]
 constructor
 ·rintro⟨b,o,h1,h0,v,h2,h3⟩;rw[h1];simp only;rw[if_pos h0,h2];exact⟨_,_,_,rfl,h3⟩
 ·rintro⟨v,h',rd,he,hk⟩
  split at he
  ·rename_i b o hb
   split at he
   ·rename_i hl
    split at he
    ·rename_i w hw;cases he;exact⟨b,o,hb,hl,_,hw,hk⟩
    ·cases he
   ·cases he
  ·cases he
def nilOk:AV→Bool
 | .ptr .. =>true
 | .func (.method _) _ _=>false
 | .func .. =>true
 | .iface .. =>true
 | _=>false
theorem q61 (x:AR):WS L (.nilCheck x) a h K=(nilOk (ev a x)=true∧K (ev a x) h []):=by
 refine WS_of L a h K _ (fun _ _ e=>by cases e) ?_
 simp only[aop]
 generalize ev a x=v
 cases v with
 | func f c d=>cases f<;>simp[nilOk,and_assoc]
 | _=>simp[nilOk,and_assoc]
theorem WS_bin (op:BinOp) (x y:AR):WS L (.bin op x y) a h K=PSome (abin op (ev a x) (ev a y)) fun v=>K v h []:=by
 refine WS_of L a h K _ (fun _ _ e=>by cases e) ?_
 simp only[aop,PSome]
 cases abin op (ev a x) (ev a y)<;>simp[and_assoc]
theorem WS_eqB (neg:Bool) (x y:AR):WS L (.eqB neg x y) a h K=PBool (ev a x) fun p=>PBool (ev a y) fun q=>K (.bool (if neg=true then !(p==q) else p==q)) h []:=by
 refine WS_of L a h K _ (fun _ _ e=>by cases e) ?_
 simp only[aop,PBool]
 constructor
 ·rintro⟨p,hp,q,hq,hk⟩;rw[hp,hq];exact⟨_,_,_,rfl,hk⟩
 ·rintro⟨v,h',rd,he,hk⟩
  split at he
  ·rename_i p q hp hq;cases he;exact⟨p,hp,q,hq,hk⟩
  ·cases he
theorem WS_isNil (kd:Nat) (neg:Bool) (x y:AR):WS L (.isNil kd neg x y) a h K=PSome (aNil kd (ev a x) (ev a y)) fun b=>K (.bool (if neg=true then !b else b)) h []:=by
 refine WS_of L a h K _ (fun _ _ e=>by cases e) ?_
 simp only[aop,PSome]
 cases aNil kd (ev a x) (ev a y)<;>simp[and_assoc]
theorem WS_eqCells (neg:Bool) (T:List (Option IntKind)) (x y:AR):WS L (.eqCells neg T x y) a h K=PAgg (ev a x) fun p=>PAgg (ev a y) fun q=>PSome (aEqCells T p q) fun b=>K (.bool (if neg=true then !b else b)) h []:=by
 refine WS_of L a h K _ (fun _ _ e=>by cases e) ?_
 simp only[aop,PAgg,PSome]
 constructor
 ·rintro⟨p,hp,q,hq,b,hb,hk⟩;rw[hp,hq];simp only[hb];exact⟨_,_,_,rfl,hk⟩
 ·rintro⟨v,h',rd,he,hk⟩
  split at he
  ·rename_i p q hp hq
   split at he
   ·rename_i b hb;cases he;exact⟨p,hp,q,hq,b,hb,hk⟩
   ·cases he
  ·cases he
theorem WS_un (op:UnOp) (x:AR):WS L (.un op x) a h K=PSome (aun op (ev a x)) fun v=>K v h []:=by
 refine WS_of L a h K _ (fun _ _ e=>by cases e) ?_
 simp only[aop,PSome]
 cases aun op (ev a x)<;>simp[and_assoc]
theorem WS_convInt (k:IntKind) (x:AR):WS L (.convInt k x) a h K=PInt (ev a x) fun _ n=>K (.int k (k.wrap n)) h []:=by
 refine WS_of L a h K _ (fun _ _ e=>by cases e) ?_
 simp only[aop,PInt]
 generalize ev a x=v
 cases v<;>simp[and_assoc]
theorem WS_mkFunc (fn:Fn) (f c:List AR):WS L (.mkFunc fn f c) a h K=K (.func fn (f.map (ev a)) (c.map (ev a))) h []:=by
 refine WS_of L a h K _ (fun _ _ e=>by cases e) ?_
 simp[aop,and_assoc]
theorem WS_makeMap:WS L .makeMap a h K=K (.map h.next) (h.alloc (.map 0 [])) []:=by
 refine WS_of L a h K _ (fun _ _ e=>by cases e) ?_
 simp[aop,and_assoc]
theorem q48 (bytes:Nat) (z:List AV) (n c:AR):WS L (.makeSlice bytes z n c) a h K=PInt (ev a n) fun kv l=>PInt (ev a c) fun kw m=>(kv= .i64∧kw= .i64)∧(0≤l∧l≤m∧m*bytes≤140737488355328∧m≤maxLenA)∧K (.slice (l==m) z.length h.next 0 l.toNat) (h.alloc (.cells 0 true (repl l.toNat z))) []:=by
 refine WS_of L a h K _ (fun _ _ e=>by cases e) ?_
 simp only[aop,PInt]
 constructor
 ·rintro⟨kv,l,h1,kw,m,h2,⟨rfl,rfl⟩,h3,hk⟩;rw[h1,h2];simp only;rw[if_pos h3];exact⟨_,_,_,rfl,hk⟩
 ·rintro⟨v,h',rd,he,hk⟩
  split at he
  ·rename_i l m h1 h2
   split at he
   ·rename_i h3;cases he;exact⟨_,l,h1,_,m,h2,⟨rfl,rfl⟩,h3,hk⟩
   ·cases he
  ·cases he
theorem WS_slice (size:Nat) (x:AR) (lo hi mx:Option AR):WS L (.slice size x lo hi mx) a h K=PSome (bnd a lo) fun l=>PSome (bnd a hi) fun r=>PSome (bnd a mx) fun m=>PSome (sliceOf size (ev a x) l r m) fun v=>K v h []:=by
 refine WS_of L a h K _ (fun _ _ e=>by cases e) ?_
 simp only[aop,PSome]
 constructor
 ·rintro⟨l,h1,r,h2,m,h3,v,h4,hk⟩;rw[h1,h2,h3];simp only[h4];exact⟨_,_,_,rfl,hk⟩
 ·rintro⟨v,h',rd,he,hk⟩
  split at he
  ·rename_i l r m h1 h2 h3
   split at he
   ·rename_i w hw;cases he;exact⟨l,h1,r,h2,m,h3,_,hw,hk⟩
   ·cases he
  ·cases he
theorem q50 (off:Nat) (x:AR):WS L (.fieldAddr off x) a h K=PPtr (ev a x) fun b o=>K (.ptr b (o+off)) h []:=by
 refine WS_of L a h K _ (fun _ _ e=>by cases e) ?_
 simp only[aop,PPtr]
 generalize ev a x=v
 cases v<;>simp[and_assoc]
theorem WS_field (off:Nat) (x:AR):WS L (.field off none x) a h K=PAgg (ev a x) fun cs=>PSome cs[off]? fun v=>K v h []:=by
 refine WS_of L a h K _ (fun _ _ e=>by cases e) ?_
 simp only[aop,PAgg,PSome]
 constructor
 ·rintro⟨cs,h1,v,h2,hk⟩;rw[h1];simp only[h2];exact⟨_,_,_,rfl,hk⟩
 ·rintro⟨v,h',rd,he,hk⟩
  split at he
  ·rename_i cs hcs
   split at he
   ·rename_i w hw;cases he;exact⟨cs,hcs,_,hw,hk⟩
   ·cases he
  ·cases he
theorem WS_fieldN (off n:Nat) (x:AR):WS L (.field off (some n) x) a h K=PAgg (ev a x) fun cs=>off+n≤cs.length∧K (.agg ((cs.drop off).take n)) h []:=by
 refine WS_of L a h K _ (fun _ _ e=>by cases e) ?_
 simp only[aop,PAgg]
 constructor
 ·rintro⟨cs,h1,h2,hk⟩;rw[h1];simp only;rw[if_pos h2];exact⟨_,_,_,rfl,hk⟩
 ·rintro⟨v,h',rd,he,hk⟩
  split at he
  ·rename_i cs hcs
   split at he
   ·rename_i hw;cases he;exact⟨cs,hcs,hw,hk⟩
   ·cases he
  ·cases he
theorem q49 (size:Nat) (x i:AR):WS L (.indexAddr size x i) a h K=PIdx size (ev a x) (ev a i) fun p=>K p h []:=by
 refine WS_of L a h K _ (fun _ _ e=>by cases e) ?_
 simp only[aop,PIdx,PSlice,PInt]
 constructor
 ·rintro(⟨_,hf⟩ | ⟨fl,sz,b,o,n,h1,kd,k,h2,h3,hk⟩)
  ·exact hf.elim
  ·rw[h1,h2];simp only;rw[if_pos h3];exact⟨_,_,_,rfl,hk⟩
 ·rintro⟨v,h',rd,he,hk⟩
  split at he
  ·rename_i fl sz b o n kd k h1 h2
   split at he
   ·rename_i h3;cases he;exact .inr ⟨fl,sz,b,o,n,h1,kd,k,h2,h3,hk⟩
   ·cases he
  ·cases he
theorem q35 (len size:Nat) (x i:AR):WS L (.indexAddrA len size x i) a h K=PPtr (ev a x) fun b o=>PInt (ev a i) fun _ k=>(0≤k∧k<len)∧K (.ptr b (o+k.toNat*size)) h []:=by
 refine WS_of L a h K _ (fun _ _ e=>by cases e) ?_
 simp only[aop,PPtr,PInt]
 constructor
 ·rintro⟨b,o,h1,kd,k,h2,h3,hk⟩;rw[h1,h2];simp only;rw[if_pos h3];exact⟨_,_,_,rfl,hk⟩
 ·rintro⟨v,h',rd,he,hk⟩
  split at he
  ·rename_i b o kd k h1 h2
   split at he
   ·rename_i h3;cases he;exact⟨b,o,h1,kd,k,h2,h3,hk⟩
   ·cases he
  ·cases he
theorem WS_index (len size:Nat) (x i:AR):WS L (.index len size false x i) a h K=PAgg (ev a x) fun cs=>PInt (ev a i) fun _ k=>(0≤k∧k<len)∧PSome cs[k.toNat*size]? fun v=>K v h []:=by
 refine WS_of L a h K _ (fun _ _ e=>by cases e) ?_
 simp only[aop,PAgg,PInt,PSome,Bool.false_eq_true,if_false]
 constructor
 ·rintro⟨cs,h1,kd,k,h2,h3,v,h4,hk⟩;rw[h1,h2];simp only;rw[if_pos h3,h4];exact⟨_,_,_,rfl,hk⟩
 ·rintro⟨v,h',rd,he,hk⟩
  split at he
  ·rename_i cs kd k h1 h2
   split at he
   ·rename_i h3
    split at he
    ·rename_i w hw;cases he;exact⟨cs,h1,kd,k,h2,h3,_,hw,hk⟩
    ·cases he
   ·cases he
  ·cases he
theorem WS_extract (x:AR) (i:Nat):WS L (.extract x i) a h K=PTuple (ev a x) fun vs=>PSome vs[i]? fun v=>K v h []:=by
 refine WS_of L a h K _ (fun _ _ e=>by cases e) ?_
 simp only[aop,PTuple,PSome]
 constructor
 ·rintro⟨cs,h1,v,h2,hk⟩;rw[h1];simp only[h2];exact⟨_,_,_,rfl,hk⟩
 ·rintro⟨v,h',rd,he,hk⟩
  split at he
  ·rename_i cs hcs
   split at he
   ·rename_i w hw;cases he;exact⟨cs,hcs,_,hw,hk⟩
   ·cases he
  ·cases he
theorem WS_len (x:AR):WS L (.len x) a h K=PLen (ev a x) fun v=>K v h []:=by
 refine WS_of L a h K _ (fun _ _ e=>by cases e) ?_
 simp only[aop]
 generalize ev a x=v
 cases v with
 | nilslice=>rw[PLen_nil];simp[and_assoc]
 | slice fl sz b o n=>rw[PLen_slice];simp[and_assoc]
 | _=>simp[PLen,PSlice]
theorem WS_gen (o:AO) (hc:∀f args,o≠ .call f args):WS L o a h K=PSome (aop a h o) fun r=>K r.1 r.2.1 r.2.2:=by
 refine WS_of L a h K _ hc ?_
 simp only[PSome]
 constructor
 ·rintro⟨⟨v,h',rd⟩,h1,h2⟩;exact⟨v,h',rd,h1,h2⟩
 ·rintro⟨v,h',rd,h1,h2⟩;exact⟨⟨v,h',rd⟩,h1,h2⟩
def appV (size bytes:Nat) (s x:AV) (h:H):Option (AV×H×List Nat):=aop [] h (.append size bytes (.const s) (.const x))
theorem WS_append (size bytes:Nat) (s x:AR):WS L (.append size bytes s x) a h K=PSome (appV size bytes (ev a s) (ev a x) h) fun r=>K r.1 r.2.1 r.2.2:=WS_gen L a h K _ (fun _ _ e=>by cases e)
def maxV (x:AV) (xs:List AV):Option AV:=foldO amax2 x xs
theorem WS_max (x:AR) (xs:List AR):WS L (.max x xs) a h K=PSome (maxV (ev a x) (xs.map (ev a))) fun v=>K v h []:=by
 rw[WS_gen L a h K _ (fun _ _ e=>by cases e)]
 apply propext
 simp only[PSome,aop,maxV]
 cases foldO amax2 (ev a x) (xs.map (ev a))<;>simp
theorem maxV_two (k:IntKind) (x y:Int):maxV (.int k x) [.int k y]=some (.int k (max x y)):=by
 simp only[maxV,foldO,amax2]
 by_cases h:y>x
 ·rw[if_pos h];congr 2;omega
 ·rw[if_neg h];congr 2;omega
end
theorem abin_add (k:IntKind) (x y:Int):abin .add (.int k x) (.int k y)=some (.int k (k.wrap (x+y))):=by simp[abin,isShift,binInt]
theorem abin_sub (k:IntKind) (x y:Int):abin .sub (.int k x) (.int k y)=some (.int k (k.wrap (x-y))):=by simp[abin,isShift,binInt]
theorem abin_mul (k:IntKind) (x y:Int):abin .mul (.int k x) (.int k y)=some (.int k (k.wrap (x*y))):=by simp[abin,isShift,binInt]
theorem abin_eql (k:IntKind) (x y:Int):abin .eql (.int k x) (.int k y)=some (.bool (decide (x=y))):=by simp[abin,isShift,binInt];rfl
theorem abin_neq (k:IntKind) (x y:Int):abin .neq (.int k x) (.int k y)=some (.bool (decide (x≠y))):=by
 simp only[abin,isShift,binInt,Bool.false_eq_true,if_false,if_true,ite_true]
 by_cases e:x=y<;>simp[e]
theorem abin_lss (k:IntKind) (x y:Int):abin .lss (.int k x) (.int k y)=some (.bool (decide (x<y))):=by simp[abin,isShift,binInt]
theorem abin_leq (k:IntKind) (x y:Int):abin .leq (.int k x) (.int k y)=some (.bool (decide (x≤y))):=by simp[abin,isShift,binInt]
theorem abin_gtr (k:IntKind) (x y:Int):abin .gtr (.int k x) (.int k y)=some (.bool (decide (y<x))):=by simp[abin,isShift,binInt]
theorem abin_geq (k:IntKind) (x y:Int):abin .geq (.int k x) (.int k y)=some (.bool (decide (y≤x))):=by simp[abin,isShift,binInt]
theorem aun_not (b:Bool):aun .not (.bool b)=some (.bool (!b)):=rfl
theorem wrap64 {x:Int} (h1: -9223372036854775808≤x) (h2:x≤9223372036854775807):IntKind.i64.wrap x=x:=by
 simp only[IntKind.wrap,IntKind.bits,IntKind.signed];simp;omega
theorem wrap8 {x:Int} (h1:0≤x) (h2:x≤255):IntKind.u8.wrap x=x:=by
 simp only[IntKind.wrap,IntKind.bits,IntKind.signed];simp;omega
def KRes (res:List ARes) (Q:AV→H→Prop) (a:List AV) (h:H):Prop:=PSome (q42 a h res) fun vs=>Q (packRes vs) h
theorem KRes_eq (res:List ARes) (Q:AV→H→Prop) (a:List AV) (h:H):KRes res Q a h=PSome (q42 a h res) fun vs=>Q (packRes vs) h:=rfl
def KFalse (i:Nat) (a:List AV) (h:H):Prop:=False
theorem C_fn {tab:FuncId→Option AF} {g:FuncId} {F:AFn} (hg:tab g=some (.fn F)) (args:List AV) (h:H) (Q:AV→H→Prop):
  C (lim tab) g args h Q=W (lim tab) F.body (padTo args F.ntmps) h (KRes F.results Q) (KRes F.results Q) KFalse:=by
 apply propext
 unfold C W KRes
 rw[lim_call]
 simp only[acallF,hg]
 constructor
 ·rintro⟨v,h',he,hk⟩
  split at he
  ·rename_i a1 h1 hc
   split at he
   ·rename_i vs hvs
    cases he
    exact⟨.normal,a1,_,hc,vs,hvs,hk⟩
   ·cases he
  ·rename_i a1 h1 hc
   split at he
   ·rename_i vs hvs
    cases he
    exact⟨.ret,a1,_,hc,vs,hvs,hk⟩
   ·cases he
  ·cases he
 ·rintro⟨e,a1,h1,hc,hk⟩
  cases e with
  | normal=>
   obtain⟨vs,hvs,hk⟩:=hk
   exact⟨packRes vs,h1,by simp only[hc,hvs],hk⟩
  | ret=>
   obtain⟨vs,hvs,hk⟩:=hk
   exact⟨packRes vs,h1,by simp only[hc,hvs],hk⟩
  | exit i=>exact hk.elim
attribute [irreducible] C PCall KRes KCall
end Go.Am

