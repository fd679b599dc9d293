/- The third evaluator: its operations. -/
import Derived.Test.YtbcdfmecpjbeaaaDoorAmK
set_option linter.unusedVariables false
set_option linter.unusedSimpArgs false
namespace Go.Am
abbrev KO:=AV→H→List Nat→Bool
def kidx:IntKind→Nat
  | .i8=>nat_lit 0 | .i16=>nat_lit 1 | .i32=>nat_lit 2 | .i64=>nat_lit 3 | .u8=>nat_lit 4 | .u16=>nat_lit 5 | .u32=>nat_lit 6 | .u64=>nat_lit 7
theorem kidx_inj {a b:IntKind} (h:Nat.beq (kidx a) (kidx b)=true):a=b:=by cases a<;>cases b<;>first | rfl | cases h
def kmx:IntKind→Nat
  | .i8=>nat_lit 127 | .i16=>nat_lit 32767 | .i32=>nat_lit 2147483647 | .i64=>nat_lit 9223372036854775807 | .u8=>nat_lit 255 | .u16=>nat_lit 65535 | .u32=>nat_lit 4294967295 | .u64=>nat_lit 18446744073709551615
theorem wrap_small {k:IntKind} {m:Nat} (h:m≤kmx k):k.wrap (Int.ofNat m)=Int.ofNat m:=by
  have e:Int.ofNat m=(m:Int):=rfl
  rw[e]
  cases k<;>(simp only[kmx]at h;simp only[IntKind.wrap,IntKind.bits,IntKind.signed];simp;omega)
noncomputable def kwrap (kd:IntKind) (n:Int) (k:Int→Bool):Bool:=Int.casesOn n (fun m=>Bool.rec (fI (kd.wrap (.ofNat m)) k) (fN m fun m=>k (.ofNat m)) (Nat.ble m (kmx kd))) (fun m=>fI (kd.wrap (.negSucc m)) k)
theorem kwrap_eq (kd:IntKind) (n:Int) (k:Int→Bool):kwrap kd n k=k (kd.wrap n):=by
  cases n with
  | ofNat m=>
    show @Bool.rec (fun _=>Bool) (fI (kd.wrap (.ofNat m)) k) (fN m fun m=>k (.ofNat m)) (Nat.ble m (kmx kd))=_
    cases h:Nat.ble m (kmx kd) with
    | true=>rw[wrap_small (Nat.le_of_ble_eq_true h)];exact fN_eq _ _
    | false=>exact fI_eq _ _
  | negSucc m=>exact fI_eq _ _
noncomputable def kilt (x y:Int):Bool:=Int.casesOn x (fun a=>Int.casesOn y (fun b=>Nat.ble (Nat.succ a) b) (fun _=>false)) (fun a=>Int.casesOn y (fun _=>true) (fun b=>Nat.ble (Nat.succ b) a))
theorem kilt_eq (x y:Int):kilt x y=decide (x<y):=by
  cases x with
  | ofNat a=>cases y with
    | ofNat b=>
      show Nat.ble (a+1) b=_
      by_cases h:a<b
      · rw[Nat.ble_eq_true_of_le h];simp;omega
      · have:Nat.ble (a+1) b=false:=by cases hb:Nat.ble (a+1) b with
          | true=>exact absurd (Nat.le_of_ble_eq_true hb) (by omega)
          | false=>rfl
        rw[this];simp;omega
    | negSucc b=>show false=_;simp;omega
  | negSucc a=>cases y with
    | ofNat b=>show true=_;simp;omega
    | negSucc b=>
      show Nat.ble (b+1) a=_
      by_cases h:b<a
      · rw[Nat.ble_eq_true_of_le h];simp;omega
      · have:Nat.ble (b+1) a=false:=by cases hb:Nat.ble (b+1) a with
          | true=>exact absurd (Nat.le_of_ble_eq_true hb) (by omega)
          | false=>rfl
        rw[this];simp;omega
noncomputable def kieq (x y:Int):Bool:=Int.casesOn x (fun a=>Int.casesOn y (fun b=>Nat.beq a b) (fun _=>false)) (fun a=>Int.casesOn y (fun _=>false) (fun b=>Nat.beq a b))
theorem kieq_eq (x y:Int):kieq x y=(x==y):=by
  cases x with
  | ofNat a=>cases y with
    | ofNat b=>
      show Nat.beq a b=_
      cases h:Nat.beq a b with
      | true=>have:=Nat.eq_of_beq_eq_true h;subst this;simp
      | false=>have:=q53 h;symm;simp;omega
    | negSucc b=>symm;show _=false;simp<;>omega
  | negSucc a=>cases y with
    | ofNat b=>symm;show _=false;simp<;>omega
    | negSucc b=>
      show Nat.beq a b=_
      cases h:Nat.beq a b with
      | true=>have:=Nat.eq_of_beq_eq_true h;subst this;simp
      | false=>have:=q53 h;symm;simp;omega
noncomputable def iadd (x y:Int):Int:=Int.casesOn x (fun a=>Int.casesOn y (fun b=> .ofNat (Nat.add a b)) (fun b=> .ofNat a+ .negSucc b)) (fun a=> .negSucc a+y)
theorem iadd_eq (x y:Int):iadd x y=x+y:=by cases x<;>cases y<;>rfl
noncomputable def isub (x y:Int):Int:=Int.casesOn x (fun a=>Int.casesOn y (fun b=>Bool.rec (.ofNat a- .ofNat b) (.ofNat (Nat.sub a b)) (Nat.ble b a)) (fun b=> .ofNat a- .negSucc b)) (fun a=> .negSucc a-y)
theorem isub_eq (x y:Int):isub x y=x-y:=by
  cases x with
  | ofNat a=>cases y with
    | ofNat b=>
      show @Bool.rec (fun _=>Int) (Int.ofNat a- .ofNat b) (.ofNat (Nat.sub a b)) (Nat.ble b a)=_
      cases h:Nat.ble b a with
      | true=>
        have:=Nat.le_of_ble_eq_true h
        show Int.ofNat (a-b)=Int.ofNat a-Int.ofNat b
        simp;omega
      | false=>rfl
    | negSucc b=>rfl
  | negSucc a=>rfl
noncomputable def imod (x y:Int):Int:=Int.casesOn x (fun a=>Int.casesOn y (fun b=> .ofNat (Nat.mod a b)) (fun b=>(Int.ofNat a).tmod (.negSucc b))) (fun a=>(Int.negSucc a).tmod y)
theorem imod_eq (x y:Int):imod x y=x.tmod y:=by cases x<;>cases y<;>rfl
noncomputable def iquo (x y:Int):Int:=Int.casesOn x (fun a=>Int.casesOn y (fun b=> .ofNat (Nat.div a b)) (fun b=>(Int.ofNat a).tdiv (.negSucc b))) (fun a=>(Int.negSucc a).tdiv y)
theorem iquo_eq (x y:Int):iquo x y=x.tdiv y:=by cases x<;>cases y<;>rfl
noncomputable def imul (x y:Int):Int:=Int.casesOn x (fun a=>Int.casesOn y (fun b=> .ofNat (Nat.mul a b)) (fun b=>(Int.ofNat a)*(.negSucc b))) (fun a=>(Int.negSucc a)*y)
theorem imul_eq (x y:Int):imul x y=x*y:=by cases x<;>cases y<;>rfl
noncomputable def kev (x:AR) (t:TT) (k:AV→Bool):Bool:=AR.casesOn x (fun i=>t.gk i k) (fun v=>k v)
section
variable {n:Nat} {t:TT} {a:List AV}
theorem q59 (hr:Rl n t a) (x:AR) (k:AV→Bool):kev x t k=k (ev a x):=by
  cases x with
  | tmp i=>show t.gk i k=_;rw[TT.gk_eq,hr.get];rfl
  | const v=>rfl
end
noncomputable def kevL (l:List AR) (t:TT):(List AV→Bool)→Bool:=List.rec (motive:=fun _=>(List AV→Bool)→Bool) (fun k=>k []) (fun x _ ih k=>kev x t fun v=>ih fun vs=>k (v::vs)) l
theorem kevL_eq {n:Nat} {t:TT} {a:List AV} (hr:Rl n t a):∀(l:List AR) (k:List AV→Bool),kevL l t k=k (l.map (ev a))
  | [],k=>rfl
  | x::l,k=>by
    show kev x t (fun v=>kevL l t fun vs=>k (v::vs))=_
    rw[q59 hr,kevL_eq hr l];rfl
def fO {β:Type} (v:Option β) (k:β→Bool):Bool:=match v with
  | some v=>k v
  | none=>false
theorem fO_ok {β:Type} {v:Option β} {k:β→Bool} (h:fO v k=true):∃r,v=some r∧k r=true:=by
  cases v with
  | none=>cases h
  | some x=>exact⟨x,rfl,h⟩
def fVb (v:AV) (k:AV→Bool):Bool:=fO (fV v fun v=>some v) k
theorem fVb_eq (v:AV) (k:AV→Bool):fVb v k=k v:=by unfold fVb;rw[fV_eq];rfl
def fHb (h:H) (i:Nat) (k:H→Bool):Bool:=fO (fH h i fun h=>some h) k
theorem fHb_eq (h:H) (i:Nat) (k:H→Bool):fHb h i k=k h:=by unfold fHb;rw[fH_eq];rfl
def AO.where_ (t:TT) (h:H):AO→Nat
  | .store _ p _=>match ev [] (p.sub t) with
    | .ptr b _=>b
    | _=>h.next
  | .mapUpdate _ m _ _=>match ev [] (m.sub t) with
    | .map r=>r
    | _=>h.next
  | _=>h.next
def kGen (o:AO) (t:TT) (h:H) (k:KO):Bool:=fO (aop [] h (o.sub t)) fun r=>fVb r.1 fun v=>fHb r.2.1 (o.where_ t h) fun h'=>k v h' r.2.2
noncomputable def kMove (x:AR) (t:TT) (h:H) (k:KO):Bool:=kev x t fun v=>k v h []
noncomputable def kPick (c x y:AR) (t:TT) (h:H) (k:KO):Bool:=kev c t fun c=>onBool c fun b=>Bool.rec (kev y t fun v=>k v h []) (kev x t fun v=>k v h []) b
noncomputable def kAlloc (cs:List AV) (t:TT) (h:H) (k:KO):Bool:=h.ak (.cells Nat.zero true cs) fun h'=>H.casesOn h fun n _=>k (.ptr n Nat.zero) h' []
noncomputable def aggOr (v:AV) (ka:List AV→Bool) (ko:Bool):Bool:=AV.casesOn (motive_1:=fun _=>Bool) v ko (fun _=>ko) (fun _ _=>ko) (fun _=>ko) ko (fun _ _=>ko) ko (fun _ _ _ _ _=>ko) ko (fun _=>ko) (fun _ _ _=>ko) ko (fun _ _=>ko) ko (fun cs=>ka cs) (fun _=>ko)
noncomputable def kBox (x:AR) (t:TT) (h:H) (k:KO):Bool:=kev x t fun v=>H.casesOn h fun n _=>aggOr v (fun cs=>allOne cs (h.ak (.cells Nat.zero true cs) fun h'=>k (.ptr n Nat.zero) h' [])) (isOne v (h.ak (.cells Nat.zero true [v]) fun h'=>k (.ptr n Nat.zero) h' []))
noncomputable def kLoad (x:AR) (t:TT) (h:H) (k:KO):Bool:=kev x t fun v=>onPtr v fun b o=>h.ck b fun _ _ cs=>lgk cs o fun v=>k v h [b]
noncomputable def kLoadAgg (n:Nat) (x:AR) (t:TT) (h:H) (k:KO):Bool:=kev x t fun v=>onPtr v fun b o=>gck h b o n fun cs=>k (.agg cs) h [b]
noncomputable def kStore1 (p x:AR) (t:TT) (h:H) (k:KO):Bool:=kev p t fun p=>onPtr p fun b o=>kev x t fun v=>isOne v (h.ck b fun ver rw cs=>kif rw (lsk v cs o fun cs'=>fN (Nat.succ ver) fun ver'=>h.sk b (.cells ver' true cs') fun h'=>k (.tuple []) h' []))
noncomputable def kStore (n:Nat) (p x:AR) (t:TT) (h:H) (k:KO):Bool:=Bool.rec (kGen (.store n p x) t h k) (kev x t fun v=>aggOr v (fun _=>kGen (.store n p x) t h k) (kStore1 p x t h k)) (Nat.beq n (nat_lit 1))
noncomputable def ptrOr (v:AV) (kp:Nat→Nat→Bool) (ko:Bool):Bool:=AV.casesOn (motive_1:=fun _=>Bool) v ko (fun _=>ko) (fun _ _=>ko) (fun _=>ko) ko (fun a b=>kp a b) ko (fun _ _ _ _ _=>ko) ko (fun _=>ko) (fun _ _ _=>ko) ko (fun _ _=>ko) ko (fun _=>ko) (fun _=>ko)
noncomputable def kNil (x:AR) (t:TT) (h:H) (k:KO):Bool:=kev x t fun v=>ptrOr v (fun _ _=>k v h []) (kGen (.nilCheck x) t h k)
noncomputable def bcmp (b:Bool) (h:H) (k:KO):Bool:=fB b fun b=>k (.bool b) h []
noncomputable def kAdd (kd:IntKind) (x y:Int) (h:H) (k:KO):Bool:=kwrap kd (iadd x y) fun z=>k (.int kd z) h []
noncomputable def kSub (kd:IntKind) (x y:Int) (h:H) (k:KO):Bool:=kwrap kd (isub x y) fun z=>k (.int kd z) h []
noncomputable def kMul (kd:IntKind) (x y:Int) (h:H) (k:KO):Bool:=kwrap kd (imul x y) fun z=>k (.int kd z) h []
noncomputable def kQuo (kd:IntKind) (x y:Int) (h:H) (k:KO):Bool:=Bool.rec (kwrap kd (iquo x y) fun z=>k (.int kd z) h []) false (kieq y (.ofNat (nat_lit 0)))
noncomputable def kRem (kd:IntKind) (x y:Int) (h:H) (k:KO):Bool:=Bool.rec (fI (imod x y) fun z=>k (.int kd z) h []) false (kieq y (.ofNat (nat_lit 0)))
noncomputable def kEql (kd:IntKind) (x y:Int) (h:H) (k:KO):Bool:=bcmp (kieq x y) h k
noncomputable def kNeq (kd:IntKind) (x y:Int) (h:H) (k:KO):Bool:=bcmp (Bool.rec true false (kieq x y)) h k
noncomputable def kLss (kd:IntKind) (x y:Int) (h:H) (k:KO):Bool:=bcmp (kilt x y) h k
noncomputable def kLeq (kd:IntKind) (x y:Int) (h:H) (k:KO):Bool:=bcmp (Bool.rec true false (kilt y x)) h k
noncomputable def kGtr (kd:IntKind) (x y:Int) (h:H) (k:KO):Bool:=bcmp (kilt y x) h k
noncomputable def kGeq (kd:IntKind) (x y:Int) (h:H) (k:KO):Bool:=bcmp (Bool.rec true false (kilt x y)) h k
def kNo (kd:IntKind) (x y:Int) (h:H) (k:KO):Bool:=false
noncomputable def kBinI (op:BinOp):IntKind→Int→Int→H→KO→Bool:=match op with
  | .add=>kAdd | .sub=>kSub | .mul=>kMul | .quo=>kQuo | .rem=>kRem | .eql=>kEql | .neq=>kNeq | .lss=>kLss | .leq=>kLeq | .gtr=>kGtr | .geq=>kGeq
  | _=>kNo
def kFast:BinOp→Bool
  | .add | .sub | .mul | .quo | .rem | .eql | .neq | .lss | .leq | .gtr | .geq=>true
  | _=>false
noncomputable def kInt2 (v w:AV) (ki:IntKind→Int→IntKind→Int→Bool) (ko:Bool):Bool:=
  AV.casesOn (motive_1:=fun _=>Bool) v ko (fun _=>ko) (fun a b=>onInt w fun c d=>ki a b c d) (fun _=>ko) ko (fun _ _=>ko) ko (fun _ _ _ _ _=>ko) ko (fun _=>ko) (fun _ _ _=>ko) ko (fun _ _=>ko) ko (fun _=>ko) (fun _=>ko)
noncomputable def kBin (op:BinOp) (x y:AR) (t:TT) (h:H) (k:KO):Bool:=
  Bool.rec (kGen (.bin op x y) t h k) (kev x t fun v=>kev y t fun w=>kInt2 v w (fun a b c d=>kif (Nat.beq (kidx a) (kidx c)) (kBinI op a b d h k)) (kGen (.bin op x y) t h k)) (kFast op)
noncomputable def kEqB (neg:Bool) (x y:AR) (t:TT) (h:H) (k:KO):Bool:=kev x t fun v=>kev y t fun w=>onBool v fun p=>onBool w fun q=>Bool.rec (Bool.rec (k (.bool (Bool.rec true false neg)) h []) (k (.bool (Bool.rec false true neg)) h []) q) (Bool.rec (k (.bool (Bool.rec false true neg)) h []) (k (.bool (Bool.rec true false neg)) h []) q) p
noncomputable def kNot (op:UnOp) (x:AR) (t:TT) (h:H) (k:KO):Bool:=match op with
  | .not=>kev x t fun v=>onBool v fun b=>Bool.rec (k (.bool true) h []) (k (.bool false) h []) b
  | _=>kGen (.un op x) t h k
noncomputable def kConv (kd:IntKind) (x:AR) (t:TT) (h:H) (k:KO):Bool:=kev x t fun v=>onInt v fun _ n=>kwrap kd n fun n=>k (.int kd n) h []
noncomputable def kMkFunc (fn:Fn) (f c:List AR) (t:TT) (h:H) (k:KO):Bool:=kevL f t fun f=>kevL c t fun c=>k (.func fn f c) h []
noncomputable def kField (off:Nat) (x:AR) (t:TT) (h:H) (k:KO):Bool:=kev x t fun v=>onAgg v fun cs=>lgk cs off fun v=>k v h []
noncomputable def kFieldN (off n:Nat) (x:AR) (t:TT) (h:H) (k:KO):Bool:=kev x t fun v=>onAgg v fun cs=>ldk cs off fun l=>ltk l n fun l=>k (.agg l) h []
noncomputable def kFieldAddr (off:Nat) (x:AR) (t:TT) (h:H) (k:KO):Bool:=kev x t fun v=>onPtr v fun b o=>fN (Nat.add o off) fun o=>k (.ptr b o) h []
noncomputable def onNat (v:AV) (k:Nat→Bool):Bool:=onInt v fun _ n=>Int.casesOn n (fun m=>k m) (fun _=>false)
noncomputable def kIndexAddr (size:Nat) (x i:AR) (t:TT) (h:H) (k:KO):Bool:=kev x t fun v=>kev i t fun w=>onSlice v false fun _ sz b o n=>onNat w fun m=>kif (Nat.beq sz size) (kif (Nat.ble (Nat.succ m) n) (fN (Nat.add o (Nat.mul m size)) fun o=>k (.ptr b o) h []))
noncomputable def kIndexAddrA (len size:Nat) (x i:AR) (t:TT) (h:H) (k:KO):Bool:=kev x t fun v=>kev i t fun w=>onPtr v fun b o=>onNat w fun m=>kif (Nat.ble (Nat.succ m) len) (fN (Nat.add o (Nat.mul m size)) fun o=>k (.ptr b o) h [])
noncomputable def kIndex (len size:Nat) (x i:AR) (t:TT) (h:H) (k:KO):Bool:=kev x t fun v=>kev i t fun w=>onAgg v fun cs=>onNat w fun m=>kif (Nat.ble (Nat.succ m) len) (lgk cs (Nat.mul m size) fun v=>k v h [])
noncomputable def kExtract (x:AR) (i:Nat) (t:TT) (h:H) (k:KO):Bool:=kev x t fun v=>onTuple v fun vs=>lgk vs i fun v=>k v h []
noncomputable def kLen (x:AR) (t:TT) (h:H) (k:KO):Bool:=kev x t fun v=>onSlice v (k (.int .i64 (.ofNat Nat.zero)) h []) fun _ _ _ _ n=>k (.int .i64 (.ofNat n)) h []
noncomputable def kSrc (size:Nat) (v:AV) (h:H) (k:List AV→Nat→Bool):Bool:=onSlice v (k [] Nat.zero) fun _ sz b o n=>kif (Nat.beq sz size) (gck h b o (Nat.mul n size) fun cs=>k cs n)
noncomputable def kAppend (size bytes:Nat) (s x:AR) (t:TT) (h:H) (k:KO):Bool:=kev x t fun x=>kev s t fun s=>kSrc size x h fun new n=>
  Bool.rec
    (onSlice s
      (kif (Nat.ble (Nat.mul n bytes) (nat_lit 140737488355328)) (kif (Nat.ble n (nat_lit 9223372036854775807)) (allOne new (H.casesOn h fun nx _=>h.ak (.cells Nat.zero true new) fun h'=>k (.slice false size nx Nat.zero n) h' []))))
      (fun fl sz b o m=>kif (Nat.beq sz size) (fN (Nat.add m n) fun mn=>kif (Nat.ble (Nat.mul mn bytes) (nat_lit 140737488355328)) (kif (Nat.ble mn (nat_lit 9223372036854775807)) (allOne new (gck h b o (Nat.mul m size) fun old=>lak old new fun all=>H.casesOn h fun nx _=>
        Bool.rec (h.ck b fun _ rw _=>kif rw (h.sk b .dead fun h'=>h'.ak (.cells Nat.zero true all) fun h'=>k (.slice false size nx Nat.zero mn) h' []))
          (h.ak (.cells Nat.zero true all) fun h'=>k (.slice false size nx Nat.zero mn) h' []) fl))))))
    (onSlice s (k .nilslice h []) (fun _ _ _ _ _=>k s h []))
    (Nat.beq n (nat_lit 0))
noncomputable def krp (z:List AV) (n:Nat):(List AV→Bool)→Bool:=Nat.rec (motive:=fun _=>(List AV→Bool)→Bool) (fun k=>k []) (fun _ ih k=>ih fun l=>lak z l k) n
theorem krp_eq (z:List AV):∀(n:Nat) (k:List AV→Bool),krp z n k=k (repl n z)
  | 0,k=>rfl
  | n+1,k=>by
    show krp z n (fun l=>lak z l k)=_
    rw[krp_eq z n,lak_eq];rfl
noncomputable def krep (z:List AV) (n:Nat) (k:List AV→Bool):Bool:=Bool.rec (k (repl n z)) (krp z n k) (Nat.ble n (nat_lit 300))
theorem krep_eq (z:List AV) (n:Nat) (k:List AV→Bool):krep z n k=k (repl n z):=by
  unfold krep
  cases Nat.ble n 300 with
  | false=>rfl
  | true=>exact krp_eq z n k
noncomputable def klen (l:List AV):Nat:=List.rec (motive:=fun _=>Nat) Nat.zero (fun _ _ ih=>Nat.succ ih) l
theorem klen_eq:∀l:List AV,klen l=l.length
  | []=>rfl
  | _::l=>congrArg Nat.succ (klen_eq l)
noncomputable def kMake (bytes:Nat) (z:List AV) (n c:AR) (t:TT) (h:H) (k:KO):Bool:=kev n t fun v=>kev c t fun w=>onInt v fun kv l=>onInt w fun kw m=>Int.casesOn l (fun l=>Int.casesOn m (fun m=>
  kif (Nat.beq (kidx kv) (nat_lit 3)) (kif (Nat.beq (kidx kw) (nat_lit 3)) (kif (Nat.ble l m) (kif (Nat.ble (Nat.mul m bytes) (nat_lit 140737488355328)) (kif (Nat.ble m (nat_lit 9223372036854775807)) (krep z l fun cs=>fN (klen z) fun sz=>fB (Nat.beq l m) fun fl=>H.casesOn h fun nx _=>h.ak (.cells Nat.zero true cs) fun h'=>k (.slice fl sz nx Nat.zero l) h' [])))))) (fun _=>false)) (fun _=>false)
def KOk (f:TT→H→KO→Bool) (o:AO):Prop:=∀(n:Nat) (t:TT) (a:List AV) (h:H) (k:KO),Rl n t a→f t h k=true→∃v h' rd,aop a h o=some (v,h',rd)∧k v h' rd=true
theorem kGen_ok (o:AO):KOk (kGen o) o:=by
  intro n t a h k hr hk
  obtain⟨⟨v,h',rd⟩,h1,h2⟩:=fO_ok hk
  rw[aop_sub hr]at h1
  rw[fVb_eq,fHb_eq]at h2
  exact⟨v,h',rd,h1,h2⟩
theorem kMove_ok (x:AR):KOk (kMove x) (.move x):=by
  intro n t a h k hr hk
  unfold kMove at hk;rw[q59 hr]at hk
  exact⟨_,_,_,rfl,hk⟩
theorem kPick_ok (c x y:AR):KOk (kPick c x y) (.pick c x y):=by
  intro n t a h k hr hk
  unfold kPick at hk;rw[q59 hr]at hk
  obtain⟨b,hb,hk⟩:=onBool_ok hk
  cases b with
  | true=>
    have hk:kev x t (fun v=>k v h [])=true:=hk
    rw[q59 hr]at hk;exact⟨_,_,_,by simp only[aop,hb],hk⟩
  | false=>
    have hk:kev y t (fun v=>k v h [])=true:=hk
    rw[q59 hr]at hk;exact⟨_,_,_,by simp only[aop,hb],hk⟩
theorem kAlloc_ok (cs:List AV):KOk (kAlloc cs) (.alloc cs):=by
  intro n t a h k hr hk
  have:=H.ak_ok hk
  cases h with
  | mk nx tt=>exact⟨_,_,_,rfl,this⟩
theorem aggOr_cases {v:AV} {ka:List AV→Bool} {ko:Bool} (h:aggOr v ka ko=true):(∃cs,v= .agg cs∧ka cs=true)∨((∀cs,v≠ .agg cs)∧ko=true):=by
  cases v with
  | agg cs=>exact .inl ⟨cs,rfl,h⟩
  | _=>exact .inr ⟨fun cs e=>(by cases e),h⟩
theorem ptrOr_cases {v:AV} {ka:Nat→Nat→Bool} {ko:Bool} (h:ptrOr v ka ko=true):(∃b o,v= .ptr b o∧ka b o=true)∨ko=true:=by
  cases v with
  | ptr b o=>exact .inl ⟨b,o,rfl,h⟩
  | _=>exact .inr h
theorem kBox_ok (x:AR):KOk (kBox x) (.box x):=by
  intro n t a h k hr hk
  unfold kBox at hk;rw[q59 hr]at hk
  cases h with
  | mk nx tt=>
    rcases aggOr_cases hk with⟨cs,e,hk⟩ | ⟨_,hk⟩
    · obtain⟨h1,hk⟩:=allOne_ok hk
      have:=H.ak_ok hk
      refine⟨_,_,_,?_,this⟩
      simp only[aop,e,AV.cells,h1,if_true]
    · obtain⟨h1,h2,hk⟩:=isOne_ok hk
      have:=H.ak_ok hk
      refine⟨_,_,_,?_,this⟩
      simp only[aop,h2,List.all_cons,List.all_nil,h1,Bool.and_self,if_true]
theorem kLoad_ok (x:AR):KOk (kLoad x) (.load x):=by
  intro n t a h k hr hk
  unfold kLoad at hk;rw[q59 hr]at hk
  obtain⟨b,o,e,hk⟩:=onPtr_ok hk
  obtain⟨ver,rw_,cs,h1,hk⟩:=H.ck_ok hk
  obtain⟨v,h2,hk⟩:=lgk_ok hk
  exact⟨_,_,_,by simp only[aop,e,getCell,h1,h2],hk⟩
theorem kLoadAgg_ok (m:Nat) (x:AR):KOk (kLoadAgg m x) (.loadAgg m x):=by
  intro n t a h k hr hk
  unfold kLoadAgg at hk;rw[q59 hr]at hk
  obtain⟨b,o,e,hk⟩:=onPtr_ok hk
  obtain⟨cs,h1,h2,hk⟩:=gck_ok hk
  exact⟨_,_,_,by simp only[aop,e,h1],hk⟩
theorem kStore_ok (m:Nat) (p x:AR):KOk (kStore m p x) (.store m p x):=by
  intro n t a h k hr hk
  unfold kStore at hk
  cases hb:Nat.beq m 1 with
  | false=>rw[hb]at hk;exact kGen_ok _ n t a h k hr hk
  | true=>
    rw[hb]at hk
    have:=Nat.eq_of_beq_eq_true hb;subst this
    have hk':kev x t (fun v=>aggOr v (fun _=>kGen (.store 1 p x) t h k) (kStore1 p x t h k))=true:=hk
    rw[q59 hr]at hk'
    rcases aggOr_cases hk' with⟨cs,e,hk⟩ | ⟨_,hk⟩
    · exact kGen_ok _ n t a h k hr hk
    · unfold kStore1 at hk
      rw[q59 hr]at hk
      obtain⟨b,o,e,hk⟩:=onPtr_ok hk
      rw[q59 hr]at hk
      obtain⟨h1,h2,hk⟩:=isOne_ok hk
      obtain⟨ver,rw_,cs,h3,hk⟩:=H.ck_ok hk
      obtain⟨h4,hk⟩:=kif_ok hk
      obtain⟨h5,hk⟩:=lsk_ok hk
      rw[fN_eq]at hk
      have hk:=H.sk_ok hk
      rw[h4]at h3
      refine⟨_,_,_,?_,hk⟩
      simp only[aop,e,h2,List.length_cons,List.length_nil,putCells,h3,List.all_cons,List.all_nil,h1,Bool.and_true,Nat.zero_add,if_true,decide_eq_true h5]
theorem kNil_ok (x:AR):KOk (kNil x) (.nilCheck x):=by
  intro n t a h k hr hk
  unfold kNil at hk;rw[q59 hr]at hk
  rcases ptrOr_cases hk with⟨b,o,e,hk⟩ | hk
  · rw[e]at hk;exact⟨_,_,_,by simp only[aop,e],hk⟩
  · exact kGen_ok _ n t a h k hr hk
theorem kBin_ok (op:BinOp) (x y:AR):KOk (kBin op x y) (.bin op x y):=by
  intro n t a h k hr hk
  unfold kBin at hk
  cases hf:kFast op with
  | false=>rw[hf]at hk;exact kGen_ok _ n t a h k hr hk
  | true=>
    rw[hf]at hk
    have hk':kev x t (fun v=>kev y t fun w=>kInt2 v w (fun a b c d=>kif (Nat.beq (kidx a) (kidx c)) (kBinI op a b d h k)) (kGen (.bin op x y) t h k))=true:=hk
    rw[q59 hr,q59 hr]at hk'
    have:kGen (.bin op x y) t h k=true∨∃kd p q,ev a x= .int kd p∧ev a y= .int kd q∧kBinI op kd p q h k=true:=by
      cases hx:ev a x with
      | int kd p=>
        rw[hx]at hk'
        obtain⟨kd',q,e,hk'⟩:=onInt_ok hk'
        obtain⟨h1,hk'⟩:=kif_ok hk'
        have e2:=kidx_inj h1
        exact .inr ⟨kd,p,q,rfl,by rw[e,e2],hk'⟩
      | _=>rw[hx]at hk';exact .inl hk'
    rcases this with hk | ⟨kd,p,q,e1,e2,hk⟩
    · exact kGen_ok _ n t a h k hr hk
    · simp only[aop,e1,e2,abin]
      cases op<;>first
        | (cases hf;done)
        | (simp only [q64,if_true,binInt,Bool.false_eq_true,if_false]
           simp only [kBinI,kAdd,kSub,kMul,kwrap_eq,iadd_eq,isub_eq,imul_eq] at hk
           exact ⟨_,_,_,rfl,hk⟩)
        | (simp only [q64,if_true,binInt,Bool.false_eq_true,if_false]
           simp only [kBinI,kEql,kNeq,kLss,kLeq,kGtr,kGeq,bcmp,fB_eq,kieq_eq,kilt_eq] at hk
           refine ⟨_,_,_,rfl, ?_⟩
           first
             | exact hk
             | (rw [← hk]; congr 2
                first
                  | (cases hd:(p==q)<;>simp[hd,bne];done)
                  | (by_cases hd:p<q<;>simp[hd]<;>omega;done)
                  | (by_cases hd:q<p<;>simp[hd]<;>omega;done)))
        | (simp only [q64,if_true,binInt,Bool.false_eq_true,if_false]
           simp only [kBinI,kQuo,kRem,kwrap_eq,fI_eq,iquo_eq,imod_eq] at hk
           cases hz : kieq q (.ofNat 0) with
           | true => rw [hz] at hk; cases hk
           | false =>
             rw [hz] at hk
             rw [kieq_eq] at hz
             have hq : q ≠ 0 := by
               rintro rfl
               simp at hz
             rw [if_neg hq]
             exact ⟨_,_,_,rfl,hk⟩)
theorem kEqB_ok (neg:Bool) (x y:AR):KOk (kEqB neg x y) (.eqB neg x y):=by
  intro n t a h k hr hk
  unfold kEqB at hk;rw[q59 hr,q59 hr]at hk
  obtain⟨p,e1,hk⟩:=onBool_ok hk
  obtain⟨q,e2,hk⟩:=onBool_ok hk
  refine⟨_,_,_,by simp only[aop,e1,e2];rfl,?_⟩
  cases p<;>cases q<;>cases neg<;>exact hk
theorem kNot_ok (op:UnOp) (x:AR):KOk (kNot op x) (.un op x):=by
  intro n t a h k hr hk
  cases op with
  | not=>
    simp only[kNot]at hk
    rw[q59 hr]at hk
    obtain⟨b,e,hk⟩:=onBool_ok hk
    refine⟨_,_,_,by simp only[aop,e,aun];rfl,?_⟩
    cases b<;>exact hk
  | _=>exact kGen_ok _ n t a h k hr hk
theorem kConv_ok (kd:IntKind) (x:AR):KOk (kConv kd x) (.convInt kd x):=by
  intro n t a h k hr hk
  unfold kConv at hk;rw[q59 hr]at hk
  obtain⟨c,m,e,hk⟩:=onInt_ok hk
  rw[kwrap_eq]at hk
  exact⟨_,_,_,by simp only[aop,e],hk⟩
theorem kMkFunc_ok (fn:Fn) (f c:List AR):KOk (kMkFunc fn f c) (.mkFunc fn f c):=by
  intro n t a h k hr hk
  unfold kMkFunc at hk;rw[kevL_eq hr,kevL_eq hr]at hk
  exact⟨_,_,_,rfl,hk⟩
theorem kField_ok (off:Nat) (x:AR):KOk (kField off x) (.field off none x):=by
  intro n t a h k hr hk
  unfold kField at hk;rw[q59 hr]at hk
  obtain⟨cs,e,hk⟩:=onAgg_ok hk
  obtain⟨v,h2,hk⟩:=lgk_ok hk
  exact⟨_,_,_,by simp only[aop,e,h2],hk⟩
theorem kFieldN_ok (off m:Nat) (x:AR):KOk (kFieldN off m x) (.field off (some m) x):=by
  intro n t a h k hr hk
  unfold kFieldN at hk;rw[q59 hr]at hk
  obtain⟨cs,e,hk⟩:=onAgg_ok hk
  obtain⟨h1,hk⟩:=ldk_ok hk
  obtain⟨h2,hk⟩:=ltk_ok hk
  rw[List.length_drop]at h2
  exact⟨_,_,_,by simp only[aop,e];rw[if_pos (by omega)],hk⟩
theorem kFieldAddr_ok (off:Nat) (x:AR):KOk (kFieldAddr off x) (.fieldAddr off x):=by
  intro n t a h k hr hk
  unfold kFieldAddr at hk;rw[q59 hr]at hk
  obtain⟨b,o,e,hk⟩:=onPtr_ok hk
  rw[fN_eq]at hk
  exact⟨_,_,_,by simp only[aop,e];rfl,hk⟩
theorem onNat_ok {v:AV} {k:Nat→Bool} (h:onNat v k=true):∃kd m,v= .int kd (.ofNat m)∧k m=true:=by
  obtain⟨kd,n,e,h⟩:=onInt_ok h
  cases n with
  | ofNat m=>exact⟨kd,m,e,h⟩
  | negSucc m=>cases h
theorem kIndexAddr_ok (size:Nat) (x i:AR):KOk (kIndexAddr size x i) (.indexAddr size x i):=by
  intro n t a h k hr hk
  unfold kIndexAddr at hk;rw[q59 hr,q59 hr]at hk
  rcases onSlice_ok hk with⟨_,hk⟩ | ⟨fl,sz,b,o,m,e1,hk⟩
  · cases hk
  · obtain⟨kd,j,e2,hk⟩:=onNat_ok hk
    obtain⟨h1,hk⟩:=kif_ok hk
    obtain⟨h2,hk⟩:=kif_ok hk
    rw[fN_eq]at hk
    have h1:=Nat.eq_of_beq_eq_true h1
    have h2:=Nat.le_of_ble_eq_true h2
    refine⟨_,_,_,?_,hk⟩
    simp only[aop,e1,e2]
    rw[if_pos ⟨h1,by simp,by simp;omega⟩]
    rfl
theorem kIndexAddrA_ok (len size:Nat) (x i:AR):KOk (kIndexAddrA len size x i) (.indexAddrA len size x i):=by
  intro n t a h k hr hk
  unfold kIndexAddrA at hk;rw[q59 hr,q59 hr]at hk
  obtain⟨b,o,e1,hk⟩:=onPtr_ok hk
  obtain⟨kd,j,e2,hk⟩:=onNat_ok hk
  obtain⟨h2,hk⟩:=kif_ok hk
  rw[fN_eq]at hk
  have h2:=Nat.le_of_ble_eq_true h2
  refine⟨_,_,_,?_,hk⟩
  simp only[aop,e1,e2]
  rw[if_pos ⟨by simp,by simp;omega⟩]
  rfl
theorem kIndex_ok (len size:Nat) (x i:AR):KOk (kIndex len size x i) (.index len size false x i):=by
  intro n t a h k hr hk
  unfold kIndex at hk;rw[q59 hr,q59 hr]at hk
  obtain⟨cs,e1,hk⟩:=onAgg_ok hk
  obtain⟨kd,j,e2,hk⟩:=onNat_ok hk
  obtain⟨h2,hk⟩:=kif_ok hk
  have h2:=Nat.le_of_ble_eq_true h2
  obtain⟨v,h3,hk⟩:=lgk_ok hk
  refine⟨_,_,_,?_,hk⟩
  simp only[aop,e1,e2,Bool.false_eq_true,if_false]
  rw[if_pos ⟨by simp,by simp;omega⟩]
  have:(Int.ofNat j).toNat*size=Nat.mul j size:=rfl
  rw[this,h3]
theorem kExtract_ok (x:AR) (i:Nat):KOk (kExtract x i) (.extract x i):=by
  intro n t a h k hr hk
  unfold kExtract at hk;rw[q59 hr]at hk
  obtain⟨cs,e,hk⟩:=onTuple_ok hk
  obtain⟨v,h2,hk⟩:=lgk_ok hk
  exact⟨_,_,_,by simp only[aop,e,h2],hk⟩
theorem kLen_ok (x:AR):KOk (kLen x) (.len x):=by
  intro n t a h k hr hk
  unfold kLen at hk;rw[q59 hr]at hk
  rcases onSlice_ok hk with⟨e,hk⟩ | ⟨fl,sz,b,o,m,e,hk⟩
  · exact⟨_,_,_,by simp only[aop,e];rfl,hk⟩
  · exact⟨_,_,_,by simp only[aop,e];rfl,hk⟩
theorem kSrc_ok {size:Nat} {x:AR} {a:List AV} {h:H} {k:List AV→Nat→Bool} (hk:kSrc size (ev a x) h k=true):∃new m,srcOf a h size x=some (new,m)∧new.length=m*size∧k new m=true:=by
  unfold kSrc at hk
  rcases onSlice_ok hk with⟨e,hk⟩ | ⟨fl,sz,b,o,m,e,hk⟩
  · exact⟨[],0,by simp only[srcOf,e],by simp,hk⟩
  · obtain⟨h1,hk⟩:=kif_ok hk
    have h1:=Nat.eq_of_beq_eq_true h1
    obtain⟨cs,h2,h3,hk⟩:=gck_ok hk
    have h2':q56 h b o (m*size)=some cs:=h2
    exact⟨cs,m,by simp only[srcOf,e,h1,if_true,h2'],h3,hk⟩
theorem kAppend_ok (size bytes:Nat) (s x:AR):KOk (kAppend size bytes s x) (.append size bytes s x):=by
  intro n t a h k hr hk
  unfold kAppend at hk;rw[q59 hr,q59 hr]at hk
  obtain⟨new,m,h1,h2,hk⟩:=kSrc_ok hk
  simp only[aop,h1]
  cases hz:Nat.beq m 0 with
  | true=>
    rw[hz]at hk
    have:=Nat.eq_of_beq_eq_true hz;subst this
    rcases onSlice_ok hk with⟨e,hk⟩ | ⟨fl,sz,b,o,q,e,hk⟩
    · exact⟨_,_,_,by simp only[e,if_true],hk⟩
    · rw[e]at hk;exact⟨_,_,_,by simp only[e,if_true],hk⟩
  | false=>
    rw[hz]at hk
    have hm:=q53 hz
    rcases onSlice_ok hk with⟨e,hk⟩ | ⟨fl,sz,b,o,q,e,hk⟩
    · obtain⟨h3,hk⟩:=kif_ok hk
      obtain⟨h4,hk⟩:=kif_ok hk
      obtain⟨h5,hk⟩:=allOne_ok hk
      have h3:=Nat.le_of_ble_eq_true h3
      have h4:=Nat.le_of_ble_eq_true h4
      cases h with
      | mk nx tt=>
        have hk:=H.ak_ok hk
        refine⟨_,_,_,?_,hk⟩
        simp only[e]
        rw[if_neg hm,if_pos ⟨h3,h4,h5,h2⟩]
    · obtain⟨h3,hk⟩:=kif_ok hk
      have h3:=Nat.eq_of_beq_eq_true h3
      rw[fN_eq]at hk
      obtain⟨h4,hk⟩:=kif_ok hk
      obtain⟨h5,hk⟩:=kif_ok hk
      obtain⟨h6,hk⟩:=allOne_ok hk
      have h4:=Nat.le_of_ble_eq_true h4
      have h5:=Nat.le_of_ble_eq_true h5
      obtain⟨old,h7,h8,hk⟩:=gck_ok hk
      rw[lak_eq]at hk
      have h7':q56 h b o (q*size)=some old:=h7
      simp only[e]
      rw[if_neg hm,if_pos ⟨h3,h4,h5,h6,h2⟩,h7']
      simp only
      cases fl with
      | true=>
        cases h with
        | mk nx tt=>
          have hk:=H.ak_ok hk
          exact⟨_,_,_,rfl,hk⟩
      | false=>
        cases h with
        | mk nx tt=>
          obtain⟨ver,rw_,cs,h9,hk⟩:=H.ck_ok hk
          obtain⟨h10,hk⟩:=kif_ok hk
          rw[h10]at h9
          have hk:=H.sk_ok hk
          have hk:=H.ak_ok hk
          refine⟨_,_,_,?_,hk⟩
          simp only[Bool.false_eq_true,if_false,kill,h9]
          rfl
theorem kMake_ok (bytes:Nat) (z:List AV) (m c:AR):KOk (kMake bytes z m c) (.makeSlice bytes z m c):=by
  intro n t a h k hr hk
  unfold kMake at hk;rw[q59 hr,q59 hr]at hk
  obtain⟨kv,l,e1,hk⟩:=onInt_ok hk
  obtain⟨kw,q,e2,hk⟩:=onInt_ok hk
  cases l with
  | negSucc l=>cases hk
  | ofNat l=>
    cases q with
    | negSucc q=>cases hk
    | ofNat q=>
      obtain⟨h1,hk⟩:=kif_ok hk
      obtain⟨h2,hk⟩:=kif_ok hk
      obtain⟨h3,hk⟩:=kif_ok hk
      obtain⟨h4,hk⟩:=kif_ok hk
      obtain⟨h5,hk⟩:=kif_ok hk
      rw[krep_eq,fN_eq,fB_eq,klen_eq]at hk
      have h1:kv= .i64:=kidx_inj (b:= .i64) h1
      have h2:kw= .i64:=kidx_inj (b:= .i64) h2
      have h3:=Nat.le_of_ble_eq_true h3
      have h4:=Nat.le_of_ble_eq_true h4
      have h5:=Nat.le_of_ble_eq_true h5
      rw[h1]at e1
      rw[h2]at e2
      cases h with
      | mk nx tt=>
        have hk:=H.ak_ok hk
        simp only[aop,e1,e2]
        have c1:(0:Int)≤Int.ofNat l:=by simp
        have c2:Int.ofNat l≤Int.ofNat q:=by simpa using h3
        have c3:Int.ofNat q*(bytes:Int)≤140737488355328:=by
          have h4':q*bytes≤140737488355328:=h4
          have h6:=Int.ofNat_le.2 h4'
          rw[Int.natCast_mul]at h6
          exact h6
        have c4:Int.ofNat q≤((maxLenA:Nat):Int):=Int.ofNat_le.2 h5
        rw[if_pos ⟨c1,c2,c3,c4⟩]
        refine⟨_,_,_,rfl,?_⟩
        have e3:(Int.ofNat l==Int.ofNat q)=Nat.beq l q:=by
          cases hb:Nat.beq l q with
          | true=>have:=Nat.eq_of_beq_eq_true hb;subst this;simp
          | false=>have:=q53 hb;simp;omega
        rw[e3]
        exact hk
end Go.Am

