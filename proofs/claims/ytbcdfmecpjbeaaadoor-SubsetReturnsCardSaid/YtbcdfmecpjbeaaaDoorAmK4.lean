/- The third evaluator is right: what it answers, the first answers too. -/
import Derived.Test.YtbcdfmecpjbeaaaDoorAmK3
set_option linter.unusedVariables false
set_option linter.unusedSimpArgs false
namespace Go.Am
section
variable {R:KRec} {rec:Rec}
theorem kload_rl {l:List AV} {k:TT→Bool} {n:Nat} (h:tjsel n (fun t=>kofL l (nat_lit 0) t k)=true):∃t,k t=true∧Rl l.length t l:=by
 obtain⟨t,h1,h2⟩:=kload_ok h
 exact⟨t,h1,rfl,h2⟩
theorem setAll_length:∀(ps:List Nat) (vs a:List AV),(setAll a ps vs).length=a.length
 | [],vs,a=>by cases vs<;>rfl
 | _::_,[],_=>rfl
 | p::ps,v::vs,a=>by rw[setAll,setAll_length ps vs,length_tsetF]
theorem kround_ok (ok:KROk R rec) {l:Nat} {first cap args:List AV} {h:H} {k:AV→H→Bool} (hk:kround R l (first++args) h k=true):
  ∃v h',acallV rec (.func (.yield l) first cap) args h=some (v,h')∧k v h'=true:=by
 obtain⟨ver,r,hg,hk⟩:=H.lk_ok hk
 obtain⟨st,pend,tmps,params,assign,body⟩:=r
 obtain⟨h1,hk⟩:=kif_ok hk
 rw[fN_eq,klen_eq]at hk
 have hl:(first++args).length=params.length:=by have:=Nat.eq_of_beq_eq_true h1;rwa [klen_eq]at this
 obtain⟨t,hk,hr⟩:=kload_rl hk
 rw[setAll_length]at hr
 obtain⟨e,a1,t1,h1',e1,r1,hk⟩:=ok.code _ _ _ _ _ hk _ hr
 cases e with
 | normal=>
  obtain⟨v1,lr1,hg1,hk⟩:=H.lk_ok hk
  obtain⟨hst,hk⟩:=onReady_ok hk
  have hk:=H.sk_ok hk
  obtain⟨e,a3,t3,h3,e3,r3,hk⟩:=ok.code _ _ _ _ _ hk _ r1
  obtain⟨v3,lr3,hg3,hk⟩:=H.lk_ok hk
  simp only[acallV,hg,if_pos hl,e1,hg1,if_pos hst,e3,hg3]
  cases e with
  | normal=>have hk:=H.sk_ok hk;exact⟨_,_,rfl,hk⟩
  | ret=>have hk:=H.sk_ok hk;exact⟨_,_,rfl,hk⟩
  | exit i=>have hk:=H.sk_ok hk;exact⟨_,_,rfl,hk⟩
 | ret=>cases hk
 | exit i=>cases hk
theorem kcallV_ok (ok:KROk R rec) {f:AV} {args:List AV} {h:H} {k:AV→H→Bool} (hk:kcallV R f args h k=true):∃v h',acallV rec f args h=some (v,h')∧k v h'=true:=by
 obtain⟨fn,first,cap,rfl,hk⟩:=onFunc_ok hk
 cases fn with
 | func g=>
  have hk:lak args cap (fun l=>lak first l fun l=>R.call g l h k)=true:=hk
  rw[lak_eq,lak_eq,←List.append_assoc]at hk
  exact ok.call _ _ _ _ hk
 | yield l=>
  have hk:lak first args (fun args=>kround R l args h k)=true:=hk
  rw[lak_eq]at hk
  exact kround_ok ok hk
 | _=>cases hk
theorem kstep_ok (ok:KROk R rec) (o:AO) (n:Nat) (t:TT) (a:List AV) (h:H) (k:KO) (hr:Rl n t a) (hk:kstep R o t h k=true):∃v h' rd,astep rec o a h=some (v,h',rd)∧k v h' rd=true:=by
 cases o with
 | call f args=>
  simp only[kstep,kCall]at hk
  rw[q59 hr,kevL_eq hr]at hk
  obtain⟨v,h',e,hk⟩:=kcallV_ok ok hk
  exact⟨v,h',[],by simp only[astep,e],hk⟩
 | move x=>exact kMove_ok x n t a h k hr hk
 | pick c x y=>exact kPick_ok c x y n t a h k hr hk
 | alloc cs=>exact kAlloc_ok cs n t a h k hr hk
 | box x=>exact kBox_ok x n t a h k hr hk
 | load x=>exact kLoad_ok x n t a h k hr hk
 | loadAgg m x=>exact kLoadAgg_ok m x n t a h k hr hk
 | store m p x=>exact kStore_ok m p x n t a h k hr hk
 | nilCheck x=>exact kNil_ok x n t a h k hr hk
 | bin op x y=>exact kBin_ok op x y n t a h k hr hk
 | eqB m x y=>exact kEqB_ok m x y n t a h k hr hk
 | un op x=>exact kNot_ok op x n t a h k hr hk
 | convInt kd x=>exact kConv_ok kd x n t a h k hr hk
 | mkFunc fn f c=>exact kMkFunc_ok fn f c n t a h k hr hk
 | field off m x=>cases m with
  | none=>exact kField_ok off x n t a h k hr hk
  | some m=>exact kFieldN_ok off m x n t a h k hr hk
 | fieldAddr off x=>exact kFieldAddr_ok off x n t a h k hr hk
 | indexAddr s x i=>exact kIndexAddr_ok s x i n t a h k hr hk
 | indexAddrA l s x i=>exact kIndexAddrA_ok l s x i n t a h k hr hk
 | index l s b x i=>cases b with
  | false=>exact kIndex_ok l s x i n t a h k hr hk
  | true=>exact kGen_ok _ n t a h k hr hk
 | extract x i=>exact kExtract_ok x i n t a h k hr hk
 | len x=>exact kLen_ok x n t a h k hr hk
 | append s b x y=>exact kAppend_ok s b x y n t a h k hr hk
 | makeSlice b z m c=>exact kMake_ok b z m c n t a h k hr hk
 | _=>exact kGen_ok _ n t a h k hr hk
theorem kput_ok {n:Nat} {t:TT} {a:List AV} {d:Option Nat} {v:AV} {k:TT→Bool} (hr:Rl n t a) (hk:kput n t d v k=true):∃t',k t'=true∧Rl n t' (put a d v):=by
 cases d with
 | none=>exact⟨t,hk,hr⟩
 | some d=>
  obtain⟨h1,hk⟩:=kif_ok hk
  obtain⟨t',h2,h3⟩:=TT.sk_ok hk
  exact⟨t',h2,hr.set (Nat.le_of_ble_eq_true h1) h3⟩
theorem kguard_ok {n:Nat} {t:TT} {a:List AV} {g:Option (Nat×Bool)} {yes no:Bool} (hr:Rl n t a) (hk:kguard t g yes no=true):(q61 a g=some true∧yes=true)∨(q61 a g=some false∧no=true):=by
 cases g with
 | none=>exact .inl ⟨rfl,hk⟩
 | some p=>
  obtain⟨i,want⟩:=p
  have hk':t.gk i (fun v=>onGuard v (fun b=>Bool.rec (Bool.rec yes no want) (Bool.rec no yes want) b) no)=true:=hk
  rw[TT.gk_eq,hr.get]at hk'
  rcases onGuard_ok hk' with⟨b,e,hk⟩ | ⟨l,e,hk⟩
  ·cases b<;>cases want
   ·exact .inl ⟨by simp only[q61,e];rfl,hk⟩
   ·exact .inr ⟨by simp only[q61,e];rfl,hk⟩
   ·exact .inr ⟨by simp only[q61,e];rfl,hk⟩
   ·exact .inl ⟨by simp only[q61,e];rfl,hk⟩
  ·exact .inr ⟨by simp only[q61,e],hk⟩
theorem kops_ok (ok:KROk R rec) {n:Nat} :∀{os:List AOper} {t:TT} {a:List AV} {h:H} {k:TT→H→Bool},Rl n t a→kops R n os t h k=true→∃a' t' h',aops rec os a h=some (a',h')∧Rl n t' a'∧k t' h'=true
 | [],t,a,h,k,hr,hk=>⟨a,t,h,rfl,hr,hk⟩
 | ⟨dst,op,guard,chk⟩::os,t,a,h,k,hr,hk=>by
  have hk':kguard t guard (kstep R op t h fun v h' _=>kput n t dst v fun t=>kops R n os t h' k) (kput n t dst (.tuple []) fun t=>kops R n os t h k)=true:=hk
  unfold aops
  rcases kguard_ok hr hk' with⟨hw,hk⟩ | ⟨hw,hk⟩
  ·simp only[hw]
   obtain⟨v,h',rd,e,hk⟩:=kstep_ok ok op n t a h _ hr hk
   obtain⟨t1,hk,r1⟩:=kput_ok hr hk
   simp only[e]
   exact kops_ok ok r1 hk
  ·simp only[hw]
   obtain⟨t1,hk,r1⟩:=kput_ok hr hk
   exact kops_ok ok r1 hk
theorem kchk_ok {eff:Bool} {rd:List Nat} {hb ha:H} {log:List LogE} {chk:List Nat} {k:Bool} (h:kchk eff rd hb ha log chk k=true):chkOk eff rd hb ha log chk=true∧k=true:=by
 cases chk with
 | nil=>exact⟨by simp[chkOk],h⟩
 | cons c cs=>simpa [kchk] using h
theorem kopsD_ok (ok:KROk R rec) {n:Nat} :∀{os:List AOper} {i:Nat} {t:TT} {a:List AV} {h:H} {log:List LogE} {k:TT→H→Bool},Rl n t a→kopsD R n os i t h log k=true→∃a' t' h',aopsD rec os i a h log=some (a',h')∧Rl n t' a'∧k t' h'=true
 | [],i,t,a,h,log,k,hr,hk=>⟨a,t,h,rfl,hr,hk⟩
 | ⟨dst,op,guard,chk⟩::os,i,t,a,h,log,k,hr,hk=>by
  have hk':kguard t guard (kstep R op t h fun v h' rd=>kchk op.effect (rdx h h' rd) h h' log chk (kput n t dst v fun t=>kopsD R n os (i+1) t h' (⟨i,rdx h h' rd,h,h'⟩::log) k)) (kput n t dst (.tuple []) fun t=>kopsD R n os (i+1) t h log k)=true:=hk
  unfold aopsD
  rcases kguard_ok hr hk' with⟨hw,hk⟩ | ⟨hw,hk⟩
  ·simp only[hw]
   obtain⟨v,h',rd,e,hk⟩:=kstep_ok ok op n t a h _ hr hk
   obtain⟨hc,hk⟩:=kchk_ok hk
   obtain⟨t1,hk,r1⟩:=kput_ok hr hk
   simp only[e,hc,if_true]
   exact kopsD_ok ok r1 hk
  ·simp only[hw]
   obtain⟨t1,hk,r1⟩:=kput_ok hr hk
   exact kopsD_ok ok r1 hk
theorem kscrub_ok {n:Nat} {l:List Nat} {t:TT} {a:List AV} {k:TT→Bool} (hr:Rl n t a) (hk:kscrub n l t k=true):∃t',k t'=true∧Rl n t' (scrub a l):=by
 obtain⟨j,hj,hk⟩:=tjsel_jt hk
 obtain⟨t',h1,h2⟩:=KM.filt_ok hj hk
 refine⟨t',h1,by rw[scrub_length];exact hr.len,fun i=>?_⟩
 rw[h2,KM.mask_has,scrub_get,hr.get]
 cases l.contains i<;>simp
theorem ktoL_eq (t:TT):∀(n:Nat) (acc:List AV) (k:List AV→Bool),ktoL t n acc k=k ((List.range n).map t.get++acc)
 | 0,acc,k=>rfl
 | n+1,acc,k=>by
  show t.gk n (fun v=>ktoL t n (v::acc) k)=_
  rw[TT.gk_eq,ktoL_eq t n,List.range_succ];simp
theorem tget_extK:∀(a b:List AV),a.length=b.length→(∀i,i<a.length→tget a i=tget b i)→a=b
 | [],[],_,_=>rfl
 | [],_::_,h,_=>by simp at h
 | _::_,[],h,_=>by simp at h
 | x::a,y::b,h,hg=>by
  have h0:=hg 0 (by simp)
  simp only[tget]at h0
  rw[h0,tget_extK a b (by simpa using h) (fun i hi=>by have:=hg (i+1) (by simpa using hi);simpa [tget] using this)]
theorem tget_of_get:∀(l:List AV) (i:Nat) (v:AV),l[i]? =some v→tget l i=v
 | [],i,v,h=>by simp at h
 | x::l,0,v,h=>by simpa [tget] using h
 | x::l,i+1,v,h=>by simp only[tget];exact tget_of_get l i v (by simpa using h)
theorem ktoL_rl {n:Nat} {t:TT} {a:List AV} (hr:Rl n t a):(List.range n).map t.get=a:=by
 refine tget_extK _ _ (by simp[hr.len]) fun i hi=>?_
 have hi':i<n:=by simpa using hi
 rw[tget_of_get _ i (t.get i) (by simp[hi']),hr.get]
theorem krange_ok (ok:KROk R rec) {n:Nat} {f:AR} {ps:List Nat} {asg body:AC} {t:TT} {a:List AV} {h:H} {k:KE} (hr:Rl n t a) (hk:krange R n f ps asg body t h k=true):
  ∃e a' t' h',q8 rec (.rangeFunc f ps asg body) a h=some (e,a',h')∧Rl n t' a'∧k e t' h'=true:=by
 unfold krange at hk
 rw[q59 hr]at hk
 obtain⟨fn,first,cap,e,hk⟩:=onFunc_ok hk
 cases fn with
 | func g=>
  simp only[krange.kFnG]at hk
  rw[ktoL_eq,ktoL_rl hr,List.append_nil]at hk
  obtain⟨nx,ht⟩:=h
  have hk:lak first (AV.func (.yield nx) [] []::cap) (fun args=>(H.mk nx ht).ak (.loop Nat.zero {state:= .ready,pending:=none,tmps:=a,params:=ps,assign:=asg,body:=body}) fun h1=>
   R.call g args h1 fun _ h'=>h'.lk nx fun ver r=>notBusy r.state (h'.sk nx (.loop (ver+1) {r with state:= .exhausted}) fun h2=>k (r.pending.getD .normal) t h2))=true:=hk
  rw[lak_eq]at hk
  have hk:=H.ak_ok hk
  obtain⟨v,h',e1,hk⟩:=ok.call _ _ _ _ hk
  obtain⟨ver,r,hg,hk⟩:=H.lk_ok hk
  obtain⟨hb,hk⟩:=notBusy_ok hk
  have hk:=H.sk_ok hk
  refine⟨_,_,t,_,?_,hr,hk⟩
  simp only[q8,e]
  have e2:first++[AV.func (.yield nx) [] []]++cap=first++AV.func (.yield nx) [] []::cap:=by simp
  rw[e2,e1]
  simp only[hg]
  rw[if_neg hb]
 | _=>cases hk
theorem kcode_ok (ok:KROk R rec) {n:Nat} :∀{c:AC} {t:TT} {a:List AV} {h:H} {k:KE},Rl n t a→kcode R n c t h k=true→∃e a' t' h',q8 rec c a h=some (e,a',h')∧Rl n t' a'∧k e t' h'=true
 | .skip,t,a,h,k,hr,hk=>⟨.normal,a,t,h,rfl,hr,hk⟩
 | .ret,t,a,h,k,hr,hk=>⟨.ret,a,t,h,rfl,hr,hk⟩
 | .exit id,t,a,h,k,hr,hk=>⟨.exit id,a,t,h,rfl,hr,hk⟩
 | .region ops,t,a,h,k,hr,hk=>by
  obtain⟨a',t',h',e,r',hk⟩:=kops_ok ok (k:=fun t h=>k .normal t h) hr hk
  exact⟨.normal,a',t',h',by simp only[q8,e],r',hk⟩
 | .regionD ops,t,a,h,k,hr,hk=>by
  obtain⟨a',t',h',e,r',hk⟩:=kopsD_ok ok (k:=fun t h=>k .normal t h) hr hk
  exact⟨.normal,a',t',h',by simp only[q8];rw[show aopsD rec ops 0 a h []=_ from e],r',hk⟩
 | .seq x y,t,a,h,k,hr,hk=>by
  have hk':kcode R n x t h (fun e t h=>Ex.casesOn e (kcode R n y t h k) (k .ret t h) (fun i=>k (.exit i) t h))=true:=hk
  obtain⟨e,a1,t1,h1,e1,r1,hk⟩:=kcode_ok ok hr hk'
  cases e with
  | normal=>
   obtain⟨e,a2,t2,h2,e2,r2,hk⟩:=kcode_ok ok r1 hk
   exact⟨e,a2,t2,h2,by simp only[q8,e1,e2],r2,hk⟩
  | ret=>exact⟨.ret,a1,t1,h1,by simp only[q8,e1],r1,hk⟩
  | exit i=>exact⟨.exit i,a1,t1,h1,by simp only[q8,e1],r1,hk⟩
 | .cond c x y,t,a,h,k,hr,hk=>by
  have hk':kev c t (fun v=>onBool v fun b=>Bool.rec (kcode R n y t h k) (kcode R n x t h k) b)=true:=hk
  rw[q59 hr]at hk'
  obtain⟨b,e,hk⟩:=onBool_ok hk'
  cases b with
  | true=>
   obtain⟨e1,a2,t2,h2,e2,r2,hk⟩:=kcode_ok ok hr hk
   exact⟨e1,a2,t2,h2,by simp only[q8,e,e2],r2,hk⟩
  | false=>
   obtain⟨e1,a2,t2,h2,e2,r2,hk⟩:=kcode_ok ok hr hk
   exact⟨e1,a2,t2,h2,by simp only[q8,e,e2],r2,hk⟩
 | .block id x,t,a,h,k,hr,hk=>by
  have hk':kcode R n x t h (fun e t h=>Ex.casesOn e (k .normal t h) (k .ret t h) (fun i=>Bool.rec (k (.exit i) t h) (k .normal t h) (Nat.beq i id)))=true:=hk
  obtain⟨e,a1,t1,h1,e1,r1,hk⟩:=kcode_ok ok hr hk'
  cases e with
  | normal=>exact⟨.normal,a1,t1,h1,by simp only[q8,e1],r1,hk⟩
  | ret=>exact⟨.ret,a1,t1,h1,by simp only[q8,e1],r1,hk⟩
  | exit i=>
   have hk:Bool.rec (k (.exit i) t1 h1) (k .normal t1 h1) (Nat.beq i id)=true:=hk
   cases hb:Nat.beq i id with
   | true=>rw[hb]at hk;exact⟨.normal,a1,t1,h1,by simp only[q8,e1];rw[if_pos (Nat.eq_of_beq_eq_true hb)],r1,hk⟩
   | false=>rw[hb]at hk;exact⟨.exit i,a1,t1,h1,by simp only[q8,e1];rw[if_neg (q53 hb)],r1,hk⟩
 | .loop sc x,t,a,h,k,hr,hk=>by
  have hk':kscrub n sc t (fun t=>kcode R n x t h fun e t h=>Ex.casesOn e (R.code (.loop sc x) n t h k) (k .ret t h) (fun i=>k (.exit i) t h))=true:=hk
  obtain⟨t0,hk,r0⟩:=kscrub_ok hr hk'
  obtain⟨e,a1,t1,h1,e1,r1,hk⟩:=kcode_ok ok r0 hk
  cases e with
  | normal=>
   obtain⟨e,a2,t2,h2,e2,r2,hk⟩:=ok.code _ _ _ _ _ hk _ r1
   exact⟨e,a2,t2,h2,by simp only[q8,e1,e2],r2,hk⟩
  | ret=>exact⟨.ret,a1,t1,h1,by simp only[q8,e1],r1,hk⟩
  | exit i=>exact⟨.exit i,a1,t1,h1,by simp only[q8,e1],r1,hk⟩
 | .rangeFunc f ps asg body,t,a,h,k,hr,hk=>krange_ok ok hr hk
theorem kares_ok {n:Nat} {t:TT} {a:List AV} {h:H} {r:ARes} {k:AV→Bool} (hr:Rl n t a) (hk:kares t h r k=true):∃v,ares a h r=some v∧k v=true:=by
 cases r with
 | tmp i=>
  have hk:t.gk i k=true:=hk
  rw[TT.gk_eq,hr.get]at hk
  exact⟨_,rfl,hk⟩
 | cell i=>
  have hk:t.gk i (fun v=>onPtr v fun b o=>h.ck b fun _ _ cs=>lgk cs o k)=true:=hk
  rw[TT.gk_eq,hr.get]at hk
  obtain⟨b,o,e,hk⟩:=onPtr_ok hk
  obtain⟨ver,rw_,cs,h1,hk⟩:=H.ck_ok hk
  obtain⟨v,h2,hk⟩:=lgk_ok hk
  exact⟨v,by simp only[ares,e,getCell,h1,h2],hk⟩
 | cells i m=>
  have hk:t.gk i (fun v=>onPtr v fun b o=>gck h b o m fun cs=>k (.agg cs))=true:=hk
  rw[TT.gk_eq,hr.get]at hk
  obtain⟨b,o,e,hk⟩:=onPtr_ok hk
  obtain⟨cs,h1,_,hk⟩:=gck_ok hk
  exact⟨_,by simp only[ares,e,h1,Option.map_some],hk⟩
theorem karesL_ok {n:Nat} {t:TT} {a:List AV} {h:H} (hr:Rl n t a):∀{l:List ARes} {k:List AV→Bool},karesL t h l k=true→∃vs,aresAll a h l=some vs∧k vs=true
 | [],k,hk=>⟨[],rfl,hk⟩
 | r::l,k,hk=>by
  obtain⟨v,e1,hk⟩:=kares_ok (k:=fun v=>karesL t h l fun vs=>k (v::vs)) hr hk
  obtain⟨vs,e2,hk⟩:=karesL_ok hr hk
  exact⟨v::vs,by simp only[aresAll,e1,e2],hk⟩
theorem kpack_eq (l:List AV) (k:AV→Bool):kpack l k=k (packRes l):=by
 cases l with
 | nil=>rfl
 | cons v l=>cases l<;>rfl
theorem kfin_ok {n:Nat} {t:TT} {a:List AV} {h:H} {res:List ARes} {k:AV→H→Bool} (hr:Rl n t a) (hk:kfin res t h k=true):∃vs,aresAll a h res=some vs∧k (packRes vs) h=true:=by
 obtain⟨vs,e,hk⟩:=karesL_ok hr hk
 rw[kpack_eq]at hk
 exact⟨vs,e,hk⟩
theorem tget_padK:∀(l:List AV) (n j:Nat),tget (l++List.replicate n .junk) j=tget l j
 | [],n,j=>by
  simp only[List.nil_append]
  induction n generalizing j with
  | zero=>rfl
  | succ n ih=>cases j with
   | zero=>rfl
   | succ j=>simp only[List.replicate_succ,tget];exact(ih j)
 | x::l,n,0=>rfl
 | x::l,n,j+1=>by simp only[List.cons_append,tget];exact tget_padK l n j
theorem kcallF_ok (ok:KROk R rec) {T:KT} {g:FuncId} {args:List AV} {h:H} {k:AV→H→Bool} (hk:kcallF R T g args h k=true):∃v h',acallF rec T.find g args h=some (v,h')∧k v h'=true:=by
 rcases KT.fk_ok hk with⟨F,hF,hk⟩ | ⟨hF,hk⟩ | ⟨hF,hk⟩
 ·obtain⟨nt,res,body⟩:=F
  obtain⟨h1,hk⟩:=kif_ok hk
  rw[klen_eq]at h1
  have h1:=Nat.le_of_ble_eq_true h1
  obtain⟨t,hk,ht⟩:=kload_ok hk
  have hr:Rl nt t (padTo args nt):=⟨by simp[padTo];omega,fun i=>by rw[ht,padTo,tget_padK]⟩
  obtain⟨e,a1,t1,h1,e1,r1,hk⟩:=kcode_ok ok hr hk
  cases e with
  | normal=>
   obtain⟨vs,e2,hk⟩:=kfin_ok r1 hk
   exact⟨_,_,by simp only[acallF,hF,e1,e2],hk⟩
  | ret=>
   obtain⟨vs,e2,hk⟩:=kfin_ok r1 hk
   exact⟨_,_,by simp only[acallF,hF,e1,e2],hk⟩
  | exit i=>cases hk
 ·cases args with
  | nil=>exact⟨_,_,by simp only[acallF,hF,primTrue],hk⟩
  | cons x l=>cases hk
 ·obtain⟨v,h',e,hk⟩:=kTz_ok hk
  exact⟨v,h',by simp only[acallF,hF,e],hk⟩
end
theorem krun_ok (T:KT):∀n,KROk (krun T n) (run T.find n)
 | 0=>⟨fun _ _ _ _ _ h=>by(cases h),fun _ _ _ _ h=>by(cases h)⟩
 | n+1=>⟨fun c m t h k hk a hr=>kcode_ok (krun_ok T n) hr hk,fun g args h k hk=>kcallF_ok (krun_ok T n) hk⟩
noncomputable def kclosed (T:KT) (n:Nat) (g:FuncId):Bool:=(krun T n).call g [] ⟨nat_lit 0,.leaf⟩ fun v _=>onBool v fun b=>b
theorem kclosed_ok {T:KT} {n:Nat} {g:FuncId} (h:kclosed T n g=true):∃h',(run T.find n).call g [] H.empty=some (.bool true,h'):=by
 obtain⟨v,h',e,hk⟩:=(krun_ok T n).call _ _ _ _ h
 obtain⟨b,rfl,hb⟩:=onBool_ok hk
 have hb:b=true:=hb
 subst hb
 exact⟨h',e⟩
end Go.Am

