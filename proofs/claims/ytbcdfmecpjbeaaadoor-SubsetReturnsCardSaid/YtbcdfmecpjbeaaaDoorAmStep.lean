/- One operation in a world, and a region in the order of its text. -/
import Derived.Test.YtbcdfmecpjbeaaaDoorAmCall
set_option linter.unusedVariables false
set_option linter.unusedSimpArgs false
namespace Go.Am
section
variable {P:Program} {ρ:Emb} {w:World} {a:List AV} {act:Act} {h h':H} {o:Oper} {ao:AO} {v:AV} {rd:List Nat} {rec:Rec} {m:Nat}
theorem trOp_nodefer (htr:trOp P o=some ao):∀c,o.op≠ .defer c:=by
 intro c e
 rcases trOp_cases _ htr with h0 | ⟨_,h0⟩
 ·simp[q29,e]at h0
 ·rw[e]at h0;cases h0
theorem wpIn_of {ro:Option Nat} {next:Act→World→Prop} {Q:Exit→Act→World→Prop} (htr:trOp P o=some ao) (hu:o.uponIn (Fn ro) 0 P act next Q ((execOp act.eval o).run P w)):o.wpIn (Fn ro) 0 P act w next Q:=
 ⟨fun _ _=>trivial,by rw[Oper.semAt_eq _ _ _ (trOp_nodefer htr)];exact hu⟩
theorem trOp_call {f:AR} {args:List AR} (htr:trOp P o=some (.call f args)):∃c fo,o.op= .call c∧c.callee= .value fo∧trR fo=some f∧trRs c.args.toList=some args:=by
 have htr:q29 P o=some (.call f args):=(trOp_cases _ htr).resolve_right fun q=>by cases q.1
 rcases trOp_eff htr rfl with⟨t,p,x,ho⟩ | ⟨t,m,k,x,ho⟩ | ⟨c,ho⟩
 ·simp only[q29,ho]at htr;split at htr<;>cases htr
 ·rcases ho with ho | ho
  all_goals (simp only[q29,ho]at htr;repeat' split at htr)
  all_goals cases htr
 ·cases hc:c.callee with
  | builtin b=>
   simp only[q29,ho,hc]at htr
   rcases trBuiltin_eff htr rfl with⟨_,_,_,_,_,e⟩ | ⟨_,_,_,_,_,e⟩ | ⟨_,_,_,_,e⟩ | ⟨_,_,_,e⟩<;>cases e
  | value fo=>
   simp only[q29,ho,hc]at htr
   split at htr
   ·rename_i h1 h2;cases htr;exact⟨c,fo,ho,hc,h1,h2⟩
   ·cases htr
  | invoke r m=>simp[q29,ho,hc]at htr
theorem step_ev (ok:RecOk P rec m) (hrun:astep rec ao a h=some (v,h',rd)):Ev h h':=by
 cases ao with
 | call f args=>
  simp only[astep]at hrun
  split at hrun
  ·rename_i hv;cases hrun;exact callV_ev ok hv
  ·cases hrun
 | _=>simp only[astep]at hrun;exact aop_ev hrun
theorem sim_step (ok:RecOk P rec m) (htr:trOp P o=some ao) (hrun:astep rec ao a h=some (v,h',rd)) {ro:Option Nat} {next:Act→World→Prop} {Q:Exit→Act→World→Prop} (ht:Ops ρ a act ao.uses) (hr:HR P ρ h w) (hfr:Fresh ρ h h')
  (hk:∀u ρ' w',VR ρ' v u→HR P ρ' h' w'→Stp ρ h w ρ' h' w'→next (act.put o.dst u) w'):o.wpIn (Fn ro) 0 P act w next Q:=by
 refine wpIn_of htr ?_
 by_cases hc:∃f args,ao= .call f args
 ·obtain⟨f,args,rfl⟩:=hc
  obtain⟨c,fo,ho,hcc,h1,h2⟩:=trOp_call htr
  simp only[AO.uses]at ht
  have hf:=q21 h1 ht.left
  have ha:=trRs_ok h2 ht.right
  simp only[astep]at hrun
  split at hrun
  ·rename_i hv;cases hrun
   have hw:=callV_ok ok hv hf ha hr hfr
   have e:(execOp act.eval o).run P w=(do let d ←Deferred.ofValue (act.eval fo) (c.args.toList.map act.eval).toArray;invoke d.target d.args:Sem Next).run P w:=by
    have e1:(c.args.map act.eval)=(c.args.toList.map act.eval).toArray:=by apply Array.ext';simp
    simp only[execOp,ho,resolve,hcc,e1]
   rw[e]
   generalize (Sem.run P (do let d ←Deferred.ofValue (act.eval fo) (c.args.toList.map act.eval).toArray;invoke d.target d.args:Sem Next) w)=R at hw
   cases hw with
   | enter g as hcall=>
    rw[Oper.uponIn_enter]
    refine⟨fun hh=>by simp[Fn,Fence.wide]at hh,CallsIn.mono (F:=Fn ro) (show CallsIn (Fn ro) 0 P g as w _ from hcall) ?_⟩
    rintro e w' ⟨u,ρ',rfl,q1,q2,q3⟩
    exact hk u ρ' w' q1 q2 q3
   | round l f tmps asg body hround=>
    rw[Oper.uponIn_round]
    refine⟨fun hh=>by simp[Fn,Fence.wide]at hh,RoundIn.mono (F:=Fn ro) (show RoundIn (Fn ro) 0 P l f tmps asg body w _ from hround) ?_⟩
    rintro e w' ⟨u,ρ',rfl,q1,q2,q3⟩
    exact hk u ρ' w' q1 q2 q3
  ·cases hrun
 ·have hrun':aop a h ao=some (v,h',rd):=by
   cases ao<;>first | exact hrun | exact absurd ⟨_,_,rfl⟩ hc
  cases he:ao.effect with
  | false=>
   obtain⟨u,⟨rfl,e,hv⟩ | ⟨ob,cb,l,rfl,hb,e,hv⟩⟩:=ne_ok htr he hrun' ht (fun x hx l ob hl hg=>hr.obj x l ob hl hg)
   ·rw[e];exact hk u ρ w hv hr (Stp.refl _ _ _)
   ·have hn:=hfr h.next (Nat.le_refl _) (by simp)
    obtain⟨h1,h2⟩:=hv hn
    obtain⟨g1,g2⟩:=HR.alloc hr hn hb h2
    rw[e];exact hk u _ _ h1 g1 g2
  | true=>
   obtain⟨u,w',ρ',e | ⟨e,rfl⟩,h1,h2,h3⟩:=eff_ok htr he (fun f args e=>hc ⟨f,args,e⟩) hrun' ht hr hfr
   ·rw[e];exact hk u ρ' w' h1 h2 h3
   ·rw[e];exact hk _ ρ' w' h1 h2 h3
theorem TR.ops {ts:List Nat} (ht:TR ρ a act.tmps):Ops ρ a act ts:=fun t _=>ht.get t
theorem wanted_ok {ops:Array Oper} {g:Option (Nat×Bool)} {b:Bool} (ht:∀t bb,g=some (t,bb)→VR ρ (tget a t) (act.tmps.getD t undef)) (hsz:act.tmps.size=a.length)
  (hg:match o.guard with | none=>g=none | some (j,want)=>∃d,(ops[j]?).bind (·.dst)=some d∧g=some (d,want)):
  q61 a g=some b→Region.wanted o (yielded ops act.tmps)=b:=by
 intro hw
 unfold Region.wanted
 cases hog:o.guard with
 | none=>rw[hog]at hg;subst hg;simpa [q61] using hw
 | some p=>
  obtain⟨j,want⟩:=p
  rw[hog]at hg
  obtain⟨d,hd,rfl⟩:=hg
  have hv:=ht d want rfl
  have hlt:d<act.tmps.size:=by
   rcases Nat.lt_or_ge d act.tmps.size with h0 | h0
   ·exact h0
   ·have hj:tget a d= .junk:=by rw[tget_eq,List.getElem?_eq_none (by omega)];rfl
    simp[q61,hj]at hw
  have hget:act.tmps[d]? =some (act.tmps.getD d undef):=by
   rw[Array.getElem?_eq_getElem hlt,Array.getD_eq_getD_getElem?,Array.getElem?_eq_getElem hlt];rfl
  simp only[q61]at hw
  simp only[yielded,hd,Option.bind_some,hget]
  split at hw
  ·rename_i c hc
   rw[hc]at hv
   rw[hv.bool_inv]
   cases hw
   cases c<;>cases want<;>rfl
  ·rename_i vs hc
   rw[hc]at hv
   obtain⟨us,e,_⟩:=hv.tuple_inv
   rw[e]
   cases hw
   rfl
  ·cases hw
theorem trOper_ok {ops:Array Oper} {x:AOper} (htr:trOper P ops o=some x):trOp P o=some x.op∧x.dst=o.dst∧x.chk=[]∧
  (match o.guard with | none=>x.guard=none | some (j,want)=>∃d,(ops[j]?).bind (·.dst)=some d∧x.guard=some (d,want)):=by
 unfold trOper at htr
 split at htr
 ·rename_i ao hao
  split at htr
  ·rename_i hg;cases htr;exact⟨hao,rfl,rfl,by rw[hg]⟩
  ·rename_i j want hg
   split at htr
   ·rename_i d hd;cases htr;exact⟨hao,rfl,rfl,by rw[hg];exact⟨d,hd,rfl⟩⟩
   ·cases htr
 ·cases htr
theorem length_put (a:List AV) (d:Option Nat) (v:AV):(put a d v).length=a.length:=by cases d<;>simp[put,length_tset]
theorem ops_ev (ok:RecOk P rec m):∀{xs:List AOper} {a a':List AV} {h h':H},aops rec xs a h=some (a',h')→Ev h h'
 | [],a,a',h,h',hrun=>by cases hrun;exact Ev.refl h
 | x::xs,a,a',h,h',hrun=>by
  simp only[aops]at hrun
  split at hrun
  ·split at hrun
   ·rename_i hs;exact(step_ev ok hs).trans (ops_ev ok hrun)
   ·cases hrun
  ·exact ops_ev ok hrun
  ·cases hrun
theorem sim_ops (ok:RecOk P rec m) {ops:Array Oper} {ro:Option Nat} {Q:Exit→Act→World→Prop} :∀{xs:List AOper} {os:List Oper} {k:Nat} {a a':List AV} {h h':H} {B:Nat} {ρ:Emb} {w:World} {act:Act},
  (∀j,os[j]? =ops[k+j]?)→optAll (trOper P ops) os=some xs→aops rec xs a h=some (a',h')→TR ρ a act.tmps→HR P ρ h w→Fresh ρ h h'→MK B ρ w act.defers→
  (∀ρ' w' act',TR ρ' a' act'.tmps→HR P ρ' h' w'→Stp ρ h w ρ' h' w'→MK B ρ' w' act'.defers→Q .normal act' w')→
  wpOpsIn (Fn ro) 0 P ops Q (List.range' k os.length) act w
 | xs,[],k,a,a',h,h',B,ρ,w,act,hos,htr,hrun,ht,hr,hfr,hmk,hQ=>by
  cases htr
  cases hrun
  exact hQ ρ w act ht hr (Stp.refl _ _ _) hmk
 | xs,o::os,k,a,a',h,h',B,ρ,w,act,hos,htr,hrun,ht,hr,hfr,hmk,hQ=>by
  have h0:ops[k]? =some o:=by simpa using (hos 0).symm
  unfold optAll at htr
  split at htr
  ·rename_i x xs' hx hxs
   cases htr
   obtain⟨q1,q2,q3,q4⟩:=trOper_ok hx
   have hos':∀j,os[j]? =ops[k+1+j]? :=fun j=>by
    have:=hos (j+1)
    rw[show k+1+j=k+(j+1) from by omega,←this];simp
   have hsz:act.tmps.size=a.length:=by have:=ht.1;simpa using this
   simp only[List.length_cons,List.range'_succ,wpOpsIn,h0]
   simp only[aops]at hrun
   split at hrun
   ·rename_i hw
    split at hrun
    ·rename_i v h1 rd hs
     have e1:=step_ev ok hs
     have e2:=ops_ev ok hrun
     rw[wanted_ok (fun t bb _=>ht.get t) hsz q4 hw]
     simp only[if_true]
     refine sim_step ok q1 hs ht.ops hr (hfr.first e2) ?_
     intro u ρ1 w1 hv hr1 s1
     rw[←q2]
     exact sim_ops ok hos' hxs hrun ((ht.mono s1.sub).put x.dst hv) hr1 (hfr.rest e1 s1) (by cases x.dst<;>exact hmk.step s1)
      (fun ρ' w' act' t' r' s' m'=>hQ ρ' w' act' t' r' (s1.trans s' e1 e2 hfr) m')
    ·cases hrun
   ·rename_i hw
    rw[wanted_ok (fun t bb _=>ht.get t) hsz q4 hw]
    simp only[Bool.false_eq_true,if_false]
    refine⟨fun _ _=>trivial,?_⟩
    rw[←q2]
    exact sim_ops ok hos' hxs hrun (ht.put x.dst VR.undef) hr hfr (by cases x.dst<;>exact hmk) hQ
   ·cases hrun
  ·cases htr
end
end Go.Am

