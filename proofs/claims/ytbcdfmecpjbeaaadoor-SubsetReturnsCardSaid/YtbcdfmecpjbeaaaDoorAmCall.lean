/- Calls, and operations one by one, in a world. -/
import Derived.Test.YtbcdfmecpjbeaaaDoorAmEff
import Derived.RangeFuncLeaves
import Derived.LoopNIn
set_option linter.unusedVariables false
set_option linter.unusedSimpArgs false
namespace Go.Am
def Fn (ro:Option Nat):Fence:={Fence.wide with round:=ro}
def Fresh (ρ:Emb) (h h':H):Prop:=∀y,h.next≤y→y<h'.next→ρ y=none
theorem Fresh.first {ρ:Emb} {h h1 h2:H} (hf:Fresh ρ h h2) (e:Ev h1 h2):Fresh ρ h h1:=fun y a b=>hf y a (Nat.lt_of_lt_of_le b e.next)
theorem Fresh.rest {ρ ρ1:Emb} {h h1 h2:H} {w w1:World} (hf:Fresh ρ h h2) (e:Ev h h1) (s:Stp ρ h w ρ1 h1 w1):Fresh ρ1 h1 h2:=fun y a b=>by
 cases hy:ρ1 y with
 | none=>rfl
 | some l=>
  rcases s.dom y l hy with h0 | ⟨_,h0⟩
  ·rw[hf y (Nat.le_trans e.next a) b]at h0;cases h0
  ·omega
def MK (B:Nat) (ρ:Emb) (w:World):List Deferred→Prop
 | []=>True
 | d::ds=>(∃D,B≤D∧d={target:= .collected D,args:= #[]}∧w.heap[D]? =some (.deferred (some []))∧(∀x l,ρ x=some l→l.blk≠D)∧({target:= .collected D,args:= #[]} :Deferred)∉ds)∧MK B ρ w ds
theorem MK.step {B:Nat} {ρ ρ':Emb} {h h':H} {w w':World} (s:Stp ρ h w ρ' h' w'):∀{ds:List Deferred},MK B ρ w ds→MK B ρ' w' ds
 | [],_=>trivial
 | d::ds,⟨⟨D,hB,h1,h2,h3,h4⟩,hr⟩=>by
  have hlt:D<w.heap.size:=(Array.getElem?_eq_some_iff.1 h2).1
  refine⟨⟨D,hB,h1,?_,fun x l hx=>?_,h4⟩,MK.step s hr⟩
  ·rw[s.frame D hlt (fun x l o hx _ _=>h3 x l hx)];exact h2
  ·rcases s.own x l hx with h0 | h0 | ⟨y,ly,oy,hy,_,_,e⟩
   ·exact h3 x l h0
   ·omega
   ·rw[e];exact h3 y ly hy
def Ctx (ro:Option Nat) (ρ:Emb) (h:H):Prop:=∀l,ro=some l→∃x lx ver r,ρ x=some lx∧lx.blk=l∧h.get x=some (.loop ver r)
theorem Ctx.step {ro:Option Nat} {ρ ρ':Emb} {h h':H} (hc:Ctx ro ρ h) (hs:Sub ρ ρ') (e:Ev h h'):Ctx ro ρ' h':=fun l hl=>by
 obtain⟨x,lx,ver,r,h1,h2,h3⟩:=hc l hl
 obtain⟨v',q',h4⟩:=e.isLoop h3
 exact⟨x,lx,v',q',hs _ _ h1,h2,h4⟩
def RPost (P:Program) (ρ:Emb) (h:H) (w:World) (v:AV) (h':H):Ending→World→Prop:=fun e w'=>∃u ρ',e= .returned u∧VR ρ' v u∧HR P ρ' h' w'∧Stp ρ h w ρ' h' w'
def Ex.toExit:Ex→Exit
 | .normal=> .normal
 | .ret=> .ret
 | .exit id=> .exit id
def CPost (P:Program) (B:Nat) (ρ:Emb) (h:H) (w:World) (e:Ex) (a':List AV) (h':H):Exit→Act→World→Prop:=fun x act' w'=>
 x=e.toExit∧∃ρ',TR ρ' a' act'.tmps∧HR P ρ' h' w'∧Stp ρ h w ρ' h' w'∧MK B ρ' w' act'.defers
def jumpsIn (F:Fence) (n:Nat) (P:Program) (l:Nat) (c:Code) (Q:Exit→Act→World→Prop):Nat→Act→World→Prop
 | 0,_,_=>False
 | m+1,a,w=>c.wpIn F n P (fun e a w=>match e with | .goto l'=>l'=l∧jumpsIn F n P l c Q m a w | e=>Q e a w) a w
def unE (l:Nat):Ex→Ex
 | .exit id=>if id=2097152+l then .normal else .exit id
 | e=>e
structure RecOk (P:Program) (rec:Rec) (m:Nat):Prop where
 callEv:∀g args h v h',rec.call g args h=some (v,h')→Ev h h'
 callFn:∀g args h v h',rec.call g args h=some (v,h')→∃fn,P.funcs[g]? =some fn∧fn.body.isSome=true∧(fn.name== "runtime.NumGoroutine")=false
 call:∀g args h v h',rec.call g args h=some (v,h')→∀ρ w us,VRs ρ args us→HR P ρ h w→Fresh ρ h h'→CallsIn Fence.wide 0 P g us.toArray w (RPost P ρ h w v h')
 codeEv:∀ac a h e a' h',rec.code ac a h=some (e,a',h')→Ev h h'
 code:∀c ac,CodeRel P c ac→∀a h e a' h',rec.code ac a h=some (e,a',h')→∀ro B ρ w act,B≤w.heap.size→Ctx ro ρ h→TR ρ a act.tmps→HR P ρ h w→Fresh ρ h h'→MK B ρ w act.defers→
  c.wpIn (Fn ro) 0 P (CPost P B ρ h w e a' h') act w
 loop:∀c ac,CodeRel P c ac→∀sc a h e a' h',rec.code (.loop sc ac) a h=some (e,a',h')→∀ro B ρ w act,B≤w.heap.size→Ctx ro ρ h→TR ρ a act.tmps→HR P ρ h w→Fresh ρ h h'→MK B ρ w act.defers→
  Code.roundsIn (Fn ro) 0 P c (CPost P B ρ h w e a' h') m act w
 jump:∀l c ac,RelJ P l c ac→∀sc a h e a' h',rec.code (.loop sc (.block (1048576+l) (.seq ac (.exit (2097152+l))))) a h=some (e,a',h')→∀ro B ρ w act,B≤w.heap.size→Ctx ro ρ h→TR ρ a act.tmps→HR P ρ h w→Fresh ρ h h'→MK B ρ w act.defers→
  jumpsIn (Fn ro) 0 P l c (CPost P B ρ h w (unE l e) a' h') m act w
section
variable {P:Program} {ρ:Emb} {w:World} {a:List AV} {act:Act} {h h':H} {o:Oper} {ao:AO} {v:AV} {rd:List Nat} {rec:Rec} {m:Nat}
theorem setAll_ok:∀{ps:List Nat} {args:List AV} {us:List Value} {b:List AV} {tmps:Array Value},TR ρ b tmps→VRs ρ args us→TR ρ (setAll b ps args) ((ps.zip us).foldl (fun tmps (x:Nat×Value)=>tmps.setIfInBounds x.1 x.2) tmps)
 | [],args,us,b,tmps,hb,hv=>by cases args<;>simpa [setAll] using hb
 | p::ps,[],us,b,tmps,hb,hv=>by rw[hv.nil_inv];simpa [setAll] using hb
 | p::ps,x::args,us,b,tmps,hb,hv=>by
  obtain⟨u,us',rfl,h1,h2⟩:=hv.cons_inv
  simp only[setAll,List.zip_cons_cons,List.foldl_cons]
  exact setAll_ok (hb.set p h1) h2
theorem LoopRel.busy {r:ALoop} {r':Loop} (hl:LoopRel P ρ r r'):LoopRel P ρ {r with state:= .busy} {r' with state:= .busy} :=⟨rfl,hl.pending,hl.nojump,hl.tmps,hl.params,hl.asg,hl.body⟩
inductive Went (P:Program) (ρ:Emb) (h:H) (w:World) (v:AV) (h':H):Result Next→Prop
 | enter (g:FuncId) (args:Array Value) (hc:CallsIn Fence.wide 0 P g args w (RPost P ρ h w v h')):Went P ρ h w v h' (.ok (.enter g args) w)
 | round (l:Nat) (f:FuncId) (tmps:Array Value) (asg body:Code) (hc:RoundIn Fence.wide 0 P l f tmps asg body w (RPost P ρ h w v h')):Went P ρ h w v h' (.ok (.round l f tmps asg body) w)
theorem callV_ev (ok:RecOk P rec m) {f:AV} {args:List AV} (hrun:acallV rec f args h=some (v,h')):Ev h h':=by
 unfold acallV at hrun
 split at hrun
 ·exact ok.callEv _ _ _ _ _ hrun
 ·rename_i l first cap
  split at hrun
  ·rename_i ver r hg
   split at hrun
   ·split at hrun
    ·rename_i a1 h1 hasg
     have e1:=ok.codeEv _ _ _ _ _ _ hasg
     split at hrun
     ·rename_i v1 r1 hg1
      split at hrun
      ·split at hrun
       ·rename_i e a2 h3 hbody
        have e2:=ok.codeEv _ _ _ _ _ _ hbody
        have e0:Ev h1 (h1.set l (.loop (v1+1) {r1 with state:= .busy})):=Ev.set hg1 (.inr (.inr ⟨v1,v1+1,rfl,rfl,by omega,rfl,rfl,rfl⟩)) rfl
        split at hrun
        ·rename_i v3 r3 hg3
         split at hrun<;>cases hrun
         all_goals exact((e1.trans e0).trans e2).trans (Ev.set hg3 (.inr (.inr ⟨v3,v3+1,rfl,rfl,by omega,rfl,rfl,rfl⟩)) rfl)
        ·cases hrun
       ·cases hrun
      ·cases hrun
     ·cases hrun
    ·cases hrun
   ·cases hrun
  ·cases hrun
 ·cases hrun
theorem callV_ok (ok:RecOk P rec m) {f:AV} {args:List AV} {fv:Value} {us:List Value} (hrun:acallV rec f args h=some (v,h')) (hf:VR ρ f fv) (hargs:VRs ρ args us) (hr:HR P ρ h w) (hfr:Fresh ρ h h'):
  Went P ρ h w v h' ((do let d ←Deferred.ofValue fv us.toArray;invoke d.target d.args:Sem Next).run P w):=by
 have hrun0:=hrun
 unfold acallV at hrun
 split at hrun
 ·rename_i g first cap
  cases hf with
  | func _ _ _ f' c' hp hfl hcl h1 h2=>
   obtain⟨fn,q1,q2,q3⟩:=ok.callFn _ _ _ _ _ hrun
   have hall:VRs ρ (first++args++cap) (f'++us++c'):=(VRs.append (VRs.append ⟨hfl,h1⟩ hargs) ⟨hcl,h2⟩)
   have hc:=ok.call _ _ _ _ _ hrun ρ w _ hall hr hfr
   have e:(do let d ←Deferred.ofValue (.func (.func g) f'.toArray c'.toArray) us.toArray;invoke d.target d.args:Sem Next).run P w= .ok (.enter g (f'++us++c').toArray) w:=by
    have hb:fn.body.isNone=false:=by cases hb:fn.body<;>simp_all
    simp only[Deferred.ofValue,Sem.run_bind,Sem.run_pure,Result.andThen_ok,invoke,callFunc,run_program,q1]
    rw[if_neg (by rw[q3];simp),if_neg (by rw[hb];simp)]
    simp
   rw[e]
   exact .enter _ _ hc
 ·rename_i l first cap
  cases hf with
  | func _ _ _ f' c' hp hfl hcl h1 h2=>simp[plainFn]at hp
  | yield r lx hlx=>
   split at hrun
   ·rename_i ver rr hg
    split at hrun
    ·rename_i hlen
     obtain⟨r',hr1,hr2⟩:=hr.obj l lx _ hlx hg
     simp only[List.nil_append]at hlen hrun
     have hsz:us.toArray.size=r'.params.size:=by
      have h1:=hargs.1
      have h2:r'.params.toList.length=rr.params.length:=by rw[hr2.params]
      simp at h2 ⊢
      omega
     have e:(do let d ←Deferred.ofValue (.func (.yield lx.blk) #[] #[]) us.toArray;invoke d.target d.args:Sem Next).run P w=
       .ok (.round lx.blk r'.fn ((r'.params.zip us.toArray).foldl (fun tmps (t,a)=>tmps.setIfInBounds t a) r'.tmps) r'.assign r'.body) w:=by
      simp only[Deferred.ofValue,Sem.run_bind,Sem.run_pure,Result.andThen_ok,invoke]
      rw[Array.empty_append]
      exact run_yield hr1 hsz
     rw[e]
     refine .round _ _ _ _ _ ?_
     have ht:TR ρ (setAll rr.tmps rr.params args) ((r'.params.zip us.toArray).foldl (fun tmps (t,a)=>tmps.setIfInBounds t a) r'.tmps):=by
      have:=setAll_ok (ps:=rr.params) hr2.tmps hargs
      rw[←hr2.params]at this ⊢
      rw[←Array.foldl_toList]
      simpa using this
     refine roundIn_of_wpIn (F:=Fence.wide) trivial ?_
     have hctx:Ctx (some lx.blk) ρ h:=fun l' e'=>by cases e';exact⟨l,lx,ver,rr,hlx,rfl,hg⟩
     split at hrun
     ·rename_i a1 h1 hasg
      have ev1:=ok.codeEv _ _ _ _ _ _ hasg
      have evT:=callV_ev ok hrun0
      split at hrun
      ·rename_i v1 r1 hg1
       split at hrun
       ·rename_i hready
        split at hrun
        ·rename_i ee a2 h3 hbody
         have ev0:Ev h1 (h1.set l (.loop (v1+1) {r1 with state:= .busy})):=Ev.set hg1 (.inr (.inr ⟨v1,v1+1,rfl,rfl,by omega,rfl,rfl,rfl⟩)) rfl
         have ev2:=ok.codeEv _ _ _ _ _ _ hbody
         split at hrun
         ·rename_i v3 r3 hg3
          have hnext:h'.next=h3.next:=by split at hrun<;>cases hrun<;>rfl
          have evF:Ev h3 h':=by
           split at hrun<;>cases hrun
           all_goals exact Ev.set hg3 (.inr (.inr ⟨v3,v3+1,rfl,rfl,by omega,rfl,rfl,rfl⟩)) rfl
          have fr1:Fresh ρ h h1:=fun y p q=>hfr y p (by have:=ev0.next;have:=ev2.next;omega)
          have hw1:=ok.code _ _ hr2.asg _ _ _ _ _ hasg (some lx.blk) 0 ρ w {tmps:=_,defers:=[]} (Nat.zero_le _) hctx ht hr fr1 trivial
          refine wpIn_mono hw1 ?_
          rintro x act1 w1 ⟨rfl,ρ1,t1,hr1',s1,mk1⟩
          simp only[Ex.toExit,Exit.then]
          have hlx1:=s1.sub _ _ hlx
          obtain⟨r1',q1,q2⟩:=hr1'.obj l lx _ hlx1 hg1
          have hst:r1'.state= .ready:=by rw[q2.state];exact hready
          have hlt1:lx.blk<w1.heap.size:=(Array.getElem?_eq_some_iff.1 q1).1
          refine⟨_,run_beginRound q1 hst,?_⟩
          obtain⟨hrb,sb⟩:=HR.turn (o':= .loop (v1+1) {r1 with state:= .busy}) (w':=w1.putObj lx.blk (.loop {r1' with state:= .busy})) hr1' hlx1 hg1 rfl rfl (by simp) rfl rfl rfl (fun b hb=>World.putObj_heap_other hb) ⟨_,World.putObj_heap_same hlt1,q2.busy⟩
          have fr2:Fresh ρ1 (h1.set l (.loop (v1+1) {r1 with state:= .busy})) h3:=(hfr.rest ev1 s1).first evF
          have hctx1:Ctx (some lx.blk) ρ1 (h1.set l (.loop (v1+1) {r1 with state:= .busy})):=(hctx.step s1.sub ev1).step (Sub.refl _) ev0
          have hw2:=ok.code _ _ hr2.body _ _ _ _ _ hbody (some lx.blk) 0 ρ1 _ act1 (Nat.zero_le _) hctx1 t1 hrb fr2 (mk1.step sb)
          refine wpIn_mono hw2 ?_
          rintro x act2 w3 ⟨rfl,ρ3,t3,hr3,s3,_⟩
          have hlx3:=s3.sub _ _ hlx1
          obtain⟨r3',p1,p2⟩:=hr3.obj l lx _ hlx3 hg3
          have hlt3:lx.blk<w3.heap.size:=(Array.getElem?_eq_some_iff.1 p1).1
          have fin:∀(jump:Option Code) (e':Option Ex),(e'=none∨∃q,e'=some q∧q≠ .normal)→jump=e'.bind Ex.jump→jump.isNone=e'.isNone→v= .bool jump.isNone→
            h'=h3.set l (.loop (v3+1) {r3 with state:=if jump.isNone then .ready else .done,pending:=e'})→
            ∃u w',(Instr.endRound lx.blk jump).run P w3= .ok u w'∧RPost P ρ h w v h' (.returned u) w':=by
           intro jump e' hj1 hj2 hj3 hv hh
           refine⟨_,_,run_endRound jump p1,.bool jump.isNone,ρ3,rfl,by rw[hv];exact .bool _,?_⟩
           have hrel:LoopRel P ρ3 {r3 with state:=if jump.isNone then .ready else .done,pending:=e'} {r3' with state:=if jump.isNone then .ready else .done,pending:=jump} :=
            ⟨rfl,hj2,by rcases hj1 with rfl | ⟨q,rfl,hq⟩;simp;simpa using hq,p2.tmps,p2.params,p2.asg,p2.body⟩
           obtain⟨hrf,sf⟩:=HR.turn (o':= .loop (v3+1) {r3 with state:=if jump.isNone then .ready else .done,pending:=e'}) (w':=w3.putObj lx.blk (.loop {r3' with state:=if jump.isNone then .ready else .done,pending:=jump})) hr3 hlx3 hg3 rfl rfl (by simp) rfl rfl rfl (fun b hb=>World.putObj_heap_other hb) ⟨_,World.putObj_heap_same hlt3,hrel⟩
           rw[hh]
           refine⟨hrf,?_⟩
           have evE:Ev h3 (h3.set l (.loop (v3+1) {r3 with state:=if jump.isNone then .ready else .done,pending:=e'})):=by rw[←hh];exact evF
           have f1:∀y,h.next≤y→y<h3.next→ρ y=none:=fun y a b=>hfr y a (by omega)
           have st1:=s1.trans sb ev1 ev0 (fun y a b=>hfr y a (by have:=ev2.next;simp at b;have:=ev0.next;omega))
           have st2:=st1.trans s3 (ev1.trans ev0) ev2 f1
           exact st2.trans sf ((ev1.trans ev0).trans ev2) evE (fun y a b=>hfr y a (by rw[hnext];simpa using b))
          split at hrun
          ·rename_i hn
           subst hn
           cases hrun
           obtain⟨u,w',g1,g2⟩:=fin none none (.inl rfl) rfl rfl rfl rfl
           exact⟨u,w',g1,g2⟩
          ·rename_i hn
           cases hrun
           cases ee with
           | normal=>exact absurd rfl hn
           | ret=>exact fin (some .ret) (some .ret) (.inr ⟨_,rfl,hn⟩) rfl rfl rfl rfl
           | exit id=>exact fin (some (.exit id)) (some (.exit id)) (.inr ⟨_,rfl,hn⟩) rfl rfl rfl rfl
         ·cases hrun
        ·cases hrun
       ·cases hrun
      ·cases hrun
     ·cases hrun
    ·cases hrun
   ·cases hrun
 ·cases hrun
end
end Go.Am

