/- Calls, and operations one by one, in a world, and what goes with it. -/
import Derived.Test.YtapbgleednkimaaGreatDoorAmEff
import Derived.RangeFuncLeaves
import Derived.LoopNIn
set_option linter.unusedVariables false
set_option linter.unusedSimpArgs false
namespace Go.Am
def Fn(ro:Option Nat):Fence:={Fence.wide with round:=ro}
def Fresh(ρ:Emb)(h h':H):Prop:=∀y,h.next<=y->y<h'.next->ρ y=none
theorem Fresh.first{ρ:Emb}{h h1 h2:H}(hf:Fresh ρ h h2)(e:Ev h1 h2):Fresh ρ h h1:=fun y a b=>hf y a (Nat.lt_of_lt_of_le b e.next)
theorem Fresh.rest{ρ ρ1:Emb}{h h1 h2:H}{w w1:World}(hf:Fresh ρ h h2)(e:Ev h h1)(s:Stp ρ h w ρ1 h1 w1):Fresh ρ1 h1 h2:=fun y a b=>by
 cases hy:ρ1 y with
 | none=>rfl
 | some l=>
  rcases s.dom y l hy with h0 | ⟨_,h0⟩
  ·rw[hf y (Nat.le_trans e.next a) b]at h0;cases h0
  ·omega
def MK(B:Nat)(ρ:Emb)(w:World):List Deferred->Prop
 | []=>True
 | d::ds=>(∃D,B<=D/\d={target:= .collected D,args:= #[]}/\w.heap[D]? =some (.deferred (some []))/\(∀x l,ρ x=some l->l.blk≠D)/\({target:= .collected D,args:= #[]} :Deferred)∉ds)/\MK B ρ w ds
theorem MK.step{B:Nat}{ρ ρ':Emb}{h h':H}{w w':World}(s:Stp ρ h w ρ' h' w'):∀{ds:List Deferred},MK B ρ w ds->MK B ρ' w' ds
 | [],_=>trivial
 | d::ds,⟨⟨D,hB,h1,h2,h3,h4⟩,hr⟩=>by
  have hlt:D<w.heap.size:=(Array.getElem?_eq_some_iff.1 h2).1;refine⟨⟨D,hB,h1,?_,fun x l hx=>?_,h4⟩,MK.step s hr⟩
  ·rw[s.frame D hlt (fun x l o hx _ _=>h3 x l hx)];exact h2
  ·rcases s.own x l hx with h0 | h0 | ⟨y,ly,oy,hy,_,_,e⟩
   ·exact h3 x l h0
   ·omega
   ·rw[e];exact h3 y ly hy
def Ctx(ro:Option Nat)(ρ:Emb)(h:H):Prop:=∀l,ro=some l->∃x lx ver r,ρ x=some lx/\lx.blk=l/\h.get x=some (.loop ver r)
theorem Ctx.step{ro:Option Nat}{ρ ρ':Emb}{h h':H}(hc:Ctx ro ρ h)(hs:Sub ρ ρ')(e:Ev h h'):Ctx ro ρ' h':=fun l hl=>by obtain⟨x,lx,ver,r,h1,h2,h3⟩:=hc l hl;obtain⟨v',q',h4⟩:=e.isLoop h3;exact⟨x,lx,v',q',hs _ _ h1,h2,h4⟩
def u6(P:Program)(ρ:Emb)(h:H)(w:World)(v:AV)(h':H):Ending->World->Prop:=fun e w'=>∃u ρ',e= .returned u/\VR ρ' v u/\HR P ρ' h' w'/\Stp ρ h w ρ' h' w'
def Ex.toExit:Ex->Exit
 | .normal=> .normal
 | .ret=> .ret
 | .exit id=> .exit id
def CPost(P:Program)(B:Nat)(ρ:Emb)(h:H)(w:World)(e:Ex)(a':List AV)(h':H):Exit->Act->World->Prop:=fun x act' w'=>
 x=e.toExit/\∃ρ',TR ρ' a' act'.tmps/\HR P ρ' h' w'/\Stp ρ h w ρ' h' w'/\MK B ρ' w' act'.defers
def mJ(F:Fence)(n:Nat)(P:Program)(l:Nat)(c:Code)(Q:Exit->Act->World->Prop):Nat->Act->World->Prop
 | 0,_,_=>False
 | m+1,a,w=>c.wpIn F n P (fun e a w=>match e with | .goto l'=>l'=l/\mJ F n P l c Q m a w | e=>Q e a w) a w
def unE(l:Nat):Ex->Ex
 | .exit id=>if id=2097152+l then .normal else .exit id
 | e=>e
structure RecOk (P:Program) (rec:Rec) (m:Nat):Prop where
 callEv:∀g args h v h',rec.call g args h=some (v,h')->Ev h h'
 callFn:∀g args h v h',rec.call g args h=some (v,h')->∃fn,P.funcs[g]? =some fn/\fn.body.isSome=true/\(fn.name== "runtime.NumGoroutine")=false
 call:∀g args h v h',rec.call g args h=some (v,h')->∀ρ w us,VRs ρ args us->HR P ρ h w->Fresh ρ h h'->CallsIn Fence.wide 0 P g us.toArray w (u6 P ρ h w v h')
 codeEv:∀ac a h e a' h',rec.code ac a h=some (e,a',h')->Ev h h'
 code:∀c ac,mU P c ac->∀a h e a' h',rec.code ac a h=some (e,a',h')->∀ro B ρ w act,B<=w.heap.size->Ctx ro ρ h->TR ρ a act.tmps->HR P ρ h w->Fresh ρ h h'->MK B ρ w act.defers->
  c.wpIn (Fn ro) 0 P (CPost P B ρ h w e a' h') act w
 loop:∀c ac,mU P c ac->∀sc a h e a' h',rec.code (.loop sc ac) a h=some (e,a',h')->∀ro B ρ w act,B<=w.heap.size->Ctx ro ρ h->TR ρ a act.tmps->HR P ρ h w->Fresh ρ h h'->MK B ρ w act.defers->
  Code.roundsIn (Fn ro) 0 P c (CPost P B ρ h w e a' h') m act w
 jump:∀l c ac,aBA P l c ac->∀sc a h e a' h',rec.code (.loop sc (.block (1048576+l) (.seq ac (.exit (2097152+l))))) a h=some (e,a',h')->∀ro B ρ w act,B<=w.heap.size->Ctx ro ρ h->TR ρ a act.tmps->HR P ρ h w->Fresh ρ h h'->MK B ρ w act.defers->
  mJ (Fn ro) 0 P l c (CPost P B ρ h w (unE l e) a' h') m act w
section
variable {P:Program} {ρ:Emb} {w:World} {a:List AV} {act:Act} {h h':H} {o:Oper} {ao:AO} {v:AV} {rd:List Nat} {rec:Rec} {m:Nat}
theorem BN:∀{ps:List Nat} {args:List AV} {us:List Value} {b:List AV} {tmps:Array Value},TR ρ b tmps->VRs ρ args us->TR ρ (setAll b ps args) ((ps.zip us).foldl (fun tmps (x:Nat×Value)=>tmps.setIfInBounds x.1 x.2) tmps)
 | [],args,us,b,tmps,hb,hv=>by cases args<;>simpa [setAll]using hb
 | p::ps,[],us,b,tmps,hb,hv=>by rw[hv.nil_inv];simpa [setAll]using hb
 | p::ps,x::args,us,b,tmps,hb,hv=>by obtain⟨u,us',rfl,h1,h2⟩:=hv.cons_inv;simp only[setAll,List.zip_cons_cons,List.foldl_cons];exact BN (hb.set p h1) h2
theorem LoopRel.busy{r:ALoop}{r':Loop}(hl:LoopRel P ρ r r'):LoopRel P ρ {r with state:= .busy} {r' with state:= .busy} :=⟨rfl,hl.pending,hl.nojump,hl.tmps,hl.params,hl.asg,hl.body⟩
inductive Went (P:Program) (ρ:Emb) (h:H) (w:World) (v:AV) (h':H):Result Next->Prop
 | enter (g:FuncId) (args:Array Value) (hc:CallsIn Fence.wide 0 P g args w (u6 P ρ h w v h')):Went P ρ h w v h' (.ok (.enter g args) w)
 | round (l:Nat) (f:FuncId) (tmps:Array Value) (asg body:Code) (hc:RoundIn Fence.wide 0 P l f tmps asg body w (u6 P ρ h w v h')):Went P ρ h w v h' (.ok (.round l f tmps asg body) w)
theorem JH(ok:RecOk P rec m){f:AV}{args:List AV}(hrun:cZ rec f args h=some (v,h')):Ev h h':=by
 unfold cZ at hrun;split at hrun
 ·exact ok.callEv _ _ _ _ _ hrun
 ·rename_i l first cap
  split at hrun
  ·rename_i ver r hg;split at hrun
   ·split at hrun
    ·rename_i a1 h1 hasg;have e1:=ok.codeEv _ _ _ _ _ _ hasg;split at hrun
     ·rename_i v1 r1 hg1;split at hrun
      ·split at hrun
       ·rename_i e a2 h3 hbody;have e2:=ok.codeEv _ _ _ _ _ _ hbody;have e0:Ev h1 (h1.set l (.loop (v1+1) {r1 with state:= .busy})):=Ev.set hg1 (.inr (.inr ⟨v1,v1+1,rfl,rfl,by omega,rfl,rfl,rfl⟩)) rfl;split at hrun
        ·rename_i v3 r3 hg3;split at hrun<;>cases hrun;all_goals exact((e1.trans e0).trans e2).trans (Ev.set hg3 (.inr (.inr ⟨v3,v3+1,rfl,rfl,by omega,rfl,rfl,rfl⟩)) rfl)
        ·cases hrun
       ·cases hrun
      ·cases hrun
     ·cases hrun
    ·cases hrun
   ·cases hrun
  ·cases hrun
 ·split at hrun
  ·exact ok.callEv _ _ _ _ _ hrun
  ·cases hrun
 ·cases hrun
theorem mG{P:Program}{m:String}{t:TypeId}{g:FuncId} :∀{l:List Nat},iN (kD P m l) t=some g->EI P m t=some g
 | [],hf=>by simp[kD,iN]at hf
 | x::r,hf=>by
  unfold kD at hf
  cases hx:EI P m x with
  | none=>rw[hx]at hf;exact mG hf
  | some f=>
   rw[hx]at hf;simp only[iN]at hf;split at hf
   ·rename_i e;have:x=t:=Int.ofNat_inj.1 e;subst this;have:f=g:=by simpa using hf
    rw[hx,this]
   ·exact mG hf
theorem aAL(ok:RecOk P rec m){n:String}{l:List Nat}{args:List AV}{us:List Value}(hrun:cZ rec (.func (.methodOf 0 n) (kD P n l) []) args h=some (v,h'))(hargs:VRs ρ args us)(hr:HR P ρ h w)(hfr:Fresh ρ h h'):
  Went P ρ h w v h' ((invoke (.fn (.method n) #[]) us.toArray:Sem Next).run P w):=by
 simp only[cZ]at hrun;split at hrun
 ·rename_i g la ht;unfold jU at ht;split at ht
  ·rename_i t x rest;split at ht
   ·rename_i g' hg;cases ht;have hm:=mG hg;obtain⟨u0,us',rfl,hx,hus⟩:=hargs.cons_inv;obtain⟨ux,rfl,hxv⟩:∃ux,u0= .iface t ux/\VR ρ x ux:=by cases hx;exact⟨_,rfl,by assumption⟩
    unfold EI at hm;split at hm
    ·rename_i i e hi hu;split at hm
     ·rename_i mm hfind;split at hm
      ·rename_i f hp hf;cases hm;obtain⟨fn,q1,q2,q3⟩:=ok.callFn _ _ _ _ _ hrun;have hc:=ok.call _ _ _ _ _ hrun ρ w _ (VRs.cons hxv hus) hr hfr;have e:(invoke (.fn (.method n) #[]) (Value.iface t ux::us').toArray:Sem Next).run P w= .ok (.enter g (ux::us').toArray) w:=by
        have hb:fn.body.isNone=false:=by cases hb:fn.body<;>simp_all
        have hmt:∀k,(method (k+1) t ux n).run P w= .ok (g,ux) w:=by intro k;unfold method;simp only[Sem.run_bind,iZ hi,Result.andThen_ok,hfind,hp,follow,Sem.run_pure,hf,receiverAt,run_underlying hu,Place.get]
        have hsz:∃k,P.types.size+Made.depth=k+1:=⟨P.types.size+Made.depth-1,by unfold Made.depth;omega⟩;obtain⟨k,hk⟩:=hsz;have hcf:∀as,(callFunc g as).run P w= .ok (.enter g as) w:=by
         intro as;simp only[callFunc,Sem.run_bind,run_program,Result.andThen_ok,q1];rw[if_neg (by rw[q3];simp),if_neg (by rw[hb];simp)];simp
        have hcm:(callMethod (.iface t ux) n us'.toArray).run P w= .ok (.enter g (ux::us').toArray) w:=by simp only[callMethod,Sem.run_bind,run_program,Result.andThen_ok,hk,hmt,hcf];congr 2;apply Array.ext';simp
        rw[<-hcm];simp[invoke]
       rw[e];exact .enter _ _ hc
      ·cases hm
     ·cases hm
    ·cases hm
   ·cases ht
  ·cases ht
 ·cases hrun
theorem aAK(ok:RecOk P rec m){f:AV}{args:List AV}{fv:Value}{us:List Value}(hrun:cZ rec f args h=some (v,h'))(hf:VR ρ f fv)(hargs:VRs ρ args us)(hr:HR P ρ h w)(hfr:Fresh ρ h h'):
  Went P ρ h w v h' ((do let d <-Deferred.ofValue fv us.toArray;invoke d.target d.args:Sem Next).run P w):=by
 have hrun0:=hrun;unfold cZ at hrun;split at hrun
 ·rename_i g first cap
  cases hf with
  | func _ _ _ f' c' hp hfl hcl h1 h2=>
   obtain⟨fn,q1,q2,q3⟩:=ok.callFn _ _ _ _ _ hrun;have hall:VRs ρ (first++args++cap) (f'++us++c'):=(VRs.append (VRs.append ⟨hfl,h1⟩ hargs) ⟨hcl,h2⟩);have hc:=ok.call _ _ _ _ _ hrun ρ w _ hall hr hfr;have e:(do let d <-Deferred.ofValue (.func (.func g) f'.toArray c'.toArray) us.toArray;invoke d.target d.args:Sem Next).run P w= .ok (.enter g (f'++us++c').toArray) w:=by
    have hb:fn.body.isNone=false:=by cases hb:fn.body<;>simp_all
    simp only[Deferred.ofValue,Sem.run_bind,Sem.run_pure,Result.andThen_ok,invoke,callFunc,run_program,q1];rw[if_neg (by rw[q3];simp),if_neg (by rw[hb];simp)];simp
   rw[e];exact .enter _ _ hc
 ·rename_i l first cap
  cases hf with
  | func _ _ _ f' c' hp hfl hcl h1 h2=>simp[rG]at hp
  | yield r lx hlx=>
   split at hrun
   ·rename_i ver rr hg;split at hrun
    ·rename_i hlen;obtain⟨r',hr1,hr2⟩:=hr.obj l lx _ hlx hg;simp only[List.nil_append]at hlen hrun;have hsz:us.toArray.size=r'.params.size:=by
      have h1:=hargs.1;have h2:r'.params.toList.length=rr.params.length:=by rw[hr2.params]
      simp at h2 ⊢;omega
     have e:(do let d <-Deferred.ofValue (.func (.yield lx.blk) #[] #[]) us.toArray;invoke d.target d.args:Sem Next).run P w=
       .ok (.round lx.blk r'.fn ((r'.params.zip us.toArray).foldl (fun tmps (t,a)=>tmps.setIfInBounds t a) r'.tmps) r'.assign r'.body) w:=by
      simp only[Deferred.ofValue,Sem.run_bind,Sem.run_pure,Result.andThen_ok,invoke];rw[Array.empty_append];exact run_yield hr1 hsz
     rw[e];refine .round _ _ _ _ _ ?_;have ht:TR ρ (setAll rr.tmps rr.params args) ((r'.params.zip us.toArray).foldl (fun tmps (t,a)=>tmps.setIfInBounds t a) r'.tmps):=by have:=BN (ps:=rr.params) hr2.tmps hargs;rw[<-hr2.params]at this ⊢;rw[<-Array.foldl_toList];simpa using this
     refine roundIn_of_wpIn (F:=Fence.wide) trivial ?_;have hctx:Ctx (some lx.blk) ρ h:=fun l' e'=>by cases e';exact⟨l,lx,ver,rr,hlx,rfl,hg⟩
     split at hrun
     ·rename_i a1 h1 hasg;have ev1:=ok.codeEv _ _ _ _ _ _ hasg;have evT:=JH ok hrun0;split at hrun
      ·rename_i v1 r1 hg1;split at hrun
       ·rename_i hready;split at hrun
        ·rename_i ee a2 h3 hbody;have ev0:Ev h1 (h1.set l (.loop (v1+1) {r1 with state:= .busy})):=Ev.set hg1 (.inr (.inr ⟨v1,v1+1,rfl,rfl,by omega,rfl,rfl,rfl⟩)) rfl;have ev2:=ok.codeEv _ _ _ _ _ _ hbody;split at hrun
         ·rename_i v3 r3 hg3;have hnext:h'.next=h3.next:=by split at hrun<;>cases hrun<;>rfl
          have evF:Ev h3 h':=by split at hrun<;>cases hrun;all_goals exact Ev.set hg3 (.inr (.inr ⟨v3,v3+1,rfl,rfl,by omega,rfl,rfl,rfl⟩)) rfl
          have fr1:Fresh ρ h h1:=fun y p q=>hfr y p (by have:=ev0.next;have:=ev2.next;omega);have hw1:=ok.code _ _ hr2.asg _ _ _ _ _ hasg (some lx.blk) 0 ρ w {tmps:=_,defers:=[]} (Nat.zero_le _) hctx ht hr fr1 trivial;refine wpIn_mono hw1 ?_;rintro x act1 w1 ⟨rfl,ρ1,t1,hr1',s1,mk1⟩;simp only[Ex.toExit,Exit.then];have hlx1:=s1.sub _ _ hlx;obtain⟨r1',q1,q2⟩:=hr1'.obj l lx _ hlx1 hg1;have hst:r1'.state= .ready:=by rw[q2.state];exact hready
          have hlt1:lx.blk<w1.heap.size:=(Array.getElem?_eq_some_iff.1 q1).1;refine⟨_,run_beginRound q1 hst,?_⟩;obtain⟨hrb,sb⟩:=HR.turn (o':= .loop (v1+1) {r1 with state:= .busy}) (w':=w1.putObj lx.blk (.loop {r1' with state:= .busy})) hr1' hlx1 hg1 rfl rfl (by simp) rfl rfl rfl (fun b hb=>World.putObj_heap_other hb) ⟨_,World.putObj_heap_same hlt1,q2.busy⟩;have fr2:Fresh ρ1 (h1.set l (.loop (v1+1) {r1 with state:= .busy})) h3:=(hfr.rest ev1 s1).first evF;have hctx1:Ctx (some lx.blk) ρ1 (h1.set l (.loop (v1+1) {r1 with state:= .busy})):=(hctx.step s1.sub ev1).step (Sub.refl _) ev0;have hw2:=ok.code _ _ hr2.body _ _ _ _ _ hbody (some lx.blk) 0 ρ1 _ act1 (Nat.zero_le _) hctx1 t1 hrb fr2 (mk1.step sb);refine wpIn_mono hw2 ?_;rintro x act2 w3 ⟨rfl,ρ3,t3,hr3,s3,_⟩;have hlx3:=s3.sub _ _ hlx1;obtain⟨r3',p1,p2⟩:=hr3.obj l lx _ hlx3 hg3;have hlt3:lx.blk<w3.heap.size:=(Array.getElem?_eq_some_iff.1 p1).1;have fin:∀(jump:Option Code) (e':Option Ex),(e'=none\/∃q,e'=some q/\q≠ .normal)->jump=e'.bind Ex.jump->jump.isNone=e'.isNone->v= .bool jump.isNone->
            h'=h3.set l (.loop (v3+1) {r3 with state:=if jump.isNone then .ready else .done,pending:=e'})->
            ∃u w',(Instr.endRound lx.blk jump).run P w3= .ok u w'/\u6 P ρ h w v h' (.returned u) w':=by
           intro jump e' hj1 hj2 hj3 hv hh;refine⟨_,_,run_endRound jump p1,.bool jump.isNone,ρ3,rfl,by rw[hv];exact .bool _,?_⟩;have hrel:LoopRel P ρ3 {r3 with state:=if jump.isNone then .ready else .done,pending:=e'} {r3' with state:=if jump.isNone then .ready else .done,pending:=jump} :=
            ⟨rfl,hj2,by rcases hj1 with rfl | ⟨q,rfl,hq⟩;simp;simpa using hq,p2.tmps,p2.params,p2.asg,p2.body⟩
           obtain⟨hrf,sf⟩:=HR.turn (o':= .loop (v3+1) {r3 with state:=if jump.isNone then .ready else .done,pending:=e'}) (w':=w3.putObj lx.blk (.loop {r3' with state:=if jump.isNone then .ready else .done,pending:=jump})) hr3 hlx3 hg3 rfl rfl (by simp) rfl rfl rfl (fun b hb=>World.putObj_heap_other hb) ⟨_,World.putObj_heap_same hlt3,hrel⟩;rw[hh];refine⟨hrf,?_⟩;have evE:Ev h3 (h3.set l (.loop (v3+1) {r3 with state:=if jump.isNone then .ready else .done,pending:=e'})):=by rw[<-hh];exact evF
           have f1:∀y,h.next<=y->y<h3.next->ρ y=none:=fun y a b=>hfr y a (by omega);have st1:=s1.trans sb ev1 ev0 (fun y a b=>hfr y a (by have:=ev2.next;simp at b;have:=ev0.next;omega));have st2:=st1.trans s3 (ev1.trans ev0) ev2 f1;exact st2.trans sf ((ev1.trans ev0).trans ev2) evE (fun y a b=>hfr y a (by rw[hnext];simpa using b))
          split at hrun
          ·rename_i hn;subst hn;cases hrun;obtain⟨u,w',g1,g2⟩:=fin none none (.inl rfl) rfl rfl rfl rfl;exact⟨u,w',g1,g2⟩
          ·rename_i hn;cases hrun
           cases ee with
           | normal=>exact absurd rfl hn
           | ret=>exact fin (some .ret) (some .ret) (.inr ⟨_,rfl,hn⟩) rfl rfl rfl rfl
           | exit id=>exact fin (some (.exit id)) (some (.exit id)) (.inr ⟨_,rfl,hn⟩) rfl rfl rfl rfl
         ·cases hrun
        ·cases hrun
       ·cases hrun
      ·cases hrun
     ·cases hrun
    ·cases hrun
   ·cases hrun
 ·cases hf with
  | func _ _ _ f' c' hp hfl hcl h1 h2=>simp[rG]at hp
 ·cases hrun
end
section
variable {P:Program} {ρ:Emb} {w:World} {a:List AV} {act:Act} {h h':H} {o:Oper} {ao:AO} {v:AV} {rd:List Nat} {rec:Rec} {m:Nat}
theorem DC(htr:wS P o=some ao):∀c,o.op≠ .defer c:=by
 intro c e;rcases lX _ htr with h0 | ⟨_,h0⟩
 ·simp[aS,e]at h0
 ·rw[e]at h0;cases h0
theorem O0{ro:Option Nat}{next:Act->World->Prop}{Q:Exit->Act->World->Prop}(htr:wS P o=some ao)(hu:o.uponIn (Fn ro) 0 P act next Q ((execOp act.eval o).run P w)):o.wpIn (Fn ro) 0 P act w next Q:=
 ⟨fun _ _=>trivial,by rw[Oper.semAt_eq _ _ _ (DC htr)];exact hu⟩
theorem SH{f:AR}{args:List AR}(htr:wS P o=some (.call f args)):(∃c fo,o.op= .call c/\c.callee= .value fo/\trR fo=some f/\zQ c.args.toList=some args)\/
  ∃c ro n x xs l,o.op= .call c/\c.callee= .invoke ro n/\f= .const (.func (.methodOf 0 n) (kD P n l) [])/\trR ro=some x/\zQ c.args.toList=some xs/\args=x::xs:=by
 have htr:aS P o=some (.call f args):=(lX _ htr).resolve_right fun q=>by cases q.1
 rcases F5 htr rfl with⟨t,p,x,ho⟩ | ⟨t,m,k,x,ho⟩ | ⟨c,ho⟩ | ⟨s,d,x,ho⟩
 rotate_right
 ·simp only[aS,ho]at htr;repeat' split at htr
  all_goals cases htr
 ·simp only[aS,ho]at htr;split at htr<;>cases htr
 ·rcases ho with ho | ho;all_goals (simp only[aS,ho]at htr;repeat' split at htr)
  all_goals cases htr
 ·cases hc:c.callee with
  | builtin b=>simp only[aS,ho,hc]at htr;rcases pA htr rfl with⟨_,_,_,_,_,e⟩ | ⟨_,_,_,_,_,e⟩ | ⟨_,_,_,_,e⟩ | ⟨_,_,_,e⟩<;>cases e
  | value fo=>
   simp only[aS,ho,hc]at htr;split at htr
   ·rename_i h1 h2;cases htr;exact .inl ⟨c,fo,ho,hc,h1,h2⟩
   ·cases htr
  | invoke r m=>
   simp only[aS,ho,hc]at htr;split at htr
   ·rename_i h1 h2;cases htr;exact .inr ⟨c,r,m,_,_,_,ho,hc,rfl,h1,h2,rfl⟩
   ·cases htr
theorem vO(ok:RecOk P rec m)(hrun:eW rec ao a h=some (v,h',rd)):Ev h h':=by
 cases ao with
 | call f args=>
  simp only[eW]at hrun;split at hrun
  ·rename_i hv;cases hrun;exact JH ok hv
  ·cases hrun
 | _=>simp only[eW]at hrun;exact aF5 hrun
theorem GR(ok:RecOk P rec m)(htr:wS P o=some ao)(hrun:eW rec ao a h=some (v,h',rd)){ro:Option Nat}{next:Act->World->Prop}{Q:Exit->Act->World->Prop}(ht:Ops ρ a act ao.uses)(hr:HR P ρ h w)(hfr:Fresh ρ h h')
  (hk:∀u ρ' w',VR ρ' v u->HR P ρ' h' w'->Stp ρ h w ρ' h' w'->next (act.put o.dst u) w'):o.wpIn (Fn ro) 0 P act w next Q:=by
 refine O0 htr ?_;by_cases hc:∃f args,ao= .call f args
 ·obtain⟨f,args,rfl⟩:=hc;simp only[AO.uses]at ht;simp only[eW]at hrun;split at hrun
  ·rename_i hv;cases hrun;have hw:Went P ρ h w v h' ((execOp act.eval o).run P w):=by
    rcases SH htr with⟨c,fo,ho,hcc,h1,h2⟩ | ⟨c,ro,n,x,xs,l,ho,hcc,rfl,h1,h2,rfl⟩
    ·have hf:=aN h1 ht.left;have ha:=lW h2 ht.right;have hw:=aAK ok hv hf ha hr hfr;have e:(execOp act.eval o).run P w=(do let d <-Deferred.ofValue (act.eval fo) (c.args.toList.map act.eval).toArray;invoke d.target d.args:Sem Next).run P w:=by
      have e1:(c.args.map act.eval)=(c.args.toList.map act.eval).toArray:=by apply Array.ext';simp
      simp only[execOp,ho,resolve,hcc,e1]
     rw[e];exact hw
    ·have ht':=ht.right;simp only[List.flatMap_cons]at ht';have hx:=aN h1 ht'.left;have ha:=lW h2 ht'.right;have hw:=aAL ok (us:=act.eval ro::c.args.toList.map act.eval) hv (VRs.cons hx ha) hr hfr;have e:(execOp act.eval o).run P w=(invoke (.fn (.method n) #[]) (act.eval ro::c.args.toList.map act.eval).toArray:Sem Next).run P w:=by
      have e1: #[act.eval ro]++c.args.map act.eval=(act.eval ro::c.args.toList.map act.eval).toArray:=by apply Array.ext';simp
      simp only[execOp,ho,resolve,hcc,e1,Sem.run_bind,Sem.run_pure,Result.andThen_ok]
     rw[e];exact hw
   generalize (Sem.run P (execOp act.eval o) w)=R at hw
   cases hw with
   | enter g as hcall=>rw[Oper.uponIn_enter];refine⟨fun hh=>by simp[Fn,Fence.wide]at hh,CallsIn.mono (F:=Fn ro) (show CallsIn (Fn ro) 0 P g as w _ from hcall) ?_⟩;rintro e w' ⟨u,ρ',rfl,q1,q2,q3⟩;exact hk u ρ' w' q1 q2 q3
   | round l f tmps asg body hround=>rw[Oper.uponIn_round];refine⟨fun hh=>by simp[Fn,Fence.wide]at hh,RoundIn.mono (F:=Fn ro) (show RoundIn (Fn ro) 0 P l f tmps asg body w _ from hround) ?_⟩;rintro e w' ⟨u,ρ',rfl,q1,q2,q3⟩;exact hk u ρ' w' q1 q2 q3
  ·cases hrun
 ·have hrun':aop a h ao=some (v,h',rd):=by cases ao<;>first | exact hrun | exact absurd ⟨_,_,rfl⟩ hc
  cases he:ao.effect with
  | false=>
   obtain⟨u,⟨rfl,e,hv⟩ | ⟨ob,cb,l,rfl,hb,e,hv⟩⟩:=aEt htr he hrun' ht (fun x hx l ob hl hg=>hr.obj x l ob hl hg)
   ·rw[e];exact hk u ρ w hv hr (Stp.refl _ _ _)
   ·have hn:=hfr h.next (Nat.le_refl _) (by simp);obtain⟨h1,h2⟩:=hv hn;obtain⟨g1,g2⟩:=HR.alloc hr hn hb h2;rw[e];exact hk u _ _ h1 g1 g2
  | true=>
   obtain⟨u,w',ρ',e | ⟨e,rfl⟩,h1,h2,h3⟩:=aFU htr he (fun f args e=>hc ⟨f,args,e⟩) hrun' ht hr hfr
   ·rw[e];exact hk u ρ' w' h1 h2 h3
   ·rw[e];exact hk _ ρ' w' h1 h2 h3
theorem TR.ops{ts:List Nat}(ht:TR ρ a act.tmps):Ops ρ a act ts:=fun t _=>ht.get t
theorem sN{ops:Array Oper}{g:Option (Nat×Bool)}{b:Bool}(ht:∀t bb,g=some (t,bb)->VR ρ (tget a t) (act.tmps.getD t undef))(hsz:act.tmps.size=a.length)
  (hg:match o.guard with | none=>g=none | some (j,want)=>∃d,(ops[j]?).bind (·.dst)=some d/\g=some (d,want)):
  bO a g=some b->Region.wanted o (yielded ops act.tmps)=b:=by
 intro hw;unfold Region.wanted
 cases hog:o.guard with
 | none=>rw[hog]at hg;subst hg;simpa [bO]using hw
 | some p=>
  obtain⟨j,want⟩:=p;rw[hog]at hg;obtain⟨d,hd,rfl⟩:=hg;have hv:=ht d want rfl;have hlt:d<act.tmps.size:=by
   rcases Nat.lt_or_ge d act.tmps.size with h0 | h0
   ·exact h0
   ·have hj:tget a d= .junk:=by rw[iY,List.getElem?_eq_none (by omega)];rfl
    simp[bO,hj]at hw
  have hget:act.tmps[d]? =some (act.tmps.getD d undef):=by rw[Array.getElem?_eq_getElem hlt,Array.getD_eq_getD_getElem?,Array.getElem?_eq_getElem hlt];rfl
  simp only[bO]at hw;simp only[yielded,hd,Option.bind_some,hget];split at hw
  ·rename_i c hc;rw[hc]at hv;rw[hv.bool_inv];cases hw;cases c<;>cases want<;>rfl
  ·rename_i vs hc;rw[hc]at hv;obtain⟨us,e,_⟩:=hv.tuple_inv;rw[e];cases hw;rfl
  ·cases hw
theorem sQ{ops:Array Oper}{x:AOper}(htr:sR P ops o=some x):wS P o=some x.op/\x.dst=o.dst/\x.chk=[]/\
  (match o.guard with | none=>x.guard=none | some (j,want)=>∃d,(ops[j]?).bind (·.dst)=some d/\x.guard=some (d,want)):=by
 unfold sR at htr;split at htr
 ·rename_i ao hao;split at htr
  ·rename_i hg;cases htr;exact⟨hao,rfl,rfl,by rw[hg]⟩
  ·rename_i j want hg;split at htr
   ·rename_i d hd;cases htr;exact⟨hao,rfl,rfl,by rw[hg];exact⟨d,hd,rfl⟩⟩
   ·cases htr
 ·cases htr
theorem x8(a:List AV)(d:Option Nat)(v:AV):(put a d v).length=a.length:=by cases d<;>simp[put,uO]
theorem D4(ok:RecOk P rec m):∀{xs:List AOper} {a a':List AV} {h h':H},f8 rec xs a h=some (a',h')->Ev h h'
 | [],a,a',h,h',hrun=>by cases hrun;exact Ev.refl h
 | x::xs,a,a',h,h',hrun=>by
  simp only[f8]at hrun;split at hrun
  ·split at hrun
   ·rename_i hs;exact(vO ok hs).trans (D4 ok hrun)
   ·cases hrun
  ·exact D4 ok hrun
  ·cases hrun
theorem DR(ok:RecOk P rec m){ops:Array Oper}{ro:Option Nat}{Q:Exit->Act->World->Prop} :∀{xs:List AOper} {os:List Oper} {k:Nat} {a a':List AV} {h h':H} {B:Nat} {ρ:Emb} {w:World} {act:Act},
  (∀j,os[j]? =ops[k+j]?)->dS (sR P ops) os=some xs->f8 rec xs a h=some (a',h')->TR ρ a act.tmps->HR P ρ h w->Fresh ρ h h'->MK B ρ w act.defers->
  (∀ρ' w' act',TR ρ' a' act'.tmps->HR P ρ' h' w'->Stp ρ h w ρ' h' w'->MK B ρ' w' act'.defers->Q .normal act' w')->
  wpOpsIn (Fn ro) 0 P ops Q (List.range' k os.length) act w
 | xs,[],k,a,a',h,h',B,ρ,w,act,hos,htr,hrun,ht,hr,hfr,hmk,hQ=>by cases htr;cases hrun;exact hQ ρ w act ht hr (Stp.refl _ _ _) hmk
 | xs,o::os,k,a,a',h,h',B,ρ,w,act,hos,htr,hrun,ht,hr,hfr,hmk,hQ=>by
  have h0:ops[k]? =some o:=by simpa using (hos 0).symm
  unfold dS at htr;split at htr
  ·rename_i x xs' hx hxs;cases htr;obtain⟨q1,q2,q3,q4⟩:=sQ hx;have hos':∀j,os[j]? =ops[k+1+j]? :=fun j=>by have:=hos (j+1);rw[show k+1+j=k+(j+1)from by omega,<-this];simp
   have hsz:act.tmps.size=a.length:=by have:=ht.1;simpa using this
   simp only[List.length_cons,List.range'_succ,wpOpsIn,h0];simp only[f8]at hrun;split at hrun
   ·rename_i hw;split at hrun
    ·rename_i v h1 rd hs;have e1:=vO ok hs;have e2:=D4 ok hrun;rw[sN (fun t bb _=>ht.get t) hsz q4 hw];simp only[if_true];refine GR ok q1 hs ht.ops hr (hfr.first e2) ?_;intro u ρ1 w1 hv hr1 s1;rw[<-q2];exact DR ok hos' hxs hrun ((ht.mono s1.sub).put x.dst hv) hr1 (hfr.rest e1 s1) (by cases x.dst<;>exact hmk.step s1)
      (fun ρ' w' act' t' r' s' m'=>hQ ρ' w' act' t' r' (s1.trans s' e1 e2 hfr) m')
    ·cases hrun
   ·rename_i hw;rw[sN (fun t bb _=>ht.get t) hsz q4 hw];simp only[Bool.false_eq_true,if_false];refine⟨fun _ _=>trivial,?_⟩;rw[<-q2];exact DR ok hos' hxs hrun (ht.put x.dst VR.undef) hr hfr (by cases x.dst<;>exact hmk) hQ
   ·cases hrun
  ·cases htr
end
structure Trace (rec:Rec) (xs:List AOper) (a:List AV) (h:H) (a':List AV) (h':H) (A:Nat->List AV) (Hh:Nat->H) (V:Nat->AV) (RD:Nat->List Nat) (W:Nat->Bool):Prop where
 a0:A 0=a
 h0:Hh 0=h
 an:A xs.length=a'
 hn:Hh xs.length=h'
 put:∀i x,xs[i]? =some x->A (i+1)=put (A i) x.dst (V i)
 want:∀i x,xs[i]? =some x->bO (A i) x.guard=some (W i)
 run:∀i x,xs[i]? =some x->W i=true->eW rec x.op (A i) (Hh i)=some (V i,Hh (i+1),RD i)
 skip:∀i x,xs[i]? =some x->W i=false->V i= .tuple []/\Hh (i+1)=Hh i
 chk:∀i j x,xs[i]? =some x->j<i->j∈x.chk->W i=true->W j=true->
  (if x.op.effect then(rdx (Hh j) (Hh (j+1)) (RD j)).all (eY (Hh i) (Hh (i+1)))else(rdx (Hh i) (Hh (i+1)) (RD i)).all (eY (Hh j) (Hh (j+1))))=true
def QI(x:AOper)(rd:List Nat)(hb ha:H)(log:List LogE):Prop:=
 ∀e∈log,e.idx∈x.chk->(if x.op.effect then e.rd.all (eY hb ha)else rd.all (eY e.hb e.ha))=true
theorem NC{x:AOper}{rd:List Nat}{hb ha:H}{log:List LogE}(h:pJ x.op.effect rd hb ha log x.chk=true):QI x rd hb ha log:=by intro e he hi;unfold pJ at h;rw[List.all_eq_true]at h;have:=h e he;rw[if_pos (by simpa using hi)]at this;exact this
def cI{α:Type}(x:α)(f:Nat->α):Nat->α
 | 0=>x
 | n+1=>f n
section
variable {rec:Rec}
theorem KK:∀{xs:List AOper} {k:Nat} {a a':List AV} {h h':H} {log:List LogE},(∀x∈xs,True)->dU rec xs k a h log=some (a',h')->
  ∃A Hh V RD W,Trace rec (xs.map fun x=>{x with chk:=x.chk.filterMap fun j=>if k<=j then some (j-k)else none}) a h a' h' A Hh V RD W/\
   (∀i x,xs[i]? =some x->W i=true->QI x (rdx (Hh i) (Hh (i+1)) (RD i)) (Hh i) (Hh (i+1)) log)
 | [],k,a,a',h,h',log,_,hrun=>by cases hrun;exact⟨fun _=>a,fun _=>h,fun _=> .junk,fun _=>[],fun _=>false,⟨rfl,rfl,rfl,rfl,by simp,by simp,by simp,by simp,by simp⟩,by simp⟩
 | x::xs,k,a,a',h,h',log,_,hrun=>by
  simp only[dU]at hrun;split at hrun
  ·rename_i hw;split at hrun
   ·rename_i v h1 rd hs;split at hrun
    ·rename_i hc;obtain⟨A,Hh,V,RD,W,T,L⟩:=KK (fun _ _=>trivial) hrun;have hg:=NC hc;refine⟨cI a A,cI h Hh,cI v V,cI rd RD,cI true W,⟨rfl,rfl,by simpa [cI]using T.an,by simpa [cI]using T.hn,?_,?_,?_,?_,?_⟩,?_⟩
     ·intro i y hy
      cases i with
      | zero=>simp at hy;subst hy;exact T.a0
      | succ i=>
       have:=T.put i;simp only[List.map_cons,List.getElem?_cons_succ,List.getElem?_map]at hy this
       cases hz:xs[i]? with
       | none=>simp[hz]at hy
       | some z=>simp[hz]at hy this;subst hy;exact this
     ·intro i y hy
      cases i with
      | zero=>simp at hy;subst hy;exact hw
      | succ i=>
       have:=T.want i;simp only[List.map_cons,List.getElem?_cons_succ,List.getElem?_map]at hy this
       cases hz:xs[i]? with
       | none=>simp[hz]at hy
       | some z=>simp[hz]at hy this;subst hy;exact this
     ·intro i y hy hwi
      cases i with
      | zero=>simp at hy;subst hy;simp only[cI];rw[T.h0];exact hs
      | succ i=>
       have:=T.run i;simp only[List.map_cons,List.getElem?_cons_succ,List.getElem?_map]at hy this
       cases hz:xs[i]? with
       | none=>simp[hz]at hy
       | some z=>simp[hz]at hy this;subst hy;exact this hwi
     ·intro i y hy hwi
      cases i with
      | zero=>simp[cI]at hwi
      | succ i=>
       have:=T.skip i;simp only[List.map_cons,List.getElem?_cons_succ,List.getElem?_map]at hy this
       cases hz:xs[i]? with
       | none=>simp[hz]at hy
       | some z=>simp[hz]at hy this;subst hy;exact this hwi
     ·intro i j y hy hji hmem hwi hwj
      cases i with
      | zero=>omega
      | succ i=>
       simp only[List.map_cons,List.getElem?_cons_succ,List.getElem?_map]at hy
       cases hz:xs[i]? with
       | none=>simp[hz]at hy
       | some z=>
        simp[hz]at hy;subst hy;simp only[List.mem_filterMap]at hmem;obtain⟨q,hq,hqj⟩:=hmem;split at hqj
        ·rename_i hkq;simp at hqj
         cases j with
         | zero=>
          have hqk:q=k:=by omega
          subst hqk;have:=L i z hz hwi ⟨q,rdx h h1 rd,h,h1⟩ (by simp) hq;simp only[cI]at this ⊢;rw[T.h0];exact this
         | succ j=>
          have hc':=T.chk i j {z with chk:=z.chk.filterMap fun j=>if k+1<=j then some (j-(k+1))else none} (by simp[hz]) (by omega)
           (by simp only[List.mem_filterMap];exact⟨q,hq,by rw[if_pos (by omega)];simp;omega⟩) hwi hwj
          exact hc'
        ·cases hqj
     ·intro i y hy hwi
      cases i with
      | zero=>simp at hy;subst hy;simp only[cI];rw[T.h0];exact hg
      | succ i=>intro e he hm;exact L i y (by simpa using hy) hwi e (List.mem_cons_of_mem _ he) hm
    ·cases hrun
   ·cases hrun
  ·rename_i hw;obtain⟨A,Hh,V,RD,W,T,L⟩:=KK (fun _ _=>trivial) hrun;refine⟨cI a A,cI h Hh,cI (.tuple []) V,cI [] RD,cI false W,⟨rfl,rfl,by simpa [cI]using T.an,by simpa [cI]using T.hn,?_,?_,?_,?_,?_⟩,?_⟩
   ·intro i y hy
    cases i with
    | zero=>simp at hy;subst hy;exact T.a0
    | succ i=>
     have:=T.put i;simp only[List.map_cons,List.getElem?_cons_succ,List.getElem?_map]at hy this
     cases hz:xs[i]? with
     | none=>simp[hz]at hy
     | some z=>simp[hz]at hy this;subst hy;exact this
   ·intro i y hy
    cases i with
    | zero=>simp at hy;subst hy;exact hw
    | succ i=>
     have:=T.want i;simp only[List.map_cons,List.getElem?_cons_succ,List.getElem?_map]at hy this
     cases hz:xs[i]? with
     | none=>simp[hz]at hy
     | some z=>simp[hz]at hy this;subst hy;exact this
   ·intro i y hy hwi
    cases i with
    | zero=>simp[cI]at hwi
    | succ i=>
     have:=T.run i;simp only[List.map_cons,List.getElem?_cons_succ,List.getElem?_map]at hy this
     cases hz:xs[i]? with
     | none=>simp[hz]at hy
     | some z=>simp[hz]at hy this;subst hy;exact this hwi
   ·intro i y hy hwi
    cases i with
    | zero=>exact⟨rfl,T.h0⟩
    | succ i=>
     have:=T.skip i;simp only[List.map_cons,List.getElem?_cons_succ,List.getElem?_map]at hy this
     cases hz:xs[i]? with
     | none=>simp[hz]at hy
     | some z=>simp[hz]at hy this;subst hy;exact this hwi
   ·intro i j y hy hji hmem hwi hwj
    cases i with
    | zero=>omega
    | succ i=>
     simp only[List.map_cons,List.getElem?_cons_succ,List.getElem?_map]at hy
     cases hz:xs[i]? with
     | none=>simp[hz]at hy
     | some z=>
      simp[hz]at hy;subst hy;simp only[List.mem_filterMap]at hmem;obtain⟨q,hq,hqj⟩:=hmem;split at hqj
      ·rename_i hkq;simp at hqj
       cases j with
       | zero=>simp[cI]at hwj
       | succ j=>
        exact T.chk i j {z with chk:=z.chk.filterMap fun j=>if k+1<=j then some (j-(k+1))else none} (by simp[hz]) (by omega)
         (by simp only[List.mem_filterMap];exact⟨q,hq,by rw[if_pos (by omega)];simp;omega⟩) hwi hwj
      ·cases hqj
   ·intro i y hy hwi
    cases i with
    | zero=>simp[cI]at hwi
    | succ i=>exact L i y (by simpa using hy) hwi
  ·cases hrun
theorem qB:∀{xs:List AOper} {k:Nat} {a a':List AV} {h h':H} {log:List LogE},(∀x∈xs,x.chk=[])->f8 rec xs a h=some (a',h')->dU rec xs k a h log=some (a',h')
 | [],k,a,a',h,h',log,_,hrun=>hrun
 | x::xs,k,a,a',h,h',log,hc,hrun=>by
  simp only[f8]at hrun;simp only[dU];split at hrun
  ·rename_i hw;split at hrun
   ·rename_i v h1 rd hs;have hck:∀(e:Bool) (rd:List Nat) (hb ha:H),pJ e rd hb ha log x.chk=true:=fun e rd hb ha=>by rw[hc x (by simp)];simp[pJ]
    rw[if_pos (hck _ _ _ _)];exact qB (fun y hy=>hc y (by simp[hy])) hrun
   ·cases hrun
  ·rename_i hw;exact qB (fun y hy=>hc y (by simp[hy])) hrun
  ·cases hrun
end
inductive Sched (ops:Array Oper):(Nat->Bool)->List Nat->Prop
 | nil (D:Nat->Bool) (h:∀i,i<ops.size->D i=true):Sched ops D []
 | cons (D:Nat->Bool) (i:Nat) (o:Oper) (l:List Nat) (ho:ops[i]? =some o) (hd:D i=false) (he:∀j∈aW o,D j=true) (h:Sched ops (fun j=>j==i||D j) l):Sched ops D (i::l)
theorem M7{l:List Nat}(hnd:l.Nodup){p:Nat->Bool}{i:Nat}(hi:i∈l)(hp:p i=true):l.countP (fun j=>p j&& !(j==i))+1=l.countP p:=by
 induction l with
 | nil=>cases hi
 | cons x l ih=>
  simp only[List.nodup_cons]at hnd;by_cases e:x=i
  ·subst e;have:l.countP (fun j=>p j&& !(j==x))=l.countP p:=by apply List.countP_congr;intro y hy;have:y≠x:=fun e=>hnd.1 (e▸hy);simp[this]
   simp[List.countP_cons,hp,this]
  ·have hi':i∈l:=by rcases List.mem_cons.1 hi with h | h;exact absurd h.symm e;exact h
   have:=ih hnd.2 hi';simp only[List.countP_cons];have e2:(p x&& !(x==i))=p x:=by simp[e]
   rw[e2];omega
theorem XC(ops:Array Oper)(hedge:∀i o,ops[i]? =some o->∀j∈aW o,j<i):∀(fuel t:Nat) (listed:Array Bool) (acc:List Nat),listed.size=ops.size->
  (List.range ops.size).countP (fun i=> !(listed.getD i true))=fuel->
  ∃l,Region.linearise.go .any ops fuel t listed acc=acc.reverse++l/\Sched ops (fun i=>listed.getD i true) l:=by
 intro fuel
 induction fuel with
 | zero=>intro t listed acc hs hc;refine⟨[],by simp[Region.linearise.go],.nil _ fun i hi=>?_⟩;rw[List.countP_eq_zero]at hc;have:=hc i (List.mem_range.2 hi);simpa using this
 | succ fuel ih=>
  intro t listed acc hs hc;have hex:∃i,i<ops.size/\listed.getD i true=false/\∀j,j<i->listed.getD j true=true:=by
   have hpos:0<(List.range ops.size).countP (fun i=> !(listed.getD i true)):=by omega
   rw[List.countP_pos_iff]at hpos;obtain⟨i0,hi0,hl0⟩:=hpos;have hl0':listed.getD i0 true=false:=by simpa using hl0
   have:∃i,listed.getD i true=false:=⟨i0,hl0'⟩;have key:∀n,∀i,i<n->i<ops.size->listed.getD i true=false->∃i,i<ops.size/\listed.getD i true=false/\∀j,j<i->listed.getD j true=true:=by
    intro n
    induction n with
    | zero=>intro i hi;omega
    | succ n ihn=>
     intro i hi hsz hf;by_cases hall:∀j,j<i->listed.getD j true=true
     ·exact⟨i,hsz,hf,hall⟩
     ·have:∃j,j<i/\listed.getD j true=false:=by
       by_cases h9:∃j,j<i/\listed.getD j true=false
       ·exact h9
       ·exfalso;apply hall;intro j hj
        cases hv:listed.getD j true with
        | true=>rfl
        | false=>exact absurd ⟨j,hj,hv⟩ h9
      obtain⟨j,hj,hjf⟩:=this;exact ihn j (by omega) (by omega) hjf
   exact key (i0+1) i0 (by omega) (List.mem_range.1 hi0) hl0'
  obtain⟨i,hi,hif,hlow⟩:=hex
  let rs:=(List.range ops.size).filter fun i=> !listed.getD i true&&((ops[i]?).map (·.after.all fun e=> !Region.binds .any e||listed.getD e.on false)).getD false
  have hrs:∀k∈rs,∃o,ops[k]? =some o/\k<ops.size/\listed.getD k true=false/\∀j∈aW o,listed.getD j true=true:=by
   intro k hk;simp only[rs,List.mem_filter,List.mem_range,Bool.and_eq_true]at hk;obtain⟨hk1,hk2,hk3⟩:=hk;refine⟨ops[k],Array.getElem?_eq_getElem hk1,hk1,by simpa using hk2,fun j hj=>?_⟩;rw[Array.getElem?_eq_getElem hk1]at hk3;simp only[Option.map_some,Option.getD_some]at hk3;rw[<-Array.all_toList,List.all_eq_true]at hk3;simp only[aW,List.mem_map,List.mem_filter]at hj;obtain⟨e,⟨he1,he2⟩,rfl⟩:=hj;have h3:=hk3 e he1;rw[he2]at h3;simp only[Bool.not_true,Bool.false_or]at h3;by_cases hlt:e.on<listed.size
   ·simp only[Array.getD_eq_getD_getElem?,Array.getElem?_eq_getElem hlt,Option.getD_some]at h3 ⊢;exact h3
   ·simp only[Array.getD_eq_getD_getElem?,Array.getElem?_eq_none (Nat.le_of_not_lt hlt),Option.getD_none]at h3 ⊢
  have hmem:i∈rs:=by
   simp only[rs,List.mem_filter,List.mem_range,Bool.and_eq_true];refine⟨hi,by simp[hif],?_⟩;rw[Array.getElem?_eq_getElem hi];simp only[Option.map_some,Option.getD_some];rw[<-Array.all_toList,List.all_eq_true];intro e he
   cases hb:Region.binds .any e with
   | false=>rfl
   | true=>
    simp only[Bool.not_true,Bool.false_or];have hlt:=hedge i ops[i] (Array.getElem?_eq_getElem hi) e.on (by simp only[aW,List.mem_map,List.mem_filter];exact⟨e,⟨he,hb⟩,rfl⟩);have h1:=hlow e.on hlt;have h2:e.on<listed.size:=by omega
    simp only[Array.getD_eq_getD_getElem?,Array.getElem?_eq_getElem h2,Option.getD_some]at h1 ⊢;exact h1
  have hlen:0<rs.length:=List.length_pos_of_mem hmem;have hget:∃k,rs[t % rs.length]? =some k:=⟨rs[t % rs.length]'(Nat.mod_lt _ hlen),List.getElem?_eq_getElem _⟩;obtain⟨k,hk⟩:=hget;obtain⟨o,ho,hks,hkf,hke⟩:=hrs k (List.mem_of_getElem? hk);have hset:∀j,(listed.setIfInBounds k true).getD j true=(j==k||listed.getD j true):=by
   intro j;simp only[Array.getD_eq_getD_getElem?,Array.getElem?_setIfInBounds];by_cases e:k=j
   ·subst e;rw[if_pos rfl];simp;split<;>rfl
   ·rw[if_neg e];simp[Ne.symm e]
  have hcnt:(List.range ops.size).countP (fun i=> !((listed.setIfInBounds k true).getD i true))=fuel:=by
   have h1:=M7 (l:=List.range ops.size) List.nodup_range (p:=fun i=> !(listed.getD i true)) (i:=k) (List.mem_range.2 hks) (by simp[hkf]);have h2:(List.range ops.size).countP (fun i=> !((listed.setIfInBounds k true).getD i true))=(List.range ops.size).countP (fun j=> !(listed.getD j true)&& !(j==k)):=by
    apply List.countP_congr;intro y _;show(!((listed.setIfInBounds k true).getD y true))=true↔(!(listed.getD y true)&& !(y==k))=true;rw[hset y];generalize (y==k)=p;generalize listed.getD y true=q;cases p<;>cases q<;>simp
   omega
  obtain⟨l,hl1,hl2⟩:=ih (t / rs.length) (listed.setIfInBounds k true) (k::acc) (by simpa using hs) hcnt;refine⟨k::l,?_,?_⟩
  ·have hgo:Region.linearise.go .any ops (fuel+1) t listed acc=(match rs[t % rs.length]? with
    | some i=>Region.linearise.go .any ops fuel (t / rs.length) (listed.setIfInBounds i true) (i::acc)
    | none=>acc.reverse):=rfl
   rw[hgo,hk];simp only[hl1,List.reverse_cons,List.append_assoc,List.cons_append,List.nil_append]
  ·refine .cons _ k o l ho hkf hke ?_;have:(fun i=>(listed.setIfInBounds k true).getD i true)=(fun j=>j==k||listed.getD j true):=funext hset;rw[<-this];exact hl2
theorem XB(ops:Array Oper)(hedge:∀i o,ops[i]? =some o->∀j∈aW o,j<i)(mixed:Bool)(hdep:(mixed|| !Region.departs ops)=true)(t:Nat):
  ∃D,(∀i,i<ops.size->D i=false)/\Sched ops D (Region.schedule mixed ops t):=by
 have h0:∀i,i<ops.size->(Array.replicate ops.size false).getD i true=false:=fun i hi=>by simp[Array.getD_eq_getD_getElem?,hi]
 obtain⟨l,h1,h2⟩:=XC ops hedge ops.size t (Array.replicate ops.size false) [] (by simp) (by
  rw[List.countP_eq_length.2]
  ·simp
  ·intro i hi;rw[h0 i (List.mem_range.1 hi)];rfl)
 refine⟨_,h0,?_⟩;have:Region.schedule mixed ops t=l:=by unfold Region.schedule;rw[if_pos hdep];unfold Region.linearise;simpa using h1
 rw[this];exact h2
end Go.Am

