/- Code and functions: what the abstract machine's run says of the machine's, and what goes with it. -/
import Derived.Test.YtapbgleednkimaaGreatDoorAmCode
import Derived.WalkKit
import Derived.ProofKit
import Derived.OpenShut
import Derived.Below
import Derived.Carry
import Derived.Test.YtapbgleednkimaaGreatDoorAmK4
set_option linter.unusedVariables false
set_option linter.unusedSimpArgs false
namespace Go.Am
section
variable {P:Program} {rec:Rec} {m:Nat}
theorem D5(ok:RecOk P rec m):∀{xs:List AOper} {k:Nat} {a a':List AV} {h h':H} {log:List LogE},dU rec xs k a h log=some (a',h')->Ev h h'
 | [],k,a,a',h,h',log,hrun=>by cases hrun;exact Ev.refl h
 | x::xs,k,a,a',h,h',log,hrun=>by
  simp only[dU]at hrun;split at hrun
  ·split at hrun
   ·rename_i hs;split at hrun
    ·exact(vO ok hs).trans (D5 ok hrun)
    ·cases hrun
   ·cases hrun
  ·exact D5 ok hrun
  ·cases hrun
theorem cV(ok:RecOk P rec m):∀{c:AC} {a a':List AV} {h h':H} {e:Ex},aJ rec c a h=some (e,a',h')->Ev h h'
 | .skip,a,a',h,h',e,hrun=>by simp only[aJ]at hrun;cases hrun;exact Ev.refl h
 | .ret,a,a',h,h',e,hrun=>by simp only[aJ]at hrun;cases hrun;exact Ev.refl h
 | .exit id,a,a',h,h',e,hrun=>by simp only[aJ]at hrun;cases hrun;exact Ev.refl h
 | .region ops,a,a',h,h',e,hrun=>by
  simp only[aJ]at hrun;split at hrun
  ·rename_i ho;cases hrun;exact D4 ok ho
  ·cases hrun
 | .regionD ops,a,a',h,h',e,hrun=>by
  simp only[aJ]at hrun;split at hrun
  ·rename_i ho;cases hrun;exact D5 ok ho
  ·cases hrun
 | .seq x y,a,a',h,h',e,hrun=>by
  simp only[aJ]at hrun;split at hrun
  ·rename_i hx;exact(cV ok hx).trans (cV ok hrun)
  ·exact cV ok hrun
 | .cond c x y,a,a',h,h',e,hrun=>by
  simp only[aJ]at hrun;split at hrun
  ·exact cV ok hrun
  ·exact cV ok hrun
  ·cases hrun
 | .block id x,a,a',h,h',e,hrun=>by
  simp only[aJ]at hrun;split at hrun
  ·rename_i hx;split at hrun<;>(cases hrun;exact cV ok hx)
  ·exact cV ok hrun
 | .loop sc x,a,a',h,h',e,hrun=>by
  simp only[aJ]at hrun;split at hrun
  ·rename_i hx;exact(cV ok hx).trans (ok.codeEv _ _ _ _ _ _ hrun)
  ·exact cV ok hrun
 | .rangeFunc f ps asg b,a,a',h,h',e,hrun=>by
  simp only[aJ]at hrun;split at hrun
  ·split at hrun
   ·rename_i hc;have e1:=ok.callEv _ _ _ _ _ hc;split at hrun
    ·rename_i hg;split at hrun
     ·cases hrun
     ·cases hrun;exact((Ev.alloc h _).trans e1).trans (Ev.set hg (.inr (.inr ⟨_,_,rfl,rfl,Nat.lt_succ_self _,rfl,rfl,rfl⟩)) rfl)
    ·cases hrun
   ·cases hrun
  ·cases hrun
theorem uG{nt out:Nat}{ex:List (Nat×Nat)}{rt:Nat}{c0:AC}{ops:Array Oper}{draw:Bool}(h:iI P ops draw=some c0):(live nt c0 out ex rt).2=c0:=by
 unfold iI at h;split at h
 ·cases h
 ·split at h
  ·cases h;rfl
  ·simp only at h;split at h
   ·split at h<;>(cases h;rfl)
   ·cases h
theorem Y3(xs:List AOper):(xs.map fun x=>{x with chk:=x.chk.filterMap fun j=>if 0<=j then some (j-0)else none})=xs:=by
 rw[List.map_congr_left (g:=id)]
 ·simp
 ·intro x _;simp
theorem KF{an:List (List Nat)}{aos:List AOper}(h0:∀x∈aos,x.chk=[])(h:(iE an aos).all (fun o=>o.chk.isEmpty)=true):iE an aos=aos:=by
 apply List.ext_getElem?;intro i
 cases hx:(iE an aos)[i]? with
 | none=>
  have:aos.length<=i:=by have:=List.getElem?_eq_none_iff.1 hx;unfold iE at this;simpa using this
  rw[List.getElem?_eq_none this]
 | some x=>
  obtain⟨y,hy,e⟩:=dW hx;rw[hy];congr 1;have h1:x.chk=[]:=by rw[List.all_eq_true]at h;simpa using h x (List.mem_of_getElem? hx)
  have h2:=h0 y (List.mem_of_getElem? hy);cases x;cases y;simp_all
theorem HR.garbage{ρ:Emb}{h:H}{w:World}(ob:Obj)(hr:HR P ρ h w):HR P ρ h (w.alloc ob)/\Stp ρ h w ρ h (w.alloc ob):=by have old:∀b,b<w.heap.size->(w.alloc ob).heap[b]? =w.heap[b]? :=fun b hb=>RowKit.Below.heap_alloc w ob b hb;refine⟨⟨hr.gat.keep fun b l _ hlt=>old b hlt,hr.goff,fun x l hx=>by have:=hr.bound x l hx;simp;omega,fun x l o hx hg=>(hr.obj x l o hx hg).mono (Sub.refl ρ) (old _ (hr.bound x l hx)),hr.inj⟩,⟨Sub.refl ρ,fun _ _ h=> .inl h,fun _ _ h=> .inl h,by simp,rfl,rfl,rfl,fun b hb _=>old b hb⟩⟩
theorem uA{ops:Array Oper} :∀{os:List Oper} {xs:List AOper},dS (sR P ops) os=some xs->∀x∈xs,x.chk=[]
 | os,xs,h,x,hx=>by obtain⟨i,hi,e⟩:=List.getElem_of_mem hx;have hl:=dO h;exact(sQ (jR h i (os[i]'(by omega)) x (List.getElem?_eq_getElem _) (by rw[<-e];exact List.getElem?_eq_getElem hi))).2.2.1
theorem DB{ρ:Emb}{a:List AV}{act:Act}{x:Operand}{r:AR}(ht:TR ρ a act.tmps)(h:trR x=some r):VR ρ (ev a r) (act.eval x):=aN h (fun t _=>ht.get t)
theorem MK.notmem{B:Nat}{ρ:Emb}{w:World} :∀{ds:List Deferred},MK B ρ w ds->∀D,w.heap.size<=D->({target:= .collected D,args:= #[]} :Deferred)∉ds
 | [],_,D,_=>by simp
 | d::ds,⟨⟨D',hB,h1,h2,h3,h4⟩,hr⟩,D,hD=>by
  intro hm;rcases List.mem_cons.1 hm with e | e
  ·subst h1;have:D=D':=by injection e with e1 e2;injection e1
   subst this;have:=(Array.getElem?_eq_some_iff.1 h2).1;omega
  ·exact MK.notmem hr D hD e
theorem CPost.trans{B:Nat}{ρ ρ1:Emb}{h h1 h':H}{w w1:World}{e:Ex}{a':List AV}{x:Exit}{act:Act}{w':World}(s:Stp ρ h w ρ1 h1 w1)(e1:Ev h h1)(e2:Ev h1 h')(hfr:Fresh ρ h h')
  (hc:CPost P B ρ1 h1 w1 e a' h' x act w'):CPost P B ρ h w e a' h' x act w':=by
 obtain⟨hx,ρ',t,r,s',mk⟩:=hc;exact⟨hx,ρ',t,r,s.trans s' e1 e2 hfr,mk⟩
theorem bV{b:Frame}{a:Act}{k:List Item}{cs:List Frame}{w:World}{c:Code} :step P (lone (b.atR a (.code (.scope c)::k)) cs w)= .next (lone (b.atR a (.code c:: .inScope c::k)) cs w):=
 step_lone_go (by simp[stepG,stepG.exec,Frame.atR])
theorem kM{b:Frame}{a:Act}{k:List Item}{cs:List Frame}{w:World}{c:Code} :step P (lone (b.atR a (.inScope c::k)) cs w)= .next (lone (b.atR a k) cs w):=
 step_lone_go (by simp[stepG,stepG.exec,Frame.atR])
theorem o7{F:Fence}{n:Nat}{Q:Exit->Act->World->Prop}{a:Act}{w:World}{c:Code}(h:c.wpIn F n P (fun e a w=>match e with | .goto _=>False | e=>Q e a w) a w):(Code.scope c).wpIn F n P Q a w:=by
 intro b k cs hro hb hr;have h0:(lone (b.atR a (.code (.scope c)::k)) cs w).fenced P F:=fenced_calm hb hr rfl;obtain⟨e,a₁,w₁,hq,harr⟩:=h b (.inScope c::k) cs hro hb hr
 cases e with
 | normal=>exact⟨.normal,a₁,w₁,hq,.head h0 bV (StepsIn.trans harr (.one (fenced_calm hb hr rfl) kM))⟩
 | exit id'=>
  have hx:exitTo id' (.inScope c::k)=exitTo id' k:=by simp[exitTo]
  exact⟨.exit id',a₁,w₁,hq,fun k' hk=> .head h0 bV (harr.1 k' (by rw[hx];exact hk)),
   fun hr' hk=>let ⟨k₁,h1,h2⟩:=harr.2 hr' (by rw[hx];exact hk);⟨k₁,h1,.head h0 bV h2⟩⟩
 | goto l=>exact hq.elim
 | ret=>exact⟨_,a₁,w₁,hq,.of_steps (.one h0 bV) harr⟩
 | panic ch=>exact⟨_,a₁,w₁,hq,.of_steps (.one h0 bV) harr⟩
 | outgrown=>exact⟨_,a₁,w₁,hq,.of_steps (.one h0 bV) harr⟩
theorem H6(ok:RecOk P rec m){x:Code}{ax:AC}(hx:mU P x ax)
  (ihx:∀{a a':List AV} {h h':H} {e:Ex},aJ rec ax a h=some (e,a',h')->∀{ro:Option Nat} {B:Nat} {ρ:Emb} {w:World} {act:Act},B<=w.heap.size->Ctx ro ρ h->TR ρ a act.tmps->HR P ρ h w->Fresh ρ h h'->MK B ρ w act.defers->x.wpIn (Fn ro) 0 P (CPost P B ρ h w e a' h') act w)
  {sc:List Nat} {a a':List AV} {h h':H} {e:Ex} (hrun:aJ rec (.loop sc ax) a h=some (e,a',h'))
  {ro:Option Nat} {B:Nat} {ρ:Emb} {w:World} {act:Act} (hB:B<=w.heap.size) (hctx:Ctx ro ρ h) (ht:TR ρ a act.tmps) (hr:HR P ρ h w) (hfr:Fresh ρ h h') (hmk:MK B ρ w act.defers):
  Code.roundsIn (Fn ro) 0 P x (CPost P B ρ h w e a' h') (m+1) act w:=by
 simp only[aJ]at hrun;rw[roundsIn_succ];split at hrun
 ·rename_i a1 h1 hx1;have e1:=cV ok hx1;have e2:=ok.codeEv _ _ _ _ _ _ hrun;refine wpIn_mono (ihx hx1 hB hctx (ht.scrub _) hr (hfr.first e2) hmk) ?_;rintro q act1 w1 ⟨rfl,ρ1,t1,r1,s1,mk1⟩;simp only[Ex.toExit,Exit.then];have hl:=ok.loop _ _ hx _ _ _ _ _ _ hrun ro B ρ1 w1 act1 (Nat.le_trans hB s1.size) (hctx.step s1.sub e1) t1 r1 (hfr.rest e1 s1) mk1;have mono:∀(k:Nat) (Q Q':Exit->Act->World->Prop),(∀e a w,Q e a w->Q' e a w)->∀a w,Code.roundsIn (Fn ro) 0 P x Q k a w->Code.roundsIn (Fn ro) 0 P x Q' k a w:=by
   intro k Q Q' hQ
   induction k with
   | zero=>intro a w hh;exact hh
   | succ k ih=>
    intro a w hh;rw[roundsIn_succ]at hh ⊢;refine wpIn_mono hh ?_;intro q a1 w1 hq
    cases q with
    | normal=>exact ih _ _ hq
    | exit id=>exact hQ _ _ _ hq
    | goto l=>exact hQ _ _ _ hq
    | ret=>exact hQ _ _ _ hq
    | panic ch=>exact hQ _ _ _ hq
    | outgrown=>exact hQ _ _ _ hq
  exact mono m _ _ (fun q a2 w2 hc=>hc.trans s1 e1 e2 hfr) _ _ hl
 ·rename_i hne;refine wpIn_mono (ihx hrun hB hctx (ht.scrub _) hr hfr hmk) ?_;rintro q act1 w1 ⟨rfl,ρ1,t1,r1,s1,mk1⟩
  cases e with
  | normal=>exact absurd hrun (hne _ _)
  | ret=>exact⟨rfl,ρ1,t1,r1,s1,mk1⟩
  | exit id=>exact⟨rfl,ρ1,t1,r1,s1,mk1⟩
theorem w8(ok:RecOk P rec m){id:Nat}{ops:Array Oper}{draw:Bool}{c0:AC}{nt out rt:Nat}{ex:List (Nat×Nat)}(htr:iI P ops draw=some c0){a a':List AV}{h h':H}{e:Ex}(hrun:aJ rec (live nt c0 out ex rt).2 a h=some (e,a',h'))
  {ro:Option Nat} {B:Nat} {ρ:Emb} {w:World} {act:Act} (hB:B<=w.heap.size) (hctx:Ctx ro ρ h) (ht:TR ρ a act.tmps) (hr:HR P ρ h w) (hfr:Fresh ρ h h') (hmk:MK B ρ w act.defers):
  (Code.region id ops draw).wpIn (Fn ro) 0 P (CPost P B ρ h w e a' h') act w:=by
 rw[uG htr]at hrun;unfold iI at htr;split at htr
 ·cases htr
 ·rename_i aos haos;have hlen:ops.toList.length=ops.size:=by simp
  have straight:f8 rec aos a h=some (a',h')->e= .normal->draw=false->(Code.region id ops draw).wpIn (Fn ro) 0 P (CPost P B ρ h w e a' h') act w:=by intro h1 h2 h3;subst h2;subst h3;refine wpIn_region ?_;have:=DR (ro:=ro) (Q:=CPost P B ρ h w .normal a' h') ok (ops:=ops) (k:=0) (fun j=>by simp) haos h1 ht hr hfr hmk (fun ρ' w' act' t' r' s' m'=>⟨rfl,ρ',t',r',s',m'⟩);rw[hlen,<-List.range_eq_range']at this;exact this
  split at htr
  ·rename_i hd;cases htr;simp only[aJ]at hrun;split at hrun
   ·rename_i ho;cases hrun;exact straight ho rfl (by simpa using hd)
   ·cases hrun
  ·rename_i hd;have hd':draw=true:=by simpa using hd
   subst hd';simp only at htr;split at htr
   ·rename_i hok;obtain⟨S,hdep⟩:=JA haos hok;have drawn:dU rec (iE (o9 ops.toList []) aos) 0 a h []=some (a',h')->e= .normal->(Code.region id ops true).wpIn (Fn ro) 0 P (CPost P B ρ h w e a' h') act w:=by intro h1 h2;subst h2;obtain⟨A,Hh,V,RD,W,T,_⟩:=KK (fun _ _=>trivial) h1;rw[Y3]at T;exact W6 ok S hdep T ht hr hfr hmk (fun ρ' w' act' t' r' s' m'=>⟨rfl,ρ',t',r',s',m'⟩)
    split at htr
    ·rename_i hall;cases htr;simp only[aJ]at hrun;split at hrun
     ·rename_i ho;cases hrun;refine drawn ?_ rfl;have hid:=KF (uA haos) hall;rw[hid];exact qB (uA haos) ho
     ·cases hrun
    ·cases htr;simp only[aJ]at hrun;split at hrun
     ·rename_i ho;cases hrun;exact drawn ho rfl
     ·cases hrun
   ·cases htr
theorem sM{F:Fence}{n:Nat}{Q:Exit->Act->World->Prop}{a:Act}{w:World}{c rest:Code}{l:Nat}(hf:findLabel c l=some rest)(hQ:∀l' a w,¬Q (.goto l') a w)
  (h:c.wpIn F n P (fun e a w=>match e with | .goto l'=>l'=l/\∃m,mJ F n P l rest Q m a w | e=>Q e a w) a w):(Code.scope c).wpIn F n P Q a w:=by
 intro b k cs hro hb hr;have h0:(lone (b.atR a (.code (.scope c)::k)) cs w).fenced P F:=fenced_calm hb hr rfl;have hg:gotoIn l (.inScope c::k)=some (.code rest:: .inScope c::k):=by simp[gotoIn,hf]
 have hx:∀id,exitTo id (.inScope c::k)=exitTo id k:=fun id=>by simp[exitTo]
 have key:∀m a w,mJ F n P l rest Q m a w->∃e a' w',Q e a' w'/\ArrivesIn (Machine.fenced P F) P (lone (b.atR a (.code rest:: .inScope c::k)) cs w) b k cs e a' w':=by
  intro m
  induction m with
  | zero=>intro a w hj;exact hj.elim
  | succ m ih=>
   intro a w hj;obtain⟨e,a₁,w₁,hq,harr⟩:=(show Code.wpIn F n P rest _ a w from hj) b (.inScope c::k) cs hro hb hr
   cases e with
   | normal=>exact⟨.normal,a₁,w₁,hq,StepsIn.trans harr (.one (fenced_calm hb hr rfl) kM)⟩
   | exit id'=>exact⟨.exit id',a₁,w₁,hq,fun k' hk=>harr.1 k' (by rw[hx];exact hk),fun hr' hk=>harr.2 hr' (by rw[hx];exact hk)⟩
   | goto l'=>obtain⟨rfl,hj'⟩:=hq;obtain⟨e₂,a₂,w₂,hq₂,harr₂⟩:=ih _ _ hj';exact⟨e₂,a₂,w₂,hq₂,.of_steps (harr.1 _ hg) harr₂⟩
   | ret=>exact⟨_,a₁,w₁,hq,harr⟩
   | panic ch=>exact⟨_,a₁,w₁,hq,harr⟩
   | outgrown=>exact⟨_,a₁,w₁,hq,harr⟩
 obtain⟨e,a₁,w₁,hq,harr⟩:=h b (.inScope c::k) cs hro hb hr
 cases e with
 | normal=>exact⟨.normal,a₁,w₁,hq,.head h0 bV (StepsIn.trans harr (.one (fenced_calm hb hr rfl) kM))⟩
 | exit id'=>
  exact⟨.exit id',a₁,w₁,hq,fun k' hk=> .head h0 bV (harr.1 k' (by rw[hx];exact hk)),
   fun hr' hk=>let ⟨k₁,h1,h2⟩:=harr.2 hr' (by rw[hx];exact hk);⟨k₁,h1,.head h0 bV h2⟩⟩
 | goto l'=>obtain⟨rfl,m,hj⟩:=hq;obtain⟨e₂,a₂,w₂,hq₂,harr₂⟩:=key m _ _ hj;exact⟨e₂,a₂,w₂,hq₂,.of_steps (.head h0 bV (harr.1 _ hg)) harr₂⟩
 | ret=>exact⟨_,a₁,w₁,hq,.of_steps (.one h0 bV) harr⟩
 | panic ch=>exact⟨_,a₁,w₁,hq,.of_steps (.one h0 bV) harr⟩
 | outgrown=>exact⟨_,a₁,w₁,hq,.of_steps (.one h0 bV) harr⟩
theorem mI{F:Fence}{n l:Nat}{c:Code}{Q Q':Exit->Act->World->Prop}(hQ:∀e a w,Q e a w->Q' e a w):∀m {a:Act} {w:World},mJ F n P l c Q m a w->mJ F n P l c Q' m a w
 | 0,_,_,h=>h.elim
 | m+1,_,_,h=>wpIn_mono (show Code.wpIn F n P c _ _ _ from h) fun e a w hq=>by
  cases e with
  | goto l'=>exact⟨hq.1,mI hQ m hq.2⟩
  | normal=>exact hQ _ _ _ hq
  | exit id=>exact hQ _ _ _ hq
  | ret=>exact hQ _ _ _ hq
  | panic ch=>exact hQ _ _ _ hq
  | outgrown=>exact hQ _ _ _ hq
def Ex.toExitJ(l:Nat):Ex->Exit
 | .normal=> .normal
 | .ret=> .ret
 | .exit id=>if id=1048576+l then .goto l else .exit id
def CPostJ(P:Program)(l:Nat)(B:Nat)(ρ:Emb)(h:H)(w:World)(e:Ex)(a':List AV)(h':H):Exit->Act->World->Prop:=fun x act' w'=>
 x=e.toExitJ l/\∃ρ',TR ρ' a' act'.tmps/\HR P ρ' h' w'/\Stp ρ h w ρ' h' w'/\MK B ρ' w' act'.defers
theorem CPostJ.trans{l B:Nat}{ρ ρ1:Emb}{h h1 h':H}{w w1:World}{e:Ex}{a':List AV}{x:Exit}{act:Act}{w':World}(s:Stp ρ h w ρ1 h1 w1)(e1:Ev h h1)(e2:Ev h1 h')(hfr:Fresh ρ h h')
  (hc:CPostJ P l B ρ1 h1 w1 e a' h' x act w'):CPostJ P l B ρ h w e a' h' x act w':=by
 obtain⟨hx,ρ',t,r,s',mk⟩:=hc;exact⟨hx,ρ',t,r,s.trans s' e1 e2 hfr,mk⟩
theorem zX{ops:Array Oper}{draw:Bool}{c0:AC}{nt out rt:Nat}{ex:List (Nat×Nat)}(htr:iI P ops draw=some c0){a a':List AV}{h h':H}{e:Ex}(hrun:aJ rec (live nt c0 out ex rt).2 a h=some (e,a',h')):e= .normal:=by
 rw[uG htr]at hrun;unfold iI at htr;split at htr
 ·cases htr
 ·split at htr
  ·cases htr;simp only[aJ]at hrun;split at hrun<;>cases hrun;rfl
  ·simp only at htr;split at htr
   ·split at htr
    ·cases htr;simp only[aJ]at hrun;split at hrun<;>cases hrun;rfl
    ·cases htr;simp only[aJ]at hrun;split at hrun<;>cases hrun;rfl
   ·cases htr
theorem aGC(ok:RecOk P rec m)(l:Nat):∀(c:Code) {ac:AC},aBA P l c ac->∀{a a':List AV} {h h':H} {e:Ex},aJ rec ac a h=some (e,a',h')->
  (∀id,e= .exit id->id≠2097152+l)/\
  ∀{ro:Option Nat} {B:Nat} {ρ:Emb} {w:World} {act:Act},B<=w.heap.size->Ctx ro ρ h->TR ρ a act.tmps->HR P ρ h w->Fresh ρ h h'->MK B ρ w act.defers->
   c.wpIn (Fn ro) 0 P (CPostJ P l B ρ h w e a' h') act w:=by
 intro c
 induction c with
 | skip=>intro ac hrel a a' h h' e hrun;obtain⟨c0,ex,rt,out,htr,nt,rfl⟩:=hrel;simp only[trJ]at htr;cases htr;simp only[live,aJ]at hrun;cases hrun;exact⟨fun _ h=>(by cases h),fun hB hctx ht hr hfr hmk=>wpIn_skip ⟨rfl,_,ht,hr,Stp.refl _ _ _,hmk⟩⟩
 | label l'=>intro ac hrel a a' h h' e hrun;obtain⟨c0,ex,rt,out,htr,nt,rfl⟩:=hrel;simp only[trJ]at htr;cases htr;simp only[live,aJ]at hrun;cases hrun;exact⟨fun _ h=>(by cases h),fun hB hctx ht hr hfr hmk=>wpIn_label ⟨rfl,_,ht,hr,Stp.refl _ _ _,hmk⟩⟩
 | ret=>intro ac hrel a a' h h' e hrun;obtain⟨c0,ex,rt,out,htr,nt,rfl⟩:=hrel;simp only[trJ]at htr;cases htr;simp only[live,aJ]at hrun;cases hrun;exact⟨fun _ h=>(by cases h),fun hB hctx ht hr hfr hmk=>wpIn_ret ⟨rfl,_,ht,hr,Stp.refl _ _ _,hmk⟩⟩
 | exit id=>
  intro ac hrel a a' h h' e hrun;obtain⟨c0,ex,rt,out,htr,nt,rfl⟩:=hrel;simp only[trJ]at htr;split at htr
  ·rename_i hid;cases htr;simp only[live,aJ]at hrun;cases hrun;refine⟨fun _ h=>by injection h;omega,fun hB hctx ht hr hfr hmk=>wpIn_exit ⟨?_,_,ht,hr,Stp.refl _ _ _,hmk⟩⟩;simp only[Ex.toExitJ];rw[if_neg (by omega)]
  ·cases htr
 | goto l'=>
  intro ac hrel a a' h h' e hrun;obtain⟨c0,ex,rt,out,htr,nt,rfl⟩:=hrel;simp only[trJ]at htr;split at htr
  ·rename_i hid;subst hid;cases htr;simp only[live,aJ]at hrun;cases hrun;refine⟨fun _ h=>by injection h;omega,fun hB hctx ht hr hfr hmk=>wpIn_goto ⟨?_,_,ht,hr,Stp.refl _ _ _,hmk⟩⟩;simp only[Ex.toExitJ,if_true]
  ·cases htr
 | region id ops draw=>intro ac hrel a a' h h' e hrun;obtain⟨c0,ex,rt,out,htr,nt,rfl⟩:=hrel;simp only[trJ]at htr;have he:=zX htr hrun;subst he;exact⟨fun _ h=>(by cases h),fun hB hctx ht hr hfr hmk=>w8 ok htr hrun hB hctx ht hr hfr hmk⟩
 | seq x y ihx ihy=>
  intro ac hrel a a' h h' e hrun;obtain⟨c0,ex,rt,out,htr,nt,rfl⟩:=hrel;simp only[trJ]at htr;split at htr
  ·rename_i cx cy hx hy;cases htr;simp only[live,aJ]at hrun;split at hrun
   ·rename_i a1 h1 hx1;have e1:=cV ok hx1;have e2:=cV ok hrun;have gx:=ihx ⟨_,_,_,_,hx,_,rfl⟩ hx1;have gy:=ihy ⟨_,_,_,_,hy,_,rfl⟩ hrun;refine⟨gy.1,fun hB hctx ht hr hfr hmk=>wpIn_seq ?_⟩;refine wpIn_mono (gx.2 hB hctx ht hr (hfr.first e2) hmk) ?_;rintro q act1 w1 ⟨rfl,ρ1,t1,r1,s1,mk1⟩;simp only[Ex.toExitJ,Exit.then];refine wpIn_mono (gy.2 (Nat.le_trans hB s1.size) (hctx.step s1.sub e1) t1 r1 (hfr.rest e1 s1) mk1) ?_;intro q act2 w2 hc;exact hc.trans s1 e1 e2 hfr
   ·rename_i hne;have gx:=ihx ⟨_,_,_,_,hx,_,rfl⟩ hrun;refine⟨gx.1,fun hB hctx ht hr hfr hmk=>wpIn_seq ?_⟩;refine wpIn_mono (gx.2 hB hctx ht hr hfr hmk) ?_;rintro q act1 w1 ⟨rfl,ρ1,t1,r1,s1,mk1⟩
    cases e with
    | normal=>exact absurd hrun (hne _ _)
    | ret=>exact⟨rfl,ρ1,t1,r1,s1,mk1⟩
    | exit id=>
     simp only[Ex.toExitJ];split
     ·exact⟨by simp[Ex.toExitJ, *],ρ1,t1,r1,s1,mk1⟩
     ·exact⟨by simp[Ex.toExitJ, *],ρ1,t1,r1,s1,mk1⟩
  ·cases htr
 | cond c x y ihx ihy=>
  intro ac hrel a a' h h' e hrun;obtain⟨c0,ex,rt,out,htr,nt,rfl⟩:=hrel;simp only[trJ]at htr;split at htr
  ·rename_i cc cx cy hcc hx hy;cases htr;simp only[live,aJ]at hrun;split at hrun
   ·rename_i hb;have gx:=ihx ⟨_,_,_,_,hx,_,rfl⟩ hrun;refine⟨gx.1,fun hB hctx ht hr hfr hmk=>?_⟩;have hcv:=DB ht hcc;rw[hb]at hcv;exact wpIn_cond_true hcv.bool_inv (gx.2 hB hctx ht hr hfr hmk)
   ·rename_i hb;have gy:=ihy ⟨_,_,_,_,hy,_,rfl⟩ hrun;refine⟨gy.1,fun hB hctx ht hr hfr hmk=>?_⟩;have hcv:=DB ht hcc;rw[hb]at hcv;exact wpIn_cond_false hcv.bool_inv (gy.2 hB hctx ht hr hfr hmk)
   ·cases hrun
  ·cases htr
 | block id x ihx=>intro ac hrel;obtain⟨c0,ex,rt,out,htr,nt,rfl⟩:=hrel;simp[trJ]at htr
 | loop x ihx=>intro ac hrel;obtain⟨c0,ex,rt,out,htr,nt,rfl⟩:=hrel;simp[trJ]at htr
 | rangeFunc f ps asg b iha ihb=>intro ac hrel;obtain⟨c0,ex,rt,out,htr,nt,rfl⟩:=hrel;simp[trJ]at htr
 | scope x ih=>intro ac hrel;obtain⟨c0,ex,rt,out,htr,nt,rfl⟩:=hrel;simp[trJ]at htr
 | refuse s=>intro ac hrel;obtain⟨c0,ex,rt,out,htr,nt,rfl⟩:=hrel;simp[trJ]at htr
theorem IM(ok:RecOk P rec m){l:Nat}{c:Code}{ac:AC}(hrel:aBA P l c ac){sc:List Nat}{a a':List AV}{h h':H}{e:Ex}(hrun:aJ rec (.loop sc (.block (1048576+l) (.seq ac (.exit (2097152+l))))) a h=some (e,a',h'))
  {ro:Option Nat} {B:Nat} {ρ:Emb} {w:World} {act:Act} (hB:B<=w.heap.size) (hctx:Ctx ro ρ h) (ht:TR ρ a act.tmps) (hr:HR P ρ h w) (hfr:Fresh ρ h h') (hmk:MK B ρ w act.defers):
  mJ (Fn ro) 0 P l c (CPost P B ρ h w (unE l e) a' h') (m+1) act w:=by
 simp only[aJ]at hrun;show c.wpIn (Fn ro) 0 P _ act w
 cases hx:aJ rec ac (scrub a sc) h with
 | none=>rw[hx]at hrun;cases hrun
 | some r=>
  obtain⟨q,a1,h1⟩:=r;rw[hx]at hrun;have g:=aGC ok l c hrel hx;have e1:=cV ok hx
  cases q with
  | normal=>simp only at hrun;rw[if_neg (by omega)]at hrun;cases hrun;refine wpIn_mono (g.2 hB hctx (ht.scrub _) hr hfr hmk) ?_;rintro q act1 w1 ⟨rfl,ρ1,t1,r1,s1,mk1⟩;exact⟨by simp[unE,Ex.toExit,Ex.toExitJ],ρ1,t1,r1,s1,mk1⟩
  | ret=>simp only at hrun;cases hrun;refine wpIn_mono (g.2 hB hctx (ht.scrub _) hr hfr hmk) ?_;rintro q act1 w1 ⟨rfl,ρ1,t1,r1,s1,mk1⟩;exact⟨by simp[unE,Ex.toExit,Ex.toExitJ],ρ1,t1,r1,s1,mk1⟩
  | exit id=>
   simp only at hrun;by_cases hid:id=1048576+l
   ·subst hid;simp only[if_true]at hrun;have e2:=ok.codeEv _ _ _ _ _ _ hrun;refine wpIn_mono (g.2 hB hctx (ht.scrub _) hr (hfr.first e2) hmk) ?_;rintro q act1 w1 ⟨rfl,ρ1,t1,r1,s1,mk1⟩;simp only[Ex.toExitJ,if_true];refine⟨trivial,?_⟩;exact mI (fun q a2 w2 hc=>hc.trans s1 e1 e2 hfr) _ (ok.jump l c ac hrel sc _ _ _ _ _ hrun ro B ρ1 w1 act1 (Nat.le_trans hB s1.size) (hctx.step s1.sub e1) t1 r1 (hfr.rest e1 s1) mk1)
   ·simp only[hid,if_false]at hrun;cases hrun;have hE:=g.1 id rfl;refine wpIn_mono (g.2 hB hctx (ht.scrub _) hr hfr hmk) ?_;rintro q act1 w1 ⟨rfl,ρ1,t1,r1,s1,mk1⟩;simp only[Ex.toExitJ,hid,if_false];exact⟨by simp[unE,Ex.toExit,hE],ρ1,t1,r1,s1,mk1⟩
theorem SU(ok:RecOk P rec m){c:Code}{c0:AC}(htr:DA P c=some c0){nt out rt:Nat}{ex:List (Nat×Nat)}{a a':List AV}{h h':H}{e:Ex}(hrun:aJ rec (live nt c0 out ex rt).2 a h=some (e,a',h'))
  {ro:Option Nat} {B:Nat} {ρ:Emb} {w:World} {act:Act} (hB:B<=w.heap.size) (hctx:Ctx ro ρ h) (ht:TR ρ a act.tmps) (hr:HR P ρ h w) (hfr:Fresh ρ h h') (hmk:MK B ρ w act.defers):
  (Code.scope c).wpIn (Fn ro) 0 P (CPost P B ρ h w e a' h') act w:=by
 unfold DA at htr;split at htr
 ·rename_i l hl;split at htr
  ·rename_i rest hf;split at htr
   ·rename_i x y hx hy;cases htr;obtain⟨X,Y,sc,rX,rY,eq⟩:∃X Y sc,aBA P l c X/\aBA P l rest Y/\(live nt (Z3 l x y) out ex rt).2= .block (2097152+l) (.seq (.block (1048576+l) (.seq X (.exit (2097152+l)))) (.loop sc (.block (1048576+l) (.seq Y (.exit (2097152+l)))))):=
     ⟨_,_,_,⟨_,_,_,_,hx,_,rfl⟩,⟨_,_,_,_,hy,_,rfl⟩,rfl⟩
    rw[eq]at hrun;have hun:aJ rec (.block (2097152+l) (.seq (.block (1048576+l) (.seq X (.exit (2097152+l)))) (.loop sc (.block (1048576+l) (.seq Y (.exit (2097152+l))))))) a h=
      (match aJ rec (.seq (.block (1048576+l) (.seq X (.exit (2097152+l)))) (.loop sc (.block (1048576+l) (.seq Y (.exit (2097152+l)))))) a h with
       | some (.exit i,a',h')=>if i=2097152+l then some (.normal,a',h')else some (.exit i,a',h')
       | r=>r):=rfl
    rw[hun]at hrun;clear hun;refine sM hf (fun l' a w hq=>by obtain⟨h1,_⟩:=hq;cases e<;>cases h1) ?_;have hseq:aJ rec (.seq (.block (1048576+l) (.seq X (.exit (2097152+l)))) (.loop sc (.block (1048576+l) (.seq Y (.exit (2097152+l)))))) a h=
      (match aJ rec (.block (1048576+l) (.seq X (.exit (2097152+l)))) a h with
       | some (.normal,a',h')=>aJ rec (.loop sc (.block (1048576+l) (.seq Y (.exit (2097152+l))))) a' h'
       | r=>r):=rfl
    rw[hseq]at hrun;clear hseq;have hblk:aJ rec (.block (1048576+l) (.seq X (.exit (2097152+l)))) a h=
      (match (match aJ rec X a h with
       | some (.normal,a',h')=>some (Ex.exit (2097152+l),a',h')
       | r=>r)with
       | some (.exit i,a',h')=>if i=1048576+l then some (.normal,a',h')else some (.exit i,a',h')
       | r=>r):=rfl
    rw[hblk]at hrun;clear hblk
    cases hX:aJ rec X a h with
    | none=>rw[hX]at hrun;cases hrun
    | some r=>
     obtain⟨q,a1,h1⟩:=r;rw[hX]at hrun;have g:=aGC ok l c rX hX;have e1:=cV ok hX
     cases q with
     | normal=>simp only at hrun;rw[if_neg (by omega)]at hrun;simp only[if_true]at hrun;cases hrun;refine wpIn_mono (g.2 hB hctx ht hr hfr hmk) ?_;rintro q act1 w1 ⟨rfl,ρ1,t1,r1,s1,mk1⟩;exact⟨by simp[Ex.toExit,Ex.toExitJ],ρ1,t1,r1,s1,mk1⟩
     | ret=>simp only at hrun;cases hrun;refine wpIn_mono (g.2 hB hctx ht hr hfr hmk) ?_;rintro q act1 w1 ⟨rfl,ρ1,t1,r1,s1,mk1⟩;exact⟨by simp[Ex.toExit,Ex.toExitJ],ρ1,t1,r1,s1,mk1⟩
     | exit id=>
      simp only at hrun;by_cases hid:id=1048576+l
      ·subst hid;simp only[if_true]at hrun
       cases hL:aJ rec (.loop sc (.block (1048576+l) (.seq Y (.exit (2097152+l))))) a1 h1 with
       | none=>rw[hL]at hrun;cases hrun
       | some r=>
        obtain⟨q2,a2,h2⟩:=r;rw[hL]at hrun;have e2:=cV ok hL;have hfin:h2=h'/\a2=a'/\e=unE l q2:=by
         cases q2 with
         | normal=>cases hrun;exact⟨rfl,rfl,rfl⟩
         | ret=>cases hrun;exact⟨rfl,rfl,rfl⟩
         | exit i=>simp only at hrun;simp only[unE];split at hrun<;>rename_i hi<;>cases hrun<;>simp[hi]
        obtain⟨rfl,rfl,rfl⟩:=hfin;refine wpIn_mono (g.2 hB hctx ht hr (hfr.first e2) hmk) ?_;rintro q act1 w1 ⟨rfl,ρ1,t1,r1,s1,mk1⟩;simp only[Ex.toExitJ,if_true];refine⟨trivial,m+1,?_⟩;exact mI (fun q a2 w2 hc=>hc.trans s1 e1 e2 hfr) _ (IM ok rY hL (Nat.le_trans hB s1.size) (hctx.step s1.sub e1) t1 r1 (hfr.rest e1 s1) mk1)
      ·simp only[hid,if_false]at hrun;have hE:=g.1 id rfl;rw[if_neg hE]at hrun;cases hrun;refine wpIn_mono (g.2 hB hctx ht hr hfr hmk) ?_;rintro q act1 w1 ⟨rfl,ρ1,t1,r1,s1,mk1⟩;simp only[Ex.toExitJ,hid,if_false];exact⟨by simp[Ex.toExit],ρ1,t1,r1,s1,mk1⟩
   ·cases htr
  ·cases htr
 ·cases htr
theorem w9(ok:RecOk P rec m):∀(c:Code) {ac:AC},mU P c ac->∀{a a':List AV} {h h':H} {e:Ex},aJ rec ac a h=some (e,a',h')->
  ∀{ro:Option Nat} {B:Nat} {ρ:Emb} {w:World} {act:Act},B<=w.heap.size->Ctx ro ρ h->TR ρ a act.tmps->HR P ρ h w->Fresh ρ h h'->MK B ρ w act.defers->
   c.wpIn (Fn ro) 0 P (CPost P B ρ h w e a' h') act w:=by
 intro c
 induction c with
 | skip=>intro ac hrel a a' h h' e hrun ro B ρ w act hB hctx ht hr hfr hmk;obtain⟨c0,ex,rt,out,htr,nt,rfl⟩:=hrel;simp only[tr]at htr;cases htr;simp only[live,aJ]at hrun;cases hrun;exact wpIn_skip ⟨rfl,ρ,ht,hr,Stp.refl _ _ _,hmk⟩
 | ret=>intro ac hrel a a' h h' e hrun ro B ρ w act hB hctx ht hr hfr hmk;obtain⟨c0,ex,rt,out,htr,nt,rfl⟩:=hrel;simp only[tr]at htr;cases htr;simp only[live,aJ]at hrun;cases hrun;exact wpIn_ret ⟨rfl,ρ,ht,hr,Stp.refl _ _ _,hmk⟩
 | exit id=>intro ac hrel a a' h h' e hrun ro B ρ w act hB hctx ht hr hfr hmk;obtain⟨c0,ex,rt,out,htr,nt,rfl⟩:=hrel;simp only[tr]at htr;cases htr;simp only[live,aJ]at hrun;cases hrun;exact wpIn_exit ⟨rfl,ρ,ht,hr,Stp.refl _ _ _,hmk⟩
 | region id ops draw=>intro ac hrel a a' h h' e hrun ro B ρ w act hB hctx ht hr hfr hmk;obtain⟨c0,ex,rt,out,htr,nt,rfl⟩:=hrel;simp only[tr]at htr;exact w8 ok htr hrun hB hctx ht hr hfr hmk
 | seq x y ihx ihy=>
  intro ac hrel a a' h h' e hrun ro B ρ w act hB hctx ht hr hfr hmk;obtain⟨c0,ex,rt,out,htr,nt,rfl⟩:=hrel;simp only[tr]at htr;split at htr
  ·rename_i cx cy hx hy;cases htr;simp only[live,aJ]at hrun;refine wpIn_seq ?_;split at hrun
   ·rename_i a1 h1 hx1;have e1:=cV ok hx1;have e2:=cV ok hrun;refine wpIn_mono (ihx ⟨_,_,_,_,hx,_,rfl⟩ hx1 hB hctx ht hr (hfr.first e2) hmk) ?_;rintro q act1 w1 ⟨rfl,ρ1,t1,r1,s1,mk1⟩;simp only[Ex.toExit,Exit.then];refine wpIn_mono (ihy ⟨_,_,_,_,hy,_,rfl⟩ hrun (Nat.le_trans hB s1.size) (hctx.step s1.sub e1) t1 r1 (hfr.rest e1 s1) mk1) ?_;intro q act2 w2 hc;exact hc.trans s1 e1 e2 hfr
   ·rename_i hne;refine wpIn_mono (ihx ⟨_,_,_,_,hx,_,rfl⟩ hrun hB hctx ht hr hfr hmk) ?_;rintro q act1 w1 ⟨rfl,ρ1,t1,r1,s1,mk1⟩
    cases e with
    | normal=>exact absurd hrun (hne _ _)
    | ret=>exact⟨rfl,ρ1,t1,r1,s1,mk1⟩
    | exit id=>exact⟨rfl,ρ1,t1,r1,s1,mk1⟩
  ·cases htr
 | cond c x y ihx ihy=>
  intro ac hrel a a' h h' e hrun ro B ρ w act hB hctx ht hr hfr hmk;obtain⟨c0,ex,rt,out,htr,nt,rfl⟩:=hrel;simp only[tr]at htr;split at htr
  ·rename_i cc cx cy hcc hx hy;cases htr;simp only[live,aJ]at hrun;have hcv:=DB ht hcc;split at hrun
   ·rename_i hb;rw[hb]at hcv;exact wpIn_cond_true hcv.bool_inv (ihx ⟨_,_,_,_,hx,_,rfl⟩ hrun hB hctx ht hr hfr hmk)
   ·rename_i hb;rw[hb]at hcv;exact wpIn_cond_false hcv.bool_inv (ihy ⟨_,_,_,_,hy,_,rfl⟩ hrun hB hctx ht hr hfr hmk)
   ·cases hrun
  ·cases htr
 | block id x ihx=>
  intro ac hrel a a' h h' e hrun ro B ρ w act hB hctx ht hr hfr hmk;obtain⟨c0,ex,rt,out,htr,nt,rfl⟩:=hrel;simp only[tr,Option.map_eq_some_iff]at htr;obtain⟨cx,hx,rfl⟩:=htr;simp only[live,aJ]at hrun;refine wpIn_block ?_;split at hrun
  ·rename_i i a1 h1 hx1;split at hrun
   ·rename_i hi;cases hrun;refine wpIn_mono (ihx ⟨_,_,_,_,hx,_,rfl⟩ hx1 hB hctx ht hr hfr hmk) ?_;rintro q act1 w1 ⟨rfl,ρ1,t1,r1,s1,mk1⟩;simp only[Ex.toExit,Exit.inBlock,hi,if_true];exact⟨rfl,ρ1,t1,r1,s1,mk1⟩
   ·rename_i hi;cases hrun;refine wpIn_mono (ihx ⟨_,_,_,_,hx,_,rfl⟩ hx1 hB hctx ht hr hfr hmk) ?_;rintro q act1 w1 ⟨rfl,ρ1,t1,r1,s1,mk1⟩;simp only[Ex.toExit,Exit.inBlock,hi,if_false];exact⟨rfl,ρ1,t1,r1,s1,mk1⟩
  ·rename_i hne;refine wpIn_mono (ihx ⟨_,_,_,_,hx,_,rfl⟩ hrun hB hctx ht hr hfr hmk) ?_;rintro q act1 w1 ⟨rfl,ρ1,t1,r1,s1,mk1⟩
   cases e with
   | normal=>exact⟨rfl,ρ1,t1,r1,s1,mk1⟩
   | ret=>exact⟨rfl,ρ1,t1,r1,s1,mk1⟩
   | exit id=>exact absurd hrun (hne _ _ _)
 | loop x ihx=>intro ac hrel a a' h h' e hrun ro B ρ w act hB hctx ht hr hfr hmk;obtain⟨c0,ex,rt,out,htr,nt,rfl⟩:=hrel;simp only[tr,Option.map_eq_some_iff]at htr;obtain⟨cx,hx,rfl⟩:=htr;simp only[live,aJ]at hrun;exact wpIn_loop_rounds _ (H6 ok ⟨_,_,_,_,hx,_,rfl⟩ (ihx ⟨_,_,_,_,hx,_,rfl⟩) hrun hB hctx ht hr hfr hmk)
 | rangeFunc f ps asg b iha ihb=>
  intro ac hrel a a' h h' e hrun ro B ρ w act hB hctx ht hr hfr hmk;obtain⟨c0,ex,rt,out,htr,nt,rfl⟩:=hrel;simp only[tr]at htr;split at htr
  ·rename_i cf ca cb hf hasg hb;cases htr;simp only[live,aJ]at hrun;split at hrun
   ·rename_i g first cap hev
    split at hrun
    ·rename_i v1 h1 hcall;have e1:=ok.callEv _ _ _ _ _ hcall;split at hrun
     ·rename_i ver r hg;split at hrun
      ·cases hrun
      ·rename_i hnb;cases hrun;have hfv:=DB ht hf;rw[hev]at hfv
       --the record that is laid
       generalize hrec:({state:= .ready,pending:=none,tmps:=a,params:=ps.toList,assign:=(live nt ca (live nt cb 0 ex rt).1 ex rt).2,body:=(live nt cb 0 ex rt).2} :ALoop)=arec at*;have e0:Ev h (h.alloc (.loop 0 arec)):=Ev.alloc h _;have e2:Ev h1 (h1.set h.next (.loop (ver+1) {r with state:= .exhausted})):=Ev.set hg (.inr (.inr ⟨_,_,rfl,rfl,Nat.lt_succ_self _,rfl,rfl,rfl⟩)) rfl;have hn1:h.next+1<=h1.next:=e1.next;have hfn:ρ h.next=none:=hfr h.next (Nat.le_refl _) (by simp;omega)
       --what goes on,whichever way the record was laid
       have go:∀(l:Nat) (mark:List Deferred) (w1 w2:World) (r':Loop),w2=w1.alloc (.loop r')->l=w1.heap.size->r'.state= .ready->r'.pending=none->r'.tmps=act.tmps->r'.params=ps->r'.assign=asg->r'.body=b->
         HR P ρ h w1->Stp ρ h w ρ h w1->MK B ρ w1 (mark++act.defers)->
         ∃(d:Deferred) (f':FuncId) (args:Array Value),(resolve act.eval (rangeCall f l) 0).run P w2= .ok d w2/\(invoke d.target d.args).run P w2= .ok (.enter f' args) w2/\
          CallsIn (Fn ro) 0 P f' args w2 (rangePost (Fn ro) 0 P l (CPost P B ρ h w (r.pending.getD .normal) a (h1.set h.next (.loop (ver+1) {r with state:= .exhausted}))) {act with defers:=mark++act.defers}):=by
        intro l mark w1 w2 r' hw2 hl q1 q2 q3 q4 q5 q6 hr1 s1 mk1;subst hw2;subst hl;have hrel:LoopRel P (upd ρ h.next ⟨w1.heap.size,0,0⟩) arec r':=by
         subst hrec;refine⟨q1,by rw[q2];rfl,by simp,?_,by rw[q4],?_,?_⟩
         ·rw[q3];exact ht.mono (gD hfn)
         ·rw[q5];exact⟨_,_,_,_,hasg,_,rfl⟩
         ·rw[q6];exact⟨_,_,_,_,hb,_,rfl⟩
        obtain⟨hr2,s2⟩:=HR.alloc (o:= .loop r') (ao:= .loop 0 arec) (l:=⟨w1.heap.size,0,0⟩) hr1 hfn rfl ⟨r',heap_alloc_new w1 _,hrel⟩;have hrl:upd ρ h.next ⟨w1.heap.size,0,0⟩ h.next=some ⟨w1.heap.size,0,0⟩:=aV _ _ _;have hfr2:Fresh (upd ρ h.next ⟨w1.heap.size,0,0⟩) (h.alloc (.loop 0 arec)) h1:=by
         intro y h3 h4;have hne:y≠h.next:=by simp at h3;omega
         rw[bJ hne];exact hfr y (by simp at h3;omega) (by simpa using h4)
        have hfv2:=hfv.mono (gD (l:=⟨w1.heap.size,0,0⟩) hfn);generalize hfe:act.eval f=fv at hfv2
        cases hfv2 with
        | func _ _ _ f' c' hp hfl hcl g1 g2=>
         obtain⟨fn,k1,k2,k3⟩:=ok.callFn _ _ _ _ _ hcall;have hyv:VR (upd ρ h.next ⟨w1.heap.size,0,0⟩) (.func (.yield h.next) [] []) (.func (.yield w1.heap.size) #[] #[]):= .yield h.next _ hrl;have hall:VRs (upd ρ h.next ⟨w1.heap.size,0,0⟩) (first++[.func (.yield h.next) [] []]++cap) (f'++[.func (.yield w1.heap.size) #[] #[]]++c'):=
          VRs.append (VRs.append ⟨hfl,g1⟩ (.cons hyv (VRs.nil _))) ⟨hcl,g2⟩
         have hc:=ok.call _ _ _ _ _ hcall _ _ _ hall hr2 hfr2;refine⟨{target:= .fn (.func g) c'.toArray,args:=f'.toArray++ #[Value.func (.yield w1.heap.size) #[] #[]]},g,(f'++[Value.func (.yield w1.heap.size) #[] #[]]++c').toArray,?_,?_,?_⟩
         ·have ea:(#[Operand.const (Value.func (.yield w1.heap.size) #[] #[])]:Array Operand).map act.eval= #[Value.func (.yield w1.heap.size) #[] #[]]:=by apply Array.ext';simp[Act.eval]
          simp only[resolve,rangeCall,ea,hfe,Deferred.ofValue,Sem.run_pure]
         ·have hbn:fn.body.isNone=false:=by cases hb:fn.body<;>simp_all
          simp only[invoke,callFunc,Sem.run_bind,run_program,Result.andThen_ok,k1];rw[if_neg (by rw[k3];simp),if_neg (by rw[hbn];simp)];simp
         ·refine CallsIn.mono (F:=Fn ro) (show CallsIn (Fn ro) 0 P g _ _ _ from hc) ?_;rintro ee w3 ⟨u,ρ3,rfl,_,r3,s3⟩;have hx3:=s3.sub _ _ hrl;obtain⟨rr,p1,p2⟩:=r3.obj h.next _ _ hx3 hg;have hlt3:w1.heap.size<w3.heap.size:=(Array.getElem?_eq_some_iff.1 p1).1;have hnb':rr.state≠ .busy:=by rw[p2.state];exact hnb
          have hrelE:LoopRel P ρ3 {r with state:= .exhausted} {rr with state:= .exhausted} :=⟨rfl,p2.pending,p2.nojump,p2.tmps,p2.params,p2.asg,p2.body⟩;obtain⟨r4,s4⟩:=HR.turn (o':= .loop (ver+1) {r with state:= .exhausted}) (w':=w3.putObj w1.heap.size (.loop {rr with state:= .exhausted})) r3 hx3 hg rfl rfl (by simp) rfl rfl rfl (fun b hb=>World.putObj_heap_other hb) ⟨_,World.putObj_heap_same hlt3,hrelE⟩;have f12:Fresh ρ h h1:=fun y a b=>hfr y a (by simpa using b);have st1:Stp ρ h w _ (h.alloc (.loop 0 arec)) _:=s1.trans s2 (Ev.refl h) e0 (fun y a b=>hfr y a (by simp at b;simp;omega));have st2:=st1.trans s3 e0 e1 f12;have st3:=st2.trans s4 (e0.trans e1) e2 hfr;have mk4:=((mk1.step s2).step s3).step s4;refine⟨_,_,run_endLoop p1 hnb',?_⟩;have hfin:∀(q:Exit),q=(r.pending.getD .normal).toExit->CPost P B ρ h w (r.pending.getD .normal) a (h1.set h.next (.loop (ver+1) {r with state:= .exhausted})) q {act with defers:=mark++act.defers} (w3.putObj w1.heap.size (.loop {rr with state:= .exhausted})):=
           fun q hq=>⟨hq,ρ3,ht.mono st3.sub,r4,st3,mk4⟩
          have hnj:=p2.nojump;have hpe:=p2.pending;generalize w3.putObj w1.heap.size (.loop {rr with state:= .exhausted})=wE at hfin ⊢;generalize h1.set h.next (.loop (ver+1) {r with state:= .exhausted})=hE at hfin ⊢;generalize rr.pending=j at hpe ⊢;subst hpe;generalize hgd:r.pending.getD .normal=qe at hfin ⊢
          cases hp:r.pending with
          | none=>rw[hp]at hgd;subst hgd;exact hfin .normal rfl
          | some q=>
           rw[hp]at hgd hnj;subst hgd
           cases q with
           | normal=>exact absurd rfl hnj
           | ret=>exact wpIn_ret (hfin .ret rfl)
           | exit id=>exact wpIn_exit (hfin (.exit id) rfl)
       refine wpIn_rangeFunc fun fn _=>?_
       cases ro with
       | none=>
        obtain⟨hg1,sg1⟩:=HR.garbage (.deferred (some [])) hr;have mk1:MK B ρ (w.alloc (.deferred (some []))) ([{target:= .collected w.heap.size,args:= #[]}]++act.defers):=by refine⟨⟨w.heap.size,hB,rfl,heap_alloc_new w _,fun x l hx=>by have:=hr.bound x l hx;omega,hmk.notmem _ (Nat.le_refl _)⟩,hmk.step sg1⟩
        obtain⟨d,f',args,g1,g2,g3⟩:=go (w.alloc (.deferred (some []))).heap.size [{target:= .collected w.heap.size,args:= #[]}] (w.alloc (.deferred (some []))) _ {state:= .ready,pending:=none,fn,tmps:=act.tmps,params:=ps,assign:=asg,body:=b,defers:=w.heap.size} rfl rfl rfl rfl rfl rfl rfl rfl hg1 sg1 mk1;refine⟨_,_,_,d,_,f',args,_,run_enterLoop_outer fn act.tmps ps asg b,by simpa using g1,fun _ _=>trivial,by simpa using g2,fun hh=>by simp[Fn,Fence.wide]at hh,by simpa using g3⟩
       | some l0=>
        obtain⟨x0,lx0,ver0,r0,c1,c2,c3⟩:=hctx l0 rfl;obtain⟨rr0,c4,_⟩:=hr.obj x0 lx0 _ c1 c3;rw[c2]at c4;have hent:(Instr.enterLoop fn act.tmps ps asg b (some l0)).run P w= .ok (w.heap.size,[]) (w.alloc (.loop {state:= .ready,pending:=none,fn,tmps:=act.tmps,params:=ps,assign:=asg,body:=b,defers:=rr0.defers})):=by simp[Instr.enterLoop,run_getLoop c4]
        obtain⟨d,f',args,g1,g2,g3⟩:=go w.heap.size [] w _ {state:= .ready,pending:=none,fn,tmps:=act.tmps,params:=ps,assign:=asg,body:=b,defers:=rr0.defers} rfl rfl rfl rfl rfl rfl rfl rfl hr (Stp.refl _ _ _) hmk;exact⟨_,_,_,d,_,f',args,_,hent,g1,fun _ _=>trivial,g2,fun hh=>by simp[Fn,Fence.wide]at hh,g3⟩
     ·cases hrun
    ·cases hrun
   ·cases hrun
  ·cases htr
 | scope x ih=>
  intro ac hrel a a' h h' e hrun ro B ρ w act hB hctx ht hr hfr hmk;obtain⟨c0,ex,rt,out,htr,nt,rfl⟩:=hrel;simp only[tr]at htr;split at htr
  ·exact SU ok htr hrun hB hctx ht hr hfr hmk
  ·refine o7 (wpIn_mono (ih ⟨c0,ex,rt,out,htr,nt,rfl⟩ hrun hB hctx ht hr hfr hmk) ?_);rintro q act1 w1 hq
   cases q with
   | goto l=>obtain⟨h1,_⟩:=hq;cases e<;>cases h1
   | _=>exact hq
 | label l=>intro ac hrel a a' h h' e hrun ro B ρ w act hB hctx ht hr hfr hmk;obtain⟨c0,ex,rt,out,htr,nt,rfl⟩:=hrel;simp only[tr]at htr;cases htr;simp only[live,aJ]at hrun;cases hrun;exact wpIn_label ⟨rfl,ρ,ht,hr,Stp.refl _ _ _,hmk⟩
 | goto l=>intro ac hrel;obtain⟨c0,ex,rt,out,htr,nt,rfl⟩:=hrel;simp[tr]at htr
 | refuse s=>intro ac hrel;obtain⟨c0,ex,rt,out,htr,nt,rfl⟩:=hrel;simp[tr]at htr
theorem H4{B:Nat}{ρ:Emb}{h:H}{w0:World}{fn:Func}{tmps:Array Value}{R:Ending->World->Prop} :
  ∀{ds:List Deferred} {w:World},MK B ρ w ds->HR P ρ h w->
   (∀w',HR P ρ h w'->w'.os=w.os->w'.tape=w.tape->w'.output=w.output->w.heap.size<=w'.heap.size->(∀b,b<B->w'.heap[b]? =w.heap[b]?)->∃v,(results fn tmps).run P w'= .ok v w'/\R (.returned v) w')->
   LeavesInM Fence.wide 0 P fn tmps R ds .returning w
 | [],w,_,hr,hfin=>by unfold LeavesInM LeavesIn;exact hfin w hr rfl rfl rfl (Nat.le_refl _) (fun _ _=>rfl)
 | d::ds,w,⟨⟨D,hB,h1,h2,h3,h4⟩,hr'⟩,hr,hfin=>by
  subst h1;unfold LeavesInM;refine⟨by simp,.inl ⟨D,w.putObj D (.deferred none),rfl,run_takeDeferred h2,?_⟩⟩;have hlt:D<w.heap.size:=(Array.getElem?_eq_some_iff.1 h2).1;have hr2:HR P ρ h (w.putObj D (.deferred none)):=by
   refine⟨hr.gat.keep fun b l hb hlt=>World.putObj_heap_other fun e=>?_,hr.goff,fun x l hx=>by have:=hr.bound x l hx;simpa using this,fun x l o hx hg=>(hr.obj x l o hx hg).mono (Sub.refl ρ) (World.putObj_heap_other (h3 x l hx)),hr.inj⟩;obtain⟨cs,e',fz,g1,_⟩:=hr.gat b l hb;subst e;rw[h2]at g1;cases g1
  have hm2:MK B ρ (w.putObj D (.deferred none)) ds:=by
   have key:∀{ds:List Deferred},MK B ρ w ds->({target:= .collected D,args:= #[]} :Deferred)∉ds->MK B ρ (w.putObj D (.deferred none)) ds:=by
    intro ds
    induction ds with
    | nil=>intro _ _;trivial
    | cons d ds ih=>rintro⟨⟨D',hB',k1,k2,k3,k4⟩,kr⟩ hn;have hne:D'≠D:=fun e=>hn (by rw[k1,e];simp);exact⟨⟨D',hB',k1,by rw[World.putObj_heap_other hne];exact k2,k3,k4⟩,ih kr (fun hh=>hn (List.mem_cons_of_mem _ hh))⟩
   exact key hr' h4
  refine H4 (w0:=w0) hm2 hr2 ?_;intro w' q1 q2 q3 q4 q5 q6;exact hfin w' q1 q2 q3 q4 (by simpa using q5) (fun b hb=>by rw[q6 b hb,World.putObj_heap_other (by omega)])
theorem aE3{ρ:Emb}{h:H}{w:World}{a:List AV}{tmps:Array Value}(ht:TR ρ a tmps)(hr:HR P ρ h w){r:ResultVar}{ar:ARes}(htr:BB P r=some ar){v:AV}(hv:tU a h ar=some v):
  ∃u,VR ρ v u/\(match r with | ResultVar.tmp t=>(pure (tmps.getD t undef):Sem Value) | ResultVar.cell a t=>do loadVar t (<-asAddr (tmps.getD a undef))).run P w=Result.ok u w:=by
 cases r with
 | tmp t=>simp only[BB]at htr;cases htr;simp only[tU]at hv;cases hv;exact⟨_,ht.get t,rfl⟩
 | cell t ty=>
  simp only[BB]at htr;split at htr
  ·rename_i n hg hs;cases htr;simp only[tU]at hv;split at hv
   ·rename_i b i hb
    cases hc:aZ h b i n with
    | none=>simp[hc]at hv
    | some cs=>simp[hc]at hv;subst hv;have:=ht.get t;rw[hb]at this;obtain⟨l,hl,hu⟩:=this.ptr_inv;obtain⟨ver,rw,all,hg',hn,e⟩:=cJ hc;obtain⟨us,h1,h2,h3⟩:=(hr.obj b l _ hl hg').cells hn e;refine⟨.agg us.toArray,h1.aggv,?_⟩;have hrl:(loadCells ⟨l.blk,l.base+i,none⟩ n).run P w= .ok us.toArray w:=l7 h2 (fun j u hj=>by rw[Addr.add_mk];exact h3 j u hj);simp only[hu,asAddr,Sem.run_bind,Sem.run_pure,Result.andThen_ok,loadVar,gX hg,if_true,cL hs,hrl]
   ·cases hv
  ·rename_i hg;cases htr;simp only[tU]at hv;split at hv
   ·rename_i b i hb;have:=ht.get t;rw[hb]at this;obtain⟨l,hl,hu⟩:=this.ptr_inv;obtain⟨ob,hg',_⟩:=uS hv;obtain⟨u,h1,h2⟩:=(hr.obj b l _ hl hg').cell hg' hv;refine⟨u,h2,?_⟩;simp[hu,asAddr,loadVar,gX hg,h1]
   ·cases hv
  ·cases htr
theorem BV{ρ:Emb}{h:H}{w:World}{a:List AV}{tmps:Array Value}(ht:TR ρ a tmps)(hr:HR P ρ h w):∀{rs:List ResultVar} {ars:List ARes},dS (BB P) rs=some ars->∀{vs:List AV},cW a h ars=some vs->
  ∃us,VRs ρ vs us/\(rs.mapM (fun(r:ResultVar)=>match r with | ResultVar.tmp t=>(pure (tmps.getD t undef):Sem Value) | ResultVar.cell a t=>do loadVar t (<-asAddr (tmps.getD a undef)))).run P w=Result.ok us w
 | [],ars,htr,vs,hv=>by cases htr;cases hv;exact⟨[],VRs.nil ρ,rfl⟩
 | r::rs,ars,htr,vs,hv=>by
  unfold dS at htr;split at htr
  ·rename_i y ys hy hys;cases htr;unfold cW at hv;split at hv
   ·rename_i v vs' h1 h2;cases hv;obtain⟨u,g1,g2⟩:=aE3 ht hr hy h1;obtain⟨us,g3,g4⟩:=BV ht hr hys h2;refine⟨u::us,.cons g1 g3,?_⟩;simp only[List.mapM_cons,Sem.run_bind];rw[g2];simp only[Result.andThen_ok,g4,Sem.run_pure]
   ·cases hv
  ·cases htr
theorem K4{ρ:Emb}{h:H}{w:World}{a:List AV}{tmps:Array Value}{fn:Func}{ars:List ARes}(ht:TR ρ a tmps)(hr:HR P ρ h w)(htr:dS (BB P) fn.results.toList=some ars){vs:List AV}(hv:cW a h ars=some vs):
  ∃u,VR ρ (gI vs) u/\(results fn tmps).run P w= .ok u w:=by
 obtain⟨us,h1,h2⟩:=BV ht hr htr hv;refine⟨if h:us.toArray.size=1 then us.toArray[0]else .tuple us.toArray,?_,?_⟩
 ·have hl:=h1.1;unfold gI;split
  ·rename_i v;obtain⟨u,us',rfl,g1,g2⟩:=h1.cons_inv;rw[g2.nil_inv];simpa using g1
  ·rename_i hne;have:us.toArray.size≠1:=by
    intro e;have e':vs.length=1:=by rw[<-hl];simpa using e
    obtain⟨v,rfl⟩:=List.length_eq_one_iff.1 e';exact hne v rfl
   rw[dif_neg this];exact h1.tuplev
 ·unfold results;rw[Sem.run_bind,Array.mapM_eq_mapM_toList,Sem.run_map];exact congrArg (fun(z:Result (List Value))=>(z.andThen (fun a w'=>Result.ok a.toArray w')).andThen (fun a w'=>Sem.run P (pure (if h:a.size=1 then a[0]else Value.tuple a)) w')) h2
structure PrimOk (P:Program) (g:FuncId) (f:List AV->H->Option (AV×H)):Prop where
 ev:∀args h v h',f args h=some (v,h')->Ev h h'
 fn:∃fn,P.funcs[g]? =some fn/\fn.body.isSome=true/\(fn.name== "runtime.NumGoroutine")=false
 call:∀args h v h',f args h=some (v,h')->∀ρ w us,VRs ρ args us->HR P ρ h w->Fresh ρ h h'->CallsIn Fence.wide 0 P g us.toArray w (u6 P ρ h w v h')
structure TabOk (P:Program) (tab:FuncId->Option AF):Prop where
 fn:∀g F,tab g=some (.fn F)->∃fn,P.funcs[g]? =some fn/\aB6 P fn=some F/\(fn.name== "runtime.NumGoroutine")=false
 prim:∀g f,tab g=some (.prim f)->PrimOk P g f
theorem ZB{c:Code}{c0:AC}{nt out rt:Nat}{ex:List (Nat×Nat)}(h:tr P c=some c0):mU P c (live nt c0 out ex rt).2:=⟨c0,ex,rt,out,h,nt,rfl⟩
theorem yZ(ok:RecOk P rec m){tab:FuncId->Option AF}(ht:TabOk P tab){g:FuncId}{args:List AV}{h h':H}{v:AV}(hrun:dA rec tab g args h=some (v,h')):
  Ev h h'/\(∃fn,P.funcs[g]? =some fn/\fn.body.isSome=true/\(fn.name== "runtime.NumGoroutine")=false)/\
  ∀ρ w us,VRs ρ args us->HR P ρ h w->Fresh ρ h h'->CallsIn Fence.wide 0 P g us.toArray w (u6 P ρ h w v h'):=by
 unfold dA at hrun;split at hrun
 ·rename_i f hf;have hp:=ht.prim g f hf;exact⟨hp.ev _ _ _ _ hrun,hp.fn,hp.call _ _ _ _ hrun⟩
 ·rename_i F hF;obtain⟨fn,q1,q2,q3⟩:=ht.fn g F hF;unfold aB6 at q2;split at q2
  ·rename_i b rs hb hrs;split at q2
   ·rename_i c0 htr;cases q2;have main:∀(e:Ex) (a1:List AV),(e= .normal\/e= .ret)->aJ rec (live fn.ntmps c0 (vR rs) [] (vR rs)).2 (pD args fn.ntmps) h=some (e,a1,h')->cW a1 h' rs=some (match cW a1 h' rs with | some vs=>vs | none=>[])->v=gI (match cW a1 h' rs with | some vs=>vs | none=>[])->
      Ev h h'/\(∃fn,P.funcs[g]? =some fn/\fn.body.isSome=true/\(fn.name== "runtime.NumGoroutine")=false)/\
      ∀ρ w us,VRs ρ args us->HR P ρ h w->Fresh ρ h h'->CallsIn Fence.wide 0 P g us.toArray w (u6 P ρ h w v h'):=by
     intro e a1 he hcode hres hv;have hev:=cV ok hcode;refine⟨hev,⟨fn,q1,by rw[hb];rfl,q3⟩,?_⟩;intro ρ w us hus hr hfr;refine callsIn_of_wp_marks q1 hb trivial ?_ rfl;have htr0:TR ρ (pD args fn.ntmps) (us.toArray++Array.replicate (fn.ntmps-us.toArray.size) undef):=by
      unfold TR pD;have hl:us.toArray.size=args.length:=by simpa using hus.1
      rw[hl];simp only[Array.toList_append,Array.toList_replicate];exact VRs.append hus (VRs.replicate (.junk _) _)
     have hc:=w9 ok b (ZB htr) hcode (ro:=none) (B:=w.heap.size) (act:={tmps:=us.toArray++Array.replicate (fn.ntmps-us.toArray.size) undef,defers:=[]}) (Nat.le_refl _) (fun l hl=>by cases hl) htr0 hr hfr trivial;refine wpIn_mono hc ?_;rintro q act' w' ⟨rfl,ρ',t',r',s',mk'⟩;have hleave:LeavesInM Fence.wide 0 P fn act'.tmps (u6 P ρ h w v h') act'.defers .returning w':=by
      refine H4 (w0:=w) mk' r' ?_;intro w2 k1 k2 k3 k4 k5 k6;obtain⟨u,g1,g2⟩:=K4 t' k1 hrs hres;refine⟨u,g2,u,ρ',rfl,by rw[hv];exact g1,k1,⟨s'.sub,s'.dom,s'.own,Nat.le_trans s'.size k5,k2.trans s'.os,k3.trans s'.tape,k4.trans s'.output,fun bb hbb hno=>by rw[k6 bb hbb];exact s'.frame bb hbb hno⟩⟩
     rcases he with rfl | rfl
     ·exact hleave
     ·exact hleave
    split at hrun
    ·rename_i a1 h1 hcode;split at hrun
     ·rename_i vs hvs;cases hrun;exact main .normal a1 (.inl rfl) hcode (by rw[hvs]) (by rw[hvs])
     ·cases hrun
    ·rename_i a1 h1 hcode;split at hrun
     ·rename_i vs hvs;cases hrun;exact main .ret a1 (.inr rfl) hcode (by rw[hvs]) (by rw[hvs])
     ·cases hrun
    ·cases hrun
   ·cases q2
  ·cases q2
 ·cases hrun
theorem XD{tab:FuncId->Option AF}(ht:TabOk P tab):∀n,RecOk P (run tab n) n
 | 0=>by
  refine⟨?_,?_,?_,?_,?_,?_,?_⟩
  ·intro g args h v h' hr;cases hr
  ·intro g args h v h' hr;cases hr
  ·intro g args h v h' hr;cases hr
  ·intro ac a h e a' h' hr;cases hr
  ·intro c ac _ a h e a' h' hr;cases hr
  ·intro c ac _ sc a h e a' h' hr;cases hr
  ·intro l c ac _ sc a h e a' h' hr;cases hr
 | n+1=>by
  have ok:=XD ht n;refine⟨fun g args h v h' hr=>(yZ ok ht hr).1,fun g args h v h' hr=>(yZ ok ht hr).2.1,fun g args h v h' hr=>(yZ ok ht hr).2.2,fun ac a h e a' h' hr=>cV ok hr,?_,?_,?_⟩
  ·intro c ac hrel a h e a' h' hr ro B ρ w act hB hctx htr hhr hfr hmk;exact w9 ok c hrel hr hB hctx htr hhr hfr hmk
  ·intro c ac hrel sc a h e a' h' hr ro B ρ w act hB hctx htr hhr hfr hmk;exact H6 ok hrel (w9 ok c hrel) hr hB hctx htr hhr hfr hmk
  ·intro l c ac hrel sc a h e a' h' hr ro B ρ w act hB hctx htr hhr hfr hmk;exact IM ok hrel hr hB hctx htr hhr hfr hmk
end
open Go.ChangeShapes Go.WideShapes Go.ChangeAt Go.RowKit
def aEI(P:Program)(g:Nat)(F:AFn):Prop:=∃fn,P.funcs[g]? =some fn/\aB6 P fn=some F/\(fn.name== "runtime.NumGoroutine")=false
theorem mP{P:Program}{tab:FuncId->Option AF}(ht:TabOk P tab){n:Nat}{g:FuncId}{args:List AV}{h h':H}{v:AV}(hrun:(run tab n).call g args h=some (v,h'))
  {ρ:Emb} {w:World} {us:List Value} (hv:VRs ρ args us) (hr:HR P ρ h w) (hfr:Fresh ρ h h') (hro:∀x l o,ρ x=some l->h.get x=some o->o.rwlive=false):
  Calls P g us.toArray w fun e w'=>∃u ρ',e= .returned u/\VR ρ' v u/\Below w.heap.size w w':=by
 have hc:=callsIn_wide.1 ((XD ht n).call g args h v h' hrun ρ w us hv hr hfr);refine hc.mono ?_;rintro e w' ⟨u,ρ',rfl,h1,h2,s⟩;refine⟨u,ρ',rfl,h1,⟨s.os,s.tape,s.output,s.size,fun b hb=>s.frame b hb ?_⟩⟩;intro x l o hx hg hl;rw[hro x l o hx hg]at hl;cases hl
theorem wP{ρ:Emb}{b:Bool}{u:Value}(h:VR ρ (.bool b) u):u= .bool b:=h.bool_inv
theorem E7{P:Program}{tab:FuncId->Option AF}(ht:TabOk P tab){n:Nat}{g:FuncId}(hrun:(match (run tab n).call g [] H.empty with | some (.bool b,_)=>b | _=>false)=true)(w:World)(hgl:GlbAt P w):
  Calls P g #[] w fun e w'=>e= .returned (.bool true)/\Below w.heap.size w w':=by
 split at hrun
 ·rename_i b h' hr;subst hrun;refine(mP ht hr (ρ:=fun _=>none) (us:=[]) (VRs.nil _) ⟨hgl,fun _ _ _ _ _ _ h=>by(cases h),fun _ _ h=>by(cases h),fun _ _ _ h=>by(cases h),fun _ _ _ _ _ _ h=>by(cases h)⟩ (fun _ _ _=>rfl) (fun _ _ _ h=>by cases h)).mono ?_;rintro e w' ⟨u,ρ',rfl,h1,h2⟩;rw[wP h1];exact⟨rfl,h2⟩
 ·cases hrun
section
variable {H:Type} {enc:TypeId×Value->H} {P:Program}
theorem post_of_below{f:Func}{s:ChangeSpec}{apart fresh handsOn again:Bool}{W W':World}{args:Array Value}{v:Value}{ds gs:List (DataW H)}{before pa pv:List MemPlace}
  (hW:DataW.Whole enc P f.params.toList s.vars apart W args.toList ds gs before)
  (hres:∀(b:Nat) (sp:Nat->Bool) (hd:Bool),DataW.TrodAll enc P W' b sp hd f.resultTypes.toList (v.resultList f.resultTypes.size) (s.fn H (ds++gs)).results [])
  (hargs:∀sp:Nat->Bool,(∀p∈before,sp p.block=true)->DataW.TrodAll enc P W' 0 sp true f.params.toList args.toList (s.fn H (ds++gs)).args pa)
  (hvars:∀sp:Nat->Bool,(∀p∈before,sp p.block=true)->DataW.TrodVars enc P W' sp s.vars (s.fn H (ds++gs)).vars pv)
  (hps:before=pa++pv) (hB:Below W.heap.size W W')
  (hok:∀(j:Nat) (t:TypeId) (r:Value),f.resultTypes[j]? =some t->(v.resultList f.resultTypes.size)[j]? =some r->Value.okWide P W' .any 0 t r):
  s.post enc P f apart fresh handsOn again W args v W':=by
 have hold:∀p∈before,(fun b=>decide (b<W.heap.size)) p.block=true:=fun p hp=>by simpa using hW.lt p hp
 refine⟨ds,gs,before,[],pa,pv,hW,hres _ _ _,hargs _ hold,hvars _ hold,hB.frame _,fun _=>?_⟩;have hlt:=hW.lt;obtain⟨_,_,_,_,_,hz,hn⟩:=hW;refine⟨hok,_,_,([]++pa)++pv,⟨[]++pa,pv,trodAll_append (hargs _ (fun _ _=>rfl)) (hres _ _ _),hvars _ (fun _ _=>rfl),rfl,?_,?_⟩,?_⟩
 ·intro b off hp;have hp':MemPlace.cell b off∈before:=by rw[hps];simpa using hp
  rw[hB.frozen (hlt _ hp')];exact hz b off hp'
 ·intro ha;have:=hn ha;rw[hps]at this;simpa using this
 ·intro p hp _;rw[hps];simpa using hp
end
open Go.ChangeShapes Go.WideShapes Go.ChangeAt Go.RowKit
def KT.Ok(P:Program):KT->Prop
 | .leaf=>True
 | .node l k f r=>aEI P k f/\l.Ok P/\r.Ok P
 | .tru l k r=>PrimOk P k iL/\l.Ok P/\r.Ok P
 | .tz l k r=>PrimOk P k primTz/\l.Ok P/\r.Ok P
 | .prr l k F r=>PrimOk P k (bE F)/\l.Ok P/\r.Ok P
 | .prm l k F r=>PrimOk P k (jQ F)/\l.Ok P/\r.Ok P
theorem KT.find_fn{P:Program} :∀{t:KT} {g:Nat} {F:AFn},t.Ok P->t.find g=some (.fn F)->aEI P g F
 | .leaf,_,_,_,h=>by cases h
 | .node l k f r,g,F,hok,h=>by
  unfold KT.find at h;split at h
  ·rename_i e;cases h;subst e;exact hok.1
  ·split at h
   ·exact KT.find_fn hok.2.1 h
   ·exact KT.find_fn hok.2.2 h
 | .tru l k r,g,F,hok,h=>by
  unfold KT.find at h;split at h
  ·cases h
  ·split at h
   ·exact KT.find_fn hok.2.1 h
   ·exact KT.find_fn hok.2.2 h
 | .tz l k r,g,F,hok,h=>by
  unfold KT.find at h;split at h
  ·cases h
  ·split at h
   ·exact KT.find_fn hok.2.1 h
   ·exact KT.find_fn hok.2.2 h
 | .prr l k _ r,g,F,hok,h=>by
  unfold KT.find at h;split at h
  ·cases h
  ·split at h
   ·exact KT.find_fn hok.2.1 h
   ·exact KT.find_fn hok.2.2 h
 | .prm l k _ r,g,F,hok,h=>by
  unfold KT.find at h;split at h
  ·cases h
  ·split at h
   ·exact KT.find_fn hok.2.1 h
   ·exact KT.find_fn hok.2.2 h
theorem KT.find_prim{P:Program} :∀{t:KT} {g:Nat} {f:List AV->H->Option (AV×H)},t.Ok P->t.find g=some (.prim f)->PrimOk P g f
 | .leaf,_,_,_,h=>by cases h
 | .node l k f r,g,F,hok,h=>by
  unfold KT.find at h;split at h
  ·cases h
  ·split at h
   ·exact KT.find_prim hok.2.1 h
   ·exact KT.find_prim hok.2.2 h
 | .tru l k r,g,F,hok,h=>by
  unfold KT.find at h;split at h
  ·rename_i e;cases h;subst e;exact hok.1
  ·split at h
   ·exact KT.find_prim hok.2.1 h
   ·exact KT.find_prim hok.2.2 h
 | .tz l k r,g,F,hok,h=>by
  unfold KT.find at h;split at h
  ·rename_i e;cases h;subst e;exact hok.1
  ·split at h
   ·exact KT.find_prim hok.2.1 h
   ·exact KT.find_prim hok.2.2 h
 | .prr l k _ r,g,F,hok,h=>by
  unfold KT.find at h;split at h
  ·rename_i e;cases h;subst e;exact hok.1
  ·split at h
   ·exact KT.find_prim hok.2.1 h
   ·exact KT.find_prim hok.2.2 h
 | .prm l k _ r,g,F,hok,h=>by
  unfold KT.find at h;split at h
  ·rename_i e;cases h;subst e;exact hok.1
  ·split at h
   ·exact KT.find_prim hok.2.1 h
   ·exact KT.find_prim hok.2.2 h
theorem KT.tabOk{P:Program}{t:KT}(h:t.Ok P):TabOk P t.find where
 fn g F hg:=by obtain⟨fn,h1,h2,h3⟩:=KT.find_fn h hg;exact⟨fn,h1,h2,h3⟩
 prim g f hg:=KT.find_prim h hg
theorem calls_true{P:Program}{T:KT}(ht:T.Ok P){n:Nat}{g:FuncId}(hrun:kclosed T n g=true)(w:World)(hgl:GlbAt P w):
  Calls P g #[] w fun e w'=>e= .returned (.bool true)/\Below w.heap.size w w':=by
 obtain⟨h',hr⟩:=ME hrun;exact E7 (KT.tabOk ht) (by rw[hr]) w hgl
theorem prim_true{P:Program}{g:FuncId}(hfn:∃fn,P.funcs[g]? =some fn/\fn.body.isSome=true/\(fn.name== "runtime.NumGoroutine")=false)
  (hc:∀w:World,GlbAt P w->Calls P g #[] w fun e w'=>e= .returned (.bool true)/\Below w.heap.size w w'):PrimOk P g iL where
 ev args h v h' hr:=by
  cases args with
  | nil=>cases hr;exact Ev.refl h
  | cons x l=>cases hr
 fn:=hfn
 call args h v h' hr ρ w us hv hh hf:=by
  cases args with
  | cons x l=>cases hr
  | nil=>
   cases hr;rw[hv.nil_inv];refine callsIn_wide.2 ((hc w hh.gat).mono ?_);rintro e w' ⟨rfl,hb⟩;refine⟨_,ρ,rfl,.bool true,⟨hh.gat.keep fun b l _ hlt=>hb.block b hlt,hh.goff,fun x l hx=>?_,fun x l o hx hg=>?_,hh.inj⟩,⟨Sub.refl ρ,fun _ _ h=> .inl h,fun _ _ h=> .inl h,hb.size,hb.os,hb.tape,hb.output,fun b hbb _=>hb.block b hbb⟩⟩
   ·have:=hh.bound x l hx;have:=hb.size;omega
   ·exact(hh.obj x l o hx hg).mono (Sub.refl ρ) (hb.block _ (hh.bound x l hx))
theorem R7(y:Int):0<=IntKind.u64.wrap y/\IntKind.u64.wrap y<18446744073709551616:=by
 have e:IntKind.u64.wrap y=y % 18446744073709551616:=by unfold IntKind.wrap;simp[IntKind.bits,IntKind.signed]
 rw[e];exact⟨Int.emod_nonneg _ (by omega),Int.emod_lt_of_pos _ (by omega)⟩
theorem SG(x:Int):0<=tzIdx x/\tzIdx x<64:=by unfold tzIdx;have:=R7 (PA x*285870213051353865);omega
theorem WM:tzF 0=64:=by unfold tzF;rw[if_pos rfl]
theorem SF:tzTab.length=64:=rfl
theorem WK:∀y∈tzTab,y<64:=by decide
theorem aEN{x:Int}(hx:¬x=0){n:Nat}(h:tzTab[(tzIdx x).toNat]? =some n):tzF x=wrap64 (n:Int):=by have hs:n<64:=WK _ (List.mem_of_getElem? h);unfold tzF;rw[if_neg hx,h];show(n:Int)=_;unfold wrap64;omega
theorem prim_tz{P:Program}{g:FuncId}{b:Nat}(hfn:∃fn,P.funcs[g]? =some fn/\fn.body.isSome=true/\(fn.name== "runtime.NumGoroutine")=false)(hb:gmem P b=some (.ints .u8 tzTab))
  (h0:∀w:World,Calls P g #[.int .u64 0] w fun e w'=>e= .returned (.int .i64 64)/\w'=w)
  (h1:∀(w:World) (x v:Int),(x==0)=false->w.cell? ⟨b,(tzIdx x).toNat,none⟩=some (.int .u8 v)->tzIdx x<64->0<=tzIdx x->Calls P g #[.int .u64 x] w fun e w'=>e= .returned (.int .i64 (wrap64 v))/\w'=w):PrimOk P g primTz where
 ev args h v h' hr:=by
  unfold primTz at hr;split at hr
  ·cases hr;exact Ev.refl h
  ·cases hr
 fn:=hfn
 call args h v h' hr ρ w us hv hh hf:=by
  unfold primTz at hr;split at hr
  ·rename_i n hn;cases hr;unfold rF at hn;split at hn
   ·rename_i x;cases hn;obtain⟨u,us',rfl,hu,hus⟩:=hv.cons_inv;rw[hus.nil_inv,hu.int_inv];have key:Calls P g #[.int .u64 x] w fun e w'=>e= .returned (.int .i64 (tzF x))/\w'=w:=by
     by_cases e:x=0
     ·rw[e,WM];exact h0 w
     ·have hi0:=SG x;obtain⟨cs,ty,fz,g1,g2⟩:=hh.gat b _ hb;obtain⟨n,hn⟩:∃n,tzTab[(tzIdx x).toNat]? =some n:=⟨_,List.getElem?_eq_getElem (by rw[SF];omega)⟩;have hc:cs.toList[(tzIdx x).toNat]? =some (.int .u8 (n:Int)):=by
       rw[show cs.toList=_ from g2,List.getElem?_map,hn];rfl
      have hcell:w.cell? ⟨b,(tzIdx x).toNat,none⟩=some (.int .u8 (n:Int)):=by rw[Array.getElem?_toList]at hc;generalize (tzIdx x).toNat=k at hc ⊢;simp only[World.cell?,g1,Option.isSome_none,Bool.false_eq_true,if_false];exact hc
      have:=h1 w x _ (by simpa using e) hcell hi0.2 hi0.1;rw[aEN e hn];exact this
    refine callsIn_wide.2 (key.mono ?_);rintro e w' ⟨rfl,rfl⟩;exact⟨_,ρ,rfl,.int _ _,hh,Stp.refl _ _ _⟩
   ·cases hn
  ·cases hr
end Go.Am

