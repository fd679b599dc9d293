/- The pure machine: all objects from some number on are frozen at once, wherever they are named, and what goes with it. -/
import Derived.Test.YtbcdfmecpjbeaaaDoorPmR
set_option linter.unusedVariables false
set_option linter.unusedSimpArgs false
namespace Go.Am
def underE (n:Nat) (es:List (PV×PV)):Bool:=es.all fun p=>p.1.under n&&p.2.under n
theorem RepE.low {w w':PWd} {m:Nat} (h0:w'.n0=w.n0) (hi:∀b o,w.imm b=some o→w'.imm b=some o) (he:∀id,id<m→w'.env id=w.env id) {l:List (PV×PV)} {l':List (AV×AV)} (h:RepE w l l') (hb:underE m l=true):RepE w' l l':=
 ⟨h.len,fun i y z p q=>by
  have hy:=(List.all_eq_true.1 hb) y (List.mem_of_getElem? p)
  rw[Bool.and_eq_true]at hy
  obtain⟨a,b⟩:=h.get i y z p q
  exact⟨a.low h0 hi he hy.1,b.low h0 hi he hy.2⟩⟩
def pfrzO (n:Nat) (M:Mem):PObj→Option PObj
 | .cells g ver cs=>(pfrzL n M cs).map (.cells g ver)
 | .map ver es=>if underE n es=true then some (.map ver es) else none
 | .gone=>some .gone
 | _=>none
def pfrzM (n:Nat) (M:Mem):Mem→Option Mem
 | []=>some []
 | o::l=>match pfrzO n M o,pfrzM n M l with
  | some x,some xs=>some (x::xs)
  | _,_=>none
theorem pfrzM_get {n:Nat} {M:Mem} :∀{l N:Mem},pfrzM n M l=some N→N.length=l.length∧∀(i:Nat) (o:PObj),N[i]? =some o→∃o0,l[i]? =some o0∧pfrzO n M o0=some o
 | [],N,h=>by simp only[pfrzM]at h;cases h;exact⟨rfl,fun i o h=>by simp at h⟩
 | o::l,N,h=>by
  simp only[pfrzM]at h
  split at h
  ·rename_i x xs h1 h2
   cases h
   obtain⟨p,q⟩:=pfrzM_get h2
   refine⟨by simp[p],fun i o' hi=>?_⟩
   cases i with
   | zero=>simp at hi;subst hi;exact⟨o,rfl,h1⟩
   | succ i=>obtain⟨o0,q1,q2⟩:=q i o' (by simpa using hi);exact⟨o0,by simpa using q1,q2⟩
  ·cases h
open Classical in
theorem PSt.cutF {w:PWd} {h:H} {M N:Mem} (s:PSt w h M) {m n:Nat} (h0:w.id0≤n) (hm:n≤M.length) (hN:pfrzM n M (M.take n)=some N):
  PSt (w.cut h n M) h N∧∀m,m≤n→PStp m w h M (w.cut h n M) h N:=by
 obtain⟨hlen,hget⟩:=pfrzM_get hN
 have hlen:N.length=n:=by rw[hlen];simp;omega
 have live:∀{id x:Nat},LiveAt (w.cut h n M) N id x→id<n∧LiveAt w M id x:=by
  rintro id x ⟨o,e,h1,h2,h3,h4⟩
  obtain⟨o0,p1,p2⟩:=hget id o h1
  have hi:id<n:=by have:=q27 h1;omega
  rw[cut_env hi]at h3
  rw[List.getElem?_take,if_pos hi]at p1
  refine⟨hi,o0,e,p1,?_,h3,h4⟩
  rintro rfl
  simp only[pfrzO]at p2
  cases p2
  exact h2 rfl
 refine⟨⟨?_,?_,?_,?_,?_,?_,s.base⟩,fun m hmn=>⟨by omega,⟨rfl,rfl,cut_imm s n,fun id hi e he=>⟨e,by rw[cut_env (by omega)];exact he,.inr rfl⟩⟩,Nat.le_refl _,fun _ _ _=>rfl,fun id x hl _=>(live hl).2,?_⟩⟩
 ·intro b o hbo
  have hbo:(if ∃id,n≤id∧LiveAt w M id b then h.get b else w.imm b)=some o:=hbo
  split at hbo
  ·exact hbo
  ·exact s.imm b o hbo
 ·intro id e he
  have he:(if id<n then w.env id else none)=some e:=he
  split at he
  ·omega
  ·cases he
 ·intro id e b he hbl
  have he:(if id<n then w.env id else none)=some e:=he
  split at he
  ·exact s.blk id e b he hbl
  ·cases he
 ·intro id o ho
  have hi:id<n:=by have:=q27 ho;omega
  obtain⟨o0,p1,p2⟩:=hget id o ho
  rw[List.getElem?_take,if_pos hi]at p1
  have r:=s.obj id o0 p1
  cases o0 with
  | cells g ver cs=>
   simp only[pfrzO]at p2
   cases hq:pfrzL n M cs with
   | none=>rw[hq]at p2;cases p2
   | some cs2=>
    rw[hq]at p2;cases p2
    obtain⟨e,h1,h2,h3⟩:=r
    refine⟨e,by rw[cut_env hi];exact h1,h2,?_⟩
    cases hbl:e.blk with
    | none=>
     rw[hbl]at h3
     have h3:cs=[]:=h3
     subst h3
     simp only[pfrzL]at hq;cases hq;rfl
    | some b=>
     rw[hbl]at h3
     obtain⟨bcs,h4,h5⟩:=h3
     exact⟨bcs,h4,frzL_rep s h0 h5 hq⟩
  | gone=>simp only[pfrzO]at p2;cases p2;trivial
  | map ver es=>
   simp only[pfrzO]at p2
   by_cases hq:underE n es=true
   ·rw[if_pos hq]at p2;cases p2
    obtain⟨e,b,h1,h2,h3,es',h4,h5⟩:=r
    exact⟨e,b,by rw[cut_env hi];exact h1,h2,h3,es',h4,h5.low (w:=w) (w':=w.cut h n M) rfl (cut_imm s n) (fun id hi=>cut_env hi) hq⟩
   ·rw[if_neg hq]at p2;cases p2
  | loop ver r=>simp[pfrzO]at p2
 ·intro i j x h1 h2;exact s.inj i j x (live h1).2 (live h2).2
 ·intro i x h1
  obtain⟨hi,hl⟩:=live h1
  refine⟨?_,(s.sep i x hl).2⟩
  show(if _ then _ else _)=_
  split
  ·rename_i hc
   obtain⟨j,hj,hl2⟩:=hc
   have:=s.inj i j x hl hl2
   omega
  ·exact(s.sep i x hl).1
 ·intro x hx
  have hx:(if ∃id,n≤id∧LiveAt w M id x then h.get x else w.imm x)≠none:=hx
  split at hx
  ·rename_i hc
   obtain⟨id,hid,hl⟩:=hc
   exact .inr (.inr ⟨id,by omega,hl⟩)
  ·exact .inl hx
theorem GStep.cutF {m:Nat} {a b c:List PV} {M N:Mem} (n:Nat) (hn:m≤n) (hl:n≤M.length) (hw:PWeak a b) (ha:pfrzL n M b=some c) (hN:pfrzM n M (M.take n)=some N):GStep m a M c N:=
 ⟨fun hm=>by obtain⟨q,_⟩:=pfrzM_get hN;rw[q];simp;omega,fun w hh a' h0 hm s hr=>by
  obtain⟨s1,s2⟩:=s.cutF (m:=m) (Nat.le_trans h0 hn) hl hN
  exact⟨_,s2 m hn,s1,frzL_rep s (Nat.le_trans h0 hn) (hw.rep hr) ha⟩⟩
section
variable {tab:FuncId→Option AF}
end
theorem pfrz1_bool' (n:Nat) (M:Mem) (b:Bool):q67 n M (.bool b)=some (.bool b):=by simp[q67,PV.under]
theorem pfrz1_func' {n:Nat} {M:Mem} {fn:Go.Fn} {f c:List PV} (h:(q19 n f&&q19 n c)=true):q67 n M (.func fn f c)=some (.func fn f c):=by
 unfold q67
 simp only
 rw[if_pos (by rw[under_func];exact h)]
theorem pfrz1_ref' {n:Nat} {M:Mem} {id g sz off k ver:Nat} {cs:List PV} (hi:n≤id) (hM:M[id]? =some (.cells g ver cs)) (h1:off+k*sz≤cs.length) (h2:q19 n cs=true):q67 n M (.ref id g sz off k)=some (.sl false true sz k (psub cs off (k*sz))):=by
 unfold q67
 simp only
 rw[if_neg (by omega),hM]
 simp only
 rw[if_pos ⟨trivial,h1,h2⟩]
theorem pfrzL_cons' (n:Nat) (M:Mem) (v:PV) (l:List PV):pfrzL n M (v::l)=oCons (q67 n M v) (pfrzL n M l):=by
 simp only[pfrzL,oCons]
 all_goals (split<;>simp_all)
section
variable {tab:FuncId→Option AF}
end
theorem RepL.wkAt {w:PWd} {v':PV} :∀{a:List PV} {a':List AV} (t:Nat),PvWk (ptget a t) v'→RepL w a a'→RepL w (ptset a t v') a'
 | [],a',t,_,h=>by cases t<;>exact h
 | x::a,[],t,_,h=>absurd h.len (by simp)
 | x::a,y::a',0,hw,h=> .cons (hw w y h.hd) h.tl
 | x::a,y::a',t+1,hw,h=> .cons h.hd (RepL.wkAt (a:=a) t hw h.tl)
theorem GStep.wk {m:Nat} {a b:List PV} {M:Mem} (t:Nat) (v':PV) (h:PvWk (ptget a t) v') (hb:ptset a t v'=b):GStep m a M b M:=by
 subst hb
 exact⟨fun hm=>hm,fun w hh a' h0 hm s ha=>⟨w,PStp.refl hm w hh,s,ha.wkAt t h⟩⟩
def psetAll (a:List PV):List Nat→List PV→List PV
 | t::ts,v::vs=>psetAll (ptset a t v) ts vs
 | _,_=>a
theorem RepL.setAll {w:PWd} :∀(ts:List Nat) {a:List PV} {a':List AV} {vs:List PV} {vs':List AV},RepL w a a'→RepL w vs vs'→RepL w (psetAll a ts vs) (_root_.Go.Am.setAll a' ts vs')
 | [],a,a',vs,vs',h,hv=>by simpa [psetAll,_root_.Go.Am.setAll] using h
 | t::ts,a,a',[],[],h,hv=>by simpa [psetAll,_root_.Go.Am.setAll] using h
 | t::ts,a,a',[],_::_,h,hv=>by have:=hv.len;simp at this
 | t::ts,a,a',_::_,[],h,hv=>by have:=hv.len;simp at this
 | t::ts,a,a',v::vs,x::xs,h,hv=>RepL.setAll ts (h.tset t hv.hd) hv.tl
theorem PSt.loopAt {w:PWd} {h:H} {M:Mem} (s:PSt w h M) {id ver:Nat} {r:PLoop} (hm:M[id]? =some (.loop ver r)):
  ∃e b r',w.env id=some e∧e.g=0∧e.blk=some b∧h.get b=some (.loop (e.v0+ver) r')∧RepLp w r r'∧LiveAt w M id b:=by
 obtain⟨e,b,h1,h2,h3,r',h4,h5⟩:=s.obj _ _ hm
 exact⟨e,b,r',h1,h2,h3,h4,h5,_,e,hm,by simp,h1,h3⟩
theorem PSt.setLoop {w:PWd} {h:H} {M:Mem} (s:PSt w h M) {id ver ver2 b:Nat} {r r2:PLoop} {r2':ALoop} {e:Ent} (hm:M[id]? =some (.loop ver r)) (he:w.env id=some e) (hg:e.g=0) (hb:e.blk=some b) (hr:RepLp w r2 r2'):
  PSt w (h.set b (.loop (e.v0+ver2) r2')) (M.set id (.loop ver2 r2))∧PStp M.length w h M w (h.set b (.loop (e.v0+ver2) r2')) (M.set id (.loop ver2 r2)):=by
 have hlv:LiveAt w M id b:=⟨_,e,hm,by simp,he,hb⟩
 have hbn:=hlv.next s
 have hid:=hlv.lt
 have live:∀i x,LiveAt w (M.set id (.loop ver2 r2)) i x→LiveAt w M i x:=by
  rintro i x ⟨ob,e',h1,h2,h3,h4⟩
  by_cases hi:id=i
  ·subst hi;exact⟨_,e',hm,by simp,h3,h4⟩
  ·rw[List.getElem?_set_ne hi]at h1;exact⟨ob,e',h1,h2,h3,h4⟩
 have hget:∀x,x≠b→(h.set b (.loop (e.v0+ver2) r2')).get x=h.get x:=fun x hx=>H.get_set_ne hx
 have hsame:(h.set b (.loop (e.v0+ver2) r2')).get b=some (.loop (e.v0+ver2) r2'):=by
  rw[H.get_set,if_pos ⟨rfl,hbn⟩]
 refine⟨⟨?_,?_,s.blk,?_,fun i j x h1 h2=>s.inj i j x (live i x h1) (live j x h2),fun i x h1=>s.sep i x (live i x h1),s.base⟩,⟨by simp,Le.refl _ _,Nat.le_refl _,?_,fun i x h1 _=>live i x h1,fun x hx=> .inl hx⟩⟩
 ·intro x o hx
  have:x≠b:=by rintro rfl;rw[(s.sep id x hlv).1]at hx;cases hx
  rw[hget x this];exact s.imm x o hx
 ·intro i e' he';have:=s.env i e' he';simpa using this
 ·intro i ob hi
  by_cases hid2:id=i
  ·subst hid2
   rw[List.getElem?_set_self hid]at hi
   cases hi
   exact⟨e,b,he,hg,hb,r2',hsame,hr⟩
  ·rw[List.getElem?_set_ne hid2]at hi
   by_cases hgone:ob= .gone
   ·subst hgone;trivial
   ·refine RepO.mono s (Le.refl _ _) (s.obj i ob hi) (fun _ h=>h) (fun e' b' he' hb'=>hget b' ?_)
    rintro rfl
    exact hid2 (s.inj id i b' hlv ⟨ob,e',hi,hgone,he',hb'⟩)
 ·intro x hx hn
  refine hget x ?_
  rintro rfl
  exact hn id hlv
section
variable {tab:FuncId→Option AF}
def PKYield (id:Nat) (K:PV→Mem→Prop) (e:Ex) (a:List PV) (M:Mem):Prop:=
 ∃ver r,M[id]? =some (.loop ver r)∧(if e= .normal then K (.bool true) (M.set id (.loop (ver+1) {r with state:= .ready,pending:=none})) else K (.bool false) (M.set id (.loop (ver+1) {r with state:= .done,pending:=some e})))
theorem SemY_run {id:Nat} {args:List PV} {M:Mem} {K:PV→Mem→Prop} {ver:Nat} {r:PLoop} (hm:M[id]? =some (.loop ver r)) (hl:args.length=r.params.length)
  (h:SemW tab M.length r.assign (psetAll r.tmps r.params args) M (fun a1 M1=>∃v1 r1,M1[id]? =some (.loop v1 r1)∧r1.state= .ready∧
   SemW tab M.length r.body a1 (M1.set id (.loop (v1+1) {r1 with state:= .busy})) (PKYield id K .normal) (PKYield id K .ret) (fun i=>PKYield id K (.exit i))) (fun _ _=>False) (fun _ _ _=>False)):SemY tab id args M K:=by
 intro w hh b args' h0 s hlv ha
 obtain⟨e,b2,r',he,hg,hb,hget,hr,hlv2⟩:=s.loopAt hm
 have hbb:b2=b:=by
  obtain⟨o,e2,_,_,q1,q2⟩:=hlv
  rw[he]at q1;cases q1
  rw[hb]at q2;cases q2;rfl
 subst hbb
 unfold PCall
 have hlen:args'.length=r'.params.length:=by rw[hr.params,←ha.len];exact hl
 have hrun:=h w hh (setAll r'.tmps r'.params args') h0 (Nat.le_refl _) s (by rw[hr.params];exact RepL.setAll _ hr.tmps ha)
 unfold W at hrun
 obtain⟨e1,a1,h1,hrun,hq⟩:=hrun
 cases e1 with
 | ret=>obtain⟨_,_,_,_,_,_,q⟩:=hq;exact q.elim
 | exit i=>obtain⟨_,_,_,_,_,_,q⟩:=hq;exact q.elim
 | normal=>
  obtain⟨w1,a1p,M1,t1,s1,ra1,v1,r1,hm1,hst1,hbody⟩:=hq
  obtain⟨e2,b3,r1',he1,hg1,hb1,hget1,hr1,hlv1⟩:=s1.loopAt hm1
  have hbb:b3=b2:=by
   obtain⟨e3,q1,q2⟩:=t1.le.env id (s.env id e he) e he
   rw[he1]at q1;cases q1
   rcases q2 with q2 | rfl
   ·omega
   ·rw[hb]at hb1;cases hb1;rfl
  subst hbb
  have hr1b:RepLp w1 {r1 with state:= .busy} {r1' with state:= .busy} :=⟨rfl,hr1.pending,hr1.params,hr1.assign,hr1.body,hr1.tmps⟩
  obtain⟨s2,t2⟩:=s1.setLoop (ver2:=v1+1) (r2:={r1 with state:= .busy}) hm1 he1 hg1 hb1 hr1b
  have hM1:M.length≤(M1.set id (.loop (v1+1) {r1 with state:= .busy})).length:=by simpa using t1.len
  have hbd:=hbody w1 _ a1 (by rw[t1.le.id0];exact h0) hM1 s2 ra1
  unfold W at hbd
  obtain⟨e4,a4,h4,hbd,hq4⟩:=hbd
  have hq4':∃w4 a4p M4,PStp M.length w1 (h1.set b3 (.loop (e2.v0+(v1+1)) {r1' with state:= .busy})) (M1.set id (.loop (v1+1) {r1 with state:= .busy})) w4 h4 M4∧PSt w4 h4 M4∧RepL w4 a4p a4∧PKYield id K e4 a4p M4:=by
   cases e4 with
   | normal=>exact hq4
   | ret=>exact hq4
   | exit i=>exact hq4
  obtain⟨w4,a4p,M4,t4,s4,ra4,v4,r4,hm4,hk⟩:=hq4'
  obtain⟨e5,b5,r4',he4,hg4,hb4,hget4,hr4,hlv4⟩:=s4.loopAt hm4
  have hbb:b5=b3:=by
   obtain⟨e3,q1,q2⟩:=t4.le.env id (s.env id e he) e2 he1
   rw[he4]at q1;cases q1
   rcases q2 with q2 | rfl
   ·omega
   ·rw[hb1]at hb4;cases hb4;rfl
  subst hbb
  have tt:PStp M.length w hh M w4 h4 M4:=(t1.trans (t2.weaken t1.len) (Nat.le_refl _)).trans t4 (Nat.le_refl _)
  have hAM:∀(b:Bool) (st:LoopState) (pd:Option Ex),RepLp w4 {r4 with state:=st,pending:=pd} {r4' with state:=st,pending:=pd} :=fun _ _ _=>⟨rfl,rfl,hr4.params,hr4.assign,hr4.body,hr4.tmps⟩
  have hcall:∀res,(if e4= .normal then some (AV.bool true,h4.set b5 (.loop (e5.v0+v4+1) {r4' with state:= .ready,pending:=none})) else some (AV.bool false,h4.set b5 (.loop (e5.v0+v4+1) {r4' with state:= .done,pending:=some e4})))=some res→acallV (lim tab) (.func (.yield b5) [] []) args' hh=some res:=by
   intro res hres
   have g1:hh.get b5=some (.loop (e.v0+ver) r'):=hget
   simp only[acallV,g1,List.nil_append]
   rw[if_pos hlen,lim_code,hr.assign,hrun]
   simp only[hget1]
   rw[if_pos (by rw[hr1.state];exact hst1),lim_code,hr.body,show e2.v0+v1+1=e2.v0+(v1+1) by omega,hbd]
   simp only[hget4]
   exact hres
  by_cases hn:e4= .normal
  ·rw[if_pos hn]at hk
   obtain⟨s5,t5⟩:=s4.setLoop (ver2:=v4+1) (r2:={r4 with state:= .ready,pending:=none}) hm4 he4 hg4 hb4 (hAM true _ _)
   exact⟨_,_,hcall _ (by rw[if_pos hn];rfl),w4,.bool true,_,tt.trans (t5.weaken tt.len) (Nat.le_refl _),s5,.bool true,hk⟩
  ·rw[if_neg hn]at hk
   obtain⟨s5,t5⟩:=s4.setLoop (ver2:=v4+1) (r2:={r4 with state:= .done,pending:=some e4}) hm4 he4 hg4 hb4 (hAM true _ _)
   exact⟨_,_,hcall _ (by rw[if_neg hn];rfl),w4,.bool false,_,tt.trans (t5.weaken tt.len) (Nat.le_refl _),s5,.bool false,hk⟩
def PKRange (id:Nat) (a:List PV) (Qn Qr:List PV→Mem→Prop) (Qe:Nat→List PV→Mem→Prop) (v:PV) (M:Mem):Prop:=
 ∃ver r,M[id]? =some (.loop ver r)∧r.state≠ .busy∧match r.pending.getD .normal with
  | .normal=>Qn a (M.set id (.loop (ver+1) {r with state:= .exhausted}))
  | .ret=>Qr a (M.set id (.loop (ver+1) {r with state:= .exhausted}))
  | .exit i=>Qe i a (M.set id (.loop (ver+1) {r with state:= .exhausted}))
theorem SemW_range {m:Nat} {f:AR} {ps:List Nat} {asg body:AC} {a:List PV} {M:Mem} {Qn Qr:List PV→Mem→Prop} {Qe:Nat→List PV→Mem→Prop} {g:FuncId} {first cap:List PV} (hf:pev a f= .func (.func g) first cap)
  (h:SemC tab g (first++[.yld M.length []]++cap) (M++[.loop 0 {state:= .ready,pending:=none,tmps:=a,params:=ps,assign:=asg,body:=body}]) (PKRange M.length a Qn Qr Qe)):SemW tab m (.rangeFunc f ps asg body) a M Qn Qr Qe:=by
 intro w hh a' h0 hm s ha
 have hx:=q20 ha f
 rw[hf]at hx
 revert hx
 generalize hu:ev a' f=u
 intro hx
 cases hx with
 | func q1 q2 q3 q4 q5=>
  rename_i first' cap'
  let lp:ALoop:={state:= .ready,pending:=none,tmps:=a',params:=ps,assign:=asg,body:=body}
  obtain⟨s1,t1⟩:=s.alloc (o:= .loop 0 {state:= .ready,pending:=none,tmps:=a,params:=ps,assign:=asg,body:=body}) (o':= .loop 0 lp) (e:=⟨some hh.next,0,0⟩) rfl (fun w' hl he=>⟨_,_,he,rfl,rfl,lp,H.get_alloc_new _ _,rfl,rfl,rfl,rfl,rfl,ha.mono hl s.env⟩)
  have hnew:(w.withEnv M.length ⟨some hh.next,0,0⟩).env M.length=some ⟨some hh.next,0,0⟩:=by show(if _=_ then _ else _)=_;rw[if_pos rfl]
  have hyl:RepV (w.withEnv M.length ⟨some hh.next,0,0⟩) (.yld M.length []) (.func (.yield hh.next) [] []):= .yld hnew rfl rfl rfl (fun i y z p=>by simp at p)
  have r1:RepL w first first':=⟨q2,q4⟩
  have r2:RepL w cap cap':=⟨q3,q5⟩
  have hc:=h _ _ (first'++[.func (.yield hh.next) [] []]++cap') (by show w.id0≤_;simp;omega) s1 (((r1.mono t1.le s.env).append (.cons hyl (.nil _))).append (r2.mono t1.le s.env))
  unfold C at hc
  obtain⟨v,h',hcall,w2,rv,M2,t2,s2,rr,ver,r,hm2,hst,hk⟩:=hc
  obtain⟨e2,b2,r',he2,hg2,hb2,hget2,hr2,hlv2⟩:=s2.loopAt hm2
  have hbb:b2=hh.next:=by
   obtain⟨e3,p1,p2⟩:=t2.le.env M.length (by simp) _ hnew
   rw[he2]at p1;cases p1
   rcases p2 with p2 | rfl
   ·have p2:0<e2.g:=p2;omega
   ·cases hb2;rfl
  subst hbb
  have hst':r'.state≠ .busy:=by rw[hr2.state];exact hst
  obtain⟨s3,t3⟩:=s2.setLoop (ver2:=ver+1) (r2:={r with state:= .exhausted}) (r2':={r' with state:= .exhausted}) hm2 he2 hg2 hb2 ⟨rfl,hr2.pending,hr2.params,hr2.assign,hr2.body,hr2.tmps⟩
  have tt:=(t1.trans t2 (by simp)).trans (t3.weaken (Nat.le_trans (by simp) t2.len)) (Nat.le_refl _)
  have ha3:RepL w2 a a':=ha.mono tt.le s.env
  have hac:q8 (lim tab) (.rangeFunc f ps asg body) a' hh=some (r.pending.getD .normal,a',h'.set hh.next (.loop (e2.v0+(ver+1)) {r' with state:= .exhausted})):=by
   simp only[q8,hu]
   rw[hcall]
   simp only[hget2]
   rw[if_neg hst',hr2.pending]
   rfl
  unfold W
  refine⟨_,_,_,hac,?_⟩
  have tt:=tt.weaken hm
  cases hp:r.pending.getD .normal with
  | normal=>rw[hp]at hk;exact⟨w2,a,_,tt,s3,ha3,hk⟩
  | ret=>rw[hp]at hk;exact⟨w2,a,_,tt,s3,ha3,hk⟩
  | exit i=>rw[hp]at hk;exact⟨w2,a,_,tt,s3,ha3,hk⟩
end
section
variable {tab:FuncId→Option AF} {m:Nat} {a:List PV} {M:Mem} {Qn Qr:List PV→Mem→Prop} {Qe:Nat→List PV→Mem→Prop}
theorem q28 {x y:AC} (h:SemW tab m x a M (fun b N=>SemW tab m y b N Qn Qr Qe) Qr Qe):SemW tab m (.seq x y) a M Qn Qr Qe:=by
 intro w hh a' h0 hm s ha
 rw[W_seq]
 refine W_mono (h w hh a' h0 hm s ha) (fun a1 h1 hl=>?_) (fun _ _ h=>h) (fun _ _ _ h=>h)
 obtain⟨w1,b,N,t1,s1,r1,q⟩:=hl
 rw[KSeq_eq]
 exact W_mono (q w1 h1 a1 (by rw[t1.le.id0];exact h0) t1.len s1 r1) (fun _ _ h=>h.trans t1) (fun _ _ h=>h.trans t1) (fun _ _ _ h=>h.trans t1)
theorem q13 {c:AC} (h:RX tab m c a M Qn Qr Qe):SemW tab m c a M Qn Qr Qe:=RX_sound m c h
theorem SemW_mono {c:AC} {Qn' Qr':List PV→Mem→Prop} {Qe':Nat→List PV→Mem→Prop} (h:SemW tab m c a M Qn Qr Qe) (h1:∀b N,Qn b N→Qn' b N) (h2:∀b N,Qr b N→Qr' b N) (h3:∀i b N,Qe i b N→Qe' i b N):SemW tab m c a M Qn' Qr' Qe':=by
 intro w hh a' h0 hm s ha
 refine W_mono (h w hh a' h0 hm s ha) ?_ ?_ ?_
 ·rintro a1 hh1 ⟨w1,b,N,t1,s1,r1,q⟩;exact⟨w1,b,N,t1,s1,r1,h1 _ _ q⟩
 ·rintro a1 hh1 ⟨w1,b,N,t1,s1,r1,q⟩;exact⟨w1,b,N,t1,s1,r1,h2 _ _ q⟩
 ·rintro i a1 hh1 ⟨w1,b,N,t1,s1,r1,q⟩;exact⟨w1,b,N,t1,s1,r1,h3 _ _ _ q⟩
theorem SemW_rangeN {f:AR} {ps:List Nat} {asg body:AC} {g:FuncId} {first cap:List PV} (hf:pev a f= .func (.func g) first cap)
  (h:∀lp:PLoop,lp.state= .ready→lp.pending=none→lp.tmps=a→lp.params=ps→lp.assign=asg→lp.body=body→
   SemC tab g (first++[.yld M.length []]++cap) (M++[.loop 0 lp]) (PKRange M.length a Qn Qr Qe)):SemW tab m (.rangeFunc f ps asg body) a M Qn Qr Qe:=
 SemW_range hf (h _ rfl rfl rfl rfl rfl rfl)
end
theorem PWeak.refl:∀a:List PV,PWeak a a
 | []=>trivial
 | _::a=>⟨.inr rfl,PWeak.refl a⟩
theorem pfrz1_under {n:Nat} {M:Mem} {v:PV} (h:v.under n=true):q67 n M v=some v:=by
 cases v<;>simp_all [q67,PV.under]
theorem pfrzL_under {n:Nat} {M:Mem} :∀{l:List PV},q19 n l=true→pfrzL n M l=some l
 | [],_=>rfl
 | v::l,h=>by
  have h2:=(underL_iff n (v::l)).1 h
  rw[pfrzL_cons',pfrz1_under (h2 v (by simp)),pfrzL_under ((underL_iff n l).2 fun x hx=>h2 x (by simp[hx]))]
  rfl
def cutOk (n:Nat):PObj→Bool
 | .cells _ _ cs=>q19 n cs
 | .map _ es=>underE n es
 | .gone=>true
 | _=>false
theorem pfrzO_ok {n:Nat} {M:Mem} {o:PObj} (h:cutOk n o=true):pfrzO n M o=some o:=by
 cases o with
 | cells g ver cs=>simp only[cutOk]at h;simp only[pfrzO,pfrzL_under h,Option.map_some]
 | map ver es=>simp only[cutOk]at h;simp only[pfrzO,h,if_true]
 | gone=>rfl
 | loop ver r=>simp[cutOk]at h
theorem pfrzM_cons {n:Nat} {M l xs:Mem} {o x:PObj} (h1:pfrzO n M o=some x) (h2:pfrzM n M l=some xs):pfrzM n M (o::l)=some (x::xs):=by
 simp only[pfrzM,h1,h2]
theorem pfrzM_ok {n:Nat} {M:Mem} :∀{l r xs:Mem},l.all (cutOk n)=true→pfrzM n M r=some xs→pfrzM n M (l++r)=some (l++xs)
 | [],r,xs,_,h=>h
 | o::l,r,xs,ho,h=>by
  simp only[List.all_cons,Bool.and_eq_true]at ho
  exact pfrzM_cons (pfrzO_ok ho.1) (pfrzM_ok ho.2 h)
section
variable {tab:FuncId→Option AF}
theorem SemC_res {g:FuncId} {args:List PV} {M:Mem} {K:PV→Mem→Prop} (h:SemC tab g args M fun r M'=>∃r' N,pfrz M.length M' r=some r'∧pfrzM M.length M' (M'.take M.length)=some N∧K r' N):SemC tab g args M K:=
 fun w hh args' h0 s ha=>C_mono (h w hh args' h0 s ha) fun v h' ⟨w1,r,M1,p1,p2,p3,r',N,q1,q2,q3⟩=>by
  have hid:w1.id0≤M.length:=by rw[p1.le.id0];exact h0
  obtain⟨z1,z2⟩:=p2.cutF (m:=M.length) hid p1.len q2
  exact⟨w1.cut h' M.length M1,r',N,p1.trans (z2 M.length (Nat.le_refl _)) (Nat.le_refl _),z1,frz_rep p2 hid p3 q1,q3⟩
theorem pfrzM_all {n:Nat} {M l:Mem} (h:l.all (cutOk n)=true):pfrzM n M l=some l:=by
 have:=pfrzM_ok (M:=M) (r:=[]) (xs:=[]) h rfl
 simpa using this
end
theorem PSt.reobjH {w:PWd} {h:H} {M:Mem} (s:PSt w h M) {id g ver:Nat} {cs cs2:List PV} (hm:M[id]? =some (.cells g ver cs)) (hl:cs2.length=cs.length)
  (hr:∀e b bcs,w.env id=some e→e.blk=some b→h.get b=some (.cells (e.v0+ver) true bcs)→RepL w cs2 bcs):
  PSt w h (M.set id (.cells g ver cs2))∧∀m,m≤M.length→PStp m w h M w h (M.set id (.cells g ver cs2)):=by
 have hid:=q27 hm
 have live:∀i x,LiveAt w (M.set id (.cells g ver cs2)) i x→LiveAt w M i x:=by
  rintro i x ⟨ob,e',h1,h2,h3,h4⟩
  by_cases hi:id=i
  ·subst hi;exact⟨_,e',hm,by simp,h3,h4⟩
  ·rw[List.getElem?_set_ne hi]at h1;exact⟨ob,e',h1,h2,h3,h4⟩
 refine⟨⟨s.imm,?_,s.blk,?_,fun i j x h1 h2=>s.inj i j x (live i x h1) (live j x h2),fun i x h1=>s.sep i x (live i x h1),s.base⟩,fun m hmm=>⟨by simpa using hmm,Le.refl _ _,Nat.le_refl _,fun _ _ _=>rfl,fun i x h1 _=>live i x h1,fun x hx=> .inl hx⟩⟩
 ·intro i e he;simpa using s.env i e he
 ·intro i ob hi
  by_cases hid2:id=i
  ·subst hid2
   rw[List.getElem?_set_self hid]at hi
   cases hi
   obtain⟨e,h1,h2,h3⟩:=s.obj id _ hm
   refine⟨e,h1,h2,?_⟩
   cases hb:e.blk with
   | none=>
    rw[hb]at h3
    have h3:cs=[]:=h3
    subst h3
    exact List.length_eq_zero_iff.1 (by simpa using hl)
   | some b=>
    rw[hb]at h3
    obtain⟨bcs,h4,h5⟩:=h3
    exact⟨bcs,h4,hr e b bcs h1 hb h4⟩
  ·rw[List.getElem?_set_ne hid2]at hi
   exact s.obj i ob hi
theorem PFrz.len {id g:Nat} {cs:List PV} :∀{a b:List PV},PFrz id g cs a b→b.length=a.length
 | [],[],_=>rfl
 | _::a,_::b,h=>by simp[PFrz.len h.2]
 | [],_::_,h=>h.elim
 | _::_,[],h=>h.elim
theorem GStep.wkC {m:Nat} {a:List PV} {M N:Mem} (id o:Nat) {g ver:Nat} {cs:List PV} {v':PV} (hM:M[id]? =some (.cells g ver cs)) (hw:∀v,cs[o]? =some v→PvWk v v') (hN:M.set id (.cells g ver (cs.set o v'))=N):GStep m a M a N:=by
 subst hN
 refine⟨fun hm=>by simpa using hm,fun w hh a' h0 hm s ha=>?_⟩
 obtain⟨e0,k1,k2,k3⟩:=s.obj id _ hM
 obtain⟨t1,t2⟩:=s.reobjH (cs2:=cs.set o v') hM (by simp) (fun e b bcs he hb hg=>by
  rw[k1]at he;cases he
  rw[hb]at k3
  obtain⟨bcs0,r1,r2⟩:=k3
  rw[hg]at r1;cases r1
  refine⟨by simpa using r2.len,fun i y z hy hz=>?_⟩
  rw[List.getElem?_set]at hy
  split at hy
  ·rename_i q
   subst q
   split at hy
   ·rename_i q2
    cases hy
    exact hw _ (List.getElem?_eq_getElem q2) w z (r2.get _ _ z (List.getElem?_eq_getElem q2) hz)
   ·cases hy
  ·exact r2.get i y z hy hz)
 exact⟨w,t2 m hm,t1,ha⟩
section
variable {tab:FuncId→Option AF}
theorem SemC_pureS {g:FuncId} {F:AFn} (hg:tab g=some (.fn F)) {args:List PV} {M:Mem} {K:PV→Mem→Prop} (hb:q19 0 args=true)
  (hp:SemW tab 0 F.body (ppad args F.ntmps) [] (PKPure F.results fun r=>K r M) (PKPure F.results fun r=>K r M) PKNo):SemC tab g args M K:=by
 refine SemC_frame hb (SemC_sem hg (SemW_mono hp (fun b N q=>?_) (fun b N q=>?_) fun i b N q=>?_))
 ·unfold PKPure at q;exact q
 ·unfold PKPure at q;exact q
 ·unfold PKNo at q;exact q
end
def ZMp (o:Option PObj) (k:Nat→List (PV×PV)→Prop) (t:KTag k):Prop:=QMp o k
def ZLook (kd:Nat) (ok:Bool) (z x i:PV) (M:Mem) (K:PV→Mem→List Nat→List Nat→Prop) (t:KTag K):Prop:=QLook kd ok z x i M K
def ZMapU (kd:Nat) (m i v:PV) (M:Mem) (K:PV→Mem→List Nat→List Nat→Prop) (t:KTag K):Prop:=QMapU kd m i v M K
theorem q54 (ver:Nat) (es:List (PV×PV)) (k:Nat→List (PV×PV)→Prop) (t:KTag k):ZMp (some (.map ver es)) k t=k ver es:=by
 apply propext
 constructor
 ·rintro⟨_,_,e,h⟩;cases e;exact h
 ·intro h;exact⟨_,_,rfl,h⟩
section
variable (tab:FuncId→Option AF) (a:List PV) (M:Mem) (K:PV→Mem→List Nat→List Nat→Prop)
theorem q26:RS tab .makeMap a M K=K (.map M.length) (M++[.map 0 []]) [] []:=by delta RS;rfl
theorem q33 (kd:Nat) (ok:Bool) (z:AV) (x i:AR):RS tab (.lookup kd ok z x i) a M K=ZLook kd ok (q57 z) (pev a x) (pev a i) M K ⟨0⟩:=by delta RS;rfl
theorem q12 (kd:Nat) (m i v:AR):RS tab (.mapUpdate kd m i v) a M K=ZMapU kd (pev a m) (pev a i) (pev a v) M K ⟨0⟩:=by delta RS;rfl
end
theorem q38 (z v:PV):plook true z (some v)= .tuple [v,.bool true]:=(rfl)
theorem q39 (z v:PV):plook false z (some v)=v:=(rfl)
theorem q40 (z:PV):plook true z none= .tuple [z,.bool false]:=(rfl)
theorem q41 (z:PV):plook false z none=z:=(rfl)
attribute [irreducible] ZMp ZLook ZMapU
def PFrzP (id g:Nat) (cs:List PV):List PV→List PV→Prop
 | [],[]=>True
 | x::a,y::b=>(y= .junk∨x=y∨∃o,x= .ptr id g o∧y= .cp cs o)∧PFrzP id g cs a b
 | _,_=>False
theorem PFrzP_nil (id g:Nat) (cs:List PV):PFrzP id g cs [] []=True:=(rfl)
theorem PFrzP_junk (id g:Nat) (cs:List PV) (x:PV) (a b:List PV):PFrzP id g cs (x::a) (.junk::b)=PFrzP id g cs a b:=by simp[PFrzP]
theorem PFrzP_same (id g:Nat) (cs:List PV) (x:PV) (a b:List PV):PFrzP id g cs (x::a) (x::b)=PFrzP id g cs a b:=by simp[PFrzP]
theorem PFrzP_ptr (id g o:Nat) (cs:List PV) (a b:List PV):PFrzP id g cs (.ptr id g o::a) (.cp cs o::b)=PFrzP id g cs a b:=by
 simp[PFrzP]
theorem PSt.freezeP {w:PWd} {h:H} {M:Mem} (s:PSt w h M) {id g ver:Nat} {cs:List PV} (hm:M[id]? =some (.cells g ver cs)) (h0:w.id0≤id):
  ∃w',PSt w' h (M.set id .gone)∧(∀m,m≤id→PStp m w h M w' h (M.set id .gone))∧Le M.length w w'∧∀o x,RepV w (.ptr id g o) x→RepV w' (.cp cs o) x:=by
 obtain⟨e,h1,h2,h3⟩:=s.cellsAt hm
 have hid:=q27 hm
 rcases h3 with⟨hb,rfl⟩ | ⟨b,bcs,hb,hg,hr,hlv⟩
 ·have live:∀i x,LiveAt w (M.set id .gone) i x→LiveAt w M i x:=by
   rintro i x ⟨ob,e',p1,p2,p3,p4⟩
   by_cases hi:id=i
   ·subst hi;rw[List.getElem?_set_self hid]at p1;cases p1;exact absurd rfl p2
   ·rw[List.getElem?_set_ne hi]at p1;exact⟨ob,e',p1,p2,p3,p4⟩
  refine⟨w,⟨s.imm,fun i e' he=>by simpa using s.env i e' he,s.blk,?_,fun i j x q1 q2=>s.inj i j x (live i x q1) (live j x q2),fun i x q1=>s.sep i x (live i x q1),s.base⟩,fun m hmm=>⟨by simp;omega,Le.refl _ _,Nat.le_refl _,fun _ _ _=>rfl,fun i x q1 _=>live i x q1,fun x hx=> .inl hx⟩,Le.refl _ _,?_⟩
  ·intro i ob hi
   by_cases hid2:id=i
   ·subst hid2;rw[List.getElem?_set_self hid]at hi;cases hi;trivial
   ·rw[List.getElem?_set_ne hid2]at hi;exact s.obj i ob hi
  ·intro o x hx
   cases hx with
   | ptr q1 q2 q3=>rw[h1]at q1;cases q1;rw[hb]at q3;cases q3
   | ptrS x q0 q1 q2=>rw[h1]at q1;cases q1;omega
 ·let w':=w.withImm b (.cells (e.v0+ver) true bcs)
  have hsep:=s.sep id b hlv
  have hl:Le M.length w w':=le_withImm hsep.1
  have him:∀x,x≠b→w'.imm x=w.imm x:=fun x hx=>by show(if _=_ then _ else _)=_;rw[if_neg hx]
  have hnew:w'.imm b=some (.cells (e.v0+ver) true bcs):=by show(if _=_ then _ else _)=_;rw[if_pos rfl]
  have live:∀i x,LiveAt w' (M.set id .gone) i x→i≠id∧LiveAt w M i x:=by
   rintro i x ⟨ob,e',p1,p2,p3,p4⟩
   by_cases hi:id=i
   ·subst hi;rw[List.getElem?_set_self hid]at p1;cases p1;exact absurd rfl p2
   ·rw[List.getElem?_set_ne hi]at p1;exact⟨fun q=>hi q.symm,ob,e',p1,p2,p3,p4⟩
  refine⟨w',⟨?_,fun i e' he=>by simpa using s.env i e' he,s.blk,?_,fun i j x q1 q2=>s.inj i j x (live i x q1).2 (live j x q2).2,?_,s.base⟩,fun m hmm=>⟨by simp;omega,⟨hl.n0,hl.id0,hl.imm,fun i hi=>hl.env i (by omega)⟩,Nat.le_refl _,fun _ _ _=>rfl,fun i x q1 _=>(live i x q1).2,?_⟩,hl,?_⟩
  ·intro x o hx
   by_cases e1:x=b
   ·subst e1;rw[hnew]at hx;cases hx;exact hg
   ·rw[him x e1]at hx;exact s.imm x o hx
  ·intro i ob hi
   by_cases hid2:id=i
   ·subst hid2;rw[List.getElem?_set_self hid]at hi;cases hi;trivial
   ·rw[List.getElem?_set_ne hid2]at hi
    exact RepO.mono s hl (s.obj i ob hi) (fun e' he=>he) (fun _ _ _ _=>rfl)
  ·intro i x q1
   obtain⟨hne,q2⟩:=live i x q1
   have:x≠b:=by rintro rfl;exact hne (s.inj i id x q2 hlv)
   exact⟨by rw[him x this];exact(s.sep i x q2).1,(s.sep i x q2).2⟩
  ·intro x hx
   by_cases e1:x=b
   ·subst e1;exact .inr (.inr ⟨id,hmm,hlv⟩)
   ·rw[him x e1]at hx;exact .inl hx
  ·intro o x hx
   cases hx with
   | ptr q1 q2 q3=>
    rw[h1]at q1;cases q1
    rw[hb]at q3;cases q3
    have hs:=hr.mono hl s.env
    have:=RepV.cp (o:=o) (off:=0) hnew (by rw[hr.len];omega) (fun i y z hy hz=>hs.get i y z hy (by simpa using hz))
    simpa using this
   | ptrS x q0 q1 q2=>rw[h1]at q1;cases q1;omega
theorem PFrzP.rep {w w':PWd} {M:Mem} {id g:Nat} {cs:List PV} (hl:Le M.length w w') (hd:∀i e,w.env i=some e→i<M.length) (hf:∀o x,RepV w (.ptr id g o) x→RepV w' (.cp cs o) x):
  ∀{a b:List PV} {a':List AV},PFrzP id g cs a b→RepL w a a'→RepL w' b a'
 | [],[],a',_,h=>⟨h.len,fun i y z q=>by simp at q⟩
 | x::a,y::b,[],_,h=>by have:=h.len;simp at this
 | x::a,y::b,v::a',⟨h1,h2⟩,h=>by
  refine .cons ?_ (PFrzP.rep hl hd hf h2 h.tl)
  rcases h1 with rfl | rfl | ⟨o,rfl,rfl⟩
  ·exact .junk _
  ·exact h.hd.mono hl hd
  ·exact hf o v h.hd
 | [],_::_,a',hw,h=>hw.elim
 | _::_,[],a',hw,h=>hw.elim
theorem GStep.freezeP {m:Nat} {a b:List PV} {M N:Mem} (id:Nat) {g ver:Nat} {cs:List PV} (hid:m≤id) (hM:M[id]? =some (.cells g ver cs)) (hf:PFrzP id g cs a b) (hN:M.set id .gone=N):GStep m a M b N:=by
 subst hN
 refine⟨fun hm=>by simpa using hm,fun w hh a' h0 hm s ha=>?_⟩
 obtain⟨w',s1,s2,hl,hr⟩:=s.freezeP hM (Nat.le_trans h0 hid)
 exact⟨w',s2 m hid,s1,hf.rep hl s.env hr ha⟩
def ZStr (v:PV) (k:ByteArray→Prop) (t:KTag k):Prop:=∃s,v= .str s∧k s
theorem q43 (s:ByteArray) (k:ByteArray→Prop) (t:KTag k):ZStr (.str s) k t=k s:=by simp[ZStr]
section
variable (tab:FuncId→Option AF) (a:List PV) (M:Mem) (K:PV→Mem→List Nat→List Nat→Prop)
theorem q17 (x i:AR):RS tab (.indexStr x i) a M K=ZStr (pev a x) (fun s=>ZInt (pev a i) (fun _ k=>0≤k∧ZSome s[k.toNat]? (fun c=>K (.int .u8 c.toNat) M [] []) ⟨0⟩) ⟨0⟩) ⟨0⟩:=by delta RS ZStr ZInt ZSome;rfl
end
attribute [irreducible] ZStr
section
variable {tab:FuncId→Option AF}
end
def ZSlA (len size:Nat) (x:PV) (l r:Option Int) (M:Mem) (k:PV→List Nat→Prop) (t:KTag k):Prop:=QSlA len size x l r M k
def ZB2S (x:PV) (M:Mem) (k:PV→List Nat→Prop) (t:KTag k):Prop:=QB2S x M k
def ZLenM (x:PV) (M:Mem) (k:PV→List Nat→Prop) (t:KTag k):Prop:=QLenM x M k
theorem q44 (len size id g o:Nat) (l r:Option Int) (M:Mem) (k:PV→List Nat→Prop) (t:KTag k):
  ZSlA len size (.ptr id g o) l r M k t=ZOb M[id]? g (fun _ cs=>(o+len*size≤cs.length∧0≤l.getD 0∧l.getD 0≤r.getD len∧r.getD len≤len)∧k (.ref id g size (o+(l.getD 0).toNat*size) (r.getD len-l.getD 0).toNat) [id]) ⟨0⟩:=by unfold ZOb;rfl
theorem q32 (M:Mem) (k:PV→List Nat→Prop) (t:KTag k):ZB2S .nils M k t=k (.str ⟨#[]⟩) []:=(rfl)
theorem q55 (fl own:Bool) (sz n:Nat) (cs:List PV) (M:Mem) (k:PV→List Nat→Prop) (t:KTag k):ZB2S (.sl fl own sz n cs) M k t=(sz=1∧ZSome (pstrB cs) (fun s=>k (.str ⟨s.toArray⟩) []) ⟨0⟩):=by unfold ZSome;rfl
theorem q45 (id g sz off n:Nat) (M:Mem) (k:PV→List Nat→Prop) (t:KTag k):ZB2S (.ref id g sz off n) M k t=ZOb M[id]? g (fun _ cs=>(sz=1∧off+n≤cs.length)∧ZSome (pstrB (psub cs off n)) (fun s=>k (.str ⟨s.toArray⟩) [id]) ⟨0⟩) ⟨0⟩:=by unfold ZOb ZSome;rfl
theorem q31 (id:Nat) (M:Mem) (k:PV→List Nat→Prop) (t:KTag k):ZLenM (.map id) M k t=ZMp M[id]? (fun _ es=>k (p64 es.length) [id]) ⟨0⟩:=by unfold ZMp;rfl
section
variable (tab:FuncId→Option AF) (a:List PV) (M:Mem) (K:PV→Mem→List Nat→List Nat→Prop)
theorem q15 (x:AR) (lo hi:Option AR):RS tab (.sliceStr x lo hi) a M K=ZStr (pev a x) (fun s=>ZBnd a lo (fun l=>ZBnd a hi (fun r=>(0≤l.getD 0∧l.getD 0≤r.getD s.size∧r.getD s.size≤s.size)∧K (.str (s.extract (l.getD 0).toNat (r.getD s.size).toNat)) M [] []) ⟨0⟩) ⟨0⟩) ⟨0⟩:=by delta RS ZStr ZBnd;rfl
theorem q16 (len size:Nat) (x:AR) (lo hi:Option AR):RS tab (.sliceArr len size x lo hi) a M K=ZBnd a lo (fun l=>ZBnd a hi (fun r=>ZSlA len size (pev a x) l r M (fun v rd=>K v M rd []) ⟨0⟩) ⟨0⟩) ⟨0⟩:=by delta RS ZBnd;rfl
theorem q9 (x:AR):RS tab (.bytesToStr x) a M K=ZB2S (pev a x) M (fun v rd=>K v M rd []) ⟨0⟩:=by delta RS;rfl
theorem q34 (x:AR):RS tab (.lenMap x) a M K=ZLenM (pev a x) M (fun v rd=>K v M rd []) ⟨0⟩:=by delta RS;rfl
end
theorem q25 (kd:Nat) (ok:Bool) (z:PV) (id:Nat) (s:ByteArray) (M:Mem) (K:PV→Mem→List Nat→List Nat→Prop) (t:KTag K):
  ZLook kd ok z (.map id) (.str s) M K t=ZMp M[id]? (fun _ es=>ZSome (pmapFind kd (.str s) es) (fun r=>K (plook ok z r) M [id] []) ⟨0⟩) ⟨0⟩:=by unfold ZMp ZLook;delta ZSome;rfl
theorem q24 (kd:Nat) (id:Nat) (s:ByteArray) (v:PV) (M:Mem) (K:PV→Mem→List Nat→List Nat→Prop) (t:KTag K):
  ZMapU kd (.map id) (.str s) v M K t=ZMp M[id]? (fun ver es=>ZSome (pmapFind kd (.str s) es) (fun _=>v.one=true∧K (.tuple []) (M.set id (.map (ver+1) (pmapPut kd (.str s) (.str s) v es))) [] [id]) ⟨0⟩) ⟨0⟩:=by unfold ZMp ZMapU;delta ZSome;rfl
theorem ba_beq (a b:ByteArray):(a==b)=decide (a=b):=by
 cases a with | mk x=>cases b with | mk y=>
 show(x==y)=_
 by_cases h:x=y
 ·subst h;simp
 ·simp[h]
def smE (l:List (ByteArray×PV)):List (PV×PV):=l.map fun p=>(PV.str p.1,p.2)
def slook (k:ByteArray):List (ByteArray×PV)→Option PV
 | []=>none
 | p::l=>if k=p.1 then some p.2 else slook k l
theorem q47 (l:List (ByteArray×PV)):(smE l).length=l.length:=List.length_map _
theorem q37 (k:ByteArray):∀l:List (ByteArray×PV),pmapFind 2 (.str k) (smE l)=some (slook k l)
 | []=>rfl
 | p::l=>by
  show(match some (k==p.1) with | some true=>some (some _) | some false=>pmapFind 2 (.str k) (smE l) | none=>none)=_
  unfold slook
  by_cases e:k=p.1
  ·rw[if_pos e,show(k==p.1)=true by rw[ba_beq];simp[e]]
  ·rw[if_neg e,show(k==p.1)=false by rw[ba_beq];simp[e]]
   exact q37 k l
theorem smE_put (k:ByteArray) (v:PV):∀l:List (ByteArray×PV),slook k l=none→pmapPut 2 (.str k) (.str k) v (smE l)=smE (l++[(k,v)])
 | [],_=>rfl
 | p::l,h=>by
  unfold slook at h
  by_cases e:k=p.1
  ·rw[if_pos e]at h;cases h
  ·rw[if_neg e]at h
   show(match some (k==p.1) with | some true=>_ | _=>_::pmapPut 2 (.str k) (.str k) v (smE l))=_
   rw[show(k==p.1)=false by rw[ba_beq];simp[e],smE_put k v l h]
   rfl
theorem q42 (n:Nat) (M:Mem) (s:ByteArray):pfrz n M (.str s)=some (.str s):=rfl
theorem q30 (m:Nat) (s:ByteArray):PV.under m (.str s)=true:=by simp[PV.under]
theorem q51 (s:ByteArray):PV.one (.str s)=true:=rfl
theorem q22 (s:ByteArray):q66 (.str s)=[.str s]:=rfl
theorem q52 (i:Nat):PV.one (.map i)=true:=rfl
theorem q23 (i:Nat):q66 (.map i)=[.map i]:=rfl
theorem q11 (kd:Nat) (k:AV):pmapFind kd k []=some none:=rfl
theorem q14 (kd:Nat) (key:PV) (k:AV) (v:PV):pmapPut kd key k v []=[(key,v)]:=rfl
attribute [irreducible] ZSlA ZB2S ZLenM
mutual
theorem under_mono {m n:Nat} (h:m≤n):∀v:PV,v.under m=true→v.under n=true
 | .ptr id g o,q=>by simp only[PV.under,decide_eq_true_eq]at q ⊢;omega
 | .ref id g sz off k,q=>by simp only[PV.under,decide_eq_true_eq]at q ⊢;omega
 | .map id,q=>by simp only[PV.under,decide_eq_true_eq]at q ⊢;omega
 | .yld id f,q=>by
  simp only[PV.under,Bool.and_eq_true,decide_eq_true_eq]at q ⊢
  exact⟨by omega,underL_mono h f q.2⟩
 | .cp cs o,q=>by simp only[PV.under]at q ⊢;exact underL_mono h cs q
 | .sl a b c d cs,q=>by simp only[PV.under]at q ⊢;exact underL_mono h cs q
 | .func fn f c,q=>by
  simp only[PV.under,Bool.and_eq_true]at q ⊢
  exact⟨underL_mono h f q.1,underL_mono h c q.2⟩
 | .iface t v,q=>by simp only[PV.under]at q ⊢;exact under_mono h v q
 | .agg cs,q=>by simp only[PV.under]at q ⊢;exact underL_mono h cs q
 | .tuple cs,q=>by simp only[PV.under]at q ⊢;exact underL_mono h cs q
 | .junk,_=>by simp[PV.under]
 | .bool _,_=>by simp[PV.under]
 | .int _ _,_=>by simp[PV.under]
 | .str _,_=>by simp[PV.under]
 | .nilptr,_=>by simp[PV.under]
 | .nils,_=>by simp[PV.under]
 | .nilmap,_=>by simp[PV.under]
 | .nilfunc,_=>by simp[PV.under]
 | .niliface,_=>by simp[PV.under]
theorem underL_mono {m n:Nat} (h:m≤n):∀l:List PV,q19 m l=true→q19 n l=true
 | [],_=>by simp[q19]
 | v::l,q=>by
  simp only[q19,Bool.and_eq_true]at q ⊢
  exact⟨under_mono h v q.1,underL_mono h l q.2⟩
end
theorem cutOk_mono {m n:Nat} (h:m≤n) {o:PObj} (q:cutOk m o=true):cutOk n o=true:=by
 cases o with
 | cells g ver cs=>exact underL_mono h cs q
 | map ver es=>
  refine List.all_eq_true.2 fun p hp=>?_
  have:=(List.all_eq_true.1 q) p hp
  simp only[Bool.and_eq_true]at this ⊢
  exact⟨under_mono h _ this.1,under_mono h _ this.2⟩
 | gone=>rfl
 | loop ver r=>cases q
theorem cutOks_mono {m n:Nat} (h:m≤n) {l:Mem} (q:l.all (cutOk m)=true):l.all (cutOk n)=true:=
 List.all_eq_true.2 fun o ho=>cutOk_mono h ((List.all_eq_true.1 q) o ho)
theorem GStep.dropM {m:Nat} {a b:List PV} {M N:Mem} (n:Nat) (hn:m≤n) (hl:n≤M.length) (hw:PWeak a b) (ha:q19 n b=true) (hM:(M.take n).all (cutOk n)=true) (hN:M.take n=N):GStep m a M b N:=by
 subst hN
 exact GStep.cutF n hn hl hw (pfrzL_under ha) (pfrzM_all hM)
theorem smE_cut {n:Nat} {l:List (ByteArray×PV)} (h:∀p∈l,p.2.under n=true) (ver:Nat):cutOk n (.map ver (l.map fun p=>(PV.str p.1,p.2)))=true:=by
 refine List.all_eq_true.2 fun p hp=>?_
 obtain⟨q,hq,rfl⟩:=List.mem_map.1 hp
 simp only[Bool.and_eq_true]
 exact⟨by simp[PV.under],h q hq⟩
section
variable {tab:FuncId→Option AF}
theorem SemW_litAt {m:Nat} {a:List PV} {M:Mem} {Qn Qr:List PV→Mem→Prop} {Qe:Nat→List PV→Mem→Prop} {os:List AOper} (k:Nat) {d size len:Nat} {z:List AV} {ps:List (Nat×Nat×AR)} {chk:List Nat}
  (hk:os[k]? =some ⟨some d,.buildSlice size len z ps,none,chk⟩)
  (h:RO tab (os.take k) a M fun b N=>∃cs,pfill b (prepl len (z.map q57)) ps=some cs∧RO tab (os.drop (k+1)) (ptset b d (.ref N.length 0 size 0 len)) (N++[.cells 0 0 cs]) Qn):
  SemW tab m (.region os) a M Qn Qr Qe:=by
 have he:os=os.take k++⟨some d,.buildSlice size len z ps,none,chk⟩::os.drop (k+1):=by
  obtain⟨hl,e⟩:=List.getElem?_eq_some_iff.1 hk
  rw[←e,List.getElem_cons_drop,List.take_append_drop]
 generalize os.take k=os1 at he h
 generalize os.drop (k+1)=os2 at he h
 subst he
 intro w hh a' h0 hm s ha
 rw[W_region]
 delta RO at h
 obtain⟨a1',h1,e1,w1,b,N,t1,s1,r1,cs,q1,q2⟩:=PO_sound os1 (Nat.le_trans h0 hm) s ha h
 obtain⟨cs',f1,f2⟩:=rep_fill r1 ps (rep_repl (repL_ofAV1 w1 z) len) q1
 obtain⟨s2,t2⟩:=s1.alloc (o:= .cells 0 0 cs) (o':= .cells 0 true cs') (e:=⟨some h1.next,0,0⟩) rfl (fun w' hl he=>⟨_,he,rfl,_,H.get_alloc_new _ _,f2.mono hl s1.env⟩)
 have hv:RepV (w1.withEnv N.length ⟨some h1.next,0,0⟩) (.ref N.length 0 size 0 len) (.slice true size h1.next 0 len):= .ref (e:=⟨some h1.next,0,0⟩) (by show(if _=_ then _ else _)=_;rw[if_pos rfl]) rfl rfl
 obtain⟨a2',h2,e2,w2,a2,M2,t3,s3,r3,q3⟩:=PO_sound os2 (by rw[t2.le.id0,t1.le.id0];have:=t1.len;have:=t2.len;omega) s2 ((r1.mono t2.le s1.env).tset d hv) q2
 unfold WO
 refine⟨a2',h2,?_,w2,a2,M2,((t1.trans t2 t1.len).trans t3 (Nat.le_trans t1.len t2.len)).weaken hm,s3,r3,q3⟩
 have app:∀(o1 o2:List AOper) {a b:List AV} {h h1:H},aops (lim tab) o1 a h=some (b,h1)→aops (lim tab) (o1++o2) a h=aops (lim tab) o2 b h1:=by
  intro o1
  induction o1 with
  | nil=>intro o2 a b h h1 e;simp only[aops]at e;cases e;rfl
  | cons o o1 ih=>
   intro o2 a b h h1 e
   simp only[aops,List.cons_append]at e ⊢
   cases hw:q61 a o.guard with
   | none=>rw[hw]at e;cases e
   | some t=>
    rw[hw]at e
    cases t with
    | false=>exact ih o2 e
    | true=>
     simp only at e ⊢
     split at e
     ·exact ih o2 e
     ·cases e
 rw[app os1 _ e1]
 simp only[aops,q61,astep,aop,f1]
 exact e2
def RH (tab:FuncId→Option AF) (j:Nat):List AOper→Nat→List PV→Mem→List PLog→(List PV→Mem→Prop)→Prop
 | [],_,_,_,_,_=>False
 | ⟨d,o,none,chk⟩::os,i,a,M,log,Q=>
  if i=j then ∃size len z ps cs,o= .buildSlice size len z ps∧pfill a (prepl len (z.map q57)) ps=some cs∧chk=[]∧RD tab os (i+1) (pput a d (.ref M.length 0 size 0 len)) (M++[.cells 0 0 cs]) (⟨i,[],[],M,M.length+1⟩::log) Q
  else RS tab o a M fun v M' rd chg=>pchk o.effect rd chg M log chk=true∧RH tab j os (i+1) (pput a d v) M' (⟨i,rd,chg,M,M'.length⟩::log) Q
 | ⟨_,_,some _,_⟩::_,_,_,_,_,_=>False
def KH (tab:FuncId→Option AF) (j:Nat) (d:Option Nat) (eff:Bool) (chk:List Nat) (os:List AOper) (i:Nat) (a:List PV) (M:Mem) (log:List PLog) (Q:List PV→Mem→Prop) (v:PV) (M':Mem) (rd chg:List Nat):Prop:=
 pchk eff rd chg M log chk=true∧RH tab j os (i+1) (pput a d v) M' (⟨i,rd,chg,M,M'.length⟩::log) Q
theorem KH_eq (j:Nat) (d:Option Nat) (eff:Bool) (chk:List Nat) (os:List AOper) (i:Nat) (a:List PV) (M:Mem) (log:List PLog) (Q:List PV→Mem→Prop) (v:PV) (M':Mem) (rd chg:List Nat):
  KH tab j d eff chk os i a M log Q v M' rd chg=(pchk eff rd chg M log chk=true∧RH tab j os (i+1) (pput a d v) M' (⟨i,rd,chg,M,M'.length⟩::log) Q):=(rfl)
theorem RH_go (j i:Nat) (hij:¬i=j) (d:Option Nat) (o:AO) (chk:List Nat) (os:List AOper) (a:List PV) (M:Mem) (log:List PLog) (Q:List PV→Mem→Prop):
  RH tab j (⟨d,o,none,chk⟩::os) i a M log Q=RS tab o a M (KH tab j d o.effect chk os i a M log Q):=by
 show(if i=j then _ else _)=_
 rw[if_neg hij];rfl
theorem RH_lit (j:Nat) (d:Option Nat) (size len:Nat) (z:List AV) (ps:List (Nat×Nat×AR)) (os:List AOper) (a:List PV) (M:Mem) (log:List PLog) (Q:List PV→Mem→Prop):
  RH tab j (⟨d,.buildSlice size len z ps,none,[]⟩::os) j a M log Q=∃cs,pfill a (prepl len (z.map q57)) ps=some cs∧RD tab os (j+1) (pput a d (.ref M.length 0 size 0 len)) (M++[.cells 0 0 cs]) (⟨j,[],[],M,M.length+1⟩::log) Q:=by
 show(if j=j then _ else _)=_
 rw[if_pos rfl]
 apply propext
 constructor
 ·rintro⟨_,_,_,_,cs,e,h1,_,h2⟩
  cases e
  exact⟨cs,h1,h2⟩
 ·rintro⟨cs,h1,h2⟩
  exact⟨_,_,_,_,cs,rfl,h1,rfl,h2⟩
theorem RH_sound (j:Nat):∀(os:List AOper) (i:Nat) {w:PWd} {h:H} {M:Mem} {a:List PV} {a':List AV} {log:List LogE} {plog:List PLog} {Q:List PV→Mem→Prop},w.id0≤M.length→PSt w h M→RepL w a a'→LogsOk w h M log plog→RH tab j os i a M plog Q→
  ∃a2' h2,aopsD (lim tab) os i a' h log=some (a2',h2)∧∃w2 a2 M2,PStp M.length w h M w2 h2 M2∧PSt w2 h2 M2∧RepL w2 a2 a2'∧Q a2 M2
 | [],i,w,h,M,a,a',log,plog,Q,h0,s,ha,hl,hp=>hp.elim
 | ⟨d,o,some (t,want),chk⟩::os,i,w,h,M,a,a',log,plog,Q,h0,s,ha,hl,hp=>hp.elim
 | ⟨d,o,none,chk⟩::os,i,w,h,M,a,a',log,plog,Q,h0,s,ha,hl,hp=>by
  have hp:(if i=j then _ else _):=hp
  by_cases e:i=j
  ·rw[if_pos e]at hp
   obtain⟨size,len,z,ps,cs,rfl,q1,rfl,q2⟩:=hp
   delta RD at q2
   obtain⟨cs',f1,f2⟩:=rep_fill ha ps (rep_repl (repL_ofAV1 w z) len) q1
   obtain⟨s2,t2⟩:=s.alloc (o:= .cells 0 0 cs) (o':= .cells 0 true cs') (e:=⟨some h.next,0,0⟩) rfl (fun w' hl he=>⟨_,he,rfl,_,H.get_alloc_new _ _,f2.mono hl s.env⟩)
   have hv:RepV (w.withEnv M.length ⟨some h.next,0,0⟩) (.ref M.length 0 size 0 len) (.slice true size h.next 0 len):= .ref (e:=⟨some h.next,0,0⟩) (by show(if _=_ then _ else _)=_;rw[if_pos rfl]) rfl rfl
   have hc:=chk_sound s s2 t2 (rd0:=[]) (prd:=[]) (chg:=[]) (fun x hx=>by cases hx) (ChgOk.app M _ _) hl (eff:=AO.effect (.buildSlice size len z ps)) (chk:=[]) (by simp[pchk])
   have hlog:LogsOk (w.withEnv M.length ⟨some h.next,0,0⟩) (h.alloc (.cells 0 true cs')) (M++[.cells 0 0 cs]) (⟨i,rdx h (h.alloc (.cells 0 true cs')) [],h,h.alloc (.cells 0 true cs')⟩::log) (⟨i,[],[],M,(M++[PObj.cells 0 0 cs]).length⟩::plog):=by
    refine .cons ⟨rfl,w,_,_,s,s2,t2,PStp.refl (Nat.le_refl _) _ _,ChgOk.app M _ _,rfl,fun x hx=>?_⟩ (hl.mono t2)
    simp only at hx ⊢
    unfold rdx at hx
    split at hx
    ·rename_i hlt
     rcases List.mem_cons.1 hx with rfl | hx
     ·exact .inl ⟨rfl,hlt⟩
     ·cases hx
    ·cases hx
   obtain⟨a2',h2,e2,w2,a2,M2,t3,s3,r3,q3⟩:=PD_sound os (i+1) (by rw[t2.le.id0];exact Nat.le_trans h0 t2.len) s2 ((ha.mono t2.le s.env).put d hv) hlog (by simpa using q2)
   refine⟨a2',h2,?_,w2,a2,M2,t2.trans t3 t2.len,s3,r3,q3⟩
   simp only[aopsD,q61,astep,aop,f1]
   rw[if_pos hc]
   exact e2
  ·rw[if_neg e]at hp
   delta RS at hp
   obtain⟨v,h1,rd,e1,w1,p,M1,prd,chg,s1,s2,hr,hrd,hchg,hck,hk⟩:=PS_sound h0 s ha o hp
   have hc:=chk_sound s s2 s1 hrd hchg hl hck
   have hlog:LogsOk w1 h1 M1 (⟨i,rdx h h1 rd,h,h1⟩::log) (⟨i,prd,chg,M,M1.length⟩::plog):=by
    refine .cons ⟨rfl,w,w1,M1,s,s2,s1,PStp.refl (Nat.le_refl _) w1 h1,hchg,rfl,fun x hx=>?_⟩ (hl.mono s1)
    simp only at hx ⊢
    unfold rdx at hx
    split at hx
    ·rename_i hlt
     rcases List.mem_cons.1 hx with rfl | hx
     ·exact .inl ⟨rfl,hlt⟩
     ·exact .inr (hrd x hx)
    ·exact .inr (hrd x hx)
   obtain⟨a2',h2,e2,w2,a2,M2,t1,t2,t3,t4⟩:=RH_sound j os (i+1) (by rw[s1.le.id0];exact Nat.le_trans h0 s1.len) s2 ((ha.mono s1.le s.env).put d hr) hlog hk
   refine⟨a2',h2,?_,w2,a2,M2,s1.trans t1 s1.len,t2,t3,t4⟩
   simp only[aopsD,q61,e1]
   rw[if_pos hc]
   exact e2
theorem SemW_litD {m:Nat} {a:List PV} {M:Mem} {Qn Qr:List PV→Mem→Prop} {Qe:Nat→List PV→Mem→Prop} {os:List AOper} (j:Nat) (h:RH tab j os 0 a M [] Qn):SemW tab m (.regionD os) a M Qn Qr Qe:=by
 intro w hh a' h0 hm s ha
 rw[W_regionD]
 obtain⟨a2',h2,e2,w2,a2,M2,t1,t2,t3,t4⟩:=RH_sound j os 0 (Nat.le_trans h0 hm) s ha .nil h
 unfold WD
 exact⟨a2',h2,e2,w2,a2,M2,t1.weaken hm,t2,t3,t4⟩
end
attribute [irreducible] RH KH
end Go.Am

