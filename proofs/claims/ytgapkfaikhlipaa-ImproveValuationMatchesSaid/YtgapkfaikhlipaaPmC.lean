/- The pure machine: all objects from some number on are frozen at once, wherever they are named, and what goes with it. -/
import Derived.Test.YtgapkfaikhlipaaPmR
import Derived.Test.YtgapkfaikhlipaaPmL
set_option linter.unusedVariables false
set_option linter.unusedSimpArgs false
namespace Go.Am
def underE (n:Nat) (es:List (PV×PV)):Bool:=es.all fun p=>p.1.under n&&p.2.under n
theorem RepE.low {w w':PWd} {m:Nat} (h0:w'.n0=w.n0) (hi:∀b o,w.imm b=some o→w'.imm b=some o) (he:∀id,id<m→w'.env id=w.env id) {l:List (PV×PV)} {l':List (AV×AV)} (h:RepE w l l') (hb:underE m l=true):RepE w' l l':=
 ⟨h.len,fun i y z p q=>by
  have hy:=(List.all_eq_true.1 hb) y (List.mem_of_getElem? p)
  rw[Bool.and_eq_true]at hy
  obtain⟨a,b⟩:=h.get i y z p q
  exact⟨a.low h0 hi he hy.1,b.low h0 hi he hy.2⟩⟩
def pfrzO (n:Nat) (M:Mem):PObj→Option PObj
 | .cells g ver cs=>(pfrzL n M cs).map (.cells g ver)
 | .map ver es=>if underE n es=true then some (.map ver es) else none
 | .gone=>some .gone
 | _=>none
def pfrzM (n:Nat) (M:Mem):Mem→Option Mem
 | []=>some []
 | o::l=>match pfrzO n M o,pfrzM n M l with
  | some x,some xs=>some (x::xs)
  | _,_=>none
theorem pfrzM_get {n:Nat} {M:Mem} :∀{l N:Mem},pfrzM n M l=some N→N.length=l.length∧∀(i:Nat) (o:PObj),N[i]? =some o→∃o0,l[i]? =some o0∧pfrzO n M o0=some o
 | [],N,h=>by simp only[pfrzM]at h;cases h;exact⟨rfl,fun i o h=>by simp at h⟩
 | o::l,N,h=>by
  simp only[pfrzM]at h
  split at h
  ·rename_i x xs h1 h2
   cases h
   obtain⟨p,q⟩:=pfrzM_get h2
   refine⟨by simp[p],fun i o' hi=>?_⟩
   cases i with
   | zero=>simp at hi;subst hi;exact⟨o,rfl,h1⟩
   | succ i=>obtain⟨o0,q1,q2⟩:=q i o' (by simpa using hi);exact⟨o0,by simpa using q1,q2⟩
  ·cases h
open Classical in
theorem PSt.cutF {w:PWd} {h:H} {M N:Mem} (s:PSt w h M) {m n:Nat} (h0:w.id0≤n) (hm:n≤M.length) (hN:pfrzM n M (M.take n)=some N):
  PSt (w.cut h n M) h N∧∀m,m≤n→PStp m w h M (w.cut h n M) h N:=by
 obtain⟨hlen,hget⟩:=pfrzM_get hN
 have hlen:N.length=n:=by rw[hlen];simp;omega
 have live:∀{id x:Nat},LiveAt (w.cut h n M) N id x→id<n∧LiveAt w M id x:=by
  rintro id x ⟨o,e,h1,h2,h3,h4⟩
  obtain⟨o0,p1,p2⟩:=hget id o h1
  have hi:id<n:=by have:=q12 h1;omega
  rw[cut_env hi]at h3
  rw[List.getElem?_take,if_pos hi]at p1
  refine⟨hi,o0,e,p1,?_,h3,h4⟩
  rintro rfl
  simp only[pfrzO]at p2
  cases p2
  exact h2 rfl
 refine⟨⟨?_,?_,?_,?_,?_,?_,s.base⟩,fun m hmn=>⟨by omega,⟨rfl,rfl,cut_imm s n,fun id hi e he=>⟨e,by rw[cut_env (by omega)];exact he,.inr rfl⟩⟩,Nat.le_refl _,fun _ _ _=>rfl,fun id x hl _=>(live hl).2,?_⟩⟩
 ·intro b o hbo
  have hbo:(if ∃id,n≤id∧LiveAt w M id b then h.get b else w.imm b)=some o:=hbo
  split at hbo
  ·exact hbo
  ·exact s.imm b o hbo
 ·intro id e he
  have he:(if id<n then w.env id else none)=some e:=he
  split at he
  ·omega
  ·cases he
 ·intro id e b he hbl
  have he:(if id<n then w.env id else none)=some e:=he
  split at he
  ·exact s.blk id e b he hbl
  ·cases he
 ·intro id o ho
  have hi:id<n:=by have:=q12 ho;omega
  obtain⟨o0,p1,p2⟩:=hget id o ho
  rw[List.getElem?_take,if_pos hi]at p1
  have r:=s.obj id o0 p1
  cases o0 with
  | cells g ver cs=>
   simp only[pfrzO]at p2
   cases hq:pfrzL n M cs with
   | none=>rw[hq]at p2;cases p2
   | some cs2=>
    rw[hq]at p2;cases p2
    obtain⟨e,h1,h2,h3⟩:=r
    refine⟨e,by rw[cut_env hi];exact h1,h2,?_⟩
    cases hbl:e.blk with
    | none=>
     rw[hbl]at h3
     have h3:cs=[]:=h3
     subst h3
     simp only[pfrzL]at hq;cases hq;rfl
    | some b=>
     rw[hbl]at h3
     obtain⟨bcs,h4,h5⟩:=h3
     exact⟨bcs,h4,frzL_rep s h0 h5 hq⟩
  | gone=>simp only[pfrzO]at p2;cases p2;trivial
  | map ver es=>
   simp only[pfrzO]at p2
   by_cases hq:underE n es=true
   ·rw[if_pos hq]at p2;cases p2
    obtain⟨e,b,h1,h2,h3,es',h4,h5⟩:=r
    exact⟨e,b,by rw[cut_env hi];exact h1,h2,h3,es',h4,h5.low (w:=w) (w':=w.cut h n M) rfl (cut_imm s n) (fun id hi=>cut_env hi) hq⟩
   ·rw[if_neg hq]at p2;cases p2
  | loop ver r=>simp[pfrzO]at p2
 ·intro i j x h1 h2;exact s.inj i j x (live h1).2 (live h2).2
 ·intro i x h1
  obtain⟨hi,hl⟩:=live h1
  refine⟨?_,(s.sep i x hl).2⟩
  show(if _ then _ else _)=_
  split
  ·rename_i hc
   obtain⟨j,hj,hl2⟩:=hc
   have:=s.inj i j x hl hl2
   omega
  ·exact(s.sep i x hl).1
 ·intro x hx
  have hx:(if ∃id,n≤id∧LiveAt w M id x then h.get x else w.imm x)≠none:=hx
  split at hx
  ·rename_i hc
   obtain⟨id,hid,hl⟩:=hc
   exact .inr (.inr ⟨id,by omega,hl⟩)
  ·exact .inl hx
theorem GStep.cutF {m:Nat} {a b c:List PV} {M N:Mem} (n:Nat) (hn:m≤n) (hl:n≤M.length) (hw:PWeak a b) (ha:pfrzL n M b=some c) (hN:pfrzM n M (M.take n)=some N):GStep m a M c N:=
 ⟨fun hm=>by obtain⟨q,_⟩:=pfrzM_get hN;rw[q];simp;omega,fun w hh a' h0 hm s hr=>by
  obtain⟨s1,s2⟩:=s.cutF (m:=m) (Nat.le_trans h0 hn) hl hN
  exact⟨_,s2 m hn,s1,frzL_rep s (Nat.le_trans h0 hn) (hw.rep hr) ha⟩⟩
section
variable {tab:FuncId→Option AF}
theorem SemC_gh {g:FuncId} {args:List PV} {M:Mem} {K:PV→Mem→Prop} (h:SemC tab g args M fun r M'=>Gh M.length (fun a N=>∃r',a=[r']∧K r' N) [r] M'):SemC tab g args M K:=by
 intro w hh args' h0 s ha
 refine C_mono (h w hh args' h0 s ha) ?_
 rintro v h' ⟨w1,r,M1,p1,p2,p3,p4⟩
 unfold Gh at p4
 obtain⟨b,N,gs,r',rfl,hk⟩:=p4
 obtain⟨w2,t2,s2,r2⟩:=gs.go w1 h' [v] (by rw[p1.le.id0];exact h0) p1.len p2 (.cons p3 (.nil _))
 exact⟨w2,r',N,p1.trans t2 (Nat.le_refl _),s2,r2.hd,hk⟩
end
theorem pfrz1_ref' {n:Nat} {M:Mem} {id g sz off k ver:Nat} {cs:List PV} (hi:n≤id) (hM:M[id]? =some (.cells g ver cs)) (h1:off+k*sz≤cs.length) (h2:q14 n cs=true):q43 n M (.ref id g sz off k)=some (.sl false true sz k (psub cs off (k*sz))):=by
 unfold q43
 simp only
 rw[if_neg (by omega),hM]
 simp only
 rw[if_pos ⟨trivial,h1,h2⟩]
theorem pfrzL_nil' (n:Nat) (M:Mem):pfrzL n M []=some []:=rfl
theorem pfrzL_cons' (n:Nat) (M:Mem) (v:PV) (l:List PV):pfrzL n M (v::l)=oCons (q43 n M v) (pfrzL n M l):=by
 simp only[pfrzL,oCons]
 all_goals (split<;>simp_all)
def PV.flat1:PV→Bool
 | .bool _ | .int _ _ | .nilptr | .nils | .nilmap | .nilfunc | .niliface=>true
 | _=>false
def PV.flatA:PV→Bool
 | .agg vs=>vs.all PV.flat1
 | v=>v.flat1
def PV.flat:PV→Bool
 | .tuple vs=>vs.all PV.flatA
 | v=>v.flatA
theorem flat1_rep {w w':PWd} {r:PV} {x:AV} (hf:r.flat1=true) (h:RepV w r x):RepV w' r x:=by
 cases h<;>first | (simp[PV.flat1]at hf;done) | constructor
theorem flatA_rep {w w':PWd} {r:PV} {x:AV} (hf:r.flatA=true) (h:RepV w r x):RepV w' r x:=by
 cases r with
 | agg vs=>
  cases h with
  | agg h1 h2=>
   refine .agg h1 fun i y z hy hz=>flat1_rep ?_ (h2 i y z hy hz)
   exact(List.all_eq_true.1 hf) y (List.mem_of_getElem? hy)
 | _=>exact flat1_rep hf h
theorem flat_rep {w w':PWd} {r:PV} {x:AV} (hf:r.flat=true) (h:RepV w r x):RepV w' r x:=by
 cases r with
 | tuple vs=>
  cases h with
  | tuple h1 h2=>
   refine .tuple h1 fun i y z hy hz=>flatA_rep ?_ (h2 i y z hy hz)
   exact(List.all_eq_true.1 hf) y (List.mem_of_getElem? hy)
 | _=>exact flatA_rep hf h
inductive PBor (M:Mem):List PV→List PV→Prop
 | nil:PBor M [] []
 | same {v:PV} {a b:List PV} :v.under 0=true→PBor M a b→PBor M (v::a) (v::b)
 | ref {id g ver sz off n:Nat} {cs cs2:List PV} {a b:List PV} :M[id]? =some (.cells g ver cs)→off+n*sz≤cs.length→q14 0 cs2=true→psub cs off (n*sz)=cs2→PBor M a b→
   PBor M (.ref id g sz off n::a) (.sl true false sz n cs2::b)
 | nest {id g ver sz off n:Nat} {cs cs2:List PV} {a b:List PV} :M[id]? =some (.cells g ver cs)→off+n*sz≤cs.length→PBor M (psub cs off (n*sz)) cs2→PBor M a b→
   PBor M (.ref id g sz off n::a) (.sl true false sz n cs2::b)
 | agg {cs cs2 a b:List PV} :PBor M cs cs2→PBor M a b→PBor M (.agg cs::a) (.agg cs2::b)
theorem PBor.len {M:Mem} {a b:List PV} (h:PBor M a b):a.length=b.length:=by
 induction h with
 | nil=>rfl
 | same _ _ ih=>simp[ih]
 | ref _ _ _ _ _ ih=>simp[ih]
 | nest _ _ _ _ _ ih=>simp[ih]
 | agg _ _ _ ih=>simp[ih]
section
variable {tab:FuncId→Option AF}
theorem SemC_bor {g:FuncId} {args args2:List PV} {M:Mem} {K:PV→Mem→Prop} (hb:PBor M args args2) (hc:SemC tab g args2 [] fun r _=>r.flat=true∧K r M):SemC tab g args M K:=by
 intro w h args' h0 s ha
 classical
 let w0:PWd:={n0:=w.n0,env:=fun _=>none,id0:=0,imm:=fun b=>if ∃id,LiveAt w M id b then h.get b else w.imm b}
 have him:∀b o,w.imm b=some o→w0.imm b=some o:=fun b o hbo=>by
  show(if _ then _ else _)=_
  split
  ·exact s.imm b o hbo
  ·exact hbo
 have s0:PSt w0 h []:=⟨(fun b o hbo=>by
   have hbo:(if ∃id,LiveAt w M id b then h.get b else w.imm b)=some o:=hbo
   split at hbo
   ·exact hbo
   ·exact s.imm b o hbo),(fun id e he=>by cases he),(fun id e b he=>by cases he),(fun id o ho=>by simp at ho),(fun i j x ⟨_,_,h1,_⟩=>by simp at h1),(fun i x ⟨_,_,h1,_⟩=>by simp at h1),s.base⟩
 have a0:RepL w0 args2 args':=by
  clear hc
  induction hb generalizing args' with
  | nil=>exact⟨ha.len,fun i y z hy=>by simp at hy⟩
  | @same v a b hv _ ih=>
   match args',ha with
   | x::l,ha=>exact .cons (ha.hd.low (w:=w) (w':=w0) (m:=0) rfl him (fun id hi=>by omega) hv) (ih l ha.tl)
   | [],ha=>exact absurd ha.len (by simp)
  | @ref id g ver sz off n cs cs2 a b hm hl hu hps _ ih=>
   match args',ha with
   | x::l,ha=>
    refine .cons ?_ (ih l ha.tl)
    subst hps
    obtain⟨e,p1,p2,p3⟩:=s.refAt hm ha.hd
    rcases p3 with⟨rfl,rfl,rfl,_,_⟩ | ⟨fl,b,bcs,rfl,p4,p5,p6,p7⟩
    ·simpa [psub] using RepV.slN
    ·have hl2:(psub cs off (n*sz)).length=n*sz:=by simp[psub];omega
     have hg:w0.imm b=h.get b:=by
      show(if _ then _ else _)=_
      rw[if_pos ⟨id,p7⟩]
     have hs:=(rep_sub p6 off (n*sz)).low (w:=w) (w':=w0) (m:=0) rfl him (fun id hi=>by omega) hu
     refine .sl (hg.trans p5) (by rw[hl2,←p6.len];exact hl) hl2 (fun _ q=>by cases q) (fun q=>by cases q) (fun _ q=>by cases q) (fun i y z hy hz=>hs.get i y z hy ?_)
     rw[List.getElem?_take,if_pos (by have:=q12 hy;omega),List.getElem?_drop];exact hz
   | [],ha=>exact absurd ha.len (by simp)
  | @nest id g ver sz off n cs cs2 a b hm hl hb1 _ ih1 ih=>
   match args',ha with
   | x::l,ha=>
    refine .cons ?_ (ih l ha.tl)
    obtain⟨e,p1,p2,p3⟩:=s.refAt hm ha.hd
    have hl2:cs2.length=n*sz:=by rw[←hb1.len];simp[psub];omega
    rcases p3 with⟨rfl,rfl,rfl,_,rfl⟩ | ⟨fl,b,bcs,rfl,p4,p5,p6,p7⟩
    ·have:cs2=[]:=List.length_eq_zero_iff.1 (by rw[hl2];simp)
     subst this
     exact RepV.slN
    ·have hg:w0.imm b=h.get b:=by
      show(if _ then _ else _)=_
      rw[if_pos ⟨id,p7⟩]
     have hs:=ih1 _ (rep_sub p6 off (n*sz))
     refine .sl (hg.trans p5) (by rw[hl2,←p6.len];exact hl) hl2 (fun _ q=>by cases q) (fun q=>by cases q) (fun _ q=>by cases q) (fun i y z hy hz=>hs.get i y z hy ?_)
     rw[List.getElem?_take,if_pos (by have:=q12 hy;omega),List.getElem?_drop];exact hz
   | [],ha=>exact absurd ha.len (by simp)
  | @agg cs cs2 a b _ _ ih1 ih=>
   match args',ha with
   | x::l,ha=>
    refine .cons ?_ (ih l ha.tl)
    cases ha.hd with
    | agg h1 h2=>exact .agg (ih1 _ ⟨h1,h2⟩).len (ih1 _ ⟨h1,h2⟩).get
   | [],ha=>exact absurd ha.len (by simp)
 refine C_mono (hc w0 h args' (Nat.le_refl _) s0 a0) ?_
 rintro v h' ⟨w1,r,M1,p1,p2,p3,p5,p6⟩
 have hnl:∀x id,¬LiveAt w0 [] id x:=fun x id ⟨_,_,h1,_⟩=>by simp at h1
 have hkeep:∀x,x<h.next→h'.get x=h.get x:=fun x hx=>p1.keep x hx (hnl x)
 refine⟨w,r,M,⟨Nat.le_refl _,Le.refl _ _,p1.next,fun x hx _=>hkeep x hx,fun id x hlv _=>hlv,fun x hx=> .inl hx⟩,⟨fun b o hbo=>?_,s.env,fun id e b he hbl=>Nat.lt_of_lt_of_le (s.blk id e b he hbl) p1.next,fun id o ho=>?_,s.inj,s.sep,Nat.le_trans s.base p1.next⟩,flat_rep p5 p3,p6⟩
 ·exact p2.imm b o (p1.le.imm b o (him b o hbo))
 ·exact RepO.mono s (Le.refl _ _) (s.obj id o ho) (fun e he=>he) (fun e b he hbl=>hkeep b (s.blk id e b he hbl))
end
theorem PBor.ints {M:Mem} {k:IntKind} {id g ver n:Nat} {xs:List Int} {a b:List PV} (hm:M[id]? =some (.cells g ver (xs.map (PV.int k)))) (hn:xs.length=n) (h:PBor M a b):PBor M (.ref id g 1 0 n::a) (slI true false k xs::b):=by
 subst hn
 exact .ref hm (by simp) (q58 _ _ _) (by rw[Nat.mul_one,psub_map]) h
def psetAll (a:List PV):List Nat→List PV→List PV
 | t::ts,v::vs=>psetAll (ptset a t v) ts vs
 | _,_=>a
theorem RepL.setAll {w:PWd} :∀(ts:List Nat) {a:List PV} {a':List AV} {vs:List PV} {vs':List AV},RepL w a a'→RepL w vs vs'→RepL w (psetAll a ts vs) (_root_.Go.Am.setAll a' ts vs')
 | [],a,a',vs,vs',h,hv=>by simpa [psetAll,_root_.Go.Am.setAll] using h
 | t::ts,a,a',[],[],h,hv=>by simpa [psetAll,_root_.Go.Am.setAll] using h
 | t::ts,a,a',[],_::_,h,hv=>by have:=hv.len;simp at this
 | t::ts,a,a',_::_,[],h,hv=>by have:=hv.len;simp at this
 | t::ts,a,a',v::vs,x::xs,h,hv=>RepL.setAll ts (h.tset t hv.hd) hv.tl
section
variable {tab:FuncId→Option AF}
end
section
variable {tab:FuncId→Option AF} {m:Nat} {a:List PV} {M:Mem} {Qn Qr:List PV→Mem→Prop} {Qe:Nat→List PV→Mem→Prop}
theorem q25 {x y:AC} (h:SemW tab m x a M (fun b N=>SemW tab m y b N Qn Qr Qe) Qr Qe):SemW tab m (.seq x y) a M Qn Qr Qe:=by
 intro w hh a' h0 hm s ha
 rw[W_seq]
 refine W_mono (h w hh a' h0 hm s ha) (fun a1 h1 hl=>?_) (fun _ _ h=>h) (fun _ _ _ h=>h)
 obtain⟨w1,b,N,t1,s1,r1,q⟩:=hl
 rw[KSeq_eq]
 exact W_mono (q w1 h1 a1 (by rw[t1.le.id0];exact h0) t1.len s1 r1) (fun _ _ h=>h.trans t1) (fun _ _ h=>h.trans t1) (fun _ _ _ h=>h.trans t1)
theorem SemW_blk {id:Nat} {x:AC} (h:SemW tab m x a M Qn Qr (PKBlk id Qn Qe)):SemW tab m (.block id x) a M Qn Qr Qe:=by
 intro w hh a' h0 hm s ha
 rw[W_block]
 refine W_mono (h w hh a' h0 hm s ha) (fun _ _ h=>h) (fun _ _ h=>h) (fun i a1 h1 hl=>?_)
 obtain⟨w1,b,N,t1,s1,r1,q⟩:=hl
 rw[KBlock_eq]
 unfold PKBlk at q
 by_cases e:i=id
 ·rw[if_pos e]at q ⊢;exact⟨w1,b,N,t1,s1,r1,q⟩
 ·rw[if_neg e]at q ⊢;exact⟨w1,b,N,t1,s1,r1,q⟩
theorem SemW_loop {sc:List Nat} {x:AC} (hj:jchk 0 sc a=true) (h:SemW tab m x a M (fun b N=>SemW tab m (.loop sc x) b N Qn Qr Qe) Qr Qe):SemW tab m (.loop sc x) a M Qn Qr Qe:=by
 intro w hh a' h0 hm s ha
 rw[W_loop _ _ _ _ _ _ _ _ (lim_code tab)]
 have e:=pscrub_same sc a fun s hs=>by simpa using (jchk_get a 0 sc hj s hs).2
 have ha2:=RepL.scrub sc ha
 rw[e]at ha2
 refine W_mono (h w hh _ h0 hm s ha2) (fun a1 h1 hl=>?_) (fun _ _ h=>h) (fun _ _ _ h=>h)
 obtain⟨w1,b,N,t1,s1,r1,q⟩:=hl
 rw[WL_eq]
 exact W_mono (q w1 h1 a1 (by rw[t1.le.id0];exact h0) t1.len s1 r1) (fun _ _ h=>h.trans t1) (fun _ _ h=>h.trans t1) (fun _ _ _ h=>h.trans t1)
theorem q35 {c:AC} (h:RX tab m c a M Qn Qr Qe):SemW tab m c a M Qn Qr Qe:=RX_sound m c h
theorem SemW_mono {c:AC} {Qn' Qr':List PV→Mem→Prop} {Qe':Nat→List PV→Mem→Prop} (h:SemW tab m c a M Qn Qr Qe) (h1:∀b N,Qn b N→Qn' b N) (h2:∀b N,Qr b N→Qr' b N) (h3:∀i b N,Qe i b N→Qe' i b N):SemW tab m c a M Qn' Qr' Qe':=by
 intro w hh a' h0 hm s ha
 refine W_mono (h w hh a' h0 hm s ha) ?_ ?_ ?_
 ·rintro a1 hh1 ⟨w1,b,N,t1,s1,r1,q⟩;exact⟨w1,b,N,t1,s1,r1,h1 _ _ q⟩
 ·rintro a1 hh1 ⟨w1,b,N,t1,s1,r1,q⟩;exact⟨w1,b,N,t1,s1,r1,h2 _ _ q⟩
 ·rintro i a1 hh1 ⟨w1,b,N,t1,s1,r1,q⟩;exact⟨w1,b,N,t1,s1,r1,h3 _ _ _ q⟩
end
def tabA {α:Type} (n:Nat) (f:Nat→α):List α:=(List.range n).map f
theorem q23 {α:Type} (n:Nat) (f:Nat→α):(tabA n f).length=n:=by simp[tabA]
theorem q66 {α:Type} {n:Nat} {f:Nat→α} {v:Nat} (h:v<n):(tabA n f)[v]? =some (f v):=by simp[tabA,h]
theorem tabA_none {α:Type} {n:Nat} {f:Nat→α} {v:Nat} (h:n≤v):(tabA n f)[v]? =none:=List.getElem?_eq_none (by rw[q23];exact h)
theorem tabA_ext {α:Type} {n:Nat} {f:Nat→α} {a:List α} (hl:a.length=n) (h:∀v,v<n→a[v]? =some (f v)):a=tabA n f:=by
 apply List.ext_getElem?
 intro v
 rcases Nat.lt_or_ge v n with q | q
 ·rw[h v q,q66 q]
 ·rw[List.getElem?_eq_none (by omega),tabA_none q]
theorem q38 {α:Type} {n:Nat} {f g:Nat→α} (h:∀v,v<n→f v=g v):tabA n f=tabA n g:=tabA_ext (q23 _ _) fun v hv=>by rw[q66 hv,h v hv]
theorem tabA_set {α:Type} {n:Nat} {f:Nat→α} {u:Nat} (x:α) (h:u<n):(tabA n f).set u x=tabA n (fun v=>if v=u then x else f v):=tabA_ext (by rw[List.length_set,q23]) fun v hv=>by
 rw[List.getElem?_set]
 by_cases e:u=v
 ·subst e;rw[if_pos rfl,if_pos (by rw[q23];exact h),if_pos rfl]
 ·rw[if_neg e,q66 hv,if_neg (fun q=>e q.symm)]
theorem tabA_mem {α:Type} {n:Nat} {f:Nat→α} {x:α} (h:x∈tabA n f):∃v,v<n∧f v=x:=by
 obtain⟨v,hv,e⟩:=List.mem_map.1 h
 exact⟨v,List.mem_range.1 hv,e⟩
theorem tabA_succ {α:Type} (n:Nat) (f:Nat→α):tabA (n+1) f=tabA n f++[f n]:=by simp[tabA,List.range_succ]
theorem PWeak.refl:∀a:List PV,PWeak a a
 | []=>trivial
 | _::a=>⟨.inr rfl,PWeak.refl a⟩
theorem pfrz1_under {n:Nat} {M:Mem} {v:PV} (h:v.under n=true):q43 n M v=some v:=by
 cases v<;>simp_all [q43,PV.under]
theorem pfrzL_under {n:Nat} {M:Mem} :∀{l:List PV},q14 n l=true→pfrzL n M l=some l
 | [],_=>rfl
 | v::l,h=>by
  have h2:=(q37 n (v::l)).1 h
  rw[pfrzL_cons',pfrz1_under (h2 v (by simp)),pfrzL_under ((q37 n l).2 fun x hx=>h2 x (by simp[hx]))]
  rfl
def cutOk (n:Nat):PObj→Bool
 | .cells _ _ cs=>q14 n cs
 | .map _ es=>underE n es
 | .gone=>true
 | _=>false
theorem pfrzO_ok {n:Nat} {M:Mem} {o:PObj} (h:cutOk n o=true):pfrzO n M o=some o:=by
 cases o with
 | cells g ver cs=>simp only[cutOk]at h;simp only[pfrzO,pfrzL_under h,Option.map_some]
 | map ver es=>simp only[cutOk]at h;simp only[pfrzO,h,if_true]
 | gone=>rfl
 | loop ver r=>simp[cutOk]at h
theorem pfrzM_cons {n:Nat} {M l xs:Mem} {o x:PObj} (h1:pfrzO n M o=some x) (h2:pfrzM n M l=some xs):pfrzM n M (o::l)=some (x::xs):=by
 simp only[pfrzM,h1,h2]
theorem pfrzM_ok {n:Nat} {M:Mem} :∀{l r xs:Mem},l.all (cutOk n)=true→pfrzM n M r=some xs→pfrzM n M (l++r)=some (l++xs)
 | [],r,xs,_,h=>h
 | o::l,r,xs,ho,h=>by
  simp only[List.all_cons,Bool.and_eq_true]at ho
  exact pfrzM_cons (pfrzO_ok ho.1) (pfrzM_ok ho.2 h)
theorem Gh_ret {M:Mem} {K:PV→Mem→Prop} {k:IntKind} {ys:List Int} {g ver n:Nat} (hc:M.all (cutOk M.length)=true) (hn:ys.length=n) (hk:K (slI false true k ys) M):
  Gh M.length (fun a N=>∃r',a=[r']∧K r' N) [.ref M.length g 1 0 n] (M++[.cells g ver (ys.map (PV.int k))]):=by
 subst hn
 have h1:(M++[PObj.cells g ver (ys.map (PV.int k))])[M.length]? =some (.cells g ver (ys.map (PV.int k))):=by simp
 refine Gh.step (GStep.cutF M.length (Nat.le_refl _) (by simp) (PWeak.refl _) (c:=[slI false true k ys]) ?_ (N:=M) ?_) (Gh.same ⟨_,rfl,hk⟩)
 ·rw[pfrzL_cons',pfrz1_ref' (Nat.le_refl _) h1 (by simp) (q58 _ _ _),pfrzL_nil']
  simp only[oCons,Nat.mul_one,psub_map,slI]
 ·rw[List.take_left']
  ·have:=pfrzM_ok (M:=M++[PObj.cells g ver (ys.map (PV.int k))]) (r:=[]) (xs:=[]) hc rfl
   simpa using this
  ·rfl
section
variable {tab:FuncId→Option AF}
theorem SemC_res {g:FuncId} {args:List PV} {M:Mem} {K:PV→Mem→Prop} (h:SemC tab g args M fun r M'=>∃r' N,pfrz M.length M' r=some r'∧pfrzM M.length M' (M'.take M.length)=some N∧K r' N):SemC tab g args M K:=
 fun w hh args' h0 s ha=>C_mono (h w hh args' h0 s ha) fun v h' ⟨w1,r,M1,p1,p2,p3,r',N,q1,q2,q3⟩=>by
  have hid:w1.id0≤M.length:=by rw[p1.le.id0];exact h0
  obtain⟨z1,z2⟩:=p2.cutF (m:=M.length) hid p1.len q2
  exact⟨w1.cut h' M.length M1,r',N,p1.trans (z2 M.length (Nat.le_refl _)) (Nat.le_refl _),z1,frz_rep p2 hid p3 q1,q3⟩
end
section
variable {tab:FuncId→Option AF}
theorem SemW_lit0 {m:Nat} {a:List PV} {M:Mem} {Qn Qr:List PV→Mem→Prop} {Qe:Nat→List PV→Mem→Prop} {os:List AOper} {d size len:Nat} {z:List AV} {ps:List (Nat×Nat×AR)} {chk:List Nat}
  (h:∃cs,pfill a (q30 len (z.map q31)) ps=some cs∧RO tab os (ptset a d (.ref M.length 0 size 0 len)) (M++[.cells 0 0 cs]) Qn):
  SemW tab m (.region (⟨some d,.buildSlice size len z ps,none,chk⟩::os)) a M Qn Qr Qe:=by
 intro w hh a' h0 hm s ha
 rw[W_region]
 obtain⟨cs,q1,q2⟩:=h
 delta RO at q2
 obtain⟨cs',f1,f2⟩:=rep_fill ha ps (rep_repl (repL_ofAV1 w z) len) q1
 obtain⟨s2,t2⟩:=s.alloc (o:= .cells 0 0 cs) (o':= .cells 0 true cs') (e:=⟨some hh.next,0,0⟩) rfl (fun w' hl he=>⟨_,he,rfl,_,H.get_alloc_new _ _,f2.mono hl s.env⟩)
 have hv:RepV (w.withEnv M.length ⟨some hh.next,0,0⟩) (.ref M.length 0 size 0 len) (.slice true size hh.next 0 len):= .ref (e:=⟨some hh.next,0,0⟩) (by show(if _=_ then _ else _)=_;rw[if_pos rfl]) rfl rfl
 obtain⟨a2',h2,e2,w2,a2,M2,t3,s3,r3,q3⟩:=PO_sound os (by rw[t2.le.id0];have:=t2.len;omega) s2 ((ha.mono t2.le s.env).tset d hv) q2
 unfold WO
 refine⟨a2',h2,?_,w2,a2,M2,(t2.trans t3 t2.len).weaken hm,s3,r3,q3⟩
 simp only[aops,q32,astep,aop,f1]
 exact e2
theorem SemC_pureS {g:FuncId} {F:AFn} (hg:tab g=some (.fn F)) {args:List PV} {M:Mem} {K:PV→Mem→Prop} (hb:q14 0 args=true)
  (hp:SemW tab 0 F.body (ppad args F.ntmps) [] (PKPure F.results fun r=>K r M) (PKPure F.results fun r=>K r M) PKNo):SemC tab g args M K:=by
 refine SemC_frame hb (SemC_sem hg (SemW_mono hp (fun b N q=>?_) (fun b N q=>?_) fun i b N q=>?_))
 ·unfold PKPure at q;exact q
 ·unfold PKPure at q;exact q
 ·unfold PKNo at q;exact q
end
section
variable {tab:FuncId→Option AF}
end
def PFrzP (id g:Nat) (cs:List PV):List PV→List PV→Prop
 | [],[]=>True
 | x::a,y::b=>(y= .junk∨x=y∨∃o,x= .ptr id g o∧y= .cp cs o)∧PFrzP id g cs a b
 | _,_=>False
theorem PFrzP_nil (id g:Nat) (cs:List PV):PFrzP id g cs [] []=True:=(rfl)
theorem PFrzP_junk (id g:Nat) (cs:List PV) (x:PV) (a b:List PV):PFrzP id g cs (x::a) (.junk::b)=PFrzP id g cs a b:=by simp[PFrzP]
theorem PFrzP_same (id g:Nat) (cs:List PV) (x:PV) (a b:List PV):PFrzP id g cs (x::a) (x::b)=PFrzP id g cs a b:=by simp[PFrzP]
theorem PFrzP_ptr (id g o:Nat) (cs:List PV) (a b:List PV):PFrzP id g cs (.ptr id g o::a) (.cp cs o::b)=PFrzP id g cs a b:=by
 simp[PFrzP]
theorem PSt.freezeP {w:PWd} {h:H} {M:Mem} (s:PSt w h M) {id g ver:Nat} {cs:List PV} (hm:M[id]? =some (.cells g ver cs)) (h0:w.id0≤id):
  ∃w',PSt w' h (M.set id .gone)∧(∀m,m≤id→PStp m w h M w' h (M.set id .gone))∧Le M.length w w'∧∀o x,RepV w (.ptr id g o) x→RepV w' (.cp cs o) x:=by
 obtain⟨e,h1,h2,h3⟩:=s.cellsAt hm
 have hid:=q12 hm
 rcases h3 with⟨hb,rfl⟩ | ⟨b,bcs,hb,hg,hr,hlv⟩
 ·have live:∀i x,LiveAt w (M.set id .gone) i x→LiveAt w M i x:=by
   rintro i x ⟨ob,e',p1,p2,p3,p4⟩
   by_cases hi:id=i
   ·subst hi;rw[List.getElem?_set_self hid]at p1;cases p1;exact absurd rfl p2
   ·rw[List.getElem?_set_ne hi]at p1;exact⟨ob,e',p1,p2,p3,p4⟩
  refine⟨w,⟨s.imm,fun i e' he=>by simpa using s.env i e' he,s.blk,?_,fun i j x q1 q2=>s.inj i j x (live i x q1) (live j x q2),fun i x q1=>s.sep i x (live i x q1),s.base⟩,fun m hmm=>⟨by simp;omega,Le.refl _ _,Nat.le_refl _,fun _ _ _=>rfl,fun i x q1 _=>live i x q1,fun x hx=> .inl hx⟩,Le.refl _ _,?_⟩
  ·intro i ob hi
   by_cases hid2:id=i
   ·subst hid2;rw[List.getElem?_set_self hid]at hi;cases hi;trivial
   ·rw[List.getElem?_set_ne hid2]at hi;exact s.obj i ob hi
  ·intro o x hx
   cases hx with
   | ptr q1 q2 q3=>rw[h1]at q1;cases q1;rw[hb]at q3;cases q3
   | ptrS x q0 q1 q2=>rw[h1]at q1;cases q1;omega
 ·let w':=w.withImm b (.cells (e.v0+ver) true bcs)
  have hsep:=s.sep id b hlv
  have hl:Le M.length w w':=le_withImm hsep.1
  have him:∀x,x≠b→w'.imm x=w.imm x:=fun x hx=>by show(if _=_ then _ else _)=_;rw[if_neg hx]
  have hnew:w'.imm b=some (.cells (e.v0+ver) true bcs):=by show(if _=_ then _ else _)=_;rw[if_pos rfl]
  have live:∀i x,LiveAt w' (M.set id .gone) i x→i≠id∧LiveAt w M i x:=by
   rintro i x ⟨ob,e',p1,p2,p3,p4⟩
   by_cases hi:id=i
   ·subst hi;rw[List.getElem?_set_self hid]at p1;cases p1;exact absurd rfl p2
   ·rw[List.getElem?_set_ne hi]at p1;exact⟨fun q=>hi q.symm,ob,e',p1,p2,p3,p4⟩
  refine⟨w',⟨?_,fun i e' he=>by simpa using s.env i e' he,s.blk,?_,fun i j x q1 q2=>s.inj i j x (live i x q1).2 (live j x q2).2,?_,s.base⟩,fun m hmm=>⟨by simp;omega,⟨hl.n0,hl.id0,hl.imm,fun i hi=>hl.env i (by omega)⟩,Nat.le_refl _,fun _ _ _=>rfl,fun i x q1 _=>(live i x q1).2,?_⟩,hl,?_⟩
  ·intro x o hx
   by_cases e1:x=b
   ·subst e1;rw[hnew]at hx;cases hx;exact hg
   ·rw[him x e1]at hx;exact s.imm x o hx
  ·intro i ob hi
   by_cases hid2:id=i
   ·subst hid2;rw[List.getElem?_set_self hid]at hi;cases hi;trivial
   ·rw[List.getElem?_set_ne hid2]at hi
    exact RepO.mono s hl (s.obj i ob hi) (fun e' he=>he) (fun _ _ _ _=>rfl)
  ·intro i x q1
   obtain⟨hne,q2⟩:=live i x q1
   have:x≠b:=by rintro rfl;exact hne (s.inj i id x q2 hlv)
   exact⟨by rw[him x this];exact(s.sep i x q2).1,(s.sep i x q2).2⟩
  ·intro x hx
   by_cases e1:x=b
   ·subst e1;exact .inr (.inr ⟨id,hmm,hlv⟩)
   ·rw[him x e1]at hx;exact .inl hx
  ·intro o x hx
   cases hx with
   | ptr q1 q2 q3=>
    rw[h1]at q1;cases q1
    rw[hb]at q3;cases q3
    have hs:=hr.mono hl s.env
    have:=RepV.cp (o:=o) (off:=0) hnew (by rw[hr.len];omega) (fun i y z hy hz=>hs.get i y z hy (by simpa using hz))
    simpa using this
   | ptrS x q0 q1 q2=>rw[h1]at q1;cases q1;omega
theorem PFrzP.rep {w w':PWd} {M:Mem} {id g:Nat} {cs:List PV} (hl:Le M.length w w') (hd:∀i e,w.env i=some e→i<M.length) (hf:∀o x,RepV w (.ptr id g o) x→RepV w' (.cp cs o) x):
  ∀{a b:List PV} {a':List AV},PFrzP id g cs a b→RepL w a a'→RepL w' b a'
 | [],[],a',_,h=>⟨h.len,fun i y z q=>by simp at q⟩
 | x::a,y::b,[],_,h=>by have:=h.len;simp at this
 | x::a,y::b,v::a',⟨h1,h2⟩,h=>by
  refine .cons ?_ (PFrzP.rep hl hd hf h2 h.tl)
  rcases h1 with rfl | rfl | ⟨o,rfl,rfl⟩
  ·exact .junk _
  ·exact h.hd.mono hl hd
  ·exact hf o v h.hd
 | [],_::_,a',hw,h=>hw.elim
 | _::_,[],a',hw,h=>hw.elim
theorem GStep.freezeP {m:Nat} {a b:List PV} {M N:Mem} (id:Nat) {g ver:Nat} {cs:List PV} (hid:m≤id) (hM:M[id]? =some (.cells g ver cs)) (hf:PFrzP id g cs a b) (hN:M.set id .gone=N):GStep m a M b N:=by
 subst hN
 refine⟨fun hm=>by simpa using hm,fun w hh a' h0 hm s ha=>?_⟩
 obtain⟨w',s1,s2,hl,hr⟩:=s.freezeP hM (Nat.le_trans h0 hid)
 exact⟨w',s2 m hid,s1,hf.rep hl s.env hr ha⟩
def ZStr (v:PV) (k:ByteArray→Prop) (t:KTag k):Prop:=∃s,v= .str s∧k s
theorem ZStr_str (s:ByteArray) (k:ByteArray→Prop) (t:KTag k):ZStr (.str s) k t=k s:=by simp[ZStr]
section
variable (tab:FuncId→Option AF) (a:List PV) (M:Mem) (K:PV→Mem→List Nat→List Nat→Prop)
theorem PS_indexStr (x i:AR):RS tab (.indexStr x i) a M K=ZStr (pev a x) (fun s=>ZInt (pev a i) (fun _ k=>0≤k∧ZSome s[k.toNat]? (fun c=>K (.int .u8 c.toNat) M [] []) ⟨0⟩) ⟨0⟩) ⟨0⟩:=by delta RS ZStr ZInt ZSome;rfl
theorem PS_appendMake (bytes:Nat) (z:List AV) (s x:AR):RS tab (.appendMake bytes z s x) a M K=(pev a s= .nils∧ZInt (pev a x) (fun kv n=>kv= .i64∧(if n=0 then K .nils M [] [] else(0≤n∧n*bytes≤140737488355328∧n≤9223372036854775807)∧K (.ref M.length 0 z.length 0 n.toNat) (M++[.cells 0 0 (q30 n.toNat (z.map q31))]) [] [])) ⟨0⟩):=by delta RS ZInt;rfl
end
attribute [irreducible] ZStr
inductive PImg (M:Mem):List PV→List PV→Prop
 | nil:PImg M [] []
 | same {v:PV} {a b:List PV} :v.under 0=true→PImg M a b→PImg M (v::a) (v::b)
 | ref {id g ver sz off n:Nat} {cs cs2:List PV} {a b:List PV} :M[id]? =some (.cells g ver cs)→off+n*sz≤cs.length→PImg M (psub cs off (n*sz)) cs2→PImg M a b→
   PImg M (.ref id g sz off n::a) (.sl true false sz n cs2::b)
 | ptr {id g ver:Nat} {cs cs2:List PV} {a b:List PV} :M[id]? =some (.cells g ver cs)→PImg M cs cs2→PImg M a b→PImg M (.ptr id g 0::a) (.cp cs2 0::b)
 | func {fn:_root_.Go.Fn} {f f2 c c2 a b:List PV} :(∀l,fn≠ .yield l)→PImg M f f2→PImg M c c2→PImg M a b→PImg M (.func fn f c::a) (.func fn f2 c2::b)
 | agg {cs cs2 a b:List PV} :PImg M cs cs2→PImg M a b→PImg M (.agg cs::a) (.agg cs2::b)
 | tuple {cs cs2 a b:List PV} :PImg M cs cs2→PImg M a b→PImg M (.tuple cs::a) (.tuple cs2::b)
theorem PImg.len {M:Mem} {a b:List PV} (h:PImg M a b):a.length=b.length:=by
 induction h with
 | nil=>rfl
 | same _ _ ih=>simp[ih]
 | ref _ _ _ _ _ ih=>simp[ih]
 | ptr _ _ _ _ ih=>simp[ih]
 | func _ _ _ _ _ _ ih=>simp[ih]
 | agg _ _ _ ih=>simp[ih]
 | tuple _ _ _ ih=>simp[ih]
theorem PImg.sames {M:Mem} :∀{a:List PV},q14 0 a=true→PImg M a a
 | [],_=> .nil
 | v::a,h=>by
  have h:(v.under 0&&q14 0 a)=true:=by simpa [q14] using h
  rw[Bool.and_eq_true]at h
  exact .same h.1 (PImg.sames h.2)
theorem img_rep {w w0:PWd} {h:H} {M:Mem} (s:PSt w h M) (hn:w0.n0=w.n0) (him:∀b o,w.imm b=some o→w0.imm b=some o) (hlv:∀id b,LiveAt w M id b→w0.imm b=h.get b) {a b:List PV} (hb:PImg M a b) {a':List AV} (ha:RepL w a a'):RepL w0 b a':=by
 induction hb generalizing a' with
 | nil=>exact⟨ha.len,fun i y z hy=>by simp at hy⟩
 | @same v a b hv _ ih=>
  match a',ha with
  | x::l,ha=>exact .cons (ha.hd.low (w:=w) (w':=w0) (m:=0) hn him (fun id hi=>by omega) hv) (ih ha.tl)
  | [],ha=>exact absurd ha.len (by simp)
 | @ref id g ver sz off n cs cs2 a b hm hl hb1 _ ih1 ih=>
  match a',ha with
  | x::l,ha=>
   refine .cons ?_ (ih ha.tl)
   obtain⟨e,p1,p2,p3⟩:=s.refAt hm ha.hd
   have hl2:cs2.length=n*sz:=by rw[←hb1.len];simp[psub];omega
   rcases p3 with⟨rfl,rfl,rfl,_,rfl⟩ | ⟨fl,b,bcs,rfl,p4,p5,p6,p7⟩
   ·have:cs2=[]:=List.length_eq_zero_iff.1 (by rw[hl2];simp)
    subst this
    exact RepV.slN
   ·have hg:w0.imm b=h.get b:=hlv id b p7
    have hs:=ih1 (rep_sub p6 off (n*sz))
    refine .sl (hg.trans p5) (by rw[hl2,←p6.len];exact hl) hl2 (fun _ q=>by cases q) (fun q=>by cases q) (fun _ q=>by cases q) (fun i y z hy hz=>hs.get i y z hy ?_)
    rw[List.getElem?_take,if_pos (by have:=q12 hy;omega),List.getElem?_drop];exact hz
  | [],ha=>exact absurd ha.len (by simp)
 | @ptr id g ver cs cs2 a b hm hb1 _ ih1 ih=>
  match a',ha with
  | x::l,ha=>
   refine .cons ?_ (ih ha.tl)
   obtain⟨e,h1,h2,h3⟩:=s.cellsAt hm
   have hv:=ha.hd
   cases hv with
   | @ptr _ _ _ e' b q1 q2 q3=>
    rw[h1]at q1;cases q1
    rcases h3 with⟨h3,_⟩ | ⟨b2,bcs,h3,h4,h5,h6⟩
    ·rw[q3]at h3;cases h3
    ·rw[q3]at h3;cases h3
     have hi:w0.imm b=some (.cells (e.v0+ver) true bcs):=(hlv id b h6).trans h4
     have hr:=ih1 h5
     have:=RepV.cp (o:=0) (off:=0) hi (by rw[hr.len];omega) (fun i y z hy hz=>hr.get i y z hy (by simpa using hz))
     simpa using this
   | @ptrS _ _ _ e' _ q0 q1 q2=>rw[h1]at q1;cases q1;omega
  | [],ha=>exact absurd ha.len (by simp)
 | @func fn f f2 c c2 a b hf _ _ _ ih1 ih2 ih=>
  match a',ha with
  | x::l,ha=>
   refine .cons ?_ (ih ha.tl)
   cases ha.hd with
   | func h0 h1 h2 h3 h4=>
    have r1:=ih1 ⟨h1,h3⟩
    have r2:=ih2 ⟨h2,h4⟩
    exact .func h0 r1.len r2.len r1.get r2.get
  | [],ha=>exact absurd ha.len (by simp)
 | @agg cs cs2 a b _ _ ih1 ih=>
  match a',ha with
  | x::l,ha=>
   refine .cons ?_ (ih ha.tl)
   cases ha.hd with
   | agg h1 h2=>exact .agg (ih1 ⟨h1,h2⟩).len (ih1 ⟨h1,h2⟩).get
  | [],ha=>exact absurd ha.len (by simp)
 | @tuple cs cs2 a b _ _ ih1 ih=>
  match a',ha with
  | x::l,ha=>
   refine .cons ?_ (ih ha.tl)
   cases ha.hd with
   | tuple h1 h2=>exact .tuple (ih1 ⟨h1,h2⟩).len (ih1 ⟨h1,h2⟩).get
  | [],ha=>exact absurd ha.len (by simp)
section
variable {tab:FuncId→Option AF}
open Classical in
theorem SemC_imgR {g:FuncId} {args:List PV} {M:Mem} {K:PV→Mem→Prop} (hb:q14 0 args=true) (hc:SemC tab g args [] fun r M'=>∃r2,PImg M' [r] [r2]∧r2.under 0=true∧K r2 M):SemC tab g args M K:=by
 intro w h args' h0 s ha
 let w0:PWd:={w with env:=fun _=>none,id0:=0}
 have s0:PSt w0 h []:=⟨s.imm,(fun id e he=>by cases he),(fun id e b he=>by cases he),(fun id o ho=>by simp at ho),(fun i j x ⟨_,_,h1,_⟩=>by simp at h1),(fun i x ⟨_,_,h1,_⟩=>by simp at h1),s.base⟩
 have a0:RepL w0 args args':=ha.low (w:=w) (w':=w0) rfl (fun _ _ h=>h) (fun id hi=>by omega) hb
 refine C_mono (hc w0 h args' (Nat.le_refl _) s0 a0) ?_
 rintro v h' ⟨w1,r,M1,p1,p2,p3,r2,p4,p5,p6⟩
 have q0:RepL (w1.cut h' 0 M1) [r2] [v]:=img_rep (w0:=w1.cut h' 0 M1) p2 rfl (cut_imm p2 0) (fun id b hl=>by show(if _ then _ else _)=_;rw[if_pos ⟨id,Nat.zero_le _,hl⟩]) p4 (.cons p3 (.nil _))
 have q1:=q0.hd
 obtain⟨z1,z2⟩:=p2.cut (m:=0) (Nat.zero_le _) (by simp)
 have p1:=z2 w0 h [] p1
 have hle:w1.n0=w.n0:=p1.le.n0
 have hnl:∀x id,¬LiveAt w0 [] id x:=fun x id ⟨_,_,h1,_⟩=>by simp at h1
 have hkeep:∀x,x<h.next→h'.get x=h.get x:=fun x hx=>p1.keep x hx (hnl x)
 let w2:PWd:={n0:=w.n0,id0:=w.id0,env:=w.env,imm:=(w1.cut h' 0 M1).imm}
 have hl:Le M.length w w2:=⟨rfl,rfl,fun b o hbo=>p1.le.imm b o hbo,fun id hi e he=>⟨e,he,.inr rfl⟩⟩
 have hr:RepV w2 r2 v:=q1.low (w:=w1.cut h' 0 M1) (w':=w2) (m:=0) hle.symm (fun _ _ h=>h) (fun id hi=>by omega) p5
 refine⟨w2,_,M,⟨Nat.le_refl _,hl,p1.next,fun x hx _=>hkeep x hx,fun id x hlv _=>hlv,?_⟩,⟨fun b o hbo=>z1.imm b o hbo,s.env,?_,?_,s.inj,?_,Nat.le_trans s.base p1.next⟩,hr,p6⟩
 ·intro x hx
  rcases p1.new x hx with e | e | ⟨id,_,e⟩
  ·exact .inl e
  ·exact .inr (.inl e)
  ·exact absurd e (hnl x id)
 ·intro id e b he hbl;exact Nat.lt_of_lt_of_le (s.blk id e b he hbl) p1.next
 ·intro id o ho
  exact RepO.mono s hl (s.obj id o ho) (fun e he=>he) (fun e b he hbl=>hkeep b (s.blk id e b he hbl))
 ·intro i x hlv
  have hlv:LiveAt w M i x:=hlv
  refine⟨?_,(s.sep i x hlv).2⟩
  show(w1.cut h' 0 M1).imm x=none
  cases hc:(w1.cut h' 0 M1).imm x with
  | none=>rfl
  | some o=>
   rcases p1.new x (by rw[hc];simp) with e | e | ⟨id,_,e⟩
   ·exact absurd (s.sep i x hlv).1 e
   ·have:=hlv.next s;omega
   ·exact absurd e (hnl x id)
end
section
variable {tab:FuncId→Option AF}
def OpOk (tab:FuncId→Option AF) (o:AO) (b:List PV) (N:Mem) (k:PV→Prop):Prop:=
 ∃p,k p∧∀(w:PWd) (h:H) (b':List AV),PSt w h N→RepL w b b'→∃v rd,astep (lim tab) o b' h=some (v,h,rd)∧RepV w p v
theorem SemW_op {m:Nat} {a:List PV} {M:Mem} {Qn Qr:List PV→Mem→Prop} {Qe:Nat→List PV→Mem→Prop} {os1 os2 os:List AOper} {d:Option Nat} {o:AO} {chk:List Nat} (he:os=os1++⟨d,o,none,chk⟩::os2)
  (h:RO tab os1 a M fun b N=>OpOk tab o b N fun v=>RO tab os2 (pput b d v) N Qn):SemW tab m (.region os) a M Qn Qr Qe:=by
 subst he
 intro w hh a' h0 hm s ha
 rw[W_region]
 delta RO at h
 obtain⟨a1',h1,e1,w1,b,N,t1,s1,r1,p,q1,q2⟩:=PO_sound os1 (Nat.le_trans h0 hm) s ha h
 obtain⟨v,rd,f1,f2⟩:=q2 w1 h1 a1' s1 r1
 obtain⟨a2',h2,e2,w2,a2,M2,t3,s3,r3,q3⟩:=PO_sound os2 (by rw[t1.le.id0];have:=t1.len;omega) s1 (r1.put d f2) q1
 unfold WO
 refine⟨a2',h2,?_,w2,a2,M2,(t1.trans t3 t1.len).weaken hm,s3,r3,q3⟩
 have app:∀(o1 o2:List AOper) {a b:List AV} {h h1:H},aops (lim tab) o1 a h=some (b,h1)→aops (lim tab) (o1++o2) a h=aops (lim tab) o2 b h1:=by
  intro o1
  induction o1 with
  | nil=>intro o2 a b h h1 e;simp only[aops]at e;cases e;rfl
  | cons o o1 ih=>
   intro o2 a b h h1 e
   simp only[aops,List.cons_append]at e ⊢
   cases hw:q32 a o.guard with
   | none=>rw[hw]at e;cases e
   | some t=>
    rw[hw]at e
    cases t with
    | false=>exact ih o2 e
    | true=>
     simp only at e ⊢
     split at e
     ·exact ih o2 e
     ·cases e
 rw[app os1 _ e1]
 simp only[aops,q32,f1]
 exact e2
theorem OpOk_cap {x:AR} {b:List PV} {N:Mem} {k:PV→Prop} (hx:pev b x= .nils) (hk:k (p64 0)):OpOk tab (.cap x) b N k:=by
 refine⟨_,hk,fun w h b' s r=>?_⟩
 have hv:=q16 r x
 rw[hx]at hv
 have:=q52 hv
 exact⟨i64 0,[],by simp only[astep,aop,this],.int .i64 0⟩
theorem OpOk_app0 {size bytes:Nat} {s x:AR} {b:List PV} {N:Mem} {k:PV→Prop} {id g sz off n ver:Nat} {cs:List PV} {f o:Bool} (hs:pev b s= .ref id g sz off n) (hM:N[id]? =some (.cells g ver cs)) (hx:pev b x= .sl f o size 0 []) (hk:k (.ref id g sz off n)):OpOk tab (.append size bytes s x) b N k:=by
 refine⟨_,hk,fun w h b' st r=>?_⟩
 have h1:=q16 r s
 have h2:=q16 r x
 rw[hs]at h1
 rw[hx]at h2
 obtain⟨new,m,new',e1,e2,e3,e4⟩:=src_sound (a':=b') (size:=size) (k:=fun _ n=>n=0) st h2 ⟨rfl,rfl⟩ x rfl
 subst e3
 obtain⟨e,p1,p2,p3⟩:=st.refAt hM h1
 rcases p3 with⟨hv,_⟩ | ⟨fl,bb,bcs,hv,_⟩
 ·exact⟨.nilslice,[],by simp only[astep,aop,e1,hv];rw[if_pos trivial],by rw[←hv];exact h1⟩
 ·exact⟨.slice fl sz bb off n,[],by simp only[astep,aop,e1,hv];rw[if_pos trivial],by rw[←hv];exact h1⟩
theorem SemW_condT {m:Nat} {a:List PV} {M:Mem} {Qn Qr:List PV→Mem→Prop} {Qe:Nat→List PV→Mem→Prop} {c:AR} {x y:AC} (hc:pev a c= .bool true) (h:SemW tab m x a M Qn Qr Qe):SemW tab m (.cond c x y) a M Qn Qr Qe:=by
 intro w hh a' h0 hm s ha
 rw[W_cond0]
 have hv:=q16 ha c
 rw[hc]at hv
 refine⟨true,rep_bool hv,?_⟩
 rw[if_pos rfl]
 exact h w hh a' h0 hm s ha
end
section
variable {tab:FuncId→Option AF}
theorem SemC_at {id g ver sz off n:Nat} {cs:List PV} {f:FuncId} {pre post:List PV} {M:Mem} {K:PV→Mem→Prop} (hM:M[id]? =some (.cells g ver cs)) (hcs:q14 0 cs=true) (hpre:q14 0 pre=true) (hpost:q14 0 post=true)
  (hc:SemC tab f (pre++ .ref 0 g sz off n::post) [.cells g ver cs] fun r M1=>r.under 0=true∧∃ver' cs' l,M1= .cells g ver' cs'::l∧q14 0 cs'=true∧K r (M.set id (.cells g ver' cs'))):SemC tab f (pre++ .ref id g sz off n::post) M K:=by
 intro w h args' h0 s ha
 have hid:=q12 hM
 let w0:PWd:={n0:=w.n0,id0:=if w.id0≤id then 0 else 1,imm:=w.imm,env:=fun i=>if i=0 then w.env id else none}
 have we:w0.env 0=w.env id:=by show(if(0:Nat)=0 then w.env id else none)=_;rw[if_pos rfl]
 have wn:∀i e,w0.env i=some e→i=0∧w.env id=some e:=fun i e he=>by
  have he:(if i=0 then w.env id else none)=some e:=he
  split at he
  ·rename_i q;exact⟨q,he⟩
  ·cases he
 have live:∀i x,LiveAt w0 [.cells g ver cs] i x→i=0∧LiveAt w M id x:=by
  rintro i x ⟨o,e,p1,p2,p3,p4⟩
  obtain⟨rfl,q2⟩:=wn i e p3
  cases p1
  exact⟨rfl,_,e,hM,p2,q2,p4⟩
 have obj0:∀{w:PWd} {w':PWd} {h:H} {i j v:Nat} {c:List PV},w'.n0=w.n0→(∀b o,w.imm b=some o→w'.imm b=some o)→w'.env j=w.env i→q14 0 c=true→RepO w h i (.cells g v c)→RepO w' h j (.cells g v c):=by
  intro w w' h i j v c q0 q1 q2 q3 ⟨e,q4,q5,q6⟩
  refine⟨e,q2.trans q4,q5,?_⟩
  cases hb:e.blk with
  | none=>rw[hb]at q6;exact q6
  | some b=>
   rw[hb]at q6
   obtain⟨bcs,r1,r2⟩:=q6
   exact⟨bcs,r1,r2.low q0 q1 (fun _ hi=>absurd hi (Nat.not_lt_zero _)) q3⟩
 have s0:PSt w0 h [.cells g ver cs]:=by
  refine⟨s.imm,fun i e he=>by rw[(wn i e he).1];simp,fun i e b he hbl=>s.blk id e b (wn i e he).2 hbl,fun i o ho=>?_,fun i j x h1 h2=>by rw[(live i x h1).1,(live j x h2).1],fun i x h1=>⟨(s.sep id x (live i x h1).2).1,fun q=>(s.sep id x (live i x h1).2).2 ?_⟩,s.base⟩
  ·have hi:=q12 ho
   have:i=0:=by simp at hi;exact hi
   subst this
   cases ho
   exact obj0 (w:=w) (w':=w0) rfl (fun _ _ h=>h) we hcs (s.obj id _ hM)
  ·have hi:=(live i x h1).1
   subst hi
   have q:(if w.id0≤id then 0 else 1)≤0:=q
   split at q
   ·assumption
   ·omega
 have a0:RepL w0 (pre++ .ref 0 g sz off n::post) args':=by
  have low:∀{l:List PV} {l':List AV},q14 0 l=true→RepL w l l'→RepL w0 l l':=fun hu hl=>hl.low (w:=w) (w':=w0) (m:=0) rfl (fun _ _ h=>h) (fun _ hi=>absurd hi (Nat.not_lt_zero _)) hu
  clear hc
  induction pre generalizing args' with
  | nil=>
   match args',ha with
   | x::l,ha=>
    refine .cons ?_ (low hpost ha.tl)
    have hv:=ha.hd
    cases hv with
    | ref q1 q2 q3=>exact .ref (we.trans q1) q2 q3
    | refN q1 q2 q3=>exact .refN (we.trans q1) q2 q3
    | refS x q0 q1 q2=>exact .refS x q0 (we.trans q1) q2
   | [],ha=>exact absurd ha.len (by simp)
  | cons y pre ih=>
   match args',ha with
   | x::l,ha=>
    rw[underL_cons,Bool.and_eq_true]at hpre
    refine .cons ?_ (ih hpre.2 l ha.tl)
    exact(low (l:=[y]) (l':=[x]) (by rw[underL_cons,hpre.1];rfl) (.cons ha.hd (.nil w))).hd
   | [],ha=>exact absurd ha.len (by simp)
 refine C_mono (hc w0 h args' (by show(if w.id0≤id then 0 else 1)≤1;split<;>omega) s0 a0) ?_
 rintro v h' ⟨w1,r,M1,p1,p2,p3,k0,ver',cs',l,rfl,k1,k2⟩
 let w2:PWd:={n0:=w.n0,id0:=w.id0,imm:=w1.imm,env:=fun i=>if i=id then w1.env 0 else w.env i}
 have hn0:w2.n0=w1.n0:=p1.le.n0.symm
 have e1:w2.env id=w1.env 0:=by show(if _ then _ else _)=_;rw[if_pos rfl]
 have e2:∀i,i≠id→w2.env i=w.env i:=fun i hi=>by show(if _ then _ else _)=_;rw[if_neg hi]
 have g1:(M.set id (.cells g ver' cs'))[id]? =some (.cells g ver' cs'):=List.getElem?_set_self hid
 have g2:∀i,i≠id→(M.set id (.cells g ver' cs'))[i]? =M[i]? :=fun i hi=>List.getElem?_set_ne (fun q=>hi q.symm)
 have hl:Le M.length w w2:=by
  refine⟨rfl,rfl,fun b o hbo=>p1.le.imm b o hbo,fun i hi e he=>?_⟩
  by_cases q:i=id
  ·subst q
   rw[e1]
   exact p1.le.env 0 (by simp) e (we.trans he)
  ·rw[e2 i q];exact⟨e,he,.inr rfl⟩
 have lv1:∀x,LiveAt w2 (M.set id (.cells g ver' cs')) id x→LiveAt w1 (.cells g ver' cs'::l) 0 x:=by
  rintro x ⟨o,e,q1,q2,q3,q4⟩
  rw[g1]at q1;cases q1
  rw[e1]at q3
  exact⟨_,e,rfl,q2,q3,q4⟩
 have lv2:∀i x,i≠id→LiveAt w2 (M.set id (.cells g ver' cs')) i x→LiveAt w M i x:=by
  rintro i x hi ⟨o,e,q1,q2,q3,q4⟩
  rw[g2 i hi]at q1
  rw[e2 i hi]at q3
  exact⟨o,e,q1,q2,q3,q4⟩
 have lv3:∀x,LiveAt w1 (.cells g ver' cs'::l) 0 x→x<h.next→LiveAt w M id x:=fun x hlv hx=>(live 0 x (p1.live 0 x hlv hx)).2
 have hdis:∀j x,j≠id→LiveAt w1 (.cells g ver' cs'::l) 0 x→LiveAt w M j x→False:=fun j x hj h1 h2=>by
  have:=s.inj id j x (lv3 x h1 (h2.next s)) h2
  exact hj this.symm
 have hkeep:∀i x,i≠id→LiveAt w M i x→h'.get x=h.get x:=fun i x hi hlv=>p1.keep x (hlv.next s) fun j hj=>by
  obtain⟨q1,q2⟩:=live j x hj
  exact hi (s.inj i id x hlv q2)
 refine⟨w2,r,M.set id (.cells g ver' cs'),⟨by simp,hl,p1.next,fun x hx hn=>p1.keep x hx fun j hj=>hn id (live j x hj).2,fun i x hlv hx=>?_,fun x hx=>?_⟩,⟨p2.imm,fun i e he=>?_,fun i e b he hbl=>?_,fun i o ho=>?_,fun i j x h1 h2=>?_,fun i x h1=>?_,Nat.le_trans s.base p1.next⟩,(RepL.low (w:=w1) (w':=w2) (m:=0) (l:=[r]) (l':=[v]) hn0 (fun _ _ h=>h) (fun _ hi=>absurd hi (Nat.not_lt_zero _)) (.cons p3 (.nil w1)) (by rw[underL_cons,k0];rfl)).hd,k2⟩
 ·by_cases q:i=id
  ·subst q;exact lv3 x (lv1 x hlv) hx
  ·exact lv2 i x q hlv
 ·rcases p1.new x hx with e | e | ⟨j,q1,q2⟩
  ·exact .inl e
  ·exact .inr (.inl e)
  ·have:=(live j x q2).1;simp at q1;omega
 ·by_cases q:i=id
  ·subst q;simpa using hid
  ·rw[e2 i q]at he
   have:=s.env i e he
   simpa using this
 ·by_cases q:i=id
  ·subst q;rw[e1]at he;exact p2.blk 0 e b he hbl
  ·rw[e2 i q]at he;exact Nat.lt_of_lt_of_le (s.blk i e b he hbl) p1.next
 ·by_cases q:i=id
  ·subst q
   rw[g1]at ho;cases ho
   exact obj0 (w:=w1) (w':=w2) hn0 (fun _ _ h=>h) e1 k1 (p2.obj 0 _ rfl)
  ·rw[g2 i q]at ho
   by_cases hg:o= .gone
   ·subst hg;trivial
   ·exact RepO.mono s hl (s.obj i o ho) (fun e he=>by rw[e2 i q];exact he) fun e b he hbl=>hkeep i b q ⟨o,e,ho,hg,he,hbl⟩
 ·by_cases qi:i=id
  ·by_cases qj:j=id
   ·rw[qi,qj]
   ·subst qi;exact(hdis j x qj (lv1 x h1) (lv2 j x qj h2)).elim
  ·by_cases qj:j=id
   ·subst qj;exact(hdis i x qi (lv1 x h2) (lv2 i x qi h1)).elim
   ·exact s.inj i j x (lv2 i x qi h1) (lv2 j x qj h2)
 ·by_cases q:i=id
  ·subst q
   have hs:=p2.sep 0 x (lv1 x h1)
   refine⟨hs.1,fun q1=>?_⟩
   have q1:w.id0≤i:=q1
   have h3:=hs.2 (by rw[p1.le.id0];show(if w.id0≤i then 0 else 1)≤0;rw[if_pos q1];exact Nat.le_refl _)
   rwa [p1.le.n0]at h3
  ·have hlv:=lv2 i x q h1
   have hs:=s.sep i x hlv
   refine⟨?_,hs.2⟩
   refine Classical.byContradiction fun hne=>?_
   rcases p1.new x hne with e | e | ⟨j,q1,q2⟩
   ·exact e hs.1
   ·have:=hlv.next s;omega
   ·have:=(live j x q2).1;simp at q1;omega
end
mutual
def PV.young:PV→Bool
 | .sl _ own _ _ cs=>own&&youngL cs
 | .agg cs=>youngL cs
 | .tuple cs=>youngL cs
 | .bool _=>true
 | .int _ _=>true
 | .str _=>true
 | .nilptr=>true
 | .nils=>true
 | .nilmap=>true
 | .nilfunc=>true
 | .niliface=>true
 | .junk=>true
 | .ptr _ _ _=>false
 | .ref _ _ _ _ _=>false
 | .map _=>false
 | .yld _ _=>false
 | .cp _ _=>false
 | .func _ _ _=>false
 | .iface _ _=>false
def youngL:List PV→Bool
 | []=>true
 | v::l=>PV.young v&&youngL l
end
theorem youngL_iff:∀(l:List PV),youngL l=true↔∀v∈l,v.young=true
 | []=>by simp[youngL]
 | v::l=>by simp[youngL,youngL_iff l]
theorem youngL_get {l:List PV} (h:youngL l=true) {i:Nat} {y:PV} (hy:l[i]? =some y):y.young=true:=(youngL_iff l).1 h y (List.mem_of_getElem? hy)
theorem youngL_ints (k:IntKind) (xs:List Int):youngL (xs.map (PV.int k))=true:=(youngL_iff _).2 fun v hv=>by
 obtain⟨x,_,rfl⟩:=List.mem_map.1 hv;simp[PV.young]
theorem young_slI (f:Bool) (sz n:Nat) (k:IntKind) (xs:List Int):PV.young (.sl f true sz n (xs.map (PV.int k)))=true:=by simp[PV.young,youngL_ints]
theorem young_int (k:IntKind) (n:Int):PV.young (.int k n)=true:=by simp[PV.young]
theorem young_agg (cs:List PV):PV.young (.agg cs)=youngL cs:=by simp[PV.young]
theorem young_tuple (cs:List PV):PV.young (.tuple cs)=youngL cs:=by simp[PV.young]
theorem youngL_nil:youngL []=true:=by simp[youngL]
theorem youngL_cons (v:PV) (l:List PV):youngL (v::l)=(v.young&&youngL l):=by simp[youngL]
theorem RepV.young {w w':PWd} (h0:w'.n0≤w.n0) (hi:∀b o,w.imm b=some o→w.n0≤b→w'.imm b=some o) {v:PV} {x:AV} (h:RepV w v x):v.young=true→RepV w' v x:=by
 induction h with
 | junk x=>intro _;exact .junk x
 | bool b=>intro _;exact .bool b
 | int k n=>intro _;exact .int k n
 | str s=>intro _;exact .str s
 | nilptr=>intro _;exact .nilptr
 | nils=>intro _;exact .nils
 | nilmap=>intro _;exact .nilmap
 | nilfunc=>intro _;exact .nilfunc
 | niliface=>intro _;exact .niliface
 | sl h1 h2 h3 h4 h5 h7 h6 ih=>
  intro hb;simp only[PV.young,Bool.and_eq_true]at hb
  obtain⟨q1,q2⟩:=h5 hb.1
  exact .sl (hi _ _ h1 q1) h2 h3 h4 (fun _=>⟨Nat.le_trans h0 q1,q2⟩) (fun q=>by rw[hb.1]at q;cases q) (fun i y z p q=>ih i y z p q (youngL_get hb.2 p))
 | slN=>intro _;exact .slN
 | agg h1 h2 ih=>intro hb;simp only[PV.young]at hb;exact .agg h1 (fun i y z p q=>ih i y z p q (youngL_get hb p))
 | tuple h1 h2 ih=>intro hb;simp only[PV.young]at hb;exact .tuple h1 (fun i y z p q=>ih i y z p q (youngL_get hb p))
 | ptr h1 h2 h3=>intro hb;simp[PV.young]at hb
 | ptrS x q h1 h2=>intro hb;simp[PV.young]at hb
 | cp h1 h2 h3 ih=>intro hb;simp[PV.young]at hb
 | ref h1 h2 h3=>intro hb;simp[PV.young]at hb
 | refN h1 h2 h3=>intro hb;simp[PV.young]at hb
 | refS x q h1 h2=>intro hb;simp[PV.young]at hb
 | map h1 h2 h3=>intro hb;simp[PV.young]at hb
 | mapS x q h1 h2=>intro hb;simp[PV.young]at hb
 | func h1 h2 h3 h4 h5 ih1 ih2=>intro hb;simp[PV.young]at hb
 | yld h1 h2 h3 h4 h5 ih=>intro hb;simp[PV.young]at hb
 | yldS x q h1 h2=>intro hb;simp[PV.young]at hb
 | iface h ih=>intro hb;simp[PV.young]at hb
section
variable {tab:FuncId→Option AF}
open Classical in
theorem bor_rep {w w0:PWd} {h:H} {M:Mem} (s:PSt w h M) (hn:w0.n0=w.n0) (him:∀b o,w.imm b=some o→w0.imm b=some o) (hlv:∀id b,LiveAt w M id b→w0.imm b=h.get b) {args args2:List PV} (hb:PBor M args args2) {args':List AV} (ha:RepL w args args'):RepL w0 args2 args':=by
 induction hb generalizing args' with
 | nil=>exact⟨ha.len,fun i y z hy=>by simp at hy⟩
 | @same v a b hv _ ih=>
  match args',ha with
  | x::l,ha=>exact .cons (ha.hd.low (w:=w) (w':=w0) (m:=0) hn him (fun id hi=>by omega) hv) (ih ha.tl)
  | [],ha=>exact absurd ha.len (by simp)
 | @ref id g ver sz off n cs cs2 a b hm hl hu hps _ ih=>
  match args',ha with
  | x::l,ha=>
   refine .cons ?_ (ih ha.tl)
   subst hps
   obtain⟨e,p1,p2,p3⟩:=s.refAt hm ha.hd
   rcases p3 with⟨rfl,rfl,rfl,_,_⟩ | ⟨fl,b,bcs,rfl,p4,p5,p6,p7⟩
   ·simpa [psub] using RepV.slN
   ·have hl2:(psub cs off (n*sz)).length=n*sz:=by simp[psub];omega
    have hg:w0.imm b=h.get b:=hlv id b p7
    have hs:=(rep_sub p6 off (n*sz)).low (w:=w) (w':=w0) (m:=0) hn him (fun id hi=>by omega) hu
    refine .sl (hg.trans p5) (by rw[hl2,←p6.len];exact hl) hl2 (fun _ q=>by cases q) (fun q=>by cases q) (fun _ q=>by cases q) (fun i y z hy hz=>hs.get i y z hy ?_)
    rw[List.getElem?_take,if_pos (by have:=q12 hy;omega),List.getElem?_drop];exact hz
  | [],ha=>exact absurd ha.len (by simp)
 | @nest id g ver sz off n cs cs2 a b hm hl hb1 _ ih1 ih=>
  match args',ha with
  | x::l,ha=>
   refine .cons ?_ (ih ha.tl)
   obtain⟨e,p1,p2,p3⟩:=s.refAt hm ha.hd
   have hl2:cs2.length=n*sz:=by rw[←hb1.len];simp[psub];omega
   rcases p3 with⟨rfl,rfl,rfl,_,_⟩ | ⟨fl,b,bcs,rfl,p4,p5,p6,p7⟩
   ·have:cs2=[]:=List.length_eq_zero_iff.1 (by rw[hl2];simp)
    subst this
    exact RepV.slN
   ·have hg:w0.imm b=h.get b:=hlv id b p7
    have hs:=ih1 (rep_sub p6 off (n*sz))
    refine .sl (hg.trans p5) (by rw[hl2,←p6.len];exact hl) hl2 (fun _ q=>by cases q) (fun q=>by cases q) (fun _ q=>by cases q) (fun i y z hy hz=>hs.get i y z hy ?_)
    rw[List.getElem?_take,if_pos (by have:=q12 hy;omega),List.getElem?_drop];exact hz
  | [],ha=>exact absurd ha.len (by simp)
 | @agg cs cs2 a b _ _ ih1 ih=>
  match args',ha with
  | x::l,ha=>
   refine .cons ?_ (ih ha.tl)
   cases ha.hd with
   | agg h1 h2=>exact .agg (ih1 ⟨h1,h2⟩).len (ih1 ⟨h1,h2⟩).get
  | [],ha=>exact absurd ha.len (by simp)
open Classical in
theorem SemC_borF {g:FuncId} {args args2 args3:List PV} {M:Mem} {K:PV→Mem→Prop} (hb:PBor M args args2) (he:ageL args2=args3) (hc:SemC tab g args3 [] fun r _=>r.young=true∧K r M):SemC tab g args M K:=by
 subst he
 intro w h args' h0 s ha
 let w0:PWd:={n0:=w.n0,env:=fun _=>none,id0:=0,imm:=fun b=>if ∃id,LiveAt w M id b then h.get b else w.imm b}
 have him:∀b o,w.imm b=some o→w0.imm b=some o:=fun b o hbo=>by
  show(if _ then _ else _)=_
  split
  ·exact s.imm b o hbo
  ·exact hbo
 have himm:∀b o,w0.imm b=some o→h.get b=some o:=fun b o hbo=>by
  have hbo:(if ∃id,LiveAt w M id b then h.get b else w.imm b)=some o:=hbo
  split at hbo
  ·exact hbo
  ·exact s.imm b o hbo
 have a0:RepL w0 args2 args':=bor_rep (w0:=w0) s rfl him (fun id b hl=>by show(if _ then _ else _)=_;rw[if_pos ⟨id,hl⟩]) hb ha
 have hlt:∀b o,w0.imm b=some o→b<h.next:=fun b o hbo=>by
  have hbo:(if ∃id,LiveAt w M id b then h.get b else w.imm b)=some o:=hbo
  split at hbo
  ·rename_i q;obtain⟨id,hl⟩:=q;exact hl.next s
  ·exact s.immLt hbo
 let w1:PWd:={w0 with n0:=h.next}
 have s1:PSt w1 h []:=⟨himm,(fun id e he=>by cases he),(fun id e b he=>by cases he),(fun id o ho=>by simp at ho),(fun i j x ⟨_,_,h1,_⟩=>by simp at h1),(fun i x ⟨_,_,h1,_⟩=>by simp at h1),Nat.le_refl _⟩
 have a1:RepL w1 (ageL args2) args':=a0.age (w:=w0) (w':=w1) hlt (fun _ _ h=>h) (fun _ _ h=>h)
 refine C_mono (hc w1 h args' (Nat.le_refl _) s1 a1) ?_
 rintro v h' ⟨w2,r,M1,p1,p2,p3,p5,p6⟩
 have hnl:∀x id,¬LiveAt w1 [] id x:=fun x id ⟨_,_,h1,_⟩=>by simp at h1
 have hkeep:∀x,x<h.next→h'.get x=h.get x:=fun x hx=>p1.keep x hx (hnl x)
 let w3:PWd:={w with imm:=fun b=>if h.next≤b then w2.imm b else w.imm b}
 have i1:∀b,b<h.next→w3.imm b=w.imm b:=fun b hb=>by show(if _ then _ else _)=_;rw[if_neg (by omega)]
 have i2:∀b,h.next≤b→w3.imm b=w2.imm b:=fun b hb=>by show(if _ then _ else _)=_;rw[if_pos hb]
 have hl:Le M.length w w3:=⟨rfl,rfl,fun b o hbo=>by rw[i1 b (s.immLt hbo)];exact hbo,fun id hi e he=>⟨e,he,.inr rfl⟩⟩
 have hn2:w2.n0=h.next:=p1.le.n0
 refine⟨w3,r,M,⟨Nat.le_refl _,hl,p1.next,fun x hx _=>hkeep x hx,fun id x hlv _=>hlv,fun x hx=>?_⟩,⟨fun b o hbo=>?_,s.env,fun id e b he hbl=>Nat.lt_of_lt_of_le (s.blk id e b he hbl) p1.next,fun id o ho=>?_,s.inj,fun i x hlv=>?_,Nat.le_trans s.base p1.next⟩,p3.young (w:=w2) (w':=w3) (by rw[hn2];exact s.base) (fun b o hbo hb=>by rw[i2 b (by omega)];exact hbo) p5,p6⟩
 ·by_cases q:h.next≤x
  ·exact .inr (.inl q)
  ·rw[i1 x (by omega)]at hx;exact .inl hx
 ·by_cases q:h.next≤b
  ·rw[i2 b q]at hbo;exact p2.imm b o hbo
  ·rw[i1 b (by omega)]at hbo
   rw[hkeep b (by omega)];exact s.imm b o hbo
 ·exact RepO.mono s hl (s.obj id o ho) (fun e he=>he) (fun e b he hbl=>hkeep b (s.blk id e b he hbl))
 ·have hlv:LiveAt w M i x:=hlv
  exact⟨by rw[i1 x (hlv.next s)];exact(s.sep i x hlv).1,(s.sep i x hlv).2⟩
end
mutual
def PV.sh (k:Nat):PV→PV
 | .ref id g sz off n=> .ref (id+k) g sz off n
 | .ptr id g o=> .ptr (id+k) g o
 | .agg cs=> .agg (shL k cs)
 | .tuple cs=> .tuple (shL k cs)
 | v=>v
def shL (k:Nat):List PV→List PV
 | []=>[]
 | v::l=>PV.sh k v::shL k l
end
mutual
def PV.shOk:PV→Bool
 | .ref _ _ _ _ _=>true
 | .ptr _ _ _=>true
 | .agg cs=>shOkL cs
 | .tuple cs=>shOkL cs
 | .sl _ own _ _ cs=>own&&youngL cs
 | .bool _=>true
 | .int _ _=>true
 | .str _=>true
 | .nilptr=>true
 | .nils=>true
 | .nilmap=>true
 | .nilfunc=>true
 | .niliface=>true
 | .junk=>true
 | _=>false
def shOkL:List PV→Bool
 | []=>true
 | v::l=>PV.shOk v&&shOkL l
end
def shO (k:Nat):PObj→PObj
 | .cells g v cs=> .cells g v (shL k cs)
 | _=> .gone
def shOkO:PObj→Bool
 | .cells _ _ cs=>shOkL cs
 | _=>true
theorem shL_get (k:Nat):∀(l:List PV) (i:Nat),(shL k l)[i]? =(l[i]?).map (PV.sh k)
 | [],i=>by simp[shL]
 | v::l,0=>by simp[shL]
 | v::l,i+1=>by simp[shL,shL_get k l i]
theorem shL_len (k:Nat):∀l:List PV,(shL k l).length=l.length
 | []=>rfl
 | v::l=>by simp[shL,shL_len k l]
theorem shL_ints (k:Nat) (q:IntKind) (xs:List Int):shL k (xs.map (PV.int q))=xs.map (PV.int q):=by
 induction xs with
 | nil=>simp[shL]
 | cons x xs ih=>simp[shL,PV.sh,ih]
theorem shOkL_iff:∀(l:List PV),shOkL l=true↔∀v∈l,v.shOk=true
 | []=>by simp[shOkL]
 | v::l=>by simp[shOkL,shOkL_iff l]
theorem shOkL_ints (q:IntKind) (xs:List Int):shOkL (xs.map (PV.int q))=true:=(shOkL_iff _).2 fun v hv=>by
 obtain⟨x,_,rfl⟩:=List.mem_map.1 hv;simp[PV.shOk]
theorem shOkL_get {l:List PV} (h:shOkL l=true) {i:Nat} {y:PV} (hy:l[i]? =some y):y.shOk=true:=(shOkL_iff l).1 h y (List.mem_of_getElem? hy)
theorem RepV.sh {k:Nat} {w w':PWd} (h0:w'.n0≤w.n0) (hi:∀b o,w.imm b=some o→w.n0≤b→w'.imm b=some o) (he:∀id e,w.env id=some e→w'.env (id+k)=some e) {v:PV} {x:AV} (h:RepV w v x):v.shOk=true→RepV w' (v.sh k) x:=by
 induction h with
 | junk x=>intro _;exact .junk x
 | bool b=>intro _;exact .bool b
 | int k n=>intro _;exact .int k n
 | str s=>intro _;exact .str s
 | nilptr=>intro _;exact .nilptr
 | nils=>intro _;exact .nils
 | nilmap=>intro _;exact .nilmap
 | nilfunc=>intro _;exact .nilfunc
 | niliface=>intro _;exact .niliface
 | sl h1 h2 h3 h4 h5 h7 h6 ih=>
  intro hb
  simp only[PV.shOk,Bool.and_eq_true]at hb
  exact(RepV.sl h1 h2 h3 h4 h5 h7 h6).young h0 hi (by simp only[PV.young,hb.1,hb.2,Bool.and_self])
 | slN=>intro _;exact .slN
 | agg h1 h2 ih=>
  intro hb;simp only[PV.shOk]at hb
  refine .agg (by rw[shL_len,h1]) (fun i y z p q=>?_)
  rw[shL_get]at p
  obtain⟨u,hu,rfl⟩:=Option.map_eq_some_iff.1 p
  exact ih i u z hu q (shOkL_get hb hu)
 | tuple h1 h2 ih=>
  intro hb;simp only[PV.shOk]at hb
  refine .tuple (by rw[shL_len,h1]) (fun i y z p q=>?_)
  rw[shL_get]at p
  obtain⟨u,hu,rfl⟩:=Option.map_eq_some_iff.1 p
  exact ih i u z hu q (shOkL_get hb hu)
 | ptr h1 h2 h3=>intro _;exact .ptr (he _ _ h1) h2 h3
 | ptrS x q h1 h2=>intro _;exact .ptrS x q (he _ _ h1) h2
 | cp h1 h2 h3 ih=>intro hb;simp[PV.shOk]at hb
 | ref h1 h2 h3=>intro _;exact .ref (he _ _ h1) h2 h3
 | refN h1 h2 h3=>intro _;exact .refN (he _ _ h1) h2 h3
 | refS x q h1 h2=>intro _;exact .refS x q (he _ _ h1) h2
 | map h1 h2 h3=>intro hb;simp[PV.shOk]at hb
 | mapS x q h1 h2=>intro hb;simp[PV.shOk]at hb
 | func h1 h2 h3 h4 h5 ih1 ih2=>intro hb;simp[PV.shOk]at hb
 | yld h1 h2 h3 h4 h5 ih=>intro hb;simp[PV.shOk]at hb
 | yldS x q h1 h2=>intro hb;simp[PV.shOk]at hb
 | iface h ih=>intro hb;simp[PV.shOk]at hb
theorem RepL.shl {k:Nat} {w w':PWd} (h0:w'.n0≤w.n0) (hi:∀b o,w.imm b=some o→w.n0≤b→w'.imm b=some o) (he:∀id e,w.env id=some e→w'.env (id+k)=some e) {l:List PV} {l':List AV} (h:RepL w l l') (hb:shOkL l=true):RepL w' (shL k l) l':=
 ⟨by rw[shL_len];exact h.len,fun i y z p q=>by
  rw[shL_get]at p
  obtain⟨u,hu,rfl⟩:=Option.map_eq_some_iff.1 p
  exact(h.get i u z hu q).sh h0 hi he (shOkL_get hb hu)⟩
section
variable {tab:FuncId→Option AF}
theorem SemC_mono {g:FuncId} {args:List PV} {M:Mem} {K K':PV→Mem→Prop} (h:SemC tab g args M K) (hk:∀r N,K r N→K' r N):SemC tab g args M K':=
 fun w hh args' h0 s ha=>C_mono (h w hh args' h0 s ha) fun v h' ⟨w1,r,M1,p1,p2,p3,q⟩=>⟨w1,r,M1,p1,p2,p3,hk _ _ q⟩
theorem SemC_forget {g:FuncId} {args:List PV} {M:Mem} {K:PV→Mem→Prop} (i:Nat) (h:SemC tab g args (M.set i .gone) K):SemC tab g args M K:=by
 intro w hh args' h0 s ha
 have hP:∀j b,LiveAt w (M.set i .gone) j b→LiveAt w M j b:=by
  rintro j b ⟨o,e,p1,p2,p3,p4⟩
  by_cases q:j=i
  ·subst q
   rw[List.getElem?_set]at p1
   rw[if_pos rfl]at p1
   split at p1
   ·cases p1;exact absurd rfl p2
   ·cases p1
  ·rw[List.getElem?_set_ne (fun z=>q z.symm)]at p1
   exact⟨o,e,p1,p2,p3,p4⟩
 have sG:PSt w hh (M.set i .gone):=⟨s.imm,fun j e he=>by rw[List.length_set];exact s.env j e he,s.blk,fun j o ho=>by
  by_cases q:j=i
  ·subst q
   rw[List.getElem?_set,if_pos rfl]at ho
   split at ho
   ·cases ho;trivial
   ·cases ho
  ·rw[List.getElem?_set_ne (fun z=>q z.symm)]at ho
   exact s.obj j o ho,fun a b x h1 h2=>s.inj a b x (hP a x h1) (hP b x h2),fun a x h1=>s.sep a x (hP a x h1),s.base⟩
 refine C_mono (h w hh args' (by rw[List.length_set];exact h0) sG ha) ?_
 rintro v h' ⟨w1,r,M1,p1,p2,p3,q⟩
 refine⟨w1,r,M1,⟨?_,?_,p1.next,fun x hx hn=>p1.keep x hx fun j hj=>hn j (hP j x hj),fun j x hl hx=>hP j x (p1.live j x hl hx),fun x hx=>?_⟩,p2,p3,q⟩
 ·have:=p1.len;rwa [List.length_set]at this
 ·have:=p1.le;rwa [List.length_set]at this
 ·rcases p1.new x hx with e | e | ⟨j,q1,q2⟩
  ·exact .inl e
  ·exact .inr (.inl e)
  ·exact .inr (.inr ⟨j,by rw[List.length_set]at q1;exact q1,hP j x q2⟩)
open Classical in
theorem SemC_new {g:FuncId} {args args2 args3:List PV} {M:Mem} {K:PV→Mem→Prop} (hb:PBor M args args2) (he:ageL args2=args3)
  (hc:SemC tab g args3 [] fun r N=>∃N':Mem,(∀(i:Nat) o,N'[i]? =some o→o= .gone∨N[i]? =some o)∧N.length≤N'.length∧r.shOk=true∧N'.all shOkO=true∧K (r.sh M.length) (M++N'.map (shO M.length))):SemC tab g args M K:=by
 subst he
 intro w h args' h0 s ha
 let w0:PWd:={n0:=w.n0,env:=fun _=>none,id0:=0,imm:=fun b=>if ∃id,LiveAt w M id b then h.get b else w.imm b}
 have him:∀b o,w.imm b=some o→w0.imm b=some o:=fun b o hbo=>by
  show(if _ then _ else _)=_
  split
  ·exact s.imm b o hbo
  ·exact hbo
 have himm:∀b o,w0.imm b=some o→h.get b=some o:=fun b o hbo=>by
  have hbo:(if ∃id,LiveAt w M id b then h.get b else w.imm b)=some o:=hbo
  split at hbo
  ·exact hbo
  ·exact s.imm b o hbo
 have a0:RepL w0 args2 args':=bor_rep (w0:=w0) s rfl him (fun id b hl=>by show(if _ then _ else _)=_;rw[if_pos ⟨id,hl⟩]) hb ha
 have hlt:∀b o,w0.imm b=some o→b<h.next:=fun b o hbo=>by
  have hbo:(if ∃id,LiveAt w M id b then h.get b else w.imm b)=some o:=hbo
  split at hbo
  ·rename_i q;obtain⟨id,hl⟩:=q;exact hl.next s
  ·exact s.immLt hbo
 let w1:PWd:={w0 with n0:=h.next}
 have s1:PSt w1 h []:=⟨himm,(fun id e he=>by cases he),(fun id e b he=>by cases he),(fun id o ho=>by simp at ho),(fun i j x ⟨_,_,h1,_⟩=>by simp at h1),(fun i x ⟨_,_,h1,_⟩=>by simp at h1),Nat.le_refl _⟩
 have a1:RepL w1 (ageL args2) args':=a0.age (w:=w0) (w':=w1) hlt (fun _ _ h=>h) (fun _ _ h=>h)
 refine C_mono (hc w1 h args' (Nat.le_refl _) s1 a1) ?_
 rintro v h' ⟨w2,r,N,p1,p2,p5,N',n1,n2,r1,o1,p6⟩
 have hnl:∀x id,¬LiveAt w1 [] id x:=fun x id ⟨_,_,h1,_⟩=>by simp at h1
 have hkeep:∀x,x<h.next→h'.get x=h.get x:=fun x hx=>p1.keep x hx (hnl x)
 have hn2:w2.n0=h.next:=p1.le.n0
 have hid2:w2.id0=0:=p1.le.id0
 --what is live in the callee's end is new
 have hfresh:∀i x,LiveAt w2 N i x→h.next≤x:=fun i x hl=>by
  have:=(p2.sep i x hl).2 (by rw[hid2];exact Nat.zero_le _)
  rw[hn2]at this;exact this
 let m:=M.length
 let w3:PWd:={w with imm:=fun b=>if h.next≤b then w2.imm b else w.imm b,env:=fun id=>if id<m then w.env id else w2.env (id-m)}
 have i1:∀b,b<h.next→w3.imm b=w.imm b:=fun b hb=>by show(if _ then _ else _)=_;rw[if_neg (by omega)]
 have i2:∀b,h.next≤b→w3.imm b=w2.imm b:=fun b hb=>by show(if _ then _ else _)=_;rw[if_pos hb]
 have e1:∀id,id<m→w3.env id=w.env id:=fun id hi=>by show(if _ then _ else _)=_;rw[if_pos hi]
 have e2:∀id,w3.env (id+m)=w2.env id:=fun id=>by show(if _ then _ else _)=_;rw[if_neg (by omega),Nat.add_sub_cancel]
 have hl:Le M.length w w3:=⟨rfl,rfl,fun b o hbo=>by rw[i1 b (s.immLt hbo)];exact hbo,fun id hi e he=>⟨e,by rw[e1 id hi];exact he,.inr rfl⟩⟩
 have g1:∀id,id<m→(M++N'.map (shO m))[id]? =M[id]? :=fun id hi=>List.getElem?_append_left hi
 have g2:∀id,¬id<m→(M++N'.map (shO m))[id]? =(N'[id-m]?).map (shO m):=fun id hi=>by
  rw[List.getElem?_append_right (by omega),List.getElem?_map]
 have shE:∀id e,w2.env id=some e→w3.env (id+m)=some e:=fun id e he=>by rw[e2];exact he
 have shI:∀b o,w2.imm b=some o→w2.n0≤b→w3.imm b=some o:=fun b o hbo hb=>by rw[i2 b (by omega)];exact hbo
 have shN:w3.n0≤w2.n0:=by rw[hn2];exact s.base
 have lv1:∀i x,i<m→LiveAt w3 (M++N'.map (shO m)) i x→LiveAt w M i x:=by
  rintro i x hi ⟨o,e,q1,q2,q3,q4⟩
  rw[g1 i hi]at q1
  rw[e1 i hi]at q3
  exact⟨o,e,q1,q2,q3,q4⟩
 have lv2:∀i x,¬i<m→LiveAt w3 (M++N'.map (shO m)) i x→LiveAt w2 N (i-m) x:=by
  rintro i x hi ⟨o,e,q1,q2,q3,q4⟩
  rw[g2 i hi]at q1
  obtain⟨o',ho',rfl⟩:=Option.map_eq_some_iff.1 q1
  have q3:w2.env (i-m)=some e:=by rw[←e2,Nat.sub_add_cancel (by omega)];exact q3
  rcases n1 _ _ ho' with rfl | hN
  ·exact absurd rfl q2
  ·exact⟨o',e,hN,fun q=>q2 (by rw[q];rfl),q3,q4⟩
 refine⟨w3,r.sh m,M++N'.map (shO m),⟨by simp,hl,p1.next,fun x hx _=>hkeep x hx,fun id x hlv hx=>?_,fun x hx=>?_⟩,⟨fun b o hbo=>?_,fun id e he=>?_,fun id e b he hbl=>?_,fun id o ho=>?_,fun i j x h1 h2=>?_,fun i x hlv=>?_,Nat.le_trans s.base p1.next⟩,p5.sh shN shI shE r1,p6⟩
 ·by_cases q:id<m
  ·exact lv1 id x q hlv
  ·have:=hfresh _ x (lv2 id x q hlv);omega
 ·by_cases q:h.next≤x
  ·exact .inr (.inl q)
  ·rw[i1 x (by omega)]at hx;exact .inl hx
 ·by_cases q:h.next≤b
  ·rw[i2 b q]at hbo;exact p2.imm b o hbo
  ·rw[i1 b (by omega)]at hbo
   rw[hkeep b (by omega)];exact s.imm b o hbo
 ·by_cases q:id<m
  ·simp;omega
  ·have he:w2.env (id-m)=some e:=by rw[←e2,Nat.sub_add_cancel (by omega)];exact he
   have:=p2.env _ _ he
   simp;omega
 ·by_cases q:id<m
  ·rw[e1 id q]at he
   exact Nat.lt_of_lt_of_le (s.blk id e b he hbl) p1.next
  ·have he:w2.env (id-m)=some e:=by rw[←e2,Nat.sub_add_cancel (by omega)];exact he
   exact p2.blk _ e b he hbl
 ·by_cases q:id<m
  ·rw[g1 id q]at ho
   exact RepO.mono s hl (s.obj id o ho) (fun e he=>by rw[e1 id q];exact he) (fun e b he hbl=>hkeep b (s.blk id e b he hbl))
  ·rw[g2 id q]at ho
   obtain⟨o',ho',rfl⟩:=Option.map_eq_some_iff.1 ho
   have ok:=(List.all_eq_true.1 o1) o' (List.mem_of_getElem? ho')
   rcases n1 _ _ ho' with rfl | hN
   ·trivial
   ·have hr:=p2.obj _ _ hN
    match o',hr,ok with
    | .cells gg vv cs,⟨e,q4,q5,q6⟩,ok=>
     refine⟨e,?_,q5,?_⟩
     ·have:=shE _ _ q4
      rwa [Nat.sub_add_cancel (by omega)]at this
     ·cases hbb:e.blk with
      | none=>rw[hbb]at q6;simp only at q6 ⊢;subst q6;simp[shL]
      | some b=>
       rw[hbb]at q6
       obtain⟨bcs,z1,z2⟩:=q6
       exact⟨bcs,z1,z2.shl shN shI shE ok⟩
    | .map _ _,_,_=>trivial
    | .loop _ _,_,_=>trivial
    | .gone,_,_=>trivial
 ·by_cases qi:i<m
  ·by_cases qj:j<m
   ·exact s.inj i j x (lv1 i x qi h1) (lv1 j x qj h2)
   ·have a:=(lv1 i x qi h1).next s
    have b:=hfresh _ x (lv2 j x qj h2);omega
  ·by_cases qj:j<m
   ·have a:=(lv1 j x qj h2).next s
    have b:=hfresh _ x (lv2 i x qi h1);omega
   ·have:=p2.inj _ _ x (lv2 i x qi h1) (lv2 j x qj h2);omega
 ·by_cases q:i<m
  ·have hlv:=lv1 i x q hlv
   exact⟨by rw[i1 x (hlv.next s)];exact(s.sep i x hlv).1,(s.sep i x hlv).2⟩
  ·have hlv:=lv2 i x q hlv
   have hf:=hfresh _ x hlv
   exact⟨by rw[i2 x hf];exact(p2.sep _ x hlv).1,fun _=>by have:=s.base;show w.n0≤x;omega⟩
end
section
variable {tab:FuncId→Option AF}
open Classical in
theorem SemC_atB {id g ver sz off n:Nat} {cs:List PV} {f:FuncId} {pre post post2:List PV} {M:Mem} {K:PV→Mem→Prop} (hM:M[id]? =some (.cells g ver cs)) (hcs:q14 0 cs=true) (hpre:q14 0 pre=true) (hb:PBor (M.set id .gone) post post2)
  (hc:SemC tab f (pre++ .ref 0 g sz off n::post2) [.cells g ver cs] fun r M1=>r.flat=true∧∃ver' cs' l,M1= .cells g ver' cs'::l∧cs'.all PV.flat1=true∧K r (M.set id (.cells g ver' cs'))):SemC tab f (pre++ .ref id g sz off n::post) M K:=by
 intro w h args' h0 s ha
 have hid:=q12 hM
 let P:Nat→Prop:=fun b=>∃j,LiveAt w (M.set id .gone) j b
 let w0:PWd:={n0:=w.n0,id0:=if w.id0≤id then 0 else 1,imm:=fun b=>if P b then h.get b else w.imm b,env:=fun i=>if i=0 then w.env id else none}
 have hP:∀j b,LiveAt w (M.set id .gone) j b→j≠id∧LiveAt w M j b:=by
  rintro j b ⟨o,e,p1,p2,p3,p4⟩
  by_cases q:j=id
  ·subst q
   rw[List.getElem?_set_self hid]at p1
   cases p1;exact absurd rfl p2
  ·rw[List.getElem?_set_ne (fun z=>q z.symm)]at p1
   exact⟨q,o,e,p1,p2,p3,p4⟩
 have him:∀b o,w.imm b=some o→w0.imm b=some o:=fun b o hbo=>by
  show(if _ then _ else _)=_
  split
  ·exact s.imm b o hbo
  ·exact hbo
 have himm:∀b o,w0.imm b=some o→h.get b=some o:=fun b o hbo=>by
  have hbo:(if P b then h.get b else w.imm b)=some o:=hbo
  split at hbo
  ·exact hbo
  ·exact s.imm b o hbo
 have sG:PSt w h (M.set id .gone):=⟨s.imm,fun i e he=>by rw[List.length_set];exact s.env i e he,s.blk,fun i o ho=>by
  by_cases q:i=id
  ·subst q
   rw[List.getElem?_set_self hid]at ho
   cases ho;trivial
  ·rw[List.getElem?_set_ne (fun z=>q z.symm)]at ho
   exact s.obj i o ho,fun i j x h1 h2=>s.inj i j x (hP i x h1).2 (hP j x h2).2,fun i x h1=>s.sep i x (hP i x h1).2,s.base⟩
 have we:w0.env 0=w.env id:=by show(if(0:Nat)=0 then w.env id else none)=_;rw[if_pos rfl]
 have wn:∀i e,w0.env i=some e→i=0∧w.env id=some e:=fun i e he=>by
  have he:(if i=0 then w.env id else none)=some e:=he
  split at he
  ·rename_i q;exact⟨q,he⟩
  ·cases he
 have live:∀i x,LiveAt w0 [.cells g ver cs] i x→i=0∧LiveAt w M id x:=by
  rintro i x ⟨o,e,p1,p2,p3,p4⟩
  obtain⟨rfl,q2⟩:=wn i e p3
  cases p1
  exact⟨rfl,_,e,hM,p2,q2,p4⟩
 have obj0:∀{w:PWd} {w':PWd} {h:H} {i j v:Nat} {c:List PV},w'.n0=w.n0→(∀b o,w.imm b=some o→w'.imm b=some o)→w'.env j=w.env i→q14 0 c=true→RepO w h i (.cells g v c)→RepO w' h j (.cells g v c):=by
  intro w w' h i j v c q0 q1 q2 q3 ⟨e,q4,q5,q6⟩
  refine⟨e,q2.trans q4,q5,?_⟩
  cases hb:e.blk with
  | none=>rw[hb]at q6;exact q6
  | some b=>
   rw[hb]at q6
   obtain⟨bcs,r1,r2⟩:=q6
   exact⟨bcs,r1,r2.low q0 q1 (fun _ hi=>absurd hi (Nat.not_lt_zero _)) q3⟩
 have s0:PSt w0 h [.cells g ver cs]:=by
  refine⟨himm,fun i e he=>by rw[(wn i e he).1];simp,fun i e b he hbl=>s.blk id e b (wn i e he).2 hbl,fun i o ho=>?_,fun i j x h1 h2=>by rw[(live i x h1).1,(live j x h2).1],fun i x h1=>⟨?_,fun q=>(s.sep id x (live i x h1).2).2 ?_⟩,s.base⟩
  ·have hi:=q12 ho
   have:i=0:=by simp at hi;exact hi
   subst this
   cases ho
   exact obj0 (w:=w) (w':=w0) rfl him we hcs (s.obj id _ hM)
  ·show(if P x then h.get x else w.imm x)=none
   rw[if_neg (fun⟨j,hj⟩=>(hP j x hj).1 (s.inj j id x (hP j x hj).2 (live i x h1).2))]
   exact(s.sep id x (live i x h1).2).1
  ·have hi:=(live i x h1).1
   subst hi
   have q:(if w.id0≤id then 0 else 1)≤0:=q
   split at q
   ·assumption
   ·omega
 have a0:RepL w0 (pre++ .ref 0 g sz off n::post2) args':=by
  have low:∀{l:List PV} {l':List AV},q14 0 l=true→RepL w l l'→RepL w0 l l':=fun hu hl=>hl.low (w:=w) (w':=w0) (m:=0) rfl him (fun _ hi=>absurd hi (Nat.not_lt_zero _)) hu
  clear hc
  induction pre generalizing args' with
  | nil=>
   match args',ha with
   | x::l,ha=>
    refine .cons ?_ (bor_rep (w0:=w0) sG rfl him (fun i b hl=>by show(if P b then _ else _)=_;rw[if_pos ⟨i,hl⟩]) hb ha.tl)
    have hv:=ha.hd
    cases hv with
    | ref q1 q2 q3=>exact .ref (we.trans q1) q2 q3
    | refN q1 q2 q3=>exact .refN (we.trans q1) q2 q3
    | refS x q0 q1 q2=>exact .refS x q0 (we.trans q1) q2
   | [],ha=>exact absurd ha.len (by simp)
  | cons y pre ih=>
   match args',ha with
   | x::l,ha=>
    rw[underL_cons,Bool.and_eq_true]at hpre
    refine .cons ?_ (ih hpre.2 l ha.tl)
    exact(low (l:=[y]) (l':=[x]) (by rw[underL_cons,hpre.1];rfl) (.cons ha.hd (.nil w))).hd
   | [],ha=>exact absurd ha.len (by simp)
 refine C_mono (hc w0 h args' (by show(if w.id0≤id then 0 else 1)≤1;split<;>omega) s0 a0) ?_
 rintro v h' ⟨w1,r,M1,p1,p2,p3,k0,ver',cs',l,rfl,k1,k2⟩
 have hPn:∀b,P b→w.imm b=none:=fun b ⟨j,hj⟩=>(s.sep j b (hP j b hj).2).1
 let w2:PWd:={n0:=w.n0,id0:=w.id0,imm:=fun b=>if P b then w.imm b else w1.imm b,env:=fun i=>if i=id then w1.env 0 else w.env i}
 have hn0:w2.n0=w1.n0:=p1.le.n0.symm
 have e1:w2.env id=w1.env 0:=by show(if _ then _ else _)=_;rw[if_pos rfl]
 have e2:∀i,i≠id→w2.env i=w.env i:=fun i hi=>by show(if _ then _ else _)=_;rw[if_neg hi]
 have g1:(M.set id (.cells g ver' cs'))[id]? =some (.cells g ver' cs'):=List.getElem?_set_self hid
 have g2:∀i,i≠id→(M.set id (.cells g ver' cs'))[i]? =M[i]? :=fun i hi=>List.getElem?_set_ne (fun q=>hi q.symm)
 have hl:Le M.length w w2:=by
  refine⟨rfl,rfl,fun b o hbo=>by
   show(if P b then w.imm b else w1.imm b)=_
   split
   ·exact hbo
   ·exact p1.le.imm b o (him b o hbo),fun i hi e he=>?_⟩
  by_cases q:i=id
  ·subst q
   rw[e1]
   exact p1.le.env 0 (by simp) e (we.trans he)
  ·rw[e2 i q];exact⟨e,he,.inr rfl⟩
 have lv1:∀x,LiveAt w2 (M.set id (.cells g ver' cs')) id x→LiveAt w1 (.cells g ver' cs'::l) 0 x:=by
  rintro x ⟨o,e,q1,q2,q3,q4⟩
  rw[g1]at q1;cases q1
  rw[e1]at q3
  exact⟨_,e,rfl,q2,q3,q4⟩
 have lv2:∀i x,i≠id→LiveAt w2 (M.set id (.cells g ver' cs')) i x→LiveAt w M i x:=by
  rintro i x hi ⟨o,e,q1,q2,q3,q4⟩
  rw[g2 i hi]at q1
  rw[e2 i hi]at q3
  exact⟨o,e,q1,q2,q3,q4⟩
 have lv3:∀x,LiveAt w1 (.cells g ver' cs'::l) 0 x→x<h.next→LiveAt w M id x:=fun x hlv hx=>(live 0 x (p1.live 0 x hlv hx)).2
 have hdis:∀j x,j≠id→LiveAt w1 (.cells g ver' cs'::l) 0 x→LiveAt w M j x→False:=fun j x hj h1 h2=>by
  have:=s.inj id j x (lv3 x h1 (h2.next s)) h2
  exact hj this.symm
 have hkeep:∀i x,i≠id→LiveAt w M i x→h'.get x=h.get x:=fun i x hi hlv=>p1.keep x (hlv.next s) fun j hj=>by
  obtain⟨q1,q2⟩:=live j x hj
  exact hi (s.inj i id x hlv q2)
 refine⟨w2,r,M.set id (.cells g ver' cs'),⟨by simp,hl,p1.next,fun x hx hn=>p1.keep x hx fun j hj=>hn id (live j x hj).2,fun i x hlv hx=>?_,fun x hx=>?_⟩,⟨fun b o hbo=>?_,fun i e he=>?_,fun i e b he hbl=>?_,fun i o ho=>?_,fun i j x h1 h2=>?_,fun i x h1=>?_,Nat.le_trans s.base p1.next⟩,flat_rep k0 p3,k2⟩
 ·by_cases q:i=id
  ·subst q;exact lv3 x (lv1 x hlv) hx
  ·exact lv2 i x q hlv
 ·have hx:¬(if P x then w.imm x else w1.imm x)=none:=hx
  split at hx
  ·exact .inl hx
  ·rename_i hnp
   rcases p1.new x hx with e | e | ⟨j,q1,q2⟩
   ·have e:¬(if P x then h.get x else w.imm x)=none:=e
    rw[if_neg hnp]at e
    exact .inl e
   ·exact .inr (.inl e)
   ·have:=(live j x q2).1;simp at q1;omega
 ·have hbo:(if P b then w.imm b else w1.imm b)=some o:=hbo
  split at hbo
  ·rename_i hp;rw[hPn b hp]at hbo;cases hbo
  ·exact p2.imm b o hbo
 ·by_cases q:i=id
  ·subst q;simpa using hid
  ·rw[e2 i q]at he
   have:=s.env i e he
   simpa using this
 ·by_cases q:i=id
  ·subst q;rw[e1]at he;exact p2.blk 0 e b he hbl
  ·rw[e2 i q]at he;exact Nat.lt_of_lt_of_le (s.blk i e b he hbl) p1.next
 ·by_cases q:i=id
  ·subst q
   rw[g1]at ho;cases ho
   obtain⟨e,q4,q5,q6⟩:=p2.obj 0 _ rfl
   refine⟨e,e1.trans q4,q5,?_⟩
   cases hbb:e.blk with
   | none=>rw[hbb]at q6;exact q6
   | some b=>
    rw[hbb]at q6
    obtain⟨bcs,z1,z2⟩:=q6
    exact⟨bcs,z1,z2.len,fun j y z hy hz=>flat1_rep ((List.all_eq_true.1 k1) y (List.mem_of_getElem? hy)) (z2.get j y z hy hz)⟩
  ·rw[g2 i q]at ho
   by_cases hg:o= .gone
   ·subst hg;trivial
   ·exact RepO.mono s hl (s.obj i o ho) (fun e he=>by rw[e2 i q];exact he) fun e b he hbl=>hkeep i b q ⟨o,e,ho,hg,he,hbl⟩
 ·by_cases qi:i=id
  ·by_cases qj:j=id
   ·rw[qi,qj]
   ·subst qi;exact(hdis j x qj (lv1 x h1) (lv2 j x qj h2)).elim
  ·by_cases qj:j=id
   ·subst qj;exact(hdis i x qi (lv1 x h2) (lv2 i x qi h1)).elim
   ·exact s.inj i j x (lv2 i x qi h1) (lv2 j x qj h2)
 ·by_cases q:i=id
  ·subst q
   have hs:=p2.sep 0 x (lv1 x h1)
   refine⟨?_,fun q1=>?_⟩
   ·show(if P x then w.imm x else w1.imm x)=none
    split
    ·exact hPn x (by assumption)
    ·exact hs.1
   have q1:w.id0≤i:=q1
   have h3:=hs.2 (by rw[p1.le.id0];show(if w.id0≤i then 0 else 1)≤0;rw[if_pos q1];exact Nat.le_refl _)
   rwa [p1.le.n0]at h3
  ·have hlv:=lv2 i x q h1
   have hs:=s.sep i x hlv
   refine⟨?_,hs.2⟩
   have hp:P x:=by
    obtain⟨o,e,z1,z2,z3,z4⟩:=hlv
    exact⟨i,o,e,by rw[List.getElem?_set_ne (fun z=>q z.symm)];exact z1,z2,z3,z4⟩
   show(if P x then w.imm x else w1.imm x)=none
   rw[if_pos hp];exact hs.1
end
end Go.Am

