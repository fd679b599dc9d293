/- The pure machine: all objects from some number on are frozen at once, wherever they are named, and what goes with it. -/
import Derived.Test.YtbcdfmecpjbeaaaDoorPmR
set_option linter.unusedVariables false
set_option linter.unusedSimpArgs false
namespace Go.Am
def underE (n:Nat) (es:List (PV×PV)):Bool:=es.all fun p=>p.1.under n&&p.2.under n
theorem RepE.low {w w':PWd} {m:Nat} (h0:w'.n0=w.n0) (hi:∀b o,w.imm b=some o→w'.imm b=some o) (he:∀id,id<m→w'.env id=w.env id) {l:List (PV×PV)} {l':List (AV×AV)} (h:RepE w l l') (hb:underE m l=true):RepE w' l l':=
 ⟨h.len,fun i y z p q=>by
  have hy:=(List.all_eq_true.1 hb) y (List.mem_of_getElem? p)
  rw[Bool.and_eq_true]at hy
  obtain⟨a,b⟩:=h.get i y z p q
  exact⟨a.low h0 hi he hy.1,b.low h0 hi he hy.2⟩⟩
def pfrzO (n:Nat) (M:Mem):PObj→Option PObj
 | .cells g ver cs=>(pfrzL n M cs).map (.cells g ver)
 | .map ver es=>if underE n es=true then some (.map ver es) else none
 | .gone=>some .gone
 | _=>none
def pfrzM (n:Nat) (M:Mem):Mem→Option Mem
 | []=>some []
 | o::l=>match pfrzO n M o,pfrzM n M l with
  | some x,some xs=>some (x::xs)
  | _,_=>none
theorem pfrzM_get {n:Nat} {M:Mem} :∀{l N:Mem},pfrzM n M l=some N→N.length=l.length∧∀(i:Nat) (o:PObj),N[i]? =some o→∃o0,l[i]? =some o0∧pfrzO n M o0=some o
 | [],N,h=>by simp only[pfrzM]at h;cases h;exact⟨rfl,fun i o h=>by simp at h⟩
 | o::l,N,h=>by
  simp only[pfrzM]at h
  split at h
  ·rename_i x xs h1 h2
   cases h
   obtain⟨p,q⟩:=pfrzM_get h2
   refine⟨by simp[p],fun i o' hi=>?_⟩
   cases i with
   | zero=>simp at hi;subst hi;exact⟨o,rfl,h1⟩
   | succ i=>obtain⟨o0,q1,q2⟩:=q i o' (by simpa using hi);exact⟨o0,by simpa using q1,q2⟩
  ·cases h
open Classical in
theorem PSt.cutF {w:PWd} {h:H} {M N:Mem} (s:PSt w h M) {m n:Nat} (h0:w.id0≤n) (hm:n≤M.length) (hN:pfrzM n M (M.take n)=some N):
  PSt (w.cut h n M) h N∧∀m,m≤n→PStp m w h M (w.cut h n M) h N:=by
 obtain⟨hlen,hget⟩:=pfrzM_get hN
 have hlen:N.length=n:=by rw[hlen];simp;omega
 have live:∀{id x:Nat},LiveAt (w.cut h n M) N id x→id<n∧LiveAt w M id x:=by
  rintro id x ⟨o,e,h1,h2,h3,h4⟩
  obtain⟨o0,p1,p2⟩:=hget id o h1
  have hi:id<n:=by have:=q17 h1;omega
  rw[cut_env hi]at h3
  rw[List.getElem?_take,if_pos hi]at p1
  refine⟨hi,o0,e,p1,?_,h3,h4⟩
  rintro rfl
  simp only[pfrzO]at p2
  cases p2
  exact h2 rfl
 refine⟨⟨?_,?_,?_,?_,?_,?_,s.base⟩,fun m hmn=>⟨by omega,⟨rfl,rfl,cut_imm s n,fun id hi e he=>⟨e,by rw[cut_env (by omega)];exact he,.inr rfl⟩⟩,Nat.le_refl _,fun _ _ _=>rfl,fun id x hl _=>(live hl).2,?_⟩⟩
 ·intro b o hbo
  have hbo:(if ∃id,n≤id∧LiveAt w M id b then h.get b else w.imm b)=some o:=hbo
  split at hbo
  ·exact hbo
  ·exact s.imm b o hbo
 ·intro id e he
  have he:(if id<n then w.env id else none)=some e:=he
  split at he
  ·omega
  ·cases he
 ·intro id e b he hbl
  have he:(if id<n then w.env id else none)=some e:=he
  split at he
  ·exact s.blk id e b he hbl
  ·cases he
 ·intro id o ho
  have hi:id<n:=by have:=q17 ho;omega
  obtain⟨o0,p1,p2⟩:=hget id o ho
  rw[List.getElem?_take,if_pos hi]at p1
  have r:=s.obj id o0 p1
  cases o0 with
  | cells g ver cs=>
   simp only[pfrzO]at p2
   cases hq:pfrzL n M cs with
   | none=>rw[hq]at p2;cases p2
   | some cs2=>
    rw[hq]at p2;cases p2
    obtain⟨e,h1,h2,h3⟩:=r
    refine⟨e,by rw[cut_env hi];exact h1,h2,?_⟩
    cases hbl:e.blk with
    | none=>
     rw[hbl]at h3
     have h3:cs=[]:=h3
     subst h3
     simp only[pfrzL]at hq;cases hq;rfl
    | some b=>
     rw[hbl]at h3
     obtain⟨bcs,h4,h5⟩:=h3
     exact⟨bcs,h4,frzL_rep s h0 h5 hq⟩
  | gone=>simp only[pfrzO]at p2;cases p2;trivial
  | map ver es=>
   simp only[pfrzO]at p2
   by_cases hq:underE n es=true
   ·rw[if_pos hq]at p2;cases p2
    obtain⟨e,b,h1,h2,h3,es',h4,h5⟩:=r
    exact⟨e,b,by rw[cut_env hi];exact h1,h2,h3,es',h4,h5.low (w:=w) (w':=w.cut h n M) rfl (cut_imm s n) (fun id hi=>cut_env hi) hq⟩
   ·rw[if_neg hq]at p2;cases p2
  | loop ver r=>simp[pfrzO]at p2
 ·intro i j x h1 h2;exact s.inj i j x (live h1).2 (live h2).2
 ·intro i x h1
  obtain⟨hi,hl⟩:=live h1
  refine⟨?_,(s.sep i x hl).2⟩
  show(if _ then _ else _)=_
  split
  ·rename_i hc
   obtain⟨j,hj,hl2⟩:=hc
   have:=s.inj i j x hl hl2
   omega
  ·exact(s.sep i x hl).1
 ·intro x hx
  have hx:(if ∃id,n≤id∧LiveAt w M id x then h.get x else w.imm x)≠none:=hx
  split at hx
  ·rename_i hc
   obtain⟨id,hid,hl⟩:=hc
   exact .inr (.inr ⟨id,by omega,hl⟩)
  ·exact .inl hx
theorem GStep.cutF {m:Nat} {a b c:List PV} {M N:Mem} (n:Nat) (hn:m≤n) (hl:n≤M.length) (hw:PWeak a b) (ha:pfrzL n M b=some c) (hN:pfrzM n M (M.take n)=some N):GStep m a M c N:=
 ⟨fun hm=>by obtain⟨q,_⟩:=pfrzM_get hN;rw[q];simp;omega,fun w hh a' h0 hm s hr=>by
  obtain⟨s1,s2⟩:=s.cutF (m:=m) (Nat.le_trans h0 hn) hl hN
  exact⟨_,s2 m hn,s1,frzL_rep s (Nat.le_trans h0 hn) (hw.rep hr) ha⟩⟩
section
variable {tab:FuncId→Option AF}
end
theorem pfrz1_bool' (n:Nat) (M:Mem) (b:Bool):q58 n M (.bool b)=some (.bool b):=by simp[q58,PV.under]
theorem pfrz1_ref' {n:Nat} {M:Mem} {id g sz off k ver:Nat} {cs:List PV} (hi:n≤id) (hM:M[id]? =some (.cells g ver cs)) (h1:off+k*sz≤cs.length) (h2:q10 n cs=true):q58 n M (.ref id g sz off k)=some (.sl false true sz k (psub cs off (k*sz))):=by
 unfold q58
 simp only
 rw[if_neg (by omega),hM]
 simp only
 rw[if_pos ⟨trivial,h1,h2⟩]
theorem pfrzL_cons' (n:Nat) (M:Mem) (v:PV) (l:List PV):pfrzL n M (v::l)=oCons (q58 n M v) (pfrzL n M l):=by
 simp only[pfrzL,oCons]
 all_goals (split<;>simp_all)
section
variable {tab:FuncId→Option AF}
end
theorem RepL.wkAt {w:PWd} {v':PV} :∀{a:List PV} {a':List AV} (t:Nat),PvWk (ptget a t) v'→RepL w a a'→RepL w (ptset a t v') a'
 | [],a',t,_,h=>by cases t<;>exact h
 | x::a,[],t,_,h=>absurd h.len (by simp)
 | x::a,y::a',0,hw,h=> .cons (hw w y h.hd) h.tl
 | x::a,y::a',t+1,hw,h=> .cons h.hd (RepL.wkAt (a:=a) t hw h.tl)
theorem GStep.wk {m:Nat} {a b:List PV} {M:Mem} (t:Nat) (v':PV) (h:PvWk (ptget a t) v') (hb:ptset a t v'=b):GStep m a M b M:=by
 subst hb
 exact⟨fun hm=>hm,fun w hh a' h0 hm s ha=>⟨w,PStp.refl hm w hh,s,ha.wkAt t h⟩⟩
def psetAll (a:List PV):List Nat→List PV→List PV
 | t::ts,v::vs=>psetAll (ptset a t v) ts vs
 | _,_=>a
theorem RepL.setAll {w:PWd} :∀(ts:List Nat) {a:List PV} {a':List AV} {vs:List PV} {vs':List AV},RepL w a a'→RepL w vs vs'→RepL w (psetAll a ts vs) (_root_.Go.Am.setAll a' ts vs')
 | [],a,a',vs,vs',h,hv=>by simpa [psetAll,_root_.Go.Am.setAll] using h
 | t::ts,a,a',[],[],h,hv=>by simpa [psetAll,_root_.Go.Am.setAll] using h
 | t::ts,a,a',[],_::_,h,hv=>by have:=hv.len;simp at this
 | t::ts,a,a',_::_,[],h,hv=>by have:=hv.len;simp at this
 | t::ts,a,a',v::vs,x::xs,h,hv=>RepL.setAll ts (h.tset t hv.hd) hv.tl
section
variable {tab:FuncId→Option AF}
end
section
variable {tab:FuncId→Option AF} {m:Nat} {a:List PV} {M:Mem} {Qn Qr:List PV→Mem→Prop} {Qe:Nat→List PV→Mem→Prop}
theorem SemW_seq {x y:AC} (h:SemW tab m x a M (fun b N=>SemW tab m y b N Qn Qr Qe) Qr Qe):SemW tab m (.seq x y) a M Qn Qr Qe:=by
 intro w hh a' h0 hm s ha
 rw[W_seq]
 refine W_mono (h w hh a' h0 hm s ha) (fun a1 h1 hl=>?_) (fun _ _ h=>h) (fun _ _ _ h=>h)
 obtain⟨w1,b,N,t1,s1,r1,q⟩:=hl
 rw[KSeq_eq]
 exact W_mono (q w1 h1 a1 (by rw[t1.le.id0];exact h0) t1.len s1 r1) (fun _ _ h=>h.trans t1) (fun _ _ h=>h.trans t1) (fun _ _ _ h=>h.trans t1)
theorem SemW_of {c:AC} (h:RX tab m c a M Qn Qr Qe):SemW tab m c a M Qn Qr Qe:=RX_sound m c h
theorem SemW_mono {c:AC} {Qn' Qr':List PV→Mem→Prop} {Qe':Nat→List PV→Mem→Prop} (h:SemW tab m c a M Qn Qr Qe) (h1:∀b N,Qn b N→Qn' b N) (h2:∀b N,Qr b N→Qr' b N) (h3:∀i b N,Qe i b N→Qe' i b N):SemW tab m c a M Qn' Qr' Qe':=by
 intro w hh a' h0 hm s ha
 refine W_mono (h w hh a' h0 hm s ha) ?_ ?_ ?_
 ·rintro a1 hh1 ⟨w1,b,N,t1,s1,r1,q⟩;exact⟨w1,b,N,t1,s1,r1,h1 _ _ q⟩
 ·rintro a1 hh1 ⟨w1,b,N,t1,s1,r1,q⟩;exact⟨w1,b,N,t1,s1,r1,h2 _ _ q⟩
 ·rintro i a1 hh1 ⟨w1,b,N,t1,s1,r1,q⟩;exact⟨w1,b,N,t1,s1,r1,h3 _ _ _ q⟩
end
theorem PWeak.refl:∀a:List PV,PWeak a a
 | []=>trivial
 | _::a=>⟨.inr rfl,PWeak.refl a⟩
theorem pfrz1_under {n:Nat} {M:Mem} {v:PV} (h:v.under n=true):q58 n M v=some v:=by
 cases v<;>simp_all [q58,PV.under]
theorem pfrzL_under {n:Nat} {M:Mem} :∀{l:List PV},q10 n l=true→pfrzL n M l=some l
 | [],_=>rfl
 | v::l,h=>by
  have h2:=(underL_iff n (v::l)).1 h
  rw[pfrzL_cons',pfrz1_under (h2 v (by simp)),pfrzL_under ((underL_iff n l).2 fun x hx=>h2 x (by simp[hx]))]
  rfl
def cutOk (n:Nat):PObj→Bool
 | .cells _ _ cs=>q10 n cs
 | .map _ es=>underE n es
 | .gone=>true
 | _=>false
theorem pfrzO_ok {n:Nat} {M:Mem} {o:PObj} (h:cutOk n o=true):pfrzO n M o=some o:=by
 cases o with
 | cells g ver cs=>simp only[cutOk]at h;simp only[pfrzO,pfrzL_under h,Option.map_some]
 | map ver es=>simp only[cutOk]at h;simp only[pfrzO,h,if_true]
 | gone=>rfl
 | loop ver r=>simp[cutOk]at h
theorem pfrzM_cons {n:Nat} {M l xs:Mem} {o x:PObj} (h1:pfrzO n M o=some x) (h2:pfrzM n M l=some xs):pfrzM n M (o::l)=some (x::xs):=by
 simp only[pfrzM,h1,h2]
theorem pfrzM_ok {n:Nat} {M:Mem} :∀{l r xs:Mem},l.all (cutOk n)=true→pfrzM n M r=some xs→pfrzM n M (l++r)=some (l++xs)
 | [],r,xs,_,h=>h
 | o::l,r,xs,ho,h=>by
  simp only[List.all_cons,Bool.and_eq_true]at ho
  exact pfrzM_cons (pfrzO_ok ho.1) (pfrzM_ok ho.2 h)
section
variable {tab:FuncId→Option AF}
theorem SemC_res {g:FuncId} {args:List PV} {M:Mem} {K:PV→Mem→Prop} (h:SemC tab g args M fun r M'=>∃r' N,pfrz M.length M' r=some r'∧pfrzM M.length M' (M'.take M.length)=some N∧K r' N):SemC tab g args M K:=
 fun w hh args' h0 s ha=>C_mono (h w hh args' h0 s ha) fun v h' ⟨w1,r,M1,p1,p2,p3,r',N,q1,q2,q3⟩=>by
  have hid:w1.id0≤M.length:=by rw[p1.le.id0];exact h0
  obtain⟨z1,z2⟩:=p2.cutF (m:=M.length) hid p1.len q2
  exact⟨w1.cut h' M.length M1,r',N,p1.trans (z2 M.length (Nat.le_refl _)) (Nat.le_refl _),z1,frz_rep p2 hid p3 q1,q3⟩
theorem pfrzM_all {n:Nat} {M l:Mem} (h:l.all (cutOk n)=true):pfrzM n M l=some l:=by
 have:=pfrzM_ok (M:=M) (r:=[]) (xs:=[]) h rfl
 simpa using this
end
theorem PFrz.len {id g:Nat} {cs:List PV} :∀{a b:List PV},PFrz id g cs a b→b.length=a.length
 | [],[],_=>rfl
 | _::a,_::b,h=>by simp[PFrz.len h.2]
 | [],_::_,h=>h.elim
 | _::_,[],h=>h.elim
section
variable {tab:FuncId→Option AF}
theorem SemC_pureS {g:FuncId} {F:AFn} (hg:tab g=some (.fn F)) {args:List PV} {M:Mem} {K:PV→Mem→Prop} (hb:q10 0 args=true)
  (hp:SemW tab 0 F.body (ppad args F.ntmps) [] (PKPure F.results fun r=>K r M) (PKPure F.results fun r=>K r M) PKNo):SemC tab g args M K:=by
 refine SemC_frame hb (SemC_sem hg (SemW_mono hp (fun b N q=>?_) (fun b N q=>?_) fun i b N q=>?_))
 ·unfold PKPure at q;exact q
 ·unfold PKPure at q;exact q
 ·unfold PKNo at q;exact q
end
def ZMp (o:Option PObj) (k:Nat→List (PV×PV)→Prop) (t:KTag k):Prop:=QMp o k
def ZLook (kd:Nat) (ok:Bool) (z x i:PV) (M:Mem) (K:PV→Mem→List Nat→List Nat→Prop) (t:KTag K):Prop:=QLook kd ok z x i M K
def ZMapU (kd:Nat) (m i v:PV) (M:Mem) (K:PV→Mem→List Nat→List Nat→Prop) (t:KTag K):Prop:=QMapU kd m i v M K
theorem q62 (ver:Nat) (es:List (PV×PV)) (k:Nat→List (PV×PV)→Prop) (t:KTag k):ZMp (some (.map ver es)) k t=k ver es:=by
 apply propext
 constructor
 ·rintro⟨_,_,e,h⟩;cases e;exact h
 ·intro h;exact⟨_,_,rfl,h⟩
section
variable (tab:FuncId→Option AF) (a:List PV) (M:Mem) (K:PV→Mem→List Nat→List Nat→Prop)
theorem q29:RS tab .makeMap a M K=K (.map M.length) (M++[.map 0 []]) [] []:=by delta RS;rfl
theorem q36 (kd:Nat) (ok:Bool) (z:AV) (x i:AR):RS tab (.lookup kd ok z x i) a M K=ZLook kd ok (q38 z) (pev a x) (pev a i) M K ⟨0⟩:=by delta RS;rfl
theorem q16 (kd:Nat) (m i v:AR):RS tab (.mapUpdate kd m i v) a M K=ZMapU kd (pev a m) (pev a i) (pev a v) M K ⟨0⟩:=by delta RS;rfl
end
theorem q43 (z v:PV):plook true z (some v)= .tuple [v,.bool true]:=(rfl)
theorem q44 (z v:PV):plook false z (some v)=v:=(rfl)
theorem q45 (z:PV):plook true z none= .tuple [z,.bool false]:=(rfl)
theorem q46 (z:PV):plook false z none=z:=(rfl)
attribute [irreducible] ZMp ZLook ZMapU
def PFrzP (id g:Nat) (cs:List PV):List PV→List PV→Prop
 | [],[]=>True
 | x::a,y::b=>(y= .junk∨x=y∨∃o,x= .ptr id g o∧y= .cp cs o)∧PFrzP id g cs a b
 | _,_=>False
theorem PFrzP_nil (id g:Nat) (cs:List PV):PFrzP id g cs [] []=True:=(rfl)
theorem PFrzP_junk (id g:Nat) (cs:List PV) (x:PV) (a b:List PV):PFrzP id g cs (x::a) (.junk::b)=PFrzP id g cs a b:=by simp[PFrzP]
theorem PFrzP_same (id g:Nat) (cs:List PV) (x:PV) (a b:List PV):PFrzP id g cs (x::a) (x::b)=PFrzP id g cs a b:=by simp[PFrzP]
theorem PFrzP_ptr (id g o:Nat) (cs:List PV) (a b:List PV):PFrzP id g cs (.ptr id g o::a) (.cp cs o::b)=PFrzP id g cs a b:=by
 simp[PFrzP]
theorem PSt.freezeP {w:PWd} {h:H} {M:Mem} (s:PSt w h M) {id g ver:Nat} {cs:List PV} (hm:M[id]? =some (.cells g ver cs)) (h0:w.id0≤id):
  ∃w',PSt w' h (M.set id .gone)∧(∀m,m≤id→PStp m w h M w' h (M.set id .gone))∧Le M.length w w'∧∀o x,RepV w (.ptr id g o) x→RepV w' (.cp cs o) x:=by
 obtain⟨e,h1,h2,h3⟩:=s.cellsAt hm
 have hid:=q17 hm
 rcases h3 with⟨hb,rfl⟩ | ⟨b,bcs,hb,hg,hr,hlv⟩
 ·have live:∀i x,LiveAt w (M.set id .gone) i x→LiveAt w M i x:=by
   rintro i x ⟨ob,e',p1,p2,p3,p4⟩
   by_cases hi:id=i
   ·subst hi;rw[List.getElem?_set_self hid]at p1;cases p1;exact absurd rfl p2
   ·rw[List.getElem?_set_ne hi]at p1;exact⟨ob,e',p1,p2,p3,p4⟩
  refine⟨w,⟨s.imm,fun i e' he=>by simpa using s.env i e' he,s.blk,?_,fun i j x q1 q2=>s.inj i j x (live i x q1) (live j x q2),fun i x q1=>s.sep i x (live i x q1),s.base⟩,fun m hmm=>⟨by simp;omega,Le.refl _ _,Nat.le_refl _,fun _ _ _=>rfl,fun i x q1 _=>live i x q1,fun x hx=> .inl hx⟩,Le.refl _ _,?_⟩
  ·intro i ob hi
   by_cases hid2:id=i
   ·subst hid2;rw[List.getElem?_set_self hid]at hi;cases hi;trivial
   ·rw[List.getElem?_set_ne hid2]at hi;exact s.obj i ob hi
  ·intro o x hx
   cases hx with
   | ptr q1 q2 q3=>rw[h1]at q1;cases q1;rw[hb]at q3;cases q3
   | ptrS x q0 q1 q2=>rw[h1]at q1;cases q1;omega
 ·let w':=w.withImm b (.cells (e.v0+ver) true bcs)
  have hsep:=s.sep id b hlv
  have hl:Le M.length w w':=le_withImm hsep.1
  have him:∀x,x≠b→w'.imm x=w.imm x:=fun x hx=>by show(if _=_ then _ else _)=_;rw[if_neg hx]
  have hnew:w'.imm b=some (.cells (e.v0+ver) true bcs):=by show(if _=_ then _ else _)=_;rw[if_pos rfl]
  have live:∀i x,LiveAt w' (M.set id .gone) i x→i≠id∧LiveAt w M i x:=by
   rintro i x ⟨ob,e',p1,p2,p3,p4⟩
   by_cases hi:id=i
   ·subst hi;rw[List.getElem?_set_self hid]at p1;cases p1;exact absurd rfl p2
   ·rw[List.getElem?_set_ne hi]at p1;exact⟨fun q=>hi q.symm,ob,e',p1,p2,p3,p4⟩
  refine⟨w',⟨?_,fun i e' he=>by simpa using s.env i e' he,s.blk,?_,fun i j x q1 q2=>s.inj i j x (live i x q1).2 (live j x q2).2,?_,s.base⟩,fun m hmm=>⟨by simp;omega,⟨hl.n0,hl.id0,hl.imm,fun i hi=>hl.env i (by omega)⟩,Nat.le_refl _,fun _ _ _=>rfl,fun i x q1 _=>(live i x q1).2,?_⟩,hl,?_⟩
  ·intro x o hx
   by_cases e1:x=b
   ·subst e1;rw[hnew]at hx;cases hx;exact hg
   ·rw[him x e1]at hx;exact s.imm x o hx
  ·intro i ob hi
   by_cases hid2:id=i
   ·subst hid2;rw[List.getElem?_set_self hid]at hi;cases hi;trivial
   ·rw[List.getElem?_set_ne hid2]at hi
    exact RepO.mono s hl (s.obj i ob hi) (fun e' he=>he) (fun _ _ _ _=>rfl)
  ·intro i x q1
   obtain⟨hne,q2⟩:=live i x q1
   have:x≠b:=by rintro rfl;exact hne (s.inj i id x q2 hlv)
   exact⟨by rw[him x this];exact(s.sep i x q2).1,(s.sep i x q2).2⟩
  ·intro x hx
   by_cases e1:x=b
   ·subst e1;exact .inr (.inr ⟨id,hmm,hlv⟩)
   ·rw[him x e1]at hx;exact .inl hx
  ·intro o x hx
   cases hx with
   | ptr q1 q2 q3=>
    rw[h1]at q1;cases q1
    rw[hb]at q3;cases q3
    have hs:=hr.mono hl s.env
    have:=RepV.cp (o:=o) (off:=0) hnew (by rw[hr.len];omega) (fun i y z hy hz=>hs.get i y z hy (by simpa using hz))
    simpa using this
   | ptrS x q0 q1 q2=>rw[h1]at q1;cases q1;omega
theorem PFrzP.rep {w w':PWd} {M:Mem} {id g:Nat} {cs:List PV} (hl:Le M.length w w') (hd:∀i e,w.env i=some e→i<M.length) (hf:∀o x,RepV w (.ptr id g o) x→RepV w' (.cp cs o) x):
  ∀{a b:List PV} {a':List AV},PFrzP id g cs a b→RepL w a a'→RepL w' b a'
 | [],[],a',_,h=>⟨h.len,fun i y z q=>by simp at q⟩
 | x::a,y::b,[],_,h=>by have:=h.len;simp at this
 | x::a,y::b,v::a',⟨h1,h2⟩,h=>by
  refine .cons ?_ (PFrzP.rep hl hd hf h2 h.tl)
  rcases h1 with rfl | rfl | ⟨o,rfl,rfl⟩
  ·exact .junk _
  ·exact h.hd.mono hl hd
  ·exact hf o v h.hd
 | [],_::_,a',hw,h=>hw.elim
 | _::_,[],a',hw,h=>hw.elim
theorem GStep.freezeP {m:Nat} {a b:List PV} {M N:Mem} (id:Nat) {g ver:Nat} {cs:List PV} (hid:m≤id) (hM:M[id]? =some (.cells g ver cs)) (hf:PFrzP id g cs a b) (hN:M.set id .gone=N):GStep m a M b N:=by
 subst hN
 refine⟨fun hm=>by simpa using hm,fun w hh a' h0 hm s ha=>?_⟩
 obtain⟨w',s1,s2,hl,hr⟩:=s.freezeP hM (Nat.le_trans h0 hid)
 exact⟨w',s2 m hid,s1,hf.rep hl s.env hr ha⟩
def ZStr (v:PV) (k:ByteArray→Prop) (t:KTag k):Prop:=∃s,v= .str s∧k s
theorem q48 (s:ByteArray) (k:ByteArray→Prop) (t:KTag k):ZStr (.str s) k t=k s:=by simp[ZStr]
section
variable (tab:FuncId→Option AF) (a:List PV) (M:Mem) (K:PV→Mem→List Nat→List Nat→Prop)
theorem q21 (x i:AR):RS tab (.indexStr x i) a M K=ZStr (pev a x) (fun s=>ZInt (pev a i) (fun _ k=>0≤k∧ZSome s[k.toNat]? (fun c=>K (.int .u8 c.toNat) M [] []) ⟨0⟩) ⟨0⟩) ⟨0⟩:=by delta RS ZStr ZInt ZSome;rfl
end
attribute [irreducible] ZStr
section
variable {tab:FuncId→Option AF}
end
def ZSlA (len size:Nat) (x:PV) (l r:Option Int) (M:Mem) (k:PV→List Nat→Prop) (t:KTag k):Prop:=QSlA len size x l r M k
def ZB2S (x:PV) (M:Mem) (k:PV→List Nat→Prop) (t:KTag k):Prop:=QB2S x M k
def ZLenM (x:PV) (M:Mem) (k:PV→List Nat→Prop) (t:KTag k):Prop:=QLenM x M k
theorem q49 (len size id g o:Nat) (l r:Option Int) (M:Mem) (k:PV→List Nat→Prop) (t:KTag k):
  ZSlA len size (.ptr id g o) l r M k t=ZOb M[id]? g (fun _ cs=>(o+len*size≤cs.length∧0≤l.getD 0∧l.getD 0≤r.getD len∧r.getD len≤len)∧k (.ref id g size (o+(l.getD 0).toNat*size) (r.getD len-l.getD 0).toNat) [id]) ⟨0⟩:=by unfold ZOb;rfl
theorem q35 (M:Mem) (k:PV→List Nat→Prop) (t:KTag k):ZB2S .nils M k t=k (.str ⟨#[]⟩) []:=(rfl)
theorem q63 (fl own:Bool) (sz n:Nat) (cs:List PV) (M:Mem) (k:PV→List Nat→Prop) (t:KTag k):ZB2S (.sl fl own sz n cs) M k t=(sz=1∧ZSome (pstrB cs) (fun s=>k (.str ⟨s.toArray⟩) []) ⟨0⟩):=by unfold ZSome;rfl
theorem q50 (id g sz off n:Nat) (M:Mem) (k:PV→List Nat→Prop) (t:KTag k):ZB2S (.ref id g sz off n) M k t=ZOb M[id]? g (fun _ cs=>(sz=1∧off+n≤cs.length)∧ZSome (pstrB (psub cs off n)) (fun s=>k (.str ⟨s.toArray⟩) [id]) ⟨0⟩) ⟨0⟩:=by unfold ZOb ZSome;rfl
theorem q34 (id:Nat) (M:Mem) (k:PV→List Nat→Prop) (t:KTag k):ZLenM (.map id) M k t=ZMp M[id]? (fun _ es=>k (p64 es.length) [id]) ⟨0⟩:=by unfold ZMp;rfl
section
variable (tab:FuncId→Option AF) (a:List PV) (M:Mem) (K:PV→Mem→List Nat→List Nat→Prop)
theorem q19 (x:AR) (lo hi:Option AR):RS tab (.sliceStr x lo hi) a M K=ZStr (pev a x) (fun s=>ZBnd a lo (fun l=>ZBnd a hi (fun r=>(0≤l.getD 0∧l.getD 0≤r.getD s.size∧r.getD s.size≤s.size)∧K (.str (s.extract (l.getD 0).toNat (r.getD s.size).toNat)) M [] []) ⟨0⟩) ⟨0⟩) ⟨0⟩:=by delta RS ZStr ZBnd;rfl
theorem q20 (len size:Nat) (x:AR) (lo hi:Option AR):RS tab (.sliceArr len size x lo hi) a M K=ZBnd a lo (fun l=>ZBnd a hi (fun r=>ZSlA len size (pev a x) l r M (fun v rd=>K v M rd []) ⟨0⟩) ⟨0⟩) ⟨0⟩:=by delta RS ZBnd;rfl
theorem q13 (x:AR):RS tab (.bytesToStr x) a M K=ZB2S (pev a x) M (fun v rd=>K v M rd []) ⟨0⟩:=by delta RS;rfl
theorem q37 (x:AR):RS tab (.lenMap x) a M K=ZLenM (pev a x) M (fun v rd=>K v M rd []) ⟨0⟩:=by delta RS;rfl
end
theorem q28 (kd:Nat) (ok:Bool) (z:PV) (id:Nat) (s:ByteArray) (M:Mem) (K:PV→Mem→List Nat→List Nat→Prop) (t:KTag K):
  ZLook kd ok z (.map id) (.str s) M K t=ZMp M[id]? (fun _ es=>ZSome (pmapFind kd (.str s) es) (fun r=>K (plook ok z r) M [id] []) ⟨0⟩) ⟨0⟩:=by unfold ZMp ZLook;delta ZSome;rfl
theorem q27 (kd:Nat) (id:Nat) (s:ByteArray) (v:PV) (M:Mem) (K:PV→Mem→List Nat→List Nat→Prop) (t:KTag K):
  ZMapU kd (.map id) (.str s) v M K t=ZMp M[id]? (fun ver es=>ZSome (pmapFind kd (.str s) es) (fun _=>v.one=true∧K (.tuple []) (M.set id (.map (ver+1) (pmapPut kd (.str s) (.str s) v es))) [] [id]) ⟨0⟩) ⟨0⟩:=by unfold ZMp ZMapU;delta ZSome;rfl
theorem ba_beq (a b:ByteArray):(a==b)=decide (a=b):=by
 cases a with | mk x=>cases b with | mk y=>
 show(x==y)=_
 by_cases h:x=y
 ·subst h;simp
 ·simp[h]
def smE (l:List (ByteArray×PV)):List (PV×PV):=l.map fun p=>(PV.str p.1,p.2)
def slook (k:ByteArray):List (ByteArray×PV)→Option PV
 | []=>none
 | p::l=>if k=p.1 then some p.2 else slook k l
theorem q41 (l:List (ByteArray×PV)):(smE l).length=l.length:=List.length_map _
theorem q40 (k:ByteArray):∀l:List (ByteArray×PV),pmapFind 2 (.str k) (smE l)=some (slook k l)
 | []=>rfl
 | p::l=>by
  show(match some (k==p.1) with | some true=>some (some _) | some false=>pmapFind 2 (.str k) (smE l) | none=>none)=_
  unfold slook
  by_cases e:k=p.1
  ·rw[if_pos e,show(k==p.1)=true by rw[ba_beq];simp[e]]
  ·rw[if_neg e,show(k==p.1)=false by rw[ba_beq];simp[e]]
   exact q40 k l
theorem smE_put (k:ByteArray) (v:PV):∀l:List (ByteArray×PV),slook k l=none→pmapPut 2 (.str k) (.str k) v (smE l)=smE (l++[(k,v)])
 | [],_=>rfl
 | p::l,h=>by
  unfold slook at h
  by_cases e:k=p.1
  ·rw[if_pos e]at h;cases h
  ·rw[if_neg e]at h
   show(match some (k==p.1) with | some true=>_ | _=>_::pmapPut 2 (.str k) (.str k) v (smE l))=_
   rw[show(k==p.1)=false by rw[ba_beq];simp[e],smE_put k v l h]
   rfl
theorem q47 (n:Nat) (M:Mem) (s:ByteArray):pfrz n M (.str s)=some (.str s):=rfl
theorem q33 (m:Nat) (s:ByteArray):PV.under m (.str s)=true:=by simp[PV.under]
theorem q59 (s:ByteArray):PV.one (.str s)=true:=rfl
theorem q25 (s:ByteArray):q54 (.str s)=[.str s]:=rfl
theorem q60 (i:Nat):PV.one (.map i)=true:=rfl
theorem q26 (i:Nat):q54 (.map i)=[.map i]:=rfl
theorem q15 (kd:Nat) (k:AV):pmapFind kd k []=some none:=rfl
theorem q18 (kd:Nat) (key:PV) (k:AV) (v:PV):pmapPut kd key k v []=[(key,v)]:=rfl
attribute [irreducible] ZSlA ZB2S ZLenM
mutual
theorem under_mono {m n:Nat} (h:m≤n):∀v:PV,v.under m=true→v.under n=true
 | .ptr id g o,q=>by simp only[PV.under,decide_eq_true_eq]at q ⊢;omega
 | .ref id g sz off k,q=>by simp only[PV.under,decide_eq_true_eq]at q ⊢;omega
 | .map id,q=>by simp only[PV.under,decide_eq_true_eq]at q ⊢;omega
 | .yld id f,q=>by
  simp only[PV.under,Bool.and_eq_true,decide_eq_true_eq]at q ⊢
  exact⟨by omega,q67 h f q.2⟩
 | .cp cs o,q=>by simp only[PV.under]at q ⊢;exact q67 h cs q
 | .sl a b c d cs,q=>by simp only[PV.under]at q ⊢;exact q67 h cs q
 | .func fn f c,q=>by
  simp only[PV.under,Bool.and_eq_true]at q ⊢
  exact⟨q67 h f q.1,q67 h c q.2⟩
 | .iface t v,q=>by simp only[PV.under]at q ⊢;exact under_mono h v q
 | .agg cs,q=>by simp only[PV.under]at q ⊢;exact q67 h cs q
 | .tuple cs,q=>by simp only[PV.under]at q ⊢;exact q67 h cs q
 | .junk,_=>by simp[PV.under]
 | .bool _,_=>by simp[PV.under]
 | .int _ _,_=>by simp[PV.under]
 | .str _,_=>by simp[PV.under]
 | .nilptr,_=>by simp[PV.under]
 | .nils,_=>by simp[PV.under]
 | .nilmap,_=>by simp[PV.under]
 | .nilfunc,_=>by simp[PV.under]
 | .niliface,_=>by simp[PV.under]
theorem q67 {m n:Nat} (h:m≤n):∀l:List PV,q10 m l=true→q10 n l=true
 | [],_=>by simp[q10]
 | v::l,q=>by
  simp only[q10,Bool.and_eq_true]at q ⊢
  exact⟨under_mono h v q.1,q67 h l q.2⟩
end
theorem cutOk_mono {m n:Nat} (h:m≤n) {o:PObj} (q:cutOk m o=true):cutOk n o=true:=by
 cases o with
 | cells g ver cs=>exact q67 h cs q
 | map ver es=>
  refine List.all_eq_true.2 fun p hp=>?_
  have:=(List.all_eq_true.1 q) p hp
  simp only[Bool.and_eq_true]at this ⊢
  exact⟨under_mono h _ this.1,under_mono h _ this.2⟩
 | gone=>rfl
 | loop ver r=>cases q
theorem cutOks_mono {m n:Nat} (h:m≤n) {l:Mem} (q:l.all (cutOk m)=true):l.all (cutOk n)=true:=
 List.all_eq_true.2 fun o ho=>cutOk_mono h ((List.all_eq_true.1 q) o ho)
theorem GStep.dropM {m:Nat} {a b:List PV} {M N:Mem} (n:Nat) (hn:m≤n) (hl:n≤M.length) (hw:PWeak a b) (ha:q10 n b=true) (hM:(M.take n).all (cutOk n)=true) (hN:M.take n=N):GStep m a M b N:=by
 subst hN
 exact GStep.cutF n hn hl hw (pfrzL_under ha) (pfrzM_all hM)
theorem smE_cut {n:Nat} {l:List (ByteArray×PV)} (h:∀p∈l,p.2.under n=true) (ver:Nat):cutOk n (.map ver (l.map fun p=>(PV.str p.1,p.2)))=true:=by
 refine List.all_eq_true.2 fun p hp=>?_
 obtain⟨q,hq,rfl⟩:=List.mem_map.1 hp
 simp only[Bool.and_eq_true]
 exact⟨by simp[PV.under],h q hq⟩
section
variable {tab:FuncId→Option AF}
def RH (tab:FuncId→Option AF) (j:Nat):List AOper→Nat→List PV→Mem→List PLog→(List PV→Mem→Prop)→Prop
 | [],_,_,_,_,_=>False
 | ⟨d,o,none,chk⟩::os,i,a,M,log,Q=>
  if i=j then ∃size len z ps cs,o= .buildSlice size len z ps∧pfill a (prepl len (z.map q38)) ps=some cs∧chk=[]∧RD tab os (i+1) (pput a d (.ref M.length 0 size 0 len)) (M++[.cells 0 0 cs]) (⟨i,[],[],M,M.length+1⟩::log) Q
  else RS tab o a M fun v M' rd chg=>pchk o.effect rd chg M log chk=true∧RH tab j os (i+1) (pput a d v) M' (⟨i,rd,chg,M,M'.length⟩::log) Q
 | ⟨_,_,some _,_⟩::_,_,_,_,_,_=>False
def KH (tab:FuncId→Option AF) (j:Nat) (d:Option Nat) (eff:Bool) (chk:List Nat) (os:List AOper) (i:Nat) (a:List PV) (M:Mem) (log:List PLog) (Q:List PV→Mem→Prop) (v:PV) (M':Mem) (rd chg:List Nat):Prop:=
 pchk eff rd chg M log chk=true∧RH tab j os (i+1) (pput a d v) M' (⟨i,rd,chg,M,M'.length⟩::log) Q
theorem KH_eq (j:Nat) (d:Option Nat) (eff:Bool) (chk:List Nat) (os:List AOper) (i:Nat) (a:List PV) (M:Mem) (log:List PLog) (Q:List PV→Mem→Prop) (v:PV) (M':Mem) (rd chg:List Nat):
  KH tab j d eff chk os i a M log Q v M' rd chg=(pchk eff rd chg M log chk=true∧RH tab j os (i+1) (pput a d v) M' (⟨i,rd,chg,M,M'.length⟩::log) Q):=(rfl)
theorem RH_go (j i:Nat) (hij:¬i=j) (d:Option Nat) (o:AO) (chk:List Nat) (os:List AOper) (a:List PV) (M:Mem) (log:List PLog) (Q:List PV→Mem→Prop):
  RH tab j (⟨d,o,none,chk⟩::os) i a M log Q=RS tab o a M (KH tab j d o.effect chk os i a M log Q):=by
 show(if i=j then _ else _)=_
 rw[if_neg hij];rfl
theorem RH_lit (j:Nat) (d:Option Nat) (size len:Nat) (z:List AV) (ps:List (Nat×Nat×AR)) (os:List AOper) (a:List PV) (M:Mem) (log:List PLog) (Q:List PV→Mem→Prop):
  RH tab j (⟨d,.buildSlice size len z ps,none,[]⟩::os) j a M log Q=∃cs,pfill a (prepl len (z.map q38)) ps=some cs∧RD tab os (j+1) (pput a d (.ref M.length 0 size 0 len)) (M++[.cells 0 0 cs]) (⟨j,[],[],M,M.length+1⟩::log) Q:=by
 show(if j=j then _ else _)=_
 rw[if_pos rfl]
 apply propext
 constructor
 ·rintro⟨_,_,_,_,cs,e,h1,_,h2⟩
  cases e
  exact⟨cs,h1,h2⟩
 ·rintro⟨cs,h1,h2⟩
  exact⟨_,_,_,_,cs,rfl,h1,rfl,h2⟩
theorem RH_sound (j:Nat):∀(os:List AOper) (i:Nat) {w:PWd} {h:H} {M:Mem} {a:List PV} {a':List AV} {log:List LogE} {plog:List PLog} {Q:List PV→Mem→Prop},w.id0≤M.length→PSt w h M→RepL w a a'→LogsOk w h M log plog→RH tab j os i a M plog Q→
  ∃a2' h2,aopsD (lim tab) os i a' h log=some (a2',h2)∧∃w2 a2 M2,PStp M.length w h M w2 h2 M2∧PSt w2 h2 M2∧RepL w2 a2 a2'∧Q a2 M2
 | [],i,w,h,M,a,a',log,plog,Q,h0,s,ha,hl,hp=>hp.elim
 | ⟨d,o,some (t,want),chk⟩::os,i,w,h,M,a,a',log,plog,Q,h0,s,ha,hl,hp=>hp.elim
 | ⟨d,o,none,chk⟩::os,i,w,h,M,a,a',log,plog,Q,h0,s,ha,hl,hp=>by
  have hp:(if i=j then _ else _):=hp
  by_cases e:i=j
  ·rw[if_pos e]at hp
   obtain⟨size,len,z,ps,cs,rfl,q1,rfl,q2⟩:=hp
   delta RD at q2
   obtain⟨cs',f1,f2⟩:=rep_fill ha ps (rep_repl (repL_ofAV1 w z) len) q1
   obtain⟨s2,t2⟩:=s.alloc (o:= .cells 0 0 cs) (o':= .cells 0 true cs') (e:=⟨some h.next,0,0⟩) rfl (fun w' hl he=>⟨_,he,rfl,_,H.get_alloc_new _ _,f2.mono hl s.env⟩)
   have hv:RepV (w.withEnv M.length ⟨some h.next,0,0⟩) (.ref M.length 0 size 0 len) (.slice true size h.next 0 len):= .ref (e:=⟨some h.next,0,0⟩) (by show(if _=_ then _ else _)=_;rw[if_pos rfl]) rfl rfl
   have hc:=chk_sound s s2 t2 (rd0:=[]) (prd:=[]) (chg:=[]) (fun x hx=>by cases hx) (ChgOk.app M _ _) hl (eff:=AO.effect (.buildSlice size len z ps)) (chk:=[]) (by simp[pchk])
   have hlog:LogsOk (w.withEnv M.length ⟨some h.next,0,0⟩) (h.alloc (.cells 0 true cs')) (M++[.cells 0 0 cs]) (⟨i,rdx h (h.alloc (.cells 0 true cs')) [],h,h.alloc (.cells 0 true cs')⟩::log) (⟨i,[],[],M,(M++[PObj.cells 0 0 cs]).length⟩::plog):=by
    refine .cons ⟨rfl,w,_,_,s,s2,t2,PStp.refl (Nat.le_refl _) _ _,ChgOk.app M _ _,rfl,fun x hx=>?_⟩ (hl.mono t2)
    simp only at hx ⊢
    unfold rdx at hx
    split at hx
    ·rename_i hlt
     rcases List.mem_cons.1 hx with rfl | hx
     ·exact .inl ⟨rfl,hlt⟩
     ·cases hx
    ·cases hx
   obtain⟨a2',h2,e2,w2,a2,M2,t3,s3,r3,q3⟩:=PD_sound os (i+1) (by rw[t2.le.id0];exact Nat.le_trans h0 t2.len) s2 ((ha.mono t2.le s.env).put d hv) hlog (by simpa using q2)
   refine⟨a2',h2,?_,w2,a2,M2,t2.trans t3 t2.len,s3,r3,q3⟩
   simp only[aopsD,q52,astep,aop,f1]
   rw[if_pos hc]
   exact e2
  ·rw[if_neg e]at hp
   delta RS at hp
   obtain⟨v,h1,rd,e1,w1,p,M1,prd,chg,s1,s2,hr,hrd,hchg,hck,hk⟩:=PS_sound h0 s ha o hp
   have hc:=chk_sound s s2 s1 hrd hchg hl hck
   have hlog:LogsOk w1 h1 M1 (⟨i,rdx h h1 rd,h,h1⟩::log) (⟨i,prd,chg,M,M1.length⟩::plog):=by
    refine .cons ⟨rfl,w,w1,M1,s,s2,s1,PStp.refl (Nat.le_refl _) w1 h1,hchg,rfl,fun x hx=>?_⟩ (hl.mono s1)
    simp only at hx ⊢
    unfold rdx at hx
    split at hx
    ·rename_i hlt
     rcases List.mem_cons.1 hx with rfl | hx
     ·exact .inl ⟨rfl,hlt⟩
     ·exact .inr (hrd x hx)
    ·exact .inr (hrd x hx)
   obtain⟨a2',h2,e2,w2,a2,M2,t1,t2,t3,t4⟩:=RH_sound j os (i+1) (by rw[s1.le.id0];exact Nat.le_trans h0 s1.len) s2 ((ha.mono s1.le s.env).put d hr) hlog hk
   refine⟨a2',h2,?_,w2,a2,M2,s1.trans t1 s1.len,t2,t3,t4⟩
   simp only[aopsD,q52,e1]
   rw[if_pos hc]
   exact e2
theorem SemW_litD {m:Nat} {a:List PV} {M:Mem} {Qn Qr:List PV→Mem→Prop} {Qe:Nat→List PV→Mem→Prop} {os:List AOper} (j:Nat) (h:RH tab j os 0 a M [] Qn):SemW tab m (.regionD os) a M Qn Qr Qe:=by
 intro w hh a' h0 hm s ha
 rw[W_regionD]
 obtain⟨a2',h2,e2,w2,a2,M2,t1,t2,t3,t4⟩:=RH_sound j os 0 (Nat.le_trans h0 hm) s ha .nil h
 unfold WD
 exact⟨a2',h2,e2,w2,a2,M2,t1.weaken hm,t2,t3,t4⟩
end
attribute [irreducible] RH KH
end Go.Am

