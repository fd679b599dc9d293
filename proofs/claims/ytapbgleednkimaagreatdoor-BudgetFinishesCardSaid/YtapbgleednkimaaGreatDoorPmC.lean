/- The pure machine: all objects from some number on are frozen at once, wherever they are named, and what goes with it. -/
import Derived.Test.YtapbgleednkimaaGreatDoorPmR
import Derived.Test.YtapbgleednkimaaGreatDoorPmL
set_option linter.unusedVariables false
set_option linter.unusedSimpArgs false
namespace Go.Am
def C8(n:Nat)(es:List (PV×PV)):Bool:=es.all fun p=>p.1.under n&&p.2.under n
theorem RepE.low{w w':PWd}{m:Nat}(h0:w'.n0=w.n0)(hi:∀b o,w.imm b=some o->w'.imm b=some o)(he:∀id,id<m->w'.env id=w.env id){l:List (PV×PV)}{l':List (AV×AV)}(h:RepE w l l')(hb:C8 m l=true):RepE w' l l':=
 ⟨h.len,fun i y z p q=>by have hy:=(List.all_eq_true.1 hb) y (List.mem_of_getElem? p);rw[Bool.and_eq_true]at hy;obtain⟨a,b⟩:=h.get i y z p q;exact⟨a.low h0 hi he hy.1,b.low h0 hi he hy.2⟩⟩
def nM(n:Nat)(M:Mem):PObj->Option PObj
 | .cells g ver cs=>(dZ n M cs).map (.cells g ver)
 | .map ver es=>if C8 n es=true then some (.map ver es)else none
 | .gone=>some .gone
 | _=>none
def kC(n:Nat)(M:Mem):Mem->Option Mem
 | []=>some []
 | o::l=>match nM n M o,kC n M l with
  | some x,some xs=>some (x::xs)
  | _,_=>none
theorem tA{n:Nat}{M:Mem} :∀{l N:Mem},kC n M l=some N->N.length=l.length/\∀(i:Nat) (o:PObj),N[i]? =some o->∃o0,l[i]? =some o0/\nM n M o0=some o
 | [],N,h=>by simp only[kC]at h;cases h;exact⟨rfl,fun i o h=>by simp at h⟩
 | o::l,N,h=>by
  simp only[kC]at h;split at h
  ·rename_i x xs h1 h2;cases h;obtain⟨p,q⟩:=tA h2;refine⟨by simp[p],fun i o' hi=>?_⟩
   cases i with
   | zero=>simp at hi;subst hi;exact⟨o,rfl,h1⟩
   | succ i=>obtain⟨o0,q1,q2⟩:=q i o' (by simpa using hi);exact⟨o0,by simpa using q1,q2⟩
  ·cases h
open Classical in
theorem PSt.cutF{w:PWd}{h:H}{M N:Mem}(s:PSt w h M){m n:Nat}(h0:w.id0<=n)(hm:n<=M.length)(hN:kC n M (M.take n)=some N):
  PSt (w.cut h n M) h N/\∀m,m<=n->PStp m w h M (w.cut h n M) h N:=by
 obtain⟨hlen,hget⟩:=tA hN;have hlen:N.length=n:=by rw[hlen];simp;omega
 have live:∀{id x:Nat},LiveAt (w.cut h n M) N id x->id<n/\LiveAt w M id x:=by
  rintro id x ⟨o,e,h1,h2,h3,h4⟩;obtain⟨o0,p1,p2⟩:=hget id o h1;have hi:id<n:=by have:=aD h1;omega
  rw[fR hi]at h3;rw[List.getElem?_take,if_pos hi]at p1;refine⟨hi,o0,e,p1,?_,h3,h4⟩;rintro rfl;simp only[nM]at p2;cases p2;exact h2 rfl
 refine⟨⟨?_,?_,?_,?_,?_,?_,s.base⟩,fun m hmn=>⟨by omega,⟨rfl,rfl,kH s n,fun id hi e he=>⟨e,by rw[fR (by omega)];exact he,.inr rfl⟩⟩,Nat.le_refl _,fun _ _ _=>rfl,fun id x hl _=>(live hl).2,?_⟩⟩
 ·intro b o hbo;have hbo:(if ∃id,n<=id/\LiveAt w M id b then h.get b else w.imm b)=some o:=hbo;split at hbo
  ·exact hbo
  ·exact s.imm b o hbo
 ·intro id e he;have he:(if id<n then w.env id else none)=some e:=he;split at he
  ·omega
  ·cases he
 ·intro id e b he hbl;have he:(if id<n then w.env id else none)=some e:=he;split at he
  ·exact s.blk id e b he hbl
  ·cases he
 ·intro id o ho;have hi:id<n:=by have:=aD ho;omega
  obtain⟨o0,p1,p2⟩:=hget id o ho;rw[List.getElem?_take,if_pos hi]at p1;have r:=s.obj id o0 p1
  cases o0 with
  | cells g ver cs=>
   simp only[nM]at p2
   cases hq:dZ n M cs with
   | none=>rw[hq]at p2;cases p2
   | some cs2=>
    rw[hq]at p2;cases p2;obtain⟨e,h1,h2,h3⟩:=r;refine⟨e,by rw[fR hi];exact h1,h2,?_⟩
    cases hbl:e.blk with
    | none=>rw[hbl]at h3;have h3:cs=[]:=h3;subst h3;simp only[dZ]at hq;cases hq;rfl
    | some b=>rw[hbl]at h3;obtain⟨bcs,h4,h5⟩:=h3;exact⟨bcs,h4,rU s h0 h5 hq⟩
  | gone=>simp only[nM]at p2;cases p2;trivial
  | map ver es=>
   simp only[nM]at p2;by_cases hq:C8 n es=true
   ·rw[if_pos hq]at p2;cases p2;obtain⟨e,b,h1,h2,h3,es',h4,h5⟩:=r;exact⟨e,b,by rw[fR hi];exact h1,h2,h3,es',h4,h5.low (w:=w) (w':=w.cut h n M) rfl (kH s n) (fun id hi=>fR hi) hq⟩
   ·rw[if_neg hq]at p2;cases p2
  | loop ver r=>simp[nM]at p2
 ·intro i j x h1 h2;exact s.inj i j x (live h1).2 (live h2).2
 ·intro i x h1;obtain⟨hi,hl⟩:=live h1;refine⟨?_,(s.sep i x hl).2⟩;show(if _ then _ else _)=_;split
  ·rename_i hc;obtain⟨j,hj,hl2⟩:=hc;have:=s.inj i j x hl hl2;omega
  ·exact(s.sep i x hl).1
 ·intro x hx;have hx:(if ∃id,n<=id/\LiveAt w M id x then h.get x else w.imm x)≠none:=hx;split at hx
  ·rename_i hc;obtain⟨id,hid,hl⟩:=hc;exact .inr (.inr ⟨id,by omega,hl⟩)
  ·exact .inl hx
theorem GStep.cutF{m:Nat}{a b c:List PV}{M N:Mem}(n:Nat)(hn:m<=n)(hl:n<=M.length)(hw:PWeak a b)(ha:dZ n M b=some c)(hN:kC n M (M.take n)=some N):GStep m a M c N:=
 ⟨fun hm=>by obtain⟨q,_⟩:=tA hN;rw[q];simp;omega,fun w hh a' h0 hm s hr=>by
  obtain⟨s1,s2⟩:=s.cutF (m:=m) (Nat.le_trans h0 hn) hl hN;exact⟨_,s2 m hn,s1,rU s (Nat.le_trans h0 hn) (hw.rep hr) ha⟩⟩
section
variable {tab:FuncId->Option AF}
theorem dC{g:FuncId}{args:List PV}{M:Mem}{K:PV->Mem->Prop}(h:SemC tab g args M fun r M'=>Gh M.length (fun a N=>∃r',a=[r']/\K r' N) [r] M'):SemC tab g args M K:=by intro w hh args' h0 s ha;refine iD (h w hh args' h0 s ha) ?_;rintro v h' ⟨w1,r,M1,p1,p2,p3,p4⟩;unfold Gh at p4;obtain⟨b,N,gs,r',rfl,hk⟩:=p4;obtain⟨w2,t2,s2,r2⟩:=gs.go w1 h' [v] (by rw[p1.le.id0];exact h0) p1.len p2 (.cons p3 (.nil _));exact⟨w2,r',N,p1.trans t2 (Nat.le_refl _),s2,r2.hd,hk⟩
end
theorem HK(n:Nat)(M:Mem)(b:Bool):cC n M (.bool b)=some (.bool b):=by simp[cC,PV.under]
theorem nN{n:Nat}{M:Mem}{fn:Go.Fn}{f c:List PV}(h:(aC n f&&aC n c)=true):cC n M (.func fn f c)=some (.func fn f c):=by unfold cC;simp only;rw[if_pos (by rw[wN];exact h)]
theorem mE{n:Nat}{M:Mem}{id g sz off k ver:Nat}{cs:List PV}(hi:n<=id)(hM:M[id]? =some (.cells g ver cs))(h1:off+k*sz<=cs.length)(h2:aC n cs=true):cC n M (.ref id g sz off k)=some (.sl false true sz k (aY cs off (k*sz))):=by unfold cC;simp only;rw[if_neg (by omega),hM];simp only;rw[if_pos ⟨trivial,h1,h2⟩]
theorem HI(n:Nat)(M:Mem)(v:PV)(l:List PV):dZ n M (v::l)=xS (cC n M v) (dZ n M l):=by simp only[dZ,xS];all_goals (split<;>simp_all)
def PV.flat1:PV->Bool
 | .bool _ | .int _ _ | .nilptr | .nils | .nilmap | .nilfunc | .niliface=>true
 | _=>false
def PV.flatA:PV->Bool
 | .agg vs=>vs.all PV.flat1
 | v=>v.flat1
def PV.flat:PV->Bool
 | .tuple vs=>vs.all PV.flatA
 | v=>v.flatA
theorem CP{w w':PWd}{r:PV}{x:AV}(hf:r.flat1=true)(h:RepV w r x):RepV w' r x:=by cases h<;>first | (simp[PV.flat1]at hf;done) | constructor
theorem CO{w w':PWd}{r:PV}{x:AV}(hf:r.flatA=true)(h:RepV w r x):RepV w' r x:=by
 cases r with
 | agg vs=>
  cases h with
  | agg h1 h2=>refine .agg h1 fun i y z hy hz=>CP ?_ (h2 i y z hy hz);exact(List.all_eq_true.1 hf) y (List.mem_of_getElem? hy)
 | _=>exact CP hf h
theorem aAm{w w':PWd}{r:PV}{x:AV}(hf:r.flat=true)(h:RepV w r x):RepV w' r x:=by
 cases r with
 | tuple vs=>
  cases h with
  | tuple h1 h2=>refine .tuple h1 fun i y z hy hz=>CO ?_ (h2 i y z hy hz);exact(List.all_eq_true.1 hf) y (List.mem_of_getElem? hy)
 | _=>exact CO hf h
inductive PBor (M:Mem):List PV->List PV->Prop
 | nil:PBor M [] []
 | same {v:PV} {a b:List PV} :v.under 0=true->PBor M a b->PBor M (v::a) (v::b)
 | ref {id g ver sz off n:Nat} {cs cs2:List PV} {a b:List PV} :M[id]? =some (.cells g ver cs)->off+n*sz<=cs.length->aC 0 cs2=true->aY cs off (n*sz)=cs2->PBor M a b->
   PBor M (.ref id g sz off n::a) (.sl true false sz n cs2::b)
 | nest {id g ver sz off n:Nat} {cs cs2:List PV} {a b:List PV} :M[id]? =some (.cells g ver cs)->off+n*sz<=cs.length->PBor M (aY cs off (n*sz)) cs2->PBor M a b->
   PBor M (.ref id g sz off n::a) (.sl true false sz n cs2::b)
 | agg {cs cs2 a b:List PV} :PBor M cs cs2->PBor M a b->PBor M (.agg cs::a) (.agg cs2::b)
theorem PBor.len{M:Mem}{a b:List PV}(h:PBor M a b):a.length=b.length:=by
 induction h with
 | nil=>rfl
 | same _ _ ih=>simp[ih]
 | ref _ _ _ _ _ ih=>simp[ih]
 | nest _ _ _ _ _ ih=>simp[ih]
 | agg _ _ _ ih=>simp[ih]
section
variable {tab:FuncId->Option AF}
theorem sI{g:FuncId}{args args2:List PV}{M:Mem}{K:PV->Mem->Prop}(hb:PBor M args args2)(hc:SemC tab g args2 [] fun r _=>r.flat=true/\K r M):SemC tab g args M K:=by
 intro w h args' h0 s ha
 classical
 let w0:PWd:={n0:=w.n0,env:=fun _=>none,id0:=0,imm:=fun b=>if ∃id,LiveAt w M id b then h.get b else w.imm b}
 have him:∀b o,w.imm b=some o->w0.imm b=some o:=fun b o hbo=>by
  show(if _ then _ else _)=_;split
  ·exact s.imm b o hbo
  ·exact hbo
 have s0:PSt w0 h []:=⟨(fun b o hbo=>by
   have hbo:(if ∃id,LiveAt w M id b then h.get b else w.imm b)=some o:=hbo;split at hbo
   ·exact hbo
   ·exact s.imm b o hbo),(fun id e he=>by cases he),(fun id e b he=>by cases he),(fun id o ho=>by simp at ho),(fun i j x ⟨_,_,h1,_⟩=>by simp at h1),(fun i x ⟨_,_,h1,_⟩=>by simp at h1),s.base⟩
 have a0:RepL w0 args2 args':=by
  clear hc
  induction hb generalizing args' with
  | nil=>exact⟨ha.len,fun i y z hy=>by simp at hy⟩
  | @same v a b hv _ ih=>
   match args',ha with
   | x::l,ha=>exact .cons (ha.hd.low (w:=w) (w':=w0) (m:=0) rfl him (fun id hi=>by omega) hv) (ih l ha.tl)
   | [],ha=>exact absurd ha.len (by simp)
  | @ref id g ver sz off n cs cs2 a b hm hl hu hps _ ih=>
   match args',ha with
   | x::l,ha=>
    refine .cons ?_ (ih l ha.tl);subst hps;obtain⟨e,p1,p2,p3⟩:=s.refAt hm ha.hd;rcases p3 with⟨rfl,rfl,rfl,_,_⟩ | ⟨fl,b,bcs,rfl,p4,p5,p6,p7⟩
    ·simpa [aY]using RepV.slN
    ·have hl2:(aY cs off (n*sz)).length=n*sz:=by simp[aY];omega
     have hg:w0.imm b=h.get b:=by show(if _ then _ else _)=_;rw[if_pos ⟨id,p7⟩]
     have hs:=(eI p6 off (n*sz)).low (w:=w) (w':=w0) (m:=0) rfl him (fun id hi=>by omega) hu;refine .sl (hg.trans p5) (by rw[hl2,<-p6.len];exact hl) hl2 (fun _ q=>by cases q) (fun q=>by cases q) (fun _ q=>by cases q) (fun i y z hy hz=>hs.get i y z hy ?_);rw[List.getElem?_take,if_pos (by have:=aD hy;omega),List.getElem?_drop];exact hz
   | [],ha=>exact absurd ha.len (by simp)
  | @nest id g ver sz off n cs cs2 a b hm hl hb1 _ ih1 ih=>
   match args',ha with
   | x::l,ha=>
    refine .cons ?_ (ih l ha.tl);obtain⟨e,p1,p2,p3⟩:=s.refAt hm ha.hd;have hl2:cs2.length=n*sz:=by rw[<-hb1.len];simp[aY];omega
    rcases p3 with⟨rfl,rfl,rfl,_,rfl⟩ | ⟨fl,b,bcs,rfl,p4,p5,p6,p7⟩
    ·have:cs2=[]:=List.length_eq_zero_iff.1 (by rw[hl2];simp);subst this;exact RepV.slN
    ·have hg:w0.imm b=h.get b:=by show(if _ then _ else _)=_;rw[if_pos ⟨id,p7⟩]
     have hs:=ih1 _ (eI p6 off (n*sz));refine .sl (hg.trans p5) (by rw[hl2,<-p6.len];exact hl) hl2 (fun _ q=>by cases q) (fun q=>by cases q) (fun _ q=>by cases q) (fun i y z hy hz=>hs.get i y z hy ?_);rw[List.getElem?_take,if_pos (by have:=aD hy;omega),List.getElem?_drop];exact hz
   | [],ha=>exact absurd ha.len (by simp)
  | @agg cs cs2 a b _ _ ih1 ih=>
   match args',ha with
   | x::l,ha=>
    refine .cons ?_ (ih l ha.tl)
    cases ha.hd with
    | agg h1 h2=>exact .agg (ih1 _ ⟨h1,h2⟩).len (ih1 _ ⟨h1,h2⟩).get
   | [],ha=>exact absurd ha.len (by simp)
 refine iD (hc w0 h args' (Nat.le_refl _) s0 a0) ?_;rintro v h' ⟨w1,r,M1,p1,p2,p3,p5,p6⟩;have hnl:∀x id,¬LiveAt w0 [] id x:=fun x id ⟨_,_,h1,_⟩=>by simp at h1
 have hkeep:∀x,x<h.next->h'.get x=h.get x:=fun x hx=>p1.keep x hx (hnl x);refine⟨w,r,M,⟨Nat.le_refl _,Le.refl _ _,p1.next,fun x hx _=>hkeep x hx,fun id x hlv _=>hlv,fun x hx=> .inl hx⟩,⟨fun b o hbo=>?_,s.env,fun id e b he hbl=>Nat.lt_of_lt_of_le (s.blk id e b he hbl) p1.next,fun id o ho=>?_,s.inj,s.sep,Nat.le_trans s.base p1.next⟩,aAm p5 p3,p6⟩
 ·exact p2.imm b o (p1.le.imm b o (him b o hbo))
 ·exact RepO.mono s (Le.refl _ _) (s.obj id o ho) (fun e he=>he) (fun e b he hbl=>hkeep b (s.blk id e b he hbl))
end
theorem PBor.ints{M:Mem}{k:IntKind}{id g ver n:Nat}{xs:List Int}{a b:List PV}(hm:M[id]? =some (.cells g ver (xs.map (PV.int k))))(hn:xs.length=n)(h:PBor M a b):PBor M (.ref id g 1 0 n::a) (slI true false k xs::b):=by subst hn;exact .ref hm (by simp) (aP _ _ _) (by rw[Nat.mul_one,G6]) h
theorem RepL.wkAt{w:PWd}{v':PV} :∀{a:List PV} {a':List AV} (t:Nat),PvWk (ptget a t) v'->RepL w a a'->RepL w (ptset a t v') a'
 | [],a',t,_,h=>by cases t<;>exact h
 | x::a,[],t,_,h=>absurd h.len (by simp)
 | x::a,y::a',0,hw,h=> .cons (hw w y h.hd) h.tl
 | x::a,y::a',t+1,hw,h=> .cons h.hd (RepL.wkAt (a:=a) t hw h.tl)
theorem GStep.wk{m:Nat}{a b:List PV}{M:Mem}(t:Nat)(v':PV)(h:PvWk (ptget a t) v')(hb:ptset a t v'=b):GStep m a M b M:=by subst hb;exact⟨fun hm=>hm,fun w hh a' h0 hm s ha=>⟨w,PStp.refl hm w hh,s,ha.wkAt t h⟩⟩
def gF(a:List PV):List Nat->List PV->List PV
 | t::ts,v::vs=>gF (ptset a t v) ts vs
 | _,_=>a
theorem RepL.setAll{w:PWd} :∀(ts:List Nat) {a:List PV} {a':List AV} {vs:List PV} {vs':List AV},RepL w a a'->RepL w vs vs'->RepL w (gF a ts vs) (_root_.Go.Am.setAll a' ts vs')
 | [],a,a',vs,vs',h,hv=>by simpa [gF,_root_.Go.Am.setAll]using h
 | t::ts,a,a',[],[],h,hv=>by simpa [gF,_root_.Go.Am.setAll]using h
 | t::ts,a,a',[],_::_,h,hv=>by have:=hv.len;simp at this
 | t::ts,a,a',_::_,[],h,hv=>by have:=hv.len;simp at this
 | t::ts,a,a',v::vs,x::xs,h,hv=>RepL.setAll ts (h.tset t hv.hd) hv.tl
theorem PSt.loopAt{w:PWd}{h:H}{M:Mem}(s:PSt w h M){id ver:Nat}{r:PLoop}(hm:M[id]? =some (.loop ver r)):
  ∃e b r',w.env id=some e/\e.g=0/\e.blk=some b/\h.get b=some (.loop (e.v0+ver) r')/\RepLp w r r'/\LiveAt w M id b:=by
 obtain⟨e,b,h1,h2,h3,r',h4,h5⟩:=s.obj _ _ hm;exact⟨e,b,r',h1,h2,h3,h4,h5,_,e,hm,by simp,h1,h3⟩
theorem PSt.setLoop{w:PWd}{h:H}{M:Mem}(s:PSt w h M){id ver ver2 b:Nat}{r r2:PLoop}{r2':ALoop}{e:Ent}(hm:M[id]? =some (.loop ver r))(he:w.env id=some e)(hg:e.g=0)(hb:e.blk=some b)(hr:RepLp w r2 r2'):
  PSt w (h.set b (.loop (e.v0+ver2) r2')) (M.set id (.loop ver2 r2))/\PStp M.length w h M w (h.set b (.loop (e.v0+ver2) r2')) (M.set id (.loop ver2 r2)):=by
 have hlv:LiveAt w M id b:=⟨_,e,hm,by simp,he,hb⟩;have hbn:=hlv.next s;have hid:=hlv.lt;have live:∀i x,LiveAt w (M.set id (.loop ver2 r2)) i x->LiveAt w M i x:=by
  rintro i x ⟨ob,e',h1,h2,h3,h4⟩;by_cases hi:id=i
  ·subst hi;exact⟨_,e',hm,by simp,h3,h4⟩
  ·rw[List.getElem?_set_ne hi]at h1;exact⟨ob,e',h1,h2,h3,h4⟩
 have hget:∀x,x≠b->(h.set b (.loop (e.v0+ver2) r2')).get x=h.get x:=fun x hx=>H.get_set_ne hx;have hsame:(h.set b (.loop (e.v0+ver2) r2')).get b=some (.loop (e.v0+ver2) r2'):=by rw[H.get_set,if_pos ⟨rfl,hbn⟩]
 refine⟨⟨?_,?_,s.blk,?_,fun i j x h1 h2=>s.inj i j x (live i x h1) (live j x h2),fun i x h1=>s.sep i x (live i x h1),s.base⟩,⟨by simp,Le.refl _ _,Nat.le_refl _,?_,fun i x h1 _=>live i x h1,fun x hx=> .inl hx⟩⟩
 ·intro x o hx;have:x≠b:=by rintro rfl;rw[(s.sep id x hlv).1]at hx;cases hx
  rw[hget x this];exact s.imm x o hx
 ·intro i e' he';have:=s.env i e' he';simpa using this
 ·intro i ob hi;by_cases hid2:id=i
  ·subst hid2;rw[List.getElem?_set_self hid]at hi;cases hi;exact⟨e,b,he,hg,hb,r2',hsame,hr⟩
  ·rw[List.getElem?_set_ne hid2]at hi;by_cases hgone:ob= .gone
   ·subst hgone;trivial
   ·refine RepO.mono s (Le.refl _ _) (s.obj i ob hi) (fun _ h=>h) (fun e' b' he' hb'=>hget b' ?_);rintro rfl;exact hid2 (s.inj id i b' hlv ⟨ob,e',hi,hgone,he',hb'⟩)
 ·intro x hx hn;refine hget x ?_;rintro rfl;exact hn id hlv
section
variable {tab:FuncId->Option AF}
def wG(id:Nat)(K:PV->Mem->Prop)(e:Ex)(a:List PV)(M:Mem):Prop:=
 ∃ver r,M[id]? =some (.loop ver r)/\(if e= .normal then K (.bool true) (M.set id (.loop (ver+1) {r with state:= .ready,pending:=none}))else K (.bool false) (M.set id (.loop (ver+1) {r with state:= .done,pending:=some e})))
theorem lR{id:Nat}{args:List PV}{M:Mem}{K:PV->Mem->Prop}{ver:Nat}{r:PLoop}(hm:M[id]? =some (.loop ver r))(hl:args.length=r.params.length)
  (h:bQ tab M.length r.assign (gF r.tmps r.params args) M (fun a1 M1=>∃v1 r1,M1[id]? =some (.loop v1 r1)/\r1.state= .ready/\
   bQ tab M.length r.body a1 (M1.set id (.loop (v1+1) {r1 with state:= .busy})) (wG id K .normal) (wG id K .ret) (fun i=>wG id K (.exit i))) (fun _ _=>False) (fun _ _ _=>False)):JR tab id args M K:=by
 intro w hh b args' h0 s hlv ha;obtain⟨e,b2,r',he,hg,hb,hget,hr,hlv2⟩:=s.loopAt hm;have hbb:b2=b:=by obtain⟨o,e2,_,_,q1,q2⟩:=hlv;rw[he]at q1;cases q1;rw[hb]at q2;cases q2;rfl
 subst hbb;unfold RZ;have hlen:args'.length=r'.params.length:=by rw[hr.params,<-ha.len];exact hl
 have hrun:=h w hh (setAll r'.tmps r'.params args') h0 (Nat.le_refl _) s (by rw[hr.params];exact RepL.setAll _ hr.tmps ha);unfold W at hrun;obtain⟨e1,a1,h1,hrun,hq⟩:=hrun
 cases e1 with
 | ret=>obtain⟨_,_,_,_,_,_,q⟩:=hq;exact q.elim
 | exit i=>obtain⟨_,_,_,_,_,_,q⟩:=hq;exact q.elim
 | normal=>
  obtain⟨w1,a1p,M1,t1,s1,ra1,v1,r1,hm1,hst1,hbody⟩:=hq;obtain⟨e2,b3,r1',he1,hg1,hb1,hget1,hr1,hlv1⟩:=s1.loopAt hm1;have hbb:b3=b2:=by
   obtain⟨e3,q1,q2⟩:=t1.le.env id (s.env id e he) e he;rw[he1]at q1;cases q1;rcases q2 with q2 | rfl
   ·omega
   ·rw[hb]at hb1;cases hb1;rfl
  subst hbb;have hr1b:RepLp w1 {r1 with state:= .busy} {r1' with state:= .busy} :=⟨rfl,hr1.pending,hr1.params,hr1.assign,hr1.body,hr1.tmps⟩;obtain⟨s2,t2⟩:=s1.setLoop (ver2:=v1+1) (r2:={r1 with state:= .busy}) hm1 he1 hg1 hb1 hr1b;have hM1:M.length<=(M1.set id (.loop (v1+1) {r1 with state:= .busy})).length:=by simpa using t1.len
  have hbd:=hbody w1 _ a1 (by rw[t1.le.id0];exact h0) hM1 s2 ra1;unfold W at hbd;obtain⟨e4,a4,h4,hbd,hq4⟩:=hbd;have hq4':∃w4 a4p M4,PStp M.length w1 (h1.set b3 (.loop (e2.v0+(v1+1)) {r1' with state:= .busy})) (M1.set id (.loop (v1+1) {r1 with state:= .busy})) w4 h4 M4/\PSt w4 h4 M4/\RepL w4 a4p a4/\wG id K e4 a4p M4:=by
   cases e4 with
   | normal=>exact hq4
   | ret=>exact hq4
   | exit i=>exact hq4
  obtain⟨w4,a4p,M4,t4,s4,ra4,v4,r4,hm4,hk⟩:=hq4';obtain⟨e5,b5,r4',he4,hg4,hb4,hget4,hr4,hlv4⟩:=s4.loopAt hm4;have hbb:b5=b3:=by
   obtain⟨e3,q1,q2⟩:=t4.le.env id (s.env id e he) e2 he1;rw[he4]at q1;cases q1;rcases q2 with q2 | rfl
   ·omega
   ·rw[hb1]at hb4;cases hb4;rfl
  subst hbb;have tt:PStp M.length w hh M w4 h4 M4:=(t1.trans (t2.weaken t1.len) (Nat.le_refl _)).trans t4 (Nat.le_refl _);have hAM:∀(b:Bool) (st:LoopState) (pd:Option Ex),RepLp w4 {r4 with state:=st,pending:=pd} {r4' with state:=st,pending:=pd} :=fun _ _ _=>⟨rfl,rfl,hr4.params,hr4.assign,hr4.body,hr4.tmps⟩;have hcall:∀res,(if e4= .normal then some (AV.bool true,h4.set b5 (.loop (e5.v0+v4+1) {r4' with state:= .ready,pending:=none}))else some (AV.bool false,h4.set b5 (.loop (e5.v0+v4+1) {r4' with state:= .done,pending:=some e4})))=some res->cZ (lim tab) (.func (.yield b5) [] []) args' hh=some res:=by intro res hres;have g1:hh.get b5=some (.loop (e.v0+ver) r'):=hget;simp only[cZ,g1,List.nil_append];rw[if_pos hlen,rJ,hr.assign,hrun];simp only[hget1];rw[if_pos (by rw[hr1.state];exact hst1),rJ,hr.body,show e2.v0+v1+1=e2.v0+(v1+1) by omega,hbd];simp only[hget4];exact hres
  by_cases hn:e4= .normal
  ·rw[if_pos hn]at hk;obtain⟨s5,t5⟩:=s4.setLoop (ver2:=v4+1) (r2:={r4 with state:= .ready,pending:=none}) hm4 he4 hg4 hb4 (hAM true _ _);exact⟨_,_,hcall _ (by rw[if_pos hn];rfl),w4,.bool true,_,tt.trans (t5.weaken tt.len) (Nat.le_refl _),s5,.bool true,hk⟩
  ·rw[if_neg hn]at hk;obtain⟨s5,t5⟩:=s4.setLoop (ver2:=v4+1) (r2:={r4 with state:= .done,pending:=some e4}) hm4 he4 hg4 hb4 (hAM true _ _);exact⟨_,_,hcall _ (by rw[if_neg hn];rfl),w4,.bool false,_,tt.trans (t5.weaken tt.len) (Nat.le_refl _),s5,.bool false,hk⟩
def RW(id:Nat)(a:List PV)(Qn Qr:List PV->Mem->Prop)(Qe:Nat->List PV->Mem->Prop)(v:PV)(M:Mem):Prop:=
 ∃ver r,M[id]? =some (.loop ver r)/\r.state≠ .busy/\match r.pending.getD .normal with
  | .normal=>Qn a (M.set id (.loop (ver+1) {r with state:= .exhausted}))
  | .ret=>Qr a (M.set id (.loop (ver+1) {r with state:= .exhausted}))
  | .exit i=>Qe i a (M.set id (.loop (ver+1) {r with state:= .exhausted}))
theorem N7{m:Nat}{f:AR}{ps:List Nat}{asg body:AC}{a:List PV}{M:Mem}{Qn Qr:List PV->Mem->Prop}{Qe:Nat->List PV->Mem->Prop}{g:FuncId}{first cap:List PV}(hf:pev a f= .func (.func g) first cap)
  (h:SemC tab g (first++[.yld M.length []]++cap) (M++[.loop 0 {state:= .ready,pending:=none,tmps:=a,params:=ps,assign:=asg,body:=body}]) (RW M.length a Qn Qr Qe)):bQ tab m (.rangeFunc f ps asg body) a M Qn Qr Qe:=by
 intro w hh a' h0 hm s ha;have hx:=aK ha f;rw[hf]at hx;revert hx;generalize hu:ev a' f=u;intro hx
 cases hx with
 | func q1 q2 q3 q4 q5=>
  rename_i first' cap'
  let lp:ALoop:={state:= .ready,pending:=none,tmps:=a',params:=ps,assign:=asg,body:=body}
  obtain⟨s1,t1⟩:=s.alloc (o:= .loop 0 {state:= .ready,pending:=none,tmps:=a,params:=ps,assign:=asg,body:=body}) (o':= .loop 0 lp) (e:=⟨some hh.next,0,0⟩) rfl (fun w' hl he=>⟨_,_,he,rfl,rfl,lp,H.get_alloc_new _ _,rfl,rfl,rfl,rfl,rfl,ha.mono hl s.env⟩);have hnew:(w.withEnv M.length ⟨some hh.next,0,0⟩).env M.length=some ⟨some hh.next,0,0⟩:=by show(if _=_ then _ else _)=_;rw[if_pos rfl]
  have hyl:RepV (w.withEnv M.length ⟨some hh.next,0,0⟩) (.yld M.length []) (.func (.yield hh.next) [] []):= .yld hnew rfl rfl rfl (fun i y z p=>by simp at p);have r1:RepL w first first':=⟨q2,q4⟩
  have r2:RepL w cap cap':=⟨q3,q5⟩;have hc:=h _ _ (first'++[.func (.yield hh.next) [] []]++cap') (by show w.id0<=_;simp;omega) s1 (((r1.mono t1.le s.env).append (.cons hyl (.nil _))).append (r2.mono t1.le s.env));unfold C at hc;obtain⟨v,h',hcall,w2,rv,M2,t2,s2,rr,ver,r,hm2,hst,hk⟩:=hc;obtain⟨e2,b2,r',he2,hg2,hb2,hget2,hr2,hlv2⟩:=s2.loopAt hm2;have hbb:b2=hh.next:=by
   obtain⟨e3,p1,p2⟩:=t2.le.env M.length (by simp) _ hnew;rw[he2]at p1;cases p1;rcases p2 with p2 | rfl
   ·have p2:0<e2.g:=p2;omega
   ·cases hb2;rfl
  subst hbb;have hst':r'.state≠ .busy:=by rw[hr2.state];exact hst
  obtain⟨s3,t3⟩:=s2.setLoop (ver2:=ver+1) (r2:={r with state:= .exhausted}) (r2':={r' with state:= .exhausted}) hm2 he2 hg2 hb2 ⟨rfl,hr2.pending,hr2.params,hr2.assign,hr2.body,hr2.tmps⟩;have tt:=(t1.trans t2 (by simp)).trans (t3.weaken (Nat.le_trans (by simp) t2.len)) (Nat.le_refl _);have ha3:RepL w2 a a':=ha.mono tt.le s.env;have hac:aJ (lim tab) (.rangeFunc f ps asg body) a' hh=some (r.pending.getD .normal,a',h'.set hh.next (.loop (e2.v0+(ver+1)) {r' with state:= .exhausted})):=by
   simp only[aJ,hu];rw[hcall];simp only[hget2];rw[if_neg hst',hr2.pending];rfl
  unfold W;refine⟨_,_,_,hac,?_⟩;have tt:=tt.weaken hm
  cases hp:r.pending.getD .normal with
  | normal=>rw[hp]at hk;exact⟨w2,a,_,tt,s3,ha3,hk⟩
  | ret=>rw[hp]at hk;exact⟨w2,a,_,tt,s3,ha3,hk⟩
  | exit i=>rw[hp]at hk;exact⟨w2,a,_,tt,s3,ha3,hk⟩
end
section
variable {tab:FuncId->Option AF} {m:Nat} {a:List PV} {M:Mem} {Qn Qr:List PV->Mem->Prop} {Qe:Nat->List PV->Mem->Prop}
theorem aB{x y:AC}(h:bQ tab m x a M (fun b N=>bQ tab m y b N Qn Qr Qe) Qr Qe):bQ tab m (.seq x y) a M Qn Qr Qe:=by intro w hh a' h0 hm s ha;rw[aED];refine gS (h w hh a' h0 hm s ha) (fun a1 h1 hl=>?_) (fun _ _ h=>h) (fun _ _ _ h=>h);obtain⟨w1,b,N,t1,s1,r1,q⟩:=hl;rw[R2];exact gS (q w1 h1 a1 (by rw[t1.le.id0];exact h0) t1.len s1 r1) (fun _ _ h=>h.trans t1) (fun _ _ h=>h.trans t1) (fun _ _ _ h=>h.trans t1)
theorem jZ{id:Nat}{x:AC}(h:bQ tab m x a M Qn Qr (J7 id Qn Qe)):bQ tab m (.block id x) a M Qn Qr Qe:=by
 intro w hh a' h0 hm s ha;rw[RT];refine gS (h w hh a' h0 hm s ha) (fun _ _ h=>h) (fun _ _ h=>h) (fun i a1 h1 hl=>?_);obtain⟨w1,b,N,t1,s1,r1,q⟩:=hl;rw[lT];unfold J7 at q;by_cases e:i=id
 ·rw[if_pos e]at q ⊢;exact⟨w1,b,N,t1,s1,r1,q⟩
 ·rw[if_neg e]at q ⊢;exact⟨w1,b,N,t1,s1,r1,q⟩
theorem VO{sc:List Nat}{x:AC}(hj:MN 0 sc a=true)(h:bQ tab m x a M (fun b N=>bQ tab m (.loop sc x) b N Qn Qr Qe) Qr Qe):bQ tab m (.loop sc x) a M Qn Qr Qe:=by
 intro w hh a' h0 hm s ha;rw[aBv _ _ _ _ _ _ _ _ (rJ tab)];have e:=nL sc a fun s hs=>by simpa using (rR a 0 sc hj s hs).2
 have ha2:=RepL.scrub sc ha;rw[e]at ha2;refine gS (h w hh _ h0 hm s ha2) (fun a1 h1 hl=>?_) (fun _ _ h=>h) (fun _ _ _ h=>h);obtain⟨w1,b,N,t1,s1,r1,q⟩:=hl;rw[aEE];exact gS (q w1 h1 a1 (by rw[t1.le.id0];exact h0) t1.len s1 r1) (fun _ _ h=>h.trans t1) (fun _ _ h=>h.trans t1) (fun _ _ _ h=>h.trans t1)
theorem aA{c:AC}(h:RX tab m c a M Qn Qr Qe):bQ tab m c a M Qn Qr Qe:=JU m c h
theorem C3{c:AC}{Qn' Qr':List PV->Mem->Prop}{Qe':Nat->List PV->Mem->Prop}(h:bQ tab m c a M Qn Qr Qe)(h1:∀b N,Qn b N->Qn' b N)(h2:∀b N,Qr b N->Qr' b N)(h3:∀i b N,Qe i b N->Qe' i b N):bQ tab m c a M Qn' Qr' Qe':=by
 intro w hh a' h0 hm s ha;refine gS (h w hh a' h0 hm s ha) ?_ ?_ ?_
 ·rintro a1 hh1 ⟨w1,b,N,t1,s1,r1,q⟩;exact⟨w1,b,N,t1,s1,r1,h1 _ _ q⟩
 ·rintro a1 hh1 ⟨w1,b,N,t1,s1,r1,q⟩;exact⟨w1,b,N,t1,s1,r1,h2 _ _ q⟩
 ·rintro i a1 hh1 ⟨w1,b,N,t1,s1,r1,q⟩;exact⟨w1,b,N,t1,s1,r1,h3 _ _ _ q⟩
theorem f5{f:AR}{ps:List Nat}{asg body:AC}{g:FuncId}{first cap:List PV}(hf:pev a f= .func (.func g) first cap)
  (h:∀lp:PLoop,lp.state= .ready->lp.pending=none->lp.tmps=a->lp.params=ps->lp.assign=asg->lp.body=body->
   SemC tab g (first++[.yld M.length []]++cap) (M++[.loop 0 lp]) (RW M.length a Qn Qr Qe)):bQ tab m (.rangeFunc f ps asg body) a M Qn Qr Qe:=
 N7 hf (h _ rfl rfl rfl rfl rfl rfl)
theorem Y9{lp:PLoop}(h1:lp.state= .ready)(h2:lp.pending=none):{lp with state:= .ready,pending:=none} =lp:=by cases lp;simp_all
end
def u7{α:Type}(n:Nat)(f:Nat->α):List α:=(List.range n).map f
theorem nE{α:Type}(n:Nat)(f:Nat->α):(u7 n f).length=n:=by simp[u7]
theorem qS{α:Type}{n:Nat}{f:Nat->α}{v:Nat}(h:v<n):(u7 n f)[v]? =some (f v):=by simp[u7,h]
theorem SK{α:Type}{n:Nat}{f:Nat->α}{v:Nat}(h:n<=v):(u7 n f)[v]? =none:=List.getElem?_eq_none (by rw[nE];exact h)
theorem F8{α:Type}{n:Nat}{f:Nat->α}{a:List α}(hl:a.length=n)(h:∀v,v<n->a[v]? =some (f v)):a=u7 n f:=by
 apply List.ext_getElem?;intro v;rcases Nat.lt_or_ge v n with q | q
 ·rw[h v q,qS q]
 ·rw[List.getElem?_eq_none (by omega),SK q]
theorem wV{α:Type}{n:Nat}{f g:Nat->α}(h:∀v,v<n->f v=g v):u7 n f=u7 n g:=F8 (nE _ _) fun v hv=>by rw[qS hv,h v hv]
theorem WR{α:Type}{n:Nat}{f:Nat->α}{u:Nat}(x:α)(h:u<n):(u7 n f).set u x=u7 n (fun v=>if v=u then x else f v):=F8 (by rw[List.length_set,nE]) fun v hv=>by
 rw[List.getElem?_set];by_cases e:u=v
 ·subst e;rw[if_pos rfl,if_pos (by rw[nE];exact h),if_pos rfl]
 ·rw[if_neg e,qS hv,if_neg (fun q=>e q.symm)]
theorem F7{α:Type}{n:Nat}{f:Nat->α}{x:α}(h:x∈u7 n f):∃v,v<n/\f v=x:=by obtain⟨v,hv,e⟩:=List.mem_map.1 h;exact⟨v,List.mem_range.1 hv,e⟩
theorem PWeak.refl:∀a:List PV,PWeak a a
 | []=>trivial
 | _::a=>⟨.inr rfl,PWeak.refl a⟩
theorem uI{n:Nat}{M:Mem}{v:PV}(h:v.under n=true):cC n M v=some v:=by cases v<;>simp_all [cC,PV.under]
theorem iM{n:Nat}{M:Mem} :∀{l:List PV},aC n l=true->dZ n M l=some l
 | [],_=>rfl
 | v::l,h=>by have h2:=(dL n (v::l)).1 h;rw[HI,uI (h2 v (by simp)),iM ((dL n l).2 fun x hx=>h2 x (by simp[hx]))];rfl
def aI(n:Nat):PObj->Bool
 | .cells _ _ cs=>aC n cs
 | .map _ es=>C8 n es
 | .gone=>true
 | _=>false
theorem XW{n:Nat}{M:Mem}{o:PObj}(h:aI n o=true):nM n M o=some o:=by
 cases o with
 | cells g ver cs=>simp only[aI]at h;simp only[nM,iM h,Option.map_some]
 | map ver es=>simp only[aI]at h;simp only[nM,h,if_true]
 | gone=>rfl
 | loop ver r=>simp[aI]at h
theorem LD{n:Nat}{M l xs:Mem}{o x:PObj}(h1:nM n M o=some x)(h2:kC n M l=some xs):kC n M (o::l)=some (x::xs):=by simp only[kC,h1,h2]
theorem HH{n:Nat}{M:Mem} :∀{l r xs:Mem},l.all (aI n)=true->kC n M r=some xs->kC n M (l++r)=some (l++xs)
 | [],r,xs,_,h=>h
 | o::l,r,xs,ho,h=>by simp only[List.all_cons,Bool.and_eq_true]at ho;exact LD (XW ho.1) (HH ho.2 h)
theorem G4{w w':PWd}{h:H}{m id:Nat}{o:PObj}(h0:w'.n0=w.n0)(hi:∀b o,w.imm b=some o->w'.imm b=some o)(he:∀id,id<m->w'.env id=w.env id)(hid:id<m)(hc:aI m o=true)(ho:RepO w h id o):RepO w' h id o:=by
 cases o with
 | cells g ver cs=>
  obtain⟨e,h1,h2,h3⟩:=ho;refine⟨e,by rw[he id hid];exact h1,h2,?_⟩
  cases hb:e.blk with
  | none=>rw[hb]at h3;exact h3
  | some b=>rw[hb]at h3;obtain⟨bcs,q1,q2⟩:=h3;exact⟨bcs,q1,q2.low h0 hi he hc⟩
 | gone=>trivial
 | map ver es=>obtain⟨e,b,h1,h2,h3,es',h4,h5⟩:=ho;exact⟨e,b,by rw[he id hid];exact h1,h2,h3,es',h4,h5.low h0 hi he hc⟩
 | loop ver r=>cases hc
section
variable {tab:FuncId->Option AF}
theorem kJ{m:Nat}{g:FuncId}{args:List PV}{M:Mem}{K:PV->Mem->Prop}(hm:m<=M.length)(hb:aC m args=true)(hM:(M.take m).all (aI m)=true)
  (hc:SemC tab g args (M.take m) fun r M1=>r.under m=true/\M1.length=m/\M1.all (aI m)=true/\K r (M1++M.drop m)):SemC tab g args M K:=by
 intro w h args' h0 s ha
 let w0:PWd:={n0:=w.n0,id0:=min w.id0 m,imm:=w.imm,env:=fun id=>if id<m then w.env id else none}
 have hlen:(M.take m).length=m:=by simp;omega
 have we:∀id,id<m->w0.env id=w.env id:=fun id hi=>by show(if _ then _ else _)=_;rw[if_pos hi]
 have wn:∀id e,w0.env id=some e->id<m/\w.env id=some e:=fun id e he=>by
  have he:(if id<m then w.env id else none)=some e:=he;split at he
  ·rename_i q;exact⟨q,he⟩
  ·cases he
 have hget:∀id,id<m->(M.take m)[id]? =M[id]? :=fun id hi=>by rw[List.getElem?_take,if_pos hi]
 have live:∀id x,LiveAt w0 (M.take m) id x->id<m/\LiveAt w M id x:=by rintro id x ⟨o,e,p1,p2,p3,p4⟩;obtain⟨q1,q2⟩:=wn id e p3;rw[hget id q1]at p1;exact⟨q1,o,e,p1,p2,q2,p4⟩
 have s0:PSt w0 h (M.take m):=by
  refine⟨s.imm,fun id e he=>by rw[hlen];exact(wn id e he).1,fun id e b he hbl=>s.blk id e b (wn id e he).2 hbl,fun id o ho=>?_,fun i j x h1 h2=>s.inj i j x (live i x h1).2 (live j x h2).2,fun i x h1=>⟨(s.sep i x (live i x h1).2).1,fun q=>(s.sep i x (live i x h1).2).2 ?_⟩,s.base⟩
  ·have hi:=aD ho;rw[hlen]at hi;have hck:=(List.all_eq_true.1 hM) o (List.mem_of_getElem? ho);rw[hget id hi]at ho;exact G4 (w:=w) (w':=w0) rfl (fun _ _ h=>h) we hi hck (s.obj id o ho)
  ·have:=(live i x h1).1;have q:min w.id0 m<=i:=q;omega
 have a0:RepL w0 args args':=ha.low (w:=w) (w':=w0) rfl (fun _ _ h=>h) we hb;refine iD (hc w0 h args' (by rw[hlen];exact Nat.min_le_right _ _) s0 a0) ?_;rintro v h' ⟨w1,r,M1,p1,p2,p3,k1,k2,k3,k4⟩;rw[hlen]at p1
 let w2:PWd:={n0:=w.n0,id0:=w.id0,imm:=w1.imm,env:=fun id=>if id<m then w1.env id else w.env id}
 have hn0:w2.n0=w1.n0:=p1.le.n0.symm;have e1:∀id,id<m->w2.env id=w1.env id:=fun id hi=>by show(if _ then _ else _)=_;rw[if_pos hi]
 have e2:∀id,¬id<m->w2.env id=w.env id:=fun id hi=>by show(if _ then _ else _)=_;rw[if_neg hi]
 have g1:∀id,id<m->(M1++M.drop m)[id]? =M1[id]? :=fun id hi=>List.getElem?_append_left (by omega);have g2:∀id,¬id<m->(M1++M.drop m)[id]? =M[id]? :=fun id hi=>by
  rw[List.getElem?_append_right (by omega),List.getElem?_drop,k2,show m+(id-m)=id by omega]
 have hl:Le M.length w w2:=by
  refine⟨rfl,rfl,fun b o hbo=>p1.le.imm b o hbo,fun id hi e he=>?_⟩;by_cases q:id<m
  ·rw[e1 id q];exact p1.le.env id q e (by rw[we id q];exact he)
  ·rw[e2 id q];exact⟨e,he,.inr rfl⟩
 have lv1:∀i x,i<m->LiveAt w2 (M1++M.drop m) i x->LiveAt w1 M1 i x:=by rintro i x hi ⟨o,e,q1,q2,q3,q4⟩;rw[g1 i hi]at q1;rw[e1 i hi]at q3;exact⟨o,e,q1,q2,q3,q4⟩
 have lv2:∀i x,¬i<m->LiveAt w2 (M1++M.drop m) i x->LiveAt w M i x:=by rintro i x hi ⟨o,e,q1,q2,q3,q4⟩;rw[g2 i hi]at q1;rw[e2 i hi]at q3;exact⟨o,e,q1,q2,q3,q4⟩
 have lv3:∀i x,i<m->LiveAt w1 M1 i x->x<h.next->LiveAt w M i x:=fun i x hi hlv hx=>(live i x (p1.live i x hlv hx)).2;have hdis:∀i j x,i<m->¬j<m->LiveAt w1 M1 i x->LiveAt w M j x->False:=fun i j x hi hj h1 h2=>by have:=s.inj i j x (lv3 i x hi h1 (h2.next s)) h2;omega
 have hkeep:∀i x,¬i<m->LiveAt w M i x->h'.get x=h.get x:=fun i x hi hlv=>p1.keep x (hlv.next s) fun j hj=>by obtain⟨q1,q2⟩:=live j x hj;have:=s.inj i j x hlv q2;omega
 refine⟨w2,r,M1++M.drop m,⟨by simp;omega,hl,p1.next,fun x hx hn=>p1.keep x hx fun j hj=>hn j (live j x hj).2,fun i x hlv hx=>?_,fun x hx=>?_⟩,⟨p2.imm,fun id e he=>?_,fun id e b he hbl=>?_,fun id o ho=>?_,fun i j x h1 h2=>?_,fun i x h1=>?_,Nat.le_trans s.base p1.next⟩,p3.low (w:=w1) (w':=w2) hn0 (fun _ _ h=>h) e1 k1,k4⟩
 ·by_cases q:i<m
  ·exact lv3 i x q (lv1 i x q hlv) hx
  ·exact lv2 i x q hlv
 ·rcases p1.new x hx with e | e | ⟨id,q1,q2⟩
  ·exact .inl e
  ·exact .inr (.inl e)
  ·have:=(live id x q2).1;omega
 ·by_cases q:id<m
  ·simp;omega
  ·rw[e2 id q]at he;have:=s.env id e he;simp;omega
 ·by_cases q:id<m
  ·rw[e1 id q]at he;exact p2.blk id e b he hbl
  ·rw[e2 id q]at he;exact Nat.lt_of_lt_of_le (s.blk id e b he hbl) p1.next
 ·by_cases q:id<m
  ·rw[g1 id q]at ho;have hck:=(List.all_eq_true.1 k3) o (List.mem_of_getElem? ho);exact G4 hn0 (fun _ _ h=>h) e1 q hck (p2.obj id o ho)
  ·rw[g2 id q]at ho;by_cases hg:o= .gone
   ·subst hg;trivial
   ·exact RepO.mono s hl (s.obj id o ho) (fun e he=>by rw[e2 id q];exact he) fun e b he hbl=>hkeep id b q ⟨o,e,ho,hg,he,hbl⟩
 ·by_cases qi:i<m
  ·by_cases qj:j<m
   ·exact p2.inj i j x (lv1 i x qi h1) (lv1 j x qj h2)
   ·exact(hdis i j x qi qj (lv1 i x qi h1) (lv2 j x qj h2)).elim
  ·by_cases qj:j<m
   ·exact(hdis j i x qj qi (lv1 j x qj h2) (lv2 i x qi h1)).elim
   ·exact s.inj i j x (lv2 i x qi h1) (lv2 j x qj h2)
 ·by_cases q:i<m
  ·have:=p2.sep i x (lv1 i x q h1);refine⟨this.1,fun q1=>?_⟩;have h3:=this.2 (by rw[p1.le.id0];exact Nat.le_trans (Nat.min_le_left _ _) q1);rwa [p1.le.n0]at h3
  ·have hlv:=lv2 i x q h1;have:=s.sep i x hlv;refine⟨?_,this.2⟩;refine Classical.byContradiction fun hne=>?_;rcases p1.new x hne with e | e | ⟨id,q1,q2⟩
   ·exact e this.1
   ·have:=hlv.next s;omega
   ·have:=(live id x q2).1;omega
theorem zK{g:FuncId}{args:List PV}{M:Mem}{K:PV->Mem->Prop}(h:SemC tab g args M fun r M'=>∃r' N,fG M.length M' r=some r'/\kC M.length M' (M'.take M.length)=some N/\K r' N):SemC tab g args M K:=
 fun w hh args' h0 s ha=>iD (h w hh args' h0 s ha) fun v h' ⟨w1,r,M1,p1,p2,p3,r',N,q1,q2,q3⟩=>by
  have hid:w1.id0<=M.length:=by rw[p1.le.id0];exact h0
  obtain⟨z1,z2⟩:=p2.cutF (m:=M.length) hid p1.len q2;exact⟨w1.cut h' M.length M1,r',N,p1.trans (z2 M.length (Nat.le_refl _)) (Nat.le_refl _),z1,EY p2 hid p3 q1,q3⟩
theorem lD{n:Nat}{M l:Mem}(h:l.all (aI n)=true):kC n M l=some l:=by have:=HH (M:=M) (r:=[]) (xs:=[]) h rfl;simpa using this
end
theorem PSt.reobjH{w:PWd}{h:H}{M:Mem}(s:PSt w h M){id g ver:Nat}{cs cs2:List PV}(hm:M[id]? =some (.cells g ver cs))(hl:cs2.length=cs.length)
  (hr:∀e b bcs,w.env id=some e->e.blk=some b->h.get b=some (.cells (e.v0+ver) true bcs)->RepL w cs2 bcs):
  PSt w h (M.set id (.cells g ver cs2))/\∀m,m<=M.length->PStp m w h M w h (M.set id (.cells g ver cs2)):=by
 have hid:=aD hm;have live:∀i x,LiveAt w (M.set id (.cells g ver cs2)) i x->LiveAt w M i x:=by
  rintro i x ⟨ob,e',h1,h2,h3,h4⟩;by_cases hi:id=i
  ·subst hi;exact⟨_,e',hm,by simp,h3,h4⟩
  ·rw[List.getElem?_set_ne hi]at h1;exact⟨ob,e',h1,h2,h3,h4⟩
 refine⟨⟨s.imm,?_,s.blk,?_,fun i j x h1 h2=>s.inj i j x (live i x h1) (live j x h2),fun i x h1=>s.sep i x (live i x h1),s.base⟩,fun m hmm=>⟨by simpa using hmm,Le.refl _ _,Nat.le_refl _,fun _ _ _=>rfl,fun i x h1 _=>live i x h1,fun x hx=> .inl hx⟩⟩
 ·intro i e he;simpa using s.env i e he
 ·intro i ob hi;by_cases hid2:id=i
  ·subst hid2;rw[List.getElem?_set_self hid]at hi;cases hi;obtain⟨e,h1,h2,h3⟩:=s.obj id _ hm;refine⟨e,h1,h2,?_⟩
   cases hb:e.blk with
   | none=>rw[hb]at h3;have h3:cs=[]:=h3;subst h3;exact List.length_eq_zero_iff.1 (by simpa using hl)
   | some b=>rw[hb]at h3;obtain⟨bcs,h4,h5⟩:=h3;exact⟨bcs,h4,hr e b bcs h1 hb h4⟩
  ·rw[List.getElem?_set_ne hid2]at hi;exact s.obj i ob hi
theorem PFrz.len{id g:Nat}{cs:List PV} :∀{a b:List PV},PFrz id g cs a b->b.length=a.length
 | [],[],_=>rfl
 | _::a,_::b,h=>by simp[PFrz.len h.2]
 | [],_::_,h=>h.elim
 | _::_,[],h=>h.elim
theorem GStep.freezeIn{m:Nat}{a b:List PV}{M N:Mem}(id j:Nat){g ver gj vj:Nat}{cs cj cj2:List PV}(hid:m<=id)(hM:M[id]? =some (.cells g ver cs))(hj:M[j]? =some (.cells gj vj cj))(hne:id≠j)(hf:PFrz id g cs a b)(hfj:PFrz id g cs cj cj2)
  (hN:(M.set id .gone).set j (.cells gj vj cj2)=N):GStep m a M b N:=by
 subst hN;refine⟨fun hm=>by simpa using hm,fun w hh a' h0 hm s ha=>?_⟩;obtain⟨w',s1,s2,hl,hr⟩:=s.freeze hM (Nat.le_trans h0 hid);have hj1:(M.set id .gone)[j]? =some (.cells gj vj cj):=by rw[List.getElem?_set_ne hne];exact hj
 obtain⟨e0,k1,k2,k3⟩:=s.obj j _ hj;obtain⟨t1,t2⟩:=s1.reobjH (cs2:=cj2) hj1 hfj.len (fun e b bcs he hb hg=>by
  obtain⟨e',p1,p2,p3⟩:=s1.obj j _ hj1;rw[he]at p1;cases p1;obtain⟨e1,q1,q2⟩:=hl.env j (s.env j e0 k1) e0 k1;rw[he]at q1;cases q1;have hee:e=e0:=by
   rcases q2 with q | q
   ·omega
   ·exact q
  subst hee;rw[hb]at k3;obtain⟨bcs0,r1,r2⟩:=k3;rw[hg]at r1;cases r1;exact hfj.rep hl s.env hr r2)
 exact⟨w',(s2 m hid).trans (t2 m (by simpa using hm)) (Nat.le_refl _),t1,hf.rep hl s.env hr ha⟩
theorem GStep.wkC{m:Nat}{a:List PV}{M N:Mem}(id o:Nat){g ver:Nat}{cs:List PV}{v':PV}(hM:M[id]? =some (.cells g ver cs))(hw:∀v,cs[o]? =some v->PvWk v v')(hN:M.set id (.cells g ver (cs.set o v'))=N):GStep m a M a N:=by
 subst hN;refine⟨fun hm=>by simpa using hm,fun w hh a' h0 hm s ha=>?_⟩;obtain⟨e0,k1,k2,k3⟩:=s.obj id _ hM;obtain⟨t1,t2⟩:=s.reobjH (cs2:=cs.set o v') hM (by simp) (fun e b bcs he hb hg=>by
  rw[k1]at he;cases he;rw[hb]at k3;obtain⟨bcs0,r1,r2⟩:=k3;rw[hg]at r1;cases r1;refine⟨by simpa using r2.len,fun i y z hy hz=>?_⟩;rw[List.getElem?_set]at hy;split at hy
  ·rename_i q;subst q;split at hy
   ·rename_i q2;cases hy;exact hw _ (List.getElem?_eq_getElem q2) w z (r2.get _ _ z (List.getElem?_eq_getElem q2) hz)
   ·cases hy
  ·exact r2.get i y z hy hz)
 exact⟨w,t2 m hm,t1,ha⟩
section
variable {tab:FuncId->Option AF}
theorem oZ{m:Nat}{a:List PV}{M:Mem}{Qn Qr:List PV->Mem->Prop}{Qe:Nat->List PV->Mem->Prop}{os:List AOper}{d size len:Nat}{z:List AV}{ps:List (Nat×Nat×AR)}{chk:List Nat}
  (h:∃cs,pfill a (bW len (z.map ofAV1)) ps=some cs/\RO tab os (ptset a d (.ref M.length 0 size 0 len)) (M++[.cells 0 0 cs]) Qn):
  bQ tab m (.region (⟨some d,.buildSlice size len z ps,none,chk⟩::os)) a M Qn Qr Qe:=by
 intro w hh a' h0 hm s ha;rw[zJ];obtain⟨cs,q1,q2⟩:=h
 delta RO at q2
 obtain⟨cs',f1,f2⟩:=lC ha ps (iJ (cP w z) len) q1;obtain⟨s2,t2⟩:=s.alloc (o:= .cells 0 0 cs) (o':= .cells 0 true cs') (e:=⟨some hh.next,0,0⟩) rfl (fun w' hl he=>⟨_,he,rfl,_,H.get_alloc_new _ _,f2.mono hl s.env⟩);have hv:RepV (w.withEnv M.length ⟨some hh.next,0,0⟩) (.ref M.length 0 size 0 len) (.slice true size hh.next 0 len):= .ref (e:=⟨some hh.next,0,0⟩) (by show(if _=_ then _ else _)=_;rw[if_pos rfl]) rfl rfl;obtain⟨a2',h2,e2,w2,a2,M2,t3,s3,r3,q3⟩:=lS os (by rw[t2.le.id0];have:=t2.len;omega) s2 ((ha.mono t2.le s.env).tset d hv) q2;unfold WO;refine⟨a2',h2,?_,w2,a2,M2,(t2.trans t3 t2.len).weaken hm,s3,r3,q3⟩;simp only[f8,bO,eW,aop,f1];exact e2
theorem bM{g:FuncId}{F:AFn}(hg:tab g=some (.fn F)){args:List PV}{M:Mem}{K:PV->Mem->Prop}(hb:aC 0 args=true)
  (hp:bQ tab 0 F.body (ppad args F.ntmps) [] (oC F.results fun r=>K r M) (oC F.results fun r=>K r M) PKNo):SemC tab g args M K:=by
 refine qJ hb (dV hg (C3 hp (fun b N q=>?_) (fun b N q=>?_) fun i b N q=>?_))
 ·unfold oC at q;exact q
 ·unfold oC at q;exact q
 ·unfold PKNo at q;exact q
end
section
variable {tab:FuncId->Option AF}
open Classical in
theorem aDq{w:PWd}{h:H}{M:Mem}(s:PSt w h M){id g ver:Nat}{cs:List PV}(hm:M[id]? =some (.cells g ver cs))(hu:aC 0 cs=true){v:AV}(hv:RepV w (.ptr id g 0) v):RepV (w.cut h 0 M) (.cp cs 0) v:=by
 obtain⟨e,h1,h2,h3⟩:=s.cellsAt hm
 cases hv with
 | @ptr _ _ _ e' b q1 q2 q3=>
  rw[h1]at q1;cases q1;rcases h3 with⟨h3,_⟩ | ⟨b2,bcs,h3,h4,h5,h6⟩
  ·rw[q3]at h3;cases h3
  ·rw[q3]at h3;cases h3;have hi:(w.cut h 0 M).imm b=some (.cells (e.v0+ver) true bcs):=by show(if _ then _ else _)=_;rw[if_pos ⟨id,Nat.zero_le _,h6⟩];exact h4
   have hr:RepL (w.cut h 0 M) cs bcs:=RepL.low (w:=w) (w':=w.cut h 0 M) (m:=0) rfl (kH s 0) (fun id hi=>by omega) h5 hu;have:=RepV.cp (o:=0) (off:=0) hi (by rw[hr.len];omega) (fun i y z hy hz=>hr.get i y z hy (by simpa using hz));simpa using this
 | @ptrS _ _ _ e' _ q0 q1 q2=>rw[h1]at q1;cases q1;omega
theorem aBy{g:FuncId}{args:List PV}{M:Mem}{K:PV->Mem->Prop}(hb:aC 0 args=true)(hc:SemC tab g args [] fun r M'=>∃id g ver cs,r= .ptr id g 0/\M'[id]? =some (.cells g ver cs)/\aC 0 cs=true/\K (.cp cs 0) M):SemC tab g args M K:=by
 intro w h args' h0 s ha
 let w0:PWd:={w with env:=fun _=>none,id0:=0}
 have s0:PSt w0 h []:=⟨s.imm,(fun id e he=>by cases he),(fun id e b he=>by cases he),(fun id o ho=>by simp at ho),(fun i j x ⟨_,_,h1,_⟩=>by simp at h1),(fun i x ⟨_,_,h1,_⟩=>by simp at h1),s.base⟩;have a0:RepL w0 args args':=ha.low (w:=w) (w':=w0) rfl (fun _ _ h=>h) (fun id hi=>by omega) hb;refine iD (hc w0 h args' (Nat.le_refl _) s0 a0) ?_;rintro v h' ⟨w1,r,M1,p1,p2,p3,id,g,ver,cs,rfl,p4,p5,p6⟩;have q1:=aDq p2 p4 p5 p3;obtain⟨z1,z2⟩:=p2.cut (m:=0) (Nat.zero_le _) (by simp);have p1:=z2 w0 h [] p1;have hle:w1.n0=w.n0:=p1.le.n0;have hnl:∀x id,¬LiveAt w0 [] id x:=fun x id ⟨_,_,h1,_⟩=>by simp at h1
 have hkeep:∀x,x<h.next->h'.get x=h.get x:=fun x hx=>p1.keep x hx (hnl x)
 let w2:PWd:={n0:=w.n0,id0:=w.id0,env:=w.env,imm:=(w1.cut h' 0 M1).imm}
 have hl:Le M.length w w2:=⟨rfl,rfl,fun b o hbo=>p1.le.imm b o hbo,fun id hi e he=>⟨e,he,.inr rfl⟩⟩;have hr:RepV w2 (.cp cs 0) v:=by exact q1.low (w:=w1.cut h' 0 M1) (w':=w2) (m:=0) hle.symm (fun _ _ h=>h) (fun id hi=>by omega) (by simp only[PV.under];exact p5)
 refine⟨w2,_,M,⟨Nat.le_refl _,hl,p1.next,fun x hx _=>hkeep x hx,fun id x hlv _=>hlv,?_⟩,⟨fun b o hbo=>z1.imm b o hbo,s.env,?_,?_,s.inj,?_,Nat.le_trans s.base p1.next⟩,hr,p6⟩
 ·intro x hx;rcases p1.new x hx with e | e | ⟨id,_,e⟩
  ·exact .inl e
  ·exact .inr (.inl e)
  ·exact absurd e (hnl x id)
 ·intro id e b he hbl;exact Nat.lt_of_lt_of_le (s.blk id e b he hbl) p1.next
 ·intro id o ho;exact RepO.mono s hl (s.obj id o ho) (fun e he=>he) (fun e b he hbl=>hkeep b (s.blk id e b he hbl))
 ·intro i x hlv;have hlv:LiveAt w M i x:=hlv;refine⟨?_,(s.sep i x hlv).2⟩;show(w1.cut h' 0 M1).imm x=none
  cases hc:(w1.cut h' 0 M1).imm x with
  | none=>rfl
  | some o=>
   rcases p1.new x (by rw[hc];simp)with e | e | ⟨id,_,e⟩
   ·exact absurd (s.sep i x hlv).1 e
   ·have:=hlv.next s;omega
   ·exact absurd e (hnl x id)
end
def ZMp(o:Option PObj)(k:Nat->List (PV×PV)->Prop)(t:KTag k):Prop:=QMp o k
def RQ(kd:Nat)(ok:Bool)(z x i:PV)(M:Mem)(K:PV->Mem->List Nat->List Nat->Prop)(t:KTag K):Prop:=aBC kd ok z x i M K
def RN(kd:Nat)(m i v:PV)(M:Mem)(K:PV->Mem->List Nat->List Nat->Prop)(t:KTag K):Prop:=aBB kd m i v M K
theorem aDQ(ver:Nat)(es:List (PV×PV))(k:Nat->List (PV×PV)->Prop)(t:KTag k):ZMp (some (.map ver es)) k t=k ver es:=by
 apply propext;constructor
 ·rintro⟨_,_,e,h⟩;cases e;exact h
 ·intro h;exact⟨_,_,rfl,h⟩
section
variable (tab:FuncId->Option AF) (a:List PV) (M:Mem) (K:PV->Mem->List Nat->List Nat->Prop)
theorem OK:RS tab .makeMap a M K=K (.map M.length) (M++[.map 0 []]) [] []:=by delta RS;rfl
theorem VU(kd:Nat)(ok:Bool)(z:AV)(x i:AR):RS tab (.lookup kd ok z x i) a M K=RQ kd ok (ofAV1 z) (pev a x) (pev a i) M K ⟨0⟩:=by delta RS;rfl
theorem FF(kd:Nat)(m i v:AR):RS tab (.mapUpdate kd m i v) a M K=RN kd (pev a m) (pev a i) (pev a v) M K ⟨0⟩:=by delta RS;rfl
end
theorem XP(z v:PV):uH true z (some v)= .tuple [v,.bool true]:=(rfl)
theorem XQ(z v:PV):uH false z (some v)=v:=(rfl)
theorem XR(z:PV):uH true z none= .tuple [z,.bool false]:=(rfl)
theorem XS(z:PV):uH false z none=z:=(rfl)
attribute [irreducible] ZMp RQ RN
def PFrzP(id g:Nat)(cs:List PV):List PV->List PV->Prop
 | [],[]=>True
 | x::a,y::b=>(y= .junk\/x=y\/∃o,x= .ptr id g o/\y= .cp cs o)/\PFrzP id g cs a b
 | _,_=>False
theorem cF(id g:Nat)(cs:List PV):PFrzP id g cs [] []=True:=(rfl)
theorem bU(id g:Nat)(cs:List PV)(x:PV)(a b:List PV):PFrzP id g cs (x::a) (.junk::b)=PFrzP id g cs a b:=by simp[PFrzP]
theorem bT(id g:Nat)(cs:List PV)(x:PV)(a b:List PV):PFrzP id g cs (x::a) (x::b)=PFrzP id g cs a b:=by simp[PFrzP]
theorem cE(id g o:Nat)(cs:List PV)(a b:List PV):PFrzP id g cs (.ptr id g o::a) (.cp cs o::b)=PFrzP id g cs a b:=by simp[PFrzP]
theorem PSt.freezeP{w:PWd}{h:H}{M:Mem}(s:PSt w h M){id g ver:Nat}{cs:List PV}(hm:M[id]? =some (.cells g ver cs))(h0:w.id0<=id):
  ∃w',PSt w' h (M.set id .gone)/\(∀m,m<=id->PStp m w h M w' h (M.set id .gone))/\Le M.length w w'/\∀o x,RepV w (.ptr id g o) x->RepV w' (.cp cs o) x:=by
 obtain⟨e,h1,h2,h3⟩:=s.cellsAt hm;have hid:=aD hm;rcases h3 with⟨hb,rfl⟩ | ⟨b,bcs,hb,hg,hr,hlv⟩
 ·have live:∀i x,LiveAt w (M.set id .gone) i x->LiveAt w M i x:=by
   rintro i x ⟨ob,e',p1,p2,p3,p4⟩;by_cases hi:id=i
   ·subst hi;rw[List.getElem?_set_self hid]at p1;cases p1;exact absurd rfl p2
   ·rw[List.getElem?_set_ne hi]at p1;exact⟨ob,e',p1,p2,p3,p4⟩
  refine⟨w,⟨s.imm,fun i e' he=>by simpa using s.env i e' he,s.blk,?_,fun i j x q1 q2=>s.inj i j x (live i x q1) (live j x q2),fun i x q1=>s.sep i x (live i x q1),s.base⟩,fun m hmm=>⟨by simp;omega,Le.refl _ _,Nat.le_refl _,fun _ _ _=>rfl,fun i x q1 _=>live i x q1,fun x hx=> .inl hx⟩,Le.refl _ _,?_⟩
  ·intro i ob hi;by_cases hid2:id=i
   ·subst hid2;rw[List.getElem?_set_self hid]at hi;cases hi;trivial
   ·rw[List.getElem?_set_ne hid2]at hi;exact s.obj i ob hi
  ·intro o x hx
   cases hx with
   | ptr q1 q2 q3=>rw[h1]at q1;cases q1;rw[hb]at q3;cases q3
   | ptrS x q0 q1 q2=>rw[h1]at q1;cases q1;omega
 ·let w':=w.withImm b (.cells (e.v0+ver) true bcs)
  have hsep:=s.sep id b hlv;have hl:Le M.length w w':=pR hsep.1;have him:∀x,x≠b->w'.imm x=w.imm x:=fun x hx=>by show(if _=_ then _ else _)=_;rw[if_neg hx]
  have hnew:w'.imm b=some (.cells (e.v0+ver) true bcs):=by show(if _=_ then _ else _)=_;rw[if_pos rfl]
  have live:∀i x,LiveAt w' (M.set id .gone) i x->i≠id/\LiveAt w M i x:=by
   rintro i x ⟨ob,e',p1,p2,p3,p4⟩;by_cases hi:id=i
   ·subst hi;rw[List.getElem?_set_self hid]at p1;cases p1;exact absurd rfl p2
   ·rw[List.getElem?_set_ne hi]at p1;exact⟨fun q=>hi q.symm,ob,e',p1,p2,p3,p4⟩
  refine⟨w',⟨?_,fun i e' he=>by simpa using s.env i e' he,s.blk,?_,fun i j x q1 q2=>s.inj i j x (live i x q1).2 (live j x q2).2,?_,s.base⟩,fun m hmm=>⟨by simp;omega,⟨hl.n0,hl.id0,hl.imm,fun i hi=>hl.env i (by omega)⟩,Nat.le_refl _,fun _ _ _=>rfl,fun i x q1 _=>(live i x q1).2,?_⟩,hl,?_⟩
  ·intro x o hx;by_cases e1:x=b
   ·subst e1;rw[hnew]at hx;cases hx;exact hg
   ·rw[him x e1]at hx;exact s.imm x o hx
  ·intro i ob hi;by_cases hid2:id=i
   ·subst hid2;rw[List.getElem?_set_self hid]at hi;cases hi;trivial
   ·rw[List.getElem?_set_ne hid2]at hi;exact RepO.mono s hl (s.obj i ob hi) (fun e' he=>he) (fun _ _ _ _=>rfl)
  ·intro i x q1;obtain⟨hne,q2⟩:=live i x q1;have:x≠b:=by rintro rfl;exact hne (s.inj i id x q2 hlv)
   exact⟨by rw[him x this];exact(s.sep i x q2).1,(s.sep i x q2).2⟩
  ·intro x hx;by_cases e1:x=b
   ·subst e1;exact .inr (.inr ⟨id,hmm,hlv⟩)
   ·rw[him x e1]at hx;exact .inl hx
  ·intro o x hx
   cases hx with
   | ptr q1 q2 q3=>rw[h1]at q1;cases q1;rw[hb]at q3;cases q3;have hs:=hr.mono hl s.env;have:=RepV.cp (o:=o) (off:=0) hnew (by rw[hr.len];omega) (fun i y z hy hz=>hs.get i y z hy (by simpa using hz));simpa using this
   | ptrS x q0 q1 q2=>rw[h1]at q1;cases q1;omega
theorem PFrzP.rep{w w':PWd}{M:Mem}{id g:Nat}{cs:List PV}(hl:Le M.length w w')(hd:∀i e,w.env i=some e->i<M.length)(hf:∀o x,RepV w (.ptr id g o) x->RepV w' (.cp cs o) x):
  ∀{a b:List PV} {a':List AV},PFrzP id g cs a b->RepL w a a'->RepL w' b a'
 | [],[],a',_,h=>⟨h.len,fun i y z q=>by simp at q⟩
 | x::a,y::b,[],_,h=>by have:=h.len;simp at this
 | x::a,y::b,v::a',⟨h1,h2⟩,h=>by
  refine .cons ?_ (PFrzP.rep hl hd hf h2 h.tl);rcases h1 with rfl | rfl | ⟨o,rfl,rfl⟩
  ·exact .junk _
  ·exact h.hd.mono hl hd
  ·exact hf o v h.hd
 | [],_::_,a',hw,h=>hw.elim
 | _::_,[],a',hw,h=>hw.elim
theorem GStep.freezeP{m:Nat}{a b:List PV}{M N:Mem}(id:Nat){g ver:Nat}{cs:List PV}(hid:m<=id)(hM:M[id]? =some (.cells g ver cs))(hf:PFrzP id g cs a b)(hN:M.set id .gone=N):GStep m a M b N:=by subst hN;refine⟨fun hm=>by simpa using hm,fun w hh a' h0 hm s ha=>?_⟩;obtain⟨w',s1,s2,hl,hr⟩:=s.freezeP hM (Nat.le_trans h0 hid);exact⟨w',s2 m hid,s1,hf.rep hl s.env hr ha⟩
def zH(v:PV)(k:ByteArray->Prop)(t:KTag k):Prop:=∃s,v= .str s/\k s
theorem aBa(s:ByteArray)(k:ByteArray->Prop)(t:KTag k):zH (.str s) k t=k s:=by simp[zH]
section
variable (tab:FuncId->Option AF) (a:List PV) (M:Mem) (K:PV->Mem->List Nat->List Nat->Prop)
theorem J5(x i:AR):RS tab (.indexStr x i) a M K=zH (pev a x) (fun s=>qG (pev a i) (fun _ k=>0<=k/\dJ s[k.toNat]? (fun c=>K (.int .u8 c.toNat) M [] []) ⟨0⟩) ⟨0⟩) ⟨0⟩:=by delta RS zH qG dJ;rfl
end
attribute [irreducible] zH
theorem PSt.here{w:PWd}{h:H}{M:Mem}(s:PSt w h M):PSt {w with id0:=M.length} h M:=by
 let w':PWd:={w with id0:=M.length}
 exact⟨s.imm,s.env,s.blk,fun id o ho=>by
   have r:=s.obj id o ho
   cases o with
   | cells g ver cs=>
    obtain⟨e,h1,h2,h3⟩:=r;refine⟨e,h1,h2,?_⟩
    cases hb:e.blk with
    | none=>rw[hb]at h3;exact h3
    | some b=>rw[hb]at h3;obtain⟨bcs,h4,h5⟩:=h3;exact⟨bcs,h4,h5.eqv (w:=w) (w':=w') rfl (fun _ _ h=>h) (fun _ _ h=>h)⟩
   | map ver es=>obtain⟨e,b,h1,h2,h3,es',h4,h5⟩:=r;exact⟨e,b,h1,h2,h3,es',h4,h5.len,fun i y z p q=>⟨(h5.get i y z p q).1.eqv (w:=w) (w':=w') rfl (fun _ _ h=>h) (fun _ _ h=>h),(h5.get i y z p q).2.eqv (w:=w) (w':=w') rfl (fun _ _ h=>h) (fun _ _ h=>h)⟩⟩
   | loop ver r=>obtain⟨e,b,h1,h2,h3,r',h4,h5⟩:=r;exact⟨e,b,h1,h2,h3,r',h4,h5.state,h5.pending,h5.params,h5.assign,h5.body,h5.tmps.eqv (w:=w) (w':=w') rfl (fun _ _ h=>h) (fun _ _ h=>h)⟩
   | gone=>trivial,s.inj,fun i x hl=>⟨(s.sep i x hl).1,fun hq=>by have:i<M.length:=LiveAt.lt (w:=w) hl;have:M.length<=i:=hq;omega⟩,s.base⟩
section
variable (tab:FuncId->Option AF)
variable {tab}
variable {c x y:AC} {a b:List PV} {M N:Mem} {Qn Qr:List PV->Mem->Prop} {Qe:Nat->List PV->Mem->Prop}
end
section
variable {tab:FuncId->Option AF}
end
section
variable {tab:FuncId->Option AF}
theorem qH{m:Nat}{a:List PV}{M:Mem}{Qn Qr:List PV->Mem->Prop}{Qe:Nat->List PV->Mem->Prop}{c:AR}{x y:AC}(hc:pev a c= .bool true)(h:bQ tab m x a M Qn Qr Qe):bQ tab m (.cond c x y) a M Qn Qr Qe:=by intro w hh a' h0 hm s ha;rw[FD];have hv:=aK ha c;rw[hc]at hv;refine⟨true,iK hv,?_⟩;rw[if_pos rfl];exact h w hh a' h0 hm s ha
end
mutual
def PV.young:PV->Bool
 | .sl _ own _ _ cs=>own&&jL cs
 | .agg cs=>jL cs
 | .tuple cs=>jL cs
 | .bool _=>true
 | .int _ _=>true
 | .str _=>true
 | .nilptr=>true
 | .nils=>true
 | .nilmap=>true
 | .nilfunc=>true
 | .niliface=>true
 | .junk=>true
 | .ptr _ _ _=>false
 | .ref _ _ _ _ _=>false
 | .map _=>false
 | .yld _ _=>false
 | .cp _ _=>false
 | .func _ _ _=>false
 | .iface _ _=>false
def jL:List PV->Bool
 | []=>true
 | v::l=>PV.young v&&jL l
end
theorem gV:∀(l:List PV),jL l=true↔∀v∈l,v.young=true
 | []=>by simp[jL]
 | v::l=>by simp[jL,gV l]
theorem pL{l:List PV}(h:jL l=true){i:Nat}{y:PV}(hy:l[i]? =some y):y.young=true:=(gV l).1 h y (List.mem_of_getElem? hy)
theorem FO(k:IntKind)(xs:List Int):jL (xs.map (PV.int k))=true:=(gV _).2 fun v hv=>by obtain⟨x,_,rfl⟩:=List.mem_map.1 hv;simp[PV.young]
theorem R4(f:Bool)(sz n:Nat)(k:IntKind)(xs:List Int):PV.young (.sl f true sz n (xs.map (PV.int k)))=true:=by simp[PV.young,FO]
theorem R5(k:IntKind)(n:Int):PV.young (.int k n)=true:=by simp[PV.young]
theorem wK(b:Bool):PV.young (.bool b)=true:=by simp[PV.young]
theorem wJ(f:Bool)(sz n:Nat)(cs:List PV):PV.young (.sl f true sz n cs)=jL cs:=by simp[PV.young]
theorem RepV.young{w w':PWd}(h0:w'.n0<=w.n0)(hi:∀b o,w.imm b=some o->w.n0<=b->w'.imm b=some o){v:PV}{x:AV}(h:RepV w v x):v.young=true->RepV w' v x:=by
 induction h with
 | junk x=>intro _;exact .junk x
 | bool b=>intro _;exact .bool b
 | int k n=>intro _;exact .int k n
 | str s=>intro _;exact .str s
 | nilptr=>intro _;exact .nilptr
 | nils=>intro _;exact .nils
 | nilmap=>intro _;exact .nilmap
 | nilfunc=>intro _;exact .nilfunc
 | niliface=>intro _;exact .niliface
 | sl h1 h2 h3 h4 h5 h7 h6 ih=>intro hb;simp only[PV.young,Bool.and_eq_true]at hb;obtain⟨q1,q2⟩:=h5 hb.1;exact .sl (hi _ _ h1 q1) h2 h3 h4 (fun _=>⟨Nat.le_trans h0 q1,q2⟩) (fun q=>by rw[hb.1]at q;cases q) (fun i y z p q=>ih i y z p q (pL hb.2 p))
 | slN=>intro _;exact .slN
 | agg h1 h2 ih=>intro hb;simp only[PV.young]at hb;exact .agg h1 (fun i y z p q=>ih i y z p q (pL hb p))
 | tuple h1 h2 ih=>intro hb;simp only[PV.young]at hb;exact .tuple h1 (fun i y z p q=>ih i y z p q (pL hb p))
 | ptr h1 h2 h3=>intro hb;simp[PV.young]at hb
 | ptrS x q h1 h2=>intro hb;simp[PV.young]at hb
 | cp h1 h2 h3 ih=>intro hb;simp[PV.young]at hb
 | ref h1 h2 h3=>intro hb;simp[PV.young]at hb
 | refN h1 h2 h3=>intro hb;simp[PV.young]at hb
 | refS x q h1 h2=>intro hb;simp[PV.young]at hb
 | map h1 h2 h3=>intro hb;simp[PV.young]at hb
 | mapS x q h1 h2=>intro hb;simp[PV.young]at hb
 | func h1 h2 h3 h4 h5 ih1 ih2=>intro hb;simp[PV.young]at hb
 | yld h1 h2 h3 h4 h5 ih=>intro hb;simp[PV.young]at hb
 | yldS x q h1 h2=>intro hb;simp[PV.young]at hb
 | iface h ih=>intro hb;simp[PV.young]at hb
section
variable {tab:FuncId->Option AF}
open Classical in
theorem RG{w w0:PWd}{h:H}{M:Mem}(s:PSt w h M)(hn:w0.n0=w.n0)(him:∀b o,w.imm b=some o->w0.imm b=some o)(hlv:∀id b,LiveAt w M id b->w0.imm b=h.get b){args args2:List PV}(hb:PBor M args args2){args':List AV}(ha:RepL w args args'):RepL w0 args2 args':=by
 induction hb generalizing args' with
 | nil=>exact⟨ha.len,fun i y z hy=>by simp at hy⟩
 | @same v a b hv _ ih=>
  match args',ha with
  | x::l,ha=>exact .cons (ha.hd.low (w:=w) (w':=w0) (m:=0) hn him (fun id hi=>by omega) hv) (ih ha.tl)
  | [],ha=>exact absurd ha.len (by simp)
 | @ref id g ver sz off n cs cs2 a b hm hl hu hps _ ih=>
  match args',ha with
  | x::l,ha=>
   refine .cons ?_ (ih ha.tl);subst hps;obtain⟨e,p1,p2,p3⟩:=s.refAt hm ha.hd;rcases p3 with⟨rfl,rfl,rfl,_,_⟩ | ⟨fl,b,bcs,rfl,p4,p5,p6,p7⟩
   ·simpa [aY]using RepV.slN
   ·have hl2:(aY cs off (n*sz)).length=n*sz:=by simp[aY];omega
    have hg:w0.imm b=h.get b:=hlv id b p7;have hs:=(eI p6 off (n*sz)).low (w:=w) (w':=w0) (m:=0) hn him (fun id hi=>by omega) hu;refine .sl (hg.trans p5) (by rw[hl2,<-p6.len];exact hl) hl2 (fun _ q=>by cases q) (fun q=>by cases q) (fun _ q=>by cases q) (fun i y z hy hz=>hs.get i y z hy ?_);rw[List.getElem?_take,if_pos (by have:=aD hy;omega),List.getElem?_drop];exact hz
  | [],ha=>exact absurd ha.len (by simp)
 | @nest id g ver sz off n cs cs2 a b hm hl hb1 _ ih1 ih=>
  match args',ha with
  | x::l,ha=>
   refine .cons ?_ (ih ha.tl);obtain⟨e,p1,p2,p3⟩:=s.refAt hm ha.hd;have hl2:cs2.length=n*sz:=by rw[<-hb1.len];simp[aY];omega
   rcases p3 with⟨rfl,rfl,rfl,_,_⟩ | ⟨fl,b,bcs,rfl,p4,p5,p6,p7⟩
   ·have:cs2=[]:=List.length_eq_zero_iff.1 (by rw[hl2];simp);subst this;exact RepV.slN
   ·have hg:w0.imm b=h.get b:=hlv id b p7;have hs:=ih1 (eI p6 off (n*sz));refine .sl (hg.trans p5) (by rw[hl2,<-p6.len];exact hl) hl2 (fun _ q=>by cases q) (fun q=>by cases q) (fun _ q=>by cases q) (fun i y z hy hz=>hs.get i y z hy ?_);rw[List.getElem?_take,if_pos (by have:=aD hy;omega),List.getElem?_drop];exact hz
  | [],ha=>exact absurd ha.len (by simp)
 | @agg cs cs2 a b _ _ ih1 ih=>
  match args',ha with
  | x::l,ha=>
   refine .cons ?_ (ih ha.tl)
   cases ha.hd with
   | agg h1 h2=>exact .agg (ih1 ⟨h1,h2⟩).len (ih1 ⟨h1,h2⟩).get
  | [],ha=>exact absurd ha.len (by simp)
open Classical in
theorem tY{g:FuncId}{args args2 args3:List PV}{M:Mem}{K:PV->Mem->Prop}(hb:PBor M args args2)(he:fP args2=args3)(hc:SemC tab g args3 [] fun r _=>r.young=true/\K r M):SemC tab g args M K:=by
 subst he;intro w h args' h0 s ha
 let w0:PWd:={n0:=w.n0,env:=fun _=>none,id0:=0,imm:=fun b=>if ∃id,LiveAt w M id b then h.get b else w.imm b}
 have him:∀b o,w.imm b=some o->w0.imm b=some o:=fun b o hbo=>by
  show(if _ then _ else _)=_;split
  ·exact s.imm b o hbo
  ·exact hbo
 have himm:∀b o,w0.imm b=some o->h.get b=some o:=fun b o hbo=>by
  have hbo:(if ∃id,LiveAt w M id b then h.get b else w.imm b)=some o:=hbo;split at hbo
  ·exact hbo
  ·exact s.imm b o hbo
 have a0:RepL w0 args2 args':=RG (w0:=w0) s rfl him (fun id b hl=>by show(if _ then _ else _)=_;rw[if_pos ⟨id,hl⟩]) hb ha;have hlt:∀b o,w0.imm b=some o->b<h.next:=fun b o hbo=>by
  have hbo:(if ∃id,LiveAt w M id b then h.get b else w.imm b)=some o:=hbo;split at hbo
  ·rename_i q;obtain⟨id,hl⟩:=q;exact hl.next s
  ·exact s.immLt hbo
 let w1:PWd:={w0 with n0:=h.next}
 have s1:PSt w1 h []:=⟨himm,(fun id e he=>by cases he),(fun id e b he=>by cases he),(fun id o ho=>by simp at ho),(fun i j x ⟨_,_,h1,_⟩=>by simp at h1),(fun i x ⟨_,_,h1,_⟩=>by simp at h1),Nat.le_refl _⟩;have a1:RepL w1 (fP args2) args':=a0.age (w:=w0) (w':=w1) hlt (fun _ _ h=>h) (fun _ _ h=>h);refine iD (hc w1 h args' (Nat.le_refl _) s1 a1) ?_;rintro v h' ⟨w2,r,M1,p1,p2,p3,p5,p6⟩;have hnl:∀x id,¬LiveAt w1 [] id x:=fun x id ⟨_,_,h1,_⟩=>by simp at h1
 have hkeep:∀x,x<h.next->h'.get x=h.get x:=fun x hx=>p1.keep x hx (hnl x)
 let w3:PWd:={w with imm:=fun b=>if h.next<=b then w2.imm b else w.imm b}
 have i1:∀b,b<h.next->w3.imm b=w.imm b:=fun b hb=>by show(if _ then _ else _)=_;rw[if_neg (by omega)]
 have i2:∀b,h.next<=b->w3.imm b=w2.imm b:=fun b hb=>by show(if _ then _ else _)=_;rw[if_pos hb]
 have hl:Le M.length w w3:=⟨rfl,rfl,fun b o hbo=>by rw[i1 b (s.immLt hbo)];exact hbo,fun id hi e he=>⟨e,he,.inr rfl⟩⟩;have hn2:w2.n0=h.next:=p1.le.n0;refine⟨w3,r,M,⟨Nat.le_refl _,hl,p1.next,fun x hx _=>hkeep x hx,fun id x hlv _=>hlv,fun x hx=>?_⟩,⟨fun b o hbo=>?_,s.env,fun id e b he hbl=>Nat.lt_of_lt_of_le (s.blk id e b he hbl) p1.next,fun id o ho=>?_,s.inj,fun i x hlv=>?_,Nat.le_trans s.base p1.next⟩,p3.young (w:=w2) (w':=w3) (by rw[hn2];exact s.base) (fun b o hbo hb=>by rw[i2 b (by omega)];exact hbo) p5,p6⟩
 ·by_cases q:h.next<=x
  ·exact .inr (.inl q)
  ·rw[i1 x (by omega)]at hx;exact .inl hx
 ·by_cases q:h.next<=b
  ·rw[i2 b q]at hbo;exact p2.imm b o hbo
  ·rw[i1 b (by omega)]at hbo;rw[hkeep b (by omega)];exact s.imm b o hbo
 ·exact RepO.mono s hl (s.obj id o ho) (fun e he=>he) (fun e b he hbl=>hkeep b (s.blk id e b he hbl))
 ·have hlv:LiveAt w M i x:=hlv;exact⟨by rw[i1 x (hlv.next s)];exact(s.sep i x hlv).1,(s.sep i x hlv).2⟩
end
mutual
def PV.sh(k:Nat):PV->PV
 | .ref id g sz off n=> .ref (id+k) g sz off n
 | .ptr id g o=> .ptr (id+k) g o
 | .agg cs=> .agg (shL k cs)
 | .tuple cs=> .tuple (shL k cs)
 | v=>v
def shL(k:Nat):List PV->List PV
 | []=>[]
 | v::l=>PV.sh k v::shL k l
end
mutual
def PV.shOk:PV->Bool
 | .ref _ _ _ _ _=>true
 | .ptr _ _ _=>true
 | .agg cs=>nI cs
 | .tuple cs=>nI cs
 | .sl _ own _ _ cs=>own&&jL cs
 | .bool _=>true
 | .int _ _=>true
 | .str _=>true
 | .nilptr=>true
 | .nils=>true
 | .nilmap=>true
 | .nilfunc=>true
 | .niliface=>true
 | .junk=>true
 | _=>false
def nI:List PV->Bool
 | []=>true
 | v::l=>PV.shOk v&&nI l
end
def shO(k:Nat):PObj->PObj
 | .cells g v cs=> .cells g v (shL k cs)
 | _=> .gone
def aEo:PObj->Bool
 | .cells _ _ cs=>nI cs
 | _=>true
theorem vQ(k:Nat):∀(l:List PV) (i:Nat),(shL k l)[i]? =(l[i]?).map (PV.sh k)
 | [],i=>by simp[shL]
 | v::l,0=>by simp[shL]
 | v::l,i+1=>by simp[shL,vQ k l i]
theorem vP(k:Nat):∀l:List PV,(shL k l).length=l.length
 | []=>rfl
 | v::l=>by simp[shL,vP k l]
theorem sY:∀(l:List PV),nI l=true↔∀v∈l,v.shOk=true
 | []=>by simp[nI]
 | v::l=>by simp[nI,sY l]
theorem sZ{l:List PV}(h:nI l=true){i:Nat}{y:PV}(hy:l[i]? =some y):y.shOk=true:=(sY l).1 h y (List.mem_of_getElem? hy)
theorem RepV.sh{k:Nat}{w w':PWd}(h0:w'.n0<=w.n0)(hi:∀b o,w.imm b=some o->w.n0<=b->w'.imm b=some o)(he:∀id e,w.env id=some e->w'.env (id+k)=some e){v:PV}{x:AV}(h:RepV w v x):v.shOk=true->RepV w' (v.sh k) x:=by
 induction h with
 | junk x=>intro _;exact .junk x
 | bool b=>intro _;exact .bool b
 | int k n=>intro _;exact .int k n
 | str s=>intro _;exact .str s
 | nilptr=>intro _;exact .nilptr
 | nils=>intro _;exact .nils
 | nilmap=>intro _;exact .nilmap
 | nilfunc=>intro _;exact .nilfunc
 | niliface=>intro _;exact .niliface
 | sl h1 h2 h3 h4 h5 h7 h6 ih=>intro hb;simp only[PV.shOk,Bool.and_eq_true]at hb;exact(RepV.sl h1 h2 h3 h4 h5 h7 h6).young h0 hi (by simp only[PV.young,hb.1,hb.2,Bool.and_self])
 | slN=>intro _;exact .slN
 | agg h1 h2 ih=>intro hb;simp only[PV.shOk]at hb;refine .agg (by rw[vP,h1]) (fun i y z p q=>?_);rw[vQ]at p;obtain⟨u,hu,rfl⟩:=Option.map_eq_some_iff.1 p;exact ih i u z hu q (sZ hb hu)
 | tuple h1 h2 ih=>intro hb;simp only[PV.shOk]at hb;refine .tuple (by rw[vP,h1]) (fun i y z p q=>?_);rw[vQ]at p;obtain⟨u,hu,rfl⟩:=Option.map_eq_some_iff.1 p;exact ih i u z hu q (sZ hb hu)
 | ptr h1 h2 h3=>intro _;exact .ptr (he _ _ h1) h2 h3
 | ptrS x q h1 h2=>intro _;exact .ptrS x q (he _ _ h1) h2
 | cp h1 h2 h3 ih=>intro hb;simp[PV.shOk]at hb
 | ref h1 h2 h3=>intro _;exact .ref (he _ _ h1) h2 h3
 | refN h1 h2 h3=>intro _;exact .refN (he _ _ h1) h2 h3
 | refS x q h1 h2=>intro _;exact .refS x q (he _ _ h1) h2
 | map h1 h2 h3=>intro hb;simp[PV.shOk]at hb
 | mapS x q h1 h2=>intro hb;simp[PV.shOk]at hb
 | func h1 h2 h3 h4 h5 ih1 ih2=>intro hb;simp[PV.shOk]at hb
 | yld h1 h2 h3 h4 h5 ih=>intro hb;simp[PV.shOk]at hb
 | yldS x q h1 h2=>intro hb;simp[PV.shOk]at hb
 | iface h ih=>intro hb;simp[PV.shOk]at hb
theorem RepL.shl{k:Nat}{w w':PWd}(h0:w'.n0<=w.n0)(hi:∀b o,w.imm b=some o->w.n0<=b->w'.imm b=some o)(he:∀id e,w.env id=some e->w'.env (id+k)=some e){l:List PV}{l':List AV}(h:RepL w l l')(hb:nI l=true):RepL w' (shL k l) l':=
 ⟨by rw[vP];exact h.len,fun i y z p q=>by
  rw[vQ]at p;obtain⟨u,hu,rfl⟩:=Option.map_eq_some_iff.1 p;exact(h.get i u z hu q).sh h0 hi he (sZ hb hu)⟩
section
variable {tab:FuncId->Option AF}
open Classical in
theorem aBz{g:FuncId}{args args2 args3:List PV}{M:Mem}{K:PV->Mem->Prop}(hb:PBor M args args2)(he:fP args2=args3)
  (hc:SemC tab g args3 [] fun r N=>∃N':Mem,(∀(i:Nat) o,N'[i]? =some o->o= .gone\/N[i]? =some o)/\N.length<=N'.length/\r.shOk=true/\N'.all aEo=true/\K (r.sh M.length) (M++N'.map (shO M.length))):SemC tab g args M K:=by
 subst he;intro w h args' h0 s ha
 let w0:PWd:={n0:=w.n0,env:=fun _=>none,id0:=0,imm:=fun b=>if ∃id,LiveAt w M id b then h.get b else w.imm b}
 have him:∀b o,w.imm b=some o->w0.imm b=some o:=fun b o hbo=>by
  show(if _ then _ else _)=_;split
  ·exact s.imm b o hbo
  ·exact hbo
 have himm:∀b o,w0.imm b=some o->h.get b=some o:=fun b o hbo=>by
  have hbo:(if ∃id,LiveAt w M id b then h.get b else w.imm b)=some o:=hbo;split at hbo
  ·exact hbo
  ·exact s.imm b o hbo
 have a0:RepL w0 args2 args':=RG (w0:=w0) s rfl him (fun id b hl=>by show(if _ then _ else _)=_;rw[if_pos ⟨id,hl⟩]) hb ha;have hlt:∀b o,w0.imm b=some o->b<h.next:=fun b o hbo=>by
  have hbo:(if ∃id,LiveAt w M id b then h.get b else w.imm b)=some o:=hbo;split at hbo
  ·rename_i q;obtain⟨id,hl⟩:=q;exact hl.next s
  ·exact s.immLt hbo
 let w1:PWd:={w0 with n0:=h.next}
 have s1:PSt w1 h []:=⟨himm,(fun id e he=>by cases he),(fun id e b he=>by cases he),(fun id o ho=>by simp at ho),(fun i j x ⟨_,_,h1,_⟩=>by simp at h1),(fun i x ⟨_,_,h1,_⟩=>by simp at h1),Nat.le_refl _⟩;have a1:RepL w1 (fP args2) args':=a0.age (w:=w0) (w':=w1) hlt (fun _ _ h=>h) (fun _ _ h=>h);refine iD (hc w1 h args' (Nat.le_refl _) s1 a1) ?_;rintro v h' ⟨w2,r,N,p1,p2,p5,N',n1,n2,r1,o1,p6⟩;have hnl:∀x id,¬LiveAt w1 [] id x:=fun x id ⟨_,_,h1,_⟩=>by simp at h1
 have hkeep:∀x,x<h.next->h'.get x=h.get x:=fun x hx=>p1.keep x hx (hnl x);have hn2:w2.n0=h.next:=p1.le.n0;have hid2:w2.id0=0:=p1.le.id0
 --what is live in the callee's end is new
 have hfresh:∀i x,LiveAt w2 N i x->h.next<=x:=fun i x hl=>by have:=(p2.sep i x hl).2 (by rw[hid2];exact Nat.zero_le _);rw[hn2]at this;exact this
 let m:=M.length
 let w3:PWd:={w with imm:=fun b=>if h.next<=b then w2.imm b else w.imm b,env:=fun id=>if id<m then w.env id else w2.env (id-m)}
 have i1:∀b,b<h.next->w3.imm b=w.imm b:=fun b hb=>by show(if _ then _ else _)=_;rw[if_neg (by omega)]
 have i2:∀b,h.next<=b->w3.imm b=w2.imm b:=fun b hb=>by show(if _ then _ else _)=_;rw[if_pos hb]
 have e1:∀id,id<m->w3.env id=w.env id:=fun id hi=>by show(if _ then _ else _)=_;rw[if_pos hi]
 have e2:∀id,w3.env (id+m)=w2.env id:=fun id=>by show(if _ then _ else _)=_;rw[if_neg (by omega),Nat.add_sub_cancel]
 have hl:Le M.length w w3:=⟨rfl,rfl,fun b o hbo=>by rw[i1 b (s.immLt hbo)];exact hbo,fun id hi e he=>⟨e,by rw[e1 id hi];exact he,.inr rfl⟩⟩;have g1:∀id,id<m->(M++N'.map (shO m))[id]? =M[id]? :=fun id hi=>List.getElem?_append_left hi;have g2:∀id,¬id<m->(M++N'.map (shO m))[id]? =(N'[id-m]?).map (shO m):=fun id hi=>by
  rw[List.getElem?_append_right (by omega),List.getElem?_map]
 have shE:∀id e,w2.env id=some e->w3.env (id+m)=some e:=fun id e he=>by rw[e2];exact he
 have shI:∀b o,w2.imm b=some o->w2.n0<=b->w3.imm b=some o:=fun b o hbo hb=>by rw[i2 b (by omega)];exact hbo
 have shN:w3.n0<=w2.n0:=by rw[hn2];exact s.base
 have lv1:∀i x,i<m->LiveAt w3 (M++N'.map (shO m)) i x->LiveAt w M i x:=by rintro i x hi ⟨o,e,q1,q2,q3,q4⟩;rw[g1 i hi]at q1;rw[e1 i hi]at q3;exact⟨o,e,q1,q2,q3,q4⟩
 have lv2:∀i x,¬i<m->LiveAt w3 (M++N'.map (shO m)) i x->LiveAt w2 N (i-m) x:=by
  rintro i x hi ⟨o,e,q1,q2,q3,q4⟩;rw[g2 i hi]at q1;obtain⟨o',ho',rfl⟩:=Option.map_eq_some_iff.1 q1;have q3:w2.env (i-m)=some e:=by rw[<-e2,Nat.sub_add_cancel (by omega)];exact q3
  rcases n1 _ _ ho' with rfl | hN
  ·exact absurd rfl q2
  ·exact⟨o',e,hN,fun q=>q2 (by rw[q];rfl),q3,q4⟩
 refine⟨w3,r.sh m,M++N'.map (shO m),⟨by simp,hl,p1.next,fun x hx _=>hkeep x hx,fun id x hlv hx=>?_,fun x hx=>?_⟩,⟨fun b o hbo=>?_,fun id e he=>?_,fun id e b he hbl=>?_,fun id o ho=>?_,fun i j x h1 h2=>?_,fun i x hlv=>?_,Nat.le_trans s.base p1.next⟩,p5.sh shN shI shE r1,p6⟩
 ·by_cases q:id<m
  ·exact lv1 id x q hlv
  ·have:=hfresh _ x (lv2 id x q hlv);omega
 ·by_cases q:h.next<=x
  ·exact .inr (.inl q)
  ·rw[i1 x (by omega)]at hx;exact .inl hx
 ·by_cases q:h.next<=b
  ·rw[i2 b q]at hbo;exact p2.imm b o hbo
  ·rw[i1 b (by omega)]at hbo;rw[hkeep b (by omega)];exact s.imm b o hbo
 ·by_cases q:id<m
  ·simp;omega
  ·have he:w2.env (id-m)=some e:=by rw[<-e2,Nat.sub_add_cancel (by omega)];exact he
   have:=p2.env _ _ he;simp;omega
 ·by_cases q:id<m
  ·rw[e1 id q]at he;exact Nat.lt_of_lt_of_le (s.blk id e b he hbl) p1.next
  ·have he:w2.env (id-m)=some e:=by rw[<-e2,Nat.sub_add_cancel (by omega)];exact he
   exact p2.blk _ e b he hbl
 ·by_cases q:id<m
  ·rw[g1 id q]at ho;exact RepO.mono s hl (s.obj id o ho) (fun e he=>by rw[e1 id q];exact he) (fun e b he hbl=>hkeep b (s.blk id e b he hbl))
  ·rw[g2 id q]at ho;obtain⟨o',ho',rfl⟩:=Option.map_eq_some_iff.1 ho;have ok:=(List.all_eq_true.1 o1) o' (List.mem_of_getElem? ho');rcases n1 _ _ ho' with rfl | hN
   ·trivial
   ·have hr:=p2.obj _ _ hN
    match o',hr,ok with
    | .cells gg vv cs,⟨e,q4,q5,q6⟩,ok=>
     refine⟨e,?_,q5,?_⟩
     ·have:=shE _ _ q4;rwa [Nat.sub_add_cancel (by omega)]at this
     ·cases hbb:e.blk with
      | none=>rw[hbb]at q6;simp only at q6 ⊢;subst q6;simp[shL]
      | some b=>rw[hbb]at q6;obtain⟨bcs,z1,z2⟩:=q6;exact⟨bcs,z1,z2.shl shN shI shE ok⟩
    | .map _ _,_,_=>trivial
    | .loop _ _,_,_=>trivial
    | .gone,_,_=>trivial
 ·by_cases qi:i<m
  ·by_cases qj:j<m
   ·exact s.inj i j x (lv1 i x qi h1) (lv1 j x qj h2)
   ·have a:=(lv1 i x qi h1).next s;have b:=hfresh _ x (lv2 j x qj h2);omega
  ·by_cases qj:j<m
   ·have a:=(lv1 j x qj h2).next s;have b:=hfresh _ x (lv2 i x qi h1);omega
   ·have:=p2.inj _ _ x (lv2 i x qi h1) (lv2 j x qj h2);omega
 ·by_cases q:i<m
  ·have hlv:=lv1 i x q hlv;exact⟨by rw[i1 x (hlv.next s)];exact(s.sep i x hlv).1,(s.sep i x hlv).2⟩
  ·have hlv:=lv2 i x q hlv;have hf:=hfresh _ x hlv;exact⟨by rw[i2 x hf];exact(p2.sep _ x hlv).1,fun _=>by have:=s.base;show w.n0<=x;omega⟩
end
def aF8(len size:Nat)(x:PV)(l r:Option Int)(M:Mem)(k:PV->List Nat->Prop)(t:KTag k):Prop:=aGc len size x l r M k
def aBr(x:PV)(M:Mem)(k:PV->List Nat->Prop)(t:KTag k):Prop:=aGh x M k
def aBj(x:PV)(M:Mem)(k:PV->List Nat->Prop)(t:KTag k):Prop:=aBD x M k
theorem aBd(len size id g o:Nat)(l r:Option Int)(M:Mem)(k:PV->List Nat->Prop)(t:KTag k):
  aF8 len size (.ptr id g o) l r M k t=ZOb M[id]? g (fun _ cs=>(o+len*size<=cs.length/\0<=l.getD 0/\l.getD 0<=r.getD len/\r.getD len<=len)/\k (.ref id g size (o+(l.getD 0).toNat*size) (r.getD len-l.getD 0).toNat) [id]) ⟨0⟩:=by unfold ZOb;rfl
theorem VL(M:Mem)(k:PV->List Nat->Prop)(t:KTag k):aBr .nils M k t=k (.str ⟨#[]⟩) []:=(rfl)
theorem aDX(fl own:Bool)(sz n:Nat)(cs:List PV)(M:Mem)(k:PV->List Nat->Prop)(t:KTag k):aBr (.sl fl own sz n cs) M k t=(sz=1/\dJ (kA cs) (fun s=>k (.str ⟨s.toArray⟩) []) ⟨0⟩):=by unfold dJ;rfl
theorem aBq(id g sz off n:Nat)(M:Mem)(k:PV->List Nat->Prop)(t:KTag k):aBr (.ref id g sz off n) M k t=ZOb M[id]? g (fun _ cs=>(sz=1/\off+n<=cs.length)/\dJ (kA (aY cs off n)) (fun s=>k (.str ⟨s.toArray⟩) [id]) ⟨0⟩) ⟨0⟩:=by unfold ZOb dJ;rfl
theorem VB(id:Nat)(M:Mem)(k:PV->List Nat->Prop)(t:KTag k):aBj (.map id) M k t=ZMp M[id]? (fun _ es=>k (p64 es.length) [id]) ⟨0⟩:=by unfold ZMp;rfl
section
variable (tab:FuncId->Option AF) (a:List PV) (M:Mem) (K:PV->Mem->List Nat->List Nat->Prop)
theorem J2(x:AR)(lo hi:Option AR):RS tab (.sliceStr x lo hi) a M K=zH (pev a x) (fun s=>vH a lo (fun l=>vH a hi (fun r=>(0<=l.getD 0/\l.getD 0<=r.getD s.size/\r.getD s.size<=s.size)/\K (.str (s.extract (l.getD 0).toNat (r.getD s.size).toNat)) M [] []) ⟨0⟩) ⟨0⟩) ⟨0⟩:=by delta RS zH vH;rfl
theorem VV(x:AR):RS tab (.lenStr x) a M K=zH (pev a x) (fun s=>K (p64 s.size) M [] []) ⟨0⟩:=by delta RS zH;rfl
theorem J3(len size:Nat)(x:AR)(lo hi:Option AR):RS tab (.sliceArr len size x lo hi) a M K=vH a lo (fun l=>vH a hi (fun r=>aF8 len size (pev a x) l r M (fun v rd=>K v M rd []) ⟨0⟩) ⟨0⟩) ⟨0⟩:=by delta RS vH;rfl
theorem AX(x:AR):RS tab (.bytesToStr x) a M K=aBr (pev a x) M (fun v rd=>K v M rd []) ⟨0⟩:=by delta RS;rfl
theorem VW(x:AR):RS tab (.lenMap x) a M K=aBj (pev a x) M (fun v rd=>K v M rd []) ⟨0⟩:=by delta RS;rfl
end
theorem N1(kd:Nat)(ok:Bool)(z:PV)(id:Nat)(s:ByteArray)(M:Mem)(K:PV->Mem->List Nat->List Nat->Prop)(t:KTag K):
  RQ kd ok z (.map id) (.str s) M K t=ZMp M[id]? (fun _ es=>dJ (dH kd (.str s) es) (fun r=>K (uH ok z r) M [id] []) ⟨0⟩) ⟨0⟩:=by unfold ZMp RQ;delta dJ;rfl
theorem N0(kd:Nat)(id:Nat)(s:ByteArray)(v:PV)(M:Mem)(K:PV->Mem->List Nat->List Nat->Prop)(t:KTag K):
  RN kd (.map id) (.str s) v M K t=ZMp M[id]? (fun ver es=>dJ (dH kd (.str s) es) (fun _=>v.one=true/\K (.tuple []) (M.set id (.map (ver+1) (gH kd (.str s) (.str s) v es))) [] [id]) ⟨0⟩) ⟨0⟩:=by unfold ZMp RN;delta dJ;rfl
theorem NQ(a b:ByteArray):(a==b)=decide (a=b):=by
 cases a with | mk x=>cases b with | mk y=>
 show(x==y)=_;by_cases h:x=y
 ·subst h;simp
 ·simp[h]
def smE(l:List (ByteArray×PV)):List (PV×PV):=l.map fun p=>(PV.str p.1,p.2)
def j9(k:ByteArray):List (ByteArray×PV)->Option PV
 | []=>none
 | p::l=>if k=p.1 then some p.2 else j9 k l
theorem oH(l:List (ByteArray×PV)):(smE l).length=l.length:=List.length_map _
theorem GP(k:ByteArray):∀l:List (ByteArray×PV),dH 2 (.str k) (smE l)=some (j9 k l)
 | []=>rfl
 | p::l=>by
  show(match some (k==p.1)with | some true=>some (some _) | some false=>dH 2 (.str k) (smE l) | none=>none)=_;unfold j9;by_cases e:k=p.1
  ·rw[if_pos e,show(k==p.1)=true by rw[NQ];simp[e]]
  ·rw[if_neg e,show(k==p.1)=false by rw[NQ];simp[e]];exact GP k l
theorem q9(k:ByteArray)(v:PV):∀l:List (ByteArray×PV),j9 k l=none->gH 2 (.str k) (.str k) v (smE l)=smE (l++[(k,v)])
 | [],_=>rfl
 | p::l,h=>by
  unfold j9 at h;by_cases e:k=p.1
  ·rw[if_pos e]at h;cases h
  ·rw[if_neg e]at h;show(match some (k==p.1)with | some true=>_ | _=>_::gH 2 (.str k) (.str k) v (smE l))=_;rw[show(k==p.1)=false by rw[NQ];simp[e],q9 k v l h];rfl
theorem XT(n:Nat)(M:Mem)(s:ByteArray):fG n M (.str s)=some (.str s):=rfl
theorem SA(m:Nat)(s:ByteArray):PV.under m (.str s)=true:=by simp[PV.under]
theorem aCs(s:ByteArray):PV.one (.str s)=true:=rfl
theorem LM(s:ByteArray):bS (.str s)=[.str s]:=rfl
theorem aCw(i:Nat):PV.one (.map i)=true:=rfl
theorem LP(i:Nat):bS (.map i)=[.map i]:=rfl
theorem D1(kd:Nat)(k:AV):dH kd k []=some none:=rfl
theorem HF(kd:Nat)(key:PV)(k:AV)(v:PV):gH kd key k v []=[(key,v)]:=rfl
attribute [irreducible] aF8 aBr aBj
set_option linter.defProp false
def PT:=(And.intro (And.intro (And.intro (And.intro (And.intro @VV @OK) (And.intro @VU @FF)) (And.intro (And.intro @VW @aDQ) (And.intro @N1 @N0))) (And.intro (And.intro (And.intro @VB @XP) (And.intro @XQ @XR)) (And.intro (And.intro @XS @GP) (And.intro @oH @J2)))) (And.intro (And.intro (And.intro (And.intro @J3 @AX) (And.intro @J5 @aBa)) (And.intro (And.intro @aBd @VL) (And.intro @aDX @aBq))) (And.intro (And.intro (And.intro @XT @SA) (And.intro @aCs @LM)) (And.intro (And.intro @aCw @LP) (And.intro @D1 @HF)))))
mutual
theorem lV{m n:Nat}(h:m<=n):∀v:PV,v.under m=true->v.under n=true
 | .ptr id g o,q=>by simp only[PV.under,decide_eq_true_eq]at q ⊢;omega
 | .ref id g sz off k,q=>by simp only[PV.under,decide_eq_true_eq]at q ⊢;omega
 | .map id,q=>by simp only[PV.under,decide_eq_true_eq]at q ⊢;omega
 | .yld id f,q=>by simp only[PV.under,Bool.and_eq_true,decide_eq_true_eq]at q ⊢;exact⟨by omega,cY h f q.2⟩
 | .cp cs o,q=>by simp only[PV.under]at q ⊢;exact cY h cs q
 | .sl a b c d cs,q=>by simp only[PV.under]at q ⊢;exact cY h cs q
 | .func fn f c,q=>by simp only[PV.under,Bool.and_eq_true]at q ⊢;exact⟨cY h f q.1,cY h c q.2⟩
 | .iface t v,q=>by simp only[PV.under]at q ⊢;exact lV h v q
 | .agg cs,q=>by simp only[PV.under]at q ⊢;exact cY h cs q
 | .tuple cs,q=>by simp only[PV.under]at q ⊢;exact cY h cs q
 | .junk,_=>by simp[PV.under]
 | .bool _,_=>by simp[PV.under]
 | .int _ _,_=>by simp[PV.under]
 | .str _,_=>by simp[PV.under]
 | .nilptr,_=>by simp[PV.under]
 | .nils,_=>by simp[PV.under]
 | .nilmap,_=>by simp[PV.under]
 | .nilfunc,_=>by simp[PV.under]
 | .niliface,_=>by simp[PV.under]
theorem cY{m n:Nat}(h:m<=n):∀l:List PV,aC m l=true->aC n l=true
 | [],_=>by simp[aC]
 | v::l,q=>by simp only[aC,Bool.and_eq_true]at q ⊢;exact⟨lV h v q.1,cY h l q.2⟩
end
theorem M6{m n:Nat}(h:m<=n){o:PObj}(q:aI m o=true):aI n o=true:=by
 cases o with
 | cells g ver cs=>exact cY h cs q
 | map ver es=>refine List.all_eq_true.2 fun p hp=>?_;have:=(List.all_eq_true.1 q) p hp;simp only[Bool.and_eq_true]at this ⊢;exact⟨lV h _ this.1,lV h _ this.2⟩
 | gone=>rfl
 | loop ver r=>cases q
theorem cK{m n:Nat}(h:m<=n){l:Mem}(q:l.all (aI m)=true):l.all (aI n)=true:=
 List.all_eq_true.2 fun o ho=>M6 h ((List.all_eq_true.1 q) o ho)
theorem GStep.dropM{m:Nat}{a b:List PV}{M N:Mem}(n:Nat)(hn:m<=n)(hl:n<=M.length)(hw:PWeak a b)(ha:aC n b=true)(hM:(M.take n).all (aI n)=true)(hN:M.take n=N):GStep m a M b N:=by subst hN;exact GStep.cutF n hn hl hw (iM ha) (lD hM)
theorem DQ{n:Nat}{l:List (ByteArray×PV)}(h:∀p∈l,p.2.under n=true)(ver:Nat):aI n (.map ver (l.map fun p=>(PV.str p.1,p.2)))=true:=by refine List.all_eq_true.2 fun p hp=>?_;obtain⟨q,hq,rfl⟩:=List.mem_map.1 hp;simp only[Bool.and_eq_true];exact⟨by simp[PV.under],h q hq⟩
section
variable {tab:FuncId->Option AF}
theorem mR{m:Nat}{a:List PV}{M:Mem}{Qn Qr:List PV->Mem->Prop}{Qe:Nat->List PV->Mem->Prop}{os:List AOper}(k:Nat){d size len:Nat}{z:List AV}{ps:List (Nat×Nat×AR)}{chk:List Nat}
  (hk:os[k]? =some ⟨some d,.buildSlice size len z ps,none,chk⟩)
  (h:RO tab (os.take k) a M fun b N=>∃cs,pfill b (bW len (z.map ofAV1)) ps=some cs/\RO tab (os.drop (k+1)) (ptset b d (.ref N.length 0 size 0 len)) (N++[.cells 0 0 cs]) Qn):
  bQ tab m (.region os) a M Qn Qr Qe:=by
 have he:os=os.take k++⟨some d,.buildSlice size len z ps,none,chk⟩::os.drop (k+1):=by obtain⟨hl,e⟩:=List.getElem?_eq_some_iff.1 hk;rw[<-e,List.getElem_cons_drop,List.take_append_drop]
 generalize os.take k=os1 at he h;generalize os.drop (k+1)=os2 at he h;subst he;intro w hh a' h0 hm s ha;rw[zJ]
 delta RO at h
 obtain⟨a1',h1,e1,w1,b,N,t1,s1,r1,cs,q1,q2⟩:=lS os1 (Nat.le_trans h0 hm) s ha h;obtain⟨cs',f1,f2⟩:=lC r1 ps (iJ (cP w1 z) len) q1;obtain⟨s2,t2⟩:=s1.alloc (o:= .cells 0 0 cs) (o':= .cells 0 true cs') (e:=⟨some h1.next,0,0⟩) rfl (fun w' hl he=>⟨_,he,rfl,_,H.get_alloc_new _ _,f2.mono hl s1.env⟩);have hv:RepV (w1.withEnv N.length ⟨some h1.next,0,0⟩) (.ref N.length 0 size 0 len) (.slice true size h1.next 0 len):= .ref (e:=⟨some h1.next,0,0⟩) (by show(if _=_ then _ else _)=_;rw[if_pos rfl]) rfl rfl;obtain⟨a2',h2,e2,w2,a2,M2,t3,s3,r3,q3⟩:=lS os2 (by rw[t2.le.id0,t1.le.id0];have:=t1.len;have:=t2.len;omega) s2 ((r1.mono t2.le s1.env).tset d hv) q2;unfold WO;refine⟨a2',h2,?_,w2,a2,M2,((t1.trans t2 t1.len).trans t3 (Nat.le_trans t1.len t2.len)).weaken hm,s3,r3,q3⟩;have app:∀(o1 o2:List AOper) {a b:List AV} {h h1:H},f8 (lim tab) o1 a h=some (b,h1)->f8 (lim tab) (o1++o2) a h=f8 (lim tab) o2 b h1:=by
  intro o1
  induction o1 with
  | nil=>intro o2 a b h h1 e;simp only[f8]at e;cases e;rfl
  | cons o o1 ih=>
   intro o2 a b h h1 e;simp only[f8,List.cons_append]at e ⊢
   cases hw:bO a o.guard with
   | none=>rw[hw]at e;cases e
   | some t=>
    rw[hw]at e
    cases t with
    | false=>exact ih o2 e
    | true=>
     simp only at e ⊢;split at e
     ·exact ih o2 e
     ·cases e
 rw[app os1 _ e1];simp only[f8,bO,eW,aop,f1];exact e2
end
def aDS(v:PV)(kn:Prop)(ki:TypeId->PV->Prop)(t:KTag ki):Prop:=aGe v kn ki
theorem aBm(kn:Prop)(ki:TypeId->PV->Prop)(t:KTag ki):aDS .niliface kn ki t=kn:=(rfl)
theorem VC(ty:TypeId)(v:PV)(kn:Prop)(ki:TypeId->PV->Prop)(t:KTag ki):aDS (.iface ty v) kn ki t=ki ty v:=(rfl)
theorem aBg(M:Mem)(k:Bool->Prop)(t:KTag k):qF 4 .niliface .niliface M k t=k true:=by simp[qF,JW]
theorem aBf(ty:TypeId)(v:PV)(M:Mem)(k:Bool->Prop)(t:KTag k):qF 4 (.iface ty v) .niliface M k t=k false:=by simp[qF,JW]
theorem aDO(id g o:Nat)(M:Mem)(k:Bool->Prop)(t:KTag k):qF 1 (.ptr id g o) .nilptr M k t=ZOb M[id]? g (fun _ _=>k false) ⟨0⟩:=by unfold qF ZOb;rfl
theorem aDP(M:Mem)(k:Bool->Prop)(t:KTag k):qF 1 .nilptr .nilptr M k t=k true:=by simp[qF,JW]
theorem xK(k1 k2:IntKind)(t' g:Int)(r:List PV)(t:TypeId):dF (.int k1 t':: .int k2 g::r) t=if t'=(t:Int)then some g.toNat else dF r t:=(rfl)
theorem oL(t:TypeId)(v:PV):PV.one (.iface t v)=true:=(rfl)
theorem D6:PV.one .niliface=true:=(rfl)
theorem i7(t:TypeId)(v:PV):bS (.iface t v)=[.iface t v]:=(rfl)
theorem vE:bS .niliface=[.niliface]:=(rfl)
theorem FZ(m:Nat)(t:TypeId)(v:PV):PV.under m (.iface t v)=PV.under m v:=by simp[PV.under]
theorem wM(m:Nat):PV.under m .niliface=true:=by simp[PV.under]
section
variable (tab:FuncId->Option AF) (a:List PV) (M:Mem) (K:PV->Mem->List Nat->List Nat->Prop)
theorem OD(t:TypeId)(n:String)(tbl cap:List PV)(ty:TypeId)(v:PV)(args:List PV)(K:PV->Mem->Prop):
  zO tab (.func (.methodOf t n) tbl cap) (.iface ty v::args) M K=dJ (dF tbl ty) (fun g=>SemC tab g (v::args) M K) ⟨0⟩:=by delta dJ;rfl
theorem aEc(t:TypeId)(z:AV)(x:AR):RS tab (.asTo t z x) a M K=aDS (pev a x) (K (.tuple [ofAV1 z,.bool false]) M [] []) (fun t' v=>K (if t'=t then .tuple [v,.bool true]else .tuple [ofAV1 z,.bool false]) M [] []) ⟨0⟩:=by delta RS;rfl
theorem mS(t:TypeId)(x:AR):RS tab (.mkIface t x) a M K=K (.iface t (pev a x)) M [] []:=by delta RS;rfl
theorem aD1(v:PV)(k:ByteArray->Prop):aD2 v k=∃s,v= .str s/\k s:=by cases v<;>simp[aD2]
theorem AU(x:AR):RS tab (.strToBytes x) a M K=zH (pev a x) (fun s=>s.size<=140737488355328/\K (.sl true false 1 s.size (s.data.toList.map fun b=> .int .u8 b.toNat)) M [] []) ⟨0⟩:=by
 delta RS zH
 exact aD1 _ _
end
attribute [irreducible] aDS
def PI:=(And.intro (And.intro (And.intro (And.intro @aEc @mS) (And.intro @AU @aBm)) (And.intro (And.intro @VC @aBg) (And.intro @aBf @aDO))) (And.intro (And.intro (And.intro @aDP @OD) (And.intro @xK @oL)) (And.intro (And.intro @D6 @i7) (And.intro @vE (And.intro @FZ @wM)))))
section
variable {tab:FuncId->Option AF}
def RHL(tab:FuncId->Option AF):List AOper->List Nat->Nat->List PV->Mem->List PLog->(List PV->Mem->Prop)->Prop
 | os,[],i,a,M,log,Q=>RD tab os i a M log Q
 | [],_::_,_,_,_,_,_=>False
 | ⟨d,o,none,chk⟩::os,j::js,i,a,M,log,Q=>
  if i=j then ∃size len z ps cs,o= .buildSlice size len z ps/\pfill a (bW len (z.map ofAV1)) ps=some cs/\chk=[]/\RHL tab os js (i+1) (pput a d (.ref M.length 0 size 0 len)) (M++[.cells 0 0 cs]) (⟨i,[],[],M,M.length+1⟩::log) Q
  else RS tab o a M fun v M' rd chg=>pchk o.effect rd chg M log chk=true/\RHL tab os (j::js) (i+1) (pput a d v) M' (⟨i,rd,chg,M,M'.length⟩::log) Q
 | ⟨_,_,some _,_⟩::_,_::_,_,_,_,_,_=>False
def KHL(tab:FuncId->Option AF)(j:Nat)(js:List Nat)(d:Option Nat)(eff:Bool)(chk:List Nat)(os:List AOper)(i:Nat)(a:List PV)(M:Mem)(log:List PLog)(Q:List PV->Mem->Prop)(v:PV)(M':Mem)(rd chg:List Nat):Prop:=
 pchk eff rd chg M log chk=true/\RHL tab os (j::js) (i+1) (pput a d v) M' (⟨i,rd,chg,M,M'.length⟩::log) Q
theorem OT(j:Nat)(js:List Nat)(d:Option Nat)(eff:Bool)(chk:List Nat)(os:List AOper)(i:Nat)(a:List PV)(M:Mem)(log:List PLog)(Q:List PV->Mem->Prop)(v:PV)(M':Mem)(rd chg:List Nat):
  KHL tab j js d eff chk os i a M log Q v M' rd chg=(pchk eff rd chg M log chk=true/\RHL tab os (j::js) (i+1) (pput a d v) M' (⟨i,rd,chg,M,M'.length⟩::log) Q):=(rfl)
theorem N9(j i:Nat)(js:List Nat)(hij:¬i=j)(d:Option Nat)(o:AO)(chk:List Nat)(os:List AOper)(a:List PV)(M:Mem)(log:List PLog)(Q:List PV->Mem->Prop):
  RHL tab (⟨d,o,none,chk⟩::os) (j::js) i a M log Q=RS tab o a M (KHL tab j js d o.effect chk os i a M log Q):=by
 show(if i=j then _ else _)=_;rw[if_neg hij];rfl
theorem wF(i:Nat)(os:List AOper)(a:List PV)(M:Mem)(log:List PLog)(Q:List PV->Mem->Prop):RHL tab os [] i a M log Q=RD tab os i a M log Q:=by cases os<;>rfl
theorem FE(j:Nat)(js:List Nat)(d:Option Nat)(size len:Nat)(z:List AV)(ps:List (Nat×Nat×AR))(os:List AOper)(a:List PV)(M:Mem)(log:List PLog)(Q:List PV->Mem->Prop):
  RHL tab (⟨d,.buildSlice size len z ps,none,[]⟩::os) (j::js) j a M log Q=∃cs,pfill a (bW len (z.map ofAV1)) ps=some cs/\RHL tab os js (j+1) (pput a d (.ref M.length 0 size 0 len)) (M++[.cells 0 0 cs]) (⟨j,[],[],M,M.length+1⟩::log) Q:=by
 show(if j=j then _ else _)=_;rw[if_pos rfl];apply propext;constructor
 ·rintro⟨_,_,_,_,cs,e,h1,_,h2⟩;cases e;exact⟨cs,h1,h2⟩
 ·rintro⟨cs,h1,h2⟩;exact⟨_,_,_,_,cs,rfl,h1,rfl,h2⟩
theorem tZ:∀(os:List AOper) (js:List Nat) (i:Nat) {w:PWd} {h:H} {M:Mem} {a:List PV} {a':List AV} {log:List LogE} {plog:List PLog} {Q:List PV->Mem->Prop},w.id0<=M.length->PSt w h M->RepL w a a'->LogsOk w h M log plog->RHL tab os js i a M plog Q->
  ∃a2' h2,dU (lim tab) os i a' h log=some (a2',h2)/\∃w2 a2 M2,PStp M.length w h M w2 h2 M2/\PSt w2 h2 M2/\RepL w2 a2 a2'/\Q a2 M2
 | os,[],i,w,h,M,a,a',log,plog,Q,h0,s,ha,hl,hp=>by
  rw[wF]at hp
  delta RD at hp
  exact sK os i h0 s ha hl hp
 | [],_::_,i,w,h,M,a,a',log,plog,Q,h0,s,ha,hl,hp=>hp.elim
 | ⟨d,o,some (t,want),chk⟩::os,_::_,i,w,h,M,a,a',log,plog,Q,h0,s,ha,hl,hp=>hp.elim
 | ⟨d,o,none,chk⟩::os,j::js,i,w,h,M,a,a',log,plog,Q,h0,s,ha,hl,hp=>by
  have hp:(if i=j then _ else _):=hp;by_cases e:i=j
  ·rw[if_pos e]at hp;obtain⟨size,len,z,ps,cs,rfl,q1,rfl,q2⟩:=hp;obtain⟨cs',f1,f2⟩:=lC ha ps (iJ (cP w z) len) q1;obtain⟨s2,t2⟩:=s.alloc (o:= .cells 0 0 cs) (o':= .cells 0 true cs') (e:=⟨some h.next,0,0⟩) rfl (fun w' hl he=>⟨_,he,rfl,_,H.get_alloc_new _ _,f2.mono hl s.env⟩);have hv:RepV (w.withEnv M.length ⟨some h.next,0,0⟩) (.ref M.length 0 size 0 len) (.slice true size h.next 0 len):= .ref (e:=⟨some h.next,0,0⟩) (by show(if _=_ then _ else _)=_;rw[if_pos rfl]) rfl rfl;have hc:=tS s s2 t2 (rd0:=[]) (prd:=[]) (chg:=[]) (fun x hx=>by cases hx) (ChgOk.app M _ _) hl (eff:=AO.effect (.buildSlice size len z ps)) (chk:=[]) (by simp[pchk]);have hlog:LogsOk (w.withEnv M.length ⟨some h.next,0,0⟩) (h.alloc (.cells 0 true cs')) (M++[.cells 0 0 cs]) (⟨i,rdx h (h.alloc (.cells 0 true cs')) [],h,h.alloc (.cells 0 true cs')⟩::log) (⟨i,[],[],M,(M++[PObj.cells 0 0 cs]).length⟩::plog):=by
    refine .cons ⟨rfl,w,_,_,s,s2,t2,PStp.refl (Nat.le_refl _) _ _,ChgOk.app M _ _,rfl,fun x hx=>?_⟩ (hl.mono t2);simp only at hx ⊢;unfold rdx at hx;split at hx
    ·rename_i hlt;rcases List.mem_cons.1 hx with rfl | hx
     ·exact .inl ⟨rfl,hlt⟩
     ·cases hx
    ·cases hx
   obtain⟨a2',h2,e2,w2,a2,M2,t3,s3,r3,q3⟩:=tZ os js (i+1) (by rw[t2.le.id0];exact Nat.le_trans h0 t2.len) s2 ((ha.mono t2.le s.env).put d hv) hlog (by simpa using q2);refine⟨a2',h2,?_,w2,a2,M2,t2.trans t3 t2.len,s3,r3,q3⟩;simp only[dU,bO,eW,aop,f1];rw[if_pos hc];exact e2
  ·rw[if_neg e]at hp
   delta RS at hp
   obtain⟨v,h1,rd,e1,w1,p,M1,prd,chg,s1,s2,hr,hrd,hchg,hck,hk⟩:=zP h0 s ha o hp;have hc:=tS s s2 s1 hrd hchg hl hck;have hlog:LogsOk w1 h1 M1 (⟨i,rdx h h1 rd,h,h1⟩::log) (⟨i,prd,chg,M,M1.length⟩::plog):=by
    refine .cons ⟨rfl,w,w1,M1,s,s2,s1,PStp.refl (Nat.le_refl _) w1 h1,hchg,rfl,fun x hx=>?_⟩ (hl.mono s1);simp only at hx ⊢;unfold rdx at hx;split at hx
    ·rename_i hlt;rcases List.mem_cons.1 hx with rfl | hx
     ·exact .inl ⟨rfl,hlt⟩
     ·exact .inr (hrd x hx)
    ·exact .inr (hrd x hx)
   obtain⟨a2',h2,e2,w2,a2,M2,t1,t2,t3,t4⟩:=tZ os (j::js) (i+1) (by rw[s1.le.id0];exact Nat.le_trans h0 s1.len) s2 ((ha.mono s1.le s.env).put d hr) hlog hk;refine⟨a2',h2,?_,w2,a2,M2,s1.trans t1 s1.len,t2,t3,t4⟩;simp only[dU,bO,e1];rw[if_pos hc];exact e2
theorem N8{m:Nat}{a:List PV}{M:Mem}{Qn Qr:List PV->Mem->Prop}{Qe:Nat->List PV->Mem->Prop}{os:List AOper}(js:List Nat)(h:RHL tab os js 0 a M [] Qn):bQ tab m (.regionD os) a M Qn Qr Qe:=by intro w hh a' h0 hm s ha;rw[C2];obtain⟨a2',h2,e2,w2,a2,M2,t1,t2,t3,t4⟩:=tZ os js 0 (Nat.le_trans h0 hm) s ha .nil h;unfold WD;exact⟨a2',h2,e2,w2,a2,M2,t1.weaken hm,t2,t3,t4⟩
end
theorem GStep.wkO{m:Nat}{a:List PV}{M N:Mem}(id:Nat){g ver:Nat}{cs cs2:List PV}(hM:M[id]? =some (.cells g ver cs))(hr:∀w bcs,RepL w cs bcs->RepL w cs2 bcs)(hN:M.set id (.cells g ver cs2)=N):GStep m a M a N:=by subst hN;refine⟨fun hm=>by simpa using hm,fun w hh a' h0 hm s ha=>?_⟩;obtain⟨t1,t2⟩:=s.reobj hM (hr w);exact⟨w,t2 m hm,t1,ha⟩
theorem RepL.wkL{w:PWd}{l l2:List PV}{l':List AV}(h:RepL w l l')(hl:l.length=l2.length)(hw:∀(i:Nat) (x y:PV),l[i]? =some x->l2[i]? =some y->PvWk x y):RepL w l2 l':=
 ⟨by rw[<-hl];exact h.len,fun i y z p q=>by
  obtain⟨x,hx⟩:∃x,l[i]? =some x:=⟨_,List.getElem?_eq_getElem (by rw[hl];exact aD p)⟩;exact hw i x y hx p w z (h.get i x z hx q)⟩
theorem RepL.wkM{w:PWd}{α:Type}{f g:α->PV}(hw:∀x,PvWk (f x) (g x)){xs:List α}{l':List AV}(h:RepL w (xs.map f) l'):RepL w (xs.map g) l':=
 h.wkL (by simp) fun i x y p q=>by
  rw[List.getElem?_map]at p q
  cases hx:xs[i]? with
  | none=>rw[hx]at p;cases p
  | some u=>rw[hx]at p q;cases p;cases q;exact hw u
theorem RepL.wkA{w:PWd}{α:Type}{f1 f2 g:α->PV}(h1:∀x,PvWk (f1 x) (g x))(h2:∀x,PvWk (f2 x) (g x)){xs ys:List α}{l':List AV}(h:RepL w (xs.map f1++ys.map f2) l'):RepL w ((xs++ys).map g) l':=
 h.wkL (by simp) fun i x y p q=>by
  rw[List.map_append]at q;by_cases hi:i<xs.length
  ·rw[List.getElem?_append_left (by simpa using hi),List.getElem?_map,List.getElem?_eq_getElem hi]at p q;cases p;cases q;exact h1 _
  ·rw[List.getElem?_append_right (by simp;omega),List.length_map,List.getElem?_map]at p q
   cases hx:ys[i-xs.length]? with
   | none=>rw[hx]at p;cases p
   | some u=>rw[hx]at p q;cases p;cases q;exact h2 u
attribute [irreducible] RHL KHL
end Go.Am

