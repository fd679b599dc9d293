/- The pure machine is sound: its operations, and what goes with it. -/
import Derived.Test.YtapbgleednkimaaGreatDoorPmX
import Derived.Test.YtapbgleednkimaaGreatDoorAmView
set_option linter.unusedVariables false
set_option linter.unusedSimpArgs false
namespace Go.Am
theorem eG(w:PWd)(v:AV):RepV w (ofAV1 v) v:=by
 unfold ofAV1;split
 ·exact .bool _
 ·exact .int _ _
 ·exact .str _
 ·exact .nilptr
 ·exact .nils
 ·exact .nilmap
 ·exact .nilfunc
 ·exact .niliface
 ·exact .func (fun l e=>by cases e) rfl rfl (fun i y z h=>by simp at h) (fun i y z h=>by simp at h)
 ·exact .junk _
theorem cP(w:PWd)(l:List AV):RepL w (l.map ofAV1) l:=
 ⟨by simp,fun i y z h1 h2=>by rw[List.getElem?_map,h2]at h1;cases h1;exact eG w z⟩
theorem XH(w:PWd)(v:AV):RepV w (ofAV v) v:=by
 unfold ofAV;split
 ·exact .agg (cP w _).len (cP w _).get
 ·exact .iface (eG w _)
 ·exact .bool _
 ·exact .int _ _
 ·exact .str _
 ·exact .nilptr
 ·exact .nils
 ·exact .nilmap
 ·exact .nilfunc
 ·exact .niliface
 ·exact .func (fun l e=>by cases e) rfl rfl (fun i y z h=>by simp at h) (fun i y z h=>by simp at h)
 ·exact .func (fun l e=>by cases e) (by simp) rfl (cP w _).get (fun i y z h=>by simp at h)
 ·exact .junk _
theorem aK{w:PWd}{a:List PV}{a':List AV}(h:RepL w a a')(x:AR):RepV w (pev a x) (ev a' x):=by
 cases x with
 | tmp t=>exact h.tget t
 | const v=>exact XH w v
theorem nJ{w:PWd}{a:List PV}{a':List AV}(h:RepL w a a')(xs:List AR):RepL w (xs.map (pev a)) (xs.map (ev a')):=
 ⟨by simp,fun i y z h1 h2=>by
  rw[List.getElem?_map]at h1 h2
  cases hx:xs[i]? with
  | none=>rw[hx]at h1;cases h1
  | some x=>rw[hx]at h1 h2;cases h1;cases h2;exact aK h x⟩
theorem PK{w:PWd}{v:PV}{x:AV}(h:RepV w v x)(h1:v.one=true):x.one=true:=by cases h<;>first | rfl | assumption | (simp[PV.one]at h1)
theorem rE{w:PWd}{l:List PV}{l':List AV}(h:RepL w l l')(h1:l.all PV.one=true):l'.all AV.one=true:=by
 rw[List.all_eq_true]at h1 ⊢;intro x hx;obtain⟨i,hi,rfl⟩:=List.getElem_of_mem hx;have hi':i<l.length:=by rw[h.len];exact hi
 exact PK (h.get i _ _ (List.getElem?_eq_getElem hi') (List.getElem?_eq_getElem hi)) (h1 _ (List.getElem_mem hi'))
theorem TL{x:AV}(h:x.one=true):x.cells=[x]:=by cases x<;>first | rfl | (simp[AV.one]at h)
theorem s7{w:PWd}{v:PV}{x:AV}(h:RepV w v x)(h1:(bS v).all PV.one=true):RepL w (bS v) x.cells/\x.cells.all AV.one=true:=by
 have key:RepL w (bS v) x.cells:=by
  by_cases hv:∃cs,v= .agg cs
  ·obtain⟨cs,rfl⟩:=hv
   cases h with
   | agg e1 e2=>exact⟨e1,e2⟩
  ·have hp:bS v=[v]:=by cases v<;>first | rfl | (exact absurd ⟨_,rfl⟩ hv)
   rw[hp]at h1 ⊢;have hone:v.one=true:=by simpa using h1
   rw[TL (PK h hone)];exact .cons h (.nil w)
 exact⟨key,rE key h1⟩
theorem eF{w:PWd}{v:PV}{x y:AV}(h:RepV w v x)(e:bN v=some y):x=y:=by cases h<;>simp[bN]at e<;>exact e
theorem jH{w:PWd} :∀{l:List PV} {l' ys:List AV},RepL w l l'->eT l=some ys->l'=ys
 | [],l',ys,h,e=>by
  have:=h.len
  cases l' with
  | nil=>simp[eT]at e;exact e.symm
  | cons=>simp at this
 | v::l,[],ys,h,e=>by have:=h.len;simp at this
 | v::l,x::l',ys,h,e=>by
  unfold eT at e;split at e
  ·rename_i a b h1 h2;cases e;rw[eF h.hd h1,jH h.tl h2]
  ·cases e
theorem xP:∀(cs:List AV) (off:Nat) (new:List AV),off+new.length<=cs.length->over cs off new=cs.take off++new++cs.drop (off+new.length)
 | cs,0,new,h=>by simp[over]
 | [],off+1,new,h=>by simp at h
 | c::cs,off+1,new,h=>by simp only[over];rw[xP cs off new (by simp at h;omega),Nat.add_right_comm];rfl
theorem G3{w:PWd}{cs new:List PV}{cs' new':List AV}(h:RepL w cs cs')(hn:RepL w new new'){off:Nat}(ho:off+new.length<=cs.length):RepL w (kB cs off new) (over cs' off new'):=by
 rw[xP cs' off new' (by rw[<-hn.len,<-h.len];exact ho),<-hn.len];have key:RepL w (cs.take off++new++cs.drop (off+new.length)) (cs'.take off++new'++cs'.drop (off+new.length)):=((h.take off).append hn).append (h.drop _);unfold kB;split
 ·rename_i x;have:cs.set off x=cs.take off++[x]++cs.drop (off+[x].length):=by rw[List.set_eq_take_append_cons_drop,if_pos (by simp at ho;omega)];simp
  rw[this];exact key
 ·exact key
theorem DY{cs:List PV}{off:Nat}{new:List PV}(ho:off+new.length<=cs.length):(kB cs off new).length=cs.length:=by
 unfold kB;split
 ·simp
 ·simp;omega
theorem lC{w:PWd}{a:List PV}{a':List AV}(ha:RepL w a a'):∀(ps:List (Nat×Nat×AR)) {cs:List PV} {cs':List AV} {r:List PV},RepL w cs cs'->pfill a cs ps=some r->∃r',pH a' cs' ps=some r'/\RepL w r r'
 | [],cs,cs',r,hc,e=>by simp only[pfill]at e;cases e;exact⟨cs',rfl,hc⟩
 | (off,size,x)::ps,cs,cs',r,hc,e=>by
  simp only[pfill]at e;split at e
  ·rename_i hk;obtain⟨h1,h2,h3⟩:=hk;obtain⟨k1,k2⟩:=s7 (aK ha x) h3;have hl:(ev a' x).cells.length=size:=by rw[<-k1.len];exact h1
   have hl2:off+size<=cs'.length:=by rw[<-hc.len];exact h2
   obtain⟨r',e1,e2⟩:=lC ha ps (G3 hc k1 (by omega)) e;refine⟨r',?_,e2⟩;simp only[pH];rw[if_pos (by simp[hl,hl2];simpa using k2)];exact e1
  ·cases e
theorem iJ{w:PWd}{z:List PV}{z':List AV}(h:RepL w z z'):∀n,RepL w (bW n z) (fE n z')
 | 0=> .nil w
 | n+1=>h.append (iJ h n)
theorem mD(z:List PV):∀n,(bW n z).length=n*z.length
 | 0=>by simp[bW]
 | n+1=>by simp[bW,mD z n,Nat.succ_mul];omega
theorem eI{w:PWd}{l:List PV}{l':List AV}(h:RepL w l l')(o n:Nat):RepL w (aY l o n) ((l'.drop o).take n):=(h.drop o).take n
theorem PSt.cellsAt{w:PWd}{h:H}{M:Mem}(s:PSt w h M){id g ver:Nat}{cs:List PV}(hm:M[id]? =some (.cells g ver cs)):
  ∃e,w.env id=some e/\e.g=g/\((e.blk=none/\cs=[])\/∃b bcs,e.blk=some b/\h.get b=some (.cells (e.v0+ver) true bcs)/\RepL w cs bcs/\LiveAt w M id b):=by
 obtain⟨e,h1,h2,h3⟩:=s.obj _ _ hm;refine⟨e,h1,h2,?_⟩
 cases hb:e.blk with
 | none=>rw[hb]at h3;exact .inl ⟨rfl,h3⟩
 | some b=>rw[hb]at h3;obtain⟨bcs,h4,h5⟩:=h3;exact .inr ⟨b,bcs,rfl,h4,h5,_,e,hm,by simp,h1,hb⟩
theorem PSt.ptrAt{w:PWd}{h:H}{M:Mem}(s:PSt w h M){id g o ver:Nat}{cs:List PV}(hm:M[id]? =some (.cells g ver cs)){x:AV}(hx:RepV w (.ptr id g o) x):
  ∃e b bcs,x= .ptr b o/\w.env id=some e/\e.g=g/\e.blk=some b/\h.get b=some (.cells (e.v0+ver) true bcs)/\RepL w cs bcs/\LiveAt w M id b:=by
 obtain⟨e,h1,h2,h3⟩:=s.cellsAt hm
 cases hx with
 | ptr q1 q2 q3=>
  rw[h1]at q1;cases q1;rcases h3 with⟨h3,_⟩ | ⟨b,bcs,h3,h4,h5,h6⟩
  ·rw[h3]at q3;cases q3
  ·rw[h3]at q3;cases q3;exact⟨e,_,bcs,rfl,h1,h2,h3,h4,h5,h6⟩
 | ptrS q0 q1 q2 q3=>rw[h1]at q2;cases q2;omega
theorem PSt.refAt{w:PWd}{h:H}{M:Mem}(s:PSt w h M){id g sz off n ver:Nat}{cs:List PV}(hm:M[id]? =some (.cells g ver cs)){x:AV}(hx:RepV w (.ref id g sz off n) x):
  ∃e,w.env id=some e/\e.g=g/\((x= .nilslice/\off=0/\n=0/\e.blk=none/\cs=[])\/∃fl b bcs,x= .slice fl sz b off n/\e.blk=some b/\h.get b=some (.cells (e.v0+ver) true bcs)/\RepL w cs bcs/\LiveAt w M id b):=by
 obtain⟨e,h1,h2,h3⟩:=s.cellsAt hm;refine⟨e,h1,h2,?_⟩
 cases hx with
 | ref q1 q2 q3=>
  rw[h1]at q1;cases q1;rcases h3 with⟨h3,_⟩ | ⟨b,bcs,h3,h4,h5,h6⟩
  ·rw[h3]at q3;cases q3
  ·rw[h3]at q3;cases q3;exact .inr ⟨_,_,bcs,rfl,h3,h4,h5,h6⟩
 | refN q1 q2 q3=>
  rw[h1]at q1;cases q1;rcases h3 with⟨h3,h4⟩ | ⟨b,bcs,h3,_⟩
  ·exact .inl ⟨rfl,rfl,rfl,h3,h4⟩
  ·rw[h3]at q3;cases q3
 | refS q0 q1 q2 q3=>rw[h1]at q2;cases q2;omega
def PM(M M':Mem)(id:Nat):Prop:=∃o o',M[id]? =some o/\M'[id]? =some o'/\kZ o o'=true
theorem gW(o:PObj):kZ o o=true:=by cases o<;>simp[kZ]
theorem K5{M:Mem}{id:Nat}(h:id<M.length):PM M M id:=⟨M[id],M[id],List.getElem?_eq_getElem h,List.getElem?_eq_getElem h,gW _⟩
def aD0(w:PWd)(h:H)(M:Mem)(rd:List Nat)(prd:List Nat):Prop:=∀x∈rd,x<h.next/\(w.imm x≠none\/∃id∈prd,LiveAt w M id x)
def ChgOk(M M':Mem)(chg:List Nat):Prop:=∀id,id<M.length->id∉chg->PM M M' id
theorem ChgOk.refl(M:Mem)(chg:List Nat):ChgOk M M chg:=fun id hi _=>K5 hi
theorem ChgOk.app(M l:Mem)(chg:List Nat):ChgOk M (M++l) chg:=fun id hi _=>⟨M[id],M[id],List.getElem?_eq_getElem hi,by rw[List.getElem?_append_left hi];exact List.getElem?_eq_getElem hi,gW _⟩
theorem ChgOk.set(M:Mem)(i:Nat)(o:PObj):ChgOk M (M.set i o) [i]:=fun id hi hn=>by have hne:i≠id:=fun e=>hn (by simp[e]);exact⟨M[id],M[id],List.getElem?_eq_getElem hi,by rw[List.getElem?_set_ne hne];exact List.getElem?_eq_getElem hi,gW _⟩
def PSok(w:PWd)(h:H)(M:Mem)(r:Option (AV×H×List Nat))(K:PV->Mem->List Nat->List Nat->Prop):Prop:=
 ∃v h' rd,r=some (v,h',rd)/\∃w' p M' prd chg,PStp M.length w h M w' h' M'/\PSt w' h' M'/\RepV w' p v/\aD0 w h M rd prd/\ChgOk M M' chg/\K p M' prd chg
theorem PSok.pure{w:PWd}{h:H}{M:Mem}{K:PV->Mem->List Nat->List Nat->Prop}(s:PSt w h M){r:Option (AV×H×List Nat)}{v:AV}{p:PV}{prd:List Nat}(hr:r=some (v,h,[]))(hv:RepV w p v)(hk:K p M prd []):PSok w h M r K:=
 ⟨v,h,[],hr,w,p,M,prd,[],PStp.refl (Nat.le_refl _) w h,s,hv,(fun x hx=>by cases hx),ChgOk.refl M _,hk⟩
theorem PSok.read{w:PWd}{h:H}{M:Mem}{K:PV->Mem->List Nat->List Nat->Prop}(s:PSt w h M){r:Option (AV×H×List Nat)}{v:AV}{p:PV}{rd prd:List Nat}(hr:r=some (v,h,rd))(hv:RepV w p v)(ho:aD0 w h M rd prd)(hk:K p M prd []):PSok w h M r K:=
 ⟨v,h,rd,hr,w,p,M,prd,[],PStp.refl (Nat.le_refl _) w h,s,hv,ho,ChgOk.refl M _,hk⟩
def PWd.withEnv(w:PWd)(id:Nat)(e:Ent):PWd:={w with env:=fun i=>if i=id then some e else w.env i}
def PWd.withImm(w:PWd)(b:Nat)(o:AObj):PWd:={w with imm:=fun x=>if x=b then some o else w.imm x}
theorem x9{w:PWd}{m id:Nat}{e:Ent}(hm:m<=id):Le m w (w.withEnv id e):=
 ⟨rfl,rfl,fun _ _ h=>h,fun i hi e' he=>⟨e',by show(if i=id then _ else _)=_;rw[if_neg (by omega)];exact he,.inr rfl⟩⟩
theorem H7{w:PWd}{m id:Nat}{e e0:Ent}(h0:w.env id=some e0)(hg:e0.g<e.g):Le m w (w.withEnv id e):=
 ⟨rfl,rfl,fun _ _ h=>h,fun i hi e' he=>by
  by_cases hi:i=id
  ·subst hi;rw[h0]at he;cases he;exact⟨e,by show(if i=i then _ else _)=_;rw[if_pos rfl],.inl hg⟩
  ·exact⟨e',by show(if i=id then _ else _)=_;rw[if_neg hi];exact he,.inr rfl⟩⟩
theorem pR{w:PWd}{m b:Nat}{o:AObj}(hn:w.imm b=none):Le m w (w.withImm b o):=
 ⟨rfl,rfl,fun x o' hx=>by
  show(if x=b then _ else _)=_;by_cases e:x=b
  ·subst e;rw[hn]at hx;cases hx
  ·rw[if_neg e];exact hx,fun i hi e' he=>⟨e',he,.inr rfl⟩⟩
theorem PSt.immLt{w:PWd}{h:H}{M:Mem}(s:PSt w h M){b:Nat}{o:AObj}(hb:w.imm b=some o):b<h.next:=H.lt_of_get (s.imm b o hb)
theorem RepO.mono{w w':PWd}{h h':H}{M:Mem}(s:PSt w h M)(hl:Le M.length w w'){id:Nat}{o:PObj}(ho:RepO w h id o)(he:∀e,w.env id=some e->w'.env id=some e)(hh:∀e b,w.env id=some e->e.blk=some b->h'.get b=h.get b):RepO w' h' id o:=by
 cases o with
 | cells g ver cs=>
  obtain⟨e,h1,h2,h3⟩:=ho;refine⟨e,he e h1,h2,?_⟩
  cases hb:e.blk with
  | none=>rw[hb]at h3;exact h3
  | some b=>rw[hb]at h3;obtain⟨bcs,h4,h5⟩:=h3;exact⟨bcs,by rw[hh e b h1 hb];exact h4,h5.mono hl s.env⟩
 | map ver es=>obtain⟨e,b,h1,h2,h3,es',h4,h5⟩:=ho;exact⟨e,b,he e h1,h2,h3,es',by rw[hh e b h1 h3];exact h4,h5.len,fun i y z p q=>⟨(h5.get i y z p q).1.mono hl s.env,(h5.get i y z p q).2.mono hl s.env⟩⟩
 | loop ver r=>obtain⟨e,b,h1,h2,h3,r',h4,h5⟩:=ho;exact⟨e,b,he e h1,h2,h3,r',by rw[hh e b h1 h3];exact h4,h5.state,h5.pending,h5.params,h5.assign,h5.body,h5.tmps.mono hl s.env⟩
 | gone=>trivial
theorem PSt.alloc{w:PWd}{h:H}{M:Mem}(s:PSt w h M){o:PObj}{o':AObj}{e:Ent}(hb:e.blk=some h.next)(ho:∀w',Le M.length w w'->w'.env M.length=some e->RepO w' (h.alloc o') M.length o):
  PSt (w.withEnv M.length e) (h.alloc o') (M++[o])/\PStp M.length w h M (w.withEnv M.length e) (h.alloc o') (M++[o]):=by
 have hl:Le M.length w (w.withEnv M.length e):=x9 (Nat.le_refl _);have hnew:(w.withEnv M.length e).env M.length=some e:=by show(if _=_ then _ else _)=_;rw[if_pos rfl]
 have hold:∀i,i≠M.length->(w.withEnv M.length e).env i=w.env i:=fun i hi=>by show(if _=_ then _ else _)=_;rw[if_neg hi]
 have live:∀i x,LiveAt (w.withEnv M.length e) (M++[o]) i x->(i=M.length/\x=h.next)\/(i<M.length/\LiveAt w M i x):=by
  rintro i x ⟨ob,e',h1,h2,h3,h4⟩;by_cases hi:i=M.length
  ·subst hi;rw[hnew]at h3;cases h3;rw[hb]at h4;cases h4;exact .inl ⟨rfl,rfl⟩
  ·rw[hold i hi]at h3;have hlt:=s.env i e' h3;rw[List.getElem?_append_left hlt]at h1;exact .inr ⟨hlt,ob,e',h1,h2,h3,h4⟩
 refine⟨⟨?_,?_,?_,?_,?_,?_,?_⟩,⟨?_,hl,?_,?_,?_,?_⟩⟩
 ·intro b ob hi;exact H.get_alloc_old (s.imm b ob hi)
 ·intro i e' he;by_cases hi:i=M.length
  ·subst hi;simp
  ·rw[hold i hi]at he;have:=s.env i e' he;simp;omega
 ·intro i e' b he hbl;by_cases hi:i=M.length
  ·subst hi;rw[hnew]at he;cases he;rw[hb]at hbl;cases hbl;simp
  ·rw[hold i hi]at he;have:=s.blk i e' b he hbl;simp;omega
 ·intro i ob hi;rcases Nat.lt_or_ge i M.length with hlt | hge
  ·rw[List.getElem?_append_left hlt]at hi;refine RepO.mono s hl (s.obj i ob hi) (fun e' he=>by rw[hold i (by omega)];exact he) (fun e' b he hbl=>?_);rw[H.get_alloc,if_neg (by have:=s.blk i e' b he hbl;omega)]
  ·rw[List.getElem?_append_right hge]at hi;have:i=M.length:=by
    rcases Nat.lt_or_ge (i-M.length) 1 with q | q
    ·omega
    ·rw[List.getElem?_eq_none (by simpa using q)]at hi;cases hi
   subst this;simp at hi;subst hi;exact ho _ hl hnew
 ·intro i j x h1 h2;rcases live i x h1 with⟨rfl,rfl⟩ | ⟨hi,l1⟩<;>rcases live j _ h2 with⟨rfl,e2⟩ | ⟨hj,l2⟩
  ·rfl
  ·have:=l2.next s;omega
  ·subst e2;have:=l1.next s;omega
  ·exact s.inj i j x l1 l2
 ·intro i x h1;rcases live i x h1 with⟨rfl,rfl⟩ | ⟨hi,l1⟩
  ·refine⟨?_,fun _=>s.base⟩
   cases hc:w.imm h.next with
   | none=>exact hc
   | some ob=>have:=s.immLt hc;omega
  ·exact s.sep i x l1
 ·have:=s.base;show w.n0<=h.next+1;omega
 ·simp
 ·simp
 ·intro x hx _;rw[H.get_alloc,if_neg (by omega)]
 ·intro i x h1 hx;rcases live i x h1 with⟨_,rfl⟩ | ⟨_,l1⟩
  ·omega
  ·exact l1
 ·intro x hx;exact .inl hx
theorem PSt.allocImm{w:PWd}{h:H}{M:Mem}(s:PSt w h M)(o':AObj):
  PSt (w.withImm h.next o') (h.alloc o') M/\PStp M.length w h M (w.withImm h.next o') (h.alloc o') M/\(w.withImm h.next o').imm h.next=some o':=by
 have hn:w.imm h.next=none:=by
  cases hc:w.imm h.next with
  | none=>rfl
  | some ob=>have:=s.immLt hc;omega
 have hl:Le M.length w (w.withImm h.next o'):=pR hn;have him:∀x,x≠h.next->(w.withImm h.next o').imm x=w.imm x:=fun x hx=>by show(if _=_ then _ else _)=_;rw[if_neg hx]
 have hnew:(w.withImm h.next o').imm h.next=some o':=by show(if _=_ then _ else _)=_;rw[if_pos rfl]
 refine⟨⟨?_,s.env,?_,?_,s.inj,?_,?_⟩,⟨Nat.le_refl _,hl,by simp,?_,fun i x h1 _=>h1,?_⟩,hnew⟩
 ·intro b ob hi;by_cases e:b=h.next
  ·subst e;rw[hnew]at hi;cases hi;exact H.get_alloc_new _ _
  ·rw[him b e]at hi;exact H.get_alloc_old (s.imm b ob hi)
 ·intro i e b he hb;have:=s.blk i e b he hb;simp;omega
 ·intro i ob hi;refine RepO.mono s hl (s.obj i ob hi) (fun e' he=>he) (fun e' b he hbl=>?_);rw[H.get_alloc,if_neg (by have:=s.blk i e' b he hbl;omega)]
 ·intro i x h1;have h1':LiveAt w M i x:=h1;have:=h1'.next s;exact⟨by rw[him x (by omega)];exact(s.sep i x h1').1,(s.sep i x h1').2⟩
 ·have:=s.base;show w.n0<=h.next+1;omega
 ·intro x hx _;rw[H.get_alloc,if_neg (by omega)]
 ·intro x hx;by_cases e:x=h.next
  ·exact .inr (.inl (by omega))
  ·rw[him x e]at hx;exact .inl hx
theorem PSt.allocNone{w:PWd}{h:H}{M:Mem}(s:PSt w h M){v0:Nat} :
  PSt (w.withEnv M.length ⟨none,v0,0⟩) h (M++[.cells 0 0 []])/\PStp M.length w h M (w.withEnv M.length ⟨none,v0,0⟩) h (M++[.cells 0 0 []]):=by
 have hl:Le M.length w (w.withEnv M.length ⟨none,v0,0⟩):=x9 (Nat.le_refl _);have hnew:(w.withEnv M.length ⟨none,v0,0⟩).env M.length=some ⟨none,v0,0⟩:=by show(if _=_ then _ else _)=_;rw[if_pos rfl]
 have hold:∀i,i≠M.length->(w.withEnv M.length ⟨none,v0,0⟩).env i=w.env i:=fun i hi=>by show(if _=_ then _ else _)=_;rw[if_neg hi]
 have live:∀i x,LiveAt (w.withEnv M.length ⟨none,v0,0⟩) (M++[.cells 0 0 []]) i x->LiveAt w M i x:=by
  rintro i x ⟨ob,e',h1,h2,h3,h4⟩;by_cases hi:i=M.length
  ·subst hi;rw[hnew]at h3;cases h3;cases h4
  ·rw[hold i hi]at h3;have hlt:=s.env i e' h3;rw[List.getElem?_append_left hlt]at h1;exact⟨ob,e',h1,h2,h3,h4⟩
 refine⟨⟨s.imm,?_,?_,?_,fun i j x h1 h2=>s.inj i j x (live i x h1) (live j x h2),fun i x h1=>s.sep i x (live i x h1),s.base⟩,⟨by simp,hl,Nat.le_refl _,fun _ _ _=>rfl,fun i x h1 _=>live i x h1,fun x hx=> .inl hx⟩⟩
 ·intro i e' he;by_cases hi:i=M.length
  ·subst hi;simp
  ·rw[hold i hi]at he;have:=s.env i e' he;simp;omega
 ·intro i e' b he hbl;by_cases hi:i=M.length
  ·subst hi;rw[hnew]at he;cases he;cases hbl
  ·rw[hold i hi]at he;exact s.blk i e' b he hbl
 ·intro i ob hi;rcases Nat.lt_or_ge i M.length with hlt | hge
  ·rw[List.getElem?_append_left hlt]at hi;exact RepO.mono s hl (s.obj i ob hi) (fun e' he=>by rw[hold i (by omega)];exact he) (fun _ _ _ _=>rfl)
  ·rw[List.getElem?_append_right hge]at hi;have:i=M.length:=by
    rcases Nat.lt_or_ge (i-M.length) 1 with q | q
    ·omega
    ·rw[List.getElem?_eq_none (by simpa using q)]at hi;cases hi
   subst this;simp at hi;subst hi;exact⟨_,hnew,rfl,rfl⟩
theorem PSt.setCells{w:PWd}{h:H}{M:Mem}(s:PSt w h M){id g ver b:Nat}{cs cs2:List PV}{bcs2:List AV}{e:Ent}(hm:M[id]? =some (.cells g ver cs))(he:w.env id=some e)(hg:e.g=g)(hb:e.blk=some b)(hr:RepL w cs2 bcs2){ver2:Nat} :
  PSt w (h.set b (.cells (e.v0+ver2) true bcs2)) (M.set id (.cells g ver2 cs2))/\PStp M.length w h M w (h.set b (.cells (e.v0+ver2) true bcs2)) (M.set id (.cells g ver2 cs2)):=by
 have hlv:LiveAt w M id b:=⟨_,e,hm,by simp,he,hb⟩;have hbn:=hlv.next s;have hid:=hlv.lt;have live:∀i x,LiveAt w (M.set id (.cells g ver2 cs2)) i x->LiveAt w M i x:=by
  rintro i x ⟨ob,e',h1,h2,h3,h4⟩;by_cases hi:id=i
  ·subst hi;exact⟨_,e',hm,by simp,h3,h4⟩
  ·rw[List.getElem?_set_ne hi]at h1;exact⟨ob,e',h1,h2,h3,h4⟩
 have hget:∀x,x≠b->(h.set b (.cells (e.v0+ver2) true bcs2)).get x=h.get x:=fun x hx=>H.get_set_ne hx;have hsame:(h.set b (.cells (e.v0+ver2) true bcs2)).get b=some (.cells (e.v0+ver2) true bcs2):=by rw[H.get_set,if_pos ⟨rfl,hbn⟩]
 refine⟨⟨?_,?_,s.blk,?_,fun i j x h1 h2=>s.inj i j x (live i x h1) (live j x h2),fun i x h1=>s.sep i x (live i x h1),s.base⟩,⟨by simp,Le.refl _ _,Nat.le_refl _,?_,fun i x h1 _=>live i x h1,fun x hx=> .inl hx⟩⟩
 ·intro x o hx;have:x≠b:=by rintro rfl;rw[(s.sep id x hlv).1]at hx;cases hx
  rw[hget x this];exact s.imm x o hx
 ·intro i e' he';have:=s.env i e' he';simpa using this
 ·intro i ob hi;by_cases hid2:id=i
  ·subst hid2;rw[List.getElem?_set_self hid]at hi;cases hi;refine⟨e,he,hg,?_⟩;rw[hb];exact⟨bcs2,hsame,hr⟩
  ·rw[List.getElem?_set_ne hid2]at hi;by_cases hgone:ob= .gone
   ·subst hgone;trivial
   ·refine RepO.mono s (Le.refl _ _) (s.obj i ob hi) (fun _ h=>h) (fun e' b' he' hb'=>hget b' ?_);rintro rfl;exact hid2 (s.inj id i b' hlv ⟨ob,e',hi,hgone,he',hb'⟩)
 ·intro x hx hn;refine hget x ?_;rintro rfl;exact hn id hlv
theorem PSt.regen{w:PWd}{h h':H}{M:Mem}(s:PSt w h M){id g ver:Nat}{cs cs2:List PV}{e e2:Ent}(hm:M[id]? =some (.cells g ver cs))(he:w.env id=some e)(hg:e.g=g)(hg2:e2.g=g+1)
  (hn:h.next<=h'.next) (hk:∀x,x<h.next->e.blk≠some x->h'.get x=h.get x)
  (hb:∀b,e2.blk=some b->b<h'.next/\(h.next<=b\/e.blk=some b))
  (hr:match e2.blk with | none=>cs2=[] | some b=>∃bcs,h'.get b=some (.cells (e2.v0+0) true bcs)/\RepL w cs2 bcs):
  PSt (w.withEnv id e2) h' (M.set id (.cells (g+1) 0 cs2))/\PStp M.length w h M (w.withEnv id e2) h' (M.set id (.cells (g+1) 0 cs2)):=by
 have hl:Le M.length w (w.withEnv id e2):=H7 he (by omega);have hid:id<M.length:=s.env id e he;have hnew:(w.withEnv id e2).env id=some e2:=by show(if _=_ then _ else _)=_;rw[if_pos rfl]
 have hold:∀i,i≠id->(w.withEnv id e2).env i=w.env i:=fun i hi=>by show(if _=_ then _ else _)=_;rw[if_neg hi]
 have hlv:∀b,e.blk=some b->LiveAt w M id b:=fun b hb=>⟨_,e,hm,by simp,he,hb⟩;have live:∀i x,LiveAt (w.withEnv id e2) (M.set id (.cells (g+1) 0 cs2)) i x->(i=id/\e2.blk=some x)\/(i≠id/\LiveAt w M i x):=by
  rintro i x ⟨ob,e',h1,h2,h3,h4⟩;by_cases hi:i=id
  ·subst hi;rw[hnew]at h3;cases h3;exact .inl ⟨rfl,h4⟩
  ·rw[List.getElem?_set_ne (Ne.symm hi)]at h1;rw[hold i hi]at h3;exact .inr ⟨hi,ob,e',h1,h2,h3,h4⟩
 have hkeep:∀i x,i≠id->LiveAt w M i x->h'.get x=h.get x:=fun i x hi hx=>hk x (hx.next s) (fun hc=>hi (s.inj i id x hx (hlv x hc)));refine⟨⟨?_,?_,?_,?_,?_,?_,?_⟩,⟨by simp,hl,hn,?_,?_,fun x hx=> .inl hx⟩⟩
 ·intro x o hx;rw[hk x (s.immLt hx) (fun hc=>by have:=(s.sep id x (hlv x hc)).1;have hx:w.imm x=some o:=hx;rw[this]at hx;cases hx)];exact s.imm x o hx
 ·intro i e' he';by_cases hi:i=id
  ·subst hi;simpa using hid
  ·rw[hold i hi]at he';simpa using s.env i e' he'
 ·intro i e' b he' hb';by_cases hi:i=id
  ·subst hi;rw[hnew]at he';cases he';exact(hb b hb').1
  ·rw[hold i hi]at he';have:=s.blk i e' b he' hb';omega
 ·intro i ob hi;by_cases hid2:i=id
  ·subst hid2;rw[List.getElem?_set_self hid]at hi;cases hi;refine⟨e2,hnew,hg2,?_⟩
   cases hb2:e2.blk with
   | none=>rw[hb2]at hr;exact hr
   | some b=>rw[hb2]at hr;obtain⟨bcs,q1,q2⟩:=hr;exact⟨bcs,q1,q2.mono hl s.env⟩
  ·rw[List.getElem?_set_ne (Ne.symm hid2)]at hi;by_cases hgone:ob= .gone
   ·subst hgone;trivial
   ·refine RepO.mono s hl (s.obj i ob hi) (fun e' he'=>by rw[hold i hid2];exact he') (fun e' b' he' hb'=>hkeep i b' hid2 ⟨ob,e',hi,hgone,he',hb'⟩)
 ·intro i j x h1 h2;rcases live i x h1 with⟨rfl,q1⟩ | ⟨hi,l1⟩<;>rcases live j x h2 with⟨rfl,q2⟩ | ⟨hj,l2⟩
  ·rfl
  ·rcases(hb x q1).2 with q | q
   ·have:=l2.next s;omega
   ·exact absurd (s.inj j _ x l2 (hlv x q)) hj
  ·rcases(hb x q2).2 with q | q
   ·have:=l1.next s;omega
   ·exact absurd (s.inj i _ x l1 (hlv x q)) hi
  ·exact s.inj i j x l1 l2
 ·intro i x h1;rcases live i x h1 with⟨rfl,q1⟩ | ⟨hi,l1⟩
  ·rcases(hb x q1).2 with q | q
   ·refine⟨?_,fun _=>Nat.le_trans s.base q⟩;show w.imm x=none
    cases hc:w.imm x with
    | none=>rfl
    | some ob=>have:=s.immLt hc;omega
   ·exact s.sep _ x (hlv x q)
  ·exact s.sep i x l1
 ·have:=s.base;show w.n0<=h'.next;omega
 ·intro x hx hnl;exact hk x hx (fun hc=>hnl id (hlv x hc))
 ·intro i x h1 hx;rcases live i x h1 with⟨rfl,q1⟩ | ⟨hi,l1⟩
  ·rcases(hb x q1).2 with q | q
   ·omega
   ·exact hlv x q
  ·exact l1
theorem eJ{w:PWd}{k:IntKind}{n:Int}{x:AV}(h:RepV w (.int k n) x):x= .int k n:=by cases h;rfl
theorem iK{w:PWd}{b:Bool}{x:AV}(h:RepV w (.bool b) x):x= .bool b:=by cases h;rfl
theorem mC{w:PWd}{cs:List PV}{x:AV}(h:RepV w (.agg cs) x):∃cs',x= .agg cs'/\RepL w cs cs':=by cases h with | agg e1 e2=>exact⟨_,rfl,e1,e2⟩
theorem oJ{w:PWd}{cs:List PV}{x:AV}(h:RepV w (.tuple cs) x):∃cs',x= .tuple cs'/\RepL w cs cs':=by cases h with | tuple e1 e2=>exact⟨_,rfl,e1,e2⟩
theorem cT{w:PWd}{x:AV}(h:RepV w .nils x):x= .nilslice:=by cases h;rfl
theorem mA{w:PWd}{h:H}{M:Mem}(s:PSt w h M){fl own:Bool}{sz n:Nat}{cs:List PV}{x:AV}(hx:RepV w (.sl fl own sz n cs) x):
  (x= .nilslice/\n=0/\cs=[])\/∃fl' b off ver rw bcs,x= .slice fl' sz b off n/\(fl=true->own=true->fl'=true)/\w.imm b=some (.cells ver rw bcs)/\h.get b=some (.cells ver rw bcs)/\off+cs.length<=bcs.length/\cs.length=n*sz/\RepL w cs ((bcs.drop off).take cs.length)/\(own=true->w.n0<=b/\rw=true)/\(own=false->fl=false->b<w.n0):=by
 cases hx with
 | slN=>exact .inl ⟨rfl,rfl,rfl⟩
 | sl h1 h2 h3 h4 h5 h7 h6=>
  refine .inr ⟨_,_,_,_,_,_,rfl,h4,h1,s.imm _ _ h1,h2,h3,⟨by simp;omega,fun i y z hy hz=>?_⟩,h5,h7⟩;rw[List.getElem?_take]at hz;split at hz
  ·rw[List.getElem?_drop]at hz;exact h6 i y z hy hz
  ·cases hz
theorem xD{w:PWd}{h:H}{M:Mem}(s:PSt w h M){cs:List PV}{o:Nat}{x:AV}(hx:RepV w (.cp cs o) x):
  ∃b off ver rw bcs,x= .ptr b (off+o)/\w.imm b=some (.cells ver rw bcs)/\h.get b=some (.cells ver rw bcs)/\off+cs.length<=bcs.length/\RepL w cs ((bcs.drop off).take cs.length):=by
 cases hx with
 | cp h1 h2 h6=>
  refine⟨_,_,_,_,_,rfl,h1,s.imm _ _ h1,h2,⟨by simp;omega,fun i y z hy hz=>?_⟩⟩;rw[List.getElem?_take]at hz;split at hz
  ·rw[List.getElem?_drop]at hz;exact h6 i y z hy hz
  ·cases hz
theorem aD{α:Type}{l:List α}{i:Nat}{x:α}(h:l[i]? =some x):i<l.length:=by
 rcases Nat.lt_or_ge i l.length with hi | hi
 ·exact hi
 ·rw[List.getElem?_eq_none hi]at h;cases h
theorem HO{cs:List PV}{bcs:List AV}{w:PWd}{off:Nat}(hr:RepL w cs ((bcs.drop off).take cs.length)){i:Nat}{y:PV}(hy:cs[i]? =some y):∃z,bcs[off+i]? =some z/\RepV w y z:=by obtain⟨z,h1,h2⟩:=hr.getSome hy;rw[List.getElem?_take,if_pos (aD hy),List.getElem?_drop]at h1;exact⟨z,h1,h2⟩
theorem xO{cs:List PV}{bcs:List AV}{w:PWd}{off:Nat}(hr:RepL w cs ((bcs.drop off).take cs.length)){o n:Nat}(h:o+n<=cs.length):RepL w (aY cs o n) ((bcs.drop (off+o)).take n):=by have:=eI hr o n;rwa [List.drop_take,List.drop_drop,List.take_take,Nat.min_eq_left (by omega)]at this
section
variable {tab:FuncId->Option AF} {w:PWd} {h:H} {M:Mem} {a:List PV} {a':List AV} {K:PV->Mem->List Nat->List Nat->Prop}
theorem KX(s:PSt w h M)(ha:RepL w a a')(x:AR)(hp:PS tab (.load x) a M K):PSok w h M (aop a' h (.load x)) K:=by
 have hx:=aK ha x;simp only[PS]at hp;unfold JY at hp;split at hp
 ·rename_i id g o hv;obtain⟨ver,cs,hm,y,hy,hk⟩:=hp;rw[hv]at hx;obtain⟨e,b,bcs,e1,e2,e3,e4,e5,e6,e7⟩:=s.ptrAt hm hx;obtain⟨z,hz,hr⟩:=e6.getSome hy;refine PSok.read s (v:=z) (rd:=[b]) (prd:=[id]) ?_ hr (fun x hx=>?_) hk
  ·simp only[aop,e1,fQ,e5,hz]
  ·simp only[List.mem_singleton]at hx;subst hx;exact⟨e7.next s,.inr ⟨id,by simp,e7⟩⟩
 ·rename_i cs o hv;obtain⟨y,hy,hk⟩:=hp;rw[hv]at hx;obtain⟨b,off,ver,rw,bcs,e1,e2,e3,e4,e5⟩:=xD s hx;obtain⟨z,hz,hr⟩:=HO e5 hy;refine PSok.read s (v:=z) (rd:=[b]) (prd:=[]) ?_ hr (fun x hx=>?_) hk
  ·simp only[aop,e1,fQ,e3,hz]
  ·simp only[List.mem_singleton]at hx;subst hx;exact⟨s.immLt e2,.inl (by rw[e2];simp)⟩
 ·exact hp.elim
theorem zT(s:PSt w h M)(ha:RepL w a a')(n:Nat)(x:AR)(hp:PS tab (.loadAgg n x) a M K):PSok w h M (aop a' h (.loadAgg n x)) K:=by
 have hx:=aK ha x;simp only[PS]at hp;unfold zM at hp;split at hp
 ·rename_i id g o hv;obtain⟨ver,cs,hm,hn,hk⟩:=hp;rw[hv]at hx;obtain⟨e,b,bcs,e1,e2,e3,e4,e5,e6,e7⟩:=s.ptrAt hm hx;have hs:=eI e6 o n;refine PSok.read s (v:= .agg ((bcs.drop o).take n)) (rd:=[b]) (prd:=[id]) ?_ (.agg hs.len hs.get) (fun x hx=>?_) hk
  ·simp only[aop,e1,aZ,e5];rw[if_pos (by rw[<-e6.len];exact hn)]
  ·simp only[List.mem_singleton]at hx;subst hx;exact⟨e7.next s,.inr ⟨id,by simp,e7⟩⟩
 ·rename_i cs o hv;obtain⟨hn,hk⟩:=hp;rw[hv]at hx;obtain⟨b,off,ver,rw,bcs,e1,e2,e3,e4,e5⟩:=xD s hx;have hs:=xO e5 hn;refine PSok.read s (v:= .agg ((bcs.drop (off+o)).take n)) (rd:=[b]) (prd:=[]) ?_ (.agg hs.len hs.get) (fun x hx=>?_) hk
  ·simp only[aop,e1,aZ,e3];rw[if_pos (by omega)]
  ·simp only[List.mem_singleton]at hx;subst hx;exact⟨s.immLt e2,.inl (by rw[e2];simp)⟩
 ·exact hp.elim
theorem GG(s:PSt w h M)(ha:RepL w a a')(n:Nat)(p x:AR)(hp:PS tab (.store n p x) a M K):PSok w h M (aop a' h (.store n p x)) K:=by
 have hx:=aK ha p;simp only[PS]at hp;unfold OA at hp;split at hp
 ·rename_i id g o hv;obtain⟨ver,cs,hm,⟨h1,h2,h3⟩,hk⟩:=hp;rw[hv]at hx;obtain⟨e,b,bcs,e1,e2,e3,e4,e5,e6,e7⟩:=s.ptrAt hm hx;obtain⟨k1,k2⟩:=s7 (aK ha x) h3;have hl:(ev a' x).cells.length=n:=by rw[<-k1.len];exact h1
  have hov:=G3 e6 k1 (off:=o) (by omega);obtain⟨s1,s2⟩:=s.setCells (ver2:=ver+1) hm e2 e3 e4 hov;refine⟨.tuple [],h.set b (.cells (e.v0+(ver+1)) true (over bcs o (ev a' x).cells)),[],?_,w,.tuple [],_,[],[id],s2,s1,.tuple rfl (fun i y z q=>by simp at q),(fun x hx=>by cases hx),ChgOk.set M id _,hk⟩;simp only[aop,e1];rw[if_pos hl];simp only[dG,e5];rw[if_pos (by have:=e6.len;simp[hl];exact⟨by omega,by simpa using k2⟩)];rfl
 ·exact hp.elim
theorem GN(s:PSt w h M)(ha:RepL w a a')(cs:List AV)(hp:PS tab (.alloc cs) a M K):PSok w h M (aop a' h (.alloc cs)) K:=by simp only[PS]at hp;obtain⟨s1,s2⟩:=s.alloc (o:= .cells 0 0 (cs.map ofAV1)) (o':= .cells 0 true cs) (e:=⟨some h.next,0,0⟩) rfl (fun w' hl he=>⟨_,he,rfl,cs,H.get_alloc_new _ _,cP w' cs⟩);exact⟨.ptr h.next 0,_,[],rfl,_,_,_,[],[],s2,s1,.ptr (e:=⟨some h.next,0,0⟩) (by show(if _=_ then _ else _)=_;rw[if_pos rfl]) rfl rfl,(fun x hx=>by cases hx),ChgOk.app M _ _,hp⟩
theorem SS(s:PSt w h M)(ha:RepL w a a')(x:AR)(hp:PS tab (.box x) a M K):PSok w h M (aop a' h (.box x)) K:=by simp only[PS]at hp;obtain⟨h1,hk⟩:=hp;obtain⟨k1,k2⟩:=s7 (aK ha x) h1;obtain⟨s1,s2⟩:=s.alloc (o:= .cells 0 0 (bS (pev a x))) (o':= .cells 0 true (ev a' x).cells) (e:=⟨some h.next,0,0⟩) rfl (fun w' hl he=>⟨_,he,rfl,_,H.get_alloc_new _ _,k1.mono hl s.env⟩);exact⟨.ptr h.next 0,_,[],by simp only[aop];rw[if_pos k2],_,_,_,[],[],s2,s1,.ptr (e:=⟨some h.next,0,0⟩) (by show(if _=_ then _ else _)=_;rw[if_pos rfl]) rfl rfl,(fun x hx=>by cases hx),ChgOk.app M _ _,hk⟩
theorem sW(s:PSt w h M)(ha:RepL w a a')(size len:Nat)(z:List AV)(ps:List (Nat×Nat×AR))(hp:PS tab (.buildSlice size len z ps) a M K):PSok w h M (aop a' h (.buildSlice size len z ps)) K:=by
 simp only[PS]at hp;obtain⟨⟨h0,h1⟩,cs,hc,hk⟩:=hp;obtain⟨cs',e1,e2⟩:=lC ha ps (iJ (cP w z) len) hc;have hlen:cs.length=len*size:=by
  have:∀(ps:List (Nat×Nat×AR)) (c r:List PV),pfill a c ps=some r->r.length=c.length:=by
   intro ps
   induction ps with
   | nil=>intro c r h;simp only[pfill]at h;cases h;rfl
   | cons p ps ih=>
    intro c r h;obtain⟨o,sz,x⟩:=p;simp only[pfill]at h;split at h
    ·rename_i hh;rw[ih _ _ h,DY (by omega)]
    ·cases h
  rw[this ps _ _ hc,mD];simp[h0]
 obtain⟨s1,s2,s3⟩:=s.allocImm (.cells 0 true cs');have e2':=e2.mono s2.le s.env;refine⟨.slice true size h.next 0 len,_,[],by simp only[aop,e1],_,.sl true true size len cs,M,[],[],s2,s1,?_,(fun x hx=>by cases hx),ChgOk.refl M _,hk⟩;refine .sl s3 (by rw[e2.len];omega) hlen (fun _ _=>rfl) (fun _=>⟨s.base,rfl⟩) (fun q=>by cases q) (fun i y z q1 q2=>e2'.get i y z q1 (by rwa [Nat.zero_add]at q2))
theorem vA(s:PSt w h M)(ha:RepL w a a')(bytes:Nat)(z:List AV)(n c:AR)(hp:PS tab (.makeSlice bytes z n c) a M K):PSok w h M (aop a' h (.makeSlice bytes z n c)) K:=by simp only[PS]at hp;obtain⟨kv,l,h1,kw,m,h2,⟨rfl,rfl,h3,h4,h5,h6⟩,hk⟩:=hp;have x1:=aK ha n;have x2:=aK ha c;rw[h1]at x1;rw[h2]at x2;have y1:=eJ x1;have y2:=eJ x2;obtain⟨s1,s2⟩:=s.alloc (o:= .cells 0 0 (bW l.toNat (z.map ofAV1))) (o':= .cells 0 true (fE l.toNat z)) (e:=⟨some h.next,0,0⟩) rfl (fun w' hl he=>⟨_,he,rfl,_,H.get_alloc_new _ _,iJ (cP w' z) _⟩);refine⟨.slice (l==m) z.length h.next 0 l.toNat,_,[],?_,_,_,_,[],[],s2,s1,.ref (e:=⟨some h.next,0,0⟩) (by show(if _=_ then _ else _)=_;rw[if_pos rfl]) rfl rfl,(fun x hx=>by cases hx),ChgOk.app M _ _,hk⟩;simp only[aop,y1,y2];rw[if_pos ⟨h3,h4,h5,by simpa [eK]using h6⟩]
theorem sX(s:PSt w h M)(ha:RepL w a a')(bytes:Nat)(z:List AV)(sr x:AR)(hp:PS tab (.appendMake bytes z sr x) a M K):PSok w h M (aop a' h (.appendMake bytes z sr x)) K:=by
 simp only[PS]at hp;obtain⟨h0,kv,n,h1,rfl,hk⟩:=hp;have x0:=aK ha sr;have x1:=aK ha x;rw[h0]at x0;rw[h1]at x1;have y0:=cT x0;have y1:=eJ x1;split at hk
 ·rename_i hn;subst hn;exact PSok.pure s (v:= .nilslice) (p:= .nils) (prd:=[]) (by simp only[aop,y0,y1,if_true]) .nils hk
 ·rename_i hn;obtain⟨⟨h2,h3,h4⟩,hk⟩:=hk;obtain⟨s1,s2⟩:=s.alloc (o:= .cells 0 0 (bW n.toNat (z.map ofAV1))) (o':= .cells 0 true (fE n.toNat z)) (e:=⟨some h.next,0,0⟩) rfl (fun w' hl he=>⟨_,he,rfl,_,H.get_alloc_new _ _,iJ (cP w' z) _⟩);refine⟨.slice false z.length h.next 0 n.toNat,_,[],?_,_,_,_,[],[],s2,s1,.ref (e:=⟨some h.next,0,0⟩) (by show(if _=_ then _ else _)=_;rw[if_pos rfl]) rfl rfl,(fun x hx=>by cases hx),ChgOk.app M _ _,hk⟩;simp only[aop,y0,y1];rw[if_neg hn,if_pos ⟨h2,h3,by simpa [eK]using h4⟩]
theorem BL(s:PSt w h M){size:Nat}{x:PV}{x':AV}(hx:RepV w x x'){k:List PV->Nat->Prop}(hq:QSrc size x M k)(xr:AR)(hxr:ev a' xr=x'):
  ∃new n new',fY a' h size xr=some (new',n)/\RepL w new new'/\k new n/\new.length=n*size:=by
 unfold QSrc at hq;split at hq
 ·rw[cT hx]at hxr;exact⟨[],0,[],by simp only[fY,hxr],.nil w,hq,by simp⟩
 ·rename_i fl own sz n cs;obtain⟨rfl,hk⟩:=hq;rcases mA s hx with⟨rfl,rfl,rfl⟩ | ⟨fl',b,off,ver,rw,bcs,rfl,_,e1,e2,e3,e4,e5,_⟩
  ·exact⟨[],0,[],by simp only[fY,hxr],.nil w,hk,by simp⟩
  ·refine⟨cs,n,(bcs.drop off).take cs.length,?_,e5,hk,e4⟩;simp only[fY,hxr,if_true,aZ,e2];rw[<-e4,if_pos e3]
 ·rename_i id g sz off n;obtain⟨ver,cs,hm,⟨rfl,hl⟩,hk⟩:=hq;obtain⟨e,q1,q2,q3⟩:=s.refAt hm hx;rcases q3 with⟨rfl,rfl,rfl,_,rfl⟩ | ⟨fl,b,bcs,rfl,p1,p2,p3,p4⟩
  ·exact⟨_,_,[],by simp only[fY,hxr],by simpa [aY]using RepL.nil w,hk,by simp[aY]⟩
  ·refine⟨_,_,_,?_,eI p3 off (n*sz),hk,by simp[aY];omega⟩;simp only[fY,hxr,if_true,aZ,p2];rw[if_pos (by rw[<-p3.len];exact hl)]
 ·exact hq.elim
theorem KU(s:PSt w h M){size:Nat}{x:PV}{x':AV}(hx:RepV w x x'){k:List PV->Nat->Prop}(hq:JV size x M k)(xr:AR)(hxr:ev a' xr=x'):
  ∃new n new',fY a' h size xr=some (new',n)/\RepL w new new'/\k new n/\new.length=n*size:=by
 unfold JV at hq;split at hq
 ·rename_i str;obtain⟨rfl,hk⟩:=hq;have ex:x'= .str str:=by cases hx;rfl
  rw[ex]at hxr;refine⟨_,_,str.data.toList.map fun b=> .int .u8 b.toNat,by simp only[fY,hxr,if_true],⟨by simp,fun i y z hy hz=>?_⟩,hk,by rw[List.length_map,Array.length_toList,Nat.mul_one];rfl⟩;rw[List.getElem?_map]at hy hz
  cases hb:str.data.toList[i]? with
  | none=>rw[hb]at hy;cases hy
  | some b=>rw[hb]at hy hz;cases hy;cases hz;exact .int _ _
 ·exact BL s hx hq xr hxr
theorem DO(s:PSt w h M)(ha:RepL w a a')(size bytes:Nat)(sr x:AR)(hp:PS tab (.append size bytes sr x) a M K):PSok w h M (aop a' h (.append size bytes sr x)) K:=by
 simp only[PS]at hp;obtain⟨hsz,hp⟩:=hp;unfold aBH at hp;obtain⟨new,n,new',e1,e2,e3,e4⟩:=KU (a':=a') s (aK ha x) hp x rfl;have hs:=aK ha sr;have hlen:new'.length=n*size:=by rw[<-e2.len];exact e4
 simp only[aop,e1];split at e3
 ·rename_i hv;obtain⟨⟨h1,h2,h3⟩,hk⟩:=e3;rw[hv]at hs;rw[cT hs];have h3':=rE e2 h3;by_cases hn:n=0
  ·subst hn;have:new=[]:=List.length_eq_zero_iff.1 (by simpa using e4);subst this;obtain⟨s1,s2⟩:=s.allocNone (v0:=0);exact⟨.nilslice,h,[],by simp,_,_,_,[],[],s2,s1,.refN (e:=⟨none,0,0⟩) (by show(if _=_ then _ else _)=_;rw[if_pos rfl]) rfl rfl,(fun x hx=>by cases hx),ChgOk.app M _ _,hk⟩
  ·obtain⟨s1,s2⟩:=s.alloc (o:= .cells 0 0 new) (o':= .cells 0 true new') (e:=⟨some h.next,0,0⟩) rfl (fun w' hl he=>⟨_,he,rfl,_,H.get_alloc_new _ _,e2.mono hl s.env⟩);refine⟨.slice false size h.next 0 n,_,[],?_,_,_,_,[],[],s2,s1,.ref (e:=⟨some h.next,0,0⟩) (by show(if _=_ then _ else _)=_;rw[if_pos rfl]) rfl rfl,(fun x hx=>by cases hx),ChgOk.app M _ _,hk⟩;simp only;rw[if_neg hn,if_pos ⟨h1,by simpa [eK]using h2,h3',hlen⟩]
 ·rename_i fl own sz m cs hv;rw[hv]at hs;by_cases hn:n=0
  ·rw[if_pos hn]at e3;rcases mA s hs with⟨hx,_⟩ | ⟨fl',b,off,ver,rw,bcs,hx,_⟩
   ·rw[hx]at hs;exact PSok.pure s (v:= .nilslice) (by rw[hx];simp only;rw[if_pos hn]) hs e3
   ·rw[hx]at hs;exact PSok.pure s (v:= .slice fl' sz b off m) (by rw[hx];simp only;rw[if_pos hn]) hs e3
  rw[if_neg hn]at e3;obtain⟨⟨rfl,rfl,rfl,h1,h2,h3⟩,hk⟩:=e3;have h3':=rE e2 h3;rcases mA s hs with⟨hx,rfl,rfl⟩ | ⟨fl',b,off,ver,rw,bcs,hx,hfl,q1,q2,q3,q4,q5,_⟩
  ·obtain⟨s1,s2⟩:=s.alloc (o:= .cells 0 0 ([]++new)) (o':= .cells 0 true new') (e:=⟨some h.next,0,0⟩) rfl (fun w' hl he=>⟨_,he,rfl,_,H.get_alloc_new _ _,by simpa using e2.mono hl s.env⟩);rw[Nat.zero_add]at hk;refine⟨.slice false sz h.next 0 n,_,[],?_,_,_,_,[],[],s2,s1,.ref (e:=⟨some h.next,0,0⟩) (by show(if _=_ then _ else _)=_;rw[if_pos rfl]) rfl rfl,(fun x hx=>by cases hx),ChgOk.app M _ _,hk⟩;rw[hx];simp only;rw[if_neg hn,if_pos ⟨by simpa using h1,by simpa [eK]using h2,h3',hlen⟩]
  ·have:=hfl rfl rfl;subst this;obtain⟨s1,s2⟩:=s.alloc (o:= .cells 0 0 (cs++new)) (o':= .cells 0 true ((bcs.drop off).take cs.length++new')) (e:=⟨some h.next,0,0⟩) rfl (fun w' hl he=>⟨_,he,rfl,_,H.get_alloc_new _ _,(q5.append e2).mono hl s.env⟩);refine⟨.slice false sz h.next 0 (m+n),_,[],?_,_,_,_,[],[],s2,s1,.ref (e:=⟨some h.next,0,0⟩) (by show(if _=_ then _ else _)=_;rw[if_pos rfl]) rfl rfl,(fun x hx=>by cases hx),ChgOk.app M _ _,hk⟩;rw[hx];simp only;rw[if_neg hn,if_pos ⟨trivial,h1,by simpa [eK]using h2,h3',hlen⟩];simp only[aZ,q2];rw[<-q4,if_pos q3];simp
 ·rename_i id g sz off m hv;obtain⟨ver,cs,hm,⟨rfl,h0,h00,h1,h2,h3⟩,hk⟩:=e3;rw[hv]at hs;have h3':=rE e2 h3;obtain⟨e,p1,p2,p3⟩:=s.refAt hm hs;rcases p3 with⟨hx,rfl,rfl,hbn,rfl⟩ | ⟨fl,b,bcs,hx,hb,q2,q3,q4⟩
  ·by_cases hn:n=0
   ·subst hn;have:new=[]:=List.length_eq_zero_iff.1 (by simpa using e4);subst this;obtain⟨s1,s2⟩:=s.regen (h':=h) (e2:=⟨none,0,g+1⟩) (cs2:=aY [] 0 (0*sz)++[]) hm p1 p2 rfl (Nat.le_refl _) (fun _ _ _=>rfl) (fun b hb=>by cases hb) (by simp[aY]);exact⟨.nilslice,h,[],by rw[hx];simp,_,_,_,[],[id],s2,s1,.refN (e:=⟨none,0,g+1⟩) (by show(if _=_ then _ else _)=_;rw[if_pos rfl]) rfl rfl,(fun x hx=>by cases hx),ChgOk.set M _ _,hk⟩
   ·obtain⟨s1,s2⟩:=s.regen (h':=h.alloc (.cells 0 true new')) (e2:=⟨some h.next,0,g+1⟩) (cs2:=aY [] 0 (0*sz)++new) hm p1 p2 rfl (by simp) (fun x hx _=>by rw[H.get_alloc,if_neg (by omega)]) (fun b hb=>by cases hb;exact⟨by simp,.inl (Nat.le_refl _)⟩) ⟨_,H.get_alloc_new _ _,by simpa [aY]using e2⟩;rw[Nat.zero_add]at hk;refine⟨.slice false sz h.next 0 n,_,[],?_,_,_,_,[],[id],s2,s1,.ref (e:=⟨some h.next,0,g+1⟩) (by show(if _=_ then _ else _)=_;rw[if_pos rfl]) rfl rfl,(fun x hx=>by cases hx),ChgOk.set M _ _,hk⟩;rw[hx];simp only;rw[if_neg hn,if_pos ⟨by simpa using h1,by simpa [eK]using h2,h3',hlen⟩]
  ·have hbn:=q4.next s;by_cases hn:n=0
   ·subst hn;have:new=[]:=List.length_eq_zero_iff.1 (by simpa using e4);subst this;have hw:off=0/\m*sz=cs.length:=by
     rcases h00 with h | h
     ·omega
     ·exact h
    obtain⟨rfl,hw⟩:=hw;have hsub:aY cs 0 (m*sz)++[]=cs:=by simp[aY,hw]
    obtain⟨s1,s2⟩:=s.regen (h':=h) (e2:=⟨some b,e.v0+ver,g+1⟩) (cs2:=aY cs 0 (m*sz)++[]) hm p1 p2 rfl (Nat.le_refl _) (fun _ _ _=>rfl) (fun b' hb'=>by cases hb';exact⟨hbn,.inr hb⟩) ⟨bcs,q2,by rw[hsub];exact q3⟩;refine⟨.slice fl sz b 0 m,h,[],by rw[hx];simp,_,_,_,[],[id],s2,s1,.ref (e:=⟨some b,e.v0+ver,g+1⟩) (by show(if _=_ then _ else _)=_;rw[if_pos rfl]) rfl rfl,(fun x hx=>by cases hx),ChgOk.set M _ _,hk⟩
   ·have hold:=eI q3 off (m*sz);have hgc:aZ h b off (m*sz)=some ((bcs.drop off).take (m*sz)):=by simp only[aZ,q2];rw[if_pos (by rw[<-q3.len];exact h0)]
    have hres:∀(hh:H),hh.next=h.next->(∀x,x≠b->hh.get x=h.get x)->(if fl=true then some (.slice false sz h.next 0 (m+n),h.alloc (.cells 0 true ((bcs.drop off).take (m*sz)++new')),[])else match kill h b with | some h'=>some (.slice false sz h.next 0 (m+n),h'.alloc (.cells 0 true ((bcs.drop off).take (m*sz)++new')),[]) | none=>none)=some (AV.slice false sz h.next 0 (m+n),hh.alloc (.cells 0 true ((bcs.drop off).take (m*sz)++new')),([]:List Nat))->
      PSok w h M (some (AV.slice false sz h.next 0 (m+n),hh.alloc (.cells 0 true ((bcs.drop off).take (m*sz)++new')),([]:List Nat))) K:=by
     intro hh hnx hgx _;obtain⟨s1,s2⟩:=s.regen (h':=hh.alloc (.cells 0 true ((bcs.drop off).take (m*sz)++new'))) (e2:=⟨some h.next,0,g+1⟩) (cs2:=aY cs off (m*sz)++new) hm p1 p2 rfl (by simp[hnx]) (fun x hx hxb=>by rw[H.get_alloc,if_neg (by omega),hgx x (fun e=>hxb (by rw[hb,e]))]) (fun b' hb'=>by cases hb';exact⟨by simp[hnx],.inl (Nat.le_refl _)⟩) ⟨_,by rw[<-hnx];exact H.get_alloc_new _ _,hold.append e2⟩;exact⟨_,_,[],rfl,_,_,_,[],[id],s2,s1,.ref (e:=⟨some h.next,0,g+1⟩) (by show(if _=_ then _ else _)=_;rw[if_pos rfl]) rfl rfl,(fun x hx=>by cases hx),ChgOk.set M _ _,hk⟩
    rw[hx];simp only;rw[if_neg hn,if_pos ⟨trivial,h1,by simpa [eK]using h2,h3',hlen⟩];simp only[hgc];by_cases hfl:fl=true
    ·rw[if_pos hfl];exact hres h rfl (fun _ _=>rfl) (by rw[if_pos hfl])
    ·rw[if_neg hfl];have hkl:kill h b=some (h.set b .dead):=by simp only[kill,q2]
     simp only[hkl];exact hres (h.set b .dead) rfl (fun x hx=>H.get_set_ne hx) (by rw[if_neg hfl];simp only[hkl])
 ·exact e3.elim
theorem BW{w:PWd}{cs new:List PV}{cs' new':List AV}(h:RepL w cs cs')(hn:RepL w new new'){off:Nat}(ho:off+new.length<=cs.length):RepL w (cs.take off++new++cs.drop (off+new.length)) (over cs' off new'):=by rw[xP cs' off new' (by rw[<-hn.len,<-h.len];exact ho),<-hn.len];exact((h.take off).append hn).append (h.drop _)
theorem aCt{w:PWd}{v:PV}{x:AV}(h:RepV w v x)(ho:v.one=true):x.one=true:=by cases h<;>simp_all [PV.one,AV.one]
theorem uY{w:PWd}{cs:List PV}{cs':List AV}(h:RepL w cs cs')(ho:cs.all PV.one=true):cs'.all AV.one=true:=by rw[List.all_eq_true]at ho ⊢;intro x hx;obtain⟨i,hi⟩:=List.getElem?_of_mem hx;obtain⟨y,hy⟩:∃y,cs[i]? =some y:=⟨_,List.getElem?_eq_getElem (by rw[h.len];exact(List.getElem?_eq_some_iff.1 hi).1)⟩;exact aCt (h.get i y x hy hi) (ho y (List.mem_of_getElem? hy))
theorem QSrc.noStr(s:PSt w h M){size:Nat}{x:PV}{x':AV}(hx:RepV w x x'){k:List PV->Nat->Prop}(hq:QSrc size x M k)(t:ByteArray):x'≠ .str t:=by
 intro e;unfold QSrc at hq;split at hq
 ·rw[cT hx]at e;cases e
 ·rcases mA s hx with⟨e',_⟩ | ⟨_,_,_,_,_,_,e',_⟩<;>(rw[e']at e;cases e)
 ·obtain⟨ver,cs,hm,_⟩:=hq;obtain⟨_,_,_,q3⟩:=s.refAt hm hx;rcases q3 with⟨e',_⟩ | ⟨_,_,_,e',_⟩<;>(rw[e']at e;cases e)
 ·exact hq.elim
theorem PC{a':List AV}{h:H}{size n:Nat}{x:AR}{new:List AV}(hs:fY a' h size x=some (new,n))(hns:∀t,ev a' x≠ .str t):
  (ev a' x= .nilslice/\n=0)\/∃fl b o,ev a' x= .slice fl size b o n/\∀k,k<=n->aZ h b o (k*size)=some (new.take (k*size)):=by
 unfold fY at hs;split at hs
 ·rename_i he;cases hs;exact .inl ⟨he,rfl⟩
 ·rename_i fl sz b o m he;split at hs
  ·rename_i hsz;subst hsz;split at hs
   ·rename_i cs hcs;cases hs;refine .inr ⟨fl,b,o,he,fun k hk=>?_⟩;unfold aZ at hcs ⊢;split at hcs
    ·rename_i ver rw all hg;have hm:=Nat.mul_le_mul_right sz hk;split at hcs
     ·cases hcs;rw[if_pos (by omega),List.take_take,Nat.min_eq_left hm]
     ·cases hcs
    ·cases hcs
   ·cases hs
  ·cases hs
 ·rename_i t he;exact absurd he (hns t)
 ·cases hs
theorem GL(s:PSt w h M)(ha:RepL w a a')(size:Nat)(d x:AR)(hp:PS tab (.copyS size d x) a M K):PSok w h M (aop a' h (.copyS size d x)) K:=by
 have hx:=aK ha d;simp only[PS]at hp;unfold aEG at hp;split at hp
 ·rename_i id g sz off m hv;rw[hv]at hx;obtain⟨new,n,new',e1,e2,e3,e4⟩:=BL (a':=a') s (aK ha x) hp x rfl;have hns:∀t,ev a' x≠ .str t:=hp.noStr s (aK ha x);obtain⟨ver,cs,hm,⟨rfl,h2,h3⟩,hk⟩:=e3;obtain⟨e,q1,q2,q3⟩:=s.refAt hm hx;rcases q3 with⟨p1,rfl,rfl,_,rfl⟩ | ⟨fl,b,bcs,p1,p2,p3,p4,p5⟩
  ·rw[if_pos (Nat.min_zero n)]at hk;refine PSok.read s (v:=i64 0) (rd:=[]) (prd:=[]) ?_ (.int _ _) (fun x hx=>by cases hx) hk;rcases PC e1 hns with⟨k1,_⟩ | ⟨fl,b,o,k1,_⟩
   ·simp only[aop,p1,k1]
   ·simp only[aop,p1,k1]
  ·rcases PC e1 hns with⟨k1,rfl⟩ | ⟨fl2,b2,o2,k1,k2⟩
   ·rw[if_pos (Nat.zero_min m)]at hk;refine PSok.read s (v:=i64 0) (rd:=[]) (prd:=[]) ?_ (.int _ _) (fun x hx=>by cases hx) hk;simp only[aop,p1,k1]
   ·by_cases hz:min n m=0
    ·rw[if_pos hz]at hk;refine PSok.read s (v:=i64 0) (rd:=[]) (prd:=[]) ?_ (.int _ _) (fun x hx=>by cases hx) hk;simp only[aop,p1,k1,and_self,if_true,hz]
    ·rw[if_neg hz]at hk;have hmn:=Nat.mul_le_mul_right sz (Nat.min_le_left n m);have hmm:=Nat.mul_le_mul_right sz (Nat.min_le_right n m);have hlt:(new.take (min n m*sz)).length=min n m*sz:=by rw[List.length_take];omega
     have hov:=BW p4 (e2.take (min n m*sz)) (off:=off) (by rw[hlt];omega);rw[hlt]at hov;obtain⟨s1,s2⟩:=s.setCells (ver2:=ver+1) hm q1 q2 p2 hov;have hone:(new'.take (min n m*sz)).all AV.one=true:=by
      have:=uY e2 h3;rw[List.all_eq_true]at this ⊢;exact fun y hy=>this y (List.mem_of_mem_take hy)
     refine⟨.int .i64 ((min n m:Nat):Int),_,[],?_,w,.int .i64 ((min n m:Nat):Int),_,[],[id],s2,s1,.int _ _,(fun x hx=>by cases hx),ChgOk.set M id _,hk⟩;have hl2:(new'.take (min n m*sz)).length=min n m*sz:=by rw[<-(e2.take _).len];exact hlt
     simp only[aop,p1,k1,and_self,if_true,hz,if_false,k2 _ (Nat.min_le_left n m),dG,p3];rw[if_pos (by have:=p4.len;simp only[Bool.and_eq_true,decide_eq_true_eq];exact⟨by rw[hl2];omega,hone⟩)];rfl
 ·exact hp.elim
theorem DN(s:PSt w h M)(ha:RepL w a a')(z:List AV)(x:AR)(hp:PS tab (.clearS z x) a M K):PSok w h M (aop a' h (.clearS z x)) K:=by
 have hx:=aK ha x;simp only[PS]at hp;unfold aBG at hp;split at hp
 ·rename_i id g sz off n hv;rw[hv]at hx;obtain⟨ver,cs,hm,⟨h1,h2,h3⟩,hk⟩:=hp;rw[List.length_map]at h1;subst h1;obtain⟨e,q1,q2,q3⟩:=s.refAt hm hx;rcases q3 with⟨p1,rfl,rfl,_,rfl⟩ | ⟨fl,b,bcs,p1,p2,p3,p4,p5⟩
  ·rw[if_pos rfl]at hk;exact PSok.read s (v:= .tuple []) (rd:=[]) (prd:=[]) (by simp only[aop,p1]) (.tuple rfl (fun i y z q=>by simp at q)) (fun x hx=>by cases hx) hk
  ·by_cases hz:n=0
   ·rw[if_pos hz]at hk;exact PSok.read s (v:= .tuple []) (rd:=[]) (prd:=[]) (by simp only[aop,p1,if_true,hz]) (.tuple rfl (fun i y z q=>by simp at q)) (fun x hx=>by cases hx) hk
   ·rw[if_neg hz]at hk;have hr:=iJ (cP w z) n;have hlt:(bW n (z.map ofAV1)).length=n*z.length:=by rw[mD,List.length_map]
    have hov:=BW p4 hr (off:=off) (by rw[hlt];exact h2);rw[hlt]at hov;obtain⟨s1,s2⟩:=s.setCells (ver2:=ver+1) hm q1 q2 p2 hov;have hone:=uY hr h3;refine⟨.tuple [],_,[],?_,w,.tuple [],_,[],[id],s2,s1,.tuple rfl (fun i y z q=>by simp at q),(fun x hx=>by cases hx),ChgOk.set M id _,hk⟩;have hl2:(fE n z).length=n*z.length:=by rw[<-hr.len];exact hlt
    simp only[aop,p1,if_true,hz,if_false,dG,p3];rw[if_pos (by have:=p4.len;simp only[Bool.and_eq_true,decide_eq_true_eq];exact⟨by rw[hl2];omega,hone⟩)];rfl
 ·exact hp.elim
theorem w7(s:PSt w h M)(ha:RepL w a a')(x i:AR)(hp:PS tab (.indexStr x i) a M K):PSok w h M (aop a' h (.indexStr x i)) K:=by
 have hx:=aK ha x;have hi:=aK ha i;simp only[PS]at hp;obtain⟨str,e1,kd,k,e2,h0,c,e3,hk⟩:=hp;rw[e1]at hx;rw[e2]at hi;have ex:ev a' x= .str str:=by generalize ev a' x=y at hx;cases hx;rfl
 exact PSok.read s (v:= .int .u8 c.toNat) (rd:=[]) (prd:=[]) (by simp only[aop,ex,eJ hi,if_pos h0,e3]) (.int _ _) (fun x hx=>by cases hx) hk
end
section
variable {tab:FuncId->Option AF} {w:PWd} {h:H} {M:Mem} {a:List PV} {a':List AV} {K:PV->Mem->List Nat->List Nat->Prop}
theorem KW(s:PSt w h M)(ha:RepL w a a')(c x y:AR)(hp:PS tab (.pick c x y) a M K):PSok w h M (aop a' h (.pick c x y)) K:=by
 simp only[PS]at hp;obtain⟨b,hb,hk⟩:=hp;have hc:=aK ha c;rw[hb]at hc;have hc:=iK hc
 cases b with
 | true=>exact PSok.pure s (v:=ev a' x) (by simp only[aop,hc]) (aK ha x) hk
 | false=>exact PSok.pure s (v:=ev a' y) (by simp only[aop,hc]) (aK ha y) hk
theorem GM(s:PSt w h M)(ha:RepL w a a')(z:List AV)(ps:List (Nat×Nat×AR))(hp:PS tab (.build z ps) a M K):PSok w h M (aop a' h (.build z ps)) K:=by simp only[PS]at hp;obtain⟨cs,hc,hk⟩:=hp;obtain⟨cs',e1,e2⟩:=lC ha ps (cP w z) hc;exact PSok.pure s (v:= .agg cs') (by simp only[aop,e1]) (.agg e2.len e2.get) hk
theorem w6(s:PSt w h M)(ha:RepL w a a')(x:AR)(hp:PS tab (.nilCheck x) a M K):PSok w h M (aop a' h (.nilCheck x)) K:=by
 have hx:=aK ha x;simp only[PS]at hp;unfold zL at hp;split at hp
 ·rename_i id g o hv;obtain⟨ver,cs,hm,hk⟩:=hp;rw[hv]at hx;obtain⟨e,b,bcs,e1,_⟩:=s.ptrAt hm hx;rw[<-hv]at hx;exact PSok.pure s (v:=ev a' x) (by simp only[aop,e1]) hx hk
 ·obtain⟨h1,hk⟩:=hp;revert hx h1;generalize hv:pev a x=v at*;generalize hu:ev a' x=u;intro hx h1
  cases v with
  | cp cs o=>obtain⟨b,off,ver,rw,bcs,e1,_⟩:=xD s hx;exact PSok.pure s (v:=u) (by simp only[aop,hu,e1]) hx hk
  | func fn f c=>
   cases hx with
   | func q1 q2 q3 q4 q5=>rename_i f' c';refine PSok.pure s (v:= .func fn f' c') ?_ (.func q1 q2 q3 q4 q5) hk;simp only[aop,hu];cases fn<;>first | rfl | (simp[xH]at h1)
  | iface t u=>
   cases hx with
   | iface q=>rename_i x';exact PSok.pure s (v:= .iface t x') (by simp only[aop,hu]) (.iface q) hk
  | _=>simp[xH]at h1
theorem ST(s:PSt w h M)(ha:RepL w a a')(op:BinOp)(x y:AR)(hp:PS tab (.bin op x y) a M K):PSok w h M (aop a' h (.bin op x y)) K:=by
 simp only[PS]at hp;obtain⟨v,hv,hk⟩:=hp;unfold bX at hv;split at hv
 ·rename_i p q h1 h2;have e1:=eF (aK ha x) h1;have e2:=eF (aK ha y) h2
  cases hr:eB op p q with
  | none=>rw[hr]at hv;cases hv
  | some r=>rw[hr]at hv;cases hv;exact PSok.pure s (v:=r) (by simp only[aop,e1,e2,hr]) (eG w r) hk
 ·cases hv
theorem W5(s:PSt w h M)(ha:RepL w a a')(op:UnOp)(x:AR)(hp:PS tab (.un op x) a M K):PSok w h M (aop a' h (.un op x)) K:=by
 simp only[PS]at hp;obtain⟨v,hv,hk⟩:=hp;unfold pun at hv;split at hv
 ·rename_i p h1;have e1:=eF (aK ha x) h1
  cases hr:aun op p with
  | none=>rw[hr]at hv;cases hv
  | some r=>rw[hr]at hv;cases hv;exact PSok.pure s (v:=r) (by simp only[aop,e1,hr]) (eG w r) hk
 ·cases hv
theorem SP(s:PSt w h M)(ha:RepL w a a')(x:AR)(xs:List AR)(hp:PS tab (.max x xs) a M K):PSok w h M (aop a' h (.max x xs)) K:=by
 simp only[PS]at hp;obtain⟨v,hv,hk⟩:=hp;unfold HE at hv;split at hv
 ·rename_i p q h1 h2;have e1:=eF (aK ha x) h1;have e2:=jH (nJ ha xs) h2
  cases hr:kE zE p q with
  | none=>rw[hr]at hv;cases hv
  | some r=>rw[hr]at hv;cases hv;exact PSok.pure s (v:=r) (by simp only[aop,e1,e2,hr]) (eG w r) hk
 ·cases hv
theorem SO(s:PSt w h M)(ha:RepL w a a')(x:AR)(xs:List AR)(hp:PS tab (.min x xs) a M K):PSok w h M (aop a' h (.min x xs)) K:=by
 simp only[PS]at hp;obtain⟨v,hv,hk⟩:=hp;unfold xI at hv;split at hv
 ·rename_i p q h1 h2;have e1:=eF (aK ha x) h1;have e2:=jH (nJ ha xs) h2
  cases hr:kE zD p q with
  | none=>rw[hr]at hv;cases hv
  | some r=>rw[hr]at hv;cases hv;exact PSok.pure s (v:=r) (by simp only[aop,e1,e2,hr]) (eG w r) hk
 ·cases hv
theorem SR(s:PSt w h M)(ha:RepL w a a')(neg:Bool)(x y:AR)(hp:PS tab (.eqB neg x y) a M K):PSok w h M (aop a' h (.eqB neg x y)) K:=by simp only[PS]at hp;obtain⟨p,h1,q,h2,hk⟩:=hp;have e1:=aK ha x;have e2:=aK ha y;rw[h1]at e1;rw[h2]at e2;exact PSok.pure s (v:= .bool (if neg=true then !(p==q)else p==q)) (by simp only[aop,iK e1,iK e2]) (.bool _) hk
theorem GI(s:PSt w h M)(ha:RepL w a a')(kd:Nat)(neg:Bool)(x y:AR)(hp:PS tab (.isNil kd neg x y) a M K):PSok w h M (aop a' h (.isNil kd neg x y)) K:=by
 simp only[PS]at hp;have e1:=aK ha x;have e2:=aK ha y;have fin:∀b,U2 kd (ev a' x) (ev a' y)=some b->K (.bool (if neg=true then !b else b)) M [] []->PSok w h M (aop a' h (.isNil kd neg x y)) K:=fun b hb hk=>
  PSok.pure s (v:= .bool (if neg=true then !b else b)) (by simp only[aop,hb]) (.bool _) hk
 unfold JW at hp;split at hp
 ·rename_i h1 h2;rw[h1]at e1;rw[h2]at e2;exact fin true (by rw[cT e1,cT e2];rfl) hp
 ·rename_i fl own sz n cs h1 h2;rw[h1]at e1;rw[h2]at e2;rcases mA s e1 with⟨e3,rfl,_⟩ | ⟨_,_,_,_,_,_,e3,_⟩
  ·rw[if_pos rfl]at hp;exact fin true (by rw[e3,cT e2];rfl) hp.1
  ·refine fin false (by rw[e3,cT e2];rfl) ?_;by_cases hn:n=0
   ·rw[if_pos hn]at hp;exact hp.2
   ·rw[if_neg hn]at hp;exact hp
 ·rename_i id g sz off n h1 h2;obtain⟨ver,cs,hm,hk⟩:=hp;rw[h1]at e1;rw[h2]at e2;obtain⟨e,_,_,q⟩:=s.refAt hm e1;rcases q with⟨e3,_,rfl,_⟩ | ⟨_,_,_,e3,_⟩
  ·rw[if_pos rfl]at hk;exact fin true (by rw[e3,cT e2];rfl) hk.1
  ·refine fin false (by rw[e3,cT e2];rfl) ?_;by_cases hn:n=0
   ·rw[if_pos hn]at hk;exact hk.2
   ·rw[if_neg hn]at hk;exact hk
 ·rename_i h1 h2;rw[h1]at e1;rw[h2]at e2;refine fin true ?_ hp;revert e1 e2;generalize ev a' x=u;generalize ev a' y=v;intro e1 e2;cases e1;cases e2;rfl
 ·rename_i id g o h1 h2;obtain⟨ver,cs,hm,hk⟩:=hp;rw[h1]at e1;rw[h2]at e2;obtain⟨e,b,bcs,e3,_⟩:=s.ptrAt hm e1;refine fin false ?_ hk;rw[e3];revert e2;generalize ev a' y=v;intro e2;cases e2;rfl
 ·rename_i h1 h2;rw[h1]at e1;rw[h2]at e2;refine fin true ?_ hp;revert e1 e2;generalize ev a' x=u;generalize ev a' y=v;intro e1 e2;cases e1;cases e2;rfl
 ·rename_i fn f c h1 h2;rw[h1]at e1;rw[h2]at e2;refine fin false ?_ hp;revert e1 e2;generalize ev a' x=u;generalize ev a' y=v;intro e1 e2;cases e1;cases e2;rfl
 ·rename_i h1 h2;rw[h1]at e1;rw[h2]at e2;refine fin true ?_ hp;revert e1 e2;generalize ev a' x=u;generalize ev a' y=v;intro e1 e2;cases e1;cases e2;rfl
 ·rename_i h1 h2;rw[h1]at e1;rw[h2]at e2;refine fin false ?_ hp;revert e1 e2;generalize ev a' x=u;generalize ev a' y=v;intro e1 e2;cases e1;cases e2;rfl
 ·exact hp.elim
theorem zV(s:PSt w h M)(ha:RepL w a a')(neg:Bool)(T:List (Option IntKind))(x y:AR)(hp:PS tab (.eqCells neg T x y) a M K):PSok w h M (aop a' h (.eqCells neg T x y)) K:=by
 simp only[PS]at hp;obtain⟨p,h1,q,h2,b,hb,hk⟩:=hp;have e1:=aK ha x;have e2:=aK ha y;rw[h1]at e1;rw[h2]at e2;obtain⟨p',e1,r1⟩:=mC e1;obtain⟨q',e2,r2⟩:=mC e2;unfold nO at hb;split at hb
 ·rename_i u v h3 h4;rw[jH r1 h3]at e1;rw[jH r2 h4]at e2;exact PSok.pure s (v:= .bool (if neg=true then !b else b)) (by simp only[aop,e1,e2,hb]) (.bool _) hk
 ·cases hb
theorem zW(s:PSt w h M)(ha:RepL w a a')(k:IntKind)(x:AR)(hp:PS tab (.convInt k x) a M K):PSok w h M (aop a' h (.convInt k x)) K:=by simp only[PS]at hp;obtain⟨k0,n,h1,hk⟩:=hp;have e1:=aK ha x;rw[h1]at e1;exact PSok.pure s (v:= .int k (k.wrap n)) (by simp only[aop,eJ e1]) (.int _ _) hk
theorem DJ(s:PSt w h M)(ha:RepL w a a')(fn:Go.Fn)(f c:List AR)(hp:PS tab (.mkFunc fn f c) a M K):PSok w h M (aop a' h (.mkFunc fn f c)) K:=by simp only[PS]at hp;obtain⟨⟨g,rfl⟩,hk⟩:=hp;have r1:=nJ ha f;have r2:=nJ ha c;exact PSok.pure s (v:= .func (.func g) (f.map (ev a')) (c.map (ev a'))) (by simp only[aop]) (.func (fun l e=>by cases e) r1.len r2.len r1.get r2.get) hk
theorem iB(ha:RepL w a a'){x:Option AR}{k:Option Int->Prop}(hq:AQ a x k):∃o,bnd a' x=some o/\k o:=by
 unfold AQ at hq;split at hq
 ·exact⟨none,rfl,hq⟩
 ·rename_i y;obtain⟨kd,n,h1,hk⟩:=hq;have e1:=aK ha y;rw[h1]at e1;exact⟨some n,by simp only[bnd,eJ e1],hk⟩
theorem QB{m r:Option Int}(h:m=none\/m=r):(m.isSome&&r.isNone)=false:=by
 rcases h with h | h<;>subst h
 ·rfl
 ·cases m<;>rfl
theorem QC{m r:Option Int}(h:m=none\/m=r)(n:Int):m.getD (r.getD n)=r.getD n:=by
 rcases h with h | h<;>subst h
 ·rfl
 ·cases m<;>rfl
theorem GH(s:PSt w h M)(ha:RepL w a a')(size:Nat)(x:AR)(lo hi mx:Option AR)(hp:PS tab (.slice size x lo hi mx) a M K):PSok w h M (aop a' h (.slice size x lo hi mx)) K:=by
 simp only[PS]at hp;obtain⟨l,b1,hp⟩:=iB ha hp;obtain⟨r,b2,hp⟩:=iB ha hp;obtain⟨m,b3,hp⟩:=iB ha hp;have e1:=aK ha x;have fin:∀v p,eH size (ev a' x) l r m=some v->RepV w p v->K p M [] []->PSok w h M (aop a' h (.slice size x lo hi mx)) K:=fun v p hv hr hk=>
  PSok.pure s (v:=v) (by simp only[aop,b1,b2,b3,hv]) hr hk
 unfold OB at hp;split at hp
 ·rename_i hv;obtain⟨⟨h1,h2,hmm⟩,hk⟩:=hp;rw[hv]at e1;refine fin .nilslice .nils ?_ .nils hk;rw[cT e1];rcases hmm with h | h<;>subst h
  ·simp[eH,h1,h2]
  ·cases m<;>simp_all [eH]
 ·rename_i fl own sz n cs hv;obtain⟨⟨rfl,hmm,h1,h2,h3⟩,hk⟩:=hp;rw[hv]at e1;rcases mA s e1 with⟨hx,rfl,rfl⟩ | ⟨fl',b,off,ver,rw,bcs,hx,hfl,q1,q2,q3,q4,q5,q6⟩
  ·refine fin .nilslice _ ?_ ?_ hk
   ·rw[hx];have hl:l.getD 0=0:=by cases l<;>cases r<;>simp at h1 h2 h3 ⊢ <;>omega
    have hr:r.getD 0=0:=by cases l<;>cases r<;>simp at h1 h2 h3 ⊢ <;>omega
    rcases hmm with h | h<;>subst h
    ·simp[eH,hl,hr]
    ·cases m<;>simp_all [eH]
   ·have:(r.getD ((0:Nat):Int)-l.getD 0).toNat=0:=by cases l<;>cases r<;>simp at h1 h2 h3 ⊢ <;>omega
    rw[this];simpa [aY]using RepV.slN
  ·have hle:(l.getD 0).toNat*sz+(r.getD (n:Int)-l.getD 0).toNat*sz<=cs.length:=by rw[q4,<-Nat.add_mul];exact Nat.mul_le_mul_right _ (by omega)
   have hlen:(aY cs ((l.getD 0).toNat*sz) ((r.getD (n:Int)-l.getD 0).toNat*sz)).length=(r.getD (n:Int)-l.getD 0).toNat*sz:=by simp[aY];omega
   refine fin (.slice (if m.isSome then m.getD (r.getD n)==r.getD n else fl'&&r.getD (n:Int)==(n:Int)) sz b (off+(l.getD 0).toNat*sz) (r.getD (n:Int)-l.getD 0).toNat) _ ?_ ?_ hk
   ·rw[hx];unfold eH;have k1:=QB hmm;have k2:=QC hmm (n:Int);rw[if_neg (by simp[k1])];dsimp only;rw[if_pos ⟨rfl,h1,h2,by omega,by omega⟩]
   ·have hp:=xO q5 hle;refine .sl q1 (by rw[hlen];omega) hlen ?_ q6.1 ?_ (fun i y z hy hz=>?_)
    ·intro hf ho;rw[if_pos ho]at hf
     cases r with
     | none=>
      have:m=none:=by rcases hmm with h | h<;>exact h
      subst this;simp at hf ⊢;exact hfl hf ho
     | some r=>simp at hf
    ·intro ho hf;rw[if_neg (by simp[ho])]at hf;exact q6.2 ho hf
    ·have hi:=aD hy;refine hp.get i y z hy ?_;rw[List.getElem?_take,if_pos (by rw[<-hlen];exact hi),List.getElem?_drop];exact hz
 ·rename_i id g sz off n hv;obtain⟨ver,cs,hm,⟨rfl,hmm,h1,h2,h3⟩,hk⟩:=hp;rw[hv]at e1;obtain⟨e,p1,p2,p3⟩:=s.refAt hm e1;rcases p3 with⟨hx,rfl,rfl,hb,_⟩ | ⟨fl,b,bcs,hx,hb,_⟩
  ·have hl:l.getD 0=0:=by cases l<;>cases r<;>simp at h1 h2 h3 ⊢ <;>omega
   have hr:r.getD 0=0:=by cases l<;>cases r<;>simp at h1 h2 h3 ⊢ <;>omega
   have hr2:r.getD ((0:Nat):Int)=0:=by simpa using hr
   refine fin .nilslice _ ?_ ?_ hk
   ·rw[hx];rcases hmm with h | h<;>subst h
    ·simp[eH,hl,hr]
    ·cases m<;>simp_all [eH]
   ·simp only[hl,hr2];simpa using RepV.refN p1 p2 hb
  ·refine fin (.slice (if m.isSome then m.getD (r.getD n)==r.getD n else fl&&r.getD (n:Int)==(n:Int)) sz b (off+(l.getD 0).toNat*sz) (r.getD (n:Int)-l.getD 0).toNat) _ ?_ (.ref p1 p2 hb) hk;rw[hx];unfold eH;have k1:=QB hmm;have k2:=QC hmm (n:Int);rw[if_neg (by simp[k1])];dsimp only;rw[if_pos ⟨rfl,h1,h2,by omega,by omega⟩]
 ·exact hp.elim
theorem vC(s:PSt w h M)(ha:RepL w a a')(off:Nat)(x:AR)(hp:PS tab (.fieldAddr off x) a M K):PSok w h M (aop a' h (.fieldAddr off x)) K:=by
 have hx:=aK ha x;simp only[PS]at hp;unfold aGg at hp;split at hp
 ·rename_i id g o hv;obtain⟨ver,cs,hm,hk⟩:=hp;rw[hv]at hx;obtain⟨e,b,bcs,e1,e2,e3,e4,_⟩:=s.ptrAt hm hx;exact PSok.pure s (v:= .ptr b (o+off)) (by simp only[aop,e1]) (.ptr e2 e3 e4) hk
 ·rename_i cs o hv;rw[hv]at hx;revert hx;generalize hu:ev a' x=u;intro hx
  cases hx with
  | cp h1 h2 h6=>rename_i b ver rw bcs boff;exact PSok.pure s (v:= .ptr b (boff+(o+off))) (by simp only[aop,hu,Nat.add_assoc]) (.cp h1 h2 h6) hp
 ·exact hp.elim
theorem GK(s:PSt w h M)(ha:RepL w a a')(off:Nat)(n:Option Nat)(x:AR)(hp:PS tab (.field off n x) a M K):PSok w h M (aop a' h (.field off n x)) K:=by
 have hx:=aK ha x
 cases n with
 | none=>simp only[PS]at hp;obtain⟨cs,h1,v,h2,hk⟩:=hp;rw[h1]at hx;obtain⟨cs',e1,e2⟩:=mC hx;obtain⟨z,e3,e4⟩:=e2.getSome h2;exact PSok.pure s (v:=z) (by simp only[aop,e1,e3]) e4 hk
 | some n=>simp only[PS]at hp;obtain⟨cs,h1,h2,hk⟩:=hp;rw[h1]at hx;obtain⟨cs',e1,e2⟩:=mC hx;have e3:=eI e2 off n;exact PSok.pure s (v:= .agg ((cs'.drop off).take n)) (by simp only[aop,e1];rw[if_pos (by rw[<-e2.len];exact h2)]) (.agg e3.len e3.get) hk
theorem vB(s:PSt w h M)(ha:RepL w a a')(size:Nat)(x i:AR)(hp:PS tab (.indexAddr size x i) a M K):PSok w h M (aop a' h (.indexAddr size x i)) K:=by
 have hx:=aK ha x;have hi:=aK ha i;simp only[PS]at hp;unfold aGf at hp;split at hp
 ·rename_i fl own sz n cs hv;obtain⟨kd,j,h1,⟨rfl,h2,h3⟩,hk⟩:=hp;rw[h1]at hi;rw[hv]at hx;have hj:=eJ hi;revert hx;generalize hu:ev a' x=u;intro hx
  cases hx with
  | slN=>omega
  | sl p1 p2 p3 p4 p5 p7 p6=>exact PSok.pure s (by simp only[aop,hu,hj];rw[if_pos ⟨trivial,h2,h3⟩]) (.cp p1 p2 p6) hk
 ·rename_i id g sz off n hv;obtain⟨ver,cs,hm,kd,j,h1,⟨rfl,h2,h3⟩,hk⟩:=hp;rw[h1]at hi;rw[hv]at hx;have hj:=eJ hi;obtain⟨e,p1,p2,p3⟩:=s.refAt hm hx;rcases p3 with⟨_,_,rfl,_⟩ | ⟨fl,b,bcs,hx,hb,_⟩
  ·omega
  ·exact PSok.pure s (v:= .ptr b (off+j.toNat*sz)) (by simp only[aop,hx,hj];rw[if_pos ⟨trivial,h2,h3⟩]) (.ptr p1 p2 hb) hk
 ·exact hp.elim
theorem sU(s:PSt w h M)(ha:RepL w a a')(len size:Nat)(x i:AR)(hp:PS tab (.indexAddrA len size x i) a M K):PSok w h M (aop a' h (.indexAddrA len size x i)) K:=by
 have hx:=aK ha x;have hi:=aK ha i;simp only[PS]at hp;unfold aBF at hp;split at hp
 ·rename_i id g o hv;obtain⟨ver,cs,hm,kd,j,h1,⟨h2,h3⟩,hk⟩:=hp;rw[h1]at hi;rw[hv]at hx;have hj:=eJ hi;obtain⟨e,b,bcs,e1,e2,e3,e4,_⟩:=s.ptrAt hm hx;exact PSok.pure s (v:= .ptr b (o+j.toNat*size)) (by simp only[aop,e1,hj];rw[if_pos ⟨h2,h3⟩]) (.ptr e2 e3 e4) hk
 ·rename_i cs o hv;obtain⟨kd,j,h1,⟨h2,h3⟩,hk⟩:=hp;rw[h1]at hi;rw[hv]at hx;have hj:=eJ hi;revert hx;generalize hu:ev a' x=u;intro hx
  cases hx with
  | cp p1 p2 p6=>rename_i b ver rw bcs boff;exact PSok.pure s (v:= .ptr b (boff+(o+j.toNat*size))) (by simp only[aop,hu,hj];rw[if_pos ⟨h2,h3⟩,Nat.add_assoc]) (.cp p1 p2 p6) hk
 ·exact hp.elim
theorem GJ(s:PSt w h M)(ha:RepL w a a')(len size:Nat)(isAgg:Bool)(x i:AR)(hp:PS tab (.index len size isAgg x i) a M K):PSok w h M (aop a' h (.index len size isAgg x i)) K:=by
 have hx:=aK ha x;have hi:=aK ha i;simp only[PS]at hp;obtain⟨cs,h1,kd,j,h2,h3,hk⟩:=hp;rw[h1]at hx;rw[h2]at hi;have hj:=eJ hi;obtain⟨cs',e1,e2⟩:=mC hx
 cases isAgg with
 | true=>simp only[if_true]at hk;have e3:=eI e2 (j.toNat*size) size;refine PSok.pure s (v:= .agg ((cs'.drop (j.toNat*size)).take size)) ?_ (.agg e3.len e3.get) hk.2;simp only[aop,e1,hj];rw[if_pos h3];simp only[if_true];rw[if_pos (by rw[<-e2.len];exact hk.1)]
 | false=>simp only[Bool.false_eq_true,if_false]at hk;obtain⟨v,h4,hk⟩:=hk;obtain⟨z,e3,e4⟩:=e2.getSome h4;refine PSok.pure s (v:=z) ?_ e4 hk;simp only[aop,e1,hj];rw[if_pos h3];simp only[Bool.false_eq_true,if_false,e3]
theorem zU(s:PSt w h M)(ha:RepL w a a')(x:AR)(i:Nat)(hp:PS tab (.extract x i) a M K):PSok w h M (aop a' h (.extract x i)) K:=by have hx:=aK ha x;simp only[PS]at hp;obtain⟨cs,h1,v,h2,hk⟩:=hp;rw[h1]at hx;obtain⟨cs',e1,e2⟩:=oJ hx;obtain⟨z,e3,e4⟩:=e2.getSome h2;exact PSok.pure s (v:=z) (by simp only[aop,e1,e3]) e4 hk
theorem SQ(s:PSt w h M)(ha:RepL w a a')(x:AR)(hp:PS tab (.len x) a M K):PSok w h M (aop a' h (.len x)) K:=by
 have hx:=aK ha x;simp only[PS]at hp;unfold aGd at hp;split at hp
 ·rename_i hv;rw[hv]at hx;exact PSok.pure s (v:=i64 0) (by simp only[aop,cT hx]) (.int _ _) hp
 ·rename_i fl own sz n cs hv;rw[hv]at hx;rcases mA s hx with⟨e1,rfl,rfl⟩ | ⟨_,_,_,_,_,_,e1,_⟩
  ·exact PSok.pure s (v:=i64 0) (by simp only[aop,e1]) (.int _ _) hp
  ·exact PSok.pure s (v:=i64 n) (by simp only[aop,e1]) (.int _ _) hp
 ·rename_i id g sz off n hv;obtain⟨ver,cs,hm,hk⟩:=hp;rw[hv]at hx;obtain⟨e,p1,p2,p3⟩:=s.refAt hm hx;rcases p3 with⟨e1,_,rfl,_⟩ | ⟨_,_,_,e1,_⟩
  ·exact PSok.pure s (v:=i64 0) (by simp only[aop,e1]) (.int _ _) hk
  ·exact PSok.pure s (v:=i64 n) (by simp only[aop,e1]) (.int _ _) hk
 ·exact hp.elim
theorem pZ:∀(i:Nat) (M M':Mem),M.length<=M'.length->∀id,id<M.length->i+id∉b9 i M M'->PM M M' id
 | i,[],_,_,id,h,_=>by simp at h
 | i,o::M,[],hl,id,h,_=>by simp at hl
 | i,o::M,o'::M',hl,id,h,hn=>by
  unfold b9 at hn;by_cases hs:kZ o o'=true
  ·rw[if_pos hs]at hn
   cases id with
   | zero=>exact⟨o,o',rfl,rfl,hs⟩
   | succ id=>obtain⟨p,p',h1,h2,h3⟩:=pZ (i+1) M M' (by simpa using hl) id (by simpa using h) (by rwa [show i+1+id=i+(id+1) by omega]);exact⟨p,p',by simpa using h1,by simpa using h2,h3⟩
  ·rw[if_neg hs]at hn
   cases id with
   | zero=>exact absurd (by simp) hn
   | succ id=>obtain⟨p,p',h1,h2,h3⟩:=pZ (i+1) M M' (by simpa using hl) id (by simpa using h) (fun hc=>hn (by rw[show i+(id+1)=i+1+id by omega];exact List.mem_cons_of_mem _ hc));exact⟨p,p',by simpa using h1,by simpa using h2,h3⟩
theorem gE{w:PWd}{v:PV}{l:List PV}{xs:List AV}(h:RepL w (v::l) xs):∃x r,xs=x::r/\RepV w v x/\RepL w l r:=by
 cases xs with
 | nil=>have:=h.len;simp at this
 | cons x r=>exact⟨x,r,rfl,h.get 0 _ _ rfl rfl,⟨by have:=h.len;simpa using this,fun i y z h1 h2=>h.get (i+1) y z (by simpa using h1) (by simpa using h2)⟩⟩
theorem xJ{w:PWd}{t:TypeId}{g:FuncId} :∀{tbl:List PV} {tbl':List AV},RepL w tbl tbl'->dF tbl t=some g->iN tbl' t=some g
 | .int _ a:: .int _ b::r,tbl',h,hg=>by
  obtain⟨x1,r1,rfl,h1,h2⟩:=gE h;obtain⟨x2,r2,rfl,h3,h4⟩:=gE h2;cases h1;cases h3;unfold dF at hg;unfold iN;split at hg
  ·rename_i e;rw[if_pos e];exact hg
  ·rename_i e;rw[if_neg e];exact xJ h4 hg
 | [],_,_,hg=>by simp[dF]at hg
 | [_],_,_,hg=>by simp[dF]at hg
 | x::y::r,tbl',h,hg=>by
  unfold dF at hg;split at hg
  ·rename_i e;cases e;obtain⟨x1,r1,rfl,h1,h2⟩:=gE h;obtain⟨x2,r2,rfl,h3,h4⟩:=gE h2;cases h1;cases h3;unfold iN;split at hg
   ·rename_i e;rw[if_pos e];exact hg
   ·rename_i e;rw[if_neg e];exact xJ h4 hg
  ·cases hg
theorem sT(s:PSt w h M)(ha:RepL w a a')(x:AR)(hp:PS tab (.strToBytes x) a M K):PSok w h M (aop a' h (.strToBytes x)) K:=by
 simp only[PS]at hp;have e1:=aK ha x;unfold aD2 at hp;split at hp
 ·rename_i t h1;obtain⟨hsz,hk⟩:=hp;rw[h1]at e1;have e2:ev a' x= .str t:=by revert e1;generalize ev a' x=u;intro e1;cases e1;rfl
  obtain⟨s1,s2,s3⟩:=s.allocImm (.cells 0 false (t.data.toList.map fun b=> .int .u8 b.toNat));refine⟨.slice false 1 h.next 0 t.size,_,[],by simp only[aop,e2];rw[if_pos hsz],_,.sl true false 1 t.size (t.data.toList.map fun b=> .int .u8 b.toNat),M,[],[],s2,s1,?_,(fun x hx=>by cases hx),ChgOk.refl M _,hk⟩;refine .sl s3 (by simp) (by simp) (fun _ q=>by cases q) (fun q=>by cases q) (fun _ q=>by cases q) (fun i y z q1 q2=>?_);rw[Nat.zero_add,List.getElem?_map]at q2;rw[List.getElem?_map]at q1
  cases hb:t.data.toList[i]? with
  | none=>rw[hb]at q1;cases q1
  | some b=>rw[hb]at q1 q2;cases q1;cases q2;exact .int _ _
 ·exact hp.elim
theorem KZ(s:PSt w h M)(ha:RepL w a a')(t:TypeId)(z:AV)(x:AR)(hp:PS tab (.asTo t z x) a M K):PSok w h M (aop a' h (.asTo t z x)) K:=by
 simp only[PS]at hp;have e1:=aK ha x;unfold aGe at hp;split at hp
 ·rename_i h1;rw[h1]at e1;refine PSok.pure s (v:= .tuple [z,.bool false]) ?_ ?_ hp
  ·revert e1;simp only[aop];generalize ev a' x=u;intro e1;cases e1;rfl
  ·exact .tuple rfl (RepL.cons (eG w z) (.cons (.bool false) (.nil w))).get
 ·rename_i t' v h1;rw[h1]at e1;revert e1;generalize hu:ev a' x=u;intro e1
  cases e1 with
  | iface e2=>
   rename_i y;refine PSok.pure s (v:=if t'=t then .tuple [y,.bool true]else .tuple [z,.bool false]) (by simp only[aop,hu]) ?_ hp;by_cases e:t'=t
   ·rw[if_pos e,if_pos e];exact .tuple rfl (RepL.cons e2 (.cons (.bool true) (.nil w))).get
   ·rw[if_neg e,if_neg e];exact .tuple rfl (RepL.cons (eG w z) (.cons (.bool false) (.nil w))).get
 ·exact hp.elim
theorem KY(h0:w.id0<=M.length)(s:PSt w h M)(ha:RepL w a a')(f:AR)(args:List AR)(hp:PS tab (.call f args) a M K):PSok w h M (eW (lim tab) (.call f args) a' h) K:=by
 have hf:=aK ha f;have hargs:=nJ ha args;simp only[PS]at hp;have fin:∀(v:AV) (h':H),cZ (lim tab) (ev a' f) (args.map (ev a')) h=some (v,h')->(∃w' r M',PStp M.length w h M w' h' M'/\PSt w' h' M'/\RepV w' r v/\KPC M K r M')->PSok w h M (eW (lim tab) (.call f args) a' h) K:=by intro v h' he ⟨w',r,M',p1,p2,p3,p4⟩;exact⟨v,h',[],by simp only[eW,he],w',r,M',[],RC M M',p1,p2,p3,(fun x hx=>by cases hx),fun id hi hn=>pZ 0 M M' p1.len id hi (by rwa [Nat.zero_add]),p4⟩
 unfold zO at hp;split at hp
 ·rename_i g first cap hv
  rw[hv]at hf;revert hf;generalize hu:ev a' f=u;intro hf
  cases hf with
  | func q1 q2 q3 q4 q5=>rename_i f' c';have:=hp w h (f'++args.map (ev a')++c') h0 s (((⟨q2,q4⟩:RepL w first f').append hargs).append ⟨q3,q5⟩);unfold C at this;obtain⟨v,h',he,hk⟩:=this;exact fin v h' (by rw[hu];exact he) hk
 ·rename_i tn nm tbl cap hv;rw[hv]at hf;revert hf;generalize hu:ev a' f=u;intro hf
  cases hf with
  | func q1 q2 q3 q4 q5=>
   rename_i f' c';unfold aEF at hp;split at hp
   ·rename_i t v rest hr;rw[hr]at hargs;obtain⟨g,hg,hp⟩:=hp;obtain⟨x0,l0,hl0,hx0,hl1⟩:=gE hargs;obtain⟨x1,rfl,hx1⟩:∃x1,x0= .iface t x1/\RepV w v x1:=by cases hx0;exact⟨_,rfl,by assumption⟩
    have hm:=xJ ⟨q2,q4⟩ hg;have:=hp w h (x1::l0) h0 s (.cons hx1 hl1);unfold C at this;obtain⟨v',h',he,hk⟩:=this;refine fin v' h' ?_ hk;rw[hu,hl0];simp only[cZ,jU,hm];exact he
   ·exact hp.elim
 ·rename_i id first hv
  rw[hv]at hf;revert hf;generalize hu:ev a' f=u;intro hf;obtain⟨⟨ver,lr,hm⟩,hp⟩:=hp;obtain⟨e0,b0,p1,p2,p3,_⟩:=s.obj _ _ hm
  cases hf with
  | yld q1 q2 q3 q4 q5=>rename_i e b f';rw[p1]at q1;cases q1;rw[p3]at q3;cases q3;have:=hp w h _ (f'++args.map (ev a')) h0 s ⟨_,_,hm,by simp,p1,p3⟩ ((⟨q4,q5⟩:RepL w first f').append hargs);unfold RZ at this;obtain⟨v,h',he,hk⟩:=this;refine fin v h' ?_ hk;rw[hu];simp only[cZ,List.nil_append]at he ⊢;exact he
  | yldS x q0 q1 q2=>rw[p1]at q1;cases q1;omega
 ·exact hp.elim
end
theorem RepE.nil(w:PWd):RepE w [] []:=⟨rfl,fun i y z h=>by simp at h⟩
theorem RepE.cons{w:PWd}{p:PV×PV}{q:AV×AV}{l:List (PV×PV)}{l':List (AV×AV)}(h1:RepV w p.1 q.1)(h2:RepV w p.2 q.2)(hl:RepE w l l'):RepE w (p::l) (q::l'):=
 ⟨by simp[hl.len],fun i y z a b=>by
  cases i with
  | zero=>simp at a b;subst a;subst b;exact⟨h1,h2⟩
  | succ i=>exact hl.get i y z (by simpa using a) (by simpa using b)⟩
theorem RepE.split{w:PWd}{p:PV×PV}{l:List (PV×PV)}{l':List (AV×AV)}(h:RepE w (p::l) l'):∃q l2,l'=q::l2/\RepV w p.1 q.1/\RepV w p.2 q.2/\RepE w l l2:=by
 cases l' with
 | nil=>exact absurd h.len (by simp)
 | cons q l2=>obtain⟨a,b⟩:=h.get 0 p q rfl rfl;exact⟨q,l2,rfl,a,b,⟨by simpa using h.len,fun i y z c d=>h.get (i+1) y z (by simpa using c) (by simpa using d)⟩⟩
theorem nT{w:PWd}{kd:Nat}{k:AV} :∀{es:List (PV×PV)} {es':List (AV×AV)} {r:Option PV},RepE w es es'->dH kd k es=some r->∃r',iG kd k es'=some r'/\((r=none/\r'=none)\/∃v x,r=some v/\r'=some x/\RepV w v x)
 | [],es',r,h,hr=>by have:es'=[]:=List.length_eq_zero_iff.1 (by simpa using h.len.symm);subst this;simp only[dH]at hr;cases hr;exact⟨none,rfl,.inl ⟨rfl,rfl⟩⟩
 | (k1,v1)::es,es',r,h,hr=>by
  obtain⟨⟨k2,v2⟩,l2,rfl,a,b,c⟩:=h.split;simp only[dH]at hr
  cases hk:bN k1 with
  | none=>rw[hk]at hr;cases hr
  | some kk=>
   rw[hk]at hr;have e:=eF a hk;simp only at e;subst e;simp only at hr;simp only[iG]
   cases hq:uQ kd k k2 with
   | none=>rw[hq]at hr;cases hr
   | some t=>
    rw[hq]at hr
    cases t with
    | true=>cases hr;exact⟨some v2,rfl,.inr ⟨v1,v2,rfl,rfl,b⟩⟩
    | false=>exact nT c hr
theorem xX{w:PWd}{kd:Nat}{k:AV}{key v:PV}{x:AV}(hkey:RepV w key k)(hv:RepV w v x):∀{es:List (PV×PV)} {es':List (AV×AV)} {r:Option PV},RepE w es es'->dH kd k es=some r->RepE w (gH kd key k v es) (eV kd k x es')
 | [],es',r,h,_=>by have:es'=[]:=List.length_eq_zero_iff.1 (by simpa using h.len.symm);subst this;exact .cons hkey hv (.nil w)
 | (k1,v1)::es,es',r,h,hr=>by
  obtain⟨⟨k2,v2⟩,l2,rfl,a,b,c⟩:=h.split;simp only[dH]at hr
  cases hk:bN k1 with
  | none=>rw[hk]at hr;cases hr
  | some kk=>
   rw[hk]at hr;have e:=eF a hk;simp only at e;subst e;simp only at hr;simp only[eV,gH,hk]
   cases hq:uQ kd k k2 with
   | none=>rw[hq]at hr;cases hr
   | some t=>
    rw[hq]at hr
    cases t with
    | true=>exact .cons hkey hv c
    | false=>exact .cons a b (xX hkey hv c hr)
section
variable {tab:FuncId->Option AF} {w:PWd} {h:H} {M:Mem} {a:List PV} {a':List AV} {K:PV->Mem->List Nat->List Nat->Prop}
theorem PSt.mapAt(s:PSt w h M){id ver:Nat}{es:List (PV×PV)}(hm:M[id]? =some (.map ver es)){x:AV}(hx:RepV w (.map id) x):
  ∃e b es',x= .map b/\w.env id=some e/\e.g=0/\e.blk=some b/\h.get b=some (.map (e.v0+ver) es')/\RepE w es es'/\LiveAt w M id b:=by
 obtain⟨e,b,h1,h2,h3,es',h4,h5⟩:=s.obj _ _ hm
 cases hx with
 | map q1 q2 q3=>rw[h1]at q1;cases q1;rw[h3]at q3;cases q3;exact⟨e,b,es',rfl,h1,h2,h3,h4,h5,⟨_,e,hm,by simp,h1,h3⟩⟩
 | mapS x q0 q1 q2=>rw[h1]at q1;cases q1;omega
theorem PSt.setMap(s:PSt w h M){id ver b:Nat}{es es2:List (PV×PV)}{es2':List (AV×AV)}{e:Ent}(hm:M[id]? =some (.map ver es))(he:w.env id=some e)(hg:e.g=0)(hb:e.blk=some b)(hr:RepE w es2 es2'){ver2:Nat} :
  PSt w (h.set b (.map (e.v0+ver2) es2')) (M.set id (.map ver2 es2))/\PStp M.length w h M w (h.set b (.map (e.v0+ver2) es2')) (M.set id (.map ver2 es2)):=by
 have hlv:LiveAt w M id b:=⟨_,e,hm,by simp,he,hb⟩;have hbn:=hlv.next s;have hid:=hlv.lt;have live:∀i x,LiveAt w (M.set id (.map ver2 es2)) i x->LiveAt w M i x:=by
  rintro i x ⟨ob,e',h1,h2,h3,h4⟩;by_cases hi:id=i
  ·subst hi;exact⟨_,e',hm,by simp,h3,h4⟩
  ·rw[List.getElem?_set_ne hi]at h1;exact⟨ob,e',h1,h2,h3,h4⟩
 have hget:∀x,x≠b->(h.set b (.map (e.v0+ver2) es2')).get x=h.get x:=fun x hx=>H.get_set_ne hx;have hsame:(h.set b (.map (e.v0+ver2) es2')).get b=some (.map (e.v0+ver2) es2'):=by rw[H.get_set,if_pos ⟨rfl,hbn⟩]
 refine⟨⟨?_,?_,s.blk,?_,fun i j x h1 h2=>s.inj i j x (live i x h1) (live j x h2),fun i x h1=>s.sep i x (live i x h1),s.base⟩,⟨by simp,Le.refl _ _,Nat.le_refl _,?_,fun i x h1 _=>live i x h1,fun x hx=> .inl hx⟩⟩
 ·intro x o hx;have:x≠b:=by rintro rfl;rw[(s.sep id x hlv).1]at hx;cases hx
  rw[hget x this];exact s.imm x o hx
 ·intro i e' he';have:=s.env i e' he';simpa using this
 ·intro i ob hi;by_cases hid2:id=i
  ·subst hid2;rw[List.getElem?_set_self hid]at hi;cases hi;exact⟨e,b,he,hg,hb,es2',hsame,hr⟩
  ·rw[List.getElem?_set_ne hid2]at hi;by_cases hgone:ob= .gone
   ·subst hgone;trivial
   ·refine RepO.mono s (Le.refl _ _) (s.obj i ob hi) (fun _ h=>h) (fun e' b' he' hb'=>hget b' ?_);rintro rfl;exact hid2 (s.inj id i b' hlv ⟨ob,e',hi,hgone,he',hb'⟩)
 ·intro x hx hn;refine hget x ?_;rintro rfl;exact hn id hlv
theorem zS(s:PSt w h M)(ha:RepL w a a')(hp:PS tab .makeMap a M K):PSok w h M (aop a' h .makeMap) K:=by simp only[PS]at hp;obtain⟨s1,s2⟩:=s.alloc (o:= .map 0 []) (o':= .map 0 []) (e:=⟨some h.next,0,0⟩) rfl (fun w' hl he=>⟨_,_,he,rfl,rfl,[],H.get_alloc_new _ _,.nil w'⟩);exact⟨.map h.next,_,[],rfl,_,_,_,[],[],s2,s1,.map (e:=⟨some h.next,0,0⟩) (by show(if _=_ then _ else _)=_;rw[if_pos rfl]) rfl rfl,(fun x hx=>by cases hx),ChgOk.app M _ _,hp⟩
theorem DK(s:PSt w h M)(ha:RepL w a a')(kd:Nat)(ok:Bool)(z:AV)(x i:AR)(hp:PS tab (.lookup kd ok z x i) a M K):PSok w h M (aop a' h (.lookup kd ok z x i)) K:=by
 simp only[PS]at hp;have hx:=aK ha x;have hi:=aK ha i;unfold aBC at hp;split at hp
 ·rename_i id k hv hk;obtain⟨ver,es,hm,r,hr,hK⟩:=hp;rw[hv]at hx;obtain⟨e,b,es',e1,e2,e3,e4,e5,e6,e7⟩:=s.mapAt hm hx;have ek:=eF hi hk;obtain⟨r',f1,f2⟩:=nT e6 hr;have hrd:aD0 w h M [b] [id]:=fun x hx=>by simp only[List.mem_singleton]at hx;subst hx;exact⟨e7.next s,.inr ⟨id,by simp,e7⟩⟩
  rcases f2 with⟨rfl,rfl⟩ | ⟨v,y,rfl,rfl,f3⟩
  ·refine PSok.read s (v:=if ok then .tuple [z,.bool false]else z) (rd:=[b]) (prd:=[id]) ?_ ?_ hrd hK
   ·simp only[aop,e1,e5,ek,f1]
   ·unfold uH
    cases ok with
    | true=>
     refine .tuple rfl fun i y z q1 q2=>?_
     match i with
     | 0=>cases q1;cases q2;exact eG _ _
     | 1=>cases q1;cases q2;exact .bool _
     | i+2=>simp at q1
    | false=>exact eG _ _
  ·refine PSok.read s (v:=if ok then .tuple [y,.bool true]else y) (rd:=[b]) (prd:=[id]) ?_ ?_ hrd hK
   ·simp only[aop,e1,e5,ek,f1]
   ·unfold uH
    cases ok with
    | true=>
     refine .tuple rfl fun i y z q1 q2=>?_
     match i with
     | 0=>cases q1;cases q2;exact f3
     | 1=>cases q1;cases q2;exact .bool _
     | i+2=>simp at q1
    | false=>exact f3
 ·exact hp.elim
theorem u9(s:PSt w h M)(ha:RepL w a a')(kd:Nat)(m i v:AR)(hp:PS tab (.mapUpdate kd m i v) a M K):PSok w h M (aop a' h (.mapUpdate kd m i v)) K:=by
 simp only[PS]at hp;have hx:=aK ha m;have hi:=aK ha i;have hv':=aK ha v;unfold aBB at hp;split at hp
 ·rename_i id k hv hk;obtain⟨ver,es,hm,r,hr,_,hK⟩:=hp;rw[hv]at hx;obtain⟨e,b,es',e1,e2,e3,e4,e5,e6,e7⟩:=s.mapAt hm hx;have ek:=eF hi hk;obtain⟨r',f1,f2⟩:=nT e6 hr;rw[ek]at hi;have f3:=xX hi hv' e6 hr;obtain⟨s1,s2⟩:=s.setMap (ver2:=ver+1) hm e2 e3 e4 f3;refine⟨.tuple [],_,[],?_,w,.tuple [],_,[],[id],s2,s1,.tuple rfl (fun i y z q=>by simp at q),(fun x hx=>by cases hx),ChgOk.set M id _,hK⟩;simp only[aop,e1,e5,ek,f1];rfl
 ·exact hp.elim
end
section
variable {tab:FuncId->Option AF} {w:PWd} {h:H} {M:Mem} {a:List PV} {a':List AV} {K:PV->Mem->List Nat->List Nat->Prop}
theorem wY(s:PSt w h M)(ha:RepL w a a')(x:AR)(lo hi:Option AR)(hp:PS tab (.sliceStr x lo hi) a M K):PSok w h M (aop a' h (.sliceStr x lo hi)) K:=by
 have hx:=aK ha x;simp only[PS]at hp;obtain⟨str,e1,hp⟩:=hp;obtain⟨l,b1,hp⟩:=iB ha hp;obtain⟨r,b2,hp⟩:=iB ha hp;rw[e1]at hx;have ex:ev a' x= .str str:=by generalize ev a' x=y at hx;cases hx;rfl
 exact PSok.pure s (by simp only[aop,ex,b1,b2];rw[if_pos hp.1]) (.str _) hp.2
theorem DL(s:PSt w h M)(ha:RepL w a a')(x:AR)(hp:PS tab (.lenStr x) a M K):PSok w h M (aop a' h (.lenStr x)) K:=by
 have hx:=aK ha x;simp only[PS]at hp;obtain⟨str,e1,hp⟩:=hp;rw[e1]at hx;have ex:ev a' x= .str str:=by generalize ev a' x=y at hx;cases hx;rfl
 exact PSok.pure s (by simp only[aop,ex]) (.int _ _) hp
theorem DM(s:PSt w h M)(ha:RepL w a a')(x:AR)(hp:PS tab (.lenMap x) a M K):PSok w h M (aop a' h (.lenMap x)) K:=by
 have hx:=aK ha x;simp only[PS]at hp;unfold aBD at hp;split at hp
 ·rename_i id hv;obtain⟨ver,es,hm,hk⟩:=hp;rw[hv]at hx;obtain⟨e,b,es',e1,e2,e3,e4,e5,e6,e7⟩:=s.mapAt hm hx;refine PSok.read s (v:=i64 es'.length) (rd:=[b]) (prd:=[id]) (by simp only[aop,e1,e5]) (by rw[<-e6.len];exact .int _ _) (fun x hx=>?_) hk;simp only[List.mem_singleton]at hx;subst hx;exact⟨e7.next s,.inr ⟨id,by simp,e7⟩⟩
 ·exact hp.elim
theorem wZ(s:PSt w h M)(ha:RepL w a a')(len size:Nat)(x:AR)(lo hi:Option AR)(hp:PS tab (.sliceArr len size x lo hi) a M K):PSok w h M (aop a' h (.sliceArr len size x lo hi)) K:=by
 have hx:=aK ha x;simp only[PS]at hp;obtain⟨l,b1,hp⟩:=iB ha hp;obtain⟨r,b2,hp⟩:=iB ha hp;unfold aGc at hp;split at hp
 ·rename_i id g o hv;obtain⟨ver,cs,hm,⟨h1,h2,h3,h4⟩,hk⟩:=hp;rw[hv]at hx;obtain⟨e,b,bcs,e1,e2,e3,e4,e5,e6,e7⟩:=s.ptrAt hm hx;refine PSok.read s (v:= .slice (true&&r.getD (len:Int)==(len:Int)) size b (o+(l.getD 0).toNat*size) (r.getD (len:Int)-l.getD 0).toNat) (rd:=[b]) (prd:=[id]) ?_ (.ref e2 e3 e4) (fun x hx=>?_) hk
  ·simp only[aop,e1,b1,b2,e5];rw[if_pos (by rw[<-e6.len];exact h1)];simp[eH,h2,h3,h4]
  ·simp only[List.mem_singleton]at hx;subst hx;exact⟨e7.next s,.inr ⟨id,by simp,e7⟩⟩
 ·exact hp.elim
theorem B0{l:List PV}{l':List AV}{t:List UInt8}(h:RepL w l l')(e:kA l=some t):eC l'=some t:=by
 unfold kA at e
 cases ht:eT l with
 | none=>rw[ht]at e;cases e
 | some x=>rw[ht]at e;rw[jH h ht];exact e
theorem sV(s:PSt w h M)(ha:RepL w a a')(x:AR)(hp:PS tab (.bytesToStr x) a M K):PSok w h M (aop a' h (.bytesToStr x)) K:=by
 have hx:=aK ha x;simp only[PS]at hp;unfold aGh at hp;split at hp
 ·rename_i hv;rw[hv]at hx;have hn:=cT hx;exact PSok.pure s (by simp only[aop,hn];rfl) (.str _) hp
 ·rename_i fl own sz n cs hv;obtain⟨rfl,t,ht,hk⟩:=hp;rw[hv]at hx;rcases mA s hx with⟨hy,rfl,rfl⟩ | ⟨fl',b,off,ver,rw,bcs,hy,hfl,q1,q2,q3,q4,q5,q6⟩
  ·have:t=[]:=by simpa [kA,eT,eC]using ht.symm
   subst this;exact PSok.pure s (by simp only[aop,hy];rfl) (.str _) hk
  ·rw[Nat.mul_one]at q4;refine PSok.read s (v:= .str ⟨t.toArray⟩) (rd:=[b]) (prd:=[]) ?_ (.str _) (fun x hx=>?_) hk
   ·simp only[aop,hy,aZ,q2];rw[if_pos (by omega)];have:=B0 q5 ht;rw[q4]at this;simp only[this]
   ·simp only[List.mem_singleton]at hx;subst hx;exact⟨s.immLt q1,.inl (by rw[q1];simp)⟩
 ·rename_i id g sz off n hv;obtain⟨ver,cs,hm,⟨rfl,h1⟩,t,ht,hk⟩:=hp;rw[hv]at hx;obtain⟨e,p1,p2,p3⟩:=s.refAt hm hx;rcases p3 with⟨hy,rfl,rfl,hb,rfl⟩ | ⟨fl,b,bcs,hy,hb,q1,q2,q3⟩
  ·have:t=[]:=by simpa [kA,aY,eT,eC]using ht.symm
   subst this;exact PSok.read s (rd:=[]) (prd:=[id]) (by simp only[aop,hy];rfl) (.str _) (fun x hx=>by cases hx) hk
  ·refine PSok.read s (v:= .str ⟨t.toArray⟩) (rd:=[b]) (prd:=[id]) ?_ (.str _) (fun x hx=>?_) hk
   ·simp only[aop,hy,aZ,q1];rw[if_pos (by rw[<-q2.len];exact h1)];have:=B0 (eI q2 off n) ht;simp only[this]
   ·simp only[List.mem_singleton]at hx;subst hx;exact⟨q3.next s,.inr ⟨id,by simp,q3⟩⟩
 ·exact hp.elim
end
section
variable {tab:FuncId->Option AF}
theorem zP{w:PWd}{h:H}{M:Mem}{a:List PV}{a':List AV}{K:PV->Mem->List Nat->List Nat->Prop}(h0:w.id0<=M.length)(s:PSt w h M)(ha:RepL w a a')(o:AO)(hp:PS tab o a M K):PSok w h M (eW (lim tab) o a' h) K:=by
 cases o with
 | move x=>exact PSok.pure s (v:=ev a' x) rfl (aK ha x) hp
 | pick c x y=>exact KW s ha c x y hp
 | alloc cs=>exact GN s ha cs hp
 | box x=>exact SS s ha x hp
 | build z ps=>exact GM s ha z ps hp
 | buildSlice size len z ps=>exact sW s ha size len z ps hp
 | load x=>exact KX s ha x hp
 | loadAgg n x=>exact zT s ha n x hp
 | store n p x=>exact GG s ha n p x hp
 | nilCheck x=>exact w6 s ha x hp
 | bin op x y=>exact ST s ha op x y hp
 | eqB neg x y=>exact SR s ha neg x y hp
 | isNil kd neg x y=>exact GI s ha kd neg x y hp
 | eqCells neg T x y=>exact zV s ha neg T x y hp
 | un op x=>exact W5 s ha op x hp
 | convInt k x=>exact zW s ha k x hp
 | mkFunc fn f c=>exact DJ s ha fn f c hp
 | makeSlice bytes z n c=>exact vA s ha bytes z n c hp
 | slice size x lo hi mx=>exact GH s ha size x lo hi mx hp
 | fieldAddr off x=>exact vC s ha off x hp
 | field off n x=>exact GK s ha off n x hp
 | indexAddr size x i=>exact vB s ha size x i hp
 | indexAddrA len size x i=>exact sU s ha len size x i hp
 | index len size isAgg x i=>exact GJ s ha len size isAgg x i hp
 | extract x i=>exact zU s ha x i hp
 | call f args=>exact KY h0 s ha f args hp
 | append size bytes sr x=>exact DO s ha size bytes sr x hp
 | len x=>exact SQ s ha x hp
 | indexStr x i=>exact w7 s ha x i hp
 | appendMake bytes z x y=>exact sX s ha bytes z x y hp
 | lenStr x=>exact DL s ha x hp
 | lenMap x=>exact DM s ha x hp
 | sliceStr x lo hi=>exact wY s ha x lo hi hp
 | sliceArr len size x lo hi=>exact wZ s ha len size x lo hi hp
 | bytesToStr x=>exact sV s ha x hp
 | copyS size d x=>exact GL s ha size d x hp
 | clearS z x=>exact DN s ha z x hp
 | max x xs=>exact SP s ha x xs hp
 | min x xs=>exact SO s ha x xs hp
 | makeMap=>exact zS s ha hp
 | lookup kd ok z x i=>exact DK s ha kd ok z x i hp
 | mapUpdate kd m i v=>exact u9 s ha kd m i v hp
 | mkIface t x=>exact PSok.pure s (v:= .iface t (ev a' x)) rfl (.iface (aK ha x)) hp
 | strToBytes x=>exact sT s ha x hp
 | asTo t z x=>exact KZ s ha t z x hp
 | _=>simp only[PS]at hp
theorem PStp.weaken{m m':Nat}{w w':PWd}{h h':H}{M M':Mem}(p:PStp m' w h M w' h' M')(hm:m<=m'):PStp m w h M w' h' M':=
 ⟨Nat.le_trans hm p.len,⟨p.le.n0,p.le.id0,p.le.imm,fun id hi=>p.le.env id (by omega)⟩,p.next,p.keep,p.live,fun x hx=>by
  rcases p.new x hx with e | e | ⟨id,e1,e2⟩
  ·exact .inl e
  ·exact .inr (.inl e)
  ·exact .inr (.inr ⟨id,by omega,e2⟩)⟩
theorem uR{w:PWd}{a:List PV}{a':List AV}(ha:RepL w a a'){t:Nat}{want:Bool}{A B:Prop}(h:j4 (ptget a t) want A B):
  (bO a' (some (t,want))=some true/\A)\/(bO a' (some (t,want))=some false/\B):=by
 have ht:=ha.tget t;rcases h with⟨b,hb,hq⟩ | ⟨l,hl,hq⟩
 ·rw[hb]at ht;simp only[bO,iK ht];by_cases e:b=want
  ·rw[if_pos e]at hq;exact .inl ⟨by simp[e],hq⟩
  ·rw[if_neg e]at hq;exact .inr ⟨by simp[e],hq⟩
 ·rw[hl]at ht;obtain⟨l',e,_⟩:=oJ ht;simp only[bO,e];exact .inr ⟨trivial,hq⟩
theorem G1(w:PWd):RepV w (.tuple []) (.tuple []):= .tuple rfl (fun i y z q=>by simp at q)
theorem lS:∀(os:List AOper) {w:PWd} {h:H} {M:Mem} {a:List PV} {a':List AV} {Q:List PV->Mem->Prop},w.id0<=M.length->PSt w h M->RepL w a a'->PO tab os a M Q->
  ∃a2' h2,f8 (lim tab) os a' h=some (a2',h2)/\∃w2 a2 M2,PStp M.length w h M w2 h2 M2/\PSt w2 h2 M2/\RepL w2 a2 a2'/\Q a2 M2
 | [],w,h,M,a,a',Q,h0,s,ha,hp=>⟨a',h,rfl,w,a,M,PStp.refl (Nat.le_refl _) w h,s,ha,hp⟩
 | ⟨d,o,gd,chk⟩::os,w,h,M,a,a',Q,h0,s,ha,hp=>by
  have step:PS tab o a M (fun v M' _ _=>PO tab os (pput a d v) M' Q)->bO a' gd=some true->∃a2' h2,f8 (lim tab) (⟨d,o,gd,chk⟩::os) a' h=some (a2',h2)/\∃w2 a2 M2,PStp M.length w h M w2 h2 M2/\PSt w2 h2 M2/\RepL w2 a2 a2'/\Q a2 M2:=by intro hs hw;obtain⟨v,h1,rd,e1,w1,p,M1,prd,chg,s1,s2,hr,_,_,hk⟩:=zP h0 s ha o hs;obtain⟨a2',h2,e2,w2,a2,M2,t1,t2,t3,t4⟩:=lS os (by rw[s1.le.id0];exact Nat.le_trans h0 s1.len) s2 ((ha.mono s1.le s.env).put d hr) hk;refine⟨a2',h2,?_,w2,a2,M2,s1.trans t1 s1.len,t2,t3,t4⟩;simp only[f8,hw,e1];exact e2
  have skp:PO tab os (pput a d (.tuple [])) M Q->bO a' gd=some false->∃a2' h2,f8 (lim tab) (⟨d,o,gd,chk⟩::os) a' h=some (a2',h2)/\∃w2 a2 M2,PStp M.length w h M w2 h2 M2/\PSt w2 h2 M2/\RepL w2 a2 a2'/\Q a2 M2:=by intro hs hw;obtain⟨a2',h2,e2,rest⟩:=lS os h0 s (ha.put d (G1 w)) hs;refine⟨a2',h2,?_,rest⟩;simp only[f8,hw];exact e2
  cases gd with
  | none=>exact step hp rfl
  | some g=>
   obtain⟨t,want⟩:=g;rcases uR ha hp with⟨h1,h2⟩ | ⟨h1,h2⟩
   ·exact step h2 h1
   ·exact skp h2 h1
structure LogOk (w:PWd) (h:H) (M:Mem) (e:LogE) (p:PLog):Prop where
 idx:e.idx=p.idx
 ok:∃wb wa Ma,PSt wb e.hb p.Mb/\PSt wa e.ha Ma/\PStp p.Mb.length wb e.hb p.Mb wa e.ha Ma/\PStp Ma.length wa e.ha Ma w h M/\ChgOk p.Mb Ma p.chg/\Ma.length=p.na/\
  ∀x∈e.rd,(x=e.hb.next/\e.hb.next<e.ha.next)\/(x<e.hb.next/\(wb.imm x≠none\/∃id∈p.rd,LiveAt wb p.Mb id x))
inductive LogsOk (w:PWd) (h:H) (M:Mem):List LogE->List PLog->Prop
 | nil:LogsOk w h M [] []
 | cons {e:LogE} {p:PLog} {l:List LogE} {ps:List PLog} :LogOk w h M e p->LogsOk w h M l ps->LogsOk w h M (e::l) (p::ps)
theorem LogsOk.mono{w w':PWd}{h h':H}{M M':Mem}(t:PStp M.length w h M w' h' M'){l:List LogE}{ps:List PLog}(hl:LogsOk w h M l ps):LogsOk w' h' M' l ps:=by
 induction hl with
 | nil=>exact .nil
 | cons he _ ih=>refine .cons ⟨he.idx,?_⟩ ih;obtain⟨wb,wa,Ma,h1,h2,h3,h4,h5,h6⟩:=he.ok;exact⟨wb,wa,Ma,h1,h2,h3,h4.trans t h4.len,h5,h6⟩
theorem BP{w w':PWd}{h h':H}{M M':Mem}(s:PSt w h M)(s':PSt w' h' M')(t:PStp M.length w h M w' h' M'){id x:Nat}(hl:LiveAt w M id x)(hp:PM M M' id):LiveAt w' M' id x/\h'.ver x=h.ver x:=by
 obtain⟨o,e,h1,h2,h3,h4⟩:=hl;obtain⟨o1,o2,h5,h6,h7⟩:=hp;rw[h1]at h5;cases h5;have hid:=s.env id e h3;obtain⟨e',q1,q2⟩:=t.le.env id hid e h3;have r1:=s.obj id o h1;have r2:=s'.obj id o2 h6
 cases o with
 | cells g ver cs=>
  cases o2 with
  | cells g2 ver2 cs2=>
   simp only[kZ,Bool.and_eq_true,beq_iff_eq]at h7;obtain⟨rfl,rfl⟩:=h7;obtain⟨ea,a1,a2,a3⟩:=r1;obtain⟨eb,b1,b2,b3⟩:=r2;rw[h3]at a1;cases a1;rw[q1]at b1;cases b1;rcases q2 with q2 | rfl
   ·omega
   ·rw[h4]at a3 b3;obtain⟨_,a4,_⟩:=a3;obtain⟨_,b4,_⟩:=b3;exact⟨⟨_,_,h6,by simp,q1,h4⟩,by simp[H.ver,a4,b4,AObj.ver]⟩
  | _=>simp[kZ]at h7
 | map ver es=>
  cases o2 with
  | map ver2 es2=>
   simp only[kZ,beq_iff_eq]at h7;subst h7;obtain⟨ea,ba,a1,a2,a3,_,a4,_⟩:=r1;obtain⟨eb,bb,b1,b2,b3,_,b4,_⟩:=r2;rw[h3]at a1;cases a1;rw[q1]at b1;cases b1;rcases q2 with q2 | rfl
   ·omega
   ·rw[h4]at a3 b3;cases a3;cases b3;exact⟨⟨_,_,h6,by simp,q1,h4⟩,by simp[H.ver,a4,b4,AObj.ver]⟩
  | _=>simp[kZ]at h7
 | loop ver es=>
  cases o2 with
  | loop ver2 es2=>
   simp only[kZ,beq_iff_eq]at h7;subst h7;obtain⟨ea,ba,a1,a2,a3,_,a4,_⟩:=r1;obtain⟨eb,bb,b1,b2,b3,_,b4,_⟩:=r2;rw[h3]at a1;cases a1;rw[q1]at b1;cases b1;rcases q2 with q2 | rfl
   ·omega
   ·rw[h4]at a3 b3;cases a3;cases b3;exact⟨⟨_,_,h6,by simp,q1,h4⟩,by simp[H.ver,a4,b4,AObj.ver]⟩
  | _=>simp[kZ]at h7
 | gone=>exact absurd rfl h2
theorem XO{wb w:PWd}{hb h:H}{Mb M:Mem}(sb:PSt wb hb Mb)(s:PSt w h M)(t:PStp Mb.length wb hb Mb w h M){id x:Nat}(hl:LiveAt w M id x)(hp:pold Mb M id=true):LiveAt wb Mb id x:=by
 obtain⟨o,e,h1,h2,h3,h4⟩:=hl;unfold pold at hp;rw[h1]at hp;have key:∀ob,Mb[id]? =some ob->ob≠ .gone->(∀eb,wb.env id=some eb->eb.g=e.g)->(∃eb,wb.env id=some eb)->LiveAt wb Mb id x:=by
  intro ob hob hg hge ⟨eb,heb⟩;obtain⟨e',q1,q2⟩:=t.le.env id (sb.env id eb heb) eb heb;rw[h3]at q1;cases q1;have:=hge eb heb;rcases q2 with q2 | rfl
  ·omega
  ·exact⟨ob,_,hob,hg,heb,h4⟩
 have r:=s.obj id o h1
 cases hob:Mb[id]? with
 | none=>rw[hob]at hp;simp at hp
 | some ob=>
  rw[hob]at hp;have rb:=sb.obj id ob hob
  cases ob with
  | cells g ver cs=>
   cases o with
   | cells g2 ver2 cs2=>simp only[beq_iff_eq]at hp;subst hp;obtain⟨ea,a1,a2,a3⟩:=rb;obtain⟨eb,b1,b2,b3⟩:=r;rw[h3]at b1;cases b1;exact key _ hob (by simp) (fun eb heb=>by rw[a1]at heb;cases heb;omega) ⟨ea,a1⟩
   | _=>simp at hp
  | map ver es=>
   cases o with
   | map ver2 es2=>obtain⟨ea,ba,a1,a2,_⟩:=rb;obtain⟨eb,bb,b1,b2,_⟩:=r;rw[h3]at b1;cases b1;exact key _ hob (by simp) (fun eb heb=>by rw[a1]at heb;cases heb;omega) ⟨ea,a1⟩
   | _=>simp at hp
  | loop ver es=>
   cases o with
   | loop ver2 es2=>obtain⟨ea,ba,a1,a2,_⟩:=rb;obtain⟨eb,bb,b1,b2,_⟩:=r;rw[h3]at b1;cases b1;exact key _ hob (by simp) (fun eb heb=>by rw[a1]at heb;cases heb;omega) ⟨ea,a1⟩
   | _=>simp at hp
  | gone=>cases o<;>simp at hp
theorem FR{w w':PWd}{h h':H}{M M':Mem}{m:Nat}(t:PStp m w h M w' h' M'){x:Nat}(hx:x<h.next)(hn:∀id,¬LiveAt w M id x):h'.ver x=h.ver x:=by unfold H.ver;rw[t.keep x hx hn]
theorem aAf{w w':PWd}{h h':H}{M M':Mem}(t:PStp M.length w h M w' h' M'){x:Nat}(hx:x<h.next)(hi:w'.imm x≠none):w.imm x≠none:=by
 rcases t.new x hi with e | e | ⟨id,e1,e2⟩
 ·exact e
 ·omega
 ·have:=e2.lt;omega
theorem tS{w w':PWd}{h h':H}{M M':Mem}(s:PSt w h M)(s':PSt w' h' M')(t:PStp M.length w h M w' h' M'){eff:Bool}{rd0 prd chg chk:List Nat}(hr:aD0 w h M rd0 prd)(hc:ChgOk M M' chg):
  ∀{log:List LogE} {plog:List PLog},LogsOk w h M log plog->pchk eff prd chg M plog chk=true->pJ eff (rdx h h' rd0) h h' log chk=true:=by
 intro log plog hl hp;unfold pchk at hp;unfold pJ
 induction hl with
 | nil=>rfl
 | @cons e p l ps he _ ih=>
  simp only[List.all_cons,Bool.and_eq_true]at hp ⊢;refine⟨?_,ih hp.2⟩;have hp:=hp.1;rw[he.idx];split
  ·rename_i hchk;rw[if_pos hchk]at hp;obtain⟨wb,wa,Ma,sb,sa,tba,tan,hcb,hna,hcov⟩:=he.ok;have tbn:=tba.trans tan tba.len
   cases eff with
   | true=>
    simp only[if_true]at hp ⊢;rw[List.all_eq_true]at hp ⊢;intro x hx;unfold eY;split
    ·rename_i hxn;simp only[beq_iff_eq];by_cases hlv:∃id,LiveAt w M id x
     ·obtain⟨id,hlv⟩:=hlv;by_cases hid:id∈chg
      ·have:=hp id hid;simp only[Bool.and_eq_true,Bool.or_eq_true,decide_eq_true_eq,Bool.not_eq_true',List.contains_eq_mem,decide_eq_false_iff_not]at this;rcases this.2 with hpo | hna2
       ·have lb:=XO sb s tbn hlv hpo;rcases hcov x hx with⟨rfl,_⟩ | ⟨_,q | ⟨id',q1,q2⟩⟩
        ·have:=lb.next sb;omega
        ·exact absurd (sb.sep id x lb).1 q
        ·have:=sb.inj id id' x lb q2;subst this;exact absurd q1 (by simpa using this.1)
       ·exfalso;have hxa:x<e.ha.next:=by
         rcases hcov x hx with⟨rfl,q⟩ | ⟨q,_⟩
         ·exact q
         ·exact Nat.lt_of_lt_of_le q tba.next
        have:=(tan.live id x hlv hxa).lt;omega
      ·exact(BP s s' t hlv (hc id hlv.lt hid)).2.symm
     ·exact(FR t hxn (fun id hl=>hlv ⟨id,hl⟩)).symm
    ·rfl
   | false=>
    simp only[Bool.false_eq_true,if_false]at hp ⊢;rw[List.all_eq_true]at hp ⊢;intro x hx;unfold eY;split
    ·rename_i hxn;simp only[beq_iff_eq];by_cases hlb:∃id,LiveAt wb p.Mb id x
     ·obtain⟨id,hlb⟩:=hlb;by_cases hid:id∈p.chg
      ·have hx0:x∈rd0:=by
        unfold rdx at hx;split at hx
        ·rcases List.mem_cons.1 hx with rfl | hx
         ·have:=tbn.next;omega
         ·exact hx
        ·exact hx
       obtain⟨hxh,q⟩:=hr x hx0;rcases q with q | ⟨id2,q1,q2⟩
       ·exact absurd (sb.sep id x hlb).1 (aAf tbn hxn q)
       ·have:=tbn.live id2 x q2 hxn;have:=sb.inj id id2 x hlb this;subst this;have:=hp id hid;simp at this;exact absurd q1 this
      ·exact(BP sb sa tba hlb (hcb id hlb.lt hid)).2.symm
     ·exact(FR tba hxn (fun id hl=>hlb ⟨id,hl⟩)).symm
    ·rfl
  ·rfl
theorem sK:∀(os:List AOper) (i:Nat) {w:PWd} {h:H} {M:Mem} {a:List PV} {a':List AV} {log:List LogE} {plog:List PLog} {Q:List PV->Mem->Prop},w.id0<=M.length->PSt w h M->RepL w a a'->LogsOk w h M log plog->PD tab os i a M plog Q->
  ∃a2' h2,dU (lim tab) os i a' h log=some (a2',h2)/\∃w2 a2 M2,PStp M.length w h M w2 h2 M2/\PSt w2 h2 M2/\RepL w2 a2 a2'/\Q a2 M2
 | [],i,w,h,M,a,a',log,plog,Q,h0,s,ha,hl,hp=>⟨a',h,rfl,w,a,M,PStp.refl (Nat.le_refl _) w h,s,ha,hp⟩
 | ⟨d,o,gd,chk⟩::os,i,w,h,M,a,a',log,plog,Q,h0,s,ha,hl,hp=>by
  have step:PS tab o a M (fun v M' rd chg=>pchk o.effect rd chg M plog chk=true/\PD tab os (i+1) (pput a d v) M' (⟨i,rd,chg,M,M'.length⟩::plog) Q)->bO a' gd=some true->∃a2' h2,dU (lim tab) (⟨d,o,gd,chk⟩::os) i a' h log=some (a2',h2)/\∃w2 a2 M2,PStp M.length w h M w2 h2 M2/\PSt w2 h2 M2/\RepL w2 a2 a2'/\Q a2 M2:=by
   intro hs hw;obtain⟨v,h1,rd,e1,w1,p,M1,prd,chg,s1,s2,hr,hrd,hchg,hck,hk⟩:=zP h0 s ha o hs;have hc:=tS s s2 s1 hrd hchg hl hck;have hlog:LogsOk w1 h1 M1 (⟨i,rdx h h1 rd,h,h1⟩::log) (⟨i,prd,chg,M,M1.length⟩::plog):=by
    refine .cons ⟨rfl,w,w1,M1,s,s2,s1,PStp.refl (Nat.le_refl _) w1 h1,hchg,rfl,fun x hx=>?_⟩ (hl.mono s1);simp only at hx ⊢;unfold rdx at hx;split at hx
    ·rename_i hlt;rcases List.mem_cons.1 hx with rfl | hx
     ·exact .inl ⟨rfl,hlt⟩
     ·exact .inr (hrd x hx)
    ·exact .inr (hrd x hx)
   obtain⟨a2',h2,e2,w2,a2,M2,t1,t2,t3,t4⟩:=sK os (i+1) (by rw[s1.le.id0];exact Nat.le_trans h0 s1.len) s2 ((ha.mono s1.le s.env).put d hr) hlog hk;refine⟨a2',h2,?_,w2,a2,M2,s1.trans t1 s1.len,t2,t3,t4⟩;simp only[dU,hw,e1];rw[if_pos hc];exact e2
  have skp:PD tab os (i+1) (pput a d (.tuple [])) M plog Q->bO a' gd=some false->∃a2' h2,dU (lim tab) (⟨d,o,gd,chk⟩::os) i a' h log=some (a2',h2)/\∃w2 a2 M2,PStp M.length w h M w2 h2 M2/\PSt w2 h2 M2/\RepL w2 a2 a2'/\Q a2 M2:=by intro hs hw;obtain⟨a2',h2,e2,rest⟩:=sK os (i+1) h0 s (ha.put d (G1 w)) hl hs;refine⟨a2',h2,?_,rest⟩;simp only[dU,hw];exact e2
  cases gd with
  | none=>exact step hp rfl
  | some g=>
   obtain⟨t,want⟩:=g;rcases uR ha hp with⟨h1,h2⟩ | ⟨h1,h2⟩
   ·exact step h2 h1
   ·exact skp h2 h1
theorem gS{L:Rec}{c:AC}{a:List AV}{h:H}{Qn Qr Qn' Qr':List AV->H->Prop}{Qe Qe':Nat->List AV->H->Prop}(hw:W L c a h Qn Qr Qe)(h1:∀a h,Qn a h->Qn' a h)(h2:∀a h,Qr a h->Qr' a h)(h3:∀i a h,Qe i a h->Qe' i a h):W L c a h Qn' Qr' Qe':=by
 unfold W at hw ⊢;obtain⟨e,a',h',he,hq⟩:=hw;refine⟨e,a',h',he,?_⟩
 cases e with
 | normal=>exact h1 _ _ hq
 | ret=>exact h2 _ _ hq
 | exit i=>exact h3 _ _ _ hq
theorem Lf.trans{m:Nat}{w w1:PWd}{h h1:H}{M M1:Mem}(t:PStp m w h M w1 h1 M1){Q:List PV->Mem->Prop}{a':List AV}{h':H}(hl:Lf m w1 h1 M1 Q a' h'):Lf m w h M Q a' h':=by obtain⟨w2,a,M2,t2,s2,r2,q⟩:=hl;exact⟨w2,a,M2,t.trans t2 (Nat.le_refl _),s2,r2,q⟩
theorem J1(m:Nat):∀(c:AC) {a:List PV} {M:Mem} {Qn Qr:List PV->Mem->Prop} {Qe:Nat->List PV->Mem->Prop},PX tab m c a M Qn Qr Qe->bQ tab m c a M Qn Qr Qe:=by
 intro c
 induction c with
 | skip=>intro a M Qn Qr Qe hp w h a' h0 hm s ha;rw[aF9];exact⟨w,a,M,PStp.refl hm w h,s,ha,hp⟩
 | region os=>intro a M Qn Qr Qe hp w h a' h0 hm s ha;rw[zJ];obtain⟨a2',h2,e2,w2,a2,M2,t1,t2,t3,t4⟩:=lS os (Nat.le_trans h0 hm) s ha hp;unfold WO;exact⟨a2',h2,e2,w2,a2,M2,t1.weaken hm,t2,t3,t4⟩
 | regionD os=>intro a M Qn Qr Qe hp w h a' h0 hm s ha;rw[C2];obtain⟨a2',h2,e2,w2,a2,M2,t1,t2,t3,t4⟩:=sK os 0 (Nat.le_trans h0 hm) s ha .nil hp;unfold WD;exact⟨a2',h2,e2,w2,a2,M2,t1.weaken hm,t2,t3,t4⟩
 | seq x y ihx ihy=>intro a M Qn Qr Qe hp w h a' h0 hm s ha;rw[aED];refine gS (ihx hp w h a' h0 hm s ha) (fun a1 h1 hl=>?_) (fun _ _ h=>h) (fun _ _ _ h=>h);obtain⟨w1,b,M1,t1,s1,r1,q⟩:=hl;rw[R2];exact gS (ihy q w1 h1 a1 (by rw[t1.le.id0];exact h0) t1.len s1 r1) (fun _ _ h=>h.trans t1) (fun _ _ h=>h.trans t1) (fun _ _ _ h=>h.trans t1)
 | cond c x y ihx ihy=>
  intro a M Qn Qr Qe hp w h a' h0 hm s ha;rw[FD];obtain⟨b,hb,hq⟩:=hp;have hc:=aK ha c;rw[hb]at hc;refine⟨b,iK hc,?_⟩
  cases b with
  | true=>rw[if_pos rfl]at hq ⊢;exact ihx hq w h a' h0 hm s ha
  | false=>rw[if_neg (by simp)]at hq ⊢;exact ihy hq w h a' h0 hm s ha
 | block id x ih=>
  intro a M Qn Qr Qe hp w h a' h0 hm s ha;rw[RT];refine gS (ih hp w h a' h0 hm s ha) (fun _ _ h=>h) (fun _ _ h=>h) (fun i a1 h1 hl=>?_);rw[lT];obtain⟨w1,b,M1,t1,s1,r1,q⟩:=hl;by_cases e:i=id
  ·rw[if_pos e]at q ⊢;exact⟨w1,b,M1,t1,s1,r1,q⟩
  ·rw[if_neg e]at q ⊢;exact⟨w1,b,M1,t1,s1,r1,q⟩
 | loop sc x ih=>intro a M Qn Qr Qe hp;exact hp
 | rangeFunc f ps asg body ih1 ih2=>intro a M Qn Qr Qe hp;exact hp
 | exit id=>intro a M Qn Qr Qe hp w h a' h0 hm s ha;rw[aGa];exact⟨w,a,M,PStp.refl hm w h,s,ha,hp⟩
 | ret=>intro a M Qn Qr Qe hp w h a' h0 hm s ha;rw[aHr];exact⟨w,a,M,PStp.refl hm w h,s,ha,hp⟩
theorem N6{m:Nat}{sc:List Nat}{x:AC}{a:List PV}{M:Mem}{Qn Qr:List PV->Mem->Prop}{Qe:Nat->List PV->Mem->Prop}(hp:PX tab m x (s8 a sc) M (fun a M=>bQ tab m (.loop sc x) a M Qn Qr Qe) Qr Qe):
  bQ tab m (.loop sc x) a M Qn Qr Qe:=by
 intro w h a' h0 hm s ha;rw[aBv _ _ _ _ _ _ _ _ (rJ tab)];refine gS (J1 m x hp w h _ h0 hm s (RepL.scrub sc ha)) (fun a1 h1 hl=>?_) (fun _ _ h=>h) (fun _ _ _ h=>h);obtain⟨w1,b,M1,t1,s1,r1,q⟩:=hl;rw[aEE];exact gS (q w1 h1 a1 (by rw[t1.le.id0];exact h0) t1.len s1 r1) (fun _ _ h=>h.trans t1) (fun _ _ h=>h.trans t1) (fun _ _ _ h=>h.trans t1)
def f7(res:List ARes)(a:List PV)(M:Mem)(K:List PV->Prop):Prop:=match res with
 | []=>K []
 | .tmp t::rs=>f7 rs a M fun vs=>K (ptget a t::vs)
 | .cell t::rs=>JY (ptget a t) M fun v _=>f7 rs a M fun vs=>K (v::vs)
 | .cells t n::rs=>zM n (ptget a t) M fun v _=>f7 rs a M fun vs=>K (v::vs)
def ppack:List PV->PV
 | [v]=>v
 | vs=> .tuple vs
def ppad(args:List PV)(n:Nat):List PV:=args++List.replicate (n-args.length) .junk
theorem aCg{w:PWd}{l:List PV}{l':List AV}(h:RepL w l l')(n:Nat):RepL w (ppad l n) (pD l' n):=by unfold ppad pD;rw[h.len];exact h.append ⟨by simp,fun i y z h1 h2=>by rw[List.getElem?_replicate]at h1;split at h1<;>cases h1;exact .junk _⟩
theorem XG{w:PWd}{l:List PV}{l':List AV}(h:RepL w l l'):RepV w (ppack l) (gI l'):=by
 match l,l',h with
 | [],[],h=>exact .tuple rfl h.get
 | [v],[x],h=>exact h.hd
 | v::u::l,x::y::l',h=>exact .tuple h.len h.get
 | [],_::_,h=>have:=h.len;simp at this
 | [v],[],h=>have:=h.len;simp at this
 | [v],_::_::_,h=>have:=h.len;simp at this
 | _::_::_,[],h=>have:=h.len;simp at this
 | _::_::_,[_],h=>have:=h.len;simp at this
theorem jI{w:PWd}{h:H}{M:Mem}{a:List PV}{a':List AV}(s:PSt w h M)(ha:RepL w a a'):∀(res:List ARes) {K:List PV->Prop},f7 res a M K->∃vs vs',cW a' h res=some vs'/\RepL w vs vs'/\K vs
 | [],K,hp=>⟨[],[],rfl,.nil w,hp⟩
 | .tmp t::rs,K,hp=>by obtain⟨vs,vs',e1,e2,e3⟩:=jI s ha rs hp;exact⟨_,tget a' t::vs',by simp only[cW,tU,e1],.cons (ha.tget t) e2,e3⟩
 | .cell t::rs,K,hp=>by
  have hx:=ha.tget t;simp only[f7]at hp;unfold JY at hp;split at hp
  ·rename_i id g o hv;obtain⟨ver,cs,hm,y,hy,hk⟩:=hp;rw[hv]at hx;obtain⟨e,b,bcs,q1,q2,q3,q4,q5,q6,q7⟩:=s.ptrAt hm hx;obtain⟨z,hz,hr⟩:=q6.getSome hy;obtain⟨vs,vs',e1,e2,e3⟩:=jI s ha rs hk;exact⟨_,z::vs',by simp only[cW,tU,q1,fQ,q5,hz,e1],.cons hr e2,e3⟩
  ·rename_i cs o hv;obtain⟨y,hy,hk⟩:=hp;rw[hv]at hx;obtain⟨b,off,ver,rw,bcs,q1,q2,q3,q4,q5⟩:=xD s hx;obtain⟨z,hz,hr⟩:=HO q5 hy;obtain⟨vs,vs',e1,e2,e3⟩:=jI s ha rs hk;exact⟨_,z::vs',by simp only[cW,tU,q1,fQ,q3,hz,e1],.cons hr e2,e3⟩
  ·exact hp.elim
 | .cells t n::rs,K,hp=>by
  have hx:=ha.tget t;simp only[f7]at hp;unfold zM at hp;split at hp
  ·rename_i id g o hv;obtain⟨ver,cs,hm,hn,hk⟩:=hp;rw[hv]at hx;obtain⟨e,b,bcs,q1,q2,q3,q4,q5,q6,q7⟩:=s.ptrAt hm hx;have hs:=eI q6 o n;obtain⟨vs,vs',e1,e2,e3⟩:=jI s ha rs hk;exact⟨_,.agg ((bcs.drop o).take n)::vs',by simp only[cW,tU,q1,aZ,q5,e1];rw[if_pos (by rw[<-q6.len];exact hn)];rfl,.cons (.agg hs.len hs.get) e2,e3⟩
  ·rename_i cs o hv;obtain⟨hn,hk⟩:=hp;rw[hv]at hx;obtain⟨b,off,ver,rw,bcs,q1,q2,q3,q4,q5⟩:=xD s hx;have hs:=xO q5 hn;obtain⟨vs,vs',e1,e2,e3⟩:=jI s ha rs hk;exact⟨_,.agg ((bcs.drop (off+o)).take n)::vs',by simp only[cW,tU,q1,aZ,q3,e1];rw[if_pos (by omega)];rfl,.cons (.agg hs.len hs.get) e2,e3⟩
  ·exact hp.elim
theorem dV{g:FuncId}{F:AFn}(hg:tab g=some (.fn F)){args:List PV}{M:Mem}{K:PV->Mem->Prop}
  (hp:bQ tab M.length F.body (ppad args F.ntmps) M (fun a M'=>f7 F.results a M' fun vs=>K (ppack vs) M') (fun a M'=>f7 F.results a M' fun vs=>K (ppack vs) M') (fun _ _ _=>False)):SemC tab g args M K:=by
 intro w h args' h0 s ha;rw[aHB hg];have fin:∀a1 h1,Lf M.length w h M (fun a M'=>f7 F.results a M' fun vs=>K (ppack vs) M') a1 h1->V7 F.results (fun v h'=>∃w' r M',PStp M.length w h M w' h' M'/\PSt w' h' M'/\RepV w' r v/\K r M') a1 h1:=by intro a1 h1 ⟨w1,b,M1,t1,s1,r1,q⟩;obtain⟨vs,vs',e1,e2,e3⟩:=jI s1 r1 F.results q;rw[aEh];exact⟨vs',e1,w1,_,M1,t1,s1,XG e2,e3⟩
 exact gS (hp w h _ h0 (Nat.le_refl _) s (aCg ha _)) fin fin (fun i a1 h1 ⟨_,_,_,_,_,_,q⟩=>q)
end
end Go.Am

