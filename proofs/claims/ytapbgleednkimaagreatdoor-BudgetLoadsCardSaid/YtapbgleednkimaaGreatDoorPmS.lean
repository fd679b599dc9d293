/- The pure machine: slices that nobody writes to are lists; the rest lies in a small store of numbered objects. What its values stand for on the abstract machine, and what goes with it. -/
import Derived.Test.YtapbgleednkimaaGreatDoorAmKEnd
set_option linter.all false
open Nat renaming lt_or_ge->Ba,le_refl->Ac,le_trans->Aj,lt_of_lt_of_le->Bi,min_eq_left->Dv,zero_add->Az,mul_one->Ct,mul_le_mul_right->Dr,min_le_left->Ge,add_assoc->Cs
open List renaming getElem?_append_left->Bj,getElem?_append_right->Bx,getElem?_drop->Bg,getElem?_take->Bc,getElem?_eq_none->Bk,getElem?_eq_getElem->Ad,getElem?_map->Av,all_eq_true->Cf,getElem?_set_ne->Bo,getElem?_set_self->Cj,mem_singleton->Bp,length_map->Ap
open Bool renaming and_eq_true->Au,false_eq_true->Bf,true->Jo,false->Jp
open Option renaming some->Jm,none->Jn
namespace Go.Am
inductive PV where
 | aa
 | bool (b:Bool)
 | int (k:IntKind) (n:Int)
 | str (s:ByteArray)
 | au | ah | bc | aq | ae
 | ptr (id g o:Nat)
 | cp (cs:List PV) (o:Nat)
 | sl (fl own:Bool) (sz n:Nat) (cs:List PV)
 | ref (id g sz off n:Nat)
 | map (id:Nat)
 | func (fn:Fn) (first cap:List PV)
 | yld (id:Nat) (first:List PV)
 | iface (t:TypeId) (v:PV)
 | agg (cs:List PV)
 | tuple (vs:List PV)
 deriving Inhabited
abbrev p64(n:Int):PV:= .int .i64 n
abbrev p8(n:Int):PV:= .int .u8 n
structure ju where
 state:LoopState
 pending:Option Ex
 tmps:List PV
 params:List Nat
 assign:AC
 body:AC
inductive cm where
 | cells (g ver:Nat) (cs:List PV)
 | map (ver:Nat) (es:List (PV×PV))
 | loop (ver:Nat) (r:ju)
 | gone
abbrev Mem:=List cm
structure Ent where
 blk:Option Nat
 v0:Nat
 g:Nat
structure PWd where
 n0:Nat
 id0:Nat
 env:Nat->Option Ent
 imm:Nat->Option bq
inductive az (w:PWd):PV->AV->Prop
 | aa (x:AV):az w .aa x
 | bool (b:Bool):az w (.bool b) (.bool b)
 | int (k:IntKind) (n:Int):az w (.int k n) (.int k n)
 | str (s:ByteArray):az w (.str s) (.str s)
 | au:az w .au .au
 | ah:az w .ah .ag
 | bc:az w .bc .bc
 | aq:az w .aq .aq
 | ae:az w .ae .ae
 | ptr {id g o:Nat} {e:Ent} {b:Nat} :w.env id=Jm e->e.g=g->e.blk=Jm b->az w (.ptr id g o) (.ptr b o)
 | mi {id g o:Nat} {e:Ent} (x:AV):x.one=Jo->w.env id=Jm e->g<e.g->az w (.ptr id g o) x
 | cp {cs:List PV} {o b ver:Nat} {rw:Bool} {bcs:List AV} {off:Nat} :w.imm b=Jm (.cells ver rw bcs)->off+cs.length<=bcs.length->
   (∀(i:Nat) (y:PV) (z:AV),cs[i]? =Jm y->bcs[off+i]? =Jm z->az w y z)->az w (.cp cs o) (.ptr b (off+o))
 | sl {fl own:Bool} {sz n:Nat} {cs:List PV} {fl':Bool} {b ver:Nat} {rw:Bool} {bcs:List AV} {off:Nat} :w.imm b=Jm (.cells ver rw bcs)->off+cs.length<=bcs.length->cs.length=n*sz->
   (fl=Jo->own=Jo->fl'=Jo)->(own=Jo->w.n0<=b/\rw=Jo)->(own=Jp->fl=Jp->b<w.n0)->
   (∀(i:Nat) (y:PV) (z:AV),cs[i]? =Jm y->bcs[off+i]? =Jm z->az w y z)->az w (.sl fl own sz n cs) (.slice fl' sz b off n)
 | slN {fl own:Bool} {sz:Nat} :az w (.sl fl own sz 0 []) .ag
 | ref {id g sz off n:Nat} {e:Ent} {b:Nat} {fl:Bool} :w.env id=Jm e->e.g=g->e.blk=Jm b->az w (.ref id g sz off n) (.slice fl sz b off n)
 | ma {id g sz:Nat} {e:Ent} :w.env id=Jm e->e.g=g->e.blk=Jn->az w (.ref id g sz 0 0) .ag
 | nj {id g sz off n:Nat} {e:Ent} (x:AV):x.one=Jo->w.env id=Jm e->g<e.g->az w (.ref id g sz off n) x
 | map {id:Nat} {e:Ent} {b:Nat} :w.env id=Jm e->e.g=0->e.blk=Jm b->az w (.map id) (.map b)
 | oa {id:Nat} {e:Ent} (x:AV):x.one=Jo->w.env id=Jm e->0<e.g->az w (.map id) x
 | func {fn:Fn} {f c:List PV} {f' c':List AV} :(∀l,fn≠ .yield l)->f.length=f'.length->c.length=c'.length->
   (∀(i:Nat) (y:PV) (z:AV),f[i]? =Jm y->f'[i]? =Jm z->az w y z)->(∀(i:Nat) (y:PV) (z:AV),c[i]? =Jm y->c'[i]? =Jm z->az w y z)->az w (.func fn f c) (.func fn f' c')
 | yld {id:Nat} {e:Ent} {b:Nat} {f:List PV} {f':List AV} :w.env id=Jm e->e.g=0->e.blk=Jm b->f.length=f'.length->
   (∀(i:Nat) (y:PV) (z:AV),f[i]? =Jm y->f'[i]? =Jm z->az w y z)->az w (.yld id f) (.func (.yield b) f' [])
 | nv {id:Nat} {e:Ent} {f:List PV} (x:AV):x.one=Jo->w.env id=Jm e->0<e.g->az w (.yld id f) x
 | iface {t:TypeId} {v:PV} {x:AV} :az w v x->az w (.iface t v) (.iface t x)
 | agg {cs:List PV} {cs':List AV} :cs.length=cs'.length->(∀(i:Nat) (y:PV) (z:AV),cs[i]? =Jm y->cs'[i]? =Jm z->az w y z)->az w (.agg cs) (.agg cs')
 | tuple {cs:List PV} {cs':List AV} :cs.length=cs'.length->(∀(i:Nat) (y:PV) (z:AV),cs[i]? =Jm y->cs'[i]? =Jm z->az w y z)->az w (.tuple cs) (.tuple cs')
structure al (w:PWd) (l:List PV) (l':List AV):Prop where
 len:l.length=l'.length
 get:∀(i:Nat) y z,l[i]? =Jm y->l'[i]? =Jm z->az w y z
def al.nil(w:PWd):al w [] []:=⟨rfl,fun i y z h=>by simp at h⟩
def al.cons{w:PWd}{v:PV}{x:AV}{l:List PV}{l':List AV}(h:az w v x)(hl:al w l l'):al w (v::l) (x::l'):=
 ⟨by simp[hl.len],fun i y z h1 h2=>by
  cases i with
  | zero=>simp at h1 h2;subst h1;subst h2;exact h
  | succ i=>exact hl.get i y z (by simpa using h1) (by simpa using h2)⟩
def al.append{w:PWd}{l m:List PV}{l' E:List AV}(h1:al w l l')(h2:al w m E):al w (l++m) (l'++E):=
 ⟨by simp[h1.len,h2.len],fun i y z B hz=>by
  rcases Ba i l.length with u | u
  ·rw[Bj u]at B;rw[Bj (by rw[<-h1.len];exact u)]at hz;exact h1.get i y z B hz
  ·rw[Bx u]at B;rw[Bx (by rw[<-h1.len];exact u),<-h1.len]at hz;exact h2.get _ y z B hz⟩
def al.drop{w:PWd}{l:List PV}{l':List AV}(h:al w l l')(k:Nat):al w (l.drop k) (l'.drop k):=
 ⟨by simp[h.len],fun i y z u hz=>h.get (k+i) y z (by rw[Bg]at u;exact u) (by rw[Bg]at hz;exact hz)⟩
def al.take{w:PWd}{l:List PV}{l':List AV}(h:al w l l')(k:Nat):al w (l.take k) (l'.take k):=
 ⟨by simp[h.len],fun i y z u hz=>by
  rw[Bc]at u hz;by_cases B:i<k
  ·rw[if_pos B]at u hz;exact h.get i y z u hz
  ·rw[if_neg B]at u;cases u⟩
def al.je{w:PWd}{l:List PV}{l':List AV}(h:al w l l'){i:Nat}{y:PV}(E:l[i]? =Jm y):∃z,l'[i]? =Jm z/\az w y z:=by
 have u:i<l.length:=by
  rcases Ba i l.length with u | u
  ·exact u
  ·rw[Bk u]at E;cases E
 have B:i<l'.length:=by rw[<-h.len];exact u
 exact⟨l'[i],Ad B,h.get i y _ E (Ad B)⟩
def al.map{w:PWd}{l:List PV}{l':List AV}(f:PV->PV)(B:AV->AV)(h:al w l l')(hf:∀v x,az w v x->az w (f v) (B x)):al w (l.map f) (l'.map B):=
 ⟨by simp[h.len],fun i y z u hz=>by
  rw[Av]at u hz
  cases h1:l[i]? with
  | none=>rw[h1]at u;cases u
  | some a=>
   cases h2:l'[i]? with
   | none=>rw[h2]at hz;cases hz
   | some b=>rw[h1]at u;rw[h2]at hz;cases u;cases hz;exact hf a b (h.get i a b h1 h2)⟩
def al.set{w:PWd}{l:List PV}{l':List AV}(h:al w l l')(k:Nat){v:PV}{x:AV}(hv:az w v x):al w (l.set k v) (l'.set k x):=
 ⟨by simp[h.len],fun i y z u hz=>by
  rw[List.getElem?_set]at u hz;rw[<-h.len]at hz;by_cases e:k=i
  ·subst e;rw[if_pos rfl]at u hz;split at u
   ·rename_i B;rw[if_pos B]at hz;cases u;cases hz;exact hv
   ·cases u
  ·rw[if_neg e]at u hz;exact h.get i y z u hz⟩
structure Le (m:Nat) (w w':PWd):Prop where
 n0:w'.n0=w.n0
 id0:w'.id0=w.id0
 imm:∀b o,w.imm b=Jm o->w'.imm b=Jm o
 env:∀id,id<m->∀e,w.env id=Jm e->∃e',w'.env id=Jm e'/\(e.g<e'.g\/e'=e)
def Le.refl(m:Nat)(w:PWd):Le m w w:=⟨rfl,rfl,fun _ _ h=>h,fun _ _ e h=>⟨e,h,.inr rfl⟩⟩
def Le.trans{m y:Nat}{a b c:PWd}(h:Le m a b)(k:Le y b c)(hm:m<=y):Le m a c:=
 ⟨k.n0.trans h.n0,k.id0.trans h.id0,fun x o B=>k.imm x o (h.imm x o B),fun id E e he=>by
  obtain⟨G,h1,h2⟩:=h.env id E e he;obtain⟨I,h3,u⟩:=k.env id (by omega) G h1;refine⟨I,h3,?_⟩;rcases h2 with h2 | rfl
  ·rcases u with u | rfl
   ·exact .inl (by omega)
   ·exact .inl h2
  ·exact u⟩
def az.mono{w w':PWd}{m:Nat}(hl:Le m w w')(hd:∀id e,w.env id=Jm e->id<m){v:PV}{x:AV}(h:az w v x):az w' v x:=by
 have E:∀id e,w.env id=Jm e->∃G,w'.env id=Jm G/\(e.g<G.g\/G=e):=fun id e he=>hl.env id (hd id e he) e he
 induction h with
 | aa x=>exact .aa x
 | bool b=>exact .bool b
 | int k n=>exact .int k n
 | str s=>exact .str s
 | au=>exact .au
 | ah=>exact .ah
 | bc=>exact .bc
 | aq=>exact .aq
 | ae=>exact .ae
 | ptr h1 h2 h3=>
  obtain⟨G,B,u⟩:=E _ _ h1;rcases u with u | rfl
  ·exact .mi _ rfl B (by omega)
  ·exact .ptr B h2 h3
 | mi x h0 h1 h2=>obtain⟨G,B,u⟩:=E _ _ h1;refine .mi _ h0 B ?_;rcases u with u | rfl<;>omega
 | cp h1 h2 h3 I=>exact .cp (hl.imm _ _ h1) h2 fun i y z a b=>I i y z a b
 | sl h1 h2 h3 J K O Q I=>exact .sl (hl.imm _ _ h1) h2 h3 J (by rw[hl.n0];exact K) (by rw[hl.n0];exact O) fun i y z a b=>I i y z a b
 | slN=>exact .slN
 | ref h1 h2 h3=>
  obtain⟨G,B,u⟩:=E _ _ h1;rcases u with u | rfl
  ·exact .nj _ rfl B (by omega)
  ·exact .ref B h2 h3
 | ma h1 h2 h3=>
  obtain⟨G,B,u⟩:=E _ _ h1;rcases u with u | rfl
  ·exact .nj _ rfl B (by omega)
  ·exact .ma B h2 h3
 | nj x h0 h1 h2=>obtain⟨G,B,u⟩:=E _ _ h1;refine .nj _ h0 B ?_;rcases u with u | rfl<;>omega
 | map h1 h2 h3=>
  obtain⟨G,B,u⟩:=E _ _ h1;rcases u with u | rfl
  ·exact .oa _ rfl B (by omega)
  ·exact .map B h2 h3
 | oa x h0 h1 h2=>obtain⟨G,B,u⟩:=E _ _ h1;refine .oa _ h0 B ?_;rcases u with u | rfl<;>omega
 | func h1 h2 h3 J K L M=>exact .func h1 h2 h3 (fun i y z a b=>L i y z a b) fun i y z a b=>M i y z a b
 | yld h1 h2 h3 J K I=>
  obtain⟨G,B,u⟩:=E _ _ h1;rcases u with u | rfl
  ·exact .nv _ rfl B (by omega)
  ·exact .yld B h2 h3 J fun i y z a b=>I i y z a b
 | nv x h0 h1 h2=>obtain⟨G,B,u⟩:=E _ _ h1;refine .nv _ h0 B ?_;rcases u with u | rfl<;>omega
 | iface h I=>exact .iface I
 | agg h1 h2 I=>exact .agg h1 fun i y z a b=>I i y z a b
 | tuple h1 h2 I=>exact .tuple h1 fun i y z a b=>I i y z a b
def al.mono{w w':PWd}{m:Nat}(hl:Le m w w')(hd:∀id e,w.env id=Jm e->id<m){l:List PV}{l':List AV}(h:al w l l'):al w' l l':=
 ⟨h.len,fun i y z a b=>(h.get i y z a b).mono hl hd⟩
def af(w:PWd)(M:Mem)(id x:Nat):Prop:=∃o e,M[id]? =Jm o/\o≠ .gone/\w.env id=Jm e/\e.blk=Jm x
structure nh (w:PWd) (l:List (PV×PV)) (l':List (AV×AV)):Prop where
 len:l.length=l'.length
 get:∀(i:Nat) y z,l[i]? =Jm y->l'[i]? =Jm z->az w y.1 z.1/\az w y.2 z.2
structure pn (w:PWd) (r:ju) (r':jy):Prop where
 state:r'.state=r.state
 pending:r'.pending=r.pending
 params:r'.params=r.params
 assign:r'.assign=r.assign
 body:r'.body=r.body
 tmps:al w r.tmps r'.tmps
def lg(w:PWd)(h:H)(id:Nat):cm->Prop
 | .cells g ver cs=>∃e,w.env id=Jm e/\e.g=g/\match e.blk with
  | none=>cs=[]
  | some b=>∃u,h.get b=Jm (.cells (e.v0+ver) Jo u)/\al w cs u
 | .map ver E=>∃e b,w.env id=Jm e/\e.g=0/\e.blk=Jm b/\∃y,h.get b=Jm (.map (e.v0+ver) y)/\nh w E y
 | .loop ver r=>∃e b,w.env id=Jm e/\e.g=0/\e.blk=Jm b/\∃B,h.get b=Jm (.loop (e.v0+ver) B)/\pn w r B
 | .gone=>True
structure PSt (w:PWd) (h:H) (M:Mem):Prop where
 imm:∀b o,w.imm b=Jm o->h.get b=Jm o
 env:∀id e,w.env id=Jm e->id<M.length
 blk:∀id e b,w.env id=Jm e->e.blk=Jm b->b<h.next
 obj:∀id o,M[id]? =Jm o->lg w h id o
 inj:∀i j x,af w M i x->af w M j x->i=j
 sep:∀i x,af w M i x->w.imm x=Jn/\(w.id0<=i->w.n0<=x)
 base:w.n0<=h.next
structure dr (m:Nat) (w:PWd) (h:H) (M:Mem) (w':PWd) (h':H) (M':Mem):Prop where
 len:m<=M'.length
 le:Le m w w'
 next:h.next<=h'.next
 dx:∀x,x<h.next->(∀id,¬af w M id x)->h'.get x=h.get x
 live:∀id x,af w' M' id x->x<h.next->af w M id x
 new:∀x,w'.imm x≠Jn->w.imm x≠Jn\/h.next<=x\/∃id,m<=id/\af w M id x
def dr.refl{m:Nat}{M:Mem}(hm:m<=M.length)(w:PWd)(h:H):dr m w h M w h M:=
 ⟨hm,Le.refl m w,Ac _,fun _ _ _=>rfl,fun _ _ h _=>h,fun _ h=> .inl h⟩
def dr.trans{m m':Nat}{w1 w2 w3:PWd}{h1 h2 h3:H}{M1 M2 M3:Mem}(p:dr m w1 h1 M1 w2 h2 M2)(q:dr m' w2 h2 M2 w3 h3 M3)(hm:m<=m'):dr m w1 h1 M1 w3 h3 M3 where
 len:=Aj hm q.len
 le:=p.le.trans q.le hm
 next:=Aj p.next q.next
 dx:=fun x hx hn=>by rw[q.dx x (Bi hx p.next) (fun id hl=>hn id (p.live id x hl hx)),p.dx x hx hn]
 live:=fun id x hl hx=>p.live id x (q.live id x hl (Bi hx p.next)) hx
 new:=fun x hx=>by
  rcases q.new x hx with e | e | ⟨id,e1,e2⟩
  ·rcases p.new x e with e | e | e
   ·exact .inl e
   ·exact .inr (.inl e)
   ·exact .inr (.inr e)
  ·exact .inr (.inl (Aj p.next e))
  ·rcases Ba x h1.next with hx1 | hx1
   ·exact .inr (.inr ⟨id,by omega,p.live id x e2 hx1⟩)
   ·exact .inr (.inl hx1)
def af.lt{w:PWd}{M:Mem}{id x:Nat}(h:af w M id x):id<M.length:=by
 obtain⟨o,e,h1,_⟩:=h;rcases Ba id M.length with u | u
 ·exact u
 ·rw[Bk u]at h1;cases h1
def af.next{w:PWd}{h:H}{M:Mem}(s:PSt w h M){id x:Nat}(hl:af w M id x):x<h.next:=by obtain⟨o,e,h1,h2,h3,u⟩:=hl;exact s.blk id e x h3 u
def ct:List PV->Nat->PV
 | [],_=> .aa
 | v::_,0=>v
 | _::l,n+1=>ct l n
def du:List PV->Nat->PV->List PV
 | [],_,_=>[]
 | _::l,0,v=>v::l
 | x::l,n+1,v=>x::du l n v
def ig(a:List PV):Option Nat->PV->List PV
 | some d,v=>du a d v
 | none,_=>a
def uB(a:List PV):List Nat->List PV
 | []=>a
 | t::l=>uB (du a t .aa) l
def al.dl{w:PWd} :∀{a:List PV} {a':List AV},al w a a'->∀t,az w (ct a t) (dl a' t)
 | [],[],h,t=> .aa _
 | [],_::_,h,t=>by have:=h.len;simp at this
 | _::_,[],h,t=>by have:=h.len;simp at this
 | v::a,x::a',h,0=>h.get 0 v x rfl rfl
 | v::a,x::a',h,t+1=>al.dl (a:=a) (a':=a') ⟨by simpa using h.len,fun i y z h1 h2=>h.get (i+1) y z (by simpa using h1) (by simpa using h2)⟩ t
def al.tl{w:PWd}{v:PV}{x:AV}{a:List PV}{u:List AV}(h:al w (v::a) (x::u)):al w a u:=
 ⟨by simpa using h.len,fun i y z h1 h2=>h.get (i+1) y z (by simpa using h1) (by simpa using h2)⟩
def al.hd{w:PWd}{v:PV}{x:AV}{a:List PV}{u:List AV}(h:al w (v::a) (x::u)):az w v x:=h.get 0 v x rfl rfl
def al.iz{w:PWd} :∀{a:List PV} {B:List AV},al w a B->∀(t:Nat) {v:PV} {x:AV},az w v x->al w (du a t v) (iz B t x)
 | [],[],h,t,v,x,hv=> .nil w
 | [],_::_,h,t,v,x,hv=>by have:=h.len;simp at this
 | _::_,[],h,t,v,x,hv=>by have:=h.len;simp at this
 | u::a,y::B,h,0,v,x,hv=> .cons hv h.tl
 | u::a,y::B,h,t+1,v,x,hv=> .cons h.hd (al.iz h.tl t hv)
def al.put{w:PWd}{a:List PV}{u:List AV}(h:al w a u):∀(d:Option Nat) {v:PV} {x:AV},az w v x->al w (ig a d v) (put u d x)
 | some d,v,x,hv=>h.iz d hv
 | none,v,x,hv=>h
def al.fh{w:PWd} :∀(l:List Nat) {a:List PV} {u:List AV},al w a u->al w (uB a l) (fh u l)
 | [],a,u,h=>h
 | t::l,a,u,h=>al.fh l (h.iz t (.aa _))
def bd:AV->PV
 | .bool b=> .bool b
 | .int k n=> .int k n
 | .str s=> .str s
 | .au=> .au
 | .ag=> .ah
 | .bc=> .bc
 | .aq=> .aq
 | .ae=> .ae
 | .func (.func f) [] []=> .func (.func f) [] []
 | _=> .aa
def ji:AV->PV
 | .agg cs=> .agg (cs.map bd)
 | .iface t v=> .iface t (bd v)
 | .bool b=> .bool b
 | .int k n=> .int k n
 | .str s=> .str s
 | .au=> .au
 | .ag=> .ah
 | .bc=> .bc
 | .aq=> .aq
 | .ae=> .ae
 | .func (.func f) [] []=> .func (.func f) [] []
 | .func (.methodOf t n) u []=> .func (.methodOf t n) (u.map bd) []
 | _=> .aa
def pev(a:List PV):AR->PV
 | .tmp t=>ct a t
 | .const v=>ji v
def PV.one:PV->Bool
 | .agg _=>Jp
 | .tuple _=>Jp
 | .aa=>Jp
 | _=>Jo
def bY:PV->List PV
 | .agg cs=>cs
 | v=>[v]
def jO(cs:List PV)(off:Nat)(new:List PV):List PV:=
 match new with
 | [x]=>cs.set off x
 | _=>cs.take off++new++cs.drop (off+new.length)
def dv(a:List PV):List PV->List (Nat×Nat×AR)->Option (List PV)
 | cs,[]=>Jm cs
 | cs,(off,size,x)::rest=>
  if(bY (pev a x)).length=size/\off+size<=cs.length/\(bY (pev a x)).all PV.one=Jo then dv a (jO cs off (bY (pev a x))) rest else Jn
def cK:Nat->List PV->List PV
 | 0,_=>[]
 | n+1,z=>z++cK n z
def aY(cs:List PV)(o n:Nat):List PV:=(cs.drop o).take n
def cB:PV->Option AV
 | .bool b=>Jm (.bool b)
 | .int k n=>Jm (.int k n)
 | .str s=>Jm (.str s)
 | _=>Jn
def fT:List PV->Option (List AV)
 | []=>Jm []
 | v::l=>match cB v,fT l with
  | some x,Jm u=>Jm (x::u)
  | _,_=>Jn
def cD(op:BinOp)(x y:PV):Option PV:=match cB x,cB y with
 | some a,Jm b=>(gI op a b).map bd
 | _,_=>Jn
def pun(op:UnOp)(x:PV):Option PV:=match cB x with
 | some a=>(aun op a).map bd
 | _=>Jn
def J3(x:PV)(u:List PV):Option PV:=match cB x,fT u with
 | some a,Jm b=>(lF B6 a b).map bd
 | _,_=>Jn
def zK(x:PV)(u:List PV):Option PV:=match cB x,fT u with
 | some a,Jm b=>(lF B5 a b).map bd
 | _,_=>Jn
def oJ(T:List (Option IntKind))(u y:List PV):Option Bool:=match fT u,fT y with
 | some a,Jm b=>eZ T a b
 | _,_=>Jn
def vG(v:PV)(k:IntKind->Int->Prop):Prop:=∃b o,v= .int b o/\k b o
def MP(v:PV)(k:Bool->Prop):Prop:=∃b,v= .bool b/\k b
def RA(v:PV)(k:List PV->Prop):Prop:=∃b,v= .agg b/\k b
def aHQ(v:PV)(k:List PV->Prop):Prop:=∃b,v= .tuple b/\k b
def QOb(o:Option cm)(g:Nat)(k:Nat->List PV->Prop):Prop:=∃ver cs,o=Jm (.cells g ver cs)/\k ver cs
def gG{α:Type}(o:Option α)(k:α->Prop):Prop:=∃x,o=Jm x/\k x
def aHS(v:PV)(M:Mem)(k:PV->Prop):Prop:=match v with
 | .ah=>k (p64 0)
 | .sl _ _ _ n _=>k (p64 n)
 | .ref id g _ _ n=>QOb M[id]? g fun _ _=>k (p64 n)
 | _=>False
def aHU(size:Nat)(v i:PV)(M:Mem)(k:PV->Prop):Prop:=match v with
 | .sl _ _ sz n cs=>vG i fun _ j=>(sz=size/\0<=j/\j<n)/\k (.cp cs (j.toNat*size))
 | .ref id g sz off n=>QOb M[id]? g fun _ _=>vG i fun _ j=>(sz=size/\0<=j/\j<n)/\k (.ptr id g (off+j.toNat*size))
 | _=>False
def aC3(len size:Nat)(v i:PV)(M:Mem)(k:PV->Prop):Prop:=match v with
 | .ptr id g o=>QOb M[id]? g fun _ _=>vG i fun _ j=>(0<=j/\j<len)/\k (.ptr id g (o+j.toNat*size))
 | .cp cs o=>vG i fun _ j=>(0<=j/\j<len)/\k (.cp cs (o+j.toNat*size))
 | _=>False
def aHV(off:Nat)(v:PV)(M:Mem)(k:PV->Prop):Prop:=match v with
 | .ptr id g o=>QOb M[id]? g fun _ _=>k (.ptr id g (o+off))
 | .cp cs o=>k (.cp cs (o+off))
 | _=>False
def ML(v:PV)(M:Mem)(k:PV->List Nat->Prop):Prop:=match v with
 | .ptr id g o=>QOb M[id]? g fun _ cs=>gG cs[o]? fun x=>k x [id]
 | .cp cs o=>gG cs[o]? fun x=>k x []
 | _=>False
def CF(n:Nat)(v:PV)(M:Mem)(k:PV->List Nat->Prop):Prop:=match v with
 | .ptr id g o=>QOb M[id]? g fun _ cs=>o+n<=cs.length/\k (.agg (aY cs o n)) [id]
 | .cp cs o=>o+n<=cs.length/\k (.agg (aY cs o n)) []
 | _=>False
def Q5(n:Nat)(p x:PV)(M:Mem)(k:Mem->List Nat->Prop):Prop:=match p with
 | .ptr id g o=>QOb M[id]? g fun ver cs=>((bY x).length=n/\o+n<=cs.length/\(bY x).all PV.one=Jo)/\k (M.set id (.cells g (ver+1) (jO cs o (bY x)))) [id]
 | _=>False
def qv(size:Nat)(x:PV)(M:Mem)(k:List PV->Nat->Prop):Prop:=match x with
 | .ah=>k [] 0
 | .sl _ _ sz n cs=>sz=size/\k cs n
 | .ref id g sz off n=>QOb M[id]? g fun _ cs=>(sz=size/\off+n*size<=cs.length)/\k (aY cs off (n*size)) n
 | _=>False
def MI(size:Nat)(x:PV)(M:Mem)(k:List PV->Nat->Prop):Prop:=match x with
 | .str s=>size=1/\k (s.data.toList.map fun b=> .int .u8 b.toNat) s.size
 | x=>qv size x M k
def aC5(size bytes:Nat)(s x:PV)(M:Mem)(K:PV->Mem->List Nat->List Nat->Prop):Prop:=MI size x M fun new n=>match s with
 | .ah=>(n*bytes<=140737488355328/\n<=9223372036854775807/\new.all PV.one=Jo)/\K (.ref M.length 0 size 0 n) (M++[.cells 0 0 new]) [] []
 | .sl u own sz m cs=>if n=0 then K (.sl u own sz m cs) M [] []else(u=Jo/\own=Jo/\sz=size/\(m+n)*bytes<=140737488355328/\m+n<=9223372036854775807/\new.all PV.one=Jo)/\K (.ref M.length 0 size 0 (m+n)) (M++[.cells 0 0 (cs++new)]) [] []
 | .ref id g sz off m=>QOb M[id]? g fun ver cs=>(sz=size/\off+m*size<=cs.length/\(0<n\/(off=0/\m*size=cs.length))/\(m+n)*bytes<=140737488355328/\m+n<=9223372036854775807/\new.all PV.one=Jo)/\
   K (.ref id (g+1) size 0 (m+n)) (M.set id (.cells (g+1) 0 (aY cs off (m*size)++new))) [] [id]
 | _=>False
def aGg(size:Nat)(d x:PV)(M:Mem)(K:PV->Mem->List Nat->List Nat->Prop):Prop:=match d with
 | .ref id g sz off m=>qv size x M fun new n=>QOb M[id]? g fun ver cs=>(sz=size/\off+m*size<=cs.length/\new.all PV.one=Jo)/\
   (if min n m=0 then K (.int .i64 0) M [] []else K (.int .i64 ((min n m:Nat):Int)) (M.set id (.cells g (ver+1) (cs.take off++new.take (min n m*size)++cs.drop (off+min n m*size)))) [] [id])
 | _=>False
def aC4(z:List PV)(x:PV)(M:Mem)(K:PV->Mem->List Nat->List Nat->Prop):Prop:=match x with
 | .ref id g sz off n=>QOb M[id]? g fun ver cs=>(sz=z.length/\off+n*sz<=cs.length/\(cK n z).all PV.one=Jo)/\
   (if n=0 then K (.tuple []) M [] []else K (.tuple []) (M.set id (.cells g (ver+1) (cs.take off++cK n z++cs.drop (off+n*sz)))) [] [id])
 | _=>False
def C3(a:List PV)(x:Option AR)(k:Option Int->Prop):Prop:=match x with
 | none=>k Jn
 | some x=>vG (pev a x) fun _ n=>k (Jm n)
def Q6(size:Nat)(v:PV)(l r m:Option Int)(M:Mem)(k:PV->Prop):Prop:=match v with
 | .ah=>(l.getD 0=0/\r.getD 0=0/\(m=Jn\/m=r))/\k .ah
 | .sl u own sz n cs=>(sz=size/\(m=Jn\/m=r)/\0<=l.getD 0/\l.getD 0<=r.getD n/\r.getD n<=n)/\k (.sl (if own=Jo then(if r.isSome=Jo then Jp else u)else u) own sz (r.getD n-l.getD 0).toNat (aY cs ((l.getD 0).toNat*size) ((r.getD n-l.getD 0).toNat*size)))
 | .ref id g sz off n=>QOb M[id]? g fun _ _=>(sz=size/\(m=Jn\/m=r)/\0<=l.getD 0/\l.getD 0<=r.getD n/\r.getD n<=n)/\k (.ref id g sz (off+(l.getD 0).toNat*size) (r.getD n-l.getD 0).toNat)
 | _=>False
def aHR(len size:Nat)(x:PV)(l r:Option Int)(M:Mem)(k:PV->List Nat->Prop):Prop:=match x with
 | .ptr id g o=>QOb M[id]? g fun _ cs=>(o+len*size<=cs.length/\0<=l.getD 0/\l.getD 0<=r.getD len/\r.getD len<=len)/\k (.ref id g size (o+(l.getD 0).toNat*size) (r.getD len-l.getD 0).toNat) [id]
 | _=>False
def mF(l:List PV):Option (List UInt8):=match fT l with
 | some x=>eW x
 | none=>Jn
def aHW(x:PV)(M:Mem)(k:PV->List Nat->Prop):Prop:=match x with
 | .ah=>k (.str ⟨#[]⟩) []
 | .sl _ _ sz n cs=>sz=1/\gG (mF cs) fun s=>k (.str ⟨s.toArray⟩) []
 | .ref id g sz off n=>QOb M[id]? g fun _ cs=>(sz=1/\off+n<=cs.length)/\gG (mF (aY cs off n)) fun s=>k (.str ⟨s.toArray⟩) [id]
 | _=>False
def MJ(kd:Nat)(x y:PV)(M:Mem)(k:Bool->Prop):Prop:=match kd,x,y with
 | 0,.ah,.ah=>k Jo
 | 0,.sl _ _ _ n _,.ah=>if n=0 then k Jo/\k Jp else k Jp
 | 0,.ref id g _ _ n,.ah=>QOb M[id]? g fun _ _=>if n=0 then k Jo/\k Jp else k Jp
 | 1,.au,.au=>k Jo
 | 1,.ptr id g _,.au=>QOb M[id]? g fun _ _=>k Jp
 | 3,.aq,.aq=>k Jo
 | 3,.func ..,.aq=>k Jp
 | 4,.ae,.ae=>k Jo
 | 4,.iface ..,.ae=>k Jp
 | _,_,_=>False
def aFC(v:PV)(k:ByteArray->Prop):Prop:=match v with
 | .str s=>k s
 | _=>False
def aHT(v:PV)(u:Prop)(y:TypeId->PV->Prop):Prop:=match v with
 | .ae=>u
 | .iface t v=>y t v
 | _=>False
def dT:List PV->TypeId->Option FuncId
 | .int _ u:: .int _ g::r,t=>if u=(t:Int)then Jm g.toNat else dT r t
 | _,_=>Jn
def aGf(u:List PV)(args:List PV)(k:FuncId->List PV->Prop):Prop:=match args with
 | .iface t v::rest=>∃g,dT u t=Jm g/\k g (v::rest)
 | _=>False
def zJ:PV->Bool
 | .cp .. =>Jo
 | .func (.method _) _ _=>Jp
 | .func .. =>Jo
 | .iface .. =>Jo
 | _=>Jp
def CE(v:PV)(M:Mem)(k:Prop):Prop:=match v with
 | .ptr id g _=>QOb M[id]? g fun _ _=>k
 | v=>zJ v=Jo/\k
def cU(kd:Nat)(k:AV):List (PV×PV)->Option (Option PV)
 | []=>Jm Jn
 | (u,v)::y=>match cB u with
  | some k2=>match wF kd k k2 with
   | some Jo=>Jm (Jm v)
   | some Jp=>cU kd k y
   | none=>Jn
  | none=>Jn
def f7(kd:Nat)(key:PV)(k:AV)(v:PV):List (PV×PV)->List (PV×PV)
 | []=>[(key,v)]
 | (u,B)::y=>match cB u with
  | some k2=>match wF kd k k2 with
   | some Jo=>(key,v)::y
   | _=>(u,B)::f7 kd key k v y
  | none=>(u,B)::f7 kd key k v y
def vU(u:Bool)(z:PV):Option PV->PV
 | some v=>if u=Jo then .tuple [v,.bool Jo]else v
 | none=>if u=Jo then .tuple [z,.bool Jp]else z
def QMp(o:Option cm)(k:Nat->List (PV×PV)->Prop):Prop:=∃ver u,o=Jm (.map ver u)/\k ver u
def aC0(kd:Nat)(u:Bool)(z x i:PV)(M:Mem)(K:PV->Mem->List Nat->List Nat->Prop):Prop:=match x,cB i with
 | .map id,Jm k=>QMp M[id]? fun _ y=>gG (cU kd k y) fun r=>K (vU u z r) M [id] []
 | _,_=>False
def aC1(x:PV)(M:Mem)(k:PV->List Nat->Prop):Prop:=match x with
 | .map id=>QMp M[id]? fun _ u=>k (p64 u.length) [id]
 | _=>False
def aCZ(kd:Nat)(m i v:PV)(M:Mem)(K:PV->Mem->List Nat->List Nat->Prop):Prop:=match m,cB i with
 | .map id,Jm k=>QMp M[id]? fun ver u=>gG (cU kd k u) fun _=>v.one=Jo/\K (.tuple []) (M.set id (.map (ver+1) (f7 kd i k v u))) [] [id]
 | _,_=>False
def ED(b:Bool)(x y:PV):PV:=if b=Jo then x else y
def lZ:cm->cm->Bool
 | .cells g v _,.cells y u _=>g==y&&v==u
 | .map v _,.map u _=>v==u
 | .loop v _,.loop u _=>v==u
 | .gone,.gone=>Jo
 | _,_=>Jp
def bT:Nat->Mem->Mem->List Nat
 | _,[],_=>[]
 | i,_::M,[]=>i::bT (i+1) M []
 | i,o::M,y::u=>if lZ o y=Jo then bT (i+1) M u else i::bT (i+1) M u
def T1(M u:Mem):List Nat:=bT 0 M u
structure lh where
 idx:Nat
 rd:List Nat
 chg:List Nat
 Mb:Mem
 na:Nat
def mj(u M:Mem)(id:Nat):Bool:=match u[id]?,M[id]? with
 | some (.cells g _ _),Jm (.cells y _ _)=>g==y
 | some (.map _ _),Jm (.map _ _)=>Jo
 | some (.loop _ _),Jm (.loop _ _)=>Jo
 | _,_=>Jp
def jj(u:Bool)(rd y:List Nat)(M:Mem)(B:List lh)(chk:List Nat):Bool:=
 B.all fun e=>if chk.contains e.idx then(if u then y.all (fun id=> !e.rd.contains id&&(mj e.Mb M id||decide (e.na<=id)))else e.chg.all fun id=> !rd.contains id)else Jo
section
variable (tab:Tb)
abbrev Kp:=PV->Mem->Prop
def aj(g:FuncId)(args:List PV)(M:Mem)(K:Kp):Prop:=
 ∀(w:PWd) (h:H) (u:List AV),w.id0<=M.length->PSt w h M->al w args u->
  C (lim tab) g u h fun v B=>∃w' r y,dr M.length w h M w' B y/\PSt w' B y/\az w' r v/\K r y
def Q0(id:Nat)(args:List PV)(M:Mem)(K:Kp):Prop:=
 ∀(w:PWd) (h:H) (b:Nat) (u:List AV),w.id0<=M.length->PSt w h M->af w M id b->al w args u->
  UJ (lim tab) (.func (.yield b) [] []) u h fun v B=>∃w' r y,dr M.length w h M w' B y/\PSt w' B y/\az w' r v/\K r y
abbrev Kl:=List PV->Mem->Prop
def Lf(m:Nat)(w:PWd)(h:H)(M:Mem)(Q:Kl)(B:List AV)(y:H):Prop:=
 ∃w' a u,dr m w h M w' y u/\PSt w' y u/\al w' a B/\Q a u
def bV(m:Nat)(c:AC)(a:List PV)(M:Mem)(y B:Kl)(E:Nat->Kl):Prop:=
 ∀(w:PWd) (h:H) (u:List AV),w.id0<=m->m<=M.length->PSt w h M->al w a u->
  W (lim tab) c u h (Lf m w h M y) (Lf m w h M B) fun i=>Lf m w h M (E i)
def CG(f:PV)(args:List PV)(M:Mem)(K:Kp):Prop:=match f with
 | .func (.func g) first u=>aj tab g (first++args++u) M K
 | .func (.methodOf _ _) y _=>aGf y args fun g l=>aj tab g l M K
 | .yld id first=>(∃ver r,M[id]? =Jm (.loop ver r))/\Q0 tab id (first++args) M K
 | _=>False
def KPC(M:Mem)(K:PV->Mem->List Nat->List Nat->Prop)(v:PV)(u:Mem):Prop:=K v u [] (T1 M u)
def PS(o:AO)(a:List PV)(M:Mem)(K:PV->Mem->List Nat->List Nat->Prop):Prop:=match o with
 | .move x=>K (pev a x) M [] []
 | .pick c x y=>MP (pev a c) fun b=>K (ED b (pev a x) (pev a y)) M [] []
 | .alloc cs=>K (.ptr M.length 0 0) (M++[.cells 0 0 (cs.map bd)]) [] []
 | .box x=>(bY (pev a x)).all PV.one=Jo/\K (.ptr M.length 0 0) (M++[.cells 0 0 (bY (pev a x))]) [] []
 | .build z E=>gG (dv a (z.map bd) E) fun cs=>K (.agg cs) M [] []
 | .buildSlice size len z E=>(z.length=size/\0<size)/\gG (dv a (cK len (z.map bd)) E) fun cs=>K (.sl Jo Jo size len cs) M [] []
 | .load x=>ML (pev a x) M fun v rd=>K v M rd []
 | .dw n x=>CF n (pev a x) M fun v rd=>K v M rd []
 | .store n p x=>Q5 n (pev a p) (pev a x) M fun L G=>K (.tuple []) L [] G
 | .nilCheck x=>CE (pev a x) M (K (pev a x) M [] [])
 | .bin op x y=>gG (cD op (pev a x) (pev a y)) fun v=>K v M [] []
 | .eqB neg x y=>MP (pev a x) fun p=>MP (pev a y) fun q=>K (.bool (if neg=Jo then !(p==q)else p==q)) M [] []
 | .isNil kd neg x y=>MJ kd (pev a x) (pev a y) M fun b=>K (.bool (if neg=Jo then !b else b)) M [] []
 | .dz neg T x y=>RA (pev a x) fun p=>RA (pev a y) fun q=>gG (oJ T p q) fun b=>K (.bool (if neg=Jo then !b else b)) M [] []
 | .un op x=>gG (pun op (pev a x)) fun v=>K v M [] []
 | .da k x=>vG (pev a x) fun _ n=>K (.int k (k.wrap n)) M [] []
 | .gi fn f c=>(∃g,fn= .func g)/\K (.func fn (f.map (pev a)) (c.map (pev a))) M [] []
 | .makeSlice bytes z n c=>vG (pev a n) fun I l=>vG (pev a c) fun kw m=>(I= .i64/\kw= .i64/\0<=l/\l<=m/\m*bytes<=140737488355328/\m<=9223372036854775807)/\K (.ref M.length 0 z.length 0 l.toNat) (M++[.cells 0 0 (cK l.toNat (z.map bd))]) [] []
 | .slice size x u B O=>C3 a u fun l=>C3 a B fun r=>C3 a O fun m=>Q6 size (pev a x) l r m M fun v=>K v M [] []
 | .fieldAddr off x=>aHV off (pev a x) M fun v=>K v M [] []
 | .field off Jn x=>RA (pev a x) fun cs=>gG cs[off]? fun v=>K v M [] []
 | .field off (Jm n) x=>RA (pev a x) fun cs=>off+n<=cs.length/\K (.agg (aY cs off n)) M [] []
 | .indexAddr size x i=>aHU size (pev a x) (pev a i) M fun v=>K v M [] []
 | .be len size x i=>aC3 len size (pev a x) (pev a i) M fun v=>K v M [] []
 | .index len size isAgg x i=>RA (pev a x) fun cs=>vG (pev a i) fun _ j=>(0<=j/\j<len)/\(if isAgg=Jo then j.toNat*size+size<=cs.length/\K (.agg (aY cs (j.toNat*size) size)) M [] []else gG cs[j.toNat*size]? fun v=>K v M [] [])
 | .extract x i=>aHQ (pev a x) fun Q=>gG Q[i]? fun v=>K v M [] []
 | .call f args=>CG tab (pev a f) (args.map (pev a)) M (KPC M K)
 | .append size bytes s x=>0<size/\aC5 size bytes (pev a s) (pev a x) M K
 | .len x=>aHS (pev a x) M fun v=>K v M [] []
 | .br bytes z s x=>pev a s= .ah/\vG (pev a x) fun I n=>I= .i64/\(if n=0 then K .ah M [] []else(0<=n/\n*bytes<=140737488355328/\n<=9223372036854775807)/\K (.ref M.length 0 z.length 0 n.toNat) (M++[.cells 0 0 (cK n.toNat (z.map bd))]) [] [])
 | .dc x i=>∃s,pev a x= .str s/\vG (pev a i) fun _ k=>0<=k/\gG s[k.toNat]? fun c=>K (.int .u8 c.toNat) M [] []
 | .jd x=>∃s,pev a x= .str s/\K (p64 s.size) M [] []
 | .ep x u B=>∃s,pev a x= .str s/\C3 a u fun l=>C3 a B fun r=>(0<=l.getD 0/\l.getD 0<=r.getD s.size/\r.getD s.size<=s.size)/\K (.str (s.extract (l.getD 0).toNat (r.getD s.size).toNat)) M [] []
 | .cz len size x u B=>C3 a u fun l=>C3 a B fun r=>aHR len size (pev a x) l r M fun v rd=>K v M rd []
 | .bu x=>aHW (pev a x) M fun v rd=>K v M rd []
 | .jf size d x=>aGg size (pev a d) (pev a x) M K
 | .fq z x=>aC4 (z.map bd) (pev a x) M K
 | .max x J=>gG (J3 (pev a x) (J.map (pev a))) fun v=>K v M [] []
 | .min x J=>gG (zK (pev a x) (J.map (pev a))) fun v=>K v M [] []
 | .makeMap=>K (.map M.length) (M++[.map 0 []]) [] []
 | .lookup kd R z x i=>aC0 kd R (bd z) (pev a x) (pev a i) M K
 | .iv x=>aC1 (pev a x) M fun v rd=>K v M rd []
 | .mapUpdate kd m i v=>aCZ kd (pev a m) (pev a i) (pev a v) M K
 | .gu t x=>K (.iface t (pev a x)) M [] []
 | .cu x=>aFC (pev a x) fun s=>s.size<=140737488355328/\K (.sl Jo Jp 1 s.size (s.data.toList.map fun b=> .int .u8 b.toNat)) M [] []
 | .pq t z x=>aHT (pev a x) (K (.tuple [bd z,.bool Jp]) M [] []) fun S v=>K (if S=t then .tuple [v,.bool Jo]else .tuple [bd z,.bool Jp]) M [] []
 | _=>False
def lA(v:PV)(u:Bool)(A B:Prop):Prop:=(∃b,v= .bool b/\(if b=u then A else B))\/(∃l,v= .tuple l/\B)
def PO:List aw->List PV->Mem->(Kl)->Prop
 | [],a,M,Q=>Q a M
 | ⟨d,o,Jn,_⟩::os,a,M,Q=>PS tab o a M fun v y _ _=>PO os (ig a d v) y Q
 | ⟨d,o,Jm (t,u),_⟩::os,a,M,Q=>lA (ct a t) u (PS tab o a M fun v y _ _=>PO os (ig a d v) y Q) (PO os (ig a d (.tuple [])) M Q)
def PD:List aw->Nat->List PV->Mem->List lh->(Kl)->Prop
 | [],_,a,M,_,Q=>Q a M
 | ⟨d,o,Jn,chk⟩::os,i,a,M,u,Q=>PS tab o a M fun v B rd y=>jj o.effect rd y M u chk=Jo/\PD os (i+1) (ig a d v) B (⟨i,rd,y,M,B.length⟩::u) Q
 | ⟨d,o,Jm (t,E),chk⟩::os,i,a,M,u,Q=>lA (ct a t) E (PS tab o a M fun v B rd y=>jj o.effect rd y M u chk=Jo/\PD os (i+1) (ig a d v) B (⟨i,rd,y,M,B.length⟩::u) Q) (PD os (i+1) (ig a d (.tuple [])) M u Q)
def MN(v:PV)(A B:Prop):Prop:=∃b,v= .bool b/\(if b=Jo then A else B)
def PX(m:Nat):AC->List PV->Mem->(Kl)->(Kl)->(Nat->Kl)->Prop
 | .skip,a,M,u,B,E=>u a M
 | .region os,a,M,u,B,E=>PO tab os a M u
 | .fc os,a,M,u,B,E=>PD tab os 0 a M [] u
 | .seq x y,a,M,u,B,E=>PX m x a M (fun a M=>PX m y a M u B E) B E
 | .cond c x y,a,M,u,B,E=>MN (pev a c) (PX m x a M u B E) (PX m y a M u B E)
 | .block id x,a,M,u,B,E=>PX m x a M u B (fun i a M=>if i=id then u a M else E i a M)
 | .loop I x,a,M,u,B,E=>bV tab m (.loop I x) a M u B E
 | .rangeFunc f J G body,a,M,u,B,E=>bV tab m (.rangeFunc f J G body) a M u B E
 | .exit id,a,M,u,B,E=>E id a M
 | .ret,a,M,u,B,E=>B a M
end
def fA(w:PWd)(v:AV):az w (bd v) v:=by
 unfold bd;split
 ·exact .bool _
 ·exact .int _ _
 ·exact .str _
 ·exact .au
 ·exact .ah
 ·exact .bc
 ·exact .aq
 ·exact .ae
 ·exact .func (fun l e=>by cases e) rfl rfl (fun i y z h=>by simp at h) (fun i y z h=>by simp at h)
 ·exact .aa _
def cZ(w:PWd)(l:List AV):al w (l.map bd) l:=
 ⟨by simp,fun i y z h1 h2=>by rw[Av,h2]at h1;cases h1;exact fA w z⟩
def ZS(w:PWd)(v:AV):az w (ji v) v:=by
 unfold ji;split
 ·exact .agg (cZ w _).len (cZ w _).get
 ·exact .iface (fA w _)
 ·exact .bool _
 ·exact .int _ _
 ·exact .str _
 ·exact .au
 ·exact .ah
 ·exact .bc
 ·exact .aq
 ·exact .ae
 ·exact .func (fun l e=>by cases e) rfl rfl (fun i y z h=>by simp at h) (fun i y z h=>by simp at h)
 ·exact .func (fun l e=>by cases e) (by simp) rfl (cZ w _).get (fun i y z h=>by simp at h)
 ·exact .aa _
def aQ{w:PWd}{a:List PV}{u:List AV}(h:al w a u)(x:AR):az w (pev a x) (ev u x):=by
 cases x with
 | tmp t=>exact h.dl t
 | const v=>exact ZS w v
def oF{w:PWd}{a:List PV}{B:List AV}(h:al w a B)(u:List AR):al w (u.map (pev a)) (u.map (ev B)):=
 ⟨by simp,fun i y z h1 h2=>by
  rw[Av]at h1 h2
  cases E:u[i]? with
  | none=>rw[E]at h1;cases h1
  | some x=>rw[E]at h1 h2;cases h1;cases h2;exact aQ h x⟩
def SQ{w:PWd}{v:PV}{x:AV}(h:az w v x)(h1:v.one=Jo):x.one=Jo:=by cases h<;>first | rfl | assumption | (simp[PV.one]at h1)
def sL{w:PWd}{l:List PV}{y:List AV}(h:al w l y)(h1:l.all PV.one=Jo):y.all AV.one=Jo:=by
 rw[Cf]at h1 ⊢;intro x E;obtain⟨i,B,rfl⟩:=List.getElem_of_mem E;have u:i<l.length:=by rw[h.len];exact B
 exact SQ (h.get i _ _ (Ad u) (Ad B)) (h1 _ (List.getElem_mem u))
def WA{x:AV}(h:x.one=Jo):x.cells=[x]:=by cases x<;>first | rfl | (simp[AV.one]at h)
def uA{w:PWd}{v:PV}{x:AV}(h:az w v x)(h1:(bY v).all PV.one=Jo):al w (bY v) x.cells/\x.cells.all AV.one=Jo:=by
 have u:al w (bY v) x.cells:=by
  by_cases hv:∃cs,v= .agg cs
  ·obtain⟨cs,rfl⟩:=hv
   cases h with
   | agg B E=>exact⟨B,E⟩
  ·have G:bY v=[v]:=by cases v<;>first | rfl | (exact absurd ⟨_,rfl⟩ hv)
   rw[G]at h1 ⊢;have y:v.one=Jo:=by simpa using h1
   rw[WA (SQ h y)];exact .cons h (.nil w)
 exact⟨u,sL u h1⟩
def e9{w:PWd}{v:PV}{x y:AV}(h:az w v x)(e:cB v=Jm y):x=y:=by cases h<;>simp[cB]at e<;>exact e
def j9{w:PWd} :∀{l:List PV} {u y:List AV},al w l u->fT l=Jm y->u=y
 | [],u,y,h,e=>by
  have:=h.len
  cases u with
  | nil=>simp[fT]at e;exact e.symm
  | cons=>simp at this
 | v::l,[],y,h,e=>by have:=h.len;simp at this
 | v::l,x::u,y,h,e=>by
  unfold fT at e;split at e
  ·rename_i a b h1 h2;cases e;rw[e9 h.hd h1,j9 h.tl h2]
  ·cases e
def zT:∀(cs:List AV) (off:Nat) (new:List AV),off+new.length<=cs.length->over cs off new=cs.take off++new++cs.drop (off+new.length)
 | cs,0,new,h=>by simp[over]
 | [],off+1,new,h=>by simp at h
 | c::cs,off+1,new,h=>by simp only[over];rw[zT cs off new (by simp at h;omega),Nat.add_right_comm];rfl
def JR{w:PWd}{cs new:List PV}{y u:List AV}(h:al w cs y)(E:al w new u){off:Nat}(G:off+new.length<=cs.length):al w (jO cs off new) (over y off u):=by
 rw[zT y off u (by rw[<-E.len,<-h.len];exact G),<-E.len];have B:al w (cs.take off++new++cs.drop (off+new.length)) (y.take off++u++y.drop (off+new.length)):=((h.take off).append E).append (h.drop _);unfold jO;split
 ·rename_i x;have:cs.set off x=cs.take off++[x]++cs.drop (off+[x].length):=by rw[List.set_eq_take_append_cons_drop,if_pos (by simp at G;omega)];simp
  rw[this];exact B
 ·exact B
def GB{cs:List PV}{off:Nat}{new:List PV}(u:off+new.length<=cs.length):(jO cs off new).length=cs.length:=by
 unfold jO;split
 ·simp
 ·simp;omega
def mE{w:PWd}{a:List PV}{G:List AV}(J:al w a G):∀(y:List (Nat×Nat×AR)) {cs:List PV} {u:List AV} {r:List PV},al w cs u->dv a cs y=Jm r->∃B,qH G u y=Jm B/\al w r B
 | [],cs,u,r,E,e=>by simp only[dv]at e;cases e;exact⟨u,rfl,E⟩
 | (off,size,x)::y,cs,u,r,E,e=>by
  simp only[dv]at e;split at e
  ·rename_i K;obtain⟨h1,h2,h3⟩:=K;obtain⟨k1,k2⟩:=uA (aQ J x) h3;have hl:(ev G x).cells.length=size:=by rw[<-k1.len];exact h1
   have I:off+size<=u.length:=by rw[<-E.len];exact h2
   obtain⟨B,L,M⟩:=mE J y (JR E k1 (by omega)) e;refine⟨B,?_,M⟩;simp only[qH];rw[if_pos (by simp[hl,I];simpa using k2)];exact L
  ·cases e
def jA{w:PWd}{z:List PV}{u:List AV}(h:al w z u):∀n,al w (cK n z) (gH n u)
 | 0=> .nil w
 | n+1=>h.append (jA h n)
def nF(z:List PV):∀n,(cK n z).length=n*z.length
 | 0=>by simp[cK]
 | n+1=>by simp[cK,nF z n,Nat.succ_mul];omega
def fJ{w:PWd}{l:List PV}{u:List AV}(h:al w l u)(o n:Nat):al w (aY l o n) ((u.drop o).take n):=(h.drop o).take n
def PSt.kx{w:PWd}{h:H}{M:Mem}(s:PSt w h M){id g ver:Nat}{cs:List PV}(hm:M[id]? =Jm (.cells g ver cs)):
  ∃e,w.env id=Jm e/\e.g=g/\((e.blk=Jn/\cs=[])\/∃b u,e.blk=Jm b/\h.get b=Jm (.cells (e.v0+ver) Jo u)/\al w cs u/\af w M id b):=by
 obtain⟨e,h1,h2,h3⟩:=s.obj _ _ hm;refine⟨e,h1,h2,?_⟩
 cases hb:e.blk with
 | none=>rw[hb]at h3;exact .inl ⟨rfl,h3⟩
 | some b=>rw[hb]at h3;obtain⟨u,y,B⟩:=h3;exact .inr ⟨b,u,rfl,y,B,_,e,hm,by simp,h1,hb⟩
def PSt.lj{w:PWd}{h:H}{M:Mem}(s:PSt w h M){id g o ver:Nat}{cs:List PV}(hm:M[id]? =Jm (.cells g ver cs)){x:AV}(G:az w (.ptr id g o) x):
  ∃e b u,x= .ptr b o/\w.env id=Jm e/\e.g=g/\e.blk=Jm b/\h.get b=Jm (.cells (e.v0+ver) Jo u)/\al w cs u/\af w M id b:=by
 obtain⟨e,h1,h2,h3⟩:=s.kx hm
 cases G with
 | ptr B E y=>
  rw[h1]at B;cases B;rcases h3 with⟨h3,_⟩ | ⟨b,u,h3,I,J,K⟩
  ·rw[h3]at y;cases y
  ·rw[h3]at y;cases y;exact⟨e,_,u,rfl,h1,h2,h3,I,J,K⟩
 | mi L B E y=>rw[h1]at E;cases E;omega
def PSt.ij{w:PWd}{h:H}{M:Mem}(s:PSt w h M){id g sz off n ver:Nat}{cs:List PV}(hm:M[id]? =Jm (.cells g ver cs)){x:AV}(I:az w (.ref id g sz off n) x):
  ∃e,w.env id=Jm e/\e.g=g/\((x= .ag/\off=0/\n=0/\e.blk=Jn/\cs=[])\/∃J b u,x= .slice J sz b off n/\e.blk=Jm b/\h.get b=Jm (.cells (e.v0+ver) Jo u)/\al w cs u/\af w M id b):=by
 obtain⟨e,h1,h2,h3⟩:=s.kx hm;refine⟨e,h1,h2,?_⟩
 cases I with
 | ref B E y=>
  rw[h1]at B;cases B;rcases h3 with⟨h3,_⟩ | ⟨b,u,h3,G,K,L⟩
  ·rw[h3]at y;cases y
  ·rw[h3]at y;cases y;exact .inr ⟨_,_,u,rfl,h3,G,K,L⟩
 | ma B E y=>
  rw[h1]at B;cases B;rcases h3 with⟨h3,G⟩ | ⟨b,u,h3,_⟩
  ·exact .inl ⟨rfl,rfl,rfl,h3,G⟩
  ·rw[h3]at y;cases y
 | nj O B E y=>rw[h1]at E;cases E;omega
def SR(M y:Mem)(id:Nat):Prop:=∃o u,M[id]? =Jm o/\y[id]? =Jm u/\lZ o u=Jo
def iR(o:cm):lZ o o=Jo:=by cases o<;>simp[lZ]
def NW{M:Mem}{id:Nat}(h:id<M.length):SR M M id:=⟨M[id],M[id],Ad h,Ad h,iR _⟩
def aFA(w:PWd)(h:H)(M:Mem)(rd:List Nat)(u:List Nat):Prop:=∀x∈rd,x<h.next/\(w.imm x≠Jn\/∃id∈u,af w M id x)
def dq(M y:Mem)(u:List Nat):Prop:=∀id,id<M.length->id∉u->SR M y id
def dq.refl(M:Mem)(u:List Nat):dq M M u:=fun id y _=>NW y
def dq.app(M l:Mem)(u:List Nat):dq M (M++l) u:=fun id y _=>⟨M[id],M[id],Ad y,by rw[Bj y];exact Ad y,iR _⟩
def dq.set(M:Mem)(i:Nat)(o:cm):dq M (M.set i o) [i]:=fun id y B=>by have u:i≠id:=fun e=>B (by simp[e]);exact⟨M[id],M[id],Ad y,by rw[Bo u];exact Ad y,iR _⟩
def bl(w:PWd)(h:H)(M:Mem)(r:Option (AV×H×List Nat))(K:PV->Mem->List Nat->List Nat->Prop):Prop:=
 ∃v E rd,r=Jm (v,E,rd)/\∃w' p B u y,dr M.length w h M w' E B/\PSt w' E B/\az w' p v/\aFA w h M rd u/\dq M B y/\K p B u y
def bl.pure{w:PWd}{h:H}{M:Mem}{K:PV->Mem->List Nat->List Nat->Prop}(s:PSt w h M){r:Option (AV×H×List Nat)}{v:AV}{p:PV}{prd:List Nat}(hr:r=Jm (v,h,[]))(hv:az w p v)(u:K p M prd []):bl w h M r K:=
 ⟨v,h,[],hr,w,p,M,prd,[],dr.refl (Ac _) w h,s,hv,(fun x y=>by cases y),dq.refl M _,u⟩
def bl.read{w:PWd}{h:H}{M:Mem}{K:PV->Mem->List Nat->List Nat->Prop}(s:PSt w h M){r:Option (AV×H×List Nat)}{v:AV}{p:PV}{rd prd:List Nat}(hr:r=Jm (v,h,rd))(hv:az w p v)(u:aFA w h M rd prd)(y:K p M prd []):bl w h M r K:=
 ⟨v,h,rd,hr,w,p,M,prd,[],dr.refl (Ac _) w h,s,hv,u,dq.refl M _,y⟩
def PWd.bp(w:PWd)(id:Nat)(e:Ent):PWd:={w with env:=fun i=>if i=id then Jm e else w.env i}
def PWd.gm(w:PWd)(b:Nat)(o:bq):PWd:={w with imm:=fun x=>if x=b then Jm o else w.imm x}
def AM{w:PWd}{m id:Nat}{e:Ent}(hm:m<=id):Le m w (w.bp id e):=
 ⟨rfl,rfl,fun _ _ h=>h,fun i y u he=>⟨u,by show(if i=id then _ else _)=_;rw[if_neg (by omega)];exact he,.inr rfl⟩⟩
def KZ{w:PWd}{m id:Nat}{e y:Ent}(h0:w.env id=Jm y)(hg:y.g<e.g):Le m w (w.bp id e):=
 ⟨rfl,rfl,fun _ _ h=>h,fun i u B he=>by
  by_cases u:i=id
  ·subst u;rw[h0]at he;cases he;exact⟨e,by show(if i=i then _ else _)=_;rw[if_pos rfl],.inl hg⟩
  ·exact⟨B,by show(if i=id then _ else _)=_;rw[if_neg u];exact he,.inr rfl⟩⟩
def qT{w:PWd}{m b:Nat}{o:bq}(y:w.imm b=Jn):Le m w (w.gm b o):=
 ⟨rfl,rfl,fun x E u=>by
  show(if x=b then _ else _)=_;by_cases e:x=b
  ·subst e;rw[y]at u;cases u
  ·rw[if_neg e];exact u,fun i G B he=>⟨B,he,.inr rfl⟩⟩
def PSt.kh{w:PWd}{h:H}{M:Mem}(s:PSt w h M){b:Nat}{o:bq}(hb:w.imm b=Jm o):b<h.next:=H.bf (s.imm b o hb)
def lg.mono{w w':PWd}{h J:H}{M:Mem}(s:PSt w h M)(hl:Le M.length w w'){id:Nat}{o:cm}(E:lg w h id o)(he:∀e,w.env id=Jm e->w'.env id=Jm e)(hh:∀e b,w.env id=Jm e->e.blk=Jm b->J.get b=h.get b):lg w' J id o:=by
 cases o with
 | cells g ver cs=>
  obtain⟨e,h1,h2,h3⟩:=E;refine⟨e,he e h1,h2,?_⟩
  cases hb:e.blk with
  | none=>rw[hb]at h3;exact h3
  | some b=>rw[hb]at h3;obtain⟨G,B,u⟩:=h3;exact⟨G,by rw[hh e b h1 hb];exact B,u.mono hl s.env⟩
 | map ver L=>obtain⟨e,b,h1,h2,h3,I,B,u⟩:=E;exact⟨e,b,he e h1,h2,h3,I,by rw[hh e b h1 h3];exact B,u.len,fun i y z p q=>⟨(u.get i y z p q).1.mono hl s.env,(u.get i y z p q).2.mono hl s.env⟩⟩
 | loop ver r=>obtain⟨e,b,h1,h2,h3,K,B,u⟩:=E;exact⟨e,b,he e h1,h2,h3,K,by rw[hh e b h1 h3];exact B,u.state,u.pending,u.params,u.assign,u.body,u.tmps.mono hl s.env⟩
 | gone=>trivial
def PSt.alloc{w:PWd}{h:H}{M:Mem}(s:PSt w h M){o:cm}{o':bq}{e:Ent}(hb:e.blk=Jm h.next)(R:∀w',Le M.length w w'->w'.env M.length=Jm e->lg w' (h.alloc o') M.length o):
  PSt (w.bp M.length e) (h.alloc o') (M++[o])/\dr M.length w h M (w.bp M.length e) (h.alloc o') (M++[o]):=by
 have hl:Le M.length w (w.bp M.length e):=AM (Ac _);have y:(w.bp M.length e).env M.length=Jm e:=by show(if _=_ then _ else _)=_;rw[if_pos rfl]
 have hold:∀i,i≠M.length->(w.bp M.length e).env i=w.env i:=fun i u=>by show(if _=_ then _ else _)=_;rw[if_neg u]
 have live:∀i x,af (w.bp M.length e) (M++[o]) i x->(i=M.length/\x=h.next)\/(i<M.length/\af w M i x):=by
  rintro i x ⟨G,E,h1,h2,h3,J⟩;by_cases u:i=M.length
  ·subst u;rw[y]at h3;cases h3;rw[hb]at J;cases J;exact .inl ⟨rfl,rfl⟩
  ·rw[hold i u]at h3;have hlt:=s.env i E h3;rw[Bj hlt]at h1;exact .inr ⟨hlt,G,E,h1,h2,h3,J⟩
 refine⟨⟨?_,?_,?_,?_,?_,?_,?_⟩,⟨?_,hl,?_,?_,?_,?_⟩⟩
 ·intro b G u;exact H.fg (s.imm b G u)
 ·intro i E he;by_cases u:i=M.length
  ·subst u;simp
  ·rw[hold i u]at he;have:=s.env i E he;simp;omega
 ·intro i E b he B;by_cases u:i=M.length
  ·subst u;rw[y]at he;cases he;rw[hb]at B;cases B;simp
  ·rw[hold i u]at he;have:=s.blk i E b he B;simp;omega
 ·intro i G u;rcases Ba i M.length with hlt | K
  ·rw[Bj hlt]at u;refine lg.mono s hl (s.obj i G u) (fun E he=>by rw[hold i (by omega)];exact he) fun E b he B=>?_;rw[H.ay,if_neg (by have:=s.blk i E b he B;omega)]
  ·rw[Bx K]at u;have:i=M.length:=by
    rcases Ba (i-M.length) 1 with q | q
    ·omega
    ·rw[Bk (by simpa using q)]at u;cases u
   subst this;simp at u;subst u;exact R _ hl y
 ·intro i j x h1 h2;rcases live i x h1 with⟨rfl,rfl⟩ | ⟨u,I⟩<;>rcases live j _ h2 with⟨rfl,S⟩ | ⟨T,O⟩
  ·rfl
  ·have:=O.next s;omega
  ·subst S;have:=I.next s;omega
  ·exact s.inj i j x I O
 ·intro i x h1;rcases live i x h1 with⟨rfl,rfl⟩ | ⟨u,I⟩
  ·refine⟨?_,fun _=>s.base⟩
   cases Q:w.imm h.next with
   | none=>exact Q
   | some G=>have:=s.kh Q;omega
  ·exact s.sep i x I
 ·have:=s.base;show w.n0<=h.next+1;omega
 ·simp
 ·simp
 ·intro x L _;rw[H.ay,if_neg (by omega)]
 ·intro i x h1 L;rcases live i x h1 with⟨_,rfl⟩ | ⟨_,I⟩
  ·omega
  ·exact I
 ·intro x L;exact .inl L
def PSt.mf{w:PWd}{h:H}{M:Mem}(s:PSt w h M)(u:bq):
  PSt (w.gm h.next u) (h.alloc u) M/\dr M.length w h M (w.gm h.next u) (h.alloc u) M/\(w.gm h.next u).imm h.next=Jm u:=by
 have O:w.imm h.next=Jn:=by
  cases Q:w.imm h.next with
  | none=>rfl
  | some J=>have:=s.kh Q;omega
 have hl:Le M.length w (w.gm h.next u):=qT O;have B:∀x,x≠h.next->(w.gm h.next u).imm x=w.imm x:=fun x I=>by show(if _=_ then _ else _)=_;rw[if_neg I]
 have y:(w.gm h.next u).imm h.next=Jm u:=by show(if _=_ then _ else _)=_;rw[if_pos rfl]
 refine⟨⟨?_,s.env,?_,?_,s.inj,?_,?_⟩,⟨Ac _,hl,by simp,?_,fun i x h1 _=>h1,?_⟩,y⟩
 ·intro b J G;by_cases e:b=h.next
  ·subst e;rw[y]at G;cases G;exact H.ai _ _
  ·rw[B b e]at G;exact H.fg (s.imm b J G)
 ·intro i e b he hb;have:=s.blk i e b he hb;simp;omega
 ·intro i J G;refine lg.mono s hl (s.obj i J G) (fun L he=>he) fun L b he K=>?_;rw[H.ay,if_neg (by have:=s.blk i L b he K;omega)]
 ·intro i x h1;have E:af w M i x:=h1;have:=E.next s;exact⟨by rw[B x (by omega)];exact(s.sep i x E).1,(s.sep i x E).2⟩
 ·have:=s.base;show w.n0<=h.next+1;omega
 ·intro x I _;rw[H.ay,if_neg (by omega)]
 ·intro x I;by_cases e:x=h.next
  ·exact .inr (.inl (by omega))
  ·rw[B x e]at I;exact .inl I
def PSt.ky{w:PWd}{h:H}{M:Mem}(s:PSt w h M){v0:Nat} :
  PSt (w.bp M.length ⟨Jn,v0,0⟩) h (M++[.cells 0 0 []])/\dr M.length w h M (w.bp M.length ⟨Jn,v0,0⟩) h (M++[.cells 0 0 []]):=by
 have hl:Le M.length w (w.bp M.length ⟨Jn,v0,0⟩):=AM (Ac _);have y:(w.bp M.length ⟨Jn,v0,0⟩).env M.length=Jm ⟨Jn,v0,0⟩:=by show(if _=_ then _ else _)=_;rw[if_pos rfl]
 have hold:∀i,i≠M.length->(w.bp M.length ⟨Jn,v0,0⟩).env i=w.env i:=fun i u=>by show(if _=_ then _ else _)=_;rw[if_neg u]
 have live:∀i x,af (w.bp M.length ⟨Jn,v0,0⟩) (M++[.cells 0 0 []]) i x->af w M i x:=by
  rintro i x ⟨G,B,h1,h2,h3,J⟩;by_cases u:i=M.length
  ·subst u;rw[y]at h3;cases h3;cases J
  ·rw[hold i u]at h3;have hlt:=s.env i B h3;rw[Bj hlt]at h1;exact⟨G,B,h1,h2,h3,J⟩
 refine⟨⟨s.imm,?_,?_,?_,fun i j x h1 h2=>s.inj i j x (live i x h1) (live j x h2),fun i x h1=>s.sep i x (live i x h1),s.base⟩,⟨by simp,hl,Ac _,fun _ _ _=>rfl,fun i x h1 _=>live i x h1,fun x K=> .inl K⟩⟩
 ·intro i B he;by_cases u:i=M.length
  ·subst u;simp
  ·rw[hold i u]at he;have:=s.env i B he;simp;omega
 ·intro i B b he E;by_cases u:i=M.length
  ·subst u;rw[y]at he;cases he;cases E
  ·rw[hold i u]at he;exact s.blk i B b he E
 ·intro i G u;rcases Ba i M.length with hlt | I
  ·rw[Bj hlt]at u;exact lg.mono s hl (s.obj i G u) (fun B he=>by rw[hold i (by omega)];exact he) fun _ _ _ _=>rfl
  ·rw[Bx I]at u;have:i=M.length:=by
    rcases Ba (i-M.length) 1 with q | q
    ·omega
    ·rw[Bk (by simpa using q)]at u;cases u
   subst this;simp at u;subst u;exact⟨_,y,rfl,rfl⟩
def PSt.setCells{w:PWd}{h:H}{M:Mem}(s:PSt w h M){id g ver b:Nat}{cs I:List PV}{u:List AV}{e:Ent}(hm:M[id]? =Jm (.cells g ver cs))(he:w.env id=Jm e)(hg:e.g=g)(hb:e.blk=Jm b)(hr:al w I u){ver2:Nat} :
  PSt w (h.set b (.cells (e.v0+ver2) Jo u)) (M.set id (.cells g ver2 I))/\dr M.length w h M w (h.set b (.cells (e.v0+ver2) Jo u)) (M.set id (.cells g ver2 I)):=by
 have y:af w M id b:=⟨_,e,hm,by simp,he,hb⟩;have S:=y.next s;have hid:=y.lt;have live:∀i x,af w (M.set id (.cells g ver2 I)) i x->af w M i x:=by
  rintro i x ⟨R,Q,h1,h2,h3,U⟩;by_cases J:id=i
  ·subst J;exact⟨_,Q,hm,by simp,h3,U⟩
  ·rw[Bo J]at h1;exact⟨R,Q,h1,h2,h3,U⟩
 have B:∀x,x≠b->(h.set b (.cells (e.v0+ver2) Jo u)).get x=h.get x:=fun x K=>H.bj K;have L:(h.set b (.cells (e.v0+ver2) Jo u)).get b=Jm (.cells (e.v0+ver2) Jo u):=by rw[H.ie,if_pos ⟨rfl,S⟩]
 refine⟨⟨?_,?_,s.blk,?_,fun i j x h1 h2=>s.inj i j x (live i x h1) (live j x h2),fun i x h1=>s.sep i x (live i x h1),s.base⟩,⟨by simp,Le.refl _ _,Ac _,?_,fun i x h1 _=>live i x h1,fun x K=> .inl K⟩⟩
 ·intro x o K;have:x≠b:=by rintro rfl;rw[(s.sep id x y).1]at K;cases K
  rw[B x this];exact s.imm x o K
 ·intro i Q O;have:=s.env i Q O;simpa using this
 ·intro i R J;by_cases E:id=i
  ·subst E;rw[Cj hid]at J;cases J;refine⟨e,he,hg,?_⟩;rw[hb];exact⟨u,L,hr⟩
  ·rw[Bo E]at J;by_cases G:R= .gone
   ·subst G;trivial
   ·refine lg.mono s (Le.refl _ _) (s.obj i R J) (fun _ h=>h) fun Q V O T=>B V ?_;rintro rfl;exact E (s.inj id i V y ⟨R,Q,J,G,O,T⟩)
 ·intro x K Y;refine B x ?_;rintro rfl;exact Y id y
def PSt.pw{w:PWd}{h h':H}{M:Mem}(s:PSt w h M){id g ver:Nat}{cs cs2:List PV}{e e2:Ent}(hm:M[id]? =Jm (.cells g ver cs))(he:w.env id=Jm e)(hg:e.g=g)(Y:e2.g=g+1)
  (hn:h.next<=h'.next) (Z:∀x,x<h.next->e.blk≠Jm x->h'.get x=h.get x)
  (hb:∀b,e2.blk=Jm b->b<h'.next/\(h.next<=b\/e.blk=Jm b))
  (hr:match e2.blk with | none=>cs2=[] | some b=>∃K,h'.get b=Jm (.cells (e2.v0+0) Jo K)/\al w cs2 K):
  PSt (w.bp id e2) h' (M.set id (.cells (g+1) 0 cs2))/\dr M.length w h M (w.bp id e2) h' (M.set id (.cells (g+1) 0 cs2)):=by
 have hl:Le M.length w (w.bp id e2):=KZ he (by omega);have hid:id<M.length:=s.env id e he;have I:(w.bp id e2).env id=Jm e2:=by show(if _=_ then _ else _)=_;rw[if_pos rfl]
 have hold:∀i,i≠id->(w.bp id e2).env i=w.env i:=fun i u=>by show(if _=_ then _ else _)=_;rw[if_neg u]
 have B:∀b,e.blk=Jm b->af w M id b:=fun b hb=>⟨_,e,hm,by simp,he,hb⟩;have live:∀i x,af (w.bp id e2) (M.set id (.cells (g+1) 0 cs2)) i x->(i=id/\e2.blk=Jm x)\/(i≠id/\af w M i x):=by
  rintro i x ⟨U,O,h1,h2,h3,h4⟩;by_cases u:i=id
  ·subst u;rw[I]at h3;cases h3;exact .inl ⟨rfl,h4⟩
  ·rw[Bo (Ne.symm u)]at h1;rw[hold i u]at h3;exact .inr ⟨u,U,O,h1,h2,h3,h4⟩
 have Q:∀i x,i≠id->af w M i x->h'.get x=h.get x:=fun i x u E=>Z x (E.next s) fun R=>u (s.inj i id x E (B x R));refine⟨⟨?_,?_,?_,?_,?_,?_,?_⟩,⟨by simp,hl,hn,?_,?_,fun x E=> .inl E⟩⟩
 ·intro x o E;rw[Z x (s.kh E) (fun R=>by have:=(s.sep id x (B x R)).1;have E:w.imm x=Jm o:=E;rw[this]at E;cases E)];exact s.imm x o E
 ·intro i O y;by_cases u:i=id
  ·subst u;simpa using hid
  ·rw[hold i u]at y;simpa using s.env i O y
 ·intro i O b y L;by_cases u:i=id
  ·subst u;rw[I]at y;cases y;exact(hb b L).1
  ·rw[hold i u]at y;have:=s.blk i O b y L;omega
 ·intro i U u;by_cases G:i=id
  ·subst G;rw[Cj hid]at u;cases u;refine⟨e2,I,Y,?_⟩
   cases V:e2.blk with
   | none=>rw[V]at hr;exact hr
   | some b=>rw[V]at hr;obtain⟨K,S,q2⟩:=hr;exact⟨K,S,q2.mono hl s.env⟩
  ·rw[Bo (Ne.symm G)]at u;by_cases J:U= .gone
   ·subst J;trivial
   ·refine lg.mono s hl (s.obj i U u) (fun O y=>by rw[hold i G];exact y) fun O b' y L=>Q i b' G ⟨U,O,u,J,y,L⟩
 ·intro i j x h1 h2;rcases live i x h1 with⟨rfl,S⟩ | ⟨u,T⟩<;>rcases live j x h2 with⟨rfl,q2⟩ | ⟨hj,l2⟩
  ·rfl
  ·rcases(hb x S).2 with q | q
   ·have:=l2.next s;omega
   ·exact absurd (s.inj j _ x l2 (B x q)) hj
  ·rcases(hb x q2).2 with q | q
   ·have:=T.next s;omega
   ·exact absurd (s.inj i _ x T (B x q)) u
  ·exact s.inj i j x T l2
 ·intro i x h1;rcases live i x h1 with⟨rfl,S⟩ | ⟨u,T⟩
  ·rcases(hb x S).2 with q | q
   ·refine⟨?_,fun _=>Aj s.base q⟩;show w.imm x=Jn
    cases R:w.imm x with
    | none=>rfl
    | some U=>have:=s.kh R;omega
   ·exact s.sep _ x (B x q)
  ·exact s.sep i x T
 ·have:=s.base;show w.n0<=h'.next;omega
 ·intro x E a0;exact Z x E fun R=>a0 id (B x R)
 ·intro i x h1 E;rcases live i x h1 with⟨rfl,S⟩ | ⟨u,T⟩
  ·rcases(hb x S).2 with q | q
   ·omega
   ·exact B x q
  ·exact T
def dC{w:PWd}{k:IntKind}{n:Int}{x:AV}(h:az w (.int k n) x):x= .int k n:=by cases h;rfl
def jB{w:PWd}{b:Bool}{x:AV}(h:az w (.bool b) x):x= .bool b:=by cases h;rfl
def nD{w:PWd}{cs:List PV}{x:AV}(h:az w (.agg cs) x):∃u,x= .agg u/\al w cs u:=by cases h with | agg y B=>exact⟨_,rfl,y,B⟩
def pI{w:PWd}{cs:List PV}{x:AV}(h:az w (.tuple cs) x):∃u,x= .tuple u/\al w cs u:=by cases h with | tuple y B=>exact⟨_,rfl,y,B⟩
def dB{w:PWd}{x:AV}(h:az w .ah x):x= .ag:=by cases h;rfl
def nC{w:PWd}{h:H}{M:Mem}(s:PSt w h M){E own:Bool}{sz n:Nat}{cs:List PV}{x:AV}(G:az w (.sl E own sz n cs) x):
  (x= .ag/\n=0/\cs=[])\/∃B b off ver rw u,x= .slice B sz b off n/\(E=Jo->own=Jo->B=Jo)/\w.imm b=Jm (.cells ver rw u)/\h.get b=Jm (.cells ver rw u)/\off+cs.length<=u.length/\cs.length=n*sz/\al w cs ((u.drop off).take cs.length)/\(own=Jo->w.n0<=b/\rw=Jo)/\(own=Jp->E=Jp->b<w.n0):=by
 cases G with
 | slN=>exact .inl ⟨rfl,rfl,rfl⟩
 | sl h1 h2 h3 I J K L=>
  refine .inr ⟨_,_,_,_,_,_,rfl,I,h1,s.imm _ _ h1,h2,h3,⟨by simp;omega,fun i y z O hz=>?_⟩,J,K⟩;rw[Bc]at hz;split at hz
  ·rw[Bg]at hz;exact L i y z O hz
  ·cases hz
def zF{w:PWd}{h:H}{M:Mem}(s:PSt w h M){cs:List PV}{o:Nat}{x:AV}(B:az w (.cp cs o) x):
  ∃b off ver rw u,x= .ptr b (off+o)/\w.imm b=Jm (.cells ver rw u)/\h.get b=Jm (.cells ver rw u)/\off+cs.length<=u.length/\al w cs ((u.drop off).take cs.length):=by
 cases B with
 | cp h1 h2 E=>
  refine⟨_,_,_,_,_,rfl,h1,s.imm _ _ h1,h2,⟨by simp;omega,fun i y z G hz=>?_⟩⟩;rw[Bc]at hz;split at hz
  ·rw[Bg]at hz;exact E i y z G hz
  ·cases hz
def aI{α:Type}{l:List α}{i:Nat}{x:α}(h:l[i]? =Jm x):i<l.length:=by
 rcases Ba i l.length with u | u
 ·exact u
 ·rw[Bk u]at h;cases h
def KB{cs:List PV}{u:List AV}{w:PWd}{off:Nat}(hr:al w cs ((u.drop off).take cs.length)){i:Nat}{y:PV}(B:cs[i]? =Jm y):∃z,u[off+i]? =Jm z/\az w y z:=by obtain⟨z,h1,h2⟩:=hr.je B;rw[Bc,if_pos (aI B),Bg]at h1;exact⟨z,h1,h2⟩
def zP{cs:List PV}{u:List AV}{w:PWd}{off:Nat}(hr:al w cs ((u.drop off).take cs.length)){o n:Nat}(h:o+n<=cs.length):al w (aY cs o n) ((u.drop (off+o)).take n):=by have:=fJ hr o n;rwa [List.drop_take,List.drop_drop,List.take_take,Dv (by omega)]at this
section
variable {tab:Tb} {w:PWd} {h:H} {M:Mem} {a:List PV} {a':List AV} {K:PV->Mem->List Nat->List Nat->Prop}
def NM(s:PSt w h M)(T:al w a a')(x:AR)(B:PS tab (.load x) a M K):bl w h M (aop a' h (.load x)) K:=by
 have u:=aQ T x;simp only[PS]at B;unfold ML at B;split at B
 ·rename_i id g o hv;obtain⟨ver,cs,hm,y,E,G⟩:=B;rw[hv]at u;obtain⟨e,b,I,J,L,R,U,O,V,S⟩:=s.lj hm u;obtain⟨z,hz,hr⟩:=V.je E;refine bl.read s (v:=z) (rd:=[b]) (prd:=[id]) ?_ hr (fun x u=>?_) G
  ·simp only[aop,J,gQ,O,hz]
  ·simp only[Bp]at u;subst u;exact⟨S.next s,.inr ⟨id,by simp,S⟩⟩
 ·rename_i cs o hv;obtain⟨y,E,G⟩:=B;rw[hv]at u;obtain⟨b,off,ver,rw,I,J,L,R,U,O⟩:=zF s u;obtain⟨z,hz,hr⟩:=KB O E;refine bl.read s (v:=z) (rd:=[b]) (prd:=[]) ?_ hr (fun x u=>?_) G
  ·simp only[aop,J,gQ,R,hz]
  ·simp only[Bp]at u;subst u;exact⟨s.kh L,.inl (by rw[L];simp)⟩
 ·exact B.elim
def CN(s:PSt w h M)(T:al w a a')(n:Nat)(x:AR)(B:PS tab (.dw n x) a M K):bl w h M (aop a' h (.dw n x)) K:=by
 have u:=aQ T x;simp only[PS]at B;unfold CF at B;split at B
 ·rename_i id g o hv;obtain⟨ver,cs,hm,E,G⟩:=B;rw[hv]at u;obtain⟨e,b,y,I,J,Q,U,L,R,S⟩:=s.lj hm u;have hs:=fJ R o n;refine bl.read s (v:= .agg ((y.drop o).take n)) (rd:=[b]) (prd:=[id]) ?_ (.agg hs.len hs.get) (fun x u=>?_) G
  ·simp only[aop,I,bB,L];rw[if_pos (by rw[<-R.len];exact E)]
  ·simp only[Bp]at u;subst u;exact⟨S.next s,.inr ⟨id,by simp,S⟩⟩
 ·rename_i cs o hv;obtain⟨E,G⟩:=B;rw[hv]at u;obtain⟨b,off,ver,rw,y,I,J,Q,U,L⟩:=zF s u;have hs:=zP L E;refine bl.read s (v:= .agg ((y.drop (off+o)).take n)) (rd:=[b]) (prd:=[]) ?_ (.agg hs.len hs.get) (fun x u=>?_) G
  ·simp only[aop,I,bB,Q];rw[if_pos (by omega)]
  ·simp only[Bp]at u;subst u;exact⟨s.kh J,.inl (by rw[J];simp)⟩
 ·exact B.elim
def I4(s:PSt w h M)(I:al w a a')(n:Nat)(p x:AR)(u:PS tab (.store n p x) a M K):bl w h M (aop a' h (.store n p x)) K:=by
 have B:=aQ I p;simp only[PS]at u;unfold Q5 at u;split at u
 ·rename_i id g o hv;obtain⟨ver,cs,hm,⟨h1,h2,h3⟩,O⟩:=u;rw[hv]at B;obtain⟨e,b,E,Q,R,S,T,U,J,Z⟩:=s.lj hm B;obtain⟨k1,k2⟩:=uA (aQ I x) h3;have hl:(ev a' x).cells.length=n:=by rw[<-k1.len];exact h1
  have G:=JR J k1 (off:=o) (by omega);obtain⟨V,Y⟩:=s.setCells (ver2:=ver+1) hm R S T G;refine⟨.tuple [],h.set b (.cells (e.v0+(ver+1)) Jo (over E o (ev a' x).cells)),[],?_,w,.tuple [],_,[],[id],Y,V,.tuple rfl (fun i y z q=>by simp at q),(fun x B=>by cases B),dq.set M id _,O⟩;simp only[aop,Q];rw[if_pos hl];simp only[dV,U];rw[if_pos (by have:=J.len;simp[hl];exact⟨by omega,by simpa using k2⟩)];rfl
 ·exact u.elim
def JB(s:PSt w h M)(G:al w a a')(cs:List AV)(u:PS tab (.alloc cs) a M K):bl w h M (aop a' h (.alloc cs)) K:=by simp only[PS]at u;obtain⟨y,B⟩:=s.alloc (o:= .cells 0 0 (cs.map bd)) (o':= .cells 0 Jo cs) (e:=⟨Jm h.next,0,0⟩) rfl fun w' hl he=>⟨_,he,rfl,cs,H.ai _ _,cZ w' cs⟩;exact⟨.ptr h.next 0,_,[],rfl,_,_,_,[],[],B,y,.ptr (e:=⟨Jm h.next,0,0⟩) (by show(if _=_ then _ else _)=_;rw[if_pos rfl]) rfl rfl,(fun x E=>by cases E),dq.app M _ _,u⟩
def VA(s:PSt w h M)(y:al w a a')(x:AR)(u:PS tab (.box x) a M K):bl w h M (aop a' h (.box x)) K:=by simp only[PS]at u;obtain⟨h1,B⟩:=u;obtain⟨k1,k2⟩:=uA (aQ y x) h1;obtain⟨E,G⟩:=s.alloc (o:= .cells 0 0 (bY (pev a x))) (o':= .cells 0 Jo (ev a' x).cells) (e:=⟨Jm h.next,0,0⟩) rfl fun w' hl he=>⟨_,he,rfl,_,H.ai _ _,k1.mono hl s.env⟩;exact⟨.ptr h.next 0,_,[],by simp only[aop];rw[if_pos k2],_,_,_,[],[],G,E,.ptr (e:=⟨Jm h.next,0,0⟩) (by show(if _=_ then _ else _)=_;rw[if_pos rfl]) rfl rfl,(fun x I=>by cases I),dq.app M _ _,B⟩
def tY(s:PSt w h M)(O:al w a a')(size len:Nat)(z:List AV)(u:List (Nat×Nat×AR))(G:PS tab (.buildSlice size len z u) a M K):bl w h M (aop a' h (.buildSlice size len z u)) K:=by
 simp only[PS]at G;obtain⟨⟨h0,h1⟩,cs,I,Q⟩:=G;obtain⟨B,R,J⟩:=mE O u (jA (cZ w z) len) I;have hlen:cs.length=len*size:=by
  have:∀(u:List (Nat×Nat×AR)) (c r:List PV),dv a c u=Jm r->r.length=c.length:=by
   intro u
   induction u with
   | nil=>intro c r h;simp only[dv]at h;cases h;rfl
   | cons p u S=>
    intro c r h;obtain⟨o,sz,x⟩:=p;simp only[dv]at h;split at h
    ·rename_i hh;rw[S _ _ h,GB (by omega)]
    ·cases h
  rw[this u _ _ I,nF];simp[h0]
 obtain⟨T,L,U⟩:=s.mf (.cells 0 Jo B);have E:=J.mono L.le s.env;refine⟨.slice Jo size h.next 0 len,_,[],by simp only[aop,R],_,.sl Jo Jo size len cs,M,[],[],L,T,?_,(fun x V=>by cases V),dq.refl M _,Q⟩;refine .sl U (by rw[J.len];omega) hlen (fun _ _=>rfl) (fun _=>⟨s.base,rfl⟩) (fun q=>by cases q) (fun i y z Y Z=>E.get i y z Y (by rwa [Az]at Z))
def wU(s:PSt w h M)(u:al w a a')(bytes:Nat)(z:List AV)(n c:AR)(y:PS tab (.makeSlice bytes z n c) a M K):bl w h M (aop a' h (.makeSlice bytes z n c)) K:=by simp only[PS]at y;obtain⟨U,l,h1,kw,m,h2,⟨rfl,rfl,h3,G,I,J⟩,L⟩:=y;have B:=aQ u n;have E:=aQ u c;rw[h1]at B;rw[h2]at E;have O:=dC B;have Q:=dC E;obtain⟨R,S⟩:=s.alloc (o:= .cells 0 0 (cK l.toNat (z.map bd))) (o':= .cells 0 Jo (gH l.toNat z)) (e:=⟨Jm h.next,0,0⟩) rfl fun w' hl he=>⟨_,he,rfl,_,H.ai _ _,jA (cZ w' z) _⟩;refine⟨.slice (l==m) z.length h.next 0 l.toNat,_,[],?_,_,_,_,[],[],S,R,.ref (e:=⟨Jm h.next,0,0⟩) (by show(if _=_ then _ else _)=_;rw[if_pos rfl]) rfl rfl,(fun x T=>by cases T),dq.app M _ _,L⟩;simp only[aop,O,Q];rw[if_pos ⟨h3,G,I,by simpa [fK]using J⟩]
def tZ(s:PSt w h M)(E:al w a a')(bytes:Nat)(z:List AV)(y x:AR)(G:PS tab (.br bytes z y x) a M K):bl w h M (aop a' h (.br bytes z y x)) K:=by
 simp only[PS]at G;obtain⟨h0,V,n,h1,rfl,u⟩:=G;have I:=aQ E y;have J:=aQ E x;rw[h0]at I;rw[h1]at J;have L:=dB I;have O:=dC J;split at u
 ·rename_i B;subst B;exact bl.pure s (v:= .ag) (p:= .ah) (prd:=[]) (by simp only[aop,L,O,if_true]) .ah u
 ·rename_i B;obtain⟨⟨h2,h3,R⟩,u⟩:=u;obtain⟨S,T⟩:=s.alloc (o:= .cells 0 0 (cK n.toNat (z.map bd))) (o':= .cells 0 Jo (gH n.toNat z)) (e:=⟨Jm h.next,0,0⟩) rfl fun w' hl he=>⟨_,he,rfl,_,H.ai _ _,jA (cZ w' z) _⟩;refine⟨.slice Jp z.length h.next 0 n.toNat,_,[],?_,_,_,_,[],[],T,S,.ref (e:=⟨Jm h.next,0,0⟩) (by show(if _=_ then _ else _)=_;rw[if_pos rfl]) rfl rfl,(fun x U=>by cases U),dq.app M _ _,u⟩;simp only[aop,L,O];rw[if_neg B,if_pos ⟨h2,h3,by simpa [fK]using R⟩]
def DO(s:PSt w h M){size:Nat}{x:PV}{J:AV}(I:az w x J){k:List PV->Nat->Prop}(B:qv size x M k)(L:AR)(u:ev a' L=J):
  ∃new n y,gZ a' h size L=Jm (y,n)/\al w new y/\k new n/\new.length=n*size:=by
 unfold qv at B;split at B
 ·rw[dB I]at u;exact⟨[],0,[],by simp only[gZ,u],.nil w,B,by simp⟩
 ·rename_i R own sz n cs;obtain⟨rfl,E⟩:=B;rcases nC s I with⟨rfl,rfl,rfl⟩ | ⟨S,b,off,ver,rw,G,rfl,_,e1,T,U,O,V,_⟩
  ·exact⟨[],0,[],by simp only[gZ,u],.nil w,E,by simp⟩
  ·refine⟨cs,n,(G.drop off).take cs.length,?_,V,E,O⟩;simp only[gZ,u,if_true,bB,T];rw[<-O,if_pos U]
 ·rename_i id g sz off n;obtain⟨ver,cs,hm,⟨rfl,hl⟩,E⟩:=B;obtain⟨e,q1,q2,Y⟩:=s.ij hm I;rcases Y with⟨rfl,rfl,rfl,_,rfl⟩ | ⟨R,b,G,rfl,p1,Z,Q,p4⟩
  ·exact⟨_,_,[],by simp only[gZ,u],by simpa [aY]using al.nil w,E,by simp[aY]⟩
  ·refine⟨_,_,_,?_,fJ Q off (n*sz),E,by simp[aY];omega⟩;simp only[gZ,u,if_true,bB,Z];rw[if_pos (by rw[<-Q.len];exact hl)]
 ·exact B.elim
def NJ(s:PSt w h M){size:Nat}{x:PV}{I:AV}(L:az w x I){k:List PV->Nat->Prop}(G:MI size x M k)(J:AR)(B:ev a' J=I):
  ∃new n u,gZ a' h size J=Jm (u,n)/\al w new u/\k new n/\new.length=n*size:=by
 unfold MI at G;split at G
 ·rename_i str;obtain⟨rfl,O⟩:=G;have ex:I= .str str:=by cases L;rfl
  rw[ex]at B;refine⟨_,_,str.data.toList.map fun b=> .int .u8 b.toNat,by simp only[gZ,B,if_true],⟨by simp,fun i y z E hz=>?_⟩,O,by rw[Ap,Array.length_toList,Ct];rfl⟩;rw[Av]at E hz
  cases hb:str.data.toList[i]? with
  | none=>rw[hb]at E;cases E
  | some b=>rw[hb]at E hz;cases E;cases hz;exact .int _ _
 ·exact DO s L G J B
def F3(s:PSt w h M)(ha:al w a a')(size bytes:Nat)(sr x:AR)(Y:PS tab (.append size bytes sr x) a M K):bl w h M (aop a' h (.append size bytes sr x)) K:=by
 simp only[PS]at Y;obtain⟨a7,Y⟩:=Y;unfold aC5 at Y;obtain⟨new,n,y,e1,L,R,e4⟩:=NJ (a':=a') s (aQ ha x) Y x rfl;have hs:=aQ ha sr;have hlen:y.length=n*size:=by rw[<-L.len];exact e4
 simp only[aop,e1];split at R
 ·rename_i hv;obtain⟨⟨h1,h2,h3⟩,Q⟩:=R;rw[hv]at hs;rw[dB hs];have E:=sL L h3;by_cases G:n=0
  ·subst G;have:new=[]:=List.length_eq_zero_iff.1 (by simpa using e4);subst this;obtain⟨I,J⟩:=s.ky (v0:=0);exact⟨.ag,h,[],by simp,_,_,_,[],[],J,I,.ma (e:=⟨Jn,0,0⟩) (by show(if _=_ then _ else _)=_;rw[if_pos rfl]) rfl rfl,(fun x u=>by cases u),dq.app M _ _,Q⟩
  ·obtain⟨I,J⟩:=s.alloc (o:= .cells 0 0 new) (o':= .cells 0 Jo y) (e:=⟨Jm h.next,0,0⟩) rfl fun w' hl he=>⟨_,he,rfl,_,H.ai _ _,L.mono hl s.env⟩;refine⟨.slice Jp size h.next 0 n,_,[],?_,_,_,_,[],[],J,I,.ref (e:=⟨Jm h.next,0,0⟩) (by show(if _=_ then _ else _)=_;rw[if_pos rfl]) rfl rfl,(fun x u=>by cases u),dq.app M _ _,Q⟩;simp only;rw[if_neg G,if_pos ⟨h1,by simpa [fK]using h2,E,hlen⟩]
 ·rename_i fl own sz m cs hv;rw[hv]at hs;by_cases G:n=0
  ·rw[if_pos G]at R;rcases nC s hs with⟨u,_⟩ | ⟨Z,b,off,ver,rw,B,u,_⟩
   ·rw[u]at hs;exact bl.pure s (v:= .ag) (by rw[u];simp only;rw[if_pos G]) hs R
   ·rw[u]at hs;exact bl.pure s (v:= .slice Z sz b off m) (by rw[u];simp only;rw[if_pos G]) hs R
  rw[if_neg G]at R;obtain⟨⟨rfl,rfl,rfl,h1,h2,h3⟩,Q⟩:=R;have E:=sL L h3;rcases nC s hs with⟨u,rfl,rfl⟩ | ⟨Z,b,off,ver,rw,B,u,O,q1,q2,q3,q4,q5,_⟩
  ·obtain⟨I,J⟩:=s.alloc (o:= .cells 0 0 ([]++new)) (o':= .cells 0 Jo y) (e:=⟨Jm h.next,0,0⟩) rfl (fun w' hl he=>⟨_,he,rfl,_,H.ai _ _,by simpa using L.mono hl s.env⟩);rw[Az]at Q;refine⟨.slice Jp sz h.next 0 n,_,[],?_,_,_,_,[],[],J,I,.ref (e:=⟨Jm h.next,0,0⟩) (by show(if _=_ then _ else _)=_;rw[if_pos rfl]) rfl rfl,(fun x u=>by cases u),dq.app M _ _,Q⟩;rw[u];simp only;rw[if_neg G,if_pos ⟨by simpa using h1,by simpa [fK]using h2,E,hlen⟩]
  ·have:=O rfl rfl;subst this;obtain⟨I,J⟩:=s.alloc (o:= .cells 0 0 (cs++new)) (o':= .cells 0 Jo ((B.drop off).take cs.length++y)) (e:=⟨Jm h.next,0,0⟩) rfl fun w' hl he=>⟨_,he,rfl,_,H.ai _ _,(q5.append L).mono hl s.env⟩;refine⟨.slice Jp sz h.next 0 (m+n),_,[],?_,_,_,_,[],[],J,I,.ref (e:=⟨Jm h.next,0,0⟩) (by show(if _=_ then _ else _)=_;rw[if_pos rfl]) rfl rfl,(fun x u=>by cases u),dq.app M _ _,Q⟩;rw[u];simp only;rw[if_neg G,if_pos ⟨trivial,h1,by simpa [fK]using h2,E,hlen⟩];simp only[bB,q2];rw[<-q4,if_pos q3];simp
 ·rename_i id g sz off m hv;obtain⟨ver,cs,hm,⟨rfl,h0,a3,h1,h2,h3⟩,Q⟩:=R;rw[hv]at hs;have E:=sL L h3;obtain⟨e,p1,p2,p3⟩:=s.ij hm hs;rcases p3 with⟨u,rfl,rfl,a1,rfl⟩ | ⟨fl,b,B,u,hb,q2,q3,q4⟩
  ·by_cases G:n=0
   ·subst G;have:new=[]:=List.length_eq_zero_iff.1 (by simpa using e4);subst this;obtain⟨I,J⟩:=s.pw (h':=h) (e2:=⟨Jn,0,g+1⟩) (cs2:=aY [] 0 (0*sz)++[]) hm p1 p2 rfl (Ac _) (fun _ _ _=>rfl) (fun b hb=>by cases hb) (by simp[aY]);exact⟨.ag,h,[],by rw[u];simp,_,_,_,[],[id],J,I,.ma (e:=⟨Jn,0,g+1⟩) (by show(if _=_ then _ else _)=_;rw[if_pos rfl]) rfl rfl,(fun x u=>by cases u),dq.set M _ _,Q⟩
   ·obtain⟨I,J⟩:=s.pw (h':=h.alloc (.cells 0 Jo y)) (e2:=⟨Jm h.next,0,g+1⟩) (cs2:=aY [] 0 (0*sz)++new) hm p1 p2 rfl (by simp) (fun x u _=>by rw[H.ay,if_neg (by omega)]) (fun b hb=>by cases hb;exact⟨by simp,.inl (Ac _)⟩) ⟨_,H.ai _ _,by simpa [aY]using L⟩;rw[Az]at Q;refine⟨.slice Jp sz h.next 0 n,_,[],?_,_,_,_,[],[id],J,I,.ref (e:=⟨Jm h.next,0,g+1⟩) (by show(if _=_ then _ else _)=_;rw[if_pos rfl]) rfl rfl,(fun x u=>by cases u),dq.set M _ _,Q⟩;rw[u];simp only;rw[if_neg G,if_pos ⟨by simpa using h1,by simpa [fK]using h2,E,hlen⟩]
  ·have a1:=q4.next s;by_cases G:n=0
   ·subst G;have:new=[]:=List.length_eq_zero_iff.1 (by simpa using e4);subst this;have hw:off=0/\m*sz=cs.length:=by
     rcases a3 with h | h
     ·omega
     ·exact h
    obtain⟨rfl,hw⟩:=hw;have a0:aY cs 0 (m*sz)++[]=cs:=by simp[aY,hw]
    obtain⟨I,J⟩:=s.pw (h':=h) (e2:=⟨Jm b,e.v0+ver,g+1⟩) (cs2:=aY cs 0 (m*sz)++[]) hm p1 p2 rfl (Ac _) (fun _ _ _=>rfl) (fun b' U=>by cases U;exact⟨a1,.inr hb⟩) ⟨B,q2,by rw[a0];exact q3⟩;refine⟨.slice fl sz b 0 m,h,[],by rw[u];simp,_,_,_,[],[id],J,I,.ref (e:=⟨Jm b,e.v0+ver,g+1⟩) (by show(if _=_ then _ else _)=_;rw[if_pos rfl]) rfl rfl,(fun x u=>by cases u),dq.set M _ _,Q⟩
   ·have hold:=fJ q3 off (m*sz);have a4:bB h b off (m*sz)=Jm ((B.drop off).take (m*sz)):=by simp only[bB,q2];rw[if_pos (by rw[<-q3.len];exact h0)]
    have S:∀(hh:H),hh.next=h.next->(∀x,x≠b->hh.get x=h.get x)->(if fl=Jo then Jm (.slice Jp sz h.next 0 (m+n),h.alloc (.cells 0 Jo ((B.drop off).take (m*sz)++y)),[])else match kill h b with | some h'=>Jm (.slice Jp sz h.next 0 (m+n),h'.alloc (.cells 0 Jo ((B.drop off).take (m*sz)++y)),[]) | none=>Jn)=Jm (AV.slice Jp sz h.next 0 (m+n),hh.alloc (.cells 0 Jo ((B.drop off).take (m*sz)++y)),([]:List Nat))->
      bl w h M (Jm (AV.slice Jp sz h.next 0 (m+n),hh.alloc (.cells 0 Jo ((B.drop off).take (m*sz)++y)),([]:List Nat))) K:=by
     intro hh V a5 _;obtain⟨I,J⟩:=s.pw (h':=hh.alloc (.cells 0 Jo ((B.drop off).take (m*sz)++y))) (e2:=⟨Jm h.next,0,g+1⟩) (cs2:=aY cs off (m*sz)++new) hm p1 p2 rfl (by simp[V]) (fun x u a6=>by rw[H.ay,if_neg (by omega),a5 x (fun e=>a6 (by rw[hb,e]))]) (fun b' U=>by cases U;exact⟨by simp[V],.inl (Ac _)⟩) ⟨_,by rw[<-V];exact H.ai _ _,hold.append L⟩;exact⟨_,_,[],rfl,_,_,_,[],[id],J,I,.ref (e:=⟨Jm h.next,0,g+1⟩) (by show(if _=_ then _ else _)=_;rw[if_pos rfl]) rfl rfl,(fun x u=>by cases u),dq.set M _ _,Q⟩
    rw[u];simp only;rw[if_neg G,if_pos ⟨trivial,h1,by simpa [fK]using h2,E,hlen⟩];simp only[a4];by_cases O:fl=Jo
    ·rw[if_pos O];exact S h rfl (fun _ _=>rfl) (by rw[if_pos O])
    ·rw[if_neg O];have a2:kill h b=Jm (h.set b .dead):=by simp only[kill,q2]
     simp only[a2];exact S (h.set b .dead) rfl (fun x u=>H.bj u) (by rw[if_neg O];simp only[a2])
 ·exact R.elim
def D6{w:PWd}{cs new:List PV}{y u:List AV}(h:al w cs y)(B:al w new u){off:Nat}(E:off+new.length<=cs.length):al w (cs.take off++new++cs.drop (off+new.length)) (over y off u):=by rw[zT y off u (by rw[<-B.len,<-h.len];exact E),<-B.len];exact((h.take off).append B).append (h.drop _)
def aDX{w:PWd}{v:PV}{x:AV}(h:az w v x)(u:v.one=Jo):x.one=Jo:=by cases h<;>simp_all [PV.one,AV.one]
def wP{w:PWd}{cs:List PV}{u:List AV}(h:al w cs u)(B:cs.all PV.one=Jo):u.all AV.one=Jo:=by rw[Cf]at B ⊢;intro x I;obtain⟨i,E⟩:=List.getElem?_of_mem I;obtain⟨y,G⟩:∃y,cs[i]? =Jm y:=⟨_,Ad (by rw[h.len];exact(List.getElem?_eq_some_iff.1 E).1)⟩;exact aDX (h.get i y x G E) (B y (List.mem_of_getElem? G))
def qv.noStr(s:PSt w h M){size:Nat}{x:PV}{E:AV}(B:az w x E){k:List PV->Nat->Prop}(y:qv size x M k)(t:ByteArray):E≠ .str t:=by
 intro e;unfold qv at y;split at y
 ·rw[dB B]at e;cases e
 ·rcases nC s B with⟨u,_⟩ | ⟨_,_,_,_,_,_,u,_⟩<;>(rw[u]at e;cases e)
 ·obtain⟨ver,cs,hm,_⟩:=y;obtain⟨_,_,_,G⟩:=s.ij hm B;rcases G with⟨u,_⟩ | ⟨_,_,_,u,_⟩<;>(rw[u]at e;cases e)
 ·exact y.elim
def SK{a':List AV}{h:H}{size n:Nat}{x:AR}{new:List AV}(hs:gZ a' h size x=Jm (new,n))(y:∀t,ev a' x≠ .str t):
  (ev a' x= .ag/\n=0)\/∃B b o,ev a' x= .slice B size b o n/\∀k,k<=n->bB h b o (k*size)=Jm (new.take (k*size)):=by
 unfold gZ at hs;split at hs
 ·rename_i he;cases hs;exact .inl ⟨he,rfl⟩
 ·rename_i B sz b o m he;split at hs
  ·rename_i E;subst E;split at hs
   ·rename_i cs u;cases hs;refine .inr ⟨B,b,o,he,fun k G=>?_⟩;unfold bB at u ⊢;split at u
    ·rename_i ver rw all hg;have hm:=Dr sz G;split at u
     ·cases u;rw[if_pos (by omega),List.take_take,Dv hm]
     ·cases u
    ·cases u
   ·cases hs
  ·cases hs
 ·rename_i t he;exact absurd he (y t)
 ·cases hs
def I9(s:PSt w h M)(R:al w a a')(size:Nat)(d x:AR)(G:PS tab (.jf size d x) a M K):bl w h M (aop a' h (.jf size d x)) K:=by
 have u:=aQ R d;simp only[PS]at G;unfold aGg at G;split at G
 ·rename_i id g sz off m hv;rw[hv]at u;obtain⟨new,n,B,U,S,Z,e4⟩:=DO (a':=a') s (aQ R x) G x rfl;have J:∀t,ev a' x≠ .str t:=G.noStr s (aQ R x);obtain⟨ver,cs,hm,⟨rfl,h2,h3⟩,E⟩:=Z;obtain⟨e,q1,q2,q3⟩:=s.ij hm u;rcases q3 with⟨I,rfl,rfl,_,rfl⟩ | ⟨fl,b,a0,I,p2,p3,V,p5⟩
  ·rw[if_pos (Nat.min_zero n)]at E;refine bl.read s (v:=i64 0) (rd:=[]) (prd:=[]) ?_ (.int _ _) (fun x u=>by cases u) E;rcases SK U J with⟨k1,_⟩ | ⟨fl,b,o,k1,_⟩
   ·simp only[aop,I,k1]
   ·simp only[aop,I,k1]
  ·rcases SK U J with⟨k1,rfl⟩ | ⟨a1,b2,o2,k1,k2⟩
   ·rw[if_pos (Nat.zero_min m)]at E;refine bl.read s (v:=i64 0) (rd:=[]) (prd:=[]) ?_ (.int _ _) (fun x u=>by cases u) E;simp only[aop,I,k1]
   ·by_cases hz:min n m=0
    ·rw[if_pos hz]at E;refine bl.read s (v:=i64 0) (rd:=[]) (prd:=[]) ?_ (.int _ _) (fun x u=>by cases u) E;simp only[aop,I,k1,and_self,if_true,hz]
    ·rw[if_neg hz]at E;have a2:=Dr sz (Ge n m);have a3:=Dr sz (Nat.min_le_right n m);have hlt:(new.take (min n m*sz)).length=min n m*sz:=by rw[List.length_take];omega
     have O:=D6 V (S.take (min n m*sz)) (off:=off) (by rw[hlt];omega);rw[hlt]at O;obtain⟨s1,s2⟩:=s.setCells (ver2:=ver+1) hm q1 q2 p2 O;have Q:(B.take (min n m*sz)).all AV.one=Jo:=by
      have:=wP S h3;rw[Cf]at this ⊢;exact fun y hy=>this y (List.mem_of_mem_take hy)
     refine⟨.int .i64 ((min n m:Nat):Int),_,[],?_,w,.int .i64 ((min n m:Nat):Int),_,[],[id],s2,s1,.int _ _,(fun x u=>by cases u),dq.set M id _,E⟩;have T:(B.take (min n m*sz)).length=min n m*sz:=by rw[<-(S.take _).len];exact hlt
     simp only[aop,I,k1,and_self,if_true,hz,if_false,k2 _ (Ge n m),dV,p3];rw[if_pos (by have:=V.len;simp only[Au,decide_eq_true_eq];exact⟨by rw[T];omega,Q⟩)];rfl
 ·exact G.elim
def F2(s:PSt w h M)(S:al w a a')(z:List AV)(x:AR)(E:PS tab (.fq z x) a M K):bl w h M (aop a' h (.fq z x)) K:=by
 have u:=aQ S x;simp only[PS]at E;unfold aC4 at E;split at E
 ·rename_i id g sz off n hv;rw[hv]at u;obtain⟨ver,cs,hm,⟨h1,h2,h3⟩,B⟩:=E;rw[Ap]at h1;subst h1;obtain⟨e,T,U,V⟩:=s.ij hm u;rcases V with⟨J,rfl,rfl,_,rfl⟩ | ⟨fl,b,Y,J,Z,p3,Q,p5⟩
  ·rw[if_pos rfl]at B;exact bl.read s (v:= .tuple []) (rd:=[]) (prd:=[]) (by simp only[aop,J]) (.tuple rfl fun i y z q=>by simp at q) (fun x u=>by cases u) B
  ·by_cases hz:n=0
   ·rw[if_pos hz]at B;exact bl.read s (v:= .tuple []) (rd:=[]) (prd:=[]) (by simp only[aop,J,if_true,hz]) (.tuple rfl fun i y z q=>by simp at q) (fun x u=>by cases u) B
   ·rw[if_neg hz]at B;have hr:=jA (cZ w z) n;have hlt:(cK n (z.map bd)).length=n*z.length:=by rw[nF,Ap]
    have G:=D6 Q hr (off:=off) (by rw[hlt];exact h2);rw[hlt]at G;obtain⟨s1,s2⟩:=s.setCells (ver2:=ver+1) hm T U Z G;have I:=wP hr h3;refine⟨.tuple [],_,[],?_,w,.tuple [],_,[],[id],s2,s1,.tuple rfl (fun i y z q=>by simp at q),(fun x u=>by cases u),dq.set M id _,B⟩;have O:(gH n z).length=n*z.length:=by rw[<-hr.len];exact hlt
    simp only[aop,J,if_true,hz,if_false,dV,p3];rw[if_pos (by have:=Q.len;simp only[Au,decide_eq_true_eq];exact⟨by rw[O];omega,I⟩)];rfl
 ·exact E.elim
def y8(s:PSt w h M)(B:al w a a')(x i:AR)(E:PS tab (.dc x i) a M K):bl w h M (aop a' h (.dc x i)) K:=by
 have u:=aQ B x;have G:=aQ B i;simp only[PS]at E;obtain⟨str,I,kd,k,J,h0,c,L,O⟩:=E;rw[I]at u;rw[J]at G;have ex:ev a' x= .str str:=by generalize ev a' x=y at u;cases u;rfl
 exact bl.read s (v:= .int .u8 c.toNat) (rd:=[]) (prd:=[]) (by simp only[aop,ex,dC G,if_pos h0,L]) (.int _ _) (fun x u=>by cases u) O
end
section
variable {tab:Tb} {w:PWd} {h:H} {M:Mem} {a:List PV} {a':List AV} {K:PV->Mem->List Nat->List Nat->Prop}
def NL(s:PSt w h M)(B:al w a a')(c x y:AR)(E:PS tab (.pick c x y) a M K):bl w h M (aop a' h (.pick c x y)) K:=by
 simp only[PS]at E;obtain⟨b,hb,G⟩:=E;have u:=aQ B c;rw[hb]at u;have u:=jB u
 cases b with
 | true=>exact bl.pure s (v:=ev a' x) (by simp only[aop,u]) (aQ B x) G
 | false=>exact bl.pure s (v:=ev a' y) (by simp only[aop,u]) (aQ B y) G
def JA(s:PSt w h M)(G:al w a a')(z:List AV)(u:List (Nat×Nat×AR))(B:PS tab (.build z u) a M K):bl w h M (aop a' h (.build z u)) K:=by simp only[PS]at B;obtain⟨cs,I,J⟩:=B;obtain⟨y,L,E⟩:=mE G u (cZ w z) I;exact bl.pure s (v:= .agg y) (by simp only[aop,L]) (.agg E.len E.get) J
def yZ(s:PSt w h M)(L:al w a a')(x:AR)(B:PS tab (.nilCheck x) a M K):bl w h M (aop a' h (.nilCheck x)) K:=by
 have y:=aQ L x;simp only[PS]at B;unfold CE at B;split at B
 ·rename_i id g o hv;obtain⟨ver,cs,hm,E⟩:=B;rw[hv]at y;obtain⟨e,b,G,I,_⟩:=s.lj hm y;rw[<-hv]at y;exact bl.pure s (v:=ev a' x) (by simp only[aop,I]) y E
 ·obtain⟨h1,E⟩:=B;revert y h1;generalize hv:pev a x=v at*;generalize J:ev a' x=u;intro y h1
  cases v with
  | cp cs o=>obtain⟨b,off,ver,rw,G,I,_⟩:=zF s y;exact bl.pure s (v:=u) (by simp only[aop,J,I]) y E
  | func fn f c=>
   cases y with
   | func O Q R S T=>rename_i U V;refine bl.pure s (v:= .func fn U V) ?_ (.func O Q R S T) E;simp only[aop,J];cases fn<;>first | rfl | (simp[zJ]at h1)
  | iface t u=>
   cases y with
   | iface q=>rename_i Y;exact bl.pure s (v:= .iface t Y) (by simp only[aop,J]) (.iface q) E
  | _=>simp[zJ]at h1
def VB(s:PSt w h M)(u:al w a a')(op:BinOp)(x y:AR)(B:PS tab (.bin op x y) a M K):bl w h M (aop a' h (.bin op x y)) K:=by
 simp only[PS]at B;obtain⟨v,hv,E⟩:=B;unfold cD at hv;split at hv
 ·rename_i p q h1 h2;have G:=e9 (aQ u x) h1;have I:=e9 (aQ u y) h2
  cases hr:gI op p q with
  | none=>rw[hr]at hv;cases hv
  | some r=>rw[hr]at hv;cases hv;exact bl.pure s (v:=r) (by simp only[aop,G,I,hr]) (fA w r) E
 ·cases hv
def ZI(s:PSt w h M)(y:al w a a')(op:UnOp)(x:AR)(u:PS tab (.un op x) a M K):bl w h M (aop a' h (.un op x)) K:=by
 simp only[PS]at u;obtain⟨v,hv,B⟩:=u;unfold pun at hv;split at hv
 ·rename_i p h1;have E:=e9 (aQ y x) h1
  cases hr:aun op p with
  | none=>rw[hr]at hv;cases hv
  | some r=>rw[hr]at hv;cases hv;exact bl.pure s (v:=r) (by simp only[aop,E,hr]) (fA w r) B
 ·cases hv
def U6(s:PSt w h M)(y:al w a a')(x:AR)(u:List AR)(B:PS tab (.max x u) a M K):bl w h M (aop a' h (.max x u)) K:=by
 simp only[PS]at B;obtain⟨v,hv,E⟩:=B;unfold J3 at hv;split at hv
 ·rename_i p q h1 h2;have G:=e9 (aQ y x) h1;have I:=j9 (oF y u) h2
  cases hr:lF B6 p q with
  | none=>rw[hr]at hv;cases hv
  | some r=>rw[hr]at hv;cases hv;exact bl.pure s (v:=r) (by simp only[aop,G,I,hr]) (fA w r) E
 ·cases hv
def U5(s:PSt w h M)(y:al w a a')(x:AR)(u:List AR)(B:PS tab (.min x u) a M K):bl w h M (aop a' h (.min x u)) K:=by
 simp only[PS]at B;obtain⟨v,hv,E⟩:=B;unfold zK at hv;split at hv
 ·rename_i p q h1 h2;have G:=e9 (aQ y x) h1;have I:=j9 (oF y u) h2
  cases hr:lF B5 p q with
  | none=>rw[hr]at hv;cases hv
  | some r=>rw[hr]at hv;cases hv;exact bl.pure s (v:=r) (by simp only[aop,G,I,hr]) (fA w r) E
 ·cases hv
def U9(s:PSt w h M)(u:al w a a')(neg:Bool)(x y:AR)(B:PS tab (.eqB neg x y) a M K):bl w h M (aop a' h (.eqB neg x y)) K:=by simp only[PS]at B;obtain⟨p,h1,q,h2,I⟩:=B;have E:=aQ u x;have G:=aQ u y;rw[h1]at E;rw[h2]at G;exact bl.pure s (v:= .bool (if neg=Jo then !(p==q)else p==q)) (by simp only[aop,jB E,jB G]) (.bool _) I
def I6(s:PSt w h M)(O:al w a a')(kd:Nat)(neg:Bool)(x y:AR)(G:PS tab (.isNil kd neg x y) a M K):bl w h M (aop a' h (.isNil kd neg x y)) K:=by
 simp only[PS]at G;have E:=aQ O x;have B:=aQ O y;have fin:∀b,XO kd (ev a' x) (ev a' y)=Jm b->K (.bool (if neg=Jo then !b else b)) M [] []->bl w h M (aop a' h (.isNil kd neg x y)) K:=fun b hb I=>
  bl.pure s (v:= .bool (if neg=Jo then !b else b)) (by simp only[aop,hb]) (.bool _) I
 unfold MJ at G;split at G
 ·rename_i h1 h2;rw[h1]at E;rw[h2]at B;exact fin Jo (by rw[dB E,dB B];rfl) G
 ·rename_i R own sz n cs h1 h2;rw[h1]at E;rw[h2]at B;rcases nC s E with⟨J,rfl,_⟩ | ⟨_,_,_,_,_,_,J,_⟩
  ·rw[if_pos rfl]at G;exact fin Jo (by rw[J,dB B];rfl) G.1
  ·refine fin Jp (by rw[J,dB B];rfl) ?_;by_cases L:n=0
   ·rw[if_pos L]at G;exact G.2
   ·rw[if_neg L]at G;exact G
 ·rename_i id g sz off n h1 h2;obtain⟨ver,cs,hm,I⟩:=G;rw[h1]at E;rw[h2]at B;obtain⟨e,_,_,q⟩:=s.ij hm E;rcases q with⟨J,_,rfl,_⟩ | ⟨_,_,_,J,_⟩
  ·rw[if_pos rfl]at I;exact fin Jo (by rw[J,dB B];rfl) I.1
  ·refine fin Jp (by rw[J,dB B];rfl) ?_;by_cases L:n=0
   ·rw[if_pos L]at I;exact I.2
   ·rw[if_neg L]at I;exact I
 ·rename_i h1 h2;rw[h1]at E;rw[h2]at B;refine fin Jo ?_ G;revert E B;generalize ev a' x=u;generalize ev a' y=v;intro E B;cases E;cases B;rfl
 ·rename_i id g o h1 h2;obtain⟨ver,cs,hm,I⟩:=G;rw[h1]at E;rw[h2]at B;obtain⟨e,b,Q,J,_⟩:=s.lj hm E;refine fin Jp ?_ I;rw[J];revert B;generalize ev a' y=v;intro B;cases B;rfl
 ·rename_i h1 h2;rw[h1]at E;rw[h2]at B;refine fin Jo ?_ G;revert E B;generalize ev a' x=u;generalize ev a' y=v;intro E B;cases E;cases B;rfl
 ·rename_i fn f c h1 h2;rw[h1]at E;rw[h2]at B;refine fin Jp ?_ G;revert E B;generalize ev a' x=u;generalize ev a' y=v;intro E B;cases E;cases B;rfl
 ·rename_i h1 h2;rw[h1]at E;rw[h2]at B;refine fin Jo ?_ G;revert E B;generalize ev a' x=u;generalize ev a' y=v;intro E B;cases E;cases B;rfl
 ·rename_i h1 h2;rw[h1]at E;rw[h2]at B;refine fin Jp ?_ G;revert E B;generalize ev a' x=u;generalize ev a' y=v;intro E B;cases E;cases B;rfl
 ·exact G.elim
def CP(s:PSt w h M)(G:al w a a')(neg:Bool)(T:List (Option IntKind))(x y:AR)(I:PS tab (.dz neg T x y) a M K):bl w h M (aop a' h (.dz neg T x y)) K:=by
 simp only[PS]at I;obtain⟨p,h1,q,h2,b,hb,J⟩:=I;have B:=aQ G x;have E:=aQ G y;rw[h1]at B;rw[h2]at E;obtain⟨R,B,L⟩:=nD B;obtain⟨S,E,O⟩:=nD E;unfold oJ at hb;split at hb
 ·rename_i u v h3 Q;rw[j9 L h3]at B;rw[j9 O Q]at E;exact bl.pure s (v:= .bool (if neg=Jo then !b else b)) (by simp only[aop,B,E,hb]) (.bool _) J
 ·cases hb
def CQ(s:PSt w h M)(B:al w a a')(k:IntKind)(x:AR)(u:PS tab (.da k x) a M K):bl w h M (aop a' h (.da k x)) K:=by simp only[PS]at u;obtain⟨G,n,h1,E⟩:=u;have y:=aQ B x;rw[h1]at y;exact bl.pure s (v:= .int k (k.wrap n)) (by simp only[aop,dC y]) (.int _ _) E
def FY(s:PSt w h M)(u:al w a a')(fn:Go.Fn)(f c:List AR)(y:PS tab (.gi fn f c) a M K):bl w h M (aop a' h (.gi fn f c)) K:=by simp only[PS]at y;obtain⟨⟨g,rfl⟩,G⟩:=y;have B:=oF u f;have E:=oF u c;exact bl.pure s (v:= .func (.func g) (f.map (ev a')) (c.map (ev a'))) (by simp only[aop]) (.func (fun l e=>by cases e) B.len E.len B.get E.get) G
def iV(E:al w a a'){x:Option AR}{k:Option Int->Prop}(u:C3 a x k):∃o,bnd a' x=Jm o/\k o:=by
 unfold C3 at u;split at u
 ·exact⟨Jn,rfl,u⟩
 ·rename_i y;obtain⟨kd,n,h1,G⟩:=u;have B:=aQ E y;rw[h1]at B;exact⟨Jm n,by simp only[bnd,dC B],G⟩
def SY{m r:Option Int}(h:m=Jn\/m=r):(m.isSome&&r.isNone)=Jp:=by
 rcases h with h | h<;>subst h
 ·rfl
 ·cases m<;>rfl
def SZ{m r:Option Int}(h:m=Jn\/m=r)(n:Int):m.getD (r.getD n)=r.getD n:=by
 rcases h with h | h<;>subst h
 ·rfl
 ·cases m<;>rfl
def I5(s:PSt w h M)(O:al w a a')(size:Nat)(x:AR)(Q J R:Option AR)(B:PS tab (.slice size x Q J R) a M K):bl w h M (aop a' h (.slice size x Q J R)) K:=by
 simp only[PS]at B;obtain⟨l,b1,B⟩:=iV O B;obtain⟨r,b2,B⟩:=iV O B;obtain⟨m,b3,B⟩:=iV O B;have I:=aQ O x;have fin:∀v p,fG size (ev a' x) l r m=Jm v->az w p v->K p M [] []->bl w h M (aop a' h (.slice size x Q J R)) K:=fun v p hv hr E=>
  bl.pure s (v:=v) (by simp only[aop,b1,b2,b3,hv]) hr E
 unfold Q6 at B;split at B
 ·rename_i hv;obtain⟨⟨h1,h2,u⟩,E⟩:=B;rw[hv]at I;refine fin .ag .ah ?_ .ah E;rw[dB I];rcases u with h | h<;>subst h
  ·simp[fG,h1,h2]
  ·cases m<;>simp_all [fG]
 ·rename_i Z own sz n cs hv;obtain⟨⟨rfl,u,h1,h2,h3⟩,E⟩:=B;rw[hv]at I;rcases nC s I with⟨G,rfl,rfl⟩ | ⟨S,b,off,ver,rw,T,G,U,q1,q2,q3,q4,q5,q6⟩
  ·refine fin .ag _ ?_ ?_ E
   ·rw[G];have hl:l.getD 0=0:=by cases l<;>cases r<;>simp at h1 h2 h3 ⊢ <;>omega
    have hr:r.getD 0=0:=by cases l<;>cases r<;>simp at h1 h2 h3 ⊢ <;>omega
    rcases u with h | h<;>subst h
    ·simp[fG,hl,hr]
    ·cases m<;>simp_all [fG]
   ·have:(r.getD ((0:Nat):Int)-l.getD 0).toNat=0:=by cases l<;>cases r<;>simp at h1 h2 h3 ⊢ <;>omega
    rw[this];simpa [aY]using az.slN
  ·have V:(l.getD 0).toNat*sz+(r.getD (n:Int)-l.getD 0).toNat*sz<=cs.length:=by rw[q4,<-Nat.add_mul];exact Dr _ (by omega)
   have hlen:(aY cs ((l.getD 0).toNat*sz) ((r.getD (n:Int)-l.getD 0).toNat*sz)).length=(r.getD (n:Int)-l.getD 0).toNat*sz:=by simp[aY];omega
   refine fin (.slice (if m.isSome then m.getD (r.getD n)==r.getD n else S&&r.getD (n:Int)==(n:Int)) sz b (off+(l.getD 0).toNat*sz) (r.getD (n:Int)-l.getD 0).toNat) _ ?_ ?_ E
   ·rw[G];unfold fG;have k1:=SY u;have k2:=SZ u (n:Int);rw[if_neg (by simp[k1])];dsimp only;rw[if_pos ⟨rfl,h1,h2,by omega,by omega⟩]
   ·have B:=zP q5 V;refine .sl q1 (by rw[hlen];omega) hlen ?_ q6.1 ?_ fun i y z hy hz=>?_
    ·intro hf L;rw[if_pos L]at hf
     cases r with
     | none=>
      have:m=Jn:=by rcases u with h | h<;>exact h
      subst this;simp at hf ⊢;exact U hf L
     | some r=>simp at hf
    ·intro L hf;rw[if_neg (by simp[L])]at hf;exact q6.2 L hf
    ·have J:=aI hy;refine B.get i y z hy ?_;rw[Bc,if_pos (by rw[<-hlen];exact J),Bg];exact hz
 ·rename_i id g sz off n hv;obtain⟨ver,cs,hm,⟨rfl,u,h1,h2,h3⟩,E⟩:=B;rw[hv]at I;obtain⟨e,p1,p2,p3⟩:=s.ij hm I;rcases p3 with⟨G,rfl,rfl,hb,_⟩ | ⟨Z,b,T,G,hb,_⟩
  ·have hl:l.getD 0=0:=by cases l<;>cases r<;>simp at h1 h2 h3 ⊢ <;>omega
   have hr:r.getD 0=0:=by cases l<;>cases r<;>simp at h1 h2 h3 ⊢ <;>omega
   have Y:r.getD ((0:Nat):Int)=0:=by simpa using hr
   refine fin .ag _ ?_ ?_ E
   ·rw[G];rcases u with h | h<;>subst h
    ·simp[fG,hl,hr]
    ·cases m<;>simp_all [fG]
   ·simp only[hl,Y];simpa using az.ma p1 p2 hb
  ·refine fin (.slice (if m.isSome then m.getD (r.getD n)==r.getD n else Z&&r.getD (n:Int)==(n:Int)) sz b (off+(l.getD 0).toNat*sz) (r.getD (n:Int)-l.getD 0).toNat) _ ?_ (.ref p1 p2 hb) E;rw[G];unfold fG;have k1:=SY u;have k2:=SZ u (n:Int);rw[if_neg (by simp[k1])];dsimp only;rw[if_pos ⟨rfl,h1,h2,by omega,by omega⟩]
 ·exact B.elim
def wW(s:PSt w h M)(I:al w a a')(off:Nat)(x:AR)(y:PS tab (.fieldAddr off x) a M K):bl w h M (aop a' h (.fieldAddr off x)) K:=by
 have B:=aQ I x;simp only[PS]at y;unfold aHV at y;split at y
 ·rename_i id g o hv;obtain⟨ver,cs,hm,J⟩:=y;rw[hv]at B;obtain⟨e,b,G,L,O,Q,R,_⟩:=s.lj hm B;exact bl.pure s (v:= .ptr b (o+off)) (by simp only[aop,L]) (.ptr O Q R) J
 ·rename_i cs o hv;rw[hv]at B;revert B;generalize S:ev a' x=u;intro B
  cases B with
  | cp h1 h2 T=>rename_i b ver rw G E;exact bl.pure s (v:= .ptr b (E+(o+off))) (by simp only[aop,S,Cs]) (.cp h1 h2 T) y
 ·exact y.elim
def I8(s:PSt w h M)(L:al w a a')(off:Nat)(n:Option Nat)(x:AR)(y:PS tab (.field off n x) a M K):bl w h M (aop a' h (.field off n x)) K:=by
 have B:=aQ L x
 cases n with
 | none=>simp only[PS]at y;obtain⟨cs,h1,v,h2,I⟩:=y;rw[h1]at B;obtain⟨u,J,E⟩:=nD B;obtain⟨z,G,O⟩:=E.je h2;exact bl.pure s (v:=z) (by simp only[aop,J,G]) O I
 | some n=>simp only[PS]at y;obtain⟨cs,h1,h2,I⟩:=y;rw[h1]at B;obtain⟨u,J,E⟩:=nD B;have G:=fJ E off n;exact bl.pure s (v:= .agg ((u.drop off).take n)) (by simp only[aop,J];rw[if_pos (by rw[<-E.len];exact h2)]) (.agg G.len G.get) I
def wV(s:PSt w h M)(O:al w a a')(size:Nat)(x i:AR)(B:PS tab (.indexAddr size x i) a M K):bl w h M (aop a' h (.indexAddr size x i)) K:=by
 have y:=aQ O x;have E:=aQ O i;simp only[PS]at B;unfold aHU at B;split at B
 ·rename_i R own sz n cs hv;obtain⟨kd,j,h1,⟨rfl,h2,h3⟩,G⟩:=B;rw[h1]at E;rw[hv]at y;have I:=dC E;revert y;generalize S:ev a' x=u;intro y
  cases y with
  | slN=>omega
  | sl J L Q V Y Z T=>exact bl.pure s (by simp only[aop,S,I];rw[if_pos ⟨trivial,h2,h3⟩]) (.cp J L T) G
 ·rename_i id g sz off n hv;obtain⟨ver,cs,hm,kd,j,h1,⟨rfl,h2,h3⟩,G⟩:=B;rw[h1]at E;rw[hv]at y;have I:=dC E;obtain⟨e,J,L,Q⟩:=s.ij hm y;rcases Q with⟨_,_,rfl,_⟩ | ⟨R,b,U,y,hb,_⟩
  ·omega
  ·exact bl.pure s (v:= .ptr b (off+j.toNat*sz)) (by simp only[aop,y,I];rw[if_pos ⟨trivial,h2,h3⟩]) (.ptr J L hb) G
 ·exact B.elim
def tW(s:PSt w h M)(O:al w a a')(len size:Nat)(x i:AR)(y:PS tab (.be len size x i) a M K):bl w h M (aop a' h (.be len size x i)) K:=by
 have B:=aQ O x;have G:=aQ O i;simp only[PS]at y;unfold aC3 at y;split at y
 ·rename_i id g o hv;obtain⟨ver,cs,hm,kd,j,h1,⟨h2,h3⟩,I⟩:=y;rw[h1]at G;rw[hv]at B;have J:=dC G;obtain⟨e,b,L,Q,R,S,T,_⟩:=s.lj hm B;exact bl.pure s (v:= .ptr b (o+j.toNat*size)) (by simp only[aop,Q,J];rw[if_pos ⟨h2,h3⟩]) (.ptr R S T) I
 ·rename_i cs o hv;obtain⟨kd,j,h1,⟨h2,h3⟩,I⟩:=y;rw[h1]at G;rw[hv]at B;have J:=dC G;revert B;generalize U:ev a' x=u;intro B
  cases B with
  | cp V Y Z=>rename_i b ver rw L E;exact bl.pure s (v:= .ptr b (E+(o+j.toNat*size))) (by simp only[aop,U,J];rw[if_pos ⟨h2,h3⟩,Cs]) (.cp V Y Z) I
 ·exact y.elim
def I7(s:PSt w h M)(G:al w a a')(len size:Nat)(isAgg:Bool)(x i:AR)(I:PS tab (.index len size isAgg x i) a M K):bl w h M (aop a' h (.index len size isAgg x i)) K:=by
 have J:=aQ G x;have L:=aQ G i;simp only[PS]at I;obtain⟨cs,h1,kd,j,h2,h3,u⟩:=I;rw[h1]at J;rw[h2]at L;have O:=dC L;obtain⟨B,Q,E⟩:=nD J
 cases isAgg with
 | true=>simp only[if_true]at u;have y:=fJ E (j.toNat*size) size;refine bl.pure s (v:= .agg ((B.drop (j.toNat*size)).take size)) ?_ (.agg y.len y.get) u.2;simp only[aop,Q,O];rw[if_pos h3];simp only[if_true];rw[if_pos (by rw[<-E.len];exact u.1)]
 | false=>simp only[Bf,if_false]at u;obtain⟨v,R,u⟩:=u;obtain⟨z,y,S⟩:=E.je R;refine bl.pure s (v:=z) ?_ S u;simp only[aop,Q,O];rw[if_pos h3];simp only[Bf,if_false,y]
def CO(s:PSt w h M)(B:al w a a')(x:AR)(i:Nat)(u:PS tab (.extract x i) a M K):bl w h M (aop a' h (.extract x i)) K:=by have y:=aQ B x;simp only[PS]at u;obtain⟨cs,h1,v,h2,E⟩:=u;rw[h1]at y;obtain⟨G,I,J⟩:=pI y;obtain⟨z,L,O⟩:=J.je h2;exact bl.pure s (v:=z) (by simp only[aop,I,L]) O E
def U7(s:PSt w h M)(G:al w a a')(x:AR)(u:PS tab (.len x) a M K):bl w h M (aop a' h (.len x)) K:=by
 have B:=aQ G x;simp only[PS]at u;unfold aHS at u;split at u
 ·rename_i hv;rw[hv]at B;exact bl.pure s (v:=i64 0) (by simp only[aop,dB B]) (.int _ _) u
 ·rename_i J own sz n cs hv;rw[hv]at B;rcases nC s B with⟨y,rfl,rfl⟩ | ⟨_,_,_,_,_,_,y,_⟩
  ·exact bl.pure s (v:=i64 0) (by simp only[aop,y]) (.int _ _) u
  ·exact bl.pure s (v:=i64 n) (by simp only[aop,y]) (.int _ _) u
 ·rename_i id g sz off n hv;obtain⟨ver,cs,hm,E⟩:=u;rw[hv]at B;obtain⟨e,L,O,I⟩:=s.ij hm B;rcases I with⟨y,_,rfl,_⟩ | ⟨_,_,_,y,_⟩
  ·exact bl.pure s (v:=i64 0) (by simp only[aop,y]) (.int _ _) E
  ·exact bl.pure s (v:=i64 n) (by simp only[aop,y]) (.int _ _) E
 ·exact u.elim
def rE:∀(i:Nat) (M u:Mem),M.length<=u.length->∀id,id<M.length->i+id∉bT i M u->SR M u id
 | i,[],_,_,id,h,_=>by simp at h
 | i,o::M,[],hl,id,h,_=>by simp at hl
 | i,o::M,E::u,hl,id,h,y=>by
  unfold bT at y;by_cases hs:lZ o E=Jo
  ·rw[if_pos hs]at y
   cases id with
   | zero=>exact⟨o,E,rfl,rfl,hs⟩
   | succ id=>obtain⟨p,B,h1,h2,h3⟩:=rE (i+1) M u (by simpa using hl) id (by simpa using h) (by rwa [show i+1+id=i+(id+1) by omega]);exact⟨p,B,by simpa using h1,by simpa using h2,h3⟩
  ·rw[if_neg hs]at y
   cases id with
   | zero=>exact absurd (by simp) y
   | succ id=>obtain⟨p,B,h1,h2,h3⟩:=rE (i+1) M u (by simpa using hl) id (by simpa using h) (fun G=>y (by rw[show i+(id+1)=i+1+id by omega];exact List.mem_cons_of_mem _ G));exact⟨p,B,by simpa using h1,by simpa using h2,h3⟩
def iD{w:PWd}{v:PV}{l:List PV}{u:List AV}(h:al w (v::l) u):∃x r,u=x::r/\az w v x/\al w l r:=by
 cases u with
 | nil=>have:=h.len;simp at this
 | cons x r=>exact⟨x,r,rfl,h.get 0 _ _ rfl rfl,⟨by have:=h.len;simpa using this,fun i y z h1 h2=>h.get (i+1) y z (by simpa using h1) (by simpa using h2)⟩⟩
def zL{w:PWd}{t:TypeId}{g:FuncId} :∀{B:List PV} {u:List AV},al w B u->dT B t=Jm g->jF u t=Jm g
 | .int _ a:: .int _ b::r,u,h,hg=>by
  obtain⟨G,I,rfl,h1,h2⟩:=iD h;obtain⟨J,L,rfl,h3,E⟩:=iD h2;cases h1;cases h3;unfold dT at hg;unfold jF;split at hg
  ·rename_i e;rw[if_pos e];exact hg
  ·rename_i e;rw[if_neg e];exact zL E hg
 | [],_,_,hg=>by simp[dT]at hg
 | [_],_,_,hg=>by simp[dT]at hg
 | x::y::r,u,h,hg=>by
  unfold dT at hg;split at hg
  ·rename_i e;cases e;obtain⟨G,I,rfl,h1,h2⟩:=iD h;obtain⟨J,L,rfl,h3,E⟩:=iD h2;cases h1;cases h3;unfold jF;split at hg
   ·rename_i e;rw[if_pos e];exact hg
   ·rename_i e;rw[if_neg e];exact zL E hg
  ·cases hg
def tV(s:PSt w h M)(L:al w a a')(x:AR)(B:PS tab (.cu x) a M K):bl w h M (aop a' h (.cu x)) K:=by
 simp only[PS]at B;have G:=aQ L x;unfold aFC at B;split at B
 ·rename_i t h1;obtain⟨I,O⟩:=B;rw[h1]at G;have Q:ev a' x= .str t:=by revert G;generalize ev a' x=u;intro G;cases G;rfl
  obtain⟨R,S,T⟩:=s.mf (.cells 0 Jp (t.data.toList.map fun b=> .int .u8 b.toNat));refine⟨.slice Jp 1 h.next 0 t.size,_,[],by simp only[aop,Q];rw[if_pos I],_,.sl Jo Jp 1 t.size (t.data.toList.map fun b=> .int .u8 b.toNat),M,[],[],S,R,?_,(fun x U=>by cases U),dq.refl M _,O⟩;refine .sl T (by simp) (by simp) (fun _ q=>by cases q) (fun q=>by cases q) (fun _ q=>by cases q) fun i y z E J=>?_;rw[Az,Av]at J;rw[Av]at E
  cases hb:t.data.toList[i]? with
  | none=>rw[hb]at E;cases E
  | some b=>rw[hb]at E J;cases E;cases J;exact .int _ _
 ·exact B.elim
def NO(s:PSt w h M)(I:al w a a')(t:TypeId)(z:AV)(x:AR)(E:PS tab (.pq t z x) a M K):bl w h M (aop a' h (.pq t z x)) K:=by
 simp only[PS]at E;have B:=aQ I x;unfold aHT at E;split at E
 ·rename_i h1;rw[h1]at B;refine bl.pure s (v:= .tuple [z,.bool Jp]) ?_ ?_ E
  ·revert B;simp only[aop];generalize ev a' x=u;intro B;cases B;rfl
  ·exact .tuple rfl (al.cons (fA w z) (.cons (.bool Jp) (.nil w))).get
 ·rename_i G v h1;rw[h1]at B;revert B;generalize J:ev a' x=u;intro B
  cases B with
  | iface L=>
   rename_i y;refine bl.pure s (v:=if G=t then .tuple [y,.bool Jo]else .tuple [z,.bool Jp]) (by simp only[aop,J]) ?_ E;by_cases e:G=t
   ·rw[if_pos e,if_pos e];exact .tuple rfl (al.cons L (.cons (.bool Jo) (.nil w))).get
   ·rw[if_neg e,if_neg e];exact .tuple rfl (al.cons (fA w z) (.cons (.bool Jp) (.nil w))).get
 ·exact E.elim
def NN(h0:w.id0<=M.length)(s:PSt w h M)(ha:al w a a')(f:AR)(args:List AR)(B:PS tab (.call f args) a M K):bl w h M (fY (lim tab) (.call f args) a' h) K:=by
 have hf:=aQ ha f;have y:=oF ha args;simp only[PS]at B;have fin:∀(v:AV) (E:H),dP (lim tab) (ev a' f) (args.map (ev a')) h=Jm (v,E)->(∃w' r G,dr M.length w h M w' E G/\PSt w' E G/\az w' r v/\KPC M K r G)->bl w h M (fY (lim tab) (.call f args) a' h) K:=by intro v E he ⟨w',r,G,J,p2,U,p4⟩;exact⟨v,E,[],by simp only[fY,he],w',r,G,[],T1 M G,J,p2,U,(fun x hx=>by cases hx),fun id hi hn=>rE 0 M G J.len id hi (by rwa [Az]),p4⟩
 unfold CG at B;split at B
 ·rename_i g first Z hv
  rw[hv]at hf;revert hf;generalize O:ev a' f=u;intro hf
  cases hf with
  | func I Q R S V=>rename_i L c';have:=B w h (L++args.map (ev a')++c') h0 s (((⟨Q,S⟩:al w first L).append y).append ⟨R,V⟩);unfold C at this;obtain⟨v,E,he,T⟩:=this;exact fin v E (by rw[O];exact he) T
 ·rename_i tn nm a4 Z hv;rw[hv]at hf;revert hf;generalize O:ev a' f=u;intro hf
  cases hf with
  | func I Q R S V=>
   rename_i L c';unfold aGf at B;split at B
   ·rename_i t v rest hr;rw[hr]at y;obtain⟨g,hg,B⟩:=B;obtain⟨x0,l0,a0,a1,a2⟩:=iD y;obtain⟨Y,rfl,a3⟩:∃Y,x0= .iface t Y/\az w v Y:=by cases a1;exact⟨_,rfl,by assumption⟩
    have hm:=zL ⟨Q,S⟩ hg;have:=B w h (Y::l0) h0 s (.cons a3 a2);unfold C at this;obtain⟨v',E,he,T⟩:=this;refine fin v' E ?_ T;rw[O,a0];simp only[dP,kT,hm];exact he
   ·exact B.elim
 ·rename_i id first hv
  rw[hv]at hf;revert hf;generalize O:ev a' f=u;intro hf;obtain⟨⟨ver,lr,hm⟩,B⟩:=B;obtain⟨e0,b0,J,p2,U,_⟩:=s.obj _ _ hm
  cases hf with
  | yld I Q R S V=>rename_i e b L;rw[J]at I;cases I;rw[U]at R;cases R;have:=B w h _ (L++args.map (ev a')) h0 s ⟨_,_,hm,by simp,J,U⟩ ((⟨S,V⟩:al w first L).append y);unfold UJ at this;obtain⟨v,E,he,T⟩:=this;refine fin v E ?_ T;rw[O];simp only[dP,List.nil_append]at he ⊢;exact he
  | nv x q0 I Q=>rw[J]at I;cases I;omega
 ·exact B.elim
end
def nh.nil(w:PWd):nh w [] []:=⟨rfl,fun i y z h=>by simp at h⟩
def nh.cons{w:PWd}{p:PV×PV}{q:AV×AV}{l:List (PV×PV)}{l':List (AV×AV)}(h1:az w p.1 q.1)(h2:az w p.2 q.2)(hl:nh w l l'):nh w (p::l) (q::l'):=
 ⟨by simp[hl.len],fun i y z a b=>by
  cases i with
  | zero=>simp at a b;subst a;subst b;exact⟨h1,h2⟩
  | succ i=>exact hl.get i y z (by simpa using a) (by simpa using b)⟩
def nh.split{w:PWd}{p:PV×PV}{l:List (PV×PV)}{l':List (AV×AV)}(h:nh w (p::l) l'):∃q u,l'=q::u/\az w p.1 q.1/\az w p.2 q.2/\nh w l u:=by
 cases l' with
 | nil=>exact absurd h.len (by simp)
 | cons q u=>obtain⟨a,b⟩:=h.get 0 p q rfl rfl;exact⟨q,u,rfl,a,b,⟨by simpa using h.len,fun i y z c d=>h.get (i+1) y z (by simpa using c) (by simpa using d)⟩⟩
def oQ{w:PWd}{kd:Nat}{k:AV} :∀{y:List (PV×PV)} {u:List (AV×AV)} {r:Option PV},nh w y u->cU kd k y=Jm r->∃B,iZ kd k u=Jm B/\((r=Jn/\B=Jn)\/∃v x,r=Jm v/\B=Jm x/\az w v x)
 | [],u,r,h,hr=>by have:u=[]:=List.length_eq_zero_iff.1 (by simpa using h.len.symm);subst this;simp only[cU]at hr;cases hr;exact⟨Jn,rfl,.inl ⟨rfl,rfl⟩⟩
 | (k1,J)::y,u,r,h,hr=>by
  obtain⟨⟨k2,G⟩,K,rfl,a,b,c⟩:=h.split;simp only[cU]at hr
  cases E:cB k1 with
  | none=>rw[E]at hr;cases hr
  | some L=>
   rw[E]at hr;have e:=e9 a E;simp only at e;subst e;simp only at hr;simp only[iZ]
   cases I:wF kd k k2 with
   | none=>rw[I]at hr;cases hr
   | some t=>
    rw[I]at hr
    cases t with
    | true=>cases hr;exact⟨Jm G,rfl,.inr ⟨J,G,rfl,rfl,b⟩⟩
    | false=>exact oQ c hr
def AD{w:PWd}{kd:Nat}{k:AV}{key v:PV}{x:AV}(u:az w key k)(hv:az w v x):∀{B:List (PV×PV)} {y:List (AV×AV)} {r:Option PV},nh w B y->cU kd k B=Jm r->nh w (f7 kd key k v B) (fW kd k x y)
 | [],y,r,h,_=>by have:y=[]:=List.length_eq_zero_iff.1 (by simpa using h.len.symm);subst this;exact .cons u hv (.nil w)
 | (k1,I)::B,y,r,h,hr=>by
  obtain⟨⟨k2,J⟩,K,rfl,a,b,c⟩:=h.split;simp only[cU]at hr
  cases E:cB k1 with
  | none=>rw[E]at hr;cases hr
  | some L=>
   rw[E]at hr;have e:=e9 a E;simp only at e;subst e;simp only at hr;simp only[fW,f7,E]
   cases G:wF kd k k2 with
   | none=>rw[G]at hr;cases hr
   | some t=>
    rw[G]at hr
    cases t with
    | true=>exact .cons u hv c
    | false=>exact .cons a b (AD u hv c hr)
section
variable {tab:Tb} {w:PWd} {h:H} {M:Mem} {a:List PV} {a':List AV} {K:PV->Mem->List Nat->List Nat->Prop}
def PSt.qo(s:PSt w h M){id ver:Nat}{B:List (PV×PV)}(hm:M[id]? =Jm (.map ver B)){x:AV}(G:az w (.map id) x):
  ∃e b u,x= .map b/\w.env id=Jm e/\e.g=0/\e.blk=Jm b/\h.get b=Jm (.map (e.v0+ver) u)/\nh w B u/\af w M id b:=by
 obtain⟨e,b,h1,h2,h3,u,I,J⟩:=s.obj _ _ hm
 cases G with
 | map y L E=>rw[h1]at y;cases y;rw[h3]at E;cases E;exact⟨e,b,u,rfl,h1,h2,h3,I,J,⟨_,e,hm,by simp,h1,h3⟩⟩
 | oa x O y L=>rw[h1]at y;cases y;omega
def PSt.re(s:PSt w h M){id ver b:Nat}{Z I:List (PV×PV)}{u:List (AV×AV)}{e:Ent}(hm:M[id]? =Jm (.map ver Z))(he:w.env id=Jm e)(hg:e.g=0)(hb:e.blk=Jm b)(hr:nh w I u){ver2:Nat} :
  PSt w (h.set b (.map (e.v0+ver2) u)) (M.set id (.map ver2 I))/\dr M.length w h M w (h.set b (.map (e.v0+ver2) u)) (M.set id (.map ver2 I)):=by
 have y:af w M id b:=⟨_,e,hm,by simp,he,hb⟩;have T:=y.next s;have hid:=y.lt;have live:∀i x,af w (M.set id (.map ver2 I)) i x->af w M i x:=by
  rintro i x ⟨S,R,h1,h2,h3,V⟩;by_cases J:id=i
  ·subst J;exact⟨_,R,hm,by simp,h3,V⟩
  ·rw[Bo J]at h1;exact⟨S,R,h1,h2,h3,V⟩
 have B:∀x,x≠b->(h.set b (.map (e.v0+ver2) u)).get x=h.get x:=fun x L=>H.bj L;have O:(h.set b (.map (e.v0+ver2) u)).get b=Jm (.map (e.v0+ver2) u):=by rw[H.ie,if_pos ⟨rfl,T⟩]
 refine⟨⟨?_,?_,s.blk,?_,fun i j x h1 h2=>s.inj i j x (live i x h1) (live j x h2),fun i x h1=>s.sep i x (live i x h1),s.base⟩,⟨by simp,Le.refl _ _,Ac _,?_,fun i x h1 _=>live i x h1,fun x L=> .inl L⟩⟩
 ·intro x o L;have:x≠b:=by rintro rfl;rw[(s.sep id x y).1]at L;cases L
  rw[B x this];exact s.imm x o L
 ·intro i R Q;have:=s.env i R Q;simpa using this
 ·intro i S J;by_cases E:id=i
  ·subst E;rw[Cj hid]at J;cases J;exact⟨e,b,he,hg,hb,u,O,hr⟩
  ·rw[Bo E]at J;by_cases G:S= .gone
   ·subst G;trivial
   ·refine lg.mono s (Le.refl _ _) (s.obj i S J) (fun _ h=>h) fun R Y Q U=>B Y ?_;rintro rfl;exact E (s.inj id i Y y ⟨S,R,J,G,Q,U⟩)
 ·intro x L hn;refine B x ?_;rintro rfl;exact hn id y
def CM(s:PSt w h M)(G:al w a a')(u:PS tab .makeMap a M K):bl w h M (aop a' h .makeMap) K:=by simp only[PS]at u;obtain⟨y,B⟩:=s.alloc (o:= .map 0 []) (o':= .map 0 []) (e:=⟨Jm h.next,0,0⟩) rfl fun w' hl he=>⟨_,_,he,rfl,rfl,[],H.ai _ _,.nil w'⟩;exact⟨.map h.next,_,[],rfl,_,_,_,[],[],B,y,.map (e:=⟨Jm h.next,0,0⟩) (by show(if _=_ then _ else _)=_;rw[if_pos rfl]) rfl rfl,(fun x E=>by cases E),dq.app M _ _,u⟩
def FZ(s:PSt w h M)(O:al w a a')(kd:Nat)(B:Bool)(z:AV)(x i:AR)(E:PS tab (.lookup kd B z x i) a M K):bl w h M (aop a' h (.lookup kd B z x i)) K:=by
 simp only[PS]at E;have G:=aQ O x;have Z:=aQ O i;unfold aC0 at E;split at E
 ·rename_i id k hv hk;obtain⟨ver,es,hm,r,hr,Q⟩:=E;rw[hv]at G;obtain⟨e,b,a0,R,e2,e3,e4,S,e6,T⟩:=s.qo hm G;have U:=e9 Z hk;obtain⟨r',V,f2⟩:=oQ e6 hr;have I:aFA w h M [b] [id]:=fun x G=>by simp only[Bp]at G;subst G;exact⟨T.next s,.inr ⟨id,by simp,T⟩⟩
  rcases f2 with⟨rfl,rfl⟩ | ⟨v,y,rfl,rfl,Y⟩
  ·refine bl.read s (v:=if B then .tuple [z,.bool Jp]else z) (rd:=[b]) (prd:=[id]) ?_ ?_ I Q
   ·simp only[aop,R,S,U,V]
   ·unfold vU
    cases B with
    | true=>
     refine .tuple rfl fun i y z u J=>?_
     match i with
     | 0=>cases u;cases J;exact fA _ _
     | 1=>cases u;cases J;exact .bool _
     | i+2=>simp at u
    | false=>exact fA _ _
  ·refine bl.read s (v:=if B then .tuple [y,.bool Jo]else y) (rd:=[b]) (prd:=[id]) ?_ ?_ I Q
   ·simp only[aop,R,S,U,V]
   ·unfold vU
    cases B with
    | true=>
     refine .tuple rfl fun i y z u J=>?_
     match i with
     | 0=>cases u;cases J;exact Y
     | 1=>cases u;cases J;exact .bool _
     | i+2=>simp at u
    | false=>exact Y
 ·exact E.elim
def wT(s:PSt w h M)(E:al w a a')(kd:Nat)(m i v:AR)(u:PS tab (.mapUpdate kd m i v) a M K):bl w h M (aop a' h (.mapUpdate kd m i v)) K:=by
 simp only[PS]at u;have B:=aQ E m;have G:=aQ E i;have I:=aQ E v;unfold aCZ at u;split at u
 ·rename_i id k hv Q;obtain⟨ver,es,hm,r,hr,_,R⟩:=u;rw[hv]at B;obtain⟨e,b,S,T,U,V,Y,Z,J,e7⟩:=s.qo hm B;have L:=e9 G Q;obtain⟨r',f1,f2⟩:=oQ J hr;rw[L]at G;have f3:=AD G I J hr;obtain⟨s1,s2⟩:=s.re (ver2:=ver+1) hm U V Y f3;refine⟨.tuple [],_,[],?_,w,.tuple [],_,[],[id],s2,s1,.tuple rfl (fun i y z q=>by simp at q),(fun x B=>by cases B),dq.set M id _,R⟩;simp only[aop,T,Z,L,f1];rfl
 ·exact u.elim
end
section
variable {tab:Tb} {w:PWd} {h:H} {M:Mem} {a:List PV} {a':List AV} {K:PV->Mem->List Nat->List Nat->Prop}
def yX(s:PSt w h M)(B:al w a a')(x:AR)(G I:Option AR)(u:PS tab (.ep x G I) a M K):bl w h M (aop a' h (.ep x G I)) K:=by
 have E:=aQ B x;simp only[PS]at u;obtain⟨str,J,u⟩:=u;obtain⟨l,L,u⟩:=iV B u;obtain⟨r,O,u⟩:=iV B u;rw[J]at E;have ex:ev a' x= .str str:=by generalize ev a' x=y at E;cases E;rfl
 exact bl.pure s (by simp only[aop,ex,L,O];rw[if_pos u.1]) (.str _) u.2
def F0(s:PSt w h M)(E:al w a a')(x:AR)(u:PS tab (.jd x) a M K):bl w h M (aop a' h (.jd x)) K:=by
 have B:=aQ E x;simp only[PS]at u;obtain⟨str,G,u⟩:=u;rw[G]at B;have ex:ev a' x= .str str:=by generalize ev a' x=y at B;cases B;rfl
 exact bl.pure s (by simp only[aop,ex]) (.int _ _) u
def F1(s:PSt w h M)(G:al w a a')(x:AR)(u:PS tab (.iv x) a M K):bl w h M (aop a' h (.iv x)) K:=by
 have y:=aQ G x;simp only[PS]at u;unfold aC1 at u;split at u
 ·rename_i id hv;obtain⟨ver,R,hm,I⟩:=u;rw[hv]at y;obtain⟨e,b,B,J,S,T,U,L,O,E⟩:=s.qo hm y;refine bl.read s (v:=i64 B.length) (rd:=[b]) (prd:=[id]) (by simp only[aop,J,L]) (by rw[<-O.len];exact .int _ _) (fun x y=>?_) I;simp only[Bp]at y;subst y;exact⟨E.next s,.inr ⟨id,by simp,E⟩⟩
 ·exact u.elim
def yY(s:PSt w h M)(B:al w a a')(len size:Nat)(x:AR)(E G:Option AR)(u:PS tab (.cz len size x E G) a M K):bl w h M (aop a' h (.cz len size x E G)) K:=by
 have y:=aQ B x;simp only[PS]at u;obtain⟨l,J,u⟩:=iV B u;obtain⟨r,L,u⟩:=iV B u;unfold aHR at u;split at u
 ·rename_i id g o hv;obtain⟨ver,cs,hm,⟨h1,h2,h3,O⟩,Q⟩:=u;rw[hv]at y;obtain⟨e,b,R,S,T,U,V,Y,Z,I⟩:=s.lj hm y;refine bl.read s (v:= .slice (Jo&&r.getD (len:Int)==(len:Int)) size b (o+(l.getD 0).toNat*size) (r.getD (len:Int)-l.getD 0).toNat) (rd:=[b]) (prd:=[id]) ?_ (.ref T U V) (fun x y=>?_) Q
  ·simp only[aop,S,J,L,Y];rw[if_pos (by rw[<-Z.len];exact h1)];simp[fG,h2,h3,O]
  ·simp only[Bp]at y;subst y;exact⟨I.next s,.inr ⟨id,by simp,I⟩⟩
 ·exact u.elim
def EB{l:List PV}{u:List AV}{t:List UInt8}(h:al w l u)(e:mF l=Jm t):eW u=Jm t:=by
 unfold mF at e
 cases ht:fT l with
 | none=>rw[ht]at e;cases e
 | some x=>rw[ht]at e;rw[j9 h ht];exact e
def tX(s:PSt w h M)(R:al w a a')(x:AR)(y:PS tab (.bu x) a M K):bl w h M (aop a' h (.bu x)) K:=by
 have u:=aQ R x;simp only[PS]at y;unfold aHW at y;split at y
 ·rename_i hv;rw[hv]at u;have S:=dB u;exact bl.pure s (by simp only[aop,S];rfl) (.str _) y
 ·rename_i T own sz n cs hv;obtain⟨rfl,t,ht,E⟩:=y;rw[hv]at u;rcases nC s u with⟨B,rfl,rfl⟩ | ⟨U,b,off,ver,rw,L,B,V,I,J,O,Q,Y,q6⟩
  ·have:t=[]:=by simpa [mF,fT,eW]using ht.symm
   subst this;exact bl.pure s (by simp only[aop,B];rfl) (.str _) E
  ·rw[Ct]at Q;refine bl.read s (v:= .str ⟨t.toArray⟩) (rd:=[b]) (prd:=[]) ?_ (.str _) (fun x u=>?_) E
   ·simp only[aop,B,bB,J];rw[if_pos (by omega)];have:=EB Y ht;rw[Q]at this;simp only[this]
   ·simp only[Bp]at u;subst u;exact⟨s.kh I,.inl (by rw[I];simp)⟩
 ·rename_i id g sz off n hv;obtain⟨ver,cs,hm,⟨rfl,h1⟩,t,ht,E⟩:=y;rw[hv]at u;obtain⟨e,p1,p2,Z⟩:=s.ij hm u;rcases Z with⟨B,rfl,rfl,hb,rfl⟩ | ⟨T,b,L,B,hb,I,J,O⟩
  ·have:t=[]:=by simpa [mF,aY,fT,eW]using ht.symm
   subst this;exact bl.read s (rd:=[]) (prd:=[id]) (by simp only[aop,B];rfl) (.str _) (fun x u=>by cases u) E
  ·refine bl.read s (v:= .str ⟨t.toArray⟩) (rd:=[b]) (prd:=[id]) ?_ (.str _) (fun x u=>?_) E
   ·simp only[aop,B,bB,I];rw[if_pos (by rw[<-J.len];exact h1)];have:=EB (fJ J off n) ht;simp only[this]
   ·simp only[Bp]at u;subst u;exact⟨O.next s,.inr ⟨id,by simp,O⟩⟩
 ·exact y.elim
end
section
variable {tab:Tb}
def CH{w:PWd}{h:H}{M:Mem}{a:List PV}{I:List AV}{K:PV->Mem->List Nat->List Nat->Prop}(h0:w.id0<=M.length)(s:PSt w h M)(B:al w a I)(o:AO)(u:PS tab o a M K):bl w h M (fY (lim tab) o I h) K:=by
 cases o with
 | move x=>exact bl.pure s (v:=ev I x) rfl (aQ B x) u
 | pick c x y=>exact NL s B c x y u
 | alloc cs=>exact JB s B cs u
 | box x=>exact VA s B x u
 | build z J=>exact JA s B z J u
 | buildSlice size len z J=>exact tY s B size len z J u
 | load x=>exact NM s B x u
 | dw n x=>exact CN s B n x u
 | store n p x=>exact I4 s B n p x u
 | nilCheck x=>exact yZ s B x u
 | bin op x y=>exact VB s B op x y u
 | eqB neg x y=>exact U9 s B neg x y u
 | isNil kd neg x y=>exact I6 s B kd neg x y u
 | dz neg T x y=>exact CP s B neg T x y u
 | un op x=>exact ZI s B op x u
 | da k x=>exact CQ s B k x u
 | gi fn f c=>exact FY s B fn f c u
 | makeSlice bytes z n c=>exact wU s B bytes z n c u
 | slice size x E G O=>exact I5 s B size x E G O u
 | fieldAddr off x=>exact wW s B off x u
 | field off n x=>exact I8 s B off n x u
 | indexAddr size x i=>exact wV s B size x i u
 | be len size x i=>exact tW s B len size x i u
 | index len size isAgg x i=>exact I7 s B len size isAgg x i u
 | extract x i=>exact CO s B x i u
 | call f args=>exact NN h0 s B f args u
 | append size bytes Q x=>exact F3 s B size bytes Q x u
 | len x=>exact U7 s B x u
 | dc x i=>exact y8 s B x i u
 | br bytes z x y=>exact tZ s B bytes z x y u
 | jd x=>exact F0 s B x u
 | iv x=>exact F1 s B x u
 | ep x E G=>exact yX s B x E G u
 | cz len size x E G=>exact yY s B len size x E G u
 | bu x=>exact tX s B x u
 | jf size d x=>exact I9 s B size d x u
 | fq z x=>exact F2 s B z x u
 | max x L=>exact U6 s B x L u
 | min x L=>exact U5 s B x L u
 | makeMap=>exact CM s B u
 | lookup kd R z x i=>exact FZ s B kd R z x i u
 | mapUpdate kd m i v=>exact wT s B kd m i v u
 | gu t x=>exact bl.pure s (v:= .iface t (ev I x)) rfl (.iface (aQ B x)) u
 | cu x=>exact tV s B x u
 | pq t z x=>exact NO s B t z x u
 | _=>simp only[PS]at u
def dr.weaken{m u:Nat}{w w':PWd}{h h':H}{M M':Mem}(p:dr u w h M w' h' M')(hm:m<=u):dr m w h M w' h' M':=
 ⟨Aj hm p.len,⟨p.le.n0,p.le.id0,p.le.imm,fun id E=>p.le.env id (by omega)⟩,p.next,p.dx,p.live,fun x y=>by
  rcases p.new x y with e | e | ⟨id,G,B⟩
  ·exact .inl e
  ·exact .inr (.inl e)
  ·exact .inr (.inr ⟨id,by omega,B⟩)⟩
def wG{w:PWd}{a:List PV}{E:List AV}(G:al w a E){t:Nat}{u:Bool}{A B:Prop}(h:lA (ct a t) u A B):
  (bR E (Jm (t,u))=Jm Jo/\A)\/(bR E (Jm (t,u))=Jm Jp/\B):=by
 have ht:=G.dl t;rcases h with⟨b,hb,y⟩ | ⟨l,hl,y⟩
 ·rw[hb]at ht;simp only[bR,jB ht];by_cases e:b=u
  ·rw[if_pos e]at y;exact .inl ⟨by simp[e],y⟩
  ·rw[if_neg e]at y;exact .inr ⟨by simp[e],y⟩
 ·rw[hl]at ht;obtain⟨I,e,_⟩:=pI ht;simp only[bR,e];exact .inr ⟨trivial,y⟩
def JP(w:PWd):az w (.tuple []) (.tuple []):= .tuple rfl (fun i y z q=>by simp at q)
def mS:∀(os:List aw) {w:PWd} {h:H} {M:Mem} {a:List PV} {G:List AV} {Q:Kl},w.id0<=M.length->PSt w h M->al w a G->PO tab os a M Q->
  ∃u h2,hO (lim tab) os G h=Jm (u,h2)/\∃y E B,dr M.length w h M y h2 B/\PSt y h2 B/\al y E u/\Q E B
 | [],w,h,M,a,G,Q,h0,s,I,L=>⟨G,h,rfl,w,a,M,dr.refl (Ac _) w h,s,I,L⟩
 | ⟨d,o,J,chk⟩::os,w,h,M,a,G,Q,h0,s,I,L=>by
  have step:PS tab o a M (fun v T _ _=>PO tab os (ig a d v) T Q)->bR G J=Jm Jo->∃u h2,hO (lim tab) (⟨d,o,J,chk⟩::os) G h=Jm (u,h2)/\∃y E B,dr M.length w h M y h2 B/\PSt y h2 B/\al y E u/\Q E B:=by intro hs hw;obtain⟨v,h1,rd,U,w1,p,M1,V,Y,K,Z,hr,_,_,hk⟩:=CH h0 s I o hs;obtain⟨u,h2,O,y,E,B,t1,t2,t3,t4⟩:=mS os (by rw[K.le.id0];exact Aj h0 K.len) Z ((I.mono K.le s.env).put d hr) hk;refine⟨u,h2,?_,y,E,B,K.trans t1 K.len,t2,t3,t4⟩;simp only[hO,hw,U];exact O
  have R:PO tab os (ig a d (.tuple [])) M Q->bR G J=Jm Jp->∃u h2,hO (lim tab) (⟨d,o,J,chk⟩::os) G h=Jm (u,h2)/\∃y E B,dr M.length w h M y h2 B/\PSt y h2 B/\al y E u/\Q E B:=by intro hs hw;obtain⟨u,h2,O,rest⟩:=mS os h0 s (I.put d (JP w)) hs;refine⟨u,h2,?_,rest⟩;simp only[hO,hw];exact O
  cases J with
  | none=>exact step L rfl
  | some g=>
   obtain⟨t,S⟩:=g;rcases wG I L with⟨h1,h2⟩ | ⟨h1,h2⟩
   ·exact step h2 h1
   ·exact R h2 h1
structure LogOk (w:PWd) (h:H) (M:Mem) (e:jz) (p:lh):Prop where
 idx:e.idx=p.idx
 ok:∃wb wa Ma,PSt wb e.hb p.Mb/\PSt wa e.ha Ma/\dr p.Mb.length wb e.hb p.Mb wa e.ha Ma/\dr Ma.length wa e.ha Ma w h M/\dq p.Mb Ma p.chg/\Ma.length=p.na/\
  ∀x∈e.rd,(x=e.hb.next/\e.hb.next<e.ha.next)\/(x<e.hb.next/\(wb.imm x≠Jn\/∃id∈p.rd,af wb p.Mb id x))
inductive ii (w:PWd) (h:H) (M:Mem):List jz->List lh->Prop
 | nil:ii w h M [] []
 | cons {e:jz} {p:lh} {l:List jz} {ps:List lh} :LogOk w h M e p->ii w h M l ps->ii w h M (e::l) (p::ps)
def ii.mono{w w':PWd}{h u:H}{M y:Mem}(t:dr M.length w h M w' u y){l:List jz}{ps:List lh}(hl:ii w h M l ps):ii w' u y l ps:=by
 induction hl with
 | nil=>exact .nil
 | cons he _ E=>refine .cons ⟨he.idx,?_⟩ E;obtain⟨G,I,J,h1,h2,h3,B,K,L⟩:=he.ok;exact⟨G,I,J,h1,h2,h3,B.trans t B.len,K,L⟩
def DU{w w':PWd}{h U:H}{M R:Mem}(s:PSt w h M)(s':PSt w' U R)(t:dr M.length w h M w' U R){id x:Nat}(hl:af w M id x)(hp:SR M R id):af w' R id x/\U.ver x=h.ver x:=by
 obtain⟨o,e,h1,h2,h3,J⟩:=hl;obtain⟨o1,S,h5,T,u⟩:=hp;rw[h1]at h5;cases h5;have hid:=s.env id e h3;obtain⟨e',K,L⟩:=t.le.env id hid e h3;have V:=s.obj id o h1;have Y:=s'.obj id S T
 cases o with
 | cells g ver cs=>
  cases S with
  | cells g2 y a0=>
   simp only[lZ,Au,beq_iff_eq]at u;obtain⟨rfl,rfl⟩:=u;obtain⟨ea,B,a2,E⟩:=V;obtain⟨eb,G,b2,I⟩:=Y;rw[h3]at B;cases B;rw[K]at G;cases G;rcases L with L | rfl
   ·omega
   ·rw[J]at E I;obtain⟨_,O,_⟩:=E;obtain⟨_,Q,_⟩:=I;exact⟨⟨_,_,T,by simp,K,J⟩,by simp[H.ver,O,Q,bq.ver]⟩
  | _=>simp[lZ]at u
 | map ver es=>
  cases S with
  | map y Z=>
   simp only[lZ,beq_iff_eq]at u;subst u;obtain⟨ea,ba,B,a2,E,_,O,_⟩:=V;obtain⟨eb,bb,G,b2,I,_,Q,_⟩:=Y;rw[h3]at B;cases B;rw[K]at G;cases G;rcases L with L | rfl
   ·omega
   ·rw[J]at E I;cases E;cases I;exact⟨⟨_,_,T,by simp,K,J⟩,by simp[H.ver,O,Q,bq.ver]⟩
  | _=>simp[lZ]at u
 | loop ver es=>
  cases S with
  | loop y Z=>
   simp only[lZ,beq_iff_eq]at u;subst u;obtain⟨ea,ba,B,a2,E,_,O,_⟩:=V;obtain⟨eb,bb,G,b2,I,_,Q,_⟩:=Y;rw[h3]at B;cases B;rw[K]at G;cases G;rcases L with L | rfl
   ·omega
   ·rw[J]at E I;cases E;cases I;exact⟨⟨_,_,T,by simp,K,J⟩,by simp[H.ver,O,Q,bq.ver]⟩
  | _=>simp[lZ]at u
 | gone=>exact absurd rfl h2
def Z3{Q w:PWd}{hb h:H}{G M:Mem}(V:PSt Q hb G)(s:PSt w h M)(t:dr G.length Q hb G w h M){id x:Nat}(hl:af w M id x)(E:mj G M id=Jo):af Q G id x:=by
 obtain⟨o,e,h1,h2,h3,h4⟩:=hl;unfold mj at E;rw[h1]at E;have L:∀O,G[id]? =Jm O->O≠ .gone->(∀B,Q.env id=Jm B->B.g=e.g)->(∃B,Q.env id=Jm B)->af Q G id x:=by
  intro O y hg S ⟨B,u⟩;obtain⟨e',Y,Z⟩:=t.le.env id (V.env id B u) B u;rw[h3]at Y;cases Y;have:=S B u;rcases Z with Z | rfl
  ·omega
  ·exact⟨O,_,y,hg,u,h4⟩
 have r:=s.obj id o h1
 cases y:G[id]? with
 | none=>rw[y]at E;simp at E
 | some O=>
  rw[y]at E;have T:=V.obj id O y
  cases O with
  | cells g ver cs=>
   cases o with
   | cells g2 I a0=>simp only[beq_iff_eq]at E;subst E;obtain⟨R,J,a2,a3⟩:=T;obtain⟨B,K,b2,b3⟩:=r;rw[h3]at K;cases K;exact L _ y (by simp) (fun B u=>by rw[J]at u;cases u;omega) ⟨R,J⟩
   | _=>simp at E
  | map ver es=>
   cases o with
   | map I U=>obtain⟨R,ba,J,a2,_⟩:=T;obtain⟨B,bb,K,b2,_⟩:=r;rw[h3]at K;cases K;exact L _ y (by simp) (fun B u=>by rw[J]at u;cases u;omega) ⟨R,J⟩
   | _=>simp at E
  | loop ver es=>
   cases o with
   | loop I U=>obtain⟨R,ba,J,a2,_⟩:=T;obtain⟨B,bb,K,b2,_⟩:=r;rw[h3]at K;cases K;exact L _ y (by simp) (fun B u=>by rw[J]at u;cases u;omega) ⟨R,J⟩
   | _=>simp at E
  | gone=>cases o<;>simp at E
def IE{w w':PWd}{h u:H}{M y:Mem}{m:Nat}(t:dr m w h M w' u y){x:Nat}(B:x<h.next)(E:∀id,¬af w M id x):u.ver x=h.ver x:=by unfold H.ver;rw[t.dx x B E]
def aBC{w w':PWd}{h u:H}{M y:Mem}(t:dr M.length w h M w' u y){x:Nat}(G:x<h.next)(B:w'.imm x≠Jn):w.imm x≠Jn:=by
 rcases t.new x B with e | e | ⟨id,I,E⟩
 ·exact e
 ·omega
 ·have:=E.lt;omega
def u7{w w':PWd}{h U:H}{M V:Mem}(s:PSt w h M)(s':PSt w' U V)(t:dr M.length w h M w' U V){eff:Bool}{rd0 prd chg chk:List Nat}(hr:aFA w h M rd0 prd)(hc:dq M V chg):
  ∀{O:List jz} {E:List lh},ii w h M O E->jj eff prd chg M E chk=Jo->qJ eff (rdx h U rd0) h U O chk=Jo:=by
 intro O E hl B;unfold jj at B;unfold qJ
 induction hl with
 | nil=>rfl
 | @cons e p l ps he _ ih=>
  simp only[List.all_cons,Au]at B ⊢;refine⟨?_,ih B.2⟩;have B:=B.1;rw[he.idx];split
  ·rename_i R;rw[if_pos R]at B;obtain⟨wb,wa,Ma,Q,sa,G,S,Y,a4,L⟩:=he.ok;have J:=G.trans S G.len
   cases eff with
   | true=>
    simp only[if_true]at B ⊢;rw[Cf]at B ⊢;intro x K;unfold f5;split
    ·rename_i I;simp only[beq_iff_eq];by_cases u:∃id,af w M id x
     ·obtain⟨id,u⟩:=u;by_cases hid:id∈chg
      ·have:=B id hid;simp only[Au,Bool.or_eq_true,decide_eq_true_eq,Bool.not_eq_true',List.contains_eq_mem,decide_eq_false_iff_not]at this;rcases this.2 with Z | a3
       ·have lb:=Z3 Q s J u Z;rcases L x K with⟨rfl,_⟩ | ⟨_,q | ⟨a0,q1,q2⟩⟩
        ·have:=lb.next Q;omega
        ·exact absurd (Q.sep id x lb).1 q
        ·have:=Q.inj id a0 x lb q2;subst this;exact absurd q1 (by simpa using this.1)
       ·exfalso;have a1:x<e.ha.next:=by
         rcases L x K with⟨rfl,q⟩ | ⟨q,_⟩
         ·exact q
         ·exact Bi q G.next
        have:=(S.live id x u a1).lt;omega
      ·exact(DU s s' t u (hc id u.lt hid)).2.symm
     ·exact(IE t I fun id hl=>u ⟨id,hl⟩).symm
    ·rfl
   | false=>
    simp only[Bf,if_false]at B ⊢;rw[Cf]at B ⊢;intro x K;unfold f5;split
    ·rename_i I;simp only[beq_iff_eq];by_cases y:∃id,af wb p.Mb id x
     ·obtain⟨id,y⟩:=y;by_cases hid:id∈p.chg
      ·have a2:x∈rd0:=by
        unfold rdx at K;split at K
        ·rcases List.mem_cons.1 K with rfl | K
         ·have:=J.next;omega
         ·exact K
        ·exact K
       obtain⟨a5,q⟩:=hr x a2;rcases q with q | ⟨T,q1,q2⟩
       ·exact absurd (Q.sep id x y).1 (aBC J I q)
       ·have:=J.live T x q2 I;have:=Q.inj id T x y this;subst this;have:=B id hid;simp at this;exact absurd q1 this
      ·exact(DU Q sa G y (Y id y.lt hid)).2.symm
     ·exact(IE G I fun id hl=>y ⟨id,hl⟩).symm
    ·rfl
  ·rfl
def tG:∀(os:List aw) (i:Nat) {w:PWd} {h:H} {M:Mem} {a:List PV} {J:List AV} {B:List jz} {u:List lh} {Q:Kl},w.id0<=M.length->PSt w h M->al w a J->ii w h M B u->PD tab os i a M u Q->
  ∃y h2,eH (lim tab) os i J h B=Jm (y,h2)/\∃E I G,dr M.length w h M E h2 G/\PSt E h2 G/\al E I y/\Q I G
 | [],i,w,h,M,a,J,B,u,Q,h0,s,T,hl,Y=>⟨J,h,rfl,w,a,M,dr.refl (Ac _) w h,s,T,Y⟩
 | ⟨d,o,U,chk⟩::os,i,w,h,M,a,J,B,u,Q,h0,s,T,hl,Y=>by
  have step:PS tab o a M (fun v M' rd K=>jj o.effect rd K M u chk=Jo/\PD tab os (i+1) (ig a d v) M' (⟨i,rd,K,M,M'.length⟩::u) Q)->bR J U=Jm Jo->∃y h2,eH (lim tab) (⟨d,o,U,chk⟩::os) i J h B=Jm (y,h2)/\∃E I G,dr M.length w h M E h2 G/\PSt E h2 G/\al E I y/\Q I G:=by
   intro hs hw;obtain⟨v,h1,rd,e1,Z,p,M1,a0,K,L,s2,hr,R,O,a1,hk⟩:=CH h0 s T o hs;have hc:=u7 s s2 L R O hl a1;have V:ii Z h1 M1 (⟨i,rdx h h1 rd,h,h1⟩::B) (⟨i,a0,K,M,M1.length⟩::u):=by
    refine .cons ⟨rfl,w,Z,M1,s,s2,L,dr.refl (Ac _) Z h1,O,rfl,fun x S=>?_⟩ (hl.mono L);simp only at S ⊢;unfold rdx at S;split at S
    ·rename_i hlt;rcases List.mem_cons.1 S with rfl | S
     ·exact .inl ⟨rfl,hlt⟩
     ·exact .inr (R x S)
    ·exact .inr (R x S)
   obtain⟨y,h2,e2,E,I,G,t1,t2,t3,t4⟩:=tG os (i+1) (by rw[L.le.id0];exact Aj h0 L.len) s2 ((T.mono L.le s.env).put d hr) V hk;refine⟨y,h2,?_,E,I,G,L.trans t1 L.len,t2,t3,t4⟩;simp only[eH,hw,e1];rw[if_pos hc];exact e2
  have a3:PD tab os (i+1) (ig a d (.tuple [])) M u Q->bR J U=Jm Jp->∃y h2,eH (lim tab) (⟨d,o,U,chk⟩::os) i J h B=Jm (y,h2)/\∃E I G,dr M.length w h M E h2 G/\PSt E h2 G/\al E I y/\Q I G:=by intro hs hw;obtain⟨y,h2,e2,rest⟩:=tG os (i+1) h0 s (T.put d (JP w)) hl hs;refine⟨y,h2,?_,rest⟩;simp only[eH,hw];exact e2
  cases U with
  | none=>exact step Y rfl
  | some g=>
   obtain⟨t,a4⟩:=g;rcases wG T Y with⟨h1,h2⟩ | ⟨h1,h2⟩
   ·exact step h2 h1
   ·exact a3 h2 h1
def jN{L:Rec}{c:AC}{a:List AV}{h:H}{G I u y:List AV->H->Prop}{J B:Nat->List AV->H->Prop}(hw:W L c a h G I J)(h1:∀a h,G a h->u a h)(h2:∀a h,I a h->y a h)(h3:∀i a h,J i a h->B i a h):W L c a h u y B:=by
 unfold W at hw ⊢;obtain⟨e,K,M,he,E⟩:=hw;refine⟨e,K,M,he,?_⟩
 cases e with
 | normal=>exact h1 _ _ E
 | ret=>exact h2 _ _ E
 | exit i=>exact h3 _ _ _ E
def Lf.trans{m:Nat}{w u:PWd}{h h1:H}{M y:Mem}(t:dr m w h M u h1 y){Q:Kl}{B:List AV}{E:H}(hl:Lf m u h1 y Q B E):Lf m w h M Q B E:=by obtain⟨G,a,I,J,K,L,q⟩:=hl;exact⟨G,a,I,t.trans J (Ac _),K,L,q⟩
def MQ(m:Nat):∀(c:AC) {a:List PV} {M:Mem} {E G:Kl} {I:Nat->Kl},PX tab m c a M E G I->bV tab m c a M E G I:=by
 intro c
 induction c with
 | skip=>intro a M E G I u w h K h0 hm s B;rw[aHN];exact⟨w,a,M,dr.refl hm w h,s,B,u⟩
 | region os=>intro a M E G I u w h K h0 hm s B;rw[CB];obtain⟨L,h2,V,Y,Z,M2,J,t2,t3,t4⟩:=mS os (Aj h0 hm) s B u;unfold WO;exact⟨L,h2,V,Y,Z,M2,J.weaken hm,t2,t3,t4⟩
 | fc os=>intro a M E G I u w h K h0 hm s B;rw[FJ];obtain⟨L,h2,V,Y,Z,M2,J,t2,t3,t4⟩:=tG os 0 (Aj h0 hm) s B .nil u;unfold WD;exact⟨L,h2,V,Y,Z,M2,J.weaken hm,t2,t3,t4⟩
 | seq x y O Q=>intro a M E G I u w h K h0 hm s B;rw[aGe];refine jN (O u w h K h0 hm s B) (fun a1 h1 hl=>?_) (fun _ _ h=>h) fun _ _ _ h=>h;obtain⟨R,b,M1,J,S,T,q⟩:=hl;rw[UM];exact jN (Q q R h1 a1 (by rw[J.le.id0];exact h0) J.len S T) (fun _ _ h=>h.trans J) (fun _ _ h=>h.trans J) fun _ _ _ h=>h.trans J
 | cond c x y O Q=>
  intro a M E G I u w h K h0 hm s B;rw[HZ];obtain⟨b,hb,U⟩:=u;have hc:=aQ B c;rw[hb]at hc;refine⟨b,jB hc,?_⟩
  cases b with
  | true=>rw[if_pos rfl]at U ⊢;exact O U w h K h0 hm s B
  | false=>rw[if_neg (by simp)]at U ⊢;exact Q U w h K h0 hm s B
 | block id x ih=>
  intro a M E G I u w h K h0 hm s B;rw[UC];refine jN (ih u w h K h0 hm s B) (fun _ _ h=>h) (fun _ _ h=>h) fun i a1 h1 hl=>?_;rw[mV];obtain⟨R,b,M1,J,S,T,q⟩:=hl;by_cases e:i=id
  ·rw[if_pos e]at q ⊢;exact⟨R,b,M1,J,S,T,q⟩
  ·rw[if_neg e]at q ⊢;exact⟨R,b,M1,J,S,T,q⟩
 | loop sc x ih=>intro a M E G I u;exact u
 | rangeFunc f ps a0 body a3 a4=>intro a M E G I u;exact u
 | exit id=>intro a M E G I u w h K h0 hm s B;rw[aHP];exact⟨w,a,M,dr.refl hm w h,s,B,u⟩
 | ret=>intro a M E G I u w h K h0 hm s B;rw[aI2];exact⟨w,a,M,dr.refl hm w h,s,B,u⟩
def Q1{m:Nat}{y:List Nat}{x:AC}{a:List PV}{M:Mem}{G B:Kl}{E:Nat->Kl}(I:PX tab m x (uB a y) M (fun a M=>bV tab m (.loop y x) a M G B E) B E):
  bV tab m (.loop y x) a M G B E:=by
 intro w h R h0 hm s J;rw[aHO _ _ _ _ _ _ _ _ (AH tab)];refine jN (MQ m x I w h _ h0 hm s (al.fh y J)) (fun K h1 hl=>?_) (fun _ _ h=>h) fun _ _ _ h=>h;obtain⟨L,b,S,u,O,Q,q⟩:=hl;rw[aI3];exact jN (q L h1 K (by rw[u.le.id0];exact h0) u.len O Q) (fun _ _ h=>h.trans u) (fun _ _ h=>h.trans u) fun _ _ _ h=>h.trans u
def g9(B:List jt)(a:List PV)(M:Mem)(K:List PV->Prop):Prop:=match B with
 | []=>K []
 | .tmp t::u=>g9 u a M fun y=>K (ct a t::y)
 | .cell t::u=>ML (ct a t) M fun v _=>g9 u a M fun y=>K (v::y)
 | .cells t n::u=>CF n (ct a t) M fun v _=>g9 u a M fun y=>K (v::y)
def fe:List PV->PV
 | [v]=>v
 | u=> .tuple u
def ll(args:List PV)(n:Nat):List PV:=args++List.replicate (n-args.length) .aa
def aDG{w:PWd}{l:List PV}{u:List AV}(h:al w l u)(n:Nat):al w (ll l n) (qC u n):=by unfold ll qC;rw[h.len];exact h.append ⟨by simp,fun i y z h1 h2=>by rw[List.getElem?_replicate]at h1;split at h1<;>cases h1;exact .aa _⟩
def ZR{w:PWd}{l:List PV}{B:List AV}(h:al w l B):az w (fe l) (iE B):=by
 match l,B,h with
 | [],[],h=>exact .tuple rfl h.get
 | [v],[x],h=>exact h.hd
 | v::u::l,x::y::B,h=>exact .tuple h.len h.get
 | [],_::_,h=>have:=h.len;simp at this
 | [v],[],h=>have:=h.len;simp at this
 | [v],_::_::_,h=>have:=h.len;simp at this
 | _::_::_,[],h=>have:=h.len;simp at this
 | _::_::_,[_],h=>have:=h.len;simp at this
def kA{w:PWd}{h:H}{M:Mem}{a:List PV}{a':List AV}(s:PSt w h M)(O:al w a a'):∀(V:List jt) {K:List PV->Prop},g9 V a M K->∃Q u,dG a' h V=Jm u/\al w Q u/\K Q
 | [],K,B=>⟨[],[],rfl,.nil w,B⟩
 | .tmp t::R,K,B=>by obtain⟨Q,u,G,I,J⟩:=kA s O R B;exact⟨_,dl a' t::u,by simp only[dG,vB,G],.cons (O.dl t) I,J⟩
 | .cell t::R,K,B=>by
  have L:=O.dl t;simp only[g9]at B;unfold ML at B;split at B
  ·rename_i id g o hv;obtain⟨ver,cs,hm,y,hy,S⟩:=B;rw[hv]at L;obtain⟨e,b,E,T,q2,Y,q4,U,Z,q7⟩:=s.lj hm L;obtain⟨z,hz,hr⟩:=Z.je hy;obtain⟨Q,u,G,I,J⟩:=kA s O R S;exact⟨_,z::u,by simp only[dG,vB,T,gQ,U,hz,G],.cons hr I,J⟩
  ·rename_i cs o hv;obtain⟨y,hy,S⟩:=B;rw[hv]at L;obtain⟨b,off,ver,rw,E,T,q2,Y,q4,U⟩:=zF s L;obtain⟨z,hz,hr⟩:=KB U hy;obtain⟨Q,u,G,I,J⟩:=kA s O R S;exact⟨_,z::u,by simp only[dG,vB,T,gQ,Y,hz,G],.cons hr I,J⟩
  ·exact B.elim
 | .cells t n::R,K,B=>by
  have L:=O.dl t;simp only[g9]at B;unfold CF at B;split at B
  ·rename_i id g o hv;obtain⟨ver,cs,hm,hn,S⟩:=B;rw[hv]at L;obtain⟨e,b,E,T,q2,Y,q4,U,Z,q7⟩:=s.lj hm L;have hs:=fJ Z o n;obtain⟨Q,u,G,I,J⟩:=kA s O R S;exact⟨_,.agg ((E.drop o).take n)::u,by simp only[dG,vB,T,bB,U,G];rw[if_pos (by rw[<-Z.len];exact hn)];rfl,.cons (.agg hs.len hs.get) I,J⟩
  ·rename_i cs o hv;obtain⟨hn,S⟩:=B;rw[hv]at L;obtain⟨b,off,ver,rw,E,T,q2,Y,q4,U⟩:=zF s L;have hs:=zP U hn;obtain⟨Q,u,G,I,J⟩:=kA s O R S;exact⟨_,.agg ((E.drop (off+o)).take n)::u,by simp only[dG,vB,T,bB,Y,G];rw[if_pos (by omega)];rfl,.cons (.agg hs.len hs.get) I,J⟩
  ·exact B.elim
def cA{g:FuncId}{F:AFn}(hg:tab g=Jm (.fn F)){args:List PV}{M:Mem}{K:Kp}
  (L:bV tab M.length F.body (ll args F.ntmps) M (fun a u=>g9 F.results a u fun y=>K (fe y) u) (fun a u=>g9 F.results a u fun y=>K (fe y) u) fun _ _ _=>False):aj tab g args M K:=by
 intro w h E h0 s O;rw[aJe hg];have fin:∀B h1,Lf M.length w h M (fun a u=>g9 F.results a u fun y=>K (fe y) u) B h1->YP F.results (fun v I=>∃w' r u,dr M.length w h M w' I u/\PSt w' I u/\az w' r v/\K r u) B h1:=by intro B h1 ⟨Q,b,R,S,J,T,q⟩;obtain⟨y,G,U,V,Y⟩:=kA J T F.results q;rw[aFS];exact⟨G,U,Q,_,R,S,J,ZR V,Y⟩
 exact jN (L w h _ h0 (Ac _) s (aDG O _)) fin fin fun i B h1 ⟨_,_,_,_,_,_,q⟩=>q
end
end Go.Am

