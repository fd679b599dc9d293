/- The pure machine: slices that nobody writes to are lists; the rest lies in a small store of numbered objects. What its values stand for on the abstract machine, and what goes with it. -/
import Derived.Test.YtapbgleednkimaaGreatDoorAmKEnd
set_option linter.all false
open Nat renaming lt_or_ge->Bi,le_refl->Ab,le_trans->As,lt_of_lt_of_le->Bk,min_eq_left->Dk,zero_add->Bg,mul_one->Ce,mul_le_mul_right->Dt,min_le_left->Gd,add_assoc->Cn
open List renaming getElem?_append_left->Bm,getElem?_append_right->Bv,getElem?_drop->Br,getElem?_take->Bp,getElem?_eq_none->Bu,getElem?_eq_getElem->Ad,getElem?_map->Ap,all_eq_true->Cb,getElem?_set_ne->Bt,getElem?_set_self->Ck,take_take->Gx,mem_singleton->Ch,length_map->Ag
open Bool renaming and_eq_true->Aw,false_eq_true->Aq,true->Jr,false->Js
open Option renaming some->Jp,none->Jq
namespace Go.Am
inductive PV where
 | aa
 | bool (b:Bool)
 | int (k:IntKind) (n:Int)
 | str (s:ByteArray)
 | aq | ai | bc | al | ae
 | ptr (id g o:Nat)
 | cp (cs:List PV) (o:Nat)
 | sl (fl own:Bool) (sz n:Nat) (cs:List PV)
 | ref (id g sz off n:Nat)
 | map (id:Nat)
 | func (fn:Fn) (first cap:List PV)
 | yld (id:Nat) (first:List PV)
 | iface (t:TypeId) (v:PV)
 | agg (cs:List PV)
 | tuple (vs:List PV)
 deriving Inhabited
abbrev p64(n:Int):PV:= .int .i64 n
abbrev p8(n:Int):PV:= .int .u8 n
structure jm where
 state:LoopState
 pending:Option Ex
 tmps:List PV
 params:List Nat
 assign:AC
 body:AC
inductive bl where
 | cells (g ver:Nat) (cs:List PV)
 | map (ver:Nat) (es:List (PV×PV))
 | loop (ver:Nat) (r:jm)
 | gone
abbrev Mem:=List bl
structure Ent where
 blk:Option Nat
 v0:Nat
 g:Nat
structure PWd where
 n0:Nat
 id0:Nat
 env:Nat->Option Ent
 imm:Nat->Option cq
inductive az (w:PWd):PV->AV->Prop
 | aa (x:AV):az w .aa x
 | bool (b:Bool):az w (.bool b) (.bool b)
 | int (k:IntKind) (n:Int):az w (.int k n) (.int k n)
 | str (s:ByteArray):az w (.str s) (.str s)
 | aq:az w .aq .aq
 | ai:az w .ai .ag
 | bc:az w .bc .bc
 | al:az w .al .al
 | ae:az w .ae .ae
 | ptr {id g o:Nat} {e:Ent} {b:Nat} :w.env id=Jp e->e.g=g->e.blk=Jp b->az w (.ptr id g o) (.ptr b o)
 | jo {id g o:Nat} {e:Ent} (x:AV):x.one=Jr->w.env id=Jp e->g<e.g->az w (.ptr id g o) x
 | cp {cs:List PV} {o b ver:Nat} {rw:Bool} {bcs:List AV} {off:Nat} :w.imm b=Jp (.cells ver rw bcs)->off+cs.length<=bcs.length->
   (∀(i:Nat) (y:PV) (z:AV),cs[i]? =Jp y->bcs[off+i]? =Jp z->az w y z)->az w (.cp cs o) (.ptr b (off+o))
 | sl {fl own:Bool} {sz n:Nat} {cs:List PV} {fl':Bool} {b ver:Nat} {rw:Bool} {bcs:List AV} {off:Nat} :w.imm b=Jp (.cells ver rw bcs)->off+cs.length<=bcs.length->cs.length=n*sz->
   (fl=Jr->own=Jr->fl'=Jr)->(own=Jr->w.n0<=b/\rw=Jr)->(own=Js->fl=Js->b<w.n0)->
   (∀(i:Nat) (y:PV) (z:AV),cs[i]? =Jp y->bcs[off+i]? =Jp z->az w y z)->az w (.sl fl own sz n cs) (.slice fl' sz b off n)
 | slN {fl own:Bool} {sz:Nat} :az w (.sl fl own sz 0 []) .ag
 | ref {id g sz off n:Nat} {e:Ent} {b:Nat} {fl:Bool} :w.env id=Jp e->e.g=g->e.blk=Jp b->az w (.ref id g sz off n) (.slice fl sz b off n)
 | jk {id g sz:Nat} {e:Ent} :w.env id=Jp e->e.g=g->e.blk=Jq->az w (.ref id g sz 0 0) .ag
 | kj {id g sz off n:Nat} {e:Ent} (x:AV):x.one=Jr->w.env id=Jp e->g<e.g->az w (.ref id g sz off n) x
 | map {id:Nat} {e:Ent} {b:Nat} :w.env id=Jp e->e.g=0->e.blk=Jp b->az w (.map id) (.map b)
 | lj {id:Nat} {e:Ent} (x:AV):x.one=Jr->w.env id=Jp e->0<e.g->az w (.map id) x
 | func {fn:Fn} {f c:List PV} {f' c':List AV} :(∀l,fn≠ .yield l)->f.length=f'.length->c.length=c'.length->
   (∀(i:Nat) (y:PV) (z:AV),f[i]? =Jp y->f'[i]? =Jp z->az w y z)->(∀(i:Nat) (y:PV) (z:AV),c[i]? =Jp y->c'[i]? =Jp z->az w y z)->az w (.func fn f c) (.func fn f' c')
 | yld {id:Nat} {e:Ent} {b:Nat} {f:List PV} {f':List AV} :w.env id=Jp e->e.g=0->e.blk=Jp b->f.length=f'.length->
   (∀(i:Nat) (y:PV) (z:AV),f[i]? =Jp y->f'[i]? =Jp z->az w y z)->az w (.yld id f) (.func (.yield b) f' [])
 | ll {id:Nat} {e:Ent} {f:List PV} (x:AV):x.one=Jr->w.env id=Jp e->0<e.g->az w (.yld id f) x
 | iface {t:TypeId} {v:PV} {x:AV} :az w v x->az w (.iface t v) (.iface t x)
 | agg {cs:List PV} {cs':List AV} :cs.length=cs'.length->(∀(i:Nat) (y:PV) (z:AV),cs[i]? =Jp y->cs'[i]? =Jp z->az w y z)->az w (.agg cs) (.agg cs')
 | tuple {cs:List PV} {cs':List AV} :cs.length=cs'.length->(∀(i:Nat) (y:PV) (z:AV),cs[i]? =Jp y->cs'[i]? =Jp z->az w y z)->az w (.tuple cs) (.tuple cs')
structure ak (w:PWd) (l:List PV) (l':List AV):Prop where
 len:l.length=l'.length
 get:∀(i:Nat) y z,l[i]? =Jp y->l'[i]? =Jp z->az w y z
def ak.nil(w:PWd):ak w [] []:=⟨rfl,fun i y z h=>by simp at h⟩
def ak.cons{w:PWd}{v:PV}{x:AV}{l:List PV}{l':List AV}(h:az w v x)(hl:ak w l l'):ak w (v::l) (x::l'):=
 ⟨by simp[hl.len],fun i y z h1 h2=>by
  cases i with
  | zero=>simp at h1 h2;subst h1;subst h2;exact h
  | succ i=>exact hl.get i y z (by simpa using h1) (by simpa using h2)⟩
def ak.append{w:PWd}{l m:List PV}{l' E:List AV}(h1:ak w l l')(h2:ak w m E):ak w (l++m) (l'++E):=
 ⟨by simp[h1.len,h2.len],fun i y z B hz=>by
  rcases Bi i l.length with u | u
  ·rw[Bm u]at B;rw[Bm (by rw[<-h1.len];exact u)]at hz;exact h1.get i y z B hz
  ·rw[Bv u]at B;rw[Bv (by rw[<-h1.len];exact u),<-h1.len]at hz;exact h2.get _ y z B hz⟩
def ak.drop{w:PWd}{l:List PV}{l':List AV}(h:ak w l l')(k:Nat):ak w (l.drop k) (l'.drop k):=
 ⟨by simp[h.len],fun i y z u hz=>h.get (k+i) y z (by rw[Br]at u;exact u) (by rw[Br]at hz;exact hz)⟩
def ak.take{w:PWd}{l:List PV}{l':List AV}(h:ak w l l')(k:Nat):ak w (l.take k) (l'.take k):=
 ⟨by simp[h.len],fun i y z u hz=>by
  rw[Bp]at u hz;by_cases B:i<k
  ·rw[if_pos B]at u hz;exact h.get i y z u hz
  ·rw[if_neg B]at u;cases u⟩
def ak.iy{w:PWd}{l:List PV}{l':List AV}(h:ak w l l'){i:Nat}{y:PV}(E:l[i]? =Jp y):∃z,l'[i]? =Jp z/\az w y z:=by
 have u:i<l.length:=by
  rcases Bi i l.length with u | u
  ·exact u
  ·rw[Bu u]at E;cases E
 have B:i<l'.length:=by rw[<-h.len];exact u
 exact⟨l'[i],Ad B,h.get i y _ E (Ad B)⟩
def ak.map{w:PWd}{l:List PV}{l':List AV}(f:PV->PV)(B:AV->AV)(h:ak w l l')(hf:∀v x,az w v x->az w (f v) (B x)):ak w (l.map f) (l'.map B):=
 ⟨by simp[h.len],fun i y z u hz=>by
  rw[Ap]at u hz
  cases h1:l[i]? with
  | none=>rw[h1]at u;cases u
  | some a=>
   cases h2:l'[i]? with
   | none=>rw[h2]at hz;cases hz
   | some b=>rw[h1]at u;rw[h2]at hz;cases u;cases hz;exact hf a b (h.get i a b h1 h2)⟩
def ak.set{w:PWd}{l:List PV}{l':List AV}(h:ak w l l')(k:Nat){v:PV}{x:AV}(hv:az w v x):ak w (l.set k v) (l'.set k x):=
 ⟨by simp[h.len],fun i y z u hz=>by
  rw[List.getElem?_set]at u hz;rw[<-h.len]at hz;by_cases e:k=i
  ·subst e;rw[if_pos rfl]at u hz;split at u
   ·rename_i B;rw[if_pos B]at hz;cases u;cases hz;exact hv
   ·cases u
  ·rw[if_neg e]at u hz;exact h.get i y z u hz⟩
structure Le (m:Nat) (w w':PWd):Prop where
 n0:w'.n0=w.n0
 id0:w'.id0=w.id0
 imm:∀b o,w.imm b=Jp o->w'.imm b=Jp o
 env:∀id,id<m->∀e,w.env id=Jp e->∃e',w'.env id=Jp e'/\(e.g<e'.g\/e'=e)
def Le.refl(m:Nat)(w:PWd):Le m w w:=⟨rfl,rfl,fun _ _ h=>h,fun _ _ e h=>⟨e,h,.inr rfl⟩⟩
def Le.trans{m y:Nat}{a b c:PWd}(h:Le m a b)(k:Le y b c)(hm:m<=y):Le m a c:=
 ⟨k.n0.trans h.n0,k.id0.trans h.id0,fun x o B=>k.imm x o (h.imm x o B),fun id E e he=>by
  obtain⟨G,h1,h2⟩:=h.env id E e he;obtain⟨I,h3,u⟩:=k.env id (by omega) G h1;refine⟨I,h3,?_⟩;rcases h2 with h2 | rfl
  ·rcases u with u | rfl
   ·exact .inl (by omega)
   ·exact .inl h2
  ·exact u⟩
def az.mono{w w':PWd}{m:Nat}(hl:Le m w w')(hd:∀id e,w.env id=Jp e->id<m){v:PV}{x:AV}(h:az w v x):az w' v x:=by
 have E:∀id e,w.env id=Jp e->∃G,w'.env id=Jp G/\(e.g<G.g\/G=e):=fun id e he=>hl.env id (hd id e he) e he
 induction h with
 | aa x=>exact .aa x
 | bool b=>exact .bool b
 | int k n=>exact .int k n
 | str s=>exact .str s
 | aq=>exact .aq
 | ai=>exact .ai
 | bc=>exact .bc
 | al=>exact .al
 | ae=>exact .ae
 | ptr h1 h2 h3=>
  obtain⟨G,B,u⟩:=E _ _ h1;rcases u with u | rfl
  ·exact .jo _ rfl B (by omega)
  ·exact .ptr B h2 h3
 | jo x h0 h1 h2=>obtain⟨G,B,u⟩:=E _ _ h1;refine .jo _ h0 B ?_;rcases u with u | rfl<;>omega
 | cp h1 h2 h3 I=>exact .cp (hl.imm _ _ h1) h2 fun i y z a b=>I i y z a b
 | sl h1 h2 h3 J K O Q I=>exact .sl (hl.imm _ _ h1) h2 h3 J (by rw[hl.n0];exact K) (by rw[hl.n0];exact O) fun i y z a b=>I i y z a b
 | slN=>exact .slN
 | ref h1 h2 h3=>
  obtain⟨G,B,u⟩:=E _ _ h1;rcases u with u | rfl
  ·exact .kj _ rfl B (by omega)
  ·exact .ref B h2 h3
 | jk h1 h2 h3=>
  obtain⟨G,B,u⟩:=E _ _ h1;rcases u with u | rfl
  ·exact .kj _ rfl B (by omega)
  ·exact .jk B h2 h3
 | kj x h0 h1 h2=>obtain⟨G,B,u⟩:=E _ _ h1;refine .kj _ h0 B ?_;rcases u with u | rfl<;>omega
 | map h1 h2 h3=>
  obtain⟨G,B,u⟩:=E _ _ h1;rcases u with u | rfl
  ·exact .lj _ rfl B (by omega)
  ·exact .map B h2 h3
 | lj x h0 h1 h2=>obtain⟨G,B,u⟩:=E _ _ h1;refine .lj _ h0 B ?_;rcases u with u | rfl<;>omega
 | func h1 h2 h3 J K L M=>exact .func h1 h2 h3 (fun i y z a b=>L i y z a b) fun i y z a b=>M i y z a b
 | yld h1 h2 h3 J K I=>
  obtain⟨G,B,u⟩:=E _ _ h1;rcases u with u | rfl
  ·exact .ll _ rfl B (by omega)
  ·exact .yld B h2 h3 J fun i y z a b=>I i y z a b
 | ll x h0 h1 h2=>obtain⟨G,B,u⟩:=E _ _ h1;refine .ll _ h0 B ?_;rcases u with u | rfl<;>omega
 | iface h I=>exact .iface I
 | agg h1 h2 I=>exact .agg h1 fun i y z a b=>I i y z a b
 | tuple h1 h2 I=>exact .tuple h1 fun i y z a b=>I i y z a b
def ak.mono{w w':PWd}{m:Nat}(hl:Le m w w')(hd:∀id e,w.env id=Jp e->id<m){l:List PV}{l':List AV}(h:ak w l l'):ak w' l l':=
 ⟨h.len,fun i y z a b=>(h.get i y z a b).mono hl hd⟩
def af(w:PWd)(M:Mem)(id x:Nat):Prop:=∃o e,M[id]? =Jp o/\o≠ .gone/\w.env id=Jp e/\e.blk=Jp x
structure mg (w:PWd) (l:List (PV×PV)) (l':List (AV×AV)):Prop where
 len:l.length=l'.length
 get:∀(i:Nat) y z,l[i]? =Jp y->l'[i]? =Jp z->az w y.1 z.1/\az w y.2 z.2
structure ol (w:PWd) (r:jm) (r':mh):Prop where
 state:r'.state=r.state
 pending:r'.pending=r.pending
 params:r'.params=r.params
 assign:r'.assign=r.assign
 body:r'.body=r.body
 tmps:ak w r.tmps r'.tmps
def kg(w:PWd)(h:H)(id:Nat):bl->Prop
 | .cells g ver cs=>∃e,w.env id=Jp e/\e.g=g/\match e.blk with
  | none=>cs=[]
  | some b=>∃u,h.get b=Jp (.cells (e.v0+ver) Jr u)/\ak w cs u
 | .map ver E=>∃e b,w.env id=Jp e/\e.g=0/\e.blk=Jp b/\∃y,h.get b=Jp (.map (e.v0+ver) y)/\mg w E y
 | .loop ver r=>∃e b,w.env id=Jp e/\e.g=0/\e.blk=Jp b/\∃B,h.get b=Jp (.loop (e.v0+ver) B)/\ol w r B
 | .gone=>True
structure PSt (w:PWd) (h:H) (M:Mem):Prop where
 imm:∀b o,w.imm b=Jp o->h.get b=Jp o
 env:∀id e,w.env id=Jp e->id<M.length
 blk:∀id e b,w.env id=Jp e->e.blk=Jp b->b<h.next
 obj:∀id o,M[id]? =Jp o->kg w h id o
 inj:∀i j x,af w M i x->af w M j x->i=j
 sep:∀i x,af w M i x->w.imm x=Jq/\(w.id0<=i->w.n0<=x)
 base:w.n0<=h.next
structure eg (m:Nat) (w:PWd) (h:H) (M:Mem) (w':PWd) (h':H) (M':Mem):Prop where
 len:m<=M'.length
 le:Le m w w'
 next:h.next<=h'.next
 fc:∀x,x<h.next->(∀id,¬af w M id x)->h'.get x=h.get x
 live:∀id x,af w' M' id x->x<h.next->af w M id x
 new:∀x,w'.imm x≠Jq->w.imm x≠Jq\/h.next<=x\/∃id,m<=id/\af w M id x
def eg.refl{m:Nat}{M:Mem}(hm:m<=M.length)(w:PWd)(h:H):eg m w h M w h M:=
 ⟨hm,Le.refl m w,Ab _,fun _ _ _=>rfl,fun _ _ h _=>h,fun _ h=> .inl h⟩
def eg.trans{m m':Nat}{w1 w2 w3:PWd}{h1 h2 h3:H}{M1 M2 M3:Mem}(p:eg m w1 h1 M1 w2 h2 M2)(q:eg m' w2 h2 M2 w3 h3 M3)(hm:m<=m'):eg m w1 h1 M1 w3 h3 M3 where
 len:=As hm q.len
 le:=p.le.trans q.le hm
 next:=As p.next q.next
 fc:=fun x hx hn=>by rw[q.fc x (Bk hx p.next) (fun id hl=>hn id (p.live id x hl hx)),p.fc x hx hn]
 live:=fun id x hl hx=>p.live id x (q.live id x hl (Bk hx p.next)) hx
 new:=fun x hx=>by
  rcases q.new x hx with e | e | ⟨id,e1,e2⟩
  ·rcases p.new x e with e | e | e
   ·exact .inl e
   ·exact .inr (.inl e)
   ·exact .inr (.inr e)
  ·exact .inr (.inl (As p.next e))
  ·rcases Bi x h1.next with hx1 | hx1
   ·exact .inr (.inr ⟨id,by omega,p.live id x e2 hx1⟩)
   ·exact .inr (.inl hx1)
def af.lt{w:PWd}{M:Mem}{id x:Nat}(h:af w M id x):id<M.length:=by
 obtain⟨o,e,h1,_⟩:=h;rcases Bi id M.length with u | u
 ·exact u
 ·rw[Bu u]at h1;cases h1
def af.next{w:PWd}{h:H}{M:Mem}(s:PSt w h M){id x:Nat}(hl:af w M id x):x<h.next:=by obtain⟨o,e,h1,h2,h3,u⟩:=hl;exact s.blk id e x h3 u
def bf:List PV->Nat->PV
 | [],_=> .aa
 | v::_,0=>v
 | _::l,n+1=>bf l n
def dr:List PV->Nat->PV->List PV
 | [],_,_=>[]
 | _::l,0,v=>v::l
 | x::l,n+1,v=>x::dr l n v
def fy(a:List PV):Option Nat->PV->List PV
 | some d,v=>dr a d v
 | none,_=>a
def qR(a:List PV):List Nat->List PV
 | []=>a
 | t::l=>qR (dr a t .aa) l
def ak.bu{w:PWd} :∀{a:List PV} {a':List AV},ak w a a'->∀t,az w (bf a t) (bu a' t)
 | [],[],h,t=> .aa _
 | [],_::_,h,t=>by have:=h.len;simp at this
 | _::_,[],h,t=>by have:=h.len;simp at this
 | v::a,x::a',h,0=>h.get 0 v x rfl rfl
 | v::a,x::a',h,t+1=>ak.bu (a:=a) (a':=a') ⟨by simpa using h.len,fun i y z h1 h2=>h.get (i+1) y z (by simpa using h1) (by simpa using h2)⟩ t
def ak.tl{w:PWd}{v:PV}{x:AV}{a:List PV}{u:List AV}(h:ak w (v::a) (x::u)):ak w a u:=
 ⟨by simpa using h.len,fun i y z h1 h2=>h.get (i+1) y z (by simpa using h1) (by simpa using h2)⟩
def ak.hd{w:PWd}{v:PV}{x:AV}{a:List PV}{u:List AV}(h:ak w (v::a) (x::u)):az w v x:=h.get 0 v x rfl rfl
def ak.cr{w:PWd} :∀{a:List PV} {B:List AV},ak w a B->∀(t:Nat) {v:PV} {x:AV},az w v x->ak w (dr a t v) (cr B t x)
 | [],[],h,t,v,x,hv=> .nil w
 | [],_::_,h,t,v,x,hv=>by have:=h.len;simp at this
 | _::_,[],h,t,v,x,hv=>by have:=h.len;simp at this
 | u::a,y::B,h,0,v,x,hv=> .cons hv h.tl
 | u::a,y::B,h,t+1,v,x,hv=> .cons h.hd (ak.cr h.tl t hv)
def ak.put{w:PWd}{a:List PV}{u:List AV}(h:ak w a u):∀(d:Option Nat) {v:PV} {x:AV},az w v x->ak w (fy a d v) (put u d x)
 | some d,v,x,hv=>h.cr d hv
 | none,v,x,hv=>h
def ak.be{w:PWd} :∀(l:List Nat) {a:List PV} {u:List AV},ak w a u->ak w (qR a l) (be u l)
 | [],a,u,h=>h
 | t::l,a,u,h=>ak.be l (h.cr t (.aa _))
def bd:AV->PV
 | .bool b=> .bool b
 | .int k n=> .int k n
 | .str s=> .str s
 | .aq=> .aq
 | .ag=> .ai
 | .bc=> .bc
 | .al=> .al
 | .ae=> .ae
 | .func (.func f) [] []=> .func (.func f) [] []
 | _=> .aa
def iw:AV->PV
 | .agg cs=> .agg (cs.map bd)
 | .iface t v=> .iface t (bd v)
 | .bool b=> .bool b
 | .int k n=> .int k n
 | .str s=> .str s
 | .aq=> .aq
 | .ag=> .ai
 | .bc=> .bc
 | .al=> .al
 | .ae=> .ae
 | .func (.func f) [] []=> .func (.func f) [] []
 | .func (.methodOf t n) u []=> .func (.methodOf t n) (u.map bd) []
 | _=> .aa
def pev(a:List PV):AR->PV
 | .tmp t=>bf a t
 | .const v=>iw v
def PV.one:PV->Bool
 | .agg _=>Js
 | .tuple _=>Js
 | .aa=>Js
 | _=>Jr
def fO:PV->List PV
 | .agg cs=>cs
 | v=>[v]
def oR(cs:List PV)(off:Nat)(new:List PV):List PV:=
 match new with
 | [x]=>cs.set off x
 | _=>cs.take off++new++cs.drop (off+new.length)
def dw(a:List PV):List PV->List (Nat×Nat×AR)->Option (List PV)
 | cs,[]=>Jp cs
 | cs,(off,size,x)::rest=>
  if(fO (pev a x)).length=size/\off+size<=cs.length/\(fO (pev a x)).all PV.one=Jr then dw a (oR cs off (fO (pev a x))) rest else Jq
def fY:Nat->List PV->List PV
 | 0,_=>[]
 | n+1,z=>z++fY n z
def dQ(cs:List PV)(o n:Nat):List PV:=(cs.drop o).take n
def eZ:PV->Option AV
 | .bool b=>Jp (.bool b)
 | .int k n=>Jp (.int k n)
 | .str s=>Jp (.str s)
 | _=>Jq
def kA:List PV->Option (List AV)
 | []=>Jp []
 | v::l=>match eZ v,kA l with
  | some x,Jp u=>Jp (x::u)
  | _,_=>Jq
def eE(op:BinOp)(x y:PV):Option PV:=match eZ x,eZ y with
 | some a,Jp b=>(i7 op a b).map bd
 | _,_=>Jq
def pun(op:UnOp)(x:PV):Option PV:=match eZ x with
 | some a=>(aun op a).map bd
 | _=>Jq
def ME(x:PV)(u:List PV):Option PV:=match eZ x,kA u with
 | some a,Jp b=>(oI AD a b).map bd
 | _,_=>Jq
def tZ(x:PV)(u:List PV):Option PV:=match eZ x,kA u with
 | some a,Jp b=>(oI D8 a b).map bd
 | _,_=>Jq
def sE(T:List (Option IntKind))(u y:List PV):Option Bool:=match kA u,kA y with
 | some a,Jp b=>jE T a b
 | _,_=>Jq
def yY(v:PV)(k:IntKind->Int->Prop):Prop:=∃b o,v= .int b o/\k b o
def PU(v:PV)(k:Bool->Prop):Prop:=∃b,v= .bool b/\k b
def TV(v:PV)(k:List PV->Prop):Prop:=∃b,v= .agg b/\k b
def aH4(v:PV)(k:List PV->Prop):Prop:=∃b,v= .tuple b/\k b
def QOb(o:Option bl)(g:Nat)(k:Nat->List PV->Prop):Prop:=∃ver cs,o=Jp (.cells g ver cs)/\k ver cs
def kU{α:Type}(o:Option α)(k:α->Prop):Prop:=∃x,o=Jp x/\k x
def aH6(v:PV)(M:Mem)(k:PV->Prop):Prop:=match v with
 | .ai=>k (p64 0)
 | .sl _ _ _ n _=>k (p64 n)
 | .ref id g _ _ n=>QOb M[id]? g fun _ _=>k (p64 n)
 | _=>False
def aH8(size:Nat)(v i:PV)(M:Mem)(k:PV->Prop):Prop:=match v with
 | .sl _ _ sz n cs=>yY i fun _ j=>(sz=size/\0<=j/\j<n)/\k (.cp cs (j.toNat*size))
 | .ref id g sz off n=>QOb M[id]? g fun _ _=>yY i fun _ j=>(sz=size/\0<=j/\j<n)/\k (.ptr id g (off+j.toNat*size))
 | _=>False
def aDO(len size:Nat)(v i:PV)(M:Mem)(k:PV->Prop):Prop:=match v with
 | .ptr id g o=>QOb M[id]? g fun _ _=>yY i fun _ j=>(0<=j/\j<len)/\k (.ptr id g (o+j.toNat*size))
 | .cp cs o=>yY i fun _ j=>(0<=j/\j<len)/\k (.cp cs (o+j.toNat*size))
 | _=>False
def aH9(off:Nat)(v:PV)(M:Mem)(k:PV->Prop):Prop:=match v with
 | .ptr id g o=>QOb M[id]? g fun _ _=>k (.ptr id g (o+off))
 | .cp cs o=>k (.cp cs (o+off))
 | _=>False
def PM(v:PV)(M:Mem)(k:PV->List Nat->Prop):Prop:=match v with
 | .ptr id g o=>QOb M[id]? g fun _ cs=>kU cs[o]? fun x=>k x [id]
 | .cp cs o=>kU cs[o]? fun x=>k x []
 | _=>False
def EI(n:Nat)(v:PV)(M:Mem)(k:PV->List Nat->Prop):Prop:=match v with
 | .ptr id g o=>QOb M[id]? g fun _ cs=>o+n<=cs.length/\k (.agg (dQ cs o n)) [id]
 | .cp cs o=>o+n<=cs.length/\k (.agg (dQ cs o n)) []
 | _=>False
def TO(n:Nat)(p x:PV)(M:Mem)(k:Mem->List Nat->Prop):Prop:=match p with
 | .ptr id g o=>QOb M[id]? g fun ver cs=>((fO x).length=n/\o+n<=cs.length/\(fO x).all PV.one=Jr)/\k (M.set id (.cells g (ver+1) (oR cs o (fO x)))) [id]
 | _=>False
def qg(size:Nat)(x:PV)(M:Mem)(k:List PV->Nat->Prop):Prop:=match x with
 | .ai=>k [] 0
 | .sl _ _ sz n cs=>sz=size/\k cs n
 | .ref id g sz off n=>QOb M[id]? g fun _ cs=>(sz=size/\off+n*size<=cs.length)/\k (dQ cs off (n*size)) n
 | _=>False
def PK(size:Nat)(x:PV)(M:Mem)(k:List PV->Nat->Prop):Prop:=match x with
 | .str s=>size=1/\k (s.data.toList.map fun b=> .int .u8 b.toNat) s.size
 | x=>qg size x M k
def aDQ(size bytes:Nat)(s x:PV)(M:Mem)(K:PV->Mem->List Nat->List Nat->Prop):Prop:=PK size x M fun new n=>match s with
 | .ai=>(n*bytes<=140737488355328/\n<=9223372036854775807/\new.all PV.one=Jr)/\K (.ref M.length 0 size 0 n) (M++[.cells 0 0 new]) [] []
 | .sl fl own sz m cs=>if n=0 then K (.sl fl own sz m cs) M [] []else(fl=Jr/\own=Jr/\sz=size/\(m+n)*bytes<=140737488355328/\m+n<=9223372036854775807/\new.all PV.one=Jr)/\K (.ref M.length 0 size 0 (m+n)) (M++[.cells 0 0 (cs++new)]) [] []
 | .ref id g sz off m=>QOb M[id]? g fun ver cs=>(sz=size/\off+m*size<=cs.length/\(0<n\/(off=0/\m*size=cs.length))/\(m+n)*bytes<=140737488355328/\m+n<=9223372036854775807/\new.all PV.one=Jr)/\
   K (.ref id (g+1) size 0 (m+n)) (M.set id (.cells (g+1) 0 (dQ cs off (m*size)++new))) [] [id]
 | _=>False
def aGJ(size:Nat)(d x:PV)(M:Mem)(K:PV->Mem->List Nat->List Nat->Prop):Prop:=match d with
 | .ref id g sz off m=>qg size x M fun new n=>QOb M[id]? g fun ver cs=>(sz=size/\off+m*size<=cs.length/\new.all PV.one=Jr)/\
   (if min n m=0 then K (.int .i64 0) M [] []else K (.int .i64 ((min n m:Nat):Int)) (M.set id (.cells g (ver+1) (cs.take off++new.take (min n m*size)++cs.drop (off+min n m*size)))) [] [id])
 | _=>False
def aDP(z:List PV)(x:PV)(M:Mem)(K:PV->Mem->List Nat->List Nat->Prop):Prop:=match x with
 | .ref id g sz off n=>QOb M[id]? g fun ver cs=>(sz=z.length/\off+n*sz<=cs.length/\(fY n z).all PV.one=Jr)/\
   (if n=0 then K (.tuple []) M [] []else K (.tuple []) (M.set id (.cells g (ver+1) (cs.take off++fY n z++cs.drop (off+n*sz)))) [] [id])
 | _=>False
def E8(a:List PV)(x:Option AR)(k:Option Int->Prop):Prop:=match x with
 | none=>k Jq
 | some x=>yY (pev a x) fun _ n=>k (Jp n)
def TP(size:Nat)(v:PV)(l r m:Option Int)(M:Mem)(k:PV->Prop):Prop:=match v with
 | .ai=>(l.getD 0=0/\r.getD 0=0/\(m=Jq\/m=r))/\k .ai
 | .sl fl own sz n cs=>(sz=size/\(m=Jq\/m=r)/\0<=l.getD 0/\l.getD 0<=r.getD n/\r.getD n<=n)/\k (.sl (if own=Jr then(if r.isSome=Jr then Js else fl)else fl) own sz (r.getD n-l.getD 0).toNat (dQ cs ((l.getD 0).toNat*size) ((r.getD n-l.getD 0).toNat*size)))
 | .ref id g sz off n=>QOb M[id]? g fun _ _=>(sz=size/\(m=Jq\/m=r)/\0<=l.getD 0/\l.getD 0<=r.getD n/\r.getD n<=n)/\k (.ref id g sz (off+(l.getD 0).toNat*size) (r.getD n-l.getD 0).toNat)
 | _=>False
def aH5(len size:Nat)(x:PV)(l r:Option Int)(M:Mem)(k:PV->List Nat->Prop):Prop:=match x with
 | .ptr id g o=>QOb M[id]? g fun _ cs=>(o+len*size<=cs.length/\0<=l.getD 0/\l.getD 0<=r.getD len/\r.getD len<=len)/\k (.ref id g size (o+(l.getD 0).toNat*size) (r.getD len-l.getD 0).toNat) [id]
 | _=>False
def pN(l:List PV):Option (List UInt8):=match kA l with
 | some x=>jS x
 | none=>Jq
def aIa(x:PV)(M:Mem)(k:PV->List Nat->Prop):Prop:=match x with
 | .ai=>k (.str ⟨#[]⟩) []
 | .sl _ _ sz n cs=>sz=1/\kU (pN cs) fun s=>k (.str ⟨s.toArray⟩) []
 | .ref id g sz off n=>QOb M[id]? g fun _ cs=>(sz=1/\off+n<=cs.length)/\kU (pN (dQ cs off n)) fun s=>k (.str ⟨s.toArray⟩) [id]
 | _=>False
def PL(kd:Nat)(x y:PV)(M:Mem)(k:Bool->Prop):Prop:=match kd,x,y with
 | 0,.ai,.ai=>k Jr
 | 0,.sl _ _ _ n _,.ai=>if n=0 then k Jr/\k Js else k Js
 | 0,.ref id g _ _ n,.ai=>QOb M[id]? g fun _ _=>if n=0 then k Jr/\k Js else k Js
 | 1,.aq,.aq=>k Jr
 | 1,.ptr id g _,.aq=>QOb M[id]? g fun _ _=>k Js
 | 3,.al,.al=>k Jr
 | 3,.func ..,.al=>k Js
 | 4,.ae,.ae=>k Jr
 | 4,.iface ..,.ae=>k Js
 | _,_,_=>False
def aF8(v:PV)(k:ByteArray->Prop):Prop:=match v with
 | .str s=>k s
 | _=>False
def aH7(v:PV)(u:Prop)(y:TypeId->PV->Prop):Prop:=match v with
 | .ae=>u
 | .iface t v=>y t v
 | _=>False
def iJ:List PV->TypeId->Option FuncId
 | .int _ u:: .int _ g::r,t=>if u=(t:Int)then Jp g.toNat else iJ r t
 | _,_=>Jq
def aGI(u:List PV)(args:List PV)(k:FuncId->List PV->Prop):Prop:=match args with
 | .iface t v::rest=>∃g,iJ u t=Jp g/\k g (v::rest)
 | _=>False
def CV:PV->Bool
 | .cp .. =>Jr
 | .func (.method _) _ _=>Js
 | .func .. =>Jr
 | .iface .. =>Jr
 | _=>Js
def EH(v:PV)(M:Mem)(k:Prop):Prop:=match v with
 | .ptr id g _=>QOb M[id]? g fun _ _=>k
 | v=>CV v=Jr/\k
def fZ(kd:Nat)(k:AV):List (PV×PV)->Option (Option PV)
 | []=>Jp Jq
 | (u,v)::y=>match eZ u with
  | some k2=>match zU kd k k2 with
   | some Jr=>Jp (Jp v)
   | some Js=>fZ kd k y
   | none=>Jq
  | none=>Jq
def kK(kd:Nat)(key:PV)(k:AV)(v:PV):List (PV×PV)->List (PV×PV)
 | []=>[(key,v)]
 | (u,B)::y=>match eZ u with
  | some k2=>match zU kd k k2 with
   | some Jr=>(key,v)::y
   | _=>(u,B)::kK kd key k v y
  | none=>(u,B)::kK kd key k v y
def zK(u:Bool)(z:PV):Option PV->PV
 | some v=>if u=Jr then .tuple [v,.bool Jr]else v
 | none=>if u=Jr then .tuple [z,.bool Js]else z
def QMp(o:Option bl)(k:Nat->List (PV×PV)->Prop):Prop:=∃ver u,o=Jp (.map ver u)/\k ver u
def aDL(kd:Nat)(u:Bool)(z x i:PV)(M:Mem)(K:PV->Mem->List Nat->List Nat->Prop):Prop:=match x,eZ i with
 | .map id,Jp k=>QMp M[id]? fun _ y=>kU (fZ kd k y) fun r=>K (zK u z r) M [id] []
 | _,_=>False
def aDM(x:PV)(M:Mem)(k:PV->List Nat->Prop):Prop:=match x with
 | .map id=>QMp M[id]? fun _ u=>k (p64 u.length) [id]
 | _=>False
def aDK(kd:Nat)(m i v:PV)(M:Mem)(K:PV->Mem->List Nat->List Nat->Prop):Prop:=match m,eZ i with
 | .map id,Jp k=>QMp M[id]? fun ver u=>kU (fZ kd k u) fun _=>v.one=Jr/\K (.tuple []) (M.set id (.map (ver+1) (kK kd i k v u))) [] [id]
 | _,_=>False
def GH(b:Bool)(x y:PV):PV:=if b=Jr then x else y
def pI:bl->bl->Bool
 | .cells g v _,.cells y u _=>g==y&&v==u
 | .map v _,.map u _=>v==u
 | .loop v _,.loop u _=>v==u
 | .gone,.gone=>Jr
 | _,_=>Js
def f8:Nat->Mem->Mem->List Nat
 | _,[],_=>[]
 | i,_::M,[]=>i::f8 (i+1) M []
 | i,o::M,y::u=>if pI o y=Jr then f8 (i+1) M u else i::f8 (i+1) M u
def V0(M u:Mem):List Nat:=f8 0 M u
structure ko where
 idx:Nat
 rd:List Nat
 chg:List Nat
 Mb:Mem
 na:Nat
def lg(u M:Mem)(id:Nat):Bool:=match u[id]?,M[id]? with
 | some (.cells g _ _),Jp (.cells y _ _)=>g==y
 | some (.map _ _),Jp (.map _ _)=>Jr
 | some (.loop _ _),Jp (.loop _ _)=>Jr
 | _,_=>Js
def jc(u:Bool)(rd y:List Nat)(M:Mem)(B:List ko)(chk:List Nat):Bool:=
 B.all fun e=>if chk.contains e.idx then(if u then y.all (fun id=> !e.rd.contains id&&(lg e.Mb M id||decide (e.na<=id)))else e.chg.all fun id=> !rd.contains id)else Jr
section
variable (tab:FuncId->Option AF)
def au(g:FuncId)(args:List PV)(M:Mem)(K:PV->Mem->Prop):Prop:=
 ∀(w:PWd) (h:H) (u:List AV),w.id0<=M.length->PSt w h M->ak w args u->
  C (lim tab) g u h fun v B=>∃w' r y,eg M.length w h M w' B y/\PSt w' B y/\az w' r v/\K r y
def TJ(id:Nat)(args:List PV)(M:Mem)(K:PV->Mem->Prop):Prop:=
 ∀(w:PWd) (h:H) (b:Nat) (u:List AV),w.id0<=M.length->PSt w h M->af w M id b->ak w args u->
  EL (lim tab) (.func (.yield b) [] []) u h fun v B=>∃w' r y,eg M.length w h M w' B y/\PSt w' B y/\az w' r v/\K r y
def Lf(m:Nat)(w:PWd)(h:H)(M:Mem)(Q:List PV->Mem->Prop)(B:List AV)(y:H):Prop:=
 ∃w' a u,eg m w h M w' y u/\PSt w' y u/\ak w' a B/\Q a u
def fL(m:Nat)(c:AC)(a:List PV)(M:Mem)(y B:List PV->Mem->Prop)(E:Nat->List PV->Mem->Prop):Prop:=
 ∀(w:PWd) (h:H) (u:List AV),w.id0<=m->m<=M.length->PSt w h M->ak w a u->
  W (lim tab) c u h (Lf m w h M y) (Lf m w h M B) fun i=>Lf m w h M (E i)
def EJ(f:PV)(args:List PV)(M:Mem)(K:PV->Mem->Prop):Prop:=match f with
 | .func (.func g) first u=>au tab g (first++args++u) M K
 | .func (.methodOf _ _) y _=>aGI y args fun g l=>au tab g l M K
 | .yld id first=>(∃ver r,M[id]? =Jp (.loop ver r))/\TJ tab id (first++args) M K
 | _=>False
def KPC(M:Mem)(K:PV->Mem->List Nat->List Nat->Prop)(v:PV)(u:Mem):Prop:=K v u [] (V0 M u)
def PS(o:AO)(a:List PV)(M:Mem)(K:PV->Mem->List Nat->List Nat->Prop):Prop:=match o with
 | .move x=>K (pev a x) M [] []
 | .pick c x y=>PU (pev a c) fun b=>K (GH b (pev a x) (pev a y)) M [] []
 | .alloc cs=>K (.ptr M.length 0 0) (M++[.cells 0 0 (cs.map bd)]) [] []
 | .box x=>(fO (pev a x)).all PV.one=Jr/\K (.ptr M.length 0 0) (M++[.cells 0 0 (fO (pev a x))]) [] []
 | .build z E=>kU (dw a (z.map bd) E) fun cs=>K (.agg cs) M [] []
 | .buildSlice size len z E=>(z.length=size/\0<size)/\kU (dw a (fY len (z.map bd)) E) fun cs=>K (.sl Jr Jr size len cs) M [] []
 | .load x=>PM (pev a x) M fun v rd=>K v M rd []
 | .eh n x=>EI n (pev a x) M fun v rd=>K v M rd []
 | .store n p x=>TO n (pev a p) (pev a x) M fun L G=>K (.tuple []) L [] G
 | .nilCheck x=>EH (pev a x) M (K (pev a x) M [] [])
 | .bin op x y=>kU (eE op (pev a x) (pev a y)) fun v=>K v M [] []
 | .eqB neg x y=>PU (pev a x) fun p=>PU (pev a y) fun q=>K (.bool (if neg=Jr then !(p==q)else p==q)) M [] []
 | .isNil kd neg x y=>PL kd (pev a x) (pev a y) M fun b=>K (.bool (if neg=Jr then !b else b)) M [] []
 | .ec neg T x y=>TV (pev a x) fun p=>TV (pev a y) fun q=>kU (sE T p q) fun b=>K (.bool (if neg=Jr then !b else b)) M [] []
 | .un op x=>kU (pun op (pev a x)) fun v=>K v M [] []
 | .du k x=>yY (pev a x) fun _ n=>K (.int k (k.wrap n)) M [] []
 | .ig fn f c=>(∃g,fn= .func g)/\K (.func fn (f.map (pev a)) (c.map (pev a))) M [] []
 | .makeSlice bytes z n c=>yY (pev a n) fun I l=>yY (pev a c) fun kw m=>(I= .i64/\kw= .i64/\0<=l/\l<=m/\m*bytes<=140737488355328/\m<=9223372036854775807)/\K (.ref M.length 0 z.length 0 l.toNat) (M++[.cells 0 0 (fY l.toNat (z.map bd))]) [] []
 | .slice size x u B O=>E8 a u fun l=>E8 a B fun r=>E8 a O fun m=>TP size (pev a x) l r m M fun v=>K v M [] []
 | .fieldAddr off x=>aH9 off (pev a x) M fun v=>K v M [] []
 | .field off Jq x=>TV (pev a x) fun cs=>kU cs[off]? fun v=>K v M [] []
 | .field off (Jp n) x=>TV (pev a x) fun cs=>off+n<=cs.length/\K (.agg (dQ cs off n)) M [] []
 | .indexAddr size x i=>aH8 size (pev a x) (pev a i) M fun v=>K v M [] []
 | .bq len size x i=>aDO len size (pev a x) (pev a i) M fun v=>K v M [] []
 | .index len size isAgg x i=>TV (pev a x) fun cs=>yY (pev a i) fun _ j=>(0<=j/\j<len)/\(if isAgg=Jr then j.toNat*size+size<=cs.length/\K (.agg (dQ cs (j.toNat*size) size)) M [] []else kU cs[j.toNat*size]? fun v=>K v M [] [])
 | .extract x i=>aH4 (pev a x) fun Q=>kU Q[i]? fun v=>K v M [] []
 | .call f args=>EJ tab (pev a f) (args.map (pev a)) M (KPC M K)
 | .append size bytes s x=>0<size/\aDQ size bytes (pev a s) (pev a x) M K
 | .len x=>aH6 (pev a x) M fun v=>K v M [] []
 | .bz bytes z s x=>pev a s= .ai/\yY (pev a x) fun I n=>I= .i64/\(if n=0 then K .ai M [] []else(0<=n/\n*bytes<=140737488355328/\n<=9223372036854775807)/\K (.ref M.length 0 z.length 0 n.toNat) (M++[.cells 0 0 (fY n.toNat (z.map bd))]) [] [])
 | .dq x i=>∃s,pev a x= .str s/\yY (pev a i) fun _ k=>0<=k/\kU s[k.toNat]? fun c=>K (.int .u8 c.toNat) M [] []
 | .iv x=>∃s,pev a x= .str s/\K (p64 s.size) M [] []
 | .ew x u B=>∃s,pev a x= .str s/\E8 a u fun l=>E8 a B fun r=>(0<=l.getD 0/\l.getD 0<=r.getD s.size/\r.getD s.size<=s.size)/\K (.str (s.extract (l.getD 0).toNat (r.getD s.size).toNat)) M [] []
 | .dj len size x u B=>E8 a u fun l=>E8 a B fun r=>aH5 len size (pev a x) l r M fun v rd=>K v M rd []
 | .cg x=>aIa (pev a x) M fun v rd=>K v M rd []
 | .iz size d x=>aGJ size (pev a d) (pev a x) M K
 | .fp z x=>aDP (z.map bd) (pev a x) M K
 | .max x J=>kU (ME (pev a x) (J.map (pev a))) fun v=>K v M [] []
 | .min x J=>kU (tZ (pev a x) (J.map (pev a))) fun v=>K v M [] []
 | .makeMap=>K (.map M.length) (M++[.map 0 []]) [] []
 | .lookup kd R z x i=>aDL kd R (bd z) (pev a x) (pev a i) M K
 | .ii x=>aDM (pev a x) M fun v rd=>K v M rd []
 | .mapUpdate kd m i v=>aDK kd (pev a m) (pev a i) (pev a v) M K
 | .gp t x=>K (.iface t (pev a x)) M [] []
 | .cz x=>aF8 (pev a x) fun s=>s.size<=140737488355328/\K (.sl Jr Js 1 s.size (s.data.toList.map fun b=> .int .u8 b.toNat)) M [] []
 | .ot t z x=>aH7 (pev a x) (K (.tuple [bd z,.bool Js]) M [] []) fun S v=>K (if S=t then .tuple [v,.bool Jr]else .tuple [bd z,.bool Js]) M [] []
 | _=>False
def oM(v:PV)(u:Bool)(A B:Prop):Prop:=(∃b,v= .bool b/\(if b=u then A else B))\/(∃l,v= .tuple l/\B)
def PO:List aw->List PV->Mem->(List PV->Mem->Prop)->Prop
 | [],a,M,Q=>Q a M
 | ⟨d,o,Jq,_⟩::os,a,M,Q=>PS tab o a M fun v y _ _=>PO os (fy a d v) y Q
 | ⟨d,o,Jp (t,u),_⟩::os,a,M,Q=>oM (bf a t) u (PS tab o a M fun v y _ _=>PO os (fy a d v) y Q) (PO os (fy a d (.tuple [])) M Q)
def PD:List aw->Nat->List PV->Mem->List ko->(List PV->Mem->Prop)->Prop
 | [],_,a,M,_,Q=>Q a M
 | ⟨d,o,Jq,chk⟩::os,i,a,M,u,Q=>PS tab o a M fun v B rd y=>jc o.effect rd y M u chk=Jr/\PD os (i+1) (fy a d v) B (⟨i,rd,y,M,B.length⟩::u) Q
 | ⟨d,o,Jp (t,E),chk⟩::os,i,a,M,u,Q=>oM (bf a t) E (PS tab o a M fun v B rd y=>jc o.effect rd y M u chk=Jr/\PD os (i+1) (fy a d v) B (⟨i,rd,y,M,B.length⟩::u) Q) (PD os (i+1) (fy a d (.tuple [])) M u Q)
def PQ(v:PV)(A B:Prop):Prop:=∃b,v= .bool b/\(if b=Jr then A else B)
def PX(m:Nat):AC->List PV->Mem->(List PV->Mem->Prop)->(List PV->Mem->Prop)->(Nat->List PV->Mem->Prop)->Prop
 | .skip,a,M,u,B,E=>u a M
 | .region os,a,M,u,B,E=>PO tab os a M u
 | .ff os,a,M,u,B,E=>PD tab os 0 a M [] u
 | .seq x y,a,M,u,B,E=>PX m x a M (fun a M=>PX m y a M u B E) B E
 | .cond c x y,a,M,u,B,E=>PQ (pev a c) (PX m x a M u B E) (PX m y a M u B E)
 | .block id x,a,M,u,B,E=>PX m x a M u B (fun i a M=>if i=id then u a M else E i a M)
 | .loop I x,a,M,u,B,E=>fL tab m (.loop I x) a M u B E
 | .rangeFunc f J G body,a,M,u,B,E=>fL tab m (.rangeFunc f J G body) a M u B E
 | .exit id,a,M,u,B,E=>E id a M
 | .ret,a,M,u,B,E=>B a M
end
def jY(w:PWd)(v:AV):az w (bd v) v:=by
 unfold bd;split
 ·exact .bool _
 ·exact .int _ _
 ·exact .str _
 ·exact .aq
 ·exact .ai
 ·exact .bc
 ·exact .al
 ·exact .ae
 ·exact .func (fun l e=>by cases e) rfl rfl (fun i y z h=>by simp at h) (fun i y z h=>by simp at h)
 ·exact .aa _
def gS(w:PWd)(l:List AV):ak w (l.map bd) l:=
 ⟨by simp,fun i y z h1 h2=>by rw[Ap,h2]at h1;cases h1;exact jY w z⟩
def aAW(w:PWd)(v:AV):az w (iw v) v:=by
 unfold iw;split
 ·exact .agg (gS w _).len (gS w _).get
 ·exact .iface (jY w _)
 ·exact .bool _
 ·exact .int _ _
 ·exact .str _
 ·exact .aq
 ·exact .ai
 ·exact .bc
 ·exact .al
 ·exact .ae
 ·exact .func (fun l e=>by cases e) rfl rfl (fun i y z h=>by simp at h) (fun i y z h=>by simp at h)
 ·exact .func (fun l e=>by cases e) (by simp) rfl (gS w _).get (fun i y z h=>by simp at h)
 ·exact .aa _
def bE{w:PWd}{a:List PV}{u:List AV}(h:ak w a u)(x:AR):az w (pev a x) (ev u x):=by
 cases x with
 | tmp t=>exact h.bu t
 | const v=>exact aAW w v
def r9{w:PWd}{a:List PV}{B:List AV}(h:ak w a B)(u:List AR):ak w (u.map (pev a)) (u.map (ev B)):=
 ⟨by simp,fun i y z h1 h2=>by
  rw[Ap]at h1 h2
  cases E:u[i]? with
  | none=>rw[E]at h1;cases h1
  | some x=>rw[E]at h1 h2;cases h1;cases h2;exact bE h x⟩
def gK{w:PWd}{v:PV}{x:AV}(h:az w v x)(h1:v.one=Jr):x.one=Jr:=by cases h<;>first | rfl | assumption | (simp[PV.one]at h1)
def wC{w:PWd}{l:List PV}{y:List AV}(h:ak w l y)(h1:l.all PV.one=Jr):y.all AV.one=Jr:=by
 rw[Cb]at h1 ⊢;intro x E;obtain⟨i,B,rfl⟩:=List.getElem_of_mem E;have u:i<l.length:=by rw[h.len];exact B
 exact gK (h.get i _ _ (Ad u) (Ad B)) (h1 _ (List.getElem_mem u))
def YH{x:AV}(h:x.one=Jr):x.cells=[x]:=by cases x<;>first | rfl | (simp[AV.one]at h)
def xW{w:PWd}{v:PV}{x:AV}(h:az w v x)(h1:(fO v).all PV.one=Jr):ak w (fO v) x.cells/\x.cells.all AV.one=Jr:=by
 have u:ak w (fO v) x.cells:=by
  by_cases hv:∃cs,v= .agg cs
  ·obtain⟨cs,rfl⟩:=hv
   cases h with
   | agg B E=>exact⟨B,E⟩
  ·have G:fO v=[v]:=by cases v<;>first | rfl | (exact absurd ⟨_,rfl⟩ hv)
   rw[G]at h1 ⊢;have y:v.one=Jr:=by simpa using h1
   rw[YH (gK h y)];exact .cons h (.nil w)
 exact⟨u,wC u h1⟩
def jX{w:PWd}{v:PV}{x y:AV}(h:az w v x)(e:eZ v=Jp y):x=y:=by cases h<;>simp[eZ]at e<;>exact e
def nT{w:PWd} :∀{l:List PV} {u y:List AV},ak w l u->kA l=Jp y->u=y
 | [],u,y,h,e=>by
  have:=h.len
  cases u with
  | nil=>simp[kA]at e;exact e.symm
  | cons=>simp at this
 | v::l,[],y,h,e=>by have:=h.len;simp at this
 | v::l,x::u,y,h,e=>by
  unfold kA at e;split at e
  ·rename_i a b h1 h2;cases e;rw[jX h.hd h1,nT h.tl h2]
  ·cases e
def sH:∀(cs:List AV) (off:Nat) (new:List AV),off+new.length<=cs.length->over cs off new=cs.take off++new++cs.drop (off+new.length)
 | cs,0,new,h=>by simp[over]
 | [],off+1,new,h=>by simp at h
 | c::cs,off+1,new,h=>by simp only[over];rw[sH cs off new (by simp at h;omega),Nat.add_right_comm];rfl
def L4{w:PWd}{cs new:List PV}{y u:List AV}(h:ak w cs y)(E:ak w new u){off:Nat}(G:off+new.length<=cs.length):ak w (oR cs off new) (over y off u):=by
 rw[sH y off u (by rw[<-E.len,<-h.len];exact G),<-E.len];have B:ak w (cs.take off++new++cs.drop (off+new.length)) (y.take off++u++y.drop (off+new.length)):=((h.take off).append E).append (h.drop _);unfold oR;split
 ·rename_i x;have:cs.set off x=cs.take off++[x]++cs.drop (off+[x].length):=by rw[List.set_eq_take_append_cons_drop,if_pos (by simp at G;omega)];simp
  rw[this];exact B
 ·exact B
def IL{cs:List PV}{off:Nat}{new:List PV}(u:off+new.length<=cs.length):(oR cs off new).length=cs.length:=by
 unfold oR;split
 ·simp
 ·simp;omega
def pM{w:PWd}{a:List PV}{G:List AV}(J:ak w a G):∀(y:List (Nat×Nat×AR)) {cs:List PV} {u:List AV} {r:List PV},ak w cs u->dw a cs y=Jp r->∃B,uA G u y=Jp B/\ak w r B
 | [],cs,u,r,E,e=>by simp only[dw]at e;cases e;exact⟨u,rfl,E⟩
 | (off,size,x)::y,cs,u,r,E,e=>by
  simp only[dw]at e;split at e
  ·rename_i K;obtain⟨h1,h2,h3⟩:=K;obtain⟨k1,k2⟩:=xW (bE J x) h3;have hl:(ev G x).cells.length=size:=by rw[<-k1.len];exact h1
   have I:off+size<=u.length:=by rw[<-E.len];exact h2
   obtain⟨B,L,M⟩:=pM J y (L4 E k1 (by omega)) e;refine⟨B,?_,M⟩;simp only[uA];rw[if_pos (by simp[hl,I];simpa using k2)];exact L
  ·cases e
def m8{w:PWd}{z:List PV}{u:List AV}(h:ak w z u):∀n,ak w (fY n z) (kY n u)
 | 0=> .nil w
 | n+1=>h.append (m8 h n)
def qT(z:List PV):∀n,(fY n z).length=n*z.length
 | 0=>by simp[fY]
 | n+1=>by simp[fY,qT z n,Nat.succ_mul];omega
def jP{w:PWd}{l:List PV}{u:List AV}(h:ak w l u)(o n:Nat):ak w (dQ l o n) ((u.drop o).take n):=(h.drop o).take n
def PSt.jy{w:PWd}{h:H}{M:Mem}(s:PSt w h M){id g ver:Nat}{cs:List PV}(hm:M[id]? =Jp (.cells g ver cs)):
  ∃e,w.env id=Jp e/\e.g=g/\((e.blk=Jq/\cs=[])\/∃b u,e.blk=Jp b/\h.get b=Jp (.cells (e.v0+ver) Jr u)/\ak w cs u/\af w M id b):=by
 obtain⟨e,h1,h2,h3⟩:=s.obj _ _ hm;refine⟨e,h1,h2,?_⟩
 cases hb:e.blk with
 | none=>rw[hb]at h3;exact .inl ⟨rfl,h3⟩
 | some b=>rw[hb]at h3;obtain⟨u,y,B⟩:=h3;exact .inr ⟨b,u,rfl,y,B,_,e,hm,by simp,h1,hb⟩
def PSt.iu{w:PWd}{h:H}{M:Mem}(s:PSt w h M){id g o ver:Nat}{cs:List PV}(hm:M[id]? =Jp (.cells g ver cs)){x:AV}(G:az w (.ptr id g o) x):
  ∃e b u,x= .ptr b o/\w.env id=Jp e/\e.g=g/\e.blk=Jp b/\h.get b=Jp (.cells (e.v0+ver) Jr u)/\ak w cs u/\af w M id b:=by
 obtain⟨e,h1,h2,h3⟩:=s.jy hm
 cases G with
 | ptr B E y=>
  rw[h1]at B;cases B;rcases h3 with⟨h3,_⟩ | ⟨b,u,h3,I,J,K⟩
  ·rw[h3]at y;cases y
  ·rw[h3]at y;cases y;exact⟨e,_,u,rfl,h1,h2,h3,I,J,K⟩
 | jo L B E y=>rw[h1]at E;cases E;omega
def PSt.ic{w:PWd}{h:H}{M:Mem}(s:PSt w h M){id g sz off n ver:Nat}{cs:List PV}(hm:M[id]? =Jp (.cells g ver cs)){x:AV}(I:az w (.ref id g sz off n) x):
  ∃e,w.env id=Jp e/\e.g=g/\((x= .ag/\off=0/\n=0/\e.blk=Jq/\cs=[])\/∃fl b u,x= .slice fl sz b off n/\e.blk=Jp b/\h.get b=Jp (.cells (e.v0+ver) Jr u)/\ak w cs u/\af w M id b):=by
 obtain⟨e,h1,h2,h3⟩:=s.jy hm;refine⟨e,h1,h2,?_⟩
 cases I with
 | ref B E y=>
  rw[h1]at B;cases B;rcases h3 with⟨h3,_⟩ | ⟨b,u,h3,G,J,K⟩
  ·rw[h3]at y;cases y
  ·rw[h3]at y;cases y;exact .inr ⟨_,_,u,rfl,h3,G,J,K⟩
 | jk B E y=>
  rw[h1]at B;cases B;rcases h3 with⟨h3,G⟩ | ⟨b,u,h3,_⟩
  ·exact .inl ⟨rfl,rfl,rfl,h3,G⟩
  ·rw[h3]at y;cases y
 | kj L B E y=>rw[h1]at E;cases E;omega
def U2(M y:Mem)(id:Nat):Prop:=∃o u,M[id]? =Jp o/\y[id]? =Jp u/\pI o u=Jr
def mJ(o:bl):pI o o=Jr:=by cases o<;>simp[pI]
def RA{M:Mem}{id:Nat}(h:id<M.length):U2 M M id:=⟨M[id],M[id],Ad h,Ad h,mJ _⟩
def aF6(w:PWd)(h:H)(M:Mem)(rd:List Nat)(u:List Nat):Prop:=∀x∈rd,x<h.next/\(w.imm x≠Jq\/∃id∈u,af w M id x)
def dx(M y:Mem)(u:List Nat):Prop:=∀id,id<M.length->id∉u->U2 M y id
def dx.refl(M:Mem)(u:List Nat):dx M M u:=fun id y _=>RA y
def dx.app(M l:Mem)(u:List Nat):dx M (M++l) u:=fun id y _=>⟨M[id],M[id],Ad y,by rw[Bm y];exact Ad y,mJ _⟩
def dx.set(M:Mem)(i:Nat)(o:bl):dx M (M.set i o) [i]:=fun id y B=>by have u:i≠id:=fun e=>B (by simp[e]);exact⟨M[id],M[id],Ad y,by rw[Bt u];exact Ad y,mJ _⟩
def bw(w:PWd)(h:H)(M:Mem)(r:Option (AV×H×List Nat))(K:PV->Mem->List Nat->List Nat->Prop):Prop:=
 ∃v E rd,r=Jp (v,E,rd)/\∃w' p B u y,eg M.length w h M w' E B/\PSt w' E B/\az w' p v/\aF6 w h M rd u/\dx M B y/\K p B u y
def bw.pure{w:PWd}{h:H}{M:Mem}{K:PV->Mem->List Nat->List Nat->Prop}(s:PSt w h M){r:Option (AV×H×List Nat)}{v:AV}{p:PV}{prd:List Nat}(hr:r=Jp (v,h,[]))(hv:az w p v)(u:K p M prd []):bw w h M r K:=
 ⟨v,h,[],hr,w,p,M,prd,[],eg.refl (Ab _) w h,s,hv,(fun x y=>by cases y),dx.refl M _,u⟩
def bw.read{w:PWd}{h:H}{M:Mem}{K:PV->Mem->List Nat->List Nat->Prop}(s:PSt w h M){r:Option (AV×H×List Nat)}{v:AV}{p:PV}{rd prd:List Nat}(hr:r=Jp (v,h,rd))(hv:az w p v)(u:aF6 w h M rd prd)(y:K p M prd []):bw w h M r K:=
 ⟨v,h,rd,hr,w,p,M,prd,[],eg.refl (Ab _) w h,s,hv,u,dx.refl M _,y⟩
def PWd.bx(w:PWd)(id:Nat)(e:Ent):PWd:={w with env:=fun i=>if i=id then Jp e else w.env i}
def PWd.gh(w:PWd)(b:Nat)(o:cq):PWd:={w with imm:=fun x=>if x=b then Jp o else w.imm x}
def DD{w:PWd}{m id:Nat}{e:Ent}(hm:m<=id):Le m w (w.bx id e):=
 ⟨rfl,rfl,fun _ _ h=>h,fun i y u he=>⟨u,by show(if i=id then _ else _)=_;rw[if_neg (by omega)];exact he,.inr rfl⟩⟩
def NL{w:PWd}{m id:Nat}{e y:Ent}(h0:w.env id=Jp y)(hg:y.g<e.g):Le m w (w.bx id e):=
 ⟨rfl,rfl,fun _ _ h=>h,fun i u B he=>by
  by_cases u:i=id
  ·subst u;rw[h0]at he;cases he;exact⟨e,by show(if i=i then _ else _)=_;rw[if_pos rfl],.inl hg⟩
  ·exact⟨B,by show(if i=id then _ else _)=_;rw[if_neg u];exact he,.inr rfl⟩⟩
def uM{w:PWd}{m b:Nat}{o:cq}(y:w.imm b=Jq):Le m w (w.gh b o):=
 ⟨rfl,rfl,fun x E u=>by
  show(if x=b then _ else _)=_;by_cases e:x=b
  ·subst e;rw[y]at u;cases u
  ·rw[if_neg e];exact u,fun i G B he=>⟨B,he,.inr rfl⟩⟩
def PSt.ij{w:PWd}{h:H}{M:Mem}(s:PSt w h M){b:Nat}{o:cq}(hb:w.imm b=Jp o):b<h.next:=H.bj (s.imm b o hb)
def kg.mono{w w':PWd}{h J:H}{M:Mem}(s:PSt w h M)(hl:Le M.length w w'){id:Nat}{o:bl}(E:kg w h id o)(he:∀e,w.env id=Jp e->w'.env id=Jp e)(hh:∀e b,w.env id=Jp e->e.blk=Jp b->J.get b=h.get b):kg w' J id o:=by
 cases o with
 | cells g ver cs=>
  obtain⟨e,h1,h2,h3⟩:=E;refine⟨e,he e h1,h2,?_⟩
  cases hb:e.blk with
  | none=>rw[hb]at h3;exact h3
  | some b=>rw[hb]at h3;obtain⟨G,B,u⟩:=h3;exact⟨G,by rw[hh e b h1 hb];exact B,u.mono hl s.env⟩
 | map ver L=>obtain⟨e,b,h1,h2,h3,I,B,u⟩:=E;exact⟨e,b,he e h1,h2,h3,I,by rw[hh e b h1 h3];exact B,u.len,fun i y z p q=>⟨(u.get i y z p q).1.mono hl s.env,(u.get i y z p q).2.mono hl s.env⟩⟩
 | loop ver r=>obtain⟨e,b,h1,h2,h3,K,B,u⟩:=E;exact⟨e,b,he e h1,h2,h3,K,by rw[hh e b h1 h3];exact B,u.state,u.pending,u.params,u.assign,u.body,u.tmps.mono hl s.env⟩
 | gone=>trivial
def PSt.alloc{w:PWd}{h:H}{M:Mem}(s:PSt w h M){o:bl}{o':cq}{e:Ent}(hb:e.blk=Jp h.next)(R:∀w',Le M.length w w'->w'.env M.length=Jp e->kg w' (h.alloc o') M.length o):
  PSt (w.bx M.length e) (h.alloc o') (M++[o])/\eg M.length w h M (w.bx M.length e) (h.alloc o') (M++[o]):=by
 have hl:Le M.length w (w.bx M.length e):=DD (Ab _);have y:(w.bx M.length e).env M.length=Jp e:=by show(if _=_ then _ else _)=_;rw[if_pos rfl]
 have hold:∀i,i≠M.length->(w.bx M.length e).env i=w.env i:=fun i u=>by show(if _=_ then _ else _)=_;rw[if_neg u]
 have live:∀i x,af (w.bx M.length e) (M++[o]) i x->(i=M.length/\x=h.next)\/(i<M.length/\af w M i x):=by
  rintro i x ⟨G,E,h1,h2,h3,J⟩;by_cases u:i=M.length
  ·subst u;rw[y]at h3;cases h3;rw[hb]at J;cases J;exact .inl ⟨rfl,rfl⟩
  ·rw[hold i u]at h3;have hlt:=s.env i E h3;rw[Bm hlt]at h1;exact .inr ⟨hlt,G,E,h1,h2,h3,J⟩
 refine⟨⟨?_,?_,?_,?_,?_,?_,?_⟩,⟨?_,hl,?_,?_,?_,?_⟩⟩
 ·intro b G u;exact H.fh (s.imm b G u)
 ·intro i E he;by_cases u:i=M.length
  ·subst u;simp
  ·rw[hold i u]at he;have:=s.env i E he;simp;omega
 ·intro i E b he B;by_cases u:i=M.length
  ·subst u;rw[y]at he;cases he;rw[hb]at B;cases B;simp
  ·rw[hold i u]at he;have:=s.blk i E b he B;simp;omega
 ·intro i G u;rcases Bi i M.length with hlt | K
  ·rw[Bm hlt]at u;refine kg.mono s hl (s.obj i G u) (fun E he=>by rw[hold i (by omega)];exact he) fun E b he B=>?_;rw[H.ay,if_neg (by have:=s.blk i E b he B;omega)]
  ·rw[Bv K]at u;have:i=M.length:=by
    rcases Bi (i-M.length) 1 with q | q
    ·omega
    ·rw[Bu (by simpa using q)]at u;cases u
   subst this;simp at u;subst u;exact R _ hl y
 ·intro i j x h1 h2;rcases live i x h1 with⟨rfl,rfl⟩ | ⟨u,I⟩<;>rcases live j _ h2 with⟨rfl,S⟩ | ⟨T,O⟩
  ·rfl
  ·have:=O.next s;omega
  ·subst S;have:=I.next s;omega
  ·exact s.inj i j x I O
 ·intro i x h1;rcases live i x h1 with⟨rfl,rfl⟩ | ⟨u,I⟩
  ·refine⟨?_,fun _=>s.base⟩
   cases Q:w.imm h.next with
   | none=>exact Q
   | some G=>have:=s.ij Q;omega
  ·exact s.sep i x I
 ·have:=s.base;show w.n0<=h.next+1;omega
 ·simp
 ·simp
 ·intro x L _;rw[H.ay,if_neg (by omega)]
 ·intro i x h1 L;rcases live i x h1 with⟨_,rfl⟩ | ⟨_,I⟩
  ·omega
  ·exact I
 ·intro x L;exact .inl L
def PSt.me{w:PWd}{h:H}{M:Mem}(s:PSt w h M)(u:cq):
  PSt (w.gh h.next u) (h.alloc u) M/\eg M.length w h M (w.gh h.next u) (h.alloc u) M/\(w.gh h.next u).imm h.next=Jp u:=by
 have O:w.imm h.next=Jq:=by
  cases Q:w.imm h.next with
  | none=>rfl
  | some J=>have:=s.ij Q;omega
 have hl:Le M.length w (w.gh h.next u):=uM O;have B:∀x,x≠h.next->(w.gh h.next u).imm x=w.imm x:=fun x I=>by show(if _=_ then _ else _)=_;rw[if_neg I]
 have y:(w.gh h.next u).imm h.next=Jp u:=by show(if _=_ then _ else _)=_;rw[if_pos rfl]
 refine⟨⟨?_,s.env,?_,?_,s.inj,?_,?_⟩,⟨Ab _,hl,by simp,?_,fun i x h1 _=>h1,?_⟩,y⟩
 ·intro b J G;by_cases e:b=h.next
  ·subst e;rw[y]at G;cases G;exact H.ah _ _
  ·rw[B b e]at G;exact H.fh (s.imm b J G)
 ·intro i e b he hb;have:=s.blk i e b he hb;simp;omega
 ·intro i J G;refine kg.mono s hl (s.obj i J G) (fun L he=>he) fun L b he K=>?_;rw[H.ay,if_neg (by have:=s.blk i L b he K;omega)]
 ·intro i x h1;have E:af w M i x:=h1;have:=E.next s;exact⟨by rw[B x (by omega)];exact(s.sep i x E).1,(s.sep i x E).2⟩
 ·have:=s.base;show w.n0<=h.next+1;omega
 ·intro x I _;rw[H.ay,if_neg (by omega)]
 ·intro x I;by_cases e:x=h.next
  ·exact .inr (.inl (by omega))
  ·rw[B x e]at I;exact .inl I
def PSt.ka{w:PWd}{h:H}{M:Mem}(s:PSt w h M){v0:Nat} :
  PSt (w.bx M.length ⟨Jq,v0,0⟩) h (M++[.cells 0 0 []])/\eg M.length w h M (w.bx M.length ⟨Jq,v0,0⟩) h (M++[.cells 0 0 []]):=by
 have hl:Le M.length w (w.bx M.length ⟨Jq,v0,0⟩):=DD (Ab _);have y:(w.bx M.length ⟨Jq,v0,0⟩).env M.length=Jp ⟨Jq,v0,0⟩:=by show(if _=_ then _ else _)=_;rw[if_pos rfl]
 have hold:∀i,i≠M.length->(w.bx M.length ⟨Jq,v0,0⟩).env i=w.env i:=fun i u=>by show(if _=_ then _ else _)=_;rw[if_neg u]
 have live:∀i x,af (w.bx M.length ⟨Jq,v0,0⟩) (M++[.cells 0 0 []]) i x->af w M i x:=by
  rintro i x ⟨G,B,h1,h2,h3,J⟩;by_cases u:i=M.length
  ·subst u;rw[y]at h3;cases h3;cases J
  ·rw[hold i u]at h3;have hlt:=s.env i B h3;rw[Bm hlt]at h1;exact⟨G,B,h1,h2,h3,J⟩
 refine⟨⟨s.imm,?_,?_,?_,fun i j x h1 h2=>s.inj i j x (live i x h1) (live j x h2),fun i x h1=>s.sep i x (live i x h1),s.base⟩,⟨by simp,hl,Ab _,fun _ _ _=>rfl,fun i x h1 _=>live i x h1,fun x K=> .inl K⟩⟩
 ·intro i B he;by_cases u:i=M.length
  ·subst u;simp
  ·rw[hold i u]at he;have:=s.env i B he;simp;omega
 ·intro i B b he E;by_cases u:i=M.length
  ·subst u;rw[y]at he;cases he;cases E
  ·rw[hold i u]at he;exact s.blk i B b he E
 ·intro i G u;rcases Bi i M.length with hlt | I
  ·rw[Bm hlt]at u;exact kg.mono s hl (s.obj i G u) (fun B he=>by rw[hold i (by omega)];exact he) fun _ _ _ _=>rfl
  ·rw[Bv I]at u;have:i=M.length:=by
    rcases Bi (i-M.length) 1 with q | q
    ·omega
    ·rw[Bu (by simpa using q)]at u;cases u
   subst this;simp at u;subst u;exact⟨_,y,rfl,rfl⟩
def PSt.setCells{w:PWd}{h:H}{M:Mem}(s:PSt w h M){id g ver b:Nat}{cs I:List PV}{u:List AV}{e:Ent}(hm:M[id]? =Jp (.cells g ver cs))(he:w.env id=Jp e)(hg:e.g=g)(hb:e.blk=Jp b)(hr:ak w I u){ver2:Nat} :
  PSt w (h.set b (.cells (e.v0+ver2) Jr u)) (M.set id (.cells g ver2 I))/\eg M.length w h M w (h.set b (.cells (e.v0+ver2) Jr u)) (M.set id (.cells g ver2 I)):=by
 have y:af w M id b:=⟨_,e,hm,by simp,he,hb⟩;have S:=y.next s;have hid:=y.lt;have live:∀i x,af w (M.set id (.cells g ver2 I)) i x->af w M i x:=by
  rintro i x ⟨R,Q,h1,h2,h3,U⟩;by_cases J:id=i
  ·subst J;exact⟨_,Q,hm,by simp,h3,U⟩
  ·rw[Bt J]at h1;exact⟨R,Q,h1,h2,h3,U⟩
 have B:∀x,x≠b->(h.set b (.cells (e.v0+ver2) Jr u)).get x=h.get x:=fun x K=>H.bp K;have L:(h.set b (.cells (e.v0+ver2) Jr u)).get b=Jp (.cells (e.v0+ver2) Jr u):=by rw[H.gu,if_pos ⟨rfl,S⟩]
 refine⟨⟨?_,?_,s.blk,?_,fun i j x h1 h2=>s.inj i j x (live i x h1) (live j x h2),fun i x h1=>s.sep i x (live i x h1),s.base⟩,⟨by simp,Le.refl _ _,Ab _,?_,fun i x h1 _=>live i x h1,fun x K=> .inl K⟩⟩
 ·intro x o K;have:x≠b:=by rintro rfl;rw[(s.sep id x y).1]at K;cases K
  rw[B x this];exact s.imm x o K
 ·intro i Q O;have:=s.env i Q O;simpa using this
 ·intro i R J;by_cases E:id=i
  ·subst E;rw[Ck hid]at J;cases J;refine⟨e,he,hg,?_⟩;rw[hb];exact⟨u,L,hr⟩
  ·rw[Bt E]at J;by_cases G:R= .gone
   ·subst G;trivial
   ·refine kg.mono s (Le.refl _ _) (s.obj i R J) (fun _ h=>h) fun Q V O T=>B V ?_;rintro rfl;exact E (s.inj id i V y ⟨R,Q,J,G,O,T⟩)
 ·intro x K Y;refine B x ?_;rintro rfl;exact Y id y
def PSt.pb{w:PWd}{h h':H}{M:Mem}(s:PSt w h M){id g ver:Nat}{cs cs2:List PV}{e e2:Ent}(hm:M[id]? =Jp (.cells g ver cs))(he:w.env id=Jp e)(hg:e.g=g)(Y:e2.g=g+1)
  (hn:h.next<=h'.next) (Z:∀x,x<h.next->e.blk≠Jp x->h'.get x=h.get x)
  (hb:∀b,e2.blk=Jp b->b<h'.next/\(h.next<=b\/e.blk=Jp b))
  (hr:match e2.blk with | none=>cs2=[] | some b=>∃K,h'.get b=Jp (.cells (e2.v0+0) Jr K)/\ak w cs2 K):
  PSt (w.bx id e2) h' (M.set id (.cells (g+1) 0 cs2))/\eg M.length w h M (w.bx id e2) h' (M.set id (.cells (g+1) 0 cs2)):=by
 have hl:Le M.length w (w.bx id e2):=NL he (by omega);have hid:id<M.length:=s.env id e he;have I:(w.bx id e2).env id=Jp e2:=by show(if _=_ then _ else _)=_;rw[if_pos rfl]
 have hold:∀i,i≠id->(w.bx id e2).env i=w.env i:=fun i u=>by show(if _=_ then _ else _)=_;rw[if_neg u]
 have B:∀b,e.blk=Jp b->af w M id b:=fun b hb=>⟨_,e,hm,by simp,he,hb⟩;have live:∀i x,af (w.bx id e2) (M.set id (.cells (g+1) 0 cs2)) i x->(i=id/\e2.blk=Jp x)\/(i≠id/\af w M i x):=by
  rintro i x ⟨U,O,h1,h2,h3,h4⟩;by_cases u:i=id
  ·subst u;rw[I]at h3;cases h3;exact .inl ⟨rfl,h4⟩
  ·rw[Bt (Ne.symm u)]at h1;rw[hold i u]at h3;exact .inr ⟨u,U,O,h1,h2,h3,h4⟩
 have Q:∀i x,i≠id->af w M i x->h'.get x=h.get x:=fun i x u E=>Z x (E.next s) fun R=>u (s.inj i id x E (B x R));refine⟨⟨?_,?_,?_,?_,?_,?_,?_⟩,⟨by simp,hl,hn,?_,?_,fun x E=> .inl E⟩⟩
 ·intro x o E;rw[Z x (s.ij E) (fun R=>by have:=(s.sep id x (B x R)).1;have E:w.imm x=Jp o:=E;rw[this]at E;cases E)];exact s.imm x o E
 ·intro i O y;by_cases u:i=id
  ·subst u;simpa using hid
  ·rw[hold i u]at y;simpa using s.env i O y
 ·intro i O b y L;by_cases u:i=id
  ·subst u;rw[I]at y;cases y;exact(hb b L).1
  ·rw[hold i u]at y;have:=s.blk i O b y L;omega
 ·intro i U u;by_cases G:i=id
  ·subst G;rw[Ck hid]at u;cases u;refine⟨e2,I,Y,?_⟩
   cases V:e2.blk with
   | none=>rw[V]at hr;exact hr
   | some b=>rw[V]at hr;obtain⟨K,S,q2⟩:=hr;exact⟨K,S,q2.mono hl s.env⟩
  ·rw[Bt (Ne.symm G)]at u;by_cases J:U= .gone
   ·subst J;trivial
   ·refine kg.mono s hl (s.obj i U u) (fun O y=>by rw[hold i G];exact y) fun O b' y L=>Q i b' G ⟨U,O,u,J,y,L⟩
 ·intro i j x h1 h2;rcases live i x h1 with⟨rfl,S⟩ | ⟨u,T⟩<;>rcases live j x h2 with⟨rfl,q2⟩ | ⟨hj,l2⟩
  ·rfl
  ·rcases(hb x S).2 with q | q
   ·have:=l2.next s;omega
   ·exact absurd (s.inj j _ x l2 (B x q)) hj
  ·rcases(hb x q2).2 with q | q
   ·have:=T.next s;omega
   ·exact absurd (s.inj i _ x T (B x q)) u
  ·exact s.inj i j x T l2
 ·intro i x h1;rcases live i x h1 with⟨rfl,S⟩ | ⟨u,T⟩
  ·rcases(hb x S).2 with q | q
   ·refine⟨?_,fun _=>As s.base q⟩;show w.imm x=Jq
    cases R:w.imm x with
    | none=>rfl
    | some U=>have:=s.ij R;omega
   ·exact s.sep _ x (B x q)
  ·exact s.sep i x T
 ·have:=s.base;show w.n0<=h'.next;omega
 ·intro x E a0;exact Z x E fun R=>a0 id (B x R)
 ·intro i x h1 E;rcases live i x h1 with⟨rfl,S⟩ | ⟨u,T⟩
  ·rcases(hb x S).2 with q | q
   ·omega
   ·exact B x q
  ·exact T
def gX{w:PWd}{k:IntKind}{n:Int}{x:AV}(h:az w (.int k n) x):x= .int k n:=by cases h;rfl
def kZ{w:PWd}{b:Bool}{x:AV}(h:az w (.bool b) x):x= .bool b:=by cases h;rfl
def lX{w:PWd}{cs:List PV}{x:AV}(h:az w (.agg cs) x):∃u,x= .agg u/\ak w cs u:=by cases h with | agg y B=>exact⟨_,rfl,y,B⟩
def tG{w:PWd}{cs:List PV}{x:AV}(h:az w (.tuple cs) x):∃u,x= .tuple u/\ak w cs u:=by cases h with | tuple y B=>exact⟨_,rfl,y,B⟩
def gU{w:PWd}{x:AV}(h:az w .ai x):x= .ag:=by cases h;rfl
def qQ{w:PWd}{h:H}{M:Mem}(s:PSt w h M){fl own:Bool}{sz n:Nat}{cs:List PV}{x:AV}(E:az w (.sl fl own sz n cs) x):
  (x= .ag/\n=0/\cs=[])\/∃B b off ver rw u,x= .slice B sz b off n/\(fl=Jr->own=Jr->B=Jr)/\w.imm b=Jp (.cells ver rw u)/\h.get b=Jp (.cells ver rw u)/\off+cs.length<=u.length/\cs.length=n*sz/\ak w cs ((u.drop off).take cs.length)/\(own=Jr->w.n0<=b/\rw=Jr)/\(own=Js->fl=Js->b<w.n0):=by
 cases E with
 | slN=>exact .inl ⟨rfl,rfl,rfl⟩
 | sl h1 h2 h3 G I J K=>
  refine .inr ⟨_,_,_,_,_,_,rfl,G,h1,s.imm _ _ h1,h2,h3,⟨by simp;omega,fun i y z L hz=>?_⟩,I,J⟩;rw[Bp]at hz;split at hz
  ·rw[Br]at hz;exact K i y z L hz
  ·cases hz
def CR{w:PWd}{h:H}{M:Mem}(s:PSt w h M){cs:List PV}{o:Nat}{x:AV}(B:az w (.cp cs o) x):
  ∃b off ver rw u,x= .ptr b (off+o)/\w.imm b=Jp (.cells ver rw u)/\h.get b=Jp (.cells ver rw u)/\off+cs.length<=u.length/\ak w cs ((u.drop off).take cs.length):=by
 cases B with
 | cp h1 h2 E=>
  refine⟨_,_,_,_,_,rfl,h1,s.imm _ _ h1,h2,⟨by simp;omega,fun i y z G hz=>?_⟩⟩;rw[Bp]at hz;split at hz
  ·rw[Br]at hz;exact E i y z G hz
  ·cases hz
def aF{α:Type}{l:List α}{i:Nat}{x:α}(h:l[i]? =Jp x):i<l.length:=by
 rcases Bi i l.length with u | u
 ·exact u
 ·rw[Bu u]at h;cases h
def MQ{cs:List PV}{u:List AV}{w:PWd}{off:Nat}(hr:ak w cs ((u.drop off).take cs.length)){i:Nat}{y:PV}(B:cs[i]? =Jp y):∃z,u[off+i]? =Jp z/\az w y z:=by obtain⟨z,h1,h2⟩:=hr.iy B;rw[Bp,if_pos (aF B),Br]at h1;exact⟨z,h1,h2⟩
def C0{cs:List PV}{u:List AV}{w:PWd}{off:Nat}(hr:ak w cs ((u.drop off).take cs.length)){o n:Nat}(h:o+n<=cs.length):ak w (dQ cs o n) ((u.drop (off+o)).take n):=by have:=jP hr o n;rwa [List.drop_take,List.drop_drop,Gx,Dk (by omega)]at this
section
variable {tab:FuncId->Option AF} {w:PWd} {h:H} {M:Mem} {a:List PV} {a':List AV} {K:PV->Mem->List Nat->List Nat->Prop}
def QY(s:PSt w h M)(T:ak w a a')(x:AR)(B:PS tab (.load x) a M K):bw w h M (aop a' h (.load x)) K:=by
 have u:=bE T x;simp only[PS]at B;unfold PM at B;split at B
 ·rename_i id g o hv;obtain⟨ver,cs,hm,y,E,G⟩:=B;rw[hv]at u;obtain⟨e,b,I,J,L,R,U,O,V,S⟩:=s.iu hm u;obtain⟨z,hz,hr⟩:=V.iy E;refine bw.read s (v:=z) (rd:=[b]) (prd:=[id]) ?_ hr (fun x u=>?_) G
  ·simp only[aop,J,f0,O,hz]
  ·simp only[Ch]at u;subst u;exact⟨S.next s,.inr ⟨id,by simp,S⟩⟩
 ·rename_i cs o hv;obtain⟨y,E,G⟩:=B;rw[hv]at u;obtain⟨b,off,ver,rw,I,J,L,R,U,O⟩:=CR s u;obtain⟨z,hz,hr⟩:=MQ O E;refine bw.read s (v:=z) (rd:=[b]) (prd:=[]) ?_ hr (fun x u=>?_) G
  ·simp only[aop,J,f0,R,hz]
  ·simp only[Ch]at u;subst u;exact⟨s.ij L,.inl (by rw[L];simp)⟩
 ·exact B.elim
def ER(s:PSt w h M)(T:ak w a a')(n:Nat)(x:AR)(B:PS tab (.eh n x) a M K):bw w h M (aop a' h (.eh n x)) K:=by
 have u:=bE T x;simp only[PS]at B;unfold EI at B;split at B
 ·rename_i id g o hv;obtain⟨ver,cs,hm,E,G⟩:=B;rw[hv]at u;obtain⟨e,b,y,I,J,Q,U,L,R,S⟩:=s.iu hm u;have hs:=jP R o n;refine bw.read s (v:= .agg ((y.drop o).take n)) (rd:=[b]) (prd:=[id]) ?_ (.agg hs.len hs.get) (fun x u=>?_) G
  ·simp only[aop,I,dY,L];rw[if_pos (by rw[<-R.len];exact E)]
  ·simp only[Ch]at u;subst u;exact⟨S.next s,.inr ⟨id,by simp,S⟩⟩
 ·rename_i cs o hv;obtain⟨E,G⟩:=B;rw[hv]at u;obtain⟨b,off,ver,rw,y,I,J,Q,U,L⟩:=CR s u;have hs:=C0 L E;refine bw.read s (v:= .agg ((y.drop (off+o)).take n)) (rd:=[b]) (prd:=[]) ?_ (.agg hs.len hs.get) (fun x u=>?_) G
  ·simp only[aop,I,dY,Q];rw[if_pos (by omega)]
  ·simp only[Ch]at u;subst u;exact⟨s.ij J,.inl (by rw[J];simp)⟩
 ·exact B.elim
def LB(s:PSt w h M)(I:ak w a a')(n:Nat)(p x:AR)(u:PS tab (.store n p x) a M K):bw w h M (aop a' h (.store n p x)) K:=by
 have B:=bE I p;simp only[PS]at u;unfold TO at u;split at u
 ·rename_i id g o hv;obtain⟨ver,cs,hm,⟨h1,h2,h3⟩,O⟩:=u;rw[hv]at B;obtain⟨e,b,E,Q,R,S,T,U,J,Z⟩:=s.iu hm B;obtain⟨k1,k2⟩:=xW (bE I x) h3;have hl:(ev a' x).cells.length=n:=by rw[<-k1.len];exact h1
  have G:=L4 J k1 (off:=o) (by omega);obtain⟨V,Y⟩:=s.setCells (ver2:=ver+1) hm R S T G;refine⟨.tuple [],h.set b (.cells (e.v0+(ver+1)) Jr (over E o (ev a' x).cells)),[],?_,w,.tuple [],_,[],[id],Y,V,.tuple rfl (fun i y z q=>by simp at q),(fun x B=>by cases B),dx.set M id _,O⟩;simp only[aop,Q];rw[if_pos hl];simp only[gV,U];rw[if_pos (by have:=J.len;simp[hl];exact⟨by omega,by simpa using k2⟩)];rfl
 ·exact u.elim
def LJ(s:PSt w h M)(G:ak w a a')(cs:List AV)(u:PS tab (.alloc cs) a M K):bw w h M (aop a' h (.alloc cs)) K:=by simp only[PS]at u;obtain⟨y,B⟩:=s.alloc (o:= .cells 0 0 (cs.map bd)) (o':= .cells 0 Jr cs) (e:=⟨Jp h.next,0,0⟩) rfl fun w' hl he=>⟨_,he,rfl,cs,H.ah _ _,gS w' cs⟩;exact⟨.ptr h.next 0,_,[],rfl,_,_,_,[],[],B,y,.ptr (e:=⟨Jp h.next,0,0⟩) (by show(if _=_ then _ else _)=_;rw[if_pos rfl]) rfl rfl,(fun x E=>by cases E),dx.app M _ _,u⟩
def XE(s:PSt w h M)(y:ak w a a')(x:AR)(u:PS tab (.box x) a M K):bw w h M (aop a' h (.box x)) K:=by simp only[PS]at u;obtain⟨h1,B⟩:=u;obtain⟨k1,k2⟩:=xW (bE y x) h1;obtain⟨E,G⟩:=s.alloc (o:= .cells 0 0 (fO (pev a x))) (o':= .cells 0 Jr (ev a' x).cells) (e:=⟨Jp h.next,0,0⟩) rfl fun w' hl he=>⟨_,he,rfl,_,H.ah _ _,k1.mono hl s.env⟩;exact⟨.ptr h.next 0,_,[],by simp only[aop];rw[if_pos k2],_,_,_,[],[],G,E,.ptr (e:=⟨Jp h.next,0,0⟩) (by show(if _=_ then _ else _)=_;rw[if_pos rfl]) rfl rfl,(fun x I=>by cases I),dx.app M _ _,B⟩
def xQ(s:PSt w h M)(O:ak w a a')(size len:Nat)(z:List AV)(u:List (Nat×Nat×AR))(G:PS tab (.buildSlice size len z u) a M K):bw w h M (aop a' h (.buildSlice size len z u)) K:=by
 simp only[PS]at G;obtain⟨⟨h0,h1⟩,cs,I,Q⟩:=G;obtain⟨B,R,J⟩:=pM O u (m8 (gS w z) len) I;have hlen:cs.length=len*size:=by
  have:∀(u:List (Nat×Nat×AR)) (c r:List PV),dw a c u=Jp r->r.length=c.length:=by
   intro u
   induction u with
   | nil=>intro c r h;simp only[dw]at h;cases h;rfl
   | cons p u S=>
    intro c r h;obtain⟨o,sz,x⟩:=p;simp only[dw]at h;split at h
    ·rename_i hh;rw[S _ _ h,IL (by omega)]
    ·cases h
  rw[this u _ _ I,qT];simp[h0]
 obtain⟨T,L,U⟩:=s.me (.cells 0 Jr B);have E:=J.mono L.le s.env;refine⟨.slice Jr size h.next 0 len,_,[],by simp only[aop,R],_,.sl Jr Jr size len cs,M,[],[],L,T,?_,(fun x V=>by cases V),dx.refl M _,Q⟩;refine .sl U (by rw[J.len];omega) hlen (fun _ _=>rfl) (fun _=>⟨s.base,rfl⟩) (fun q=>by cases q) (fun i y z Y Z=>E.get i y z Y (by rwa [Bg]at Z))
def AK(s:PSt w h M)(u:ak w a a')(bytes:Nat)(z:List AV)(n c:AR)(y:PS tab (.makeSlice bytes z n c) a M K):bw w h M (aop a' h (.makeSlice bytes z n c)) K:=by simp only[PS]at y;obtain⟨U,l,h1,kw,m,h2,⟨rfl,rfl,h3,G,I,J⟩,L⟩:=y;have B:=bE u n;have E:=bE u c;rw[h1]at B;rw[h2]at E;have O:=gX B;have Q:=gX E;obtain⟨R,S⟩:=s.alloc (o:= .cells 0 0 (fY l.toNat (z.map bd))) (o':= .cells 0 Jr (kY l.toNat z)) (e:=⟨Jp h.next,0,0⟩) rfl fun w' hl he=>⟨_,he,rfl,_,H.ah _ _,m8 (gS w' z) _⟩;refine⟨.slice (l==m) z.length h.next 0 l.toNat,_,[],?_,_,_,_,[],[],S,R,.ref (e:=⟨Jp h.next,0,0⟩) (by show(if _=_ then _ else _)=_;rw[if_pos rfl]) rfl rfl,(fun x T=>by cases T),dx.app M _ _,L⟩;simp only[aop,O,Q];rw[if_pos ⟨h3,G,I,by simpa [j5]using J⟩]
def xR(s:PSt w h M)(E:ak w a a')(bytes:Nat)(z:List AV)(y x:AR)(G:PS tab (.bz bytes z y x) a M K):bw w h M (aop a' h (.bz bytes z y x)) K:=by
 simp only[PS]at G;obtain⟨h0,V,n,h1,rfl,u⟩:=G;have I:=bE E y;have J:=bE E x;rw[h0]at I;rw[h1]at J;have L:=gU I;have O:=gX J;split at u
 ·rename_i B;subst B;exact bw.pure s (v:= .ag) (p:= .ai) (prd:=[]) (by simp only[aop,L,O,if_true]) .ai u
 ·rename_i B;obtain⟨⟨h2,h3,R⟩,u⟩:=u;obtain⟨S,T⟩:=s.alloc (o:= .cells 0 0 (fY n.toNat (z.map bd))) (o':= .cells 0 Jr (kY n.toNat z)) (e:=⟨Jp h.next,0,0⟩) rfl fun w' hl he=>⟨_,he,rfl,_,H.ah _ _,m8 (gS w' z) _⟩;refine⟨.slice Js z.length h.next 0 n.toNat,_,[],?_,_,_,_,[],[],T,S,.ref (e:=⟨Jp h.next,0,0⟩) (by show(if _=_ then _ else _)=_;rw[if_pos rfl]) rfl rfl,(fun x U=>by cases U),dx.app M _ _,u⟩;simp only[aop,L,O];rw[if_neg B,if_pos ⟨h2,h3,by simpa [j5]using R⟩]
def FV(s:PSt w h M){size:Nat}{x:PV}{J:AV}(I:az w x J){k:List PV->Nat->Prop}(B:qg size x M k)(L:AR)(u:ev a' L=J):
  ∃new n y,oP a' h size L=Jp (y,n)/\ak w new y/\k new n/\new.length=n*size:=by
 unfold qg at B;split at B
 ·rw[gU I]at u;exact⟨[],0,[],by simp only[oP,u],.nil w,B,by simp⟩
 ·rename_i fl own sz n cs;obtain⟨rfl,E⟩:=B;rcases qQ s I with⟨rfl,rfl,rfl⟩ | ⟨R,b,off,ver,rw,G,rfl,_,Z,S,T,O,U,_⟩
  ·exact⟨[],0,[],by simp only[oP,u],.nil w,E,by simp⟩
  ·refine⟨cs,n,(G.drop off).take cs.length,?_,U,E,O⟩;simp only[oP,u,if_true,dY,S];rw[<-O,if_pos T]
 ·rename_i id g sz off n;obtain⟨ver,cs,hm,⟨rfl,hl⟩,E⟩:=B;obtain⟨e,q1,q2,V⟩:=s.ic hm I;rcases V with⟨rfl,rfl,rfl,_,rfl⟩ | ⟨fl,b,G,rfl,p1,Y,Q,p4⟩
  ·exact⟨_,_,[],by simp only[oP,u],by simpa [dQ]using ak.nil w,E,by simp[dQ]⟩
  ·refine⟨_,_,_,?_,jP Q off (n*sz),E,by simp[dQ];omega⟩;simp only[oP,u,if_true,dY,Y];rw[if_pos (by rw[<-Q.len];exact hl)]
 ·exact B.elim
def QV(s:PSt w h M){size:Nat}{x:PV}{I:AV}(L:az w x I){k:List PV->Nat->Prop}(G:PK size x M k)(J:AR)(B:ev a' J=I):
  ∃new n u,oP a' h size J=Jp (u,n)/\ak w new u/\k new n/\new.length=n*size:=by
 unfold PK at G;split at G
 ·rename_i str;obtain⟨rfl,O⟩:=G;have ex:I= .str str:=by cases L;rfl
  rw[ex]at B;refine⟨_,_,str.data.toList.map fun b=> .int .u8 b.toNat,by simp only[oP,B,if_true],⟨by simp,fun i y z E hz=>?_⟩,O,by rw[Ag,Array.length_toList,Ce];rfl⟩;rw[Ap]at E hz
  cases hb:str.data.toList[i]? with
  | none=>rw[hb]at E;cases E
  | some b=>rw[hb]at E hz;cases E;cases hz;exact .int _ _
 ·exact FV s L G J B
def ID(s:PSt w h M)(ha:ak w a a')(size bytes:Nat)(sr x:AR)(Y:PS tab (.append size bytes sr x) a M K):bw w h M (aop a' h (.append size bytes sr x)) K:=by
 simp only[PS]at Y;obtain⟨a7,Y⟩:=Y;unfold aDQ at Y;obtain⟨new,n,y,e1,L,R,e4⟩:=QV (a':=a') s (bE ha x) Y x rfl;have hs:=bE ha sr;have hlen:y.length=n*size:=by rw[<-L.len];exact e4
 simp only[aop,e1];split at R
 ·rename_i hv;obtain⟨⟨h1,h2,h3⟩,Q⟩:=R;rw[hv]at hs;rw[gU hs];have E:=wC L h3;by_cases G:n=0
  ·subst G;have:new=[]:=List.length_eq_zero_iff.1 (by simpa using e4);subst this;obtain⟨I,J⟩:=s.ka (v0:=0);exact⟨.ag,h,[],by simp,_,_,_,[],[],J,I,.jk (e:=⟨Jq,0,0⟩) (by show(if _=_ then _ else _)=_;rw[if_pos rfl]) rfl rfl,(fun x u=>by cases u),dx.app M _ _,Q⟩
  ·obtain⟨I,J⟩:=s.alloc (o:= .cells 0 0 new) (o':= .cells 0 Jr y) (e:=⟨Jp h.next,0,0⟩) rfl fun w' hl he=>⟨_,he,rfl,_,H.ah _ _,L.mono hl s.env⟩;refine⟨.slice Js size h.next 0 n,_,[],?_,_,_,_,[],[],J,I,.ref (e:=⟨Jp h.next,0,0⟩) (by show(if _=_ then _ else _)=_;rw[if_pos rfl]) rfl rfl,(fun x u=>by cases u),dx.app M _ _,Q⟩;simp only;rw[if_neg G,if_pos ⟨h1,by simpa [j5]using h2,E,hlen⟩]
 ·rename_i fl own sz m cs hv;rw[hv]at hs;by_cases G:n=0
  ·rw[if_pos G]at R;rcases qQ s hs with⟨u,_⟩ | ⟨Z,b,off,ver,rw,B,u,_⟩
   ·rw[u]at hs;exact bw.pure s (v:= .ag) (by rw[u];simp only;rw[if_pos G]) hs R
   ·rw[u]at hs;exact bw.pure s (v:= .slice Z sz b off m) (by rw[u];simp only;rw[if_pos G]) hs R
  rw[if_neg G]at R;obtain⟨⟨rfl,rfl,rfl,h1,h2,h3⟩,Q⟩:=R;have E:=wC L h3;rcases qQ s hs with⟨u,rfl,rfl⟩ | ⟨Z,b,off,ver,rw,B,u,O,q1,q2,q3,q4,q5,_⟩
  ·obtain⟨I,J⟩:=s.alloc (o:= .cells 0 0 ([]++new)) (o':= .cells 0 Jr y) (e:=⟨Jp h.next,0,0⟩) rfl (fun w' hl he=>⟨_,he,rfl,_,H.ah _ _,by simpa using L.mono hl s.env⟩);rw[Bg]at Q;refine⟨.slice Js sz h.next 0 n,_,[],?_,_,_,_,[],[],J,I,.ref (e:=⟨Jp h.next,0,0⟩) (by show(if _=_ then _ else _)=_;rw[if_pos rfl]) rfl rfl,(fun x u=>by cases u),dx.app M _ _,Q⟩;rw[u];simp only;rw[if_neg G,if_pos ⟨by simpa using h1,by simpa [j5]using h2,E,hlen⟩]
  ·have:=O rfl rfl;subst this;obtain⟨I,J⟩:=s.alloc (o:= .cells 0 0 (cs++new)) (o':= .cells 0 Jr ((B.drop off).take cs.length++y)) (e:=⟨Jp h.next,0,0⟩) rfl fun w' hl he=>⟨_,he,rfl,_,H.ah _ _,(q5.append L).mono hl s.env⟩;refine⟨.slice Js sz h.next 0 (m+n),_,[],?_,_,_,_,[],[],J,I,.ref (e:=⟨Jp h.next,0,0⟩) (by show(if _=_ then _ else _)=_;rw[if_pos rfl]) rfl rfl,(fun x u=>by cases u),dx.app M _ _,Q⟩;rw[u];simp only;rw[if_neg G,if_pos ⟨trivial,h1,by simpa [j5]using h2,E,hlen⟩];simp only[dY,q2];rw[<-q4,if_pos q3];simp
 ·rename_i id g sz off m hv;obtain⟨ver,cs,hm,⟨rfl,h0,a3,h1,h2,h3⟩,Q⟩:=R;rw[hv]at hs;have E:=wC L h3;obtain⟨e,p1,p2,p3⟩:=s.ic hm hs;rcases p3 with⟨u,rfl,rfl,a1,rfl⟩ | ⟨fl,b,B,u,hb,q2,q3,q4⟩
  ·by_cases G:n=0
   ·subst G;have:new=[]:=List.length_eq_zero_iff.1 (by simpa using e4);subst this;obtain⟨I,J⟩:=s.pb (h':=h) (e2:=⟨Jq,0,g+1⟩) (cs2:=dQ [] 0 (0*sz)++[]) hm p1 p2 rfl (Ab _) (fun _ _ _=>rfl) (fun b hb=>by cases hb) (by simp[dQ]);exact⟨.ag,h,[],by rw[u];simp,_,_,_,[],[id],J,I,.jk (e:=⟨Jq,0,g+1⟩) (by show(if _=_ then _ else _)=_;rw[if_pos rfl]) rfl rfl,(fun x u=>by cases u),dx.set M _ _,Q⟩
   ·obtain⟨I,J⟩:=s.pb (h':=h.alloc (.cells 0 Jr y)) (e2:=⟨Jp h.next,0,g+1⟩) (cs2:=dQ [] 0 (0*sz)++new) hm p1 p2 rfl (by simp) (fun x u _=>by rw[H.ay,if_neg (by omega)]) (fun b hb=>by cases hb;exact⟨by simp,.inl (Ab _)⟩) ⟨_,H.ah _ _,by simpa [dQ]using L⟩;rw[Bg]at Q;refine⟨.slice Js sz h.next 0 n,_,[],?_,_,_,_,[],[id],J,I,.ref (e:=⟨Jp h.next,0,g+1⟩) (by show(if _=_ then _ else _)=_;rw[if_pos rfl]) rfl rfl,(fun x u=>by cases u),dx.set M _ _,Q⟩;rw[u];simp only;rw[if_neg G,if_pos ⟨by simpa using h1,by simpa [j5]using h2,E,hlen⟩]
  ·have a1:=q4.next s;by_cases G:n=0
   ·subst G;have:new=[]:=List.length_eq_zero_iff.1 (by simpa using e4);subst this;have hw:off=0/\m*sz=cs.length:=by
     rcases a3 with h | h
     ·omega
     ·exact h
    obtain⟨rfl,hw⟩:=hw;have a0:dQ cs 0 (m*sz)++[]=cs:=by simp[dQ,hw]
    obtain⟨I,J⟩:=s.pb (h':=h) (e2:=⟨Jp b,e.v0+ver,g+1⟩) (cs2:=dQ cs 0 (m*sz)++[]) hm p1 p2 rfl (Ab _) (fun _ _ _=>rfl) (fun b' U=>by cases U;exact⟨a1,.inr hb⟩) ⟨B,q2,by rw[a0];exact q3⟩;refine⟨.slice fl sz b 0 m,h,[],by rw[u];simp,_,_,_,[],[id],J,I,.ref (e:=⟨Jp b,e.v0+ver,g+1⟩) (by show(if _=_ then _ else _)=_;rw[if_pos rfl]) rfl rfl,(fun x u=>by cases u),dx.set M _ _,Q⟩
   ·have hold:=jP q3 off (m*sz);have a4:dY h b off (m*sz)=Jp ((B.drop off).take (m*sz)):=by simp only[dY,q2];rw[if_pos (by rw[<-q3.len];exact h0)]
    have S:∀(hh:H),hh.next=h.next->(∀x,x≠b->hh.get x=h.get x)->(if fl=Jr then Jp (.slice Js sz h.next 0 (m+n),h.alloc (.cells 0 Jr ((B.drop off).take (m*sz)++y)),[])else match kill h b with | some h'=>Jp (.slice Js sz h.next 0 (m+n),h'.alloc (.cells 0 Jr ((B.drop off).take (m*sz)++y)),[]) | none=>Jq)=Jp (AV.slice Js sz h.next 0 (m+n),hh.alloc (.cells 0 Jr ((B.drop off).take (m*sz)++y)),([]:List Nat))->
      bw w h M (Jp (AV.slice Js sz h.next 0 (m+n),hh.alloc (.cells 0 Jr ((B.drop off).take (m*sz)++y)),([]:List Nat))) K:=by
     intro hh V a5 _;obtain⟨I,J⟩:=s.pb (h':=hh.alloc (.cells 0 Jr ((B.drop off).take (m*sz)++y))) (e2:=⟨Jp h.next,0,g+1⟩) (cs2:=dQ cs off (m*sz)++new) hm p1 p2 rfl (by simp[V]) (fun x u a6=>by rw[H.ay,if_neg (by omega),a5 x (fun e=>a6 (by rw[hb,e]))]) (fun b' U=>by cases U;exact⟨by simp[V],.inl (Ab _)⟩) ⟨_,by rw[<-V];exact H.ah _ _,hold.append L⟩;exact⟨_,_,[],rfl,_,_,_,[],[id],J,I,.ref (e:=⟨Jp h.next,0,g+1⟩) (by show(if _=_ then _ else _)=_;rw[if_pos rfl]) rfl rfl,(fun x u=>by cases u),dx.set M _ _,Q⟩
    rw[u];simp only;rw[if_neg G,if_pos ⟨trivial,h1,by simpa [j5]using h2,E,hlen⟩];simp only[a4];by_cases O:fl=Jr
    ·rw[if_pos O];exact S h rfl (fun _ _=>rfl) (by rw[if_pos O])
    ·rw[if_neg O];have a2:kill h b=Jp (h.set b .dead):=by simp only[kill,q2]
     simp only[a2];exact S (h.set b .dead) rfl (fun x u=>H.bp u) (by rw[if_neg O];simp only[a2])
 ·exact R.elim
def F9{w:PWd}{cs new:List PV}{y u:List AV}(h:ak w cs y)(B:ak w new u){off:Nat}(E:off+new.length<=cs.length):ak w (cs.take off++new++cs.drop (off+new.length)) (over y off u):=by rw[sH y off u (by rw[<-B.len,<-h.len];exact E),<-B.len];exact((h.take off).append B).append (h.drop _)
def aEN{w:PWd}{v:PV}{x:AV}(h:az w v x)(u:v.one=Jr):x.one=Jr:=by cases h<;>simp_all [PV.one,AV.one]
def AE{w:PWd}{cs:List PV}{u:List AV}(h:ak w cs u)(B:cs.all PV.one=Jr):u.all AV.one=Jr:=by rw[Cb]at B ⊢;intro x I;obtain⟨i,E⟩:=List.getElem?_of_mem I;obtain⟨y,G⟩:∃y,cs[i]? =Jp y:=⟨_,Ad (by rw[h.len];exact(List.getElem?_eq_some_iff.1 E).1)⟩;exact aEN (h.get i y x G E) (B y (List.mem_of_getElem? G))
def qg.noStr(s:PSt w h M){size:Nat}{x:PV}{E:AV}(B:az w x E){k:List PV->Nat->Prop}(y:qg size x M k)(t:ByteArray):E≠ .str t:=by
 intro e;unfold qg at y;split at y
 ·rw[gU B]at e;cases e
 ·rcases qQ s B with⟨u,_⟩ | ⟨_,_,_,_,_,_,u,_⟩<;>(rw[u]at e;cases e)
 ·obtain⟨ver,cs,hm,_⟩:=y;obtain⟨_,_,_,G⟩:=s.ic hm B;rcases G with⟨u,_⟩ | ⟨_,_,_,u,_⟩<;>(rw[u]at e;cases e)
 ·exact y.elim
def UU{a':List AV}{h:H}{size n:Nat}{x:AR}{new:List AV}(hs:oP a' h size x=Jp (new,n))(y:∀t,ev a' x≠ .str t):
  (ev a' x= .ag/\n=0)\/∃fl b o,ev a' x= .slice fl size b o n/\∀k,k<=n->dY h b o (k*size)=Jp (new.take (k*size)):=by
 unfold oP at hs;split at hs
 ·rename_i he;cases hs;exact .inl ⟨he,rfl⟩
 ·rename_i fl sz b o m he;split at hs
  ·rename_i B;subst B;split at hs
   ·rename_i cs u;cases hs;refine .inr ⟨fl,b,o,he,fun k E=>?_⟩;unfold dY at u ⊢;split at u
    ·rename_i ver rw all hg;have hm:=Dt sz E;split at u
     ·cases u;rw[if_pos (by omega),Gx,Dk hm]
     ·cases u
    ·cases u
   ·cases hs
  ·cases hs
 ·rename_i t he;exact absurd he (y t)
 ·cases hs
def LG(s:PSt w h M)(R:ak w a a')(size:Nat)(d x:AR)(G:PS tab (.iz size d x) a M K):bw w h M (aop a' h (.iz size d x)) K:=by
 have u:=bE R d;simp only[PS]at G;unfold aGJ at G;split at G
 ·rename_i id g sz off m hv;rw[hv]at u;obtain⟨new,n,B,U,S,Z,e4⟩:=FV (a':=a') s (bE R x) G x rfl;have J:∀t,ev a' x≠ .str t:=G.noStr s (bE R x);obtain⟨ver,cs,hm,⟨rfl,h2,h3⟩,E⟩:=Z;obtain⟨e,q1,q2,q3⟩:=s.ic hm u;rcases q3 with⟨I,rfl,rfl,_,rfl⟩ | ⟨fl,b,a0,I,p2,p3,V,p5⟩
  ·rw[if_pos (Nat.min_zero n)]at E;refine bw.read s (v:=i64 0) (rd:=[]) (prd:=[]) ?_ (.int _ _) (fun x u=>by cases u) E;rcases UU U J with⟨k1,_⟩ | ⟨fl,b,o,k1,_⟩
   ·simp only[aop,I,k1]
   ·simp only[aop,I,k1]
  ·rcases UU U J with⟨k1,rfl⟩ | ⟨a1,b2,o2,k1,k2⟩
   ·rw[if_pos (Nat.zero_min m)]at E;refine bw.read s (v:=i64 0) (rd:=[]) (prd:=[]) ?_ (.int _ _) (fun x u=>by cases u) E;simp only[aop,I,k1]
   ·by_cases hz:min n m=0
    ·rw[if_pos hz]at E;refine bw.read s (v:=i64 0) (rd:=[]) (prd:=[]) ?_ (.int _ _) (fun x u=>by cases u) E;simp only[aop,I,k1,and_self,if_true,hz]
    ·rw[if_neg hz]at E;have a2:=Dt sz (Gd n m);have a3:=Dt sz (Nat.min_le_right n m);have hlt:(new.take (min n m*sz)).length=min n m*sz:=by rw[List.length_take];omega
     have O:=F9 V (S.take (min n m*sz)) (off:=off) (by rw[hlt];omega);rw[hlt]at O;obtain⟨s1,s2⟩:=s.setCells (ver2:=ver+1) hm q1 q2 p2 O;have Q:(B.take (min n m*sz)).all AV.one=Jr:=by
      have:=AE S h3;rw[Cb]at this ⊢;exact fun y hy=>this y (List.mem_of_mem_take hy)
     refine⟨.int .i64 ((min n m:Nat):Int),_,[],?_,w,.int .i64 ((min n m:Nat):Int),_,[],[id],s2,s1,.int _ _,(fun x u=>by cases u),dx.set M id _,E⟩;have T:(B.take (min n m*sz)).length=min n m*sz:=by rw[<-(S.take _).len];exact hlt
     simp only[aop,I,k1,and_self,if_true,hz,if_false,k2 _ (Gd n m),gV,p3];rw[if_pos (by have:=V.len;simp only[Aw,decide_eq_true_eq];exact⟨by rw[T];omega,Q⟩)];rfl
 ·exact G.elim
def IC(s:PSt w h M)(S:ak w a a')(z:List AV)(x:AR)(E:PS tab (.fp z x) a M K):bw w h M (aop a' h (.fp z x)) K:=by
 have u:=bE S x;simp only[PS]at E;unfold aDP at E;split at E
 ·rename_i id g sz off n hv;rw[hv]at u;obtain⟨ver,cs,hm,⟨h1,h2,h3⟩,B⟩:=E;rw[Ag]at h1;subst h1;obtain⟨e,T,U,V⟩:=s.ic hm u;rcases V with⟨J,rfl,rfl,_,rfl⟩ | ⟨fl,b,Y,J,Z,p3,Q,p5⟩
  ·rw[if_pos rfl]at B;exact bw.read s (v:= .tuple []) (rd:=[]) (prd:=[]) (by simp only[aop,J]) (.tuple rfl fun i y z q=>by simp at q) (fun x u=>by cases u) B
  ·by_cases hz:n=0
   ·rw[if_pos hz]at B;exact bw.read s (v:= .tuple []) (rd:=[]) (prd:=[]) (by simp only[aop,J,if_true,hz]) (.tuple rfl fun i y z q=>by simp at q) (fun x u=>by cases u) B
   ·rw[if_neg hz]at B;have hr:=m8 (gS w z) n;have hlt:(fY n (z.map bd)).length=n*z.length:=by rw[qT,Ag]
    have G:=F9 Q hr (off:=off) (by rw[hlt];exact h2);rw[hlt]at G;obtain⟨s1,s2⟩:=s.setCells (ver2:=ver+1) hm T U Z G;have I:=AE hr h3;refine⟨.tuple [],_,[],?_,w,.tuple [],_,[],[id],s2,s1,.tuple rfl (fun i y z q=>by simp at q),(fun x u=>by cases u),dx.set M id _,B⟩;have O:(kY n z).length=n*z.length:=by rw[<-hr.len];exact hlt
    simp only[aop,J,if_true,hz,if_false,gV,p3];rw[if_pos (by have:=Q.len;simp only[Aw,decide_eq_true_eq];exact⟨by rw[O];omega,I⟩)];rfl
 ·exact E.elim
def CJ(s:PSt w h M)(B:ak w a a')(x i:AR)(E:PS tab (.dq x i) a M K):bw w h M (aop a' h (.dq x i)) K:=by
 have u:=bE B x;have G:=bE B i;simp only[PS]at E;obtain⟨str,I,kd,k,J,h0,c,L,O⟩:=E;rw[I]at u;rw[J]at G;have ex:ev a' x= .str str:=by generalize ev a' x=y at u;cases u;rfl
 exact bw.read s (v:= .int .u8 c.toNat) (rd:=[]) (prd:=[]) (by simp only[aop,ex,gX G,if_pos h0,L]) (.int _ _) (fun x u=>by cases u) O
end
section
variable {tab:FuncId->Option AF} {w:PWd} {h:H} {M:Mem} {a:List PV} {a':List AV} {K:PV->Mem->List Nat->List Nat->Prop}
def QX(s:PSt w h M)(B:ak w a a')(c x y:AR)(E:PS tab (.pick c x y) a M K):bw w h M (aop a' h (.pick c x y)) K:=by
 simp only[PS]at E;obtain⟨b,hb,G⟩:=E;have u:=bE B c;rw[hb]at u;have u:=kZ u
 cases b with
 | true=>exact bw.pure s (v:=ev a' x) (by simp only[aop,u]) (bE B x) G
 | false=>exact bw.pure s (v:=ev a' y) (by simp only[aop,u]) (bE B y) G
def LH(s:PSt w h M)(G:ak w a a')(z:List AV)(u:List (Nat×Nat×AR))(B:PS tab (.build z u) a M K):bw w h M (aop a' h (.build z u)) K:=by simp only[PS]at B;obtain⟨cs,I,J⟩:=B;obtain⟨y,L,E⟩:=pM G u (gS w z) I;exact bw.pure s (v:= .agg y) (by simp only[aop,L]) (.agg E.len E.get) J
def CI(s:PSt w h M)(L:ak w a a')(x:AR)(B:PS tab (.nilCheck x) a M K):bw w h M (aop a' h (.nilCheck x)) K:=by
 have y:=bE L x;simp only[PS]at B;unfold EH at B;split at B
 ·rename_i id g o hv;obtain⟨ver,cs,hm,E⟩:=B;rw[hv]at y;obtain⟨e,b,G,I,_⟩:=s.iu hm y;rw[<-hv]at y;exact bw.pure s (v:=ev a' x) (by simp only[aop,I]) y E
 ·obtain⟨h1,E⟩:=B;revert y h1;generalize hv:pev a x=v at*;generalize J:ev a' x=u;intro y h1
  cases v with
  | cp cs o=>obtain⟨b,off,ver,rw,G,I,_⟩:=CR s y;exact bw.pure s (v:=u) (by simp only[aop,J,I]) y E
  | func fn f c=>
   cases y with
   | func O Q R S T=>rename_i U V;refine bw.pure s (v:= .func fn U V) ?_ (.func O Q R S T) E;simp only[aop,J];cases fn<;>first | rfl | (simp[CV]at h1)
  | iface t u=>
   cases y with
   | iface q=>rename_i Y;exact bw.pure s (v:= .iface t Y) (by simp only[aop,J]) (.iface q) E
  | _=>simp[CV]at h1
def XF(s:PSt w h M)(u:ak w a a')(op:BinOp)(x y:AR)(B:PS tab (.bin op x y) a M K):bw w h M (aop a' h (.bin op x y)) K:=by
 simp only[PS]at B;obtain⟨v,hv,E⟩:=B;unfold eE at hv;split at hv
 ·rename_i p q h1 h2;have G:=jX (bE u x) h1;have I:=jX (bE u y) h2
  cases hr:i7 op p q with
  | none=>rw[hr]at hv;cases hv
  | some r=>rw[hr]at hv;cases hv;exact bw.pure s (v:=r) (by simp only[aop,G,I,hr]) (jY w r) E
 ·cases hv
def aAL(s:PSt w h M)(y:ak w a a')(op:UnOp)(x:AR)(u:PS tab (.un op x) a M K):bw w h M (aop a' h (.un op x)) K:=by
 simp only[PS]at u;obtain⟨v,hv,B⟩:=u;unfold pun at hv;split at hv
 ·rename_i p h1;have E:=jX (bE y x) h1
  cases hr:aun op p with
  | none=>rw[hr]at hv;cases hv
  | some r=>rw[hr]at hv;cases hv;exact bw.pure s (v:=r) (by simp only[aop,E,hr]) (jY w r) B
 ·cases hv
def XB(s:PSt w h M)(y:ak w a a')(x:AR)(u:List AR)(B:PS tab (.max x u) a M K):bw w h M (aop a' h (.max x u)) K:=by
 simp only[PS]at B;obtain⟨v,hv,E⟩:=B;unfold ME at hv;split at hv
 ·rename_i p q h1 h2;have G:=jX (bE y x) h1;have I:=nT (r9 y u) h2
  cases hr:oI AD p q with
  | none=>rw[hr]at hv;cases hv
  | some r=>rw[hr]at hv;cases hv;exact bw.pure s (v:=r) (by simp only[aop,G,I,hr]) (jY w r) E
 ·cases hv
def XA(s:PSt w h M)(y:ak w a a')(x:AR)(u:List AR)(B:PS tab (.min x u) a M K):bw w h M (aop a' h (.min x u)) K:=by
 simp only[PS]at B;obtain⟨v,hv,E⟩:=B;unfold tZ at hv;split at hv
 ·rename_i p q h1 h2;have G:=jX (bE y x) h1;have I:=nT (r9 y u) h2
  cases hr:oI D8 p q with
  | none=>rw[hr]at hv;cases hv
  | some r=>rw[hr]at hv;cases hv;exact bw.pure s (v:=r) (by simp only[aop,G,I,hr]) (jY w r) E
 ·cases hv
def XD(s:PSt w h M)(u:ak w a a')(neg:Bool)(x y:AR)(B:PS tab (.eqB neg x y) a M K):bw w h M (aop a' h (.eqB neg x y)) K:=by simp only[PS]at B;obtain⟨p,h1,q,h2,I⟩:=B;have E:=bE u x;have G:=bE u y;rw[h1]at E;rw[h2]at G;exact bw.pure s (v:= .bool (if neg=Jr then !(p==q)else p==q)) (by simp only[aop,kZ E,kZ G]) (.bool _) I
def LD(s:PSt w h M)(O:ak w a a')(kd:Nat)(neg:Bool)(x y:AR)(G:PS tab (.isNil kd neg x y) a M K):bw w h M (aop a' h (.isNil kd neg x y)) K:=by
 simp only[PS]at G;have E:=bE O x;have B:=bE O y;have fin:∀b,PC kd (ev a' x) (ev a' y)=Jp b->K (.bool (if neg=Jr then !b else b)) M [] []->bw w h M (aop a' h (.isNil kd neg x y)) K:=fun b hb I=>
  bw.pure s (v:= .bool (if neg=Jr then !b else b)) (by simp only[aop,hb]) (.bool _) I
 unfold PL at G;split at G
 ·rename_i h1 h2;rw[h1]at E;rw[h2]at B;exact fin Jr (by rw[gU E,gU B];rfl) G
 ·rename_i fl own sz n cs h1 h2;rw[h1]at E;rw[h2]at B;rcases qQ s E with⟨J,rfl,_⟩ | ⟨_,_,_,_,_,_,J,_⟩
  ·rw[if_pos rfl]at G;exact fin Jr (by rw[J,gU B];rfl) G.1
  ·refine fin Js (by rw[J,gU B];rfl) ?_;by_cases L:n=0
   ·rw[if_pos L]at G;exact G.2
   ·rw[if_neg L]at G;exact G
 ·rename_i id g sz off n h1 h2;obtain⟨ver,cs,hm,I⟩:=G;rw[h1]at E;rw[h2]at B;obtain⟨e,_,_,q⟩:=s.ic hm E;rcases q with⟨J,_,rfl,_⟩ | ⟨_,_,_,J,_⟩
  ·rw[if_pos rfl]at I;exact fin Jr (by rw[J,gU B];rfl) I.1
  ·refine fin Js (by rw[J,gU B];rfl) ?_;by_cases L:n=0
   ·rw[if_pos L]at I;exact I.2
   ·rw[if_neg L]at I;exact I
 ·rename_i h1 h2;rw[h1]at E;rw[h2]at B;refine fin Jr ?_ G;revert E B;generalize ev a' x=u;generalize ev a' y=v;intro E B;cases E;cases B;rfl
 ·rename_i id g o h1 h2;obtain⟨ver,cs,hm,I⟩:=G;rw[h1]at E;rw[h2]at B;obtain⟨e,b,Q,J,_⟩:=s.iu hm E;refine fin Js ?_ I;rw[J];revert B;generalize ev a' y=v;intro B;cases B;rfl
 ·rename_i h1 h2;rw[h1]at E;rw[h2]at B;refine fin Jr ?_ G;revert E B;generalize ev a' x=u;generalize ev a' y=v;intro E B;cases E;cases B;rfl
 ·rename_i fn f c h1 h2;rw[h1]at E;rw[h2]at B;refine fin Js ?_ G;revert E B;generalize ev a' x=u;generalize ev a' y=v;intro E B;cases E;cases B;rfl
 ·rename_i h1 h2;rw[h1]at E;rw[h2]at B;refine fin Jr ?_ G;revert E B;generalize ev a' x=u;generalize ev a' y=v;intro E B;cases E;cases B;rfl
 ·rename_i h1 h2;rw[h1]at E;rw[h2]at B;refine fin Js ?_ G;revert E B;generalize ev a' x=u;generalize ev a' y=v;intro E B;cases E;cases B;rfl
 ·exact G.elim
def ET(s:PSt w h M)(G:ak w a a')(neg:Bool)(T:List (Option IntKind))(x y:AR)(I:PS tab (.ec neg T x y) a M K):bw w h M (aop a' h (.ec neg T x y)) K:=by
 simp only[PS]at I;obtain⟨p,h1,q,h2,b,hb,J⟩:=I;have B:=bE G x;have E:=bE G y;rw[h1]at B;rw[h2]at E;obtain⟨R,B,L⟩:=lX B;obtain⟨S,E,O⟩:=lX E;unfold sE at hb;split at hb
 ·rename_i u v h3 Q;rw[nT L h3]at B;rw[nT O Q]at E;exact bw.pure s (v:= .bool (if neg=Jr then !b else b)) (by simp only[aop,B,E,hb]) (.bool _) J
 ·cases hb
def EU(s:PSt w h M)(B:ak w a a')(k:IntKind)(x:AR)(u:PS tab (.du k x) a M K):bw w h M (aop a' h (.du k x)) K:=by simp only[PS]at u;obtain⟨G,n,h1,E⟩:=u;have y:=bE B x;rw[h1]at y;exact bw.pure s (v:= .int k (k.wrap n)) (by simp only[aop,gX y]) (.int _ _) E
def H8(s:PSt w h M)(u:ak w a a')(fn:Go.Fn)(f c:List AR)(y:PS tab (.ig fn f c) a M K):bw w h M (aop a' h (.ig fn f c)) K:=by simp only[PS]at y;obtain⟨⟨g,rfl⟩,G⟩:=y;have B:=r9 u f;have E:=r9 u c;exact bw.pure s (v:= .func (.func g) (f.map (ev a')) (c.map (ev a'))) (by simp only[aop]) (.func (fun l e=>by cases e) B.len E.len B.get E.get) G
def mQ(E:ak w a a'){x:Option AR}{k:Option Int->Prop}(u:E8 a x k):∃o,bnd a' x=Jp o/\k o:=by
 unfold E8 at u;split at u
 ·exact⟨Jq,rfl,u⟩
 ·rename_i y;obtain⟨kd,n,h1,G⟩:=u;have B:=bE E y;rw[h1]at B;exact⟨Jp n,by simp only[bnd,gX B],G⟩
def U6{m r:Option Int}(h:m=Jq\/m=r):(m.isSome&&r.isNone)=Js:=by
 rcases h with h | h<;>subst h
 ·rfl
 ·cases m<;>rfl
def U7{m r:Option Int}(h:m=Jq\/m=r)(n:Int):m.getD (r.getD n)=r.getD n:=by
 rcases h with h | h<;>subst h
 ·rfl
 ·cases m<;>rfl
def LC(s:PSt w h M)(O:ak w a a')(size:Nat)(x:AR)(Q J R:Option AR)(B:PS tab (.slice size x Q J R) a M K):bw w h M (aop a' h (.slice size x Q J R)) K:=by
 simp only[PS]at B;obtain⟨l,b1,B⟩:=mQ O B;obtain⟨r,b2,B⟩:=mQ O B;obtain⟨m,b3,B⟩:=mQ O B;have I:=bE O x;have fin:∀v p,jN size (ev a' x) l r m=Jp v->az w p v->K p M [] []->bw w h M (aop a' h (.slice size x Q J R)) K:=fun v p hv hr E=>
  bw.pure s (v:=v) (by simp only[aop,b1,b2,b3,hv]) hr E
 unfold TP at B;split at B
 ·rename_i hv;obtain⟨⟨h1,h2,u⟩,E⟩:=B;rw[hv]at I;refine fin .ag .ai ?_ .ai E;rw[gU I];rcases u with h | h<;>subst h
  ·simp[jN,h1,h2]
  ·cases m<;>simp_all [jN]
 ·rename_i fl own sz n cs hv;obtain⟨⟨rfl,u,h1,h2,h3⟩,E⟩:=B;rw[hv]at I;rcases qQ s I with⟨G,rfl,rfl⟩ | ⟨S,b,off,ver,rw,T,G,U,q1,q2,q3,q4,q5,Z⟩
  ·refine fin .ag _ ?_ ?_ E
   ·rw[G];have hl:l.getD 0=0:=by cases l<;>cases r<;>simp at h1 h2 h3 ⊢ <;>omega
    have hr:r.getD 0=0:=by cases l<;>cases r<;>simp at h1 h2 h3 ⊢ <;>omega
    rcases u with h | h<;>subst h
    ·simp[jN,hl,hr]
    ·cases m<;>simp_all [jN]
   ·have:(r.getD ((0:Nat):Int)-l.getD 0).toNat=0:=by cases l<;>cases r<;>simp at h1 h2 h3 ⊢ <;>omega
    rw[this];simpa [dQ]using az.slN
  ·have V:(l.getD 0).toNat*sz+(r.getD (n:Int)-l.getD 0).toNat*sz<=cs.length:=by rw[q4,<-Nat.add_mul];exact Dt _ (by omega)
   have hlen:(dQ cs ((l.getD 0).toNat*sz) ((r.getD (n:Int)-l.getD 0).toNat*sz)).length=(r.getD (n:Int)-l.getD 0).toNat*sz:=by simp[dQ];omega
   refine fin (.slice (if m.isSome then m.getD (r.getD n)==r.getD n else S&&r.getD (n:Int)==(n:Int)) sz b (off+(l.getD 0).toNat*sz) (r.getD (n:Int)-l.getD 0).toNat) _ ?_ ?_ E
   ·rw[G];unfold jN;have k1:=U6 u;have k2:=U7 u (n:Int);rw[if_neg (by simp[k1])];dsimp only;rw[if_pos ⟨rfl,h1,h2,by omega,by omega⟩]
   ·have B:=C0 q5 V;refine .sl q1 (by rw[hlen];omega) hlen ?_ Z.1 ?_ fun i y z hy hz=>?_
    ·intro hf L;rw[if_pos L]at hf
     cases r with
     | none=>
      have:m=Jq:=by rcases u with h | h<;>exact h
      subst this;simp at hf ⊢;exact U hf L
     | some r=>simp at hf
    ·intro L hf;rw[if_neg (by simp[L])]at hf;exact Z.2 L hf
    ·have J:=aF hy;refine B.get i y z hy ?_;rw[Bp,if_pos (by rw[<-hlen];exact J),Br];exact hz
 ·rename_i id g sz off n hv;obtain⟨ver,cs,hm,⟨rfl,u,h1,h2,h3⟩,E⟩:=B;rw[hv]at I;obtain⟨e,p1,p2,p3⟩:=s.ic hm I;rcases p3 with⟨G,rfl,rfl,hb,_⟩ | ⟨fl,b,T,G,hb,_⟩
  ·have hl:l.getD 0=0:=by cases l<;>cases r<;>simp at h1 h2 h3 ⊢ <;>omega
   have hr:r.getD 0=0:=by cases l<;>cases r<;>simp at h1 h2 h3 ⊢ <;>omega
   have Y:r.getD ((0:Nat):Int)=0:=by simpa using hr
   refine fin .ag _ ?_ ?_ E
   ·rw[G];rcases u with h | h<;>subst h
    ·simp[jN,hl,hr]
    ·cases m<;>simp_all [jN]
   ·simp only[hl,Y];simpa using az.jk p1 p2 hb
  ·refine fin (.slice (if m.isSome then m.getD (r.getD n)==r.getD n else fl&&r.getD (n:Int)==(n:Int)) sz b (off+(l.getD 0).toNat*sz) (r.getD (n:Int)-l.getD 0).toNat) _ ?_ (.ref p1 p2 hb) E;rw[G];unfold jN;have k1:=U6 u;have k2:=U7 u (n:Int);rw[if_neg (by simp[k1])];dsimp only;rw[if_pos ⟨rfl,h1,h2,by omega,by omega⟩]
 ·exact B.elim
def AN(s:PSt w h M)(I:ak w a a')(off:Nat)(x:AR)(y:PS tab (.fieldAddr off x) a M K):bw w h M (aop a' h (.fieldAddr off x)) K:=by
 have B:=bE I x;simp only[PS]at y;unfold aH9 at y;split at y
 ·rename_i id g o hv;obtain⟨ver,cs,hm,J⟩:=y;rw[hv]at B;obtain⟨e,b,G,L,O,Q,R,_⟩:=s.iu hm B;exact bw.pure s (v:= .ptr b (o+off)) (by simp only[aop,L]) (.ptr O Q R) J
 ·rename_i cs o hv;rw[hv]at B;revert B;generalize S:ev a' x=u;intro B
  cases B with
  | cp h1 h2 T=>rename_i b ver rw G E;exact bw.pure s (v:= .ptr b (E+(o+off))) (by simp only[aop,S,Cn]) (.cp h1 h2 T) y
 ·exact y.elim
def LF(s:PSt w h M)(L:ak w a a')(off:Nat)(n:Option Nat)(x:AR)(y:PS tab (.field off n x) a M K):bw w h M (aop a' h (.field off n x)) K:=by
 have B:=bE L x
 cases n with
 | none=>simp only[PS]at y;obtain⟨cs,h1,v,h2,I⟩:=y;rw[h1]at B;obtain⟨u,J,E⟩:=lX B;obtain⟨z,G,O⟩:=E.iy h2;exact bw.pure s (v:=z) (by simp only[aop,J,G]) O I
 | some n=>simp only[PS]at y;obtain⟨cs,h1,h2,I⟩:=y;rw[h1]at B;obtain⟨u,J,E⟩:=lX B;have G:=jP E off n;exact bw.pure s (v:= .agg ((u.drop off).take n)) (by simp only[aop,J];rw[if_pos (by rw[<-E.len];exact h2)]) (.agg G.len G.get) I
def AM(s:PSt w h M)(O:ak w a a')(size:Nat)(x i:AR)(B:PS tab (.indexAddr size x i) a M K):bw w h M (aop a' h (.indexAddr size x i)) K:=by
 have y:=bE O x;have E:=bE O i;simp only[PS]at B;unfold aH8 at B;split at B
 ·rename_i fl own sz n cs hv;obtain⟨kd,j,h1,⟨rfl,h2,h3⟩,G⟩:=B;rw[h1]at E;rw[hv]at y;have I:=gX E;revert y;generalize R:ev a' x=u;intro y
  cases y with
  | slN=>omega
  | sl J L Q U V Y S=>exact bw.pure s (by simp only[aop,R,I];rw[if_pos ⟨trivial,h2,h3⟩]) (.cp J L S) G
 ·rename_i id g sz off n hv;obtain⟨ver,cs,hm,kd,j,h1,⟨rfl,h2,h3⟩,G⟩:=B;rw[h1]at E;rw[hv]at y;have I:=gX E;obtain⟨e,J,L,Q⟩:=s.ic hm y;rcases Q with⟨_,_,rfl,_⟩ | ⟨fl,b,T,y,hb,_⟩
  ·omega
  ·exact bw.pure s (v:= .ptr b (off+j.toNat*sz)) (by simp only[aop,y,I];rw[if_pos ⟨trivial,h2,h3⟩]) (.ptr J L hb) G
 ·exact B.elim
def xO(s:PSt w h M)(O:ak w a a')(len size:Nat)(x i:AR)(y:PS tab (.bq len size x i) a M K):bw w h M (aop a' h (.bq len size x i)) K:=by
 have B:=bE O x;have G:=bE O i;simp only[PS]at y;unfold aDO at y;split at y
 ·rename_i id g o hv;obtain⟨ver,cs,hm,kd,j,h1,⟨h2,h3⟩,I⟩:=y;rw[h1]at G;rw[hv]at B;have J:=gX G;obtain⟨e,b,L,Q,R,S,T,_⟩:=s.iu hm B;exact bw.pure s (v:= .ptr b (o+j.toNat*size)) (by simp only[aop,Q,J];rw[if_pos ⟨h2,h3⟩]) (.ptr R S T) I
 ·rename_i cs o hv;obtain⟨kd,j,h1,⟨h2,h3⟩,I⟩:=y;rw[h1]at G;rw[hv]at B;have J:=gX G;revert B;generalize U:ev a' x=u;intro B
  cases B with
  | cp V Y Z=>rename_i b ver rw L E;exact bw.pure s (v:= .ptr b (E+(o+j.toNat*size))) (by simp only[aop,U,J];rw[if_pos ⟨h2,h3⟩,Cn]) (.cp V Y Z) I
 ·exact y.elim
def LE(s:PSt w h M)(G:ak w a a')(len size:Nat)(isAgg:Bool)(x i:AR)(I:PS tab (.index len size isAgg x i) a M K):bw w h M (aop a' h (.index len size isAgg x i)) K:=by
 have J:=bE G x;have L:=bE G i;simp only[PS]at I;obtain⟨cs,h1,kd,j,h2,h3,u⟩:=I;rw[h1]at J;rw[h2]at L;have O:=gX L;obtain⟨B,Q,E⟩:=lX J
 cases isAgg with
 | true=>simp only[if_true]at u;have y:=jP E (j.toNat*size) size;refine bw.pure s (v:= .agg ((B.drop (j.toNat*size)).take size)) ?_ (.agg y.len y.get) u.2;simp only[aop,Q,O];rw[if_pos h3];simp only[if_true];rw[if_pos (by rw[<-E.len];exact u.1)]
 | false=>simp only[Aq,if_false]at u;obtain⟨v,R,u⟩:=u;obtain⟨z,y,S⟩:=E.iy R;refine bw.pure s (v:=z) ?_ S u;simp only[aop,Q,O];rw[if_pos h3];simp only[Aq,if_false,y]
def ES(s:PSt w h M)(B:ak w a a')(x:AR)(i:Nat)(u:PS tab (.extract x i) a M K):bw w h M (aop a' h (.extract x i)) K:=by have y:=bE B x;simp only[PS]at u;obtain⟨cs,h1,v,h2,E⟩:=u;rw[h1]at y;obtain⟨G,I,J⟩:=tG y;obtain⟨z,L,O⟩:=J.iy h2;exact bw.pure s (v:=z) (by simp only[aop,I,L]) O E
def XC(s:PSt w h M)(G:ak w a a')(x:AR)(u:PS tab (.len x) a M K):bw w h M (aop a' h (.len x)) K:=by
 have B:=bE G x;simp only[PS]at u;unfold aH6 at u;split at u
 ·rename_i hv;rw[hv]at B;exact bw.pure s (v:=i64 0) (by simp only[aop,gU B]) (.int _ _) u
 ·rename_i fl own sz n cs hv;rw[hv]at B;rcases qQ s B with⟨y,rfl,rfl⟩ | ⟨_,_,_,_,_,_,y,_⟩
  ·exact bw.pure s (v:=i64 0) (by simp only[aop,y]) (.int _ _) u
  ·exact bw.pure s (v:=i64 n) (by simp only[aop,y]) (.int _ _) u
 ·rename_i id g sz off n hv;obtain⟨ver,cs,hm,E⟩:=u;rw[hv]at B;obtain⟨e,J,L,I⟩:=s.ic hm B;rcases I with⟨y,_,rfl,_⟩ | ⟨_,_,_,y,_⟩
  ·exact bw.pure s (v:=i64 0) (by simp only[aop,y]) (.int _ _) E
  ·exact bw.pure s (v:=i64 n) (by simp only[aop,y]) (.int _ _) E
 ·exact u.elim
def uS:∀(i:Nat) (M u:Mem),M.length<=u.length->∀id,id<M.length->i+id∉f8 i M u->U2 M u id
 | i,[],_,_,id,h,_=>by simp at h
 | i,o::M,[],hl,id,h,_=>by simp at hl
 | i,o::M,E::u,hl,id,h,y=>by
  unfold f8 at y;by_cases hs:pI o E=Jr
  ·rw[if_pos hs]at y
   cases id with
   | zero=>exact⟨o,E,rfl,rfl,hs⟩
   | succ id=>obtain⟨p,B,h1,h2,h3⟩:=uS (i+1) M u (by simpa using hl) id (by simpa using h) (by rwa [show i+1+id=i+(id+1) by omega]);exact⟨p,B,by simpa using h1,by simpa using h2,h3⟩
  ·rw[if_neg hs]at y
   cases id with
   | zero=>exact absurd (by simp) y
   | succ id=>obtain⟨p,B,h1,h2,h3⟩:=uS (i+1) M u (by simpa using hl) id (by simpa using h) (fun G=>y (by rw[show i+(id+1)=i+1+id by omega];exact List.mem_cons_of_mem _ G));exact⟨p,B,by simpa using h1,by simpa using h2,h3⟩
def lW{w:PWd}{v:PV}{l:List PV}{u:List AV}(h:ak w (v::l) u):∃x r,u=x::r/\az w v x/\ak w l r:=by
 cases u with
 | nil=>have:=h.len;simp at this
 | cons x r=>exact⟨x,r,rfl,h.get 0 _ _ rfl rfl,⟨by have:=h.len;simpa using this,fun i y z h1 h2=>h.get (i+1) y z (by simpa using h1) (by simpa using h2)⟩⟩
def CX{w:PWd}{t:TypeId}{g:FuncId} :∀{B:List PV} {u:List AV},ak w B u->iJ B t=Jp g->nB u t=Jp g
 | .int _ a:: .int _ b::r,u,h,hg=>by
  obtain⟨G,I,rfl,h1,h2⟩:=lW h;obtain⟨J,L,rfl,h3,E⟩:=lW h2;cases h1;cases h3;unfold iJ at hg;unfold nB;split at hg
  ·rename_i e;rw[if_pos e];exact hg
  ·rename_i e;rw[if_neg e];exact CX E hg
 | [],_,_,hg=>by simp[iJ]at hg
 | [_],_,_,hg=>by simp[iJ]at hg
 | x::y::r,u,h,hg=>by
  unfold iJ at hg;split at hg
  ·rename_i e;cases e;obtain⟨G,I,rfl,h1,h2⟩:=lW h;obtain⟨J,L,rfl,h3,E⟩:=lW h2;cases h1;cases h3;unfold nB;split at hg
   ·rename_i e;rw[if_pos e];exact hg
   ·rename_i e;rw[if_neg e];exact CX E hg
  ·cases hg
def xN(s:PSt w h M)(L:ak w a a')(x:AR)(B:PS tab (.cz x) a M K):bw w h M (aop a' h (.cz x)) K:=by
 simp only[PS]at B;have G:=bE L x;unfold aF8 at B;split at B
 ·rename_i t h1;obtain⟨I,O⟩:=B;rw[h1]at G;have Q:ev a' x= .str t:=by revert G;generalize ev a' x=u;intro G;cases G;rfl
  obtain⟨R,S,T⟩:=s.me (.cells 0 Js (t.data.toList.map fun b=> .int .u8 b.toNat));refine⟨.slice Js 1 h.next 0 t.size,_,[],by simp only[aop,Q];rw[if_pos I],_,.sl Jr Js 1 t.size (t.data.toList.map fun b=> .int .u8 b.toNat),M,[],[],S,R,?_,(fun x U=>by cases U),dx.refl M _,O⟩;refine .sl T (by simp) (by simp) (fun _ q=>by cases q) (fun q=>by cases q) (fun _ q=>by cases q) fun i y z E J=>?_;rw[Bg,Ap]at J;rw[Ap]at E
  cases hb:t.data.toList[i]? with
  | none=>rw[hb]at E;cases E
  | some b=>rw[hb]at E J;cases E;cases J;exact .int _ _
 ·exact B.elim
def Q0(s:PSt w h M)(I:ak w a a')(t:TypeId)(z:AV)(x:AR)(E:PS tab (.ot t z x) a M K):bw w h M (aop a' h (.ot t z x)) K:=by
 simp only[PS]at E;have B:=bE I x;unfold aH7 at E;split at E
 ·rename_i h1;rw[h1]at B;refine bw.pure s (v:= .tuple [z,.bool Js]) ?_ ?_ E
  ·revert B;simp only[aop];generalize ev a' x=u;intro B;cases B;rfl
  ·exact .tuple rfl (ak.cons (jY w z) (.cons (.bool Js) (.nil w))).get
 ·rename_i G v h1;rw[h1]at B;revert B;generalize J:ev a' x=u;intro B
  cases B with
  | iface L=>
   rename_i y;refine bw.pure s (v:=if G=t then .tuple [y,.bool Jr]else .tuple [z,.bool Js]) (by simp only[aop,J]) ?_ E;by_cases e:G=t
   ·rw[if_pos e,if_pos e];exact .tuple rfl (ak.cons L (.cons (.bool Jr) (.nil w))).get
   ·rw[if_neg e,if_neg e];exact .tuple rfl (ak.cons (jY w z) (.cons (.bool Js) (.nil w))).get
 ·exact E.elim
def QZ(h0:w.id0<=M.length)(s:PSt w h M)(ha:ak w a a')(f:AR)(args:List AR)(B:PS tab (.call f args) a M K):bw w h M (j6 (lim tab) (.call f args) a' h) K:=by
 have hf:=bE ha f;have y:=r9 ha args;simp only[PS]at B;have fin:∀(v:AV) (E:H),jQ (lim tab) (ev a' f) (args.map (ev a')) h=Jp (v,E)->(∃w' r G,eg M.length w h M w' E G/\PSt w' E G/\az w' r v/\KPC M K r G)->bw w h M (j6 (lim tab) (.call f args) a' h) K:=by intro v E he ⟨w',r,G,J,p2,U,p4⟩;exact⟨v,E,[],by simp only[j6,he],w',r,G,[],V0 M G,J,p2,U,(fun x hx=>by cases hx),fun id hi hn=>uS 0 M G J.len id hi (by rwa [Bg]),p4⟩
 unfold EJ at B;split at B
 ·rename_i g first Z hv
  rw[hv]at hf;revert hf;generalize O:ev a' f=u;intro hf
  cases hf with
  | func I Q R S V=>rename_i L c';have:=B w h (L++args.map (ev a')++c') h0 s (((⟨Q,S⟩:ak w first L).append y).append ⟨R,V⟩);unfold C at this;obtain⟨v,E,he,T⟩:=this;exact fin v E (by rw[O];exact he) T
 ·rename_i tn nm a4 Z hv;rw[hv]at hf;revert hf;generalize O:ev a' f=u;intro hf
  cases hf with
  | func I Q R S V=>
   rename_i L c';unfold aGI at B;split at B
   ·rename_i t v rest hr;rw[hr]at y;obtain⟨g,hg,B⟩:=B;obtain⟨x0,l0,a0,a1,a2⟩:=lW y;obtain⟨Y,rfl,a3⟩:∃Y,x0= .iface t Y/\az w v Y:=by cases a1;exact⟨_,rfl,by assumption⟩
    have hm:=CX ⟨Q,S⟩ hg;have:=B w h (Y::l0) h0 s (.cons a3 a2);unfold C at this;obtain⟨v',E,he,T⟩:=this;refine fin v' E ?_ T;rw[O,a0];simp only[jQ,uL,hm];exact he
   ·exact B.elim
 ·rename_i id first hv
  rw[hv]at hf;revert hf;generalize O:ev a' f=u;intro hf;obtain⟨⟨ver,lr,hm⟩,B⟩:=B;obtain⟨e0,b0,J,p2,U,_⟩:=s.obj _ _ hm
  cases hf with
  | yld I Q R S V=>rename_i e b L;rw[J]at I;cases I;rw[U]at R;cases R;have:=B w h _ (L++args.map (ev a')) h0 s ⟨_,_,hm,by simp,J,U⟩ ((⟨S,V⟩:ak w first L).append y);unfold EL at this;obtain⟨v,E,he,T⟩:=this;refine fin v E ?_ T;rw[O];simp only[jQ,List.nil_append]at he ⊢;exact he
  | ll x q0 I Q=>rw[J]at I;cases I;omega
 ·exact B.elim
end
def mg.nil(w:PWd):mg w [] []:=⟨rfl,fun i y z h=>by simp at h⟩
def mg.cons{w:PWd}{p:PV×PV}{q:AV×AV}{l:List (PV×PV)}{l':List (AV×AV)}(h1:az w p.1 q.1)(h2:az w p.2 q.2)(hl:mg w l l'):mg w (p::l) (q::l'):=
 ⟨by simp[hl.len],fun i y z a b=>by
  cases i with
  | zero=>simp at a b;subst a;subst b;exact⟨h1,h2⟩
  | succ i=>exact hl.get i y z (by simpa using a) (by simpa using b)⟩
def mg.split{w:PWd}{p:PV×PV}{l:List (PV×PV)}{l':List (AV×AV)}(h:mg w (p::l) l'):∃q u,l'=q::u/\az w p.1 q.1/\az w p.2 q.2/\mg w l u:=by
 cases l' with
 | nil=>exact absurd h.len (by simp)
 | cons q u=>obtain⟨a,b⟩:=h.get 0 p q rfl rfl;exact⟨q,u,rfl,a,b,⟨by simpa using h.len,fun i y z c d=>h.get (i+1) y z (by simpa using c) (by simpa using d)⟩⟩
def sL{w:PWd}{kd:Nat}{k:AV} :∀{y:List (PV×PV)} {u:List (AV×AV)} {r:Option PV},mg w y u->fZ kd k y=Jp r->∃B,mW kd k u=Jp B/\((r=Jq/\B=Jq)\/∃v x,r=Jp v/\B=Jp x/\az w v x)
 | [],u,r,h,hr=>by have:u=[]:=List.length_eq_zero_iff.1 (by simpa using h.len.symm);subst this;simp only[fZ]at hr;cases hr;exact⟨Jq,rfl,.inl ⟨rfl,rfl⟩⟩
 | (k1,J)::y,u,r,h,hr=>by
  obtain⟨⟨k2,G⟩,K,rfl,a,b,c⟩:=h.split;simp only[fZ]at hr
  cases E:eZ k1 with
  | none=>rw[E]at hr;cases hr
  | some L=>
   rw[E]at hr;have e:=jX a E;simp only at e;subst e;simp only at hr;simp only[mW]
   cases I:zU kd k k2 with
   | none=>rw[I]at hr;cases hr
   | some t=>
    rw[I]at hr
    cases t with
    | true=>cases hr;exact⟨Jp G,rfl,.inr ⟨J,G,rfl,rfl,b⟩⟩
    | false=>exact sL c hr
def C6{w:PWd}{kd:Nat}{k:AV}{key v:PV}{x:AV}(u:az w key k)(hv:az w v x):∀{B:List (PV×PV)} {y:List (AV×AV)} {r:Option PV},mg w B y->fZ kd k B=Jp r->mg w (kK kd key k v B) (kD kd k x y)
 | [],y,r,h,_=>by have:y=[]:=List.length_eq_zero_iff.1 (by simpa using h.len.symm);subst this;exact .cons u hv (.nil w)
 | (k1,I)::B,y,r,h,hr=>by
  obtain⟨⟨k2,J⟩,K,rfl,a,b,c⟩:=h.split;simp only[fZ]at hr
  cases E:eZ k1 with
  | none=>rw[E]at hr;cases hr
  | some L=>
   rw[E]at hr;have e:=jX a E;simp only at e;subst e;simp only at hr;simp only[kD,kK,E]
   cases G:zU kd k k2 with
   | none=>rw[G]at hr;cases hr
   | some t=>
    rw[G]at hr
    cases t with
    | true=>exact .cons u hv c
    | false=>exact .cons a b (C6 u hv c hr)
section
variable {tab:FuncId->Option AF} {w:PWd} {h:H} {M:Mem} {a:List PV} {a':List AV} {K:PV->Mem->List Nat->List Nat->Prop}
def PSt.px(s:PSt w h M){id ver:Nat}{B:List (PV×PV)}(hm:M[id]? =Jp (.map ver B)){x:AV}(G:az w (.map id) x):
  ∃e b u,x= .map b/\w.env id=Jp e/\e.g=0/\e.blk=Jp b/\h.get b=Jp (.map (e.v0+ver) u)/\mg w B u/\af w M id b:=by
 obtain⟨e,b,h1,h2,h3,u,I,J⟩:=s.obj _ _ hm
 cases G with
 | map y L E=>rw[h1]at y;cases y;rw[h3]at E;cases E;exact⟨e,b,u,rfl,h1,h2,h3,I,J,⟨_,e,hm,by simp,h1,h3⟩⟩
 | lj x O y L=>rw[h1]at y;cases y;omega
def PSt.qo(s:PSt w h M){id ver b:Nat}{Z I:List (PV×PV)}{u:List (AV×AV)}{e:Ent}(hm:M[id]? =Jp (.map ver Z))(he:w.env id=Jp e)(hg:e.g=0)(hb:e.blk=Jp b)(hr:mg w I u){ver2:Nat} :
  PSt w (h.set b (.map (e.v0+ver2) u)) (M.set id (.map ver2 I))/\eg M.length w h M w (h.set b (.map (e.v0+ver2) u)) (M.set id (.map ver2 I)):=by
 have y:af w M id b:=⟨_,e,hm,by simp,he,hb⟩;have T:=y.next s;have hid:=y.lt;have live:∀i x,af w (M.set id (.map ver2 I)) i x->af w M i x:=by
  rintro i x ⟨S,R,h1,h2,h3,V⟩;by_cases J:id=i
  ·subst J;exact⟨_,R,hm,by simp,h3,V⟩
  ·rw[Bt J]at h1;exact⟨S,R,h1,h2,h3,V⟩
 have B:∀x,x≠b->(h.set b (.map (e.v0+ver2) u)).get x=h.get x:=fun x L=>H.bp L;have O:(h.set b (.map (e.v0+ver2) u)).get b=Jp (.map (e.v0+ver2) u):=by rw[H.gu,if_pos ⟨rfl,T⟩]
 refine⟨⟨?_,?_,s.blk,?_,fun i j x h1 h2=>s.inj i j x (live i x h1) (live j x h2),fun i x h1=>s.sep i x (live i x h1),s.base⟩,⟨by simp,Le.refl _ _,Ab _,?_,fun i x h1 _=>live i x h1,fun x L=> .inl L⟩⟩
 ·intro x o L;have:x≠b:=by rintro rfl;rw[(s.sep id x y).1]at L;cases L
  rw[B x this];exact s.imm x o L
 ·intro i R Q;have:=s.env i R Q;simpa using this
 ·intro i S J;by_cases E:id=i
  ·subst E;rw[Ck hid]at J;cases J;exact⟨e,b,he,hg,hb,u,O,hr⟩
  ·rw[Bt E]at J;by_cases G:S= .gone
   ·subst G;trivial
   ·refine kg.mono s (Le.refl _ _) (s.obj i S J) (fun _ h=>h) fun R Y Q U=>B Y ?_;rintro rfl;exact E (s.inj id i Y y ⟨S,R,J,G,Q,U⟩)
 ·intro x L hn;refine B x ?_;rintro rfl;exact hn id y
def EQ(s:PSt w h M)(G:ak w a a')(u:PS tab .makeMap a M K):bw w h M (aop a' h .makeMap) K:=by simp only[PS]at u;obtain⟨y,B⟩:=s.alloc (o:= .map 0 []) (o':= .map 0 []) (e:=⟨Jp h.next,0,0⟩) rfl fun w' hl he=>⟨_,_,he,rfl,rfl,[],H.ah _ _,.nil w'⟩;exact⟨.map h.next,_,[],rfl,_,_,_,[],[],B,y,.map (e:=⟨Jp h.next,0,0⟩) (by show(if _=_ then _ else _)=_;rw[if_pos rfl]) rfl rfl,(fun x E=>by cases E),dx.app M _ _,u⟩
def H9(s:PSt w h M)(O:ak w a a')(kd:Nat)(B:Bool)(z:AV)(x i:AR)(E:PS tab (.lookup kd B z x i) a M K):bw w h M (aop a' h (.lookup kd B z x i)) K:=by
 simp only[PS]at E;have G:=bE O x;have Y:=bE O i;unfold aDL at E;split at E
 ·rename_i id k hv Z;obtain⟨ver,es,hm,r,hr,Q⟩:=E;rw[hv]at G;obtain⟨e,b,a0,R,e2,e3,e4,S,e6,T⟩:=s.px hm G;have U:=jX Y Z;obtain⟨r',V,f2⟩:=sL e6 hr;have I:aF6 w h M [b] [id]:=fun x G=>by simp only[Ch]at G;subst G;exact⟨T.next s,.inr ⟨id,by simp,T⟩⟩
  rcases f2 with⟨rfl,rfl⟩ | ⟨v,y,rfl,rfl,f3⟩
  ·refine bw.read s (v:=if B then .tuple [z,.bool Js]else z) (rd:=[b]) (prd:=[id]) ?_ ?_ I Q
   ·simp only[aop,R,S,U,V]
   ·unfold zK
    cases B with
    | true=>
     refine .tuple rfl fun i y z u J=>?_
     match i with
     | 0=>cases u;cases J;exact jY _ _
     | 1=>cases u;cases J;exact .bool _
     | i+2=>simp at u
    | false=>exact jY _ _
  ·refine bw.read s (v:=if B then .tuple [y,.bool Jr]else y) (rd:=[b]) (prd:=[id]) ?_ ?_ I Q
   ·simp only[aop,R,S,U,V]
   ·unfold zK
    cases B with
    | true=>
     refine .tuple rfl fun i y z u J=>?_
     match i with
     | 0=>cases u;cases J;exact f3
     | 1=>cases u;cases J;exact .bool _
     | i+2=>simp at u
    | false=>exact f3
 ·exact E.elim
def AJ(s:PSt w h M)(E:ak w a a')(kd:Nat)(m i v:AR)(u:PS tab (.mapUpdate kd m i v) a M K):bw w h M (aop a' h (.mapUpdate kd m i v)) K:=by
 simp only[PS]at u;have B:=bE E m;have G:=bE E i;have I:=bE E v;unfold aDK at u;split at u
 ·rename_i id k hv Q;obtain⟨ver,es,hm,r,hr,_,R⟩:=u;rw[hv]at B;obtain⟨e,b,S,T,U,V,Y,Z,J,e7⟩:=s.px hm B;have L:=jX G Q;obtain⟨r',f1,f2⟩:=sL J hr;rw[L]at G;have f3:=C6 G I J hr;obtain⟨s1,s2⟩:=s.qo (ver2:=ver+1) hm U V Y f3;refine⟨.tuple [],_,[],?_,w,.tuple [],_,[],[id],s2,s1,.tuple rfl (fun i y z q=>by simp at q),(fun x B=>by cases B),dx.set M id _,R⟩;simp only[aop,T,Z,L,f1];rfl
 ·exact u.elim
end
section
variable {tab:FuncId->Option AF} {w:PWd} {h:H} {M:Mem} {a:List PV} {a':List AV} {K:PV->Mem->List Nat->List Nat->Prop}
def CG(s:PSt w h M)(B:ak w a a')(x:AR)(G I:Option AR)(u:PS tab (.ew x G I) a M K):bw w h M (aop a' h (.ew x G I)) K:=by
 have E:=bE B x;simp only[PS]at u;obtain⟨str,J,u⟩:=u;obtain⟨l,L,u⟩:=mQ B u;obtain⟨r,O,u⟩:=mQ B u;rw[J]at E;have ex:ev a' x= .str str:=by generalize ev a' x=y at E;cases E;rfl
 exact bw.pure s (by simp only[aop,ex,L,O];rw[if_pos u.1]) (.str _) u.2
def IA(s:PSt w h M)(E:ak w a a')(x:AR)(u:PS tab (.iv x) a M K):bw w h M (aop a' h (.iv x)) K:=by
 have B:=bE E x;simp only[PS]at u;obtain⟨str,G,u⟩:=u;rw[G]at B;have ex:ev a' x= .str str:=by generalize ev a' x=y at B;cases B;rfl
 exact bw.pure s (by simp only[aop,ex]) (.int _ _) u
def IB(s:PSt w h M)(G:ak w a a')(x:AR)(u:PS tab (.ii x) a M K):bw w h M (aop a' h (.ii x)) K:=by
 have y:=bE G x;simp only[PS]at u;unfold aDM at u;split at u
 ·rename_i id hv;obtain⟨ver,R,hm,I⟩:=u;rw[hv]at y;obtain⟨e,b,B,J,S,T,U,L,O,E⟩:=s.px hm y;refine bw.read s (v:=i64 B.length) (rd:=[b]) (prd:=[id]) (by simp only[aop,J,L]) (by rw[<-O.len];exact .int _ _) (fun x y=>?_) I;simp only[Ch]at y;subst y;exact⟨E.next s,.inr ⟨id,by simp,E⟩⟩
 ·exact u.elim
def CH(s:PSt w h M)(B:ak w a a')(len size:Nat)(x:AR)(E G:Option AR)(u:PS tab (.dj len size x E G) a M K):bw w h M (aop a' h (.dj len size x E G)) K:=by
 have y:=bE B x;simp only[PS]at u;obtain⟨l,J,u⟩:=mQ B u;obtain⟨r,L,u⟩:=mQ B u;unfold aH5 at u;split at u
 ·rename_i id g o hv;obtain⟨ver,cs,hm,⟨h1,h2,h3,O⟩,Q⟩:=u;rw[hv]at y;obtain⟨e,b,R,S,T,U,V,Y,Z,I⟩:=s.iu hm y;refine bw.read s (v:= .slice (Jr&&r.getD (len:Int)==(len:Int)) size b (o+(l.getD 0).toNat*size) (r.getD (len:Int)-l.getD 0).toNat) (rd:=[b]) (prd:=[id]) ?_ (.ref T U V) (fun x y=>?_) Q
  ·simp only[aop,S,J,L,Y];rw[if_pos (by rw[<-Z.len];exact h1)];simp[jN,h2,h3,O]
  ·simp only[Ch]at y;subst y;exact⟨I.next s,.inr ⟨id,by simp,I⟩⟩
 ·exact u.elim
def GF{l:List PV}{u:List AV}{t:List UInt8}(h:ak w l u)(e:pN l=Jp t):jS u=Jp t:=by
 unfold pN at e
 cases ht:kA l with
 | none=>rw[ht]at e;cases e
 | some x=>rw[ht]at e;rw[nT h ht];exact e
def xP(s:PSt w h M)(R:ak w a a')(x:AR)(y:PS tab (.cg x) a M K):bw w h M (aop a' h (.cg x)) K:=by
 have u:=bE R x;simp only[PS]at y;unfold aIa at y;split at y
 ·rename_i hv;rw[hv]at u;have S:=gU u;exact bw.pure s (by simp only[aop,S];rfl) (.str _) y
 ·rename_i fl own sz n cs hv;obtain⟨rfl,t,ht,E⟩:=y;rw[hv]at u;rcases qQ s u with⟨B,rfl,rfl⟩ | ⟨T,b,off,ver,rw,L,B,U,I,J,O,Q,V,Z⟩
  ·have:t=[]:=by simpa [pN,kA,jS]using ht.symm
   subst this;exact bw.pure s (by simp only[aop,B];rfl) (.str _) E
  ·rw[Ce]at Q;refine bw.read s (v:= .str ⟨t.toArray⟩) (rd:=[b]) (prd:=[]) ?_ (.str _) (fun x u=>?_) E
   ·simp only[aop,B,dY,J];rw[if_pos (by omega)];have:=GF V ht;rw[Q]at this;simp only[this]
   ·simp only[Ch]at u;subst u;exact⟨s.ij I,.inl (by rw[I];simp)⟩
 ·rename_i id g sz off n hv;obtain⟨ver,cs,hm,⟨rfl,h1⟩,t,ht,E⟩:=y;rw[hv]at u;obtain⟨e,p1,p2,Y⟩:=s.ic hm u;rcases Y with⟨B,rfl,rfl,hb,rfl⟩ | ⟨fl,b,L,B,hb,I,J,O⟩
  ·have:t=[]:=by simpa [pN,dQ,kA,jS]using ht.symm
   subst this;exact bw.read s (rd:=[]) (prd:=[id]) (by simp only[aop,B];rfl) (.str _) (fun x u=>by cases u) E
  ·refine bw.read s (v:= .str ⟨t.toArray⟩) (rd:=[b]) (prd:=[id]) ?_ (.str _) (fun x u=>?_) E
   ·simp only[aop,B,dY,I];rw[if_pos (by rw[<-J.len];exact h1)];have:=GF (jP J off n) ht;simp only[this]
   ·simp only[Ch]at u;subst u;exact⟨O.next s,.inr ⟨id,by simp,O⟩⟩
 ·exact y.elim
end
section
variable {tab:FuncId->Option AF}
def EK{w:PWd}{h:H}{M:Mem}{a:List PV}{I:List AV}{K:PV->Mem->List Nat->List Nat->Prop}(h0:w.id0<=M.length)(s:PSt w h M)(B:ak w a I)(o:AO)(u:PS tab o a M K):bw w h M (j6 (lim tab) o I h) K:=by
 cases o with
 | move x=>exact bw.pure s (v:=ev I x) rfl (bE B x) u
 | pick c x y=>exact QX s B c x y u
 | alloc cs=>exact LJ s B cs u
 | box x=>exact XE s B x u
 | build z J=>exact LH s B z J u
 | buildSlice size len z J=>exact xQ s B size len z J u
 | load x=>exact QY s B x u
 | eh n x=>exact ER s B n x u
 | store n p x=>exact LB s B n p x u
 | nilCheck x=>exact CI s B x u
 | bin op x y=>exact XF s B op x y u
 | eqB neg x y=>exact XD s B neg x y u
 | isNil kd neg x y=>exact LD s B kd neg x y u
 | ec neg T x y=>exact ET s B neg T x y u
 | un op x=>exact aAL s B op x u
 | du k x=>exact EU s B k x u
 | ig fn f c=>exact H8 s B fn f c u
 | makeSlice bytes z n c=>exact AK s B bytes z n c u
 | slice size x E G O=>exact LC s B size x E G O u
 | fieldAddr off x=>exact AN s B off x u
 | field off n x=>exact LF s B off n x u
 | indexAddr size x i=>exact AM s B size x i u
 | bq len size x i=>exact xO s B len size x i u
 | index len size isAgg x i=>exact LE s B len size isAgg x i u
 | extract x i=>exact ES s B x i u
 | call f args=>exact QZ h0 s B f args u
 | append size bytes Q x=>exact ID s B size bytes Q x u
 | len x=>exact XC s B x u
 | dq x i=>exact CJ s B x i u
 | bz bytes z x y=>exact xR s B bytes z x y u
 | iv x=>exact IA s B x u
 | ii x=>exact IB s B x u
 | ew x E G=>exact CG s B x E G u
 | dj len size x E G=>exact CH s B len size x E G u
 | cg x=>exact xP s B x u
 | iz size d x=>exact LG s B size d x u
 | fp z x=>exact IC s B z x u
 | max x L=>exact XB s B x L u
 | min x L=>exact XA s B x L u
 | makeMap=>exact EQ s B u
 | lookup kd R z x i=>exact H9 s B kd R z x i u
 | mapUpdate kd m i v=>exact AJ s B kd m i v u
 | gp t x=>exact bw.pure s (v:= .iface t (ev I x)) rfl (.iface (bE B x)) u
 | cz x=>exact xN s B x u
 | ot t z x=>exact Q0 s B t z x u
 | _=>simp only[PS]at u
def eg.weaken{m u:Nat}{w w':PWd}{h h':H}{M M':Mem}(p:eg u w h M w' h' M')(hm:m<=u):eg m w h M w' h' M':=
 ⟨As hm p.len,⟨p.le.n0,p.le.id0,p.le.imm,fun id E=>p.le.env id (by omega)⟩,p.next,p.fc,p.live,fun x y=>by
  rcases p.new x y with e | e | ⟨id,G,B⟩
  ·exact .inl e
  ·exact .inr (.inl e)
  ·exact .inr (.inr ⟨id,by omega,B⟩)⟩
def zV{w:PWd}{a:List PV}{E:List AV}(G:ak w a E){t:Nat}{u:Bool}{A B:Prop}(h:oM (bf a t) u A B):
  (fH E (Jp (t,u))=Jp Jr/\A)\/(fH E (Jp (t,u))=Jp Js/\B):=by
 have ht:=G.bu t;rcases h with⟨b,hb,y⟩ | ⟨l,hl,y⟩
 ·rw[hb]at ht;simp only[fH,kZ ht];by_cases e:b=u
  ·rw[if_pos e]at y;exact .inl ⟨by simp[e],y⟩
  ·rw[if_neg e]at y;exact .inr ⟨by simp[e],y⟩
 ·rw[hl]at ht;obtain⟨I,e,_⟩:=tG ht;simp only[fH,e];exact .inr ⟨trivial,y⟩
def LY(w:PWd):az w (.tuple []) (.tuple []):= .tuple rfl (fun i y z q=>by simp at q)
def qE:∀(os:List aw) {w:PWd} {h:H} {M:Mem} {a:List PV} {G:List AV} {Q:List PV->Mem->Prop},w.id0<=M.length->PSt w h M->ak w a G->PO tab os a M Q->
  ∃u h2,j4 (lim tab) os G h=Jp (u,h2)/\∃y E B,eg M.length w h M y h2 B/\PSt y h2 B/\ak y E u/\Q E B
 | [],w,h,M,a,G,Q,h0,s,I,L=>⟨G,h,rfl,w,a,M,eg.refl (Ab _) w h,s,I,L⟩
 | ⟨d,o,J,chk⟩::os,w,h,M,a,G,Q,h0,s,I,L=>by
  have step:PS tab o a M (fun v T _ _=>PO tab os (fy a d v) T Q)->fH G J=Jp Jr->∃u h2,j4 (lim tab) (⟨d,o,J,chk⟩::os) G h=Jp (u,h2)/\∃y E B,eg M.length w h M y h2 B/\PSt y h2 B/\ak y E u/\Q E B:=by intro hs hw;obtain⟨v,h1,rd,U,w1,p,M1,V,Y,K,Z,hr,_,_,hk⟩:=EK h0 s I o hs;obtain⟨u,h2,O,y,E,B,t1,t2,t3,t4⟩:=qE os (by rw[K.le.id0];exact As h0 K.len) Z ((I.mono K.le s.env).put d hr) hk;refine⟨u,h2,?_,y,E,B,K.trans t1 K.len,t2,t3,t4⟩;simp only[j4,hw,U];exact O
  have R:PO tab os (fy a d (.tuple [])) M Q->fH G J=Jp Js->∃u h2,j4 (lim tab) (⟨d,o,J,chk⟩::os) G h=Jp (u,h2)/\∃y E B,eg M.length w h M y h2 B/\PSt y h2 B/\ak y E u/\Q E B:=by intro hs hw;obtain⟨u,h2,O,rest⟩:=qE os h0 s (I.put d (LY w)) hs;refine⟨u,h2,?_,rest⟩;simp only[j4,hw];exact O
  cases J with
  | none=>exact step L rfl
  | some g=>
   obtain⟨t,S⟩:=g;rcases zV I L with⟨h1,h2⟩ | ⟨h1,h2⟩
   ·exact step h2 h1
   ·exact R h2 h1
structure LogOk (w:PWd) (h:H) (M:Mem) (e:ku) (p:ko):Prop where
 idx:e.idx=p.idx
 ok:∃wb wa Ma,PSt wb e.hb p.Mb/\PSt wa e.ha Ma/\eg p.Mb.length wb e.hb p.Mb wa e.ha Ma/\eg Ma.length wa e.ha Ma w h M/\dx p.Mb Ma p.chg/\Ma.length=p.na/\
  ∀x∈e.rd,(x=e.hb.next/\e.hb.next<e.ha.next)\/(x<e.hb.next/\(wb.imm x≠Jq\/∃id∈p.rd,af wb p.Mb id x))
inductive ib (w:PWd) (h:H) (M:Mem):List ku->List ko->Prop
 | nil:ib w h M [] []
 | cons {e:ku} {p:ko} {l:List ku} {ps:List ko} :LogOk w h M e p->ib w h M l ps->ib w h M (e::l) (p::ps)
def ib.mono{w w':PWd}{h u:H}{M y:Mem}(t:eg M.length w h M w' u y){l:List ku}{ps:List ko}(hl:ib w h M l ps):ib w' u y l ps:=by
 induction hl with
 | nil=>exact .nil
 | cons he _ E=>refine .cons ⟨he.idx,?_⟩ E;obtain⟨G,I,J,h1,h2,h3,B,K,L⟩:=he.ok;exact⟨G,I,J,h1,h2,h3,B.trans t B.len,K,L⟩
def FY{w w':PWd}{h U:H}{M R:Mem}(s:PSt w h M)(s':PSt w' U R)(t:eg M.length w h M w' U R){id x:Nat}(hl:af w M id x)(hp:U2 M R id):af w' R id x/\U.ver x=h.ver x:=by
 obtain⟨o,e,h1,h2,h3,J⟩:=hl;obtain⟨o1,S,h5,T,u⟩:=hp;rw[h1]at h5;cases h5;have hid:=s.env id e h3;obtain⟨e',K,L⟩:=t.le.env id hid e h3;have V:=s.obj id o h1;have Y:=s'.obj id S T
 cases o with
 | cells g ver cs=>
  cases S with
  | cells g2 y a0=>
   simp only[pI,Aw,beq_iff_eq]at u;obtain⟨rfl,rfl⟩:=u;obtain⟨ea,B,a2,E⟩:=V;obtain⟨eb,G,b2,I⟩:=Y;rw[h3]at B;cases B;rw[K]at G;cases G;rcases L with L | rfl
   ·omega
   ·rw[J]at E I;obtain⟨_,O,_⟩:=E;obtain⟨_,Q,_⟩:=I;exact⟨⟨_,_,T,by simp,K,J⟩,by simp[H.ver,O,Q,cq.ver]⟩
  | _=>simp[pI]at u
 | map ver es=>
  cases S with
  | map y Z=>
   simp only[pI,beq_iff_eq]at u;subst u;obtain⟨ea,ba,B,a2,E,_,O,_⟩:=V;obtain⟨eb,bb,G,b2,I,_,Q,_⟩:=Y;rw[h3]at B;cases B;rw[K]at G;cases G;rcases L with L | rfl
   ·omega
   ·rw[J]at E I;cases E;cases I;exact⟨⟨_,_,T,by simp,K,J⟩,by simp[H.ver,O,Q,cq.ver]⟩
  | _=>simp[pI]at u
 | loop ver es=>
  cases S with
  | loop y Z=>
   simp only[pI,beq_iff_eq]at u;subst u;obtain⟨ea,ba,B,a2,E,_,O,_⟩:=V;obtain⟨eb,bb,G,b2,I,_,Q,_⟩:=Y;rw[h3]at B;cases B;rw[K]at G;cases G;rcases L with L | rfl
   ·omega
   ·rw[J]at E I;cases E;cases I;exact⟨⟨_,_,T,by simp,K,J⟩,by simp[H.ver,O,Q,cq.ver]⟩
  | _=>simp[pI]at u
 | gone=>exact absurd rfl h2
def aA9{Q w:PWd}{hb h:H}{G M:Mem}(V:PSt Q hb G)(s:PSt w h M)(t:eg G.length Q hb G w h M){id x:Nat}(hl:af w M id x)(E:lg G M id=Jr):af Q G id x:=by
 obtain⟨o,e,h1,h2,h3,h4⟩:=hl;unfold lg at E;rw[h1]at E;have L:∀O,G[id]? =Jp O->O≠ .gone->(∀B,Q.env id=Jp B->B.g=e.g)->(∃B,Q.env id=Jp B)->af Q G id x:=by
  intro O y hg S ⟨B,u⟩;obtain⟨e',Y,Z⟩:=t.le.env id (V.env id B u) B u;rw[h3]at Y;cases Y;have:=S B u;rcases Z with Z | rfl
  ·omega
  ·exact⟨O,_,y,hg,u,h4⟩
 have r:=s.obj id o h1
 cases y:G[id]? with
 | none=>rw[y]at E;simp at E
 | some O=>
  rw[y]at E;have T:=V.obj id O y
  cases O with
  | cells g ver cs=>
   cases o with
   | cells g2 I a0=>simp only[beq_iff_eq]at E;subst E;obtain⟨R,J,a2,a3⟩:=T;obtain⟨B,K,b2,b3⟩:=r;rw[h3]at K;cases K;exact L _ y (by simp) (fun B u=>by rw[J]at u;cases u;omega) ⟨R,J⟩
   | _=>simp at E
  | map ver es=>
   cases o with
   | map I U=>obtain⟨R,ba,J,a2,_⟩:=T;obtain⟨B,bb,K,b2,_⟩:=r;rw[h3]at K;cases K;exact L _ y (by simp) (fun B u=>by rw[J]at u;cases u;omega) ⟨R,J⟩
   | _=>simp at E
  | loop ver es=>
   cases o with
   | loop I U=>obtain⟨R,ba,J,a2,_⟩:=T;obtain⟨B,bb,K,b2,_⟩:=r;rw[h3]at K;cases K;exact L _ y (by simp) (fun B u=>by rw[J]at u;cases u;omega) ⟨R,J⟩
   | _=>simp at E
  | gone=>cases o<;>simp at E
def KM{w w':PWd}{h u:H}{M y:Mem}{m:Nat}(t:eg m w h M w' u y){x:Nat}(B:x<h.next)(E:∀id,¬af w M id x):u.ver x=h.ver x:=by unfold H.ver;rw[t.fc x B E]
def aCs{w w':PWd}{h u:H}{M y:Mem}(t:eg M.length w h M w' u y){x:Nat}(G:x<h.next)(B:w'.imm x≠Jq):w.imm x≠Jq:=by
 rcases t.new x B with e | e | ⟨id,I,E⟩
 ·exact e
 ·omega
 ·have:=E.lt;omega
def yR{w w':PWd}{h U:H}{M V:Mem}(s:PSt w h M)(s':PSt w' U V)(t:eg M.length w h M w' U V){eff:Bool}{rd0 prd chg chk:List Nat}(hr:aF6 w h M rd0 prd)(hc:dx M V chg):
  ∀{O:List ku} {E:List ko},ib w h M O E->jc eff prd chg M E chk=Jr->sT eff (rdx h U rd0) h U O chk=Jr:=by
 intro O E hl B;unfold jc at B;unfold sT
 induction hl with
 | nil=>rfl
 | @cons e p l ps he _ ih=>
  simp only[List.all_cons,Aw]at B ⊢;refine⟨?_,ih B.2⟩;have B:=B.1;rw[he.idx];split
  ·rename_i R;rw[if_pos R]at B;obtain⟨wb,wa,Ma,Q,sa,G,S,Y,a4,L⟩:=he.ok;have J:=G.trans S G.len
   cases eff with
   | true=>
    simp only[if_true]at B ⊢;rw[Cb]at B ⊢;intro x K;unfold kH;split
    ·rename_i I;simp only[beq_iff_eq];by_cases u:∃id,af w M id x
     ·obtain⟨id,u⟩:=u;by_cases hid:id∈chg
      ·have:=B id hid;simp only[Aw,Bool.or_eq_true,decide_eq_true_eq,Bool.not_eq_true',List.contains_eq_mem,decide_eq_false_iff_not]at this;rcases this.2 with Z | a3
       ·have lb:=aA9 Q s J u Z;rcases L x K with⟨rfl,_⟩ | ⟨_,q | ⟨a0,q1,q2⟩⟩
        ·have:=lb.next Q;omega
        ·exact absurd (Q.sep id x lb).1 q
        ·have:=Q.inj id a0 x lb q2;subst this;exact absurd q1 (by simpa using this.1)
       ·exfalso;have a1:x<e.ha.next:=by
         rcases L x K with⟨rfl,q⟩ | ⟨q,_⟩
         ·exact q
         ·exact Bk q G.next
        have:=(S.live id x u a1).lt;omega
      ·exact(FY s s' t u (hc id u.lt hid)).2.symm
     ·exact(KM t I fun id hl=>u ⟨id,hl⟩).symm
    ·rfl
   | false=>
    simp only[Aq,if_false]at B ⊢;rw[Cb]at B ⊢;intro x K;unfold kH;split
    ·rename_i I;simp only[beq_iff_eq];by_cases y:∃id,af wb p.Mb id x
     ·obtain⟨id,y⟩:=y;by_cases hid:id∈p.chg
      ·have a2:x∈rd0:=by
        unfold rdx at K;split at K
        ·rcases List.mem_cons.1 K with rfl | K
         ·have:=J.next;omega
         ·exact K
        ·exact K
       obtain⟨a5,q⟩:=hr x a2;rcases q with q | ⟨T,q1,q2⟩
       ·exact absurd (Q.sep id x y).1 (aCs J I q)
       ·have:=J.live T x q2 I;have:=Q.inj id T x y this;subst this;have:=B id hid;simp at this;exact absurd q1 this
      ·exact(FY Q sa G y (Y id y.lt hid)).2.symm
     ·exact(KM G I fun id hl=>y ⟨id,hl⟩).symm
    ·rfl
  ·rfl
def xB:∀(os:List aw) (i:Nat) {w:PWd} {h:H} {M:Mem} {a:List PV} {J:List AV} {B:List ku} {u:List ko} {Q:List PV->Mem->Prop},w.id0<=M.length->PSt w h M->ak w a J->ib w h M B u->PD tab os i a M u Q->
  ∃y h2,jL (lim tab) os i J h B=Jp (y,h2)/\∃E I G,eg M.length w h M E h2 G/\PSt E h2 G/\ak E I y/\Q I G
 | [],i,w,h,M,a,J,B,u,Q,h0,s,T,hl,Y=>⟨J,h,rfl,w,a,M,eg.refl (Ab _) w h,s,T,Y⟩
 | ⟨d,o,U,chk⟩::os,i,w,h,M,a,J,B,u,Q,h0,s,T,hl,Y=>by
  have step:PS tab o a M (fun v M' rd K=>jc o.effect rd K M u chk=Jr/\PD tab os (i+1) (fy a d v) M' (⟨i,rd,K,M,M'.length⟩::u) Q)->fH J U=Jp Jr->∃y h2,jL (lim tab) (⟨d,o,U,chk⟩::os) i J h B=Jp (y,h2)/\∃E I G,eg M.length w h M E h2 G/\PSt E h2 G/\ak E I y/\Q I G:=by
   intro hs hw;obtain⟨v,h1,rd,e1,Z,p,M1,a0,K,L,s2,hr,R,O,a1,hk⟩:=EK h0 s T o hs;have hc:=yR s s2 L R O hl a1;have V:ib Z h1 M1 (⟨i,rdx h h1 rd,h,h1⟩::B) (⟨i,a0,K,M,M1.length⟩::u):=by
    refine .cons ⟨rfl,w,Z,M1,s,s2,L,eg.refl (Ab _) Z h1,O,rfl,fun x S=>?_⟩ (hl.mono L);simp only at S ⊢;unfold rdx at S;split at S
    ·rename_i hlt;rcases List.mem_cons.1 S with rfl | S
     ·exact .inl ⟨rfl,hlt⟩
     ·exact .inr (R x S)
    ·exact .inr (R x S)
   obtain⟨y,h2,e2,E,I,G,t1,t2,t3,t4⟩:=xB os (i+1) (by rw[L.le.id0];exact As h0 L.len) s2 ((T.mono L.le s.env).put d hr) V hk;refine⟨y,h2,?_,E,I,G,L.trans t1 L.len,t2,t3,t4⟩;simp only[jL,hw,e1];rw[if_pos hc];exact e2
  have a3:PD tab os (i+1) (fy a d (.tuple [])) M u Q->fH J U=Jp Js->∃y h2,jL (lim tab) (⟨d,o,U,chk⟩::os) i J h B=Jp (y,h2)/\∃E I G,eg M.length w h M E h2 G/\PSt E h2 G/\ak E I y/\Q I G:=by intro hs hw;obtain⟨y,h2,e2,rest⟩:=xB os (i+1) h0 s (T.put d (LY w)) hl hs;refine⟨y,h2,?_,rest⟩;simp only[jL,hw];exact e2
  cases U with
  | none=>exact step Y rfl
  | some g=>
   obtain⟨t,a4⟩:=g;rcases zV T Y with⟨h1,h2⟩ | ⟨h1,h2⟩
   ·exact step h2 h1
   ·exact a3 h2 h1
def hU{L:Rec}{c:AC}{a:List AV}{h:H}{G I u y:List AV->H->Prop}{J B:Nat->List AV->H->Prop}(hw:W L c a h G I J)(h1:∀a h,G a h->u a h)(h2:∀a h,I a h->y a h)(h3:∀i a h,J i a h->B i a h):W L c a h u y B:=by
 unfold W at hw ⊢;obtain⟨e,K,M,he,E⟩:=hw;refine⟨e,K,M,he,?_⟩
 cases e with
 | normal=>exact h1 _ _ E
 | ret=>exact h2 _ _ E
 | exit i=>exact h3 _ _ _ E
def Lf.trans{m:Nat}{w u:PWd}{h h1:H}{M y:Mem}(t:eg m w h M u h1 y){Q:List PV->Mem->Prop}{B:List AV}{E:H}(hl:Lf m u h1 y Q B E):Lf m w h M Q B E:=by obtain⟨G,a,I,J,K,L,q⟩:=hl;exact⟨G,a,I,t.trans J (Ab _),K,L,q⟩
def PY(m:Nat):∀(c:AC) {a:List PV} {M:Mem} {E G:List PV->Mem->Prop} {I:Nat->List PV->Mem->Prop},PX tab m c a M E G I->fL tab m c a M E G I:=by
 intro c
 induction c with
 | skip=>intro a M E G I u w h K h0 hm s B;rw[eG];exact⟨w,a,M,eg.refl hm w h,s,B,u⟩
 | region os=>intro a M E G I u w h K h0 hm s B;rw[cJ];obtain⟨L,h2,V,Y,Z,M2,J,t2,t3,t4⟩:=qE os (As h0 hm) s B u;unfold WO;exact⟨L,h2,V,Y,Z,M2,J.weaken hm,t2,t3,t4⟩
 | ff os=>intro a M E G I u w h K h0 hm s B;rw[cA];obtain⟨L,h2,V,Y,Z,M2,J,t2,t3,t4⟩:=xB os 0 (As h0 hm) s B .nil u;unfold WD;exact⟨L,h2,V,Y,Z,M2,J.weaken hm,t2,t3,t4⟩
 | seq x y O Q=>intro a M E G I u w h K h0 hm s B;rw[eX];refine hU (O u w h K h0 hm s B) (fun a1 h1 hl=>?_) (fun _ _ h=>h) fun _ _ _ h=>h;obtain⟨R,b,M1,J,S,T,q⟩:=hl;rw[cQ];exact hU (Q q R h1 a1 (by rw[J.le.id0];exact h0) J.len S T) (fun _ _ h=>h.trans J) (fun _ _ h=>h.trans J) fun _ _ _ h=>h.trans J
 | cond c x y O Q=>
  intro a M E G I u w h K h0 hm s B;rw[BV];obtain⟨b,hb,U⟩:=u;have hc:=bE B c;rw[hb]at hc;refine⟨b,kZ hc,?_⟩
  cases b with
  | true=>rw[if_pos rfl]at U ⊢;exact O U w h K h0 hm s B
  | false=>rw[if_neg (by simp)]at U ⊢;exact Q U w h K h0 hm s B
 | block id x ih=>
  intro a M E G I u w h K h0 hm s B;rw[dT];refine hU (ih u w h K h0 hm s B) (fun _ _ h=>h) (fun _ _ h=>h) fun i a1 h1 hl=>?_;rw[bM];obtain⟨R,b,M1,J,S,T,q⟩:=hl;by_cases e:i=id
  ·rw[if_pos e]at q ⊢;exact⟨R,b,M1,J,S,T,q⟩
  ·rw[if_neg e]at q ⊢;exact⟨R,b,M1,J,S,T,q⟩
 | loop sc x ih=>intro a M E G I u;exact u
 | rangeFunc f ps a0 body a3 a4=>intro a M E G I u;exact u
 | exit id=>intro a M E G I u w h K h0 hm s B;rw[eH];exact⟨w,a,M,eg.refl hm w h,s,B,u⟩
 | ret=>intro a M E G I u w h K h0 hm s B;rw[fU];exact⟨w,a,M,eg.refl hm w h,s,B,u⟩
def TK{m:Nat}{y:List Nat}{x:AC}{a:List PV}{M:Mem}{G B:List PV->Mem->Prop}{E:Nat->List PV->Mem->Prop}(I:PX tab m x (qR a y) M (fun a M=>fL tab m (.loop y x) a M G B E) B E):
  fL tab m (.loop y x) a M G B E:=by
 intro w h R h0 hm s J;rw[EC _ _ _ _ _ _ _ _ (oF tab)];refine hU (PY m x I w h _ h0 hm s (ak.be y J)) (fun K h1 hl=>?_) (fun _ _ h=>h) fun _ _ _ h=>h;obtain⟨L,b,S,u,O,Q,q⟩:=hl;rw[fR];exact hU (q L h1 K (by rw[u.le.id0];exact h0) u.len O Q) (fun _ _ h=>h.trans u) (fun _ _ h=>h.trans u) fun _ _ _ h=>h.trans u
def lC(res:List lk)(a:List PV)(M:Mem)(K:List PV->Prop):Prop:=match res with
 | []=>K []
 | .tmp t::u=>lC u a M fun y=>K (bf a t::y)
 | .cell t::u=>PM (bf a t) M fun v _=>lC u a M fun y=>K (v::y)
 | .cells t n::u=>EI n (bf a t) M fun v _=>lC u a M fun y=>K (v::y)
def ep:List PV->PV
 | [v]=>v
 | u=> .tuple u
def jl(args:List PV)(n:Nat):List PV:=args++List.replicate (n-args.length) .aa
def U1{w:PWd}{l:List PV}{u:List AV}(h:ak w l u)(n:Nat):ak w (jl l n) (fC u n):=by unfold jl fC;rw[h.len];exact h.append ⟨by simp,fun i y z h1 h2=>by rw[List.getElem?_replicate]at h1;split at h1<;>cases h1;exact .aa _⟩
def L3{w:PWd}{l:List PV}{B:List AV}(h:ak w l B):az w (ep l) (dF B):=by
 match l,B,h with
 | [],[],h=>exact .tuple rfl h.get
 | [v],[x],h=>exact h.hd
 | v::u::l,x::y::B,h=>exact .tuple h.len h.get
 | [],_::_,h=>have:=h.len;simp at this
 | [v],[],h=>have:=h.len;simp at this
 | [v],_::_::_,h=>have:=h.len;simp at this
 | _::_::_,[],h=>have:=h.len;simp at this
 | _::_::_,[_],h=>have:=h.len;simp at this
def mL{w:PWd}{h:H}{M:Mem}{a:List PV}{Z:List AV}(s:PSt w h M)(O:ak w a Z):∀(res:List lk) {K:List PV->Prop},lC res a M K->∃Q u,cE Z h res=Jp u/\ak w Q u/\K Q
 | [],K,B=>⟨[],[],rfl,.nil w,B⟩
 | .tmp t::R,K,B=>by obtain⟨Q,u,G,I,J⟩:=mL s O R B;exact⟨_,bu Z t::u,by simp only[cE,hH,G],.cons (O.bu t) I,J⟩
 | .cell t::R,K,B=>by
  have L:=O.bu t;simp only[lC]at B;unfold PM at B;split at B
  ·rename_i id g o hv;obtain⟨ver,cs,hm,y,hy,S⟩:=B;rw[hv]at L;obtain⟨e,b,E,T,q2,V,q4,U,Y,q7⟩:=s.iu hm L;obtain⟨z,hz,hr⟩:=Y.iy hy;obtain⟨Q,u,G,I,J⟩:=mL s O R S;exact⟨_,z::u,by simp only[cE,hH,T,f0,U,hz,G],.cons hr I,J⟩
  ·rename_i cs o hv;obtain⟨y,hy,S⟩:=B;rw[hv]at L;obtain⟨b,off,ver,rw,E,T,q2,V,q4,U⟩:=CR s L;obtain⟨z,hz,hr⟩:=MQ U hy;obtain⟨Q,u,G,I,J⟩:=mL s O R S;exact⟨_,z::u,by simp only[cE,hH,T,f0,V,hz,G],.cons hr I,J⟩
  ·exact B.elim
 | .cells t n::R,K,B=>by
  have L:=O.bu t;simp only[lC]at B;unfold EI at B;split at B
  ·rename_i id g o hv;obtain⟨ver,cs,hm,hn,S⟩:=B;rw[hv]at L;obtain⟨e,b,E,T,q2,V,q4,U,Y,q7⟩:=s.iu hm L;have hs:=jP Y o n;obtain⟨Q,u,G,I,J⟩:=mL s O R S;exact⟨_,.agg ((E.drop o).take n)::u,by simp only[cE,hH,T,dY,U,G];rw[if_pos (by rw[<-Y.len];exact hn)];rfl,.cons (.agg hs.len hs.get) I,J⟩
  ·rename_i cs o hv;obtain⟨hn,S⟩:=B;rw[hv]at L;obtain⟨b,off,ver,rw,E,T,q2,V,q4,U⟩:=CR s L;have hs:=C0 U hn;obtain⟨Q,u,G,I,J⟩:=mL s O R S;exact⟨_,.agg ((E.drop (off+o)).take n)::u,by simp only[cE,hH,T,dY,V,G];rw[if_pos (by omega)];rfl,.cons (.agg hs.len hs.get) I,J⟩
  ·exact B.elim
def jV{g:FuncId}{F:AFn}(hg:tab g=Jp (.fn F)){args:List PV}{M:Mem}{K:PV->Mem->Prop}
  (L:fL tab M.length F.body (jl args F.ntmps) M (fun a u=>lC F.results a u fun y=>K (ep y) u) (fun a u=>lC F.results a u fun y=>K (ep y) u) fun _ _ _=>False):au tab g args M K:=by
 intro w h E h0 s O;rw[EN hg];have fin:∀B h1,Lf M.length w h M (fun a u=>lC F.results a u fun y=>K (ep y) u) B h1->T8 F.results (fun v I=>∃w' r u,eg M.length w h M w' I u/\PSt w' I u/\az w' r v/\K r u) B h1:=by intro B h1 ⟨Q,b,R,S,J,T,q⟩;obtain⟨y,G,U,V,Y⟩:=mL J T F.results q;rw[dW];exact⟨G,U,Q,_,R,S,J,L3 V,Y⟩
 exact hU (L w h _ h0 (Ab _) s (U1 O _)) fin fin fun i B h1 ⟨_,_,_,_,_,_,q⟩=>q
end
end Go.Am

