/- The pure machine: slices that nobody writes to are lists; the rest lies in a small store of numbered objects. What its values stand for on the abstract machine, and what goes with it. -/
import Derived.Test.YtapbgleednkimaaGreatDoorAmKEnd
set_option linter.all false
open Nat renaming lt_or_ge->Az,le_refl->Ac,le_trans->Ah,lt_of_lt_of_le->Bg,min_eq_left->Da,zero_add->Aw,mul_one->Cj,mul_le_mul_right->Dg,min_le_left->Fo,add_assoc->Cf
open List renaming getElem?_append_left->Bh,getElem?_append_right->Bo,getElem?_drop->Bf,getElem?_take->Bc,getElem?_eq_none->Bi,getElem?_eq_getElem->Ad,getElem?_map->Ap,all_eq_true->Ch,getElem?_set_ne->Bj,getElem?_set_self->Cg,take_take->Gk,mem_singleton->Bk,length_map->Al
open Bool renaming and_eq_true->Aq,false_eq_true->Bs,true->Jb,false->Jc
open Option renaming some->Iz,none->Ja
namespace Go.Am
inductive PV where
 | ae
 | bool (b:Bool)
 | int (k:IntKind) (n:Int)
 | str (s:ByteArray)
 | al | aa | bd | aq | af
 | ptr (id g o:Nat)
 | cp (cs:List PV) (o:Nat)
 | sl (fl own:Bool) (sz n:Nat) (cs:List PV)
 | ref (id g sz off n:Nat)
 | map (id:Nat)
 | func (fn:Fn) (first cap:List PV)
 | yld (id:Nat) (first:List PV)
 | iface (t:TypeId) (v:PV)
 | agg (cs:List PV)
 | tuple (vs:List PV)
 deriving Inhabited
abbrev p64(n:Int):PV:= .int .i64 n
abbrev p8(n:Int):PV:= .int .u8 n
structure jl where
 state:LoopState
 pending:Option Ex
 tmps:List PV
 params:List Nat
 assign:AC
 body:AC
inductive bp where
 | cells (g ver:Nat) (cs:List PV)
 | map (ver:Nat) (es:List (PV×PV))
 | loop (ver:Nat) (r:jl)
 | gone
abbrev Mem:=List bp
structure Ent where
 blk:Option Nat
 v0:Nat
 g:Nat
structure PWd where
 n0:Nat
 id0:Nat
 env:Nat->Option Ent
 imm:Nat->Option bz
inductive az (w:PWd):PV->AV->Prop
 | ae (x:AV):az w .ae x
 | bool (b:Bool):az w (.bool b) (.bool b)
 | int (k:IntKind) (n:Int):az w (.int k n) (.int k n)
 | str (s:ByteArray):az w (.str s) (.str s)
 | al:az w .al .al
 | aa:az w .aa .ah
 | bd:az w .bd .bd
 | aq:az w .aq .aq
 | af:az w .af .af
 | ptr {id g o:Nat} {e:Ent} {b:Nat} :w.env id=Iz e->e.g=g->e.blk=Iz b->az w (.ptr id g o) (.ptr b o)
 | ln {id g o:Nat} {e:Ent} (x:AV):x.one=Jb->w.env id=Iz e->g<e.g->az w (.ptr id g o) x
 | cp {cs:List PV} {o b ver:Nat} {rw:Bool} {bcs:List AV} {off:Nat} :w.imm b=Iz (.cells ver rw bcs)->off+cs.length<=bcs.length->
   (∀(i:Nat) (y:PV) (z:AV),cs[i]? =Iz y->bcs[off+i]? =Iz z->az w y z)->az w (.cp cs o) (.ptr b (off+o))
 | sl {fl own:Bool} {sz n:Nat} {cs:List PV} {fl':Bool} {b ver:Nat} {rw:Bool} {bcs:List AV} {off:Nat} :w.imm b=Iz (.cells ver rw bcs)->off+cs.length<=bcs.length->cs.length=n*sz->
   (fl=Jb->own=Jb->fl'=Jb)->(own=Jb->w.n0<=b/\rw=Jb)->(own=Jc->fl=Jc->b<w.n0)->
   (∀(i:Nat) (y:PV) (z:AV),cs[i]? =Iz y->bcs[off+i]? =Iz z->az w y z)->az w (.sl fl own sz n cs) (.slice fl' sz b off n)
 | slN {fl own:Bool} {sz:Nat} :az w (.sl fl own sz 0 []) .ah
 | ref {id g sz off n:Nat} {e:Ent} {b:Nat} {fl:Bool} :w.env id=Iz e->e.g=g->e.blk=Iz b->az w (.ref id g sz off n) (.slice fl sz b off n)
 | lf {id g sz:Nat} {e:Ent} :w.env id=Iz e->e.g=g->e.blk=Ja->az w (.ref id g sz 0 0) .ah
 | mi {id g sz off n:Nat} {e:Ent} (x:AV):x.one=Jb->w.env id=Iz e->g<e.g->az w (.ref id g sz off n) x
 | map {id:Nat} {e:Ent} {b:Nat} :w.env id=Iz e->e.g=0->e.blk=Iz b->az w (.map id) (.map b)
 | nd {id:Nat} {e:Ent} (x:AV):x.one=Jb->w.env id=Iz e->0<e.g->az w (.map id) x
 | func {fn:Fn} {f c:List PV} {f' c':List AV} :(∀l,fn≠ .yield l)->f.length=f'.length->c.length=c'.length->
   (∀(i:Nat) (y:PV) (z:AV),f[i]? =Iz y->f'[i]? =Iz z->az w y z)->(∀(i:Nat) (y:PV) (z:AV),c[i]? =Iz y->c'[i]? =Iz z->az w y z)->az w (.func fn f c) (.func fn f' c')
 | yld {id:Nat} {e:Ent} {b:Nat} {f:List PV} {f':List AV} :w.env id=Iz e->e.g=0->e.blk=Iz b->f.length=f'.length->
   (∀(i:Nat) (y:PV) (z:AV),f[i]? =Iz y->f'[i]? =Iz z->az w y z)->az w (.yld id f) (.func (.yield b) f' [])
 | mv {id:Nat} {e:Ent} {f:List PV} (x:AV):x.one=Jb->w.env id=Iz e->0<e.g->az w (.yld id f) x
 | iface {t:TypeId} {v:PV} {x:AV} :az w v x->az w (.iface t v) (.iface t x)
 | agg {cs:List PV} {cs':List AV} :cs.length=cs'.length->(∀(i:Nat) (y:PV) (z:AV),cs[i]? =Iz y->cs'[i]? =Iz z->az w y z)->az w (.agg cs) (.agg cs')
 | tuple {cs:List PV} {cs':List AV} :cs.length=cs'.length->(∀(i:Nat) (y:PV) (z:AV),cs[i]? =Iz y->cs'[i]? =Iz z->az w y z)->az w (.tuple cs) (.tuple cs')
structure ak (w:PWd) (l:List PV) (l':List AV):Prop where
 len:l.length=l'.length
 get:∀(i:Nat) y z,l[i]? =Iz y->l'[i]? =Iz z->az w y z
def ak.nil(w:PWd):ak w [] []:=⟨rfl,fun i y z h=>by simp at h⟩
def ak.cons{w:PWd}{v:PV}{x:AV}{l:List PV}{l':List AV}(h:az w v x)(hl:ak w l l'):ak w (v::l) (x::l'):=
 ⟨by simp[hl.len],fun i y z h1 h2=>by
  cases i with
  | zero=>simp at h1 h2;subst h1;subst h2;exact h
  | succ i=>exact hl.get i y z (by simpa using h1) (by simpa using h2)⟩
def ak.append{w:PWd}{l m:List PV}{l' E:List AV}(h1:ak w l l')(h2:ak w m E):ak w (l++m) (l'++E):=
 ⟨by simp[h1.len,h2.len],fun i y z B hz=>by
  rcases Az i l.length with u | u
  ·rw[Bh u]at B;rw[Bh (by rw[<-h1.len];exact u)]at hz;exact h1.get i y z B hz
  ·rw[Bo u]at B;rw[Bo (by rw[<-h1.len];exact u),<-h1.len]at hz;exact h2.get _ y z B hz⟩
def ak.drop{w:PWd}{l:List PV}{l':List AV}(h:ak w l l')(k:Nat):ak w (l.drop k) (l'.drop k):=
 ⟨by simp[h.len],fun i y z u hz=>h.get (k+i) y z (by rw[Bf]at u;exact u) (by rw[Bf]at hz;exact hz)⟩
def ak.take{w:PWd}{l:List PV}{l':List AV}(h:ak w l l')(k:Nat):ak w (l.take k) (l'.take k):=
 ⟨by simp[h.len],fun i y z u hz=>by
  rw[Bc]at u hz;by_cases B:i<k
  ·rw[if_pos B]at u hz;exact h.get i y z u hz
  ·rw[if_neg B]at u;cases u⟩
def ak.iz{w:PWd}{l:List PV}{l':List AV}(h:ak w l l'){i:Nat}{y:PV}(E:l[i]? =Iz y):∃z,l'[i]? =Iz z/\az w y z:=by
 have u:i<l.length:=by
  rcases Az i l.length with u | u
  ·exact u
  ·rw[Bi u]at E;cases E
 have B:i<l'.length:=by rw[<-h.len];exact u
 exact⟨l'[i],Ad B,h.get i y _ E (Ad B)⟩
def ak.map{w:PWd}{l:List PV}{l':List AV}(f:PV->PV)(B:AV->AV)(h:ak w l l')(hf:∀v x,az w v x->az w (f v) (B x)):ak w (l.map f) (l'.map B):=
 ⟨by simp[h.len],fun i y z u hz=>by
  rw[Ap]at u hz
  cases h1:l[i]? with
  | none=>rw[h1]at u;cases u
  | some a=>
   cases h2:l'[i]? with
   | none=>rw[h2]at hz;cases hz
   | some b=>rw[h1]at u;rw[h2]at hz;cases u;cases hz;exact hf a b (h.get i a b h1 h2)⟩
def ak.set{w:PWd}{l:List PV}{l':List AV}(h:ak w l l')(k:Nat){v:PV}{x:AV}(hv:az w v x):ak w (l.set k v) (l'.set k x):=
 ⟨by simp[h.len],fun i y z u hz=>by
  rw[List.getElem?_set]at u hz;rw[<-h.len]at hz;by_cases e:k=i
  ·subst e;rw[if_pos rfl]at u hz;split at u
   ·rename_i B;rw[if_pos B]at hz;cases u;cases hz;exact hv
   ·cases u
  ·rw[if_neg e]at u hz;exact h.get i y z u hz⟩
structure Le (m:Nat) (w w':PWd):Prop where
 n0:w'.n0=w.n0
 id0:w'.id0=w.id0
 imm:∀b o,w.imm b=Iz o->w'.imm b=Iz o
 env:∀id,id<m->∀e,w.env id=Iz e->∃e',w'.env id=Iz e'/\(e.g<e'.g\/e'=e)
def Le.refl(m:Nat)(w:PWd):Le m w w:=⟨rfl,rfl,fun _ _ h=>h,fun _ _ e h=>⟨e,h,.inr rfl⟩⟩
def Le.trans{m y:Nat}{a b c:PWd}(h:Le m a b)(k:Le y b c)(hm:m<=y):Le m a c:=
 ⟨k.n0.trans h.n0,k.id0.trans h.id0,fun x o B=>k.imm x o (h.imm x o B),fun id E e he=>by
  obtain⟨G,h1,h2⟩:=h.env id E e he;obtain⟨I,h3,u⟩:=k.env id (by omega) G h1;refine⟨I,h3,?_⟩;rcases h2 with h2 | rfl
  ·rcases u with u | rfl
   ·exact .inl (by omega)
   ·exact .inl h2
  ·exact u⟩
def az.mono{w w':PWd}{m:Nat}(hl:Le m w w')(hd:∀id e,w.env id=Iz e->id<m){v:PV}{x:AV}(h:az w v x):az w' v x:=by
 have E:∀id e,w.env id=Iz e->∃G,w'.env id=Iz G/\(e.g<G.g\/G=e):=fun id e he=>hl.env id (hd id e he) e he
 induction h with
 | ae x=>exact .ae x
 | bool b=>exact .bool b
 | int k n=>exact .int k n
 | str s=>exact .str s
 | al=>exact .al
 | aa=>exact .aa
 | bd=>exact .bd
 | aq=>exact .aq
 | af=>exact .af
 | ptr h1 h2 h3=>
  obtain⟨G,B,u⟩:=E _ _ h1;rcases u with u | rfl
  ·exact .ln _ rfl B (by omega)
  ·exact .ptr B h2 h3
 | ln x h0 h1 h2=>obtain⟨G,B,u⟩:=E _ _ h1;refine .ln _ h0 B ?_;rcases u with u | rfl<;>omega
 | cp h1 h2 h3 I=>exact .cp (hl.imm _ _ h1) h2 fun i y z a b=>I i y z a b
 | sl h1 h2 h3 J K O Q I=>exact .sl (hl.imm _ _ h1) h2 h3 J (by rw[hl.n0];exact K) (by rw[hl.n0];exact O) fun i y z a b=>I i y z a b
 | slN=>exact .slN
 | ref h1 h2 h3=>
  obtain⟨G,B,u⟩:=E _ _ h1;rcases u with u | rfl
  ·exact .mi _ rfl B (by omega)
  ·exact .ref B h2 h3
 | lf h1 h2 h3=>
  obtain⟨G,B,u⟩:=E _ _ h1;rcases u with u | rfl
  ·exact .mi _ rfl B (by omega)
  ·exact .lf B h2 h3
 | mi x h0 h1 h2=>obtain⟨G,B,u⟩:=E _ _ h1;refine .mi _ h0 B ?_;rcases u with u | rfl<;>omega
 | map h1 h2 h3=>
  obtain⟨G,B,u⟩:=E _ _ h1;rcases u with u | rfl
  ·exact .nd _ rfl B (by omega)
  ·exact .map B h2 h3
 | nd x h0 h1 h2=>obtain⟨G,B,u⟩:=E _ _ h1;refine .nd _ h0 B ?_;rcases u with u | rfl<;>omega
 | func h1 h2 h3 J K L M=>exact .func h1 h2 h3 (fun i y z a b=>L i y z a b) fun i y z a b=>M i y z a b
 | yld h1 h2 h3 J K I=>
  obtain⟨G,B,u⟩:=E _ _ h1;rcases u with u | rfl
  ·exact .mv _ rfl B (by omega)
  ·exact .yld B h2 h3 J fun i y z a b=>I i y z a b
 | mv x h0 h1 h2=>obtain⟨G,B,u⟩:=E _ _ h1;refine .mv _ h0 B ?_;rcases u with u | rfl<;>omega
 | iface h I=>exact .iface I
 | agg h1 h2 I=>exact .agg h1 fun i y z a b=>I i y z a b
 | tuple h1 h2 I=>exact .tuple h1 fun i y z a b=>I i y z a b
def ak.mono{w w':PWd}{m:Nat}(hl:Le m w w')(hd:∀id e,w.env id=Iz e->id<m){l:List PV}{l':List AV}(h:ak w l l'):ak w' l l':=
 ⟨h.len,fun i y z a b=>(h.get i y z a b).mono hl hd⟩
def ag(w:PWd)(M:Mem)(id x:Nat):Prop:=∃o e,M[id]? =Iz o/\o≠ .gone/\w.env id=Iz e/\e.blk=Iz x
structure mf (w:PWd) (l:List (PV×PV)) (l':List (AV×AV)):Prop where
 len:l.length=l'.length
 get:∀(i:Nat) y z,l[i]? =Iz y->l'[i]? =Iz z->az w y.1 z.1/\az w y.2 z.2
structure ny (w:PWd) (r:jl) (r':lm):Prop where
 state:r'.state=r.state
 pending:r'.pending=r.pending
 params:r'.params=r.params
 assign:r'.assign=r.assign
 body:r'.body=r.body
 tmps:ak w r.tmps r'.tmps
def kb(w:PWd)(h:H)(id:Nat):bp->Prop
 | .cells g ver cs=>∃e,w.env id=Iz e/\e.g=g/\match e.blk with
  | none=>cs=[]
  | some b=>∃u,h.get b=Iz (.cells (e.v0+ver) Jb u)/\ak w cs u
 | .map ver E=>∃e b,w.env id=Iz e/\e.g=0/\e.blk=Iz b/\∃y,h.get b=Iz (.map (e.v0+ver) y)/\mf w E y
 | .loop ver r=>∃e b,w.env id=Iz e/\e.g=0/\e.blk=Iz b/\∃B,h.get b=Iz (.loop (e.v0+ver) B)/\ny w r B
 | .gone=>True
structure PSt (w:PWd) (h:H) (M:Mem):Prop where
 imm:∀b o,w.imm b=Iz o->h.get b=Iz o
 env:∀id e,w.env id=Iz e->id<M.length
 blk:∀id e b,w.env id=Iz e->e.blk=Iz b->b<h.next
 obj:∀id o,M[id]? =Iz o->kb w h id o
 inj:∀i j x,ag w M i x->ag w M j x->i=j
 sep:∀i x,ag w M i x->w.imm x=Ja/\(w.id0<=i->w.n0<=x)
 base:w.n0<=h.next
structure dx (m:Nat) (w:PWd) (h:H) (M:Mem) (w':PWd) (h':H) (M':Mem):Prop where
 len:m<=M'.length
 le:Le m w w'
 next:h.next<=h'.next
 il:∀x,x<h.next->(∀id,¬ag w M id x)->h'.get x=h.get x
 live:∀id x,ag w' M' id x->x<h.next->ag w M id x
 new:∀x,w'.imm x≠Ja->w.imm x≠Ja\/h.next<=x\/∃id,m<=id/\ag w M id x
def dx.refl{m:Nat}{M:Mem}(hm:m<=M.length)(w:PWd)(h:H):dx m w h M w h M:=
 ⟨hm,Le.refl m w,Ac _,fun _ _ _=>rfl,fun _ _ h _=>h,fun _ h=> .inl h⟩
def dx.trans{m m':Nat}{w1 w2 w3:PWd}{h1 h2 h3:H}{M1 M2 M3:Mem}(p:dx m w1 h1 M1 w2 h2 M2)(q:dx m' w2 h2 M2 w3 h3 M3)(hm:m<=m'):dx m w1 h1 M1 w3 h3 M3 where
 len:=Ah hm q.len
 le:=p.le.trans q.le hm
 next:=Ah p.next q.next
 il:=fun x hx hn=>by rw[q.il x (Bg hx p.next) (fun id hl=>hn id (p.live id x hl hx)),p.il x hx hn]
 live:=fun id x hl hx=>p.live id x (q.live id x hl (Bg hx p.next)) hx
 new:=fun x hx=>by
  rcases q.new x hx with e | e | ⟨id,e1,e2⟩
  ·rcases p.new x e with e | e | e
   ·exact .inl e
   ·exact .inr (.inl e)
   ·exact .inr (.inr e)
  ·exact .inr (.inl (Ah p.next e))
  ·rcases Az x h1.next with hx1 | hx1
   ·exact .inr (.inr ⟨id,by omega,p.live id x e2 hx1⟩)
   ·exact .inr (.inl hx1)
def ag.lt{w:PWd}{M:Mem}{id x:Nat}(h:ag w M id x):id<M.length:=by
 obtain⟨o,e,h1,_⟩:=h;rcases Az id M.length with u | u
 ·exact u
 ·rw[Bi u]at h1;cases h1
def ag.next{w:PWd}{h:H}{M:Mem}(s:PSt w h M){id x:Nat}(hl:ag w M id x):x<h.next:=by obtain⟨o,e,h1,h2,h3,u⟩:=hl;exact s.blk id e x h3 u
def bu:List PV->Nat->PV
 | [],_=> .ae
 | v::_,0=>v
 | _::l,n+1=>bu l n
def di:List PV->Nat->PV->List PV
 | [],_,_=>[]
 | _::l,0,v=>v::l
 | x::l,n+1,v=>x::di l n v
def gi(a:List PV):Option Nat->PV->List PV
 | some d,v=>di a d v
 | none,_=>a
def qA(a:List PV):List Nat->List PV
 | []=>a
 | t::l=>qA (di a t .ae) l
def ak.fp{w:PWd} :∀{a:List PV} {a':List AV},ak w a a'->∀t,az w (bu a t) (fp a' t)
 | [],[],h,t=> .ae _
 | [],_::_,h,t=>by have:=h.len;simp at this
 | _::_,[],h,t=>by have:=h.len;simp at this
 | v::a,x::a',h,0=>h.get 0 v x rfl rfl
 | v::a,x::a',h,t+1=>ak.fp (a:=a) (a':=a') ⟨by simpa using h.len,fun i y z h1 h2=>h.get (i+1) y z (by simpa using h1) (by simpa using h2)⟩ t
def ak.tl{w:PWd}{v:PV}{x:AV}{a:List PV}{u:List AV}(h:ak w (v::a) (x::u)):ak w a u:=
 ⟨by simpa using h.len,fun i y z h1 h2=>h.get (i+1) y z (by simpa using h1) (by simpa using h2)⟩
def ak.hd{w:PWd}{v:PV}{x:AV}{a:List PV}{u:List AV}(h:ak w (v::a) (x::u)):az w v x:=h.get 0 v x rfl rfl
def ak.iu{w:PWd} :∀{a:List PV} {B:List AV},ak w a B->∀(t:Nat) {v:PV} {x:AV},az w v x->ak w (di a t v) (iu B t x)
 | [],[],h,t,v,x,hv=> .nil w
 | [],_::_,h,t,v,x,hv=>by have:=h.len;simp at this
 | _::_,[],h,t,v,x,hv=>by have:=h.len;simp at this
 | u::a,y::B,h,0,v,x,hv=> .cons hv h.tl
 | u::a,y::B,h,t+1,v,x,hv=> .cons h.hd (ak.iu h.tl t hv)
def ak.put{w:PWd}{a:List PV}{u:List AV}(h:ak w a u):∀(d:Option Nat) {v:PV} {x:AV},az w v x->ak w (gi a d v) (put u d x)
 | some d,v,x,hv=>h.iu d hv
 | none,v,x,hv=>h
def ak.ie{w:PWd} :∀(l:List Nat) {a:List PV} {u:List AV},ak w a u->ak w (qA a l) (ie u l)
 | [],a,u,h=>h
 | t::l,a,u,h=>ak.ie l (h.iu t (.ae _))
def ay:AV->PV
 | .bool b=> .bool b
 | .int k n=> .int k n
 | .str s=> .str s
 | .al=> .al
 | .ah=> .aa
 | .bd=> .bd
 | .aq=> .aq
 | .af=> .af
 | .func (.func f) [] []=> .func (.func f) [] []
 | _=> .ae
def iy:AV->PV
 | .agg cs=> .agg (cs.map ay)
 | .iface t v=> .iface t (ay v)
 | .bool b=> .bool b
 | .int k n=> .int k n
 | .str s=> .str s
 | .al=> .al
 | .ah=> .aa
 | .bd=> .bd
 | .aq=> .aq
 | .af=> .af
 | .func (.func f) [] []=> .func (.func f) [] []
 | .func (.methodOf t n) u []=> .func (.methodOf t n) (u.map ay) []
 | _=> .ae
def pev(a:List PV):AR->PV
 | .tmp t=>bu a t
 | .const v=>iy v
def PV.one:PV->Bool
 | .agg _=>Jc
 | .tuple _=>Jc
 | .ae=>Jc
 | _=>Jb
def cB:PV->List PV
 | .agg cs=>cs
 | v=>[v]
def jL(cs:List PV)(off:Nat)(new:List PV):List PV:=
 match new with
 | [x]=>cs.set off x
 | _=>cs.take off++new++cs.drop (off+new.length)
def dq(a:List PV):List PV->List (Nat×Nat×AR)->Option (List PV)
 | cs,[]=>Iz cs
 | cs,(off,size,x)::rest=>
  if(cB (pev a x)).length=size/\off+size<=cs.length/\(cB (pev a x)).all PV.one=Jb then dq a (jL cs off (cB (pev a x))) rest else Ja
def cG:Nat->List PV->List PV
 | 0,_=>[]
 | n+1,z=>z++cG n z
def aZ(cs:List PV)(o n:Nat):List PV:=(cs.drop o).take n
def bQ:PV->Option AV
 | .bool b=>Iz (.bool b)
 | .int k n=>Iz (.int k n)
 | .str s=>Iz (.str s)
 | _=>Ja
def fI:List PV->Option (List AV)
 | []=>Iz []
 | v::l=>match bQ v,fI l with
  | some x,Iz u=>Iz (x::u)
  | _,_=>Ja
def bL(op:BinOp)(x y:PV):Option PV:=match bQ x,bQ y with
 | some a,Iz b=>(eY op a b).map ay
 | _,_=>Ja
def pun(op:UnOp)(x:PV):Option PV:=match bQ x with
 | some a=>(aun op a).map ay
 | _=>Ja
def IE(x:PV)(u:List PV):Option PV:=match bQ x,fI u with
 | some a,Iz b=>(kY AP a b).map ay
 | _,_=>Ja
def yL(x:PV)(u:List PV):Option PV:=match bQ x,fI u with
 | some a,Iz b=>(kY AN a b).map ay
 | _,_=>Ja
def oD(T:List (Option IntKind))(u y:List PV):Option Bool:=match fI u,fI y with
 | some a,Iz b=>fB T a b
 | _,_=>Ja
def uK(v:PV)(k:IntKind->Int->Prop):Prop:=∃b o,v= .int b o/\k b o
def KX(v:PV)(k:Bool->Prop):Prop:=∃b,v= .bool b/\k b
def OO(v:PV)(k:List PV->Prop):Prop:=∃b,v= .agg b/\k b
def aFl(v:PV)(k:List PV->Prop):Prop:=∃b,v= .tuple b/\k b
def QOb(o:Option bp)(g:Nat)(k:Nat->List PV->Prop):Prop:=∃ver cs,o=Iz (.cells g ver cs)/\k ver cs
def gC{α:Type}(o:Option α)(k:α->Prop):Prop:=∃x,o=Iz x/\k x
def aFn(v:PV)(M:Mem)(k:PV->Prop):Prop:=match v with
 | .aa=>k (p64 0)
 | .sl _ _ _ n _=>k (p64 n)
 | .ref id g _ _ n=>QOb M[id]? g fun _ _=>k (p64 n)
 | _=>False
def aFp(size:Nat)(v i:PV)(M:Mem)(k:PV->Prop):Prop:=match v with
 | .sl _ _ sz n cs=>uK i fun _ j=>(sz=size/\0<=j/\j<n)/\k (.cp cs (j.toNat*size))
 | .ref id g sz off n=>QOb M[id]? g fun _ _=>uK i fun _ j=>(sz=size/\0<=j/\j<n)/\k (.ptr id g (off+j.toNat*size))
 | _=>False
def aBd(len size:Nat)(v i:PV)(M:Mem)(k:PV->Prop):Prop:=match v with
 | .ptr id g o=>QOb M[id]? g fun _ _=>uK i fun _ j=>(0<=j/\j<len)/\k (.ptr id g (o+j.toNat*size))
 | .cp cs o=>uK i fun _ j=>(0<=j/\j<len)/\k (.cp cs (o+j.toNat*size))
 | _=>False
def aFq(off:Nat)(v:PV)(M:Mem)(k:PV->Prop):Prop:=match v with
 | .ptr id g o=>QOb M[id]? g fun _ _=>k (.ptr id g (o+off))
 | .cp cs o=>k (.cp cs (o+off))
 | _=>False
def KU(v:PV)(M:Mem)(k:PV->List Nat->Prop):Prop:=match v with
 | .ptr id g o=>QOb M[id]? g fun _ cs=>gC cs[o]? fun x=>k x [id]
 | .cp cs o=>gC cs[o]? fun x=>k x []
 | _=>False
def A9(n:Nat)(v:PV)(M:Mem)(k:PV->List Nat->Prop):Prop:=match v with
 | .ptr id g o=>QOb M[id]? g fun _ cs=>o+n<=cs.length/\k (.agg (aZ cs o n)) [id]
 | .cp cs o=>o+n<=cs.length/\k (.agg (aZ cs o n)) []
 | _=>False
def aA8(v:PV)(M:Mem)(k:PV->Mem->List Nat->Prop):Prop:=match v with
 | .ref id g sz off n=>∃ver cs,M[id]? =Iz (.cells g ver cs)/\(0<n/\off+n*sz<=cs.length)/\k (.sl Jb Jc sz n (aZ cs off (n*sz))) (M.set id (.cells (g+1) 0 [])) [id]
 | _=>False
def OJ(n:Nat)(p x:PV)(M:Mem)(k:Mem->List Nat->Prop):Prop:=match p with
 | .ptr id g o=>QOb M[id]? g fun ver cs=>((cB x).length=n/\o+n<=cs.length/\(cB x).all PV.one=Jb)/\k (M.set id (.cells g (ver+1) (jL cs o (cB x)))) [id]
 | _=>False
def pg(size:Nat)(x:PV)(M:Mem)(k:List PV->Nat->Prop):Prop:=match x with
 | .aa=>k [] 0
 | .sl _ _ sz n cs=>sz=size/\k cs n
 | .ref id g sz off n=>QOb M[id]? g fun _ cs=>(sz=size/\off+n*size<=cs.length)/\k (aZ cs off (n*size)) n
 | _=>False
def KR(size:Nat)(x:PV)(M:Mem)(k:List PV->Nat->Prop):Prop:=match x with
 | .str s=>size=1/\k (s.data.toList.map fun b=> .int .u8 b.toNat) s.size
 | x=>pg size x M k
def aBf(size bytes:Nat)(s x:PV)(M:Mem)(K:PV->Mem->List Nat->List Nat->Prop):Prop:=KR size x M fun new n=>match s with
 | .aa=>(n*bytes<=140737488355328/\n<=9223372036854775807/\new.all PV.one=Jb)/\K (.ref M.length 0 size 0 n) (M++[.cells 0 0 new]) [] []
 | .sl u own sz m cs=>if n=0 then K (.sl u own sz m cs) M [] []else(u=Jb/\own=Jb/\sz=size/\(m+n)*bytes<=140737488355328/\m+n<=9223372036854775807/\new.all PV.one=Jb)/\K (.ref M.length 0 size 0 (m+n)) (M++[.cells 0 0 (cs++new)]) [] []
 | .ref id g sz off m=>QOb M[id]? g fun ver cs=>(sz=size/\off+m*size<=cs.length/\(0<n\/(off=0/\m*size=cs.length))/\(m+n)*bytes<=140737488355328/\m+n<=9223372036854775807/\new.all PV.one=Jb)/\
   K (.ref id (g+1) size 0 (m+n)) (M.set id (.cells (g+1) 0 (aZ cs off (m*size)++new))) [] [id]
 | _=>False
def aD0(size:Nat)(d x:PV)(M:Mem)(K:PV->Mem->List Nat->List Nat->Prop):Prop:=match d with
 | .ref id g sz off m=>pg size x M fun new n=>QOb M[id]? g fun ver cs=>(sz=size/\off+m*size<=cs.length/\new.all PV.one=Jb)/\
   (if min n m=0 then K (.int .i64 0) M [] []else K (.int .i64 ((min n m:Nat):Int)) (M.set id (.cells g (ver+1) (cs.take off++new.take (min n m*size)++cs.drop (off+min n m*size)))) [] [id])
 | _=>False
def aBe(z:List PV)(x:PV)(M:Mem)(K:PV->Mem->List Nat->List Nat->Prop):Prop:=match x with
 | .ref id g sz off n=>QOb M[id]? g fun ver cs=>(sz=z.length/\off+n*sz<=cs.length/\(cG n z).all PV.one=Jb)/\
   (if n=0 then K (.tuple []) M [] []else K (.tuple []) (M.set id (.cells g (ver+1) (cs.take off++cG n z++cs.drop (off+n*sz)))) [] [id])
 | _=>False
def BV(a:List PV)(x:Option AR)(k:Option Int->Prop):Prop:=match x with
 | none=>k Ja
 | some x=>uK (pev a x) fun _ n=>k (Iz n)
def OK(size:Nat)(v:PV)(l r m:Option Int)(M:Mem)(k:PV->Prop):Prop:=match v with
 | .aa=>(l.getD 0=0/\r.getD 0=0/\(m=Ja\/m=r))/\k .aa
 | .sl u own sz n cs=>(sz=size/\(m=Ja\/m=r)/\0<=l.getD 0/\l.getD 0<=r.getD n/\r.getD n<=n)/\k (.sl (if own=Jb then(if r.isSome=Jb then Jc else u)else u) own sz (r.getD n-l.getD 0).toNat (aZ cs ((l.getD 0).toNat*size) ((r.getD n-l.getD 0).toNat*size)))
 | .ref id g sz off n=>QOb M[id]? g fun _ _=>(sz=size/\(m=Ja\/m=r)/\0<=l.getD 0/\l.getD 0<=r.getD n/\r.getD n<=n)/\k (.ref id g sz (off+(l.getD 0).toNat*size) (r.getD n-l.getD 0).toNat)
 | _=>False
def aFm(len size:Nat)(x:PV)(l r:Option Int)(M:Mem)(k:PV->List Nat->Prop):Prop:=match x with
 | .ptr id g o=>QOb M[id]? g fun _ cs=>(o+len*size<=cs.length/\0<=l.getD 0/\l.getD 0<=r.getD len/\r.getD len<=len)/\k (.ref id g size (o+(l.getD 0).toNat*size) (r.getD len-l.getD 0).toNat) [id]
 | _=>False
def kG(l:List PV):Option (List UInt8):=match fI l with
 | some x=>eG x
 | none=>Ja
def aFr(x:PV)(M:Mem)(k:PV->List Nat->Prop):Prop:=match x with
 | .aa=>k (.str ⟨#[]⟩) []
 | .sl _ _ sz n cs=>sz=1/\gC (kG cs) fun s=>k (.str ⟨s.toArray⟩) []
 | .ref id g sz off n=>QOb M[id]? g fun _ cs=>(sz=1/\off+n<=cs.length)/\gC (kG (aZ cs off n)) fun s=>k (.str ⟨s.toArray⟩) [id]
 | _=>False
def KS(kd:Nat)(x y:PV)(M:Mem)(k:Bool->Prop):Prop:=match kd,x,y with
 | 0,.aa,.aa=>k Jb
 | 0,.sl _ _ _ n _,.aa=>if n=0 then k Jb/\k Jc else k Jc
 | 0,.ref id g _ _ n,.aa=>QOb M[id]? g fun _ _=>if n=0 then k Jb/\k Jc else k Jc
 | 1,.al,.al=>k Jb
 | 1,.ptr id g _,.al=>QOb M[id]? g fun _ _=>k Jc
 | 3,.aq,.aq=>k Jb
 | 3,.func ..,.aq=>k Jc
 | 4,.af,.af=>k Jb
 | 4,.iface ..,.af=>k Jc
 | _,_,_=>False
def aDq(v:PV)(k:ByteArray->Prop):Prop:=match v with
 | .str s=>k s
 | _=>False
def aFo(v:PV)(u:Prop)(y:TypeId->PV->Prop):Prop:=match v with
 | .af=>u
 | .iface t v=>y t v
 | _=>False
def dU:List PV->TypeId->Option FuncId
 | .int _ u:: .int _ g::r,t=>if u=(t:Int)then Iz g.toNat else dU r t
 | _,_=>Ja
def aDZ(u:List PV)(args:List PV)(k:FuncId->List PV->Prop):Prop:=match args with
 | .iface t v::rest=>∃g,dU u t=Iz g/\k g (v::rest)
 | _=>False
def yK:PV->Bool
 | .cp .. =>Jb
 | .func (.method _) _ _=>Jc
 | .func .. =>Jb
 | .iface .. =>Jb
 | _=>Jc
def A8(v:PV)(M:Mem)(k:Prop):Prop:=match v with
 | .ptr id g _=>QOb M[id]? g fun _ _=>k
 | v=>yK v=Jb/\k
def cZ(kd:Nat)(k:AV):List (PV×PV)->Option (Option PV)
 | []=>Iz Ja
 | (u,v)::y=>match bQ u with
  | some k2=>match vH kd k k2 with
   | some Jb=>Iz (Iz v)
   | some Jc=>cZ kd k y
   | none=>Ja
  | none=>Ja
def fZ(kd:Nat)(key:PV)(k:AV)(v:PV):List (PV×PV)->List (PV×PV)
 | []=>[(key,v)]
 | (u,B)::y=>match bQ u with
  | some k2=>match vH kd k k2 with
   | some Jb=>(key,v)::y
   | _=>(u,B)::fZ kd key k v y
  | none=>(u,B)::fZ kd key k v y
def uW(u:Bool)(z:PV):Option PV->PV
 | some v=>if u=Jb then .tuple [v,.bool Jb]else v
 | none=>if u=Jb then .tuple [z,.bool Jc]else z
def QMp(o:Option bp)(k:Nat->List (PV×PV)->Prop):Prop:=∃ver u,o=Iz (.map ver u)/\k ver u
def aBa(kd:Nat)(u:Bool)(z x i:PV)(M:Mem)(K:PV->Mem->List Nat->List Nat->Prop):Prop:=match x,bQ i with
 | .map id,Iz k=>QMp M[id]? fun _ y=>gC (cZ kd k y) fun r=>K (uW u z r) M [id] []
 | _,_=>False
def aBb(x:PV)(M:Mem)(k:PV->List Nat->Prop):Prop:=match x with
 | .map id=>QMp M[id]? fun _ u=>k (p64 u.length) [id]
 | _=>False
def aA9(kd:Nat)(m i v:PV)(M:Mem)(K:PV->Mem->List Nat->List Nat->Prop):Prop:=match m,bQ i with
 | .map id,Iz k=>QMp M[id]? fun ver u=>gC (cZ kd k u) fun _=>v.one=Jb/\K (.tuple []) (M.set id (.map (ver+1) (fZ kd i k v u))) [] [id]
 | _,_=>False
def C1(b:Bool)(x y:PV):PV:=if b=Jb then x else y
def lR:bp->bp->Bool
 | .cells g v _,.cells y u _=>g==y&&v==u
 | .map v _,.map u _=>v==u
 | .loop v _,.loop u _=>v==u
 | .gone,.gone=>Jb
 | _,_=>Jc
def bW:Nat->Mem->Mem->List Nat
 | _,[],_=>[]
 | i,_::M,[]=>i::bW (i+1) M []
 | i,o::M,y::u=>if lR o y=Jb then bW (i+1) M u else i::bW (i+1) M u
def RA(M u:Mem):List Nat:=bW 0 M u
structure ke where
 idx:Nat
 rd:List Nat
 chg:List Nat
 Mb:Mem
 na:Nat
def ku(u M:Mem)(id:Nat):Bool:=match u[id]?,M[id]? with
 | some (.cells g _ _),Iz (.cells y _ _)=>g==y
 | some (.map _ _),Iz (.map _ _)=>Jb
 | some (.loop _ _),Iz (.loop _ _)=>Jb
 | _,_=>Jc
def jd(u:Bool)(rd y:List Nat)(M:Mem)(B:List ke)(chk:List Nat):Bool:=
 B.all fun e=>if chk.contains e.idx then(if u then y.all (fun id=> !e.rd.contains id&&(ku e.Mb M id||decide (e.na<=id)))else e.chg.all fun id=> !rd.contains id)else Jb
section
variable (tab:FuncId->Option AF)
def ai(g:FuncId)(args:List PV)(M:Mem)(K:PV->Mem->Prop):Prop:=
 ∀(w:PWd) (h:H) (u:List AV),w.id0<=M.length->PSt w h M->ak w args u->
  C (lim tab) g u h fun v B=>∃w' r y,dx M.length w h M w' B y/\PSt w' B y/\az w' r v/\K r y
def OD(id:Nat)(args:List PV)(M:Mem)(K:PV->Mem->Prop):Prop:=
 ∀(w:PWd) (h:H) (b:Nat) (u:List AV),w.id0<=M.length->PSt w h M->ag w M id b->ak w args u->
  RZ (lim tab) (.func (.yield b) [] []) u h fun v B=>∃w' r y,dx M.length w h M w' B y/\PSt w' B y/\az w' r v/\K r y
def Lf(m:Nat)(w:PWd)(h:H)(M:Mem)(Q:List PV->Mem->Prop)(B:List AV)(y:H):Prop:=
 ∃w' a u,dx m w h M w' y u/\PSt w' y u/\ak w' a B/\Q a u
def b9(m:Nat)(c:AC)(a:List PV)(M:Mem)(y B:List PV->Mem->Prop)(E:Nat->List PV->Mem->Prop):Prop:=
 ∀(w:PWd) (h:H) (u:List AV),w.id0<=m->m<=M.length->PSt w h M->ak w a u->
  W (lim tab) c u h (Lf m w h M y) (Lf m w h M B) fun i=>Lf m w h M (E i)
def BA(f:PV)(args:List PV)(M:Mem)(K:PV->Mem->Prop):Prop:=match f with
 | .func (.func g) first u=>ai tab g (first++args++u) M K
 | .func (.methodOf _ _) y _=>aDZ y args fun g l=>ai tab g l M K
 | .yld id first=>(∃ver r,M[id]? =Iz (.loop ver r))/\OD tab id (first++args) M K
 | _=>False
def KPC(M:Mem)(K:PV->Mem->List Nat->List Nat->Prop)(v:PV)(u:Mem):Prop:=K v u [] (RA M u)
def PS(o:AO)(a:List PV)(M:Mem)(K:PV->Mem->List Nat->List Nat->Prop):Prop:=match o with
 | .move x=>K (pev a x) M [] []
 | .pick c x y=>KX (pev a c) fun b=>K (C1 b (pev a x) (pev a y)) M [] []
 | .alloc cs=>K (.ptr M.length 0 0) (M++[.cells 0 0 (cs.map ay)]) [] []
 | .box x=>(cB (pev a x)).all PV.one=Jb/\K (.ptr M.length 0 0) (M++[.cells 0 0 (cB (pev a x))]) [] []
 | .build z G=>gC (dq a (z.map ay) G) fun cs=>K (.agg cs) M [] []
 | .buildSlice size len z G=>(z.length=size/\0<size)/\gC (dq a (cG len (z.map ay)) G) fun cs=>K (.sl Jb Jb size len cs) M [] []
 | .load x=>KU (pev a x) M fun v rd=>K v M rd []
 | .ew n x=>A9 n (pev a x) M fun v rd=>K v M rd []
 | .store n p x=>OJ n (pev a p) (pev a x) M fun I u=>K (.tuple []) I [] u
 | .nilCheck x=>A8 (pev a x) M (K (pev a x) M [] [])
 | .bin op x y=>gC (bL op (pev a x) (pev a y)) fun v=>K v M [] []
 | .eqB neg x y=>KX (pev a x) fun p=>KX (pev a y) fun q=>K (.bool (if neg=Jb then !(p==q)else p==q)) M [] []
 | .isNil kd neg x y=>KS kd (pev a x) (pev a y) M fun b=>K (.bool (if neg=Jb then !b else b)) M [] []
 | .dz neg T x y=>OO (pev a x) fun p=>OO (pev a y) fun q=>gC (oD T p q) fun b=>K (.bool (if neg=Jb then !b else b)) M [] []
 | .un op x=>gC (pun op (pev a x)) fun v=>K v M [] []
 | .dt k x=>uK (pev a x) fun _ n=>K (.int k (k.wrap n)) M [] []
 | .iv fn f c=>(∃g,fn= .func g)/\K (.func fn (f.map (pev a)) (c.map (pev a))) M [] []
 | .makeSlice bytes z n c=>uK (pev a n) fun J l=>uK (pev a c) fun kw m=>(J= .i64/\kw= .i64/\0<=l/\l<=m/\m*bytes<=140737488355328/\m<=9223372036854775807)/\K (.ref M.length 0 z.length 0 l.toNat) (M++[.cells 0 0 (cG l.toNat (z.map ay))]) [] []
 | .slice size x B E O=>BV a B fun l=>BV a E fun r=>BV a O fun m=>OK size (pev a x) l r m M fun v=>K v M [] []
 | .fieldAddr off x=>aFq off (pev a x) M fun v=>K v M [] []
 | .field off Ja x=>OO (pev a x) fun cs=>gC cs[off]? fun v=>K v M [] []
 | .field off (Iz n) x=>OO (pev a x) fun cs=>off+n<=cs.length/\K (.agg (aZ cs off n)) M [] []
 | .indexAddr size x i=>aFp size (pev a x) (pev a i) M fun v=>K v M [] []
 | .bj len size x i=>aBd len size (pev a x) (pev a i) M fun v=>K v M [] []
 | .index len size isAgg x i=>OO (pev a x) fun cs=>uK (pev a i) fun _ j=>(0<=j/\j<len)/\(if isAgg=Jb then j.toNat*size+size<=cs.length/\K (.agg (aZ cs (j.toNat*size) size)) M [] []else gC cs[j.toNat*size]? fun v=>K v M [] [])
 | .extract x i=>aFl (pev a x) fun Q=>gC Q[i]? fun v=>K v M [] []
 | .call f args=>BA tab (pev a f) (args.map (pev a)) M (KPC M K)
 | .append size bytes s x=>0<size/\aBf size bytes (pev a s) (pev a x) M K
 | .len x=>aFn (pev a x) M fun v=>K v M [] []
 | .bq bytes z s x=>pev a s= .aa/\uK (pev a x) fun J n=>J= .i64/\(if n=0 then K .aa M [] []else(0<=n/\n*bytes<=140737488355328/\n<=9223372036854775807)/\K (.ref M.length 0 z.length 0 n.toNat) (M++[.cells 0 0 (cG n.toNat (z.map ay))]) [] [])
 | .da x i=>∃s,pev a x= .str s/\uK (pev a i) fun _ k=>0<=k/\gC s[k.toNat]? fun c=>K (.int .u8 c.toNat) M [] []
 | .iw x=>∃s,pev a x= .str s/\K (p64 s.size) M [] []
 | .ep x B E=>∃s,pev a x= .str s/\BV a B fun l=>BV a E fun r=>(0<=l.getD 0/\l.getD 0<=r.getD s.size/\r.getD s.size<=s.size)/\K (.str (s.extract (l.getD 0).toNat (r.getD s.size).toNat)) M [] []
 | .cw len size x B E=>BV a B fun l=>BV a E fun r=>aFm len size (pev a x) l r M fun v rd=>K v M rd []
 | .br x=>aFr (pev a x) M fun v rd=>K v M rd []
 | .ja size d x=>aD0 size (pev a d) (pev a x) M K
 | .fj z x=>aBe (z.map ay) (pev a x) M K
 | .max x L=>gC (IE (pev a x) (L.map (pev a))) fun v=>K v M [] []
 | .min x L=>gC (yL (pev a x) (L.map (pev a))) fun v=>K v M [] []
 | .makeMap=>K (.map M.length) (M++[.map 0 []]) [] []
 | .lookup kd R z x i=>aBa kd R (ay z) (pev a x) (pev a i) M K
 | .ii x=>aBb (pev a x) M fun v rd=>K v M rd []
 | .mapUpdate kd m i v=>aA9 kd (pev a m) (pev a i) (pev a v) M K
 | .ia t x=>K (.iface t (pev a x)) M [] []
 | .cr x=>aDq (pev a x) fun s=>s.size<=140737488355328/\K (.sl Jb Jc 1 s.size (s.data.toList.map fun b=> .int .u8 b.toNat)) M [] []
 | .jk x=>aA8 (pev a x) M fun v I u=>K v I [] u
 | .oe t z x=>aFo (pev a x) (K (.tuple [ay z,.bool Jc]) M [] []) fun S v=>K (if S=t then .tuple [v,.bool Jb]else .tuple [ay z,.bool Jc]) M [] []
 | _=>False
def kQ(v:PV)(u:Bool)(A B:Prop):Prop:=(∃b,v= .bool b/\(if b=u then A else B))\/(∃l,v= .tuple l/\B)
def PO:List aw->List PV->Mem->(List PV->Mem->Prop)->Prop
 | [],a,M,Q=>Q a M
 | ⟨d,o,Ja,_⟩::os,a,M,Q=>PS tab o a M fun v y _ _=>PO os (gi a d v) y Q
 | ⟨d,o,Iz (t,u),_⟩::os,a,M,Q=>kQ (bu a t) u (PS tab o a M fun v y _ _=>PO os (gi a d v) y Q) (PO os (gi a d (.tuple [])) M Q)
def PD:List aw->Nat->List PV->Mem->List ke->(List PV->Mem->Prop)->Prop
 | [],_,a,M,_,Q=>Q a M
 | ⟨d,o,Ja,chk⟩::os,i,a,M,u,Q=>PS tab o a M fun v B rd y=>jd o.effect rd y M u chk=Jb/\PD os (i+1) (gi a d v) B (⟨i,rd,y,M,B.length⟩::u) Q
 | ⟨d,o,Iz (t,E),chk⟩::os,i,a,M,u,Q=>kQ (bu a t) E (PS tab o a M fun v B rd y=>jd o.effect rd y M u chk=Jb/\PD os (i+1) (gi a d v) B (⟨i,rd,y,M,B.length⟩::u) Q) (PD os (i+1) (gi a d (.tuple [])) M u Q)
def KV(v:PV)(A B:Prop):Prop:=∃b,v= .bool b/\(if b=Jb then A else B)
def PX(m:Nat):AC->List PV->Mem->(List PV->Mem->Prop)->(List PV->Mem->Prop)->(Nat->List PV->Mem->Prop)->Prop
 | .skip,a,M,u,B,E=>u a M
 | .region os,a,M,u,B,E=>PO tab os a M u
 | .fe os,a,M,u,B,E=>PD tab os 0 a M [] u
 | .seq x y,a,M,u,B,E=>PX m x a M (fun a M=>PX m y a M u B E) B E
 | .cond c x y,a,M,u,B,E=>KV (pev a c) (PX m x a M u B E) (PX m y a M u B E)
 | .block id x,a,M,u,B,E=>PX m x a M u B (fun i a M=>if i=id then u a M else E i a M)
 | .loop I x,a,M,u,B,E=>b9 tab m (.loop I x) a M u B E
 | .rangeFunc f J G body,a,M,u,B,E=>b9 tab m (.rangeFunc f J G body) a M u B E
 | .exit id,a,M,u,B,E=>E id a M
 | .ret,a,M,u,B,E=>B a M
end
def fE(w:PWd)(v:AV):az w (ay v) v:=by
 unfold ay;split
 ·exact .bool _
 ·exact .int _ _
 ·exact .str _
 ·exact .al
 ·exact .aa
 ·exact .bd
 ·exact .aq
 ·exact .af
 ·exact .func (fun l e=>by cases e) rfl rfl (fun i y z h=>by simp at h) (fun i y z h=>by simp at h)
 ·exact .ae _
def dF(w:PWd)(l:List AV):ak w (l.map ay) l:=
 ⟨by simp,fun i y z h1 h2=>by rw[Ap,h2]at h1;cases h1;exact fE w z⟩
def W5(w:PWd)(v:AV):az w (iy v) v:=by
 unfold iy;split
 ·exact .agg (dF w _).len (dF w _).get
 ·exact .iface (fE w _)
 ·exact .bool _
 ·exact .int _ _
 ·exact .str _
 ·exact .al
 ·exact .aa
 ·exact .bd
 ·exact .aq
 ·exact .af
 ·exact .func (fun l e=>by cases e) rfl rfl (fun i y z h=>by simp at h) (fun i y z h=>by simp at h)
 ·exact .func (fun l e=>by cases e) (by simp) rfl (dF w _).get (fun i y z h=>by simp at h)
 ·exact .ae _
def aQ{w:PWd}{a:List PV}{u:List AV}(h:ak w a u)(x:AR):az w (pev a x) (ev u x):=by
 cases x with
 | tmp t=>exact h.fp t
 | const v=>exact W5 w v
def nZ{w:PWd}{a:List PV}{B:List AV}(h:ak w a B)(u:List AR):ak w (u.map (pev a)) (u.map (ev B)):=
 ⟨by simp,fun i y z h1 h2=>by
  rw[Ap]at h1 h2
  cases E:u[i]? with
  | none=>rw[E]at h1;cases h1
  | some x=>rw[E]at h1 h2;cases h1;cases h2;exact aQ h x⟩
def QB{w:PWd}{v:PV}{x:AV}(h:az w v x)(h1:v.one=Jb):x.one=Jb:=by cases h<;>first | rfl | assumption | (simp[PV.one]at h1)
def rQ{w:PWd}{l:List PV}{y:List AV}(h:ak w l y)(h1:l.all PV.one=Jb):y.all AV.one=Jb:=by
 rw[Ch]at h1 ⊢;intro x E;obtain⟨i,B,rfl⟩:=List.getElem_of_mem E;have u:i<l.length:=by rw[h.len];exact B
 exact QB (h.get i _ _ (Ad u) (Ad B)) (h1 _ (List.getElem_mem u))
def TZ{x:AV}(h:x.one=Jb):x.cells=[x]:=by cases x<;>first | rfl | (simp[AV.one]at h)
def tI{w:PWd}{v:PV}{x:AV}(h:az w v x)(h1:(cB v).all PV.one=Jb):ak w (cB v) x.cells/\x.cells.all AV.one=Jb:=by
 have u:ak w (cB v) x.cells:=by
  by_cases hv:∃cs,v= .agg cs
  ·obtain⟨cs,rfl⟩:=hv
   cases h with
   | agg B E=>exact⟨B,E⟩
  ·have G:cB v=[v]:=by cases v<;>first | rfl | (exact absurd ⟨_,rfl⟩ hv)
   rw[G]at h1 ⊢;have y:v.one=Jb:=by simpa using h1
   rw[TZ (QB h y)];exact .cons h (.nil w)
 exact⟨u,rQ u h1⟩
def fD{w:PWd}{v:PV}{x y:AV}(h:az w v x)(e:bQ v=Iz y):x=y:=by cases h<;>simp[bQ]at e<;>exact e
def jZ{w:PWd} :∀{l:List PV} {u y:List AV},ak w l u->fI l=Iz y->u=y
 | [],u,y,h,e=>by
  have:=h.len
  cases u with
  | nil=>simp[fI]at e;exact e.symm
  | cons=>simp at this
 | v::l,[],y,h,e=>by have:=h.len;simp at this
 | v::l,x::u,y,h,e=>by
  unfold fI at e;split at e
  ·rename_i a b h1 h2;cases e;rw[fD h.hd h1,jZ h.tl h2]
  ·cases e
def yU:∀(cs:List AV) (off:Nat) (new:List AV),off+new.length<=cs.length->over cs off new=cs.take off++new++cs.drop (off+new.length)
 | cs,0,new,h=>by simp[over]
 | [],off+1,new,h=>by simp at h
 | c::cs,off+1,new,h=>by simp only[over];rw[yU cs off new (by simp at h;omega),Nat.add_right_comm];rfl
def H4{w:PWd}{cs new:List PV}{y u:List AV}(h:ak w cs y)(E:ak w new u){off:Nat}(G:off+new.length<=cs.length):ak w (jL cs off new) (over y off u):=by
 rw[yU y off u (by rw[<-E.len,<-h.len];exact G),<-E.len];have B:ak w (cs.take off++new++cs.drop (off+new.length)) (y.take off++u++y.drop (off+new.length)):=((h.take off).append E).append (h.drop _);unfold jL;split
 ·rename_i x;have:cs.set off x=cs.take off++[x]++cs.drop (off+[x].length):=by rw[List.set_eq_take_append_cons_drop,if_pos (by simp at G;omega)];simp
  rw[this];exact B
 ·exact B
def EY{cs:List PV}{off:Nat}{new:List PV}(u:off+new.length<=cs.length):(jL cs off new).length=cs.length:=by
 unfold jL;split
 ·simp
 ·simp;omega
def lV{w:PWd}{a:List PV}{G:List AV}(J:ak w a G):∀(y:List (Nat×Nat×AR)) {cs:List PV} {u:List AV} {r:List PV},ak w cs u->dq a cs y=Iz r->∃B,zQ G u y=Iz B/\ak w r B
 | [],cs,u,r,E,e=>by simp only[dq]at e;cases e;exact⟨u,rfl,E⟩
 | (off,size,x)::y,cs,u,r,E,e=>by
  simp only[dq]at e;split at e
  ·rename_i K;obtain⟨h1,h2,h3⟩:=K;obtain⟨k1,k2⟩:=tI (aQ J x) h3;have hl:(ev G x).cells.length=size:=by rw[<-k1.len];exact h1
   have I:off+size<=u.length:=by rw[<-E.len];exact h2
   obtain⟨B,L,M⟩:=lV J y (H4 E k1 (by omega)) e;refine⟨B,?_,M⟩;simp only[zQ];rw[if_pos (by simp[hl,I];simpa using k2)];exact L
  ·cases e
def iZ{w:PWd}{z:List PV}{u:List AV}(h:ak w z u):∀n,ak w (cG n z) (g8 n u)
 | 0=> .nil w
 | n+1=>h.append (iZ h n)
def m9(z:List PV):∀n,(cG n z).length=n*z.length
 | 0=>by simp[cG]
 | n+1=>by simp[cG,m9 z n,Nat.succ_mul];omega
def eV{w:PWd}{l:List PV}{u:List AV}(h:ak w l u)(o n:Nat):ak w (aZ l o n) ((u.drop o).take n):=(h.drop o).take n
def PSt.jz{w:PWd}{h:H}{M:Mem}(s:PSt w h M){id g ver:Nat}{cs:List PV}(hm:M[id]? =Iz (.cells g ver cs)):
  ∃e,w.env id=Iz e/\e.g=g/\((e.blk=Ja/\cs=[])\/∃b u,e.blk=Iz b/\h.get b=Iz (.cells (e.v0+ver) Jb u)/\ak w cs u/\ag w M id b):=by
 obtain⟨e,h1,h2,h3⟩:=s.obj _ _ hm;refine⟨e,h1,h2,?_⟩
 cases hb:e.blk with
 | none=>rw[hb]at h3;exact .inl ⟨rfl,h3⟩
 | some b=>rw[hb]at h3;obtain⟨u,y,B⟩:=h3;exact .inr ⟨b,u,rfl,y,B,_,e,hm,by simp,h1,hb⟩
def PSt.kh{w:PWd}{h:H}{M:Mem}(s:PSt w h M){id g o ver:Nat}{cs:List PV}(hm:M[id]? =Iz (.cells g ver cs)){x:AV}(G:az w (.ptr id g o) x):
  ∃e b u,x= .ptr b o/\w.env id=Iz e/\e.g=g/\e.blk=Iz b/\h.get b=Iz (.cells (e.v0+ver) Jb u)/\ak w cs u/\ag w M id b:=by
 obtain⟨e,h1,h2,h3⟩:=s.jz hm
 cases G with
 | ptr B E y=>
  rw[h1]at B;cases B;rcases h3 with⟨h3,_⟩ | ⟨b,u,h3,I,J,K⟩
  ·rw[h3]at y;cases y
  ·rw[h3]at y;cases y;exact⟨e,_,u,rfl,h1,h2,h3,I,J,K⟩
 | ln L B E y=>rw[h1]at E;cases E;omega
def PSt.gp{w:PWd}{h:H}{M:Mem}(s:PSt w h M){id g sz off n ver:Nat}{cs:List PV}(hm:M[id]? =Iz (.cells g ver cs)){x:AV}(I:az w (.ref id g sz off n) x):
  ∃e,w.env id=Iz e/\e.g=g/\((x= .ah/\off=0/\n=0/\e.blk=Ja/\cs=[])\/∃J b u,x= .slice J sz b off n/\e.blk=Iz b/\h.get b=Iz (.cells (e.v0+ver) Jb u)/\ak w cs u/\ag w M id b):=by
 obtain⟨e,h1,h2,h3⟩:=s.jz hm;refine⟨e,h1,h2,?_⟩
 cases I with
 | ref B E y=>
  rw[h1]at B;cases B;rcases h3 with⟨h3,_⟩ | ⟨b,u,h3,G,K,L⟩
  ·rw[h3]at y;cases y
  ·rw[h3]at y;cases y;exact .inr ⟨_,_,u,rfl,h3,G,K,L⟩
 | lf B E y=>
  rw[h1]at B;cases B;rcases h3 with⟨h3,G⟩ | ⟨b,u,h3,_⟩
  ·exact .inl ⟨rfl,rfl,rfl,h3,G⟩
  ·rw[h3]at y;cases y
 | mi O B E y=>rw[h1]at E;cases E;omega
def QC(M y:Mem)(id:Nat):Prop:=∃o u,M[id]? =Iz o/\y[id]? =Iz u/\lR o u=Jb
def iN(o:bp):lR o o=Jb:=by cases o<;>simp[lR]
def L2{M:Mem}{id:Nat}(h:id<M.length):QC M M id:=⟨M[id],M[id],Ad h,Ad h,iN _⟩
def aDo(w:PWd)(h:H)(M:Mem)(rd:List Nat)(u:List Nat):Prop:=∀x∈rd,x<h.next/\(w.imm x≠Ja\/∃id∈u,ag w M id x)
def du(M y:Mem)(u:List Nat):Prop:=∀id,id<M.length->id∉u->QC M y id
def du.refl(M:Mem)(u:List Nat):du M M u:=fun id y _=>L2 y
def du.app(M l:Mem)(u:List Nat):du M (M++l) u:=fun id y _=>⟨M[id],M[id],Ad y,by rw[Bh y];exact Ad y,iN _⟩
def du.set(M:Mem)(i:Nat)(o:bp):du M (M.set i o) [i]:=fun id y B=>by have u:i≠id:=fun e=>B (by simp[e]);exact⟨M[id],M[id],Ad y,by rw[Bj u];exact Ad y,iN _⟩
def bl(w:PWd)(h:H)(M:Mem)(r:Option (AV×H×List Nat))(K:PV->Mem->List Nat->List Nat->Prop):Prop:=
 ∃v E rd,r=Iz (v,E,rd)/\∃w' p B u y,dx M.length w h M w' E B/\PSt w' E B/\az w' p v/\aDo w h M rd u/\du M B y/\K p B u y
def bl.pure{w:PWd}{h:H}{M:Mem}{K:PV->Mem->List Nat->List Nat->Prop}(s:PSt w h M){r:Option (AV×H×List Nat)}{v:AV}{p:PV}{prd:List Nat}(hr:r=Iz (v,h,[]))(hv:az w p v)(u:K p M prd []):bl w h M r K:=
 ⟨v,h,[],hr,w,p,M,prd,[],dx.refl (Ac _) w h,s,hv,(fun x y=>by cases y),du.refl M _,u⟩
def bl.read{w:PWd}{h:H}{M:Mem}{K:PV->Mem->List Nat->List Nat->Prop}(s:PSt w h M){r:Option (AV×H×List Nat)}{v:AV}{p:PV}{rd prd:List Nat}(hr:r=Iz (v,h,rd))(hv:az w p v)(u:aDo w h M rd prd)(y:K p M prd []):bl w h M r K:=
 ⟨v,h,rd,hr,w,p,M,prd,[],dx.refl (Ac _) w h,s,hv,u,du.refl M _,y⟩
def PWd.bo(w:PWd)(id:Nat)(e:Ent):PWd:={w with env:=fun i=>if i=id then Iz e else w.env i}
def PWd.gm(w:PWd)(b:Nat)(o:bz):PWd:={w with imm:=fun x=>if x=b then Iz o else w.imm x}
def zD{w:PWd}{m id:Nat}{e:Ent}(hm:m<=id):Le m w (w.bo id e):=
 ⟨rfl,rfl,fun _ _ h=>h,fun i y u he=>⟨u,by show(if i=id then _ else _)=_;rw[if_neg (by omega)];exact he,.inr rfl⟩⟩
def I8{w:PWd}{m id:Nat}{e y:Ent}(h0:w.env id=Iz y)(hg:y.g<e.g):Le m w (w.bo id e):=
 ⟨rfl,rfl,fun _ _ h=>h,fun i u B he=>by
  by_cases u:i=id
  ·subst u;rw[h0]at he;cases he;exact⟨e,by show(if i=i then _ else _)=_;rw[if_pos rfl],.inl hg⟩
  ·exact⟨B,by show(if i=id then _ else _)=_;rw[if_neg u];exact he,.inr rfl⟩⟩
def qF{w:PWd}{m b:Nat}{o:bz}(y:w.imm b=Ja):Le m w (w.gm b o):=
 ⟨rfl,rfl,fun x E u=>by
  show(if x=b then _ else _)=_;by_cases e:x=b
  ·subst e;rw[y]at u;cases u
  ·rw[if_neg e];exact u,fun i G B he=>⟨B,he,.inr rfl⟩⟩
def PSt.ju{w:PWd}{h:H}{M:Mem}(s:PSt w h M){b:Nat}{o:bz}(hb:w.imm b=Iz o):b<h.next:=H.be (s.imm b o hb)
def kb.mono{w w':PWd}{h J:H}{M:Mem}(s:PSt w h M)(hl:Le M.length w w'){id:Nat}{o:bp}(E:kb w h id o)(he:∀e,w.env id=Iz e->w'.env id=Iz e)(hh:∀e b,w.env id=Iz e->e.blk=Iz b->J.get b=h.get b):kb w' J id o:=by
 cases o with
 | cells g ver cs=>
  obtain⟨e,h1,h2,h3⟩:=E;refine⟨e,he e h1,h2,?_⟩
  cases hb:e.blk with
  | none=>rw[hb]at h3;exact h3
  | some b=>rw[hb]at h3;obtain⟨G,B,u⟩:=h3;exact⟨G,by rw[hh e b h1 hb];exact B,u.mono hl s.env⟩
 | map ver L=>obtain⟨e,b,h1,h2,h3,I,B,u⟩:=E;exact⟨e,b,he e h1,h2,h3,I,by rw[hh e b h1 h3];exact B,u.len,fun i y z p q=>⟨(u.get i y z p q).1.mono hl s.env,(u.get i y z p q).2.mono hl s.env⟩⟩
 | loop ver r=>obtain⟨e,b,h1,h2,h3,K,B,u⟩:=E;exact⟨e,b,he e h1,h2,h3,K,by rw[hh e b h1 h3];exact B,u.state,u.pending,u.params,u.assign,u.body,u.tmps.mono hl s.env⟩
 | gone=>trivial
def PSt.alloc{w:PWd}{h:H}{M:Mem}(s:PSt w h M){o:bp}{o':bz}{e:Ent}(hb:e.blk=Iz h.next)(R:∀w',Le M.length w w'->w'.env M.length=Iz e->kb w' (h.alloc o') M.length o):
  PSt (w.bo M.length e) (h.alloc o') (M++[o])/\dx M.length w h M (w.bo M.length e) (h.alloc o') (M++[o]):=by
 have hl:Le M.length w (w.bo M.length e):=zD (Ac _);have y:(w.bo M.length e).env M.length=Iz e:=by show(if _=_ then _ else _)=_;rw[if_pos rfl]
 have hold:∀i,i≠M.length->(w.bo M.length e).env i=w.env i:=fun i u=>by show(if _=_ then _ else _)=_;rw[if_neg u]
 have live:∀i x,ag (w.bo M.length e) (M++[o]) i x->(i=M.length/\x=h.next)\/(i<M.length/\ag w M i x):=by
  rintro i x ⟨G,E,h1,h2,h3,J⟩;by_cases u:i=M.length
  ·subst u;rw[y]at h3;cases h3;rw[hb]at J;cases J;exact .inl ⟨rfl,rfl⟩
  ·rw[hold i u]at h3;have hlt:=s.env i E h3;rw[Bh hlt]at h1;exact .inr ⟨hlt,G,E,h1,h2,h3,J⟩
 refine⟨⟨?_,?_,?_,?_,?_,?_,?_⟩,⟨?_,hl,?_,?_,?_,?_⟩⟩
 ·intro b G u;exact H.fc (s.imm b G u)
 ·intro i E he;by_cases u:i=M.length
  ·subst u;simp
  ·rw[hold i u]at he;have:=s.env i E he;simp;omega
 ·intro i E b he B;by_cases u:i=M.length
  ·subst u;rw[y]at he;cases he;rw[hb]at B;cases B;simp
  ·rw[hold i u]at he;have:=s.blk i E b he B;simp;omega
 ·intro i G u;rcases Az i M.length with hlt | K
  ·rw[Bh hlt]at u;refine kb.mono s hl (s.obj i G u) (fun E he=>by rw[hold i (by omega)];exact he) fun E b he B=>?_;rw[H.au,if_neg (by have:=s.blk i E b he B;omega)]
  ·rw[Bo K]at u;have:i=M.length:=by
    rcases Az (i-M.length) 1 with q | q
    ·omega
    ·rw[Bi (by simpa using q)]at u;cases u
   subst this;simp at u;subst u;exact R _ hl y
 ·intro i j x h1 h2;rcases live i x h1 with⟨rfl,rfl⟩ | ⟨u,I⟩<;>rcases live j _ h2 with⟨rfl,S⟩ | ⟨T,O⟩
  ·rfl
  ·have:=O.next s;omega
  ·subst S;have:=I.next s;omega
  ·exact s.inj i j x I O
 ·intro i x h1;rcases live i x h1 with⟨rfl,rfl⟩ | ⟨u,I⟩
  ·refine⟨?_,fun _=>s.base⟩
   cases Q:w.imm h.next with
   | none=>exact Q
   | some G=>have:=s.ju Q;omega
  ·exact s.sep i x I
 ·have:=s.base;show w.n0<=h.next+1;omega
 ·simp
 ·simp
 ·intro x L _;rw[H.au,if_neg (by omega)]
 ·intro i x h1 L;rcases live i x h1 with⟨_,rfl⟩ | ⟨_,I⟩
  ·omega
  ·exact I
 ·intro x L;exact .inl L
def PSt.jn{w:PWd}{h:H}{M:Mem}(s:PSt w h M)(u:bz):
  PSt (w.gm h.next u) (h.alloc u) M/\dx M.length w h M (w.gm h.next u) (h.alloc u) M/\(w.gm h.next u).imm h.next=Iz u:=by
 have O:w.imm h.next=Ja:=by
  cases Q:w.imm h.next with
  | none=>rfl
  | some J=>have:=s.ju Q;omega
 have hl:Le M.length w (w.gm h.next u):=qF O;have B:∀x,x≠h.next->(w.gm h.next u).imm x=w.imm x:=fun x I=>by show(if _=_ then _ else _)=_;rw[if_neg I]
 have y:(w.gm h.next u).imm h.next=Iz u:=by show(if _=_ then _ else _)=_;rw[if_pos rfl]
 refine⟨⟨?_,s.env,?_,?_,s.inj,?_,?_⟩,⟨Ac _,hl,by simp,?_,fun i x h1 _=>h1,?_⟩,y⟩
 ·intro b J G;by_cases e:b=h.next
  ·subst e;rw[y]at G;cases G;exact H.aj _ _
  ·rw[B b e]at G;exact H.fc (s.imm b J G)
 ·intro i e b he hb;have:=s.blk i e b he hb;simp;omega
 ·intro i J G;refine kb.mono s hl (s.obj i J G) (fun L he=>he) fun L b he K=>?_;rw[H.au,if_neg (by have:=s.blk i L b he K;omega)]
 ·intro i x h1;have E:ag w M i x:=h1;have:=E.next s;exact⟨by rw[B x (by omega)];exact(s.sep i x E).1,(s.sep i x E).2⟩
 ·have:=s.base;show w.n0<=h.next+1;omega
 ·intro x I _;rw[H.au,if_neg (by omega)]
 ·intro x I;by_cases e:x=h.next
  ·exact .inr (.inl (by omega))
  ·rw[B x e]at I;exact .inl I
def PSt.ka{w:PWd}{h:H}{M:Mem}(s:PSt w h M){v0:Nat} :
  PSt (w.bo M.length ⟨Ja,v0,0⟩) h (M++[.cells 0 0 []])/\dx M.length w h M (w.bo M.length ⟨Ja,v0,0⟩) h (M++[.cells 0 0 []]):=by
 have hl:Le M.length w (w.bo M.length ⟨Ja,v0,0⟩):=zD (Ac _);have y:(w.bo M.length ⟨Ja,v0,0⟩).env M.length=Iz ⟨Ja,v0,0⟩:=by show(if _=_ then _ else _)=_;rw[if_pos rfl]
 have hold:∀i,i≠M.length->(w.bo M.length ⟨Ja,v0,0⟩).env i=w.env i:=fun i u=>by show(if _=_ then _ else _)=_;rw[if_neg u]
 have live:∀i x,ag (w.bo M.length ⟨Ja,v0,0⟩) (M++[.cells 0 0 []]) i x->ag w M i x:=by
  rintro i x ⟨G,B,h1,h2,h3,J⟩;by_cases u:i=M.length
  ·subst u;rw[y]at h3;cases h3;cases J
  ·rw[hold i u]at h3;have hlt:=s.env i B h3;rw[Bh hlt]at h1;exact⟨G,B,h1,h2,h3,J⟩
 refine⟨⟨s.imm,?_,?_,?_,fun i j x h1 h2=>s.inj i j x (live i x h1) (live j x h2),fun i x h1=>s.sep i x (live i x h1),s.base⟩,⟨by simp,hl,Ac _,fun _ _ _=>rfl,fun i x h1 _=>live i x h1,fun x K=> .inl K⟩⟩
 ·intro i B he;by_cases u:i=M.length
  ·subst u;simp
  ·rw[hold i u]at he;have:=s.env i B he;simp;omega
 ·intro i B b he E;by_cases u:i=M.length
  ·subst u;rw[y]at he;cases he;cases E
  ·rw[hold i u]at he;exact s.blk i B b he E
 ·intro i G u;rcases Az i M.length with hlt | I
  ·rw[Bh hlt]at u;exact kb.mono s hl (s.obj i G u) (fun B he=>by rw[hold i (by omega)];exact he) fun _ _ _ _=>rfl
  ·rw[Bo I]at u;have:i=M.length:=by
    rcases Az (i-M.length) 1 with q | q
    ·omega
    ·rw[Bi (by simpa using q)]at u;cases u
   subst this;simp at u;subst u;exact⟨_,y,rfl,rfl⟩
def PSt.setCells{w:PWd}{h:H}{M:Mem}(s:PSt w h M){id g ver b:Nat}{cs I:List PV}{u:List AV}{e:Ent}(hm:M[id]? =Iz (.cells g ver cs))(he:w.env id=Iz e)(hg:e.g=g)(hb:e.blk=Iz b)(hr:ak w I u){ver2:Nat} :
  PSt w (h.set b (.cells (e.v0+ver2) Jb u)) (M.set id (.cells g ver2 I))/\dx M.length w h M w (h.set b (.cells (e.v0+ver2) Jb u)) (M.set id (.cells g ver2 I)):=by
 have y:ag w M id b:=⟨_,e,hm,by simp,he,hb⟩;have S:=y.next s;have hid:=y.lt;have live:∀i x,ag w (M.set id (.cells g ver2 I)) i x->ag w M i x:=by
  rintro i x ⟨R,Q,h1,h2,h3,U⟩;by_cases J:id=i
  ·subst J;exact⟨_,Q,hm,by simp,h3,U⟩
  ·rw[Bj J]at h1;exact⟨R,Q,h1,h2,h3,U⟩
 have B:∀x,x≠b->(h.set b (.cells (e.v0+ver2) Jb u)).get x=h.get x:=fun x K=>H.bf K;have L:(h.set b (.cells (e.v0+ver2) Jb u)).get b=Iz (.cells (e.v0+ver2) Jb u):=by rw[H.ib,if_pos ⟨rfl,S⟩]
 refine⟨⟨?_,?_,s.blk,?_,fun i j x h1 h2=>s.inj i j x (live i x h1) (live j x h2),fun i x h1=>s.sep i x (live i x h1),s.base⟩,⟨by simp,Le.refl _ _,Ac _,?_,fun i x h1 _=>live i x h1,fun x K=> .inl K⟩⟩
 ·intro x o K;have:x≠b:=by rintro rfl;rw[(s.sep id x y).1]at K;cases K
  rw[B x this];exact s.imm x o K
 ·intro i Q O;have:=s.env i Q O;simpa using this
 ·intro i R J;by_cases E:id=i
  ·subst E;rw[Cg hid]at J;cases J;refine⟨e,he,hg,?_⟩;rw[hb];exact⟨u,L,hr⟩
  ·rw[Bj E]at J;by_cases G:R= .gone
   ·subst G;trivial
   ·refine kb.mono s (Le.refl _ _) (s.obj i R J) (fun _ h=>h) fun Q V O T=>B V ?_;rintro rfl;exact E (s.inj id i V y ⟨R,Q,J,G,O,T⟩)
 ·intro x K Y;refine B x ?_;rintro rfl;exact Y id y
def PSt.nq{w:PWd}{h h':H}{M:Mem}(s:PSt w h M){id g ver:Nat}{cs cs2:List PV}{e e2:Ent}(hm:M[id]? =Iz (.cells g ver cs))(he:w.env id=Iz e)(hg:e.g=g)(Y:e2.g=g+1)
  (hn:h.next<=h'.next) (Z:∀x,x<h.next->e.blk≠Iz x->h'.get x=h.get x)
  (hb:∀b,e2.blk=Iz b->b<h'.next/\(h.next<=b\/e.blk=Iz b))
  (hr:match e2.blk with | none=>cs2=[] | some b=>∃K,h'.get b=Iz (.cells (e2.v0+0) Jb K)/\ak w cs2 K):
  PSt (w.bo id e2) h' (M.set id (.cells (g+1) 0 cs2))/\dx M.length w h M (w.bo id e2) h' (M.set id (.cells (g+1) 0 cs2)):=by
 have hl:Le M.length w (w.bo id e2):=I8 he (by omega);have hid:id<M.length:=s.env id e he;have I:(w.bo id e2).env id=Iz e2:=by show(if _=_ then _ else _)=_;rw[if_pos rfl]
 have hold:∀i,i≠id->(w.bo id e2).env i=w.env i:=fun i u=>by show(if _=_ then _ else _)=_;rw[if_neg u]
 have B:∀b,e.blk=Iz b->ag w M id b:=fun b hb=>⟨_,e,hm,by simp,he,hb⟩;have live:∀i x,ag (w.bo id e2) (M.set id (.cells (g+1) 0 cs2)) i x->(i=id/\e2.blk=Iz x)\/(i≠id/\ag w M i x):=by
  rintro i x ⟨U,O,h1,h2,h3,h4⟩;by_cases u:i=id
  ·subst u;rw[I]at h3;cases h3;exact .inl ⟨rfl,h4⟩
  ·rw[Bj (Ne.symm u)]at h1;rw[hold i u]at h3;exact .inr ⟨u,U,O,h1,h2,h3,h4⟩
 have Q:∀i x,i≠id->ag w M i x->h'.get x=h.get x:=fun i x u E=>Z x (E.next s) fun R=>u (s.inj i id x E (B x R));refine⟨⟨?_,?_,?_,?_,?_,?_,?_⟩,⟨by simp,hl,hn,?_,?_,fun x E=> .inl E⟩⟩
 ·intro x o E;rw[Z x (s.ju E) (fun R=>by have:=(s.sep id x (B x R)).1;have E:w.imm x=Iz o:=E;rw[this]at E;cases E)];exact s.imm x o E
 ·intro i O y;by_cases u:i=id
  ·subst u;simpa using hid
  ·rw[hold i u]at y;simpa using s.env i O y
 ·intro i O b y L;by_cases u:i=id
  ·subst u;rw[I]at y;cases y;exact(hb b L).1
  ·rw[hold i u]at y;have:=s.blk i O b y L;omega
 ·intro i U u;by_cases G:i=id
  ·subst G;rw[Cg hid]at u;cases u;refine⟨e2,I,Y,?_⟩
   cases V:e2.blk with
   | none=>rw[V]at hr;exact hr
   | some b=>rw[V]at hr;obtain⟨K,S,q2⟩:=hr;exact⟨K,S,q2.mono hl s.env⟩
  ·rw[Bj (Ne.symm G)]at u;by_cases J:U= .gone
   ·subst J;trivial
   ·refine kb.mono s hl (s.obj i U u) (fun O y=>by rw[hold i G];exact y) fun O b' y L=>Q i b' G ⟨U,O,u,J,y,L⟩
 ·intro i j x h1 h2;rcases live i x h1 with⟨rfl,S⟩ | ⟨u,T⟩<;>rcases live j x h2 with⟨rfl,q2⟩ | ⟨hj,l2⟩
  ·rfl
  ·rcases(hb x S).2 with q | q
   ·have:=l2.next s;omega
   ·exact absurd (s.inj j _ x l2 (B x q)) hj
  ·rcases(hb x q2).2 with q | q
   ·have:=T.next s;omega
   ·exact absurd (s.inj i _ x T (B x q)) u
  ·exact s.inj i j x T l2
 ·intro i x h1;rcases live i x h1 with⟨rfl,S⟩ | ⟨u,T⟩
  ·rcases(hb x S).2 with q | q
   ·refine⟨?_,fun _=>Ah s.base q⟩;show w.imm x=Ja
    cases R:w.imm x with
    | none=>rfl
    | some U=>have:=s.ju R;omega
   ·exact s.sep _ x (B x q)
  ·exact s.sep i x T
 ·have:=s.base;show w.n0<=h'.next;omega
 ·intro x E a0;exact Z x E fun R=>a0 id (B x R)
 ·intro i x h1 E;rcases live i x h1 with⟨rfl,S⟩ | ⟨u,T⟩
  ·rcases(hb x S).2 with q | q
   ·omega
   ·exact B x q
  ·exact T
def dK{w:PWd}{k:IntKind}{n:Int}{x:AV}(h:az w (.int k n) x):x= .int k n:=by cases h;rfl
def i7{w:PWd}{b:Bool}{x:AV}(h:az w (.bool b) x):x= .bool b:=by cases h;rfl
def mZ{w:PWd}{cs:List PV}{x:AV}(h:az w (.agg cs) x):∃u,x= .agg u/\ak w cs u:=by cases h with | agg y B=>exact⟨_,rfl,y,B⟩
def o7{w:PWd}{cs:List PV}{x:AV}(h:az w (.tuple cs) x):∃u,x= .tuple u/\ak w cs u:=by cases h with | tuple y B=>exact⟨_,rfl,y,B⟩
def dI{w:PWd}{x:AV}(h:az w .aa x):x= .ah:=by cases h;rfl
def mY{w:PWd}{h:H}{M:Mem}(s:PSt w h M){E own:Bool}{sz n:Nat}{cs:List PV}{x:AV}(G:az w (.sl E own sz n cs) x):
  (x= .ah/\n=0/\cs=[])\/∃B b off ver rw u,x= .slice B sz b off n/\(E=Jb->own=Jb->B=Jb)/\w.imm b=Iz (.cells ver rw u)/\h.get b=Iz (.cells ver rw u)/\off+cs.length<=u.length/\cs.length=n*sz/\ak w cs ((u.drop off).take cs.length)/\(own=Jb->w.n0<=b/\rw=Jb)/\(own=Jc->E=Jc->b<w.n0):=by
 cases G with
 | slN=>exact .inl ⟨rfl,rfl,rfl⟩
 | sl h1 h2 h3 I J K L=>
  refine .inr ⟨_,_,_,_,_,_,rfl,I,h1,s.imm _ _ h1,h2,h3,⟨by simp;omega,fun i y z O hz=>?_⟩,J,K⟩;rw[Bc]at hz;split at hz
  ·rw[Bf]at hz;exact L i y z O hz
  ·cases hz
def yG{w:PWd}{h:H}{M:Mem}(s:PSt w h M){cs:List PV}{o:Nat}{x:AV}(B:az w (.cp cs o) x):
  ∃b off ver rw u,x= .ptr b (off+o)/\w.imm b=Iz (.cells ver rw u)/\h.get b=Iz (.cells ver rw u)/\off+cs.length<=u.length/\ak w cs ((u.drop off).take cs.length):=by
 cases B with
 | cp h1 h2 E=>
  refine⟨_,_,_,_,_,rfl,h1,s.imm _ _ h1,h2,⟨by simp;omega,fun i y z G hz=>?_⟩⟩;rw[Bc]at hz;split at hz
  ·rw[Bf]at hz;exact E i y z G hz
  ·cases hz
def aI{α:Type}{l:List α}{i:Nat}{x:α}(h:l[i]? =Iz x):i<l.length:=by
 rcases Az i l.length with u | u
 ·exact u
 ·rw[Bi u]at h;cases h
def IL{cs:List PV}{u:List AV}{w:PWd}{off:Nat}(hr:ak w cs ((u.drop off).take cs.length)){i:Nat}{y:PV}(B:cs[i]? =Iz y):∃z,u[off+i]? =Iz z/\az w y z:=by obtain⟨z,h1,h2⟩:=hr.iz B;rw[Bc,if_pos (aI B),Bf]at h1;exact⟨z,h1,h2⟩
def yQ{cs:List PV}{u:List AV}{w:PWd}{off:Nat}(hr:ak w cs ((u.drop off).take cs.length)){o n:Nat}(h:o+n<=cs.length):ak w (aZ cs o n) ((u.drop (off+o)).take n):=by have:=eV hr o n;rwa [List.drop_take,List.drop_drop,Gk,Da (by omega)]at this
section
variable {tab:FuncId->Option AF} {w:PWd} {h:H} {M:Mem} {a:List PV} {a':List AV} {K:PV->Mem->List Nat->List Nat->Prop}
def LQ(s:PSt w h M)(T:ak w a a')(x:AR)(B:PS tab (.load x) a M K):bl w h M (aop a' h (.load x)) K:=by
 have u:=aQ T x;simp only[PS]at B;unfold KU at B;split at B
 ·rename_i id g o hv;obtain⟨ver,cs,hm,y,E,G⟩:=B;rw[hv]at u;obtain⟨e,b,I,J,L,R,U,O,V,S⟩:=s.kh hm u;obtain⟨z,hz,hr⟩:=V.iz E;refine bl.read s (v:=z) (rd:=[b]) (prd:=[id]) ?_ hr (fun x u=>?_) G
  ·simp only[aop,J,iX,O,hz]
  ·simp only[Bk]at u;subst u;exact⟨S.next s,.inr ⟨id,by simp,S⟩⟩
 ·rename_i cs o hv;obtain⟨y,E,G⟩:=B;rw[hv]at u;obtain⟨b,off,ver,rw,I,J,L,R,U,O⟩:=yG s u;obtain⟨z,hz,hr⟩:=IL O E;refine bl.read s (v:=z) (rd:=[b]) (prd:=[]) ?_ hr (fun x u=>?_) G
  ·simp only[aop,J,iX,R,hz]
  ·simp only[Bk]at u;subst u;exact⟨s.ju L,.inl (by rw[L];simp)⟩
 ·exact B.elim
def BG(s:PSt w h M)(T:ak w a a')(n:Nat)(x:AR)(B:PS tab (.ew n x) a M K):bl w h M (aop a' h (.ew n x)) K:=by
 have u:=aQ T x;simp only[PS]at B;unfold A9 at B;split at B
 ·rename_i id g o hv;obtain⟨ver,cs,hm,E,G⟩:=B;rw[hv]at u;obtain⟨e,b,y,I,J,Q,U,L,R,S⟩:=s.kh hm u;have hs:=eV R o n;refine bl.read s (v:= .agg ((y.drop o).take n)) (rd:=[b]) (prd:=[id]) ?_ (.agg hs.len hs.get) (fun x u=>?_) G
  ·simp only[aop,I,bH,L];rw[if_pos (by rw[<-R.len];exact E)]
  ·simp only[Bk]at u;subst u;exact⟨S.next s,.inr ⟨id,by simp,S⟩⟩
 ·rename_i cs o hv;obtain⟨E,G⟩:=B;rw[hv]at u;obtain⟨b,off,ver,rw,y,I,J,Q,U,L⟩:=yG s u;have hs:=yQ L E;refine bl.read s (v:= .agg ((y.drop (off+o)).take n)) (rd:=[b]) (prd:=[]) ?_ (.agg hs.len hs.get) (fun x u=>?_) G
  ·simp only[aop,I,bH,Q];rw[if_pos (by omega)]
  ·simp only[Bk]at u;subst u;exact⟨s.ju J,.inl (by rw[J];simp)⟩
 ·exact B.elim
def G7(s:PSt w h M)(I:ak w a a')(n:Nat)(p x:AR)(u:PS tab (.store n p x) a M K):bl w h M (aop a' h (.store n p x)) K:=by
 have B:=aQ I p;simp only[PS]at u;unfold OJ at u;split at u
 ·rename_i id g o hv;obtain⟨ver,cs,hm,⟨h1,h2,h3⟩,O⟩:=u;rw[hv]at B;obtain⟨e,b,E,Q,R,S,T,U,J,Z⟩:=s.kh hm B;obtain⟨k1,k2⟩:=tI (aQ I x) h3;have hl:(ev a' x).cells.length=n:=by rw[<-k1.len];exact h1
  have G:=H4 J k1 (off:=o) (by omega);obtain⟨V,Y⟩:=s.setCells (ver2:=ver+1) hm R S T G;refine⟨.tuple [],h.set b (.cells (e.v0+(ver+1)) Jb (over E o (ev a' x).cells)),[],?_,w,.tuple [],_,[],[id],Y,V,.tuple rfl (fun i y z q=>by simp at q),(fun x B=>by cases B),du.set M id _,O⟩;simp only[aop,Q];rw[if_pos hl];simp only[eH,U];rw[if_pos (by have:=J.len;simp[hl];exact⟨by omega,by simpa using k2⟩)];rfl
 ·exact u.elim
def HI(s:PSt w h M)(G:ak w a a')(cs:List AV)(u:PS tab (.alloc cs) a M K):bl w h M (aop a' h (.alloc cs)) K:=by simp only[PS]at u;obtain⟨y,B⟩:=s.alloc (o:= .cells 0 0 (cs.map ay)) (o':= .cells 0 Jb cs) (e:=⟨Iz h.next,0,0⟩) rfl fun w' hl he=>⟨_,he,rfl,cs,H.aj _ _,dF w' cs⟩;exact⟨.ptr h.next 0,_,[],rfl,_,_,_,[],[],B,y,.ptr (e:=⟨Iz h.next,0,0⟩) (by show(if _=_ then _ else _)=_;rw[if_pos rfl]) rfl rfl,(fun x E=>by cases E),du.app M _ _,u⟩
def SY(s:PSt w h M)(y:ak w a a')(x:AR)(u:PS tab (.box x) a M K):bl w h M (aop a' h (.box x)) K:=by simp only[PS]at u;obtain⟨h1,B⟩:=u;obtain⟨k1,k2⟩:=tI (aQ y x) h1;obtain⟨E,G⟩:=s.alloc (o:= .cells 0 0 (cB (pev a x))) (o':= .cells 0 Jb (ev a' x).cells) (e:=⟨Iz h.next,0,0⟩) rfl fun w' hl he=>⟨_,he,rfl,_,H.aj _ _,k1.mono hl s.env⟩;exact⟨.ptr h.next 0,_,[],by simp only[aop];rw[if_pos k2],_,_,_,[],[],G,E,.ptr (e:=⟨Iz h.next,0,0⟩) (by show(if _=_ then _ else _)=_;rw[if_pos rfl]) rfl rfl,(fun x I=>by cases I),du.app M _ _,B⟩
def tD(s:PSt w h M)(O:ak w a a')(size len:Nat)(z:List AV)(u:List (Nat×Nat×AR))(G:PS tab (.buildSlice size len z u) a M K):bl w h M (aop a' h (.buildSlice size len z u)) K:=by
 simp only[PS]at G;obtain⟨⟨h0,h1⟩,cs,I,Q⟩:=G;obtain⟨B,R,J⟩:=lV O u (iZ (dF w z) len) I;have hlen:cs.length=len*size:=by
  have:∀(u:List (Nat×Nat×AR)) (c r:List PV),dq a c u=Iz r->r.length=c.length:=by
   intro u
   induction u with
   | nil=>intro c r h;simp only[dq]at h;cases h;rfl
   | cons p u S=>
    intro c r h;obtain⟨o,sz,x⟩:=p;simp only[dq]at h;split at h
    ·rename_i hh;rw[S _ _ h,EY (by omega)]
    ·cases h
  rw[this u _ _ I,m9];simp[h0]
 obtain⟨T,L,U⟩:=s.jn (.cells 0 Jb B);have E:=J.mono L.le s.env;refine⟨.slice Jb size h.next 0 len,_,[],by simp only[aop,R],_,.sl Jb Jb size len cs,M,[],[],L,T,?_,(fun x V=>by cases V),du.refl M _,Q⟩;refine .sl U (by rw[J.len];omega) hlen (fun _ _=>rfl) (fun _=>⟨s.base,rfl⟩) (fun q=>by cases q) (fun i y z Y Z=>E.get i y z Y (by rwa [Aw]at Z))
def vU(s:PSt w h M)(u:ak w a a')(bytes:Nat)(z:List AV)(n c:AR)(y:PS tab (.makeSlice bytes z n c) a M K):bl w h M (aop a' h (.makeSlice bytes z n c)) K:=by simp only[PS]at y;obtain⟨U,l,h1,kw,m,h2,⟨rfl,rfl,h3,G,I,J⟩,L⟩:=y;have B:=aQ u n;have E:=aQ u c;rw[h1]at B;rw[h2]at E;have O:=dK B;have Q:=dK E;obtain⟨R,S⟩:=s.alloc (o:= .cells 0 0 (cG l.toNat (z.map ay))) (o':= .cells 0 Jb (g8 l.toNat z)) (e:=⟨Iz h.next,0,0⟩) rfl fun w' hl he=>⟨_,he,rfl,_,H.aj _ _,iZ (dF w' z) _⟩;refine⟨.slice (l==m) z.length h.next 0 l.toNat,_,[],?_,_,_,_,[],[],S,R,.ref (e:=⟨Iz h.next,0,0⟩) (by show(if _=_ then _ else _)=_;rw[if_pos rfl]) rfl rfl,(fun x T=>by cases T),du.app M _ _,L⟩;simp only[aop,O,Q];rw[if_pos ⟨h3,G,I,by simpa [f0]using J⟩]
def tE(s:PSt w h M)(E:ak w a a')(bytes:Nat)(z:List AV)(y x:AR)(G:PS tab (.bq bytes z y x) a M K):bl w h M (aop a' h (.bq bytes z y x)) K:=by
 simp only[PS]at G;obtain⟨h0,V,n,h1,rfl,u⟩:=G;have I:=aQ E y;have J:=aQ E x;rw[h0]at I;rw[h1]at J;have L:=dI I;have O:=dK J;split at u
 ·rename_i B;subst B;exact bl.pure s (v:= .ah) (p:= .aa) (prd:=[]) (by simp only[aop,L,O,if_true]) .aa u
 ·rename_i B;obtain⟨⟨h2,h3,R⟩,u⟩:=u;obtain⟨S,T⟩:=s.alloc (o:= .cells 0 0 (cG n.toNat (z.map ay))) (o':= .cells 0 Jb (g8 n.toNat z)) (e:=⟨Iz h.next,0,0⟩) rfl fun w' hl he=>⟨_,he,rfl,_,H.aj _ _,iZ (dF w' z) _⟩;refine⟨.slice Jc z.length h.next 0 n.toNat,_,[],?_,_,_,_,[],[],T,S,.ref (e:=⟨Iz h.next,0,0⟩) (by show(if _=_ then _ else _)=_;rw[if_pos rfl]) rfl rfl,(fun x U=>by cases U),du.app M _ _,u⟩;simp only[aop,L,O];rw[if_neg B,if_pos ⟨h2,h3,by simpa [f0]using R⟩]
def CF(s:PSt w h M){size:Nat}{x:PV}{J:AV}(I:az w x J){k:List PV->Nat->Prop}(B:pg size x M k)(L:AR)(u:ev a' L=J):
  ∃new n y,kU a' h size L=Iz (y,n)/\ak w new y/\k new n/\new.length=n*size:=by
 unfold pg at B;split at B
 ·rw[dI I]at u;exact⟨[],0,[],by simp only[kU,u],.nil w,B,by simp⟩
 ·rename_i R own sz n cs;obtain⟨rfl,E⟩:=B;rcases mY s I with⟨rfl,rfl,rfl⟩ | ⟨S,b,off,ver,rw,G,rfl,_,e1,T,U,O,V,_⟩
  ·exact⟨[],0,[],by simp only[kU,u],.nil w,E,by simp⟩
  ·refine⟨cs,n,(G.drop off).take cs.length,?_,V,E,O⟩;simp only[kU,u,if_true,bH,T];rw[<-O,if_pos U]
 ·rename_i id g sz off n;obtain⟨ver,cs,hm,⟨rfl,hl⟩,E⟩:=B;obtain⟨e,q1,q2,Y⟩:=s.gp hm I;rcases Y with⟨rfl,rfl,rfl,_,rfl⟩ | ⟨R,b,G,rfl,p1,Z,Q,p4⟩
  ·exact⟨_,_,[],by simp only[kU,u],by simpa [aZ]using ak.nil w,E,by simp[aZ]⟩
  ·refine⟨_,_,_,?_,eV Q off (n*sz),E,by simp[aZ];omega⟩;simp only[kU,u,if_true,bH,Z];rw[if_pos (by rw[<-Q.len];exact hl)]
 ·exact B.elim
def LN(s:PSt w h M){size:Nat}{x:PV}{I:AV}(L:az w x I){k:List PV->Nat->Prop}(G:KR size x M k)(J:AR)(B:ev a' J=I):
  ∃new n u,kU a' h size J=Iz (u,n)/\ak w new u/\k new n/\new.length=n*size:=by
 unfold KR at G;split at G
 ·rename_i str;obtain⟨rfl,O⟩:=G;have ex:I= .str str:=by cases L;rfl
  rw[ex]at B;refine⟨_,_,str.data.toList.map fun b=> .int .u8 b.toNat,by simp only[kU,B,if_true],⟨by simp,fun i y z E hz=>?_⟩,O,by rw[Al,Array.length_toList,Cj];rfl⟩;rw[Ap]at E hz
  cases hb:str.data.toList[i]? with
  | none=>rw[hb]at E;cases E
  | some b=>rw[hb]at E hz;cases E;cases hz;exact .int _ _
 ·exact CF s L G J B
def EP(s:PSt w h M)(ha:ak w a a')(size bytes:Nat)(sr x:AR)(Y:PS tab (.append size bytes sr x) a M K):bl w h M (aop a' h (.append size bytes sr x)) K:=by
 simp only[PS]at Y;obtain⟨a7,Y⟩:=Y;unfold aBf at Y;obtain⟨new,n,y,e1,L,R,e4⟩:=LN (a':=a') s (aQ ha x) Y x rfl;have hs:=aQ ha sr;have hlen:y.length=n*size:=by rw[<-L.len];exact e4
 simp only[aop,e1];split at R
 ·rename_i hv;obtain⟨⟨h1,h2,h3⟩,Q⟩:=R;rw[hv]at hs;rw[dI hs];have E:=rQ L h3;by_cases G:n=0
  ·subst G;have:new=[]:=List.length_eq_zero_iff.1 (by simpa using e4);subst this;obtain⟨I,J⟩:=s.ka (v0:=0);exact⟨.ah,h,[],by simp,_,_,_,[],[],J,I,.lf (e:=⟨Ja,0,0⟩) (by show(if _=_ then _ else _)=_;rw[if_pos rfl]) rfl rfl,(fun x u=>by cases u),du.app M _ _,Q⟩
  ·obtain⟨I,J⟩:=s.alloc (o:= .cells 0 0 new) (o':= .cells 0 Jb y) (e:=⟨Iz h.next,0,0⟩) rfl fun w' hl he=>⟨_,he,rfl,_,H.aj _ _,L.mono hl s.env⟩;refine⟨.slice Jc size h.next 0 n,_,[],?_,_,_,_,[],[],J,I,.ref (e:=⟨Iz h.next,0,0⟩) (by show(if _=_ then _ else _)=_;rw[if_pos rfl]) rfl rfl,(fun x u=>by cases u),du.app M _ _,Q⟩;simp only;rw[if_neg G,if_pos ⟨h1,by simpa [f0]using h2,E,hlen⟩]
 ·rename_i fl own sz m cs hv;rw[hv]at hs;by_cases G:n=0
  ·rw[if_pos G]at R;rcases mY s hs with⟨u,_⟩ | ⟨Z,b,off,ver,rw,B,u,_⟩
   ·rw[u]at hs;exact bl.pure s (v:= .ah) (by rw[u];simp only;rw[if_pos G]) hs R
   ·rw[u]at hs;exact bl.pure s (v:= .slice Z sz b off m) (by rw[u];simp only;rw[if_pos G]) hs R
  rw[if_neg G]at R;obtain⟨⟨rfl,rfl,rfl,h1,h2,h3⟩,Q⟩:=R;have E:=rQ L h3;rcases mY s hs with⟨u,rfl,rfl⟩ | ⟨Z,b,off,ver,rw,B,u,O,q1,q2,q3,q4,q5,_⟩
  ·obtain⟨I,J⟩:=s.alloc (o:= .cells 0 0 ([]++new)) (o':= .cells 0 Jb y) (e:=⟨Iz h.next,0,0⟩) rfl (fun w' hl he=>⟨_,he,rfl,_,H.aj _ _,by simpa using L.mono hl s.env⟩);rw[Aw]at Q;refine⟨.slice Jc sz h.next 0 n,_,[],?_,_,_,_,[],[],J,I,.ref (e:=⟨Iz h.next,0,0⟩) (by show(if _=_ then _ else _)=_;rw[if_pos rfl]) rfl rfl,(fun x u=>by cases u),du.app M _ _,Q⟩;rw[u];simp only;rw[if_neg G,if_pos ⟨by simpa using h1,by simpa [f0]using h2,E,hlen⟩]
  ·have:=O rfl rfl;subst this;obtain⟨I,J⟩:=s.alloc (o:= .cells 0 0 (cs++new)) (o':= .cells 0 Jb ((B.drop off).take cs.length++y)) (e:=⟨Iz h.next,0,0⟩) rfl fun w' hl he=>⟨_,he,rfl,_,H.aj _ _,(q5.append L).mono hl s.env⟩;refine⟨.slice Jc sz h.next 0 (m+n),_,[],?_,_,_,_,[],[],J,I,.ref (e:=⟨Iz h.next,0,0⟩) (by show(if _=_ then _ else _)=_;rw[if_pos rfl]) rfl rfl,(fun x u=>by cases u),du.app M _ _,Q⟩;rw[u];simp only;rw[if_neg G,if_pos ⟨trivial,h1,by simpa [f0]using h2,E,hlen⟩];simp only[bH,q2];rw[<-q4,if_pos q3];simp
 ·rename_i id g sz off m hv;obtain⟨ver,cs,hm,⟨rfl,h0,a3,h1,h2,h3⟩,Q⟩:=R;rw[hv]at hs;have E:=rQ L h3;obtain⟨e,p1,p2,p3⟩:=s.gp hm hs;rcases p3 with⟨u,rfl,rfl,a1,rfl⟩ | ⟨fl,b,B,u,hb,q2,q3,q4⟩
  ·by_cases G:n=0
   ·subst G;have:new=[]:=List.length_eq_zero_iff.1 (by simpa using e4);subst this;obtain⟨I,J⟩:=s.nq (h':=h) (e2:=⟨Ja,0,g+1⟩) (cs2:=aZ [] 0 (0*sz)++[]) hm p1 p2 rfl (Ac _) (fun _ _ _=>rfl) (fun b hb=>by cases hb) (by simp[aZ]);exact⟨.ah,h,[],by rw[u];simp,_,_,_,[],[id],J,I,.lf (e:=⟨Ja,0,g+1⟩) (by show(if _=_ then _ else _)=_;rw[if_pos rfl]) rfl rfl,(fun x u=>by cases u),du.set M _ _,Q⟩
   ·obtain⟨I,J⟩:=s.nq (h':=h.alloc (.cells 0 Jb y)) (e2:=⟨Iz h.next,0,g+1⟩) (cs2:=aZ [] 0 (0*sz)++new) hm p1 p2 rfl (by simp) (fun x u _=>by rw[H.au,if_neg (by omega)]) (fun b hb=>by cases hb;exact⟨by simp,.inl (Ac _)⟩) ⟨_,H.aj _ _,by simpa [aZ]using L⟩;rw[Aw]at Q;refine⟨.slice Jc sz h.next 0 n,_,[],?_,_,_,_,[],[id],J,I,.ref (e:=⟨Iz h.next,0,g+1⟩) (by show(if _=_ then _ else _)=_;rw[if_pos rfl]) rfl rfl,(fun x u=>by cases u),du.set M _ _,Q⟩;rw[u];simp only;rw[if_neg G,if_pos ⟨by simpa using h1,by simpa [f0]using h2,E,hlen⟩]
  ·have a1:=q4.next s;by_cases G:n=0
   ·subst G;have:new=[]:=List.length_eq_zero_iff.1 (by simpa using e4);subst this;have hw:off=0/\m*sz=cs.length:=by
     rcases a3 with h | h
     ·omega
     ·exact h
    obtain⟨rfl,hw⟩:=hw;have a0:aZ cs 0 (m*sz)++[]=cs:=by simp[aZ,hw]
    obtain⟨I,J⟩:=s.nq (h':=h) (e2:=⟨Iz b,e.v0+ver,g+1⟩) (cs2:=aZ cs 0 (m*sz)++[]) hm p1 p2 rfl (Ac _) (fun _ _ _=>rfl) (fun b' U=>by cases U;exact⟨a1,.inr hb⟩) ⟨B,q2,by rw[a0];exact q3⟩;refine⟨.slice fl sz b 0 m,h,[],by rw[u];simp,_,_,_,[],[id],J,I,.ref (e:=⟨Iz b,e.v0+ver,g+1⟩) (by show(if _=_ then _ else _)=_;rw[if_pos rfl]) rfl rfl,(fun x u=>by cases u),du.set M _ _,Q⟩
   ·have hold:=eV q3 off (m*sz);have a4:bH h b off (m*sz)=Iz ((B.drop off).take (m*sz)):=by simp only[bH,q2];rw[if_pos (by rw[<-q3.len];exact h0)]
    have S:∀(hh:H),hh.next=h.next->(∀x,x≠b->hh.get x=h.get x)->(if fl=Jb then Iz (.slice Jc sz h.next 0 (m+n),h.alloc (.cells 0 Jb ((B.drop off).take (m*sz)++y)),[])else match kill h b with | some h'=>Iz (.slice Jc sz h.next 0 (m+n),h'.alloc (.cells 0 Jb ((B.drop off).take (m*sz)++y)),[]) | none=>Ja)=Iz (AV.slice Jc sz h.next 0 (m+n),hh.alloc (.cells 0 Jb ((B.drop off).take (m*sz)++y)),([]:List Nat))->
      bl w h M (Iz (AV.slice Jc sz h.next 0 (m+n),hh.alloc (.cells 0 Jb ((B.drop off).take (m*sz)++y)),([]:List Nat))) K:=by
     intro hh V a5 _;obtain⟨I,J⟩:=s.nq (h':=hh.alloc (.cells 0 Jb ((B.drop off).take (m*sz)++y))) (e2:=⟨Iz h.next,0,g+1⟩) (cs2:=aZ cs off (m*sz)++new) hm p1 p2 rfl (by simp[V]) (fun x u a6=>by rw[H.au,if_neg (by omega),a5 x (fun e=>a6 (by rw[hb,e]))]) (fun b' U=>by cases U;exact⟨by simp[V],.inl (Ac _)⟩) ⟨_,by rw[<-V];exact H.aj _ _,hold.append L⟩;exact⟨_,_,[],rfl,_,_,_,[],[id],J,I,.ref (e:=⟨Iz h.next,0,g+1⟩) (by show(if _=_ then _ else _)=_;rw[if_pos rfl]) rfl rfl,(fun x u=>by cases u),du.set M _ _,Q⟩
    rw[u];simp only;rw[if_neg G,if_pos ⟨trivial,h1,by simpa [f0]using h2,E,hlen⟩];simp only[a4];by_cases O:fl=Jb
    ·rw[if_pos O];exact S h rfl (fun _ _=>rfl) (by rw[if_pos O])
    ·rw[if_neg O];have a2:kill h b=Iz (h.set b .dead):=by simp only[kill,q2]
     simp only[a2];exact S (h.set b .dead) rfl (fun x u=>H.bf u) (by rw[if_neg O];simp only[a2])
 ·exact R.elim
def CU{w:PWd}{cs new:List PV}{y u:List AV}(h:ak w cs y)(B:ak w new u){off:Nat}(E:off+new.length<=cs.length):ak w (cs.take off++new++cs.drop (off+new.length)) (over y off u):=by rw[yU y off u (by rw[<-B.len,<-h.len];exact E),<-B.len];exact((h.take off).append B).append (h.drop _)
def aB7{w:PWd}{v:PV}{x:AV}(h:az w v x)(u:v.one=Jb):x.one=Jb:=by cases h<;>simp_all [PV.one,AV.one]
def vQ{w:PWd}{cs:List PV}{u:List AV}(h:ak w cs u)(B:cs.all PV.one=Jb):u.all AV.one=Jb:=by rw[Ch]at B ⊢;intro x I;obtain⟨i,E⟩:=List.getElem?_of_mem I;obtain⟨y,G⟩:∃y,cs[i]? =Iz y:=⟨_,Ad (by rw[h.len];exact(List.getElem?_eq_some_iff.1 E).1)⟩;exact aB7 (h.get i y x G E) (B y (List.mem_of_getElem? G))
def pg.noStr(s:PSt w h M){size:Nat}{x:PV}{E:AV}(B:az w x E){k:List PV->Nat->Prop}(y:pg size x M k)(t:ByteArray):E≠ .str t:=by
 intro e;unfold pg at y;split at y
 ·rw[dI B]at e;cases e
 ·rcases mY s B with⟨u,_⟩ | ⟨_,_,_,_,_,_,u,_⟩<;>(rw[u]at e;cases e)
 ·obtain⟨ver,cs,hm,_⟩:=y;obtain⟨_,_,_,G⟩:=s.gp hm B;rcases G with⟨u,_⟩ | ⟨_,_,_,u,_⟩<;>(rw[u]at e;cases e)
 ·exact y.elim
def PQ{a':List AV}{h:H}{size n:Nat}{x:AR}{new:List AV}(hs:kU a' h size x=Iz (new,n))(y:∀t,ev a' x≠ .str t):
  (ev a' x= .ah/\n=0)\/∃B b o,ev a' x= .slice B size b o n/\∀k,k<=n->bH h b o (k*size)=Iz (new.take (k*size)):=by
 unfold kU at hs;split at hs
 ·rename_i he;cases hs;exact .inl ⟨he,rfl⟩
 ·rename_i B sz b o m he;split at hs
  ·rename_i E;subst E;split at hs
   ·rename_i cs u;cases hs;refine .inr ⟨B,b,o,he,fun k G=>?_⟩;unfold bH at u ⊢;split at u
    ·rename_i ver rw all hg;have hm:=Dg sz G;split at u
     ·cases u;rw[if_pos (by omega),Gk,Da hm]
     ·cases u
    ·cases u
   ·cases hs
  ·cases hs
 ·rename_i t he;exact absurd he (y t)
 ·cases hs
def HF(s:PSt w h M)(R:ak w a a')(size:Nat)(d x:AR)(G:PS tab (.ja size d x) a M K):bl w h M (aop a' h (.ja size d x)) K:=by
 have u:=aQ R d;simp only[PS]at G;unfold aD0 at G;split at G
 ·rename_i id g sz off m hv;rw[hv]at u;obtain⟨new,n,B,U,S,Z,e4⟩:=CF (a':=a') s (aQ R x) G x rfl;have J:∀t,ev a' x≠ .str t:=G.noStr s (aQ R x);obtain⟨ver,cs,hm,⟨rfl,h2,h3⟩,E⟩:=Z;obtain⟨e,q1,q2,q3⟩:=s.gp hm u;rcases q3 with⟨I,rfl,rfl,_,rfl⟩ | ⟨fl,b,a0,I,p2,p3,V,p5⟩
  ·rw[if_pos (Nat.min_zero n)]at E;refine bl.read s (v:=i64 0) (rd:=[]) (prd:=[]) ?_ (.int _ _) (fun x u=>by cases u) E;rcases PQ U J with⟨k1,_⟩ | ⟨fl,b,o,k1,_⟩
   ·simp only[aop,I,k1]
   ·simp only[aop,I,k1]
  ·rcases PQ U J with⟨k1,rfl⟩ | ⟨a1,b2,o2,k1,k2⟩
   ·rw[if_pos (Nat.zero_min m)]at E;refine bl.read s (v:=i64 0) (rd:=[]) (prd:=[]) ?_ (.int _ _) (fun x u=>by cases u) E;simp only[aop,I,k1]
   ·by_cases hz:min n m=0
    ·rw[if_pos hz]at E;refine bl.read s (v:=i64 0) (rd:=[]) (prd:=[]) ?_ (.int _ _) (fun x u=>by cases u) E;simp only[aop,I,k1,and_self,if_true,hz]
    ·rw[if_neg hz]at E;have a2:=Dg sz (Fo n m);have a3:=Dg sz (Nat.min_le_right n m);have hlt:(new.take (min n m*sz)).length=min n m*sz:=by rw[List.length_take];omega
     have O:=CU V (S.take (min n m*sz)) (off:=off) (by rw[hlt];omega);rw[hlt]at O;obtain⟨s1,s2⟩:=s.setCells (ver2:=ver+1) hm q1 q2 p2 O;have Q:(B.take (min n m*sz)).all AV.one=Jb:=by
      have:=vQ S h3;rw[Ch]at this ⊢;exact fun y hy=>this y (List.mem_of_mem_take hy)
     refine⟨.int .i64 ((min n m:Nat):Int),_,[],?_,w,.int .i64 ((min n m:Nat):Int),_,[],[id],s2,s1,.int _ _,(fun x u=>by cases u),du.set M id _,E⟩;have T:(B.take (min n m*sz)).length=min n m*sz:=by rw[<-(S.take _).len];exact hlt
     simp only[aop,I,k1,and_self,if_true,hz,if_false,k2 _ (Fo n m),eH,p3];rw[if_pos (by have:=V.len;simp only[Aq,decide_eq_true_eq];exact⟨by rw[T];omega,Q⟩)];rfl
 ·exact G.elim
def EO(s:PSt w h M)(S:ak w a a')(z:List AV)(x:AR)(E:PS tab (.fj z x) a M K):bl w h M (aop a' h (.fj z x)) K:=by
 have u:=aQ S x;simp only[PS]at E;unfold aBe at E;split at E
 ·rename_i id g sz off n hv;rw[hv]at u;obtain⟨ver,cs,hm,⟨h1,h2,h3⟩,B⟩:=E;rw[Al]at h1;subst h1;obtain⟨e,T,U,V⟩:=s.gp hm u;rcases V with⟨J,rfl,rfl,_,rfl⟩ | ⟨fl,b,Y,J,Z,p3,Q,p5⟩
  ·rw[if_pos rfl]at B;exact bl.read s (v:= .tuple []) (rd:=[]) (prd:=[]) (by simp only[aop,J]) (.tuple rfl fun i y z q=>by simp at q) (fun x u=>by cases u) B
  ·by_cases hz:n=0
   ·rw[if_pos hz]at B;exact bl.read s (v:= .tuple []) (rd:=[]) (prd:=[]) (by simp only[aop,J,if_true,hz]) (.tuple rfl fun i y z q=>by simp at q) (fun x u=>by cases u) B
   ·rw[if_neg hz]at B;have hr:=iZ (dF w z) n;have hlt:(cG n (z.map ay)).length=n*z.length:=by rw[m9,Al]
    have G:=CU Q hr (off:=off) (by rw[hlt];exact h2);rw[hlt]at G;obtain⟨s1,s2⟩:=s.setCells (ver2:=ver+1) hm T U Z G;have I:=vQ hr h3;refine⟨.tuple [],_,[],?_,w,.tuple [],_,[],[id],s2,s1,.tuple rfl (fun i y z q=>by simp at q),(fun x u=>by cases u),du.set M id _,B⟩;have O:(g8 n z).length=n*z.length:=by rw[<-hr.len];exact hlt
    simp only[aop,J,if_true,hz,if_false,eH,p3];rw[if_pos (by have:=Q.len;simp only[Aq,decide_eq_true_eq];exact⟨by rw[O];omega,I⟩)];rfl
 ·exact E.elim
def x9(s:PSt w h M)(B:ak w a a')(x i:AR)(E:PS tab (.da x i) a M K):bl w h M (aop a' h (.da x i)) K:=by
 have u:=aQ B x;have G:=aQ B i;simp only[PS]at E;obtain⟨str,I,kd,k,J,h0,c,L,O⟩:=E;rw[I]at u;rw[J]at G;have ex:ev a' x= .str str:=by generalize ev a' x=y at u;cases u;rfl
 exact bl.read s (v:= .int .u8 c.toNat) (rd:=[]) (prd:=[]) (by simp only[aop,ex,dK G,if_pos h0,L]) (.int _ _) (fun x u=>by cases u) O
end
section
variable {tab:FuncId->Option AF} {w:PWd} {h:H} {M:Mem} {a:List PV} {a':List AV} {K:PV->Mem->List Nat->List Nat->Prop}
def LP(s:PSt w h M)(B:ak w a a')(c x y:AR)(E:PS tab (.pick c x y) a M K):bl w h M (aop a' h (.pick c x y)) K:=by
 simp only[PS]at E;obtain⟨b,hb,G⟩:=E;have u:=aQ B c;rw[hb]at u;have u:=i7 u
 cases b with
 | true=>exact bl.pure s (v:=ev a' x) (by simp only[aop,u]) (aQ B x) G
 | false=>exact bl.pure s (v:=ev a' y) (by simp only[aop,u]) (aQ B y) G
def HH(s:PSt w h M)(G:ak w a a')(z:List AV)(u:List (Nat×Nat×AR))(B:PS tab (.build z u) a M K):bl w h M (aop a' h (.build z u)) K:=by simp only[PS]at B;obtain⟨cs,I,J⟩:=B;obtain⟨y,L,E⟩:=lV G u (dF w z) I;exact bl.pure s (v:= .agg y) (by simp only[aop,L]) (.agg E.len E.get) J
def x8(s:PSt w h M)(L:ak w a a')(x:AR)(B:PS tab (.nilCheck x) a M K):bl w h M (aop a' h (.nilCheck x)) K:=by
 have y:=aQ L x;simp only[PS]at B;unfold A8 at B;split at B
 ·rename_i id g o hv;obtain⟨ver,cs,hm,E⟩:=B;rw[hv]at y;obtain⟨e,b,G,I,_⟩:=s.kh hm y;rw[<-hv]at y;exact bl.pure s (v:=ev a' x) (by simp only[aop,I]) y E
 ·obtain⟨h1,E⟩:=B;revert y h1;generalize hv:pev a x=v at*;generalize J:ev a' x=u;intro y h1
  cases v with
  | cp cs o=>obtain⟨b,off,ver,rw,G,I,_⟩:=yG s y;exact bl.pure s (v:=u) (by simp only[aop,J,I]) y E
  | func fn f c=>
   cases y with
   | func O Q R S T=>rename_i U V;refine bl.pure s (v:= .func fn U V) ?_ (.func O Q R S T) E;simp only[aop,J];cases fn<;>first | rfl | (simp[yK]at h1)
  | iface t u=>
   cases y with
   | iface q=>rename_i Y;exact bl.pure s (v:= .iface t Y) (by simp only[aop,J]) (.iface q) E
  | _=>simp[yK]at h1
def SZ(s:PSt w h M)(u:ak w a a')(op:BinOp)(x y:AR)(B:PS tab (.bin op x y) a M K):bl w h M (aop a' h (.bin op x y)) K:=by
 simp only[PS]at B;obtain⟨v,hv,E⟩:=B;unfold bL at hv;split at hv
 ·rename_i p q h1 h2;have G:=fD (aQ u x) h1;have I:=fD (aQ u y) h2
  cases hr:eY op p q with
  | none=>rw[hr]at hv;cases hv
  | some r=>rw[hr]at hv;cases hv;exact bl.pure s (v:=r) (by simp only[aop,G,I,hr]) (fE w r) E
 ·cases hv
def WV(s:PSt w h M)(y:ak w a a')(op:UnOp)(x:AR)(u:PS tab (.un op x) a M K):bl w h M (aop a' h (.un op x)) K:=by
 simp only[PS]at u;obtain⟨v,hv,B⟩:=u;unfold pun at hv;split at hv
 ·rename_i p h1;have E:=fD (aQ y x) h1
  cases hr:aun op p with
  | none=>rw[hr]at hv;cases hv
  | some r=>rw[hr]at hv;cases hv;exact bl.pure s (v:=r) (by simp only[aop,E,hr]) (fE w r) B
 ·cases hv
def SV(s:PSt w h M)(y:ak w a a')(x:AR)(u:List AR)(B:PS tab (.max x u) a M K):bl w h M (aop a' h (.max x u)) K:=by
 simp only[PS]at B;obtain⟨v,hv,E⟩:=B;unfold IE at hv;split at hv
 ·rename_i p q h1 h2;have G:=fD (aQ y x) h1;have I:=jZ (nZ y u) h2
  cases hr:kY AP p q with
  | none=>rw[hr]at hv;cases hv
  | some r=>rw[hr]at hv;cases hv;exact bl.pure s (v:=r) (by simp only[aop,G,I,hr]) (fE w r) E
 ·cases hv
def SU(s:PSt w h M)(y:ak w a a')(x:AR)(u:List AR)(B:PS tab (.min x u) a M K):bl w h M (aop a' h (.min x u)) K:=by
 simp only[PS]at B;obtain⟨v,hv,E⟩:=B;unfold yL at hv;split at hv
 ·rename_i p q h1 h2;have G:=fD (aQ y x) h1;have I:=jZ (nZ y u) h2
  cases hr:kY AN p q with
  | none=>rw[hr]at hv;cases hv
  | some r=>rw[hr]at hv;cases hv;exact bl.pure s (v:=r) (by simp only[aop,G,I,hr]) (fE w r) E
 ·cases hv
def SX(s:PSt w h M)(u:ak w a a')(neg:Bool)(x y:AR)(B:PS tab (.eqB neg x y) a M K):bl w h M (aop a' h (.eqB neg x y)) K:=by simp only[PS]at B;obtain⟨p,h1,q,h2,I⟩:=B;have E:=aQ u x;have G:=aQ u y;rw[h1]at E;rw[h2]at G;exact bl.pure s (v:= .bool (if neg=Jb then !(p==q)else p==q)) (by simp only[aop,i7 E,i7 G]) (.bool _) I
def HA(s:PSt w h M)(O:ak w a a')(kd:Nat)(neg:Bool)(x y:AR)(G:PS tab (.isNil kd neg x y) a M K):bl w h M (aop a' h (.isNil kd neg x y)) K:=by
 simp only[PS]at G;have E:=aQ O x;have B:=aQ O y;have fin:∀b,UY kd (ev a' x) (ev a' y)=Iz b->K (.bool (if neg=Jb then !b else b)) M [] []->bl w h M (aop a' h (.isNil kd neg x y)) K:=fun b hb I=>
  bl.pure s (v:= .bool (if neg=Jb then !b else b)) (by simp only[aop,hb]) (.bool _) I
 unfold KS at G;split at G
 ·rename_i h1 h2;rw[h1]at E;rw[h2]at B;exact fin Jb (by rw[dI E,dI B];rfl) G
 ·rename_i R own sz n cs h1 h2;rw[h1]at E;rw[h2]at B;rcases mY s E with⟨J,rfl,_⟩ | ⟨_,_,_,_,_,_,J,_⟩
  ·rw[if_pos rfl]at G;exact fin Jb (by rw[J,dI B];rfl) G.1
  ·refine fin Jc (by rw[J,dI B];rfl) ?_;by_cases L:n=0
   ·rw[if_pos L]at G;exact G.2
   ·rw[if_neg L]at G;exact G
 ·rename_i id g sz off n h1 h2;obtain⟨ver,cs,hm,I⟩:=G;rw[h1]at E;rw[h2]at B;obtain⟨e,_,_,q⟩:=s.gp hm E;rcases q with⟨J,_,rfl,_⟩ | ⟨_,_,_,J,_⟩
  ·rw[if_pos rfl]at I;exact fin Jb (by rw[J,dI B];rfl) I.1
  ·refine fin Jc (by rw[J,dI B];rfl) ?_;by_cases L:n=0
   ·rw[if_pos L]at I;exact I.2
   ·rw[if_neg L]at I;exact I
 ·rename_i h1 h2;rw[h1]at E;rw[h2]at B;refine fin Jb ?_ G;revert E B;generalize ev a' x=u;generalize ev a' y=v;intro E B;cases E;cases B;rfl
 ·rename_i id g o h1 h2;obtain⟨ver,cs,hm,I⟩:=G;rw[h1]at E;rw[h2]at B;obtain⟨e,b,Q,J,_⟩:=s.kh hm E;refine fin Jc ?_ I;rw[J];revert B;generalize ev a' y=v;intro B;cases B;rfl
 ·rename_i h1 h2;rw[h1]at E;rw[h2]at B;refine fin Jb ?_ G;revert E B;generalize ev a' x=u;generalize ev a' y=v;intro E B;cases E;cases B;rfl
 ·rename_i fn f c h1 h2;rw[h1]at E;rw[h2]at B;refine fin Jc ?_ G;revert E B;generalize ev a' x=u;generalize ev a' y=v;intro E B;cases E;cases B;rfl
 ·rename_i h1 h2;rw[h1]at E;rw[h2]at B;refine fin Jb ?_ G;revert E B;generalize ev a' x=u;generalize ev a' y=v;intro E B;cases E;cases B;rfl
 ·rename_i h1 h2;rw[h1]at E;rw[h2]at B;refine fin Jc ?_ G;revert E B;generalize ev a' x=u;generalize ev a' y=v;intro E B;cases E;cases B;rfl
 ·exact G.elim
def BI(s:PSt w h M)(G:ak w a a')(neg:Bool)(T:List (Option IntKind))(x y:AR)(I:PS tab (.dz neg T x y) a M K):bl w h M (aop a' h (.dz neg T x y)) K:=by
 simp only[PS]at I;obtain⟨p,h1,q,h2,b,hb,J⟩:=I;have B:=aQ G x;have E:=aQ G y;rw[h1]at B;rw[h2]at E;obtain⟨R,B,L⟩:=mZ B;obtain⟨S,E,O⟩:=mZ E;unfold oD at hb;split at hb
 ·rename_i u v h3 Q;rw[jZ L h3]at B;rw[jZ O Q]at E;exact bl.pure s (v:= .bool (if neg=Jb then !b else b)) (by simp only[aop,B,E,hb]) (.bool _) J
 ·cases hb
def BJ(s:PSt w h M)(B:ak w a a')(k:IntKind)(x:AR)(u:PS tab (.dt k x) a M K):bl w h M (aop a' h (.dt k x)) K:=by simp only[PS]at u;obtain⟨G,n,h1,E⟩:=u;have y:=aQ B x;rw[h1]at y;exact bl.pure s (v:= .int k (k.wrap n)) (by simp only[aop,dK y]) (.int _ _) E
def EK(s:PSt w h M)(u:ak w a a')(fn:Go.Fn)(f c:List AR)(y:PS tab (.iv fn f c) a M K):bl w h M (aop a' h (.iv fn f c)) K:=by simp only[PS]at y;obtain⟨⟨g,rfl⟩,G⟩:=y;have B:=nZ u f;have E:=nZ u c;exact bl.pure s (v:= .func (.func g) (f.map (ev a')) (c.map (ev a'))) (by simp only[aop]) (.func (fun l e=>by cases e) B.len E.len B.get E.get) G
def iS(E:ak w a a'){x:Option AR}{k:Option Int->Prop}(u:BV a x k):∃o,bnd a' x=Iz o/\k o:=by
 unfold BV at u;split at u
 ·exact⟨Ja,rfl,u⟩
 ·rename_i y;obtain⟨kd,n,h1,G⟩:=u;have B:=aQ E y;rw[h1]at B;exact⟨Iz n,by simp only[bnd,dK B],G⟩
def QF{m r:Option Int}(h:m=Ja\/m=r):(m.isSome&&r.isNone)=Jc:=by
 rcases h with h | h<;>subst h
 ·rfl
 ·cases m<;>rfl
def QG{m r:Option Int}(h:m=Ja\/m=r)(n:Int):m.getD (r.getD n)=r.getD n:=by
 rcases h with h | h<;>subst h
 ·rfl
 ·cases m<;>rfl
def G8(s:PSt w h M)(O:ak w a a')(size:Nat)(x:AR)(Q J R:Option AR)(B:PS tab (.slice size x Q J R) a M K):bl w h M (aop a' h (.slice size x Q J R)) K:=by
 simp only[PS]at B;obtain⟨l,b1,B⟩:=iS O B;obtain⟨r,b2,B⟩:=iS O B;obtain⟨m,b3,B⟩:=iS O B;have I:=aQ O x;have fin:∀v p,fJ size (ev a' x) l r m=Iz v->az w p v->K p M [] []->bl w h M (aop a' h (.slice size x Q J R)) K:=fun v p hv hr E=>
  bl.pure s (v:=v) (by simp only[aop,b1,b2,b3,hv]) hr E
 unfold OK at B;split at B
 ·rename_i hv;obtain⟨⟨h1,h2,u⟩,E⟩:=B;rw[hv]at I;refine fin .ah .aa ?_ .aa E;rw[dI I];rcases u with h | h<;>subst h
  ·simp[fJ,h1,h2]
  ·cases m<;>simp_all [fJ]
 ·rename_i Z own sz n cs hv;obtain⟨⟨rfl,u,h1,h2,h3⟩,E⟩:=B;rw[hv]at I;rcases mY s I with⟨G,rfl,rfl⟩ | ⟨S,b,off,ver,rw,T,G,U,q1,q2,q3,q4,q5,q6⟩
  ·refine fin .ah _ ?_ ?_ E
   ·rw[G];have hl:l.getD 0=0:=by cases l<;>cases r<;>simp at h1 h2 h3 ⊢ <;>omega
    have hr:r.getD 0=0:=by cases l<;>cases r<;>simp at h1 h2 h3 ⊢ <;>omega
    rcases u with h | h<;>subst h
    ·simp[fJ,hl,hr]
    ·cases m<;>simp_all [fJ]
   ·have:(r.getD ((0:Nat):Int)-l.getD 0).toNat=0:=by cases l<;>cases r<;>simp at h1 h2 h3 ⊢ <;>omega
    rw[this];simpa [aZ]using az.slN
  ·have V:(l.getD 0).toNat*sz+(r.getD (n:Int)-l.getD 0).toNat*sz<=cs.length:=by rw[q4,<-Nat.add_mul];exact Dg _ (by omega)
   have hlen:(aZ cs ((l.getD 0).toNat*sz) ((r.getD (n:Int)-l.getD 0).toNat*sz)).length=(r.getD (n:Int)-l.getD 0).toNat*sz:=by simp[aZ];omega
   refine fin (.slice (if m.isSome then m.getD (r.getD n)==r.getD n else S&&r.getD (n:Int)==(n:Int)) sz b (off+(l.getD 0).toNat*sz) (r.getD (n:Int)-l.getD 0).toNat) _ ?_ ?_ E
   ·rw[G];unfold fJ;have k1:=QF u;have k2:=QG u (n:Int);rw[if_neg (by simp[k1])];dsimp only;rw[if_pos ⟨rfl,h1,h2,by omega,by omega⟩]
   ·have B:=yQ q5 V;refine .sl q1 (by rw[hlen];omega) hlen ?_ q6.1 ?_ fun i y z hy hz=>?_
    ·intro hf L;rw[if_pos L]at hf
     cases r with
     | none=>
      have:m=Ja:=by rcases u with h | h<;>exact h
      subst this;simp at hf ⊢;exact U hf L
     | some r=>simp at hf
    ·intro L hf;rw[if_neg (by simp[L])]at hf;exact q6.2 L hf
    ·have J:=aI hy;refine B.get i y z hy ?_;rw[Bc,if_pos (by rw[<-hlen];exact J),Bf];exact hz
 ·rename_i id g sz off n hv;obtain⟨ver,cs,hm,⟨rfl,u,h1,h2,h3⟩,E⟩:=B;rw[hv]at I;obtain⟨e,p1,p2,p3⟩:=s.gp hm I;rcases p3 with⟨G,rfl,rfl,hb,_⟩ | ⟨Z,b,T,G,hb,_⟩
  ·have hl:l.getD 0=0:=by cases l<;>cases r<;>simp at h1 h2 h3 ⊢ <;>omega
   have hr:r.getD 0=0:=by cases l<;>cases r<;>simp at h1 h2 h3 ⊢ <;>omega
   have Y:r.getD ((0:Nat):Int)=0:=by simpa using hr
   refine fin .ah _ ?_ ?_ E
   ·rw[G];rcases u with h | h<;>subst h
    ·simp[fJ,hl,hr]
    ·cases m<;>simp_all [fJ]
   ·simp only[hl,Y];simpa using az.lf p1 p2 hb
  ·refine fin (.slice (if m.isSome then m.getD (r.getD n)==r.getD n else Z&&r.getD (n:Int)==(n:Int)) sz b (off+(l.getD 0).toNat*sz) (r.getD (n:Int)-l.getD 0).toNat) _ ?_ (.ref p1 p2 hb) E;rw[G];unfold fJ;have k1:=QF u;have k2:=QG u (n:Int);rw[if_neg (by simp[k1])];dsimp only;rw[if_pos ⟨rfl,h1,h2,by omega,by omega⟩]
 ·exact B.elim
def vW(s:PSt w h M)(I:ak w a a')(off:Nat)(x:AR)(y:PS tab (.fieldAddr off x) a M K):bl w h M (aop a' h (.fieldAddr off x)) K:=by
 have B:=aQ I x;simp only[PS]at y;unfold aFq at y;split at y
 ·rename_i id g o hv;obtain⟨ver,cs,hm,J⟩:=y;rw[hv]at B;obtain⟨e,b,G,L,O,Q,R,_⟩:=s.kh hm B;exact bl.pure s (v:= .ptr b (o+off)) (by simp only[aop,L]) (.ptr O Q R) J
 ·rename_i cs o hv;rw[hv]at B;revert B;generalize S:ev a' x=u;intro B
  cases B with
  | cp h1 h2 T=>rename_i b ver rw G E;exact bl.pure s (v:= .ptr b (E+(o+off))) (by simp only[aop,S,Cf]) (.cp h1 h2 T) y
 ·exact y.elim
def HE(s:PSt w h M)(L:ak w a a')(off:Nat)(n:Option Nat)(x:AR)(y:PS tab (.field off n x) a M K):bl w h M (aop a' h (.field off n x)) K:=by
 have B:=aQ L x
 cases n with
 | none=>simp only[PS]at y;obtain⟨cs,h1,v,h2,I⟩:=y;rw[h1]at B;obtain⟨u,J,E⟩:=mZ B;obtain⟨z,G,O⟩:=E.iz h2;exact bl.pure s (v:=z) (by simp only[aop,J,G]) O I
 | some n=>simp only[PS]at y;obtain⟨cs,h1,h2,I⟩:=y;rw[h1]at B;obtain⟨u,J,E⟩:=mZ B;have G:=eV E off n;exact bl.pure s (v:= .agg ((u.drop off).take n)) (by simp only[aop,J];rw[if_pos (by rw[<-E.len];exact h2)]) (.agg G.len G.get) I
def vV(s:PSt w h M)(O:ak w a a')(size:Nat)(x i:AR)(B:PS tab (.indexAddr size x i) a M K):bl w h M (aop a' h (.indexAddr size x i)) K:=by
 have y:=aQ O x;have E:=aQ O i;simp only[PS]at B;unfold aFp at B;split at B
 ·rename_i R own sz n cs hv;obtain⟨kd,j,h1,⟨rfl,h2,h3⟩,G⟩:=B;rw[h1]at E;rw[hv]at y;have I:=dK E;revert y;generalize S:ev a' x=u;intro y
  cases y with
  | slN=>omega
  | sl J L Q V Y Z T=>exact bl.pure s (by simp only[aop,S,I];rw[if_pos ⟨trivial,h2,h3⟩]) (.cp J L T) G
 ·rename_i id g sz off n hv;obtain⟨ver,cs,hm,kd,j,h1,⟨rfl,h2,h3⟩,G⟩:=B;rw[h1]at E;rw[hv]at y;have I:=dK E;obtain⟨e,J,L,Q⟩:=s.gp hm y;rcases Q with⟨_,_,rfl,_⟩ | ⟨R,b,U,y,hb,_⟩
  ·omega
  ·exact bl.pure s (v:= .ptr b (off+j.toNat*sz)) (by simp only[aop,y,I];rw[if_pos ⟨trivial,h2,h3⟩]) (.ptr J L hb) G
 ·exact B.elim
def tB(s:PSt w h M)(O:ak w a a')(len size:Nat)(x i:AR)(y:PS tab (.bj len size x i) a M K):bl w h M (aop a' h (.bj len size x i)) K:=by
 have B:=aQ O x;have G:=aQ O i;simp only[PS]at y;unfold aBd at y;split at y
 ·rename_i id g o hv;obtain⟨ver,cs,hm,kd,j,h1,⟨h2,h3⟩,I⟩:=y;rw[h1]at G;rw[hv]at B;have J:=dK G;obtain⟨e,b,L,Q,R,S,T,_⟩:=s.kh hm B;exact bl.pure s (v:= .ptr b (o+j.toNat*size)) (by simp only[aop,Q,J];rw[if_pos ⟨h2,h3⟩]) (.ptr R S T) I
 ·rename_i cs o hv;obtain⟨kd,j,h1,⟨h2,h3⟩,I⟩:=y;rw[h1]at G;rw[hv]at B;have J:=dK G;revert B;generalize U:ev a' x=u;intro B
  cases B with
  | cp V Y Z=>rename_i b ver rw L E;exact bl.pure s (v:= .ptr b (E+(o+j.toNat*size))) (by simp only[aop,U,J];rw[if_pos ⟨h2,h3⟩,Cf]) (.cp V Y Z) I
 ·exact y.elim
def HD(s:PSt w h M)(G:ak w a a')(len size:Nat)(isAgg:Bool)(x i:AR)(I:PS tab (.index len size isAgg x i) a M K):bl w h M (aop a' h (.index len size isAgg x i)) K:=by
 have J:=aQ G x;have L:=aQ G i;simp only[PS]at I;obtain⟨cs,h1,kd,j,h2,h3,u⟩:=I;rw[h1]at J;rw[h2]at L;have O:=dK L;obtain⟨B,Q,E⟩:=mZ J
 cases isAgg with
 | true=>simp only[if_true]at u;have y:=eV E (j.toNat*size) size;refine bl.pure s (v:= .agg ((B.drop (j.toNat*size)).take size)) ?_ (.agg y.len y.get) u.2;simp only[aop,Q,O];rw[if_pos h3];simp only[if_true];rw[if_pos (by rw[<-E.len];exact u.1)]
 | false=>simp only[Bs,if_false]at u;obtain⟨v,R,u⟩:=u;obtain⟨z,y,S⟩:=E.iz R;refine bl.pure s (v:=z) ?_ S u;simp only[aop,Q,O];rw[if_pos h3];simp only[Bs,if_false,y]
def BH(s:PSt w h M)(B:ak w a a')(x:AR)(i:Nat)(u:PS tab (.extract x i) a M K):bl w h M (aop a' h (.extract x i)) K:=by have y:=aQ B x;simp only[PS]at u;obtain⟨cs,h1,v,h2,E⟩:=u;rw[h1]at y;obtain⟨G,I,J⟩:=o7 y;obtain⟨z,L,O⟩:=J.iz h2;exact bl.pure s (v:=z) (by simp only[aop,I,L]) O E
def SW(s:PSt w h M)(G:ak w a a')(x:AR)(u:PS tab (.len x) a M K):bl w h M (aop a' h (.len x)) K:=by
 have B:=aQ G x;simp only[PS]at u;unfold aFn at u;split at u
 ·rename_i hv;rw[hv]at B;exact bl.pure s (v:=i64 0) (by simp only[aop,dI B]) (.int _ _) u
 ·rename_i J own sz n cs hv;rw[hv]at B;rcases mY s B with⟨y,rfl,rfl⟩ | ⟨_,_,_,_,_,_,y,_⟩
  ·exact bl.pure s (v:=i64 0) (by simp only[aop,y]) (.int _ _) u
  ·exact bl.pure s (v:=i64 n) (by simp only[aop,y]) (.int _ _) u
 ·rename_i id g sz off n hv;obtain⟨ver,cs,hm,E⟩:=u;rw[hv]at B;obtain⟨e,L,O,I⟩:=s.gp hm B;rcases I with⟨y,_,rfl,_⟩ | ⟨_,_,_,y,_⟩
  ·exact bl.pure s (v:=i64 0) (by simp only[aop,y]) (.int _ _) E
  ·exact bl.pure s (v:=i64 n) (by simp only[aop,y]) (.int _ _) E
 ·exact u.elim
def qN:∀(i:Nat) (M u:Mem),M.length<=u.length->∀id,id<M.length->i+id∉bW i M u->QC M u id
 | i,[],_,_,id,h,_=>by simp at h
 | i,o::M,[],hl,id,h,_=>by simp at hl
 | i,o::M,E::u,hl,id,h,y=>by
  unfold bW at y;by_cases hs:lR o E=Jb
  ·rw[if_pos hs]at y
   cases id with
   | zero=>exact⟨o,E,rfl,rfl,hs⟩
   | succ id=>obtain⟨p,B,h1,h2,h3⟩:=qN (i+1) M u (by simpa using hl) id (by simpa using h) (by rwa [show i+1+id=i+(id+1) by omega]);exact⟨p,B,by simpa using h1,by simpa using h2,h3⟩
  ·rw[if_neg hs]at y
   cases id with
   | zero=>exact absurd (by simp) y
   | succ id=>obtain⟨p,B,h1,h2,h3⟩:=qN (i+1) M u (by simpa using hl) id (by simpa using h) (fun G=>y (by rw[show i+(id+1)=i+1+id by omega];exact List.mem_cons_of_mem _ G));exact⟨p,B,by simpa using h1,by simpa using h2,h3⟩
def iA{w:PWd}{v:PV}{l:List PV}{u:List AV}(h:ak w (v::l) u):∃x r,u=x::r/\az w v x/\ak w l r:=by
 cases u with
 | nil=>have:=h.len;simp at this
 | cons x r=>exact⟨x,r,rfl,h.get 0 _ _ rfl rfl,⟨by have:=h.len;simpa using this,fun i y z h1 h2=>h.get (i+1) y z (by simpa using h1) (by simpa using h2)⟩⟩
def yM{w:PWd}{t:TypeId}{g:FuncId} :∀{B:List PV} {u:List AV},ak w B u->dU B t=Iz g->jD u t=Iz g
 | .int _ a:: .int _ b::r,u,h,hg=>by
  obtain⟨G,I,rfl,h1,h2⟩:=iA h;obtain⟨J,L,rfl,h3,E⟩:=iA h2;cases h1;cases h3;unfold dU at hg;unfold jD;split at hg
  ·rename_i e;rw[if_pos e];exact hg
  ·rename_i e;rw[if_neg e];exact yM E hg
 | [],_,_,hg=>by simp[dU]at hg
 | [_],_,_,hg=>by simp[dU]at hg
 | x::y::r,u,h,hg=>by
  unfold dU at hg;split at hg
  ·rename_i e;cases e;obtain⟨G,I,rfl,h1,h2⟩:=iA h;obtain⟨J,L,rfl,h3,E⟩:=iA h2;cases h1;cases h3;unfold jD;split at hg
   ·rename_i e;rw[if_pos e];exact hg
   ·rename_i e;rw[if_neg e];exact yM E hg
  ·cases hg
def tA(s:PSt w h M)(L:ak w a a')(x:AR)(B:PS tab (.cr x) a M K):bl w h M (aop a' h (.cr x)) K:=by
 simp only[PS]at B;have G:=aQ L x;unfold aDq at B;split at B
 ·rename_i t h1;obtain⟨I,O⟩:=B;rw[h1]at G;have Q:ev a' x= .str t:=by revert G;generalize ev a' x=u;intro G;cases G;rfl
  obtain⟨R,S,T⟩:=s.jn (.cells 0 Jc (t.data.toList.map fun b=> .int .u8 b.toNat));refine⟨.slice Jc 1 h.next 0 t.size,_,[],by simp only[aop,Q];rw[if_pos I],_,.sl Jb Jc 1 t.size (t.data.toList.map fun b=> .int .u8 b.toNat),M,[],[],S,R,?_,(fun x U=>by cases U),du.refl M _,O⟩;refine .sl T (by simp) (by simp) (fun _ q=>by cases q) (fun q=>by cases q) (fun _ q=>by cases q) fun i y z E J=>?_;rw[Aw,Ap]at J;rw[Ap]at E
  cases hb:t.data.toList[i]? with
  | none=>rw[hb]at E;cases E
  | some b=>rw[hb]at E J;cases E;cases J;exact .int _ _
 ·exact B.elim
def G9(s:PSt w h M)(V:ak w a a')(x:AR)(u:PS tab (.jk x) a M K):bl w h M (aop a' h (.jk x)) K:=by
 simp only[PS]at u;have O:=aQ V x;unfold aA8 at u;split at u
 ·rename_i id g sz off n h1;obtain⟨ver,cs,hm,⟨h0,h2⟩,Y⟩:=u;rw[h1]at O;obtain⟨e,Z,p2,p3⟩:=s.gp hm O;rcases p3 with⟨_,_,q,_⟩ | ⟨fl,b,G,E,hb,I,Q,q4⟩
  ·omega
  ·obtain⟨R,S⟩:=s.nq (h':=h.set b .dead) (e2:=⟨Ja,0,g+1⟩) (cs2:=[]) hm Z p2 rfl (Ac _) (fun x E J=>H.bf fun q=>J (by rw[hb,q])) (fun b hb=>by cases hb) rfl;obtain⟨t1,T,t3⟩:=R.jn (.cells 0 Jc G);have hr:=Q.mono S.le s.env;have L:=hr.mono T.le R.env;have B:=eV L off (n*sz);refine⟨.slice fl sz h.next off n,_,[],by simp only[aop,E];rw[I];simp only;rw[if_pos h0],_,.sl Jb Jc sz n (aZ cs off (n*sz)),_,[],[id],S.trans T (by simp),t1,?_,(fun x E=>by cases E),du.set M _ _,Y⟩;have hl:(aZ cs off (n*sz)).length=n*sz:=by simp[aZ];omega
   refine .sl t3 (by rw[hl,<-Q.len];exact h2) hl (fun _ q=>by cases q) (fun q=>by cases q) (fun _ q=>by cases q) fun i y z U I=>?_;exact B.get i y z U (by rw[Bc,if_pos (by have:=aI U;simp[aZ]at this;omega),Bf];exact I)
 ·exact u.elim
def LS(s:PSt w h M)(I:ak w a a')(t:TypeId)(z:AV)(x:AR)(E:PS tab (.oe t z x) a M K):bl w h M (aop a' h (.oe t z x)) K:=by
 simp only[PS]at E;have B:=aQ I x;unfold aFo at E;split at E
 ·rename_i h1;rw[h1]at B;refine bl.pure s (v:= .tuple [z,.bool Jc]) ?_ ?_ E
  ·revert B;simp only[aop];generalize ev a' x=u;intro B;cases B;rfl
  ·exact .tuple rfl (ak.cons (fE w z) (.cons (.bool Jc) (.nil w))).get
 ·rename_i G v h1;rw[h1]at B;revert B;generalize J:ev a' x=u;intro B
  cases B with
  | iface L=>
   rename_i y;refine bl.pure s (v:=if G=t then .tuple [y,.bool Jb]else .tuple [z,.bool Jc]) (by simp only[aop,J]) ?_ E;by_cases e:G=t
   ·rw[if_pos e,if_pos e];exact .tuple rfl (ak.cons L (.cons (.bool Jb) (.nil w))).get
   ·rw[if_neg e,if_neg e];exact .tuple rfl (ak.cons (fE w z) (.cons (.bool Jc) (.nil w))).get
 ·exact E.elim
def LR(h0:w.id0<=M.length)(s:PSt w h M)(ha:ak w a a')(f:AR)(args:List AR)(B:PS tab (.call f args) a M K):bl w h M (gJ (lim tab) (.call f args) a' h) K:=by
 have hf:=aQ ha f;have y:=nZ ha args;simp only[PS]at B;have fin:∀(v:AV) (E:H),eX (lim tab) (ev a' f) (args.map (ev a')) h=Iz (v,E)->(∃w' r G,dx M.length w h M w' E G/\PSt w' E G/\az w' r v/\KPC M K r G)->bl w h M (gJ (lim tab) (.call f args) a' h) K:=by intro v E he ⟨w',r,G,J,p2,U,p4⟩;exact⟨v,E,[],by simp only[gJ,he],w',r,G,[],RA M G,J,p2,U,(fun x hx=>by cases hx),fun id hi hn=>qN 0 M G J.len id hi (by rwa [Aw]),p4⟩
 unfold BA at B;split at B
 ·rename_i g first Z hv
  rw[hv]at hf;revert hf;generalize O:ev a' f=u;intro hf
  cases hf with
  | func I Q R S V=>rename_i L c';have:=B w h (L++args.map (ev a')++c') h0 s (((⟨Q,S⟩:ak w first L).append y).append ⟨R,V⟩);unfold C at this;obtain⟨v,E,he,T⟩:=this;exact fin v E (by rw[O];exact he) T
 ·rename_i tn nm a4 Z hv;rw[hv]at hf;revert hf;generalize O:ev a' f=u;intro hf
  cases hf with
  | func I Q R S V=>
   rename_i L c';unfold aDZ at B;split at B
   ·rename_i t v rest hr;rw[hr]at y;obtain⟨g,hg,B⟩:=B;obtain⟨x0,l0,a0,a1,a2⟩:=iA y;obtain⟨Y,rfl,a3⟩:∃Y,x0= .iface t Y/\az w v Y:=by cases a1;exact⟨_,rfl,by assumption⟩
    have hm:=yM ⟨Q,S⟩ hg;have:=B w h (Y::l0) h0 s (.cons a3 a2);unfold C at this;obtain⟨v',E,he,T⟩:=this;refine fin v' E ?_ T;rw[O,a0];simp only[eX,qE,hm];exact he
   ·exact B.elim
 ·rename_i id first hv
  rw[hv]at hf;revert hf;generalize O:ev a' f=u;intro hf;obtain⟨⟨ver,lr,hm⟩,B⟩:=B;obtain⟨e0,b0,J,p2,U,_⟩:=s.obj _ _ hm
  cases hf with
  | yld I Q R S V=>rename_i e b L;rw[J]at I;cases I;rw[U]at R;cases R;have:=B w h _ (L++args.map (ev a')) h0 s ⟨_,_,hm,by simp,J,U⟩ ((⟨S,V⟩:ak w first L).append y);unfold RZ at this;obtain⟨v,E,he,T⟩:=this;refine fin v E ?_ T;rw[O];simp only[eX,List.nil_append]at he ⊢;exact he
  | mv x q0 I Q=>rw[J]at I;cases I;omega
 ·exact B.elim
end
def mf.nil(w:PWd):mf w [] []:=⟨rfl,fun i y z h=>by simp at h⟩
def mf.cons{w:PWd}{p:PV×PV}{q:AV×AV}{l:List (PV×PV)}{l':List (AV×AV)}(h1:az w p.1 q.1)(h2:az w p.2 q.2)(hl:mf w l l'):mf w (p::l) (q::l'):=
 ⟨by simp[hl.len],fun i y z a b=>by
  cases i with
  | zero=>simp at a b;subst a;subst b;exact⟨h1,h2⟩
  | succ i=>exact hl.get i y z (by simpa using a) (by simpa using b)⟩
def mf.split{w:PWd}{p:PV×PV}{l:List (PV×PV)}{l':List (AV×AV)}(h:mf w (p::l) l'):∃q u,l'=q::u/\az w p.1 q.1/\az w p.2 q.2/\mf w l u:=by
 cases l' with
 | nil=>exact absurd h.len (by simp)
 | cons q u=>obtain⟨a,b⟩:=h.get 0 p q rfl rfl;exact⟨q,u,rfl,a,b,⟨by simpa using h.len,fun i y z c d=>h.get (i+1) y z (by simpa using c) (by simpa using d)⟩⟩
def oI{w:PWd}{kd:Nat}{k:AV} :∀{y:List (PV×PV)} {u:List (AV×AV)} {r:Option PV},mf w y u->cZ kd k y=Iz r->∃B,iW kd k u=Iz B/\((r=Ja/\B=Ja)\/∃v x,r=Iz v/\B=Iz x/\az w v x)
 | [],u,r,h,hr=>by have:u=[]:=List.length_eq_zero_iff.1 (by simpa using h.len.symm);subst this;simp only[cZ]at hr;cases hr;exact⟨Ja,rfl,.inl ⟨rfl,rfl⟩⟩
 | (k1,J)::y,u,r,h,hr=>by
  obtain⟨⟨k2,G⟩,K,rfl,a,b,c⟩:=h.split;simp only[cZ]at hr
  cases E:bQ k1 with
  | none=>rw[E]at hr;cases hr
  | some L=>
   rw[E]at hr;have e:=fD a E;simp only at e;subst e;simp only at hr;simp only[iW]
   cases I:vH kd k k2 with
   | none=>rw[I]at hr;cases hr
   | some t=>
    rw[I]at hr
    cases t with
    | true=>cases hr;exact⟨Iz G,rfl,.inr ⟨J,G,rfl,rfl,b⟩⟩
    | false=>exact oI c hr
def y8{w:PWd}{kd:Nat}{k:AV}{key v:PV}{x:AV}(u:az w key k)(hv:az w v x):∀{B:List (PV×PV)} {y:List (AV×AV)} {r:Option PV},mf w B y->cZ kd k B=Iz r->mf w (fZ kd key k v B) (fS kd k x y)
 | [],y,r,h,_=>by have:y=[]:=List.length_eq_zero_iff.1 (by simpa using h.len.symm);subst this;exact .cons u hv (.nil w)
 | (k1,I)::B,y,r,h,hr=>by
  obtain⟨⟨k2,J⟩,K,rfl,a,b,c⟩:=h.split;simp only[cZ]at hr
  cases E:bQ k1 with
  | none=>rw[E]at hr;cases hr
  | some L=>
   rw[E]at hr;have e:=fD a E;simp only at e;subst e;simp only at hr;simp only[fS,fZ,E]
   cases G:vH kd k k2 with
   | none=>rw[G]at hr;cases hr
   | some t=>
    rw[G]at hr
    cases t with
    | true=>exact .cons u hv c
    | false=>exact .cons a b (y8 u hv c hr)
section
variable {tab:FuncId->Option AF} {w:PWd} {h:H} {M:Mem} {a:List PV} {a':List AV} {K:PV->Mem->List Nat->List Nat->Prop}
def PSt.ou(s:PSt w h M){id ver:Nat}{B:List (PV×PV)}(hm:M[id]? =Iz (.map ver B)){x:AV}(G:az w (.map id) x):
  ∃e b u,x= .map b/\w.env id=Iz e/\e.g=0/\e.blk=Iz b/\h.get b=Iz (.map (e.v0+ver) u)/\mf w B u/\ag w M id b:=by
 obtain⟨e,b,h1,h2,h3,u,I,J⟩:=s.obj _ _ hm
 cases G with
 | map y L E=>rw[h1]at y;cases y;rw[h3]at E;cases E;exact⟨e,b,u,rfl,h1,h2,h3,I,J,⟨_,e,hm,by simp,h1,h3⟩⟩
 | nd x O y L=>rw[h1]at y;cases y;omega
def PSt.pq(s:PSt w h M){id ver b:Nat}{Z I:List (PV×PV)}{u:List (AV×AV)}{e:Ent}(hm:M[id]? =Iz (.map ver Z))(he:w.env id=Iz e)(hg:e.g=0)(hb:e.blk=Iz b)(hr:mf w I u){ver2:Nat} :
  PSt w (h.set b (.map (e.v0+ver2) u)) (M.set id (.map ver2 I))/\dx M.length w h M w (h.set b (.map (e.v0+ver2) u)) (M.set id (.map ver2 I)):=by
 have y:ag w M id b:=⟨_,e,hm,by simp,he,hb⟩;have T:=y.next s;have hid:=y.lt;have live:∀i x,ag w (M.set id (.map ver2 I)) i x->ag w M i x:=by
  rintro i x ⟨S,R,h1,h2,h3,V⟩;by_cases J:id=i
  ·subst J;exact⟨_,R,hm,by simp,h3,V⟩
  ·rw[Bj J]at h1;exact⟨S,R,h1,h2,h3,V⟩
 have B:∀x,x≠b->(h.set b (.map (e.v0+ver2) u)).get x=h.get x:=fun x L=>H.bf L;have O:(h.set b (.map (e.v0+ver2) u)).get b=Iz (.map (e.v0+ver2) u):=by rw[H.ib,if_pos ⟨rfl,T⟩]
 refine⟨⟨?_,?_,s.blk,?_,fun i j x h1 h2=>s.inj i j x (live i x h1) (live j x h2),fun i x h1=>s.sep i x (live i x h1),s.base⟩,⟨by simp,Le.refl _ _,Ac _,?_,fun i x h1 _=>live i x h1,fun x L=> .inl L⟩⟩
 ·intro x o L;have:x≠b:=by rintro rfl;rw[(s.sep id x y).1]at L;cases L
  rw[B x this];exact s.imm x o L
 ·intro i R Q;have:=s.env i R Q;simpa using this
 ·intro i S J;by_cases E:id=i
  ·subst E;rw[Cg hid]at J;cases J;exact⟨e,b,he,hg,hb,u,O,hr⟩
  ·rw[Bj E]at J;by_cases G:S= .gone
   ·subst G;trivial
   ·refine kb.mono s (Le.refl _ _) (s.obj i S J) (fun _ h=>h) fun R Y Q U=>B Y ?_;rintro rfl;exact E (s.inj id i Y y ⟨S,R,J,G,Q,U⟩)
 ·intro x L hn;refine B x ?_;rintro rfl;exact hn id y
def BF(s:PSt w h M)(G:ak w a a')(u:PS tab .makeMap a M K):bl w h M (aop a' h .makeMap) K:=by simp only[PS]at u;obtain⟨y,B⟩:=s.alloc (o:= .map 0 []) (o':= .map 0 []) (e:=⟨Iz h.next,0,0⟩) rfl fun w' hl he=>⟨_,_,he,rfl,rfl,[],H.aj _ _,.nil w'⟩;exact⟨.map h.next,_,[],rfl,_,_,_,[],[],B,y,.map (e:=⟨Iz h.next,0,0⟩) (by show(if _=_ then _ else _)=_;rw[if_pos rfl]) rfl rfl,(fun x E=>by cases E),du.app M _ _,u⟩
def EL(s:PSt w h M)(O:ak w a a')(kd:Nat)(B:Bool)(z:AV)(x i:AR)(E:PS tab (.lookup kd B z x i) a M K):bl w h M (aop a' h (.lookup kd B z x i)) K:=by
 simp only[PS]at E;have G:=aQ O x;have Z:=aQ O i;unfold aBa at E;split at E
 ·rename_i id k hv hk;obtain⟨ver,es,hm,r,hr,Q⟩:=E;rw[hv]at G;obtain⟨e,b,a0,R,e2,e3,e4,S,e6,T⟩:=s.ou hm G;have U:=fD Z hk;obtain⟨r',V,f2⟩:=oI e6 hr;have I:aDo w h M [b] [id]:=fun x G=>by simp only[Bk]at G;subst G;exact⟨T.next s,.inr ⟨id,by simp,T⟩⟩
  rcases f2 with⟨rfl,rfl⟩ | ⟨v,y,rfl,rfl,Y⟩
  ·refine bl.read s (v:=if B then .tuple [z,.bool Jc]else z) (rd:=[b]) (prd:=[id]) ?_ ?_ I Q
   ·simp only[aop,R,S,U,V]
   ·unfold uW
    cases B with
    | true=>
     refine .tuple rfl fun i y z u J=>?_
     match i with
     | 0=>cases u;cases J;exact fE _ _
     | 1=>cases u;cases J;exact .bool _
     | i+2=>simp at u
    | false=>exact fE _ _
  ·refine bl.read s (v:=if B then .tuple [y,.bool Jb]else y) (rd:=[b]) (prd:=[id]) ?_ ?_ I Q
   ·simp only[aop,R,S,U,V]
   ·unfold uW
    cases B with
    | true=>
     refine .tuple rfl fun i y z u J=>?_
     match i with
     | 0=>cases u;cases J;exact Y
     | 1=>cases u;cases J;exact .bool _
     | i+2=>simp at u
    | false=>exact Y
 ·exact E.elim
def vT(s:PSt w h M)(E:ak w a a')(kd:Nat)(m i v:AR)(u:PS tab (.mapUpdate kd m i v) a M K):bl w h M (aop a' h (.mapUpdate kd m i v)) K:=by
 simp only[PS]at u;have B:=aQ E m;have G:=aQ E i;have I:=aQ E v;unfold aA9 at u;split at u
 ·rename_i id k hv Q;obtain⟨ver,es,hm,r,hr,_,R⟩:=u;rw[hv]at B;obtain⟨e,b,S,T,U,V,Y,Z,J,e7⟩:=s.ou hm B;have L:=fD G Q;obtain⟨r',f1,f2⟩:=oI J hr;rw[L]at G;have f3:=y8 G I J hr;obtain⟨s1,s2⟩:=s.pq (ver2:=ver+1) hm U V Y f3;refine⟨.tuple [],_,[],?_,w,.tuple [],_,[],[id],s2,s1,.tuple rfl (fun i y z q=>by simp at q),(fun x B=>by cases B),du.set M id _,R⟩;simp only[aop,T,Z,L,f1];rfl
 ·exact u.elim
end
section
variable {tab:FuncId->Option AF} {w:PWd} {h:H} {M:Mem} {a:List PV} {a':List AV} {K:PV->Mem->List Nat->List Nat->Prop}
def xY(s:PSt w h M)(B:ak w a a')(x:AR)(G I:Option AR)(u:PS tab (.ep x G I) a M K):bl w h M (aop a' h (.ep x G I)) K:=by
 have E:=aQ B x;simp only[PS]at u;obtain⟨str,J,u⟩:=u;obtain⟨l,L,u⟩:=iS B u;obtain⟨r,O,u⟩:=iS B u;rw[J]at E;have ex:ev a' x= .str str:=by generalize ev a' x=y at E;cases E;rfl
 exact bl.pure s (by simp only[aop,ex,L,O];rw[if_pos u.1]) (.str _) u.2
def EM(s:PSt w h M)(E:ak w a a')(x:AR)(u:PS tab (.iw x) a M K):bl w h M (aop a' h (.iw x)) K:=by
 have B:=aQ E x;simp only[PS]at u;obtain⟨str,G,u⟩:=u;rw[G]at B;have ex:ev a' x= .str str:=by generalize ev a' x=y at B;cases B;rfl
 exact bl.pure s (by simp only[aop,ex]) (.int _ _) u
def EN(s:PSt w h M)(G:ak w a a')(x:AR)(u:PS tab (.ii x) a M K):bl w h M (aop a' h (.ii x)) K:=by
 have y:=aQ G x;simp only[PS]at u;unfold aBb at u;split at u
 ·rename_i id hv;obtain⟨ver,R,hm,I⟩:=u;rw[hv]at y;obtain⟨e,b,B,J,S,T,U,L,O,E⟩:=s.ou hm y;refine bl.read s (v:=i64 B.length) (rd:=[b]) (prd:=[id]) (by simp only[aop,J,L]) (by rw[<-O.len];exact .int _ _) (fun x y=>?_) I;simp only[Bk]at y;subst y;exact⟨E.next s,.inr ⟨id,by simp,E⟩⟩
 ·exact u.elim
def xZ(s:PSt w h M)(B:ak w a a')(len size:Nat)(x:AR)(E G:Option AR)(u:PS tab (.cw len size x E G) a M K):bl w h M (aop a' h (.cw len size x E G)) K:=by
 have y:=aQ B x;simp only[PS]at u;obtain⟨l,J,u⟩:=iS B u;obtain⟨r,L,u⟩:=iS B u;unfold aFm at u;split at u
 ·rename_i id g o hv;obtain⟨ver,cs,hm,⟨h1,h2,h3,O⟩,Q⟩:=u;rw[hv]at y;obtain⟨e,b,R,S,T,U,V,Y,Z,I⟩:=s.kh hm y;refine bl.read s (v:= .slice (Jb&&r.getD (len:Int)==(len:Int)) size b (o+(l.getD 0).toNat*size) (r.getD (len:Int)-l.getD 0).toNat) (rd:=[b]) (prd:=[id]) ?_ (.ref T U V) (fun x y=>?_) Q
  ·simp only[aop,S,J,L,Y];rw[if_pos (by rw[<-Z.len];exact h1)];simp[fJ,h2,h3,O]
  ·simp only[Bk]at y;subst y;exact⟨I.next s,.inr ⟨id,by simp,I⟩⟩
 ·exact u.elim
def CZ{l:List PV}{u:List AV}{t:List UInt8}(h:ak w l u)(e:kG l=Iz t):eG u=Iz t:=by
 unfold kG at e
 cases ht:fI l with
 | none=>rw[ht]at e;cases e
 | some x=>rw[ht]at e;rw[jZ h ht];exact e
def tC(s:PSt w h M)(R:ak w a a')(x:AR)(y:PS tab (.br x) a M K):bl w h M (aop a' h (.br x)) K:=by
 have u:=aQ R x;simp only[PS]at y;unfold aFr at y;split at y
 ·rename_i hv;rw[hv]at u;have S:=dI u;exact bl.pure s (by simp only[aop,S];rfl) (.str _) y
 ·rename_i T own sz n cs hv;obtain⟨rfl,t,ht,E⟩:=y;rw[hv]at u;rcases mY s u with⟨B,rfl,rfl⟩ | ⟨U,b,off,ver,rw,L,B,V,I,J,O,Q,Y,q6⟩
  ·have:t=[]:=by simpa [kG,fI,eG]using ht.symm
   subst this;exact bl.pure s (by simp only[aop,B];rfl) (.str _) E
  ·rw[Cj]at Q;refine bl.read s (v:= .str ⟨t.toArray⟩) (rd:=[b]) (prd:=[]) ?_ (.str _) (fun x u=>?_) E
   ·simp only[aop,B,bH,J];rw[if_pos (by omega)];have:=CZ Y ht;rw[Q]at this;simp only[this]
   ·simp only[Bk]at u;subst u;exact⟨s.ju I,.inl (by rw[I];simp)⟩
 ·rename_i id g sz off n hv;obtain⟨ver,cs,hm,⟨rfl,h1⟩,t,ht,E⟩:=y;rw[hv]at u;obtain⟨e,p1,p2,Z⟩:=s.gp hm u;rcases Z with⟨B,rfl,rfl,hb,rfl⟩ | ⟨T,b,L,B,hb,I,J,O⟩
  ·have:t=[]:=by simpa [kG,aZ,fI,eG]using ht.symm
   subst this;exact bl.read s (rd:=[]) (prd:=[id]) (by simp only[aop,B];rfl) (.str _) (fun x u=>by cases u) E
  ·refine bl.read s (v:= .str ⟨t.toArray⟩) (rd:=[b]) (prd:=[id]) ?_ (.str _) (fun x u=>?_) E
   ·simp only[aop,B,bH,I];rw[if_pos (by rw[<-J.len];exact h1)];have:=CZ (eV J off n) ht;simp only[this]
   ·simp only[Bk]at u;subst u;exact⟨O.next s,.inr ⟨id,by simp,O⟩⟩
 ·exact y.elim
end
section
variable {tab:FuncId->Option AF}
def BB{w:PWd}{h:H}{M:Mem}{a:List PV}{I:List AV}{K:PV->Mem->List Nat->List Nat->Prop}(h0:w.id0<=M.length)(s:PSt w h M)(B:ak w a I)(o:AO)(u:PS tab o a M K):bl w h M (gJ (lim tab) o I h) K:=by
 cases o with
 | move x=>exact bl.pure s (v:=ev I x) rfl (aQ B x) u
 | pick c x y=>exact LP s B c x y u
 | alloc cs=>exact HI s B cs u
 | box x=>exact SY s B x u
 | build z J=>exact HH s B z J u
 | buildSlice size len z J=>exact tD s B size len z J u
 | load x=>exact LQ s B x u
 | ew n x=>exact BG s B n x u
 | store n p x=>exact G7 s B n p x u
 | nilCheck x=>exact x8 s B x u
 | bin op x y=>exact SZ s B op x y u
 | eqB neg x y=>exact SX s B neg x y u
 | isNil kd neg x y=>exact HA s B kd neg x y u
 | dz neg T x y=>exact BI s B neg T x y u
 | un op x=>exact WV s B op x u
 | dt k x=>exact BJ s B k x u
 | iv fn f c=>exact EK s B fn f c u
 | makeSlice bytes z n c=>exact vU s B bytes z n c u
 | slice size x E G O=>exact G8 s B size x E G O u
 | fieldAddr off x=>exact vW s B off x u
 | field off n x=>exact HE s B off n x u
 | indexAddr size x i=>exact vV s B size x i u
 | bj len size x i=>exact tB s B len size x i u
 | index len size isAgg x i=>exact HD s B len size isAgg x i u
 | extract x i=>exact BH s B x i u
 | call f args=>exact LR h0 s B f args u
 | append size bytes Q x=>exact EP s B size bytes Q x u
 | len x=>exact SW s B x u
 | da x i=>exact x9 s B x i u
 | bq bytes z x y=>exact tE s B bytes z x y u
 | iw x=>exact EM s B x u
 | ii x=>exact EN s B x u
 | ep x E G=>exact xY s B x E G u
 | cw len size x E G=>exact xZ s B len size x E G u
 | br x=>exact tC s B x u
 | ja size d x=>exact HF s B size d x u
 | fj z x=>exact EO s B z x u
 | max x L=>exact SV s B x L u
 | min x L=>exact SU s B x L u
 | makeMap=>exact BF s B u
 | lookup kd R z x i=>exact EL s B kd R z x i u
 | mapUpdate kd m i v=>exact vT s B kd m i v u
 | ia t x=>exact bl.pure s (v:= .iface t (ev I x)) rfl (.iface (aQ B x)) u
 | cr x=>exact tA s B x u
 | jk x=>exact G9 s B x u
 | oe t z x=>exact LS s B t z x u
 | _=>simp only[PS]at u
def dx.weaken{m u:Nat}{w w':PWd}{h h':H}{M M':Mem}(p:dx u w h M w' h' M')(hm:m<=u):dx m w h M w' h' M':=
 ⟨Ah hm p.len,⟨p.le.n0,p.le.id0,p.le.imm,fun id E=>p.le.env id (by omega)⟩,p.next,p.il,p.live,fun x y=>by
  rcases p.new x y with e | e | ⟨id,G,B⟩
  ·exact .inl e
  ·exact .inr (.inl e)
  ·exact .inr (.inr ⟨id,by omega,B⟩)⟩
def vI{w:PWd}{a:List PV}{E:List AV}(G:ak w a E){t:Nat}{u:Bool}{A B:Prop}(h:kQ (bu a t) u A B):
  (dB E (Iz (t,u))=Iz Jb/\A)\/(dB E (Iz (t,u))=Iz Jc/\B):=by
 have ht:=G.fp t;rcases h with⟨b,hb,y⟩ | ⟨l,hl,y⟩
 ·rw[hb]at ht;simp only[dB,i7 ht];by_cases e:b=u
  ·rw[if_pos e]at y;exact .inl ⟨by simp[e],y⟩
  ·rw[if_neg e]at y;exact .inr ⟨by simp[e],y⟩
 ·rw[hl]at ht;obtain⟨I,e,_⟩:=o7 ht;simp only[dB,e];exact .inr ⟨trivial,y⟩
def H1(w:PWd):az w (.tuple []) (.tuple []):= .tuple rfl (fun i y z q=>by simp at q)
def mK:∀(os:List aw) {w:PWd} {h:H} {M:Mem} {a:List PV} {G:List AV} {Q:List PV->Mem->Prop},w.id0<=M.length->PSt w h M->ak w a G->PO tab os a M Q->
  ∃u h2,iJ (lim tab) os G h=Iz (u,h2)/\∃y E B,dx M.length w h M y h2 B/\PSt y h2 B/\ak y E u/\Q E B
 | [],w,h,M,a,G,Q,h0,s,I,L=>⟨G,h,rfl,w,a,M,dx.refl (Ac _) w h,s,I,L⟩
 | ⟨d,o,J,chk⟩::os,w,h,M,a,G,Q,h0,s,I,L=>by
  have step:PS tab o a M (fun v T _ _=>PO tab os (gi a d v) T Q)->dB G J=Iz Jb->∃u h2,iJ (lim tab) (⟨d,o,J,chk⟩::os) G h=Iz (u,h2)/\∃y E B,dx M.length w h M y h2 B/\PSt y h2 B/\ak y E u/\Q E B:=by intro hs hw;obtain⟨v,h1,rd,U,w1,p,M1,V,Y,K,Z,hr,_,_,hk⟩:=BB h0 s I o hs;obtain⟨u,h2,O,y,E,B,t1,t2,t3,t4⟩:=mK os (by rw[K.le.id0];exact Ah h0 K.len) Z ((I.mono K.le s.env).put d hr) hk;refine⟨u,h2,?_,y,E,B,K.trans t1 K.len,t2,t3,t4⟩;simp only[iJ,hw,U];exact O
  have R:PO tab os (gi a d (.tuple [])) M Q->dB G J=Iz Jc->∃u h2,iJ (lim tab) (⟨d,o,J,chk⟩::os) G h=Iz (u,h2)/\∃y E B,dx M.length w h M y h2 B/\PSt y h2 B/\ak y E u/\Q E B:=by intro hs hw;obtain⟨u,h2,O,rest⟩:=mK os h0 s (I.put d (H1 w)) hs;refine⟨u,h2,?_,rest⟩;simp only[iJ,hw];exact O
  cases J with
  | none=>exact step L rfl
  | some g=>
   obtain⟨t,S⟩:=g;rcases vI I L with⟨h1,h2⟩ | ⟨h1,h2⟩
   ·exact step h2 h1
   ·exact R h2 h1
structure LogOk (w:PWd) (h:H) (M:Mem) (e:mg) (p:ke):Prop where
 idx:e.idx=p.idx
 ok:∃wb wa Ma,PSt wb e.hb p.Mb/\PSt wa e.ha Ma/\dx p.Mb.length wb e.hb p.Mb wa e.ha Ma/\dx Ma.length wa e.ha Ma w h M/\du p.Mb Ma p.chg/\Ma.length=p.na/\
  ∀x∈e.rd,(x=e.hb.next/\e.hb.next<e.ha.next)\/(x<e.hb.next/\(wb.imm x≠Ja\/∃id∈p.rd,ag wb p.Mb id x))
inductive ic (w:PWd) (h:H) (M:Mem):List mg->List ke->Prop
 | nil:ic w h M [] []
 | cons {e:mg} {p:ke} {l:List mg} {ps:List ke} :LogOk w h M e p->ic w h M l ps->ic w h M (e::l) (p::ps)
def ic.mono{w w':PWd}{h u:H}{M y:Mem}(t:dx M.length w h M w' u y){l:List mg}{ps:List ke}(hl:ic w h M l ps):ic w' u y l ps:=by
 induction hl with
 | nil=>exact .nil
 | cons he _ E=>refine .cons ⟨he.idx,?_⟩ E;obtain⟨G,I,J,h1,h2,h3,B,K,L⟩:=he.ok;exact⟨G,I,J,h1,h2,h3,B.trans t B.len,K,L⟩
def CJ{w w':PWd}{h U:H}{M R:Mem}(s:PSt w h M)(s':PSt w' U R)(t:dx M.length w h M w' U R){id x:Nat}(hl:ag w M id x)(hp:QC M R id):ag w' R id x/\U.ver x=h.ver x:=by
 obtain⟨o,e,h1,h2,h3,J⟩:=hl;obtain⟨o1,S,h5,T,u⟩:=hp;rw[h1]at h5;cases h5;have hid:=s.env id e h3;obtain⟨e',K,L⟩:=t.le.env id hid e h3;have V:=s.obj id o h1;have Y:=s'.obj id S T
 cases o with
 | cells g ver cs=>
  cases S with
  | cells g2 y a0=>
   simp only[lR,Aq,beq_iff_eq]at u;obtain⟨rfl,rfl⟩:=u;obtain⟨ea,B,a2,E⟩:=V;obtain⟨eb,G,b2,I⟩:=Y;rw[h3]at B;cases B;rw[K]at G;cases G;rcases L with L | rfl
   ·omega
   ·rw[J]at E I;obtain⟨_,O,_⟩:=E;obtain⟨_,Q,_⟩:=I;exact⟨⟨_,_,T,by simp,K,J⟩,by simp[H.ver,O,Q,bz.ver]⟩
  | _=>simp[lR]at u
 | map ver es=>
  cases S with
  | map y Z=>
   simp only[lR,beq_iff_eq]at u;subst u;obtain⟨ea,ba,B,a2,E,_,O,_⟩:=V;obtain⟨eb,bb,G,b2,I,_,Q,_⟩:=Y;rw[h3]at B;cases B;rw[K]at G;cases G;rcases L with L | rfl
   ·omega
   ·rw[J]at E I;cases E;cases I;exact⟨⟨_,_,T,by simp,K,J⟩,by simp[H.ver,O,Q,bz.ver]⟩
  | _=>simp[lR]at u
 | loop ver es=>
  cases S with
  | loop y Z=>
   simp only[lR,beq_iff_eq]at u;subst u;obtain⟨ea,ba,B,a2,E,_,O,_⟩:=V;obtain⟨eb,bb,G,b2,I,_,Q,_⟩:=Y;rw[h3]at B;cases B;rw[K]at G;cases G;rcases L with L | rfl
   ·omega
   ·rw[J]at E I;cases E;cases I;exact⟨⟨_,_,T,by simp,K,J⟩,by simp[H.ver,O,Q,bz.ver]⟩
  | _=>simp[lR]at u
 | gone=>exact absurd rfl h2
def XH{Q w:PWd}{hb h:H}{G M:Mem}(V:PSt Q hb G)(s:PSt w h M)(t:dx G.length Q hb G w h M){id x:Nat}(hl:ag w M id x)(E:ku G M id=Jb):ag Q G id x:=by
 obtain⟨o,e,h1,h2,h3,h4⟩:=hl;unfold ku at E;rw[h1]at E;have L:∀O,G[id]? =Iz O->O≠ .gone->(∀B,Q.env id=Iz B->B.g=e.g)->(∃B,Q.env id=Iz B)->ag Q G id x:=by
  intro O y hg S ⟨B,u⟩;obtain⟨e',Y,Z⟩:=t.le.env id (V.env id B u) B u;rw[h3]at Y;cases Y;have:=S B u;rcases Z with Z | rfl
  ·omega
  ·exact⟨O,_,y,hg,u,h4⟩
 have r:=s.obj id o h1
 cases y:G[id]? with
 | none=>rw[y]at E;simp at E
 | some O=>
  rw[y]at E;have T:=V.obj id O y
  cases O with
  | cells g ver cs=>
   cases o with
   | cells g2 I a0=>simp only[beq_iff_eq]at E;subst E;obtain⟨R,J,a2,a3⟩:=T;obtain⟨B,K,b2,b3⟩:=r;rw[h3]at K;cases K;exact L _ y (by simp) (fun B u=>by rw[J]at u;cases u;omega) ⟨R,J⟩
   | _=>simp at E
  | map ver es=>
   cases o with
   | map I U=>obtain⟨R,ba,J,a2,_⟩:=T;obtain⟨B,bb,K,b2,_⟩:=r;rw[h3]at K;cases K;exact L _ y (by simp) (fun B u=>by rw[J]at u;cases u;omega) ⟨R,J⟩
   | _=>simp at E
  | loop ver es=>
   cases o with
   | loop I U=>obtain⟨R,ba,J,a2,_⟩:=T;obtain⟨B,bb,K,b2,_⟩:=r;rw[h3]at K;cases K;exact L _ y (by simp) (fun B u=>by rw[J]at u;cases u;omega) ⟨R,J⟩
   | _=>simp at E
  | gone=>cases o<;>simp at E
def GI{w w':PWd}{h u:H}{M y:Mem}{m:Nat}(t:dx m w h M w' u y){x:Nat}(B:x<h.next)(E:∀id,¬ag w M id x):u.ver x=h.ver x:=by unfold H.ver;rw[t.il x B E]
def ZR{w w':PWd}{h u:H}{M y:Mem}(t:dx M.length w h M w' u y){x:Nat}(G:x<h.next)(B:w'.imm x≠Ja):w.imm x≠Ja:=by
 rcases t.new x B with e | e | ⟨id,I,E⟩
 ·exact e
 ·omega
 ·have:=E.lt;omega
def uD{w w':PWd}{h U:H}{M V:Mem}(s:PSt w h M)(s':PSt w' U V)(t:dx M.length w h M w' U V){eff:Bool}{rd0 prd chg chk:List Nat}(hr:aDo w h M rd0 prd)(hc:du M V chg):
  ∀{O:List mg} {E:List ke},ic w h M O E->jd eff prd chg M E chk=Jb->AA eff (rdx h U rd0) h U O chk=Jb:=by
 intro O E hl B;unfold jd at B;unfold AA
 induction hl with
 | nil=>rfl
 | @cons e p l ps he _ ih=>
  simp only[List.all_cons,Aq]at B ⊢;refine⟨?_,ih B.2⟩;have B:=B.1;rw[he.idx];split
  ·rename_i R;rw[if_pos R]at B;obtain⟨wb,wa,Ma,Q,sa,G,S,Y,a4,L⟩:=he.ok;have J:=G.trans S G.len
   cases eff with
   | true=>
    simp only[if_true]at B ⊢;rw[Ch]at B ⊢;intro x K;unfold fX;split
    ·rename_i I;simp only[beq_iff_eq];by_cases u:∃id,ag w M id x
     ·obtain⟨id,u⟩:=u;by_cases hid:id∈chg
      ·have:=B id hid;simp only[Aq,Bool.or_eq_true,decide_eq_true_eq,Bool.not_eq_true',List.contains_eq_mem,decide_eq_false_iff_not]at this;rcases this.2 with Z | a3
       ·have lb:=XH Q s J u Z;rcases L x K with⟨rfl,_⟩ | ⟨_,q | ⟨a0,q1,q2⟩⟩
        ·have:=lb.next Q;omega
        ·exact absurd (Q.sep id x lb).1 q
        ·have:=Q.inj id a0 x lb q2;subst this;exact absurd q1 (by simpa using this.1)
       ·exfalso;have a1:x<e.ha.next:=by
         rcases L x K with⟨rfl,q⟩ | ⟨q,_⟩
         ·exact q
         ·exact Bg q G.next
        have:=(S.live id x u a1).lt;omega
      ·exact(CJ s s' t u (hc id u.lt hid)).2.symm
     ·exact(GI t I fun id hl=>u ⟨id,hl⟩).symm
    ·rfl
   | false=>
    simp only[Bs,if_false]at B ⊢;rw[Ch]at B ⊢;intro x K;unfold fX;split
    ·rename_i I;simp only[beq_iff_eq];by_cases y:∃id,ag wb p.Mb id x
     ·obtain⟨id,y⟩:=y;by_cases hid:id∈p.chg
      ·have a2:x∈rd0:=by
        unfold rdx at K;split at K
        ·rcases List.mem_cons.1 K with rfl | K
         ·have:=J.next;omega
         ·exact K
        ·exact K
       obtain⟨a5,q⟩:=hr x a2;rcases q with q | ⟨T,q1,q2⟩
       ·exact absurd (Q.sep id x y).1 (ZR J I q)
       ·have:=J.live T x q2 I;have:=Q.inj id T x y this;subst this;have:=B id hid;simp at this;exact absurd q1 this
      ·exact(CJ Q sa G y (Y id y.lt hid)).2.symm
     ·exact(GI G I fun id hl=>y ⟨id,hl⟩).symm
    ·rfl
  ·rfl
def sQ:∀(os:List aw) (i:Nat) {w:PWd} {h:H} {M:Mem} {a:List PV} {J:List AV} {B:List mg} {u:List ke} {Q:List PV->Mem->Prop},w.id0<=M.length->PSt w h M->ak w a J->ic w h M B u->PD tab os i a M u Q->
  ∃y h2,fL (lim tab) os i J h B=Iz (y,h2)/\∃E I G,dx M.length w h M E h2 G/\PSt E h2 G/\ak E I y/\Q I G
 | [],i,w,h,M,a,J,B,u,Q,h0,s,T,hl,Y=>⟨J,h,rfl,w,a,M,dx.refl (Ac _) w h,s,T,Y⟩
 | ⟨d,o,U,chk⟩::os,i,w,h,M,a,J,B,u,Q,h0,s,T,hl,Y=>by
  have step:PS tab o a M (fun v M' rd K=>jd o.effect rd K M u chk=Jb/\PD tab os (i+1) (gi a d v) M' (⟨i,rd,K,M,M'.length⟩::u) Q)->dB J U=Iz Jb->∃y h2,fL (lim tab) (⟨d,o,U,chk⟩::os) i J h B=Iz (y,h2)/\∃E I G,dx M.length w h M E h2 G/\PSt E h2 G/\ak E I y/\Q I G:=by
   intro hs hw;obtain⟨v,h1,rd,e1,Z,p,M1,a0,K,L,s2,hr,R,O,a1,hk⟩:=BB h0 s T o hs;have hc:=uD s s2 L R O hl a1;have V:ic Z h1 M1 (⟨i,rdx h h1 rd,h,h1⟩::B) (⟨i,a0,K,M,M1.length⟩::u):=by
    refine .cons ⟨rfl,w,Z,M1,s,s2,L,dx.refl (Ac _) Z h1,O,rfl,fun x S=>?_⟩ (hl.mono L);simp only at S ⊢;unfold rdx at S;split at S
    ·rename_i hlt;rcases List.mem_cons.1 S with rfl | S
     ·exact .inl ⟨rfl,hlt⟩
     ·exact .inr (R x S)
    ·exact .inr (R x S)
   obtain⟨y,h2,e2,E,I,G,t1,t2,t3,t4⟩:=sQ os (i+1) (by rw[L.le.id0];exact Ah h0 L.len) s2 ((T.mono L.le s.env).put d hr) V hk;refine⟨y,h2,?_,E,I,G,L.trans t1 L.len,t2,t3,t4⟩;simp only[fL,hw,e1];rw[if_pos hc];exact e2
  have a3:PD tab os (i+1) (gi a d (.tuple [])) M u Q->dB J U=Iz Jc->∃y h2,fL (lim tab) (⟨d,o,U,chk⟩::os) i J h B=Iz (y,h2)/\∃E I G,dx M.length w h M E h2 G/\PSt E h2 G/\ak E I y/\Q I G:=by intro hs hw;obtain⟨y,h2,e2,rest⟩:=sQ os (i+1) h0 s (T.put d (H1 w)) hl hs;refine⟨y,h2,?_,rest⟩;simp only[fL,hw];exact e2
  cases U with
  | none=>exact step Y rfl
  | some g=>
   obtain⟨t,a4⟩:=g;rcases vI T Y with⟨h1,h2⟩ | ⟨h1,h2⟩
   ·exact step h2 h1
   ·exact a3 h2 h1
def iF{L:Rec}{c:AC}{a:List AV}{h:H}{G I u y:List AV->H->Prop}{J B:Nat->List AV->H->Prop}(hw:W L c a h G I J)(h1:∀a h,G a h->u a h)(h2:∀a h,I a h->y a h)(h3:∀i a h,J i a h->B i a h):W L c a h u y B:=by
 unfold W at hw ⊢;obtain⟨e,K,M,he,E⟩:=hw;refine⟨e,K,M,he,?_⟩
 cases e with
 | normal=>exact h1 _ _ E
 | ret=>exact h2 _ _ E
 | exit i=>exact h3 _ _ _ E
def Lf.trans{m:Nat}{w u:PWd}{h h1:H}{M y:Mem}(t:dx m w h M u h1 y){Q:List PV->Mem->Prop}{B:List AV}{E:H}(hl:Lf m u h1 y Q B E):Lf m w h M Q B E:=by obtain⟨G,a,I,J,K,L,q⟩:=hl;exact⟨G,a,I,t.trans J (Ac _),K,L,q⟩
def KY(m:Nat):∀(c:AC) {a:List PV} {M:Mem} {E G:List PV->Mem->Prop} {I:Nat->List PV->Mem->Prop},PX tab m c a M E G I->b9 tab m c a M E G I:=by
 intro c
 induction c with
 | skip=>intro a M E G I u w h K h0 hm s B;rw[aFj];exact⟨w,a,M,dx.refl hm w h,s,B,u⟩
 | region os=>intro a M E G I u w h K h0 hm s B;rw[AY];obtain⟨L,h2,V,Y,Z,M2,J,t2,t3,t4⟩:=mK os (Ah h0 hm) s B u;unfold WO;exact⟨L,h2,V,Y,Z,M2,J.weaken hm,t2,t3,t4⟩
 | fe os=>intro a M E G I u w h K h0 hm s B;rw[D3];obtain⟨L,h2,V,Y,Z,M2,J,t2,t3,t4⟩:=sQ os 0 (Ah h0 hm) s B .nil u;unfold WD;exact⟨L,h2,V,Y,Z,M2,J.weaken hm,t2,t3,t4⟩
 | seq x y O Q=>intro a M E G I u w h K h0 hm s B;rw[aDX];refine iF (O u w h K h0 hm s B) (fun a1 h1 hl=>?_) (fun _ _ h=>h) fun _ _ _ h=>h;obtain⟨R,b,M1,J,S,T,q⟩:=hl;rw[R9];exact iF (Q q R h1 a1 (by rw[J.le.id0];exact h0) J.len S T) (fun _ _ h=>h.trans J) (fun _ _ h=>h.trans J) fun _ _ _ h=>h.trans J
 | cond c x y O Q=>
  intro a M E G I u w h K h0 hm s B;rw[F2];obtain⟨b,hb,U⟩:=u;have hc:=aQ B c;rw[hb]at hc;refine⟨b,i7 hc,?_⟩
  cases b with
  | true=>rw[if_pos rfl]at U ⊢;exact O U w h K h0 hm s B
  | false=>rw[if_neg (by simp)]at U ⊢;exact Q U w h K h0 hm s B
 | block id x ih=>
  intro a M E G I u w h K h0 hm s B;rw[RQ];refine iF (ih u w h K h0 hm s B) (fun _ _ h=>h) (fun _ _ h=>h) fun i a1 h1 hl=>?_;rw[mM];obtain⟨R,b,M1,J,S,T,q⟩:=hl;by_cases e:i=id
  ·rw[if_pos e]at q ⊢;exact⟨R,b,M1,J,S,T,q⟩
  ·rw[if_neg e]at q ⊢;exact⟨R,b,M1,J,S,T,q⟩
 | loop sc x ih=>intro a M E G I u;exact u
 | rangeFunc f ps a0 body a3 a4=>intro a M E G I u;exact u
 | exit id=>intro a M E G I u w h K h0 hm s B;rw[aFk];exact⟨w,a,M,dx.refl hm w h,s,B,u⟩
 | ret=>intro a M E G I u w h K h0 hm s B;rw[aGi];exact⟨w,a,M,dx.refl hm w h,s,B,u⟩
def OE{m:Nat}{y:List Nat}{x:AC}{a:List PV}{M:Mem}{G B:List PV->Mem->Prop}{E:Nat->List PV->Mem->Prop}(I:PX tab m x (qA a y) M (fun a M=>b9 tab m (.loop y x) a M G B E) B E):
  b9 tab m (.loop y x) a M G B E:=by
 intro w h R h0 hm s J;rw[aA4 _ _ _ _ _ _ _ _ (rT tab)];refine iF (KY m x I w h _ h0 hm s (ak.ie y J)) (fun K h1 hl=>?_) (fun _ _ h=>h) fun _ _ _ h=>h;obtain⟨L,b,S,u,O,Q,q⟩:=hl;rw[aDY];exact iF (q L h1 K (by rw[u.le.id0];exact h0) u.len O Q) (fun _ _ h=>h.trans u) (fun _ _ h=>h.trans u) fun _ _ _ h=>h.trans u
def g7(B:List ll)(a:List PV)(M:Mem)(K:List PV->Prop):Prop:=match B with
 | []=>K []
 | .tmp t::u=>g7 u a M fun y=>K (bu a t::y)
 | .cell t::u=>KU (bu a t) M fun v _=>g7 u a M fun y=>K (v::y)
 | .cells t n::u=>A9 n (bu a t) M fun v _=>g7 u a M fun y=>K (v::y)
def ec:List PV->PV
 | [v]=>v
 | u=> .tuple u
def jq(args:List PV)(n:Nat):List PV:=args++List.replicate (n-args.length) .ae
def aBQ{w:PWd}{l:List PV}{u:List AV}(h:ak w l u)(n:Nat):ak w (jq l n) (yT u n):=by unfold jq yT;rw[h.len];exact h.append ⟨by simp,fun i y z h1 h2=>by rw[List.getElem?_replicate]at h1;split at h1<;>cases h1;exact .ae _⟩
def W4{w:PWd}{l:List PV}{B:List AV}(h:ak w l B):az w (ec l) (jR B):=by
 match l,B,h with
 | [],[],h=>exact .tuple rfl h.get
 | [v],[x],h=>exact h.hd
 | v::u::l,x::y::B,h=>exact .tuple h.len h.get
 | [],_::_,h=>have:=h.len;simp at this
 | [v],[],h=>have:=h.len;simp at this
 | [v],_::_::_,h=>have:=h.len;simp at this
 | _::_::_,[],h=>have:=h.len;simp at this
 | _::_::_,[_],h=>have:=h.len;simp at this
def j4{w:PWd}{h:H}{M:Mem}{a:List PV}{a':List AV}(s:PSt w h M)(O:ak w a a'):∀(V:List ll) {K:List PV->Prop},g7 V a M K->∃Q u,eD a' h V=Iz u/\ak w Q u/\K Q
 | [],K,B=>⟨[],[],rfl,.nil w,B⟩
 | .tmp t::R,K,B=>by obtain⟨Q,u,G,I,J⟩:=j4 s O R B;exact⟨_,fp a' t::u,by simp only[eD,BT,G],.cons (O.fp t) I,J⟩
 | .cell t::R,K,B=>by
  have L:=O.fp t;simp only[g7]at B;unfold KU at B;split at B
  ·rename_i id g o hv;obtain⟨ver,cs,hm,y,hy,S⟩:=B;rw[hv]at L;obtain⟨e,b,E,T,q2,Y,q4,U,Z,q7⟩:=s.kh hm L;obtain⟨z,hz,hr⟩:=Z.iz hy;obtain⟨Q,u,G,I,J⟩:=j4 s O R S;exact⟨_,z::u,by simp only[eD,BT,T,iX,U,hz,G],.cons hr I,J⟩
  ·rename_i cs o hv;obtain⟨y,hy,S⟩:=B;rw[hv]at L;obtain⟨b,off,ver,rw,E,T,q2,Y,q4,U⟩:=yG s L;obtain⟨z,hz,hr⟩:=IL U hy;obtain⟨Q,u,G,I,J⟩:=j4 s O R S;exact⟨_,z::u,by simp only[eD,BT,T,iX,Y,hz,G],.cons hr I,J⟩
  ·exact B.elim
 | .cells t n::R,K,B=>by
  have L:=O.fp t;simp only[g7]at B;unfold A9 at B;split at B
  ·rename_i id g o hv;obtain⟨ver,cs,hm,hn,S⟩:=B;rw[hv]at L;obtain⟨e,b,E,T,q2,Y,q4,U,Z,q7⟩:=s.kh hm L;have hs:=eV Z o n;obtain⟨Q,u,G,I,J⟩:=j4 s O R S;exact⟨_,.agg ((E.drop o).take n)::u,by simp only[eD,BT,T,bH,U,G];rw[if_pos (by rw[<-Z.len];exact hn)];rfl,.cons (.agg hs.len hs.get) I,J⟩
  ·rename_i cs o hv;obtain⟨hn,S⟩:=B;rw[hv]at L;obtain⟨b,off,ver,rw,E,T,q2,Y,q4,U⟩:=yG s L;have hs:=yQ U hn;obtain⟨Q,u,G,I,J⟩:=j4 s O R S;exact⟨_,.agg ((E.drop (off+o)).take n)::u,by simp only[eD,BT,T,bH,Y,G];rw[if_pos (by omega)];rfl,.cons (.agg hs.len hs.get) I,J⟩
  ·exact B.elim
def cA{g:FuncId}{F:AFn}(hg:tab g=Iz (.fn F)){args:List PV}{M:Mem}{K:PV->Mem->Prop}
  (L:b9 tab M.length F.body (jq args F.ntmps) M (fun a u=>g7 F.results a u fun y=>K (ec y) u) (fun a u=>g7 F.results a u fun y=>K (ec y) u) fun _ _ _=>False):ai tab g args M K:=by
 intro w h E h0 s O;rw[aGr hg];have fin:∀B h1,Lf M.length w h M (fun a u=>g7 F.results a u fun y=>K (ec y) u) B h1->V2 F.results (fun v I=>∃w' r u,dx M.length w h M w' I u/\PSt w' I u/\az w' r v/\K r u) B h1:=by intro B h1 ⟨Q,b,R,S,J,T,q⟩;obtain⟨y,G,U,V,Y⟩:=j4 J T F.results q;rw[aDG];exact⟨G,U,Q,_,R,S,J,W4 V,Y⟩
 exact iF (L w h _ h0 (Ac _) s (aBQ O _)) fin fin fun i B h1 ⟨_,_,_,_,_,_,q⟩=>q
end
end Go.Am

