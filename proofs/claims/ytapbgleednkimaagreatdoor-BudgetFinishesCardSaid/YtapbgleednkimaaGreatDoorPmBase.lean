/- The pure machine: slices that nobody writes to are lists; the rest lies in a small store of numbered objects. What its values stand for on the abstract machine. -/
import Derived.Test.YtapbgleednkimaaGreatDoorAmW2
set_option linter.unusedVariables false
set_option linter.unusedSimpArgs false
namespace Go.Am
inductive PV where
 | junk
 | bool (b:Bool)
 | int (k:IntKind) (n:Int)
 | str (s:ByteArray)
 | nilptr | nils | nilmap | nilfunc | niliface
 | ptr (id g o:Nat)
 | cp (cs:List PV) (o:Nat)
 | sl (fl own:Bool) (sz n:Nat) (cs:List PV)
 | ref (id g sz off n:Nat)
 | map (id:Nat)
 | func (fn:Fn) (first cap:List PV)
 | yld (id:Nat) (first:List PV)
 | iface (t:TypeId) (v:PV)
 | agg (cs:List PV)
 | tuple (vs:List PV)
 deriving Inhabited
abbrev p64(n:Int):PV:= .int .i64 n
abbrev p8(n:Int):PV:= .int .u8 n
structure PLoop where
 state:LoopState
 pending:Option Ex
 tmps:List PV
 params:List Nat
 assign:AC
 body:AC
inductive PObj where
 | cells (g ver:Nat) (cs:List PV)
 | map (ver:Nat) (es:List (PV×PV))
 | loop (ver:Nat) (r:PLoop)
 | gone
abbrev Mem:=List PObj
structure Ent where
 blk:Option Nat
 v0:Nat
 g:Nat
structure PWd where
 n0:Nat
 id0:Nat
 env:Nat->Option Ent
 imm:Nat->Option AObj
inductive RepV (w:PWd):PV->AV->Prop
 | junk (x:AV):RepV w .junk x
 | bool (b:Bool):RepV w (.bool b) (.bool b)
 | int (k:IntKind) (n:Int):RepV w (.int k n) (.int k n)
 | str (s:ByteArray):RepV w (.str s) (.str s)
 | nilptr:RepV w .nilptr .nilptr
 | nils:RepV w .nils .nilslice
 | nilmap:RepV w .nilmap .nilmap
 | nilfunc:RepV w .nilfunc .nilfunc
 | niliface:RepV w .niliface .niliface
 | ptr {id g o:Nat} {e:Ent} {b:Nat} :w.env id=some e->e.g=g->e.blk=some b->RepV w (.ptr id g o) (.ptr b o)
 | ptrS {id g o:Nat} {e:Ent} (x:AV):x.one=true->w.env id=some e->g<e.g->RepV w (.ptr id g o) x
 | cp {cs:List PV} {o b ver:Nat} {rw:Bool} {bcs:List AV} {off:Nat} :w.imm b=some (.cells ver rw bcs)->off+cs.length<=bcs.length->
   (∀(i:Nat) (y:PV) (z:AV),cs[i]? =some y->bcs[off+i]? =some z->RepV w y z)->RepV w (.cp cs o) (.ptr b (off+o))
 | sl {fl own:Bool} {sz n:Nat} {cs:List PV} {fl':Bool} {b ver:Nat} {rw:Bool} {bcs:List AV} {off:Nat} :w.imm b=some (.cells ver rw bcs)->off+cs.length<=bcs.length->cs.length=n*sz->
   (fl=true->own=true->fl'=true)->(own=true->w.n0<=b/\rw=true)->(own=false->fl=false->b<w.n0)->
   (∀(i:Nat) (y:PV) (z:AV),cs[i]? =some y->bcs[off+i]? =some z->RepV w y z)->RepV w (.sl fl own sz n cs) (.slice fl' sz b off n)
 | slN {fl own:Bool} {sz:Nat} :RepV w (.sl fl own sz 0 []) .nilslice
 | ref {id g sz off n:Nat} {e:Ent} {b:Nat} {fl:Bool} :w.env id=some e->e.g=g->e.blk=some b->RepV w (.ref id g sz off n) (.slice fl sz b off n)
 | refN {id g sz:Nat} {e:Ent} :w.env id=some e->e.g=g->e.blk=none->RepV w (.ref id g sz 0 0) .nilslice
 | refS {id g sz off n:Nat} {e:Ent} (x:AV):x.one=true->w.env id=some e->g<e.g->RepV w (.ref id g sz off n) x
 | map {id:Nat} {e:Ent} {b:Nat} :w.env id=some e->e.g=0->e.blk=some b->RepV w (.map id) (.map b)
 | mapS {id:Nat} {e:Ent} (x:AV):x.one=true->w.env id=some e->0<e.g->RepV w (.map id) x
 | func {fn:Fn} {f c:List PV} {f' c':List AV} :(∀l,fn≠ .yield l)->f.length=f'.length->c.length=c'.length->
   (∀(i:Nat) (y:PV) (z:AV),f[i]? =some y->f'[i]? =some z->RepV w y z)->(∀(i:Nat) (y:PV) (z:AV),c[i]? =some y->c'[i]? =some z->RepV w y z)->RepV w (.func fn f c) (.func fn f' c')
 | yld {id:Nat} {e:Ent} {b:Nat} {f:List PV} {f':List AV} :w.env id=some e->e.g=0->e.blk=some b->f.length=f'.length->
   (∀(i:Nat) (y:PV) (z:AV),f[i]? =some y->f'[i]? =some z->RepV w y z)->RepV w (.yld id f) (.func (.yield b) f' [])
 | yldS {id:Nat} {e:Ent} {f:List PV} (x:AV):x.one=true->w.env id=some e->0<e.g->RepV w (.yld id f) x
 | iface {t:TypeId} {v:PV} {x:AV} :RepV w v x->RepV w (.iface t v) (.iface t x)
 | agg {cs:List PV} {cs':List AV} :cs.length=cs'.length->(∀(i:Nat) (y:PV) (z:AV),cs[i]? =some y->cs'[i]? =some z->RepV w y z)->RepV w (.agg cs) (.agg cs')
 | tuple {cs:List PV} {cs':List AV} :cs.length=cs'.length->(∀(i:Nat) (y:PV) (z:AV),cs[i]? =some y->cs'[i]? =some z->RepV w y z)->RepV w (.tuple cs) (.tuple cs')
structure RepL (w:PWd) (l:List PV) (l':List AV):Prop where
 len:l.length=l'.length
 get:∀(i:Nat) y z,l[i]? =some y->l'[i]? =some z->RepV w y z
theorem RepL.nil(w:PWd):RepL w [] []:=⟨rfl,fun i y z h=>by simp at h⟩
theorem RepL.cons{w:PWd}{v:PV}{x:AV}{l:List PV}{l':List AV}(h:RepV w v x)(hl:RepL w l l'):RepL w (v::l) (x::l'):=
 ⟨by simp[hl.len],fun i y z h1 h2=>by
  cases i with
  | zero=>simp at h1 h2;subst h1;subst h2;exact h
  | succ i=>exact hl.get i y z (by simpa using h1) (by simpa using h2)⟩
theorem RepL.append{w:PWd}{l m:List PV}{l' m':List AV}(h1:RepL w l l')(h2:RepL w m m'):RepL w (l++m) (l'++m'):=
 ⟨by simp[h1.len,h2.len],fun i y z hy hz=>by
  rcases Nat.lt_or_ge i l.length with hi | hi
  ·rw[List.getElem?_append_left hi]at hy;rw[List.getElem?_append_left (by rw[<-h1.len];exact hi)]at hz;exact h1.get i y z hy hz
  ·rw[List.getElem?_append_right hi]at hy;rw[List.getElem?_append_right (by rw[<-h1.len];exact hi),<-h1.len]at hz;exact h2.get _ y z hy hz⟩
theorem RepL.drop{w:PWd}{l:List PV}{l':List AV}(h:RepL w l l')(k:Nat):RepL w (l.drop k) (l'.drop k):=
 ⟨by simp[h.len],fun i y z hy hz=>h.get (k+i) y z (by rw[List.getElem?_drop]at hy;exact hy) (by rw[List.getElem?_drop]at hz;exact hz)⟩
theorem RepL.take{w:PWd}{l:List PV}{l':List AV}(h:RepL w l l')(k:Nat):RepL w (l.take k) (l'.take k):=
 ⟨by simp[h.len],fun i y z hy hz=>by
  rw[List.getElem?_take]at hy hz;by_cases hi:i<k
  ·rw[if_pos hi]at hy hz;exact h.get i y z hy hz
  ·rw[if_neg hi]at hy;cases hy⟩
theorem RepL.getSome{w:PWd}{l:List PV}{l':List AV}(h:RepL w l l'){i:Nat}{y:PV}(hy:l[i]? =some y):∃z,l'[i]? =some z/\RepV w y z:=by
 have hi:i<l.length:=by
  rcases Nat.lt_or_ge i l.length with hi | hi
  ·exact hi
  ·rw[List.getElem?_eq_none hi]at hy;cases hy
 have hi':i<l'.length:=by rw[<-h.len];exact hi
 exact⟨l'[i],List.getElem?_eq_getElem hi',h.get i y _ hy (List.getElem?_eq_getElem hi')⟩
theorem RepL.map{w:PWd}{l:List PV}{l':List AV}(f:PV->PV)(f':AV->AV)(h:RepL w l l')(hf:∀v x,RepV w v x->RepV w (f v) (f' x)):RepL w (l.map f) (l'.map f'):=
 ⟨by simp[h.len],fun i y z hy hz=>by
  rw[List.getElem?_map]at hy hz
  cases h1:l[i]? with
  | none=>rw[h1]at hy;cases hy
  | some a=>
   cases h2:l'[i]? with
   | none=>rw[h2]at hz;cases hz
   | some b=>rw[h1]at hy;rw[h2]at hz;cases hy;cases hz;exact hf a b (h.get i a b h1 h2)⟩
theorem RepL.set{w:PWd}{l:List PV}{l':List AV}(h:RepL w l l')(k:Nat){v:PV}{x:AV}(hv:RepV w v x):RepL w (l.set k v) (l'.set k x):=
 ⟨by simp[h.len],fun i y z hy hz=>by
  rw[List.getElem?_set]at hy hz;rw[<-h.len]at hz;by_cases e:k=i
  ·subst e;rw[if_pos rfl]at hy hz;split at hy
   ·rename_i hk;rw[if_pos hk]at hz;cases hy;cases hz;exact hv
   ·cases hy
  ·rw[if_neg e]at hy hz;exact h.get i y z hy hz⟩
structure Le (m:Nat) (w w':PWd):Prop where
 n0:w'.n0=w.n0
 id0:w'.id0=w.id0
 imm:∀b o,w.imm b=some o->w'.imm b=some o
 env:∀id,id<m->∀e,w.env id=some e->∃e',w'.env id=some e'/\(e.g<e'.g\/e'=e)
theorem Le.refl(m:Nat)(w:PWd):Le m w w:=⟨rfl,rfl,fun _ _ h=>h,fun _ _ e h=>⟨e,h,.inr rfl⟩⟩
theorem Le.trans{m m':Nat}{a b c:PWd}(h:Le m a b)(k:Le m' b c)(hm:m<=m'):Le m a c:=
 ⟨k.n0.trans h.n0,k.id0.trans h.id0,fun x o hx=>k.imm x o (h.imm x o hx),fun id hi e he=>by
  obtain⟨e1,h1,h2⟩:=h.env id hi e he;obtain⟨e2,h3,h4⟩:=k.env id (by omega) e1 h1;refine⟨e2,h3,?_⟩;rcases h2 with h2 | rfl
  ·rcases h4 with h4 | rfl
   ·exact .inl (by omega)
   ·exact .inl h2
  ·exact h4⟩
theorem RepV.mono{w w':PWd}{m:Nat}(hl:Le m w w')(hd:∀id e,w.env id=some e->id<m){v:PV}{x:AV}(h:RepV w v x):RepV w' v x:=by
 have key:∀id e,w.env id=some e->∃e',w'.env id=some e'/\(e.g<e'.g\/e'=e):=fun id e he=>hl.env id (hd id e he) e he
 induction h with
 | junk x=>exact .junk x
 | bool b=>exact .bool b
 | int k n=>exact .int k n
 | str s=>exact .str s
 | nilptr=>exact .nilptr
 | nils=>exact .nils
 | nilmap=>exact .nilmap
 | nilfunc=>exact .nilfunc
 | niliface=>exact .niliface
 | ptr h1 h2 h3=>
  obtain⟨e',q1,q2⟩:=key _ _ h1;rcases q2 with q2 | rfl
  ·exact .ptrS _ rfl q1 (by omega)
  ·exact .ptr q1 h2 h3
 | ptrS x h0 h1 h2=>obtain⟨e',q1,q2⟩:=key _ _ h1;refine .ptrS _ h0 q1 ?_;rcases q2 with q2 | rfl<;>omega
 | cp h1 h2 h3 ih=>exact .cp (hl.imm _ _ h1) h2 (fun i y z a b=>ih i y z a b)
 | sl h1 h2 h3 h4 h5 h7 h6 ih=>exact .sl (hl.imm _ _ h1) h2 h3 h4 (by rw[hl.n0];exact h5) (by rw[hl.n0];exact h7) (fun i y z a b=>ih i y z a b)
 | slN=>exact .slN
 | ref h1 h2 h3=>
  obtain⟨e',q1,q2⟩:=key _ _ h1;rcases q2 with q2 | rfl
  ·exact .refS _ rfl q1 (by omega)
  ·exact .ref q1 h2 h3
 | refN h1 h2 h3=>
  obtain⟨e',q1,q2⟩:=key _ _ h1;rcases q2 with q2 | rfl
  ·exact .refS _ rfl q1 (by omega)
  ·exact .refN q1 h2 h3
 | refS x h0 h1 h2=>obtain⟨e',q1,q2⟩:=key _ _ h1;refine .refS _ h0 q1 ?_;rcases q2 with q2 | rfl<;>omega
 | map h1 h2 h3=>
  obtain⟨e',q1,q2⟩:=key _ _ h1;rcases q2 with q2 | rfl
  ·exact .mapS _ rfl q1 (by omega)
  ·exact .map q1 h2 h3
 | mapS x h0 h1 h2=>obtain⟨e',q1,q2⟩:=key _ _ h1;refine .mapS _ h0 q1 ?_;rcases q2 with q2 | rfl<;>omega
 | func h1 h2 h3 h4 h5 ih1 ih2=>exact .func h1 h2 h3 (fun i y z a b=>ih1 i y z a b) (fun i y z a b=>ih2 i y z a b)
 | yld h1 h2 h3 h4 h5 ih=>
  obtain⟨e',q1,q2⟩:=key _ _ h1;rcases q2 with q2 | rfl
  ·exact .yldS _ rfl q1 (by omega)
  ·exact .yld q1 h2 h3 h4 (fun i y z a b=>ih i y z a b)
 | yldS x h0 h1 h2=>obtain⟨e',q1,q2⟩:=key _ _ h1;refine .yldS _ h0 q1 ?_;rcases q2 with q2 | rfl<;>omega
 | iface h ih=>exact .iface ih
 | agg h1 h2 ih=>exact .agg h1 (fun i y z a b=>ih i y z a b)
 | tuple h1 h2 ih=>exact .tuple h1 (fun i y z a b=>ih i y z a b)
theorem RepL.mono{w w':PWd}{m:Nat}(hl:Le m w w')(hd:∀id e,w.env id=some e->id<m){l:List PV}{l':List AV}(h:RepL w l l'):RepL w' l l':=
 ⟨h.len,fun i y z a b=>(h.get i y z a b).mono hl hd⟩
def LiveAt(w:PWd)(M:Mem)(id x:Nat):Prop:=∃o e,M[id]? =some o/\o≠ .gone/\w.env id=some e/\e.blk=some x
structure RepE (w:PWd) (l:List (PV×PV)) (l':List (AV×AV)):Prop where
 len:l.length=l'.length
 get:∀(i:Nat) y z,l[i]? =some y->l'[i]? =some z->RepV w y.1 z.1/\RepV w y.2 z.2
structure RepLp (w:PWd) (r:PLoop) (r':ALoop):Prop where
 state:r'.state=r.state
 pending:r'.pending=r.pending
 params:r'.params=r.params
 assign:r'.assign=r.assign
 body:r'.body=r.body
 tmps:RepL w r.tmps r'.tmps
def RepO(w:PWd)(h:H)(id:Nat):PObj->Prop
 | .cells g ver cs=>∃e,w.env id=some e/\e.g=g/\match e.blk with
  | none=>cs=[]
  | some b=>∃bcs,h.get b=some (.cells (e.v0+ver) true bcs)/\RepL w cs bcs
 | .map ver es=>∃e b,w.env id=some e/\e.g=0/\e.blk=some b/\∃es',h.get b=some (.map (e.v0+ver) es')/\RepE w es es'
 | .loop ver r=>∃e b,w.env id=some e/\e.g=0/\e.blk=some b/\∃r',h.get b=some (.loop (e.v0+ver) r')/\RepLp w r r'
 | .gone=>True
structure PSt (w:PWd) (h:H) (M:Mem):Prop where
 imm:∀b o,w.imm b=some o->h.get b=some o
 env:∀id e,w.env id=some e->id<M.length
 blk:∀id e b,w.env id=some e->e.blk=some b->b<h.next
 obj:∀id o,M[id]? =some o->RepO w h id o
 inj:∀i j x,LiveAt w M i x->LiveAt w M j x->i=j
 sep:∀i x,LiveAt w M i x->w.imm x=none/\(w.id0<=i->w.n0<=x)
 base:w.n0<=h.next
structure PStp (m:Nat) (w:PWd) (h:H) (M:Mem) (w':PWd) (h':H) (M':Mem):Prop where
 len:m<=M'.length
 le:Le m w w'
 next:h.next<=h'.next
 keep:∀x,x<h.next->(∀id,¬LiveAt w M id x)->h'.get x=h.get x
 live:∀id x,LiveAt w' M' id x->x<h.next->LiveAt w M id x
 new:∀x,w'.imm x≠none->w.imm x≠none\/h.next<=x\/∃id,m<=id/\LiveAt w M id x
theorem PStp.refl{m:Nat}{M:Mem}(hm:m<=M.length)(w:PWd)(h:H):PStp m w h M w h M:=
 ⟨hm,Le.refl m w,Nat.le_refl _,fun _ _ _=>rfl,fun _ _ h _=>h,fun _ h=> .inl h⟩
theorem PStp.trans{m m':Nat}{w1 w2 w3:PWd}{h1 h2 h3:H}{M1 M2 M3:Mem}(p:PStp m w1 h1 M1 w2 h2 M2)(q:PStp m' w2 h2 M2 w3 h3 M3)(hm:m<=m'):PStp m w1 h1 M1 w3 h3 M3 where
 len:=Nat.le_trans hm q.len
 le:=p.le.trans q.le hm
 next:=Nat.le_trans p.next q.next
 keep:=fun x hx hn=>by rw[q.keep x (Nat.lt_of_lt_of_le hx p.next) (fun id hl=>hn id (p.live id x hl hx)),p.keep x hx hn]
 live:=fun id x hl hx=>p.live id x (q.live id x hl (Nat.lt_of_lt_of_le hx p.next)) hx
 new:=fun x hx=>by
  rcases q.new x hx with e | e | ⟨id,e1,e2⟩
  ·rcases p.new x e with e | e | e
   ·exact .inl e
   ·exact .inr (.inl e)
   ·exact .inr (.inr e)
  ·exact .inr (.inl (Nat.le_trans p.next e))
  ·rcases Nat.lt_or_ge x h1.next with hx1 | hx1
   ·exact .inr (.inr ⟨id,by omega,p.live id x e2 hx1⟩)
   ·exact .inr (.inl hx1)
theorem LiveAt.lt{w:PWd}{M:Mem}{id x:Nat}(h:LiveAt w M id x):id<M.length:=by
 obtain⟨o,e,h1,_⟩:=h;rcases Nat.lt_or_ge id M.length with hi | hi
 ·exact hi
 ·rw[List.getElem?_eq_none hi]at h1;cases h1
theorem LiveAt.next{w:PWd}{h:H}{M:Mem}(s:PSt w h M){id x:Nat}(hl:LiveAt w M id x):x<h.next:=by obtain⟨o,e,h1,h2,h3,h4⟩:=hl;exact s.blk id e x h3 h4
def ptget:List PV->Nat->PV
 | [],_=> .junk
 | v::_,0=>v
 | _::l,n+1=>ptget l n
def ptset:List PV->Nat->PV->List PV
 | [],_,_=>[]
 | _::l,0,v=>v::l
 | x::l,n+1,v=>x::ptset l n v
def pput(a:List PV):Option Nat->PV->List PV
 | some d,v=>ptset a d v
 | none,_=>a
def s8(a:List PV):List Nat->List PV
 | []=>a
 | t::l=>s8 (ptset a t .junk) l
theorem RepL.tget{w:PWd} :∀{a:List PV} {a':List AV},RepL w a a'->∀t,RepV w (ptget a t) (tget a' t)
 | [],[],h,t=> .junk _
 | [],_::_,h,t=>by have:=h.len;simp at this
 | _::_,[],h,t=>by have:=h.len;simp at this
 | v::a,x::a',h,0=>h.get 0 v x rfl rfl
 | v::a,x::a',h,t+1=>RepL.tget (a:=a) (a':=a') ⟨by simpa using h.len,fun i y z h1 h2=>h.get (i+1) y z (by simpa using h1) (by simpa using h2)⟩ t
theorem RepL.tl{w:PWd}{v:PV}{x:AV}{a:List PV}{a':List AV}(h:RepL w (v::a) (x::a')):RepL w a a':=
 ⟨by simpa using h.len,fun i y z h1 h2=>h.get (i+1) y z (by simpa using h1) (by simpa using h2)⟩
theorem RepL.hd{w:PWd}{v:PV}{x:AV}{a:List PV}{a':List AV}(h:RepL w (v::a) (x::a')):RepV w v x:=h.get 0 v x rfl rfl
theorem RepL.tset{w:PWd} :∀{a:List PV} {a':List AV},RepL w a a'->∀(t:Nat) {v:PV} {x:AV},RepV w v x->RepL w (ptset a t v) (tset a' t x)
 | [],[],h,t,v,x,hv=> .nil w
 | [],_::_,h,t,v,x,hv=>by have:=h.len;simp at this
 | _::_,[],h,t,v,x,hv=>by have:=h.len;simp at this
 | u::a,y::a',h,0,v,x,hv=> .cons hv h.tl
 | u::a,y::a',h,t+1,v,x,hv=> .cons h.hd (RepL.tset h.tl t hv)
theorem RepL.put{w:PWd}{a:List PV}{a':List AV}(h:RepL w a a'):∀(d:Option Nat) {v:PV} {x:AV},RepV w v x->RepL w (pput a d v) (put a' d x)
 | some d,v,x,hv=>h.tset d hv
 | none,v,x,hv=>h
theorem RepL.scrub{w:PWd} :∀(l:List Nat) {a:List PV} {a':List AV},RepL w a a'->RepL w (s8 a l) (scrub a' l)
 | [],a,a',h=>h
 | t::l,a,a',h=>RepL.scrub l (h.tset t (.junk _))
end Go.Am

