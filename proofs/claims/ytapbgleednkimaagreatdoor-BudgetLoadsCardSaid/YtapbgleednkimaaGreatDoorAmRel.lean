/- The abstract machine: a small deterministic machine for the translated programs: values without capacities and addresses, a heap of numbered objects, operations in the order of the text. Nothing is claimed of a program here: these are definitions and plain lemmas on them, and what goes with it. -/
import GoSem.Core.Sem
import GoSem.Core.Region
import Derived.KernelRfl
import GoSem.Core.View
import GoSem.Core.Layout
import GoSem.ClaimKeys
import GoSem.Dispatch
import Derived.WalkKit
import Derived.RangeFuncRecord
set_option linter.all false
open BitVec renaming ofInt->Bh
open List renaming replicate->Ah,rec->Cw,length_drop->Er,all_cons->Co,all_nil->Es,cons_append->Al,casesOn->Hv,range->Aw,getElem?_eq_getElem->Ad,toArray->Hw,getElem_of_mem->Ec,getElem?_set->Ew
open Nat renaming beq->Ae,mod->Cv,div->Ca,sub->Cm,succ->Cn,eq_of_beq_eq_true->Bd,rec->Fu,zero->Bs,ble->Ao,le_of_ble_eq_true->Bt,lt_succ_self->Eb,le_refl->Ac,ble_eq_true_of_le->Hs,add->Fv,mul->Dn,lt_or_ge->Ba,le_trans->Aj,lt_of_lt_of_le->Bi
open Int renaming casesOn->Br,ofNat->Ce,negSucc->Ht
open Bool renaming casesOn->Gp,rec->Ag,false_eq_true->Bf,true->Jo,false->Jp
open Option renaming casesOn->Ep,map_eq_some_iff->Cg,some->Jm,none->Jn
namespace Go.Am
inductive AV where
  | aa
  | bool (b:Bool)
  | int (k:IntKind) (n:Int)
  | str (s:ByteArray)
  | au
  | ptr (b o:Nat)
  | ag
  | slice (fl:Bool) (sz b o n:Nat)
  | bc
  | map (r:Nat)
  | func (fn:Fn) (first captured:List AV)
  | aq
  | iface (t:TypeId) (v:AV)
  | ae
  | agg (cs:List AV)
  | tuple (vs:List AV)
  deriving Inhabited
abbrev i64(n:Int):AV:= .int .i64 n
abbrev u8(n:Int):AV:= .int .u8 n
inductive AR where
  | tmp (t:Nat)
  | const (v:AV)
  deriving Inhabited
inductive AO where
  | move (x:AR)
  | pick (c a b:AR)
  | alloc (cells:List AV)
  | box (x:AR)
  | build (zero:List AV) (parts:List (Nat×Nat×AR))
  | buildSlice (size len:Nat) (zero:List AV) (parts:List (Nat×Nat×AR))
  | load (x:AR)
  | dw (n:Nat) (x:AR)
  | store (n:Nat) (a x:AR)
  | nilCheck (x:AR)
  | bin (op:BinOp) (x y:AR)
  | eqB (neg:Bool) (x y:AR)
  | isNil (kd:Nat) (neg:Bool) (x y:AR)
  | dz (neg:Bool) (T:List (Option IntKind)) (x y:AR)
  | un (op:UnOp) (x:AR)
  | da (k:IntKind) (x:AR)
  | kq (x:AR)
  | bu (x:AR)
  | gu (t:TypeId) (x:AR)
  | gi (fn:Fn) (first captured:List AR)
  | makeMap
  | makeSlice (bytes:Nat) (zero:List AV) (len cap:AR)
  | slice (size:Nat) (x:AR) (lo hi mx:Option AR)
  | cz (len size:Nat) (x:AR) (lo hi:Option AR)
  | ep (x:AR) (lo hi:Option AR)
  | fieldAddr (off:Nat) (x:AR)
  | field (off:Nat) (n:Option Nat) (x:AR)
  | indexAddr (size:Nat) (x i:AR)
  | be (len size:Nat) (x i:AR)
  | index (len size:Nat) (isAgg:Bool) (x i:AR)
  | dc (x i:AR)
  | lookup (kd:Nat) (commaOk:Bool) (zero:AV) (x i:AR)
  | mapUpdate (kd:Nat) (m k v:AR)
  | extract (x:AR) (i:Nat)
  | call (f:AR) (args:List AR)
  | append (size bytes:Nat) (s x:AR)
  | br (bytes:Nat) (zero:List AV) (s n:AR)
  | jf (size:Nat) (d x:AR)
  | fq (zero:List AV) (x:AR)
  | len (x:AR)
  | jd (x:AR)
  | iv (x:AR)
  | cap (x:AR)
  | max (x:AR) (xs:List AR)
  | min (x:AR) (xs:List AR)
  | pq (t:TypeId) (zero:AV) (x:AR)
  | cu (x:AR)
  deriving Inhabited
def AO.effect:AO->Bool
  | .store .. | .mapUpdate .. | .call .. | .append .. | .br .. | .jf .. | .fq .. | .cu .. =>Jo
  | _=>Jp
structure aw where
  dst:Option Nat
  op:AO
  guard:Option (Nat×Bool)
  chk:List Nat
  deriving Inhabited
inductive AC where
  | skip
  | region (ops:List aw)
  | fc (ops:List aw)
  | seq (a b:AC)
  | cond (c:AR) (thn els:AC)
  | block (id:Nat) (body:AC)
  | loop (scratch:List Nat) (body:AC)
  | rangeFunc (f:AR) (params:List Nat) (assign body:AC)
  | exit (id:Nat)
  | ret
  deriving Inhabited
inductive Ex where
  | normal | ret | exit (id:Nat)
  deriving Inhabited,DecidableEq
structure jy where
  state:LoopState
  pending:Option Ex
  tmps:List AV
  params:List Nat
  assign:AC
  body:AC
  deriving Inhabited
inductive bq where
  | cells (ver:Nat) (rw:Bool) (cs:List AV)
  | map (ver:Nat) (es:List (AV×AV))
  | loop (ver:Nat) (r:jy)
  | dead
  deriving Inhabited
inductive HT where
  | leaf
  | node (v:Option bq) (l r:HT)
def HT.get:HT->Nat->Option bq
  | .leaf,_=>Jn
  | .node v l r,i=>if i=0 then v else if i % 2=1 then l.get (i / 2)else r.get (i / 2-1)
def HT.set(o:bq):Nat->HT->Nat->HT
  | 0,t,_=>t
  | u+1,.leaf,i=>if i=0 then .node (Jm o) .leaf .leaf else if i % 2=1 then .node Jn (HT.set o u .leaf (i / 2)) .leaf else .node Jn .leaf (HT.set o u .leaf (i / 2-1))
  | u+1,.node v l r,i=>if i=0 then .node (Jm o) l r else if i % 2=1 then .node v (HT.set o u l (i / 2)) r else .node v l (HT.set o u r (i / 2-1))
def HT.ie(o:bq):∀(u:Nat) (t:HT) (i j:Nat),i<u->(HT.set o u t i).get j=if j=i then Jm o else t.get j:=by
  intro u
  induction u with
  | zero=>intro t i j h;omega
  | succ u I=>
    intro t i j h;have E:∀(v:Option bq) (l r:HT),(∀j,(HT.node v l r).get j=t.get j)->
        (if i=0 then HT.node (Jm o) l r else if i % 2=1 then HT.node v (HT.set o u l (i / 2)) r else HT.node v l (HT.set o u r (i / 2-1))).get j=if j=i then Jm o else t.get j:=by
      intro v l r ht;by_cases h0:i=0
      · subst h0;simp only[if_true];by_cases G:j=0
        · subst G;simp[HT.get]
        · rw[if_neg G,<-ht j];simp[HT.get,G]
      · rw[if_neg h0];by_cases h1:i % 2=1
        · rw[if_pos h1];by_cases y:j=0
          · subst y;rw[if_neg (by omega),<-ht 0];simp[HT.get]
          · by_cases B:j % 2=1
            · simp only[HT.get,y,B,if_true,if_false];rw[I l (i / 2) (j / 2) (by omega)];by_cases e:j=i
              · subst e;simp
              · rw[if_neg (by omega),if_neg e,<-ht j];simp[HT.get,y,B]
            · rw[if_neg (by omega),<-ht j];simp[HT.get,y,B]
        · rw[if_neg h1];by_cases y:j=0
          · subst y;rw[if_neg (by omega),<-ht 0];simp[HT.get]
          · by_cases B:j % 2=1
            · rw[if_neg (by omega),<-ht j];simp[HT.get,y,B]
            · simp only[HT.get,y,B,if_false];rw[I r (i / 2-1) (j / 2-1) (by omega)];by_cases e:j=i
              · subst e;simp
              · rw[if_neg (by omega),if_neg e,<-ht j];simp[HT.get,y,B]
    cases t with
    | leaf=>have:=E Jn .leaf .leaf (fun j=>by simp[HT.get]);simpa [HT.set]using this
    | node v l r=>have:=E v l r fun _=>rfl;simpa [HT.set]using this
structure H where
  next:Nat
  t:HT
def H.empty:H:=⟨0,.leaf⟩
def H.get(h:H)(i:Nat):Option bq:=if i<h.next then h.t.get i else Jn
def H.alloc(h:H)(o:bq):H:=⟨h.next+1,HT.set o (h.next+1) h.t h.next⟩
def H.set(h:H)(i:Nat)(o:bq):H:=⟨h.next,HT.set o (i+1) h.t i⟩
def H.bf{h:H}{i:Nat}{o:bq}(hg:h.get i=Jm o):i<h.next:=by
  unfold H.get at hg;by_cases u:i<h.next
  · exact u
  · rw[if_neg u]at hg;cases hg
@[simp] theorem H.qy(h:H)(o:bq):(h.alloc o).next=h.next+1:=rfl
@[simp] theorem H.next_set(h:H)(i:Nat)(o:bq):(h.set i o).next=h.next:=rfl
def H.ay(h:H)(o:bq)(i:Nat):(h.alloc o).get i=if i=h.next then Jm o else h.get i:=by
  unfold H.get H.alloc;simp only;by_cases e:i=h.next
  · subst e;rw[if_pos (by omega),if_pos rfl,HT.ie _ _ _ _ _ (by omega),if_pos rfl]
  · rw[if_neg e];by_cases u:i<h.next
    · rw[if_pos (by omega),if_pos u,HT.ie _ _ _ _ _ (by omega),if_neg e]
    · rw[if_neg (by omega),if_neg u]
def H.ie(h:H)(j:Nat)(o:bq)(i:Nat):(h.set j o).get i=if i=j/\j<h.next then Jm o else h.get i:=by
  unfold H.get H.set;simp only;by_cases u:i<h.next
  · rw[if_pos u,if_pos u,HT.ie _ _ _ _ _ (by omega)];by_cases e:i=j
    · subst e;simp[u]
    · simp[e]
  · rw[if_neg u,if_neg u,if_neg];rintro⟨rfl,h2⟩;exact u h2
def H.fg{h:H}{o u:bq}{i:Nat}(hg:h.get i=Jm u):(h.alloc o).get i=Jm u:=by rw[H.ay,if_neg (by have:=H.bf hg;omega)];exact hg
def H.ai(h:H)(o:bq):(h.alloc o).get h.next=Jm o:=by rw[H.ay,if_pos rfl]
def H.get_set_same{h:H}{o u:bq}{i:Nat}(hg:h.get i=Jm u):(h.set i o).get i=Jm o:=by rw[H.ie,if_pos ⟨rfl,H.bf hg⟩]
def H.bj{h:H}{o:bq}{i j:Nat}(u:i≠j):(h.set j o).get i=h.get i:=by rw[H.ie,if_neg fun e=>u e.1]
def bq.ver:bq->Option Nat
  | .cells v _ _=>Jm v
  | .map v _=>Jm v
  | .loop v _=>Jm v
  | .dead=>Jn
def H.ver(h:H)(i:Nat):Option Nat:=(h.get i).bind bq.ver
def dl:List AV->Nat->AV
  | [],_=> .aa
  | v::_,0=>v
  | _::l,n+1=>dl l n
def iz:List AV->Nat->AV->List AV
  | [],_,_=>[]
  | _::l,0,v=>v::l
  | x::l,n+1,v=>x::iz l n v
def ev(a:List AV):AR->AV
  | .tmp t=>dl a t
  | .const v=>v
def put(a:List AV):Option Nat->AV->List AV
  | some d,v=>iz a d v
  | none,_=>a
def fh(a:List AV):List Nat->List AV
  | []=>a
  | t::l=>fh (iz a t .aa) l
def dS(op:BinOp)(k:IntKind)(x y:Int):Option AV:=
  match op with
  | .add=>Jm (.int k (k.wrap (x+y)))
  | .sub=>Jm (.int k (k.wrap (x-y)))
  | .mul=>Jm (.int k (k.wrap (x*y)))
  | .quo=>if y=0 then Jn else Jm (.int k (k.wrap (x.tdiv y)))
  | .rem=>if y=0 then Jn else Jm (.int k (x.tmod y))
  | .and=>Jm (.int k (k.wrap (Bh k.bits x&&& Bh k.bits y).toNat))
  | .or=>Jm (.int k (k.wrap (Bh k.bits x||| Bh k.bits y).toNat))
  | .xor=>Jm (.int k (k.wrap (Bh k.bits x^^^Bh k.bits y).toNat))
  | .andNot=>Jm (.int k (k.wrap (Bh k.bits x&&& ~~~ Bh k.bits y).toNat))
  | .eql=>Jm (.bool (x==y))
  | .neq=>Jm (.bool (x !=y))
  | .lss=>Jm (.bool (decide (x<y)))
  | .leq=>Jm (.bool (decide (x<=y)))
  | .gtr=>Jm (.bool (decide (x>y)))
  | .geq=>Jm (.bool (decide (x>=y)))
  | .shl | .shr=>Jn
def tD(op:BinOp)(k:IntKind)(x y:Int):Option AV:=
  if y<0 then Jn else
  match op with
  | .shl=>Jm (.int k (k.wrap (x*2^(min y.toNat k.bits))))
  | .shr=>Jm (.int k (x.fdiv (2^(min y.toNat k.bits))))
  | _=>Jn
def bW:BinOp->Bool
  | .shl | .shr=>Jo
  | _=>Jp
def gI(op:BinOp):AV->AV->Option AV
  | .int k x,.int u y=>if bW op then tD op k x y else if k=u then dS op k x y else Jn
  | .str x,.str y=>match op with
    | .eql=>Jm (.bool (x.toList==y.toList))
    | .neq=>Jm (.bool (!(x.toList==y.toList)))
    | .add=>if((x.size+y.size:Nat):Int)>IntKind.i64.max then Jn else Jm (.str (x++y))
    | _=>Jn
  | _,_=>Jn
def aun(op:UnOp):AV->Option AV
  | .int k x=>match op with
    | .neg=>Jm (.int k (k.wrap (0-x)))
    | .xor=>Jm (.int k (k.wrap (Bh k.bits (if k.signed then-1 else k.max)^^^Bh k.bits x).toNat))
    | _=>Jn
  | .bool b=>match op with
    | .not=>Jm (.bool (!b))
    | _=>Jn
  | _=>Jn
def XO:Nat->AV->AV->Option Bool
  | 0,.ag,.ag=>Jm Jo
  | 0,.ag,.slice .. =>Jm Jp
  | 0,.slice ..,.ag=>Jm Jp
  | 1,.au,.au=>Jm Jo
  | 1,.au,.ptr .. =>Jm Jp
  | 1,.ptr ..,.au=>Jm Jp
  | 2,.bc,.bc=>Jm Jo
  | 2,.bc,.map _=>Jm Jp
  | 2,.map _,.bc=>Jm Jp
  | 3,.aq,.aq=>Jm Jo
  | 3,.aq,.func .. =>Jm Jp
  | 3,.func ..,.aq=>Jm Jp
  | 4,.ae,.ae=>Jm Jo
  | 4,.ae,.iface .. =>Jm Jp
  | 4,.iface ..,.ae=>Jm Jp
  | _,_,_=>Jn
def WT:IntKind->Int->Bool
  | .i8,n=>decide (-128<=n)&&decide (n<=127)
  | .i16,n=>decide (-32768<=n)&&decide (n<=32767)
  | .i32,n=>decide (-2147483648<=n)&&decide (n<=2147483647)
  | .i64,n=>decide (-9223372036854775808<=n)&&decide (n<=9223372036854775807)
  | .u8,n=>decide (0<=n)&&decide (n<=255)
  | .u16,n=>decide (0<=n)&&decide (n<=65535)
  | .u32,n=>decide (0<=n)&&decide (n<=4294967295)
  | .u64,n=>decide (0<=n)&&decide (n<=18446744073709551615)
def eZ:List (Option IntKind)->List AV->List AV->Option Bool
  | [],[],[]=>Jm Jo
  | some k::T,.int k1 m::u,.int k2 n::y=>
    if k1=k/\k2=k/\WT k m=Jo/\WT k n=Jo then
      match eZ T u y with
      | some b=>Jm ((m==n)&&b)
      | none=>Jn
    else Jn
  | none::T,.bool p::u,.bool q::y=>match eZ T u y with
    | some b=>Jm ((p==q)&&b)
    | none=>Jn
  | _,_,_=>Jn
def AV.cells:AV->List AV
  | .agg cs=>cs
  | v=>[v]
def AV.one:AV->Bool
  | .agg _=>Jp
  | .tuple _=>Jp
  | .aa=>Jp
  | _=>Jo
def over:List AV->Nat->List AV->List AV
  | cs,0,new=>new++cs.drop new.length
  | [],_,_=>[]
  | c::cs,off+1,new=>c::over cs off new
def qH(a:List AV):List AV->List (Nat×Nat×AR)->Option (List AV)
  | cs,[]=>Jm cs
  | cs,(off,size,x)::rest=>
    if(ev a x).cells.length=size&&off+size<=cs.length&&(ev a x).cells.all AV.one then qH a (over cs off (ev a x).cells) rest else Jn
def gQ(h:H)(b i:Nat):Option AV:=
  match h.get b with
  | some (.cells _ _ cs)=>cs[i]?
  | _=>Jn
def bB(h:H)(b i n:Nat):Option (List AV):=
  match h.get b with
  | some (.cells _ _ cs)=>if i+n<=cs.length then Jm ((cs.drop i).take n)else Jn
  | _=>Jn
def dV(h:H)(b i:Nat)(new:List AV):Option H:=
  match h.get b with
  | some (.cells ver Jo cs)=>if i+new.length<=cs.length&&new.all AV.one then Jm (h.set b (.cells (ver+1) Jo (over cs i new)))else Jn
  | _=>Jn
def kill(h:H)(b:Nat):Option H:=
  match h.get b with
  | some (.cells _ Jo _)=>Jm (h.set b .dead)
  | _=>Jn
def gH:Nat->List AV->List AV
  | 0,_=>[]
  | n+1,z=>z++gH n z
def wF:Nat->AV->AV->Option Bool
  | 0,.int k x,.int u y=>if k=u then Jm (x==y)else Jn
  | 1,.bool x,.bool y=>Jm (x==y)
  | 2,.str x,.str y=>Jm (x==y)
  | _,_,_=>Jn
def iZ(kd:Nat)(k:AV):List (AV×AV)->Option (Option AV)
  | []=>Jm Jn
  | (u,v)::y=>match wF kd k u with
    | some Jo=>Jm (Jm v)
    | some Jp=>iZ kd k y
    | none=>Jn
def fW(kd:Nat)(k v:AV):List (AV×AV)->List (AV×AV)
  | []=>[(k,v)]
  | (u,B)::y=>match wF kd k u with
    | some Jo=>(k,v)::y
    | _=>(u,B)::fW kd k v y
def fK:Nat:=9223372036854775807
def bnd(a:List AV):Option AR->Option (Option Int)
  | none=>Jm Jn
  | some x=>match ev a x with
    | .int _ n=>Jm (Jm n)
    | _=>Jn
def fG(size:Nat)(x:AV)(B u:Option Int)(y:Option Int):Option AV:=
  if y.isSome&&u.isNone then Jn else
  match x with
  | .ag=>if(B.getD 0==0)&&(u.getD 0==0)&&(y.getD 0==0)then Jm .ag else Jn
  | .slice E sz b o n=>
    if sz=size/\0<=B.getD 0/\B.getD 0<=u.getD n/\u.getD n<=y.getD (u.getD n)/\y.getD (u.getD n)<=n then
      Jm (.slice (if y.isSome then y.getD (u.getD n)==u.getD n else E&&u.getD n==n) sz b (o+(B.getD 0).toNat*size) (u.getD n-B.getD 0).toNat)else Jn
  | _=>Jn
def B6:AV->AV->Option AV
  | .int k x,.int _ y=>Jm (.int k (if y>x then y else x))
  | _,_=>Jn
def B5:AV->AV->Option AV
  | .int k x,.int _ y=>Jm (.int k (if y<x then y else x))
  | _,_=>Jn
def lF(f:AV->AV->Option AV):AV->List AV->Option AV
  | v,[]=>Jm v
  | v,x::u=>match f v x with
    | some r=>lF f r u
    | none=>Jn
def eW(l:List AV):Option (List UInt8):=
  match l with
  | []=>Jm []
  | .int .u8 n::r=>match eW r with
    | some t=>if 0<=n/\n<256 then Jm (UInt8.ofNat n.toNat::t)else Jn
    | none=>Jn
  | _::_=>Jn
def gZ(a:List AV)(h:H)(size:Nat)(x:AR):Option (List AV×Nat):=
  match ev a x with
  | .ag=>Jm ([],0)
  | .slice _ sz b o n=>if sz=size then match bB h b o (n*size)with
    | some cs=>Jm (cs,n)
    | none=>Jn
    else Jn
  | .str s=>if size=1 then Jm (s.data.toList.map fun b=> .int .u8 b.toNat,s.size)else Jn
  | _=>Jn
def aop(a:List AV)(h:H):AO->Option (AV×H×List Nat)
  | .move x=>Jm (ev a x,h,[])
  | .pick c x y=>match ev a c with
    | .bool Jo=>Jm (ev a x,h,[])
    | .bool Jp=>Jm (ev a y,h,[])
    | _=>Jn
  | .alloc cs=>Jm (.ptr h.next 0,h.alloc (.cells 0 Jo cs),[])
  | .box x=>if(ev a x).cells.all AV.one then Jm (.ptr h.next 0,h.alloc (.cells 0 Jo (ev a x).cells),[])else Jn
  | .build z K=>match qH a z K with
    | some cs=>Jm (.agg cs,h,[])
    | none=>Jn
  | .buildSlice size len z K=>match qH a (gH len z) K with
    | some cs=>Jm (.slice Jo size h.next 0 len,h.alloc (.cells 0 Jo cs),[])
    | none=>Jn
  | .load x=>match ev a x with
    | .ptr b o=>match gQ h b o with
      | some v=>Jm (v,h,[b])
      | none=>Jn
    | _=>Jn
  | .dw n x=>match ev a x with
    | .ptr b o=>match bB h b o n with
      | some cs=>Jm (.agg cs,h,[b])
      | none=>Jn
    | _=>Jn
  | .store n p x=>match ev a p with
    | .ptr b o=>if(ev a x).cells.length=n then match dV h b o (ev a x).cells with
        | some u=>Jm (.tuple [],u,[])
        | none=>Jn
      else Jn
    | _=>Jn
  | .nilCheck x=>match ev a x with
    | .ptr b o=>Jm (.ptr b o,h,[])
    | .func (.method _) _ _=>Jn
    | .func f c d=>Jm (.func f c d,h,[])
    | .iface t v=>Jm (.iface t v,h,[])
    | _=>Jn
  | .bin op x y=>match gI op (ev a x) (ev a y)with
    | some v=>Jm (v,h,[])
    | none=>Jn
  | .eqB neg x y=>match ev a x,ev a y with
    | .bool p,.bool q=>Jm (.bool (if neg then !(p==q)else p==q),h,[])
    | _,_=>Jn
  | .isNil kd neg x y=>match XO kd (ev a x) (ev a y)with
    | some b=>Jm (.bool (if neg then !b else b),h,[])
    | none=>Jn
  | .dz neg T x y=>match ev a x,ev a y with
    | .agg E,.agg Q=>match eZ T E Q with
      | some b=>Jm (.bool (if neg then !b else b),h,[])
      | none=>Jn
    | _,_=>Jn
  | .un op x=>match aun op (ev a x)with
    | some v=>Jm (v,h,[])
    | none=>Jn
  | .da k x=>match ev a x with
    | .int _ n=>Jm (.int k (k.wrap n),h,[])
    | _=>Jn
  | .kq x=>match ev a x with
    | .str s=>Jm (.str s,h,[])
    | _=>Jn
  | .bu x=>match ev a x with
    | .ag=>Jm (.str ByteArray.empty,h,[])
    | .slice _ _ b o n=>match bB h b o n with
      | some cs=>match eW cs with
        | some s=>Jm (.str ⟨s.toArray⟩,h,[b])
        | none=>Jn
      | none=>Jn
    | _=>Jn
  | .gu t x=>Jm (.iface t (ev a x),h,[])
  | .gi fn f c=>Jm (.func fn (f.map (ev a)) (c.map (ev a)),h,[])
  | .makeMap=>Jm (.map h.next,h.alloc (.map 0 []),[])
  | .makeSlice bytes z n c=>match ev a n,ev a c with
    | .int .i64 l,.int .i64 m=>if 0<=l/\l<=m/\m*bytes<=140737488355328/\m<=fK then Jm (.slice (l==m) z.length h.next 0 l.toNat,h.alloc (.cells 0 Jo (gH l.toNat z)),[])else Jn
    | _,_=>Jn
  | .slice size x G I R=>match bnd a G,bnd a I,bnd a R with
    | some l,Jm r,Jm m=>match fG size (ev a x) l r m with
      | some v=>Jm (v,h,[])
      | none=>Jn
    | _,_,_=>Jn
  | .cz len size x G I=>match ev a x with
    | .ptr b o=>match bnd a G,bnd a I,h.get b with
      | some l,Jm r,Jm (.cells _ _ cs)=>if o+len*size<=cs.length then match fG size (.slice Jo size b o len) l r Jn with
        | some v=>Jm (v,h,[b])
        | none=>Jn
        else Jn
      | _,_,_=>Jn
    | _=>Jn
  | .ep x G I=>match ev a x,bnd a G,bnd a I with
    | .str s,Jm l,Jm r=>if 0<=l.getD 0/\l.getD 0<=r.getD s.size/\r.getD s.size<=s.size then Jm (.str (s.extract (l.getD 0).toNat (r.getD s.size).toNat),h,[])else Jn
    | _,_,_=>Jn
  | .fieldAddr off x=>match ev a x with
    | .ptr b o=>Jm (.ptr b (o+off),h,[])
    | _=>Jn
  | .field off n x=>match ev a x with
    | .agg cs=>match n with
      | none=>match cs[off]? with
        | some v=>Jm (v,h,[])
        | none=>Jn
      | some n=>if off+n<=cs.length then Jm (.agg ((cs.drop off).take n),h,[])else Jn
    | _=>Jn
  | .indexAddr size x i=>match ev a x,ev a i with
    | .slice _ sz b o n,.int _ k=>if sz=size/\0<=k/\k<n then Jm (.ptr b (o+k.toNat*size),h,[])else Jn
    | _,_=>Jn
  | .be len size x i=>match ev a x,ev a i with
    | .ptr b o,.int _ k=>if 0<=k/\k<len then Jm (.ptr b (o+k.toNat*size),h,[])else Jn
    | _,_=>Jn
  | .index len size isAgg x i=>match ev a x,ev a i with
    | .agg cs,.int _ k=>if 0<=k/\k<len then
        (if isAgg then(if k.toNat*size+size<=cs.length then Jm (.agg ((cs.drop (k.toNat*size)).take size),h,[])else Jn)
        else match cs[k.toNat*size]? with
          | some v=>Jm (v,h,[])
          | none=>Jn)else Jn
    | _,_=>Jn
  | .dc x i=>match ev a x,ev a i with
    | .str s,.int _ k=>if 0<=k then match s[k.toNat]? with
        | some c=>Jm (.int .u8 c.toNat,h,[])
        | none=>Jn
      else Jn
    | _,_=>Jn
  | .lookup kd L z x i=>match ev a x with
    | .bc=>Jm (if L then .tuple [z,.bool Jp]else z,h,[])
    | .map r=>match h.get r with
      | some (.map _ B)=>match iZ kd (ev a i) B with
        | some (Jm v)=>Jm (if L then .tuple [v,.bool Jo]else v,h,[r])
        | some Jn=>Jm (if L then .tuple [z,.bool Jp]else z,h,[r])
        | none=>Jn
      | _=>Jn
    | _=>Jn
  | .mapUpdate kd m k v=>match ev a m with
    | .map r=>match h.get r with
      | some (.map ver B)=>if(iZ kd (ev a k) B).isSome then Jm (.tuple [],h.set r (.map (ver+1) (fW kd (ev a k) (ev a v) B)),[])else Jn
      | _=>Jn
    | _=>Jn
  | .extract x i=>match ev a x with
    | .tuple S=>match S[i]? with
      | some v=>Jm (v,h,[])
      | none=>Jn
    | _=>Jn
  | .call _ _=>Jn
  | .append size bytes s x=>
    match gZ a h size x with
    | none=>Jn
    | some (new,n)=>match ev a s with
      | .ag=>if n=0 then Jm (.ag,h,[])else
          if n*bytes<=140737488355328/\n<=fK/\new.all AV.one/\new.length=n*size then Jm (.slice Jp size h.next 0 n,h.alloc (.cells 0 Jo new),[])else Jn
      | .slice O sz b o m=>if n=0 then Jm (.slice O sz b o m,h,[])else
          if sz=size/\(m+n)*bytes<=140737488355328/\m+n<=fK/\new.all AV.one/\new.length=n*size then
            match bB h b o (m*size)with
            | none=>Jn
            | some J=>
              if O then Jm (.slice Jp size h.next 0 (m+n),h.alloc (.cells 0 Jo (J++new)),[])
              else match kill h b with
                | some u=>Jm (.slice Jp size h.next 0 (m+n),u.alloc (.cells 0 Jo (J++new)),[])
                | none=>Jn
          else Jn
      | _=>Jn
  | .br bytes z s x=>match ev a s,ev a x with
    | .ag,.int .i64 n=>if n=0 then Jm (.ag,h,[])else
        if 0<=n/\n*bytes<=140737488355328/\n<=fK then Jm (.slice Jp z.length h.next 0 n.toNat,h.alloc (.cells 0 Jo (gH n.toNat z)),[])else Jn
    | _,_=>Jn
  | .jf size d x=>match ev a d,ev a x with
    | .slice _ sz b o m,.slice _ M U V n=>if sz=size/\M=size then
        (if min n m=0 then Jm (i64 0,h,[])else match bB h U V (min n m*size)with
          | some cs=>match dV h b o cs with
            | some u=>Jm (i64 ((min n m:Nat):Int),u,[])
            | none=>Jn
          | none=>Jn)else Jn
    | .ag,.ag | .ag,.slice .. | .slice ..,.ag=>Jm (i64 0,h,[])
    | _,_=>Jn
  | .fq z x=>match ev a x with
    | .ag=>Jm (.tuple [],h,[])
    | .slice _ sz b o n=>if sz=z.length then
        (if n=0 then Jm (.tuple [],h,[])else match dV h b o (gH n z)with
          | some u=>Jm (.tuple [],u,[])
          | none=>Jn)else Jn
    | _=>Jn
  | .len x=>match ev a x with
    | .ag=>Jm (i64 0,h,[])
    | .slice _ _ _ _ n=>Jm (i64 n,h,[])
    | _=>Jn
  | .jd x=>match ev a x with
    | .str s=>Jm (i64 s.size,h,[])
    | _=>Jn
  | .iv x=>match ev a x with
    | .bc=>Jm (i64 0,h,[])
    | .map r=>match h.get r with
      | some (.map _ B)=>Jm (i64 B.length,h,[r])
      | _=>Jn
    | _=>Jn
  | .cap x=>match ev a x with
    | .ag=>Jm (i64 0,h,[])
    | .slice Jo _ _ _ n=>Jm (i64 n,h,[])
    | _=>Jn
  | .max x E=>match lF B6 (ev a x) (E.map (ev a))with
    | some v=>Jm (v,h,[])
    | none=>Jn
  | .min x E=>match lF B5 (ev a x) (E.map (ev a))with
    | some v=>Jm (v,h,[])
    | none=>Jn
  | .pq t z x=>match ev a x with
    | .ae=>Jm (.tuple [z,.bool Jp],h,[])
    | .iface Y v=>Jm (if Y=t then .tuple [v,.bool Jo]else .tuple [z,.bool Jp],h,[])
    | _=>Jn
  | .cu x=>match ev a x with
    | .str s=>if s.size<=140737488355328 then Jm (.slice Jp 1 h.next 0 s.size,h.alloc (.cells 0 Jp (s.data.toList.map fun b=> .int .u8 b.toNat)),[])else Jn
    | _=>Jn
inductive jt where
  | tmp (t:Nat)
  | cell (t:Nat)
  | cells (t n:Nat)
  deriving Inhabited
structure AFn where
  ntmps:Nat
  results:List jt
  body:AC
  deriving Inhabited
inductive AF where
  | fn (f:AFn)
  | jr (f:List AV->H->Option (AV×H))
structure Rec where
  code:AC->List AV->H->Option (Ex×List AV×H)
  call:FuncId->List AV->H->Option (AV×H)
def eu(a:List AV):List Nat->List AV->List AV
  | t::u,v::y=>eu (iz a t v) u y
  | _,_=>a
def bR(a:List AV):Option (Nat×Bool)->Option Bool
  | none=>Jm Jo
  | some (t,u)=>match dl a t with
    | .bool b=>Jm (b==u)
    | .tuple _=>Jm Jp
    | _=>Jn
structure jz where
  idx:Nat
  rd:List Nat
  hb:H
  ha:H
def f5(hb u:H)(x:Nat):Bool:=if x<hb.next then hb.ver x==u.ver x else Jo
def qJ(u:Bool)(rd:List Nat)(hb B:H)(y:List jz)(chk:List Nat):Bool:=
  y.all fun e=>if chk.contains e.idx then(if u then e.rd.all (f5 hb B)else rd.all (f5 e.hb e.ha))else Jo
def jF:List AV->TypeId->Option FuncId
  | .int _ u:: .int _ g::r,t=>if u=(t:Int)then Jm g.toNat else jF r t
  | _,_=>Jn
def kT(u:List AV):List AV->Option (FuncId×List AV)
  | .iface t v::args=>match jF u t with
    | some g=>Jm (g,v::args)
    | none=>Jn
  | _=>Jn
section
variable (rec:Rec)
def dP:AV->List AV->H->Option (AV×H)
  | .func (.func g) first u,args,h=>rec.call g (first++args++u) h
  | .func (.yield l) first _,args,h=>match h.get l with
    | some (.loop _ r)=>if(first++args).length=r.params.length then
        match rec.code r.assign (eu r.tmps r.params (first++args)) h with
        | some (.normal,I,h1)=>match h1.get l with
          | some (.loop J B)=>if B.state= .ready then
              match rec.code r.body I (h1.set l (.loop (J+1) {B with state:= .busy}))with
              | some (e,_,h3)=>match h3.get l with
                | some (.loop E G)=>
                  if e= .normal then Jm (.bool Jo,h3.set l (.loop (E+1) {G with state:= .ready,pending:=Jn}))
                  else Jm (.bool Jp,h3.set l (.loop (E+1) {G with state:= .done,pending:=Jm e}))
                | _=>Jn
              | none=>Jn
            else Jn
          | _=>Jn
        | _=>Jn
      else Jn
    | _=>Jn
  | .func (.methodOf _ _) y _,args,h=>match kT y args with
    | some (g,l)=>rec.call g l h
    | none=>Jn
  | _,_,_=>Jn
def fY:AO->List AV->H->Option (AV×H×List Nat)
  | .call f args,a,h=>match dP rec (ev a f) (args.map (ev a)) h with
    | some (v,u)=>Jm (v,u,[])
    | none=>Jn
  | o,a,h=>aop a h o
def hO:List aw->List AV->H->Option (List AV×H)
  | [],a,h=>Jm (a,h)
  | o::os,a,h=>match bR a o.guard with
    | some Jo=>match fY rec o.op a h with
      | some (v,u,_)=>hO os (put a o.dst v) u
      | none=>Jn
    | some Jp=>hO os (put a o.dst (.tuple [])) h
    | none=>Jn
def rdx(h u:H)(rd:List Nat):List Nat:=if h.next<u.next then h.next::rd else rd
def eH:List aw->Nat->List AV->H->List jz->Option (List AV×H)
  | [],_,a,h,_=>Jm (a,h)
  | o::os,i,a,h,u=>match bR a o.guard with
    | some Jo=>match fY rec o.op a h with
      | some (v,y,rd)=>if qJ o.op.effect (rdx h y rd) h y u o.chk then eH os (i+1) (put a o.dst v) y (⟨i,rdx h y rd,h,y⟩::u)else Jn
      | none=>Jn
    | some Jp=>eH os (i+1) (put a o.dst (.tuple [])) h u
    | none=>Jn
def aN:AC->List AV->H->Option (Ex×List AV×H)
  | .skip,a,h=>Jm (.normal,a,h)
  | .region ops,a,h=>match hO rec ops a h with
    | some (B,u)=>Jm (.normal,B,u)
    | none=>Jn
  | .fc ops,a,h=>match eH rec ops 0 a h []with
    | some (B,u)=>Jm (.normal,B,u)
    | none=>Jn
  | .seq x y,a,h=>match aN x a h with
    | some (.normal,B,u)=>aN y B u
    | r=>r
  | .cond c x y,a,h=>match ev a c with
    | .bool Jo=>aN x a h
    | .bool Jp=>aN y a h
    | _=>Jn
  | .block id x,a,h=>match aN x a h with
    | some (.exit i,B,u)=>if i=id then Jm (.normal,B,u)else Jm (.exit i,B,u)
    | r=>r
  | .loop I x,a,h=>match aN x (fh a I) h with
    | some (.normal,B,u)=>rec.code (.loop I x) B u
    | r=>r
  | .rangeFunc f J E body,a,h=>match ev a f with
    | .func (.func g) first G=>
      match rec.call g (first++[.func (.yield h.next) [] []]++G) (h.alloc (.loop 0 {state:= .ready,pending:=Jn,tmps:=a,params:=J,assign:=E,body:=body}))with
      | some (_,u)=>match u.get h.next with
        | some (.loop ver r)=>if r.state= .busy then Jn else
            Jm (r.pending.getD .normal,a,u.set h.next (.loop (ver+1) {r with state:= .exhausted}))
        | _=>Jn
      | none=>Jn
    | _=>Jn
  | .exit id,a,h=>Jm (.exit id,a,h)
  | .ret,a,h=>Jm (.ret,a,h)
def vB(a:List AV)(h:H):jt->Option AV
  | .tmp t=>Jm (dl a t)
  | .cell t=>match dl a t with
    | .ptr b o=>gQ h b o
    | _=>Jn
  | .cells t n=>match dl a t with
    | .ptr b o=>(bB h b o n).map .agg
    | _=>Jn
def dG(a:List AV)(h:H):List jt->Option (List AV)
  | []=>Jm []
  | r::u=>match vB a h r,dG a h u with
    | some v,Jm y=>Jm (v::y)
    | _,_=>Jn
def iE:List AV->AV
  | [v]=>v
  | u=> .tuple u
def qC(args:List AV)(n:Nat):List AV:=args++Ah (n-args.length) .aa
abbrev Tb:=FuncId->Option AF
def dH(u:Tb)(g:FuncId)(args:List AV)(h:H):Option (AV×H):=
  match u g with
  | some (.jr f)=>f args h
  | some (.fn F)=>match aN rec F.body (qC args F.ntmps) h with
    | some (.normal,B,y) | some (.ret,B,y)=>match dG B y F.results with
      | some E=>Jm (iE E,y)
      | none=>Jn
    | _=>Jn
  | none=>Jn
end
def run(u:Tb):Nat->Rec
  | 0=>⟨fun _ _ _=>Jn,fun _ _ _=>Jn⟩
  | n+1=>⟨aN (run u n),dH (run u n) u⟩
inductive TT where
  | leaf
  | node (v:AV) (l r:TT)
def TT.get:TT->Nat->AV
  | .leaf,_=> .aa
  | .node v l r,i=>bif Ae i 0 then v else bif Ae (Cv i 2) 1 then l.get (Ca i 2)else r.get (Cm (Ca i 2) 1)
def TT.dy(y:AV)(l r:TT)(j:Nat):(TT.node y l r).get j=if j=0 then y else if j % 2=1 then l.get (j / 2)else r.get (j / 2-1):=by
  show(bif Ae j 0 then y else bif Ae (j % 2) 1 then l.get (j / 2)else r.get (j / 2-1))=_;by_cases u:j=0
  · subst u;rfl
  · have:Ae j 0=Jp:=by cases j with
      | zero=>exact absurd rfl u
      | succ j=>rfl
    rw[this,cond_false,if_neg u];by_cases B:j % 2=1
    · rw[B];rfl
    · have hz:j % 2=0:=by omega
      rw[hz];rfl
def TT.qd{β:Type}(v:AV):Nat->TT->Nat->(TT->Option β)->Option β
  | 0,_,_,_=>Jn
  | u+1,.leaf,i,k=>bif Ae i 0 then k (.node v .leaf .leaf)else bif Ae (Cv i 2) 1 then TT.qd v u .leaf (Ca i 2) (fun t=>k (.node .aa t .leaf))else TT.qd v u .leaf (Cm (Ca i 2) 1) fun t=>k (.node .aa .leaf t)
  | u+1,.node x l r,i,k=>bif Ae i 0 then k (.node v l r)else bif Ae (Cv i 2) 1 then TT.qd v u l (Ca i 2) (fun t=>k (.node x t r))else TT.qd v u r (Cm (Ca i 2) 1) fun t=>k (.node x l t)
def uU{β:Type}(m:Nat)(k:Nat->Option β):Option β:=Nat.casesOn m (k 0) fun p=>k (Cn p)
def aHx{β:Type}(n:Int)(k:Int->Option β):Option β:=Br n (fun m=>uU m fun m=>k (.ofNat m)) fun m=>uU m fun m=>k (.negSucc m)
def xZ{β:Type}(m:Nat)(k:Nat->Option β):uU m k=k m:=by cases m<;>rfl
def aER{β:Type}(n:Int)(k:Int->Option β):aHx n k=k n:=by cases n<;>simp[aHx,xZ]
def aBM{β:Type}(b:Bool)(k:Bool->Option β):Option β:=Gp b (k Jp) (k Jo)
def aBL{β:Type}(b:Bool)(k:Bool->Option β):aBM b k=k b:=by cases b<;>rfl
def fV1{β:Type}(v:AV)(k:AV->Option β):Option β:=
  match v with
  | .bool b=>aBM b fun b=>k (.bool b)
  | .int kd n=>aHx n fun n=>k (.int kd n)
  | .ptr b o=>uU b fun b=>uU o fun o=>k (.ptr b o)
  | .slice u sz b o n=>aBM u fun u=>uU sz fun sz=>uU b fun b=>uU o fun o=>uU n fun n=>k (.slice u sz b o n)
  | .aa=>k .aa
  | .str s=>k (.str s)
  | .au=>k .au
  | .ag=>k .ag
  | .bc=>k .bc
  | .map r=>uU r fun r=>k (.map r)
  | .func f a b=>k (.func f a b)
  | .aq=>k .aq
  | .iface t v=>k (.iface t v)
  | .ae=>k .ae
  | .agg cs=>k (.agg cs)
  | .tuple y=>k (.tuple y)
def aBI{β:Type}(v:AV)(k:AV->Option β):fV1 v k=k v:=by cases v<;>simp[fV1,xZ,aER,aBL]
def fL{β:Type} :List AV->(List AV->Option β)->Option β
  | [],k=>k []
  | x::u,k=>fV1 x fun x=>fL u fun u=>k (x::u)
def aBJ{β:Type} :∀(l:List AV) (k:List AV->Option β),fL l k=k l
  | [],_=>rfl
  | x::u,k=>by simp[fL,aBI,aBJ u]
def fV{β:Type}(v:AV)(k:AV->Option β):Option β:=
  match v with
  | .agg cs=>fL cs fun cs=>k (.agg cs)
  | .tuple u=>fL u fun u=>k (.tuple u)
  | .func f a b=>fL a fun a=>fL b fun b=>k (.func f a b)
  | v=>fV1 v k
def aIS{β:Type}(v:AV)(k:AV->Option β):fV v k=k v:=by cases v<;>simp[fV,aBJ,aBI]
def aHw{β:Type}(o:bq)(k:bq->Option β):Option β:=
  match o with
  | .cells ver rw cs=>uU ver fun ver=>fL cs fun cs=>k (.cells ver rw cs)
  | .map ver u=>k (.map ver u)
  | .loop ver r=>uU ver fun ver=>k (.loop ver r)
  | .dead=>k .dead
def aEQ{β:Type}(o:bq)(k:bq->Option β):aHw o k=k o:=by cases o<;>simp[aHw,aBJ,xZ]
def fHT{β:Type} :Nat->HT->Nat->(HT->Option β)->Option β
  | 0,t,_,k=>k t
  | u+1,.leaf,_,k=>k .leaf
  | u+1,.node v l r,i,k=>bif Ae i 0 then(match v with | some o=>aHw o fun o=>k (.node (Jm o) l r) | none=>k (.node Jn l r))
    else bif Ae (Cv i 2) 1 then fHT u l (Ca i 2) (fun l=>k (.node v l r))else fHT u r (Cm (Ca i 2) 1) fun r=>k (.node v l r)
def aBK{β:Type} :∀(u:Nat) (t:HT) (i:Nat) (k:HT->Option β),fHT u t i k=k t
  | 0,_,_,_=>rfl
  | u+1,.leaf,_,_=>rfl
  | u+1,.node v l r,i,k=>by
    unfold fHT
    cases Ae i 0 with
    | true=>cases v<;>simp[aEQ]
    | false=>cases Ae (Cv i 2) 1<;>simp[aBK u]
def fH{β:Type}(h:H)(i:Nat)(k:H->Option β):Option β:=match h with | ⟨n,t⟩=>uU n fun n=>fHT 40 t i fun t=>k ⟨n,t⟩
def aIU{β:Type}(h:H)(i:Nat)(k:H->Option β):fH h i k=k h:=by cases h;simp[fH,xZ,aBK]
def AR.sub(t:TT):AR->AR
  | .tmp i=> .const (t.get i)
  | .const v=> .const v
def FW(t:TT):Option AR->Option AR
  | none=>Jn
  | some x=>Jm (x.sub t)
def Y9(t:TT):List (Nat×Nat×AR)->List (Nat×Nat×AR)
  | []=>[]
  | (o,s,x)::r=>(o,s,x.sub t)::Y9 t r
def IZ(t:TT):List AR->List AR
  | []=>[]
  | x::r=>x.sub t::IZ t r
def AO.sub(t:TT):AO->AO
  | .move x=> .move (x.sub t)
  | .pick c a b=> .pick (c.sub t) (a.sub t) (b.sub t)
  | .alloc cs=> .alloc cs
  | .box x=> .box (x.sub t)
  | .build z u=> .build z (Y9 t u)
  | .buildSlice s n z u=> .buildSlice s n z (Y9 t u)
  | .load x=> .load (x.sub t)
  | .dw n x=> .dw n (x.sub t)
  | .store n a x=> .store n (a.sub t) (x.sub t)
  | .nilCheck x=> .nilCheck (x.sub t)
  | .bin op x y=> .bin op (x.sub t) (y.sub t)
  | .eqB n x y=> .eqB n (x.sub t) (y.sub t)
  | .isNil kd n x y=> .isNil kd n (x.sub t) (y.sub t)
  | .dz n T x y=> .dz n T (x.sub t) (y.sub t)
  | .un op x=> .un op (x.sub t)
  | .da k x=> .da k (x.sub t)
  | .kq x=> .kq (x.sub t)
  | .bu x=> .bu (x.sub t)
  | .gu B x=> .gu B (x.sub t)
  | .gi fn f c=> .gi fn (IZ t f) (IZ t c)
  | .makeMap=> .makeMap
  | .makeSlice b z n c=> .makeSlice b z (n.sub t) (c.sub t)
  | .slice s x lo hi mx=> .slice s (x.sub t) (FW t lo) (FW t hi) (FW t mx)
  | .cz n s x lo hi=> .cz n s (x.sub t) (FW t lo) (FW t hi)
  | .ep x lo hi=> .ep (x.sub t) (FW t lo) (FW t hi)
  | .fieldAddr o x=> .fieldAddr o (x.sub t)
  | .field o n x=> .field o n (x.sub t)
  | .indexAddr s x i=> .indexAddr s (x.sub t) (i.sub t)
  | .be n s x i=> .be n s (x.sub t) (i.sub t)
  | .index n s b x i=> .index n s b (x.sub t) (i.sub t)
  | .dc x i=> .dc (x.sub t) (i.sub t)
  | .lookup kd E z x i=> .lookup kd E z (x.sub t) (i.sub t)
  | .mapUpdate kd m k v=> .mapUpdate kd (m.sub t) (k.sub t) (v.sub t)
  | .extract x i=> .extract (x.sub t) i
  | .call f as=> .call (f.sub t) (IZ t as)
  | .append s b x y=> .append s b (x.sub t) (y.sub t)
  | .br b z x y=> .br b z (x.sub t) (y.sub t)
  | .jf s x y=> .jf s (x.sub t) (y.sub t)
  | .fq z x=> .fq z (x.sub t)
  | .len x=> .len (x.sub t)
  | .jd x=> .jd (x.sub t)
  | .iv x=> .iv (x.sub t)
  | .cap x=> .cap (x.sub t)
  | .max x xs=> .max (x.sub t) (IZ t xs)
  | .min x xs=> .min (x.sub t) (IZ t xs)
  | .pq B z x=> .pq B z (x.sub t)
  | .cu x=> .cu (x.sub t)
structure Rl (n:Nat) (t:TT) (a:List AV):Prop where
  len:a.length=n
  get:∀i,t.get i=dl a i
section
variable {n:Nat} {t:TT} {a:List AV}
def sY(hr:Rl n t a)(x:AR):ev [] (x.sub t)=ev a x:=by cases x<;>simp[AR.sub,ev,hr.get]
def TN(hr:Rl n t a):∀l:List AR,(IZ t l).map (ev [])=l.map (ev a)
  | []=>rfl
  | x::r=>by simp[IZ,sY hr,TN hr r]
def aFa(hr:Rl n t a)(x:Option AR):bnd [] (FW t x)=bnd a x:=by cases x<;>simp[FW,bnd,sY hr]
def LV(hr:Rl n t a):∀(u:List (Nat×Nat×AR)) (cs:List AV),qH [] cs (Y9 t u)=qH a cs u
  | [],cs=>rfl
  | (o,s,x)::r,cs=>by simp only[Y9,qH,sY hr,LV hr r]
def aDv(hr:Rl n t a)(h:H)(s:Nat)(x:AR):gZ [] h s (x.sub t)=gZ a h s x:=by simp only[gZ,sY hr]
def aFh(hr:Rl n t a)(h:H)(o:AO):aop [] h (o.sub t)=aop a h o:=by cases o<;>simp only[AO.sub,aop,sY hr,TN hr,aFa hr,LV hr,aDv hr]
end
def qO:∀(a:List AV) (i:Nat) (v:AV) (j:Nat),i<a.length->dl (iz a i v) j=if j=i then v else dl a j
  | [],i,v,j,h=>by simp at h
  | x::l,0,v,j,h=>by cases j<;>simp[iz,dl]
  | x::l,i+1,v,j,h=>by
    cases j with
    | zero=>simp[iz,dl]
    | succ j=>simp only[iz,dl];rw[qO l i v j (by simpa using h)];simp
def j4:∀(a:List AV) (i:Nat) (v:AV),(iz a i v).length=a.length
  | [],_,_=>rfl
  | _::_,0,_=>rfl
  | _::l,i+1,v=>by simp[iz,j4 l i v]
def Rl.set{n:Nat}{t u:TT}{a:List AV}{i:Nat}{v:AV}(hr:Rl n t a)(y:i<n)(ht:∀j,u.get j=if j=i then v else t.get j):Rl n u (iz a i v):=by refine⟨by rw[j4];exact hr.len,fun j=>?_⟩;rw[ht j,qO a i v j (by rw[hr.len];exact y),hr.get j]
noncomputable def TT.gk(t:TT):Nat->(AV->Bool)->Bool:=
  TT.rec (motive:=fun _=>Nat->(AV->Bool)->Bool) (fun _ k=>k .aa)
    (fun v _ _ u y i k=>Ag (Ag (y (Cm (Ca i (nat_lit 2)) (nat_lit 1)) k) (u (Ca i (nat_lit 2)) k) (Ae (Cv i (nat_lit 2)) (nat_lit 1))) (k v) (Ae i (nat_lit 0))) t
def TT.nc:∀(t:TT) (i:Nat) (k:AV->Bool),t.gk i k=k (t.get i)
  | .leaf,i,k=>rfl
  | .node v l r,i,k=>by
    show Ag (Ag (r.gk (i / 2-1) k) (l.gk (i / 2) k) (Ae (i % 2) 1)) (k v) (Ae i 0)=k (bif Ae i 0 then v else bif Ae (i % 2) 1 then l.get (i / 2)else r.get (i / 2-1))
    cases Ae i 0 with
    | true=>rfl
    | false=>cases Ae (i % 2) 1 with
      | true=>exact TT.nc l _ k
      | false=>exact TT.nc r _ k
noncomputable def TT.sk(v:AV)(t:TT):Nat->(TT->Bool)->Bool:=
  TT.rec (motive:=fun _=>Nat->(TT->Bool)->Bool) (fun _ _=>Jp)
    (fun x l r u y i k=>Ag (Ag (y (Cm (Ca i (nat_lit 2)) (nat_lit 1)) fun t=>k (.node x l t)) (u (Ca i (nat_lit 2)) fun t=>k (.node x t r)) (Ae (Cv i (nat_lit 2)) (nat_lit 1))) (k (.node v l r)) (Ae i (nat_lit 0))) t
def TT.iu{v:AV} :∀{t:TT} {i:Nat} {k:TT->Bool},TT.sk v t i k=Jo->∃G,k G=Jo/\∀j,G.get j=if j=i then v else t.get j
  | .leaf,i,k,h=>by cases h
  | .node x l r,i,k,h=>by
    have B:Ag (Ag (TT.sk v r (i / 2-1) fun t=>k (.node x l t)) (TT.sk v l (i / 2) fun t=>k (.node x t r)) (Ae (i % 2) 1)) (k (.node v l r)) (Ae i 0)=Jo:=h
    cases hb:Ae i 0 with
    | true=>
      rw[hb]at B;have:=Bd hb;subst this;refine⟨_,B,fun j=>?_⟩;rw[TT.dy,TT.dy];by_cases I:j=0
      · simp[I]
      · simp[I]
    | false=>
      have J:i≠0:=by rintro rfl;cases hb
      rw[hb]at B
      cases E:Ae (i % 2) 1 with
      | true=>
        rw[E]at B;have hm:=Bd E;obtain⟨G,h1,h2⟩:=TT.iu (t:=l) (k:=fun t=>k (.node x t r)) B;refine⟨_,h1,fun j=>?_⟩;rw[TT.dy,TT.dy];by_cases u:j=0
        · rw[if_pos u,if_neg (by omega),if_pos u]
        · rw[if_neg u,if_neg u];by_cases y:j % 2=1
          · rw[if_pos y,if_pos y,h2];by_cases e:j=i
            · subst e;simp
            · rw[if_neg (by omega),if_neg e]
          · rw[if_neg y,if_neg (by omega),if_neg y]
      | false=>
        rw[E]at B;have hm:i % 2≠1:=by intro e;rw[e]at E;cases E
        obtain⟨G,h1,h2⟩:=TT.iu (t:=r) (k:=fun t=>k (.node x l t)) B;refine⟨_,h1,fun j=>?_⟩;rw[TT.dy,TT.dy];by_cases u:j=0
        · rw[if_pos u,if_neg (by omega),if_pos u]
        · rw[if_neg u,if_neg u];by_cases y:j % 2=1
          · rw[if_pos y,if_neg (by omega),if_pos y]
          · rw[if_neg y,if_neg y,h2];by_cases e:j=i
            · subst e;simp
            · rw[if_neg (by omega),if_neg e]
def tj0:TT:= .node .aa .leaf .leaf
def tj1:TT:= .node .aa tj0 tj0
def tj2:TT:= .node .aa tj1 tj1
def tj3:TT:= .node .aa tj2 tj2
def tj4:TT:= .node .aa tj3 tj3
def tj5:TT:= .node .aa tj4 tj4
def tj6:TT:= .node .aa tj5 tj5
def tj7:TT:= .node .aa tj6 tj6
def tj8:TT:= .node .aa tj7 tj7
def tj9:TT:= .node .aa tj8 tj8
def tjn{t:TT}(h:∀i,t.get i= .aa)(i:Nat):(TT.node .aa t t).get i= .aa:=by
  rw[TT.dy];split
  · rfl
  · split<;>exact h _
def xF(i:Nat):tj0.get i= .aa:=tjn (t:= .leaf) (fun _=>rfl) i
def aDs(i:Nat):tj9.get i= .aa:=tjn (fun i=>tjn (fun i=>tjn (fun i=>tjn (fun i=>tjn (fun i=>tjn (fun i=>tjn (fun i=>tjn (fun i=>tjn xF i) i) i) i) i) i) i) i) i
noncomputable def HT.gk(t:HT):Nat->(bq->Bool)->Bool:=
  HT.rec (motive:=fun _=>Nat->(bq->Bool)->Bool) (fun _ _=>Jp)
    (fun v _ _ u y i k=>Ag (Ag (y (Cm (Ca i (nat_lit 2)) (nat_lit 1)) k) (u (Ca i (nat_lit 2)) k) (Ae (Cv i (nat_lit 2)) (nat_lit 1))) (Ep v Jp k) (Ae i (nat_lit 0))) t
def HT.dy(y:Option bq)(l r:HT)(j:Nat):(HT.node y l r).get j=if j=0 then y else if j % 2=1 then l.get (j / 2)else r.get (j / 2-1):=rfl
def bC{i j:Nat}(h:Ae i j=Jp):i≠j:=by rintro rfl;rw[Nat.beq_refl]at h;cases h
def HT.ol:∀{t:HT} {i:Nat} {k:bq->Bool},t.gk i k=Jo->∃o,t.get i=Jm o/\k o=Jo
  | .leaf,i,k,h=>by cases h
  | .node v l r,i,k,h=>by
    have u:Ag (Ag (r.gk (i / 2-1) k) (l.gk (i / 2) k) (Ae (i % 2) 1)) (Ep v Jp k) (Ae i 0)=Jo:=h;rw[HT.dy]
    cases hb:Ae i 0 with
    | true=>
      rw[hb]at u;rw[if_pos (Bd hb)]
      cases v with
      | none=>cases u
      | some o=>exact⟨o,rfl,u⟩
    | false=>
      rw[hb]at u;rw[if_neg (bC hb)]
      cases y:Ae (i % 2) 1 with
      | true=>rw[y]at u;rw[if_pos (Bd y)];exact HT.ol (t:=l) u
      | false=>rw[y]at u;rw[if_neg (bC y)];exact HT.ol (t:=r) u
noncomputable def HT.mk(o:bq)(u:Nat):Nat->(HT->Bool)->Bool:=
  Fu (motive:=fun _=>Nat->(HT->Bool)->Bool) (fun _ _=>Jp)
    (fun _ y i k=>Ag (Ag (y (Cm (Ca i (nat_lit 2)) (nat_lit 1)) fun t=>k (.node Jn .leaf t)) (y (Ca i (nat_lit 2)) fun t=>k (.node Jn t .leaf)) (Ae (Cv i (nat_lit 2)) (nat_lit 1))) (k (.node (Jm o) .leaf .leaf)) (Ae i (nat_lit 0))) u
def HT.pu(o:bq)(u i:Nat):HT.set o (u+1) .leaf i=if i=0 then .node (Jm o) .leaf .leaf else if i % 2=1 then .node Jn (HT.set o u .leaf (i / 2)) .leaf else .node Jn .leaf (HT.set o u .leaf (i / 2-1)):=rfl
def HT.pt(o:bq)(u i:Nat)(v:Option bq)(l r:HT):HT.set o (u+1) (.node v l r) i=if i=0 then .node (Jm o) l r else if i % 2=1 then .node v (HT.set o u l (i / 2)) r else .node v l (HT.set o u r (i / 2-1)):=rfl
def HT.qn{o:bq} :∀{u i f:Nat} {k:HT->Bool},i<f->HT.mk o u i k=Jo->k (HT.set o f .leaf i)=Jo
  | 0,i,f,k,E,h=>by cases h
  | u+1,i,0,k,E,h=>by omega
  | u+1,i,f+1,k,E,h=>by
    have y:Ag (Ag (HT.mk o u (i / 2-1) fun t=>k (.node Jn .leaf t)) (HT.mk o u (i / 2) fun t=>k (.node Jn t .leaf)) (Ae (i % 2) 1)) (k (.node (Jm o) .leaf .leaf)) (Ae i 0)=Jo:=h;rw[HT.pu]
    cases hb:Ae i 0 with
    | true=>rw[hb]at y;rw[if_pos (Bd hb)];exact y
    | false=>
      rw[hb]at y;have:=bC hb;rw[if_neg this]
      cases B:Ae (i % 2) 1 with
      | true=>rw[B]at y;rw[if_pos (Bd B)];exact HT.qn (k:=fun t=>k (.node Jn t .leaf)) (by omega) y
      | false=>rw[B]at y;rw[if_neg (bC B)];exact HT.qn (k:=fun t=>k (.node Jn .leaf t)) (by omega) y
noncomputable def HT.sk(o:bq)(t:HT):Nat->(HT->Bool)->Bool:=
  HT.rec (motive:=fun _=>Nat->(HT->Bool)->Bool) (fun i k=>HT.mk o (nat_lit 64) i k)
    (fun v l r u y i k=>Ag (Ag (y (Cm (Ca i (nat_lit 2)) (nat_lit 1)) fun t=>k (.node v l t)) (u (Ca i (nat_lit 2)) fun t=>k (.node v t r)) (Ae (Cv i (nat_lit 2)) (nat_lit 1))) (k (.node (Jm o) l r)) (Ae i (nat_lit 0))) t
def HT.iu{o:bq} :∀{t:HT} {i f:Nat} {k:HT->Bool},i<f->HT.sk o t i k=Jo->k (HT.set o f t i)=Jo
  | .leaf,i,f,k,B,h=>HT.qn B (show HT.mk o 64 i k=Jo from h)
  | .node v l r,i,0,k,B,h=>by omega
  | .node v l r,i,f+1,k,B,h=>by
    have u:Ag (Ag (HT.sk o r (i / 2-1) fun t=>k (.node v l t)) (HT.sk o l (i / 2) fun t=>k (.node v t r)) (Ae (i % 2) 1)) (k (.node (Jm o) l r)) (Ae i 0)=Jo:=h;rw[HT.pt]
    cases hb:Ae i 0 with
    | true=>rw[hb]at u;rw[if_pos (Bd hb)];exact u
    | false=>
      rw[hb]at u;have:=bC hb;rw[if_neg this]
      cases y:Ae (i % 2) 1 with
      | true=>rw[y]at u;rw[if_pos (Bd y)];exact HT.iu (t:=l) (k:=fun t=>k (.node v t r)) (by omega) u
      | false=>rw[y]at u;rw[if_neg (bC y)];exact HT.iu (t:=r) (k:=fun t=>k (.node v l t)) (by omega) u
noncomputable def fN(m:Nat)(k:Nat->Bool):Bool:=Nat.casesOn m (k Bs) fun p=>k (Cn p)
def qI(m:Nat)(k:Nat->Bool):fN m k=k m:=by cases m<;>rfl
noncomputable def fI(n:Int)(k:Int->Bool):Bool:=Br n (fun m=>fN m fun m=>k (.ofNat m)) fun m=>fN m fun m=>k (.negSucc m)
def TM(n:Int)(k:Int->Bool):fI n k=k n:=by cases n<;>simp[fI,qI]
noncomputable def fB(b:Bool)(k:Bool->Bool):Bool:=Gp b (k Jp) (k Jo)
def aGb(b:Bool)(k:Bool->Bool):fB b k=k b:=by cases b<;>rfl
noncomputable def kif(c:Bool)(k:Bool):Bool:=Ag Jp k c
def kif_ok{c k:Bool}(h:kif c k=Jo):c=Jo/\k=Jo:=by
  cases c with
  | false=>cases h
  | true=>exact⟨rfl,h⟩
noncomputable def H.gk(h:H)(i:Nat)(k:bq->Bool):Bool:=H.casesOn h fun n t=>kif (Ao (Cn i) n) (HT.gk t i k)
def H.ol{h:H}{i:Nat}{k:bq->Bool}(u:h.gk i k=Jo):∃o,h.get i=Jm o/\k o=Jo:=by obtain⟨n,t⟩:=h;obtain⟨h1,h2⟩:=kif_ok u;obtain⟨o,h3,y⟩:=HT.ol h2;refine⟨o,?_,y⟩;show(if i<n then t.get i else Jn)=Jm o;rw[if_pos (show i<n from Bt h1)];exact h3
noncomputable def H.ck(h:H)(i:Nat)(k:Nat->Bool->List AV->Bool):Bool:=h.gk i fun o=>bq.casesOn o (fun v rw cs=>k v rw cs) (fun _ _=>Jp) (fun _ _=>Jp) Jp
def H.pg{h:H}{i:Nat}{k:Nat->Bool->List AV->Bool}(u:h.ck i k=Jo):∃ver rw cs,h.get i=Jm (.cells ver rw cs)/\k ver rw cs=Jo:=by
  obtain⟨o,h1,h2⟩:=H.ol u
  cases o with
  | cells ver rw cs=>exact⟨ver,rw,cs,h1,h2⟩
  | _=>cases h2
noncomputable def H.ak(h:H)(o:bq)(k:H->Bool):Bool:=H.casesOn h fun n t=>fN (Cn n) fun u=>HT.sk o t n fun y=>k ⟨u,y⟩
def H.mg{h:H}{o:bq}{k:H->Bool}(u:h.ak o k=Jo):k (h.alloc o)=Jo:=by obtain⟨n,t⟩:=h;unfold H.ak at u;simp only[qI]at u;exact HT.iu (k:=fun y=>k ⟨n+1,y⟩) (Eb n) u
noncomputable def H.sk(h:H)(i:Nat)(o:bq)(k:H->Bool):Bool:=H.casesOn h fun n t=>HT.sk o t i fun u=>k ⟨n,u⟩
def H.iu{h:H}{i:Nat}{o:bq}{k:H->Bool}(u:h.sk i o k=Jo):k (h.set i o)=Jo:=by obtain⟨n,t⟩:=h;exact HT.iu (k:=fun y=>k ⟨n,y⟩) (Eb i) u
noncomputable def lgk(l:List AV):Nat->(AV->Bool)->Bool:=
  Cw (motive:=fun _=>Nat->(AV->Bool)->Bool) (fun _ _=>Jp) (fun v _ u i k=>Ag (u (Cm i (nat_lit 1)) k) (k v) (Ae i (nat_lit 0))) l
def uM:∀{l:List AV} {i:Nat} {k:AV->Bool},lgk l i k=Jo->∃v,l[i]? =Jm v/\k v=Jo
  | [],i,k,h=>by cases h
  | v::l,0,k,h=>⟨v,rfl,h⟩
  | v::l,i+1,k,h=>uM (l:=l) (i:=i) h
noncomputable def lsk(w:AV)(l:List AV):Nat->(List AV->Bool)->Bool:=
  Cw (motive:=fun _=>Nat->(List AV->Bool)->Bool) (fun _ _=>Jp) (fun v tl u i k=>Ag (u (Cm i (nat_lit 1)) fun l=>k (v::l)) (k (w::tl)) (Ae i (nat_lit 0))) l
def aAS{w:AV} :∀{l:List AV} {i:Nat} {k:List AV->Bool},lsk w l i k=Jo->i+1<=l.length/\k (over l i [w])=Jo
  | [],i,k,h=>by cases h
  | v::l,0,k,h=>⟨by simp,by have u:k (w::l)=Jo:=h;simpa [over]using u⟩
  | v::l,i+1,k,h=>by obtain⟨h1,h2⟩:=aAS (l:=l) (i:=i) (k:=fun l=>k (v::l)) h;exact⟨by simpa using h1,h2⟩
noncomputable def ldk(l:List AV):Nat->(List AV->Bool)->Bool:=
  Cw (motive:=fun _=>Nat->(List AV->Bool)->Bool) (fun i k=>kif (Ae i (nat_lit 0)) (k [])) (fun v tl u i k=>Ag (u (Cm i (nat_lit 1)) k) (k (v::tl)) (Ae i (nat_lit 0))) l
def O1:∀{l:List AV} {i:Nat} {k:List AV->Bool},ldk l i k=Jo->i<=l.length/\k (l.drop i)=Jo
  | [],i,k,h=>by obtain⟨h1,h2⟩:=kif_ok (c:=Ae i 0) h;have:=Bd h1;subst this;exact⟨Ac _,h2⟩
  | v::l,0,k,h=>⟨by simp,h⟩
  | v::l,i+1,k,h=>by obtain⟨h1,h2⟩:=O1 (l:=l) (i:=i) (k:=k) h;exact⟨by simpa using h1,h2⟩
noncomputable def ltk(l:List AV):Nat->(List AV->Bool)->Bool:=
  Cw (motive:=fun _=>Nat->(List AV->Bool)->Bool) (fun i k=>kif (Ae i (nat_lit 0)) (k [])) (fun v _ u i k=>Ag (u (Cm i (nat_lit 1)) fun l=>k (v::l)) (k []) (Ae i (nat_lit 0))) l
def O0:∀{l:List AV} {i:Nat} {k:List AV->Bool},ltk l i k=Jo->i<=l.length/\k (l.take i)=Jo
  | [],i,k,h=>by obtain⟨h1,h2⟩:=kif_ok (c:=Ae i 0) h;have:=Bd h1;subst this;exact⟨Ac _,h2⟩
  | v::l,0,k,h=>⟨by simp,h⟩
  | v::l,i+1,k,h=>by obtain⟨h1,h2⟩:=O0 (l:=l) (i:=i) (k:=fun l=>k (v::l)) h;exact⟨by simpa using h1,h2⟩
noncomputable def lak(l m:List AV)(k:List AV->Bool):Bool:=
  Cw (motive:=fun _=>(List AV->Bool)->Bool) (fun k=>k m) (fun v _ u k=>u fun t=>k (v::t)) l k
def qU:∀(l m:List AV) (k:List AV->Bool),lak l m k=k (l++m)
  | [],m,k=>rfl
  | v::l,m,k=>qU l m fun t=>k (v::t)
noncomputable def gck(h:H)(b i n:Nat)(k:List AV->Bool):Bool:=h.ck b fun _ _ cs=>ldk cs i fun l=>ltk l n k
def HF{h:H}{b i n:Nat}{k:List AV->Bool}(u:gck h b i n k=Jo):∃cs,bB h b i n=Jm cs/\cs.length=n/\k cs=Jo:=by
  obtain⟨ver,rw,cs,h1,h2⟩:=H.pg u;obtain⟨h3,y⟩:=O1 h2;obtain⟨B,E⟩:=O0 y;rw[Er]at B;refine⟨_,?_,?_,E⟩
  · unfold bB;rw[h1];simp only;rw[if_pos (by omega)]
  · rw[List.length_take,Er];omega
noncomputable def oN(v:AV)(k:Bool->Bool):Bool:=AV.casesOn (motive_1:=fun _=>Bool) v Jp (fun b=>k b) (fun _ _=>Jp) (fun _=>Jp) Jp (fun _ _=>Jp) Jp (fun _ _ _ _ _=>Jp) Jp (fun _=>Jp) (fun _ _ _=>Jp) Jp (fun _ _=>Jp) Jp (fun _=>Jp) fun _=>Jp
def kD{v:AV}{k:Bool->Bool}(h:oN v k=Jo):∃b,v= .bool b/\k b=Jo:=by cases v<;>first | exact⟨_,rfl,h⟩ | cases h
noncomputable def EK(v:AV)(k:IntKind->Int->Bool):Bool:=AV.casesOn (motive_1:=fun _=>Bool) v Jp (fun _=>Jp) (fun a b=>k a b) (fun _=>Jp) Jp (fun _ _=>Jp) Jp (fun _ _ _ _ _=>Jp) Jp (fun _=>Jp) (fun _ _ _=>Jp) Jp (fun _ _=>Jp) Jp (fun _=>Jp) fun _=>Jp
def oM{v:AV}{k:IntKind->Int->Bool}(h:EK v k=Jo):∃a b,v= .int a b/\k a b=Jo:=by cases v<;>first | exact⟨_,_,rfl,h⟩ | cases h
noncomputable def qE(v:AV)(k:Nat->Nat->Bool):Bool:=AV.casesOn (motive_1:=fun _=>Bool) v Jp (fun _=>Jp) (fun _ _=>Jp) (fun _=>Jp) Jp (fun a b=>k a b) Jp (fun _ _ _ _ _=>Jp) Jp (fun _=>Jp) (fun _ _ _=>Jp) Jp (fun _ _=>Jp) Jp (fun _=>Jp) fun _=>Jp
def kS{v:AV}{k:Nat->Nat->Bool}(h:qE v k=Jo):∃a b,v= .ptr a b/\k a b=Jo:=by cases v<;>first | exact⟨_,_,rfl,h⟩ | cases h
noncomputable def SW(v:AV)(k:List AV->Bool):Bool:=AV.casesOn (motive_1:=fun _=>Bool) v Jp (fun _=>Jp) (fun _ _=>Jp) (fun _=>Jp) Jp (fun _ _=>Jp) Jp (fun _ _ _ _ _=>Jp) Jp (fun _=>Jp) (fun _ _ _=>Jp) Jp (fun _ _=>Jp) Jp (fun cs=>k cs) fun _=>Jp
def zV{v:AV}{k:List AV->Bool}(h:SW v k=Jo):∃a,v= .agg a/\k a=Jo:=by cases v<;>first | exact⟨_,rfl,h⟩ | cases h
noncomputable def ST(v:AV)(k:List AV->Bool):Bool:=AV.casesOn (motive_1:=fun _=>Bool) v Jp (fun _=>Jp) (fun _ _=>Jp) (fun _=>Jp) Jp (fun _ _=>Jp) Jp (fun _ _ _ _ _=>Jp) Jp (fun _=>Jp) (fun _ _ _=>Jp) Jp (fun _ _=>Jp) Jp (fun _=>Jp) fun cs=>k cs
def OM{v:AV}{k:List AV->Bool}(h:ST v k=Jo):∃a,v= .tuple a/\k a=Jo:=by cases v<;>first | exact⟨_,rfl,h⟩ | cases h
noncomputable def pK(v:AV)(u:Bool)(k:Bool->Nat->Nat->Nat->Nat->Bool):Bool:=AV.casesOn (motive_1:=fun _=>Bool) v Jp (fun _=>Jp) (fun _ _=>Jp) (fun _=>Jp) Jp (fun _ _=>Jp) u (fun a b c d e=>k a b c d e) Jp (fun _=>Jp) (fun _ _ _=>Jp) Jp (fun _ _=>Jp) Jp (fun _=>Jp) fun _=>Jp
def kR{v:AV}{u:Bool}{k:Bool->Nat->Nat->Nat->Nat->Bool}(h:pK v u k=Jo):(v= .ag/\u=Jo)\/∃a b c d e,v= .slice a b c d e/\k a b c d e=Jo:=by cases v<;>first | exact .inl ⟨rfl,h⟩ | exact .inr ⟨_,_,_,_,_,rfl,h⟩ | cases h
noncomputable def GK(v:AV)(k:Bool->Bool)(u:Bool):Bool:=AV.casesOn (motive_1:=fun _=>Bool) v Jp (fun b=>k b) (fun _ _=>Jp) (fun _=>Jp) Jp (fun _ _=>Jp) Jp (fun _ _ _ _ _=>Jp) Jp (fun _=>Jp) (fun _ _ _=>Jp) Jp (fun _ _=>Jp) Jp (fun _=>Jp) fun _=>u
def OO{v:AV}{k:Bool->Bool}{u:Bool}(h:GK v k u=Jo):(∃b,v= .bool b/\k b=Jo)\/(∃l,v= .tuple l/\u=Jo):=by cases v<;>first | exact .inl ⟨_,rfl,h⟩ | exact .inr ⟨_,rfl,h⟩ | cases h
noncomputable def TH(v:AV)(k:Bool):Bool:=AV.casesOn (motive_1:=fun _=>Bool) v Jp (fun _=>k) (fun _ _=>k) (fun _=>k) k (fun _ _=>k) k (fun _ _ _ _ _=>k) k (fun _=>k) (fun _ _ _=>k) k (fun _ _=>k) k (fun _=>Jp) fun _=>Jp
def A9{v:AV}{k:Bool}(h:TH v k=Jo):v.one=Jo/\v.cells=[v]/\k=Jo:=by cases v<;>first | exact⟨rfl,rfl,h⟩ | cases h
noncomputable def HQ(l:List AV)(k:Bool):Bool:=Cw (motive:=fun _=>Bool) k (fun v _ u=>TH v u) l
def pU:∀{l:List AV} {k:Bool},HQ l k=Jo->l.all AV.one=Jo/\k=Jo
  | [],k,h=>⟨rfl,h⟩
  | v::l,k,h=>by obtain⟨h1,_,h3⟩:=A9 (v:=v) h;obtain⟨u,y⟩:=pU (l:=l) h3;exact⟨by simp[h1,u],y⟩
noncomputable def OP(v:AV)(k:Fn->List AV->List AV->Bool):Bool:=AV.casesOn (motive_1:=fun _=>Bool) v Jp (fun _=>Jp) (fun _ _=>Jp) (fun _=>Jp) Jp (fun _ _=>Jp) Jp (fun _ _ _ _ _=>Jp) Jp (fun _=>Jp) (fun a b c=>k a b c) Jp (fun _ _=>Jp) Jp (fun _=>Jp) fun _=>Jp
def EL{v:AV}{k:Fn->List AV->List AV->Bool}(h:OP v k=Jo):∃a b c,v= .func a b c/\k a b c=Jo:=by cases v<;>first | exact⟨_,_,_,rfl,h⟩ | cases h
abbrev KO:=AV->H->List Nat->Bool
def K2:IntKind->Nat
  | .i8=>nat_lit 0 | .i16=>nat_lit 1 | .i32=>nat_lit 2 | .i64=>nat_lit 3 | .u8=>nat_lit 4 | .u16=>nat_lit 5 | .u32=>nat_lit 6 | .u64=>nat_lit 7
def AU{a b:IntKind}(h:Ae (K2 a) (K2 b)=Jo):a=b:=by cases a<;>cases b<;>first | rfl | cases h
def kmx:IntKind->Nat
  | .i8=>nat_lit 127 | .i16=>nat_lit 32767 | .i32=>nat_lit 2147483647 | .i64=>nat_lit 9223372036854775807 | .u8=>nat_lit 255 | .u16=>nat_lit 65535 | .u32=>nat_lit 4294967295 | .u64=>nat_lit 18446744073709551615
def M8{k:IntKind}{m:Nat}(h:m<=kmx k):k.wrap (Ce m)=Ce m:=by have e:Ce m=(m:Int):=rfl;rw[e];cases k<;>(simp only[kmx]at h;simp only[IntKind.wrap,IntKind.bits,IntKind.signed];simp;omega)
noncomputable def EQ(kd:IntKind)(n:Int)(k:Int->Bool):Bool:=Br n (fun m=>Ag (fI (kd.wrap (.ofNat m)) k) (fN m fun m=>k (.ofNat m)) (Ao m (kmx kd))) fun m=>fI (kd.wrap (.negSucc m)) k
def AP(kd:IntKind)(n:Int)(k:Int->Bool):EQ kd n k=k (kd.wrap n):=by
  cases n with
  | ofNat m=>
    show @Ag (fun _=>Bool) (fI (kd.wrap (.ofNat m)) k) (fN m fun m=>k (.ofNat m)) (Ao m (kmx kd))=_
    cases h:Ao m (kmx kd)with
    | true=>rw[M8 (Bt h)];exact qI _ _
    | false=>exact TM _ _
  | negSucc m=>exact TM _ _
noncomputable def aA5(x y:Int):Bool:=Br x (fun a=>Br y (fun b=>Ao (Cn a) b) fun _=>Jp) fun a=>Br y (fun _=>Jo) fun b=>Ao (Cn b) a
def aEo(x y:Int):aA5 x y=decide (x<y):=by
  cases x with
  | ofNat a=>cases y with
    | ofNat b=>
      show Ao (a+1) b=_;by_cases h:a<b
      · rw[Hs h];simp;omega
      · have:Ao (a+1) b=Jp:=by cases hb:Ao (a+1) b with
          | true=>exact absurd (Bt hb) (by omega)
          | false=>rfl
        rw[this];simp;omega
    | negSucc b=>show Jp=_;simp;omega
  | negSucc a=>cases y with
    | ofNat b=>show Jo=_;simp;omega
    | negSucc b=>
      show Ao (b+1) a=_;by_cases h:b<a
      · rw[Hs h];simp;omega
      · have:Ao (b+1) a=Jp:=by cases hb:Ao (b+1) a with
          | true=>exact absurd (Bt hb) (by omega)
          | false=>rfl
        rw[this];simp;omega
noncomputable def WN(x y:Int):Bool:=Br x (fun a=>Br y (fun b=>Ae a b) fun _=>Jp) fun a=>Br y (fun _=>Jp) fun b=>Ae a b
def TB(x y:Int):WN x y=(x==y):=by
  cases x with
  | ofNat a=>cases y with
    | ofNat b=>
      show Ae a b=_
      cases h:Ae a b with
      | true=>have:=Bd h;subst this;simp
      | false=>have:=bC h;symm;simp;omega
    | negSucc b=>symm;show _=Jp;simp<;>omega
  | negSucc a=>cases y with
    | ofNat b=>symm;show _=Jp;simp<;>omega
    | negSucc b=>
      show Ae a b=_
      cases h:Ae a b with
      | true=>have:=Bd h;subst this;simp
      | false=>have:=bC h;symm;simp;omega
noncomputable def aIP(x y:Int):Int:=Br x (fun a=>Br y (fun b=> .ofNat (Fv a b)) fun b=> .ofNat a+ .negSucc b) fun a=> .negSucc a+y
def aEM(x y:Int):aIP x y=x+y:=by cases x<;>cases y<;>rfl
noncomputable def aIK(x y:Int):Int:=Br x (fun a=>Br y (fun b=>Ag (.ofNat a- .ofNat b) (.ofNat (Cm a b)) (Ao b a)) fun b=> .ofNat a- .negSucc b) fun a=> .negSucc a-y
def aEI(x y:Int):aIK x y=x-y:=by
  cases x with
  | ofNat a=>cases y with
    | ofNat b=>
      show @Ag (fun _=>Int) (Ce a- .ofNat b) (.ofNat (Cm a b)) (Ao b a)=_
      cases h:Ao b a with
      | true=>have:=Bt h;show Ce (a-b)=Ce a-Ce b;simp;omega
      | false=>rfl
    | negSucc b=>rfl
  | negSucc a=>rfl
noncomputable def aIO(x y:Int):Int:=Br x (fun a=>Br y (fun b=> .ofNat (Cv a b)) fun b=>(Ce a).tmod (.negSucc b)) fun a=>(Ht a).tmod y
def aEL(x y:Int):aIO x y=x.tmod y:=by cases x<;>cases y<;>rfl
noncomputable def aIL(x y:Int):Int:=Br x (fun a=>Br y (fun b=> .ofNat (Ca a b)) fun b=>(Ce a).tdiv (.negSucc b)) fun a=>(Ht a).tdiv y
def aEJ(x y:Int):aIL x y=x.tdiv y:=by cases x<;>cases y<;>rfl
noncomputable def aIN(x y:Int):Int:=Br x (fun a=>Br y (fun b=> .ofNat (Dn a b)) fun b=>(Ce a)*(.negSucc b)) fun a=>(Ht a)*y
def aEK(x y:Int):aIN x y=x*y:=by cases x<;>cases y<;>rfl
noncomputable def kev(x:AR)(t:TT)(k:AV->Bool):Bool:=AR.casesOn x (fun i=>t.gk i k) fun v=>k v
section
variable {n:Nat} {t:TT} {a:List AV}
def bM(hr:Rl n t a)(x:AR)(k:AV->Bool):kev x t k=k (ev a x):=by
  cases x with
  | tmp i=>show t.gk i k=_;rw[TT.nc,hr.get];rfl
  | const v=>rfl
end
noncomputable def aA7(l:List AR)(t:TT):(List AV->Bool)->Bool:=Cw (motive:=fun _=>(List AV->Bool)->Bool) (fun k=>k []) (fun x _ u k=>kev x t fun v=>u fun y=>k (v::y)) l
def xS{n:Nat}{t:TT}{a:List AV}(hr:Rl n t a):∀(l:List AR) (k:List AV->Bool),aA7 l t k=k (l.map (ev a))
  | [],k=>rfl
  | x::l,k=>by show kev x t (fun v=>aA7 l t fun u=>k (v::u))=_;rw[bM hr,xS hr l];rfl
def fO{β:Type}(v:Option β)(k:β->Bool):Bool:=match v with
  | some v=>k v
  | none=>Jp
def aIT{β:Type}{v:Option β}{k:β->Bool}(h:fO v k=Jo):∃r,v=Jm r/\k r=Jo:=by
  cases v with
  | none=>cases h
  | some x=>exact⟨x,rfl,h⟩
def fVb(v:AV)(k:AV->Bool):Bool:=fO (fV v fun v=>Jm v) k
def aHv(v:AV)(k:AV->Bool):fVb v k=k v:=by unfold fVb;rw[aIS];rfl
def fHb(h:H)(i:Nat)(k:H->Bool):Bool:=fO (fH h i fun h=>Jm h) k
def aHy(h:H)(i:Nat)(k:H->Bool):fHb h i k=k h:=by unfold fHb;rw[aIU];rfl
def AO.rc(t:TT)(h:H):AO->Nat
  | .store _ p _=>match ev [] (p.sub t)with
    | .ptr b _=>b
    | _=>h.next
  | .mapUpdate _ m _ _=>match ev [] (m.sub t)with
    | .map r=>r
    | _=>h.next
  | _=>h.next
def uQ(o:AO)(t:TT)(h:H)(k:KO):Bool:=fO (aop [] h (o.sub t)) fun r=>fVb r.1 fun v=>fHb r.2.1 (o.rc t h) fun u=>k v u r.2.2
noncomputable def aBg(x:AR)(t:TT)(h:H)(k:KO):Bool:=kev x t fun v=>k v h []
noncomputable def aBe(c x y:AR)(t:TT)(h:H)(k:KO):Bool:=kev c t fun c=>oN c fun b=>Ag (kev y t fun v=>k v h []) (kev x t fun v=>k v h []) b
noncomputable def aBn(cs:List AV)(t:TT)(h:H)(k:KO):Bool:=h.ak (.cells Bs Jo cs) fun u=>H.casesOn h fun n _=>k (.ptr n Bs) u []
noncomputable def T6(v:AV)(y:List AV->Bool)(u:Bool):Bool:=AV.casesOn (motive_1:=fun _=>Bool) v u (fun _=>u) (fun _ _=>u) (fun _=>u) u (fun _ _=>u) u (fun _ _ _ _ _=>u) u (fun _=>u) (fun _ _ _=>u) u (fun _ _=>u) u (fun cs=>y cs) fun _=>u
noncomputable def aHf(x:AR)(t:TT)(h:H)(k:KO):Bool:=kev x t fun v=>H.casesOn h fun n _=>T6 v (fun cs=>HQ cs (h.ak (.cells Bs Jo cs) fun u=>k (.ptr n Bs) u [])) (TH v (h.ak (.cells Bs Jo [v]) fun u=>k (.ptr n Bs) u []))
noncomputable def aBk(x:AR)(t:TT)(h:H)(k:KO):Bool:=kev x t fun v=>qE v fun b o=>h.ck b fun _ _ cs=>lgk cs o fun v=>k v h [b]
noncomputable def AX(n:Nat)(x:AR)(t:TT)(h:H)(k:KO):Bool:=kev x t fun v=>qE v fun b o=>gck h b o n fun cs=>k (.agg cs) h [b]
noncomputable def G3(p x:AR)(t:TT)(h:H)(k:KO):Bool:=kev p t fun p=>qE p fun b o=>kev x t fun v=>TH v (h.ck b fun ver rw cs=>kif rw (lsk v cs o fun y=>fN (Cn ver) fun u=>h.sk b (.cells u Jo y) fun B=>k (.tuple []) B []))
noncomputable def O7(n:Nat)(p x:AR)(t:TT)(h:H)(k:KO):Bool:=Ag (uQ (.store n p x) t h k) (kev x t fun v=>T6 v (fun _=>uQ (.store n p x) t h k) (G3 p x t h k)) (Ae n (nat_lit 1))
noncomputable def aF1(v:AV)(y:Nat->Nat->Bool)(u:Bool):Bool:=AV.casesOn (motive_1:=fun _=>Bool) v u (fun _=>u) (fun _ _=>u) (fun _=>u) u (fun a b=>y a b) u (fun _ _ _ _ _=>u) u (fun _=>u) (fun _ _ _=>u) u (fun _ _=>u) u (fun _=>u) fun _=>u
noncomputable def aHc(x:AR)(t:TT)(h:H)(k:KO):Bool:=kev x t fun v=>aF1 v (fun _ _=>k v h []) (uQ (.nilCheck x) t h k)
noncomputable def QI(b:Bool)(h:H)(k:KO):Bool:=fB b fun b=>k (.bool b) h []
noncomputable def aIJ(kd:IntKind)(x y:Int)(h:H)(k:KO):Bool:=EQ kd (aIP x y) fun z=>k (.int kd z) h []
noncomputable def aIz(kd:IntKind)(x y:Int)(h:H)(k:KO):Bool:=EQ kd (aIK x y) fun z=>k (.int kd z) h []
noncomputable def aID(kd:IntKind)(x y:Int)(h:H)(k:KO):Bool:=EQ kd (aIN x y) fun z=>k (.int kd z) h []
noncomputable def aIB(kd:IntKind)(x y:Int)(h:H)(k:KO):Bool:=Ag (EQ kd (aIL x y) fun z=>k (.int kd z) h []) Jp (WN y (.ofNat (nat_lit 0)))
noncomputable def aIA(kd:IntKind)(x y:Int)(h:H)(k:KO):Bool:=Ag (fI (aIO x y) fun z=>k (.int kd z) h []) Jp (WN y (.ofNat (nat_lit 0)))
noncomputable def aII(kd:IntKind)(x y:Int)(h:H)(k:KO):Bool:=QI (WN x y) h k
noncomputable def aIC(kd:IntKind)(x y:Int)(h:H)(k:KO):Bool:=QI (Ag Jo Jp (WN x y)) h k
noncomputable def aIE(kd:IntKind)(x y:Int)(h:H)(k:KO):Bool:=QI (aA5 x y) h k
noncomputable def aIF(kd:IntKind)(x y:Int)(h:H)(k:KO):Bool:=QI (Ag Jo Jp (aA5 y x)) h k
noncomputable def aIG(kd:IntKind)(x y:Int)(h:H)(k:KO):Bool:=QI (aA5 y x) h k
noncomputable def aIH(kd:IntKind)(x y:Int)(h:H)(k:KO):Bool:=QI (Ag Jo Jp (aA5 x y)) h k
def kNo(kd:IntKind)(x y:Int)(h:H)(k:KO):Bool:=Jp
noncomputable def EW(op:BinOp):IntKind->Int->Int->H->KO->Bool:=match op with
  | .add=>aIJ | .sub=>aIz | .mul=>aID | .quo=>aIB | .rem=>aIA | .eql=>aII | .neq=>aIC | .lss=>aIE | .leq=>aIF | .gtr=>aIG | .geq=>aIH
  | _=>kNo
def aF7:BinOp->Bool
  | .add | .sub | .mul | .quo | .rem | .eql | .neq | .lss | .leq | .gtr | .geq=>Jo
  | _=>Jp
noncomputable def aF6(v w:AV)(y:IntKind->Int->IntKind->Int->Bool)(u:Bool):Bool:=
  AV.casesOn (motive_1:=fun _=>Bool) v u (fun _=>u) (fun a b=>EK w fun c d=>y a b c d) (fun _=>u) u (fun _ _=>u) u (fun _ _ _ _ _=>u) u (fun _=>u) (fun _ _ _=>u) u (fun _ _=>u) u (fun _=>u) fun _=>u
noncomputable def aHg(op:BinOp)(x y:AR)(t:TT)(h:H)(k:KO):Bool:=
  Ag (uQ (.bin op x y) t h k) (kev x t fun v=>kev y t fun w=>aF6 v w (fun a b c d=>kif (Ae (K2 a) (K2 c)) (EW op a b d h k)) (uQ (.bin op x y) t h k)) (aF7 op)
noncomputable def aHe(neg:Bool)(x y:AR)(t:TT)(h:H)(k:KO):Bool:=kev x t fun v=>kev y t fun w=>oN v fun p=>oN w fun q=>Ag (Ag (k (.bool (Ag Jo Jp neg)) h []) (k (.bool (Ag Jp Jo neg)) h []) q) (Ag (k (.bool (Ag Jp Jo neg)) h []) (k (.bool (Ag Jo Jp neg)) h []) q) p
noncomputable def aHb(op:UnOp)(x:AR)(t:TT)(h:H)(k:KO):Bool:=match op with
  | .not=>kev x t fun v=>oN v fun b=>Ag (k (.bool Jo) h []) (k (.bool Jp) h []) b
  | _=>uQ (.un op x) t h k
noncomputable def aBm(kd:IntKind)(x:AR)(t:TT)(h:H)(k:KO):Bool:=kev x t fun v=>EK v fun _ n=>EQ kd n fun n=>k (.int kd n) h []
noncomputable def G4(fn:Fn)(f c:List AR)(t:TT)(h:H)(k:KO):Bool:=aA7 f t fun f=>aA7 c t fun c=>k (.func fn f c) h []
noncomputable def PB(off:Nat)(x:AR)(t:TT)(h:H)(k:KO):Bool:=kev x t fun v=>SW v fun cs=>lgk cs off fun v=>k v h []
noncomputable def G5(off n:Nat)(x:AR)(t:TT)(h:H)(k:KO):Bool:=kev x t fun v=>SW v fun cs=>ldk cs off fun l=>ltk l n fun l=>k (.agg l) h []
noncomputable def qW(off:Nat)(x:AR)(t:TT)(h:H)(k:KO):Bool:=kev x t fun v=>qE v fun b o=>fN (Fv o off) fun o=>k (.ptr b o) h []
noncomputable def SV(v:AV)(k:Nat->Bool):Bool:=EK v fun _ n=>Br n (fun m=>k m) fun _=>Jp
noncomputable def qV(size:Nat)(x i:AR)(t:TT)(h:H)(k:KO):Bool:=kev x t fun v=>kev i t fun w=>pK v Jp fun _ sz b o n=>SV w fun m=>kif (Ae sz size) (kif (Ao (Cn m) n) (fN (Fv o (Dn m size)) fun o=>k (.ptr b o) h []))
noncomputable def oV(len size:Nat)(x i:AR)(t:TT)(h:H)(k:KO):Bool:=kev x t fun v=>kev i t fun w=>qE v fun b o=>SV w fun m=>kif (Ao (Cn m) len) (fN (Fv o (Dn m size)) fun o=>k (.ptr b o) h [])
noncomputable def O9(len size:Nat)(x i:AR)(t:TT)(h:H)(k:KO):Bool:=kev x t fun v=>kev i t fun w=>SW v fun cs=>SV w fun m=>kif (Ao (Cn m) len) (lgk cs (Dn m size) fun v=>k v h [])
noncomputable def AZ(x:AR)(i:Nat)(t:TT)(h:H)(k:KO):Bool:=kev x t fun v=>ST v fun u=>lgk u i fun v=>k v h []
noncomputable def aHd(x:AR)(t:TT)(h:H)(k:KO):Bool:=kev x t fun v=>pK v (k (.int .i64 (.ofNat Bs)) h []) fun _ _ _ _ n=>k (.int .i64 (.ofNat n)) h []
noncomputable def aG8(size:Nat)(v:AV)(h:H)(k:List AV->Nat->Bool):Bool:=pK v (k [] Bs) fun _ sz b o n=>kif (Ae sz size) (gck h b o (Dn n size) fun cs=>k cs n)
noncomputable def aFX(v:AV)(y u:Bool):Bool:=AV.casesOn (motive_1:=fun _=>Bool) v u (fun _=>u) (fun _ _=>u) (fun _=>y) u (fun _ _=>u) u (fun _ _ _ _ _=>u) u (fun _=>u) (fun _ _ _=>u) u (fun _ _=>u) u (fun _=>u) fun _=>u
def ZA{v:AV}{u y:Bool}(h:aFX v u y=Jo):u=Jo\/y=Jo:=by cases v<;>first | exact .inl h | exact .inr h
noncomputable def G6(size bytes:Nat)(E G:AR)(t:TT)(h:H)(k:KO):Bool:=kev G t fun x=>aFX x (uQ (.append size bytes E G) t h k)<| kev E t fun s=>aG8 size x h fun new n=>
  Ag
    (pK s
      (kif (Ao (Dn n bytes) (nat_lit 140737488355328)) (kif (Ao n (nat_lit 9223372036854775807)) (HQ new (H.casesOn h fun nx _=>h.ak (.cells Bs Jo new) fun u=>k (.slice Jp size nx Bs n) u []))))
      (fun I sz b o m=>kif (Ae sz size) (fN (Fv m n) fun y=>kif (Ao (Dn y bytes) (nat_lit 140737488355328)) (kif (Ao y (nat_lit 9223372036854775807)) (HQ new (gck h b o (Dn m size) fun B=>lak B new fun all=>H.casesOn h fun nx _=>
        Ag (h.ck b fun _ rw _=>kif rw (h.sk b .dead fun u=>u.ak (.cells Bs Jo all) fun u=>k (.slice Jp size nx Bs y) u []))
          (h.ak (.cells Bs Jo all) fun u=>k (.slice Jp size nx Bs y) u []) I))))))
    (pK s (k .ag h []) fun _ _ _ _ _=>k s h [])
    (Ae n (nat_lit 0))
noncomputable def krp(z:List AV)(n:Nat):(List AV->Bool)->Bool:=Fu (motive:=fun _=>(List AV->Bool)->Bool) (fun k=>k []) (fun _ u k=>u fun l=>lak z l k) n
def aA1(z:List AV):∀(n:Nat) (k:List AV->Bool),krp z n k=k (gH n z)
  | 0,k=>rfl
  | n+1,k=>by show krp z n (fun l=>lak z l k)=_;rw[aA1 z n,qU];rfl
noncomputable def aG4(z:List AV)(n:Nat)(k:List AV->Bool):Bool:=Ag (k (gH n z)) (krp z n k) (Ao n (nat_lit 300))
def aEm(z:List AV)(n:Nat)(k:List AV->Bool):aG4 z n k=k (gH n z):=by
  unfold aG4
  cases Ao n 300 with
  | false=>rfl
  | true=>exact aA1 z n k
noncomputable def aA4(l:List AV):Nat:=Cw (motive:=fun _=>Nat) Bs (fun _ _ u=>Cn u) l
def sQ:∀l:List AV,aA4 l=l.length
  | []=>rfl
  | _::l=>congrArg Cn (sQ l)
noncomputable def aBi(bytes:Nat)(z:List AV)(n c:AR)(t:TT)(h:H)(k:KO):Bool:=kev n t fun v=>kev c t fun w=>EK v fun u l=>EK w fun kw m=>Br l (fun l=>Br m (fun m=>
  kif (Ae (K2 u) (nat_lit 3)) (kif (Ae (K2 kw) (nat_lit 3)) (kif (Ao l m) (kif (Ao (Dn m bytes) (nat_lit 140737488355328)) (kif (Ao m (nat_lit 9223372036854775807)) (aG4 z l fun cs=>fN (aA4 z) fun sz=>fB (Ae l m) fun y=>H.casesOn h fun nx _=>h.ak (.cells Bs Jo cs) fun B=>k (.slice y sz nx Bs l) B [])))))) fun _=>Jp) fun _=>Jp
def KOk(f:TT->H->KO->Bool)(o:AO):Prop:=∀(n:Nat) (t:TT) (a:List AV) (h:H) (k:KO),Rl n t a->f t h k=Jo->∃v u rd,aop a h o=Jm (v,u,rd)/\k v u rd=Jo
def j5(o:AO):KOk (uQ o) o:=by intro n t a h k hr u;obtain⟨⟨v,y,rd⟩,h1,h2⟩:=aIT u;rw[aFh hr]at h1;rw[aHv,aHy]at h2;exact⟨v,y,rd,h1,h2⟩
def aBf(x:AR):KOk (aBg x) (.move x):=by intro n t a h k hr u;unfold aBg at u;rw[bM hr]at u;exact⟨_,_,_,rfl,u⟩
def aBd(c x y:AR):KOk (aBe c x y) (.pick c x y):=by
  intro n t a h k hr u;unfold aBe at u;rw[bM hr]at u;obtain⟨b,hb,u⟩:=kD u
  cases b with
  | true=>have u:kev x t (fun v=>k v h [])=Jo:=u;rw[bM hr]at u;exact⟨_,_,_,by simp only[aop,hb],u⟩
  | false=>have u:kev y t (fun v=>k v h [])=Jo:=u;rw[bM hr]at u;exact⟨_,_,_,by simp only[aop,hb],u⟩
def WV(cs:List AV):KOk (aBn cs) (.alloc cs):=by
  intro n t a h k hr u;have:=H.mg u
  cases h with
  | mk nx y=>exact⟨_,_,_,rfl,this⟩
def wQ{v:AV}{u:List AV->Bool}{y:Bool}(h:T6 v u y=Jo):(∃cs,v= .agg cs/\u cs=Jo)\/((∀cs,v≠ .agg cs)/\y=Jo):=by
  cases v with
  | agg cs=>exact .inl ⟨cs,rfl,h⟩
  | _=>exact .inr ⟨fun cs e=>(by cases e),h⟩
def JU{v:AV}{u:Nat->Nat->Bool}{y:Bool}(h:aF1 v u y=Jo):(∃b o,v= .ptr b o/\u b o=Jo)\/y=Jo:=by
  cases v with
  | ptr b o=>exact .inl ⟨b,o,rfl,h⟩
  | _=>exact .inr h
def aEC(x:AR):KOk (aHf x) (.box x):=by
  intro n t a h k hr u;unfold aHf at u;rw[bM hr]at u
  cases h with
  | mk nx y=>
    rcases wQ u with⟨cs,e,u⟩ | ⟨_,u⟩
    · obtain⟨h1,u⟩:=pU u;have:=H.mg u;refine⟨_,_,_,?_,this⟩;simp only[aop,e,AV.cells,h1,if_true]
    · obtain⟨h1,h2,u⟩:=A9 u;have:=H.mg u;refine⟨_,_,_,?_,this⟩;simp only[aop,h2,Co,Es,h1,Bool.and_self,if_true]
def aBj(x:AR):KOk (aBk x) (.load x):=by intro n t a h k hr u;unfold aBk at u;rw[bM hr]at u;obtain⟨b,o,e,u⟩:=kS u;obtain⟨ver,rw_,cs,h1,u⟩:=H.pg u;obtain⟨v,h2,u⟩:=uM u;exact⟨_,_,_,by simp only[aop,e,gQ,h1,h2],u⟩
def K9(m:Nat)(x:AR):KOk (AX m x) (.dw m x):=by intro n t a h k hr u;unfold AX at u;rw[bM hr]at u;obtain⟨b,o,e,u⟩:=kS u;obtain⟨cs,h1,h2,u⟩:=HF u;exact⟨_,_,_,by simp only[aop,e,h1],u⟩
def WR(m:Nat)(p x:AR):KOk (O7 m p x) (.store m p x):=by
  intro n t a h k hr u;unfold O7 at u
  cases hb:Ae m 1 with
  | false=>rw[hb]at u;exact j5 _ n t a h k hr u
  | true=>
    rw[hb]at u;have:=Bd hb;subst this;have y:kev x t (fun v=>T6 v (fun _=>uQ (.store 1 p x) t h k) (G3 p x t h k))=Jo:=u;rw[bM hr]at y;rcases wQ y with⟨cs,e,u⟩ | ⟨_,u⟩
    · exact j5 _ n t a h k hr u
    · unfold G3 at u;rw[bM hr]at u;obtain⟨b,o,e,u⟩:=kS u;rw[bM hr]at u;obtain⟨h1,h2,u⟩:=A9 u;obtain⟨ver,rw_,cs,h3,u⟩:=H.pg u;obtain⟨B,u⟩:=kif_ok u;obtain⟨E,u⟩:=aAS u;rw[qI]at u;have u:=H.iu u;rw[B]at h3;refine⟨_,_,_,?_,u⟩;simp only[aop,e,h2,List.length_cons,List.length_nil,dV,h3,Co,Es,h1,Bool.and_true,Nat.zero_add,if_true,decide_eq_true E]
def aEx(x:AR):KOk (aHc x) (.nilCheck x):=by
  intro n t a h k hr u;unfold aHc at u;rw[bM hr]at u;rcases JU u with⟨b,o,e,u⟩ | u
  · rw[e]at u;exact⟨_,_,_,by simp only[aop,e],u⟩
  · exact j5 _ n t a h k hr u
def aED(op:BinOp)(x y:AR):KOk (aHg op x y) (.bin op x y):=by
  intro n t a h k hr B;unfold aHg at B
  cases hf:aF7 op with
  | false=>rw[hf]at B;exact j5 _ n t a h k hr B
  | true=>
    rw[hf]at B;have u:kev x t (fun v=>kev y t fun w=>aF6 v w (fun a b c d=>kif (Ae (K2 a) (K2 c)) (EW op a b d h k)) (uQ (.bin op x y) t h k))=Jo:=B;rw[bM hr,bM hr]at u;have:uQ (.bin op x y) t h k=Jo\/∃kd p q,ev a x= .int kd p/\ev a y= .int kd q/\EW op kd p q h k=Jo:=by
      cases G:ev a x with
      | int kd p=>rw[G]at u;obtain⟨I,q,e,u⟩:=oM u;obtain⟨h1,u⟩:=kif_ok u;have E:=AU h1;exact .inr ⟨kd,p,q,rfl,by rw[e,E],u⟩
      | _=>rw[G]at u;exact .inl u
    rcases this with B | ⟨kd,p,q,J,E,B⟩
    · exact j5 _ n t a h k hr B
    · simp only[aop,J,E,gI];cases op<;>first
        | (cases hf;done)
        | (simp only [bW,if_true,dS,Bf,if_false]
           simp only [EW,aIJ,aIz,aID,AP,aEM,aEI,aEK]at B;exact ⟨_,_,_,rfl,B⟩)
        | (simp only [bW,if_true,dS,Bf,if_false]
           simp only [EW,aII,aIC,aIE,aIF,aIG,aIH,QI,aGb,TB,aEo]at B;refine ⟨_,_,_,rfl, ?_⟩;first
             | exact B
             | (rw [← B]; congr 2
                first
                  | (cases hd:(p==q)<;>simp[hd,bne];done)
                  | (by_cases hd:p<q<;>simp[hd]<;>omega;done)
                  | (by_cases hd:q<p<;>simp[hd]<;>omega;done)))
        | (simp only [bW,if_true,dS,Bf,if_false]
           simp only [EW,aIB,aIA,AP,TM,aEJ,aEL]at B
           cases hz : WN q (.ofNat 0)with
           | true => rw [hz]at B; cases B
           | false =>
             rw [hz]at B;rw [TB]at hz;have K : q ≠ 0 := by rintro rfl;simp at hz
             rw [if_neg K];exact ⟨_,_,_,rfl,B⟩)
def aEB(neg:Bool)(x y:AR):KOk (aHe neg x y) (.eqB neg x y):=by intro n t a h k hr u;unfold aHe at u;rw[bM hr,bM hr]at u;obtain⟨p,B,u⟩:=kD u;obtain⟨q,E,u⟩:=kD u;refine⟨_,_,_,by simp only[aop,B,E];rfl,?_⟩;cases p<;>cases q<;>cases neg<;>exact u
def aEw(op:UnOp)(x:AR):KOk (aHb op x) (.un op x):=by
  intro n t a h k hr u
  cases op with
  | not=>simp only[aHb]at u;rw[bM hr]at u;obtain⟨b,e,u⟩:=kD u;refine⟨_,_,_,by simp only[aop,e,aun];rfl,?_⟩;cases b<;>exact u
  | _=>exact j5 _ n t a h k hr u
def aBl(kd:IntKind)(x:AR):KOk (aBm kd x) (.da kd x):=by intro n t a h k hr u;unfold aBm at u;rw[bM hr]at u;obtain⟨c,m,e,u⟩:=oM u;rw[AP]at u;exact⟨_,_,_,by simp only[aop,e],u⟩
def O8(fn:Fn)(f c:List AR):KOk (G4 fn f c) (.gi fn f c):=by intro n t a h k hr u;unfold G4 at u;rw[xS hr,xS hr]at u;exact⟨_,_,_,rfl,u⟩
def WU(off:Nat)(x:AR):KOk (PB off x) (.field off Jn x):=by intro n t a h k hr u;unfold PB at u;rw[bM hr]at u;obtain⟨cs,e,u⟩:=zV u;obtain⟨v,h2,u⟩:=uM u;exact⟨_,_,_,by simp only[aop,e,h2],u⟩
def PA(off m:Nat)(x:AR):KOk (G5 off m x) (.field off (Jm m) x):=by intro n t a h k hr u;unfold G5 at u;rw[bM hr]at u;obtain⟨cs,e,u⟩:=zV u;obtain⟨h1,u⟩:=O1 u;obtain⟨h2,u⟩:=O0 u;rw[Er]at h2;exact⟨_,_,_,by simp only[aop,e];rw[if_pos (by omega)],u⟩
def CX(off:Nat)(x:AR):KOk (qW off x) (.fieldAddr off x):=by intro n t a h k hr u;unfold qW at u;rw[bM hr]at u;obtain⟨b,o,e,u⟩:=kS u;rw[qI]at u;exact⟨_,_,_,by simp only[aop,e];rfl,u⟩
def zU{v:AV}{k:Nat->Bool}(h:SV v k=Jo):∃kd m,v= .int kd (.ofNat m)/\k m=Jo:=by
  obtain⟨kd,n,e,h⟩:=oM h
  cases n with
  | ofNat m=>exact⟨kd,m,e,h⟩
  | negSucc m=>cases h
def CW(size:Nat)(x i:AR):KOk (qV size x i) (.indexAddr size x i):=by
  intro n t a h k hr u;unfold qV at u;rw[bM hr,bM hr]at u;rcases kR u with⟨_,u⟩ | ⟨E,sz,b,o,m,y,u⟩
  · cases u
  · obtain⟨kd,j,B,u⟩:=zU u;obtain⟨h1,u⟩:=kif_ok u;obtain⟨h2,u⟩:=kif_ok u;rw[qI]at u;have h1:=Bd h1;have h2:=Bt h2;refine⟨_,_,_,?_,u⟩;simp only[aop,y,B];rw[if_pos ⟨h1,by simp,by simp;omega⟩];rfl
def AY(len size:Nat)(x i:AR):KOk (oV len size x i) (.be len size x i):=by intro n t a h k hr u;unfold oV at u;rw[bM hr,bM hr]at u;obtain⟨b,o,y,u⟩:=kS u;obtain⟨kd,j,B,u⟩:=zU u;obtain⟨h2,u⟩:=kif_ok u;rw[qI]at u;have h2:=Bt h2;refine⟨_,_,_,?_,u⟩;simp only[aop,y,B];rw[if_pos ⟨by simp,by simp;omega⟩];rfl
def WS(len size:Nat)(x i:AR):KOk (O9 len size x i) (.index len size Jp x i):=by intro n t a h k hr u;unfold O9 at u;rw[bM hr,bM hr]at u;obtain⟨cs,y,u⟩:=zV u;obtain⟨kd,j,B,u⟩:=zU u;obtain⟨h2,u⟩:=kif_ok u;have h2:=Bt h2;obtain⟨v,h3,u⟩:=uM u;refine⟨_,_,_,?_,u⟩;simp only[aop,y,B,Bf,if_false];rw[if_pos ⟨by simp,by simp;omega⟩];have:(Ce j).toNat*size=Dn j size:=rfl;rw[this,h3]
def LB(x:AR)(i:Nat):KOk (AZ x i) (.extract x i):=by intro n t a h k hr u;unfold AZ at u;rw[bM hr]at u;obtain⟨cs,e,u⟩:=OM u;obtain⟨v,h2,u⟩:=uM u;exact⟨_,_,_,by simp only[aop,e,h2],u⟩
def aEy(x:AR):KOk (aHd x) (.len x):=by
  intro n t a h k hr u;unfold aHd at u;rw[bM hr]at u;rcases kR u with⟨e,u⟩ | ⟨y,sz,b,o,m,e,u⟩
  · exact⟨_,_,_,by simp only[aop,e];rfl,u⟩
  · exact⟨_,_,_,by simp only[aop,e];rfl,u⟩
def aEt{size:Nat}{x:AR}{a:List AV}{h:H}{k:List AV->Nat->Bool}(u:aG8 size (ev a x) h k=Jo):∃new m,gZ a h size x=Jm (new,m)/\new.length=m*size/\k new m=Jo:=by
  unfold aG8 at u;rcases kR u with⟨e,u⟩ | ⟨B,sz,b,o,m,e,u⟩
  · exact⟨[],0,by simp only[gZ,e],by simp,u⟩
  · obtain⟨h1,u⟩:=kif_ok u;have h1:=Bd h1;obtain⟨cs,h2,h3,u⟩:=HF u;have y:bB h b o (m*size)=Jm cs:=h2;exact⟨cs,m,by simp only[gZ,e,h1,if_true,y],h3,u⟩
def PC(size bytes:Nat)(s x:AR):KOk (G6 size bytes s x) (.append size bytes s x):=by
  intro n t a h k hr u;unfold G6 at u;rw[bM hr]at u;rcases ZA u with u | u
  · exact j5 _ n t a h k hr u
  rw[bM hr]at u;obtain⟨new,m,h1,h2,u⟩:=aEt u;simp only[aop,h1]
  cases hz:Ae m 0 with
  | true=>
    rw[hz]at u;have:=Bd hz;subst this;rcases kR u with⟨e,u⟩ | ⟨J,sz,b,o,q,e,u⟩
    · exact⟨_,_,_,by simp only[e,if_true],u⟩
    · rw[e]at u;exact⟨_,_,_,by simp only[e,if_true],u⟩
  | false=>
    rw[hz]at u;have hm:=bC hz;rcases kR u with⟨e,u⟩ | ⟨J,sz,b,o,q,e,u⟩
    · obtain⟨h3,u⟩:=kif_ok u;obtain⟨y,u⟩:=kif_ok u;obtain⟨B,u⟩:=pU u;have h3:=Bt h3;have y:=Bt y
      cases h with
      | mk nx K=>have u:=H.mg u;refine⟨_,_,_,?_,u⟩;simp only[e];rw[if_neg hm,if_pos ⟨h3,y,B,h2⟩]
    · obtain⟨h3,u⟩:=kif_ok u;have h3:=Bd h3;rw[qI]at u;obtain⟨y,u⟩:=kif_ok u;obtain⟨B,u⟩:=kif_ok u;obtain⟨M,u⟩:=pU u;have y:=Bt y;have B:=Bt B;obtain⟨E,O,Q,u⟩:=HF u;rw[qU]at u;have G:bB h b o (q*size)=Jm E:=O;simp only[e];rw[if_neg hm,if_pos ⟨h3,y,B,M,h2⟩,G];simp only
      cases J with
      | true=>
        cases h with
        | mk nx K=>have u:=H.mg u;exact⟨_,_,_,rfl,u⟩
      | false=>
        cases h with
        | mk nx K=>obtain⟨ver,rw_,cs,L,u⟩:=H.pg u;obtain⟨I,u⟩:=kif_ok u;rw[I]at L;have u:=H.iu u;have u:=H.mg u;refine⟨_,_,_,?_,u⟩;simp only[Bf,if_false,kill,L];rfl
def aBh(bytes:Nat)(z:List AV)(m c:AR):KOk (aBi bytes z m c) (.makeSlice bytes z m c):=by
  intro n t a h k hr u;unfold aBi at u;rw[bM hr,bM hr]at u;obtain⟨K,l,G,u⟩:=oM u;obtain⟨kw,q,I,u⟩:=oM u
  cases l with
  | negSucc l=>cases u
  | ofNat l=>
    cases q with
    | negSucc q=>cases u
    | ofNat q=>
      obtain⟨h1,u⟩:=kif_ok u;obtain⟨h2,u⟩:=kif_ok u;obtain⟨h3,u⟩:=kif_ok u;obtain⟨y,u⟩:=kif_ok u;obtain⟨B,u⟩:=kif_ok u;rw[aEm,qI,aGb,sQ]at u;have h1:K= .i64:=AU (b:= .i64) h1;have h2:kw= .i64:=AU (b:= .i64) h2;have h3:=Bt h3;have y:=Bt y;have B:=Bt B;rw[h1]at G;rw[h2]at I
      cases h with
      | mk nx S=>
        have u:=H.mg u;simp only[aop,G,I];have L:(0:Int)<=Ce l:=by simp
        have M:Ce l<=Ce q:=by simpa using h3
        have O:Ce q*(bytes:Int)<=140737488355328:=by have E:q*bytes<=140737488355328:=y;have J:=Int.ofNat_le.2 E;rw[Int.natCast_mul]at J;exact J
        have Q:Ce q<=((fK:Nat):Int):=Int.ofNat_le.2 B;rw[if_pos ⟨L,M,O,Q⟩];refine⟨_,_,_,rfl,?_⟩;have R:(Ce l==Ce q)=Ae l q:=by
          cases hb:Ae l q with
          | true=>have:=Bd hb;subst this;simp
          | false=>have:=bC hb;simp;omega
        rw[R];exact u
abbrev KE:=Ex->TT->H->Bool
structure qx where
  code:AC->Nat->TT->H->KE->Bool
  call:FuncId->List AV->H->(AV->H->Bool)->Bool
structure qb (R:qx) (rec:Rec):Prop where
  code:∀c n t h k,R.code c n t h k=Jo->∀a,Rl n t a->∃e a' t' h',rec.code c a h=Jm (e,a',h')/\Rl n t' a'/\k e t' h'=Jo
  call:∀g args h k,R.call g args h k=Jo->∃v h',rec.call g args h=Jm (v,h')/\k v h'=Jo
noncomputable def WM(l:List AV):Nat->TT->(TT->Bool)->Bool:=Cw (motive:=fun _=>Nat->TT->(TT->Bool)->Bool) (fun _ t k=>k t) (fun v _ u i t k=>TT.sk v t i fun t=>u (Cn i) t k) l
def yN(p:List AV)(v:AV):dl (p++[v]) p.length=v:=by
  induction p with
  | nil=>rfl
  | cons x p u=>simpa [dl]using u
def oA:∀(p q:List AV) (j:Nat),j<p.length->dl (p++q) j=dl p j
  | [],q,j,h=>by simp at h
  | x::p,q,0,h=>rfl
  | x::p,q,j+1,h=>by simp only[Al,dl];exact oA p q j (by simpa using h)
def pE:∀(a:List AV) (i:Nat),a.length<=i->dl a i= .aa
  | [],_,_=>rfl
  | x::l,0,h=>by simp at h
  | x::l,i+1,h=>by simp only[dl];exact pE l i (by simpa using h)
def TA:∀(l:List AV) {i:Nat} {t:TT} {k:TT->Bool} (p:List AV),p.length=i->(∀j,t.get j=dl p j)->WM l i t k=Jo->∃u,k u=Jo/\∀j,u.get j=dl (p++l) j
  | [],i,t,k,p,y,ht,h=>⟨t,h,by simpa using ht⟩
  | v::l,i,t,k,p,y,ht,h=>by
    obtain⟨G,h1,h2⟩:=TT.iu (v:=v) (t:=t) (i:=i) (k:=fun t=>WM l (i+1) t k) h;obtain⟨u,h3,B⟩:=TA l (p++[v]) (by simp[y]) (fun j=>by
      rw[h2 j,ht j];by_cases e:j=i
      · rw[if_pos e,e,<-y,yN]
      · rw[if_neg e];rcases Ba j i with E | E
        · rw[oA p [v] j (by omega)]
        · rw[pE p j (by omega),pE (p++[v]) j (by simp;omega)]) h1
    exact⟨u,h3,by simpa using B⟩
noncomputable def rV(n:Nat)(k:TT->Bool):Bool:=Ag (Ag (Ag (k tj9) (k tj7) (Ao n (nat_lit 254))) (k tj5) (Ao n (nat_lit 62))) (k tj3) (Ao n (nat_lit 14))
def Y7{n:Nat}{k:TT->Bool}(h:rV n k=Jo):∃t,(∀j,t.get j= .aa)/\k t=Jo:=by
  unfold rV at h
  cases h1:Ao n 14 with
  | true=>rw[h1]at h;exact⟨tj3,fun j=>tjn (fun i=>tjn (fun i=>tjn xF i) i) j,h⟩
  | false=>
    rw[h1]at h
    cases h2:Ao n 62 with
    | true=>rw[h2]at h;exact⟨tj5,fun j=>tjn (fun i=>tjn (fun i=>tjn (fun i=>tjn (fun i=>tjn xF i) i) i) i) j,h⟩
    | false=>
      rw[h2]at h
      cases h3:Ao n 254 with
      | true=>rw[h3]at h;exact⟨tj7,fun j=>tjn (fun i=>tjn (fun i=>tjn (fun i=>tjn (fun i=>tjn (fun i=>tjn (fun i=>tjn xF i) i) i) i) i) i) j,h⟩
      | false=>rw[h3]at h;exact⟨tj9,aDs,h⟩
def K1{l:List AV}{k:TT->Bool}{n:Nat}(h:rV n (fun t=>WM l (nat_lit 0) t k)=Jo):∃t,k t=Jo/\∀j,t.get j=dl l j:=by obtain⟨y,h1,h2⟩:=Y7 h;obtain⟨t,h3,u⟩:=TA l [] rfl (fun j=>by rw[h1];rfl) h2;exact⟨t,h3,by simpa using u⟩
inductive KM where
  | drop
  | all
  | dx (b:Bool) (l r:KM)
def KM.has:KM->Nat->Bool
  | .drop,_=>Jp
  | .all,_=>Jo
  | .dx b l r,i=>if i=0 then b else if i % 2=1 then l.has (i / 2)else r.has (i / 2-1)
def KM.ic(b:Bool)(l r:KM)(i:Nat):(KM.dx b l r).has i=if i=0 then b else if i % 2=1 then l.has (i / 2)else r.has (i / 2-1):=rfl
noncomputable def KM.rmk(b:Bool)(l r:KM)(i:Nat)(u:Nat->KM->KM):KM:=Ag (Ag (.dx b l (u (Cm (Ca i (nat_lit 2)) (nat_lit 1)) r)) (.dx b (u (Ca i (nat_lit 2)) l) r) (Ae (Cv i (nat_lit 2)) (nat_lit 1))) (.dx Jp l r) (Ae i (nat_lit 0))
noncomputable def KM.rm(u:Nat):Nat->KM->KM:=Fu (motive:=fun _=>Nat->KM->KM) (fun _ _=> .all) (fun _ y i m=>KM.casesOn m .drop (KM.rmk Jo .all .all i y) fun b l r=>KM.rmk b l r i y) u
def KM.ov{b:Bool}{l r:KM}{i:Nat}{E:Nat->KM->KM}(K:∀G m j,G<i->(E G m).has j=(m.has j&& !(j==G)))(j:Nat):(KM.rmk b l r i E).has j=((KM.dx b l r).has j&& !(j==i)):=by
  unfold KM.rmk
  cases h0:Ae i 0 with
  | true=>
    have:=Bd h0;subst this;show(KM.dx Jp l r).has j=_;rw[KM.ic,KM.ic];by_cases u:j=0
    · simp[u]
    · simp[u]
  | false=>
    have L:=bC h0;have B:((0:Nat)==i)=Jp:=by simp;omega
    cases h1:Ae (Cv i 2) 1 with
    | true=>
      have hm:i % 2=1:=Bd h1;show(KM.dx b (E (i / 2) l) r).has j=_;rw[KM.ic,KM.ic];by_cases u:j=0
      · subst u;rw[if_pos rfl,if_pos rfl,B];simp
      · rw[if_neg u,if_neg u];by_cases y:j % 2=1
        · rw[if_pos y,if_pos y,K _ _ _ (by omega)];by_cases e:j=i
          · subst e;simp
          · have:j / 2≠i / 2:=by omega
            have I:(j / 2==i / 2)=Jp:=by simpa using this
            have J:(j==i)=Jp:=by simpa using e
            rw[I,J]
        · rw[if_neg y,if_neg y];have:j≠i:=by omega
          simp[this]
    | false=>
      have hm:¬i % 2=1:=bC h1;show(KM.dx b l (E (i / 2-1) r)).has j=_;rw[KM.ic,KM.ic];by_cases u:j=0
      · subst u;rw[if_pos rfl,if_pos rfl,B];simp
      · rw[if_neg u,if_neg u];by_cases y:j % 2=1
        · rw[if_pos y,if_pos y];have:j≠i:=by omega
          simp[this]
        · rw[if_neg y,if_neg y,K _ _ _ (by omega)];by_cases e:j=i
          · subst e;simp
          · have:j / 2-1≠i / 2-1:=by omega
            have I:(j / 2-1==i / 2-1)=Jp:=by simpa using this
            have J:(j==i)=Jp:=by simpa using e
            rw[I,J]
def KM.pb:∀{u i:Nat} {m:KM} {j:Nat},i<u->(KM.rm u i m).has j=(m.has j&& !(j==i))
  | 0,i,m,j,h=>by omega
  | u+1,i,m,j,h=>by
    show(KM.casesOn (motive:=fun _=>KM) m KM.drop (KM.rmk Jo .all .all i (KM.rm u)) fun b l r=>KM.rmk b l r i (KM.rm u)).has j=_
    cases m with
    | drop=>simp[KM.has]
    | all=>show(KM.rmk Jo .all .all i (KM.rm u)).has j=_;rw[KM.ov (fun y m j B=>KM.pb (by omega))];congr 1;simp[KM.has]
    | dx b l r=>exact KM.ov (fun y m j B=>KM.pb (by omega)) j
noncomputable def KM.my(m:KM)(a b:KM):KM:=KM.casesOn m a b fun _ _ _=>b
noncomputable def KM.jh(m:KM):KM:=KM.rec (motive:=fun _=>KM) .drop .all (fun b _ _ l r=>Ag (l.my (r.my .drop (.dx b l r)) (.dx b l r)) (.dx b l r) b) m
def KM.ke:∀(m:KM) (j:Nat),m.jh.has j=m.has j
  | .drop,j=>rfl
  | .all,j=>rfl
  | .dx b l r,j=>by
    have e:(KM.dx b l.jh r.jh).has j=(KM.dx b l r).has j:=by unfold KM.has;rw[KM.ke l,KM.ke r]
    rw[<-e];show(@Ag (fun _=>KM) (l.jh.my (r.jh.my .drop (.dx b l.jh r.jh)) (.dx b l.jh r.jh)) (.dx b l.jh r.jh) b).has j=_
    cases b with
    | true=>rfl
    | false=>
      cases hl:l.jh with
      | drop=>cases hr:r.jh with
        | drop=>simp[KM.my,KM.has]
        | all=>rfl
        | dx _ _ _=>rfl
      | all=>rfl
      | dx _ _ _=>rfl
noncomputable def KM.rms(l:List Nat):KM:=Cw (motive:=fun _=>KM) .all (fun i _ u=>KM.rm (Cn i) i u) l
def KM.ou:∀(l:List Nat) (j:Nat),(KM.rms l).has j= !l.contains j
  | [],j=>rfl
  | i::l,j=>by show(KM.rm (i+1) i (KM.rms l)).has j=_;rw[KM.pb (Eb i),KM.ou l];have e:(i::l).contains j=(j==i||l.contains j):=List.contains_cons;rw[e];cases l.contains j<;>cases (j==i)<;>rfl
noncomputable def KM.mask(l:List Nat):KM:=(KM.rms l).jh
def KM.py(l:List Nat)(j:Nat):(KM.mask l).has j= !l.contains j:=by unfold KM.mask;rw[KM.ke,KM.ou]
noncomputable def KM.filt(m:KM):TT->TT->(TT->Bool)->Bool:=KM.rec (motive:=fun _=>TT->TT->(TT->Bool)->Bool) (fun j _ k=>k j) (fun _ t k=>k t)
  (fun b _ _ y ir j t k=>TT.casesOn j Jp fun _ u _=>TT.casesOn t Jp fun v tl tr=>y u tl fun tl=>ir u tr fun tr=>Gp b (k (.node .aa tl tr)) (k (.node v tl tr))) m
inductive JT:TT->Prop where
  | leaf:JT .leaf
  | node (t:TT) (h:JT t):JT (.node .aa t t)
def JT.get{t:TT}(h:JT t)(i:Nat):t.get i= .aa:=by
  induction h generalizing i with
  | leaf=>rfl
  | node t _ u=>exact tjn u i
def KM.nr:∀{m:KM} {j t:TT} {k:TT->Bool},JT j->KM.filt m j t k=Jo->∃G,k G=Jo/\∀i,G.get i=if m.has i=Jo then t.get i else .aa
  | .drop,j,t,k,y,h=>⟨j,h,fun i=>by rw[y.get];simp[KM.has]⟩
  | .all,j,t,k,y,h=>⟨t,h,fun i=>by simp[KM.has]⟩
  | .dx b l r,j,t,k,y,h=>by
    cases y with
    | leaf=>cases h
    | node I u=>
      cases t with
      | leaf=>cases h
      | node v tl tr=>
        have K:KM.filt l I tl (fun tl=>KM.filt r I tr fun tr=>Gp b (k (.node .aa tl tr)) (k (.node v tl tr)))=Jo:=h;obtain⟨B,h1,h2⟩:=KM.nr u K;obtain⟨E,h3,L⟩:=KM.nr u h1;have fin:∀x:AV,x=(if b=Jo then v else .aa)->∀i,(TT.node x B E).get i=if(KM.dx b l r).has i=Jo then(TT.node v tl tr).get i else .aa:=by
          intro x M i;rw[TT.dy,TT.dy,h2,L,KM.ic];by_cases h0:i=0
          · simp only[h0,if_true];exact M
          · simp only[if_neg h0];by_cases J:i % 2=1
            · simp only[if_pos J]
            · simp only[if_neg J]
        cases b with
        | false=>exact⟨_,h3,fin _ (by simp)⟩
        | true=>exact⟨_,h3,fin _ (by simp)⟩
def JT.tj0:JT tj0:= .node _ .leaf
def JT.tj3:JT tj3:= .node _ (.node _ (.node _ JT.tj0))
def JT.tj5:JT tj5:= .node _ (.node _ JT.tj3)
def JT.tj7:JT tj7:= .node _ (.node _ JT.tj5)
def JT.tj9:JT tj9:= .node _ (.node _ JT.tj7)
def Y8{n:Nat}{k:TT->Bool}(h:rV n k=Jo):∃t,JT t/\k t=Jo:=by
  unfold rV at h
  cases h1:Ao n 14 with
  | true=>rw[h1]at h;exact⟨tj3,JT.tj3,h⟩
  | false=>
    rw[h1]at h
    cases h2:Ao n 62 with
    | true=>rw[h2]at h;exact⟨tj5,JT.tj5,h⟩
    | false=>
      rw[h2]at h
      cases h3:Ao n 254 with
      | true=>rw[h3]at h;exact⟨tj7,JT.tj7,h⟩
      | false=>rw[h3]at h;exact⟨tj9,JT.tj9,h⟩
def sF:∀(l:List Nat) (a:List AV),(fh a l).length=a.length
  | [],a=>rfl
  | i::l,a=>by rw[fh,sF l,j4]
def DT:∀(l:List Nat) (a:List AV) (i:Nat),dl (fh a l) i=if l.contains i=Jo then .aa else dl a i
  | [],a,i=>by simp[fh]
  | x::l,a,i=>by
    rw[fh,DT l];by_cases h1:l.contains i=Jo
    · simp only[h1,if_true];simp at h1;simp[h1]
    · simp only[h1,if_false,Bf];have e:(x::l).contains i=(i==x):=by
        have E:l.contains i=Jp:=by simpa using h1
        rw[List.contains_cons,E];simp
      rw[e];rcases Ba x a.length with B | B
      · rw[qO _ _ _ _ B];simp
      · have G:∀(b:List AV) (y:Nat),b.length<=y->iz b y .aa=b:=by
          intro b
          induction b with
          | nil=>intro y _;rfl
          | cons z b J=>intro y I;cases y with
            | zero=>simp at I
            | succ y=>simp only[iz];rw[J y (by simpa using I)]
        rw[G a x B];by_cases u:i=x
        · subst u;simp;exact pE a i B
        · simp[u]
noncomputable def H.lk(h:H)(i:Nat)(k:Nat->jy->Bool):Bool:=h.gk i fun o=>bq.casesOn o (fun _ _ _=>Jp) (fun _ _=>Jp) (fun v r=>k v r) Jp
def H.pz{h:H}{i:Nat}{k:Nat->jy->Bool}(u:h.lk i k=Jo):∃ver r,h.get i=Jm (.loop ver r)/\k ver r=Jo:=by
  obtain⟨o,h1,h2⟩:=H.ol u
  cases o with
  | loop ver r=>exact⟨ver,r,h1,h2⟩
  | _=>cases h2
def SU(s:LoopState)(k:Bool):Bool:=match s with | .ready=>k | _=>Jp
def ON{s:LoopState}{k:Bool}(h:SU s k=Jo):s= .ready/\k=Jo:=by cases s<;>first | exact⟨rfl,h⟩ | cases h
def GN(s:LoopState)(k:Bool):Bool:=match s with | .busy=>Jp | _=>k
def OT{s:LoopState}{k:Bool}(h:GN s k=Jo):s≠ .busy/\k=Jo:=by
  cases s with
  | busy=>cases h
  | _=>exact⟨(fun e=>by cases e),h⟩
section
variable (R:qx)
noncomputable def O4(l:Nat)(args:List AV)(h:H)(k:AV->H->Bool):Bool:=
  h.lk l fun _ r=>jy.casesOn r fun _ _ u params assign body=>kif (Ae (aA4 args) params.length) (fN (aA4 u) fun n=>rV n fun t=>WM (eu u params args) (nat_lit 0) t fun t=>
    R.code assign n t h fun e I h1=>Ex.casesOn e (h1.lk l fun J G=>SU G.state (h1.sk l (.loop (J+1) {G with state:= .busy}) fun h2=>
      R.code body n I h2 fun e _ h3=>h3.lk l fun B E=>Ex.casesOn e
        (h3.sk l (.loop (B+1) {E with state:= .ready,pending:=Jn}) fun y=>k (.bool Jo) y)
        (h3.sk l (.loop (B+1) {E with state:= .done,pending:=Jm .ret}) fun y=>k (.bool Jp) y)
        (fun i=>h3.sk l (.loop (B+1) {E with state:= .done,pending:=Jm (.exit i)}) fun y=>k (.bool Jp) y))) Jp fun _=>Jp)
noncomputable def aEs(fn:Fn)(first u args:List AV)(h:H)(k:AV->H->Bool):Bool:=match fn with
  | .func g=>lak args u fun l=>lak first l fun l=>R.call g l h k
  | .yield l=>lak first args fun args=>O4 R l args h k
  | .methodOf _ _=>match kT first args with
    | some (g,l)=>R.call g l h k
    | none=>Jp
  | _=>Jp
noncomputable def aA9(f:AV)(args:List AV)(h:H)(k:AV->H->Bool):Bool:=OP f fun fn first u=>aEs R fn first u args h k
noncomputable def aF8(f:AR)(args:List AR)(t:TT)(h:H)(k:KO):Bool:=kev f t fun f=>aA7 args t fun args=>aA9 R f args h fun v h=>k v h []
noncomputable def aEA(off:Nat)(n:Option Nat)(x:AR):TT->H->KO->Bool:=match n with
  | none=>PB off x
  | some n=>G5 off n x
noncomputable def aEz(len size:Nat)(b:Bool)(x i:AR):TT->H->KO->Bool:=match b with
  | false=>O9 len size x i
  | true=>uQ (.index len size Jo x i)
noncomputable def ER(o:AO):TT->H->KO->Bool:=match o with
  | .move x=>aBg x
  | .pick c x y=>aBe c x y
  | .alloc cs=>aBn cs
  | .box x=>aHf x
  | .load x=>aBk x
  | .dw n x=>AX n x
  | .store n p x=>O7 n p x
  | .nilCheck x=>aHc x
  | .bin op x y=>aHg op x y
  | .eqB n x y=>aHe n x y
  | .un op x=>aHb op x
  | .da kd x=>aBm kd x
  | .gi fn f c=>G4 fn f c
  | .field off n x=>aEA off n x
  | .fieldAddr off x=>qW off x
  | .indexAddr s x i=>qV s x i
  | .be l s x i=>oV l s x i
  | .index l s b x i=>aEz l s b x i
  | .extract x i=>AZ x i
  | .len x=>aHd x
  | .append s b x y=>G6 s b x y
  | .makeSlice b z n c=>aBi b z n c
  | .call f args=>aF8 R f args
  | o=>uQ o
noncomputable def G0(n:Nat)(t:TT)(d:Option Nat)(v:AV)(k:TT->Bool):Bool:=Ep d (k t) fun d=>kif (Ao (Cn d) n) (TT.sk v t d k)
noncomputable def AW(t:TT)(g:Option (Nat×Bool))(y B:Bool):Bool:=Ep g y fun p=>Prod.casesOn p fun i u=>t.gk i fun v=>GK v (fun b=>Ag (Ag y B u) (Ag B y u) b) B
noncomputable def aIx(n:Nat)(o:aw)(t:TT)(h:H)(k:TT->H->Bool):Bool:=aw.casesOn o fun u op guard _=>
  AW t guard (ER R op t h fun v y _=>G0 n t u v fun t=>k t y) (G0 n t u (.tuple []) fun t=>k t h)
noncomputable def aEn(n:Nat)(os:List aw):TT->H->(TT->H->Bool)->Bool:=Cw (motive:=fun _=>TT->H->(TT->H->Bool)->Bool) (fun t h k=>k t h) (fun o _ u t h k=>aIx R n o t h fun t h=>u t h k) os
def aEr(u:Bool)(rd:List Nat)(hb B:H)(y:List jz)(chk:List Nat)(k:Bool):Bool:=match chk with
  | []=>k
  | c::cs=>qJ u rd hb B y (c::cs)&&k
noncomputable def aG5(n:Nat)(o:aw)(i:Nat)(t:TT)(h:H)(u:List jz)(k:TT->H->List jz->Bool):Bool:=aw.casesOn o fun y op guard chk=>
  AW t guard (ER R op t h fun v B rd=>aEr op.effect (rdx h B rd) h B u chk (G0 n t y v fun t=>k t B (⟨i,rdx h B rd,h,B⟩::u))) (G0 n t y (.tuple []) fun t=>k t h u)
noncomputable def S9(n:Nat)(os:List aw):Nat->TT->H->List jz->(TT->H->Bool)->Bool:=Cw (motive:=fun _=>Nat->TT->H->List jz->(TT->H->Bool)->Bool) (fun _ t h _ k=>k t h) (fun o _ y i t h u k=>aG5 R n o i t h u fun t h u=>y (Cn i) t h u k) os
noncomputable def O3(n:Nat)(l:List Nat)(t:TT)(k:TT->Bool):Bool:=rV n fun j=>KM.filt (KM.mask l) j t k
noncomputable def aG3(t:TT)(n:Nat):List AV->(List AV->Bool)->Bool:=Fu (motive:=fun _=>List AV->(List AV->Bool)->Bool) (fun u k=>k u) (fun i y u k=>t.gk i fun v=>y (v::u) k) n
noncomputable def og(n:Nat)(f:AR)(ps:List Nat)(asg body:AC)(t:TT)(h:H)(k:KE):Bool:=
  kev f t fun f=>OP f fun fn first cap=>kFnG fn fun g=>aG3 t n [] fun tmps=>H.casesOn h fun nx ht=>lak first (.func (.yield nx) [] []::cap) fun args=>
    (H.mk nx ht).ak (.loop Bs {state:= .ready,pending:=Jn,tmps:=tmps,params:=ps,assign:=asg,body:=body}) fun h1=>
    R.call g args h1 fun _ h'=>h'.lk nx fun ver r=>GN r.state (h'.sk nx (.loop (ver+1) {r with state:= .exhausted}) fun h2=>k (r.pending.getD .normal) t h2)
where kFnG (fn:Fn) (k:FuncId->Bool):Bool:=match fn with
  | .func g=>k g
  | _=>Jp
noncomputable def sR(n:Nat)(c:AC):TT->H->KE->Bool:=
  AC.rec (motive:=fun _=>TT->H->KE->Bool)
    (fun t h k=>k .normal t h)
    (fun ops t h k=>aEn R n ops t h fun t h=>k .normal t h)
    (fun ops t h k=>S9 R n ops (nat_lit 0) t h [] fun t h=>k .normal t h)
    (fun _ _ u y t h k=>u t h fun e t h=>Ex.casesOn e (y t h k) (k .ret t h) fun i=>k (.exit i) t h)
    (fun c _ _ u y t h k=>kev c t fun v=>oN v fun b=>Ag (y t h k) (u t h k) b)
    (fun id _ u t h k=>u t h fun e t h=>Ex.casesOn e (k .normal t h) (k .ret t h) fun i=>Ag (k (.exit i) t h) (k .normal t h) (Ae i id))
    (fun E x u t h k=>O3 n E t fun t=>u t h fun e t h=>Ex.casesOn e (R.code (.loop E x) n t h k) (k .ret t h) fun i=>k (.exit i) t h)
    (fun f G B body _ _ t h k=>og R n f G B body t h k)
    (fun id t h k=>k (.exit id) t h)
    (fun t h k=>k .ret t h) c
noncomputable def aF5(t:TT)(h:H)(r:jt)(k:AV->Bool):Bool:=jt.casesOn r (fun i=>t.gk i k) (fun i=>t.gk i fun v=>qE v fun b o=>h.ck b fun _ _ cs=>lgk cs o k) fun i n=>t.gk i fun v=>qE v fun b o=>gck h b o n fun cs=>k (.agg cs)
noncomputable def O6(t:TT)(h:H)(l:List jt):(List AV->Bool)->Bool:=Cw (motive:=fun _=>(List AV->Bool)->Bool) (fun k=>k []) (fun r _ u k=>aF5 t h r fun v=>u fun y=>k (v::y)) l
noncomputable def aF4(l:List AV)(k:AV->Bool):Bool:=Hv l (k (.tuple [])) fun v l=>Hv l (k v) fun w l=>k (.tuple (v::w::l))
end
inductive KT where
  | leaf
  | node (l:KT) (g:Nat) (F:AFn) (r:KT)
  | tru (l:KT) (g:Nat) (r:KT)
  | tz (l:KT) (g:Nat) (r:KT)
  | prr (l:KT) (g:Nat) (F:List AV->H->Option AV) (r:KT)
  | prm (l:KT) (g:Nat) (F:List AV->H->Option (List AV)) (r:KT)
def tzTab:List Nat:=[0,1,56,2,57,49,28,3,61,58,42,50,38,29,17,4,62,47,59,36,45,43,51,22,53,39,33,30,24,18,12,5,63,55,48,27,60,41,37,16,46,35,44,21,52,32,23,11,54,26,40,15,34,20,31,10,25,14,19,9,13,8,7,6]
def SH(x:Int):Int:=IntKind.u64.wrap (Bh IntKind.u64.bits x&&& Bh IntKind.u64.bits (IntKind.u64.wrap (-x))).toNat
def tzIdx(x:Int):Int:=IntKind.u64.wrap (SH x*285870213051353865) / 288230376151711744
def tzF(x:Int):Int:=if x=0 then 64 else((tzTab[(tzIdx x).toNat]?).getD 0:Nat)
def sM:List AV->Option Int
  | [.int .u64 x]=>Jm (tzF x)
  | _=>Jn
def primTz(args:List AV)(h:H):Option (AV×H):=match sM args with
  | some n=>Jm (.int .i64 n,h)
  | none=>Jn
noncomputable def kTz(args:List AV)(h:H)(k:AV->H->Bool):Bool:=Ep (sM args) Jp fun n=>fI n fun n=>k (.int .i64 n) h
def aG7{args:List AV}{h:H}{k:AV->H->Bool}(u:kTz args h k=Jo):∃v y,primTz args h=Jm (v,y)/\k v y=Jo:=by
  unfold kTz at u;unfold primTz
  cases B:sM args with
  | none=>rw[B]at u;cases u
  | some n=>rw[B]at u;have u:fI n (fun n=>k (.int .i64 n) h)=Jo:=u;rw[TM]at u;exact⟨_,_,rfl,u⟩
def jC:List AV->H->Option (AV×H)
  | [],h=>Jm (.bool Jo,h)
  | _::_,_=>Jn
def bH(F:List AV->H->Option AV)(args:List AV)(h:H):Option (AV×H):=match F args h with
  | some v=>Jm (v,h)
  | none=>Jn
def jL(F:List AV->H->Option (List AV))(args:List AV)(h:H):Option (AV×H):=match F args h with
  | some cs=>Jm (.slice Jo 1 h.next 0 cs.length,h.alloc (.cells 0 Jo cs))
  | none=>Jn
noncomputable def aG9(F:List AV->H->Option AV)(args:List AV)(h:H)(k:AV->H->Bool):Bool:=Ep (F args h) Jp fun v=>k v h
noncomputable def aHa(F:List AV->H->Option (List AV))(args:List AV)(h:H)(k:AV->H->Bool):Bool:=Ep (F args h) Jp fun cs=>h.ak (.cells Bs Jo cs) fun u=>H.casesOn h fun n _=>k (.slice Jo (nat_lit 1) n Bs cs.length) u
def aEu{F:List AV->H->Option AV}{args:List AV}{h:H}{k:AV->H->Bool}(u:aG9 F args h k=Jo):∃v y,bH F args h=Jm (v,y)/\k v y=Jo:=by
  unfold aG9 at u;unfold bH
  cases B:F args h with
  | none=>rw[B]at u;cases u
  | some v=>rw[B]at u;exact⟨_,_,rfl,u⟩
def aEv{F:List AV->H->Option (List AV)}{args:List AV}{h:H}{k:AV->H->Bool}(u:aHa F args h k=Jo):∃v y,jL F args h=Jm (v,y)/\k v y=Jo:=by
  unfold aHa at u;unfold jL
  cases B:F args h with
  | none=>rw[B]at u;cases u
  | some cs=>
    rw[B]at u;have:=H.mg u
    cases h with
    | mk nx E=>exact⟨_,_,rfl,this⟩
def KT.find:KT->Nat->Option AF
  | .leaf,_=>Jn
  | .node l k f r,g=>if g=k then Jm (.fn f)else if g<=k then l.find g else r.find g
  | .tru l k r,g=>if g=k then Jm (.jr jC)else if g<=k then l.find g else r.find g
  | .tz l k r,g=>if g=k then Jm (.jr primTz)else if g<=k then l.find g else r.find g
  | .prr l k F r,g=>if g=k then Jm (.jr (bH F))else if g<=k then l.find g else r.find g
  | .prm l k F r,g=>if g=k then Jm (.jr (jL F))else if g<=k then l.find g else r.find g
noncomputable def KT.fk(T:KT)(g:Nat)(y:AFn->Bool)(B E:Bool)(G:(List AV->H->Option AV)->Bool)(I:(List AV->H->Option (List AV))->Bool):Bool:=KT.rec (motive:=fun _=>Bool) Jp
  (fun _ k f _ u ir=>Ag (Ag ir u (Ao g k)) (y f) (Ae g k))
  (fun _ k _ u ir=>Ag (Ag ir u (Ao g k)) B (Ae g k))
  (fun _ k _ u ir=>Ag (Ag ir u (Ao g k)) E (Ae g k))
  (fun _ k F _ u ir=>Ag (Ag ir u (Ao g k)) (G F) (Ae g k))
  (fun _ k F _ u ir=>Ag (Ag ir u (Ao g k)) (I F) (Ae g k)) T
def iI{a b:Nat}(h:Ao a b=Jp):¬a<=b:=by intro hl;rw[Hs hl]at h;cases h
def KT.kj:∀{T:KT} {g:Nat} {B:AFn->Bool} {E G:Bool} {I:(List AV->H->Option AV)->Bool} {J:(List AV->H->Option (List AV))->Bool},T.fk g B E G I J=Jo->(∃F,T.find g=Jm (.fn F)/\B F=Jo)\/(T.find g=Jm (.jr jC)/\E=Jo)\/(T.find g=Jm (.jr primTz)/\G=Jo)\/(∃F,T.find g=Jm (.jr (bH F))/\I F=Jo)\/(∃F,T.find g=Jm (.jr (jL F))/\J F=Jo)
  | .leaf,g,B,E,G,I,J,h=>by cases h
  | .node l k f r,g,B,E,G,I,J,h=>by
    have u:Ag (Ag (r.fk g B E G I J) (l.fk g B E G I J) (Ao g k)) (B f) (Ae g k)=Jo:=h;simp only[KT.find]
    cases hb:Ae g k with
    | true=>rw[hb]at u;rw[if_pos (Bd hb)];exact .inl ⟨f,rfl,u⟩
    | false=>
      rw[hb]at u;rw[if_neg (bC hb)]
      cases y:Ao g k with
      | true=>rw[y]at u;rw[if_pos (Bt y)];exact KT.kj (T:=l) u
      | false=>rw[y]at u;rw[if_neg (iI y)];exact KT.kj (T:=r) u
  | .tru l k r,g,B,E,G,I,J,h=>by
    have u:Ag (Ag (r.fk g B E G I J) (l.fk g B E G I J) (Ao g k)) E (Ae g k)=Jo:=h;simp only[KT.find]
    cases hb:Ae g k with
    | true=>rw[hb]at u;rw[if_pos (Bd hb)];exact .inr (.inl ⟨rfl,u⟩)
    | false=>
      rw[hb]at u;rw[if_neg (bC hb)]
      cases y:Ao g k with
      | true=>rw[y]at u;rw[if_pos (Bt y)];exact KT.kj (T:=l) u
      | false=>rw[y]at u;rw[if_neg (iI y)];exact KT.kj (T:=r) u
  | .tz l k r,g,B,E,G,I,J,h=>by
    have u:Ag (Ag (r.fk g B E G I J) (l.fk g B E G I J) (Ao g k)) G (Ae g k)=Jo:=h;simp only[KT.find]
    cases hb:Ae g k with
    | true=>rw[hb]at u;rw[if_pos (Bd hb)];exact .inr (.inr (.inl ⟨rfl,u⟩))
    | false=>
      rw[hb]at u;rw[if_neg (bC hb)]
      cases y:Ao g k with
      | true=>rw[y]at u;rw[if_pos (Bt y)];exact KT.kj (T:=l) u
      | false=>rw[y]at u;rw[if_neg (iI y)];exact KT.kj (T:=r) u
  | .prr l k F r,g,B,E,G,I,J,h=>by
    have u:Ag (Ag (r.fk g B E G I J) (l.fk g B E G I J) (Ao g k)) (I F) (Ae g k)=Jo:=h;simp only[KT.find]
    cases hb:Ae g k with
    | true=>rw[hb]at u;rw[if_pos (Bd hb)];exact .inr (.inr (.inr (.inl ⟨F,rfl,u⟩)))
    | false=>
      rw[hb]at u;rw[if_neg (bC hb)]
      cases y:Ao g k with
      | true=>rw[y]at u;rw[if_pos (Bt y)];exact KT.kj (T:=l) u
      | false=>rw[y]at u;rw[if_neg (iI y)];exact KT.kj (T:=r) u
  | .prm l k F r,g,B,E,G,I,J,h=>by
    have u:Ag (Ag (r.fk g B E G I J) (l.fk g B E G I J) (Ao g k)) (J F) (Ae g k)=Jo:=h;simp only[KT.find]
    cases hb:Ae g k with
    | true=>rw[hb]at u;rw[if_pos (Bd hb)];exact .inr (.inr (.inr (.inr ⟨F,rfl,u⟩)))
    | false=>
      rw[hb]at u;rw[if_neg (bC hb)]
      cases y:Ao g k with
      | true=>rw[y]at u;rw[if_pos (Bt y)];exact KT.kj (T:=l) u
      | false=>rw[y]at u;rw[if_neg (iI y)];exact KT.kj (T:=r) u
noncomputable def aG6(u:List jt)(t:TT)(h:H)(k:AV->H->Bool):Bool:=O6 t h u fun y=>aF4 y fun v=>k v h
noncomputable def aIy(R:qx)(F:AFn)(args:List AV)(h:H)(k:AV->H->Bool):Bool:=AFn.casesOn F fun y u body=>kif (Ao (aA4 args) y) (rV y fun t=>WM args (nat_lit 0) t fun t=>
  sR R y body t h fun e t h=>Ex.casesOn e (aG6 u t h k) (aG6 u t h k) fun _=>Jp)
noncomputable def aBa(R:qx)(T:KT)(g:FuncId)(args:List AV)(h:H)(k:AV->H->Bool):Bool:=T.fk g (fun F=>aIy R F args h k) (Hv args (k (.bool Jo) h) fun _ _=>Jp) (kTz args h k) (fun F=>aG9 F args h k) fun F=>aHa F args h k
noncomputable def aIw(T:KT)(n:Nat):qx:=Fu (motive:=fun _=>qx) ⟨fun _ _ _ _ _=>Jp,fun _ _ _ _=>Jp⟩ (fun _ u=>⟨fun c n t h k=>sR u n c t h k,fun g args h k=>aBa u T g args h k⟩) n
section
variable {R:qx} {rec:Rec}
def aA3{l:List AV}{k:TT->Bool}{n:Nat}(h:rV n (fun t=>WM l (nat_lit 0) t k)=Jo):∃t,k t=Jo/\Rl l.length t l:=by obtain⟨t,h1,h2⟩:=K1 h;exact⟨t,h1,rfl,h2⟩
def qB:∀(y:List Nat) (u a:List AV),(eu a y u).length=a.length
  | [],u,a=>by cases u<;>rfl
  | _::_,[],_=>rfl
  | p::y,v::u,a=>by rw[eu,qB y u,j4]
def WJ(I:qb R rec){l:Nat}{first y args:List AV}{h:H}{k:AV->H->Bool}(u:O4 R l (first++args) h k=Jo):
    ∃v J,dP rec (.func (.yield l) first y) args h=Jm (v,J)/\k v J=Jo:=by
  obtain⟨ver,r,hg,u⟩:=H.pz u;obtain⟨st,K,L,params,assign,body⟩:=r;obtain⟨h1,u⟩:=kif_ok u;rw[qI,sQ]at u;have hl:(first++args).length=params.length:=by have:=Bd h1;rwa [sQ]at this
  obtain⟨t,u,hr⟩:=aA3 u;rw[qB]at hr;obtain⟨e,V,Y,M,O,Q,u⟩:=I.code _ _ _ _ _ u _ hr
  cases e with
  | normal=>
    obtain⟨Z,S,B,u⟩:=H.pz u;obtain⟨E,u⟩:=ON u;have u:=H.iu u;obtain⟨e,a3,t3,h3,T,r3,u⟩:=I.code _ _ _ _ _ u _ Q;obtain⟨v3,U,G,u⟩:=H.pz u;simp only[dP,hg,if_pos hl,O,B,if_pos E,T,G]
    cases e with
    | normal=>have u:=H.iu u;exact⟨_,_,rfl,u⟩
    | ret=>have u:=H.iu u;exact⟨_,_,rfl,u⟩
    | exit i=>have u:=H.iu u;exact⟨_,_,rfl,u⟩
  | ret=>cases u
  | exit i=>cases u
def WP(y:qb R rec){f:AV}{args:List AV}{h:H}{k:AV->H->Bool}(u:aA9 R f args h k=Jo):∃v G,dP rec f args h=Jm (v,G)/\k v G=Jo:=by
  obtain⟨fn,first,B,rfl,u⟩:=EL u
  cases fn with
  | func g=>have u:lak args B (fun l=>lak first l fun l=>R.call g l h k)=Jo:=u;rw[qU,qU,<-List.append_assoc]at u;exact y.call _ _ _ _ u
  | yield l=>
    have u:lak first args (fun args=>O4 R l args h k)=Jo:=u
    rw[qU]at u;exact WJ y u
  | methodOf t n=>
    have u:(match kT first args with | some (g,l)=>R.call g l h k | none=>Jp)=Jo:=u;split at u
    · rename_i E;simp only[dP,E];exact y.call _ _ _ _ u
    · cases u
  | _=>cases u
def K0(E:qb R rec)(o:AO)(n:Nat)(t:TT)(a:List AV)(h:H)(k:KO)(hr:Rl n t a)(u:ER R o t h k=Jo):∃v B rd,fY rec o a h=Jm (v,B,rd)/\k v B rd=Jo:=by
  cases o with
  | call f args=>simp only[ER,aF8]at u;rw[bM hr,xS hr]at u;obtain⟨v,B,e,u⟩:=WP E u;exact⟨v,B,[],by simp only[fY,e],u⟩
  | move x=>exact aBf x n t a h k hr u
  | pick c x y=>exact aBd c x y n t a h k hr u
  | alloc cs=>exact WV cs n t a h k hr u
  | box x=>exact aEC x n t a h k hr u
  | load x=>exact aBj x n t a h k hr u
  | dw m x=>exact K9 m x n t a h k hr u
  | store m p x=>exact WR m p x n t a h k hr u
  | nilCheck x=>exact aEx x n t a h k hr u
  | bin op x y=>exact aED op x y n t a h k hr u
  | eqB m x y=>exact aEB m x y n t a h k hr u
  | un op x=>exact aEw op x n t a h k hr u
  | da kd x=>exact aBl kd x n t a h k hr u
  | gi fn f c=>exact O8 fn f c n t a h k hr u
  | field off m x=>cases m with
    | none=>exact WU off x n t a h k hr u
    | some m=>exact PA off m x n t a h k hr u
  | fieldAddr off x=>exact CX off x n t a h k hr u
  | indexAddr s x i=>exact CW s x i n t a h k hr u
  | be l s x i=>exact AY l s x i n t a h k hr u
  | index l s b x i=>cases b with
    | false=>exact WS l s x i n t a h k hr u
    | true=>exact j5 _ n t a h k hr u
  | extract x i=>exact LB x i n t a h k hr u
  | len x=>exact aEy x n t a h k hr u
  | append s b x y=>exact PC s b x y n t a h k hr u
  | makeSlice b z m c=>exact aBh b z m c n t a h k hr u
  | _=>exact j5 _ n t a h k hr u
def xR{n:Nat}{t:TT}{a:List AV}{d:Option Nat}{v:AV}{k:TT->Bool}(hr:Rl n t a)(u:G0 n t d v k=Jo):∃y,k y=Jo/\Rl n y (put a d v):=by
  cases d with
  | none=>exact⟨t,u,hr⟩
  | some d=>obtain⟨h1,u⟩:=kif_ok u;obtain⟨y,h2,h3⟩:=TT.iu u;exact⟨y,h2,hr.set (Bt h1) h3⟩
def ES{n:Nat}{t:TT}{a:List AV}{g:Option (Nat×Bool)}{y E:Bool}(hr:Rl n t a)(B:AW t g y E=Jo):(bR a g=Jm Jo/\y=Jo)\/(bR a g=Jm Jp/\E=Jo):=by
  cases g with
  | none=>exact .inl ⟨rfl,B⟩
  | some p=>
    obtain⟨i,u⟩:=p;have G:t.gk i (fun v=>GK v (fun b=>Ag (Ag y E u) (Ag E y u) b) E)=Jo:=B;rw[TT.nc,hr.get]at G;rcases OO G with⟨b,e,B⟩ | ⟨l,e,B⟩
    · cases b<;>cases u
      · exact .inl ⟨by simp only[bR,e];rfl,B⟩
      · exact .inr ⟨by simp only[bR,e];rfl,B⟩
      · exact .inr ⟨by simp only[bR,e];rfl,B⟩
      · exact .inl ⟨by simp only[bR,e];rfl,B⟩
    · exact .inr ⟨by simp only[bR,e],B⟩
def G1(E:qb R rec){n:Nat} :∀{os:List aw} {t:TT} {a:List AV} {h:H} {k:TT->H->Bool},Rl n t a->aEn R n os t h k=Jo->∃J K y,hO rec os a h=Jm (J,y)/\Rl n K J/\k K y=Jo
  | [],t,a,h,k,hr,u=>⟨a,t,h,rfl,hr,u⟩
  | ⟨B,op,guard,chk⟩::os,t,a,h,k,hr,u=>by
    have G:AW t guard (ER R op t h fun v y _=>G0 n t B v fun t=>aEn R n os t y k) (G0 n t B (.tuple []) fun t=>aEn R n os t h k)=Jo:=u;unfold hO;rcases ES hr G with⟨hw,u⟩ | ⟨hw,u⟩
    · simp only[hw];obtain⟨v,y,rd,e,u⟩:=K0 E op n t a h _ hr u;obtain⟨L,u,I⟩:=xR hr u;simp only[e];exact G1 E I u
    · simp only[hw];obtain⟨L,u,I⟩:=xR hr u;exact G1 E I u
def aEq{u:Bool}{rd:List Nat}{hb B:H}{y:List jz}{chk:List Nat}{k:Bool}(h:aEr u rd hb B y chk k=Jo):qJ u rd hb B y chk=Jo/\k=Jo:=by
  cases chk with
  | nil=>exact⟨by simp[qJ],h⟩
  | cons c cs=>simpa [aEr]using h
def AQ(G:qb R rec){n:Nat} :∀{os:List aw} {i:Nat} {t:TT} {a:List AV} {h:H} {u:List jz} {k:TT->H->Bool},Rl n t a->S9 R n os i t h u k=Jo->∃K L B,eH rec os i a h u=Jm (K,B)/\Rl n L K/\k L B=Jo
  | [],i,t,a,h,u,k,hr,y=>⟨a,t,h,rfl,hr,y⟩
  | ⟨E,op,guard,chk⟩::os,i,t,a,h,u,k,hr,y=>by
    have I:AW t guard (ER R op t h fun v B rd=>aEr op.effect (rdx h B rd) h B u chk (G0 n t E v fun t=>S9 R n os (i+1) t B (⟨i,rdx h B rd,h,B⟩::u) k)) (G0 n t E (.tuple []) fun t=>S9 R n os (i+1) t h u k)=Jo:=y;unfold eH;rcases ES hr I with⟨hw,y⟩ | ⟨hw,y⟩
    · simp only[hw];obtain⟨v,B,rd,e,y⟩:=K0 G op n t a h _ hr y;obtain⟨M,y⟩:=aEq y;obtain⟨O,y,J⟩:=xR hr y;simp only[e,M,if_true];exact AQ G J y
    · simp only[hw];obtain⟨O,y,J⟩:=xR hr y;exact AQ G J y
def WI{n:Nat}{l:List Nat}{t:TT}{a:List AV}{k:TT->Bool}(hr:Rl n t a)(y:O3 n l t k=Jo):∃u,k u=Jo/\Rl n u (fh a l):=by obtain⟨j,B,y⟩:=Y8 y;obtain⟨u,h1,h2⟩:=KM.nr B y;refine⟨u,h1,by rw[sF];exact hr.len,fun i=>?_⟩;rw[h2,KM.py,DT,hr.get];cases l.contains i<;>simp
def S8(t:TT):∀(n:Nat) (u:List AV) (k:List AV->Bool),aG3 t n u k=k ((Aw n).map t.get++u)
  | 0,u,k=>rfl
  | n+1,u,k=>by show t.gk n (fun v=>aG3 t n (v::u) k)=_;rw[TT.nc,S8 t n,List.range_succ];simp
def DG:∀(a b:List AV),a.length=b.length->(∀i,i<a.length->dl a i=dl b i)->a=b
  | [],[],_,_=>rfl
  | [],_::_,h,_=>by simp at h
  | _::_,[],h,_=>by simp at h
  | x::a,y::b,h,hg=>by have h0:=hg 0 (by simp);simp only[dl]at h0;rw[h0,DG a b (by simpa using h) (fun i u=>by have:=hg (i+1) (by simpa using u);simpa [dl]using this)]
def vL:∀(l:List AV) (i:Nat) (v:AV),l[i]? =Jm v->dl l i=v
  | [],i,v,h=>by simp at h
  | x::l,0,v,h=>by simpa [dl]using h
  | x::l,i+1,v,h=>by simp only[dl];exact vL l i v (by simpa using h)
def aEl{n:Nat}{t:TT}{a:List AV}(hr:Rl n t a):(Aw n).map t.get=a:=by
  refine DG _ _ (by simp[hr.len]) fun i y=>?_;have u:i<n:=by simpa using y
  rw[vL _ i (t.get i) (by simp[u]),hr.get]
def WK(K:qb R rec){n:Nat}{f:AR}{G:List Nat}{y body:AC}{t:TT}{a:List AV}{h:H}{k:KE}(hr:Rl n t a)(u:og R n f G y body t h k=Jo):
    ∃e I J E,aN rec (.rangeFunc f G y body) a h=Jm (e,I,E)/\Rl n J I/\k e J E=Jo:=by
  unfold og at u;rw[bM hr]at u;obtain⟨fn,first,B,e,u⟩:=EL u
  cases fn with
  | func g=>
    simp only[og.kFnG]at u;rw[S8,aEl hr,List.append_nil]at u;obtain⟨nx,ht⟩:=h;have u:lak first (AV.func (.yield nx) [] []::B) (fun args=>(H.mk nx ht).ak (.loop Bs {state:= .ready,pending:=Jn,tmps:=a,params:=G,assign:=y,body:=body}) fun h1=>
      R.call g args h1 fun _ E=>E.lk nx fun ver r=>GN r.state (E.sk nx (.loop (ver+1) {r with state:= .exhausted}) fun h2=>k (r.pending.getD .normal) t h2))=Jo:=u
    rw[qU]at u;have u:=H.mg u;obtain⟨v,E,L,u⟩:=K.call _ _ _ _ u;obtain⟨ver,r,hg,u⟩:=H.pz u;obtain⟨hb,u⟩:=OT u;have u:=H.iu u;refine⟨_,_,t,_,?_,hr,u⟩;simp only[aN,e];have M:first++[AV.func (.yield nx) [] []]++B=first++AV.func (.yield nx) [] []::B:=by simp
    rw[M,L];simp only[hg];rw[if_neg hb]
  | _=>cases u
def jG(J:qb R rec){n:Nat} :∀{c:AC} {t:TT} {a:List AV} {h:H} {k:KE},Rl n t a->sR R n c t h k=Jo->∃e S T U,aN rec c a h=Jm (e,S,U)/\Rl n T S/\k e T U=Jo
  | .skip,t,a,h,k,hr,u=>⟨.normal,a,t,h,rfl,hr,u⟩
  | .ret,t,a,h,k,hr,u=>⟨.ret,a,t,h,rfl,hr,u⟩
  | .exit id,t,a,h,k,hr,u=>⟨.exit id,a,t,h,rfl,hr,u⟩
  | .region ops,t,a,h,k,hr,u=>by obtain⟨S,T,U,e,V,u⟩:=G1 J (k:=fun t h=>k .normal t h) hr u;exact⟨.normal,S,T,U,by simp only[aN,e],V,u⟩
  | .fc ops,t,a,h,k,hr,u=>by obtain⟨S,T,U,e,V,u⟩:=AQ J (k:=fun t h=>k .normal t h) hr u;exact⟨.normal,S,T,U,by simp only[aN];rw[show eH rec ops 0 a h []=_ from e],V,u⟩
  | .seq x y,t,a,h,k,hr,u=>by
    have B:sR R n x t h (fun e t h=>Ex.casesOn e (sR R n y t h k) (k .ret t h) fun i=>k (.exit i) t h)=Jo:=u;obtain⟨e,K,G,h1,E,I,u⟩:=jG J hr B
    cases e with
    | normal=>obtain⟨e,L,M,h2,O,Q,u⟩:=jG J I u;exact⟨e,L,M,h2,by simp only[aN,E,O],Q,u⟩
    | ret=>exact⟨.ret,K,G,h1,by simp only[aN,E],I,u⟩
    | exit i=>exact⟨.exit i,K,G,h1,by simp only[aN,E],I,u⟩
  | .cond c x y,t,a,h,k,hr,u=>by
    have B:kev c t (fun v=>oN v fun b=>Ag (sR R n y t h k) (sR R n x t h k) b)=Jo:=u;rw[bM hr]at B;obtain⟨b,e,u⟩:=kD B
    cases b with
    | true=>obtain⟨E,L,M,h2,O,Q,u⟩:=jG J hr u;exact⟨E,L,M,h2,by simp only[aN,e,O],Q,u⟩
    | false=>obtain⟨E,L,M,h2,O,Q,u⟩:=jG J hr u;exact⟨E,L,M,h2,by simp only[aN,e,O],Q,u⟩
  | .block id x,t,a,h,k,hr,u=>by
    have B:sR R n x t h (fun e t h=>Ex.casesOn e (k .normal t h) (k .ret t h) fun i=>Ag (k (.exit i) t h) (k .normal t h) (Ae i id))=Jo:=u;obtain⟨e,K,G,h1,E,I,u⟩:=jG J hr B
    cases e with
    | normal=>exact⟨.normal,K,G,h1,by simp only[aN,E],I,u⟩
    | ret=>exact⟨.ret,K,G,h1,by simp only[aN,E],I,u⟩
    | exit i=>
      have u:Ag (k (.exit i) G h1) (k .normal G h1) (Ae i id)=Jo:=u
      cases hb:Ae i id with
      | true=>rw[hb]at u;exact⟨.normal,K,G,h1,by simp only[aN,E];rw[if_pos (Bd hb)],I,u⟩
      | false=>rw[hb]at u;exact⟨.exit i,K,G,h1,by simp only[aN,E];rw[if_neg (bC hb)],I,u⟩
  | .loop Y x,t,a,h,k,hr,u=>by
    have B:O3 n Y t (fun t=>sR R n x t h fun e t h=>Ex.casesOn e (R.code (.loop Y x) n t h k) (k .ret t h) fun i=>k (.exit i) t h)=Jo:=u;obtain⟨t0,u,Z⟩:=WI hr B;obtain⟨e,K,G,h1,E,I,u⟩:=jG J Z u
    cases e with
    | normal=>obtain⟨e,L,M,h2,O,Q,u⟩:=J.code _ _ _ _ _ u _ I;exact⟨e,L,M,h2,by simp only[aN,E,O],Q,u⟩
    | ret=>exact⟨.ret,K,G,h1,by simp only[aN,E],I,u⟩
    | exit i=>exact⟨.exit i,K,G,h1,by simp only[aN,E],I,u⟩
  | .rangeFunc f ps a0 body,t,a,h,k,hr,u=>WK J hr u
def aBb{n:Nat}{t:TT}{a:List AV}{h:H}{r:jt}{k:AV->Bool}(hr:Rl n t a)(u:aF5 t h r k=Jo):∃v,vB a h r=Jm v/\k v=Jo:=by
  cases r with
  | tmp i=>have u:t.gk i k=Jo:=u;rw[TT.nc,hr.get]at u;exact⟨_,rfl,u⟩
  | cell i=>have u:t.gk i (fun v=>qE v fun b o=>h.ck b fun _ _ cs=>lgk cs o k)=Jo:=u;rw[TT.nc,hr.get]at u;obtain⟨b,o,e,u⟩:=kS u;obtain⟨ver,rw_,cs,h1,u⟩:=H.pg u;obtain⟨v,h2,u⟩:=uM u;exact⟨v,by simp only[vB,e,gQ,h1,h2],u⟩
  | cells i m=>have u:t.gk i (fun v=>qE v fun b o=>gck h b o m fun cs=>k (.agg cs))=Jo:=u;rw[TT.nc,hr.get]at u;obtain⟨b,o,e,u⟩:=kS u;obtain⟨cs,h1,_,u⟩:=HF u;exact⟨_,by simp only[vB,e,h1,Option.map_some],u⟩
def EV{n:Nat}{t:TT}{a:List AV}{h:H}(hr:Rl n t a):∀{l:List jt} {k:List AV->Bool},O6 t h l k=Jo->∃y,dG a h l=Jm y/\k y=Jo
  | [],k,u=>⟨[],rfl,u⟩
  | r::l,k,u=>by obtain⟨v,B,u⟩:=aBb (k:=fun v=>O6 t h l fun y=>k (v::y)) hr u;obtain⟨y,E,u⟩:=EV hr u;exact⟨v::y,by simp only[dG,B,E],u⟩
def aA2(l:List AV)(k:AV->Bool):aF4 l k=k (iE l):=by
  cases l with
  | nil=>rfl
  | cons v l=>cases l<;>rfl
def TC{n:Nat}{t:TT}{a:List AV}{h:H}{u:List jt}{k:AV->H->Bool}(hr:Rl n t a)(y:aG6 u t h k=Jo):∃B,dG a h u=Jm B/\k (iE B) h=Jo:=by obtain⟨B,e,y⟩:=EV hr y;rw[aA2]at y;exact⟨B,e,y⟩
def DE:∀(l:List AV) (n j:Nat),dl (l++Ah n .aa) j=dl l j
  | [],n,j=>by
    simp only[List.nil_append]
    induction n generalizing j with
    | zero=>rfl
    | succ n u=>cases j with
      | zero=>rfl
      | succ j=>simp only[List.replicate_succ,dl];exact(u j)
  | x::l,n,0=>rfl
  | x::l,n,j+1=>by simp only[Al,dl];exact DE l n j
def WQ(K:qb R rec){T:KT}{g:FuncId}{args:List AV}{h:H}{k:AV->H->Bool}(u:aBa R T g args h k=Jo):∃v B,dH rec T.find g args h=Jm (v,B)/\k v B=Jo:=by
  rcases KT.kj u with⟨F,y,u⟩ | ⟨y,u⟩ | ⟨y,u⟩ | ⟨F,y,u⟩ | ⟨F,y,u⟩
  · obtain⟨G,L,body⟩:=F;obtain⟨h1,u⟩:=kif_ok u;rw[sQ]at h1;have h1:=Bt h1;obtain⟨t,u,ht⟩:=K1 u;have hr:Rl G t (qC args G):=⟨by simp[qC];omega,fun i=>by rw[ht,qC,DE]⟩;obtain⟨e,O,Q,h1,I,J,u⟩:=jG K hr u
    cases e with
    | normal=>obtain⟨M,E,u⟩:=TC J u;exact⟨_,_,by simp only[dH,y,I,E],u⟩
    | ret=>obtain⟨M,E,u⟩:=TC J u;exact⟨_,_,by simp only[dH,y,I,E],u⟩
    | exit i=>cases u
  · cases args with
    | nil=>exact⟨_,_,by simp only[dH,y,jC],u⟩
    | cons x l=>cases u
  · obtain⟨v,B,e,u⟩:=aG7 u;exact⟨v,B,by simp only[dH,y,e],u⟩
  · obtain⟨v,B,e,u⟩:=aEu u;exact⟨v,B,by simp only[dH,y,e],u⟩
  · obtain⟨v,B,e,u⟩:=aEv u;exact⟨v,B,by simp only[dH,y,e],u⟩
end
def GZ(T:KT):∀n,qb (aIw T n) (run T.find n)
  | 0=>⟨fun _ _ _ _ _ h=>by(cases h),fun _ _ _ _ h=>by(cases h)⟩
  | n+1=>⟨fun c m t h k u a hr=>jG (GZ T n) hr u,fun g args h k u=>WQ (GZ T n) u⟩
noncomputable def kclosed(T:KT)(n:Nat)(g:FuncId):Bool:=(aIw T n).call g [] ⟨nat_lit 0,.leaf⟩ fun v _=>oN v fun b=>b
def O5{T:KT}{n:Nat}{g:FuncId}(h:kclosed T n g=Jo):∃u,(run T.find n).call g [] H.empty=Jm (.bool Jo,u):=by obtain⟨v,u,e,y⟩:=(GZ T n).call _ _ _ _ h;obtain⟨b,rfl,hb⟩:=kD y;have hb:b=Jo:=hb;subst hb;exact⟨u,e⟩
def gJ:Value->Option AV
  | .bool b=>Jm (.bool b)
  | .int k n=>Jm (.int k n)
  | .string s=>Jm (.str s)
  | .pointer Jn=>Jm .au
  | .slice Jn 0 0=>Jm .ag
  | .map Jn=>Jm .bc
  | .nilFunc=>Jm .aq
  | .nilIface=>Jm .ae
  | .func (.func f) ⟨[]⟩ ⟨[]⟩=>Jm (.func (.func f) [] [])
  | _=>Jn
def eF{α β:Type}(f:α->Option β):List α->Option (List β)
  | []=>Jm []
  | x::u=>match f x,eF f u with
    | some y,Jm B=>Jm (y::B)
    | _,_=>Jn
def FS:Value->Option AV
  | .agg cs=>(eF gJ cs.toList).map .agg
  | .iface t v=>(gJ v).map (.iface t)
  | v=>gJ v
def trR:Operand->Option AR
  | .tmp t=>Jm (.tmp t)
  | .const v=>(FS v).map .const
  | .func f=>Jm (.const (.func (.func f) [] []))
  | .global _=>Jn
def CK(l:List Operand):Option (List AR):=eF trR l
def CL:Option Operand->Option (Option AR)
  | none=>Jm Jn
  | some x=>(trR x).map Jm
section
variable (P:Program)
def nZ(t:TypeId):Option (List AV):=
  match P.info? t with
  | some i=>match i.zero with
    | some z=>eF gJ z.cells.toList
    | none=>Jn
  | none=>Jn
def eK(t:TypeId):Option Nat:=(P.info? t).map (·.size)
def nM(t:TypeId):Option Bool:=
  match P.underlying t with
  | some (.struct _)=>Jm Jo
  | some (.array _ _)=>Jm Jo
  | some _=>Jm Jp
  | none=>Jn
def pD(u:Nat->Option (Nat×Nat)):List (Nat×Operand)->Option (List (Nat×Nat×AR))
  | []=>Jm []
  | (i,x)::r=>match u i,trR x,pD u r with
    | some (off,size),Jm y,Jm B=>Jm ((off,size,y)::B)
    | _,_,_=>Jn
def lG(u:Array Field)(i:Nat):Option (Nat×Nat):=
  match u[i]? with
  | some f=>match eK P f.type with
    | some s=>Jm (f.offset,s)
    | none=>Jn
  | none=>Jn
def pO(t:TypeId):Option Nat:=
  match P.underlying t with
  | some (.int _)=>Jm 0
  | some .bool=>Jm 1
  | some .string=>Jm 2
  | _=>Jn
def RW(t:TypeId):Option AV:=
  match P.info? t with
  | some i=>match i.zero with
    | some z=>gJ z
    | none=>Jn
  | none=>Jn
def gY(b:Builtin)(B:List TypeId)(args:List Operand):Option AO:=
  match b,B,args with
  | .append,t::y::_,[s,x]=>match P.underlying t,P.underlying y,trR s,trR x with
    | some (.slice e),Jm (.slice _),Jm s,Jm x=>match P.info? e,nZ P e with
      | some i,Jm z=>if i.size=z.length&&0<i.size then Jm (.append i.size i.bytes s x)else Jn
      | _,_=>Jn
    | some (.slice e),Jm .string,Jm s,Jm x=>match P.info? e,nZ P e with
      | some i,Jm z=>if i.size=z.length&&0<i.size then Jm (.append i.size i.bytes s x)else Jn
      | _,_=>Jn
    | some (.slice e),Jm (.int _),Jm s,Jm x=>match P.info? e,nZ P e with
      | some i,Jm z=>if i.size=z.length&&0<i.size then Jm (.br i.bytes z s x)else Jn
      | _,_=>Jn
    | _,_,_,_=>Jn
  | .len,t::_,[x]=>match P.underlying t,trR x with
    | some (.slice _),Jm x=>Jm (.len x)
    | some .string,Jm x=>Jm (.jd x)
    | some (.map _ _),Jm x=>Jm (.iv x)
    | some (.array n _),_=>Jm (.move (.const (i64 n)))
    | _,_=>Jn
  | .cap,t::_,[x]=>match P.underlying t,trR x with
    | some (.slice _),Jm x=>Jm (.cap x)
    | _,_=>Jn
  | .copy,t::y::_,[d,x]=>match P.underlying t,P.underlying y,trR d,trR x with
    | some (.slice e),Jm (.slice _),Jm d,Jm x=>match P.info? e with
      | some i=>if 0<i.size then Jm (.jf i.size d x)else Jn
      | none=>Jn
    | _,_,_,_=>Jn
  | .clear,t::_,[x]=>match P.underlying t,trR x with
    | some (.slice e),Jm x=>match P.info? e,nZ P e with
      | some i,Jm z=>if i.size=z.length&&0<i.size then Jm (.fq z x)else Jn
      | _,_=>Jn
    | _,_=>Jn
  | .max,_,x::u=>match trR x,CK u with
    | some x,Jm u=>Jm (.max x u)
    | _,_=>Jn
  | .min,_,x::u=>match trR x,CK u with
    | some x,Jm u=>Jm (.min x u)
    | _,_=>Jn
  | _,_,_=>Jn
def GO:TypeDesc->Option Nat
  | .slice _=>Jm 0
  | .pointer _=>Jm 1
  | .map _ _=>Jm 2
  | .func _ _ _=>Jm 3
  | _=>Jn
def nN(P:Program)(f:TypeId->Option (List (Option IntKind))):Nat->List Field->Option (List (Option IntKind))
  | _,[]=>Jm []
  | off,x::u=>match f x.type,nN P f (x.offset+P.cellsOf x.type) u with
    | some a,Jm b=>if x.offset=off/\a.length=P.cellsOf x.type then Jm (a++b)else Jn
    | _,_=>Jn
def tT(a:List (Option IntKind)):Nat->List (Option IntKind)
  | 0=>[]
  | n+1=>a++tT a n
def qG(P:Program):Nat->TypeId->Option (List (Option IntKind))
  | 0,_=>Jn
  | m+1,t=>match P.underlying t with
    | some (.int k)=>Jm [Jm k]
    | some .bool=>Jm [Jn]
    | some (.struct u)=>match nN P (qG P m) 0 u.toList with
      | some T=>if T.length=P.cellsOf t/\u.all (·.name != "_")=Jo then Jm T else Jn
      | none=>Jn
    | some (.array n e)=>match qG P m e with
      | some E=>if E.length=P.cellsOf e/\(tT E n).length=P.cellsOf t then Jm (tT E n)else Jn
      | none=>Jn
    | _=>Jn
def pQ(P:Program)(op:BinOp)(t:TypeId)(x y:AR):Option AO:=
  match op,qG P 20 t with
  | .eql,Jm T=>if P.keyTypeAt 20 t=Jo/\P.eqGuardType P.depth t=Jp then Jm (.dz Jp T x y)else Jn
  | .neq,Jm T=>if P.keyTypeAt 20 t=Jo/\P.eqGuardType P.depth t=Jp then Jm (.dz Jo T x y)else Jn
  | _,_=>Jn
def tB:Operand->Bool
  | .const _=>Jo
  | _=>Jp
def GV(P:Program)(m:String)(t:TypeId):Option FuncId:=
  match P.info? t,P.underlying t with
  | some i,Jm (.pointer _)=>match i.methods.find? (·.name==m)with
    | some u=>match u.path.toList,u.func with
      | [],Jm (f,Jo)=>Jm f
      | _,_=>Jn
    | none=>Jn
  | _,_=>Jn
def lE(P:Program)(m:String):List Nat->List AV
  | []=>[]
  | t::r=>match GV P m t with
    | some f=>i64 t::i64 f::lE P m r
    | none=>lE P m r
def aX(o:Oper):Option AO:=
  match o.op with
  | .move x | .assign x=>(trR x).map .move
  | .pick c a b=>match trR c,trR a,trR b with
    | some c,Jm a,Jm b=>Jm (.pick c a b)
    | _,_,_=>Jn
  | .alloc e=>(nZ P e).map .alloc
  | .box _ x=>(trR x).map .box
  | .build t I=>match nZ P t,P.underlying t with
    | some z,Jm (.struct E)=>if E.toList.all (fun f=>(eK P f.type).isSome)then(pD (lG P E) I.toList).map (.build z)else Jn
    | some z,Jm (.array _ e)=>match eK P e with
      | some s=>(pD (fun i=>Jm (i*s,s)) I.toList).map (.build z)
      | none=>Jn
    | _,_=>Jn
  | .buildSlice t len I=>match P.underlying t with
    | some (.slice e)=>match eK P e,nZ P e with
      | some s,Jm z=>if s=z.length&&0<s&&len*s<=65536 then(pD (fun i=>Jm (i*s,s)) I.toList).map (.buildSlice s len z)else Jn
      | _,_=>Jn
    | _=>Jn
  | .load t x=>match nM P t,eK P t,trR x with
    | some Jo,Jm n,Jm x=>Jm (.dw n x)
    | some Jp,_,Jm x=>Jm (.load x)
    | _,_,_=>Jn
  | .store t p x=>match eK P t,trR p,trR x with
    | some n,Jm p,Jm x=>Jm (.store n p x)
    | _,_,_=>Jn
  | .nilCheck x=>(trR x).map .nilCheck
  | .binOp op t x y _=>match trR x,trR y,P.underlying t with
    | some x,Jm y,Jm (.int _) | some x,Jm y,Jm .string=>Jm (.bin op x y)
    | some x,Jm y,Jm .bool=>match op with
      | .eql=>Jm (.eqB Jp x y)
      | .neq=>Jm (.eqB Jo x y)
      | _=>Jn
    | some x,Jm y,Jm (.struct _) | some x,Jm y,Jm (.array _ _)=>pQ P op t x y
    | some M,Jm O,Jm (.interface _)=>if tB x||tB y then match op with
        | .eql=>Jm (.isNil 4 Jp M O)
        | .neq=>Jm (.isNil 4 Jo M O)
        | _=>Jn
      else Jn
    | some x,Jm y,Jm d=>match GO d,op with
      | some kd,.eql=>Jm (.isNil kd Jp x y)
      | some kd,.neq=>Jm (.isNil kd Jo x y)
      | _,_=>Jn
    | _,_,_=>Jn
  | .unOp op _ x=>(trR x).map (.un op)
  | .convert J K x=>match P.underlying J,P.underlying K,trR x with
    | some (.int _),Jm (.int k),Jm x=>Jm (.da k x)
    | some .string,Jm .string,Jm x=>Jm (.kq x)
    | some (.slice e),Jm .string,Jm x=>match P.underlying e with
      | some (.int .u8)=>Jm (.bu x)
      | _=>Jn
    | some .string,Jm (.slice e),Jm x=>match P.underlying e with
      | some (.int .u8)=>Jm (.cu x)
      | _=>Jn
    | _,_,_=>Jn
  | .makeInterface t x=>match P.underlying t with
    | some (.interface _)=>Jn
    | some _=>(trR x).map (.gu t)
    | none=>Jn
  | .makeFunc fn f c=>match fn,CK f.toList,CK c.toList with
    | .yield _,_,_=>Jn
    | .methodOf _ _,_,_=>Jn
    | fn,Jm f,Jm c=>Jm (.gi fn f c)
    | _,_,_=>Jn
  | .makeMap _ Jn=>Jm .makeMap
  | .makeSlice t l c=>match P.underlying t with
    | some (.slice e)=>match P.info? e,nZ P e,trR l,trR c with
      | some i,Jm z,Jm l,Jm c=>if i.size=z.length&&0<i.size then Jm (.makeSlice i.bytes z l c)else Jn
      | _,_,_,_=>Jn
    | _=>Jn
  | .slice t x u B G=>match P.underlying t with
    | some (.slice e)=>match eK P e,trR x,CL u,CL B,CL G with
      | some s,Jm x,Jm u,Jm B,Jm G=>Jm (.slice s x u B G)
      | _,_,_,_,_=>Jn
    | some .string=>match trR x,CL u,CL B,G with
      | some x,Jm u,Jm B,Jn=>Jm (.ep x u B)
      | _,_,_,_=>Jn
    | some (.array n e)=>match eK P e,trR x,CL u,CL B,G with
      | some s,Jm x,Jm u,Jm B,Jn=>if n<=65536 then Jm (.cz n s x u B)else Jn
      | _,_,_,_,_=>Jn
    | _=>Jn
  | .fieldAddr t x i=>match P.underlying t with
    | some (.struct E)=>match E[i]? with
      | some f=>match eK P f.type,trR x with
        | some (_+1),Jm x=>Jm (.fieldAddr f.offset x)
        | _,_=>Jn
      | none=>Jn
    | _=>Jn
  | .field t x i=>match P.underlying t with
    | some (.struct E)=>match E[i]? with
      | some f=>match nM P f.type,eK P f.type,trR x with
        | some Jo,Jm n,Jm x=>Jm (.field f.offset (Jm n) x)
        | some Jp,_,Jm x=>Jm (.field f.offset Jn x)
        | _,_,_=>Jn
      | none=>Jn
    | _=>Jn
  | .indexAddr t x i=>match P.underlying t,trR x,trR i with
    | some (.slice e),Jm x,Jm i=>match eK P e with
      | some s=>Jm (.indexAddr s x i)
      | none=>Jn
    | some (.array n e),Jm x,Jm i=>match eK P e with
      | some s=>Jm (.be n s x i)
      | none=>Jn
    | _,_,_=>Jn
  | .index t x i=>match P.underlying t,trR x,trR i with
    | some (.array n e),Jm x,Jm i=>match eK P e,nM P e with
      | some s,Jm b=>Jm (.index n s b x i)
      | _,_=>Jn
    | some .string,Jm x,Jm i=>Jm (.dc x i)
    | _,_,_=>Jn
  | .lookup t x i L=>match P.underlying t,trR x,trR i with
    | some (.map k e),Jm x,Jm i=>match RW P e,pO P k with
      | some z,Jm kd=>Jm (.lookup kd L z x i)
      | _,_=>Jn
    | _,_,_=>Jn
  | .mapUpdate t m k v | .insert t m k v=>match P.underlying t,trR m,trR k,trR v with
    | some (.map Q _),Jm m,Jm k,Jm v=>match pO P Q with
      | some kd=>Jm (.mapUpdate kd m k v)
      | none=>Jn
    | _,_,_,_=>Jn
  | .extract x i=>(trR x).map (.extract · i)
  | .panic _=>Jm (.extract (.const .aa) 0)
  | .call c=>match c.callee with
    | .value f=>match trR f,CK c.args.toList with
      | some f,Jm args=>Jm (.call f args)
      | _,_=>Jn
    | .builtin b=>gY P b c.argTypes.toList c.args.toList
    | .invoke r m=>match trR r,CK c.args.toList with
      | some x,Jm R=>Jm (.call (.const (.func (.methodOf 0 m) (lE P m (Aw P.types.size)) [])) (x::R))
      | _,_=>Jn
  | .typeAssert x _ t L=>match L,P.underlying t,RW P t,trR x with
    | true,Jm (.interface _),_,_=>Jn
    | true,Jm _,Jm z,Jm x=>Jm (.pq t z x)
    | _,_,_,_=>Jn
  | _=>Jn
def AO.stuck:AO:= .extract (.const .aa) 0
def DK:Op->Bool
  | .convert .. | .slice .. | .indexAddr .. | .index .. | .call _ | .load .. | .store .. | .binOp .. | .unOp .. | .makeInterface .. =>Jo
  | _=>Jp
def yL(o:Oper):Option AO:=match aX P o with
  | some u=>Jm u
  | none=>if DK o.op then Jm .stuck else Jn
def mZ{o:Oper}{u:AO}(h:yL P o=Jm u):aX P o=Jm u\/(u= .stuck/\DK o.op=Jo):=by
  unfold yL at h;split at h
  · rename_i h0;rw[h0];cases h;exact .inl rfl
  · split at h
    · rename_i hs;cases h;exact .inr ⟨rfl,hs⟩
    · cases h
def AO.reads:AO->Bool
  | .load _ | .dw .. | .lookup .. | .iv _ | .bu _ | .cz .. | .alloc _ | .box _ | .buildSlice .. | .makeSlice .. | .makeMap=>Jo
  | _=>Jp
def opR:AR->List Nat
  | .tmp t=>[t]
  | .const _=>[]
def KC:Option AR->List Nat
  | some x=>opR x
  | none=>[]
def AO.di:AO->List Nat
  | .move x | .box x | .load x | .dw _ x | .nilCheck x | .un _ x | .da _ x | .kq x | .bu x | .gu _ x | .fieldAddr _ x | .field _ _ x | .extract x _ | .len x | .jd x | .iv x | .cap x | .fq _ x | .pq _ _ x | .cu x=>opR x
  | .pick c a b | .mapUpdate _ c a b=>opR c++opR a++opR b
  | .alloc .. | .makeMap=>[]
  | .build _ u | .buildSlice _ _ _ u=>u.flatMap fun p=>opR p.2.2
  | .store _ a b | .bin _ a b | .isNil _ _ a b | .eqB _ a b | .dz _ _ a b | .makeSlice _ _ a b | .indexAddr _ a b | .be _ _ a b | .index _ _ _ a b | .dc a b | .lookup _ _ _ a b | .append _ _ a b | .br _ _ a b | .jf _ a b=>opR a++opR b
  | .gi _ f c=>f.flatMap opR++c.flatMap opR
  | .slice _ x lo hi mx=>opR x++KC lo++KC hi++KC mx
  | .cz _ _ x lo hi=>opR x++KC lo++KC hi
  | .ep x lo hi=>opR x++KC lo++KC hi
  | .call f args=>opR f++args.flatMap opR
  | .max x xs | .min x xs=>opR x++xs.flatMap opR
def aw.names(o:aw):List Nat:=o.dst.toList++o.op.di++(match o.guard with | some (t,_)=>[t] | none=>[])
def bA(o:Oper):List Nat:=(o.after.toList.filter (Region.binds .any)).map (·.on)
def pY:List Oper->List (List Nat)->List (List Nat)
  | [],u=>u
  | o::os,u=>pY os (u++[((bA o).flatMap fun j=>j::u.getD j []).eraseDups])
def tS(ops:Array Oper)(o:Oper):Option aw:=
  match yL P o with
  | some y=>match o.guard with
    | none=>Jm ⟨o.dst,y,Jn,[]⟩
    | some (j,u)=>match (ops[j]?).bind (·.dst)with
      | some d=>Jm ⟨o.dst,y,Jm (d,u),[]⟩
      | none=>Jn
  | none=>Jn
def dD(u:List (List Nat))(i j:Nat):Bool:=(u.getD j []).contains i||(u.getD i []).contains j
def oP(x y:aw):Bool:=(x.op.effect&&y.op.reads)||(y.op.effect&&x.op.reads)
def iY(y:List (List Nat))(u:List aw):List aw:=
  u.zipIdx.map fun(o,i)=>{o with chk:=(Aw i).filter fun j=>match u[j]? with
    | some p=> !dD y j i&&oP p o
    | none=>Jp}
def PM(B:Bool)(ops:List Oper)(y:List (List Nat))(u:List aw):Bool:=
  (B|| !Region.departs ops.toArray)&&
  (ops.zipIdx.all fun(o,i)=>(bA o).all (· <i))&&
  (u.zipIdx.all fun(o,i)=>u.zipIdx.all fun(p,j)=>
    i==j||((!(o.op.effect&&p.op.effect)||dD y i j)&&
      (match o.dst with | some d=> !p.names.contains d||dD y i j | none=>Jo)))
def i7(ops:Array Oper)(y:Bool):Option AC:=
  match eF (tS P ops) ops.toList with
  | none=>Jn
  | some u=>
    if !y then Jm (.region u)else
    let B:=pY ops.toList []
    if PM (P.follows .mixedOrders) ops.toList B u then
      let l:=iY B u
      if l.all (fun o=>o.chk.isEmpty)then Jm (.region u)else Jm (.fc l)
    else Jn
def xV:Code->Bool
  | .goto _=>Jo
  | .seq a b | .cond _ a b | .rangeFunc _ _ a b=>xV a||xV b
  | .block _ c | .loop c | .scope c=>xV c
  | _=>Jp
def vA:Code->Option Nat
  | .seq a b=>match vA a with
    | some l=>Jm l
    | none=>vA b
  | .label l=>Jm l
  | _=>Jn
def trJ(l:Nat):Code->Option AC
  | .skip=>Jm .skip
  | .label _=>Jm .skip
  | .region _ ops u=>i7 P ops u
  | .seq a b=>match trJ l a,trJ l b with
    | some x,Jm y=>Jm (.seq x y)
    | _,_=>Jn
  | .cond c a b=>match trR c,trJ l a,trJ l b with
    | some c,Jm x,Jm y=>Jm (.cond c x y)
    | _,_,_=>Jn
  | .goto B=>if B=l then Jm (.exit (1048576+l))else Jn
  | .exit id=>if id<1048576 then Jm (.exit id)else Jn
  | .ret=>Jm .ret
  | _=>Jn
def aBo(l:Nat)(x y:AC):AC:= .block (2097152+l) (.seq (.block (1048576+l) (.seq x (.exit (2097152+l)))) (.loop [] (.block (1048576+l) (.seq y (.exit (2097152+l))))))
def FP(b:Code):Option AC:=match vA b with
  | some l=>match findLabel b l with
    | some r=>match trJ P l b,trJ P l r with
      | some x,Jm y=>Jm (aBo l x y)
      | _,_=>Jn
    | none=>Jn
  | none=>Jn
def tr:Code->Option AC
  | .skip=>Jm .skip
  | .region _ ops u=>i7 P ops u
  | .seq a b=>match tr a,tr b with
    | some x,Jm y=>Jm (.seq x y)
    | _,_=>Jn
  | .cond c a b=>match trR c,tr a,tr b with
    | some c,Jm x,Jm y=>Jm (.cond c x y)
    | _,_,_=>Jn
  | .block id b=>(tr b).map (.block id)
  | .loop b=>(tr b).map (.loop [])
  | .rangeFunc f E B b=>match trR f,tr B,tr b with
    | some f,Jm x,Jm y=>Jm (.rangeFunc f E.toList x y)
    | _,_,_=>Jn
  | .exit id=>Jm (.exit id)
  | .ret=>Jm .ret
  | .scope b=>if xV b then FP P b else tr b
  | .label _=>Jm .skip
  | _=>Jn
end
def aGu(l t:Nat):Nat:=l||| 2^t
def aBZ(l t:Nat):Nat:=if l.testBit t then l-2^t else l
def tF(l:Nat)(u:List Nat):Nat:=u.foldl aGu l
def GY:List aw->Nat->Nat
  | [],u=>u
  | o::os,u=>
    let l:=GY os u
    let l:=match o.dst with | some d=>aBZ l d | none=>l
    tF (tF l o.op.di) (match o.guard with | some (t,_)=>[t] | none=>[])
def live(E:Nat):AC->(u:Nat)->(ex:List (Nat×Nat))->(B:Nat)->Nat×AC
  | .skip,u,_,_=>(u,.skip)
  | .region ops,u,_,_=>(GY ops u,.region ops)
  | .fc ops,u,_,_=>(GY ops u,.fc ops)
  | .seq x y,u,ex,B=>
    let (l,K):=live E y u ex B
    let (G,I):=live E x l ex B
    (G,.seq I K)
  | .cond c x y,u,ex,B=>
    let (l,I):=live E x u ex B
    let (G,K):=live E y u ex B
    (tF (l||| G) (opR c),.cond c I K)
  | .block id x,u,ex,B=>
    let (l,I):=live E x u ((id,u)::ex) B
    (l,.block id I)
  | .loop _ x,_,ex,B=>
    let (l,_):=live E x 0 ex B
    let (G,I):=live E x l ex B
    (G,.loop ((Aw E).filter fun t=> !G.testBit t) I)
  | .rangeFunc f M L b,u,ex,B=>
    let (l,O):=live E b 0 ex B
    let (G,J):=live E L l ex B
    (tF (u||| (M.foldl aBZ G)||| ex.foldl (fun s p=>s||| p.2) B) (opR f),.rangeFunc f M J O)
  | .exit id,_,ex,_=>(((ex.find? (·.1==id)).map (·.2)).getD 0,.exit id)
  | .ret,_,_,B=>(B,.ret)
def DC(P:Program):ResultVar->Option jt
  | .tmp t=>Jm (.tmp t)
  | .cell t u=>match nM P u,eK P u with
    | some Jo,Jm n=>Jm (.cells t n)
    | some Jp,_=>Jm (.cell t)
    | _,_=>Jn
def xM(l:List jt):Nat:=tF 0 (l.map fun | .tmp t=>t | .cell t=>t | .cells t _=>t)
def trFn(P:Program)(f:Func):Option AFn:=
  match f.body,eF (DC P) f.results.toList with
  | some b,Jm u=>match tr P b with
    | some c=>Jm ⟨f.ntmps,u,(live f.ntmps c (xM u) [] (xM u)).2⟩
    | none=>Jn
  | _,_=>Jn
structure Loc where
  blk:Nat
  base:Nat
  lim:Nat
abbrev Emb:=Nat->Option Loc
def sN:Fn->Bool
  | .yield _=>Jp
  | .methodOf _ _=>Jp
  | _=>Jo
inductive VR (ρ:Emb):AV->Value->Prop
  | aa (u:Value):VR ρ .aa u
  | bool (b:Bool):VR ρ (.bool b) (.bool b)
  | int (k:IntKind) (n:Int):VR ρ (.int k n) (.int k n)
  | str (s:ByteArray):VR ρ (.str s) (.string s)
  | au:VR ρ .au (.pointer Jn)
  | ptr (b o:Nat) (l:Loc) (h:ρ b=Jm l):VR ρ (.ptr b o) (.pointer (Jm ⟨l.blk,l.base+o,Jn⟩))
  | ag:VR ρ .ag (.slice Jn 0 0)
  | slice (fl:Bool) (sz b o n cap:Nat) (ad:Addr) (h1:n<=cap) (h2:cap<=maxLen) (h3:fl=Jo->cap=n)
      (h4:0<cap->∃l,ρ b=Jm l/\ad=⟨l.blk,l.base+o,Jn⟩/\l.base+o+cap*sz<=l.lim):VR ρ (.slice fl sz b o n) (.slice (Jm ad) n cap)
  | bc:VR ρ .bc (.map Jn)
  | map (r:Nat) (l:Loc) (h:ρ r=Jm l):VR ρ (.map r) (.map (Jm l.blk))
  | func (fn:Fn) (f c:List AV) (f' c':List Value) (hp:sN fn=Jo) (hf:f'.length=f.length) (hc:c'.length=c.length)
      (h1:∀(i:Nat) (v:AV) (u:Value),f[i]? =Jm v->f'[i]? =Jm u->VR ρ v u) (h2:∀(i:Nat) (v:AV) (u:Value),c[i]? =Jm v->c'[i]? =Jm u->VR ρ v u):VR ρ (.func fn f c) (.func fn f'.toArray c'.toArray)
  | yield (r:Nat) (l:Loc) (h:ρ r=Jm l):VR ρ (.func (.yield r) [] []) (.func (.yield l.blk) #[] #[])
  | aq:VR ρ .aq .nilFunc
  | iface (t:TypeId) (v:AV) (u:Value) (h:VR ρ v u):VR ρ (.iface t v) (.iface t u)
  | ae:VR ρ .ae .nilIface
  | agg (cs:List AV) (us:List Value) (hl:us.length=cs.length) (h:∀(i:Nat) (v:AV) (u:Value),cs[i]? =Jm v->us[i]? =Jm u->VR ρ v u):VR ρ (.agg cs) (.agg us.toArray)
  | tuple (cs:List AV) (us:List Value) (hl:us.length=cs.length) (h:∀(i:Nat) (v:AV) (u:Value),cs[i]? =Jm v->us[i]? =Jm u->VR ρ v u):VR ρ (.tuple cs) (.tuple us.toArray)
def VRs(ρ:Emb)(cs:List AV)(y:List Value):Prop:=y.length=cs.length/\∀(i:Nat) (v:AV) (u:Value),cs[i]? =Jm v->y[i]? =Jm u->VR ρ v u
def Sub(ρ u:Emb):Prop:=∀x l,ρ x=Jm l->u x=Jm l
def Sub.refl(ρ:Emb):Sub ρ ρ:=fun _ _ h=>h
def Sub.trans{a b c:Emb}(h:Sub a b)(k:Sub b c):Sub a c:=fun x l e=>k x l (h x l e)
def VR.mono{ρ G:Emb}(hs:Sub ρ G){v:AV}{u:Value}(h:VR ρ v u):VR G v u:=by
  induction h with
  | aa u=>exact .aa u
  | bool b=>exact .bool b
  | int k n=>exact .int k n
  | str s=>exact .str s
  | au=>exact .au
  | ptr b o l h=>exact .ptr b o l (hs _ _ h)
  | ag=>exact .ag
  | slice fl sz b o n cap ad h1 h2 h3 h4=>exact .slice fl sz b o n cap ad h1 h2 h3 (fun hc=>let ⟨l,e,r⟩:=h4 hc;⟨l,hs _ _ e,r⟩)
  | bc=>exact .bc
  | map r l h=>exact .map r l (hs _ _ h)
  | func fn f c f' c' hp hf hc h1 h2 B E=>exact .func fn f c f' c' hp hf hc B E
  | yield r l h=>exact .yield r l (hs _ _ h)
  | aq=>exact .aq
  | iface t v u h y=>exact .iface t v u y
  | ae=>exact .ae
  | agg cs us hl h y=>exact .agg cs us hl y
  | tuple cs us hl h y=>exact .tuple cs us hl y
def VRs.mono{ρ y:Emb}(hs:Sub ρ y){cs:List AV}{B:List Value}(h:VRs ρ cs B):VRs y cs B:=⟨h.1,fun i v u a b=>(h.2 i v u a b).mono hs⟩
def VRs.nil(ρ:Emb):VRs ρ [] []:=⟨rfl,fun i v u h=>by simp at h⟩
def VRs.cons{ρ:Emb}{v:AV}{u:Value}{cs:List AV}{y:List Value}(h:VR ρ v u)(hs:VRs ρ cs y):VRs ρ (v::cs) (u::y):=by
  refine⟨by simp[hs.1],fun i a b h1 h2=>?_⟩
  cases i with
  | zero=>simp at h1 h2;subst h1;subst h2;exact h
  | succ i=>exact hs.2 i a b (by simpa using h1) (by simpa using h2)
def VRs.head{ρ:Emb}{v:AV}{u:Value}{cs:List AV}{y:List Value}(h:VRs ρ (v::cs) (u::y)):VR ρ v u:=h.2 0 v u rfl rfl
def VRs.tail{ρ:Emb}{v:AV}{u:Value}{cs:List AV}{y:List Value}(h:VRs ρ (v::cs) (u::y)):VRs ρ cs y:=
  ⟨by simpa using h.1,fun i a b h1 h2=>h.2 (i+1) a b (by simpa using h1) (by simpa using h2)⟩
def VRs.cr{ρ:Emb}{u:List Value}(h:VRs ρ [] u):u=[]:=by have:=h.1;simpa using this
def VRs.cons_inv{ρ:Emb}{v:AV}{cs:List AV}{B:List Value}(h:VRs ρ (v::cs) B):∃u y,B=u::y/\VR ρ v u/\VRs ρ cs y:=by
  cases B with
  | nil=>have:=h.1;simp at this
  | cons u y=>exact⟨u,y,rfl,h.head,h.tail⟩
def VRs.append{ρ:Emb} :∀{cs y:List AV} {E B:List Value},VRs ρ cs E->VRs ρ y B->VRs ρ (cs++y) (E++B)
  | [],_,E,_,h,G=>by rw[h.cr];exact G
  | v::cs,_,E,_,h,G=>by obtain⟨u,r,rfl,hv,hr⟩:=h.cons_inv;exact .cons hv (VRs.append hr G)
def VRs.getElem{ρ:Emb}{cs:List AV}{y:List Value}(h:VRs ρ cs y){i:Nat}{v:AV}(hv:cs[i]? =Jm v):∃u,y[i]? =Jm u/\VR ρ v u:=by
  have B:i<y.length:=by rw[h.1];exact(List.getElem?_eq_some_iff.1 hv).1
  exact⟨y[i],Ad B,h.2 i v _ hv (Ad B)⟩
def VRs.take{ρ:Emb}{cs:List AV}{y:List Value}(h:VRs ρ cs y)(n:Nat):VRs ρ (cs.take n) (y.take n):=by
  refine⟨by simp[h.1],fun i v u h1 h2=>?_⟩;rw[List.getElem?_take]at h1 h2;split at h1
  · rename_i hlt;rw[if_pos hlt]at h2;exact h.2 i v u h1 h2
  · cases h1
def VRs.drop{ρ:Emb}{cs:List AV}{y:List Value}(h:VRs ρ cs y)(n:Nat):VRs ρ (cs.drop n) (y.drop n):=by refine⟨by simp[h.1],fun i v u h1 h2=>?_⟩;rw[List.getElem?_drop]at h1 h2;exact h.2 (n+i) v u h1 h2
def VRs.qu{ρ:Emb}{cs:List AV}{u:List Value}(h:VRs ρ cs u):VR ρ (.agg cs) (.agg u.toArray):= .agg cs u h.1 h.2
def VRs.lm{ρ:Emb}{cs:List AV}{u:List Value}(h:VRs ρ cs u):VR ρ (.tuple cs) (.tuple u.toArray):= .tuple cs u h.1 h.2
def VRs.replicate{ρ:Emb}{v:AV}{u:Value}(h:VR ρ v u):∀n,VRs ρ (Ah n v) (Ah n u)
  | 0=>VRs.nil ρ
  | n+1=> .cons h (VRs.replicate h n)
def VR.jq{ρ:Emb}{cs:List AV}{u:Value}(h:VR ρ (.agg cs) u):∃us,u= .agg (Hw us)/\VRs ρ cs us:=by
  cases h with
  | agg _ us hl h=>exact⟨us,rfl,hl,h⟩
def VR.mv{ρ:Emb}{cs:List AV}{u:Value}(h:VR ρ (.tuple cs) u):∃us,u= .tuple (Hw us)/\VRs ρ cs us:=by
  cases h with
  | tuple _ us hl h=>exact⟨us,rfl,hl,h⟩
def VR.one{ρ:Emb}{v:AV}{u:Value}(h:VR ρ v u)(hv:v.one=Jo):u.oneCell'=Jo:=by cases h<;>first | rfl | (simp[AV.one]at hv)
def VR.cells{ρ:Emb}{v:AV}{u:Value}(h:VR ρ v u)(hv:v.cells.all AV.one=Jo):VRs ρ v.cells u.cells.toList/\∀x∈u.cells.toList,x.oneCell'=Jo:=by
  have y:∀{v:AV} {u:Value},VR ρ v u->v.one=Jo->VRs ρ [v] #[u].toList/\∀x∈#[u].toList,x.oneCell'=Jo:=fun h E=>⟨.cons h (.nil ρ),by simpa using h.one E⟩
  cases h with
  | agg cs us hl h=>
    refine⟨⟨hl,h⟩,fun x G=>?_⟩;obtain⟨i,I,e⟩:=Ec G;have B:i<cs.length:=by rw[<-hl];simpa [Value.cells]using I
    have h1:=h i cs[i] x (Ad B) (by rw[<-e];simp[Value.cells]);exact h1.one (by simpa using (List.all_eq_true.1 hv) cs[i] (List.getElem_mem B))
  | aa u=>simp[AV.cells,AV.one]at hv
  | tuple cs us hl h=>simp[AV.cells,AV.one]at hv
  | bool b=>exact y (.bool b) rfl
  | int k n=>exact y (.int k n) rfl
  | str s=>exact y (.str s) rfl
  | au=>exact y .au rfl
  | ptr b o l h=>exact y (.ptr b o l h) rfl
  | ag=>exact y .ag rfl
  | slice fl sz b o n cap ad h1 h2 h3 h4=>exact y (.slice fl sz b o n cap ad h1 h2 h3 h4) rfl
  | bc=>exact y .bc rfl
  | map r l h=>exact y (.map r l h) rfl
  | func fn f c f' c' hp hf hc h1 h2=>exact y (.func fn f c f' c' hp hf hc h1 h2) rfl
  | yield r l h=>exact y (.yield r l h) rfl
  | aq=>exact y .aq rfl
  | iface t v u h=>exact y (.iface t v u h) rfl
  | ae=>exact y .ae rfl
def TR(ρ:Emb)(a:List AV)(tmps:Array Value):Prop:=VRs ρ a tmps.toList
def jR:∀(a:List AV) (t:Nat),dl a t=(a[t]?).getD .aa
  | [],t=>by simp[dl]
  | v::l,0=>by simp[dl]
  | v::l,t+1=>by simp[dl,jR l t]
def wC:∀(a:List AV) (t:Nat) (v:AV),(iz a t v).length=a.length
  | [],_,_=>rfl
  | _::_,0,_=>rfl
  | _::l,t+1,v=>by simp[iz,wC l t v]
def xE:∀(a:List AV) (t:Nat) (v:AV),iz a t v=a.set t v
  | [],_,_=>by simp[iz]
  | _::_,0,_=>by simp[iz]
  | _::l,t+1,v=>by simp[iz,xE l t v]
def TR.get{ρ:Emb}{a:List AV}{tmps:Array Value}(h:TR ρ a tmps)(t:Nat):VR ρ (dl a t) (tmps.getD t undef):=by
  rw[jR]
  cases hv:a[t]? with
  | none=>exact .aa _
  | some v=>
    obtain⟨u,y,hr⟩:=h.getElem hv;have:tmps.getD t undef=u:=by rw[Array.getElem?_toList]at y;simp[Array.getD_eq_getD_getElem?,y]
    rw[this];exact hr
def TR.set{ρ:Emb}{a:List AV}{tmps:Array Value}(h:TR ρ a tmps)(t:Nat){v:AV}{u:Value}(hv:VR ρ v u):TR ρ (iz a t v) (tmps.setIfInBounds t u):=by
  rw[xE];refine⟨by simpa using h.1,fun i x y h1 h2=>?_⟩;rw[Array.toList_setIfInBounds]at h2;rw[Ew]at h1 h2;by_cases e:t=i
  · subst e;simp only[if_true]at h1 h2;split at h1
    · split at h2
      · cases h1;cases h2;exact hv
      · cases h2
    · cases h1
  · rw[if_neg e]at h1 h2;exact h.2 i x y h1 h2
def TR.aa{ρ:Emb}{a:List AV}{tmps:Array Value}(h:TR ρ a tmps)(t:Nat):TR ρ (iz a t .aa) tmps:=by
  rw[xE];refine⟨by simpa using h.1,fun i x y h1 h2=>?_⟩;rw[Ew]at h1;by_cases e:t=i
  · subst e;simp only[if_true]at h1;split at h1
    · cases h1;exact .aa y
    · cases h1
  · rw[if_neg e]at h1;exact h.2 i x y h1 h2
def TR.fh{ρ:Emb}{tmps:Array Value} :∀(u:List Nat) {a:List AV},TR ρ a tmps->TR ρ (fh a u) tmps
  | [],_,h=>h
  | t::u,_,h=>TR.fh u (h.aa t)
def TR.put{ρ:Emb}{a:List AV}{y:Act}(h:TR ρ a y.tmps)(d:Option Nat){v:AV}{u:Value}(hv:VR ρ v u):TR ρ (put a d v) (y.put d u).tmps:=by
  cases d with
  | none=>exact h
  | some t=>exact h.set t hv
def TR.mono{ρ u:Emb}(hs:Sub ρ u){a:List AV}{tmps:Array Value}(h:TR ρ a tmps):TR u a tmps:=VRs.mono hs h
def gX{ρ:Emb}{u:Value}{v:AV}(h:gJ u=Jm v):VR ρ v u/\v.one=Jo:=by
  unfold gJ at h;split at h<;>first | (cases h;done) | skip
  all_goals (cases h)
  · exact⟨.bool _,rfl⟩
  · exact⟨.int _ _,rfl⟩
  · exact⟨.str _,rfl⟩
  · exact⟨.au,rfl⟩
  · exact⟨.ag,rfl⟩
  · exact⟨.bc,rfl⟩
  · exact⟨.aq,rfl⟩
  · exact⟨.ae,rfl⟩
  · exact⟨.func _ [] [] [] [] rfl rfl rfl (fun i v u h=>by simp at h) (fun i v u h=>by simp at h),rfl⟩
def eA{α β:Type}{f:α->Option β} :∀{l:List α} {r:List β},eF f l=Jm r->r.length=l.length
  | [],r,h=>by cases h;rfl
  | x::B,r,h=>by
    unfold eF at h;split at h
    · rename_i y E G u;cases h;simp[eA u]
    · cases h
def kQ{α β:Type}{f:α->Option β} :∀{l:List α} {r:List β},eF f l=Jm r->∀(i:Nat) x y,l[i]? =Jm x->r[i]? =Jm y->f x=Jm y
  | [],r,h,i,x,y,u,B=>by simp at u
  | a::G,r,h,i,x,y,u,B=>by
    unfold eF at h;split at h
    · rename_i z I hz E;cases h
      cases i with
      | zero=>simp at u B;subst u;subst B;exact hz
      | succ i=>exact kQ E i x y (by simpa using u) (by simpa using B)
    · cases h
def eL{ρ:Emb}{y:List Value}{cs:List AV}(h:eF gJ y=Jm cs):VRs ρ cs y/\cs.all AV.one=Jo:=by have hl:=eA h;refine⟨⟨hl.symm,fun i v u h1 h2=>(gX (kQ h i u v h2 h1)).1⟩,?_⟩;rw[List.all_eq_true];intro v hv;obtain⟨i,B,e⟩:=Ec hv;exact(gX (ρ:=ρ) (kQ h i (y[i]'(by omega)) v (Ad (by omega)) (by rw[<-e];exact Ad B))).2
def NG{ρ:Emb}{u:Value}{v:AV}(h:FS u=Jm v):VR ρ v u:=by
  unfold FS at h;split at h
  · rename_i cs;simp only[Cg]at h;obtain⟨l,hl,rfl⟩:=h;exact(eL hl).1.qu
  · rename_i t x;simp only[Cg]at h;obtain⟨l,hl,rfl⟩:=h;exact .iface _ _ _ (gX hl).1
  · exact(gX h).1
def aV{ρ:Emb}{x:Operand}{r:AR}(h:trR x=Jm r){a:List AV}{y:Act}(ht:∀t∈opR r,VR ρ (dl a t) (y.tmps.getD t undef)):VR ρ (ev a r) (y.eval x):=by
  unfold trR at h;split at h
  · cases h;exact ht _ (by simp[opR])
  · simp only[Cg]at h;obtain⟨l,hl,rfl⟩:=h;exact NG hl
  · cases h;exact .func _ [] [] [] [] rfl rfl rfl (fun i v u h=>by simp at h) (fun i v u h=>by simp at h)
  · cases h
def mY{ρ:Emb} :∀{E:List Operand} {B:List AR},CK E=Jm B->∀{a:List AV} {u:Act},(∀t∈B.flatMap opR,VR ρ (dl a t) (u.tmps.getD t undef))->VRs ρ (B.map (ev a)) (E.map u.eval)
  | [],B,h,a,u,ht=>by cases h;exact VRs.nil ρ
  | x::E,B,h,a,u,ht=>by
    unfold CK eF at h;split at h
    · rename_i y J I G;cases h;simp only[List.flatMap_cons,List.mem_append]at ht;exact .cons (aV I fun t h=>ht t (.inl h)) (mY G fun t h=>ht t (.inr h))
    · cases h
def nU(P:Program)(c:Code)(ac:AC):Prop:=∃y ex B u,tr P c=Jm y/\∃E,ac=(live E y u ex B).2
def aCY(P:Program)(l:Nat)(c:Code)(ac:AC):Prop:=∃y ex B u,trJ P l c=Jm y/\∃E,ac=(live E y u ex B).2
def Ex.jump:Ex->Option Code
  | .normal=>Jn
  | .ret=>Jm .ret
  | .exit id=>Jm (.exit id)
structure fy (P:Program) (ρ:Emb) (r:jy) (r':Loop):Prop where
  state:r'.state=r.state
  pending:r'.pending=r.pending.bind Ex.jump
  nz:r.pending≠Jm .normal
  tmps:TR ρ r.tmps r'.tmps
  params:r'.params.toList=r.params
  asg:nU P r'.assign r.assign
  body:nU P r'.body r.body
def OR(P:Program)(ρ:Emb)(w:World)(l:Loc):bq->Prop
  | .cells _ rw cs=>∃B E e,w.heap[l.blk]? =Jm (.cells B e E)/\B.size=l.lim/\l.base+cs.length<=B.size/\(rw=Jo->E=(0,0))/\
      (∀i v,cs[i]? =Jm v->∃u,B[l.base+i]? =Jm u/\VR ρ v u)
  | .map _ G=>∃entries y,w.heap[l.blk]? =Jm (.map entries y)/\VRs ρ (G.map (·.1)) (entries.toList.map (·.key))/\VRs ρ (G.map (·.2)) (entries.toList.map (·.val))
  | .loop _ r=>∃I,w.heap[l.blk]? =Jm (.loop I)/\fy P ρ r I
  | .dead=>True
def bq.bt:bq->Bool
  | .cells _ rw _=>rw
  | .map .. =>Jo
  | .loop .. =>Jo
  | .dead=>Jp
def bq.bz:bq->Bool
  | .dead=>Jp
  | _=>Jo
inductive GD where
  | ints (k:IntKind) (l:List Nat)
  | err
def GD.at:GD->List Value->Prop
  | .ints k l,cs=>cs=l.map fun n:Nat=>Value.int k n
  | .err,cs=>∃u y,cs=[.iface u y]
def aHo(s:String):Option GD:=
  if s= "math/bits.deBruijn64tab" then Jm (.ints .u8 [0,1,56,2,57,49,28,3,61,58,42,50,38,29,17,4,62,47,59,36,45,43,51,22,53,39,33,30,24,18,12,5,63,55,48,27,60,41,37,16,46,35,44,21,52,32,23,11,54,26,40,15,34,20,31,10,25,14,19,9,13,8,7,6])
  else if s= "internal/strconv.uint64pow10" then Jm (.ints .u64 [1,10,100,1000,10000,100000,1000000,10000000,100000000,1000000000,10000000000,100000000000,1000000000000,10000000000000,100000000000000,1000000000000000,10000000000000000,100000000000000000,1000000000000000000,10000000000000000000])
  else if s= "strconv.ErrRange" then Jm .err
  else if s= "strconv.ErrSyntax" then Jm .err
  else Jn
def gmem(P:Program)(b:Nat):Option GD:=(P.globals[b]?).bind fun g=>aHo g.name
def GlbAt(P:Program)(w:World):Prop:=∀b l,gmem P b=Jm l->∃cs e u,w.heap[b]? =Jm (.cells cs e u)/\l.at cs.toList
def RU(P:Program)(ρ:Emb)(h:H):Prop:=∀b l,gmem P b=Jm l->∀x u y,ρ x=Jm u->h.get x=Jm y->y.bt=Jo->u.blk≠b
structure HR (P:Program) (ρ:Emb) (h:H) (w:World):Prop where
  gat:GlbAt P w
  mq:RU P ρ h
  eh:∀x l,ρ x=Jm l->l.blk<w.heap.size
  obj:∀x l o,ρ x=Jm l->h.get x=Jm o->OR P ρ w l o
  inj:∀x y lx ly ox oy,ρ x=Jm lx->ρ y=Jm ly->h.get x=Jm ox->h.get y=Jm oy->ox.bt=Jo->oy.bz=Jo->x≠y->lx.blk≠ly.blk
def GlbAt.lt{P:Program}{w:World}(h:GlbAt P w){b:Nat}{l:GD}(hb:gmem P b=Jm l):b<w.heap.size:=by obtain⟨cs,e,u,h1,_⟩:=h b l hb;exact(Array.getElem?_eq_some_iff.1 h1).1
def GlbAt.none{P:Program}(h:(P.globals.toList.all fun g=>(aHo g.name).isNone)=Jo)(w:World):GlbAt P w:=fun b l hb=>by
  unfold gmem at hb
  cases hg:P.globals[b]? with
  | none=>rw[hg]at hb;cases hb
  | some g=>rw[hg]at hb;have hb:aHo g.name=Jm l:=hb;have:=(List.all_eq_true.1 h) g (List.mem_of_getElem? (by rw[Array.getElem?_toList];exact hg));rw[hb]at this;cases this
def GlbAt.dx{P:Program}{w w':World}(h:GlbAt P w)(hs:∀b l,gmem P b=Jm l->b<w.heap.size->w'.heap[b]? =w.heap[b]?):GlbAt P w':=fun b l hb=>by obtain⟨cs,e,u,h1,h2⟩:=h b l hb;exact⟨cs,e,u,by rw[hs b l hb (h.lt hb)];exact h1,h2⟩
def fy.mono{P:Program}{ρ u:Emb}(hs:Sub ρ u){r:jy}{r':Loop}(h:fy P ρ r r'):fy P u r r':=
  ⟨h.state,h.pending,h.nz,h.tmps.mono hs,h.params,h.asg,h.body⟩
def OR.mono{P:Program}{ρ y:Emb}{w w':World}{l:Loc}{o:bq}(hs:Sub ρ y)(hw:w'.heap[l.blk]? =w.heap[l.blk]?)(h:OR P ρ w l o):OR P y w' l o:=by
  cases o with
  | cells v rw cs=>obtain⟨B,E,e,h1,h2,G,I,J⟩:=h;exact⟨B,E,e,by rw[hw];exact h1,h2,G,I,fun i v hv=>let ⟨u,a,b⟩:=J i v hv;⟨u,a,b.mono hs⟩⟩
  | map v M=>obtain⟨K,ck,h1,h2,h3⟩:=h;exact⟨K,ck,by rw[hw];exact h1,h2.mono hs,h3.mono hs⟩
  | loop v r=>obtain⟨L,h1,h2⟩:=h;exact⟨L,by rw[hw];exact h1,h2.mono hs⟩
  | dead=>trivial
def OR.lt{P:Program}{ρ:Emb}{w:World}{l:Loc}{o:bq}(h:OR P ρ w l o)(hl:o.bz=Jo):l.blk<w.heap.size:=by
  cases o with
  | cells v rw cs=>obtain⟨u,y,e,h1,_⟩:=h;exact(Array.getElem?_eq_some_iff.1 h1).1
  | map v B=>obtain⟨E,ck,h1,_⟩:=h;exact(Array.getElem?_eq_some_iff.1 h1).1
  | loop v r=>obtain⟨G,h1,_⟩:=h;exact(Array.getElem?_eq_some_iff.1 h1).1
  | dead=>simp[bq.bz]at hl
def bq.eg{o:bq}(h:o.bt=Jo):o.bz=Jo:=by cases o<;>simp_all [bq.bt,bq.bz]
structure Stp (ρ:Emb) (h:H) (w:World) (ρ':Emb) (h':H) (w':World):Prop where
  sub:Sub ρ ρ'
  dom:∀x l,ρ' x=Jm l->ρ x=Jm l\/(h.next<=x/\x<h'.next)
  own:∀x l,ρ' x=Jm l->ρ x=Jm l\/w.heap.size<=l.blk\/(∃y ly oy,ρ y=Jm ly/\h.get y=Jm oy/\oy.bt=Jo/\l.blk=ly.blk)
  size:w.heap.size<=w'.heap.size
  os:w'.os=w.os
  tape:w'.tape=w.tape
  output:w'.output=w.output
  frame:∀b,b<w.heap.size->(∀x l o,ρ x=Jm l->h.get x=Jm o->o.bt=Jo->l.blk≠b)->w'.heap[b]? =w.heap[b]?
def Stp.refl(ρ:Emb)(h:H)(w:World):Stp ρ h w ρ h w:=⟨Sub.refl ρ,fun _ _ h=> .inl h,fun _ _ h=> .inl h,Ac _,rfl,rfl,rfl,fun _ _ _=>rfl⟩
def bq.kind:bq->Nat
  | .cells .. =>0
  | .map .. =>1
  | .loop .. =>2
  | .dead=>3
def later(o u:bq):Prop:=o=u\/(u= .dead/\o.kind=0)\/(∃v y,o.ver=Jm v/\u.ver=Jm y/\v<y/\o.bt=Jo/\u.bt=Jo/\o.kind=u.kind)
structure Ev (h h':H):Prop where
  next:h.next<=h'.next
  dx:∀x o,h.get x=Jm o->∃o',h'.get x=Jm o'/\later o o'/\(o.bt=Jp->o=o')
  back:∀x o',h'.get x=Jm o'->x<h.next->∃o,h.get x=Jm o
def later.refl(o:bq):later o o:= .inl rfl
def later.trans{a b c:bq}(h:later a b)(k:later b c):later a c:=by
  rcases h with rfl | ⟨rfl,B⟩ | ⟨v,E,h1,h2,h3,G,I,y⟩
  · exact k
  · rcases k with rfl | ⟨rfl,_⟩ | ⟨v,E,k1,_⟩
    · exact .inr (.inl ⟨rfl,B⟩)
    · exact .inr (.inl ⟨rfl,B⟩)
    · simp[bq.ver]at k1
  · rcases k with rfl | ⟨rfl,J⟩ | ⟨u,K,k1,k2,O,Q,L,M⟩
    · exact .inr (.inr ⟨v,E,h1,h2,h3,G,I,y⟩)
    · exact .inr (.inl ⟨rfl,y.trans J⟩)
    · rw[h2]at k1;cases k1;exact .inr (.inr ⟨v,K,h1,k2,by omega,G,L,y.trans M⟩)
def Ev.refl(h:H):Ev h h:=⟨Ac _,fun x o u=>⟨o,u,later.refl o,fun _=>rfl⟩,fun x o u _=>⟨o,u⟩⟩
def Ev.trans{a b c:H}(h:Ev a b)(k:Ev b c):Ev a c:=by
  refine⟨Aj h.next k.next,fun x o u=>?_,fun x o u B=>?_⟩
  · obtain⟨y,h1,E,G⟩:=h.dx x o u;obtain⟨I,h2,J,K⟩:=k.dx x y h1;exact⟨I,h2,E.trans J,fun hr=>by have:=G hr;subst this;exact K hr⟩
  · obtain⟨y,h1⟩:=k.back x o u (Bi B h.next);exact h.back x y h1 B
def Ev.alloc(h:H)(o:bq):Ev h (h.alloc o):=
  ⟨by simp,fun x o' u=>⟨o',H.fg u,later.refl o',fun _=>rfl⟩,fun x o' u y=>by rw[H.ay,if_neg (by omega)]at u;exact⟨o',u⟩⟩
def Ev.set{h:H}{x:Nat}{o o':bq}(hg:h.get x=Jm o)(hl:later o o')(hr:o.bt=Jo):Ev h (h.set x o'):=by
  refine⟨by simp,fun y B u=>?_,fun y B u E=>?_⟩
  · by_cases e:y=x
    · subst e;rw[hg]at u;cases u;exact⟨o',H.get_set_same hg,hl,fun h0=>by rw[h0]at hr;cases hr⟩
    · exact⟨B,by rw[H.bj e];exact u,later.refl B,fun _=>rfl⟩
  · by_cases e:y=x
    · subst e;exact⟨o,hg⟩
    · rw[H.bj e]at u;exact⟨B,u⟩
def Ev.same{h h':H}(hv:Ev h h'){x:Nat}(hs:f5 h h' x=Jo)(B:x<h.next):h'.get x=h.get x:=by
  unfold f5 H.ver at hs;rw[if_pos B]at hs
  cases hg:h.get x with
  | none=>
    cases y:h'.get x with
    | none=>rfl
    | some o'=>obtain⟨o,E⟩:=hv.back x o' y B;rw[hg]at E;cases E
  | some o=>
    obtain⟨o',u,hl,_⟩:=hv.dx x o hg;rw[hg,u]at hs;rw[u];simp only[Option.bind_some,beq_iff_eq]at hs;rcases hl with rfl | ⟨rfl,_⟩ | ⟨v,G,h1,h2,h3,_⟩
    · rfl
    · cases o<;>simp[bq.ver]at hs;rfl
    · rw[h1,h2]at hs;simp at hs;omega
def Ev.rk{h h':H}(hv:Ev h h'){x:Nat}{v:Nat}{q:jy}(hg:h.get x=Jm (.loop v q)):∃E G,h'.get x=Jm (.loop E G):=by
  obtain⟨o',y,hl,_⟩:=hv.dx x _ hg;rcases hl with rfl | ⟨rfl,B⟩ | ⟨u,I,_,_,_,_,_,B⟩
  · exact⟨v,q,y⟩
  · simp[bq.kind]at B
  · cases o'<;>simp[bq.kind]at B;exact⟨_,_,y⟩
def Ev.kb{h h':H}(hv:Ev h h'){x:Nat}{o':bq}(hg:h'.get x=Jm o')(B:x<h.next)(hr:o'.bt=Jo):∃o,h.get x=Jm o/\o.bt=Jo:=by
  obtain⟨o,y⟩:=hv.back x o' hg B;obtain⟨G,h2,hl,E⟩:=hv.dx x o y;rw[hg]at h2;cases h2;refine⟨o,y,?_⟩
  cases u:o.bt with
  | true=>rfl
  | false=>have:=E u;subst this;rw[u]at hr;cases hr
def Ev.pc{h h':H}(hv:Ev h h'){x:Nat}{o':bq}(hg:h'.get x=Jm o')(y:x<h.next)(hr:o'.bz=Jo):∃o,h.get x=Jm o/\o.bz=Jo:=by
  obtain⟨o,u⟩:=hv.back x o' hg y;obtain⟨E,h2,hl,G⟩:=hv.dx x o u;rw[hg]at h2;cases h2;refine⟨o,u,?_⟩;rcases hl with rfl | ⟨rfl,_⟩ | ⟨v,I,_,_,_,B,_⟩
  · exact hr
  · simp[bq.bz]at hr
  · exact bq.eg B
def Stp.trans{ρ R ρ2:Emb}{h h1 h2:H}{w w1 w2:World}(a:Stp ρ h w R h1 w1)(b:Stp R h1 w1 ρ2 h2 w2)(e1:Ev h h1)(e2:Ev h1 h2)
    (S:∀x,h.next<=x->x<h2.next->ρ x=Jn):Stp ρ h w ρ2 h2 w2:=by
  have L:∀y ly oy,R y=Jm ly->h1.get y=Jm oy->oy.bt=Jo->(∃M,ρ y=Jm ly/\h.get y=Jm M/\M.bt=Jo)\/w.heap.size<=ly.blk\/(∃z J K,ρ z=Jm J/\h.get z=Jm K/\K.bt=Jo/\ly.blk=J.blk):=by
    intro y ly oy T u E;rcases a.own y ly T with B | B | B
    · by_cases hlt:y<h.next
      · obtain⟨O,U,V⟩:=e1.kb u hlt E;exact .inl ⟨O,B,U,V⟩
      · have:=S y (by omega) (Bi (H.bf u) e2.next);rw[B]at this;cases this
    · exact .inr (.inl B)
    · exact .inr (.inr B)
  refine⟨a.sub.trans b.sub,fun x l Q=>?_,fun x l Q=>?_,Aj a.size b.size,b.os.trans a.os,b.tape.trans a.tape,b.output.trans a.output,fun c hc G=>?_⟩
  · rcases b.dom x l Q with I | ⟨p,q⟩
    · rcases a.dom x l I with Y | ⟨p,q⟩
      · exact .inl Y
      · exact .inr ⟨p,Bi q e2.next⟩
    · exact .inr ⟨Aj e1.next p,q⟩
  · rcases b.own x l Q with I | Z | ⟨y,ly,oy,B,u,E,e⟩
    · exact a.own x l I
    · exact .inr (.inl (Aj a.size Z))
    · rcases L y ly oy B u E with⟨O,p,q,r⟩ | p | ⟨z,J,K,p,q,r,s⟩
      · exact .inr (.inr ⟨y,ly,O,p,q,r,e⟩)
      · exact .inr (.inl (by rw[e];exact p))
      · exact .inr (.inr ⟨z,J,K,p,q,r,e.trans s⟩)
  · rw[<-a.frame c hc G];refine b.frame c (Bi hc a.size) fun x l o Q hg hr e=>?_;rcases L x l o Q hg hr with⟨O,p,q,r⟩ | p | ⟨z,J,K,p,q,r,s⟩
    · exact G x l O p q r e
    · omega
    · exact G z J K p q r (s.symm.trans e)
def upd(ρ:Emb)(x:Nat)(l:Loc):Emb:=fun y=>if y=x then Jm l else ρ y
def a8(ρ:Emb)(x:Nat)(l:Loc):upd ρ x l x=Jm l:=by simp[upd]
def bK{ρ:Emb}{x y:Nat}{l:Loc}(h:y≠x):upd ρ x l y=ρ y:=by simp[upd,h]
def iC{ρ:Emb}{x:Nat}{l:Loc}(h:ρ x=Jn):Sub ρ (upd ρ x l):=fun y B u=>by
  by_cases e:y=x
  · subst e;rw[h]at u;cases u
  · rw[bK e];exact u
def HR.alloc{P:Program}{ρ:Emb}{h:H}{w:World}{o:Obj}{ao:bq}{l:Loc}(hr:HR P ρ h w)(O:ρ h.next=Jn)(hb:l.blk=w.heap.size)
    (S:OR P (upd ρ h.next l) (w.alloc o) l ao):HR P (upd ρ h.next l) (h.alloc ao) (w.alloc o)/\Stp ρ h w (upd ρ h.next l) (h.alloc ao) (w.alloc o):=by
  have E:∀b,b<w.heap.size->(w.alloc o).heap[b]? =w.heap[b]? :=fun b hb=>RowKit.Below.heap_alloc w o b hb;have hs:=iC (l:=l) O;refine⟨⟨hr.gat.dx fun b l hb hlt=>E b hlt,fun b l K x lx ox u hg Q=>?_,fun x lx u=>?_,fun x lx ox u hg=>?_,fun x y lx ly ox oy u J G B L M I=>?_⟩,⟨hs,fun x lx u=>?_,fun x lx u=>?_,by simp,rfl,rfl,rfl,fun b hb _=>E b hb⟩⟩
  · by_cases e:x=h.next
    · subst e;rw[a8]at u;cases u;have:=hr.gat.lt K;omega
    · rw[bK e]at u;rw[H.ay,if_neg e]at hg;exact hr.mq b l K x lx ox u hg Q
  · by_cases e:x=h.next
    · subst e;rw[a8]at u;cases u;simp;omega
    · rw[bK e]at u;have:=hr.eh x lx u;simp;omega
  · by_cases e:x=h.next
    · subst e;rw[a8]at u;cases u;rw[H.ai]at hg;cases hg;exact S
    · rw[bK e]at u;rw[H.ay,if_neg e]at hg;have h0:=hr.obj x lx ox u hg
      cases hl:ox.bz with
      | true=>exact h0.mono hs (E _ (h0.lt hl))
      | false=>cases ox<;>first | trivial | (simp[bq.bz]at hl)
  · by_cases ex:x=h.next
    · subst ex;rw[a8]at u;cases u;rw[bK (Ne.symm I)]at J;rw[H.ay,if_neg (Ne.symm I)]at B;have:=(hr.obj y ly oy J B).lt M;omega
    · rw[bK ex]at u;rw[H.ay,if_neg ex]at G;by_cases R:y=h.next
      · subst R;rw[a8]at J;cases J;have:=(hr.obj x lx ox u G).lt (bq.eg L);omega
      · rw[bK R]at J;rw[H.ay,if_neg R]at B;exact hr.inj x y lx ly ox oy u J G B L M I
  · by_cases e:x=h.next
    · subst e;exact .inr ⟨Ac _,by simp⟩
    · rw[bK e]at u;exact .inl u
  · by_cases e:x=h.next
    · subst e;rw[a8]at u;cases u;exact .inr (.inl (by omega))
    · rw[bK e]at u;exact .inl u
def HR.turn{P:Program}{ρ:Emb}{h:H}{w w':World}{x:Nat}{l:Loc}{o o':bq}(hr:HR P ρ h w)(G:ρ x=Jm l)(hg:h.get x=Jm o)(E:o.bt=Jo)
    (a0:o'.bt=Jo) (a1:w'.heap.size=w.heap.size) (Q:w'.os=w.os) (R:w'.tape=w.tape) (S:w'.output=w.output)
    (L:∀b,b≠l.blk->w'.heap[b]? =w.heap[b]?) (ho:OR P ρ w' l o'):HR P ρ (h.set x o') w'/\Stp ρ h w ρ (h.set x o') w':=by
  refine⟨⟨hr.gat.dx fun b O hb hlt=>L b fun e=>hr.mq b O hb x l o G hg E e.symm,fun b O hb y ly oy B u I=>?_,fun y ly B=>by have:=hr.eh y ly B;omega,fun y ly oy B u=>?_,fun y z ly U oy V B hz u J I M K=>?_⟩,⟨Sub.refl ρ,fun _ _ h=> .inl h,fun _ _ h=> .inl h,by omega,Q,R,S,fun b hb T=>L b fun e=>T x l o G hg E e.symm⟩⟩
  · by_cases e:y=x
    · subst e;rw[G]at B;cases B;exact hr.mq b O hb y l o G hg E
    · rw[H.bj e]at u;exact hr.mq b O hb y ly oy B u I
  · by_cases e:y=x
    · subst e;rw[G]at B;cases B;rw[H.get_set_same hg]at u;cases u;exact ho
    · rw[H.bj e]at u;have h0:=hr.obj y ly oy B u
      cases hl:oy.bz with
      | true=>exact h0.mono (Sub.refl ρ) (L _ fun e'=>hr.inj x y l ly o oy G B hg u E hl (Ne.symm e) e'.symm)
      | false=>cases oy<;>first | trivial | (simp[bq.bz]at hl)
  · by_cases Y:y=x
    · subst Y;rw[G]at B;cases B;rw[H.bj (Ne.symm K)]at J;exact hr.inj y z l U o V G hz hg J E M K
    · rw[H.bj Y]at u;by_cases Z:z=x
      · subst Z;rw[G]at hz;cases hz;exact hr.inj y z ly l oy o B G u hg I (bq.eg E) K
      · rw[H.bj Z]at J;exact hr.inj y z ly U oy V B hz u J I M K
end Go.Am

