/- The abstract machine: a small deterministic machine for the translated programs: values without capacities and addresses, a heap of numbered objects, operations in the order of the text. Nothing is claimed of a program here: these are definitions and plain lemmas on them, and what goes with it. -/
import GoSem.Core.Sem
import GoSem.Core.Region
import Derived.KernelRfl
import GoSem.Core.View
import GoSem.Core.Layout
import GoSem.ClaimKeys
import GoSem.Dispatch
import Derived.WalkKit
import Derived.RangeFuncRecord
set_option linter.all false
open BitVec renaming ofInt->Bs
open List renaming replicate->Ae,range->Ba,getElem?_eq_getElem->Ad,toArray->Hu,getElem_of_mem->Dx,getElem?_set->Dy
open Nat renaming beq->Cm,mod->Ef,div->Cp,sub->Eh,le_refl->Ab,le_trans->As,lt_of_lt_of_le->Bk
open Bool renaming rec->De,true->Jr,false->Js
open Option renaming map_eq_some_iff->Ci,some->Jp,none->Jq
namespace Go.Am
inductive AV where
 | aa
 | bool (b:Bool)
 | int (k:IntKind) (n:Int)
 | str (s:ByteArray)
 | aq
 | ptr (b o:Nat)
 | ag
 | slice (fl:Bool) (sz b o n:Nat)
 | bc
 | map (r:Nat)
 | func (fn:Fn) (first captured:List AV)
 | al
 | iface (t:TypeId) (v:AV)
 | ae
 | agg (cs:List AV)
 | tuple (vs:List AV)
 deriving Inhabited
abbrev i64(n:Int):AV:= .int .i64 n
abbrev u8(n:Int):AV:= .int .u8 n
inductive AR where
 | tmp (t:Nat)
 | const (v:AV)
 deriving Inhabited
inductive AO where
 | move (x:AR)
 | pick (c a b:AR)
 | alloc (cells:List AV)
 | box (x:AR)
 | build (zero:List AV) (parts:List (Nat×Nat×AR))
 | buildSlice (size len:Nat) (zero:List AV) (parts:List (Nat×Nat×AR))
 | load (x:AR)
 | eh (n:Nat) (x:AR)
 | store (n:Nat) (a x:AR)
 | nilCheck (x:AR)
 | bin (op:BinOp) (x y:AR)
 | eqB (neg:Bool) (x y:AR)
 | isNil (kd:Nat) (neg:Bool) (x y:AR)
 | ec (neg:Bool) (T:List (Option IntKind)) (x y:AR)
 | un (op:UnOp) (x:AR)
 | du (k:IntKind) (x:AR)
 | ju (x:AR)
 | cg (x:AR)
 | gp (t:TypeId) (x:AR)
 | ig (fn:Fn) (first captured:List AR)
 | makeMap
 | makeSlice (bytes:Nat) (zero:List AV) (len cap:AR)
 | slice (size:Nat) (x:AR) (lo hi mx:Option AR)
 | dj (len size:Nat) (x:AR) (lo hi:Option AR)
 | ew (x:AR) (lo hi:Option AR)
 | fieldAddr (off:Nat) (x:AR)
 | field (off:Nat) (n:Option Nat) (x:AR)
 | indexAddr (size:Nat) (x i:AR)
 | bq (len size:Nat) (x i:AR)
 | index (len size:Nat) (isAgg:Bool) (x i:AR)
 | dq (x i:AR)
 | lookup (kd:Nat) (commaOk:Bool) (zero:AV) (x i:AR)
 | mapUpdate (kd:Nat) (m k v:AR)
 | extract (x:AR) (i:Nat)
 | call (f:AR) (args:List AR)
 | append (size bytes:Nat) (s x:AR)
 | bz (bytes:Nat) (zero:List AV) (s n:AR)
 | iz (size:Nat) (d x:AR)
 | fp (zero:List AV) (x:AR)
 | len (x:AR)
 | iv (x:AR)
 | ii (x:AR)
 | cap (x:AR)
 | max (x:AR) (xs:List AR)
 | min (x:AR) (xs:List AR)
 | ot (t:TypeId) (zero:AV) (x:AR)
 | cz (x:AR)
 deriving Inhabited
def AO.effect:AO->Bool
 | .store .. | .mapUpdate .. | .call .. | .append .. | .bz .. | .iz .. | .fp .. | .cz .. =>Jr
 | _=>Js
structure aw where
 dst:Option Nat
 op:AO
 guard:Option (Nat×Bool)
 chk:List Nat
 deriving Inhabited
inductive AC where
 | skip
 | region (ops:List aw)
 | ff (ops:List aw)
 | seq (a b:AC)
 | cond (c:AR) (thn els:AC)
 | block (id:Nat) (body:AC)
 | loop (scratch:List Nat) (body:AC)
 | rangeFunc (f:AR) (params:List Nat) (assign body:AC)
 | exit (id:Nat)
 | ret
 deriving Inhabited
inductive Ex where
 | normal | ret | exit (id:Nat)
 deriving Inhabited,DecidableEq
structure mh where
 state:LoopState
 pending:Option Ex
 tmps:List AV
 params:List Nat
 assign:AC
 body:AC
 deriving Inhabited
inductive cq where
 | cells (ver:Nat) (rw:Bool) (cs:List AV)
 | map (ver:Nat) (es:List (AV×AV))
 | loop (ver:Nat) (r:mh)
 | dead
 deriving Inhabited
inductive HT where
 | leaf
 | node (v:Option cq) (l r:HT)
def HT.get:HT->Nat->Option cq
 | .leaf,_=>Jq
 | .node v l r,i=>if i=0 then v else if i % 2=1 then l.get (i / 2)else r.get (i / 2-1)
def HT.set(o:cq):Nat->HT->Nat->HT
 | 0,t,_=>t
 | u+1,.leaf,i=>if i=0 then .node (Jp o) .leaf .leaf else if i % 2=1 then .node Jq (HT.set o u .leaf (i / 2)) .leaf else .node Jq .leaf (HT.set o u .leaf (i / 2-1))
 | u+1,.node v l r,i=>if i=0 then .node (Jp o) l r else if i % 2=1 then .node v (HT.set o u l (i / 2)) r else .node v l (HT.set o u r (i / 2-1))
def HT.gu(o:cq):∀(u:Nat) (t:HT) (i j:Nat),i<u->(HT.set o u t i).get j=if j=i then Jp o else t.get j:=by
 intro u
 induction u with
 | zero=>intro t i j h;omega
 | succ u I=>
  intro t i j h;have E:∀(v:Option cq) (l r:HT),(∀j,(HT.node v l r).get j=t.get j)->
    (if i=0 then HT.node (Jp o) l r else if i % 2=1 then HT.node v (HT.set o u l (i / 2)) r else HT.node v l (HT.set o u r (i / 2-1))).get j=if j=i then Jp o else t.get j:=by
   intro v l r ht;by_cases h0:i=0
   ·subst h0;simp only[if_true];by_cases G:j=0
    ·subst G;simp[HT.get]
    ·rw[if_neg G,<-ht j];simp[HT.get,G]
   ·rw[if_neg h0];by_cases h1:i % 2=1
    ·rw[if_pos h1];by_cases y:j=0
     ·subst y;rw[if_neg (by omega),<-ht 0];simp[HT.get]
     ·by_cases B:j % 2=1
      ·simp only[HT.get,y,B,if_true,if_false];rw[I l (i / 2) (j / 2) (by omega)];by_cases e:j=i
       ·grind
       ·rw[if_neg (by omega),if_neg e,<-ht j];simp[HT.get,y,B]
      ·rw[if_neg (by omega),<-ht j];simp[HT.get,y,B]
    ·rw[if_neg h1];by_cases y:j=0
     ·subst y;rw[if_neg (by omega),<-ht 0];simp[HT.get]
     ·by_cases B:j % 2=1
      ·rw[if_neg (by omega),<-ht j];simp[HT.get,y,B]
      ·simp only[HT.get,y,B,if_false];rw[I r (i / 2-1) (j / 2-1) (by omega)];by_cases e:j=i
       ·subst e;simp
       ·rw[if_neg (by omega),if_neg e,<-ht j];simp[HT.get,y,B]
  cases t with
  | leaf=>have:=E Jq .leaf .leaf (fun j=>by simp[HT.get]);simpa [HT.set]using this
  | node v l r=>have:=E v l r fun _=>rfl;simpa [HT.set]using this
structure H where
 next:Nat
 t:HT
def H.empty:H:=⟨0,.leaf⟩
def H.get(h:H)(i:Nat):Option cq:=if i<h.next then h.t.get i else Jq
def H.alloc(h:H)(o:cq):H:=⟨h.next+1,HT.set o (h.next+1) h.t h.next⟩
def H.set(h:H)(i:Nat)(o:cq):H:=⟨h.next,HT.set o (i+1) h.t i⟩
def H.bj{h:H}{i:Nat}{o:cq}(hg:h.get i=Jp o):i<h.next:=by
 unfold H.get at hg
 grind
@[simp] theorem H.qh(h:H)(o:cq):(h.alloc o).next=h.next+1:=rfl
@[simp] theorem H.next_set(h:H)(i:Nat)(o:cq):(h.set i o).next=h.next:=rfl
def H.ay(h:H)(o:cq)(i:Nat):(h.alloc o).get i=if i=h.next then Jp o else h.get i:=by
 unfold H.get H.alloc;simp only;by_cases e:i=h.next
 ·subst e;rw[if_pos (by omega),if_pos rfl,HT.gu _ _ _ _ _ (by omega),if_pos rfl]
 ·rw[if_neg e];by_cases u:i<h.next
  ·rw[if_pos (by omega),if_pos u,HT.gu _ _ _ _ _ (by omega),if_neg e]
  grind
def H.gu(h:H)(j:Nat)(o:cq)(i:Nat):(h.set j o).get i=if i=j/\j<h.next then Jp o else h.get i:=by
 unfold H.get H.set;simp only;by_cases u:i<h.next
 ·rw[if_pos u,if_pos u,HT.gu _ _ _ _ _ (by omega)]
  grind
 grind
def H.fh{h:H}{o u:cq}{i:Nat}(hg:h.get i=Jp u):(h.alloc o).get i=Jp u:=by rw[H.ay,if_neg (by have:=H.bj hg;omega)];exact hg
def H.ah(h:H)(o:cq):(h.alloc o).get h.next=Jp o:=by rw[H.ay,if_pos rfl]
def H.get_set_same{h:H}{o u:cq}{i:Nat}(hg:h.get i=Jp u):(h.set i o).get i=Jp o:=by rw[H.gu,if_pos ⟨rfl,H.bj hg⟩]
def H.bp{h:H}{o:cq}{i j:Nat}(u:i≠j):(h.set j o).get i=h.get i:=by rw[H.gu,if_neg fun e=>u e.1]
def cq.ver:cq->Option Nat
 | .cells v _ _=>Jp v
 | .map v _=>Jp v
 | .loop v _=>Jp v
 | .dead=>Jq
def H.ver(h:H)(i:Nat):Option Nat:=(h.get i).bind cq.ver
def bu:List AV->Nat->AV
 | [],_=> .aa
 | v::_,0=>v
 | _::l,n+1=>bu l n
def cr:List AV->Nat->AV->List AV
 | [],_,_=>[]
 | _::l,0,v=>v::l
 | x::l,n+1,v=>x::cr l n v
def ev(a:List AV):AR->AV
 | .tmp t=>bu a t
 | .const v=>v
def put(a:List AV):Option Nat->AV->List AV
 | some d,v=>cr a d v
 | none,_=>a
def be(a:List AV):List Nat->List AV
 | []=>a
 | t::l=>be (cr a t .aa) l
def gG(op:BinOp)(k:IntKind)(x y:Int):Option AV:=
 match op with
 | .add=>Jp (.int k (k.wrap (x+y)))
 | .sub=>Jp (.int k (k.wrap (x-y)))
 | .mul=>Jp (.int k (k.wrap (x*y)))
 | .quo=>if y=0 then Jq else Jp (.int k (k.wrap (x.tdiv y)))
 | .rem=>if y=0 then Jq else Jp (.int k (x.tmod y))
 | .and=>Jp (.int k (k.wrap (Bs k.bits x&&& Bs k.bits y).toNat))
 | .or=>Jp (.int k (k.wrap (Bs k.bits x||| Bs k.bits y).toNat))
 | .xor=>Jp (.int k (k.wrap (Bs k.bits x^^^Bs k.bits y).toNat))
 | .andNot=>Jp (.int k (k.wrap (Bs k.bits x&&& ~~~ Bs k.bits y).toNat))
 | .eql=>Jp (.bool (x==y))
 | .neq=>Jp (.bool (x !=y))
 | .lss=>Jp (.bool (decide (x<y)))
 | .leq=>Jp (.bool (decide (x<=y)))
 | .gtr=>Jp (.bool (decide (x>y)))
 | .geq=>Jp (.bool (decide (x>=y)))
 | .shl | .shr=>Jq
def wW(op:BinOp)(k:IntKind)(x y:Int):Option AV:=
 if y<0 then Jq else
 match op with
 | .shl=>Jp (.int k (k.wrap (x*2^(min y.toNat k.bits))))
 | .shr=>Jp (.int k (x.fdiv (2^(min y.toNat k.bits))))
 | _=>Jq
def eY:BinOp->Bool
 | .shl | .shr=>Jr
 | _=>Js
def i7(op:BinOp):AV->AV->Option AV
 | .int k x,.int u y=>if eY op then wW op k x y else if k=u then gG op k x y else Jq
 | .str x,.str y=>match op with
  | .eql=>Jp (.bool (x.toList==y.toList))
  | .neq=>Jp (.bool (!(x.toList==y.toList)))
  | .add=>if((x.size+y.size:Nat):Int)>IntKind.i64.max then Jq else Jp (.str (x++y))
  | _=>Jq
 | _,_=>Jq
def aun(op:UnOp):AV->Option AV
 | .int k x=>match op with
  | .neg=>Jp (.int k (k.wrap (0-x)))
  | .xor=>Jp (.int k (k.wrap (Bs k.bits (if k.signed then-1 else k.max)^^^Bs k.bits x).toNat))
  | _=>Jq
 | .bool b=>match op with
  | .not=>Jp (.bool (!b))
  | _=>Jq
 | _=>Jq
def PC:Nat->AV->AV->Option Bool
 | 0,.ag,.ag=>Jp Jr
 | 0,.ag,.slice .. =>Jp Js
 | 0,.slice ..,.ag=>Jp Js
 | 1,.aq,.aq=>Jp Jr
 | 1,.aq,.ptr .. =>Jp Js
 | 1,.ptr ..,.aq=>Jp Js
 | 2,.bc,.bc=>Jp Jr
 | 2,.bc,.map _=>Jp Js
 | 2,.map _,.bc=>Jp Js
 | 3,.al,.al=>Jp Jr
 | 3,.al,.func .. =>Jp Js
 | 3,.func ..,.al=>Jp Js
 | 4,.ae,.ae=>Jp Jr
 | 4,.ae,.iface .. =>Jp Js
 | 4,.iface ..,.ae=>Jp Js
 | _,_,_=>Jq
def YS:IntKind->Int->Bool
 | .i8,n=>decide (-128<=n)&&decide (n<=127)
 | .i16,n=>decide (-32768<=n)&&decide (n<=32767)
 | .i32,n=>decide (-2147483648<=n)&&decide (n<=2147483647)
 | .i64,n=>decide (-9223372036854775808<=n)&&decide (n<=9223372036854775807)
 | .u8,n=>decide (0<=n)&&decide (n<=255)
 | .u16,n=>decide (0<=n)&&decide (n<=65535)
 | .u32,n=>decide (0<=n)&&decide (n<=4294967295)
 | .u64,n=>decide (0<=n)&&decide (n<=18446744073709551615)
def jE:List (Option IntKind)->List AV->List AV->Option Bool
 | [],[],[]=>Jp Jr
 | some k::T,.int k1 m::u,.int k2 n::y=>
  if k1=k/\k2=k/\YS k m=Jr/\YS k n=Jr then
   match jE T u y with
   | some b=>Jp ((m==n)&&b)
   | none=>Jq
  else Jq
 | none::T,.bool p::u,.bool q::y=>match jE T u y with
  | some b=>Jp ((p==q)&&b)
  | none=>Jq
 | _,_,_=>Jq
def AV.cells:AV->List AV
 | .agg cs=>cs
 | v=>[v]
def AV.one:AV->Bool
 | .agg _=>Js
 | .tuple _=>Js
 | .aa=>Js
 | _=>Jr
def over:List AV->Nat->List AV->List AV
 | cs,0,new=>new++cs.drop new.length
 | [],_,_=>[]
 | c::cs,off+1,new=>c::over cs off new
def uA(a:List AV):List AV->List (Nat×Nat×AR)->Option (List AV)
 | cs,[]=>Jp cs
 | cs,(off,size,x)::rest=>
  if(ev a x).cells.length=size&&off+size<=cs.length&&(ev a x).cells.all AV.one then uA a (over cs off (ev a x).cells) rest else Jq
def f0(h:H)(b i:Nat):Option AV:=
 match h.get b with
 | some (.cells _ _ cs)=>cs[i]?
 | _=>Jq
def dY(h:H)(b i n:Nat):Option (List AV):=
 match h.get b with
 | some (.cells _ _ cs)=>if i+n<=cs.length then Jp ((cs.drop i).take n)else Jq
 | _=>Jq
def gV(h:H)(b i:Nat)(new:List AV):Option H:=
 match h.get b with
 | some (.cells ver Jr cs)=>if i+new.length<=cs.length&&new.all AV.one then Jp (h.set b (.cells (ver+1) Jr (over cs i new)))else Jq
 | _=>Jq
def kill(h:H)(b:Nat):Option H:=
 match h.get b with
 | some (.cells _ Jr _)=>Jp (h.set b .dead)
 | _=>Jq
def kY:Nat->List AV->List AV
 | 0,_=>[]
 | n+1,z=>z++kY n z
def zU:Nat->AV->AV->Option Bool
 | 0,.int k x,.int u y=>if k=u then Jp (x==y)else Jq
 | 1,.bool x,.bool y=>Jp (x==y)
 | 2,.str x,.str y=>Jp (x==y)
 | _,_,_=>Jq
def mW(kd:Nat)(k:AV):List (AV×AV)->Option (Option AV)
 | []=>Jp Jq
 | (u,v)::y=>match zU kd k u with
  | some Jr=>Jp (Jp v)
  | some Js=>mW kd k y
  | none=>Jq
def kD(kd:Nat)(k v:AV):List (AV×AV)->List (AV×AV)
 | []=>[(k,v)]
 | (u,B)::y=>match zU kd k u with
  | some Jr=>(k,v)::y
  | _=>(u,B)::kD kd k v y
def j5:Nat:=9223372036854775807
def bnd(a:List AV):Option AR->Option (Option Int)
 | none=>Jp Jq
 | some x=>match ev a x with
  | .int _ n=>Jp (Jp n)
  | _=>Jq
def jN(size:Nat)(x:AV)(B u:Option Int)(y:Option Int):Option AV:=
 if y.isSome&&u.isNone then Jq else
 match x with
 | .ag=>if(B.getD 0==0)&&(u.getD 0==0)&&(y.getD 0==0)then Jp .ag else Jq
 | .slice fl sz b o n=>
  if sz=size/\0<=B.getD 0/\B.getD 0<=u.getD n/\u.getD n<=y.getD (u.getD n)/\y.getD (u.getD n)<=n then
   Jp (.slice (if y.isSome then y.getD (u.getD n)==u.getD n else fl&&u.getD n==n) sz b (o+(B.getD 0).toNat*size) (u.getD n-B.getD 0).toNat)else Jq
 | _=>Jq
def AD:AV->AV->Option AV
 | .int k x,.int _ y=>Jp (.int k (if y>x then y else x))
 | _,_=>Jq
def D8:AV->AV->Option AV
 | .int k x,.int _ y=>Jp (.int k (if y<x then y else x))
 | _,_=>Jq
def oI(f:AV->AV->Option AV):AV->List AV->Option AV
 | v,[]=>Jp v
 | v,x::u=>match f v x with
  | some r=>oI f r u
  | none=>Jq
def jS(l:List AV):Option (List UInt8):=
 match l with
 | []=>Jp []
 | .int .u8 n::r=>match jS r with
  | some t=>if 0<=n/\n<256 then Jp (UInt8.ofNat n.toNat::t)else Jq
  | none=>Jq
 | _::_=>Jq
def oP(a:List AV)(h:H)(size:Nat)(x:AR):Option (List AV×Nat):=
 match ev a x with
 | .ag=>Jp ([],0)
 | .slice _ sz b o n=>if sz=size then match dY h b o (n*size)with
  | some cs=>Jp (cs,n)
  | none=>Jq
  else Jq
 | .str s=>if size=1 then Jp (s.data.toList.map fun b=> .int .u8 b.toNat,s.size)else Jq
 | _=>Jq
def aop(a:List AV)(h:H):AO->Option (AV×H×List Nat)
 | .move x=>Jp (ev a x,h,[])
 | .pick c x y=>match ev a c with
  | .bool Jr=>Jp (ev a x,h,[])
  | .bool Js=>Jp (ev a y,h,[])
  | _=>Jq
 | .alloc cs=>Jp (.ptr h.next 0,h.alloc (.cells 0 Jr cs),[])
 | .box x=>if(ev a x).cells.all AV.one then Jp (.ptr h.next 0,h.alloc (.cells 0 Jr (ev a x).cells),[])else Jq
 | .build z K=>match uA a z K with
  | some cs=>Jp (.agg cs,h,[])
  | none=>Jq
 | .buildSlice size len z K=>match uA a (kY len z) K with
  | some cs=>Jp (.slice Jr size h.next 0 len,h.alloc (.cells 0 Jr cs),[])
  | none=>Jq
 | .load x=>match ev a x with
  | .ptr b o=>match f0 h b o with
   | some v=>Jp (v,h,[b])
   | none=>Jq
  | _=>Jq
 | .eh n x=>match ev a x with
  | .ptr b o=>match dY h b o n with
   | some cs=>Jp (.agg cs,h,[b])
   | none=>Jq
  | _=>Jq
 | .store n p x=>match ev a p with
  | .ptr b o=>if(ev a x).cells.length=n then match gV h b o (ev a x).cells with
    | some u=>Jp (.tuple [],u,[])
    | none=>Jq
   else Jq
  | _=>Jq
 | .nilCheck x=>match ev a x with
  | .ptr b o=>Jp (.ptr b o,h,[])
  | .func (.method _) _ _=>Jq
  | .func f c d=>Jp (.func f c d,h,[])
  | .iface t v=>Jp (.iface t v,h,[])
  | _=>Jq
 | .bin op x y=>match i7 op (ev a x) (ev a y)with
  | some v=>Jp (v,h,[])
  | none=>Jq
 | .eqB neg x y=>match ev a x,ev a y with
  | .bool p,.bool q=>Jp (.bool (if neg then !(p==q)else p==q),h,[])
  | _,_=>Jq
 | .isNil kd neg x y=>match PC kd (ev a x) (ev a y)with
  | some b=>Jp (.bool (if neg then !b else b),h,[])
  | none=>Jq
 | .ec neg T x y=>match ev a x,ev a y with
  | .agg E,.agg O=>match jE T E O with
   | some b=>Jp (.bool (if neg then !b else b),h,[])
   | none=>Jq
  | _,_=>Jq
 | .un op x=>match aun op (ev a x)with
  | some v=>Jp (v,h,[])
  | none=>Jq
 | .du k x=>match ev a x with
  | .int _ n=>Jp (.int k (k.wrap n),h,[])
  | _=>Jq
 | .ju x=>match ev a x with
  | .str s=>Jp (.str s,h,[])
  | _=>Jq
 | .cg x=>match ev a x with
  | .ag=>Jp (.str ByteArray.empty,h,[])
  | .slice _ _ b o n=>match dY h b o n with
   | some cs=>match jS cs with
    | some s=>Jp (.str ⟨s.toArray⟩,h,[b])
    | none=>Jq
   | none=>Jq
  | _=>Jq
 | .gp t x=>Jp (.iface t (ev a x),h,[])
 | .ig fn f c=>Jp (.func fn (f.map (ev a)) (c.map (ev a)),h,[])
 | .makeMap=>Jp (.map h.next,h.alloc (.map 0 []),[])
 | .makeSlice bytes z n c=>match ev a n,ev a c with
  | .int .i64 l,.int .i64 m=>if 0<=l/\l<=m/\m*bytes<=140737488355328/\m<=j5 then Jp (.slice (l==m) z.length h.next 0 l.toNat,h.alloc (.cells 0 Jr (kY l.toNat z)),[])else Jq
  | _,_=>Jq
 | .slice size x G I Q=>match bnd a G,bnd a I,bnd a Q with
  | some l,Jp r,Jp m=>match jN size (ev a x) l r m with
   | some v=>Jp (v,h,[])
   | none=>Jq
  | _,_,_=>Jq
 | .dj len size x G I=>match ev a x with
  | .ptr b o=>match bnd a G,bnd a I,h.get b with
   | some l,Jp r,Jp (.cells _ _ cs)=>if o+len*size<=cs.length then match jN size (.slice Jr size b o len) l r Jq with
    | some v=>Jp (v,h,[b])
    | none=>Jq
    else Jq
   | _,_,_=>Jq
  | _=>Jq
 | .ew x G I=>match ev a x,bnd a G,bnd a I with
  | .str s,Jp l,Jp r=>if 0<=l.getD 0/\l.getD 0<=r.getD s.size/\r.getD s.size<=s.size then Jp (.str (s.extract (l.getD 0).toNat (r.getD s.size).toNat),h,[])else Jq
  | _,_,_=>Jq
 | .fieldAddr off x=>match ev a x with
  | .ptr b o=>Jp (.ptr b (o+off),h,[])
  | _=>Jq
 | .field off n x=>match ev a x with
  | .agg cs=>match n with
   | none=>match cs[off]? with
    | some v=>Jp (v,h,[])
    | none=>Jq
   | some n=>if off+n<=cs.length then Jp (.agg ((cs.drop off).take n),h,[])else Jq
  | _=>Jq
 | .indexAddr size x i=>match ev a x,ev a i with
  | .slice _ sz b o n,.int _ k=>if sz=size/\0<=k/\k<n then Jp (.ptr b (o+k.toNat*size),h,[])else Jq
  | _,_=>Jq
 | .bq len size x i=>match ev a x,ev a i with
  | .ptr b o,.int _ k=>if 0<=k/\k<len then Jp (.ptr b (o+k.toNat*size),h,[])else Jq
  | _,_=>Jq
 | .index len size isAgg x i=>match ev a x,ev a i with
  | .agg cs,.int _ k=>if 0<=k/\k<len then
    (if isAgg then(if k.toNat*size+size<=cs.length then Jp (.agg ((cs.drop (k.toNat*size)).take size),h,[])else Jq)
    else match cs[k.toNat*size]? with
     | some v=>Jp (v,h,[])
     | none=>Jq)else Jq
  | _,_=>Jq
 | .dq x i=>match ev a x,ev a i with
  | .str s,.int _ k=>if 0<=k then match s[k.toNat]? with
    | some c=>Jp (.int .u8 c.toNat,h,[])
    | none=>Jq
   else Jq
  | _,_=>Jq
 | .lookup kd L z x i=>match ev a x with
  | .bc=>Jp (if L then .tuple [z,.bool Js]else z,h,[])
  | .map r=>match h.get r with
   | some (.map _ B)=>match mW kd (ev a i) B with
    | some (Jp v)=>Jp (if L then .tuple [v,.bool Jr]else v,h,[r])
    | some Jq=>Jp (if L then .tuple [z,.bool Js]else z,h,[r])
    | none=>Jq
   | _=>Jq
  | _=>Jq
 | .mapUpdate kd m k v=>match ev a m with
  | .map r=>match h.get r with
   | some (.map ver B)=>if(mW kd (ev a k) B).isSome then Jp (.tuple [],h.set r (.map (ver+1) (kD kd (ev a k) (ev a v) B)),[])else Jq
   | _=>Jq
  | _=>Jq
 | .extract x i=>match ev a x with
  | .tuple R=>match R[i]? with
   | some v=>Jp (v,h,[])
   | none=>Jq
  | _=>Jq
 | .call _ _=>Jq
 | .append size bytes s x=>
  match oP a h size x with
  | none=>Jq
  | some (new,n)=>match ev a s with
   | .ag=>if n=0 then Jp (.ag,h,[])else
     if n*bytes<=140737488355328/\n<=j5/\new.all AV.one/\new.length=n*size then Jp (.slice Js size h.next 0 n,h.alloc (.cells 0 Jr new),[])else Jq
   | .slice fl sz b o m=>if n=0 then Jp (.slice fl sz b o m,h,[])else
     if sz=size/\(m+n)*bytes<=140737488355328/\m+n<=j5/\new.all AV.one/\new.length=n*size then
      match dY h b o (m*size)with
      | none=>Jq
      | some J=>
       if fl then Jp (.slice Js size h.next 0 (m+n),h.alloc (.cells 0 Jr (J++new)),[])
       else match kill h b with
        | some u=>Jp (.slice Js size h.next 0 (m+n),u.alloc (.cells 0 Jr (J++new)),[])
        | none=>Jq
     else Jq
   | _=>Jq
 | .bz bytes z s x=>match ev a s,ev a x with
  | .ag,.int .i64 n=>if n=0 then Jp (.ag,h,[])else
    if 0<=n/\n*bytes<=140737488355328/\n<=j5 then Jp (.slice Js z.length h.next 0 n.toNat,h.alloc (.cells 0 Jr (kY n.toNat z)),[])else Jq
  | _,_=>Jq
 | .iz size d x=>match ev a d,ev a x with
  | .slice _ sz b o m,.slice _ M S U n=>if sz=size/\M=size then
    (if min n m=0 then Jp (i64 0,h,[])else match dY h S U (min n m*size)with
     | some cs=>match gV h b o cs with
      | some u=>Jp (i64 ((min n m:Nat):Int),u,[])
      | none=>Jq
     | none=>Jq)else Jq
  | .ag,.ag | .ag,.slice .. | .slice ..,.ag=>Jp (i64 0,h,[])
  | _,_=>Jq
 | .fp z x=>match ev a x with
  | .ag=>Jp (.tuple [],h,[])
  | .slice _ sz b o n=>if sz=z.length then
    (if n=0 then Jp (.tuple [],h,[])else match gV h b o (kY n z)with
     | some u=>Jp (.tuple [],u,[])
     | none=>Jq)else Jq
  | _=>Jq
 | .len x=>match ev a x with
  | .ag=>Jp (i64 0,h,[])
  | .slice _ _ _ _ n=>Jp (i64 n,h,[])
  | _=>Jq
 | .iv x=>match ev a x with
  | .str s=>Jp (i64 s.size,h,[])
  | _=>Jq
 | .ii x=>match ev a x with
  | .bc=>Jp (i64 0,h,[])
  | .map r=>match h.get r with
   | some (.map _ B)=>Jp (i64 B.length,h,[r])
   | _=>Jq
  | _=>Jq
 | .cap x=>match ev a x with
  | .ag=>Jp (i64 0,h,[])
  | .slice Jr _ _ _ n=>Jp (i64 n,h,[])
  | _=>Jq
 | .max x E=>match oI AD (ev a x) (E.map (ev a))with
  | some v=>Jp (v,h,[])
  | none=>Jq
 | .min x E=>match oI D8 (ev a x) (E.map (ev a))with
  | some v=>Jp (v,h,[])
  | none=>Jq
 | .ot t z x=>match ev a x with
  | .ae=>Jp (.tuple [z,.bool Js],h,[])
  | .iface V v=>Jp (if V=t then .tuple [v,.bool Jr]else .tuple [z,.bool Js],h,[])
  | _=>Jq
 | .cz x=>match ev a x with
  | .str s=>if s.size<=140737488355328 then Jp (.slice Js 1 h.next 0 s.size,h.alloc (.cells 0 Js (s.data.toList.map fun b=> .int .u8 b.toNat)),[])else Jq
  | _=>Jq
inductive lk where
 | tmp (t:Nat)
 | cell (t:Nat)
 | cells (t n:Nat)
 deriving Inhabited
structure AFn where
 ntmps:Nat
 results:List lk
 body:AC
 deriving Inhabited
inductive AF where
 | fn (f:AFn)
 | lf (f:List AV->H->Option (AV×H))
structure Rec where
 code:AC->List AV->H->Option (Ex×List AV×H)
 call:FuncId->List AV->H->Option (AV×H)
def ft(a:List AV):List Nat->List AV->List AV
 | t::u,v::y=>ft (cr a t v) u y
 | _,_=>a
def fH(a:List AV):Option (Nat×Bool)->Option Bool
 | none=>Jp Jr
 | some (t,u)=>match bu a t with
  | .bool b=>Jp (b==u)
  | .tuple _=>Jp Js
  | _=>Jq
structure ku where
 idx:Nat
 rd:List Nat
 hb:H
 ha:H
def kH(hb u:H)(x:Nat):Bool:=if x<hb.next then hb.ver x==u.ver x else Jr
def sT(u:Bool)(rd:List Nat)(hb B:H)(y:List ku)(chk:List Nat):Bool:=
 y.all fun e=>if chk.contains e.idx then(if u then e.rd.all (kH hb B)else rd.all (kH e.hb e.ha))else Jr
def nB:List AV->TypeId->Option FuncId
 | .int _ u:: .int _ g::r,t=>if u=(t:Int)then Jp g.toNat else nB r t
 | _,_=>Jq
def uL(u:List AV):List AV->Option (FuncId×List AV)
 | .iface t v::args=>match nB u t with
  | some g=>Jp (g,v::args)
  | none=>Jq
 | _=>Jq
section
variable (rec:Rec)
def jQ:AV->List AV->H->Option (AV×H)
 | .func (.func g) first u,args,h=>rec.call g (first++args++u) h
 | .func (.yield l) first _,args,h=>match h.get l with
  | some (.loop _ r)=>if(first++args).length=r.params.length then
    match rec.code r.assign (ft r.tmps r.params (first++args)) h with
    | some (.normal,I,h1)=>match h1.get l with
     | some (.loop J B)=>if B.state= .ready then
       match rec.code r.body I (h1.set l (.loop (J+1) {B with state:= .busy}))with
       | some (e,_,h3)=>match h3.get l with
        | some (.loop E G)=>
         if e= .normal then Jp (.bool Jr,h3.set l (.loop (E+1) {G with state:= .ready,pending:=Jq}))
         else Jp (.bool Js,h3.set l (.loop (E+1) {G with state:= .done,pending:=Jp e}))
        | _=>Jq
       | none=>Jq
      else Jq
     | _=>Jq
    | _=>Jq
   else Jq
  | _=>Jq
 | .func (.methodOf _ _) y _,args,h=>match uL y args with
  | some (g,l)=>rec.call g l h
  | none=>Jq
 | _,_,_=>Jq
def j6:AO->List AV->H->Option (AV×H×List Nat)
 | .call f args,a,h=>match jQ rec (ev a f) (args.map (ev a)) h with
  | some (v,u)=>Jp (v,u,[])
  | none=>Jq
 | o,a,h=>aop a h o
def j4:List aw->List AV->H->Option (List AV×H)
 | [],a,h=>Jp (a,h)
 | o::os,a,h=>match fH a o.guard with
  | some Jr=>match j6 rec o.op a h with
   | some (v,u,_)=>j4 os (put a o.dst v) u
   | none=>Jq
  | some Js=>j4 os (put a o.dst (.tuple [])) h
  | none=>Jq
def rdx(h u:H)(rd:List Nat):List Nat:=if h.next<u.next then h.next::rd else rd
def jL:List aw->Nat->List AV->H->List ku->Option (List AV×H)
 | [],_,a,h,_=>Jp (a,h)
 | o::os,i,a,h,u=>match fH a o.guard with
  | some Jr=>match j6 rec o.op a h with
   | some (v,y,rd)=>if sT o.op.effect (rdx h y rd) h y u o.chk then jL os (i+1) (put a o.dst v) y (⟨i,rdx h y rd,h,y⟩::u)else Jq
   | none=>Jq
  | some Js=>jL os (i+1) (put a o.dst (.tuple [])) h u
  | none=>Jq
def bC:AC->List AV->H->Option (Ex×List AV×H)
 | .skip,a,h=>Jp (.normal,a,h)
 | .region ops,a,h=>match j4 rec ops a h with
  | some (B,u)=>Jp (.normal,B,u)
  | none=>Jq
 | .ff ops,a,h=>match jL rec ops 0 a h []with
  | some (B,u)=>Jp (.normal,B,u)
  | none=>Jq
 | .seq x y,a,h=>match bC x a h with
  | some (.normal,B,u)=>bC y B u
  | r=>r
 | .cond c x y,a,h=>match ev a c with
  | .bool Jr=>bC x a h
  | .bool Js=>bC y a h
  | _=>Jq
 | .block id x,a,h=>match bC x a h with
  | some (.exit i,B,u)=>if i=id then Jp (.normal,B,u)else Jp (.exit i,B,u)
  | r=>r
 | .loop I x,a,h=>match bC x (be a I) h with
  | some (.normal,B,u)=>rec.code (.loop I x) B u
  | r=>r
 | .rangeFunc f J E body,a,h=>match ev a f with
  | .func (.func g) first G=>
   match rec.call g (first++[.func (.yield h.next) [] []]++G) (h.alloc (.loop 0 {state:= .ready,pending:=Jq,tmps:=a,params:=J,assign:=E,body:=body}))with
   | some (_,u)=>match u.get h.next with
    | some (.loop ver r)=>if r.state= .busy then Jq else
      Jp (r.pending.getD .normal,a,u.set h.next (.loop (ver+1) {r with state:= .exhausted}))
    | _=>Jq
   | none=>Jq
  | _=>Jq
 | .exit id,a,h=>Jp (.exit id,a,h)
 | .ret,a,h=>Jp (.ret,a,h)
def hH(a:List AV)(h:H):lk->Option AV
 | .tmp t=>Jp (bu a t)
 | .cell t=>match bu a t with
  | .ptr b o=>f0 h b o
  | _=>Jq
 | .cells t n=>match bu a t with
  | .ptr b o=>(dY h b o n).map .agg
  | _=>Jq
def cE(a:List AV)(h:H):List lk->Option (List AV)
 | []=>Jp []
 | r::u=>match hH a h r,cE a h u with
  | some v,Jp y=>Jp (v::y)
  | _,_=>Jq
def dF:List AV->AV
 | [v]=>v
 | u=> .tuple u
def fC(args:List AV)(n:Nat):List AV:=args++Ae (n-args.length) .aa
def kV(u:FuncId->Option AF)(g:FuncId)(args:List AV)(h:H):Option (AV×H):=
 match u g with
 | some (.lf f)=>f args h
 | some (.fn F)=>match bC rec F.body (fC args F.ntmps) h with
  | some (.normal,B,y) | some (.ret,B,y)=>match cE B y F.results with
   | some E=>Jp (dF E,y)
   | none=>Jq
  | _=>Jq
 | none=>Jq
end
def run(u:FuncId->Option AF):Nat->Rec
 | 0=>⟨fun _ _ _=>Jq,fun _ _ _=>Jq⟩
 | n+1=>⟨bC (run u n),kV (run u n) u⟩
inductive TT where
 | leaf
 | node (v:AV) (l r:TT)
def TT.get:TT->Nat->AV
 | .leaf,_=> .aa
 | .node v l r,i=>bif Cm i 0 then v else bif Cm (Ef i 2) 1 then l.get (Cp i 2)else r.get (Eh (Cp i 2) 1)
def TT.pg{β:Type}(v:AV):Nat->TT->Nat->(TT->Option β)->Option β
 | 0,_,_,_=>Jq
 | u+1,.leaf,i,k=>bif Cm i 0 then k (.node v .leaf .leaf)else bif Cm (Ef i 2) 1 then TT.pg v u .leaf (Cp i 2) (fun t=>k (.node .aa t .leaf))else TT.pg v u .leaf (Eh (Cp i 2) 1) fun t=>k (.node .aa .leaf t)
 | u+1,.node x l r,i,k=>bif Cm i 0 then k (.node v l r)else bif Cm (Ef i 2) 1 then TT.pg v u l (Cp i 2) (fun t=>k (.node x t r))else TT.pg v u r (Eh (Cp i 2) 1) fun t=>k (.node x l t)
def AR.sub(t:TT):AR->AR
 | .tmp i=> .const (t.get i)
 | .const v=> .const v
def QU(t:TT):Option AR->Option AR
 | none=>Jq
 | some x=>Jp (x.sub t)
def aGX(t:TT):List (Nat×Nat×AR)->List (Nat×Nat×AR)
 | []=>[]
 | (o,s,x)::r=>(o,s,x.sub t)::aGX t r
def W6(t:TT):List AR->List AR
 | []=>[]
 | x::r=>x.sub t::W6 t r
def AO.sub(t:TT):AO->AO
 | .move x=> .move (x.sub t)
 | .pick c a b=> .pick (c.sub t) (a.sub t) (b.sub t)
 | .alloc cs=> .alloc cs
 | .box x=> .box (x.sub t)
 | .build z u=> .build z (aGX t u)
 | .buildSlice s n z u=> .buildSlice s n z (aGX t u)
 | .load x=> .load (x.sub t)
 | .eh n x=> .eh n (x.sub t)
 | .store n a x=> .store n (a.sub t) (x.sub t)
 | .nilCheck x=> .nilCheck (x.sub t)
 | .bin op x y=> .bin op (x.sub t) (y.sub t)
 | .eqB n x y=> .eqB n (x.sub t) (y.sub t)
 | .isNil kd n x y=> .isNil kd n (x.sub t) (y.sub t)
 | .ec n T x y=> .ec n T (x.sub t) (y.sub t)
 | .un op x=> .un op (x.sub t)
 | .du k x=> .du k (x.sub t)
 | .ju x=> .ju (x.sub t)
 | .cg x=> .cg (x.sub t)
 | .gp B x=> .gp B (x.sub t)
 | .ig fn f c=> .ig fn (W6 t f) (W6 t c)
 | .makeMap=> .makeMap
 | .makeSlice b z n c=> .makeSlice b z (n.sub t) (c.sub t)
 | .slice s x lo hi mx=> .slice s (x.sub t) (QU t lo) (QU t hi) (QU t mx)
 | .dj n s x lo hi=> .dj n s (x.sub t) (QU t lo) (QU t hi)
 | .ew x lo hi=> .ew (x.sub t) (QU t lo) (QU t hi)
 | .fieldAddr o x=> .fieldAddr o (x.sub t)
 | .field o n x=> .field o n (x.sub t)
 | .indexAddr s x i=> .indexAddr s (x.sub t) (i.sub t)
 | .bq n s x i=> .bq n s (x.sub t) (i.sub t)
 | .index n s b x i=> .index n s b (x.sub t) (i.sub t)
 | .dq x i=> .dq (x.sub t) (i.sub t)
 | .lookup kd E z x i=> .lookup kd E z (x.sub t) (i.sub t)
 | .mapUpdate kd m k v=> .mapUpdate kd (m.sub t) (k.sub t) (v.sub t)
 | .extract x i=> .extract (x.sub t) i
 | .call f as=> .call (f.sub t) (W6 t as)
 | .append s b x y=> .append s b (x.sub t) (y.sub t)
 | .bz b z x y=> .bz b z (x.sub t) (y.sub t)
 | .iz s x y=> .iz s (x.sub t) (y.sub t)
 | .fp z x=> .fp z (x.sub t)
 | .len x=> .len (x.sub t)
 | .iv x=> .iv (x.sub t)
 | .ii x=> .ii (x.sub t)
 | .cap x=> .cap (x.sub t)
 | .max x xs=> .max (x.sub t) (W6 t xs)
 | .min x xs=> .min (x.sub t) (W6 t xs)
 | .ot B z x=> .ot B z (x.sub t)
 | .cz x=> .cz (x.sub t)
structure Rl (n:Nat) (t:TT) (a:List AV):Prop where
 len:a.length=n
 get:∀i,t.get i=bu a i
section
variable {n:Nat} {t:TT} {a:List AV}
end
def uE:∀(a:List AV) (i:Nat) (v:AV) (j:Nat),i<a.length->bu (cr a i v) j=if j=i then v else bu a j
 | [],i,v,j,h=>by simp at h
 | x::l,0,v,j,h=>by cases j<;>simp[cr,bu]
 | x::l,i+1,v,j,h=>by
  cases j with
  | zero=>simp[cr,bu]
  | succ j=>simp only[cr,bu];rw[uE l i v j (by simpa using h)];simp
def qX:∀(a:List AV) (i:Nat) (v:AV),(cr a i v).length=a.length
 | [],_,_=>rfl
 | _::_,0,_=>rfl
 | _::l,i+1,v=>by simp[cr,qX l i v]
def Rl.set{n:Nat}{t u:TT}{a:List AV}{i:Nat}{v:AV}(hr:Rl n t a)(y:i<n)(ht:∀j,u.get j=if j=i then v else t.get j):Rl n u (cr a i v):=by refine⟨by rw[qX];exact hr.len,fun j=>?_⟩;rw[ht j,uE a i v j (by rw[hr.len];exact y),hr.get j]
noncomputable def TT.gk(t:TT):Nat->(AV->Bool)->Bool:=
 TT.rec (motive:=fun _=>Nat->(AV->Bool)->Bool) (fun _ k=>k .aa)
  (fun v _ _ u y i k=>De (De (y (Eh (Cp i (nat_lit 2)) (nat_lit 1)) k) (u (Cp i (nat_lit 2)) k) (Cm (Ef i (nat_lit 2)) (nat_lit 1))) (k v) (Cm i (nat_lit 0))) t
noncomputable def TT.sk(v:AV)(t:TT):Nat->(TT->Bool)->Bool:=
 TT.rec (motive:=fun _=>Nat->(TT->Bool)->Bool) (fun _ _=>Js)
  (fun x l r u y i k=>De (De (y (Eh (Cp i (nat_lit 2)) (nat_lit 1)) fun t=>k (.node x l t)) (u (Cp i (nat_lit 2)) fun t=>k (.node x t r)) (Cm (Ef i (nat_lit 2)) (nat_lit 1))) (k (.node v l r)) (Cm i (nat_lit 0))) t
noncomputable def HT.gk(t:HT):Nat->(cq->Bool)->Bool:=
 HT.rec (motive:=fun _=>Nat->(cq->Bool)->Bool) (fun _ _=>Js)
  (fun v _ _ u y i k=>De (De (y (Eh (Cp i (nat_lit 2)) (nat_lit 1)) k) (u (Cp i (nat_lit 2)) k) (Cm (Ef i (nat_lit 2)) (nat_lit 1))) (Option.casesOn v Js k) (Cm i (nat_lit 0))) t
noncomputable def HT.mk(o:cq)(u:Nat):Nat->(HT->Bool)->Bool:=
 Nat.rec (motive:=fun _=>Nat->(HT->Bool)->Bool) (fun _ _=>Js)
  (fun _ y i k=>De (De (y (Eh (Cp i (nat_lit 2)) (nat_lit 1)) fun t=>k (.node Jq .leaf t)) (y (Cp i (nat_lit 2)) fun t=>k (.node Jq t .leaf)) (Cm (Ef i (nat_lit 2)) (nat_lit 1))) (k (.node (Jp o) .leaf .leaf)) (Cm i (nat_lit 0))) u
noncomputable def HT.sk(o:cq)(t:HT):Nat->(HT->Bool)->Bool:=
 HT.rec (motive:=fun _=>Nat->(HT->Bool)->Bool) (fun i k=>HT.mk o (nat_lit 64) i k)
  (fun v l r u y i k=>De (De (y (Eh (Cp i (nat_lit 2)) (nat_lit 1)) fun t=>k (.node v l t)) (u (Cp i (nat_lit 2)) fun t=>k (.node v t r)) (Cm (Ef i (nat_lit 2)) (nat_lit 1))) (k (.node (Jp o) l r)) (Cm i (nat_lit 0))) t
noncomputable def kif(c:Bool)(k:Bool):Bool:=De Js k c
def kif_ok{c k:Bool}(h:kif c k=Jr):c=Jr/\k=Jr:=by
 cases c with
 | false=>cases h
 | true=>exact⟨rfl,h⟩
noncomputable def H.gk(h:H)(i:Nat)(k:cq->Bool):Bool:=H.casesOn h fun n t=>kif (Nat.ble (Nat.succ i) n) (HT.gk t i k)
noncomputable def H.ck(h:H)(i:Nat)(k:Nat->Bool->List AV->Bool):Bool:=h.gk i fun o=>cq.casesOn o (fun v rw cs=>k v rw cs) (fun _ _=>Js) (fun _ _=>Js) Js
noncomputable def H.sk(h:H)(i:Nat)(o:cq)(k:H->Bool):Bool:=H.casesOn h fun n t=>HT.sk o t i fun u=>k ⟨n,u⟩
section
variable {n:Nat} {t:TT} {a:List AV}
end
abbrev KE:=Ex->TT->H->Bool
structure KRec where
 code:AC->Nat->TT->H->KE->Bool
 call:FuncId->List AV->H->(AV->H->Bool)->Bool
def FK:∀(a:List AV) (i:Nat),a.length<=i->bu a i= .aa
 | [],_,_=>rfl
 | x::l,0,h=>by simp at h
 | x::l,i+1,h=>by simp only[bu];exact FK l i (by simpa using h)
def vX:∀(l:List Nat) (a:List AV),(be a l).length=a.length
 | [],a=>rfl
 | i::l,a=>by rw[be,vX l,qX]
def xU:∀(l:List Nat) (a:List AV) (i:Nat),bu (be a l) i=if l.contains i=Jr then .aa else bu a i
 | [],a,i=>by simp[be]
 | x::l,a,i=>by
  rw[be,xU l];by_cases h1:l.contains i=Jr
  ·simp only[h1,if_true];simp at h1;simp[h1]
  ·simp only[h1,if_false,Bool.false_eq_true];have e:(x::l).contains i=(i==x):=by
    have E:l.contains i=Js:=by simpa using h1
    rw[List.contains_cons,E];simp
   rw[e];rcases Nat.lt_or_ge x a.length with B | B
   ·rw[uE _ _ _ _ B];simp
   ·have G:∀(b:List AV) (y:Nat),b.length<=y->cr b y .aa=b:=by
     intro b
     induction b with
     | nil=>intro y _;rfl
     | cons z b J=>intro y I;cases y with
      | zero=>simp at I
      | succ y=>simp only[cr];rw[J y (by simpa using I)]
    rw[G a x B];by_cases u:i=x
    ·subst u;simp;exact FK a i B
    ·simp[u]
section
variable (R:KRec)
end
inductive KT where
 | leaf
 | node (l:KT) (g:Nat) (F:AFn) (r:KT)
 | tru (l:KT) (g:Nat) (r:KT)
 | tz (l:KT) (g:Nat) (r:KT)
 | prr (l:KT) (g:Nat) (F:List AV->H->Option AV) (r:KT)
 | prm (l:KT) (g:Nat) (F:List AV->H->Option (List AV)) (r:KT)
def tzTab:List Nat:=[0,1,56,2,57,49,28,3,61,58,42,50,38,29,17,4,62,47,59,36,45,43,51,22,53,39,33,30,24,18,12,5,63,55,48,27,60,41,37,16,46,35,44,21,52,32,23,11,54,26,40,15,34,20,31,10,25,14,19,9,13,8,7,6]
def UR(x:Int):Int:=IntKind.u64.wrap (Bs IntKind.u64.bits x&&& Bs IntKind.u64.bits (IntKind.u64.wrap (-x))).toNat
def tzIdx(x:Int):Int:=IntKind.u64.wrap (UR x*285870213051353865) / 288230376151711744
def tzF(x:Int):Int:=if x=0 then 64 else((tzTab[(tzIdx x).toNat]?).getD 0:Nat)
def IK:List AV->Option Int
 | [.int .u64 x]=>Jp (tzF x)
 | _=>Jq
def primTz(args:List AV)(h:H):Option (AV×H):=match IK args with
 | some n=>Jp (.int .i64 n,h)
 | none=>Jq
def L8:List AV->H->Option (AV×H)
 | [],h=>Jp (.bool Jr,h)
 | _::_,_=>Jq
def e9(F:List AV->H->Option AV)(args:List AV)(h:H):Option (AV×H):=match F args h with
 | some v=>Jp (v,h)
 | none=>Jq
def qS(F:List AV->H->Option (List AV))(args:List AV)(h:H):Option (AV×H):=match F args h with
 | some cs=>Jp (.slice Jr 1 h.next 0 cs.length,h.alloc (.cells 0 Jr cs))
 | none=>Jq
def KT.find:KT->Nat->Option AF
 | .leaf,_=>Jq
 | .node l k f r,g=>if g=k then Jp (.fn f)else if g<=k then l.find g else r.find g
 | .tru l k r,g=>if g=k then Jp (.lf L8)else if g<=k then l.find g else r.find g
 | .tz l k r,g=>if g=k then Jp (.lf primTz)else if g<=k then l.find g else r.find g
 | .prr l k F r,g=>if g=k then Jp (.lf (e9 F))else if g<=k then l.find g else r.find g
 | .prm l k F r,g=>if g=k then Jp (.lf (qS F))else if g<=k then l.find g else r.find g
section
variable {R:KRec} {rec:Rec}
def FL:∀(a b:List AV),a.length=b.length->(∀i,i<a.length->bu a i=bu b i)->a=b
 | [],[],_,_=>rfl
 | [],_::_,h,_=>by simp at h
 | _::_,[],h,_=>by simp at h
 | x::a,y::b,h,hg=>by have h0:=hg 0 (by simp);simp only[bu]at h0;rw[h0,FL a b (by simpa using h) (fun i u=>by have:=hg (i+1) (by simpa using u);simpa [bu]using this)]
end
def kW:Value->Option AV
 | .bool b=>Jp (.bool b)
 | .int k n=>Jp (.int k n)
 | .string s=>Jp (.str s)
 | .pointer Jq=>Jp .aq
 | .slice Jq 0 0=>Jp .ag
 | .map Jq=>Jp .bc
 | .nilFunc=>Jp .al
 | .nilIface=>Jp .ae
 | .func (.func f) ⟨[]⟩ ⟨[]⟩=>Jp (.func (.func f) [] [])
 | _=>Jq
def jD{α β:Type}(f:α->Option β):List α->Option (List β)
 | []=>Jp []
 | x::u=>match f x,jD f u with
  | some y,Jp B=>Jp (y::B)
  | _,_=>Jq
def H4:Value->Option AV
 | .agg cs=>(jD kW cs.toList).map .agg
 | .iface t v=>(kW v).map (.iface t)
 | v=>kW v
def trR:Operand->Option AR
 | .tmp t=>Jp (.tmp t)
 | .const v=>(H4 v).map .const
 | .func f=>Jp (.const (.func (.func f) [] []))
 | .global _=>Jq
def EO(l:List Operand):Option (List AR):=jD trR l
def EP:Option Operand->Option (Option AR)
 | none=>Jp Jq
 | some x=>(trR x).map Jp
section
variable (P:Program)
def rT(t:TypeId):Option (List AV):=
 match P.info? t with
 | some i=>match i.zero with
  | some z=>jD kW z.cells.toList
  | none=>Jq
 | none=>Jq
def jH(t:TypeId):Option Nat:=(P.info? t).map (·.size)
def rC(t:TypeId):Option Bool:=
 match P.underlying t with
 | some (.struct _)=>Jp Jr
 | some (.array _ _)=>Jp Jr
 | some _=>Jp Js
 | none=>Jq
def tE(u:Nat->Option (Nat×Nat)):List (Nat×Operand)->Option (List (Nat×Nat×AR))
 | []=>Jp []
 | (i,x)::r=>match u i,trR x,tE u r with
  | some (off,size),Jp y,Jp B=>Jp ((off,size,y)::B)
  | _,_,_=>Jq
def oT(u:Array Field)(i:Nat):Option (Nat×Nat):=
 match u[i]? with
 | some f=>match jH P f.type with
  | some s=>Jp (f.offset,s)
  | none=>Jq
 | none=>Jq
def tN(t:TypeId):Option Nat:=
 match P.underlying t with
 | some (.int _)=>Jp 0
 | some .bool=>Jp 1
 | some .string=>Jp 2
 | _=>Jq
def UC(t:TypeId):Option AV:=
 match P.info? t with
 | some i=>match i.zero with
  | some z=>kW z
  | none=>Jq
 | none=>Jq
def lM(b:Builtin)(B:List TypeId)(args:List Operand):Option AO:=
 match b,B,args with
 | .append,t::y::_,[s,x]=>match P.underlying t,P.underlying y,trR s,trR x with
  | some (.slice e),Jp (.slice _),Jp s,Jp x=>match P.info? e,rT P e with
   | some i,Jp z=>if i.size=z.length&&0<i.size then Jp (.append i.size i.bytes s x)else Jq
   | _,_=>Jq
  | some (.slice e),Jp .string,Jp s,Jp x=>match P.info? e,rT P e with
   | some i,Jp z=>if i.size=z.length&&0<i.size then Jp (.append i.size i.bytes s x)else Jq
   | _,_=>Jq
  | some (.slice e),Jp (.int _),Jp s,Jp x=>match P.info? e,rT P e with
   | some i,Jp z=>if i.size=z.length&&0<i.size then Jp (.bz i.bytes z s x)else Jq
   | _,_=>Jq
  | _,_,_,_=>Jq
 | .len,t::_,[x]=>match P.underlying t,trR x with
  | some (.slice _),Jp x=>Jp (.len x)
  | some .string,Jp x=>Jp (.iv x)
  | some (.map _ _),Jp x=>Jp (.ii x)
  | some (.array n _),_=>Jp (.move (.const (i64 n)))
  | _,_=>Jq
 | .cap,t::_,[x]=>match P.underlying t,trR x with
  | some (.slice _),Jp x=>Jp (.cap x)
  | _,_=>Jq
 | .copy,t::y::_,[d,x]=>match P.underlying t,P.underlying y,trR d,trR x with
  | some (.slice e),Jp (.slice _),Jp d,Jp x=>match P.info? e with
   | some i=>if 0<i.size then Jp (.iz i.size d x)else Jq
   | none=>Jq
  | _,_,_,_=>Jq
 | .clear,t::_,[x]=>match P.underlying t,trR x with
  | some (.slice e),Jp x=>match P.info? e,rT P e with
   | some i,Jp z=>if i.size=z.length&&0<i.size then Jp (.fp z x)else Jq
   | _,_=>Jq
  | _,_=>Jq
 | .max,_,x::u=>match trR x,EO u with
  | some x,Jp u=>Jp (.max x u)
  | _,_=>Jq
 | .min,_,x::u=>match trR x,EO u with
  | some x,Jp u=>Jp (.min x u)
  | _,_=>Jq
 | _,_,_=>Jq
def I1:TypeDesc->Option Nat
 | .slice _=>Jp 0
 | .pointer _=>Jp 1
 | .map _ _=>Jp 2
 | .func _ _ _=>Jp 3
 | _=>Jq
def rD(P:Program)(f:TypeId->Option (List (Option IntKind))):Nat->List Field->Option (List (Option IntKind))
 | _,[]=>Jp []
 | off,x::u=>match f x.type,rD P f (x.offset+P.cellsOf x.type) u with
  | some a,Jp b=>if x.offset=off/\a.length=P.cellsOf x.type then Jp (a++b)else Jq
  | _,_=>Jq
def xM(a:List (Option IntKind)):Nat->List (Option IntKind)
 | 0=>[]
 | n+1=>a++xM a n
def t8(P:Program):Nat->TypeId->Option (List (Option IntKind))
 | 0,_=>Jq
 | m+1,t=>match P.underlying t with
  | some (.int k)=>Jp [Jp k]
  | some .bool=>Jp [Jq]
  | some (.struct u)=>match rD P (t8 P m) 0 u.toList with
   | some T=>if T.length=P.cellsOf t/\u.all (·.name != "_")=Jr then Jp T else Jq
   | none=>Jq
  | some (.array n e)=>match t8 P m e with
   | some E=>if E.length=P.cellsOf e/\(xM E n).length=P.cellsOf t then Jp (xM E n)else Jq
   | none=>Jq
  | _=>Jq
def tO(P:Program)(op:BinOp)(t:TypeId)(x y:AR):Option AO:=
 match op,t8 P 20 t with
 | .eql,Jp T=>if P.keyTypeAt 20 t=Jr/\P.eqGuardType P.depth t=Js then Jp (.ec Js T x y)else Jq
 | .neq,Jp T=>if P.keyTypeAt 20 t=Jr/\P.eqGuardType P.depth t=Js then Jp (.ec Jr T x y)else Jq
 | _,_=>Jq
def wT:Operand->Bool
 | .const _=>Jr
 | _=>Js
def JB(P:Program)(m:String)(t:TypeId):Option FuncId:=
 match P.info? t,P.underlying t with
 | some i,Jp (.pointer _)=>match i.methods.find? (·.name==m)with
  | some u=>match u.path.toList,u.func with
   | [],Jp (f,Jr)=>Jp f
   | _,_=>Jq
  | none=>Jq
 | _,_=>Jq
def oS(P:Program)(m:String):List Nat->List AV
 | []=>[]
 | t::r=>match JB P m t with
  | some f=>i64 t::i64 f::oS P m r
  | none=>oS P m r
def cL(o:Oper):Option AO:=
 match o.op with
 | .move x | .assign x=>(trR x).map .move
 | .pick c a b=>match trR c,trR a,trR b with
  | some c,Jp a,Jp b=>Jp (.pick c a b)
  | _,_,_=>Jq
 | .alloc e=>(rT P e).map .alloc
 | .box _ x=>(trR x).map .box
 | .build t I=>match rT P t,P.underlying t with
  | some z,Jp (.struct E)=>if E.toList.all (fun f=>(jH P f.type).isSome)then(tE (oT P E) I.toList).map (.build z)else Jq
  | some z,Jp (.array _ e)=>match jH P e with
   | some s=>(tE (fun i=>Jp (i*s,s)) I.toList).map (.build z)
   | none=>Jq
  | _,_=>Jq
 | .buildSlice t len I=>match P.underlying t with
  | some (.slice e)=>match jH P e,rT P e with
   | some s,Jp z=>if s=z.length&&0<s&&len*s<=65536 then(tE (fun i=>Jp (i*s,s)) I.toList).map (.buildSlice s len z)else Jq
   | _,_=>Jq
  | _=>Jq
 | .load t x=>match rC P t,jH P t,trR x with
  | some Jr,Jp n,Jp x=>Jp (.eh n x)
  | some Js,_,Jp x=>Jp (.load x)
  | _,_,_=>Jq
 | .store t p x=>match jH P t,trR p,trR x with
  | some n,Jp p,Jp x=>Jp (.store n p x)
  | _,_,_=>Jq
 | .nilCheck x=>(trR x).map .nilCheck
 | .binOp op t x y _=>match trR x,trR y,P.underlying t with
  | some x,Jp y,Jp (.int _) | some x,Jp y,Jp .string=>Jp (.bin op x y)
  | some x,Jp y,Jp .bool=>match op with
   | .eql=>Jp (.eqB Js x y)
   | .neq=>Jp (.eqB Jr x y)
   | _=>Jq
  | some x,Jp y,Jp (.struct _) | some x,Jp y,Jp (.array _ _)=>tO P op t x y
  | some M,Jp O,Jp (.interface _)=>if wT x||wT y then match op with
    | .eql=>Jp (.isNil 4 Js M O)
    | .neq=>Jp (.isNil 4 Jr M O)
    | _=>Jq
   else Jq
  | some x,Jp y,Jp d=>match I1 d,op with
   | some kd,.eql=>Jp (.isNil kd Js x y)
   | some kd,.neq=>Jp (.isNil kd Jr x y)
   | _,_=>Jq
  | _,_,_=>Jq
 | .unOp op _ x=>(trR x).map (.un op)
 | .convert J K x=>match P.underlying J,P.underlying K,trR x with
  | some (.int _),Jp (.int k),Jp x=>Jp (.du k x)
  | some .string,Jp .string,Jp x=>Jp (.ju x)
  | some (.slice e),Jp .string,Jp x=>match P.underlying e with
   | some (.int .u8)=>Jp (.cg x)
   | _=>Jq
  | some .string,Jp (.slice e),Jp x=>match P.underlying e with
   | some (.int .u8)=>Jp (.cz x)
   | _=>Jq
  | _,_,_=>Jq
 | .makeInterface t x=>match P.underlying t with
  | some (.interface _)=>Jq
  | some _=>(trR x).map (.gp t)
  | none=>Jq
 | .makeFunc fn f c=>match fn,EO f.toList,EO c.toList with
  | .yield _,_,_=>Jq
  | .methodOf _ _,_,_=>Jq
  | fn,Jp f,Jp c=>Jp (.ig fn f c)
  | _,_,_=>Jq
 | .makeMap _ Jq=>Jp .makeMap
 | .makeSlice t l c=>match P.underlying t with
  | some (.slice e)=>match P.info? e,rT P e,trR l,trR c with
   | some i,Jp z,Jp l,Jp c=>if i.size=z.length&&0<i.size then Jp (.makeSlice i.bytes z l c)else Jq
   | _,_,_,_=>Jq
  | _=>Jq
 | .slice t x u B G=>match P.underlying t with
  | some (.slice e)=>match jH P e,trR x,EP u,EP B,EP G with
   | some s,Jp x,Jp u,Jp B,Jp G=>Jp (.slice s x u B G)
   | _,_,_,_,_=>Jq
  | some .string=>match trR x,EP u,EP B,G with
   | some x,Jp u,Jp B,Jq=>Jp (.ew x u B)
   | _,_,_,_=>Jq
  | some (.array n e)=>match jH P e,trR x,EP u,EP B,G with
   | some s,Jp x,Jp u,Jp B,Jq=>if n<=65536 then Jp (.dj n s x u B)else Jq
   | _,_,_,_,_=>Jq
  | _=>Jq
 | .fieldAddr t x i=>match P.underlying t with
  | some (.struct E)=>match E[i]? with
   | some f=>match jH P f.type,trR x with
    | some (_+1),Jp x=>Jp (.fieldAddr f.offset x)
    | _,_=>Jq
   | none=>Jq
  | _=>Jq
 | .field t x i=>match P.underlying t with
  | some (.struct E)=>match E[i]? with
   | some f=>match rC P f.type,jH P f.type,trR x with
    | some Jr,Jp n,Jp x=>Jp (.field f.offset (Jp n) x)
    | some Js,_,Jp x=>Jp (.field f.offset Jq x)
    | _,_,_=>Jq
   | none=>Jq
  | _=>Jq
 | .indexAddr t x i=>match P.underlying t,trR x,trR i with
  | some (.slice e),Jp x,Jp i=>match jH P e with
   | some s=>Jp (.indexAddr s x i)
   | none=>Jq
  | some (.array n e),Jp x,Jp i=>match jH P e with
   | some s=>Jp (.bq n s x i)
   | none=>Jq
  | _,_,_=>Jq
 | .index t x i=>match P.underlying t,trR x,trR i with
  | some (.array n e),Jp x,Jp i=>match jH P e,rC P e with
   | some s,Jp b=>Jp (.index n s b x i)
   | _,_=>Jq
  | some .string,Jp x,Jp i=>Jp (.dq x i)
  | _,_,_=>Jq
 | .lookup t x i L=>match P.underlying t,trR x,trR i with
  | some (.map k e),Jp x,Jp i=>match UC P e,tN P k with
   | some z,Jp kd=>Jp (.lookup kd L z x i)
   | _,_=>Jq
  | _,_,_=>Jq
 | .mapUpdate t m k v | .insert t m k v=>match P.underlying t,trR m,trR k,trR v with
  | some (.map Q _),Jp m,Jp k,Jp v=>match tN P Q with
   | some kd=>Jp (.mapUpdate kd m k v)
   | none=>Jq
  | _,_,_,_=>Jq
 | .extract x i=>(trR x).map (.extract · i)
 | .panic _=>Jp (.extract (.const .aa) 0)
 | .call c=>match c.callee with
  | .value f=>match trR f,EO c.args.toList with
   | some f,Jp args=>Jp (.call f args)
   | _,_=>Jq
  | .builtin b=>lM P b c.argTypes.toList c.args.toList
  | .invoke r m=>match trR r,EO c.args.toList with
   | some x,Jp R=>Jp (.call (.const (.func (.methodOf 0 m) (oS P m (Ba P.types.size)) [])) (x::R))
   | _,_=>Jq
 | .typeAssert x _ t L=>match L,P.underlying t,UC P t,trR x with
  | true,Jp (.interface _),_,_=>Jq
  | true,Jp _,Jp z,Jp x=>Jp (.ot t z x)
  | _,_,_,_=>Jq
 | _=>Jq
def AO.stuck:AO:= .extract (.const .aa) 0
def FP:Op->Bool
 | .convert .. | .slice .. | .indexAddr .. | .index .. | .call _ | .load .. | .store .. | .binOp .. | .unOp .. | .makeInterface .. =>Jr
 | _=>Js
def B8(o:Oper):Option AO:=match cL P o with
 | some u=>Jp u
 | none=>if FP o.op then Jp .stuck else Jq
def qJ{o:Oper}{u:AO}(h:B8 P o=Jp u):cL P o=Jp u\/(u= .stuck/\FP o.op=Jr):=by
 unfold B8 at h
 grind
def AO.reads:AO->Bool
 | .load _ | .eh .. | .lookup .. | .ii _ | .cg _ | .dj .. | .alloc _ | .box _ | .buildSlice .. | .makeSlice .. | .makeMap=>Jr
 | _=>Js
def opR:AR->List Nat
 | .tmp t=>[t]
 | .const _=>[]
def MU:Option AR->List Nat
 | some x=>opR x
 | none=>[]
def AO.dv:AO->List Nat
 | .move x | .box x | .load x | .eh _ x | .nilCheck x | .un _ x | .du _ x | .ju x | .cg x | .gp _ x | .fieldAddr _ x | .field _ _ x | .extract x _ | .len x | .iv x | .ii x | .cap x | .fp _ x | .ot _ _ x | .cz x=>opR x
 | .pick c a b | .mapUpdate _ c a b=>opR c++opR a++opR b
 | .alloc .. | .makeMap=>[]
 | .build _ u | .buildSlice _ _ _ u=>u.flatMap fun p=>opR p.2.2
 | .store _ a b | .bin _ a b | .isNil _ _ a b | .eqB _ a b | .ec _ _ a b | .makeSlice _ _ a b | .indexAddr _ a b | .bq _ _ a b | .index _ _ _ a b | .dq a b | .lookup _ _ _ a b | .append _ _ a b | .bz _ _ a b | .iz _ a b=>opR a++opR b
 | .ig _ f c=>f.flatMap opR++c.flatMap opR
 | .slice _ x lo hi mx=>opR x++MU lo++MU hi++MU mx
 | .dj _ _ x lo hi=>opR x++MU lo++MU hi
 | .ew x lo hi=>opR x++MU lo++MU hi
 | .call f args=>opR f++args.flatMap opR
 | .max x xs | .min x xs=>opR x++xs.flatMap opR
def aw.names(o:aw):List Nat:=o.dst.toList++o.op.dv++(match o.guard with | some (t,_)=>[t] | none=>[])
def dS(o:Oper):List Nat:=(o.after.toList.filter (Region.binds .any)).map (·.on)
def tX:List Oper->List (List Nat)->List (List Nat)
 | [],u=>u
 | o::os,u=>tX os (u++[((dS o).flatMap fun j=>j::u.getD j []).eraseDups])
def xL(ops:Array Oper)(o:Oper):Option aw:=
 match B8 P o with
 | some y=>match o.guard with
  | none=>Jp ⟨o.dst,y,Jq,[]⟩
  | some (j,u)=>match (ops[j]?).bind (·.dst)with
   | some d=>Jp ⟨o.dst,y,Jp (d,u),[]⟩
   | none=>Jq
 | none=>Jq
def gY(u:List (List Nat))(i j:Nat):Bool:=(u.getD j []).contains i||(u.getD i []).contains j
def sK(x y:aw):Bool:=(x.op.effect&&y.op.reads)||(y.op.effect&&x.op.reads)
def mU(y:List (List Nat))(u:List aw):List aw:=
 u.zipIdx.map fun(o,i)=>{o with chk:=(Ba i).filter fun j=>match u[j]? with
  | some p=> !gY y j i&&sK p o
  | none=>Js}
def SN(B:Bool)(ops:List Oper)(y:List (List Nat))(u:List aw):Bool:=
 (B|| !Region.departs ops.toArray)&&
 (ops.zipIdx.all fun(o,i)=>(dS o).all (· <i))&&
 (u.zipIdx.all fun(o,i)=>u.zipIdx.all fun(p,j)=>
  i==j||((!(o.op.effect&&p.op.effect)||gY y i j)&&
   (match o.dst with | some d=> !p.names.contains d||gY y i j | none=>Jr)))
def m7(ops:Array Oper)(y:Bool):Option AC:=
 match jD (xL P ops) ops.toList with
 | none=>Jq
 | some u=>
  if !y then Jp (.region u)else
  let B:=tX ops.toList []
  if SN (P.follows .mixedOrders) ops.toList B u then
   let l:=mU B u
   if l.all (fun o=>o.chk.isEmpty)then Jp (.region u)else Jp (.ff l)
  else Jq
def BO:Code->Bool
 | .goto _=>Jr
 | .seq a b | .cond _ a b | .rangeFunc _ _ a b=>BO a||BO b
 | .block _ c | .loop c | .scope c=>BO c
 | _=>Js
def yT:Code->Option Nat
 | .seq a b=>match yT a with
  | some l=>Jp l
  | none=>yT b
 | .label l=>Jp l
 | _=>Jq
def trJ(l:Nat):Code->Option AC
 | .skip=>Jp .skip
 | .label _=>Jp .skip
 | .region _ ops u=>m7 P ops u
 | .seq a b=>match trJ l a,trJ l b with
  | some x,Jp y=>Jp (.seq x y)
  | _,_=>Jq
 | .cond c a b=>match trR c,trJ l a,trJ l b with
  | some c,Jp x,Jp y=>Jp (.cond c x y)
  | _,_,_=>Jq
 | .goto B=>if B=l then Jp (.exit (1048576+l))else Jq
 | .exit id=>if id<1048576 then Jp (.exit id)else Jq
 | .ret=>Jp .ret
 | _=>Jq
def aCg(l:Nat)(x y:AC):AC:= .block (2097152+l) (.seq (.block (1048576+l) (.seq x (.exit (2097152+l)))) (.loop [] (.block (1048576+l) (.seq y (.exit (2097152+l))))))
def HZ(b:Code):Option AC:=match yT b with
 | some l=>match findLabel b l with
  | some r=>match trJ P l b,trJ P l r with
   | some x,Jp y=>Jp (aCg l x y)
   | _,_=>Jq
  | none=>Jq
 | none=>Jq
def tr:Code->Option AC
 | .skip=>Jp .skip
 | .region _ ops u=>m7 P ops u
 | .seq a b=>match tr a,tr b with
  | some x,Jp y=>Jp (.seq x y)
  | _,_=>Jq
 | .cond c a b=>match trR c,tr a,tr b with
  | some c,Jp x,Jp y=>Jp (.cond c x y)
  | _,_,_=>Jq
 | .block id b=>(tr b).map (.block id)
 | .loop b=>(tr b).map (.loop [])
 | .rangeFunc f E B b=>match trR f,tr B,tr b with
  | some f,Jp x,Jp y=>Jp (.rangeFunc f E.toList x y)
  | _,_,_=>Jq
 | .exit id=>Jp (.exit id)
 | .ret=>Jp .ret
 | .scope b=>if BO b then HZ P b else tr b
 | .label _=>Jp .skip
 | _=>Jq
end
def aG4(l t:Nat):Nat:=l||| 2^t
def aCL(l t:Nat):Nat:=if l.testBit t then l-2^t else l
def w6(l:Nat)(u:List Nat):Nat:=u.foldl aG4 l
def JD:List aw->Nat->Nat
 | [],u=>u
 | o::os,u=>
  let l:=JD os u
  let l:=match o.dst with | some d=>aCL l d | none=>l
  w6 (w6 l o.op.dv) (match o.guard with | some (t,_)=>[t] | none=>[])
def live(E:Nat):AC->(u:Nat)->(ex:List (Nat×Nat))->(B:Nat)->Nat×AC
 | .skip,u,_,_=>(u,.skip)
 | .region ops,u,_,_=>(JD ops u,.region ops)
 | .ff ops,u,_,_=>(JD ops u,.ff ops)
 | .seq x y,u,ex,B=>
  let (l,K):=live E y u ex B
  let (G,I):=live E x l ex B
  (G,.seq I K)
 | .cond c x y,u,ex,B=>
  let (l,I):=live E x u ex B
  let (G,K):=live E y u ex B
  (w6 (l||| G) (opR c),.cond c I K)
 | .block id x,u,ex,B=>
  let (l,I):=live E x u ((id,u)::ex) B
  (l,.block id I)
 | .loop _ x,_,ex,B=>
  let (l,_):=live E x 0 ex B
  let (G,I):=live E x l ex B
  (G,.loop ((Ba E).filter fun t=> !G.testBit t) I)
 | .rangeFunc f M L b,u,ex,B=>
  let (l,O):=live E b 0 ex B
  let (G,J):=live E L l ex B
  (w6 (u||| (M.foldl aCL G)||| ex.foldl (fun s p=>s||| p.2) B) (opR f),.rangeFunc f M J O)
 | .exit id,_,ex,_=>(((ex.find? (·.1==id)).map (·.2)).getD 0,.exit id)
 | .ret,_,_,B=>(B,.ret)
def FI(P:Program):ResultVar->Option lk
 | .tmp t=>Jp (.tmp t)
 | .cell t u=>match rC P u,jH P u with
  | some Jr,Jp n=>Jp (.cells t n)
  | some Js,_=>Jp (.cell t)
  | _,_=>Jq
def BG(l:List lk):Nat:=w6 0 (l.map fun | .tmp t=>t | .cell t=>t | .cells t _=>t)
def trFn(P:Program)(f:Func):Option AFn:=
 match f.body,jD (FI P) f.results.toList with
 | some b,Jp u=>match tr P b with
  | some c=>Jp ⟨f.ntmps,u,(live f.ntmps c (BG u) [] (BG u)).2⟩
  | none=>Jq
 | _,_=>Jq
structure Loc where
 blk:Nat
 base:Nat
 lim:Nat
abbrev Emb:=Nat->Option Loc
def wD:Fn->Bool
 | .yield _=>Js
 | .methodOf _ _=>Js
 | _=>Jr
inductive VR (ρ:Emb):AV->Value->Prop
 | aa (u:Value):VR ρ .aa u
 | bool (b:Bool):VR ρ (.bool b) (.bool b)
 | int (k:IntKind) (n:Int):VR ρ (.int k n) (.int k n)
 | str (s:ByteArray):VR ρ (.str s) (.string s)
 | aq:VR ρ .aq (.pointer Jq)
 | ptr (b o:Nat) (l:Loc) (h:ρ b=Jp l):VR ρ (.ptr b o) (.pointer (Jp ⟨l.blk,l.base+o,Jq⟩))
 | ag:VR ρ .ag (.slice Jq 0 0)
 | slice (fl:Bool) (sz b o n cap:Nat) (ad:Addr) (h1:n<=cap) (h2:cap<=maxLen) (h3:fl=Jr->cap=n)
   (h4:0<cap->∃l,ρ b=Jp l/\ad=⟨l.blk,l.base+o,Jq⟩/\l.base+o+cap*sz<=l.lim):VR ρ (.slice fl sz b o n) (.slice (Jp ad) n cap)
 | bc:VR ρ .bc (.map Jq)
 | map (r:Nat) (l:Loc) (h:ρ r=Jp l):VR ρ (.map r) (.map (Jp l.blk))
 | func (fn:Fn) (f c:List AV) (f' c':List Value) (hp:wD fn=Jr) (hf:f'.length=f.length) (hc:c'.length=c.length)
   (h1:∀(i:Nat) (v:AV) (u:Value),f[i]? =Jp v->f'[i]? =Jp u->VR ρ v u) (h2:∀(i:Nat) (v:AV) (u:Value),c[i]? =Jp v->c'[i]? =Jp u->VR ρ v u):VR ρ (.func fn f c) (.func fn f'.toArray c'.toArray)
 | yield (r:Nat) (l:Loc) (h:ρ r=Jp l):VR ρ (.func (.yield r) [] []) (.func (.yield l.blk) #[] #[])
 | al:VR ρ .al .nilFunc
 | iface (t:TypeId) (v:AV) (u:Value) (h:VR ρ v u):VR ρ (.iface t v) (.iface t u)
 | ae:VR ρ .ae .nilIface
 | agg (cs:List AV) (us:List Value) (hl:us.length=cs.length) (h:∀(i:Nat) (v:AV) (u:Value),cs[i]? =Jp v->us[i]? =Jp u->VR ρ v u):VR ρ (.agg cs) (.agg us.toArray)
 | tuple (cs:List AV) (us:List Value) (hl:us.length=cs.length) (h:∀(i:Nat) (v:AV) (u:Value),cs[i]? =Jp v->us[i]? =Jp u->VR ρ v u):VR ρ (.tuple cs) (.tuple us.toArray)
def VRs(ρ:Emb)(cs:List AV)(y:List Value):Prop:=y.length=cs.length/\∀(i:Nat) (v:AV) (u:Value),cs[i]? =Jp v->y[i]? =Jp u->VR ρ v u
def Sub(ρ u:Emb):Prop:=∀x l,ρ x=Jp l->u x=Jp l
def Sub.refl(ρ:Emb):Sub ρ ρ:=fun _ _ h=>h
def Sub.trans{a b c:Emb}(h:Sub a b)(k:Sub b c):Sub a c:=fun x l e=>k x l (h x l e)
def VR.mono{ρ G:Emb}(hs:Sub ρ G){v:AV}{u:Value}(h:VR ρ v u):VR G v u:=by
 induction h with
 | aa u=>exact .aa u
 | bool b=>exact .bool b
 | int k n=>exact .int k n
 | str s=>exact .str s
 | aq=>exact .aq
 | ptr b o l h=>exact .ptr b o l (hs _ _ h)
 | ag=>exact .ag
 | slice fl sz b o n cap ad h1 h2 h3 h4=>exact .slice fl sz b o n cap ad h1 h2 h3 (fun hc=>let ⟨l,e,r⟩:=h4 hc;⟨l,hs _ _ e,r⟩)
 | bc=>exact .bc
 | map r l h=>exact .map r l (hs _ _ h)
 | func fn f c f' c' hp hf hc h1 h2 B E=>exact .func fn f c f' c' hp hf hc B E
 | yield r l h=>exact .yield r l (hs _ _ h)
 | al=>exact .al
 | iface t v u h y=>exact .iface t v u y
 | ae=>exact .ae
 | agg cs us hl h y=>exact .agg cs us hl y
 | tuple cs us hl h y=>exact .tuple cs us hl y
def VRs.mono{ρ y:Emb}(hs:Sub ρ y){cs:List AV}{B:List Value}(h:VRs ρ cs B):VRs y cs B:=⟨h.1,fun i v u a b=>(h.2 i v u a b).mono hs⟩
def VRs.nil(ρ:Emb):VRs ρ [] []:=⟨rfl,fun i v u h=>by simp at h⟩
def VRs.cons{ρ:Emb}{v:AV}{u:Value}{cs:List AV}{y:List Value}(h:VR ρ v u)(hs:VRs ρ cs y):VRs ρ (v::cs) (u::y):=by
 refine⟨by simp[hs.1],fun i a b h1 h2=>?_⟩
 cases i with
 | zero=>simp at h1 h2;subst h1;subst h2;exact h
 | succ i=>exact hs.2 i a b (by simpa using h1) (by simpa using h2)
def VRs.head{ρ:Emb}{v:AV}{u:Value}{cs:List AV}{y:List Value}(h:VRs ρ (v::cs) (u::y)):VR ρ v u:=h.2 0 v u rfl rfl
def VRs.tail{ρ:Emb}{v:AV}{u:Value}{cs:List AV}{y:List Value}(h:VRs ρ (v::cs) (u::y)):VRs ρ cs y:=
 ⟨by simpa using h.1,fun i a b h1 h2=>h.2 (i+1) a b (by simpa using h1) (by simpa using h2)⟩
def VRs.da{ρ:Emb}{u:List Value}(h:VRs ρ [] u):u=[]:=by have:=h.1;simpa using this
def VRs.cons_inv{ρ:Emb}{v:AV}{cs:List AV}{B:List Value}(h:VRs ρ (v::cs) B):∃u y,B=u::y/\VR ρ v u/\VRs ρ cs y:=by
 cases B with
 | nil=>have:=h.1;simp at this
 | cons u y=>exact⟨u,y,rfl,h.head,h.tail⟩
def VRs.append{ρ:Emb} :∀{cs y:List AV} {E B:List Value},VRs ρ cs E->VRs ρ y B->VRs ρ (cs++y) (E++B)
 | [],_,E,_,h,G=>by rw[h.da];exact G
 | v::cs,_,E,_,h,G=>by obtain⟨u,r,rfl,hv,hr⟩:=h.cons_inv;exact .cons hv (VRs.append hr G)
def VRs.getElem{ρ:Emb}{cs:List AV}{y:List Value}(h:VRs ρ cs y){i:Nat}{v:AV}(hv:cs[i]? =Jp v):∃u,y[i]? =Jp u/\VR ρ v u:=by
 have B:i<y.length:=by rw[h.1];exact(List.getElem?_eq_some_iff.1 hv).1
 exact⟨y[i],Ad B,h.2 i v _ hv (Ad B)⟩
def VRs.take{ρ:Emb}{cs:List AV}{y:List Value}(h:VRs ρ cs y)(n:Nat):VRs ρ (cs.take n) (y.take n):=by
 refine⟨by simp[h.1],fun i v u h1 h2=>?_⟩;rw[List.getElem?_take]at h1 h2;split at h1
 ·rename_i hlt;rw[if_pos hlt]at h2;exact h.2 i v u h1 h2
 ·cases h1
def VRs.drop{ρ:Emb}{cs:List AV}{y:List Value}(h:VRs ρ cs y)(n:Nat):VRs ρ (cs.drop n) (y.drop n):=by refine⟨by simp[h.1],fun i v u h1 h2=>?_⟩;rw[List.getElem?_drop]at h1 h2;exact h.2 (n+i) v u h1 h2
def VRs.qf{ρ:Emb}{cs:List AV}{u:List Value}(h:VRs ρ cs u):VR ρ (.agg cs) (.agg u.toArray):= .agg cs u h.1 h.2
def VRs.ky{ρ:Emb}{cs:List AV}{u:List Value}(h:VRs ρ cs u):VR ρ (.tuple cs) (.tuple u.toArray):= .tuple cs u h.1 h.2
def VRs.replicate{ρ:Emb}{v:AV}{u:Value}(h:VR ρ v u):∀n,VRs ρ (Ae n v) (Ae n u)
 | 0=>VRs.nil ρ
 | n+1=> .cons h (VRs.replicate h n)
def VR.jj{ρ:Emb}{cs:List AV}{u:Value}(h:VR ρ (.agg cs) u):∃us,u= .agg (Hu us)/\VRs ρ cs us:=by
 cases h with
 | agg _ us hl h=>exact⟨us,rfl,hl,h⟩
def VR.mq{ρ:Emb}{cs:List AV}{u:Value}(h:VR ρ (.tuple cs) u):∃us,u= .tuple (Hu us)/\VRs ρ cs us:=by
 cases h with
 | tuple _ us hl h=>exact⟨us,rfl,hl,h⟩
def VR.one{ρ:Emb}{v:AV}{u:Value}(h:VR ρ v u)(hv:v.one=Jr):u.oneCell'=Jr:=by cases h<;>first | rfl | (simp[AV.one]at hv)
def VR.cells{ρ:Emb}{v:AV}{u:Value}(h:VR ρ v u)(hv:v.cells.all AV.one=Jr):VRs ρ v.cells u.cells.toList/\∀x∈u.cells.toList,x.oneCell'=Jr:=by
 have y:∀{v:AV} {u:Value},VR ρ v u->v.one=Jr->VRs ρ [v] #[u].toList/\∀x∈#[u].toList,x.oneCell'=Jr:=fun h E=>⟨.cons h (.nil ρ),by simpa using h.one E⟩
 cases h with
 | agg cs us hl h=>
  refine⟨⟨hl,h⟩,fun x G=>?_⟩;obtain⟨i,I,e⟩:=Dx G;have B:i<cs.length:=by rw[<-hl];simpa [Value.cells]using I
  have h1:=h i cs[i] x (Ad B) (by rw[<-e];simp[Value.cells]);exact h1.one (by simpa using (List.all_eq_true.1 hv) cs[i] (List.getElem_mem B))
 | aa u=>simp[AV.cells,AV.one]at hv
 | tuple cs us hl h=>simp[AV.cells,AV.one]at hv
 | bool b=>exact y (.bool b) rfl
 | int k n=>exact y (.int k n) rfl
 | str s=>exact y (.str s) rfl
 | aq=>exact y .aq rfl
 | ptr b o l h=>exact y (.ptr b o l h) rfl
 | ag=>exact y .ag rfl
 | slice fl sz b o n cap ad h1 h2 h3 h4=>exact y (.slice fl sz b o n cap ad h1 h2 h3 h4) rfl
 | bc=>exact y .bc rfl
 | map r l h=>exact y (.map r l h) rfl
 | func fn f c f' c' hp hf hc h1 h2=>exact y (.func fn f c f' c' hp hf hc h1 h2) rfl
 | yield r l h=>exact y (.yield r l h) rfl
 | al=>exact y .al rfl
 | iface t v u h=>exact y (.iface t v u h) rfl
 | ae=>exact y .ae rfl
def TR(ρ:Emb)(a:List AV)(tmps:Array Value):Prop:=VRs ρ a tmps.toList
def kI:∀(a:List AV) (t:Nat),bu a t=(a[t]?).getD .aa
 | [],t=>by simp[bu]
 | v::l,0=>by simp[bu]
 | v::l,t+1=>by simp[bu,kI l t]
def zS:∀(a:List AV) (t:Nat) (v:AV),(cr a t v).length=a.length
 | [],_,_=>rfl
 | _::_,0,_=>rfl
 | _::l,t+1,v=>by simp[cr,zS l t v]
def BA:∀(a:List AV) (t:Nat) (v:AV),cr a t v=a.set t v
 | [],_,_=>by simp[cr]
 | _::_,0,_=>by simp[cr]
 | _::l,t+1,v=>by simp[cr,BA l t v]
def TR.get{ρ:Emb}{a:List AV}{tmps:Array Value}(h:TR ρ a tmps)(t:Nat):VR ρ (bu a t) (tmps.getD t undef):=by
 rw[kI]
 cases hv:a[t]? with
 | none=>exact .aa _
 | some v=>obtain⟨u,y,hr⟩:=h.getElem hv;simp_all
def TR.set{ρ:Emb}{a:List AV}{tmps:Array Value}(h:TR ρ a tmps)(t:Nat){v:AV}{u:Value}(hv:VR ρ v u):TR ρ (cr a t v) (tmps.setIfInBounds t u):=by
 rw[BA];refine⟨by simpa using h.1,fun i x y h1 h2=>?_⟩;rw[Array.toList_setIfInBounds]at h2;rw[Dy]at h1 h2;by_cases e:t=i
 ·grind
 ·rw[if_neg e]at h1 h2;exact h.2 i x y h1 h2
def TR.aa{ρ:Emb}{a:List AV}{tmps:Array Value}(h:TR ρ a tmps)(t:Nat):TR ρ (cr a t .aa) tmps:=by
 rw[BA];refine⟨by simpa using h.1,fun i x y h1 h2=>?_⟩;rw[Dy]at h1;by_cases e:t=i
 ·subst e;simp only[if_true]at h1;split at h1
  ·cases h1;exact .aa y
  ·cases h1
 ·rw[if_neg e]at h1;exact h.2 i x y h1 h2
def TR.be{ρ:Emb}{tmps:Array Value} :∀(u:List Nat) {a:List AV},TR ρ a tmps->TR ρ (be a u) tmps
 | [],_,h=>h
 | t::u,_,h=>TR.be u (h.aa t)
def TR.put{ρ:Emb}{a:List AV}{y:Act}(h:TR ρ a y.tmps)(d:Option Nat){v:AV}{u:Value}(hv:VR ρ v u):TR ρ (put a d v) (y.put d u).tmps:=by
 cases d with
 | none=>exact h
 | some t=>exact h.set t hv
def TR.mono{ρ u:Emb}(hs:Sub ρ u){a:List AV}{tmps:Array Value}(h:TR ρ a tmps):TR u a tmps:=VRs.mono hs h
def lL{ρ:Emb}{u:Value}{v:AV}(h:kW u=Jp v):VR ρ v u/\v.one=Jr:=by
 unfold kW at h;split at h<;>first | (cases h;done) | skip
 all_goals (cases h)
 ·exact⟨.bool _,rfl⟩
 ·exact⟨.int _ _,rfl⟩
 ·exact⟨.str _,rfl⟩
 ·exact⟨.aq,rfl⟩
 ·exact⟨.ag,rfl⟩
 ·exact⟨.bc,rfl⟩
 ·exact⟨.al,rfl⟩
 ·exact⟨.ae,rfl⟩
 ·exact⟨.func _ [] [] [] [] rfl rfl rfl (fun i v u h=>by simp at h) (fun i v u h=>by simp at h),rfl⟩
def iY{α β:Type}{f:α->Option β} :∀{l:List α} {r:List β},jD f l=Jp r->r.length=l.length
 | [],r,h=>by cases h;rfl
 | x::B,r,h=>by
  unfold jD at h;split at h
  ·rename_i y E G u;cases h;simp[iY u]
  ·cases h
def oD{α β:Type}{f:α->Option β} :∀{l:List α} {r:List β},jD f l=Jp r->∀(i:Nat) x y,l[i]? =Jp x->r[i]? =Jp y->f x=Jp y
 | [],r,h,i,x,y,u,B=>by simp at u
 | a::G,r,h,i,x,y,u,B=>by
  unfold jD at h;split at h
  ·rename_i z I hz E;cases h
   cases i with
   | zero=>simp at u B;subst u;subst B;exact hz
   | succ i=>exact oD E i x y (by simpa using u) (by simpa using B)
  ·cases h
def jJ{ρ:Emb}{y:List Value}{cs:List AV}(h:jD kW y=Jp cs):VRs ρ cs y/\cs.all AV.one=Jr:=by have hl:=iY h;refine⟨⟨hl.symm,fun i v u h1 h2=>(lL (oD h i u v h2 h1)).1⟩,?_⟩;rw[List.all_eq_true];intro v hv;obtain⟨i,B,e⟩:=Dx hv;exact(lL (ρ:=ρ) (oD h i (y[i]'(by omega)) v (Ad (by omega)) (by rw[<-e];exact Ad B))).2
def QR{ρ:Emb}{u:Value}{v:AV}(h:H4 u=Jp v):VR ρ v u:=by
 unfold H4 at h;split at h
 ·rename_i cs;simp only[Ci]at h;obtain⟨l,hl,rfl⟩:=h;exact(jJ hl).1.qf
 ·rename_i t x;simp only[Ci]at h;obtain⟨l,hl,rfl⟩:=h;exact .iface _ _ _ (lL hl).1
 ·exact(lL h).1
def cB{ρ:Emb}{x:Operand}{r:AR}(h:trR x=Jp r){a:List AV}{y:Act}(ht:∀t∈opR r,VR ρ (bu a t) (y.tmps.getD t undef)):VR ρ (ev a r) (y.eval x):=by
 unfold trR at h;split at h
 ·cases h;exact ht _ (by simp[opR])
 ·simp only[Ci]at h;obtain⟨l,hl,rfl⟩:=h;exact QR hl
 ·cases h;exact .func _ [] [] [] [] rfl rfl rfl (fun i v u h=>by simp at h) (fun i v u h=>by simp at h)
 ·cases h
def qI{ρ:Emb} :∀{E:List Operand} {B:List AR},EO E=Jp B->∀{a:List AV} {u:Act},(∀t∈B.flatMap opR,VR ρ (bu a t) (u.tmps.getD t undef))->VRs ρ (B.map (ev a)) (E.map u.eval)
 | [],B,h,a,u,ht=>by cases h;exact VRs.nil ρ
 | x::E,B,h,a,u,ht=>by
  unfold EO jD at h;split at h
  ·rename_i y J I G;cases h;simp only[List.flatMap_cons,List.mem_append]at ht;exact .cons (cB I fun t h=>ht t (.inl h)) (qI G fun t h=>ht t (.inr h))
  ·cases h
def rL(P:Program)(c:Code)(ac:AC):Prop:=∃y ex B u,tr P c=Jp y/\∃E,ac=(live E y u ex B).2
def aDJ(P:Program)(l:Nat)(c:Code)(ac:AC):Prop:=∃y ex B u,trJ P l c=Jp y/\∃E,ac=(live E y u ex B).2
def Ex.jump:Ex->Option Code
 | .normal=>Jq
 | .ret=>Jp .ret
 | .exit id=>Jp (.exit id)
structure fw (P:Program) (ρ:Emb) (r:mh) (r':Loop):Prop where
 state:r'.state=r.state
 pending:r'.pending=r.pending.bind Ex.jump
 nq:r.pending≠Jp .normal
 tmps:TR ρ r.tmps r'.tmps
 params:r'.params.toList=r.params
 asg:rL P r'.assign r.assign
 body:rL P r'.body r.body
def OR(P:Program)(ρ:Emb)(w:World)(l:Loc):cq->Prop
 | .cells _ rw cs=>∃B E e,w.heap[l.blk]? =Jp (.cells B e E)/\B.size=l.lim/\l.base+cs.length<=B.size/\(rw=Jr->E=(0,0))/\
   (∀i v,cs[i]? =Jp v->∃u,B[l.base+i]? =Jp u/\VR ρ v u)
 | .map _ G=>∃entries y,w.heap[l.blk]? =Jp (.map entries y)/\VRs ρ (G.map (·.1)) (entries.toList.map (·.key))/\VRs ρ (G.map (·.2)) (entries.toList.map (·.val))
 | .loop _ r=>∃I,w.heap[l.blk]? =Jp (.loop I)/\fw P ρ r I
 | .dead=>True
def cq.cn:cq->Bool
 | .cells _ rw _=>rw
 | .map .. =>Jr
 | .loop .. =>Jr
 | .dead=>Js
def cq.cu:cq->Bool
 | .dead=>Js
 | _=>Jr
inductive GD where
 | ints (k:IntKind) (l:List Nat)
 | err
def GD.at:GD->List Value->Prop
 | .ints k l,cs=>cs=l.map fun n:Nat=>Value.int k n
 | .err,cs=>∃u y,cs=[.iface u y]
def aIV(s:String):Option GD:=
 if s= "math/bits.deBruijn64tab" then Jp (.ints .u8 [0,1,56,2,57,49,28,3,61,58,42,50,38,29,17,4,62,47,59,36,45,43,51,22,53,39,33,30,24,18,12,5,63,55,48,27,60,41,37,16,46,35,44,21,52,32,23,11,54,26,40,15,34,20,31,10,25,14,19,9,13,8,7,6])
 else if s= "internal/strconv.uint64pow10" then Jp (.ints .u64 [1,10,100,1000,10000,100000,1000000,10000000,100000000,1000000000,10000000000,100000000000,1000000000000,10000000000000,100000000000000,1000000000000000,10000000000000000,100000000000000000,1000000000000000000,10000000000000000000])
 else if s= "strconv.ErrRange" then Jp .err
 else if s= "strconv.ErrSyntax" then Jp .err
 else Jq
def gmem(P:Program)(b:Nat):Option GD:=(P.globals[b]?).bind fun g=>aIV g.name
def GlbAt(P:Program)(w:World):Prop:=∀b l,gmem P b=Jp l->∃cs e u,w.heap[b]? =Jp (.cells cs e u)/\l.at cs.toList
def UA(P:Program)(ρ:Emb)(h:H):Prop:=∀b l,gmem P b=Jp l->∀x u y,ρ x=Jp u->h.get x=Jp y->y.cn=Jr->u.blk≠b
structure HR (P:Program) (ρ:Emb) (h:H) (w:World):Prop where
 gat:GlbAt P w
 mv:UA P ρ h
 fg:∀x l,ρ x=Jp l->l.blk<w.heap.size
 obj:∀x l o,ρ x=Jp l->h.get x=Jp o->OR P ρ w l o
 inj:∀x y lx ly ox oy,ρ x=Jp lx->ρ y=Jp ly->h.get x=Jp ox->h.get y=Jp oy->ox.cn=Jr->oy.cu=Jr->x≠y->lx.blk≠ly.blk
def GlbAt.lt{P:Program}{w:World}(h:GlbAt P w){b:Nat}{l:GD}(hb:gmem P b=Jp l):b<w.heap.size:=by
 obtain⟨cs,e,u,h1,_⟩:=h b l hb
 grind
def GlbAt.none{P:Program}(h:(P.globals.toList.all fun g=>(aIV g.name).isNone)=Jr)(w:World):GlbAt P w:=fun b l hb=>by
 unfold gmem at hb
 grind
def GlbAt.fc{P:Program}{w w':World}(h:GlbAt P w)(hs:∀b l,gmem P b=Jp l->b<w.heap.size->w'.heap[b]? =w.heap[b]?):GlbAt P w':=fun b l hb=>by
 obtain⟨cs,e,u,h1,h2⟩:=h b l hb
 grind
def fw.mono{P:Program}{ρ u:Emb}(hs:Sub ρ u){r:mh}{r':Loop}(h:fw P ρ r r'):fw P u r r':=
 ⟨h.state,h.pending,h.nq,h.tmps.mono hs,h.params,h.asg,h.body⟩
def OR.mono{P:Program}{ρ y:Emb}{w w':World}{l:Loc}{o:cq}(hs:Sub ρ y)(hw:w'.heap[l.blk]? =w.heap[l.blk]?)(h:OR P ρ w l o):OR P y w' l o:=by
 cases o with
 | cells v rw cs=>obtain⟨B,E,e,h1,h2,G,I,J⟩:=h;exact⟨B,E,e,by rw[hw];exact h1,h2,G,I,fun i v hv=>let ⟨u,a,b⟩:=J i v hv;⟨u,a,b.mono hs⟩⟩
 | map v M=>obtain⟨K,ck,h1,h2,h3⟩:=h;exact⟨K,ck,by rw[hw];exact h1,h2.mono hs,h3.mono hs⟩
 | loop v r=>obtain⟨L,h1,h2⟩:=h;exact⟨L,by rw[hw];exact h1,h2.mono hs⟩
 | dead=>trivial
def OR.lt{P:Program}{ρ:Emb}{w:World}{l:Loc}{o:cq}(h:OR P ρ w l o)(hl:o.cu=Jr):l.blk<w.heap.size:=by
 cases o with
 | cells v rw cs=>obtain⟨u,y,e,h1,_⟩:=h;exact(Array.getElem?_eq_some_iff.1 h1).1
 | map v B=>obtain⟨E,ck,h1,_⟩:=h;exact(Array.getElem?_eq_some_iff.1 h1).1
 | loop v r=>obtain⟨G,h1,_⟩:=h;exact(Array.getElem?_eq_some_iff.1 h1).1
 | dead=>simp[cq.cu]at hl
def cq.eu{o:cq}(h:o.cn=Jr):o.cu=Jr:=by cases o<;>simp_all [cq.cn,cq.cu]
structure Stp (ρ:Emb) (h:H) (w:World) (ρ':Emb) (h':H) (w':World):Prop where
 sub:Sub ρ ρ'
 dom:∀x l,ρ' x=Jp l->ρ x=Jp l\/(h.next<=x/\x<h'.next)
 own:∀x l,ρ' x=Jp l->ρ x=Jp l\/w.heap.size<=l.blk\/(∃y ly oy,ρ y=Jp ly/\h.get y=Jp oy/\oy.cn=Jr/\l.blk=ly.blk)
 size:w.heap.size<=w'.heap.size
 os:w'.os=w.os
 tape:w'.tape=w.tape
 output:w'.output=w.output
 frame:∀b,b<w.heap.size->(∀x l o,ρ x=Jp l->h.get x=Jp o->o.cn=Jr->l.blk≠b)->w'.heap[b]? =w.heap[b]?
def Stp.refl(ρ:Emb)(h:H)(w:World):Stp ρ h w ρ h w:=⟨Sub.refl ρ,fun _ _ h=> .inl h,fun _ _ h=> .inl h,Ab _,rfl,rfl,rfl,fun _ _ _=>rfl⟩
def cq.kind:cq->Nat
 | .cells .. =>0
 | .map .. =>1
 | .loop .. =>2
 | .dead=>3
def later(o u:cq):Prop:=o=u\/(u= .dead/\o.kind=0)\/(∃v y,o.ver=Jp v/\u.ver=Jp y/\v<y/\o.cn=Jr/\u.cn=Jr/\o.kind=u.kind)
structure Ev (h h':H):Prop where
 next:h.next<=h'.next
 fc:∀x o,h.get x=Jp o->∃o',h'.get x=Jp o'/\later o o'/\(o.cn=Js->o=o')
 back:∀x o',h'.get x=Jp o'->x<h.next->∃o,h.get x=Jp o
def later.refl(o:cq):later o o:= .inl rfl
def later.trans{a b c:cq}(h:later a b)(k:later b c):later a c:=by
 rcases h with rfl | ⟨rfl,B⟩ | ⟨v,E,h1,h2,h3,G,I,y⟩
 ·exact k
 ·rcases k with rfl | ⟨rfl,_⟩ | ⟨v,E,k1,_⟩
  ·exact .inr (.inl ⟨rfl,B⟩)
  ·exact .inr (.inl ⟨rfl,B⟩)
  ·simp[cq.ver]at k1
 ·rcases k with rfl | ⟨rfl,J⟩ | ⟨u,K,k1,k2,O,Q,L,M⟩
  ·exact .inr (.inr ⟨v,E,h1,h2,h3,G,I,y⟩)
  ·exact .inr (.inl ⟨rfl,y.trans J⟩)
  ·rw[h2]at k1;cases k1;exact .inr (.inr ⟨v,K,h1,k2,by omega,G,L,y.trans M⟩)
def Ev.refl(h:H):Ev h h:=⟨Ab _,fun x o u=>⟨o,u,later.refl o,fun _=>rfl⟩,fun x o u _=>⟨o,u⟩⟩
def Ev.trans{a b c:H}(h:Ev a b)(k:Ev b c):Ev a c:=by
 refine⟨As h.next k.next,fun x o u=>?_,fun x o u B=>?_⟩
 ·obtain⟨y,h1,E,G⟩:=h.fc x o u;obtain⟨I,h2,J,K⟩:=k.fc x y h1;exact⟨I,h2,E.trans J,fun hr=>by have:=G hr;subst this;exact K hr⟩
 ·obtain⟨y,h1⟩:=k.back x o u (Bk B h.next);exact h.back x y h1 B
def Ev.alloc(h:H)(o:cq):Ev h (h.alloc o):=
 ⟨by simp,fun x o' u=>⟨o',H.fh u,later.refl o',fun _=>rfl⟩,fun x o' u y=>by rw[H.ay,if_neg (by omega)]at u;exact⟨o',u⟩⟩
def Ev.set{h:H}{x:Nat}{o o':cq}(hg:h.get x=Jp o)(hl:later o o')(hr:o.cn=Jr):Ev h (h.set x o'):=by
 refine⟨by simp,fun y B u=>?_,fun y B u E=>?_⟩
 ·by_cases e:y=x
  ·subst e;rw[hg]at u;cases u;exact⟨o',H.get_set_same hg,hl,fun h0=>by rw[h0]at hr;cases hr⟩
  ·exact⟨B,by rw[H.bp e];exact u,later.refl B,fun _=>rfl⟩
 ·by_cases e:y=x
  ·grind
  ·rw[H.bp e]at u;exact⟨B,u⟩
def Ev.same{h h':H}(hv:Ev h h'){x:Nat}(hs:kH h h' x=Jr)(B:x<h.next):h'.get x=h.get x:=by
 unfold kH H.ver at hs;rw[if_pos B]at hs
 cases hg:h.get x with
 | none=>
  cases y:h'.get x with
  | none=>rfl
  | some o'=>obtain⟨o,E⟩:=hv.back x o' y B;rw[hg]at E;cases E
 | some o=>
  obtain⟨o',u,hl,_⟩:=hv.fc x o hg;rw[hg,u]at hs;rw[u];simp only[Option.bind_some,beq_iff_eq]at hs;rcases hl with rfl | ⟨rfl,_⟩ | ⟨v,G,h1,h2,h3,_⟩
  ·rfl
  ·cases o<;>simp[cq.ver]at hs;rfl
  grind
def Ev.qx{h h':H}(hv:Ev h h'){x:Nat}{v:Nat}{q:mh}(hg:h.get x=Jp (.loop v q)):∃B E,h'.get x=Jp (.loop B E):=by
 obtain⟨o',G,hl,_⟩:=hv.fc x _ hg;rcases hl with rfl | ⟨rfl,y⟩ | ⟨u,I,_,_,_,_,_,y⟩
 ·grind
 ·simp[cq.kind]at y
 ·cases o'<;>simp[cq.kind]at y
  grind
def Ev.jr{h h':H}(hv:Ev h h'){x:Nat}{o':cq}(hg:h'.get x=Jp o')(u:x<h.next)(hr:o'.cn=Jr):∃o,h.get x=Jp o/\o.cn=Jr:=by
 obtain⟨o,y⟩:=hv.back x o' hg u;obtain⟨B,h2,hl,E⟩:=hv.fc x o y
 grind
def Ev.og{h h':H}(hv:Ev h h'){x:Nat}{o':cq}(hg:h'.get x=Jp o')(y:x<h.next)(hr:o'.cu=Jr):∃o,h.get x=Jp o/\o.cu=Jr:=by
 obtain⟨o,u⟩:=hv.back x o' hg y;obtain⟨E,h2,hl,G⟩:=hv.fc x o u;rw[hg]at h2;cases h2;refine⟨o,u,?_⟩;rcases hl with rfl | ⟨rfl,_⟩ | ⟨v,I,_,_,_,B,_⟩
 ·exact hr
 ·simp[cq.cu]at hr
 ·exact cq.eu B
def Stp.trans{ρ J S:Emb}{h h1 h2:H}{w T U:World}(a:Stp ρ h w J h1 T)(b:Stp J h1 T S h2 U)(V:Ev h h1)(Y:Ev h1 h2)
  (K:∀x,h.next<=x->x<h2.next->ρ x=Jq):Stp ρ h w S h2 U:=by
 have a0:∀y ly oy,J y=Jp ly->h1.get y=Jp oy->oy.cn=Jr->(∃E,ρ y=Jp ly/\h.get y=Jp E/\E.cn=Jr)\/w.heap.size<=ly.blk\/(∃z Z oz,ρ z=Jp Z/\h.get z=Jp oz/\oz.cn=Jr/\ly.blk=Z.blk):=by
  intro y ly oy L u G;rcases a.own y ly L with M | M | M
  ·by_cases hlt:y<h.next
   ·obtain⟨o0,a1,a2⟩:=V.jr u hlt G;simp_all
   ·have:=K y (by omega) (Bk (H.bj u) Y.next)
    grind
  all_goals grind
 refine⟨a.sub.trans b.sub,fun x l I=>?_,fun x l I=>?_,As a.size b.size,b.os.trans a.os,b.tape.trans a.tape,b.output.trans a.output,fun c hc O=>?_⟩
 ·rcases b.dom x l I with B | ⟨p,q⟩
  ·rcases a.dom x l B with Q | ⟨p,q⟩
   ·exact .inl Q
   ·exact .inr ⟨p,Bk q Y.next⟩
  ·exact .inr ⟨As V.next p,q⟩
 ·rcases b.own x l I with B | R | ⟨y,ly,oy,M,u,G,e⟩
  ·exact a.own x l B
  ·exact .inr (.inl (As a.size R))
  ·grind
 ·rw[<-a.frame c hc O];refine b.frame c (Bk hc a.size) fun x l o I hg hr e=>?_
  grind
def upd(ρ:Emb)(x:Nat)(l:Loc):Emb:=fun y=>if y=x then Jp l else ρ y
def dR(ρ:Emb)(x:Nat)(l:Loc):upd ρ x l x=Jp l:=by simp[upd]
def fA{ρ:Emb}{x y:Nat}{l:Loc}(h:y≠x):upd ρ x l y=ρ y:=by simp[upd,h]
def lV{ρ:Emb}{x:Nat}{l:Loc}(h:ρ x=Jq):Sub ρ (upd ρ x l):=fun y B u=>by
 by_cases e:y=x
 ·grind
 ·rw[fA e];exact u
def HR.alloc{P:Program}{ρ:Emb}{h:H}{w:World}{o:Obj}{ao:cq}{l:Loc}(hr:HR P ρ h w)(O:ρ h.next=Jq)(hb:l.blk=w.heap.size)
  (S:OR P (upd ρ h.next l) (w.alloc o) l ao):HR P (upd ρ h.next l) (h.alloc ao) (w.alloc o)/\Stp ρ h w (upd ρ h.next l) (h.alloc ao) (w.alloc o):=by
 have E:∀b,b<w.heap.size->(w.alloc o).heap[b]? =w.heap[b]? :=fun b hb=>RowKit.Below.heap_alloc w o b hb;have hs:=lV (l:=l) O;refine⟨⟨hr.gat.fc fun b l hb hlt=>E b hlt,fun b l K x lx ox u hg Q=>?_,fun x lx u=>?_,fun x lx ox u hg=>?_,fun x y lx ly ox oy u J G B L M I=>?_⟩,⟨hs,fun x lx u=>?_,fun x lx u=>?_,by simp,rfl,rfl,rfl,fun b hb _=>E b hb⟩⟩
 ·by_cases e:x=h.next
  ·subst e;rw[dR]at u;cases u;have:=hr.gat.lt K;omega
  ·rw[fA e]at u;rw[H.ay,if_neg e]at hg;exact hr.mv b l K x lx ox u hg Q
 ·by_cases e:x=h.next
  ·subst e;rw[dR]at u;cases u;simp;omega
  ·rw[fA e]at u;have:=hr.fg x lx u;simp;omega
 ·by_cases e:x=h.next
  ·subst e;rw[dR]at u;cases u;rw[H.ah]at hg;cases hg;exact S
  ·rw[fA e]at u;rw[H.ay,if_neg e]at hg;have h0:=hr.obj x lx ox u hg
   cases hl:ox.cu with
   | true=>exact h0.mono hs (E _ (h0.lt hl))
   | false=>cases ox<;>first | trivial | (simp[cq.cu]at hl)
 ·by_cases ex:x=h.next
  ·subst ex;rw[dR]at u;cases u;rw[fA (Ne.symm I)]at J;rw[H.ay,if_neg (Ne.symm I)]at B;have:=(hr.obj y ly oy J B).lt M;omega
  ·rw[fA ex]at u;rw[H.ay,if_neg ex]at G;by_cases R:y=h.next
   ·subst R;rw[dR]at J;cases J;have:=(hr.obj x lx ox u G).lt (cq.eu L);omega
   ·rw[fA R]at J;rw[H.ay,if_neg R]at B;exact hr.inj x y lx ly ox oy u J G B L M I
 ·by_cases e:x=h.next
  ·simp_all
  ·rw[fA e]at u;exact .inl u
 ·by_cases e:x=h.next
  ·subst e;rw[dR]at u;cases u;exact .inr (.inl (by omega))
  ·rw[fA e]at u;exact .inl u
def HR.turn{P:Program}{ρ:Emb}{h:H}{w w':World}{x:Nat}{l:Loc}{o o':cq}(hr:HR P ρ h w)(G:ρ x=Jp l)(hg:h.get x=Jp o)(E:o.cn=Jr)
  (a0:o'.cn=Jr) (a1:w'.heap.size=w.heap.size) (Q:w'.os=w.os) (R:w'.tape=w.tape) (S:w'.output=w.output)
  (L:∀b,b≠l.blk->w'.heap[b]? =w.heap[b]?) (ho:OR P ρ w' l o'):HR P ρ (h.set x o') w'/\Stp ρ h w ρ (h.set x o') w':=by
 refine⟨⟨hr.gat.fc fun b O hb hlt=>L b fun e=>hr.mv b O hb x l o G hg E e.symm,fun b O hb y ly oy B u I=>?_,fun y ly B=>by have:=hr.fg y ly B;omega,fun y ly oy B u=>?_,fun y z ly U oy V B hz u J I M K=>?_⟩,⟨Sub.refl ρ,fun _ _ h=> .inl h,fun _ _ h=> .inl h,by omega,Q,R,S,fun b hb T=>L b fun e=>T x l o G hg E e.symm⟩⟩
 ·by_cases e:y=x
  ·subst e;rw[G]at B;cases B;exact hr.mv b O hb y l o G hg E
  ·rw[H.bp e]at u;exact hr.mv b O hb y ly oy B u I
 ·by_cases e:y=x
  ·subst e;rw[G]at B;cases B;rw[H.get_set_same hg]at u;cases u;exact ho
  ·rw[H.bp e]at u;have h0:=hr.obj y ly oy B u
   cases hl:oy.cu with
   | true=>exact h0.mono (Sub.refl ρ) (L _ fun e'=>hr.inj x y l ly o oy G B hg u E hl (Ne.symm e) e'.symm)
   | false=>cases oy<;>first | trivial | (simp[cq.cu]at hl)
 ·by_cases Y:y=x
  ·subst Y;rw[G]at B;cases B;rw[H.bp (Ne.symm K)]at J;exact hr.inj y z l U o V G hz hg J E M K
  ·rw[H.bp Y]at u;by_cases Z:z=x
   ·subst Z;rw[G]at hz;cases hz;exact hr.inj y z ly l oy o B G u hg I (cq.eu E) K
   ·rw[H.bp Z]at J;exact hr.inj y z ly U oy V B hz u J I M K
end Go.Am

