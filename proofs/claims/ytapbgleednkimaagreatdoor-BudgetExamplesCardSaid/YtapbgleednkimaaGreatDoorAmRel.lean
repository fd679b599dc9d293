/- The abstract machine: a small deterministic machine for the translated programs: values without capacities and addresses, a heap of numbered objects, operations in the order of the text. Nothing is claimed of a program here: these are definitions and plain lemmas on them, and what goes with it. -/
import GoSem.Core.Sem
import GoSem.Core.Region
import Derived.KernelRfl
import GoSem.Core.View
import GoSem.Core.Layout
import GoSem.ClaimKeys
import GoSem.Dispatch
import Derived.WalkKit
import Derived.RangeFuncRecord
set_option linter.all false
open BitVec renaming ofInt->Be
open List renaming replicate->Ag,range->Av,getElem?_eq_getElem->Ad,toArray->He,getElem_of_mem->Dt,getElem?_set->Eh
open Nat renaming beq->Bx,mod->Dr,div->Cd,sub->Ds,le_refl->Ac,le_trans->Ah,lt_of_lt_of_le->Bg
open Bool renaming rec->Cv,true->Jb,false->Jc
open Option renaming map_eq_some_iff->Bt,some->Iz,none->Ja
namespace Go.Am
inductive AV where
 | ae
 | bool (b:Bool)
 | int (k:IntKind) (n:Int)
 | str (s:ByteArray)
 | al
 | ptr (b o:Nat)
 | ah
 | slice (fl:Bool) (sz b o n:Nat)
 | bd
 | map (r:Nat)
 | func (fn:Fn) (first captured:List AV)
 | aq
 | iface (t:TypeId) (v:AV)
 | af
 | agg (cs:List AV)
 | tuple (vs:List AV)
 deriving Inhabited
abbrev i64(n:Int):AV:= .int .i64 n
abbrev u8(n:Int):AV:= .int .u8 n
inductive AR where
 | tmp (t:Nat)
 | const (v:AV)
 deriving Inhabited
inductive AO where
 | move (x:AR)
 | pick (c a b:AR)
 | alloc (cells:List AV)
 | box (x:AR)
 | build (zero:List AV) (parts:List (Nat×Nat×AR))
 | buildSlice (size len:Nat) (zero:List AV) (parts:List (Nat×Nat×AR))
 | load (x:AR)
 | ew (n:Nat) (x:AR)
 | store (n:Nat) (a x:AR)
 | nilCheck (x:AR)
 | bin (op:BinOp) (x y:AR)
 | eqB (neg:Bool) (x y:AR)
 | isNil (kd:Nat) (neg:Bool) (x y:AR)
 | dz (neg:Bool) (T:List (Option IntKind)) (x y:AR)
 | un (op:UnOp) (x:AR)
 | dt (k:IntKind) (x:AR)
 | jx (x:AR)
 | br (x:AR)
 | ia (t:TypeId) (x:AR)
 | iv (fn:Fn) (first captured:List AR)
 | makeMap
 | makeSlice (bytes:Nat) (zero:List AV) (len cap:AR)
 | slice (size:Nat) (x:AR) (lo hi mx:Option AR)
 | cw (len size:Nat) (x:AR) (lo hi:Option AR)
 | ep (x:AR) (lo hi:Option AR)
 | fieldAddr (off:Nat) (x:AR)
 | field (off:Nat) (n:Option Nat) (x:AR)
 | indexAddr (size:Nat) (x i:AR)
 | bj (len size:Nat) (x i:AR)
 | index (len size:Nat) (isAgg:Bool) (x i:AR)
 | da (x i:AR)
 | lookup (kd:Nat) (commaOk:Bool) (zero:AV) (x i:AR)
 | mapUpdate (kd:Nat) (m k v:AR)
 | extract (x:AR) (i:Nat)
 | call (f:AR) (args:List AR)
 | append (size bytes:Nat) (s x:AR)
 | bq (bytes:Nat) (zero:List AV) (s n:AR)
 | ja (size:Nat) (d x:AR)
 | fj (zero:List AV) (x:AR)
 | len (x:AR)
 | iw (x:AR)
 | ii (x:AR)
 | cap (x:AR)
 | max (x:AR) (xs:List AR)
 | min (x:AR) (xs:List AR)
 | oe (t:TypeId) (zero:AV) (x:AR)
 | cr (x:AR)
 | jk (x:AR)
 deriving Inhabited
def AO.effect:AO->Bool
 | .store .. | .mapUpdate .. | .call .. | .append .. | .bq .. | .ja .. | .fj .. | .cr .. | .jk .. =>Jb
 | _=>Jc
structure aw where
 dst:Option Nat
 op:AO
 guard:Option (Nat×Bool)
 chk:List Nat
 deriving Inhabited
inductive AC where
 | skip
 | region (ops:List aw)
 | fe (ops:List aw)
 | seq (a b:AC)
 | cond (c:AR) (thn els:AC)
 | block (id:Nat) (body:AC)
 | loop (scratch:List Nat) (body:AC)
 | rangeFunc (f:AR) (params:List Nat) (assign body:AC)
 | exit (id:Nat)
 | ret
 deriving Inhabited
inductive Ex where
 | normal | ret | exit (id:Nat)
 deriving Inhabited,DecidableEq
structure lm where
 state:LoopState
 pending:Option Ex
 tmps:List AV
 params:List Nat
 assign:AC
 body:AC
 deriving Inhabited
inductive bz where
 | cells (ver:Nat) (rw:Bool) (cs:List AV)
 | map (ver:Nat) (es:List (AV×AV))
 | loop (ver:Nat) (r:lm)
 | dead
 deriving Inhabited
inductive HT where
 | leaf
 | node (v:Option bz) (l r:HT)
def HT.get:HT->Nat->Option bz
 | .leaf,_=>Ja
 | .node v l r,i=>if i=0 then v else if i % 2=1 then l.get (i / 2)else r.get (i / 2-1)
def HT.set(o:bz):Nat->HT->Nat->HT
 | 0,t,_=>t
 | u+1,.leaf,i=>if i=0 then .node (Iz o) .leaf .leaf else if i % 2=1 then .node Ja (HT.set o u .leaf (i / 2)) .leaf else .node Ja .leaf (HT.set o u .leaf (i / 2-1))
 | u+1,.node v l r,i=>if i=0 then .node (Iz o) l r else if i % 2=1 then .node v (HT.set o u l (i / 2)) r else .node v l (HT.set o u r (i / 2-1))
def HT.ib(o:bz):∀(u:Nat) (t:HT) (i j:Nat),i<u->(HT.set o u t i).get j=if j=i then Iz o else t.get j:=by
 intro u
 induction u with
 | zero=>intro t i j h;omega
 | succ u I=>
  intro t i j h;have E:∀(v:Option bz) (l r:HT),(∀j,(HT.node v l r).get j=t.get j)->
    (if i=0 then HT.node (Iz o) l r else if i % 2=1 then HT.node v (HT.set o u l (i / 2)) r else HT.node v l (HT.set o u r (i / 2-1))).get j=if j=i then Iz o else t.get j:=by
   intro v l r ht;by_cases h0:i=0
   ·subst h0;simp only[if_true];by_cases G:j=0
    ·subst G;simp[HT.get]
    ·rw[if_neg G,<-ht j];simp[HT.get,G]
   ·rw[if_neg h0];by_cases h1:i % 2=1
    ·rw[if_pos h1];by_cases y:j=0
     ·subst y;rw[if_neg (by omega),<-ht 0];simp[HT.get]
     ·by_cases B:j % 2=1
      ·simp only[HT.get,y,B,if_true,if_false];rw[I l (i / 2) (j / 2) (by omega)];by_cases e:j=i
       ·grind
       ·rw[if_neg (by omega),if_neg e,<-ht j];simp[HT.get,y,B]
      ·rw[if_neg (by omega),<-ht j];simp[HT.get,y,B]
    ·rw[if_neg h1];by_cases y:j=0
     ·subst y;rw[if_neg (by omega),<-ht 0];simp[HT.get]
     ·by_cases B:j % 2=1
      ·rw[if_neg (by omega),<-ht j];simp[HT.get,y,B]
      ·simp only[HT.get,y,B,if_false];rw[I r (i / 2-1) (j / 2-1) (by omega)];by_cases e:j=i
       ·subst e;simp
       ·rw[if_neg (by omega),if_neg e,<-ht j];simp[HT.get,y,B]
  cases t with
  | leaf=>have:=E Ja .leaf .leaf (fun j=>by simp[HT.get]);simpa [HT.set]using this
  | node v l r=>have:=E v l r fun _=>rfl;simpa [HT.set]using this
structure H where
 next:Nat
 t:HT
def H.empty:H:=⟨0,.leaf⟩
def H.get(h:H)(i:Nat):Option bz:=if i<h.next then h.t.get i else Ja
def H.alloc(h:H)(o:bz):H:=⟨h.next+1,HT.set o (h.next+1) h.t h.next⟩
def H.set(h:H)(i:Nat)(o:bz):H:=⟨h.next,HT.set o (i+1) h.t i⟩
def H.be{h:H}{i:Nat}{o:bz}(hg:h.get i=Iz o):i<h.next:=by
 unfold H.get at hg
 grind
@[simp] theorem H.ph(h:H)(o:bz):(h.alloc o).next=h.next+1:=rfl
@[simp] theorem H.next_set(h:H)(i:Nat)(o:bz):(h.set i o).next=h.next:=rfl
def H.au(h:H)(o:bz)(i:Nat):(h.alloc o).get i=if i=h.next then Iz o else h.get i:=by
 unfold H.get H.alloc;simp only;by_cases e:i=h.next
 ·subst e;rw[if_pos (by omega),if_pos rfl,HT.ib _ _ _ _ _ (by omega),if_pos rfl]
 ·rw[if_neg e];by_cases u:i<h.next
  ·rw[if_pos (by omega),if_pos u,HT.ib _ _ _ _ _ (by omega),if_neg e]
  grind
def H.ib(h:H)(j:Nat)(o:bz)(i:Nat):(h.set j o).get i=if i=j/\j<h.next then Iz o else h.get i:=by
 unfold H.get H.set;simp only;by_cases u:i<h.next
 ·rw[if_pos u,if_pos u,HT.ib _ _ _ _ _ (by omega)]
  grind
 grind
def H.fc{h:H}{o u:bz}{i:Nat}(hg:h.get i=Iz u):(h.alloc o).get i=Iz u:=by rw[H.au,if_neg (by have:=H.be hg;omega)];exact hg
def H.aj(h:H)(o:bz):(h.alloc o).get h.next=Iz o:=by rw[H.au,if_pos rfl]
def H.get_set_same{h:H}{o u:bz}{i:Nat}(hg:h.get i=Iz u):(h.set i o).get i=Iz o:=by rw[H.ib,if_pos ⟨rfl,H.be hg⟩]
def H.bf{h:H}{o:bz}{i j:Nat}(u:i≠j):(h.set j o).get i=h.get i:=by rw[H.ib,if_neg fun e=>u e.1]
def bz.ver:bz->Option Nat
 | .cells v _ _=>Iz v
 | .map v _=>Iz v
 | .loop v _=>Iz v
 | .dead=>Ja
def H.ver(h:H)(i:Nat):Option Nat:=(h.get i).bind bz.ver
def fp:List AV->Nat->AV
 | [],_=> .ae
 | v::_,0=>v
 | _::l,n+1=>fp l n
def iu:List AV->Nat->AV->List AV
 | [],_,_=>[]
 | _::l,0,v=>v::l
 | x::l,n+1,v=>x::iu l n v
def ev(a:List AV):AR->AV
 | .tmp t=>fp a t
 | .const v=>v
def put(a:List AV):Option Nat->AV->List AV
 | some d,v=>iu a d v
 | none,_=>a
def ie(a:List AV):List Nat->List AV
 | []=>a
 | t::l=>ie (iu a t .ae) l
def dH(op:BinOp)(k:IntKind)(x y:Int):Option AV:=
 match op with
 | .add=>Iz (.int k (k.wrap (x+y)))
 | .sub=>Iz (.int k (k.wrap (x-y)))
 | .mul=>Iz (.int k (k.wrap (x*y)))
 | .quo=>if y=0 then Ja else Iz (.int k (k.wrap (x.tdiv y)))
 | .rem=>if y=0 then Ja else Iz (.int k (x.tmod y))
 | .and=>Iz (.int k (k.wrap (Be k.bits x&&& Be k.bits y).toNat))
 | .or=>Iz (.int k (k.wrap (Be k.bits x||| Be k.bits y).toNat))
 | .xor=>Iz (.int k (k.wrap (Be k.bits x^^^Be k.bits y).toNat))
 | .andNot=>Iz (.int k (k.wrap (Be k.bits x&&& ~~~ Be k.bits y).toNat))
 | .eql=>Iz (.bool (x==y))
 | .neq=>Iz (.bool (x !=y))
 | .lss=>Iz (.bool (decide (x<y)))
 | .leq=>Iz (.bool (decide (x<=y)))
 | .gtr=>Iz (.bool (decide (x>y)))
 | .geq=>Iz (.bool (decide (x>=y)))
 | .shl | .shr=>Ja
def sL(op:BinOp)(k:IntKind)(x y:Int):Option AV:=
 if y<0 then Ja else
 match op with
 | .shl=>Iz (.int k (k.wrap (x*2^(min y.toNat k.bits))))
 | .shr=>Iz (.int k (x.fdiv (2^(min y.toNat k.bits))))
 | _=>Ja
def bR:BinOp->Bool
 | .shl | .shr=>Jb
 | _=>Jc
def eY(op:BinOp):AV->AV->Option AV
 | .int k x,.int u y=>if bR op then sL op k x y else if k=u then dH op k x y else Ja
 | .str x,.str y=>match op with
  | .eql=>Iz (.bool (x.toList==y.toList))
  | .neq=>Iz (.bool (!(x.toList==y.toList)))
  | .add=>if((x.size+y.size:Nat):Int)>IntKind.i64.max then Ja else Iz (.str (x++y))
  | _=>Ja
 | _,_=>Ja
def aun(op:UnOp):AV->Option AV
 | .int k x=>match op with
  | .neg=>Iz (.int k (k.wrap (0-x)))
  | .xor=>Iz (.int k (k.wrap (Be k.bits (if k.signed then-1 else k.max)^^^Be k.bits x).toNat))
  | _=>Ja
 | .bool b=>match op with
  | .not=>Iz (.bool (!b))
  | _=>Ja
 | _=>Ja
def UY:Nat->AV->AV->Option Bool
 | 0,.ah,.ah=>Iz Jb
 | 0,.ah,.slice .. =>Iz Jc
 | 0,.slice ..,.ah=>Iz Jc
 | 1,.al,.al=>Iz Jb
 | 1,.al,.ptr .. =>Iz Jc
 | 1,.ptr ..,.al=>Iz Jc
 | 2,.bd,.bd=>Iz Jb
 | 2,.bd,.map _=>Iz Jc
 | 2,.map _,.bd=>Iz Jc
 | 3,.aq,.aq=>Iz Jb
 | 3,.aq,.func .. =>Iz Jc
 | 3,.func ..,.aq=>Iz Jc
 | 4,.af,.af=>Iz Jb
 | 4,.af,.iface .. =>Iz Jc
 | 4,.iface ..,.af=>Iz Jc
 | _,_,_=>Ja
def T6:IntKind->Int->Bool
 | .i8,n=>decide (-128<=n)&&decide (n<=127)
 | .i16,n=>decide (-32768<=n)&&decide (n<=32767)
 | .i32,n=>decide (-2147483648<=n)&&decide (n<=2147483647)
 | .i64,n=>decide (-9223372036854775808<=n)&&decide (n<=9223372036854775807)
 | .u8,n=>decide (0<=n)&&decide (n<=255)
 | .u16,n=>decide (0<=n)&&decide (n<=65535)
 | .u32,n=>decide (0<=n)&&decide (n<=4294967295)
 | .u64,n=>decide (0<=n)&&decide (n<=18446744073709551615)
def fB:List (Option IntKind)->List AV->List AV->Option Bool
 | [],[],[]=>Iz Jb
 | some k::T,.int k1 m::u,.int k2 n::y=>
  if k1=k/\k2=k/\T6 k m=Jb/\T6 k n=Jb then
   match fB T u y with
   | some b=>Iz ((m==n)&&b)
   | none=>Ja
  else Ja
 | none::T,.bool p::u,.bool q::y=>match fB T u y with
  | some b=>Iz ((p==q)&&b)
  | none=>Ja
 | _,_,_=>Ja
def AV.cells:AV->List AV
 | .agg cs=>cs
 | v=>[v]
def AV.one:AV->Bool
 | .agg _=>Jc
 | .tuple _=>Jc
 | .ae=>Jc
 | _=>Jb
def over:List AV->Nat->List AV->List AV
 | cs,0,new=>new++cs.drop new.length
 | [],_,_=>[]
 | c::cs,off+1,new=>c::over cs off new
def zQ(a:List AV):List AV->List (Nat×Nat×AR)->Option (List AV)
 | cs,[]=>Iz cs
 | cs,(off,size,x)::rest=>
  if(ev a x).cells.length=size&&off+size<=cs.length&&(ev a x).cells.all AV.one then zQ a (over cs off (ev a x).cells) rest else Ja
def iX(h:H)(b i:Nat):Option AV:=
 match h.get b with
 | some (.cells _ _ cs)=>cs[i]?
 | _=>Ja
def bH(h:H)(b i n:Nat):Option (List AV):=
 match h.get b with
 | some (.cells _ _ cs)=>if i+n<=cs.length then Iz ((cs.drop i).take n)else Ja
 | _=>Ja
def eH(h:H)(b i:Nat)(new:List AV):Option H:=
 match h.get b with
 | some (.cells ver Jb cs)=>if i+new.length<=cs.length&&new.all AV.one then Iz (h.set b (.cells (ver+1) Jb (over cs i new)))else Ja
 | _=>Ja
def kill(h:H)(b:Nat):Option H:=
 match h.get b with
 | some (.cells _ Jb _)=>Iz (h.set b .dead)
 | _=>Ja
def g8:Nat->List AV->List AV
 | 0,_=>[]
 | n+1,z=>z++g8 n z
def vH:Nat->AV->AV->Option Bool
 | 0,.int k x,.int u y=>if k=u then Iz (x==y)else Ja
 | 1,.bool x,.bool y=>Iz (x==y)
 | 2,.str x,.str y=>Iz (x==y)
 | _,_,_=>Ja
def iW(kd:Nat)(k:AV):List (AV×AV)->Option (Option AV)
 | []=>Iz Ja
 | (u,v)::y=>match vH kd k u with
  | some Jb=>Iz (Iz v)
  | some Jc=>iW kd k y
  | none=>Ja
def fS(kd:Nat)(k v:AV):List (AV×AV)->List (AV×AV)
 | []=>[(k,v)]
 | (u,B)::y=>match vH kd k u with
  | some Jb=>(k,v)::y
  | _=>(u,B)::fS kd k v y
def f0:Nat:=9223372036854775807
def bnd(a:List AV):Option AR->Option (Option Int)
 | none=>Iz Ja
 | some x=>match ev a x with
  | .int _ n=>Iz (Iz n)
  | _=>Ja
def fJ(size:Nat)(x:AV)(B u:Option Int)(y:Option Int):Option AV:=
 if y.isSome&&u.isNone then Ja else
 match x with
 | .ah=>if(B.getD 0==0)&&(u.getD 0==0)&&(y.getD 0==0)then Iz .ah else Ja
 | .slice E sz b o n=>
  if sz=size/\0<=B.getD 0/\B.getD 0<=u.getD n/\u.getD n<=y.getD (u.getD n)/\y.getD (u.getD n)<=n then
   Iz (.slice (if y.isSome then y.getD (u.getD n)==u.getD n else E&&u.getD n==n) sz b (o+(B.getD 0).toNat*size) (u.getD n-B.getD 0).toNat)else Ja
 | _=>Ja
def AP:AV->AV->Option AV
 | .int k x,.int _ y=>Iz (.int k (if y>x then y else x))
 | _,_=>Ja
def AN:AV->AV->Option AV
 | .int k x,.int _ y=>Iz (.int k (if y<x then y else x))
 | _,_=>Ja
def kY(f:AV->AV->Option AV):AV->List AV->Option AV
 | v,[]=>Iz v
 | v,x::u=>match f v x with
  | some r=>kY f r u
  | none=>Ja
def eG(l:List AV):Option (List UInt8):=
 match l with
 | []=>Iz []
 | .int .u8 n::r=>match eG r with
  | some t=>if 0<=n/\n<256 then Iz (UInt8.ofNat n.toNat::t)else Ja
  | none=>Ja
 | _::_=>Ja
def kU(a:List AV)(h:H)(size:Nat)(x:AR):Option (List AV×Nat):=
 match ev a x with
 | .ah=>Iz ([],0)
 | .slice _ sz b o n=>if sz=size then match bH h b o (n*size)with
  | some cs=>Iz (cs,n)
  | none=>Ja
  else Ja
 | .str s=>if size=1 then Iz (s.data.toList.map fun b=> .int .u8 b.toNat,s.size)else Ja
 | _=>Ja
def aop(a:List AV)(h:H):AO->Option (AV×H×List Nat)
 | .move x=>Iz (ev a x,h,[])
 | .pick c x y=>match ev a c with
  | .bool Jb=>Iz (ev a x,h,[])
  | .bool Jc=>Iz (ev a y,h,[])
  | _=>Ja
 | .alloc cs=>Iz (.ptr h.next 0,h.alloc (.cells 0 Jb cs),[])
 | .box x=>if(ev a x).cells.all AV.one then Iz (.ptr h.next 0,h.alloc (.cells 0 Jb (ev a x).cells),[])else Ja
 | .build z L=>match zQ a z L with
  | some cs=>Iz (.agg cs,h,[])
  | none=>Ja
 | .buildSlice size len z L=>match zQ a (g8 len z) L with
  | some cs=>Iz (.slice Jb size h.next 0 len,h.alloc (.cells 0 Jb cs),[])
  | none=>Ja
 | .load x=>match ev a x with
  | .ptr b o=>match iX h b o with
   | some v=>Iz (v,h,[b])
   | none=>Ja
  | _=>Ja
 | .ew n x=>match ev a x with
  | .ptr b o=>match bH h b o n with
   | some cs=>Iz (.agg cs,h,[b])
   | none=>Ja
  | _=>Ja
 | .store n p x=>match ev a p with
  | .ptr b o=>if(ev a x).cells.length=n then match eH h b o (ev a x).cells with
    | some u=>Iz (.tuple [],u,[])
    | none=>Ja
   else Ja
  | _=>Ja
 | .nilCheck x=>match ev a x with
  | .ptr b o=>Iz (.ptr b o,h,[])
  | .func (.method _) _ _=>Ja
  | .func f c d=>Iz (.func f c d,h,[])
  | .iface t v=>Iz (.iface t v,h,[])
  | _=>Ja
 | .bin op x y=>match eY op (ev a x) (ev a y)with
  | some v=>Iz (v,h,[])
  | none=>Ja
 | .eqB neg x y=>match ev a x,ev a y with
  | .bool p,.bool q=>Iz (.bool (if neg then !(p==q)else p==q),h,[])
  | _,_=>Ja
 | .isNil kd neg x y=>match UY kd (ev a x) (ev a y)with
  | some b=>Iz (.bool (if neg then !b else b),h,[])
  | none=>Ja
 | .dz neg T x y=>match ev a x,ev a y with
  | .agg E,.agg Q=>match fB T E Q with
   | some b=>Iz (.bool (if neg then !b else b),h,[])
   | none=>Ja
  | _,_=>Ja
 | .un op x=>match aun op (ev a x)with
  | some v=>Iz (v,h,[])
  | none=>Ja
 | .dt k x=>match ev a x with
  | .int _ n=>Iz (.int k (k.wrap n),h,[])
  | _=>Ja
 | .jx x=>match ev a x with
  | .str s=>Iz (.str s,h,[])
  | _=>Ja
 | .br x=>match ev a x with
  | .ah=>Iz (.str ByteArray.empty,h,[])
  | .slice _ _ b o n=>match bH h b o n with
   | some cs=>match eG cs with
    | some s=>Iz (.str ⟨s.toArray⟩,h,[b])
    | none=>Ja
   | none=>Ja
  | _=>Ja
 | .ia t x=>Iz (.iface t (ev a x),h,[])
 | .iv fn f c=>Iz (.func fn (f.map (ev a)) (c.map (ev a)),h,[])
 | .makeMap=>Iz (.map h.next,h.alloc (.map 0 []),[])
 | .makeSlice bytes z n c=>match ev a n,ev a c with
  | .int .i64 l,.int .i64 m=>if 0<=l/\l<=m/\m*bytes<=140737488355328/\m<=f0 then Iz (.slice (l==m) z.length h.next 0 l.toNat,h.alloc (.cells 0 Jb (g8 l.toNat z)),[])else Ja
  | _,_=>Ja
 | .slice size x G I R=>match bnd a G,bnd a I,bnd a R with
  | some l,Iz r,Iz m=>match fJ size (ev a x) l r m with
   | some v=>Iz (v,h,[])
   | none=>Ja
  | _,_,_=>Ja
 | .cw len size x G I=>match ev a x with
  | .ptr b o=>match bnd a G,bnd a I,h.get b with
   | some l,Iz r,Iz (.cells _ _ cs)=>if o+len*size<=cs.length then match fJ size (.slice Jb size b o len) l r Ja with
    | some v=>Iz (v,h,[b])
    | none=>Ja
    else Ja
   | _,_,_=>Ja
  | _=>Ja
 | .ep x G I=>match ev a x,bnd a G,bnd a I with
  | .str s,Iz l,Iz r=>if 0<=l.getD 0/\l.getD 0<=r.getD s.size/\r.getD s.size<=s.size then Iz (.str (s.extract (l.getD 0).toNat (r.getD s.size).toNat),h,[])else Ja
  | _,_,_=>Ja
 | .fieldAddr off x=>match ev a x with
  | .ptr b o=>Iz (.ptr b (o+off),h,[])
  | _=>Ja
 | .field off n x=>match ev a x with
  | .agg cs=>match n with
   | none=>match cs[off]? with
    | some v=>Iz (v,h,[])
    | none=>Ja
   | some n=>if off+n<=cs.length then Iz (.agg ((cs.drop off).take n),h,[])else Ja
  | _=>Ja
 | .indexAddr size x i=>match ev a x,ev a i with
  | .slice _ sz b o n,.int _ k=>if sz=size/\0<=k/\k<n then Iz (.ptr b (o+k.toNat*size),h,[])else Ja
  | _,_=>Ja
 | .bj len size x i=>match ev a x,ev a i with
  | .ptr b o,.int _ k=>if 0<=k/\k<len then Iz (.ptr b (o+k.toNat*size),h,[])else Ja
  | _,_=>Ja
 | .index len size isAgg x i=>match ev a x,ev a i with
  | .agg cs,.int _ k=>if 0<=k/\k<len then
    (if isAgg then(if k.toNat*size+size<=cs.length then Iz (.agg ((cs.drop (k.toNat*size)).take size),h,[])else Ja)
    else match cs[k.toNat*size]? with
     | some v=>Iz (v,h,[])
     | none=>Ja)else Ja
  | _,_=>Ja
 | .da x i=>match ev a x,ev a i with
  | .str s,.int _ k=>if 0<=k then match s[k.toNat]? with
    | some c=>Iz (.int .u8 c.toNat,h,[])
    | none=>Ja
   else Ja
  | _,_=>Ja
 | .lookup kd M z x i=>match ev a x with
  | .bd=>Iz (if M then .tuple [z,.bool Jc]else z,h,[])
  | .map r=>match h.get r with
   | some (.map _ B)=>match iW kd (ev a i) B with
    | some (Iz v)=>Iz (if M then .tuple [v,.bool Jb]else v,h,[r])
    | some Ja=>Iz (if M then .tuple [z,.bool Jc]else z,h,[r])
    | none=>Ja
   | _=>Ja
  | _=>Ja
 | .mapUpdate kd m k v=>match ev a m with
  | .map r=>match h.get r with
   | some (.map ver B)=>if(iW kd (ev a k) B).isSome then Iz (.tuple [],h.set r (.map (ver+1) (fS kd (ev a k) (ev a v) B)),[])else Ja
   | _=>Ja
  | _=>Ja
 | .extract x i=>match ev a x with
  | .tuple S=>match S[i]? with
   | some v=>Iz (v,h,[])
   | none=>Ja
  | _=>Ja
 | .call _ _=>Ja
 | .append size bytes s x=>
  match kU a h size x with
  | none=>Ja
  | some (new,n)=>match ev a s with
   | .ah=>if n=0 then Iz (.ah,h,[])else
     if n*bytes<=140737488355328/\n<=f0/\new.all AV.one/\new.length=n*size then Iz (.slice Jc size h.next 0 n,h.alloc (.cells 0 Jb new),[])else Ja
   | .slice K sz b o m=>if n=0 then Iz (.slice K sz b o m,h,[])else
     if sz=size/\(m+n)*bytes<=140737488355328/\m+n<=f0/\new.all AV.one/\new.length=n*size then
      match bH h b o (m*size)with
      | none=>Ja
      | some J=>
       if K then Iz (.slice Jc size h.next 0 (m+n),h.alloc (.cells 0 Jb (J++new)),[])
       else match kill h b with
        | some u=>Iz (.slice Jc size h.next 0 (m+n),u.alloc (.cells 0 Jb (J++new)),[])
        | none=>Ja
     else Ja
   | _=>Ja
 | .bq bytes z s x=>match ev a s,ev a x with
  | .ah,.int .i64 n=>if n=0 then Iz (.ah,h,[])else
    if 0<=n/\n*bytes<=140737488355328/\n<=f0 then Iz (.slice Jc z.length h.next 0 n.toNat,h.alloc (.cells 0 Jb (g8 n.toNat z)),[])else Ja
  | _,_=>Ja
 | .ja size d x=>match ev a d,ev a x with
  | .slice _ sz b o m,.slice _ O U V n=>if sz=size/\O=size then
    (if min n m=0 then Iz (i64 0,h,[])else match bH h U V (min n m*size)with
     | some cs=>match eH h b o cs with
      | some u=>Iz (i64 ((min n m:Nat):Int),u,[])
      | none=>Ja
     | none=>Ja)else Ja
  | .ah,.ah | .ah,.slice .. | .slice ..,.ah=>Iz (i64 0,h,[])
  | _,_=>Ja
 | .fj z x=>match ev a x with
  | .ah=>Iz (.tuple [],h,[])
  | .slice _ sz b o n=>if sz=z.length then
    (if n=0 then Iz (.tuple [],h,[])else match eH h b o (g8 n z)with
     | some u=>Iz (.tuple [],u,[])
     | none=>Ja)else Ja
  | _=>Ja
 | .len x=>match ev a x with
  | .ah=>Iz (i64 0,h,[])
  | .slice _ _ _ _ n=>Iz (i64 n,h,[])
  | _=>Ja
 | .iw x=>match ev a x with
  | .str s=>Iz (i64 s.size,h,[])
  | _=>Ja
 | .ii x=>match ev a x with
  | .bd=>Iz (i64 0,h,[])
  | .map r=>match h.get r with
   | some (.map _ B)=>Iz (i64 B.length,h,[r])
   | _=>Ja
  | _=>Ja
 | .cap x=>match ev a x with
  | .ah=>Iz (i64 0,h,[])
  | .slice Jb _ _ _ n=>Iz (i64 n,h,[])
  | _=>Ja
 | .max x E=>match kY AP (ev a x) (E.map (ev a))with
  | some v=>Iz (v,h,[])
  | none=>Ja
 | .min x E=>match kY AN (ev a x) (E.map (ev a))with
  | some v=>Iz (v,h,[])
  | none=>Ja
 | .oe t z x=>match ev a x with
  | .af=>Iz (.tuple [z,.bool Jc],h,[])
  | .iface Y v=>Iz (if Y=t then .tuple [v,.bool Jb]else .tuple [z,.bool Jc],h,[])
  | _=>Ja
 | .cr x=>match ev a x with
  | .str s=>if s.size<=140737488355328 then Iz (.slice Jc 1 h.next 0 s.size,h.alloc (.cells 0 Jc (s.data.toList.map fun b=> .int .u8 b.toNat)),[])else Ja
  | _=>Ja
 | .jk x=>match ev a x with
  | .slice K sz b i n=>match h.get b with
   | some (.cells ver Jb cs)=>if 0<n then Iz (.slice K sz h.next i n,(h.set b .dead).alloc (.cells 0 Jc cs),[])else Ja
   | _=>Ja
  | _=>Ja
inductive ll where
 | tmp (t:Nat)
 | cell (t:Nat)
 | cells (t n:Nat)
 deriving Inhabited
structure AFn where
 ntmps:Nat
 results:List ll
 body:AC
 deriving Inhabited
inductive AF where
 | fn (f:AFn)
 | kq (f:List AV->H->Option (AV×H))
structure Rec where
 code:AC->List AV->H->Option (Ex×List AV×H)
 call:FuncId->List AV->H->Option (AV×H)
def fq(a:List AV):List Nat->List AV->List AV
 | t::u,v::y=>fq (iu a t v) u y
 | _,_=>a
def dB(a:List AV):Option (Nat×Bool)->Option Bool
 | none=>Iz Jb
 | some (t,u)=>match fp a t with
  | .bool b=>Iz (b==u)
  | .tuple _=>Iz Jc
  | _=>Ja
structure mg where
 idx:Nat
 rd:List Nat
 hb:H
 ha:H
def fX(hb u:H)(x:Nat):Bool:=if x<hb.next then hb.ver x==u.ver x else Jb
def AA(u:Bool)(rd:List Nat)(hb B:H)(y:List mg)(chk:List Nat):Bool:=
 y.all fun e=>if chk.contains e.idx then(if u then e.rd.all (fX hb B)else rd.all (fX e.hb e.ha))else Jb
def jD:List AV->TypeId->Option FuncId
 | .int _ u:: .int _ g::r,t=>if u=(t:Int)then Iz g.toNat else jD r t
 | _,_=>Ja
def qE(u:List AV):List AV->Option (FuncId×List AV)
 | .iface t v::args=>match jD u t with
  | some g=>Iz (g,v::args)
  | none=>Ja
 | _=>Ja
section
variable (rec:Rec)
def eX:AV->List AV->H->Option (AV×H)
 | .func (.func g) first u,args,h=>rec.call g (first++args++u) h
 | .func (.yield l) first _,args,h=>match h.get l with
  | some (.loop _ r)=>if(first++args).length=r.params.length then
    match rec.code r.assign (fq r.tmps r.params (first++args)) h with
    | some (.normal,I,h1)=>match h1.get l with
     | some (.loop J B)=>if B.state= .ready then
       match rec.code r.body I (h1.set l (.loop (J+1) {B with state:= .busy}))with
       | some (e,_,h3)=>match h3.get l with
        | some (.loop E G)=>
         if e= .normal then Iz (.bool Jb,h3.set l (.loop (E+1) {G with state:= .ready,pending:=Ja}))
         else Iz (.bool Jc,h3.set l (.loop (E+1) {G with state:= .done,pending:=Iz e}))
        | _=>Ja
       | none=>Ja
      else Ja
     | _=>Ja
    | _=>Ja
   else Ja
  | _=>Ja
 | .func (.methodOf _ _) y _,args,h=>match qE y args with
  | some (g,l)=>rec.call g l h
  | none=>Ja
 | _,_,_=>Ja
def gJ:AO->List AV->H->Option (AV×H×List Nat)
 | .call f args,a,h=>match eX rec (ev a f) (args.map (ev a)) h with
  | some (v,u)=>Iz (v,u,[])
  | none=>Ja
 | o,a,h=>aop a h o
def iJ:List aw->List AV->H->Option (List AV×H)
 | [],a,h=>Iz (a,h)
 | o::os,a,h=>match dB a o.guard with
  | some Jb=>match gJ rec o.op a h with
   | some (v,u,_)=>iJ os (put a o.dst v) u
   | none=>Ja
  | some Jc=>iJ os (put a o.dst (.tuple [])) h
  | none=>Ja
def rdx(h u:H)(rd:List Nat):List Nat:=if h.next<u.next then h.next::rd else rd
def fL:List aw->Nat->List AV->H->List mg->Option (List AV×H)
 | [],_,a,h,_=>Iz (a,h)
 | o::os,i,a,h,u=>match dB a o.guard with
  | some Jb=>match gJ rec o.op a h with
   | some (v,y,rd)=>if AA o.op.effect (rdx h y rd) h y u o.chk then fL os (i+1) (put a o.dst v) y (⟨i,rdx h y rd,h,y⟩::u)else Ja
   | none=>Ja
  | some Jc=>fL os (i+1) (put a o.dst (.tuple [])) h u
  | none=>Ja
def aS:AC->List AV->H->Option (Ex×List AV×H)
 | .skip,a,h=>Iz (.normal,a,h)
 | .region ops,a,h=>match iJ rec ops a h with
  | some (B,u)=>Iz (.normal,B,u)
  | none=>Ja
 | .fe ops,a,h=>match fL rec ops 0 a h []with
  | some (B,u)=>Iz (.normal,B,u)
  | none=>Ja
 | .seq x y,a,h=>match aS x a h with
  | some (.normal,B,u)=>aS y B u
  | r=>r
 | .cond c x y,a,h=>match ev a c with
  | .bool Jb=>aS x a h
  | .bool Jc=>aS y a h
  | _=>Ja
 | .block id x,a,h=>match aS x a h with
  | some (.exit i,B,u)=>if i=id then Iz (.normal,B,u)else Iz (.exit i,B,u)
  | r=>r
 | .loop I x,a,h=>match aS x (ie a I) h with
  | some (.normal,B,u)=>rec.code (.loop I x) B u
  | r=>r
 | .rangeFunc f J E body,a,h=>match ev a f with
  | .func (.func g) first G=>
   match rec.call g (first++[.func (.yield h.next) [] []]++G) (h.alloc (.loop 0 {state:= .ready,pending:=Ja,tmps:=a,params:=J,assign:=E,body:=body}))with
   | some (_,u)=>match u.get h.next with
    | some (.loop ver r)=>if r.state= .busy then Ja else
      Iz (r.pending.getD .normal,a,u.set h.next (.loop (ver+1) {r with state:= .exhausted}))
    | _=>Ja
   | none=>Ja
  | _=>Ja
 | .exit id,a,h=>Iz (.exit id,a,h)
 | .ret,a,h=>Iz (.ret,a,h)
def BT(a:List AV)(h:H):ll->Option AV
 | .tmp t=>Iz (fp a t)
 | .cell t=>match fp a t with
  | .ptr b o=>iX h b o
  | _=>Ja
 | .cells t n=>match fp a t with
  | .ptr b o=>(bH h b o n).map .agg
  | _=>Ja
def eD(a:List AV)(h:H):List ll->Option (List AV)
 | []=>Iz []
 | r::u=>match BT a h r,eD a h u with
  | some v,Iz y=>Iz (v::y)
  | _,_=>Ja
def jR:List AV->AV
 | [v]=>v
 | u=> .tuple u
def yT(args:List AV)(n:Nat):List AV:=args++Ag (n-args.length) .ae
def gD(u:FuncId->Option AF)(g:FuncId)(args:List AV)(h:H):Option (AV×H):=
 match u g with
 | some (.kq f)=>f args h
 | some (.fn F)=>match aS rec F.body (yT args F.ntmps) h with
  | some (.normal,B,y) | some (.ret,B,y)=>match eD B y F.results with
   | some E=>Iz (jR E,y)
   | none=>Ja
  | _=>Ja
 | none=>Ja
end
def run(u:FuncId->Option AF):Nat->Rec
 | 0=>⟨fun _ _ _=>Ja,fun _ _ _=>Ja⟩
 | n+1=>⟨aS (run u n),gD (run u n) u⟩
inductive TT where
 | leaf
 | node (v:AV) (l r:TT)
def TT.get:TT->Nat->AV
 | .leaf,_=> .ae
 | .node v l r,i=>bif Bx i 0 then v else bif Bx (Dr i 2) 1 then l.get (Cd i 2)else r.get (Ds (Cd i 2) 1)
def TT.oi{β:Type}(v:AV):Nat->TT->Nat->(TT->Option β)->Option β
 | 0,_,_,_=>Ja
 | u+1,.leaf,i,k=>bif Bx i 0 then k (.node v .leaf .leaf)else bif Bx (Dr i 2) 1 then TT.oi v u .leaf (Cd i 2) (fun t=>k (.node .ae t .leaf))else TT.oi v u .leaf (Ds (Cd i 2) 1) fun t=>k (.node .ae .leaf t)
 | u+1,.node x l r,i,k=>bif Bx i 0 then k (.node v l r)else bif Bx (Dr i 2) 1 then TT.oi v u l (Cd i 2) (fun t=>k (.node x t r))else TT.oi v u r (Ds (Cd i 2) 1) fun t=>k (.node x l t)
def AR.sub(t:TT):AR->AR
 | .tmp i=> .const (t.get i)
 | .const v=> .const v
def LM(t:TT):Option AR->Option AR
 | none=>Ja
 | some x=>Iz (x.sub t)
def aD9(t:TT):List (Nat×Nat×AR)->List (Nat×Nat×AR)
 | []=>[]
 | (o,s,x)::r=>(o,s,x.sub t)::aD9 t r
def SQ(t:TT):List AR->List AR
 | []=>[]
 | x::r=>x.sub t::SQ t r
def AO.sub(t:TT):AO->AO
 | .move x=> .move (x.sub t)
 | .pick c a b=> .pick (c.sub t) (a.sub t) (b.sub t)
 | .alloc cs=> .alloc cs
 | .box x=> .box (x.sub t)
 | .build z u=> .build z (aD9 t u)
 | .buildSlice s n z u=> .buildSlice s n z (aD9 t u)
 | .load x=> .load (x.sub t)
 | .ew n x=> .ew n (x.sub t)
 | .store n a x=> .store n (a.sub t) (x.sub t)
 | .nilCheck x=> .nilCheck (x.sub t)
 | .bin op x y=> .bin op (x.sub t) (y.sub t)
 | .eqB n x y=> .eqB n (x.sub t) (y.sub t)
 | .isNil kd n x y=> .isNil kd n (x.sub t) (y.sub t)
 | .dz n T x y=> .dz n T (x.sub t) (y.sub t)
 | .un op x=> .un op (x.sub t)
 | .dt k x=> .dt k (x.sub t)
 | .jx x=> .jx (x.sub t)
 | .br x=> .br (x.sub t)
 | .ia B x=> .ia B (x.sub t)
 | .iv fn f c=> .iv fn (SQ t f) (SQ t c)
 | .makeMap=> .makeMap
 | .makeSlice b z n c=> .makeSlice b z (n.sub t) (c.sub t)
 | .slice s x lo hi mx=> .slice s (x.sub t) (LM t lo) (LM t hi) (LM t mx)
 | .cw n s x lo hi=> .cw n s (x.sub t) (LM t lo) (LM t hi)
 | .ep x lo hi=> .ep (x.sub t) (LM t lo) (LM t hi)
 | .fieldAddr o x=> .fieldAddr o (x.sub t)
 | .field o n x=> .field o n (x.sub t)
 | .indexAddr s x i=> .indexAddr s (x.sub t) (i.sub t)
 | .bj n s x i=> .bj n s (x.sub t) (i.sub t)
 | .index n s b x i=> .index n s b (x.sub t) (i.sub t)
 | .da x i=> .da (x.sub t) (i.sub t)
 | .lookup kd E z x i=> .lookup kd E z (x.sub t) (i.sub t)
 | .mapUpdate kd m k v=> .mapUpdate kd (m.sub t) (k.sub t) (v.sub t)
 | .extract x i=> .extract (x.sub t) i
 | .call f as=> .call (f.sub t) (SQ t as)
 | .append s b x y=> .append s b (x.sub t) (y.sub t)
 | .bq b z x y=> .bq b z (x.sub t) (y.sub t)
 | .ja s x y=> .ja s (x.sub t) (y.sub t)
 | .fj z x=> .fj z (x.sub t)
 | .len x=> .len (x.sub t)
 | .iw x=> .iw (x.sub t)
 | .ii x=> .ii (x.sub t)
 | .cap x=> .cap (x.sub t)
 | .max x xs=> .max (x.sub t) (SQ t xs)
 | .min x xs=> .min (x.sub t) (SQ t xs)
 | .oe B z x=> .oe B z (x.sub t)
 | .cr x=> .cr (x.sub t)
 | .jk x=> .jk (x.sub t)
structure Rl (n:Nat) (t:TT) (a:List AV):Prop where
 len:a.length=n
 get:∀i,t.get i=fp a i
section
variable {n:Nat} {t:TT} {a:List AV}
end
def xN:∀(a:List AV) (i:Nat) (v:AV) (j:Nat),i<a.length->fp (iu a i v) j=if j=i then v else fp a j
 | [],i,v,j,h=>by simp at h
 | x::l,0,v,j,h=>by cases j<;>simp[iu,fp]
 | x::l,i+1,v,j,h=>by
  cases j with
  | zero=>simp[iu,fp]
  | succ j=>simp only[iu,fp];rw[xN l i v j (by simpa using h)];simp
def rW:∀(a:List AV) (i:Nat) (v:AV),(iu a i v).length=a.length
 | [],_,_=>rfl
 | _::_,0,_=>rfl
 | _::l,i+1,v=>by simp[iu,rW l i v]
def Rl.set{n:Nat}{t u:TT}{a:List AV}{i:Nat}{v:AV}(hr:Rl n t a)(y:i<n)(ht:∀j,u.get j=if j=i then v else t.get j):Rl n u (iu a i v):=by refine⟨by rw[rW];exact hr.len,fun j=>?_⟩;rw[ht j,xN a i v j (by rw[hr.len];exact y),hr.get j]
noncomputable def TT.gk(t:TT):Nat->(AV->Bool)->Bool:=
 TT.rec (motive:=fun _=>Nat->(AV->Bool)->Bool) (fun _ k=>k .ae)
  (fun v _ _ u y i k=>Cv (Cv (y (Ds (Cd i (nat_lit 2)) (nat_lit 1)) k) (u (Cd i (nat_lit 2)) k) (Bx (Dr i (nat_lit 2)) (nat_lit 1))) (k v) (Bx i (nat_lit 0))) t
noncomputable def TT.sk(v:AV)(t:TT):Nat->(TT->Bool)->Bool:=
 TT.rec (motive:=fun _=>Nat->(TT->Bool)->Bool) (fun _ _=>Jc)
  (fun x l r u y i k=>Cv (Cv (y (Ds (Cd i (nat_lit 2)) (nat_lit 1)) fun t=>k (.node x l t)) (u (Cd i (nat_lit 2)) fun t=>k (.node x t r)) (Bx (Dr i (nat_lit 2)) (nat_lit 1))) (k (.node v l r)) (Bx i (nat_lit 0))) t
noncomputable def HT.gk(t:HT):Nat->(bz->Bool)->Bool:=
 HT.rec (motive:=fun _=>Nat->(bz->Bool)->Bool) (fun _ _=>Jc)
  (fun v _ _ u y i k=>Cv (Cv (y (Ds (Cd i (nat_lit 2)) (nat_lit 1)) k) (u (Cd i (nat_lit 2)) k) (Bx (Dr i (nat_lit 2)) (nat_lit 1))) (Option.casesOn v Jc k) (Bx i (nat_lit 0))) t
noncomputable def HT.mk(o:bz)(u:Nat):Nat->(HT->Bool)->Bool:=
 Nat.rec (motive:=fun _=>Nat->(HT->Bool)->Bool) (fun _ _=>Jc)
  (fun _ y i k=>Cv (Cv (y (Ds (Cd i (nat_lit 2)) (nat_lit 1)) fun t=>k (.node Ja .leaf t)) (y (Cd i (nat_lit 2)) fun t=>k (.node Ja t .leaf)) (Bx (Dr i (nat_lit 2)) (nat_lit 1))) (k (.node (Iz o) .leaf .leaf)) (Bx i (nat_lit 0))) u
noncomputable def HT.sk(o:bz)(t:HT):Nat->(HT->Bool)->Bool:=
 HT.rec (motive:=fun _=>Nat->(HT->Bool)->Bool) (fun i k=>HT.mk o (nat_lit 64) i k)
  (fun v l r u y i k=>Cv (Cv (y (Ds (Cd i (nat_lit 2)) (nat_lit 1)) fun t=>k (.node v l t)) (u (Cd i (nat_lit 2)) fun t=>k (.node v t r)) (Bx (Dr i (nat_lit 2)) (nat_lit 1))) (k (.node (Iz o) l r)) (Bx i (nat_lit 0))) t
noncomputable def kif(c:Bool)(k:Bool):Bool:=Cv Jc k c
def kif_ok{c k:Bool}(h:kif c k=Jb):c=Jb/\k=Jb:=by
 cases c with
 | false=>cases h
 | true=>exact⟨rfl,h⟩
noncomputable def H.gk(h:H)(i:Nat)(k:bz->Bool):Bool:=H.casesOn h fun n t=>kif (Nat.ble (Nat.succ i) n) (HT.gk t i k)
noncomputable def H.ck(h:H)(i:Nat)(k:Nat->Bool->List AV->Bool):Bool:=h.gk i fun o=>bz.casesOn o (fun v rw cs=>k v rw cs) (fun _ _=>Jc) (fun _ _=>Jc) Jc
noncomputable def H.sk(h:H)(i:Nat)(o:bz)(k:H->Bool):Bool:=H.casesOn h fun n t=>HT.sk o t i fun u=>k ⟨n,u⟩
section
variable {n:Nat} {t:TT} {a:List AV}
end
abbrev KE:=Ex->TT->H->Bool
structure KRec where
 code:AC->Nat->TT->H->KE->Bool
 call:FuncId->List AV->H->(AV->H->Bool)->Bool
section
variable (R:KRec)
end
inductive KT where
 | leaf
 | node (l:KT) (g:Nat) (F:AFn) (r:KT)
 | tru (l:KT) (g:Nat) (r:KT)
 | tz (l:KT) (g:Nat) (r:KT)
 | prr (l:KT) (g:Nat) (F:List AV->H->Option AV) (r:KT)
 | prm (l:KT) (g:Nat) (F:List AV->H->Option (List AV)) (r:KT)
def tzTab:List Nat:=[0,1,56,2,57,49,28,3,61,58,42,50,38,29,17,4,62,47,59,36,45,43,51,22,53,39,33,30,24,18,12,5,63,55,48,27,60,41,37,16,46,35,44,21,52,32,23,11,54,26,40,15,34,20,31,10,25,14,19,9,13,8,7,6]
def PK(x:Int):Int:=IntKind.u64.wrap (Be IntKind.u64.bits x&&& Be IntKind.u64.bits (IntKind.u64.wrap (-x))).toNat
def tzIdx(x:Int):Int:=IntKind.u64.wrap (PK x*285870213051353865) / 288230376151711744
def tzF(x:Int):Int:=if x=0 then 64 else((tzTab[(tzIdx x).toNat]?).getD 0:Nat)
def EX:List AV->Option Int
 | [.int .u64 x]=>Iz (tzF x)
 | _=>Ja
def primTz(args:List AV)(h:H):Option (AV×H):=match EX args with
 | some n=>Iz (.int .i64 n,h)
 | none=>Ja
def H7:List AV->H->Option (AV×H)
 | [],h=>Iz (.bool Jb,h)
 | _::_,_=>Ja
def bN(F:List AV->H->Option AV)(args:List AV)(h:H):Option (AV×H):=match F args h with
 | some v=>Iz (v,h)
 | none=>Ja
def m8(F:List AV->H->Option (List AV))(args:List AV)(h:H):Option (AV×H):=match F args h with
 | some cs=>Iz (.slice Jb 1 h.next 0 cs.length,h.alloc (.cells 0 Jb cs))
 | none=>Ja
def KT.find:KT->Nat->Option AF
 | .leaf,_=>Ja
 | .node l k f r,g=>if g=k then Iz (.fn f)else if g<=k then l.find g else r.find g
 | .tru l k r,g=>if g=k then Iz (.kq H7)else if g<=k then l.find g else r.find g
 | .tz l k r,g=>if g=k then Iz (.kq primTz)else if g<=k then l.find g else r.find g
 | .prr l k F r,g=>if g=k then Iz (.kq (bN F))else if g<=k then l.find g else r.find g
 | .prm l k F r,g=>if g=k then Iz (.kq (m8 F))else if g<=k then l.find g else r.find g
section
variable {R:KRec} {rec:Rec}
end
def gG:Value->Option AV
 | .bool b=>Iz (.bool b)
 | .int k n=>Iz (.int k n)
 | .string s=>Iz (.str s)
 | .pointer Ja=>Iz .al
 | .slice Ja 0 0=>Iz .ah
 | .map Ja=>Iz .bd
 | .nilFunc=>Iz .aq
 | .nilIface=>Iz .af
 | .func (.func f) ⟨[]⟩ ⟨[]⟩=>Iz (.func (.func f) [] [])
 | _=>Ja
def eI{α β:Type}(f:α->Option β):List α->Option (List β)
 | []=>Iz []
 | x::u=>match f x,eI f u with
  | some y,Iz B=>Iz (y::B)
  | _,_=>Ja
def EE:Value->Option AV
 | .agg cs=>(eI gG cs.toList).map .agg
 | .iface t v=>(gG v).map (.iface t)
 | v=>gG v
def trR:Operand->Option AR
 | .tmp t=>Iz (.tmp t)
 | .const v=>(EE v).map .const
 | .func f=>Iz (.const (.func (.func f) [] []))
 | .global _=>Ja
def BD(l:List Operand):Option (List AR):=eI trR l
def BE:Option Operand->Option (Option AR)
 | none=>Iz Ja
 | some x=>(trR x).map Iz
section
variable (P:Program)
def nT(t:TypeId):Option (List AV):=
 match P.info? t with
 | some i=>match i.zero with
  | some z=>eI gG z.cells.toList
  | none=>Ja
 | none=>Ja
def eM(t:TypeId):Option Nat:=(P.info? t).map (·.size)
def nF(t:TypeId):Option Bool:=
 match P.underlying t with
 | some (.struct _)=>Iz Jb
 | some (.array _ _)=>Iz Jb
 | some _=>Iz Jc
 | none=>Ja
def oY(u:Nat->Option (Nat×Nat)):List (Nat×Operand)->Option (List (Nat×Nat×AR))
 | []=>Iz []
 | (i,x)::r=>match u i,trR x,oY u r with
  | some (off,size),Iz y,Iz B=>Iz ((off,size,y)::B)
  | _,_,_=>Ja
def kZ(u:Array Field)(i:Nat):Option (Nat×Nat):=
 match u[i]? with
 | some f=>match eM P f.type with
  | some s=>Iz (f.offset,s)
  | none=>Ja
 | none=>Ja
def pD(t:TypeId):Option Nat:=
 match P.underlying t with
 | some (.int _)=>Iz 0
 | some .bool=>Iz 1
 | some .string=>Iz 2
 | _=>Ja
def O5(t:TypeId):Option AV:=
 match P.info? t with
 | some i=>match i.zero with
  | some z=>gG z
  | none=>Ja
 | none=>Ja
def gW(b:Builtin)(B:List TypeId)(args:List Operand):Option AO:=
 match b,B,args with
 | .append,t::y::_,[s,x]=>match P.underlying t,P.underlying y,trR s,trR x with
  | some (.slice e),Iz (.slice _),Iz s,Iz x=>match P.info? e,nT P e with
   | some i,Iz z=>if i.size=z.length&&0<i.size then Iz (.append i.size i.bytes s x)else Ja
   | _,_=>Ja
  | some (.slice e),Iz .string,Iz s,Iz x=>match P.info? e,nT P e with
   | some i,Iz z=>if i.size=z.length&&0<i.size then Iz (.append i.size i.bytes s x)else Ja
   | _,_=>Ja
  | some (.slice e),Iz (.int _),Iz s,Iz x=>match P.info? e,nT P e with
   | some i,Iz z=>if i.size=z.length&&0<i.size then Iz (.bq i.bytes z s x)else Ja
   | _,_=>Ja
  | _,_,_,_=>Ja
 | .len,t::_,[x]=>match P.underlying t,trR x with
  | some (.slice _),Iz x=>Iz (.len x)
  | some .string,Iz x=>Iz (.iw x)
  | some (.map _ _),Iz x=>Iz (.ii x)
  | some (.array n _),_=>Iz (.move (.const (i64 n)))
  | _,_=>Ja
 | .cap,t::_,[x]=>match P.underlying t,trR x with
  | some (.slice _),Iz x=>Iz (.cap x)
  | _,_=>Ja
 | .copy,t::y::_,[d,x]=>match P.underlying t,P.underlying y,trR d,trR x with
  | some (.slice e),Iz (.slice _),Iz d,Iz x=>match P.info? e with
   | some i=>if 0<i.size then Iz (.ja i.size d x)else Ja
   | none=>Ja
  | _,_,_,_=>Ja
 | .clear,t::_,[x]=>match P.underlying t,trR x with
  | some (.slice e),Iz x=>match P.info? e,nT P e with
   | some i,Iz z=>if i.size=z.length&&0<i.size then Iz (.fj z x)else Ja
   | _,_=>Ja
  | _,_=>Ja
 | .max,_,x::u=>match trR x,BD u with
  | some x,Iz u=>Iz (.max x u)
  | _,_=>Ja
 | .min,_,x::u=>match trR x,BD u with
  | some x,Iz u=>Iz (.min x u)
  | _,_=>Ja
 | _,_,_=>Ja
def E8:TypeDesc->Option Nat
 | .slice _=>Iz 0
 | .pointer _=>Iz 1
 | .map _ _=>Iz 2
 | .func _ _ _=>Iz 3
 | _=>Ja
def nG(P:Program)(f:TypeId->Option (List (Option IntKind))):Nat->List Field->Option (List (Option IntKind))
 | _,[]=>Iz []
 | off,x::u=>match f x.type,nG P f (x.offset+P.cellsOf x.type) u with
  | some a,Iz b=>if x.offset=off/\a.length=P.cellsOf x.type then Iz (a++b)else Ja
  | _,_=>Ja
def s8(a:List (Option IntKind)):Nat->List (Option IntKind)
 | 0=>[]
 | n+1=>a++s8 a n
def pT(P:Program):Nat->TypeId->Option (List (Option IntKind))
 | 0,_=>Ja
 | m+1,t=>match P.underlying t with
  | some (.int k)=>Iz [Iz k]
  | some .bool=>Iz [Ja]
  | some (.struct u)=>match nG P (pT P m) 0 u.toList with
   | some T=>if T.length=P.cellsOf t/\u.all (·.name != "_")=Jb then Iz T else Ja
   | none=>Ja
  | some (.array n e)=>match pT P m e with
   | some E=>if E.length=P.cellsOf e/\(s8 E n).length=P.cellsOf t then Iz (s8 E n)else Ja
   | none=>Ja
  | _=>Ja
def pG(P:Program)(op:BinOp)(t:TypeId)(x y:AR):Option AO:=
 match op,pT P 20 t with
 | .eql,Iz T=>if P.keyTypeAt 20 t=Jb/\P.eqGuardType P.depth t=Jc then Iz (.dz Jc T x y)else Ja
 | .neq,Iz T=>if P.keyTypeAt 20 t=Jb/\P.eqGuardType P.depth t=Jc then Iz (.dz Jb T x y)else Ja
 | _,_=>Ja
def sI:Operand->Bool
 | .const _=>Jb
 | _=>Jc
def FE(P:Program)(m:String)(t:TypeId):Option FuncId:=
 match P.info? t,P.underlying t with
 | some i,Iz (.pointer _)=>match i.methods.find? (·.name==m)with
  | some u=>match u.path.toList,u.func with
   | [],Iz (f,Jb)=>Iz f
   | _,_=>Ja
  | none=>Ja
 | _,_=>Ja
def kX(P:Program)(m:String):List Nat->List AV
 | []=>[]
 | t::r=>match FE P m t with
  | some f=>i64 t::i64 f::kX P m r
  | none=>kX P m r
def aY(o:Oper):Option AO:=
 match o.op with
 | .move x | .assign x=>(trR x).map .move
 | .pick c a b=>match trR c,trR a,trR b with
  | some c,Iz a,Iz b=>Iz (.pick c a b)
  | _,_,_=>Ja
 | .alloc e=>(nT P e).map .alloc
 | .box _ x=>(trR x).map .box
 | .build t K=>match nT P t,P.underlying t with
  | some z,Iz (.struct E)=>if E.toList.all (fun f=>(eM P f.type).isSome)then(oY (kZ P E) K.toList).map (.build z)else Ja
  | some z,Iz (.array _ e)=>match eM P e with
   | some s=>(oY (fun i=>Iz (i*s,s)) K.toList).map (.build z)
   | none=>Ja
  | _,_=>Ja
 | .buildSlice t len K=>match P.underlying t with
  | some (.slice e)=>match eM P e,nT P e with
   | some s,Iz z=>if s=z.length&&0<s&&len*s<=65536 then(oY (fun i=>Iz (i*s,s)) K.toList).map (.buildSlice s len z)else Ja
   | _,_=>Ja
  | _=>Ja
 | .load t x=>match nF P t,eM P t,trR x with
  | some Jb,Iz n,Iz x=>Iz (.ew n x)
  | some Jc,_,Iz x=>Iz (.load x)
  | _,_,_=>Ja
 | .store t p x=>match eM P t,trR p,trR x with
  | some n,Iz p,Iz x=>Iz (.store n p x)
  | _,_,_=>Ja
 | .nilCheck x=>(trR x).map .nilCheck
 | .binOp op t x y _=>match trR x,trR y,P.underlying t with
  | some x,Iz y,Iz (.int _) | some x,Iz y,Iz .string=>Iz (.bin op x y)
  | some x,Iz y,Iz .bool=>match op with
   | .eql=>Iz (.eqB Jc x y)
   | .neq=>Iz (.eqB Jb x y)
   | _=>Ja
  | some x,Iz y,Iz (.struct _) | some x,Iz y,Iz (.array _ _)=>pG P op t x y
  | some M,Iz O,Iz (.interface _)=>if sI x||sI y then match op with
    | .eql=>Iz (.isNil 4 Jc M O)
    | .neq=>Iz (.isNil 4 Jb M O)
    | _=>Ja
   else Ja
  | some x,Iz y,Iz d=>match E8 d,op with
   | some kd,.eql=>Iz (.isNil kd Jc x y)
   | some kd,.neq=>Iz (.isNil kd Jb x y)
   | _,_=>Ja
  | _,_,_=>Ja
 | .unOp op _ x=>(trR x).map (.un op)
 | .convert G I x=>match P.underlying G,P.underlying I,trR x with
  | some (.int _),Iz (.int k),Iz x=>Iz (.dt k x)
  | some .string,Iz .string,Iz x=>Iz (.jx x)
  | some (.slice e),Iz .string,Iz x=>match P.underlying e with
   | some (.int .u8)=>Iz (.br x)
   | _=>Ja
  | some .string,Iz (.slice e),Iz x=>match P.underlying e with
   | some (.int .u8)=>Iz (.cr x)
   | _=>Ja
  | some (.slice _),Iz (.slice e),Iz x=>if G=I then match P.underlying e with
   | some (.int .u8)=>Iz (.jk x)
   | _=>Ja else Ja
  | _,_,_=>Ja
 | .makeInterface t x=>match P.underlying t with
  | some (.interface _)=>Ja
  | some _=>(trR x).map (.ia t)
  | none=>Ja
 | .makeFunc fn f c=>match fn,BD f.toList,BD c.toList with
  | .yield _,_,_=>Ja
  | .methodOf _ _,_,_=>Ja
  | fn,Iz f,Iz c=>Iz (.iv fn f c)
  | _,_,_=>Ja
 | .makeMap _ Ja=>Iz .makeMap
 | .makeSlice t l c=>match P.underlying t with
  | some (.slice e)=>match P.info? e,nT P e,trR l,trR c with
   | some i,Iz z,Iz l,Iz c=>if i.size=z.length&&0<i.size then Iz (.makeSlice i.bytes z l c)else Ja
   | _,_,_,_=>Ja
  | _=>Ja
 | .slice t x u B J=>match P.underlying t with
  | some (.slice e)=>match eM P e,trR x,BE u,BE B,BE J with
   | some s,Iz x,Iz u,Iz B,Iz J=>Iz (.slice s x u B J)
   | _,_,_,_,_=>Ja
  | some .string=>match trR x,BE u,BE B,J with
   | some x,Iz u,Iz B,Ja=>Iz (.ep x u B)
   | _,_,_,_=>Ja
  | some (.array n e)=>match eM P e,trR x,BE u,BE B,J with
   | some s,Iz x,Iz u,Iz B,Ja=>if n<=65536 then Iz (.cw n s x u B)else Ja
   | _,_,_,_,_=>Ja
  | _=>Ja
 | .fieldAddr t x i=>match P.underlying t with
  | some (.struct E)=>match E[i]? with
   | some f=>match eM P f.type,trR x with
    | some (_+1),Iz x=>Iz (.fieldAddr f.offset x)
    | _,_=>Ja
   | none=>Ja
  | _=>Ja
 | .field t x i=>match P.underlying t with
  | some (.struct E)=>match E[i]? with
   | some f=>match nF P f.type,eM P f.type,trR x with
    | some Jb,Iz n,Iz x=>Iz (.field f.offset (Iz n) x)
    | some Jc,_,Iz x=>Iz (.field f.offset Ja x)
    | _,_,_=>Ja
   | none=>Ja
  | _=>Ja
 | .indexAddr t x i=>match P.underlying t,trR x,trR i with
  | some (.slice e),Iz x,Iz i=>match eM P e with
   | some s=>Iz (.indexAddr s x i)
   | none=>Ja
  | some (.array n e),Iz x,Iz i=>match eM P e with
   | some s=>Iz (.bj n s x i)
   | none=>Ja
  | _,_,_=>Ja
 | .index t x i=>match P.underlying t,trR x,trR i with
  | some (.array n e),Iz x,Iz i=>match eM P e,nF P e with
   | some s,Iz b=>Iz (.index n s b x i)
   | _,_=>Ja
  | some .string,Iz x,Iz i=>Iz (.da x i)
  | _,_,_=>Ja
 | .lookup t x i L=>match P.underlying t,trR x,trR i with
  | some (.map k e),Iz x,Iz i=>match O5 P e,pD P k with
   | some z,Iz kd=>Iz (.lookup kd L z x i)
   | _,_=>Ja
  | _,_,_=>Ja
 | .mapUpdate t m k v | .insert t m k v=>match P.underlying t,trR m,trR k,trR v with
  | some (.map Q _),Iz m,Iz k,Iz v=>match pD P Q with
   | some kd=>Iz (.mapUpdate kd m k v)
   | none=>Ja
  | _,_,_,_=>Ja
 | .extract x i=>(trR x).map (.extract · i)
 | .panic _=>Iz (.extract (.const .ae) 0)
 | .call c=>match c.callee with
  | .value f=>match trR f,BD c.args.toList with
   | some f,Iz args=>Iz (.call f args)
   | _,_=>Ja
  | .builtin b=>gW P b c.argTypes.toList c.args.toList
  | .invoke r m=>match trR r,BD c.args.toList with
   | some x,Iz R=>Iz (.call (.const (.func (.methodOf 0 m) (kX P m (Av P.types.size)) [])) (x::R))
   | _,_=>Ja
 | .typeAssert x _ t L=>match L,P.underlying t,O5 P t,trR x with
  | true,Iz (.interface _),_,_=>Ja
  | true,Iz _,Iz z,Iz x=>Iz (.oe t z x)
  | _,_,_,_=>Ja
 | _=>Ja
def AO.stuck:AO:= .extract (.const .ae) 0
def CA:Op->Bool
 | .convert .. | .slice .. | .indexAddr .. | .index .. | .call _ | .load .. | .store .. | .binOp .. | .unOp .. | .makeInterface .. =>Jb
 | _=>Jc
def xL(o:Oper):Option AO:=match aY P o with
 | some u=>Iz u
 | none=>if CA o.op then Iz .stuck else Ja
def mQ{o:Oper}{u:AO}(h:xL P o=Iz u):aY P o=Iz u\/(u= .stuck/\CA o.op=Jb):=by
 unfold xL at h
 grind
def AO.reads:AO->Bool
 | .load _ | .ew .. | .lookup .. | .ii _ | .br _ | .cw .. | .alloc _ | .box _ | .buildSlice .. | .makeSlice .. | .makeMap=>Jb
 | _=>Jc
def opR:AR->List Nat
 | .tmp t=>[t]
 | .const _=>[]
def IM:Option AR->List Nat
 | some x=>opR x
 | none=>[]
def AO.dh:AO->List Nat
 | .move x | .box x | .load x | .ew _ x | .nilCheck x | .un _ x | .dt _ x | .jx x | .br x | .ia _ x | .fieldAddr _ x | .field _ _ x | .extract x _ | .len x | .iw x | .ii x | .cap x | .fj _ x | .oe _ _ x | .cr x | .jk x=>opR x
 | .pick c a b | .mapUpdate _ c a b=>opR c++opR a++opR b
 | .alloc .. | .makeMap=>[]
 | .build _ u | .buildSlice _ _ _ u=>u.flatMap fun p=>opR p.2.2
 | .store _ a b | .bin _ a b | .isNil _ _ a b | .eqB _ a b | .dz _ _ a b | .makeSlice _ _ a b | .indexAddr _ a b | .bj _ _ a b | .index _ _ _ a b | .da a b | .lookup _ _ _ a b | .append _ _ a b | .bq _ _ a b | .ja _ a b=>opR a++opR b
 | .iv _ f c=>f.flatMap opR++c.flatMap opR
 | .slice _ x lo hi mx=>opR x++IM lo++IM hi++IM mx
 | .cw _ _ x lo hi=>opR x++IM lo++IM hi
 | .ep x lo hi=>opR x++IM lo++IM hi
 | .call f args=>opR f++args.flatMap opR
 | .max x xs | .min x xs=>opR x++xs.flatMap opR
def aw.names(o:aw):List Nat:=o.dst.toList++o.op.dh++(match o.guard with | some (t,_)=>[t] | none=>[])
def bB(o:Oper):List Nat:=(o.after.toList.filter (Region.binds .any)).map (·.on)
def pO:List Oper->List (List Nat)->List (List Nat)
 | [],u=>u
 | o::os,u=>pO os (u++[((bB o).flatMap fun j=>j::u.getD j []).eraseDups])
def sZ(ops:Array Oper)(o:Oper):Option aw:=
 match xL P o with
 | some y=>match o.guard with
  | none=>Iz ⟨o.dst,y,Ja,[]⟩
  | some (j,u)=>match (ops[j]?).bind (·.dst)with
   | some d=>Iz ⟨o.dst,y,Iz (d,u),[]⟩
   | none=>Ja
 | none=>Ja
def dL(u:List (List Nat))(i j:Nat):Bool:=(u.getD j []).contains i||(u.getD i []).contains j
def oH(x y:aw):Bool:=(x.op.effect&&y.op.reads)||(y.op.effect&&x.op.reads)
def iV(y:List (List Nat))(u:List aw):List aw:=
 u.zipIdx.map fun(o,i)=>{o with chk:=(Av i).filter fun j=>match u[j]? with
  | some p=> !dL y j i&&oH p o
  | none=>Jc}
def NI(B:Bool)(ops:List Oper)(y:List (List Nat))(u:List aw):Bool:=
 (B|| !Region.departs ops.toArray)&&
 (ops.zipIdx.all fun(o,i)=>(bB o).all (· <i))&&
 (u.zipIdx.all fun(o,i)=>u.zipIdx.all fun(p,j)=>
  i==j||((!(o.op.effect&&p.op.effect)||dL y i j)&&
   (match o.dst with | some d=> !p.names.contains d||dL y i j | none=>Jb)))
def iY(ops:Array Oper)(y:Bool):Option AC:=
 match eI (sZ P ops) ops.toList with
 | none=>Ja
 | some u=>
  if !y then Iz (.region u)else
  let B:=pO ops.toList []
  if NI (P.follows .mixedOrders) ops.toList B u then
   let l:=iV B u
   if l.all (fun o=>o.chk.isEmpty)then Iz (.region u)else Iz (.fe l)
  else Ja
def wW:Code->Bool
 | .goto _=>Jb
 | .seq a b | .cond _ a b | .rangeFunc _ _ a b=>wW a||wW b
 | .block _ c | .loop c | .scope c=>wW c
 | _=>Jc
def uF:Code->Option Nat
 | .seq a b=>match uF a with
  | some l=>Iz l
  | none=>uF b
 | .label l=>Iz l
 | _=>Ja
def trJ(l:Nat):Code->Option AC
 | .skip=>Iz .skip
 | .label _=>Iz .skip
 | .region _ ops u=>iY P ops u
 | .seq a b=>match trJ l a,trJ l b with
  | some x,Iz y=>Iz (.seq x y)
  | _,_=>Ja
 | .cond c a b=>match trR c,trJ l a,trJ l b with
  | some c,Iz x,Iz y=>Iz (.cond c x y)
  | _,_,_=>Ja
 | .goto B=>if B=l then Iz (.exit (1048576+l))else Ja
 | .exit id=>if id<1048576 then Iz (.exit id)else Ja
 | .ret=>Iz .ret
 | _=>Ja
def ZD(l:Nat)(x y:AC):AC:= .block (2097152+l) (.seq (.block (1048576+l) (.seq x (.exit (2097152+l)))) (.loop [] (.block (1048576+l) (.seq y (.exit (2097152+l))))))
def EB(b:Code):Option AC:=match uF b with
 | some l=>match findLabel b l with
  | some r=>match trJ P l b,trJ P l r with
   | some x,Iz y=>Iz (ZD l x y)
   | _,_=>Ja
  | none=>Ja
 | none=>Ja
def tr:Code->Option AC
 | .skip=>Iz .skip
 | .region _ ops u=>iY P ops u
 | .seq a b=>match tr a,tr b with
  | some x,Iz y=>Iz (.seq x y)
  | _,_=>Ja
 | .cond c a b=>match trR c,tr a,tr b with
  | some c,Iz x,Iz y=>Iz (.cond c x y)
  | _,_,_=>Ja
 | .block id b=>(tr b).map (.block id)
 | .loop b=>(tr b).map (.loop [])
 | .rangeFunc f E B b=>match trR f,tr B,tr b with
  | some f,Iz x,Iz y=>Iz (.rangeFunc f E.toList x y)
  | _,_,_=>Ja
 | .exit id=>Iz (.exit id)
 | .ret=>Iz .ret
 | .scope b=>if wW b then EB P b else tr b
 | .label _=>Iz .skip
 | _=>Ja
end
def aEg(l t:Nat):Nat:=l||| 2^t
def Z8(l t:Nat):Nat:=if l.testBit t then l-2^t else l
def sO(l:Nat)(u:List Nat):Nat:=u.foldl aEg l
def FH:List aw->Nat->Nat
 | [],u=>u
 | o::os,u=>
  let l:=FH os u
  let l:=match o.dst with | some d=>Z8 l d | none=>l
  sO (sO l o.op.dh) (match o.guard with | some (t,_)=>[t] | none=>[])
def live(E:Nat):AC->(u:Nat)->(ex:List (Nat×Nat))->(B:Nat)->Nat×AC
 | .skip,u,_,_=>(u,.skip)
 | .region ops,u,_,_=>(FH ops u,.region ops)
 | .fe ops,u,_,_=>(FH ops u,.fe ops)
 | .seq x y,u,ex,B=>
  let (l,K):=live E y u ex B
  let (G,I):=live E x l ex B
  (G,.seq I K)
 | .cond c x y,u,ex,B=>
  let (l,I):=live E x u ex B
  let (G,K):=live E y u ex B
  (sO (l||| G) (opR c),.cond c I K)
 | .block id x,u,ex,B=>
  let (l,I):=live E x u ((id,u)::ex) B
  (l,.block id I)
 | .loop _ x,_,ex,B=>
  let (l,_):=live E x 0 ex B
  let (G,I):=live E x l ex B
  (G,.loop ((Av E).filter fun t=> !G.testBit t) I)
 | .rangeFunc f M L b,u,ex,B=>
  let (l,O):=live E b 0 ex B
  let (G,J):=live E L l ex B
  (sO (u||| (M.foldl Z8 G)||| ex.foldl (fun s p=>s||| p.2) B) (opR f),.rangeFunc f M J O)
 | .exit id,_,ex,_=>(((ex.find? (·.1==id)).map (·.2)).getD 0,.exit id)
 | .ret,_,_,B=>(B,.ret)
def B5(P:Program):ResultVar->Option ll
 | .tmp t=>Iz (.tmp t)
 | .cell t u=>match nF P u,eM P u with
  | some Jb,Iz n=>Iz (.cells t n)
  | some Jc,_=>Iz (.cell t)
  | _,_=>Ja
def wP(l:List ll):Nat:=sO 0 (l.map fun | .tmp t=>t | .cell t=>t | .cells t _=>t)
def trFn(P:Program)(f:Func):Option AFn:=
 match f.body,eI (B5 P) f.results.toList with
 | some b,Iz u=>match tr P b with
  | some c=>Iz ⟨f.ntmps,u,(live f.ntmps c (wP u) [] (wP u)).2⟩
  | none=>Ja
 | _,_=>Ja
structure Loc where
 blk:Nat
 base:Nat
 lim:Nat
abbrev Emb:=Nat->Option Loc
def rR:Fn->Bool
 | .yield _=>Jc
 | .methodOf _ _=>Jc
 | _=>Jb
inductive VR (ρ:Emb):AV->Value->Prop
 | ae (u:Value):VR ρ .ae u
 | bool (b:Bool):VR ρ (.bool b) (.bool b)
 | int (k:IntKind) (n:Int):VR ρ (.int k n) (.int k n)
 | str (s:ByteArray):VR ρ (.str s) (.string s)
 | al:VR ρ .al (.pointer Ja)
 | ptr (b o:Nat) (l:Loc) (h:ρ b=Iz l):VR ρ (.ptr b o) (.pointer (Iz ⟨l.blk,l.base+o,Ja⟩))
 | ah:VR ρ .ah (.slice Ja 0 0)
 | slice (fl:Bool) (sz b o n cap:Nat) (ad:Addr) (h1:n<=cap) (h2:cap<=maxLen) (h3:fl=Jb->cap=n)
   (h4:0<cap->∃l,ρ b=Iz l/\ad=⟨l.blk,l.base+o,Ja⟩/\l.base+o+cap*sz<=l.lim):VR ρ (.slice fl sz b o n) (.slice (Iz ad) n cap)
 | bd:VR ρ .bd (.map Ja)
 | map (r:Nat) (l:Loc) (h:ρ r=Iz l):VR ρ (.map r) (.map (Iz l.blk))
 | func (fn:Fn) (f c:List AV) (f' c':List Value) (hp:rR fn=Jb) (hf:f'.length=f.length) (hc:c'.length=c.length)
   (h1:∀(i:Nat) (v:AV) (u:Value),f[i]? =Iz v->f'[i]? =Iz u->VR ρ v u) (h2:∀(i:Nat) (v:AV) (u:Value),c[i]? =Iz v->c'[i]? =Iz u->VR ρ v u):VR ρ (.func fn f c) (.func fn f'.toArray c'.toArray)
 | yield (r:Nat) (l:Loc) (h:ρ r=Iz l):VR ρ (.func (.yield r) [] []) (.func (.yield l.blk) #[] #[])
 | aq:VR ρ .aq .nilFunc
 | iface (t:TypeId) (v:AV) (u:Value) (h:VR ρ v u):VR ρ (.iface t v) (.iface t u)
 | af:VR ρ .af .nilIface
 | agg (cs:List AV) (us:List Value) (hl:us.length=cs.length) (h:∀(i:Nat) (v:AV) (u:Value),cs[i]? =Iz v->us[i]? =Iz u->VR ρ v u):VR ρ (.agg cs) (.agg us.toArray)
 | tuple (cs:List AV) (us:List Value) (hl:us.length=cs.length) (h:∀(i:Nat) (v:AV) (u:Value),cs[i]? =Iz v->us[i]? =Iz u->VR ρ v u):VR ρ (.tuple cs) (.tuple us.toArray)
def VRs(ρ:Emb)(cs:List AV)(y:List Value):Prop:=y.length=cs.length/\∀(i:Nat) (v:AV) (u:Value),cs[i]? =Iz v->y[i]? =Iz u->VR ρ v u
def Sub(ρ u:Emb):Prop:=∀x l,ρ x=Iz l->u x=Iz l
def Sub.refl(ρ:Emb):Sub ρ ρ:=fun _ _ h=>h
def Sub.trans{a b c:Emb}(h:Sub a b)(k:Sub b c):Sub a c:=fun x l e=>k x l (h x l e)
def VR.mono{ρ G:Emb}(hs:Sub ρ G){v:AV}{u:Value}(h:VR ρ v u):VR G v u:=by
 induction h with
 | ae u=>exact .ae u
 | bool b=>exact .bool b
 | int k n=>exact .int k n
 | str s=>exact .str s
 | al=>exact .al
 | ptr b o l h=>exact .ptr b o l (hs _ _ h)
 | ah=>exact .ah
 | slice fl sz b o n cap ad h1 h2 h3 h4=>exact .slice fl sz b o n cap ad h1 h2 h3 (fun hc=>let ⟨l,e,r⟩:=h4 hc;⟨l,hs _ _ e,r⟩)
 | bd=>exact .bd
 | map r l h=>exact .map r l (hs _ _ h)
 | func fn f c f' c' hp hf hc h1 h2 B E=>exact .func fn f c f' c' hp hf hc B E
 | yield r l h=>exact .yield r l (hs _ _ h)
 | aq=>exact .aq
 | iface t v u h y=>exact .iface t v u y
 | af=>exact .af
 | agg cs us hl h y=>exact .agg cs us hl y
 | tuple cs us hl h y=>exact .tuple cs us hl y
def VRs.mono{ρ y:Emb}(hs:Sub ρ y){cs:List AV}{B:List Value}(h:VRs ρ cs B):VRs y cs B:=⟨h.1,fun i v u a b=>(h.2 i v u a b).mono hs⟩
def VRs.nil(ρ:Emb):VRs ρ [] []:=⟨rfl,fun i v u h=>by simp at h⟩
def VRs.cons{ρ:Emb}{v:AV}{u:Value}{cs:List AV}{y:List Value}(h:VR ρ v u)(hs:VRs ρ cs y):VRs ρ (v::cs) (u::y):=by
 refine⟨by simp[hs.1],fun i a b h1 h2=>?_⟩
 cases i with
 | zero=>simp at h1 h2;subst h1;subst h2;exact h
 | succ i=>exact hs.2 i a b (by simpa using h1) (by simpa using h2)
def VRs.head{ρ:Emb}{v:AV}{u:Value}{cs:List AV}{y:List Value}(h:VRs ρ (v::cs) (u::y)):VR ρ v u:=h.2 0 v u rfl rfl
def VRs.tail{ρ:Emb}{v:AV}{u:Value}{cs:List AV}{y:List Value}(h:VRs ρ (v::cs) (u::y)):VRs ρ cs y:=
 ⟨by simpa using h.1,fun i a b h1 h2=>h.2 (i+1) a b (by simpa using h1) (by simpa using h2)⟩
def VRs.ct{ρ:Emb}{u:List Value}(h:VRs ρ [] u):u=[]:=by have:=h.1;simpa using this
def VRs.cons_inv{ρ:Emb}{v:AV}{cs:List AV}{B:List Value}(h:VRs ρ (v::cs) B):∃u y,B=u::y/\VR ρ v u/\VRs ρ cs y:=by
 cases B with
 | nil=>have:=h.1;simp at this
 | cons u y=>exact⟨u,y,rfl,h.head,h.tail⟩
def VRs.append{ρ:Emb} :∀{cs y:List AV} {E B:List Value},VRs ρ cs E->VRs ρ y B->VRs ρ (cs++y) (E++B)
 | [],_,E,_,h,G=>by rw[h.ct];exact G
 | v::cs,_,E,_,h,G=>by obtain⟨u,r,rfl,hv,hr⟩:=h.cons_inv;exact .cons hv (VRs.append hr G)
def VRs.getElem{ρ:Emb}{cs:List AV}{y:List Value}(h:VRs ρ cs y){i:Nat}{v:AV}(hv:cs[i]? =Iz v):∃u,y[i]? =Iz u/\VR ρ v u:=by
 have B:i<y.length:=by rw[h.1];exact(List.getElem?_eq_some_iff.1 hv).1
 exact⟨y[i],Ad B,h.2 i v _ hv (Ad B)⟩
def VRs.take{ρ:Emb}{cs:List AV}{y:List Value}(h:VRs ρ cs y)(n:Nat):VRs ρ (cs.take n) (y.take n):=by
 refine⟨by simp[h.1],fun i v u h1 h2=>?_⟩;rw[List.getElem?_take]at h1 h2;split at h1
 ·rename_i hlt;rw[if_pos hlt]at h2;exact h.2 i v u h1 h2
 ·cases h1
def VRs.drop{ρ:Emb}{cs:List AV}{y:List Value}(h:VRs ρ cs y)(n:Nat):VRs ρ (cs.drop n) (y.drop n):=by refine⟨by simp[h.1],fun i v u h1 h2=>?_⟩;rw[List.getElem?_drop]at h1 h2;exact h.2 (n+i) v u h1 h2
def VRs.pf{ρ:Emb}{cs:List AV}{u:List Value}(h:VRs ρ cs u):VR ρ (.agg cs) (.agg u.toArray):= .agg cs u h.1 h.2
def VRs.kj{ρ:Emb}{cs:List AV}{u:List Value}(h:VRs ρ cs u):VR ρ (.tuple cs) (.tuple u.toArray):= .tuple cs u h.1 h.2
def VRs.replicate{ρ:Emb}{v:AV}{u:Value}(h:VR ρ v u):∀n,VRs ρ (Ag n v) (Ag n u)
 | 0=>VRs.nil ρ
 | n+1=> .cons h (VRs.replicate h n)
def VR.ji{ρ:Emb}{cs:List AV}{u:Value}(h:VR ρ (.agg cs) u):∃us,u= .agg (He us)/\VRs ρ cs us:=by
 cases h with
 | agg _ us hl h=>exact⟨us,rfl,hl,h⟩
def VR.lu{ρ:Emb}{cs:List AV}{u:Value}(h:VR ρ (.tuple cs) u):∃us,u= .tuple (He us)/\VRs ρ cs us:=by
 cases h with
 | tuple _ us hl h=>exact⟨us,rfl,hl,h⟩
def VR.one{ρ:Emb}{v:AV}{u:Value}(h:VR ρ v u)(hv:v.one=Jb):u.oneCell'=Jb:=by cases h<;>first | rfl | (simp[AV.one]at hv)
def VR.cells{ρ:Emb}{v:AV}{u:Value}(h:VR ρ v u)(hv:v.cells.all AV.one=Jb):VRs ρ v.cells u.cells.toList/\∀x∈u.cells.toList,x.oneCell'=Jb:=by
 have y:∀{v:AV} {u:Value},VR ρ v u->v.one=Jb->VRs ρ [v] #[u].toList/\∀x∈#[u].toList,x.oneCell'=Jb:=fun h E=>⟨.cons h (.nil ρ),by simpa using h.one E⟩
 cases h with
 | agg cs us hl h=>
  refine⟨⟨hl,h⟩,fun x G=>?_⟩;obtain⟨i,I,e⟩:=Dt G;have B:i<cs.length:=by rw[<-hl];simpa [Value.cells]using I
  have h1:=h i cs[i] x (Ad B) (by rw[<-e];simp[Value.cells]);exact h1.one (by simpa using (List.all_eq_true.1 hv) cs[i] (List.getElem_mem B))
 | ae u=>simp[AV.cells,AV.one]at hv
 | tuple cs us hl h=>simp[AV.cells,AV.one]at hv
 | bool b=>exact y (.bool b) rfl
 | int k n=>exact y (.int k n) rfl
 | str s=>exact y (.str s) rfl
 | al=>exact y .al rfl
 | ptr b o l h=>exact y (.ptr b o l h) rfl
 | ah=>exact y .ah rfl
 | slice fl sz b o n cap ad h1 h2 h3 h4=>exact y (.slice fl sz b o n cap ad h1 h2 h3 h4) rfl
 | bd=>exact y .bd rfl
 | map r l h=>exact y (.map r l h) rfl
 | func fn f c f' c' hp hf hc h1 h2=>exact y (.func fn f c f' c' hp hf hc h1 h2) rfl
 | yield r l h=>exact y (.yield r l h) rfl
 | aq=>exact y .aq rfl
 | iface t v u h=>exact y (.iface t v u h) rfl
 | af=>exact y .af rfl
def TR(ρ:Emb)(a:List AV)(tmps:Array Value):Prop:=VRs ρ a tmps.toList
def hU:∀(a:List AV) (t:Nat),fp a t=(a[t]?).getD .ae
 | [],t=>by simp[fp]
 | v::l,0=>by simp[fp]
 | v::l,t+1=>by simp[fp,hU l t]
def vF:∀(a:List AV) (t:Nat) (v:AV),(iu a t v).length=a.length
 | [],_,_=>rfl
 | _::_,0,_=>rfl
 | _::l,t+1,v=>by simp[iu,vF l t v]
def wJ:∀(a:List AV) (t:Nat) (v:AV),iu a t v=a.set t v
 | [],_,_=>by simp[iu]
 | _::_,0,_=>by simp[iu]
 | _::l,t+1,v=>by simp[iu,wJ l t v]
def TR.get{ρ:Emb}{a:List AV}{tmps:Array Value}(h:TR ρ a tmps)(t:Nat):VR ρ (fp a t) (tmps.getD t undef):=by
 rw[hU]
 cases hv:a[t]? with
 | none=>exact .ae _
 | some v=>obtain⟨u,y,hr⟩:=h.getElem hv;simp_all
def TR.set{ρ:Emb}{a:List AV}{tmps:Array Value}(h:TR ρ a tmps)(t:Nat){v:AV}{u:Value}(hv:VR ρ v u):TR ρ (iu a t v) (tmps.setIfInBounds t u):=by
 rw[wJ];refine⟨by simpa using h.1,fun i x y h1 h2=>?_⟩;rw[Array.toList_setIfInBounds]at h2;rw[Eh]at h1 h2;by_cases e:t=i
 ·grind
 ·rw[if_neg e]at h1 h2;exact h.2 i x y h1 h2
def TR.ae{ρ:Emb}{a:List AV}{tmps:Array Value}(h:TR ρ a tmps)(t:Nat):TR ρ (iu a t .ae) tmps:=by
 rw[wJ];refine⟨by simpa using h.1,fun i x y h1 h2=>?_⟩;rw[Eh]at h1;by_cases e:t=i
 ·subst e;simp only[if_true]at h1;split at h1
  ·cases h1;exact .ae y
  ·cases h1
 ·rw[if_neg e]at h1;exact h.2 i x y h1 h2
def TR.ie{ρ:Emb}{tmps:Array Value} :∀(u:List Nat) {a:List AV},TR ρ a tmps->TR ρ (ie a u) tmps
 | [],_,h=>h
 | t::u,_,h=>TR.ie u (h.ae t)
def TR.put{ρ:Emb}{a:List AV}{y:Act}(h:TR ρ a y.tmps)(d:Option Nat){v:AV}{u:Value}(hv:VR ρ v u):TR ρ (put a d v) (y.put d u).tmps:=by
 cases d with
 | none=>exact h
 | some t=>exact h.set t hv
def TR.mono{ρ u:Emb}(hs:Sub ρ u){a:List AV}{tmps:Array Value}(h:TR ρ a tmps):TR u a tmps:=VRs.mono hs h
def gV{ρ:Emb}{u:Value}{v:AV}(h:gG u=Iz v):VR ρ v u/\v.one=Jb:=by
 unfold gG at h;split at h<;>first | (cases h;done) | skip
 all_goals (cases h)
 ·exact⟨.bool _,rfl⟩
 ·exact⟨.int _ _,rfl⟩
 ·exact⟨.str _,rfl⟩
 ·exact⟨.al,rfl⟩
 ·exact⟨.ah,rfl⟩
 ·exact⟨.bd,rfl⟩
 ·exact⟨.aq,rfl⟩
 ·exact⟨.af,rfl⟩
 ·exact⟨.func _ [] [] [] [] rfl rfl rfl (fun i v u h=>by simp at h) (fun i v u h=>by simp at h),rfl⟩
def eC{α β:Type}{f:α->Option β} :∀{l:List α} {r:List β},eI f l=Iz r->r.length=l.length
 | [],r,h=>by cases h;rfl
 | x::B,r,h=>by
  unfold eI at h;split at h
  ·rename_i y E G u;cases h;simp[eC u]
  ·cases h
def kI{α β:Type}{f:α->Option β} :∀{l:List α} {r:List β},eI f l=Iz r->∀(i:Nat) x y,l[i]? =Iz x->r[i]? =Iz y->f x=Iz y
 | [],r,h,i,x,y,u,B=>by simp at u
 | a::G,r,h,i,x,y,u,B=>by
  unfold eI at h;split at h
  ·rename_i z I hz E;cases h
   cases i with
   | zero=>simp at u B;subst u;subst B;exact hz
   | succ i=>exact kI E i x y (by simpa using u) (by simpa using B)
  ·cases h
def eP{ρ:Emb}{y:List Value}{cs:List AV}(h:eI gG y=Iz cs):VRs ρ cs y/\cs.all AV.one=Jb:=by have hl:=eC h;refine⟨⟨hl.symm,fun i v u h1 h2=>(gV (kI h i u v h2 h1)).1⟩,?_⟩;rw[List.all_eq_true];intro v hv;obtain⟨i,B,e⟩:=Dt hv;exact(gV (ρ:=ρ) (kI h i (y[i]'(by omega)) v (Ad (by omega)) (by rw[<-e];exact Ad B))).2
def LJ{ρ:Emb}{u:Value}{v:AV}(h:EE u=Iz v):VR ρ v u:=by
 unfold EE at h;split at h
 ·rename_i cs;simp only[Bt]at h;obtain⟨l,hl,rfl⟩:=h;exact(eP hl).1.pf
 ·rename_i t x;simp only[Bt]at h;obtain⟨l,hl,rfl⟩:=h;exact .iface _ _ _ (gV hl).1
 ·exact(gV h).1
def aX{ρ:Emb}{x:Operand}{r:AR}(h:trR x=Iz r){a:List AV}{y:Act}(ht:∀t∈opR r,VR ρ (fp a t) (y.tmps.getD t undef)):VR ρ (ev a r) (y.eval x):=by
 unfold trR at h;split at h
 ·cases h;exact ht _ (by simp[opR])
 ·simp only[Bt]at h;obtain⟨l,hl,rfl⟩:=h;exact LJ hl
 ·cases h;exact .func _ [] [] [] [] rfl rfl rfl (fun i v u h=>by simp at h) (fun i v u h=>by simp at h)
 ·cases h
def mP{ρ:Emb} :∀{E:List Operand} {B:List AR},BD E=Iz B->∀{a:List AV} {u:Act},(∀t∈B.flatMap opR,VR ρ (fp a t) (u.tmps.getD t undef))->VRs ρ (B.map (ev a)) (E.map u.eval)
 | [],B,h,a,u,ht=>by cases h;exact VRs.nil ρ
 | x::E,B,h,a,u,ht=>by
  unfold BD eI at h;split at h
  ·rename_i y J I G;cases h;simp only[List.flatMap_cons,List.mem_append]at ht;exact .cons (aX I fun t h=>ht t (.inl h)) (mP G fun t h=>ht t (.inr h))
  ·cases h
def nO(P:Program)(c:Code)(ac:AC):Prop:=∃y ex B u,tr P c=Iz y/\∃E,ac=(live E y u ex B).2
def aA7(P:Program)(l:Nat)(c:Code)(ac:AC):Prop:=∃y ex B u,trJ P l c=Iz y/\∃E,ac=(live E y u ex B).2
def Ex.jump:Ex->Option Code
 | .normal=>Ja
 | .ret=>Iz .ret
 | .exit id=>Iz (.exit id)
structure fy (P:Program) (ρ:Emb) (r:lm) (r':Loop):Prop where
 state:r'.state=r.state
 pending:r'.pending=r.pending.bind Ex.jump
 nc:r.pending≠Iz .normal
 tmps:TR ρ r.tmps r'.tmps
 params:r'.params.toList=r.params
 asg:nO P r'.assign r.assign
 body:nO P r'.body r.body
def OR(P:Program)(ρ:Emb)(w:World)(l:Loc):bz->Prop
 | .cells _ rw cs=>∃B E e,w.heap[l.blk]? =Iz (.cells B e E)/\B.size=l.lim/\l.base+cs.length<=B.size/\(rw=Jb->E=(0,0))/\
   (∀i v,cs[i]? =Iz v->∃u,B[l.base+i]? =Iz u/\VR ρ v u)
 | .map _ G=>∃entries y,w.heap[l.blk]? =Iz (.map entries y)/\VRs ρ (G.map (·.1)) (entries.toList.map (·.key))/\VRs ρ (G.map (·.2)) (entries.toList.map (·.val))
 | .loop _ r=>∃I,w.heap[l.blk]? =Iz (.loop I)/\fy P ρ r I
 | .dead=>True
def bz.bw:bz->Bool
 | .cells _ rw _=>rw
 | .map .. =>Jb
 | .loop .. =>Jb
 | .dead=>Jc
def bz.cg:bz->Bool
 | .dead=>Jc
 | _=>Jb
inductive GD where
 | ints (k:IntKind) (l:List Nat)
 | err
def GD.at:GD->List Value->Prop
 | .ints k l,cs=>cs=l.map fun n:Nat=>Value.int k n
 | .err,cs=>∃u y,cs=[.iface u y]
def aF7(s:String):Option GD:=
 if s= "math/bits.deBruijn64tab" then Iz (.ints .u8 [0,1,56,2,57,49,28,3,61,58,42,50,38,29,17,4,62,47,59,36,45,43,51,22,53,39,33,30,24,18,12,5,63,55,48,27,60,41,37,16,46,35,44,21,52,32,23,11,54,26,40,15,34,20,31,10,25,14,19,9,13,8,7,6])
 else if s= "internal/strconv.uint64pow10" then Iz (.ints .u64 [1,10,100,1000,10000,100000,1000000,10000000,100000000,1000000000,10000000000,100000000000,1000000000000,10000000000000,100000000000000,1000000000000000,10000000000000000,100000000000000000,1000000000000000000,10000000000000000000])
 else if s= "strconv.ErrRange" then Iz .err
 else if s= "strconv.ErrSyntax" then Iz .err
 else Ja
def gmem(P:Program)(b:Nat):Option GD:=(P.globals[b]?).bind fun g=>aF7 g.name
def GlbAt(P:Program)(w:World):Prop:=∀b l,gmem P b=Iz l->∃cs e u,w.heap[b]? =Iz (.cells cs e u)/\l.at cs.toList
def O3(P:Program)(ρ:Emb)(h:H):Prop:=∀b l,gmem P b=Iz l->∀x u y,ρ x=Iz u->h.get x=Iz y->y.bw=Jb->u.blk≠b
structure HR (P:Program) (ρ:Emb) (h:H) (w:World):Prop where
 gat:GlbAt P w
 ma:O3 P ρ h
 fb:∀x l,ρ x=Iz l->l.blk<w.heap.size
 obj:∀x l o,ρ x=Iz l->h.get x=Iz o->OR P ρ w l o
 inj:∀x y lx ly ox oy,ρ x=Iz lx->ρ y=Iz ly->h.get x=Iz ox->h.get y=Iz oy->ox.bw=Jb->oy.cg=Jb->x≠y->lx.blk≠ly.blk
def GlbAt.lt{P:Program}{w:World}(h:GlbAt P w){b:Nat}{l:GD}(hb:gmem P b=Iz l):b<w.heap.size:=by
 obtain⟨cs,e,u,h1,_⟩:=h b l hb
 grind
def GlbAt.none{P:Program}(h:(P.globals.toList.all fun g=>(aF7 g.name).isNone)=Jb)(w:World):GlbAt P w:=fun b l hb=>by
 unfold gmem at hb
 grind
def GlbAt.il{P:Program}{w w':World}(h:GlbAt P w)(hs:∀b l,gmem P b=Iz l->b<w.heap.size->w'.heap[b]? =w.heap[b]?):GlbAt P w':=fun b l hb=>by
 obtain⟨cs,e,u,h1,h2⟩:=h b l hb
 grind
def fy.mono{P:Program}{ρ u:Emb}(hs:Sub ρ u){r:lm}{r':Loop}(h:fy P ρ r r'):fy P u r r':=
 ⟨h.state,h.pending,h.nc,h.tmps.mono hs,h.params,h.asg,h.body⟩
def OR.mono{P:Program}{ρ y:Emb}{w w':World}{l:Loc}{o:bz}(hs:Sub ρ y)(hw:w'.heap[l.blk]? =w.heap[l.blk]?)(h:OR P ρ w l o):OR P y w' l o:=by
 cases o with
 | cells v rw cs=>obtain⟨B,E,e,h1,h2,G,I,J⟩:=h;exact⟨B,E,e,by rw[hw];exact h1,h2,G,I,fun i v hv=>let ⟨u,a,b⟩:=J i v hv;⟨u,a,b.mono hs⟩⟩
 | map v M=>obtain⟨K,ck,h1,h2,h3⟩:=h;exact⟨K,ck,by rw[hw];exact h1,h2.mono hs,h3.mono hs⟩
 | loop v r=>obtain⟨L,h1,h2⟩:=h;exact⟨L,by rw[hw];exact h1,h2.mono hs⟩
 | dead=>trivial
def OR.lt{P:Program}{ρ:Emb}{w:World}{l:Loc}{o:bz}(h:OR P ρ w l o)(hl:o.cg=Jb):l.blk<w.heap.size:=by
 cases o with
 | cells v rw cs=>obtain⟨u,y,e,h1,_⟩:=h;exact(Array.getElem?_eq_some_iff.1 h1).1
 | map v B=>obtain⟨E,ck,h1,_⟩:=h;exact(Array.getElem?_eq_some_iff.1 h1).1
 | loop v r=>obtain⟨G,h1,_⟩:=h;exact(Array.getElem?_eq_some_iff.1 h1).1
 | dead=>simp[bz.cg]at hl
def bz.eh{o:bz}(h:o.bw=Jb):o.cg=Jb:=by cases o<;>simp_all [bz.bw,bz.cg]
structure Stp (ρ:Emb) (h:H) (w:World) (ρ':Emb) (h':H) (w':World):Prop where
 sub:Sub ρ ρ'
 dom:∀x l,ρ' x=Iz l->ρ x=Iz l\/(h.next<=x/\x<h'.next)
 own:∀x l,ρ' x=Iz l->ρ x=Iz l\/w.heap.size<=l.blk\/(∃y ly oy,ρ y=Iz ly/\h.get y=Iz oy/\oy.bw=Jb/\l.blk=ly.blk)
 size:w.heap.size<=w'.heap.size
 os:w'.os=w.os
 tape:w'.tape=w.tape
 output:w'.output=w.output
 frame:∀b,b<w.heap.size->(∀x l o,ρ x=Iz l->h.get x=Iz o->o.bw=Jb->l.blk≠b)->w'.heap[b]? =w.heap[b]?
def Stp.refl(ρ:Emb)(h:H)(w:World):Stp ρ h w ρ h w:=⟨Sub.refl ρ,fun _ _ h=> .inl h,fun _ _ h=> .inl h,Ac _,rfl,rfl,rfl,fun _ _ _=>rfl⟩
def bz.kind:bz->Nat
 | .cells .. =>0
 | .map .. =>1
 | .loop .. =>2
 | .dead=>3
def later(o u:bz):Prop:=o=u\/(u= .dead/\o.kind=0)\/(∃v y,o.ver=Iz v/\u.ver=Iz y/\v<y/\o.bw=Jb/\u.bw=Jb/\o.kind=u.kind)
structure Ev (h h':H):Prop where
 next:h.next<=h'.next
 il:∀x o,h.get x=Iz o->∃o',h'.get x=Iz o'/\later o o'/\(o.bw=Jc->o=o')
 back:∀x o',h'.get x=Iz o'->x<h.next->∃o,h.get x=Iz o
def later.refl(o:bz):later o o:= .inl rfl
def later.trans{a b c:bz}(h:later a b)(k:later b c):later a c:=by
 rcases h with rfl | ⟨rfl,B⟩ | ⟨v,E,h1,h2,h3,G,I,y⟩
 ·exact k
 ·rcases k with rfl | ⟨rfl,_⟩ | ⟨v,E,k1,_⟩
  ·exact .inr (.inl ⟨rfl,B⟩)
  ·exact .inr (.inl ⟨rfl,B⟩)
  ·simp[bz.ver]at k1
 ·rcases k with rfl | ⟨rfl,J⟩ | ⟨u,K,k1,k2,O,Q,L,M⟩
  ·exact .inr (.inr ⟨v,E,h1,h2,h3,G,I,y⟩)
  ·exact .inr (.inl ⟨rfl,y.trans J⟩)
  ·rw[h2]at k1;cases k1;exact .inr (.inr ⟨v,K,h1,k2,by omega,G,L,y.trans M⟩)
def Ev.refl(h:H):Ev h h:=⟨Ac _,fun x o u=>⟨o,u,later.refl o,fun _=>rfl⟩,fun x o u _=>⟨o,u⟩⟩
def Ev.trans{a b c:H}(h:Ev a b)(k:Ev b c):Ev a c:=by
 refine⟨Ah h.next k.next,fun x o u=>?_,fun x o u B=>?_⟩
 ·obtain⟨y,h1,E,G⟩:=h.il x o u;obtain⟨I,h2,J,K⟩:=k.il x y h1;exact⟨I,h2,E.trans J,fun hr=>by have:=G hr;subst this;exact K hr⟩
 ·obtain⟨y,h1⟩:=k.back x o u (Bg B h.next);exact h.back x y h1 B
def Ev.alloc(h:H)(o:bz):Ev h (h.alloc o):=
 ⟨by simp,fun x o' u=>⟨o',H.fc u,later.refl o',fun _=>rfl⟩,fun x o' u y=>by rw[H.au,if_neg (by omega)]at u;exact⟨o',u⟩⟩
def Ev.set{h:H}{x:Nat}{o o':bz}(hg:h.get x=Iz o)(hl:later o o')(hr:o.bw=Jb):Ev h (h.set x o'):=by
 refine⟨by simp,fun y B u=>?_,fun y B u E=>?_⟩
 ·by_cases e:y=x
  ·subst e;rw[hg]at u;cases u;exact⟨o',H.get_set_same hg,hl,fun h0=>by rw[h0]at hr;cases hr⟩
  ·exact⟨B,by rw[H.bf e];exact u,later.refl B,fun _=>rfl⟩
 ·by_cases e:y=x
  ·grind
  ·rw[H.bf e]at u;exact⟨B,u⟩
def Ev.same{h h':H}(hv:Ev h h'){x:Nat}(hs:fX h h' x=Jb)(B:x<h.next):h'.get x=h.get x:=by
 unfold fX H.ver at hs;rw[if_pos B]at hs
 cases hg:h.get x with
 | none=>
  cases y:h'.get x with
  | none=>rfl
  | some o'=>obtain⟨o,E⟩:=hv.back x o' y B;rw[hg]at E;cases E
 | some o=>
  obtain⟨o',u,hl,_⟩:=hv.il x o hg;rw[hg,u]at hs;rw[u];simp only[Option.bind_some,beq_iff_eq]at hs;rcases hl with rfl | ⟨rfl,_⟩ | ⟨v,G,h1,h2,h3,_⟩
  ·rfl
  ·cases o<;>simp[bz.ver]at hs;rfl
  grind
def Ev.pz{h h':H}(hv:Ev h h'){x:Nat}{v:Nat}{q:lm}(hg:h.get x=Iz (.loop v q)):∃B E,h'.get x=Iz (.loop B E):=by
 obtain⟨o',G,hl,_⟩:=hv.il x _ hg;rcases hl with rfl | ⟨rfl,y⟩ | ⟨u,I,_,_,_,_,_,y⟩
 ·grind
 ·simp[bz.kind]at y
 ·cases o'<;>simp[bz.kind]at y
  grind
def Ev.jo{h h':H}(hv:Ev h h'){x:Nat}{o':bz}(hg:h'.get x=Iz o')(u:x<h.next)(hr:o'.bw=Jb):∃o,h.get x=Iz o/\o.bw=Jb:=by
 obtain⟨o,y⟩:=hv.back x o' hg u;obtain⟨B,h2,hl,E⟩:=hv.il x o y
 grind
def Ev.nr{h h':H}(hv:Ev h h'){x:Nat}{o':bz}(hg:h'.get x=Iz o')(y:x<h.next)(hr:o'.cg=Jb):∃o,h.get x=Iz o/\o.cg=Jb:=by
 obtain⟨o,u⟩:=hv.back x o' hg y;obtain⟨E,h2,hl,G⟩:=hv.il x o u;rw[hg]at h2;cases h2;refine⟨o,u,?_⟩;rcases hl with rfl | ⟨rfl,_⟩ | ⟨v,I,_,_,_,B,_⟩
 ·exact hr
 ·simp[bz.cg]at hr
 ·exact bz.eh B
def Stp.trans{ρ J S:Emb}{h h1 h2:H}{w T U:World}(a:Stp ρ h w J h1 T)(b:Stp J h1 T S h2 U)(V:Ev h h1)(Y:Ev h1 h2)
  (K:∀x,h.next<=x->x<h2.next->ρ x=Ja):Stp ρ h w S h2 U:=by
 have a0:∀y ly oy,J y=Iz ly->h1.get y=Iz oy->oy.bw=Jb->(∃E,ρ y=Iz ly/\h.get y=Iz E/\E.bw=Jb)\/w.heap.size<=ly.blk\/(∃z Z oz,ρ z=Iz Z/\h.get z=Iz oz/\oz.bw=Jb/\ly.blk=Z.blk):=by
  intro y ly oy L u G;rcases a.own y ly L with M | M | M
  ·by_cases hlt:y<h.next
   ·obtain⟨o0,a1,a2⟩:=V.jo u hlt G;simp_all
   ·have:=K y (by omega) (Bg (H.be u) Y.next)
    grind
  all_goals grind
 refine⟨a.sub.trans b.sub,fun x l I=>?_,fun x l I=>?_,Ah a.size b.size,b.os.trans a.os,b.tape.trans a.tape,b.output.trans a.output,fun c hc O=>?_⟩
 ·rcases b.dom x l I with B | ⟨p,q⟩
  ·rcases a.dom x l B with Q | ⟨p,q⟩
   ·exact .inl Q
   ·exact .inr ⟨p,Bg q Y.next⟩
  ·exact .inr ⟨Ah V.next p,q⟩
 ·rcases b.own x l I with B | R | ⟨y,ly,oy,M,u,G,e⟩
  ·exact a.own x l B
  ·exact .inr (.inl (Ah a.size R))
  ·grind
 ·rw[<-a.frame c hc O];refine b.frame c (Bg hc a.size) fun x l o I hg hr e=>?_
  grind
def upd(ρ:Emb)(x:Nat)(l:Loc):Emb:=fun y=>if y=x then Iz l else ρ y
def bA(ρ:Emb)(x:Nat)(l:Loc):upd ρ x l x=Iz l:=by simp[upd]
def bO{ρ:Emb}{x y:Nat}{l:Loc}(h:y≠x):upd ρ x l y=ρ y:=by simp[upd,h]
def gM{ρ:Emb}{x:Nat}{l:Loc}(h:ρ x=Ja):Sub ρ (upd ρ x l):=fun y B u=>by
 by_cases e:y=x
 ·grind
 ·rw[bO e];exact u
def HR.alloc{P:Program}{ρ:Emb}{h:H}{w:World}{o:Obj}{ao:bz}{l:Loc}(hr:HR P ρ h w)(O:ρ h.next=Ja)(hb:l.blk=w.heap.size)
  (S:OR P (upd ρ h.next l) (w.alloc o) l ao):HR P (upd ρ h.next l) (h.alloc ao) (w.alloc o)/\Stp ρ h w (upd ρ h.next l) (h.alloc ao) (w.alloc o):=by
 have E:∀b,b<w.heap.size->(w.alloc o).heap[b]? =w.heap[b]? :=fun b hb=>RowKit.Below.heap_alloc w o b hb;have hs:=gM (l:=l) O;refine⟨⟨hr.gat.il fun b l hb hlt=>E b hlt,fun b l K x lx ox u hg Q=>?_,fun x lx u=>?_,fun x lx ox u hg=>?_,fun x y lx ly ox oy u J G B L M I=>?_⟩,⟨hs,fun x lx u=>?_,fun x lx u=>?_,by simp,rfl,rfl,rfl,fun b hb _=>E b hb⟩⟩
 ·by_cases e:x=h.next
  ·subst e;rw[bA]at u;cases u;have:=hr.gat.lt K;omega
  ·rw[bO e]at u;rw[H.au,if_neg e]at hg;exact hr.ma b l K x lx ox u hg Q
 ·by_cases e:x=h.next
  ·subst e;rw[bA]at u;cases u;simp;omega
  ·rw[bO e]at u;have:=hr.fb x lx u;simp;omega
 ·by_cases e:x=h.next
  ·subst e;rw[bA]at u;cases u;rw[H.aj]at hg;cases hg;exact S
  ·rw[bO e]at u;rw[H.au,if_neg e]at hg;have h0:=hr.obj x lx ox u hg
   cases hl:ox.cg with
   | true=>exact h0.mono hs (E _ (h0.lt hl))
   | false=>cases ox<;>first | trivial | (simp[bz.cg]at hl)
 ·by_cases ex:x=h.next
  ·subst ex;rw[bA]at u;cases u;rw[bO (Ne.symm I)]at J;rw[H.au,if_neg (Ne.symm I)]at B;have:=(hr.obj y ly oy J B).lt M;omega
  ·rw[bO ex]at u;rw[H.au,if_neg ex]at G;by_cases R:y=h.next
   ·subst R;rw[bA]at J;cases J;have:=(hr.obj x lx ox u G).lt (bz.eh L);omega
   ·rw[bO R]at J;rw[H.au,if_neg R]at B;exact hr.inj x y lx ly ox oy u J G B L M I
 ·by_cases e:x=h.next
  ·simp_all
  ·rw[bO e]at u;exact .inl u
 ·by_cases e:x=h.next
  ·subst e;rw[bA]at u;cases u;exact .inr (.inl (by omega))
  ·rw[bO e]at u;exact .inl u
def HR.turn{P:Program}{ρ:Emb}{h:H}{w w':World}{x:Nat}{l:Loc}{o o':bz}(hr:HR P ρ h w)(G:ρ x=Iz l)(hg:h.get x=Iz o)(E:o.bw=Jb)
  (a0:w'.heap.size=w.heap.size) (Q:w'.os=w.os) (R:w'.tape=w.tape) (S:w'.output=w.output)
  (L:∀b,b≠l.blk->w'.heap[b]? =w.heap[b]?) (ho:OR P ρ w' l o'):HR P ρ (h.set x o') w'/\Stp ρ h w ρ (h.set x o') w':=by
 refine⟨⟨hr.gat.il fun b O hb hlt=>L b fun e=>hr.ma b O hb x l o G hg E e.symm,fun b O hb y ly oy B u I=>?_,fun y ly B=>by have:=hr.fb y ly B;omega,fun y ly oy B u=>?_,fun y z ly U oy V B hz u J I M K=>?_⟩,⟨Sub.refl ρ,fun _ _ h=> .inl h,fun _ _ h=> .inl h,by omega,Q,R,S,fun b hb T=>L b fun e=>T x l o G hg E e.symm⟩⟩
 ·by_cases e:y=x
  ·subst e;rw[G]at B;cases B;exact hr.ma b O hb y l o G hg E
  ·rw[H.bf e]at u;exact hr.ma b O hb y ly oy B u I
 ·by_cases e:y=x
  ·subst e;rw[G]at B;cases B;rw[H.get_set_same hg]at u;cases u;exact ho
  ·rw[H.bf e]at u;have h0:=hr.obj y ly oy B u
   cases hl:oy.cg with
   | true=>exact h0.mono (Sub.refl ρ) (L _ fun e'=>hr.inj x y l ly o oy G B hg u E hl (Ne.symm e) e'.symm)
   | false=>cases oy<;>first | trivial | (simp[bz.cg]at hl)
 ·by_cases Y:y=x
  ·subst Y;rw[G]at B;cases B;rw[H.bf (Ne.symm K)]at J;exact hr.inj y z l U o V G hz hg J E M K
  ·rw[H.bf Y]at u;by_cases Z:z=x
   ·subst Z;rw[G]at hz;cases hz;exact hr.inj y z ly l oy o B G u hg I (bz.eh E) K
   ·rw[H.bf Z]at J;exact hr.inj y z ly U oy V B hz u J I M K
end Go.Am

