/- The abstract machine: a small deterministic machine for the translated programs: values without capacities and addresses, a heap of numbered objects, operations in the order of the text. Nothing is claimed of a program here: these are definitions and plain lemmas on them. -/
import GoSem.Core.Sem
import GoSem.Core.Region
import Derived.KernelRfl
namespace Go.Am
inductive AV where
 | junk
 | bool (b:Bool)
 | int (k:IntKind) (n:Int)
 | str (s:ByteArray)
 | nilptr
 | ptr (b o:Nat)
 | nilslice
 | slice (fl:Bool) (sz b o n:Nat)
 | nilmap
 | map (r:Nat)
 | func (fn:Fn) (first captured:List AV)
 | nilfunc
 | iface (t:TypeId) (v:AV)
 | niliface
 | agg (cs:List AV)
 | tuple (vs:List AV)
 deriving Inhabited
abbrev i64(n:Int):AV:= .int .i64 n
abbrev u8(n:Int):AV:= .int .u8 n
inductive AR where
 | tmp (t:Nat)
 | const (v:AV)
 deriving Inhabited
inductive AO where
 | move (x:AR)
 | pick (c a b:AR)
 | alloc (cells:List AV)
 | box (x:AR)
 | build (zero:List AV) (parts:List (Nat×Nat×AR))
 | buildSlice (size len:Nat) (zero:List AV) (parts:List (Nat×Nat×AR))
 | load (x:AR)
 | loadAgg (n:Nat) (x:AR)
 | store (n:Nat) (a x:AR)
 | nilCheck (x:AR)
 | bin (op:BinOp) (x y:AR)
 | eqB (neg:Bool) (x y:AR)
 | isNil (kd:Nat) (neg:Bool) (x y:AR)
 | eqCells (neg:Bool) (T:List (Option IntKind)) (x y:AR)
 | un (op:UnOp) (x:AR)
 | convInt (k:IntKind) (x:AR)
 | convStr (x:AR)
 | bytesToStr (x:AR)
 | mkIface (t:TypeId) (x:AR)
 | mkFunc (fn:Fn) (first captured:List AR)
 | makeMap
 | makeSlice (bytes:Nat) (zero:List AV) (len cap:AR)
 | slice (size:Nat) (x:AR) (lo hi mx:Option AR)
 | sliceArr (len size:Nat) (x:AR) (lo hi:Option AR)
 | sliceStr (x:AR) (lo hi:Option AR)
 | fieldAddr (off:Nat) (x:AR)
 | field (off:Nat) (n:Option Nat) (x:AR)
 | indexAddr (size:Nat) (x i:AR)
 | indexAddrA (len size:Nat) (x i:AR)
 | index (len size:Nat) (isAgg:Bool) (x i:AR)
 | indexStr (x i:AR)
 | lookup (kd:Nat) (commaOk:Bool) (zero:AV) (x i:AR)
 | mapUpdate (kd:Nat) (m k v:AR)
 | extract (x:AR) (i:Nat)
 | call (f:AR) (args:List AR)
 | append (size bytes:Nat) (s x:AR)
 | appendMake (bytes:Nat) (zero:List AV) (s n:AR)
 | copyS (size:Nat) (d x:AR)
 | clearS (zero:List AV) (x:AR)
 | len (x:AR)
 | lenStr (x:AR)
 | lenMap (x:AR)
 | cap (x:AR)
 | max (x:AR) (xs:List AR)
 | min (x:AR) (xs:List AR)
 | asTo (t:TypeId) (zero:AV) (x:AR)
 | strToBytes (x:AR)
 deriving Inhabited
def AO.effect:AO->Bool
 | .store .. | .mapUpdate .. | .call .. | .append .. | .appendMake .. | .copyS .. | .clearS .. | .strToBytes .. =>true
 | _=>false
structure AOper where
 dst:Option Nat
 op:AO
 guard:Option (Nat×Bool)
 chk:List Nat
 deriving Inhabited
inductive AC where
 | skip
 | region (ops:List AOper)
 | regionD (ops:List AOper)
 | seq (a b:AC)
 | cond (c:AR) (thn els:AC)
 | block (id:Nat) (body:AC)
 | loop (scratch:List Nat) (body:AC)
 | rangeFunc (f:AR) (params:List Nat) (assign body:AC)
 | exit (id:Nat)
 | ret
 deriving Inhabited
inductive Ex where
 | normal | ret | exit (id:Nat)
 deriving Inhabited,DecidableEq
structure ALoop where
 state:LoopState
 pending:Option Ex
 tmps:List AV
 params:List Nat
 assign:AC
 body:AC
 deriving Inhabited
inductive AObj where
 | cells (ver:Nat) (rw:Bool) (cs:List AV)
 | map (ver:Nat) (es:List (AV×AV))
 | loop (ver:Nat) (r:ALoop)
 | dead
 deriving Inhabited
inductive HT where
 | leaf
 | node (v:Option AObj) (l r:HT)
def HT.get:HT->Nat->Option AObj
 | .leaf,_=>none
 | .node v l r,i=>if i=0 then v else if i % 2=1 then l.get (i / 2)else r.get (i / 2-1)
def HT.set(o:AObj):Nat->HT->Nat->HT
 | 0,t,_=>t
 | fuel+1,.leaf,i=>if i=0 then .node (some o) .leaf .leaf else if i % 2=1 then .node none (HT.set o fuel .leaf (i / 2)) .leaf else .node none .leaf (HT.set o fuel .leaf (i / 2-1))
 | fuel+1,.node v l r,i=>if i=0 then .node (some o) l r else if i % 2=1 then .node v (HT.set o fuel l (i / 2)) r else .node v l (HT.set o fuel r (i / 2-1))
theorem HT.get_set(o:AObj):∀(fuel:Nat) (t:HT) (i j:Nat),i<fuel->(HT.set o fuel t i).get j=if j=i then some o else t.get j:=by
 intro fuel
 induction fuel with
 | zero=>intro t i j h;omega
 | succ fuel ih=>
  intro t i j h;have key:∀(v:Option AObj) (l r:HT),(∀j,(HT.node v l r).get j=t.get j)->
    (if i=0 then HT.node (some o) l r else if i % 2=1 then HT.node v (HT.set o fuel l (i / 2)) r else HT.node v l (HT.set o fuel r (i / 2-1))).get j=if j=i then some o else t.get j:=by
   intro v l r ht;by_cases h0:i=0
   ·subst h0;simp only[if_true];by_cases hj:j=0
    ·subst hj;simp[HT.get]
    ·rw[if_neg hj,<-ht j];simp[HT.get,hj]
   ·rw[if_neg h0];by_cases h1:i % 2=1
    ·rw[if_pos h1];by_cases hj0:j=0
     ·subst hj0;rw[if_neg (by omega),<-ht 0];simp[HT.get]
     ·by_cases hj1:j % 2=1
      ·simp only[HT.get,hj0,hj1,if_true,if_false];rw[ih l (i / 2) (j / 2) (by omega)];by_cases e:j=i
       ·subst e;simp
       ·rw[if_neg (by omega),if_neg e,<-ht j];simp[HT.get,hj0,hj1]
      ·rw[if_neg (by omega),<-ht j];simp[HT.get,hj0,hj1]
    ·rw[if_neg h1];by_cases hj0:j=0
     ·subst hj0;rw[if_neg (by omega),<-ht 0];simp[HT.get]
     ·by_cases hj1:j % 2=1
      ·rw[if_neg (by omega),<-ht j];simp[HT.get,hj0,hj1]
      ·simp only[HT.get,hj0,hj1,if_false];rw[ih r (i / 2-1) (j / 2-1) (by omega)];by_cases e:j=i
       ·subst e;simp
       ·rw[if_neg (by omega),if_neg e,<-ht j];simp[HT.get,hj0,hj1]
  cases t with
  | leaf=>have:=key none .leaf .leaf (fun j=>by simp[HT.get]);simpa [HT.set]using this
  | node v l r=>have:=key v l r (fun _=>rfl);simpa [HT.set]using this
structure H where
 next:Nat
 t:HT
def H.empty:H:=⟨0,.leaf⟩
def H.get(h:H)(i:Nat):Option AObj:=if i<h.next then h.t.get i else none
def H.alloc(h:H)(o:AObj):H:=⟨h.next+1,HT.set o (h.next+1) h.t h.next⟩
def H.set(h:H)(i:Nat)(o:AObj):H:=⟨h.next,HT.set o (i+1) h.t i⟩
theorem H.lt_of_get{h:H}{i:Nat}{o:AObj}(hg:h.get i=some o):i<h.next:=by
 unfold H.get at hg;by_cases hi:i<h.next
 ·exact hi
 ·rw[if_neg hi]at hg;cases hg
@[simp] theorem H.next_alloc(h:H)(o:AObj):(h.alloc o).next=h.next+1:=rfl
@[simp] theorem H.next_set(h:H)(i:Nat)(o:AObj):(h.set i o).next=h.next:=rfl
theorem H.get_alloc(h:H)(o:AObj)(i:Nat):(h.alloc o).get i=if i=h.next then some o else h.get i:=by
 unfold H.get H.alloc;simp only;by_cases e:i=h.next
 ·subst e;rw[if_pos (by omega),if_pos rfl,HT.get_set _ _ _ _ _ (by omega),if_pos rfl]
 ·rw[if_neg e];by_cases hi:i<h.next
  ·rw[if_pos (by omega),if_pos hi,HT.get_set _ _ _ _ _ (by omega),if_neg e]
  ·rw[if_neg (by omega),if_neg hi]
theorem H.get_set(h:H)(j:Nat)(o:AObj)(i:Nat):(h.set j o).get i=if i=j/\j<h.next then some o else h.get i:=by
 unfold H.get H.set;simp only;by_cases hi:i<h.next
 ·rw[if_pos hi,if_pos hi,HT.get_set _ _ _ _ _ (by omega)];by_cases e:i=j
  ·subst e;simp[hi]
  ·simp[e]
 ·rw[if_neg hi,if_neg hi,if_neg];rintro⟨rfl,h2⟩;exact hi h2
theorem H.get_alloc_old{h:H}{o o':AObj}{i:Nat}(hg:h.get i=some o'):(h.alloc o).get i=some o':=by rw[H.get_alloc,if_neg (by have:=H.lt_of_get hg;omega)];exact hg
theorem H.get_alloc_new(h:H)(o:AObj):(h.alloc o).get h.next=some o:=by rw[H.get_alloc,if_pos rfl]
theorem H.get_set_same{h:H}{o o':AObj}{i:Nat}(hg:h.get i=some o'):(h.set i o).get i=some o:=by rw[H.get_set,if_pos ⟨rfl,H.lt_of_get hg⟩]
theorem H.get_set_ne{h:H}{o:AObj}{i j:Nat}(hne:i≠j):(h.set j o).get i=h.get i:=by rw[H.get_set,if_neg (fun e=>hne e.1)]
def AObj.ver:AObj->Option Nat
 | .cells v _ _=>some v
 | .map v _=>some v
 | .loop v _=>some v
 | .dead=>none
def H.ver(h:H)(i:Nat):Option Nat:=(h.get i).bind AObj.ver
def tget:List AV->Nat->AV
 | [],_=> .junk
 | v::_,0=>v
 | _::l,n+1=>tget l n
def tset:List AV->Nat->AV->List AV
 | [],_,_=>[]
 | _::l,0,v=>v::l
 | x::l,n+1,v=>x::tset l n v
def ev(a:List AV):AR->AV
 | .tmp t=>tget a t
 | .const v=>v
def put(a:List AV):Option Nat->AV->List AV
 | some d,v=>tset a d v
 | none,_=>a
def scrub(a:List AV):List Nat->List AV
 | []=>a
 | t::l=>scrub (tset a t .junk) l
def cB(op:BinOp)(k:IntKind)(x y:Int):Option AV:=
 match op with
 | .add=>some (.int k (k.wrap (x+y)))
 | .sub=>some (.int k (k.wrap (x-y)))
 | .mul=>some (.int k (k.wrap (x*y)))
 | .quo=>if y=0 then none else some (.int k (k.wrap (x.tdiv y)))
 | .rem=>if y=0 then none else some (.int k (x.tmod y))
 | .and=>some (.int k (k.wrap (BitVec.ofInt k.bits x&&& BitVec.ofInt k.bits y).toNat))
 | .or=>some (.int k (k.wrap (BitVec.ofInt k.bits x||| BitVec.ofInt k.bits y).toNat))
 | .xor=>some (.int k (k.wrap (BitVec.ofInt k.bits x^^^BitVec.ofInt k.bits y).toNat))
 | .andNot=>some (.int k (k.wrap (BitVec.ofInt k.bits x&&& ~~~ BitVec.ofInt k.bits y).toNat))
 | .eql=>some (.bool (x==y))
 | .neq=>some (.bool (x !=y))
 | .lss=>some (.bool (decide (x<y)))
 | .leq=>some (.bool (decide (x<=y)))
 | .gtr=>some (.bool (decide (x>y)))
 | .geq=>some (.bool (decide (x>=y)))
 | .shl | .shr=>none
def sC(op:BinOp)(k:IntKind)(x y:Int):Option AV:=
 if y<0 then none else
 match op with
 | .shl=>some (.int k (k.wrap (x*2^(min y.toNat k.bits))))
 | .shr=>some (.int k (x.fdiv (2^(min y.toNat k.bits))))
 | _=>none
def bF:BinOp->Bool
 | .shl | .shr=>true
 | _=>false
def eB(op:BinOp):AV->AV->Option AV
 | .int k x,.int k' y=>if bF op then sC op k x y else if k=k' then cB op k x y else none
 | .str x,.str y=>match op with
  | .eql=>some (.bool (x.toList==y.toList))
  | .neq=>some (.bool (!(x.toList==y.toList)))
  | .add=>if((x.size+y.size:Nat):Int)>IntKind.i64.max then none else some (.str (x++y))
  | _=>none
 | _,_=>none
def aun(op:UnOp):AV->Option AV
 | .int k x=>match op with
  | .neg=>some (.int k (k.wrap (0-x)))
  | .xor=>some (.int k (k.wrap (BitVec.ofInt k.bits (if k.signed then-1 else k.max)^^^BitVec.ofInt k.bits x).toNat))
  | _=>none
 | .bool b=>match op with
  | .not=>some (.bool (!b))
  | _=>none
 | _=>none
def U2:Nat->AV->AV->Option Bool
 | 0,.nilslice,.nilslice=>some true
 | 0,.nilslice,.slice .. =>some false
 | 0,.slice ..,.nilslice=>some false
 | 1,.nilptr,.nilptr=>some true
 | 1,.nilptr,.ptr .. =>some false
 | 1,.ptr ..,.nilptr=>some false
 | 2,.nilmap,.nilmap=>some true
 | 2,.nilmap,.map _=>some false
 | 2,.map _,.nilmap=>some false
 | 3,.nilfunc,.nilfunc=>some true
 | 3,.nilfunc,.func .. =>some false
 | 3,.func ..,.nilfunc=>some false
 | 4,.niliface,.niliface=>some true
 | 4,.niliface,.iface .. =>some false
 | 4,.iface ..,.niliface=>some false
 | _,_,_=>none
def T7:IntKind->Int->Bool
 | .i8,n=>decide (-128<=n)&&decide (n<=127)
 | .i16,n=>decide (-32768<=n)&&decide (n<=32767)
 | .i32,n=>decide (-2147483648<=n)&&decide (n<=2147483647)
 | .i64,n=>decide (-9223372036854775808<=n)&&decide (n<=9223372036854775807)
 | .u8,n=>decide (0<=n)&&decide (n<=255)
 | .u16,n=>decide (0<=n)&&decide (n<=65535)
 | .u32,n=>decide (0<=n)&&decide (n<=4294967295)
 | .u64,n=>decide (0<=n)&&decide (n<=18446744073709551615)
def eE:List (Option IntKind)->List AV->List AV->Option Bool
 | [],[],[]=>some true
 | some k::T,.int k1 m::xs,.int k2 n::ys=>
  if k1=k/\k2=k/\T7 k m=true/\T7 k n=true then
   match eE T xs ys with
   | some b=>some ((m==n)&&b)
   | none=>none
  else none
 | none::T,.bool p::xs,.bool q::ys=>match eE T xs ys with
  | some b=>some ((p==q)&&b)
  | none=>none
 | _,_,_=>none
def AV.cells:AV->List AV
 | .agg cs=>cs
 | v=>[v]
def AV.one:AV->Bool
 | .agg _=>false
 | .tuple _=>false
 | .junk=>false
 | _=>true
def over:List AV->Nat->List AV->List AV
 | cs,0,new=>new++cs.drop new.length
 | [],_,_=>[]
 | c::cs,off+1,new=>c::over cs off new
def pH(a:List AV):List AV->List (Nat×Nat×AR)->Option (List AV)
 | cs,[]=>some cs
 | cs,(off,size,x)::rest=>
  if(ev a x).cells.length=size&&off+size<=cs.length&&(ev a x).cells.all AV.one then pH a (over cs off (ev a x).cells) rest else none
def fQ(h:H)(b i:Nat):Option AV:=
 match h.get b with
 | some (.cells _ _ cs)=>cs[i]?
 | _=>none
def aZ(h:H)(b i n:Nat):Option (List AV):=
 match h.get b with
 | some (.cells _ _ cs)=>if i+n<=cs.length then some ((cs.drop i).take n)else none
 | _=>none
def dG(h:H)(b i:Nat)(new:List AV):Option H:=
 match h.get b with
 | some (.cells ver true cs)=>if i+new.length<=cs.length&&new.all AV.one then some (h.set b (.cells (ver+1) true (over cs i new)))else none
 | _=>none
def kill(h:H)(b:Nat):Option H:=
 match h.get b with
 | some (.cells _ true _)=>some (h.set b .dead)
 | _=>none
def fE:Nat->List AV->List AV
 | 0,_=>[]
 | n+1,z=>z++fE n z
def uQ:Nat->AV->AV->Option Bool
 | 0,.int k x,.int k' y=>if k=k' then some (x==y)else none
 | 1,.bool x,.bool y=>some (x==y)
 | 2,.str x,.str y=>some (x==y)
 | _,_,_=>none
def iG(kd:Nat)(k:AV):List (AV×AV)->Option (Option AV)
 | []=>some none
 | (k',v)::es=>match uQ kd k k' with
  | some true=>some (some v)
  | some false=>iG kd k es
  | none=>none
def eV(kd:Nat)(k v:AV):List (AV×AV)->List (AV×AV)
 | []=>[(k,v)]
 | (k',v')::es=>match uQ kd k k' with
  | some true=>(k,v)::es
  | _=>(k',v')::eV kd k v es
def eK:Nat:=9223372036854775807
def bnd(a:List AV):Option AR->Option (Option Int)
 | none=>some none
 | some x=>match ev a x with
  | .int _ n=>some (some n)
  | _=>none
def eH(size:Nat)(x:AV)(lo hi:Option Int)(mx:Option Int):Option AV:=
 if mx.isSome&&hi.isNone then none else
 match x with
 | .nilslice=>if(lo.getD 0==0)&&(hi.getD 0==0)&&(mx.getD 0==0)then some .nilslice else none
 | .slice fl sz b o n=>
  if sz=size/\0<=lo.getD 0/\lo.getD 0<=hi.getD n/\hi.getD n<=mx.getD (hi.getD n)/\mx.getD (hi.getD n)<=n then
   some (.slice (if mx.isSome then mx.getD (hi.getD n)==hi.getD n else fl&&hi.getD n==n) sz b (o+(lo.getD 0).toNat*size) (hi.getD n-lo.getD 0).toNat)else none
 | _=>none
def zE:AV->AV->Option AV
 | .int k x,.int _ y=>some (.int k (if y>x then y else x))
 | _,_=>none
def zD:AV->AV->Option AV
 | .int k x,.int _ y=>some (.int k (if y<x then y else x))
 | _,_=>none
def kE(f:AV->AV->Option AV):AV->List AV->Option AV
 | v,[]=>some v
 | v,x::xs=>match f v x with
  | some r=>kE f r xs
  | none=>none
def eC(l:List AV):Option (List UInt8):=
 match l with
 | []=>some []
 | .int .u8 n::r=>match eC r with
  | some t=>if 0<=n/\n<256 then some (UInt8.ofNat n.toNat::t)else none
  | none=>none
 | _::_=>none
def fY(a:List AV)(h:H)(size:Nat)(x:AR):Option (List AV×Nat):=
 match ev a x with
 | .nilslice=>some ([],0)
 | .slice _ sz b o n=>if sz=size then match aZ h b o (n*size)with
  | some cs=>some (cs,n)
  | none=>none
  else none
 | .str s=>if size=1 then some (s.data.toList.map fun b=> .int .u8 b.toNat,s.size)else none
 | _=>none
def aop(a:List AV)(h:H):AO->Option (AV×H×List Nat)
 | .move x=>some (ev a x,h,[])
 | .pick c x y=>match ev a c with
  | .bool true=>some (ev a x,h,[])
  | .bool false=>some (ev a y,h,[])
  | _=>none
 | .alloc cs=>some (.ptr h.next 0,h.alloc (.cells 0 true cs),[])
 | .box x=>if(ev a x).cells.all AV.one then some (.ptr h.next 0,h.alloc (.cells 0 true (ev a x).cells),[])else none
 | .build z ps=>match pH a z ps with
  | some cs=>some (.agg cs,h,[])
  | none=>none
 | .buildSlice size len z ps=>match pH a (fE len z) ps with
  | some cs=>some (.slice true size h.next 0 len,h.alloc (.cells 0 true cs),[])
  | none=>none
 | .load x=>match ev a x with
  | .ptr b o=>match fQ h b o with
   | some v=>some (v,h,[b])
   | none=>none
  | _=>none
 | .loadAgg n x=>match ev a x with
  | .ptr b o=>match aZ h b o n with
   | some cs=>some (.agg cs,h,[b])
   | none=>none
  | _=>none
 | .store n p x=>match ev a p with
  | .ptr b o=>if(ev a x).cells.length=n then match dG h b o (ev a x).cells with
    | some h'=>some (.tuple [],h',[])
    | none=>none
   else none
  | _=>none
 | .nilCheck x=>match ev a x with
  | .ptr b o=>some (.ptr b o,h,[])
  | .func (.method _) _ _=>none
  | .func f c d=>some (.func f c d,h,[])
  | .iface t v=>some (.iface t v,h,[])
  | _=>none
 | .bin op x y=>match eB op (ev a x) (ev a y)with
  | some v=>some (v,h,[])
  | none=>none
 | .eqB neg x y=>match ev a x,ev a y with
  | .bool p,.bool q=>some (.bool (if neg then !(p==q)else p==q),h,[])
  | _,_=>none
 | .isNil kd neg x y=>match U2 kd (ev a x) (ev a y)with
  | some b=>some (.bool (if neg then !b else b),h,[])
  | none=>none
 | .eqCells neg T x y=>match ev a x,ev a y with
  | .agg xs,.agg ys=>match eE T xs ys with
   | some b=>some (.bool (if neg then !b else b),h,[])
   | none=>none
  | _,_=>none
 | .un op x=>match aun op (ev a x)with
  | some v=>some (v,h,[])
  | none=>none
 | .convInt k x=>match ev a x with
  | .int _ n=>some (.int k (k.wrap n),h,[])
  | _=>none
 | .convStr x=>match ev a x with
  | .str s=>some (.str s,h,[])
  | _=>none
 | .bytesToStr x=>match ev a x with
  | .nilslice=>some (.str ByteArray.empty,h,[])
  | .slice _ _ b o n=>match aZ h b o n with
   | some cs=>match eC cs with
    | some s=>some (.str ⟨s.toArray⟩,h,[b])
    | none=>none
   | none=>none
  | _=>none
 | .mkIface t x=>some (.iface t (ev a x),h,[])
 | .mkFunc fn f c=>some (.func fn (f.map (ev a)) (c.map (ev a)),h,[])
 | .makeMap=>some (.map h.next,h.alloc (.map 0 []),[])
 | .makeSlice bytes z n c=>match ev a n,ev a c with
  | .int .i64 l,.int .i64 m=>if 0<=l/\l<=m/\m*bytes<=140737488355328/\m<=eK then some (.slice (l==m) z.length h.next 0 l.toNat,h.alloc (.cells 0 true (fE l.toNat z)),[])else none
  | _,_=>none
 | .slice size x lo hi mx=>match bnd a lo,bnd a hi,bnd a mx with
  | some l,some r,some m=>match eH size (ev a x) l r m with
   | some v=>some (v,h,[])
   | none=>none
  | _,_,_=>none
 | .sliceArr len size x lo hi=>match ev a x with
  | .ptr b o=>match bnd a lo,bnd a hi,h.get b with
   | some l,some r,some (.cells _ _ cs)=>if o+len*size<=cs.length then match eH size (.slice true size b o len) l r none with
    | some v=>some (v,h,[b])
    | none=>none
    else none
   | _,_,_=>none
  | _=>none
 | .sliceStr x lo hi=>match ev a x,bnd a lo,bnd a hi with
  | .str s,some l,some r=>if 0<=l.getD 0/\l.getD 0<=r.getD s.size/\r.getD s.size<=s.size then some (.str (s.extract (l.getD 0).toNat (r.getD s.size).toNat),h,[])else none
  | _,_,_=>none
 | .fieldAddr off x=>match ev a x with
  | .ptr b o=>some (.ptr b (o+off),h,[])
  | _=>none
 | .field off n x=>match ev a x with
  | .agg cs=>match n with
   | none=>match cs[off]? with
    | some v=>some (v,h,[])
    | none=>none
   | some n=>if off+n<=cs.length then some (.agg ((cs.drop off).take n),h,[])else none
  | _=>none
 | .indexAddr size x i=>match ev a x,ev a i with
  | .slice _ sz b o n,.int _ k=>if sz=size/\0<=k/\k<n then some (.ptr b (o+k.toNat*size),h,[])else none
  | _,_=>none
 | .indexAddrA len size x i=>match ev a x,ev a i with
  | .ptr b o,.int _ k=>if 0<=k/\k<len then some (.ptr b (o+k.toNat*size),h,[])else none
  | _,_=>none
 | .index len size isAgg x i=>match ev a x,ev a i with
  | .agg cs,.int _ k=>if 0<=k/\k<len then
    (if isAgg then(if k.toNat*size+size<=cs.length then some (.agg ((cs.drop (k.toNat*size)).take size),h,[])else none)
    else match cs[k.toNat*size]? with
     | some v=>some (v,h,[])
     | none=>none)else none
  | _,_=>none
 | .indexStr x i=>match ev a x,ev a i with
  | .str s,.int _ k=>if 0<=k then match s[k.toNat]? with
    | some c=>some (.int .u8 c.toNat,h,[])
    | none=>none
   else none
  | _,_=>none
 | .lookup kd ok z x i=>match ev a x with
  | .nilmap=>some (if ok then .tuple [z,.bool false]else z,h,[])
  | .map r=>match h.get r with
   | some (.map _ es)=>match iG kd (ev a i) es with
    | some (some v)=>some (if ok then .tuple [v,.bool true]else v,h,[r])
    | some none=>some (if ok then .tuple [z,.bool false]else z,h,[r])
    | none=>none
   | _=>none
  | _=>none
 | .mapUpdate kd m k v=>match ev a m with
  | .map r=>match h.get r with
   | some (.map ver es)=>if(iG kd (ev a k) es).isSome then some (.tuple [],h.set r (.map (ver+1) (eV kd (ev a k) (ev a v) es)),[])else none
   | _=>none
  | _=>none
 | .extract x i=>match ev a x with
  | .tuple vs=>match vs[i]? with
   | some v=>some (v,h,[])
   | none=>none
  | _=>none
 | .call _ _=>none
 | .append size bytes s x=>
  match fY a h size x with
  | none=>none
  | some (new,n)=>match ev a s with
   | .nilslice=>if n=0 then some (.nilslice,h,[])else
     if n*bytes<=140737488355328/\n<=eK/\new.all AV.one/\new.length=n*size then some (.slice false size h.next 0 n,h.alloc (.cells 0 true new),[])else none
   | .slice fl sz b o m=>if n=0 then some (.slice fl sz b o m,h,[])else
     if sz=size/\(m+n)*bytes<=140737488355328/\m+n<=eK/\new.all AV.one/\new.length=n*size then
      match aZ h b o (m*size)with
      | none=>none
      | some old=>
       if fl then some (.slice false size h.next 0 (m+n),h.alloc (.cells 0 true (old++new)),[])
       else match kill h b with
        | some h'=>some (.slice false size h.next 0 (m+n),h'.alloc (.cells 0 true (old++new)),[])
        | none=>none
     else none
   | _=>none
 | .appendMake bytes z s x=>match ev a s,ev a x with
  | .nilslice,.int .i64 n=>if n=0 then some (.nilslice,h,[])else
    if 0<=n/\n*bytes<=140737488355328/\n<=eK then some (.slice false z.length h.next 0 n.toNat,h.alloc (.cells 0 true (fE n.toNat z)),[])else none
  | _,_=>none
 | .copyS size d x=>match ev a d,ev a x with
  | .slice _ sz b o m,.slice _ sz2 b2 o2 n=>if sz=size/\sz2=size then
    (if min n m=0 then some (i64 0,h,[])else match aZ h b2 o2 (min n m*size)with
     | some cs=>match dG h b o cs with
      | some h'=>some (i64 ((min n m:Nat):Int),h',[])
      | none=>none
     | none=>none)else none
  | .nilslice,.nilslice | .nilslice,.slice .. | .slice ..,.nilslice=>some (i64 0,h,[])
  | _,_=>none
 | .clearS z x=>match ev a x with
  | .nilslice=>some (.tuple [],h,[])
  | .slice _ sz b o n=>if sz=z.length then
    (if n=0 then some (.tuple [],h,[])else match dG h b o (fE n z)with
     | some h'=>some (.tuple [],h',[])
     | none=>none)else none
  | _=>none
 | .len x=>match ev a x with
  | .nilslice=>some (i64 0,h,[])
  | .slice _ _ _ _ n=>some (i64 n,h,[])
  | _=>none
 | .lenStr x=>match ev a x with
  | .str s=>some (i64 s.size,h,[])
  | _=>none
 | .lenMap x=>match ev a x with
  | .nilmap=>some (i64 0,h,[])
  | .map r=>match h.get r with
   | some (.map _ es)=>some (i64 es.length,h,[r])
   | _=>none
  | _=>none
 | .cap x=>match ev a x with
  | .nilslice=>some (i64 0,h,[])
  | .slice true _ _ _ n=>some (i64 n,h,[])
  | _=>none
 | .max x xs=>match kE zE (ev a x) (xs.map (ev a))with
  | some v=>some (v,h,[])
  | none=>none
 | .min x xs=>match kE zD (ev a x) (xs.map (ev a))with
  | some v=>some (v,h,[])
  | none=>none
 | .asTo t z x=>match ev a x with
  | .niliface=>some (.tuple [z,.bool false],h,[])
  | .iface t' v=>some (if t'=t then .tuple [v,.bool true]else .tuple [z,.bool false],h,[])
  | _=>none
 | .strToBytes x=>match ev a x with
  | .str s=>if s.size<=140737488355328 then some (.slice false 1 h.next 0 s.size,h.alloc (.cells 0 false (s.data.toList.map fun b=> .int .u8 b.toNat)),[])else none
  | _=>none
inductive ARes where
 | tmp (t:Nat)
 | cell (t:Nat)
 | cells (t n:Nat)
 deriving Inhabited
structure AFn where
 ntmps:Nat
 results:List ARes
 body:AC
 deriving Inhabited
inductive AF where
 | fn (f:AFn)
 | prim (f:List AV->H->Option (AV×H))
structure Rec where
 code:AC->List AV->H->Option (Ex×List AV×H)
 call:FuncId->List AV->H->Option (AV×H)
def setAll(a:List AV):List Nat->List AV->List AV
 | t::ts,v::vs=>setAll (tset a t v) ts vs
 | _,_=>a
def bO(a:List AV):Option (Nat×Bool)->Option Bool
 | none=>some true
 | some (t,want)=>match tget a t with
  | .bool b=>some (b==want)
  | .tuple _=>some false
  | _=>none
structure LogE where
 idx:Nat
 rd:List Nat
 hb:H
 ha:H
def eY(hb ha:H)(x:Nat):Bool:=if x<hb.next then hb.ver x==ha.ver x else true
def pJ(eff:Bool)(rd:List Nat)(hb ha:H)(log:List LogE)(chk:List Nat):Bool:=
 log.all fun e=>if chk.contains e.idx then(if eff then e.rd.all (eY hb ha)else rd.all (eY e.hb e.ha))else true
def iN:List AV->TypeId->Option FuncId
 | .int _ t':: .int _ g::r,t=>if t'=(t:Int)then some g.toNat else iN r t
 | _,_=>none
def jU(tbl:List AV):List AV->Option (FuncId×List AV)
 | .iface t v::args=>match iN tbl t with
  | some g=>some (g,v::args)
  | none=>none
 | _=>none
section
variable (rec:Rec)
def cZ:AV->List AV->H->Option (AV×H)
 | .func (.func g) first cap,args,h=>rec.call g (first++args++cap) h
 | .func (.yield l) first _,args,h=>match h.get l with
  | some (.loop _ r)=>if(first++args).length=r.params.length then
    match rec.code r.assign (setAll r.tmps r.params (first++args)) h with
    | some (.normal,a1,h1)=>match h1.get l with
     | some (.loop v1 r1)=>if r1.state= .ready then
       match rec.code r.body a1 (h1.set l (.loop (v1+1) {r1 with state:= .busy}))with
       | some (e,_,h3)=>match h3.get l with
        | some (.loop v3 r3)=>
         if e= .normal then some (.bool true,h3.set l (.loop (v3+1) {r3 with state:= .ready,pending:=none}))
         else some (.bool false,h3.set l (.loop (v3+1) {r3 with state:= .done,pending:=some e}))
        | _=>none
       | none=>none
      else none
     | _=>none
    | _=>none
   else none
  | _=>none
 | .func (.methodOf _ _) tbl _,args,h=>match jU tbl args with
  | some (g,l)=>rec.call g l h
  | none=>none
 | _,_,_=>none
def eW:AO->List AV->H->Option (AV×H×List Nat)
 | .call f args,a,h=>match cZ rec (ev a f) (args.map (ev a)) h with
  | some (v,h')=>some (v,h',[])
  | none=>none
 | o,a,h=>aop a h o
def f8:List AOper->List AV->H->Option (List AV×H)
 | [],a,h=>some (a,h)
 | o::os,a,h=>match bO a o.guard with
  | some true=>match eW rec o.op a h with
   | some (v,h',_)=>f8 os (put a o.dst v) h'
   | none=>none
  | some false=>f8 os (put a o.dst (.tuple [])) h
  | none=>none
def rdx(h h':H)(rd:List Nat):List Nat:=if h.next<h'.next then h.next::rd else rd
def dU:List AOper->Nat->List AV->H->List LogE->Option (List AV×H)
 | [],_,a,h,_=>some (a,h)
 | o::os,i,a,h,log=>match bO a o.guard with
  | some true=>match eW rec o.op a h with
   | some (v,h',rd)=>if pJ o.op.effect (rdx h h' rd) h h' log o.chk then dU os (i+1) (put a o.dst v) h' (⟨i,rdx h h' rd,h,h'⟩::log)else none
   | none=>none
  | some false=>dU os (i+1) (put a o.dst (.tuple [])) h log
  | none=>none
def aJ:AC->List AV->H->Option (Ex×List AV×H)
 | .skip,a,h=>some (.normal,a,h)
 | .region ops,a,h=>match f8 rec ops a h with
  | some (a',h')=>some (.normal,a',h')
  | none=>none
 | .regionD ops,a,h=>match dU rec ops 0 a h []with
  | some (a',h')=>some (.normal,a',h')
  | none=>none
 | .seq x y,a,h=>match aJ x a h with
  | some (.normal,a',h')=>aJ y a' h'
  | r=>r
 | .cond c x y,a,h=>match ev a c with
  | .bool true=>aJ x a h
  | .bool false=>aJ y a h
  | _=>none
 | .block id x,a,h=>match aJ x a h with
  | some (.exit i,a',h')=>if i=id then some (.normal,a',h')else some (.exit i,a',h')
  | r=>r
 | .loop sc x,a,h=>match aJ x (scrub a sc) h with
  | some (.normal,a',h')=>rec.code (.loop sc x) a' h'
  | r=>r
 | .rangeFunc f ps asg body,a,h=>match ev a f with
  | .func (.func g) first cap=>
   match rec.call g (first++[.func (.yield h.next) [] []]++cap) (h.alloc (.loop 0 {state:= .ready,pending:=none,tmps:=a,params:=ps,assign:=asg,body:=body}))with
   | some (_,h')=>match h'.get h.next with
    | some (.loop ver r)=>if r.state= .busy then none else
      some (r.pending.getD .normal,a,h'.set h.next (.loop (ver+1) {r with state:= .exhausted}))
    | _=>none
   | none=>none
  | _=>none
 | .exit id,a,h=>some (.exit id,a,h)
 | .ret,a,h=>some (.ret,a,h)
def tU(a:List AV)(h:H):ARes->Option AV
 | .tmp t=>some (tget a t)
 | .cell t=>match tget a t with
  | .ptr b o=>fQ h b o
  | _=>none
 | .cells t n=>match tget a t with
  | .ptr b o=>(aZ h b o n).map .agg
  | _=>none
def cW(a:List AV)(h:H):List ARes->Option (List AV)
 | []=>some []
 | r::rs=>match tU a h r,cW a h rs with
  | some v,some vs=>some (v::vs)
  | _,_=>none
def gI:List AV->AV
 | [v]=>v
 | vs=> .tuple vs
def pD(args:List AV)(n:Nat):List AV:=args++List.replicate (n-args.length) .junk
def dA(tab:FuncId->Option AF)(g:FuncId)(args:List AV)(h:H):Option (AV×H):=
 match tab g with
 | some (.prim f)=>f args h
 | some (.fn F)=>match aJ rec F.body (pD args F.ntmps) h with
  | some (.normal,a',h') | some (.ret,a',h')=>match cW a' h' F.results with
   | some vs=>some (gI vs,h')
   | none=>none
  | _=>none
 | none=>none
end
def run(tab:FuncId->Option AF):Nat->Rec
 | 0=>⟨fun _ _ _=>none,fun _ _ _=>none⟩
 | n+1=>⟨aJ (run tab n),dA (run tab n) tab⟩
end Go.Am

