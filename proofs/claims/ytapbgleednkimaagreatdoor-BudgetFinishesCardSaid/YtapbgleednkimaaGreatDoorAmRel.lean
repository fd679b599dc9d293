/- The translation of a program's code into the abstract machine's code: a computable function, and what goes with it. -/
import Derived.Test.YtapbgleednkimaaGreatDoorAmBase
import GoSem.Core.View
import GoSem.Core.Layout
import GoSem.ClaimKeys
import GoSem.Dispatch
import Derived.WalkKit
import Derived.RangeFuncRecord
namespace Go.Am
def fJ:Value->Option AV
 | .bool b=>some (.bool b)
 | .int k n=>some (.int k n)
 | .string s=>some (.str s)
 | .pointer none=>some .nilptr
 | .slice none 0 0=>some .nilslice
 | .map none=>some .nilmap
 | .nilFunc=>some .nilfunc
 | .nilIface=>some .niliface
 | .func (.func f) ⟨[]⟩ ⟨[]⟩=>some (.func (.func f) [] [])
 | _=>none
def dS{α β:Type}(f:α->Option β):List α->Option (List β)
 | []=>some []
 | x::xs=>match f x,dS f xs with
  | some y,some ys=>some (y::ys)
  | _,_=>none
def DD:Value->Option AV
 | .agg cs=>(dS fJ cs.toList).map .agg
 | .iface t v=>(fJ v).map (.iface t)
 | v=>fJ v
def trR:Operand->Option AR
 | .tmp t=>some (.tmp t)
 | .const v=>(DD v).map .const
 | .func f=>some (.const (.func (.func f) [] []))
 | .global _=>none
def zQ(l:List Operand):Option (List AR):=dS trR l
def zR:Option Operand->Option (Option AR)
 | none=>some none
 | some x=>(trR x).map some
section
variable (P:Program)
def m9(t:TypeId):Option (List AV):=
 match P.info? t with
 | some i=>match i.zero with
  | some z=>dS fJ z.cells.toList
  | none=>none
 | none=>none
def dY(t:TypeId):Option Nat:=(P.info? t).map (·.size)
def mK(t:TypeId):Option Bool:=
 match P.underlying t with
 | some (.struct _)=>some true
 | some (.array _ _)=>some true
 | some _=>some false
 | none=>none
def oE(place:Nat->Option (Nat×Nat)):List (Nat×Operand)->Option (List (Nat×Nat×AR))
 | []=>some []
 | (i,x)::r=>match place i,trR x,oE place r with
  | some (off,size),some y,some ys=>some ((off,size,y)::ys)
  | _,_,_=>none
def kF(fs:Array Field)(i:Nat):Option (Nat×Nat):=
 match fs[i]? with
 | some f=>match dY P f.type with
  | some s=>some (f.offset,s)
  | none=>none
 | none=>none
def oQ(t:TypeId):Option Nat:=
 match P.underlying t with
 | some (.int _)=>some 0
 | some .bool=>some 1
 | some .string=>some 2
 | _=>none
def OY(t:TypeId):Option AV:=
 match P.info? t with
 | some i=>match i.zero with
  | some z=>fJ z
  | none=>none
 | none=>none
def fX(b:Builtin)(ts:List TypeId)(args:List Operand):Option AO:=
 match b,ts,args with
 | .append,t::t2::_,[s,x]=>match P.underlying t,P.underlying t2,trR s,trR x with
  | some (.slice e),some (.slice _),some s,some x=>match P.info? e,m9 P e with
   | some i,some z=>if i.size=z.length&&0<i.size then some (.append i.size i.bytes s x)else none
   | _,_=>none
  | some (.slice e),some .string,some s,some x=>match P.info? e,m9 P e with
   | some i,some z=>if i.size=z.length&&0<i.size then some (.append i.size i.bytes s x)else none
   | _,_=>none
  | some (.slice e),some (.int _),some s,some x=>match P.info? e,m9 P e with
   | some i,some z=>if i.size=z.length&&0<i.size then some (.appendMake i.bytes z s x)else none
   | _,_=>none
  | _,_,_,_=>none
 | .len,t::_,[x]=>match P.underlying t,trR x with
  | some (.slice _),some x=>some (.len x)
  | some .string,some x=>some (.lenStr x)
  | some (.map _ _),some x=>some (.lenMap x)
  | some (.array n _),_=>some (.move (.const (i64 n)))
  | _,_=>none
 | .cap,t::_,[x]=>match P.underlying t,trR x with
  | some (.slice _),some x=>some (.cap x)
  | _,_=>none
 | .copy,t::t2::_,[d,x]=>match P.underlying t,P.underlying t2,trR d,trR x with
  | some (.slice e),some (.slice _),some d,some x=>match P.info? e with
   | some i=>if 0<i.size then some (.copyS i.size d x)else none
   | none=>none
  | _,_,_,_=>none
 | .clear,t::_,[x]=>match P.underlying t,trR x with
  | some (.slice e),some x=>match P.info? e,m9 P e with
   | some i,some z=>if i.size=z.length&&0<i.size then some (.clearS z x)else none
   | _,_=>none
  | _,_=>none
 | .max,_,x::xs=>match trR x,zQ xs with
  | some x,some xs=>some (.max x xs)
  | _,_=>none
 | .min,_,x::xs=>match trR x,zQ xs with
  | some x,some xs=>some (.min x xs)
  | _,_=>none
 | _,_,_=>none
def EB:TypeDesc->Option Nat
 | .slice _=>some 0
 | .pointer _=>some 1
 | .map _ _=>some 2
 | .func _ _ _=>some 3
 | _=>none
def mL(P:Program)(f:TypeId->Option (List (Option IntKind))):Nat->List Field->Option (List (Option IntKind))
 | _,[]=>some []
 | off,x::xs=>match f x.type,mL P f (x.offset+P.cellsOf x.type) xs with
  | some a,some b=>if x.offset=off/\a.length=P.cellsOf x.type then some (a++b)else none
  | _,_=>none
def sS(a:List (Option IntKind)):Nat->List (Option IntKind)
 | 0=>[]
 | n+1=>a++sS a n
def pG(P:Program):Nat->TypeId->Option (List (Option IntKind))
 | 0,_=>none
 | m+1,t=>match P.underlying t with
  | some (.int k)=>some [some k]
  | some .bool=>some [none]
  | some (.struct fs)=>match mL P (pG P m) 0 fs.toList with
   | some T=>if T.length=P.cellsOf t/\fs.all (·.name != "_")=true then some T else none
   | none=>none
  | some (.array n e)=>match pG P m e with
   | some E=>if E.length=P.cellsOf e/\(sS E n).length=P.cellsOf t then some (sS E n)else none
   | none=>none
  | _=>none
def oS(P:Program)(op:BinOp)(t:TypeId)(x y:AR):Option AO:=
 match op,pG P 20 t with
 | .eql,some T=>if P.keyTypeAt 20 t=true/\P.eqGuardType P.depth t=false then some (.eqCells false T x y)else none
 | .neq,some T=>if P.keyTypeAt 20 t=true/\P.eqGuardType P.depth t=false then some (.eqCells true T x y)else none
 | _,_=>none
def sB:Operand->Bool
 | .const _=>true
 | _=>false
def EI(P:Program)(m:String)(t:TypeId):Option FuncId:=
 match P.info? t,P.underlying t with
 | some i,some (.pointer _)=>match i.methods.find? (·.name==m)with
  | some mm=>match mm.path.toList,mm.func with
   | [],some (f,true)=>some f
   | _,_=>none
  | none=>none
 | _,_=>none
def kD(P:Program)(m:String):List Nat->List AV
 | []=>[]
 | t::r=>match EI P m t with
  | some f=>i64 t::i64 f::kD P m r
  | none=>kD P m r
def aS(o:Oper):Option AO:=
 match o.op with
 | .move x | .assign x=>(trR x).map .move
 | .pick c a b=>match trR c,trR a,trR b with
  | some c,some a,some b=>some (.pick c a b)
  | _,_,_=>none
 | .alloc e=>(m9 P e).map .alloc
 | .box _ x=>(trR x).map .box
 | .build t ps=>match m9 P t,P.underlying t with
  | some z,some (.struct fs)=>if fs.toList.all (fun f=>(dY P f.type).isSome)then(oE (kF P fs) ps.toList).map (.build z)else none
  | some z,some (.array _ e)=>match dY P e with
   | some s=>(oE (fun i=>some (i*s,s)) ps.toList).map (.build z)
   | none=>none
  | _,_=>none
 | .buildSlice t len ps=>match P.underlying t with
  | some (.slice e)=>match dY P e,m9 P e with
   | some s,some z=>if s=z.length&&0<s&&len*s<=65536 then(oE (fun i=>some (i*s,s)) ps.toList).map (.buildSlice s len z)else none
   | _,_=>none
  | _=>none
 | .load t x=>match mK P t,dY P t,trR x with
  | some true,some n,some x=>some (.loadAgg n x)
  | some false,_,some x=>some (.load x)
  | _,_,_=>none
 | .store t p x=>match dY P t,trR p,trR x with
  | some n,some p,some x=>some (.store n p x)
  | _,_,_=>none
 | .nilCheck x=>(trR x).map .nilCheck
 | .binOp op t x y _=>match trR x,trR y,P.underlying t with
  | some x,some y,some (.int _) | some x,some y,some .string=>some (.bin op x y)
  | some x,some y,some .bool=>match op with
   | .eql=>some (.eqB false x y)
   | .neq=>some (.eqB true x y)
   | _=>none
  | some x,some y,some (.struct _) | some x,some y,some (.array _ _)=>oS P op t x y
  | some x',some y',some (.interface _)=>if sB x||sB y then match op with
    | .eql=>some (.isNil 4 false x' y')
    | .neq=>some (.isNil 4 true x' y')
    | _=>none
   else none
  | some x,some y,some d=>match EB d,op with
   | some kd,.eql=>some (.isNil kd false x y)
   | some kd,.neq=>some (.isNil kd true x y)
   | _,_=>none
  | _,_,_=>none
 | .unOp op _ x=>(trR x).map (.un op)
 | .convert src dst x=>match P.underlying src,P.underlying dst,trR x with
  | some (.int _),some (.int k),some x=>some (.convInt k x)
  | some .string,some .string,some x=>some (.convStr x)
  | some (.slice e),some .string,some x=>match P.underlying e with
   | some (.int .u8)=>some (.bytesToStr x)
   | _=>none
  | some .string,some (.slice e),some x=>match P.underlying e with
   | some (.int .u8)=>some (.strToBytes x)
   | _=>none
  | _,_,_=>none
 | .makeInterface t x=>match P.underlying t with
  | some (.interface _)=>none
  | some _=>(trR x).map (.mkIface t)
  | none=>none
 | .makeFunc fn f c=>match fn,zQ f.toList,zQ c.toList with
  | .yield _,_,_=>none
  | .methodOf _ _,_,_=>none
  | fn,some f,some c=>some (.mkFunc fn f c)
  | _,_,_=>none
 | .makeMap _ none=>some .makeMap
 | .makeSlice t l c=>match P.underlying t with
  | some (.slice e)=>match P.info? e,m9 P e,trR l,trR c with
   | some i,some z,some l,some c=>if i.size=z.length&&0<i.size then some (.makeSlice i.bytes z l c)else none
   | _,_,_,_=>none
  | _=>none
 | .slice t x lo hi mx=>match P.underlying t with
  | some (.slice e)=>match dY P e,trR x,zR lo,zR hi,zR mx with
   | some s,some x,some lo,some hi,some mx=>some (.slice s x lo hi mx)
   | _,_,_,_,_=>none
  | some .string=>match trR x,zR lo,zR hi,mx with
   | some x,some lo,some hi,none=>some (.sliceStr x lo hi)
   | _,_,_,_=>none
  | some (.array n e)=>match dY P e,trR x,zR lo,zR hi,mx with
   | some s,some x,some lo,some hi,none=>if n<=65536 then some (.sliceArr n s x lo hi)else none
   | _,_,_,_,_=>none
  | _=>none
 | .fieldAddr t x i=>match P.underlying t with
  | some (.struct fs)=>match fs[i]? with
   | some f=>match dY P f.type,trR x with
    | some (_+1),some x=>some (.fieldAddr f.offset x)
    | _,_=>none
   | none=>none
  | _=>none
 | .field t x i=>match P.underlying t with
  | some (.struct fs)=>match fs[i]? with
   | some f=>match mK P f.type,dY P f.type,trR x with
    | some true,some n,some x=>some (.field f.offset (some n) x)
    | some false,_,some x=>some (.field f.offset none x)
    | _,_,_=>none
   | none=>none
  | _=>none
 | .indexAddr t x i=>match P.underlying t,trR x,trR i with
  | some (.slice e),some x,some i=>match dY P e with
   | some s=>some (.indexAddr s x i)
   | none=>none
  | some (.array n e),some x,some i=>match dY P e with
   | some s=>some (.indexAddrA n s x i)
   | none=>none
  | _,_,_=>none
 | .index t x i=>match P.underlying t,trR x,trR i with
  | some (.array n e),some x,some i=>match dY P e,mK P e with
   | some s,some b=>some (.index n s b x i)
   | _,_=>none
  | some .string,some x,some i=>some (.indexStr x i)
  | _,_,_=>none
 | .lookup t x i ok=>match P.underlying t,trR x,trR i with
  | some (.map k e),some x,some i=>match OY P e,oQ P k with
   | some z,some kd=>some (.lookup kd ok z x i)
   | _,_=>none
  | _,_,_=>none
 | .mapUpdate t m k v | .insert t m k v=>match P.underlying t,trR m,trR k,trR v with
  | some (.map kt _),some m,some k,some v=>match oQ P kt with
   | some kd=>some (.mapUpdate kd m k v)
   | none=>none
  | _,_,_,_=>none
 | .extract x i=>(trR x).map (.extract · i)
 | .panic _=>some (.extract (.const .junk) 0)
 | .call c=>match c.callee with
  | .value f=>match trR f,zQ c.args.toList with
   | some f,some args=>some (.call f args)
   | _,_=>none
  | .builtin b=>fX P b c.argTypes.toList c.args.toList
  | .invoke r m=>match trR r,zQ c.args.toList with
   | some x,some xs=>some (.call (.const (.func (.methodOf 0 m) (kD P m (List.range P.types.size)) [])) (x::xs))
   | _,_=>none
 | .typeAssert x _ t ok=>match ok,P.underlying t,OY P t,trR x with
  | true,some (.interface _),_,_=>none
  | true,some _,some z,some x=>some (.asTo t z x)
  | _,_,_,_=>none
 | _=>none
def AO.stuck:AO:= .extract (.const .junk) 0
def BI:Op->Bool
 | .convert .. | .slice .. | .indexAddr .. | .index .. | .call _ | .load .. | .store .. | .binOp .. | .unOp .. | .makeInterface .. =>true
 | _=>false
def wS(o:Oper):Option AO:=match aS P o with
 | some ao=>some ao
 | none=>if BI o.op then some .stuck else none
theorem lX{o:Oper}{ao:AO}(h:wS P o=some ao):aS P o=some ao\/(ao= .stuck/\BI o.op=true):=by
 unfold wS at h;split at h
 ·rename_i h0;rw[h0];cases h;exact .inl rfl
 ·split at h
  ·rename_i hs;cases h;exact .inr ⟨rfl,hs⟩
  ·cases h
def AO.reads:AO->Bool
 | .load _ | .loadAgg .. | .lookup .. | .lenMap _ | .bytesToStr _ | .sliceArr .. | .alloc _ | .box _ | .buildSlice .. | .makeSlice .. | .makeMap=>true
 | _=>false
def opR:AR->List Nat
 | .tmp t=>[t]
 | .const _=>[]
def HQ:Option AR->List Nat
 | some x=>opR x
 | none=>[]
def AO.uses:AO->List Nat
 | .move x | .box x | .load x | .loadAgg _ x | .nilCheck x | .un _ x | .convInt _ x | .convStr x | .bytesToStr x | .mkIface _ x | .fieldAddr _ x | .field _ _ x | .extract x _ | .len x | .lenStr x | .lenMap x | .cap x | .clearS _ x | .asTo _ _ x | .strToBytes x=>opR x
 | .pick c a b | .mapUpdate _ c a b=>opR c++opR a++opR b
 | .alloc .. | .makeMap=>[]
 | .build _ ps | .buildSlice _ _ _ ps=>ps.flatMap (fun p=>opR p.2.2)
 | .store _ a b | .bin _ a b | .isNil _ _ a b | .eqB _ a b | .eqCells _ _ a b | .makeSlice _ _ a b | .indexAddr _ a b | .indexAddrA _ _ a b | .index _ _ _ a b | .indexStr a b | .lookup _ _ _ a b | .append _ _ a b | .appendMake _ _ a b | .copyS _ a b=>opR a++opR b
 | .mkFunc _ f c=>f.flatMap opR++c.flatMap opR
 | .slice _ x lo hi mx=>opR x++HQ lo++HQ hi++HQ mx
 | .sliceArr _ _ x lo hi=>opR x++HQ lo++HQ hi
 | .sliceStr x lo hi=>opR x++HQ lo++HQ hi
 | .call f args=>opR f++args.flatMap opR
 | .max x xs | .min x xs=>opR x++xs.flatMap opR
def AOper.names(o:AOper):List Nat:=o.dst.toList++o.op.uses++(match o.guard with | some (t,_)=>[t] | none=>[])
def aW(o:Oper):List Nat:=(o.after.toList.filter (Region.binds .any)).map (·.on)
def o9:List Oper->List (List Nat)->List (List Nat)
 | [],acc=>acc
 | o::os,acc=>o9 os (acc++[((aW o).flatMap fun j=>j::acc.getD j []).eraseDups])
def sR(ops:Array Oper)(o:Oper):Option AOper:=
 match wS P o with
 | some ao=>match o.guard with
  | none=>some ⟨o.dst,ao,none,[]⟩
  | some (j,want)=>match (ops[j]?).bind (·.dst)with
   | some d=>some ⟨o.dst,ao,some (d,want),[]⟩
   | none=>none
 | none=>none
def cU(an:List (List Nat))(i j:Nat):Bool:=(an.getD j []).contains i||(an.getD i []).contains j
def nS(x y:AOper):Bool:=(x.op.effect&&y.op.reads)||(y.op.effect&&x.op.reads)
def iE(an:List (List Nat))(aos:List AOper):List AOper:=
 aos.zipIdx.map fun(o,i)=>{o with chk:=(List.range i).filter fun j=>match aos[j]? with
  | some p=> !cU an j i&&nS p o
  | none=>false}
def M5(mx:Bool)(ops:List Oper)(an:List (List Nat))(aos:List AOper):Bool:=
 (mx|| !Region.departs ops.toArray)&&
 (ops.zipIdx.all fun(o,i)=>(aW o).all (· <i))&&
 (aos.zipIdx.all fun(o,i)=>aos.zipIdx.all fun(p,j)=>
  i==j||((!(o.op.effect&&p.op.effect)||cU an i j)&&
   (match o.dst with | some d=> !p.names.contains d||cU an i j | none=>true)))
def iI(ops:Array Oper)(draw:Bool):Option AC:=
 match dS (sR P ops) ops.toList with
 | none=>none
 | some aos=>
  if !draw then some (.region aos)else
  let an:=o9 ops.toList []
  if M5 (P.follows .mixedOrders) ops.toList an aos then
   let l:=iE an aos
   if l.all (fun o=>o.chk.isEmpty)then some (.region aos)else some (.regionD l)
  else none
def vY:Code->Bool
 | .goto _=>true
 | .seq a b | .cond _ a b | .rangeFunc _ _ a b=>vY a||vY b
 | .block _ c | .loop c | .scope c=>vY c
 | _=>false
def tT:Code->Option Nat
 | .seq a b=>match tT a with
  | some l=>some l
  | none=>tT b
 | .label l=>some l
 | _=>none
def trJ(l:Nat):Code->Option AC
 | .skip=>some .skip
 | .label _=>some .skip
 | .region _ ops draw=>iI P ops draw
 | .seq a b=>match trJ l a,trJ l b with
  | some x,some y=>some (.seq x y)
  | _,_=>none
 | .cond c a b=>match trR c,trJ l a,trJ l b with
  | some c,some x,some y=>some (.cond c x y)
  | _,_,_=>none
 | .goto l'=>if l'=l then some (.exit (1048576+l))else none
 | .exit id=>if id<1048576 then some (.exit id)else none
 | .ret=>some .ret
 | _=>none
def Z3(l:Nat)(x y:AC):AC:= .block (2097152+l) (.seq (.block (1048576+l) (.seq x (.exit (2097152+l)))) (.loop [] (.block (1048576+l) (.seq y (.exit (2097152+l))))))
def DA(b:Code):Option AC:=match tT b with
 | some l=>match findLabel b l with
  | some r=>match trJ P l b,trJ P l r with
   | some x,some y=>some (Z3 l x y)
   | _,_=>none
  | none=>none
 | none=>none
def tr:Code->Option AC
 | .skip=>some .skip
 | .region _ ops draw=>iI P ops draw
 | .seq a b=>match tr a,tr b with
  | some x,some y=>some (.seq x y)
  | _,_=>none
 | .cond c a b=>match trR c,tr a,tr b with
  | some c,some x,some y=>some (.cond c x y)
  | _,_,_=>none
 | .block id b=>(tr b).map (.block id)
 | .loop b=>(tr b).map (.loop [])
 | .rangeFunc f ps asg b=>match trR f,tr asg,tr b with
  | some f,some x,some y=>some (.rangeFunc f ps.toList x y)
  | _,_,_=>none
 | .exit id=>some (.exit id)
 | .ret=>some .ret
 | .scope b=>if vY b then DA P b else tr b
 | .label _=>some .skip
 | _=>none
end
def aEV(l t:Nat):Nat:=l||| 2^t
def aAD(l t:Nat):Nat:=if l.testBit t then l-2^t else l
def sG(l:Nat)(ts:List Nat):Nat:=ts.foldl aEV l
def EK:List AOper->Nat->Nat
 | [],out=>out
 | o::os,out=>
  let l:=EK os out
  let l:=match o.dst with | some d=>aAD l d | none=>l
  sG (sG l o.op.uses) (match o.guard with | some (t,_)=>[t] | none=>[])
def live(nt:Nat):AC->(out:Nat)->(ex:List (Nat×Nat))->(rt:Nat)->Nat×AC
 | .skip,out,_,_=>(out,.skip)
 | .region ops,out,_,_=>(EK ops out,.region ops)
 | .regionD ops,out,_,_=>(EK ops out,.regionD ops)
 | .seq x y,out,ex,rt=>
  let (l,y'):=live nt y out ex rt
  let (l',x'):=live nt x l ex rt
  (l',.seq x' y')
 | .cond c x y,out,ex,rt=>
  let (l,x'):=live nt x out ex rt
  let (l',y'):=live nt y out ex rt
  (sG (l||| l') (opR c),.cond c x' y')
 | .block id x,out,ex,rt=>
  let (l,x'):=live nt x out ((id,out)::ex) rt
  (l,.block id x')
 | .loop _ x,_,ex,rt=>
  let (l,_):=live nt x 0 ex rt
  let (l',x'):=live nt x l ex rt
  (l',.loop ((List.range nt).filter fun t=> !l'.testBit t) x')
 | .rangeFunc f ps asg b,out,ex,rt=>
  let (l,b'):=live nt b 0 ex rt
  let (l',asg'):=live nt asg l ex rt
  (sG (out||| (ps.foldl aAD l')||| ex.foldl (fun s p=>s||| p.2) rt) (opR f),.rangeFunc f ps asg' b')
 | .exit id,_,ex,_=>(((ex.find? (·.1==id)).map (·.2)).getD 0,.exit id)
 | .ret,_,_,rt=>(rt,.ret)
def BB(P:Program):ResultVar->Option ARes
 | .tmp t=>some (.tmp t)
 | .cell t ty=>match mK P ty,dY P ty with
  | some true,some n=>some (.cells t n)
  | some false,_=>some (.cell t)
  | _,_=>none
def vR(l:List ARes):Nat:=sG 0 (l.map fun | .tmp t=>t | .cell t=>t | .cells t _=>t)
def aB6(P:Program)(f:Func):Option AFn:=
 match f.body,dS (BB P) f.results.toList with
 | some b,some rs=>match tr P b with
  | some c=>some ⟨f.ntmps,rs,(live f.ntmps c (vR rs) [] (vR rs)).2⟩
  | none=>none
 | _,_=>none
set_option linter.unusedVariables false
set_option linter.unusedSimpArgs false
structure Loc where
 blk:Nat
 base:Nat
 lim:Nat
abbrev Emb:=Nat->Option Loc
def rG:Fn->Bool
 | .yield _=>false
 | .methodOf _ _=>false
 | _=>true
inductive VR (ρ:Emb):AV->Value->Prop
 | junk (u:Value):VR ρ .junk u
 | bool (b:Bool):VR ρ (.bool b) (.bool b)
 | int (k:IntKind) (n:Int):VR ρ (.int k n) (.int k n)
 | str (s:ByteArray):VR ρ (.str s) (.string s)
 | nilptr:VR ρ .nilptr (.pointer none)
 | ptr (b o:Nat) (l:Loc) (h:ρ b=some l):VR ρ (.ptr b o) (.pointer (some ⟨l.blk,l.base+o,none⟩))
 | nilslice:VR ρ .nilslice (.slice none 0 0)
 | slice (fl:Bool) (sz b o n cap:Nat) (ad:Addr) (h1:n<=cap) (h2:cap<=maxLen) (h3:fl=true->cap=n)
   (h4:0<cap->∃l,ρ b=some l/\ad=⟨l.blk,l.base+o,none⟩/\l.base+o+cap*sz<=l.lim):VR ρ (.slice fl sz b o n) (.slice (some ad) n cap)
 | nilmap:VR ρ .nilmap (.map none)
 | map (r:Nat) (l:Loc) (h:ρ r=some l):VR ρ (.map r) (.map (some l.blk))
 | func (fn:Fn) (f c:List AV) (f' c':List Value) (hp:rG fn=true) (hf:f'.length=f.length) (hc:c'.length=c.length)
   (h1:∀(i:Nat) (v:AV) (u:Value),f[i]? =some v->f'[i]? =some u->VR ρ v u) (h2:∀(i:Nat) (v:AV) (u:Value),c[i]? =some v->c'[i]? =some u->VR ρ v u):VR ρ (.func fn f c) (.func fn f'.toArray c'.toArray)
 | yield (r:Nat) (l:Loc) (h:ρ r=some l):VR ρ (.func (.yield r) [] []) (.func (.yield l.blk) #[] #[])
 | nilfunc:VR ρ .nilfunc .nilFunc
 | iface (t:TypeId) (v:AV) (u:Value) (h:VR ρ v u):VR ρ (.iface t v) (.iface t u)
 | niliface:VR ρ .niliface .nilIface
 | agg (cs:List AV) (us:List Value) (hl:us.length=cs.length) (h:∀(i:Nat) (v:AV) (u:Value),cs[i]? =some v->us[i]? =some u->VR ρ v u):VR ρ (.agg cs) (.agg us.toArray)
 | tuple (cs:List AV) (us:List Value) (hl:us.length=cs.length) (h:∀(i:Nat) (v:AV) (u:Value),cs[i]? =some v->us[i]? =some u->VR ρ v u):VR ρ (.tuple cs) (.tuple us.toArray)
def VRs(ρ:Emb)(cs:List AV)(us:List Value):Prop:=us.length=cs.length/\∀(i:Nat) (v:AV) (u:Value),cs[i]? =some v->us[i]? =some u->VR ρ v u
def Sub(ρ ρ':Emb):Prop:=∀x l,ρ x=some l->ρ' x=some l
theorem Sub.refl(ρ:Emb):Sub ρ ρ:=fun _ _ h=>h
theorem Sub.trans{a b c:Emb}(h:Sub a b)(k:Sub b c):Sub a c:=fun x l e=>k x l (h x l e)
theorem VR.mono{ρ ρ':Emb}(hs:Sub ρ ρ'){v:AV}{u:Value}(h:VR ρ v u):VR ρ' v u:=by
 induction h with
 | junk u=>exact .junk u
 | bool b=>exact .bool b
 | int k n=>exact .int k n
 | str s=>exact .str s
 | nilptr=>exact .nilptr
 | ptr b o l h=>exact .ptr b o l (hs _ _ h)
 | nilslice=>exact .nilslice
 | slice fl sz b o n cap ad h1 h2 h3 h4=>exact .slice fl sz b o n cap ad h1 h2 h3 (fun hc=>let ⟨l,e,r⟩:=h4 hc;⟨l,hs _ _ e,r⟩)
 | nilmap=>exact .nilmap
 | map r l h=>exact .map r l (hs _ _ h)
 | func fn f c f' c' hp hf hc h1 h2 ih1 ih2=>exact .func fn f c f' c' hp hf hc ih1 ih2
 | yield r l h=>exact .yield r l (hs _ _ h)
 | nilfunc=>exact .nilfunc
 | iface t v u h ih=>exact .iface t v u ih
 | niliface=>exact .niliface
 | agg cs us hl h ih=>exact .agg cs us hl ih
 | tuple cs us hl h ih=>exact .tuple cs us hl ih
theorem VRs.mono{ρ ρ':Emb}(hs:Sub ρ ρ'){cs:List AV}{us:List Value}(h:VRs ρ cs us):VRs ρ' cs us:=⟨h.1,fun i v u a b=>(h.2 i v u a b).mono hs⟩
theorem VRs.nil(ρ:Emb):VRs ρ [] []:=⟨rfl,fun i v u h=>by simp at h⟩
theorem VRs.cons{ρ:Emb}{v:AV}{u:Value}{cs:List AV}{us:List Value}(h:VR ρ v u)(hs:VRs ρ cs us):VRs ρ (v::cs) (u::us):=by
 refine⟨by simp[hs.1],fun i a b h1 h2=>?_⟩
 cases i with
 | zero=>simp at h1 h2;subst h1;subst h2;exact h
 | succ i=>exact hs.2 i a b (by simpa using h1) (by simpa using h2)
theorem VRs.head{ρ:Emb}{v:AV}{u:Value}{cs:List AV}{us:List Value}(h:VRs ρ (v::cs) (u::us)):VR ρ v u:=h.2 0 v u rfl rfl
theorem VRs.tail{ρ:Emb}{v:AV}{u:Value}{cs:List AV}{us:List Value}(h:VRs ρ (v::cs) (u::us)):VRs ρ cs us:=
 ⟨by simpa using h.1,fun i a b h1 h2=>h.2 (i+1) a b (by simpa using h1) (by simpa using h2)⟩
theorem VRs.nil_inv{ρ:Emb}{us:List Value}(h:VRs ρ [] us):us=[]:=by have:=h.1;simpa using this
theorem VRs.cons_inv{ρ:Emb}{v:AV}{cs:List AV}{us:List Value}(h:VRs ρ (v::cs) us):∃u us',us=u::us'/\VR ρ v u/\VRs ρ cs us':=by
 cases us with
 | nil=>have:=h.1;simp at this
 | cons u us'=>exact⟨u,us',rfl,h.head,h.tail⟩
theorem VRs.append{ρ:Emb} :∀{cs cs':List AV} {us us':List Value},VRs ρ cs us->VRs ρ cs' us'->VRs ρ (cs++cs') (us++us')
 | [],_,us,_,h,h'=>by rw[h.nil_inv];exact h'
 | v::cs,_,us,_,h,h'=>by obtain⟨u,r,rfl,hv,hr⟩:=h.cons_inv;exact .cons hv (VRs.append hr h')
theorem VRs.getElem{ρ:Emb}{cs:List AV}{us:List Value}(h:VRs ρ cs us){i:Nat}{v:AV}(hv:cs[i]? =some v):∃u,us[i]? =some u/\VR ρ v u:=by
 have hi:i<us.length:=by rw[h.1];exact(List.getElem?_eq_some_iff.1 hv).1
 exact⟨us[i],List.getElem?_eq_getElem hi,h.2 i v _ hv (List.getElem?_eq_getElem hi)⟩
theorem VRs.take{ρ:Emb}{cs:List AV}{us:List Value}(h:VRs ρ cs us)(n:Nat):VRs ρ (cs.take n) (us.take n):=by
 refine⟨by simp[h.1],fun i v u h1 h2=>?_⟩;rw[List.getElem?_take]at h1 h2;split at h1
 ·rename_i hlt;rw[if_pos hlt]at h2;exact h.2 i v u h1 h2
 ·cases h1
theorem VRs.drop{ρ:Emb}{cs:List AV}{us:List Value}(h:VRs ρ cs us)(n:Nat):VRs ρ (cs.drop n) (us.drop n):=by refine⟨by simp[h.1],fun i v u h1 h2=>?_⟩;rw[List.getElem?_drop]at h1 h2;exact h.2 (n+i) v u h1 h2
theorem VRs.aggv{ρ:Emb}{cs:List AV}{us:List Value}(h:VRs ρ cs us):VR ρ (.agg cs) (.agg us.toArray):= .agg cs us h.1 h.2
theorem VRs.tuplev{ρ:Emb}{cs:List AV}{us:List Value}(h:VRs ρ cs us):VR ρ (.tuple cs) (.tuple us.toArray):= .tuple cs us h.1 h.2
theorem VRs.replicate{ρ:Emb}{v:AV}{u:Value}(h:VR ρ v u):∀n,VRs ρ (List.replicate n v) (List.replicate n u)
 | 0=>VRs.nil ρ
 | n+1=> .cons h (VRs.replicate h n)
theorem VR.agg_inv{ρ:Emb}{cs:List AV}{u:Value}(h:VR ρ (.agg cs) u):∃us,u= .agg (List.toArray us)/\VRs ρ cs us:=by
 cases h with
 | agg _ us hl h=>exact⟨us,rfl,hl,h⟩
theorem VR.tuple_inv{ρ:Emb}{cs:List AV}{u:Value}(h:VR ρ (.tuple cs) u):∃us,u= .tuple (List.toArray us)/\VRs ρ cs us:=by
 cases h with
 | tuple _ us hl h=>exact⟨us,rfl,hl,h⟩
theorem VR.one{ρ:Emb}{v:AV}{u:Value}(h:VR ρ v u)(hv:v.one=true):u.oneCell'=true:=by cases h<;>first | rfl | (simp[AV.one]at hv)
theorem VR.cells{ρ:Emb}{v:AV}{u:Value}(h:VR ρ v u)(hv:v.cells.all AV.one=true):VRs ρ v.cells u.cells.toList/\∀x∈u.cells.toList,x.oneCell'=true:=by
 have key:∀{v:AV} {u:Value},VR ρ v u->v.one=true->VRs ρ [v] #[u].toList/\∀x∈#[u].toList,x.oneCell'=true:=fun h ho=>⟨.cons h (.nil ρ),by simpa using h.one ho⟩
 cases h with
 | agg cs us hl h=>
  refine⟨⟨hl,h⟩,fun x hx=>?_⟩;obtain⟨i,hi,e⟩:=List.getElem_of_mem hx;have hi':i<cs.length:=by rw[<-hl];simpa [Value.cells]using hi
  have h1:=h i cs[i] x (List.getElem?_eq_getElem hi') (by rw[<-e];simp[Value.cells]);exact h1.one (by simpa using (List.all_eq_true.1 hv) cs[i] (List.getElem_mem hi'))
 | junk u=>simp[AV.cells,AV.one]at hv
 | tuple cs us hl h=>simp[AV.cells,AV.one]at hv
 | bool b=>exact key (.bool b) rfl
 | int k n=>exact key (.int k n) rfl
 | str s=>exact key (.str s) rfl
 | nilptr=>exact key .nilptr rfl
 | ptr b o l h=>exact key (.ptr b o l h) rfl
 | nilslice=>exact key .nilslice rfl
 | slice fl sz b o n cap ad h1 h2 h3 h4=>exact key (.slice fl sz b o n cap ad h1 h2 h3 h4) rfl
 | nilmap=>exact key .nilmap rfl
 | map r l h=>exact key (.map r l h) rfl
 | func fn f c f' c' hp hf hc h1 h2=>exact key (.func fn f c f' c' hp hf hc h1 h2) rfl
 | yield r l h=>exact key (.yield r l h) rfl
 | nilfunc=>exact key .nilfunc rfl
 | iface t v u h=>exact key (.iface t v u h) rfl
 | niliface=>exact key .niliface rfl
def TR(ρ:Emb)(a:List AV)(tmps:Array Value):Prop:=VRs ρ a tmps.toList
theorem iY:∀(a:List AV) (t:Nat),tget a t=(a[t]?).getD .junk
 | [],t=>by simp[tget]
 | v::l,0=>by simp[tget]
 | v::l,t+1=>by simp[tget,iY l t]
theorem uO:∀(a:List AV) (t:Nat) (v:AV),(tset a t v).length=a.length
 | [],_,_=>rfl
 | _::_,0,_=>rfl
 | _::l,t+1,v=>by simp[tset,uO l t v]
theorem vK:∀(a:List AV) (t:Nat) (v:AV),tset a t v=a.set t v
 | [],_,_=>by simp[tset]
 | _::_,0,_=>by simp[tset]
 | _::l,t+1,v=>by simp[tset,vK l t v]
theorem TR.get{ρ:Emb}{a:List AV}{tmps:Array Value}(h:TR ρ a tmps)(t:Nat):VR ρ (tget a t) (tmps.getD t undef):=by
 rw[iY]
 cases hv:a[t]? with
 | none=>exact .junk _
 | some v=>
  obtain⟨u,hu,hr⟩:=h.getElem hv;have:tmps.getD t undef=u:=by rw[Array.getElem?_toList]at hu;simp[Array.getD_eq_getD_getElem?,hu]
  rw[this];exact hr
theorem TR.set{ρ:Emb}{a:List AV}{tmps:Array Value}(h:TR ρ a tmps)(t:Nat){v:AV}{u:Value}(hv:VR ρ v u):TR ρ (tset a t v) (tmps.setIfInBounds t u):=by
 rw[vK];refine⟨by simpa using h.1,fun i x y h1 h2=>?_⟩;rw[Array.toList_setIfInBounds]at h2;rw[List.getElem?_set]at h1 h2;by_cases e:t=i
 ·subst e;simp only[if_true]at h1 h2;split at h1
  ·split at h2
   ·cases h1;cases h2;exact hv
   ·cases h2
  ·cases h1
 ·rw[if_neg e]at h1 h2;exact h.2 i x y h1 h2
theorem TR.junk{ρ:Emb}{a:List AV}{tmps:Array Value}(h:TR ρ a tmps)(t:Nat):TR ρ (tset a t .junk) tmps:=by
 rw[vK];refine⟨by simpa using h.1,fun i x y h1 h2=>?_⟩;rw[List.getElem?_set]at h1;by_cases e:t=i
 ·subst e;simp only[if_true]at h1;split at h1
  ·cases h1;exact .junk y
  ·cases h1
 ·rw[if_neg e]at h1;exact h.2 i x y h1 h2
theorem TR.scrub{ρ:Emb}{tmps:Array Value} :∀(sc:List Nat) {a:List AV},TR ρ a tmps->TR ρ (scrub a sc) tmps
 | [],_,h=>h
 | t::sc,_,h=>TR.scrub sc (h.junk t)
theorem TR.put{ρ:Emb}{a:List AV}{act:Act}(h:TR ρ a act.tmps)(d:Option Nat){v:AV}{u:Value}(hv:VR ρ v u):TR ρ (put a d v) (act.put d u).tmps:=by
 cases d with
 | none=>exact h
 | some t=>exact h.set t hv
theorem TR.mono{ρ ρ':Emb}(hs:Sub ρ ρ'){a:List AV}{tmps:Array Value}(h:TR ρ a tmps):TR ρ' a tmps:=VRs.mono hs h
theorem fW{ρ:Emb}{u:Value}{v:AV}(h:fJ u=some v):VR ρ v u/\v.one=true:=by
 unfold fJ at h;split at h<;>first | (cases h;done) | skip
 all_goals (cases h)
 ·exact⟨.bool _,rfl⟩
 ·exact⟨.int _ _,rfl⟩
 ·exact⟨.str _,rfl⟩
 ·exact⟨.nilptr,rfl⟩
 ·exact⟨.nilslice,rfl⟩
 ·exact⟨.nilmap,rfl⟩
 ·exact⟨.nilfunc,rfl⟩
 ·exact⟨.niliface,rfl⟩
 ·exact⟨.func _ [] [] [] [] rfl rfl rfl (fun i v u h=>by simp at h) (fun i v u h=>by simp at h),rfl⟩
theorem dO{α β:Type}{f:α->Option β} :∀{l:List α} {r:List β},dS f l=some r->r.length=l.length
 | [],r,h=>by cases h;rfl
 | x::xs,r,h=>by
  unfold dS at h;split at h
  ·rename_i y ys hy hys;cases h;simp[dO hys]
  ·cases h
theorem jR{α β:Type}{f:α->Option β} :∀{l:List α} {r:List β},dS f l=some r->∀(i:Nat) x y,l[i]? =some x->r[i]? =some y->f x=some y
 | [],r,h,i,x,y,hx,hy=>by simp at hx
 | a::xs,r,h,i,x,y,hx,hy=>by
  unfold dS at h;split at h
  ·rename_i z zs hz hzs;cases h
   cases i with
   | zero=>simp at hx hy;subst hx;subst hy;exact hz
   | succ i=>exact jR hzs i x y (by simpa using hx) (by simpa using hy)
  ·cases h
theorem d7{ρ:Emb}{us:List Value}{cs:List AV}(h:dS fJ us=some cs):VRs ρ cs us/\cs.all AV.one=true:=by have hl:=dO h;refine⟨⟨hl.symm,fun i v u h1 h2=>(fW (jR h i u v h2 h1)).1⟩,?_⟩;rw[List.all_eq_true];intro v hv;obtain⟨i,hi,e⟩:=List.getElem_of_mem hv;exact(fW (ρ:=ρ) (jR h i (us[i]'(by omega)) v (List.getElem?_eq_getElem (by omega)) (by rw[<-e];exact List.getElem?_eq_getElem hi))).2
theorem KL{ρ:Emb}{u:Value}{v:AV}(h:DD u=some v):VR ρ v u:=by
 unfold DD at h;split at h
 ·rename_i cs;simp only[Option.map_eq_some_iff]at h;obtain⟨l,hl,rfl⟩:=h;exact(d7 hl).1.aggv
 ·rename_i t x;simp only[Option.map_eq_some_iff]at h;obtain⟨l,hl,rfl⟩:=h;exact .iface _ _ _ (fW hl).1
 ·exact(fW h).1
theorem aN{ρ:Emb}{x:Operand}{r:AR}(h:trR x=some r){a:List AV}{act:Act}(ht:∀t∈opR r,VR ρ (tget a t) (act.tmps.getD t undef)):VR ρ (ev a r) (act.eval x):=by
 unfold trR at h;split at h
 ·cases h;exact ht _ (by simp[opR])
 ·simp only[Option.map_eq_some_iff]at h;obtain⟨l,hl,rfl⟩:=h;exact KL hl
 ·cases h;exact .func _ [] [] [] [] rfl rfl rfl (fun i v u h=>by simp at h) (fun i v u h=>by simp at h)
 ·cases h
theorem lW{ρ:Emb} :∀{xs:List Operand} {rs:List AR},zQ xs=some rs->∀{a:List AV} {act:Act},(∀t∈rs.flatMap opR,VR ρ (tget a t) (act.tmps.getD t undef))->VRs ρ (rs.map (ev a)) (xs.map act.eval)
 | [],rs,h,a,act,ht=>by cases h;exact VRs.nil ρ
 | x::xs,rs,h,a,act,ht=>by
  unfold zQ dS at h;split at h
  ·rename_i y ys hy hys;cases h;simp only[List.flatMap_cons,List.mem_append]at ht;exact .cons (aN hy (fun t h=>ht t (.inl h))) (lW hys (fun t h=>ht t (.inr h)))
  ·cases h
def mU(P:Program)(c:Code)(ac:AC):Prop:=∃c0 ex rt out,tr P c=some c0/\∃nt,ac=(live nt c0 out ex rt).2
def aBA(P:Program)(l:Nat)(c:Code)(ac:AC):Prop:=∃c0 ex rt out,trJ P l c=some c0/\∃nt,ac=(live nt c0 out ex rt).2
def Ex.jump:Ex->Option Code
 | .normal=>none
 | .ret=>some .ret
 | .exit id=>some (.exit id)
structure LoopRel (P:Program) (ρ:Emb) (r:ALoop) (r':Loop):Prop where
 state:r'.state=r.state
 pending:r'.pending=r.pending.bind Ex.jump
 nojump:r.pending≠some .normal
 tmps:TR ρ r.tmps r'.tmps
 params:r'.params.toList=r.params
 asg:mU P r'.assign r.assign
 body:mU P r'.body r.body
def OR(P:Program)(ρ:Emb)(w:World)(l:Loc):AObj->Prop
 | .cells _ rw cs=>∃cc fz e,w.heap[l.blk]? =some (.cells cc e fz)/\cc.size=l.lim/\l.base+cs.length<=cc.size/\(rw=true->fz=(0,0))/\
   (∀i v,cs[i]? =some v->∃u,cc[l.base+i]? =some u/\VR ρ v u)
 | .map _ es=>∃entries clock,w.heap[l.blk]? =some (.map entries clock)/\VRs ρ (es.map (·.1)) (entries.toList.map (·.key))/\VRs ρ (es.map (·.2)) (entries.toList.map (·.val))
 | .loop _ r=>∃r',w.heap[l.blk]? =some (.loop r')/\LoopRel P ρ r r'
 | .dead=>True
def AObj.rwlive:AObj->Bool
 | .cells _ rw _=>rw
 | .map .. =>true
 | .loop .. =>true
 | .dead=>false
def AObj.islive:AObj->Bool
 | .dead=>false
 | _=>true
inductive GD where
 | ints (k:IntKind) (l:List Nat)
 | err
def GD.at:GD->List Value->Prop
 | .ints k l,cs=>cs=l.map fun n:Nat=>Value.int k n
 | .err,cs=>∃te pe,cs=[.iface te pe]
def aFI(s:String):Option GD:=
 if s= "math/bits.deBruijn64tab" then some (.ints .u8 [0,1,56,2,57,49,28,3,61,58,42,50,38,29,17,4,62,47,59,36,45,43,51,22,53,39,33,30,24,18,12,5,63,55,48,27,60,41,37,16,46,35,44,21,52,32,23,11,54,26,40,15,34,20,31,10,25,14,19,9,13,8,7,6])
 else if s= "internal/strconv.uint64pow10" then some (.ints .u64 [1,10,100,1000,10000,100000,1000000,10000000,100000000,1000000000,10000000000,100000000000,1000000000000,10000000000000,100000000000000,1000000000000000,10000000000000000,100000000000000000,1000000000000000000,10000000000000000000])
 else if s= "strconv.ErrRange" then some .err
 else if s= "strconv.ErrSyntax" then some .err
 else none
def gmem(P:Program)(b:Nat):Option GD:=(P.globals[b]?).bind fun g=>aFI g.name
def GlbAt(P:Program)(w:World):Prop:=∀b l,gmem P b=some l->∃cs e fz,w.heap[b]? =some (.cells cs e fz)/\l.at cs.toList
def OU(P:Program)(ρ:Emb)(h:H):Prop:=∀b l,gmem P b=some l->∀x lx ox,ρ x=some lx->h.get x=some ox->ox.rwlive=true->lx.blk≠b
structure HR (P:Program) (ρ:Emb) (h:H) (w:World):Prop where
 gat:GlbAt P w
 goff:OU P ρ h
 bound:∀x l,ρ x=some l->l.blk<w.heap.size
 obj:∀x l o,ρ x=some l->h.get x=some o->OR P ρ w l o
 inj:∀x y lx ly ox oy,ρ x=some lx->ρ y=some ly->h.get x=some ox->h.get y=some oy->ox.rwlive=true->oy.islive=true->x≠y->lx.blk≠ly.blk
theorem GlbAt.lt{P:Program}{w:World}(h:GlbAt P w){b:Nat}{l:GD}(hb:gmem P b=some l):b<w.heap.size:=by obtain⟨cs,e,fz,h1,_⟩:=h b l hb;exact(Array.getElem?_eq_some_iff.1 h1).1
theorem GlbAt.none{P:Program}(h:(P.globals.toList.all fun g=>(aFI g.name).isNone)=true)(w:World):GlbAt P w:=fun b l hb=>by
 unfold gmem at hb
 cases hg:P.globals[b]? with
 | none=>rw[hg]at hb;cases hb
 | some g=>rw[hg]at hb;have hb:aFI g.name=some l:=hb;have:=(List.all_eq_true.1 h) g (List.mem_of_getElem? (by rw[Array.getElem?_toList];exact hg));rw[hb]at this;cases this
theorem GlbAt.keep{P:Program}{w w':World}(h:GlbAt P w)(hs:∀b l,gmem P b=some l->b<w.heap.size->w'.heap[b]? =w.heap[b]?):GlbAt P w':=fun b l hb=>by obtain⟨cs,e,fz,h1,h2⟩:=h b l hb;exact⟨cs,e,fz,by rw[hs b l hb (h.lt hb)];exact h1,h2⟩
theorem LoopRel.mono{P:Program}{ρ ρ':Emb}(hs:Sub ρ ρ'){r:ALoop}{r':Loop}(h:LoopRel P ρ r r'):LoopRel P ρ' r r':=
 ⟨h.state,h.pending,h.nojump,h.tmps.mono hs,h.params,h.asg,h.body⟩
theorem OR.mono{P:Program}{ρ ρ':Emb}{w w':World}{l:Loc}{o:AObj}(hs:Sub ρ ρ')(hw:w'.heap[l.blk]? =w.heap[l.blk]?)(h:OR P ρ w l o):OR P ρ' w' l o:=by
 cases o with
 | cells v rw cs=>obtain⟨cc,fz,e,h1,h2,h4,h5,h6⟩:=h;exact⟨cc,fz,e,by rw[hw];exact h1,h2,h4,h5,fun i v hv=>let ⟨u,a,b⟩:=h6 i v hv;⟨u,a,b.mono hs⟩⟩
 | map v es=>obtain⟨en,ck,h1,h2,h3⟩:=h;exact⟨en,ck,by rw[hw];exact h1,h2.mono hs,h3.mono hs⟩
 | loop v r=>obtain⟨r',h1,h2⟩:=h;exact⟨r',by rw[hw];exact h1,h2.mono hs⟩
 | dead=>trivial
theorem OR.lt{P:Program}{ρ:Emb}{w:World}{l:Loc}{o:AObj}(h:OR P ρ w l o)(hl:o.islive=true):l.blk<w.heap.size:=by
 cases o with
 | cells v rw cs=>obtain⟨cc,fz,e,h1,_⟩:=h;exact(Array.getElem?_eq_some_iff.1 h1).1
 | map v es=>obtain⟨en,ck,h1,_⟩:=h;exact(Array.getElem?_eq_some_iff.1 h1).1
 | loop v r=>obtain⟨r',h1,_⟩:=h;exact(Array.getElem?_eq_some_iff.1 h1).1
 | dead=>simp[AObj.islive]at hl
theorem AObj.live_of_rw{o:AObj}(h:o.rwlive=true):o.islive=true:=by cases o<;>simp_all [AObj.rwlive,AObj.islive]
structure Stp (ρ:Emb) (h:H) (w:World) (ρ':Emb) (h':H) (w':World):Prop where
 sub:Sub ρ ρ'
 dom:∀x l,ρ' x=some l->ρ x=some l\/(h.next<=x/\x<h'.next)
 own:∀x l,ρ' x=some l->ρ x=some l\/w.heap.size<=l.blk\/(∃y ly oy,ρ y=some ly/\h.get y=some oy/\oy.rwlive=true/\l.blk=ly.blk)
 size:w.heap.size<=w'.heap.size
 os:w'.os=w.os
 tape:w'.tape=w.tape
 output:w'.output=w.output
 frame:∀b,b<w.heap.size->(∀x l o,ρ x=some l->h.get x=some o->o.rwlive=true->l.blk≠b)->w'.heap[b]? =w.heap[b]?
theorem Stp.refl(ρ:Emb)(h:H)(w:World):Stp ρ h w ρ h w:=⟨Sub.refl ρ,fun _ _ h=> .inl h,fun _ _ h=> .inl h,Nat.le_refl _,rfl,rfl,rfl,fun _ _ _=>rfl⟩
def AObj.kind:AObj->Nat
 | .cells .. =>0
 | .map .. =>1
 | .loop .. =>2
 | .dead=>3
def later(o o':AObj):Prop:=o=o'\/(o'= .dead/\o.kind=0)\/(∃v v',o.ver=some v/\o'.ver=some v'/\v<v'/\o.rwlive=true/\o'.rwlive=true/\o.kind=o'.kind)
structure Ev (h h':H):Prop where
 next:h.next<=h'.next
 keep:∀x o,h.get x=some o->∃o',h'.get x=some o'/\later o o'/\(o.rwlive=false->o=o')
 back:∀x o',h'.get x=some o'->x<h.next->∃o,h.get x=some o
theorem later.refl(o:AObj):later o o:= .inl rfl
theorem later.trans{a b c:AObj}(h:later a b)(k:later b c):later a c:=by
 rcases h with rfl | ⟨rfl,hk⟩ | ⟨v,v',h1,h2,h3,h4,h5,h6⟩
 ·exact k
 ·rcases k with rfl | ⟨rfl,_⟩ | ⟨v,v',k1,_⟩
  ·exact .inr (.inl ⟨rfl,hk⟩)
  ·exact .inr (.inl ⟨rfl,hk⟩)
  ·simp[AObj.ver]at k1
 ·rcases k with rfl | ⟨rfl,k0⟩ | ⟨u,u',k1,k2,k3,k4,k5,k6⟩
  ·exact .inr (.inr ⟨v,v',h1,h2,h3,h4,h5,h6⟩)
  ·exact .inr (.inl ⟨rfl,h6.trans k0⟩)
  ·rw[h2]at k1;cases k1;exact .inr (.inr ⟨v,u',h1,k2,by omega,h4,k5,h6.trans k6⟩)
theorem Ev.refl(h:H):Ev h h:=⟨Nat.le_refl _,fun x o ho=>⟨o,ho,later.refl o,fun _=>rfl⟩,fun x o ho _=>⟨o,ho⟩⟩
theorem Ev.trans{a b c:H}(h:Ev a b)(k:Ev b c):Ev a c:=by
 refine⟨Nat.le_trans h.next k.next,fun x o ho=>?_,fun x o ho hx=>?_⟩
 ·obtain⟨o1,h1,l1,r1⟩:=h.keep x o ho;obtain⟨o2,h2,l2,r2⟩:=k.keep x o1 h1;exact⟨o2,h2,l1.trans l2,fun hr=>by have:=r1 hr;subst this;exact r2 hr⟩
 ·obtain⟨o1,h1⟩:=k.back x o ho (Nat.lt_of_lt_of_le hx h.next);exact h.back x o1 h1 hx
theorem Ev.alloc(h:H)(o:AObj):Ev h (h.alloc o):=
 ⟨by simp,fun x o' ho=>⟨o',H.get_alloc_old ho,later.refl o',fun _=>rfl⟩,fun x o' ho hx=>by rw[H.get_alloc,if_neg (by omega)]at ho;exact⟨o',ho⟩⟩
theorem Ev.set{h:H}{x:Nat}{o o':AObj}(hg:h.get x=some o)(hl:later o o')(hr:o.rwlive=true):Ev h (h.set x o'):=by
 refine⟨by simp,fun y oy hy=>?_,fun y oy hy hx=>?_⟩
 ·by_cases e:y=x
  ·subst e;rw[hg]at hy;cases hy;exact⟨o',H.get_set_same hg,hl,fun h0=>by rw[h0]at hr;cases hr⟩
  ·exact⟨oy,by rw[H.get_set_ne e];exact hy,later.refl oy,fun _=>rfl⟩
 ·by_cases e:y=x
  ·subst e;exact⟨o,hg⟩
  ·rw[H.get_set_ne e]at hy;exact⟨oy,hy⟩
theorem Ev.same{h h':H}(hv:Ev h h'){x:Nat}(hs:eY h h' x=true)(hx:x<h.next):h'.get x=h.get x:=by
 unfold eY H.ver at hs;rw[if_pos hx]at hs
 cases hg:h.get x with
 | none=>
  cases hg':h'.get x with
  | none=>rfl
  | some o'=>obtain⟨o,ho⟩:=hv.back x o' hg' hx;rw[hg]at ho;cases ho
 | some o=>
  obtain⟨o',ho',hl,_⟩:=hv.keep x o hg;rw[hg,ho']at hs;rw[ho'];simp only[Option.bind_some,beq_iff_eq]at hs;rcases hl with rfl | ⟨rfl,_⟩ | ⟨v,v',h1,h2,h3,_⟩
  ·rfl
  ·cases o<;>simp[AObj.ver]at hs;rfl
  ·rw[h1,h2]at hs;simp at hs;omega
theorem Ev.isLoop{h h':H}(hv:Ev h h'){x:Nat}{v:Nat}{q:ALoop}(hg:h.get x=some (.loop v q)):∃v' q',h'.get x=some (.loop v' q'):=by
 obtain⟨o',ho',hl,_⟩:=hv.keep x _ hg;rcases hl with rfl | ⟨rfl,hk⟩ | ⟨u,u',_,_,_,_,_,hk⟩
 ·exact⟨v,q,ho'⟩
 ·simp[AObj.kind]at hk
 ·cases o'<;>simp[AObj.kind]at hk;exact⟨_,_,ho'⟩
theorem Ev.rw_back{h h':H}(hv:Ev h h'){x:Nat}{o':AObj}(hg:h'.get x=some o')(hx:x<h.next)(hr:o'.rwlive=true):∃o,h.get x=some o/\o.rwlive=true:=by
 obtain⟨o,ho⟩:=hv.back x o' hg hx;obtain⟨o2,h2,hl,hk⟩:=hv.keep x o ho;rw[hg]at h2;cases h2;refine⟨o,ho,?_⟩
 cases hr2:o.rwlive with
 | true=>rfl
 | false=>have:=hk hr2;subst this;rw[hr2]at hr;cases hr
theorem Ev.live_back{h h':H}(hv:Ev h h'){x:Nat}{o':AObj}(hg:h'.get x=some o')(hx:x<h.next)(hr:o'.islive=true):∃o,h.get x=some o/\o.islive=true:=by
 obtain⟨o,ho⟩:=hv.back x o' hg hx;obtain⟨o2,h2,hl,hk⟩:=hv.keep x o ho;rw[hg]at h2;cases h2;refine⟨o,ho,?_⟩;rcases hl with rfl | ⟨rfl,_⟩ | ⟨v,v',_,_,_,h4,_⟩
 ·exact hr
 ·simp[AObj.islive]at hr
 ·exact AObj.live_of_rw h4
theorem Stp.trans{ρ ρ1 ρ2:Emb}{h h1 h2:H}{w w1 w2:World}(a:Stp ρ h w ρ1 h1 w1)(b:Stp ρ1 h1 w1 ρ2 h2 w2)(e1:Ev h h1)(e2:Ev h1 h2)
  (hfr:∀x,h.next<=x->x<h2.next->ρ x=none):Stp ρ h w ρ2 h2 w2:=by
 have key:∀y ly oy,ρ1 y=some ly->h1.get y=some oy->oy.rwlive=true->(∃oy',ρ y=some ly/\h.get y=some oy'/\oy'.rwlive=true)\/w.heap.size<=ly.blk\/(∃z lz oz,ρ z=some lz/\h.get z=some oz/\oz.rwlive=true/\ly.blk=lz.blk):=by
  intro y ly oy h1y hgy hry;rcases a.own y ly h1y with hy | hy | hy
  ·by_cases hlt:y<h.next
   ·obtain⟨o0,ho0,hr0⟩:=e1.rw_back hgy hlt hry;exact .inl ⟨o0,hy,ho0,hr0⟩
   ·have:=hfr y (by omega) (Nat.lt_of_lt_of_le (H.lt_of_get hgy) e2.next);rw[hy]at this;cases this
  ·exact .inr (.inl hy)
  ·exact .inr (.inr hy)
 refine⟨a.sub.trans b.sub,fun x l hx=>?_,fun x l hx=>?_,Nat.le_trans a.size b.size,b.os.trans a.os,b.tape.trans a.tape,b.output.trans a.output,fun c hc hno=>?_⟩
 ·rcases b.dom x l hx with h1x | ⟨p,q⟩
  ·rcases a.dom x l h1x with h0x | ⟨p,q⟩
   ·exact .inl h0x
   ·exact .inr ⟨p,Nat.lt_of_lt_of_le q e2.next⟩
  ·exact .inr ⟨Nat.le_trans e1.next p,q⟩
 ·rcases b.own x l hx with h1x | hsz | ⟨y,ly,oy,hy,hgy,hry,e⟩
  ·exact a.own x l h1x
  ·exact .inr (.inl (Nat.le_trans a.size hsz))
  ·rcases key y ly oy hy hgy hry with⟨o0,p,q,r⟩ | p | ⟨z,lz,oz,p,q,r,s⟩
   ·exact .inr (.inr ⟨y,ly,o0,p,q,r,e⟩)
   ·exact .inr (.inl (by rw[e];exact p))
   ·exact .inr (.inr ⟨z,lz,oz,p,q,r,e.trans s⟩)
 ·rw[<-a.frame c hc hno];refine b.frame c (Nat.lt_of_lt_of_le hc a.size) fun x l o hx hg hr e=>?_;rcases key x l o hx hg hr with⟨o0,p,q,r⟩ | p | ⟨z,lz,oz,p,q,r,s⟩
  ·exact hno x l o0 p q r e
  ·omega
  ·exact hno z lz oz p q r (s.symm.trans e)
def upd(ρ:Emb)(x:Nat)(l:Loc):Emb:=fun y=>if y=x then some l else ρ y
theorem aV(ρ:Emb)(x:Nat)(l:Loc):upd ρ x l x=some l:=by simp[upd]
theorem bJ{ρ:Emb}{x y:Nat}{l:Loc}(h:y≠x):upd ρ x l y=ρ y:=by simp[upd,h]
theorem gD{ρ:Emb}{x:Nat}{l:Loc}(h:ρ x=none):Sub ρ (upd ρ x l):=fun y ly hy=>by
 by_cases e:y=x
 ·subst e;rw[h]at hy;cases hy
 ·rw[bJ e];exact hy
theorem HR.alloc{P:Program}{ρ:Emb}{h:H}{w:World}{o:Obj}{ao:AObj}{l:Loc}(hr:HR P ρ h w)(hfr:ρ h.next=none)(hb:l.blk=w.heap.size)
  (ho:OR P (upd ρ h.next l) (w.alloc o) l ao):HR P (upd ρ h.next l) (h.alloc ao) (w.alloc o)/\Stp ρ h w (upd ρ h.next l) (h.alloc ao) (w.alloc o):=by
 have old:∀b,b<w.heap.size->(w.alloc o).heap[b]? =w.heap[b]? :=fun b hb=>RowKit.Below.heap_alloc w o b hb;have hs:=gD (l:=l) hfr;refine⟨⟨hr.gat.keep fun b l hb hlt=>old b hlt,fun b l hb0 x lx ox hx hg hrw=>?_,fun x lx hx=>?_,fun x lx ox hx hg=>?_,fun x y lx ly ox oy hx hy hgx hgy hrx hly hne=>?_⟩,⟨hs,fun x lx hx=>?_,fun x lx hx=>?_,by simp,rfl,rfl,rfl,fun b hb _=>old b hb⟩⟩
 ·by_cases e:x=h.next
  ·subst e;rw[aV]at hx;cases hx;have:=hr.gat.lt hb0;omega
  ·rw[bJ e]at hx;rw[H.get_alloc,if_neg e]at hg;exact hr.goff b l hb0 x lx ox hx hg hrw
 ·by_cases e:x=h.next
  ·subst e;rw[aV]at hx;cases hx;simp;omega
  ·rw[bJ e]at hx;have:=hr.bound x lx hx;simp;omega
 ·by_cases e:x=h.next
  ·subst e;rw[aV]at hx;cases hx;rw[H.get_alloc_new]at hg;cases hg;exact ho
  ·rw[bJ e]at hx;rw[H.get_alloc,if_neg e]at hg;have h0:=hr.obj x lx ox hx hg
   cases hl:ox.islive with
   | true=>exact h0.mono hs (old _ (h0.lt hl))
   | false=>cases ox<;>first | trivial | (simp[AObj.islive]at hl)
 ·by_cases ex:x=h.next
  ·subst ex;rw[aV]at hx;cases hx;rw[bJ (Ne.symm hne)]at hy;rw[H.get_alloc,if_neg (Ne.symm hne)]at hgy;have:=(hr.obj y ly oy hy hgy).lt hly;omega
  ·rw[bJ ex]at hx;rw[H.get_alloc,if_neg ex]at hgx;by_cases ey:y=h.next
   ·subst ey;rw[aV]at hy;cases hy;have:=(hr.obj x lx ox hx hgx).lt (AObj.live_of_rw hrx);omega
   ·rw[bJ ey]at hy;rw[H.get_alloc,if_neg ey]at hgy;exact hr.inj x y lx ly ox oy hx hy hgx hgy hrx hly hne
 ·by_cases e:x=h.next
  ·subst e;exact .inr ⟨Nat.le_refl _,by simp⟩
  ·rw[bJ e]at hx;exact .inl hx
 ·by_cases e:x=h.next
  ·subst e;rw[aV]at hx;cases hx;exact .inr (.inl (by omega))
  ·rw[bJ e]at hx;exact .inl hx
theorem HR.turn{P:Program}{ρ:Emb}{h:H}{w w':World}{x:Nat}{l:Loc}{o o':AObj}(hr:HR P ρ h w)(hx:ρ x=some l)(hg:h.get x=some o)(hrw:o.rwlive=true)
  (hlv:o'.rwlive=true) (hsz:w'.heap.size=w.heap.size) (hos:w'.os=w.os) (htp:w'.tape=w.tape) (hou:w'.output=w.output)
  (hfr:∀b,b≠l.blk->w'.heap[b]? =w.heap[b]?) (ho:OR P ρ w' l o'):HR P ρ (h.set x o') w'/\Stp ρ h w ρ (h.set x o') w':=by
 refine⟨⟨hr.gat.keep fun b lb hb hlt=>hfr b fun e=>hr.goff b lb hb x l o hx hg hrw e.symm,fun b lb hb y ly oy hy hgy hry=>?_,fun y ly hy=>by have:=hr.bound y ly hy;omega,fun y ly oy hy hgy=>?_,fun y z ly lz oy oz hy hz hgy hgz hry hlz hne=>?_⟩,⟨Sub.refl ρ,fun _ _ h=> .inl h,fun _ _ h=> .inl h,by omega,hos,htp,hou,fun b hb hno=>hfr b (fun e=>hno x l o hx hg hrw e.symm)⟩⟩
 ·by_cases e:y=x
  ·subst e;rw[hx]at hy;cases hy;exact hr.goff b lb hb y l o hx hg hrw
  ·rw[H.get_set_ne e]at hgy;exact hr.goff b lb hb y ly oy hy hgy hry
 ·by_cases e:y=x
  ·subst e;rw[hx]at hy;cases hy;rw[H.get_set_same hg]at hgy;cases hgy;exact ho
  ·rw[H.get_set_ne e]at hgy;have h0:=hr.obj y ly oy hy hgy
   cases hl:oy.islive with
   | true=>exact h0.mono (Sub.refl ρ) (hfr _ (fun e'=>hr.inj x y l ly o oy hx hy hg hgy hrw hl (Ne.symm e) e'.symm))
   | false=>cases oy<;>first | trivial | (simp[AObj.islive]at hl)
 ·by_cases ey:y=x
  ·subst ey;rw[hx]at hy;cases hy;rw[H.get_set_ne (Ne.symm hne)]at hgz;exact hr.inj y z l lz o oz hx hz hg hgz hrw hlz hne
  ·rw[H.get_set_ne ey]at hgy;by_cases ez:z=x
   ·subst ez;rw[hx]at hz;cases hz;exact hr.inj y z ly l oy o hy hx hgy hg hry (AObj.live_of_rw hrw) hne
   ·rw[H.get_set_ne ez]at hgz;exact hr.inj y z ly lz oy oz hy hz hgy hgz hry hlz hne
end Go.Am

