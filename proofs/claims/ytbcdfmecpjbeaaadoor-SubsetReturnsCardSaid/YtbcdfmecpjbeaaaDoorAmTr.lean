/- The translation of a program's code into the abstract machine's code: a computable function. -/
import Derived.Test.YtbcdfmecpjbeaaaDoorAmBase
import GoSem.Core.View
import GoSem.Core.Layout
import GoSem.ClaimKeys
import GoSem.Dispatch
namespace Go.Am
def trConst1:Value→Option AV
 | .bool b=>some (.bool b)
 | .int k n=>some (.int k n)
 | .string s=>some (.str s)
 | .pointer none=>some .nilptr
 | .slice none 0 0=>some .nilslice
 | .map none=>some .nilmap
 | .nilFunc=>some .nilfunc
 | .nilIface=>some .niliface
 | .func (.func f) ⟨[]⟩ ⟨[]⟩=>some (.func (.func f) [] [])
 | _=>none
def optAll {α β:Type} (f:α→Option β):List α→Option (List β)
 | []=>some []
 | x::xs=>match f x,optAll f xs with
  | some y,some ys=>some (y::ys)
  | _,_=>none
def trConst:Value→Option AV
 | .agg cs=>(optAll trConst1 cs.toList).map .agg
 | .iface t v=>(trConst1 v).map (.iface t)
 | v=>trConst1 v
def trR:Operand→Option AR
 | .tmp t=>some (.tmp t)
 | .const v=>(trConst v).map .const
 | .func f=>some (.const (.func (.func f) [] []))
 | .global _=>none
def trRs (l:List Operand):Option (List AR):=optAll trR l
def trRo:Option Operand→Option (Option AR)
 | none=>some none
 | some x=>(trR x).map some
section
variable (P:Program)
def zeroA (t:TypeId):Option (List AV):=
 match P.info? t with
 | some i=>match i.zero with
  | some z=>optAll trConst1 z.cells.toList
  | none=>none
 | none=>none
def sizeA (t:TypeId):Option Nat:=(P.info? t).map (·.size)
def isAggA (t:TypeId):Option Bool:=
 match P.underlying t with
 | some (.struct _)=>some true
 | some (.array _ _)=>some true
 | some _=>some false
 | none=>none
def trParts (place:Nat→Option (Nat×Nat)):List (Nat×Operand)→Option (List (Nat×Nat×AR))
 | []=>some []
 | (i,x)::r=>match place i,trR x,trParts place r with
  | some (off,size),some y,some ys=>some ((off,size,y)::ys)
  | _,_,_=>none
def fieldPlaces (fs:Array Field) (i:Nat):Option (Nat×Nat):=
 match fs[i]? with
 | some f=>match sizeA P f.type with
  | some s=>some (f.offset,s)
  | none=>none
 | none=>none
def keyKind (t:TypeId):Option Nat:=
 match P.underlying t with
 | some (.int _)=>some 0
 | some .bool=>some 1
 | some .string=>some 2
 | _=>none
def zeroV (t:TypeId):Option AV:=
 match P.info? t with
 | some i=>match i.zero with
  | some z=>trConst1 z
  | none=>none
 | none=>none
def trBuiltin (b:Builtin) (ts:List TypeId) (args:List Operand):Option AO:=
 match b,ts,args with
 | .append,t::t2::_,[s,x]=>match P.underlying t,P.underlying t2,trR s,trR x with
  | some (.slice e),some (.slice _),some s,some x=>match P.info? e,zeroA P e with
   | some i,some z=>if i.size=z.length&&0<i.size then some (.append i.size i.bytes s x) else none
   | _,_=>none
  | some (.slice e),some (.int _),some s,some x=>match P.info? e,zeroA P e with
   | some i,some z=>if i.size=z.length&&0<i.size then some (.appendMake i.bytes z s x) else none
   | _,_=>none
  | _,_,_,_=>none
 | .len,t::_,[x]=>match P.underlying t,trR x with
  | some (.slice _),some x=>some (.len x)
  | some .string,some x=>some (.lenStr x)
  | some (.map _ _),some x=>some (.lenMap x)
  | some (.array n _),_=>some (.move (.const (i64 n)))
  | _,_=>none
 | .cap,t::_,[x]=>match P.underlying t,trR x with
  | some (.slice _),some x=>some (.cap x)
  | _,_=>none
 | .copy,t::t2::_,[d,x]=>match P.underlying t,P.underlying t2,trR d,trR x with
  | some (.slice e),some (.slice _),some d,some x=>match P.info? e with
   | some i=>if 0<i.size then some (.copyS i.size d x) else none
   | none=>none
  | _,_,_,_=>none
 | .clear,t::_,[x]=>match P.underlying t,trR x with
  | some (.slice e),some x=>match P.info? e,zeroA P e with
   | some i,some z=>if i.size=z.length&&0<i.size then some (.clearS z x) else none
   | _,_=>none
  | _,_=>none
 | .max,_,x::xs=>match trR x,trRs xs with
  | some x,some xs=>some (.max x xs)
  | _,_=>none
 | .min,_,x::xs=>match trR x,trRs xs with
  | some x,some xs=>some (.min x xs)
  | _,_=>none
 | _,_,_=>none
def nilKind:TypeDesc→Option Nat
 | .slice _=>some 0
 | .pointer _=>some 1
 | .map _ _=>some 2
 | .func _ _ _=>some 3
 | _=>none
def flatFields (P:Program) (f:TypeId→Option (List (Option IntKind))):Nat→List Field→Option (List (Option IntKind))
 | _,[]=>some []
 | off,x::xs=>match f x.type,flatFields P f (x.offset+P.cellsOf x.type) xs with
  | some a,some b=>if x.offset=off∧a.length=P.cellsOf x.type then some (a++b) else none
  | _,_=>none
def timesK (a:List (Option IntKind)):Nat→List (Option IntKind)
 | 0=>[]
 | n+1=>a++timesK a n
def flatK (P:Program):Nat→TypeId→Option (List (Option IntKind))
 | 0,_=>none
 | m+1,t=>match P.underlying t with
  | some (.int k)=>some [some k]
  | some .bool=>some [none]
  | some (.struct fs)=>match flatFields P (flatK P m) 0 fs.toList with
   | some T=>if T.length=P.cellsOf t∧fs.all (·.name != "_")=true then some T else none
   | none=>none
  | some (.array n e)=>match flatK P m e with
   | some E=>if E.length=P.cellsOf e∧(timesK E n).length=P.cellsOf t then some (timesK E n) else none
   | none=>none
  | _=>none
def eqCellsOp (P:Program) (op:BinOp) (t:TypeId) (x y:AR):Option AO:=
 match op,flatK P 20 t with
 | .eql,some T=>if P.keyTypeAt 20 t=true∧P.eqGuardType P.depth t=false then some (.eqCells false T x y) else none
 | .neq,some T=>if P.keyTypeAt 20 t=true∧P.eqGuardType P.depth t=false then some (.eqCells true T x y) else none
 | _,_=>none
def q29 (o:Oper):Option AO:=
 match o.op with
 | .move x | .assign x=>(trR x).map .move
 | .pick c a b=>match trR c,trR a,trR b with
  | some c,some a,some b=>some (.pick c a b)
  | _,_,_=>none
 | .alloc e=>(zeroA P e).map .alloc
 | .box _ x=>(trR x).map .box
 | .build t ps=>match zeroA P t,P.underlying t with
  | some z,some (.struct fs)=>if fs.toList.all (fun f=>(sizeA P f.type).isSome) then(trParts (fieldPlaces P fs) ps.toList).map (.build z) else none
  | some z,some (.array _ e)=>match sizeA P e with
   | some s=>(trParts (fun i=>some (i*s,s)) ps.toList).map (.build z)
   | none=>none
  | _,_=>none
 | .buildSlice t len ps=>match P.underlying t with
  | some (.slice e)=>match sizeA P e,zeroA P e with
   | some s,some z=>if s=z.length&&0<s&&len*s≤65536 then(trParts (fun i=>some (i*s,s)) ps.toList).map (.buildSlice s len z) else none
   | _,_=>none
  | _=>none
 | .load t x=>match isAggA P t,sizeA P t,trR x with
  | some true,some n,some x=>some (.loadAgg n x)
  | some false,_,some x=>some (.load x)
  | _,_,_=>none
 | .store t p x=>match sizeA P t,trR p,trR x with
  | some n,some p,some x=>some (.store n p x)
  | _,_,_=>none
 | .nilCheck x=>(trR x).map .nilCheck
 | .binOp op t x y _=>match trR x,trR y,P.underlying t with
  | some x,some y,some (.int _) | some x,some y,some .string=>some (.bin op x y)
  | some x,some y,some .bool=>match op with
   | .eql=>some (.eqB false x y)
   | .neq=>some (.eqB true x y)
   | _=>none
  | some x,some y,some (.struct _) | some x,some y,some (.array _ _)=>eqCellsOp P op t x y
  | some x,some y,some d=>match nilKind d,op with
   | some kd,.eql=>some (.isNil kd false x y)
   | some kd,.neq=>some (.isNil kd true x y)
   | _,_=>none
  | _,_,_=>none
 | .unOp op _ x=>(trR x).map (.un op)
 | .convert src dst x=>match P.underlying src,P.underlying dst,trR x with
  | some (.int _),some (.int k),some x=>some (.convInt k x)
  | some .string,some .string,some x=>some (.convStr x)
  | some (.slice e),some .string,some x=>match P.underlying e with
   | some (.int .u8)=>some (.bytesToStr x)
   | _=>none
  | _,_,_=>none
 | .makeInterface t x=>match P.underlying t with
  | some (.interface _)=>none
  | some _=>(trR x).map (.mkIface t)
  | none=>none
 | .makeFunc fn f c=>match fn,trRs f.toList,trRs c.toList with
  | .yield _,_,_=>none
  | fn,some f,some c=>some (.mkFunc fn f c)
  | _,_,_=>none
 | .makeMap _ none=>some .makeMap
 | .makeSlice t l c=>match P.underlying t with
  | some (.slice e)=>match P.info? e,zeroA P e,trR l,trR c with
   | some i,some z,some l,some c=>if i.size=z.length&&0<i.size then some (.makeSlice i.bytes z l c) else none
   | _,_,_,_=>none
  | _=>none
 | .slice t x lo hi mx=>match P.underlying t with
  | some (.slice e)=>match sizeA P e,trR x,trRo lo,trRo hi,trRo mx with
   | some s,some x,some lo,some hi,some mx=>some (.slice s x lo hi mx)
   | _,_,_,_,_=>none
  | some .string=>match trR x,trRo lo,trRo hi,mx with
   | some x,some lo,some hi,none=>some (.sliceStr x lo hi)
   | _,_,_,_=>none
  | some (.array n e)=>match sizeA P e,trR x,trRo lo,trRo hi,mx with
   | some s,some x,some lo,some hi,none=>if n≤65536 then some (.sliceArr n s x lo hi) else none
   | _,_,_,_,_=>none
  | _=>none
 | .fieldAddr t x i=>match P.underlying t with
  | some (.struct fs)=>match fs[i]? with
   | some f=>match sizeA P f.type,trR x with
    | some (_+1),some x=>some (.fieldAddr f.offset x)
    | _,_=>none
   | none=>none
  | _=>none
 | .field t x i=>match P.underlying t with
  | some (.struct fs)=>match fs[i]? with
   | some f=>match isAggA P f.type,sizeA P f.type,trR x with
    | some true,some n,some x=>some (.field f.offset (some n) x)
    | some false,_,some x=>some (.field f.offset none x)
    | _,_,_=>none
   | none=>none
  | _=>none
 | .indexAddr t x i=>match P.underlying t,trR x,trR i with
  | some (.slice e),some x,some i=>match sizeA P e with
   | some s=>some (.indexAddr s x i)
   | none=>none
  | some (.array n e),some x,some i=>match sizeA P e with
   | some s=>some (.indexAddrA n s x i)
   | none=>none
  | _,_,_=>none
 | .index t x i=>match P.underlying t,trR x,trR i with
  | some (.array n e),some x,some i=>match sizeA P e,isAggA P e with
   | some s,some b=>some (.index n s b x i)
   | _,_=>none
  | some .string,some x,some i=>some (.indexStr x i)
  | _,_,_=>none
 | .lookup t x i ok=>match P.underlying t,trR x,trR i with
  | some (.map k e),some x,some i=>match zeroV P e,keyKind P k with
   | some z,some kd=>some (.lookup kd ok z x i)
   | _,_=>none
  | _,_,_=>none
 | .mapUpdate t m k v | .insert t m k v=>match P.underlying t,trR m,trR k,trR v with
  | some (.map kt _),some m,some k,some v=>match keyKind P kt with
   | some kd=>some (.mapUpdate kd m k v)
   | none=>none
  | _,_,_,_=>none
 | .extract x i=>(trR x).map (.extract · i)
 | .panic _=>some (.extract (.const .junk) 0)
 | .call c=>match c.callee with
  | .value f=>match trR f,trRs c.args.toList with
   | some f,some args=>some (.call f args)
   | _,_=>none
  | .builtin b=>trBuiltin P b c.argTypes.toList c.args.toList
  | .invoke .. =>none
 | _=>none
def AO.stuck:AO:= .extract (.const .junk) 0
def stuckable:Op→Bool
 | .convert .. | .slice .. | .indexAddr .. | .index .. | .call _ | .load .. | .store .. | .binOp .. | .unOp .. | .makeInterface .. =>true
 | _=>false
def trOp (o:Oper):Option AO:=match q29 P o with
 | some ao=>some ao
 | none=>if stuckable o.op then some .stuck else none
theorem trOp_cases {o:Oper} {ao:AO} (h:trOp P o=some ao):q29 P o=some ao∨(ao= .stuck∧stuckable o.op=true):=by
 unfold trOp at h
 split at h
 ·rename_i h0;rw[h0];cases h;exact .inl rfl
 ·split at h
  ·rename_i hs;cases h;exact .inr ⟨rfl,hs⟩
  ·cases h
def AO.reads:AO→Bool
 | .load _ | .loadAgg .. | .lookup .. | .lenMap _ | .bytesToStr _ | .sliceArr .. | .alloc _ | .box _ | .buildSlice .. | .makeSlice .. | .makeMap=>true
 | _=>false
def opR:AR→List Nat
 | .tmp t=>[t]
 | .const _=>[]
def opRo:Option AR→List Nat
 | some x=>opR x
 | none=>[]
def AO.uses:AO→List Nat
 | .move x | .box x | .load x | .loadAgg _ x | .nilCheck x | .un _ x | .convInt _ x | .convStr x | .bytesToStr x | .mkIface _ x | .fieldAddr _ x | .field _ _ x | .extract x _ | .len x | .lenStr x | .lenMap x | .cap x | .clearS _ x=>opR x
 | .pick c a b | .mapUpdate _ c a b=>opR c++opR a++opR b
 | .alloc .. | .makeMap=>[]
 | .build _ ps | .buildSlice _ _ _ ps=>ps.flatMap (fun p=>opR p.2.2)
 | .store _ a b | .bin _ a b | .isNil _ _ a b | .eqB _ a b | .eqCells _ _ a b | .makeSlice _ _ a b | .indexAddr _ a b | .indexAddrA _ _ a b | .index _ _ _ a b | .indexStr a b | .lookup _ _ _ a b | .append _ _ a b | .appendMake _ _ a b | .copyS _ a b=>opR a++opR b
 | .mkFunc _ f c=>f.flatMap opR++c.flatMap opR
 | .slice _ x lo hi mx=>opR x++opRo lo++opRo hi++opRo mx
 | .sliceArr _ _ x lo hi=>opR x++opRo lo++opRo hi
 | .sliceStr x lo hi=>opR x++opRo lo++opRo hi
 | .call f args=>opR f++args.flatMap opR
 | .max x xs | .min x xs=>opR x++xs.flatMap opR
def AOper.names (o:AOper):List Nat:=o.dst.toList++o.op.uses++(match o.guard with | some (t,_)=>[t] | none=>[])
def q36 (o:Oper):List Nat:=(o.after.toList.filter (Region.binds .any)).map (·.on)
def ancs:List Oper→List (List Nat)→List (List Nat)
 | [],acc=>acc
 | o::os,acc=>ancs os (acc++[((q36 o).flatMap fun j=>j::acc.getD j []).eraseDups])
def trOper (ops:Array Oper) (o:Oper):Option AOper:=
 match trOp P o with
 | some ao=>match o.guard with
  | none=>some ⟨o.dst,ao,none,[]⟩
  | some (j,want)=>match (ops[j]?).bind (·.dst) with
   | some d=>some ⟨o.dst,ao,some (d,want),[]⟩
   | none=>none
 | none=>none
def ordered (an:List (List Nat)) (i j:Nat):Bool:=(an.getD j []).contains i||(an.getD i []).contains j
def mayClash (x y:AOper):Bool:=(x.op.effect&&y.op.reads)||(y.op.effect&&x.op.reads)
def withChk (an:List (List Nat)) (aos:List AOper):List AOper:=
 aos.zipIdx.map fun(o,i)=>{o with chk:=(List.range i).filter fun j=>match aos[j]? with
  | some p=> !ordered an j i&&mayClash p o
  | none=>false}
def drawOk (mx:Bool) (ops:List Oper) (an:List (List Nat)) (aos:List AOper):Bool:=
 (mx|| !Region.departs ops.toArray)&&
 (ops.zipIdx.all fun(o,i)=>(q36 o).all (· <i))&&
 (aos.zipIdx.all fun(o,i)=>aos.zipIdx.all fun(p,j)=>
  i==j||((!(o.op.effect&&p.op.effect)||ordered an i j)&&
   (match o.dst with | some d=> !p.names.contains d||ordered an i j | none=>true)))
def trRegion (ops:Array Oper) (draw:Bool):Option AC:=
 match optAll (trOper P ops) ops.toList with
 | none=>none
 | some aos=>
  if !draw then some (.region aos) else
  let an:=ancs ops.toList []
  if drawOk (P.follows .mixedOrders) ops.toList an aos then
   let l:=withChk an aos
   if l.all (fun o=>o.chk.isEmpty) then some (.region aos) else some (.regionD l)
  else none
def hasGoto:Code→Bool
 | .goto _=>true
 | .seq a b | .cond _ a b | .rangeFunc _ _ a b=>hasGoto a||hasGoto b
 | .block _ c | .loop c | .scope c=>hasGoto c
 | _=>false
def backLabel:Code→Option Nat
 | .seq a b=>match backLabel a with
  | some l=>some l
  | none=>backLabel b
 | .label l=>some l
 | _=>none
def trJ (l:Nat):Code→Option AC
 | .skip=>some .skip
 | .label _=>some .skip
 | .region _ ops draw=>trRegion P ops draw
 | .seq a b=>match trJ l a,trJ l b with
  | some x,some y=>some (.seq x y)
  | _,_=>none
 | .cond c a b=>match trR c,trJ l a,trJ l b with
  | some c,some x,some y=>some (.cond c x y)
  | _,_,_=>none
 | .goto l'=>if l'=l then some (.exit (1048576+l)) else none
 | .exit id=>if id<1048576 then some (.exit id) else none
 | .ret=>some .ret
 | _=>none
def jumpAC (l:Nat) (x y:AC):AC:= .block (2097152+l) (.seq (.block (1048576+l) (.seq x (.exit (2097152+l)))) (.loop [] (.block (1048576+l) (.seq y (.exit (2097152+l))))))
def trScope (b:Code):Option AC:=match backLabel b with
 | some l=>match findLabel b l with
  | some r=>match trJ P l b,trJ P l r with
   | some x,some y=>some (jumpAC l x y)
   | _,_=>none
  | none=>none
 | none=>none
def tr:Code→Option AC
 | .skip=>some .skip
 | .region _ ops draw=>trRegion P ops draw
 | .seq a b=>match tr a,tr b with
  | some x,some y=>some (.seq x y)
  | _,_=>none
 | .cond c a b=>match trR c,tr a,tr b with
  | some c,some x,some y=>some (.cond c x y)
  | _,_,_=>none
 | .block id b=>(tr b).map (.block id)
 | .loop b=>(tr b).map (.loop [])
 | .rangeFunc f ps asg b=>match trR f,tr asg,tr b with
  | some f,some x,some y=>some (.rangeFunc f ps.toList x y)
  | _,_,_=>none
 | .exit id=>some (.exit id)
 | .ret=>some .ret
 | .scope b=>if hasGoto b then trScope P b else tr b
 | .label _=>some .skip
 | _=>none
end
def setBit (l t:Nat):Nat:=l||| 2^t
def clrBit (l t:Nat):Nat:=if l.testBit t then l-2^t else l
def addBits (l:Nat) (ts:List Nat):Nat:=ts.foldl setBit l
def liveOps:List AOper→Nat→Nat
 | [],out=>out
 | o::os,out=>
  let l:=liveOps os out
  let l:=match o.dst with | some d=>clrBit l d | none=>l
  addBits (addBits l o.op.uses) (match o.guard with | some (t,_)=>[t] | none=>[])
def live (nt:Nat):AC→(out:Nat)→(ex:List (Nat×Nat))→(rt:Nat)→Nat×AC
 | .skip,out,_,_=>(out,.skip)
 | .region ops,out,_,_=>(liveOps ops out,.region ops)
 | .regionD ops,out,_,_=>(liveOps ops out,.regionD ops)
 | .seq x y,out,ex,rt=>
  let (l,y'):=live nt y out ex rt
  let (l',x'):=live nt x l ex rt
  (l',.seq x' y')
 | .cond c x y,out,ex,rt=>
  let (l,x'):=live nt x out ex rt
  let (l',y'):=live nt y out ex rt
  (addBits (l||| l') (opR c),.cond c x' y')
 | .block id x,out,ex,rt=>
  let (l,x'):=live nt x out ((id,out)::ex) rt
  (l,.block id x')
 | .loop _ x,_,ex,rt=>
  let (l,_):=live nt x 0 ex rt
  let (l',x'):=live nt x l ex rt
  (l',.loop ((List.range nt).filter fun t=> !l'.testBit t) x')
 | .rangeFunc f ps asg b,out,ex,rt=>
  let (l,b'):=live nt b 0 ex rt
  let (l',asg'):=live nt asg l ex rt
  (addBits (out||| (ps.foldl clrBit l')||| ex.foldl (fun s p=>s||| p.2) rt) (opR f),.rangeFunc f ps asg' b')
 | .exit id,_,ex,_=>(((ex.find? (·.1==id)).map (·.2)).getD 0,.exit id)
 | .ret,_,_,rt=>(rt,.ret)
def trRes (P:Program):ResultVar→Option ARes
 | .tmp t=>some (.tmp t)
 | .cell t ty=>match isAggA P ty,sizeA P ty with
  | some true,some n=>some (.cells t n)
  | some false,_=>some (.cell t)
  | _,_=>none
def resBits (l:List ARes):Nat:=addBits 0 (l.map fun | .tmp t=>t | .cell t=>t | .cells t _=>t)
def trFn (P:Program) (f:Func):Option AFn:=
 match f.body,optAll (trRes P) f.results.toList with
 | some b,some rs=>match tr P b with
  | some c=>some ⟨f.ntmps,rs,(live f.ntmps c (resBits rs) [] (resBits rs)).2⟩
  | none=>none
 | _,_=>none
end Go.Am

