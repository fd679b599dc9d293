/- The pure machine: its operations and its code, as transformers of conditions. -/
import Derived.Test.YtapbgleednkimaaGreatDoorPmBase
set_option linter.unusedVariables false
set_option linter.unusedSimpArgs false
namespace Go.Am
def ofAV1:AV->PV
 | .bool b=> .bool b
 | .int k n=> .int k n
 | .str s=> .str s
 | .nilptr=> .nilptr
 | .nilslice=> .nils
 | .nilmap=> .nilmap
 | .nilfunc=> .nilfunc
 | .niliface=> .niliface
 | .func (.func f) [] []=> .func (.func f) [] []
 | _=> .junk
def ofAV:AV->PV
 | .agg cs=> .agg (cs.map ofAV1)
 | .iface t v=> .iface t (ofAV1 v)
 | .bool b=> .bool b
 | .int k n=> .int k n
 | .str s=> .str s
 | .nilptr=> .nilptr
 | .nilslice=> .nils
 | .nilmap=> .nilmap
 | .nilfunc=> .nilfunc
 | .niliface=> .niliface
 | .func (.func f) [] []=> .func (.func f) [] []
 | .func (.methodOf t n) tbl []=> .func (.methodOf t n) (tbl.map ofAV1) []
 | _=> .junk
def pev(a:List PV):AR->PV
 | .tmp t=>ptget a t
 | .const v=>ofAV v
def PV.one:PV->Bool
 | .agg _=>false
 | .tuple _=>false
 | .junk=>false
 | _=>true
def bS:PV->List PV
 | .agg cs=>cs
 | v=>[v]
def kB(cs:List PV)(off:Nat)(new:List PV):List PV:=
 match new with
 | [x]=>cs.set off x
 | _=>cs.take off++new++cs.drop (off+new.length)
def pfill(a:List PV):List PV->List (Nat×Nat×AR)->Option (List PV)
 | cs,[]=>some cs
 | cs,(off,size,x)::rest=>
  if(bS (pev a x)).length=size/\off+size<=cs.length/\(bS (pev a x)).all PV.one=true then pfill a (kB cs off (bS (pev a x))) rest else none
def bW:Nat->List PV->List PV
 | 0,_=>[]
 | n+1,z=>z++bW n z
def aY(cs:List PV)(o n:Nat):List PV:=(cs.drop o).take n
def bN:PV->Option AV
 | .bool b=>some (.bool b)
 | .int k n=>some (.int k n)
 | .str s=>some (.str s)
 | _=>none
def eT:List PV->Option (List AV)
 | []=>some []
 | v::l=>match bN v,eT l with
  | some x,some xs=>some (x::xs)
  | _,_=>none
def bX(op:BinOp)(x y:PV):Option PV:=match bN x,bN y with
 | some a,some b=>(eB op a b).map ofAV1
 | _,_=>none
def pun(op:UnOp)(x:PV):Option PV:=match bN x with
 | some a=>(aun op a).map ofAV1
 | _=>none
def HE(x:PV)(xs:List PV):Option PV:=match bN x,eT xs with
 | some a,some b=>(kE zE a b).map ofAV1
 | _,_=>none
def xI(x:PV)(xs:List PV):Option PV:=match bN x,eT xs with
 | some a,some b=>(kE zD a b).map ofAV1
 | _,_=>none
def nO(T:List (Option IntKind))(xs ys:List PV):Option Bool:=match eT xs,eT ys with
 | some a,some b=>eE T a b
 | _,_=>none
def t6(v:PV)(k:IntKind->Int->Prop):Prop:=∃b o,v= .int b o/\k b o
def J0(v:PV)(k:Bool->Prop):Prop:=∃b,v= .bool b/\k b
def OG(v:PV)(k:List PV->Prop):Prop:=∃b,v= .agg b/\k b
def aGb(v:PV)(k:List PV->Prop):Prop:=∃b,v= .tuple b/\k b
def QOb(o:Option PObj)(g:Nat)(k:Nat->List PV->Prop):Prop:=∃ver cs,o=some (.cells g ver cs)/\k ver cs
def fD{α:Type}(o:Option α)(k:α->Prop):Prop:=∃x,o=some x/\k x
def aGd(v:PV)(M:Mem)(k:PV->Prop):Prop:=match v with
 | .nils=>k (p64 0)
 | .sl _ _ _ n _=>k (p64 n)
 | .ref id g _ _ n=>QOb M[id]? g fun _ _=>k (p64 n)
 | _=>False
def aGf(size:Nat)(v i:PV)(M:Mem)(k:PV->Prop):Prop:=match v with
 | .sl _ _ sz n cs=>t6 i fun _ j=>(sz=size/\0<=j/\j<n)/\k (.cp cs (j.toNat*size))
 | .ref id g sz off n=>QOb M[id]? g fun _ _=>t6 i fun _ j=>(sz=size/\0<=j/\j<n)/\k (.ptr id g (off+j.toNat*size))
 | _=>False
def aBF(len size:Nat)(v i:PV)(M:Mem)(k:PV->Prop):Prop:=match v with
 | .ptr id g o=>QOb M[id]? g fun _ _=>t6 i fun _ j=>(0<=j/\j<len)/\k (.ptr id g (o+j.toNat*size))
 | .cp cs o=>t6 i fun _ j=>(0<=j/\j<len)/\k (.cp cs (o+j.toNat*size))
 | _=>False
def aGg(off:Nat)(v:PV)(M:Mem)(k:PV->Prop):Prop:=match v with
 | .ptr id g o=>QOb M[id]? g fun _ _=>k (.ptr id g (o+off))
 | .cp cs o=>k (.cp cs (o+off))
 | _=>False
def JY(v:PV)(M:Mem)(k:PV->List Nat->Prop):Prop:=match v with
 | .ptr id g o=>QOb M[id]? g fun _ cs=>fD cs[o]? fun x=>k x [id]
 | .cp cs o=>fD cs[o]? fun x=>k x []
 | _=>False
def zM(n:Nat)(v:PV)(M:Mem)(k:PV->List Nat->Prop):Prop:=match v with
 | .ptr id g o=>QOb M[id]? g fun _ cs=>o+n<=cs.length/\k (.agg (aY cs o n)) [id]
 | .cp cs o=>o+n<=cs.length/\k (.agg (aY cs o n)) []
 | _=>False
def OA(n:Nat)(p x:PV)(M:Mem)(k:Mem->List Nat->Prop):Prop:=match p with
 | .ptr id g o=>QOb M[id]? g fun ver cs=>((bS x).length=n/\o+n<=cs.length/\(bS x).all PV.one=true)/\k (M.set id (.cells g (ver+1) (kB cs o (bS x)))) [id]
 | _=>False
def QSrc(size:Nat)(x:PV)(M:Mem)(k:List PV->Nat->Prop):Prop:=match x with
 | .nils=>k [] 0
 | .sl _ _ sz n cs=>sz=size/\k cs n
 | .ref id g sz off n=>QOb M[id]? g fun _ cs=>(sz=size/\off+n*size<=cs.length)/\k (aY cs off (n*size)) n
 | _=>False
def JV(size:Nat)(x:PV)(M:Mem)(k:List PV->Nat->Prop):Prop:=match x with
 | .str s=>size=1/\k (s.data.toList.map fun b=> .int .u8 b.toNat) s.size
 | x=>QSrc size x M k
def aBH(size bytes:Nat)(s x:PV)(M:Mem)(K:PV->Mem->List Nat->List Nat->Prop):Prop:=JV size x M fun new n=>match s with
 | .nils=>(n*bytes<=140737488355328/\n<=9223372036854775807/\new.all PV.one=true)/\K (.ref M.length 0 size 0 n) (M++[.cells 0 0 new]) [] []
 | .sl fl own sz m cs=>if n=0 then K (.sl fl own sz m cs) M [] []else(fl=true/\own=true/\sz=size/\(m+n)*bytes<=140737488355328/\m+n<=9223372036854775807/\new.all PV.one=true)/\K (.ref M.length 0 size 0 (m+n)) (M++[.cells 0 0 (cs++new)]) [] []
 | .ref id g sz off m=>QOb M[id]? g fun ver cs=>(sz=size/\off+m*size<=cs.length/\(0<n\/(off=0/\m*size=cs.length))/\(m+n)*bytes<=140737488355328/\m+n<=9223372036854775807/\new.all PV.one=true)/\
   K (.ref id (g+1) size 0 (m+n)) (M.set id (.cells (g+1) 0 (aY cs off (m*size)++new))) [] [id]
 | _=>False
def aEG(size:Nat)(d x:PV)(M:Mem)(K:PV->Mem->List Nat->List Nat->Prop):Prop:=match d with
 | .ref id g sz off m=>QSrc size x M fun new n=>QOb M[id]? g fun ver cs=>(sz=size/\off+m*size<=cs.length/\new.all PV.one=true)/\
   (if min n m=0 then K (.int .i64 0) M [] []else K (.int .i64 ((min n m:Nat):Int)) (M.set id (.cells g (ver+1) (cs.take off++new.take (min n m*size)++cs.drop (off+min n m*size)))) [] [id])
 | _=>False
def aBG(z:List PV)(x:PV)(M:Mem)(K:PV->Mem->List Nat->List Nat->Prop):Prop:=match x with
 | .ref id g sz off n=>QOb M[id]? g fun ver cs=>(sz=z.length/\off+n*sz<=cs.length/\(bW n z).all PV.one=true)/\
   (if n=0 then K (.tuple []) M [] []else K (.tuple []) (M.set id (.cells g (ver+1) (cs.take off++bW n z++cs.drop (off+n*sz)))) [] [id])
 | _=>False
def AQ(a:List PV)(x:Option AR)(k:Option Int->Prop):Prop:=match x with
 | none=>k none
 | some x=>t6 (pev a x) fun _ n=>k (some n)
def OB(size:Nat)(v:PV)(l r m:Option Int)(M:Mem)(k:PV->Prop):Prop:=match v with
 | .nils=>(l.getD 0=0/\r.getD 0=0/\(m=none\/m=r))/\k .nils
 | .sl fl own sz n cs=>(sz=size/\(m=none\/m=r)/\0<=l.getD 0/\l.getD 0<=r.getD n/\r.getD n<=n)/\k (.sl (if own=true then(if r.isSome=true then false else fl)else fl) own sz (r.getD n-l.getD 0).toNat (aY cs ((l.getD 0).toNat*size) ((r.getD n-l.getD 0).toNat*size)))
 | .ref id g sz off n=>QOb M[id]? g fun _ _=>(sz=size/\(m=none\/m=r)/\0<=l.getD 0/\l.getD 0<=r.getD n/\r.getD n<=n)/\k (.ref id g sz (off+(l.getD 0).toNat*size) (r.getD n-l.getD 0).toNat)
 | _=>False
def aGc(len size:Nat)(x:PV)(l r:Option Int)(M:Mem)(k:PV->List Nat->Prop):Prop:=match x with
 | .ptr id g o=>QOb M[id]? g fun _ cs=>(o+len*size<=cs.length/\0<=l.getD 0/\l.getD 0<=r.getD len/\r.getD len<=len)/\k (.ref id g size (o+(l.getD 0).toNat*size) (r.getD len-l.getD 0).toNat) [id]
 | _=>False
def kA(l:List PV):Option (List UInt8):=match eT l with
 | some x=>eC x
 | none=>none
def aGh(x:PV)(M:Mem)(k:PV->List Nat->Prop):Prop:=match x with
 | .nils=>k (.str ⟨#[]⟩) []
 | .sl _ _ sz n cs=>sz=1/\fD (kA cs) fun s=>k (.str ⟨s.toArray⟩) []
 | .ref id g sz off n=>QOb M[id]? g fun _ cs=>(sz=1/\off+n<=cs.length)/\fD (kA (aY cs off n)) fun s=>k (.str ⟨s.toArray⟩) [id]
 | _=>False
def JW(kd:Nat)(x y:PV)(M:Mem)(k:Bool->Prop):Prop:=match kd,x,y with
 | 0,.nils,.nils=>k true
 | 0,.sl _ _ _ n _,.nils=>if n=0 then k true/\k false else k false
 | 0,.ref id g _ _ n,.nils=>QOb M[id]? g fun _ _=>if n=0 then k true/\k false else k false
 | 1,.nilptr,.nilptr=>k true
 | 1,.ptr id g _,.nilptr=>QOb M[id]? g fun _ _=>k false
 | 3,.nilfunc,.nilfunc=>k true
 | 3,.func ..,.nilfunc=>k false
 | 4,.niliface,.niliface=>k true
 | 4,.iface ..,.niliface=>k false
 | _,_,_=>False
def aD2(v:PV)(k:ByteArray->Prop):Prop:=match v with
 | .str s=>k s
 | _=>False
def aGe(v:PV)(kn:Prop)(ki:TypeId->PV->Prop):Prop:=match v with
 | .niliface=>kn
 | .iface t v=>ki t v
 | _=>False
def dF:List PV->TypeId->Option FuncId
 | .int _ t':: .int _ g::r,t=>if t'=(t:Int)then some g.toNat else dF r t
 | _,_=>none
def aEF(tbl:List PV)(args:List PV)(k:FuncId->List PV->Prop):Prop:=match args with
 | .iface t v::rest=>∃g,dF tbl t=some g/\k g (v::rest)
 | _=>False
def xH:PV->Bool
 | .cp .. =>true
 | .func (.method _) _ _=>false
 | .func .. =>true
 | .iface .. =>true
 | _=>false
def zL(v:PV)(M:Mem)(k:Prop):Prop:=match v with
 | .ptr id g _=>QOb M[id]? g fun _ _=>k
 | v=>xH v=true/\k
def dH(kd:Nat)(k:AV):List (PV×PV)->Option (Option PV)
 | []=>some none
 | (k',v)::es=>match bN k' with
  | some k2=>match uQ kd k k2 with
   | some true=>some (some v)
   | some false=>dH kd k es
   | none=>none
  | none=>none
def gH(kd:Nat)(key:PV)(k:AV)(v:PV):List (PV×PV)->List (PV×PV)
 | []=>[(key,v)]
 | (k',v')::es=>match bN k' with
  | some k2=>match uQ kd k k2 with
   | some true=>(key,v)::es
   | _=>(k',v')::gH kd key k v es
  | none=>(k',v')::gH kd key k v es
def uH(ok:Bool)(z:PV):Option PV->PV
 | some v=>if ok=true then .tuple [v,.bool true]else v
 | none=>if ok=true then .tuple [z,.bool false]else z
def QMp(o:Option PObj)(k:Nat->List (PV×PV)->Prop):Prop:=∃ver es,o=some (.map ver es)/\k ver es
def aBC(kd:Nat)(ok:Bool)(z x i:PV)(M:Mem)(K:PV->Mem->List Nat->List Nat->Prop):Prop:=match x,bN i with
 | .map id,some k=>QMp M[id]? fun _ es=>fD (dH kd k es) fun r=>K (uH ok z r) M [id] []
 | _,_=>False
def aBD(x:PV)(M:Mem)(k:PV->List Nat->Prop):Prop:=match x with
 | .map id=>QMp M[id]? fun _ es=>k (p64 es.length) [id]
 | _=>False
def aBB(kd:Nat)(m i v:PV)(M:Mem)(K:PV->Mem->List Nat->List Nat->Prop):Prop:=match m,bN i with
 | .map id,some k=>QMp M[id]? fun ver es=>fD (dH kd k es) fun _=>v.one=true/\K (.tuple []) (M.set id (.map (ver+1) (gH kd i k v es))) [] [id]
 | _,_=>False
def B3(b:Bool)(x y:PV):PV:=if b=true then x else y
def kZ:PObj->PObj->Bool
 | .cells g v _,.cells g' v' _=>g==g'&&v==v'
 | .map v _,.map v' _=>v==v'
 | .loop v _,.loop v' _=>v==v'
 | .gone,.gone=>true
 | _,_=>false
def b9:Nat->Mem->Mem->List Nat
 | _,[],_=>[]
 | i,_::M,[]=>i::b9 (i+1) M []
 | i,o::M,o'::M'=>if kZ o o'=true then b9 (i+1) M M' else i::b9 (i+1) M M'
def RC(M M':Mem):List Nat:=b9 0 M M'
structure PLog where
 idx:Nat
 rd:List Nat
 chg:List Nat
 Mb:Mem
 na:Nat
def pold(Mb M:Mem)(id:Nat):Bool:=match Mb[id]?,M[id]? with
 | some (.cells g _ _),some (.cells g' _ _)=>g==g'
 | some (.map _ _),some (.map _ _)=>true
 | some (.loop _ _),some (.loop _ _)=>true
 | _,_=>false
def pchk(eff:Bool)(rd chg:List Nat)(M:Mem)(log:List PLog)(chk:List Nat):Bool:=
 log.all fun e=>if chk.contains e.idx then(if eff then chg.all (fun id=> !e.rd.contains id&&(pold e.Mb M id||decide (e.na<=id)))else e.chg.all (fun id=> !rd.contains id))else true
section
variable (tab:FuncId->Option AF)
def SemC(g:FuncId)(args:List PV)(M:Mem)(K:PV->Mem->Prop):Prop:=
 ∀(w:PWd) (h:H) (args':List AV),w.id0<=M.length->PSt w h M->RepL w args args'->
  C (lim tab) g args' h fun v h'=>∃w' r M',PStp M.length w h M w' h' M'/\PSt w' h' M'/\RepV w' r v/\K r M'
def JR(id:Nat)(args:List PV)(M:Mem)(K:PV->Mem->Prop):Prop:=
 ∀(w:PWd) (h:H) (b:Nat) (args':List AV),w.id0<=M.length->PSt w h M->LiveAt w M id b->RepL w args args'->
  RZ (lim tab) (.func (.yield b) [] []) args' h fun v h'=>∃w' r M',PStp M.length w h M w' h' M'/\PSt w' h' M'/\RepV w' r v/\K r M'
def Lf(m:Nat)(w:PWd)(h:H)(M:Mem)(Q:List PV->Mem->Prop)(a':List AV)(h':H):Prop:=
 ∃w' a M',PStp m w h M w' h' M'/\PSt w' h' M'/\RepL w' a a'/\Q a M'
def bQ(m:Nat)(c:AC)(a:List PV)(M:Mem)(Qn Qr:List PV->Mem->Prop)(Qe:Nat->List PV->Mem->Prop):Prop:=
 ∀(w:PWd) (h:H) (a':List AV),w.id0<=m->m<=M.length->PSt w h M->RepL w a a'->
  W (lim tab) c a' h (Lf m w h M Qn) (Lf m w h M Qr) (fun i=>Lf m w h M (Qe i))
def zO(f:PV)(args:List PV)(M:Mem)(K:PV->Mem->Prop):Prop:=match f with
 | .func (.func g) first cap=>SemC tab g (first++args++cap) M K
 | .func (.methodOf _ _) tbl _=>aEF tbl args fun g l=>SemC tab g l M K
 | .yld id first=>(∃ver r,M[id]? =some (.loop ver r))/\JR tab id (first++args) M K
 | _=>False
def KPC(M:Mem)(K:PV->Mem->List Nat->List Nat->Prop)(v:PV)(M':Mem):Prop:=K v M' [] (RC M M')
def PS(o:AO)(a:List PV)(M:Mem)(K:PV->Mem->List Nat->List Nat->Prop):Prop:=match o with
 | .move x=>K (pev a x) M [] []
 | .pick c x y=>J0 (pev a c) fun b=>K (B3 b (pev a x) (pev a y)) M [] []
 | .alloc cs=>K (.ptr M.length 0 0) (M++[.cells 0 0 (cs.map ofAV1)]) [] []
 | .box x=>(bS (pev a x)).all PV.one=true/\K (.ptr M.length 0 0) (M++[.cells 0 0 (bS (pev a x))]) [] []
 | .build z ps=>fD (pfill a (z.map ofAV1) ps) fun cs=>K (.agg cs) M [] []
 | .buildSlice size len z ps=>(z.length=size/\0<size)/\fD (pfill a (bW len (z.map ofAV1)) ps) fun cs=>K (.sl true true size len cs) M [] []
 | .load x=>JY (pev a x) M fun v rd=>K v M rd []
 | .loadAgg n x=>zM n (pev a x) M fun v rd=>K v M rd []
 | .store n p x=>OA n (pev a p) (pev a x) M fun M' chg=>K (.tuple []) M' [] chg
 | .nilCheck x=>zL (pev a x) M (K (pev a x) M [] [])
 | .bin op x y=>fD (bX op (pev a x) (pev a y)) fun v=>K v M [] []
 | .eqB neg x y=>J0 (pev a x) fun p=>J0 (pev a y) fun q=>K (.bool (if neg=true then !(p==q)else p==q)) M [] []
 | .isNil kd neg x y=>JW kd (pev a x) (pev a y) M fun b=>K (.bool (if neg=true then !b else b)) M [] []
 | .eqCells neg T x y=>OG (pev a x) fun p=>OG (pev a y) fun q=>fD (nO T p q) fun b=>K (.bool (if neg=true then !b else b)) M [] []
 | .un op x=>fD (pun op (pev a x)) fun v=>K v M [] []
 | .convInt k x=>t6 (pev a x) fun _ n=>K (.int k (k.wrap n)) M [] []
 | .mkFunc fn f c=>(∃g,fn= .func g)/\K (.func fn (f.map (pev a)) (c.map (pev a))) M [] []
 | .makeSlice bytes z n c=>t6 (pev a n) fun kv l=>t6 (pev a c) fun kw m=>(kv= .i64/\kw= .i64/\0<=l/\l<=m/\m*bytes<=140737488355328/\m<=9223372036854775807)/\K (.ref M.length 0 z.length 0 l.toNat) (M++[.cells 0 0 (bW l.toNat (z.map ofAV1))]) [] []
 | .slice size x lo hi mx=>AQ a lo fun l=>AQ a hi fun r=>AQ a mx fun m=>OB size (pev a x) l r m M fun v=>K v M [] []
 | .fieldAddr off x=>aGg off (pev a x) M fun v=>K v M [] []
 | .field off none x=>OG (pev a x) fun cs=>fD cs[off]? fun v=>K v M [] []
 | .field off (some n) x=>OG (pev a x) fun cs=>off+n<=cs.length/\K (.agg (aY cs off n)) M [] []
 | .indexAddr size x i=>aGf size (pev a x) (pev a i) M fun v=>K v M [] []
 | .indexAddrA len size x i=>aBF len size (pev a x) (pev a i) M fun v=>K v M [] []
 | .index len size isAgg x i=>OG (pev a x) fun cs=>t6 (pev a i) fun _ j=>(0<=j/\j<len)/\(if isAgg=true then j.toNat*size+size<=cs.length/\K (.agg (aY cs (j.toNat*size) size)) M [] []else fD cs[j.toNat*size]? fun v=>K v M [] [])
 | .extract x i=>aGb (pev a x) fun vs=>fD vs[i]? fun v=>K v M [] []
 | .call f args=>zO tab (pev a f) (args.map (pev a)) M (KPC M K)
 | .append size bytes s x=>0<size/\aBH size bytes (pev a s) (pev a x) M K
 | .len x=>aGd (pev a x) M fun v=>K v M [] []
 | .appendMake bytes z s x=>pev a s= .nils/\t6 (pev a x) fun kv n=>kv= .i64/\(if n=0 then K .nils M [] []else(0<=n/\n*bytes<=140737488355328/\n<=9223372036854775807)/\K (.ref M.length 0 z.length 0 n.toNat) (M++[.cells 0 0 (bW n.toNat (z.map ofAV1))]) [] [])
 | .indexStr x i=>∃s,pev a x= .str s/\t6 (pev a i) fun _ k=>0<=k/\fD s[k.toNat]? fun c=>K (.int .u8 c.toNat) M [] []
 | .lenStr x=>∃s,pev a x= .str s/\K (p64 s.size) M [] []
 | .sliceStr x lo hi=>∃s,pev a x= .str s/\AQ a lo fun l=>AQ a hi fun r=>(0<=l.getD 0/\l.getD 0<=r.getD s.size/\r.getD s.size<=s.size)/\K (.str (s.extract (l.getD 0).toNat (r.getD s.size).toNat)) M [] []
 | .sliceArr len size x lo hi=>AQ a lo fun l=>AQ a hi fun r=>aGc len size (pev a x) l r M fun v rd=>K v M rd []
 | .bytesToStr x=>aGh (pev a x) M fun v rd=>K v M rd []
 | .copyS size d x=>aEG size (pev a d) (pev a x) M K
 | .clearS z x=>aBG (z.map ofAV1) (pev a x) M K
 | .max x xs=>fD (HE (pev a x) (xs.map (pev a))) fun v=>K v M [] []
 | .min x xs=>fD (xI (pev a x) (xs.map (pev a))) fun v=>K v M [] []
 | .makeMap=>K (.map M.length) (M++[.map 0 []]) [] []
 | .lookup kd ok z x i=>aBC kd ok (ofAV1 z) (pev a x) (pev a i) M K
 | .lenMap x=>aBD (pev a x) M fun v rd=>K v M rd []
 | .mapUpdate kd m i v=>aBB kd (pev a m) (pev a i) (pev a v) M K
 | .mkIface t x=>K (.iface t (pev a x)) M [] []
 | .strToBytes x=>aD2 (pev a x) fun s=>s.size<=140737488355328/\K (.sl true false 1 s.size (s.data.toList.map fun b=> .int .u8 b.toNat)) M [] []
 | .asTo t z x=>aGe (pev a x) (K (.tuple [ofAV1 z,.bool false]) M [] []) fun t' v=>K (if t'=t then .tuple [v,.bool true]else .tuple [ofAV1 z,.bool false]) M [] []
 | _=>False
def j4(v:PV)(want:Bool)(A B:Prop):Prop:=(∃b,v= .bool b/\(if b=want then A else B))\/(∃l,v= .tuple l/\B)
def PO:List AOper->List PV->Mem->(List PV->Mem->Prop)->Prop
 | [],a,M,Q=>Q a M
 | ⟨d,o,none,_⟩::os,a,M,Q=>PS tab o a M fun v M' _ _=>PO os (pput a d v) M' Q
 | ⟨d,o,some (t,want),_⟩::os,a,M,Q=>j4 (ptget a t) want (PS tab o a M fun v M' _ _=>PO os (pput a d v) M' Q) (PO os (pput a d (.tuple [])) M Q)
def PD:List AOper->Nat->List PV->Mem->List PLog->(List PV->Mem->Prop)->Prop
 | [],_,a,M,_,Q=>Q a M
 | ⟨d,o,none,chk⟩::os,i,a,M,log,Q=>PS tab o a M fun v M' rd chg=>pchk o.effect rd chg M log chk=true/\PD os (i+1) (pput a d v) M' (⟨i,rd,chg,M,M'.length⟩::log) Q
 | ⟨d,o,some (t,want),chk⟩::os,i,a,M,log,Q=>j4 (ptget a t) want (PS tab o a M fun v M' rd chg=>pchk o.effect rd chg M log chk=true/\PD os (i+1) (pput a d v) M' (⟨i,rd,chg,M,M'.length⟩::log) Q) (PD os (i+1) (pput a d (.tuple [])) M log Q)
def JZ(v:PV)(A B:Prop):Prop:=∃b,v= .bool b/\(if b=true then A else B)
def PX(m:Nat):AC->List PV->Mem->(List PV->Mem->Prop)->(List PV->Mem->Prop)->(Nat->List PV->Mem->Prop)->Prop
 | .skip,a,M,Qn,Qr,Qe=>Qn a M
 | .region os,a,M,Qn,Qr,Qe=>PO tab os a M Qn
 | .regionD os,a,M,Qn,Qr,Qe=>PD tab os 0 a M [] Qn
 | .seq x y,a,M,Qn,Qr,Qe=>PX m x a M (fun a M=>PX m y a M Qn Qr Qe) Qr Qe
 | .cond c x y,a,M,Qn,Qr,Qe=>JZ (pev a c) (PX m x a M Qn Qr Qe) (PX m y a M Qn Qr Qe)
 | .block id x,a,M,Qn,Qr,Qe=>PX m x a M Qn Qr (fun i a M=>if i=id then Qn a M else Qe i a M)
 | .loop sc x,a,M,Qn,Qr,Qe=>bQ tab m (.loop sc x) a M Qn Qr Qe
 | .rangeFunc f ps asg body,a,M,Qn,Qr,Qe=>bQ tab m (.rangeFunc f ps asg body) a M Qn Qr Qe
 | .exit id,a,M,Qn,Qr,Qe=>Qe id a M
 | .ret,a,M,Qn,Qr,Qe=>Qr a M
end
end Go.Am

