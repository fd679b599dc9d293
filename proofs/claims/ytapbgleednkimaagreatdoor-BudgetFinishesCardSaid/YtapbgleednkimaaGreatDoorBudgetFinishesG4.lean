/- Measures as cells, and what goes with it. -/
import Derived.Test.YtapbgleednkimaaGreatDoorBudgetFinishesG3
import Derived.Test.YtapbgleednkimaaGreatDoorPmC
import Derived.Test.YtapbgleednkimaaGreatDoorBudgetFinishesG0
set_option linter.unusedVariables false
set_option linter.unusedSimpArgs false
set_option maxRecDepth 10000
namespace Go.Am.Ar
open Go.Am.PV renaming junk->Zj
def msC(x:Ms):List PV:=PV.bool x.top::x.c.map (PV.int .i64)
def msL(l:List Ms):List PV:=l.flatMap msC
def aQ(pr:List Int):List Nat:=u7 8 fun k=>pr.count ((2*k+1:Nat):Int)
def iP(l:List Nat):List PV:=l.map fun(n:Nat)=>p64 n
def gT(f1 o1 f2 o2 f3 o3 f4 o4:Bool)(ow pr:List Int)(su:List (List Int)):List PV:=slI f1 o1 .u8 ow::slI f2 o2 .i64 pr::slR f3 o3 f4 o4 .i64 su::iP (aQ pr)
abbrev slM(f o:Bool)(l:List Ms):PV:= .sl f o 9 l.length (msL l)
def Ms.put(x:Ms)(k:Nat)(c:Int):Ms:=⟨x.top,x.c.set k c,by simp[x.h]⟩
theorem jB(x:Ms):(msC x).length=9:=by simp[msC,x.h]
theorem iO(pr:List Int):(aQ pr).length=8:=nE _ _
theorem rM(pr:List Int):(iP (aQ pr)).length=8:=by simp[iP,iO]
theorem QE(x:Ms):(msC x).all PV.one=true:=by simp[msC,PV.one]
theorem ZE(l:List Nat):(iP l).all PV.one=true:=by simp[iP,PV.one]
theorem vT(m:Nat)(x:Ms):aC m (msC x)=true:=by unfold msC;rw[dX,aP];simp[PV.under]
theorem xZ(m:Nat)(l:List Nat):aC m (iP l)=true:=by unfold iP;exact dK _ _ (fun _=>by simp[PV.under]) _
theorem aGL(x:Ms):(msC x)[0]? =some (.bool x.top):=rfl
theorem L7{x:Ms}{k:Nat}{c:Int}(h:x.c[k]? =some c):(msC x)[1+k]? =some (p64 c):=by rw[Nat.add_comm];unfold msC;simp[h]
theorem EG(x:Ms)(k:Nat)(c:Int):(msC x).set (1+k) (p64 c)=msC (x.put k c):=by rw[Nat.add_comm];unfold msC Ms.put;simp[List.map_set]
theorem XK(x:Ms):aY (msC x) 0 9=msC x:=aU _ _ (jB x).symm
theorem S0(pr:List Int):aY (iP (aQ pr)) 0 8=iP (aQ pr):=aU _ _ (rM pr).symm
theorem G9{a b:List PV}(h:a.length=b.length)(h2:2<=b.length):kB a 0 b=b:=by
  match b,h2 with
  | x::y::l,_=>show a.take 0++(x::y::l)++a.drop (0+(x::y::l).length)=x::y::l;rw[List.drop_of_length_le (by rw[h];simp)];simp
theorem S7(x y:Ms):kB (msC y) 0 (msC x)=msC x:=G9 (by rw[jB,jB]) (by rw[jB];decide)
def aCL:List Nat:=List.replicate 8 0
theorem z8:[p64 0,p64 0,p64 0,p64 0,p64 0,p64 0,p64 0,p64 0]=iP aCL:=rfl
theorem z9:PV.bool false::iP aCL=msC mz:=rfl
theorem z9t:(msC mz).set 0 (.bool true)=msC mtop:=rfl
theorem LB(pr:List Int):kB (iP aCL) 0 (iP (aQ pr))=iP (aQ pr):=G9 (by rw[rM];rfl) (by rw[rM];decide)
theorem QK{l:List Nat}{k n:Nat}(h:l[k]? =some n):(iP l)[k]? =some (p64 n):=by unfold iP;simp[h]
theorem ZD(l:List Nat)(k n:Nat):(iP l).set k (p64 n)=iP (l.set k n):=by unfold iP;simp[List.map_set]
section
variable {f1 o1 f2 o2 f3 o3 f4 o4:Bool} {ow pr:List Int} {su:List (List Int)}
theorem aES:(gT f1 o1 f2 o2 f3 o3 f4 o4 ow pr su)[0]? =some (slI f1 o1 .u8 ow):=rfl
theorem aER:(gT f1 o1 f2 o2 f3 o3 f4 o4 ow pr su)[1]? =some (slI f2 o2 .i64 pr):=rfl
theorem aEQ:(gT f1 o1 f2 o2 f3 o3 f4 o4 ow pr su)[2]? =some (slR f3 o3 f4 o4 .i64 su):=rfl
theorem PE{k n:Nat}(h:(aQ pr)[k]? =some n):(gT f1 o1 f2 o2 f3 o3 f4 o4 ow pr su)[3+k]? =some (p64 n):=by rw[Nat.add_comm];exact QK h
theorem qZ(m:Nat):aC m (gT f1 o1 f2 o2 f3 o3 f4 o4 ow pr su)=true:=by unfold gT;simp only[dX,dQ,kW,xZ,Bool.and_self]
end
theorem TJ(cs:List PV)(o:Nat):bS (.cp cs o)=[.cp cs o]:=(rfl)
theorem aFe(cs:List PV)(o:Nat):PV.one (.cp cs o)=true:=(rfl)
theorem TX:(iP aCL).length=8:=rfl
theorem TC(n:Nat)(M:Mem)(x:Ms):dZ n M (msC x)=some (msC x):=iM (vT _ _)
theorem LE(n:Nat)(M:Mem)(l:List Nat):dZ n M (iP l)=some (iP l):=iM (xZ _ _)
theorem jA(l:List Ms):(msL l).length=l.length*9:=by
  unfold msL
  induction l with
  | nil=>rfl
  | cons x l ih=>rw[List.flatMap_cons,List.length_append,ih,jB,List.length_cons,Nat.add_mul];omega
theorem aCE(l:List Ms):(msL l).all PV.one=true:=by
  unfold msL
  induction l with
  | nil=>rfl
  | cons x l ih=>rw[List.flatMap_cons,List.all_append,ih,QE];rfl
theorem cM(m:Nat)(l:List Ms):aC m (msL l)=true:=by
  unfold msL
  induction l with
  | nil=>exact eP _
  | cons x l ih=>rw[List.flatMap_cons,iF,ih,vT];rfl
theorem SB(m:Nat)(f o:Bool)(sz n:Nat)(l:List Ms):PV.under m (.sl f o sz n (msL l))=true:=by simp only[PV.under];exact cM m l
theorem aCF(l:List Ms)(x:Ms):msL l++msC x=msL (l++[x]):=by simp[msL]
theorem CA{l:List Ms}{k:Nat}{x:Ms}(h:l[k]? =some x):∃a b,msL l=a++msC x++b/\a.length=k*9/\(∀y,msL (l.set k y)=a++msC y++b):=by
  obtain⟨hk,e⟩:=List.getElem?_eq_some_iff.1 h;refine⟨msL (l.take k),msL (l.drop (k+1)),?_,?_,fun y=>?_⟩
  · conv=>lhs;rw[<-List.take_append_drop k l,List.drop_eq_getElem_cons hk,e]
    simp[msL]
  · rw[jA];simp;omega
  · rw[List.set_eq_take_append_cons_drop,if_pos hk];simp[msL]
theorem fM{l:List Ms}{k:Nat}{x:Ms}(h:l[k]? =some x):aY (msL l) (k*9) 9=msC x:=by obtain⟨a,b,h1,h2,_⟩:=CA h;unfold aY;rw[h1,<-h2,List.append_assoc,List.drop_left,List.take_left' (jB x)]
theorem s9{l:List Ms}{k:Nat}(y:Ms)(h:k<l.length):kB (msL l) (k*9) (msC y)=msL (l.set k y):=by
  obtain⟨a,b,h1,h2,h3⟩:=CA (List.getElem?_eq_getElem h);rw[h3,h1,<-h2];have e:msC y=PV.bool y.top::y.c.map (PV.int .i64):=rfl;have hl:(msC y).length=9:=jB y;have hc:∃c cs,y.c.map (PV.int .i64)=c::cs:=by
    cases q:y.c.map (PV.int .i64)with
    | nil=>rw[e,q]at hl;simp at hl
    | cons c cs=>exact⟨c,cs,rfl⟩
  obtain⟨c,cs,q⟩:=hc;have:kB (a++msC (l[k])++b) a.length (msC y)=(a++msC l[k]++b).take a.length++msC y++(a++msC l[k]++b).drop (a.length+(msC y).length):=by rw[e,q];rfl
  rw[this,hl,<-jB l[k],<-List.length_append,List.drop_left,List.append_assoc a,List.take_left' rfl]
theorem XL(n:Nat):bW n (msC mz)=msL (List.replicate n mz):=by
  induction n with
  | zero=>rfl
  | succ n ih=>show msC mz++bW n (msC mz)=_;rw[ih,List.replicate_succ];rfl
theorem uK{l:List Ms}{k:Nat}{x:Ms}(h:l[k]? =some x):k*9+9<=l.length*9:=by have:=aD h;omega
instance:DecidableEq Ms:=fun x y=>if h:x.top=y.top/\x.c=y.c then isTrue (Ms.ext' h.1 h.2)else isFalse fun e=>h (by subst e;exact⟨rfl,rfl⟩)
def Ms.fit(x:Ms):Prop:=∀c∈x.c,-9223372036854775808<=c/\c<=9223372036854775807
theorem wT:∀l:List Int,eT (l.map (PV.int .i64))=some (l.map (AV.int .i64))
  | []=>rfl
  | x::l=>by show(match bN (PV.int .i64 x),eT (l.map (PV.int .i64))with | some x,some xs=>some (x::xs) | _,_=>none)=_;rw[wT l];rfl
theorem IK{c:Int}(h: -9223372036854775808<=c/\c<=9223372036854775807):T7 .i64 c=true:=by unfold T7;simp;exact h
theorem I7:∀{a b:List Int},a.length=b.length->(∀c∈a,-9223372036854775808<=c/\c<=9223372036854775807)->(∀c∈b,-9223372036854775808<=c/\c<=9223372036854775807)->eE (List.replicate a.length (some .i64)) (a.map (AV.int .i64)) (b.map (AV.int .i64))=some (decide (a=b))
  | [],[],_,_,_=>rfl
  | x::a,y::b,hl,ha,hb=>by have ih:=I7 (a:=a) (b:=b) (by simpa using hl) (fun c h=>ha c (List.mem_cons_of_mem _ h)) (fun c h=>hb c (List.mem_cons_of_mem _ h));rw[List.length_cons,List.replicate_succ,List.map_cons,List.map_cons];unfold eE;rw[if_pos ⟨rfl,rfl,IK (ha x (by simp)),IK (hb y (by simp))⟩,ih];simp only[Option.some.injEq,List.cons.injEq];by_cases e:x=y<;>by_cases e2:a=b<;>simp[e,e2]
  | [],_::_,h,_,_=>by simp at h
  | _::_,[],h,_,_=>by simp at h
theorem PQ{x y:Ms}(hx:x.fit)(hy:y.fit):nO [none,some .i64,some .i64,some .i64,some .i64,some .i64,some .i64,some .i64,some .i64] (msC x) (msC y)=some (decide (x=y)):=by
  have h:=I7 (a:=x.c) (b:=y.c) (by rw[x.h,y.h]) hx hy;rw[x.h]at h;unfold nO msC;have e1:∀z:Ms,eT (PV.bool z.top::z.c.map (PV.int .i64))=some (AV.bool z.top::z.c.map (AV.int .i64)):=fun z=>by
    show(match bN (PV.bool z.top),eT (z.c.map (PV.int .i64))with | some x,some xs=>some (x::xs) | _,_=>none)=_;rw[wT];rfl
  rw[e1 x,e1 y];show eE (none::List.replicate 8 (some .i64)) (AV.bool x.top::x.c.map (AV.int .i64)) (AV.bool y.top::y.c.map (AV.int .i64))=_;unfold eE;rw[h];simp only[Option.some.injEq];by_cases e:x=y
  · subst e;simp
  · rw[decide_eq_false e];by_cases e1:x.top=y.top
    · have:x.c≠y.c:=fun q=>e (Ms.ext' e1 q);simp[this]
    · have:(x.top==y.top)=false:=by simpa using e1
      rw[this];rfl
theorem Ms.Ok.fit{ns:List Nat}{x:Ms}(h:x.Ok ns)(hn:∀n∈ns,n<1000000000000):x.fit:=fun c hc=>by
  obtain⟨k,hk⟩:=List.getElem?_of_mem hc;have hl:=QF h.1;have hk2:k<ns.length:=by have:=aD hk;omega
  have key:∀{ns:List Nat} {cs:List Int},mOk ns cs->∀{u:Nat} {c:Int} {n:Nat},cs[u]? =some c->ns[u]? =some n->0<=c/\c<=n:=by
    intro ns
    induction ns with
    | nil=>intro cs h u c n hx hy;simp at hy
    | cons n ns ih=>
      intro cs h u c m hx hy
      cases cs with
      | nil=>exact h.elim
      | cons a cs=>
        cases u with
        | zero=>simp at hx hy;subst hx;subst hy;exact⟨h.1,h.2.1⟩
        | succ u=>exact ih h.2.2 (by simpa using hx) (by simpa using hy)
  have h1:=key h.1 hk (List.getElem?_eq_getElem hk2);have h2:=hn _ (List.getElem_mem hk2);omega
theorem EL{pr:List Int}(hb:pr.length<1000000000000):∀n∈aQ pr,n<1000000000000:=fun n hn=>by obtain⟨v,_,rfl⟩:=F7 hn;have:pr.count ((2*v+1:Nat):Int)<=pr.length:=List.count_le_length;omega
set_option linter.defProp false
def PN:=(And.intro (And.intro (And.intro (And.intro @jB (And.intro @QE @vT)) (And.intro (And.intro @SB @aGL) (And.intro @XK @S7))) (And.intro (And.intro @z9 (And.intro @z9t @jA)) (And.intro (And.intro @cM @aCE) (And.intro @XL @rM)))) (And.intro (And.intro (And.intro @ZE (And.intro @xZ @TX)) (And.intro (And.intro @TC @LE) (And.intro @S0 @LB))) (And.intro (And.intro @z8 (And.intro @TJ @aFe)) (And.intro (And.intro @qZ @aES) (And.intro @aER @aEQ)))))
open Go.Am renaming pchk->P1,pold->P2,PKNo->P3,ppack->P4,PObj.under->P5,pput->P6,ptset->P7,ptget->P8,pev->P9,ofAV->P10,ofAV1->P11,ppad->P12,pfill->P13,bW->P14,AO.effect->P15
open List renaming replicate->L1
theorem Ms.get{x:Ms}{k:Nat}(h:k<8):∃c,x.c[k]? =some c:=aO (by rw[x.h];exact h)
theorem HP{j:Nat}(h:j<1000000000000):IntKind.i64.wrap ((j:Int)-1)=(j:Int)-1:=wrap64 (by omega) (by omega)
section
variable {tab:FuncId->Option AF} (T:HasA tab)
include T
theorem QW{M:Mem}{K:PV->Mem->Prop}{a:Int}(hk:K (.bool false) M):SemC tab 133 [p64 a] M K:=by refine aE T.h133 (by simp only[PP,simprocAttr]) ?_;simp only[af133,PP,simprocAttr];exact hk
theorem aHo{M:Mem}{K:PV->Mem->Prop}{a b:Int}(hk:K (p64 (j6 a b)) M):SemC tab 78 [p64 a,p64 b] M K:=by
  refine aE T.h78 (by simp only[PP,simprocAttr]) ?_;simp only[af78,PP,simprocAttr];refine QW T ?_;simp only[PP,simprocAttr];refine QW T ?_;simp only[PP,simprocAttr];refine QIf.intro (fun c=>?_) (fun c=>?_)
  · simp only[PP,simprocAttr,c];rw[oT c]at hk;exact hk
  · simp only[PP,simprocAttr,c];refine QIf.intro (fun d=>?_) (fun d=>?_)
    · simp only[PP,simprocAttr,d];rw[oU d]at hk;exact hk
    · simp only[PP,simprocAttr,d];rw[show j6 a b=0 from by rw[tP];omega]at hk;exact hk
theorem lL{M:Mem}{K:PV->Mem->Prop}{x y:Ms}(hk:K (p64 (AK x y)) M):SemC tab 30 [.agg (msC x),.agg (msC y)] M K:=by
  refine aE T.h30 (by simp only[PP,simprocAttr,PN]) ?_;simp only[af30,PP,simprocAttr,PN];unfold AK at hk
  cases hx:x.top with
  | true=>
    rw[hx,if_pos rfl]at hk
    cases hy:y.top with
    | true=>rw[hy,if_pos rfl]at hk;simp only[PP,simprocAttr,PN,hx,hy];exact hk
    | false=>rw[hy,if_neg (by decide)]at hk;simp only[PP,simprocAttr,PN,hx,hy];exact hk
  | false=>
    rw[hx,if_neg (by decide)]at hk
    cases hy:y.top with
    | true=>rw[hy,if_pos rfl]at hk;simp only[PP,simprocAttr,PN,hx,hy];exact hk
    | false=>
      rw[hy,if_neg (by decide)]at hk;simp only[PP,simprocAttr,PN,hx,hy];refine iX (fun(k:Int)=> -1<=k/\k<=7/\kR (x.c.drop (k+1).toNat) (y.c.drop (k+1).toNat)=0) (fun k=>(.junk:: .junk:: .ptr 0 0 0:: .ptr 1 0 0:: .junk::p64 k::zj 30))
        (fun k=>[.cells 0 0 (msC x),.cells 0 0 (msC y)]) (fun k=>(k+1).toNat) 7 ⟨by decide,by decide,by
          rw[List.drop_of_length_le (by rw[x.h];decide)];rfl⟩ (by simp only[PW]) rfl ?_
      intro k ⟨h1,h2,h3⟩ ih;refine aM (by kernel_rfl) ?_;simp only[PP,simprocAttr];refine QIf.intro (fun c=>?_) (fun c=>?_)
      · obtain⟨j,rfl⟩:∃j:Nat,k=j:=⟨k.toNat,by omega⟩;have j8:(j:Int)<8:=by omega
        obtain⟨a,ga⟩:=Ms.get (x:=x) (k:=j) (by omega);obtain⟨b,gb⟩:=Ms.get (x:=y) (k:=j) (by omega);have g1:=L7 ga;have g2:=L7 gb;have hwk:=HP (j:=j) (by omega);have ej:((j:Int)+1).toNat=j+1:=by omega
        rw[ej]at h3;have h4:=aDw ga gb h3;simp only[PP,simprocAttr,c,j8,g1,g2];refine aHo T ?_;simp only[PP,simprocAttr];by_cases e:j6 a b=0
        · simp only[PP,simprocAttr,e,hwk];refine aG (ih ((j:Int)-1) ⟨by omega,by omega,?_⟩ (by omega)) (by simp only[PW]);rw[show((j:Int)-1+1).toNat=j by omega,h4];exact e
        · simp only[PP,simprocAttr,e];rw[CU j (by rw[h4];exact e),h4]at hk;exact hk
      · have:k= -1:=by omega
        subst this;have h3:kR x.c y.c=0:=by simpa using h3
        rw[h3]at hk;simp only[PP,simprocAttr];exact hk
end
theorem aEJ{l:List Int}{k:Nat} :(List.replicate k (0:Int)++l.drop k)[k]? =l[k]? :=by rw[List.getElem?_append_right (by simp),List.length_replicate,Nat.sub_self,List.getElem?_drop,Nat.add_zero]
theorem V8{l:List Int}{k:Nat}(y:Int)(h:k<l.length):(List.replicate k (0:Int)++l.drop k).set k y=List.replicate k 0++y::l.drop (k+1):=by rw[List.set_append_right _ _ (by simp),List.length_replicate,Nat.sub_self,List.drop_eq_getElem_cons h,List.set_cons_zero]
theorem OX{l:List Int}{k:Nat}(h:k<l.length):(List.replicate k (0:Int)++l.drop k).set k 0=List.replicate (k+1) 0++l.drop (k+1):=by rw[V8 0 h,List.replicate_succ',List.append_assoc];rfl
section
variable {ns:List Nat} {x y:Ms} {q k:Nat}
theorem tB(ht:x.top=false):x.num ns=mr ns x.c:=by unfold Ms.num;rw[ht,if_neg (by decide)]
theorem WF(h:x.Ok ns)(ht:x.top=false)(hl:ns.length=8)(hq:q<=8)(hy:y.top=false)(hc:y.c=List.replicate q 0++x.c.drop q):y.Ok ns/\y.num ns=(x.num ns / mB ns q)*mB ns q:=by have h1:=rI q h.1;refine⟨⟨by rw[hc];exact tE q (by omega) h1,fun e=>by rw[hy]at e;cases e⟩,?_⟩;rw[tB hy,tB ht,hc,xU q (by simp[x.h];omega),EH q h.1,Nat.mul_comm]
def FM(ns:List Nat)(x:Ms)(q k:Nat):Prop:=∀(i:Nat) (c:Int) (n:Nat),q<=i->i<k->x.c[i]? =some c->ns[i]? =some n->c=n
theorem WI(h:x.Ok ns)(hl:ns.length=8):∀{k:Nat},q<=k->k<=8->FM ns x q k->(mr (ns.drop k) (x.c.drop k)+1)*mB ns k=(mr (ns.drop q) (x.c.drop q)+1)*mB ns q
  | 0,h1,h2,hf=>by
    have:q=0:=by omega
    subst this;rfl
  | k+1,h1,h2,hf=>by
    by_cases e:q=k+1
    · subst e;rfl
    · rw[<-WI h hl (k:=k) (by omega) (by omega) (fun i c n a b=>hf i c n a (by omega))];obtain⟨n,gn⟩:∃n,ns[k]? =some n:=⟨_,List.getElem?_eq_getElem (by omega)⟩;obtain⟨c,gc⟩:=Ms.get (x:=x) (k:=k) (by omega);have e1:=hf k c n (by omega) (by omega) gc gn;rw[aCJ gn,gP gn,gP gc];show _=(c.toNat+(n+1)*mr (ns.drop (k+1)) (x.c.drop (k+1))+1)*mB ns k;rw[e1,Int.toNat_natCast,show n+(n+1)*mr (ns.drop (k+1)) (x.c.drop (k+1))+1=(n+1)*(mr (ns.drop (k+1)) (x.c.drop (k+1))+1) by rw[Nat.mul_add];omega];rw[Nat.mul_comm (mB ns k),<-Nat.mul_assoc,Nat.mul_comm (n+1)]
theorem aB0(h:x.Ok ns)(ht:x.top=false)(hl:ns.length=8)(hq:q<=k)(hk:k<8)(hf:FM ns x q k){c:Int}{n:Nat}(gc:x.c[k]? =some c)(gn:ns[k]? =some n)(hlt:c<n)(hy:y.top=false)
    (hc:y.c=List.replicate k 0++(c+1)::x.c.drop (k+1)):y.Ok ns/\y.num ns=(x.num ns / mB ns q+1)*mB ns q:=by
  have h1:=rI k h.1;rw[gP gn,gP gc]at h1;have hd:mOk (ns.drop k) ((c+1)::x.c.drop (k+1)):=by rw[gP gn];exact⟨by have:=h1.1;omega,by omega,h1.2.2⟩
  refine⟨⟨by rw[hc];exact tE k (by omega) hd,fun e=>by rw[hy]at e;cases e⟩,?_⟩;rw[tB hy,tB ht,hc,xU k (by simp[x.h];omega),EH q h.1,<-WI h hl hq (by omega) hf,Nat.mul_comm,gP gn,gP gc];congr 1;show(c+1).toNat+(n+1)*_=c.toNat+(n+1)*_+1;have:=h1.1;omega
theorem WG(h:x.Ok ns)(ht:x.top=false)(hl:ns.length=8)(hq:q<=8)(hf:FM ns x q 8):mT ns=(x.num ns / mB ns q+1)*mB ns q:=by rw[tB ht,EH q h.1,<-WI h hl hq (Nat.le_refl _) hf,List.drop_of_length_le (by omega),nU ns 8,List.drop_of_length_le (by omega)];simp[mr,mT]
theorem Ms.num_lt(h:x.Ok ns)(ht:x.top=false):x.num ns<mT ns:=by rw[tB ht];exact CB h.1
end
def aHs(pr:List Int):Prop:=pr.length<1000000000000/\∀x∈pr,0<=x/\x<=16
theorem rL(pr:List Int){q:Nat}(h:q<8):(aQ pr)[q]? =some (pr.count ((2*q+1:Nat):Int)):=qS h
theorem TW{pr:List Int}{k:Nat}{x:Int}(g:pr[k]? =some x)(h:x % 2=0):aQ (pr.take (k+1))=aQ (pr.take k):=wV fun v hv=>by
  rw[bL g,List.count_append,List.count_singleton];have:¬(x==((2*v+1:Nat):Int))=true:=by simp;omega
  rw[if_neg this];rfl
theorem ZC{pr:List Int}{k q:Nat}{x:Int}(g:pr[k]? =some x)(h:x=((2*q+1:Nat):Int))(hq:q<8):(aQ (pr.take k)).set q ((pr.take k).count ((2*q+1:Nat):Int)+1)=aQ (pr.take (k+1)):=by
  unfold aQ;rw[WR _ hq];refine wV fun v hv=>?_;rw[bL g,List.count_append,List.count_singleton];by_cases e:v=q
  · subst e;rw[if_pos rfl,if_pos (by simp[h])]
  · rw[if_neg e,if_neg (by simp[h];omega)];rfl
section
variable {tab:FuncId->Option AF} (T:HasA tab)
include T
theorem nR{M:Mem}{K:PV->Mem->Prop}{f1 o1 f2 o2 f3 o3 f4 o4:Bool}{ow pr:List Int}{su:List (List Int)}(P:aHs pr)(hk:K (.cp (gT f1 o1 f2 o2 f3 o3 f4 o4 ow pr su) 0) M):
    SemC tab 89 [gmP f1 o1 f2 o2 f3 o3 f4 o4 ow pr su] M K:=by
  obtain⟨hn,hp⟩:=P;refine aBy (by simp only[PP,simprocAttr]) ?_;refine aT T.h89 ?_;simp only[af89,PP,simprocAttr,PN];refine gU (fun(k ver:Nat)=>k<=pr.length) (fun k ver=>(zj 3++ .ptr 1 0 0::zj 6++slI f2 o2 .i64 pr::p64 pr.length::p64 k::zj 19))
    (fun k ver=>[.cells 0 0 [slI f1 o1 .u8 ow,slI f2 o2 .i64 pr,slR f3 o3 f4 o4 .i64 su],.cells 0 ver (slI f1 o1 .u8 ow::slI f2 o2 .i64 pr::slR f3 o3 f4 o4 .i64 su::iP (aQ (pr.take k)))])
    (fun k _=>pr.length-k) 0 0 (by omega) (by simp only[PW]) rfl ?_
  intro k ver hle ih;refine aM (by kernel_rfl) ?_;simp only[PP,simprocAttr];refine QIf.intro (fun c=>?_) (fun c=>?_)
  · have hk':k<pr.length:=by omega
    have k0:(0:Int)<=k:=by omega
    have kn:(k:Int)<pr.length:=by omega
    have hwk:=aH (k:=k) (by show _<1000000000000;omega);obtain⟨x,g1⟩:=aO (xs:=pr) (k:=k) hk';obtain⟨x0,x1⟩:=hp x (List.mem_of_getElem? g1);have hrem:x.tmod 2=x % 2:=Int.tmod_eq_emod_of_nonneg x0;simp only[PP,simprocAttr,c,k0,kn,g1,aE8 (show(2:Int)≠0 by decide),hrem];refine QIf.intro (fun d=>?_) (fun d=>?_)
    · obtain⟨q,hq,hq8⟩:∃q:Nat,x=((2*q+1:Nat):Int)/\q<8:=⟨(x / 2).toNat,by omega,by omega⟩;have hquo:IntKind.i64.wrap (x.tdiv 2)=(q:Int):=by
        rw[Int.tdiv_eq_ediv_of_nonneg x0,wrap64 (by omega) (by omega)];omega
      have hcl:(pr.take k).count ((2*q+1:Nat):Int)<=(pr.take k).length:=List.count_le_length;have hcl2:(pr.take k).length<=pr.length:=by simp;omega
      have gl:=QK (rL (pr.take k) hq8);have hw2:=aH (k:=(pr.take k).count ((2*q+1:Nat):Int)) (by show _<1000000000000;omega);have g3:(slI f1 o1 .u8 ow::slI f2 o2 .i64 pr::slR f3 o3 f4 o4 .i64 su::iP (aQ (pr.take k)))[3+q]? =some (p64 ((pr.take k).count ((2*q+1:Nat):Int))):=by rw[Nat.add_comm];exact gl
      have g4:∀y:PV,(slI f1 o1 .u8 ow::slI f2 o2 .i64 pr::slR f3 o3 f4 o4 .i64 su::iP (aQ (pr.take k))).set (3+q) y=slI f1 o1 .u8 ow::slI f2 o2 .i64 pr::slR f3 o3 f4 o4 .i64 su::(iP (aQ (pr.take k))).set q y:=fun y=>by rw[Nat.add_comm];rfl
      have q0:(0:Int)<=q:=by omega
      have q8:(q:Int)<8:=by omega
      have q3:3+q+1<=11:=by omega
      simp only[PP,simprocAttr,PN,d,k0,kn,xN _ _ _ (show(2:Int)≠0 by decide),hquo,q0,q8,q3,g3,g4,hw2,hwk];refine bA (ih (k+1) (ver+1) (by omega) (by omega)) (by simp only[PW]) ?_;rw[ZD,ZC g1 hq hq8]
    · simp only[PP,simprocAttr,d,hwk];refine bA (ih (k+1) ver (by omega) (by omega)) (by simp only[PW]) ?_;rw[TW g1 (by omega)]
  · have:k=pr.length:=by omega
    subst this;simp only[PP,simprocAttr,c];refine⟨1,0,ver,gT f1 o1 f2 o2 f3 o3 f4 o4 ow pr su,rfl,?_,qZ _,hk⟩;rw[List.take_of_length_le (Nat.le_refl _)];rfl
end
theorem aGG(p:Nat):((p:Int)).tmod 2=((p % 2:Nat):Int):=by rw[Int.tmod_eq_emod_of_nonneg (by omega)];omega
theorem aEr{p:Nat}(h:p<=16):IntKind.i64.wrap ((p:Int).tdiv 2)=((p / 2:Nat):Int):=by rw[Int.tdiv_eq_ediv_of_nonneg (by omega),wrap64 (by omega) (by omega)];omega
section
variable {tab:FuncId->Option AF} (T:HasA tab)
include T
set_option maxHeartbeats 1000000 in
theorem aGz{M:Mem}{K:PV->Mem->Prop}{f1 o1 f2 o2 f3 o3 f4 o4:Bool}{ow pr:List Int}{su:List (List Int)}{p:Nat}{x:Ms}(hb:pr.length<1000000000000)(hp:p<=16)(hx:x.Ok (aQ pr))
    (hk:∀y:Ms,y.Ok (aQ pr)->y.num (aQ pr)=vN (aQ pr) p (x.num (aQ pr))->K (.agg (msC y)) M):
    SemC tab 219 [.cp (gT f1 o1 f2 o2 f3 o3 f4 o4 ow pr su) 0,p64 p,.agg (msC x)] M K:=by
  have h8:=iO pr;have hlt:=EL hb;refine aE T.h219 (by simp only[PP,simprocAttr,PN,PV.under]) ?_;simp only[af219,PP,simprocAttr,PN]
  cases ht:x.top with
  | true=>simp only[PP,simprocAttr,PN,ht];refine hk x hx ?_;rw[(Ms.num_top hx).2 ht,aEK]
  | false=>
    have nlt:=Ms.num_lt hx ht;simp only[PP,simprocAttr,PN,ht,xN _ _ _ (show(2:Int)≠0 by decide),aEr hp];refine nV (fun(k ver:Nat) (y:Ms)=>k<=p / 2/\y.top=false/\y.c=List.replicate k 0++x.c.drop k)
      (fun k ver y=>(.cp (gT f1 o1 f2 o2 f3 o3 f4 o4 ow pr su) 0::p64 p::zj 3++ .ptr 0 0 0:: .ptr 1 0 0::zj 6++p64 ((p / 2:Nat):Int)::p64 k::zj 41))
      (fun k ver y=>[.cells 0 ver (msC y),.cells 0 0 (msC mz)]) (fun k _ _=>p / 2-k) 0 0 x ⟨by omega,ht,by simp⟩ (by simp only[PW]) rfl ?_
    intro k ver y ⟨hle,hy,hc⟩ ih;refine aM (by kernel_rfl) ?_;simp only[PP,simprocAttr];refine QIf.intro (fun c=>?_) (fun c=>?_)
    · have hk8:k<8:=by omega
      have k0:(0:Int)<=k:=by omega
      have k8:(k:Int)<8:=by omega
      have k9:1+k+1<=9:=by omega
      have hwk:=aH (k:=k) (by show _<1000000000000;omega);simp only[PP,simprocAttr,PN,c,k0,k8,k9,EG,hwk];refine bA (ih (k+1) (ver+1) (y.put k 0) ⟨by omega,hy,?_⟩ (by omega)) (by simp only[PW]) rfl;show y.c.set k 0=_;rw[hc];exact OX (by rw[x.h];exact hk8)
    · have hkq:k=p / 2:=by omega
      subst hkq;simp only[PP,simprocAttr,PN,c,aE8 (show(2:Int)≠0 by decide),aGG];obtain⟨z1,z2⟩:=WF hx ht h8 (show p / 2<=8 by omega) hy hc;refine QIf.intro (fun d=>?_) (fun d=>?_)
      · have e0:p % 2=0:=by omega
        simp only[PP,simprocAttr,PN,d];exact hk y z1 (by rw[z2,WH nlt,e0,Nat.add_zero])
      · have e1:p % 2=1:=by omega
        simp only[PP,simprocAttr,PN,d,xN _ _ _ (show(2:Int)≠0 by decide),aEr hp];refine nV (fun(k ver:Nat) (y:Ms)=>p / 2<=k/\k<=8/\y.top=false/\y.c=List.replicate k 0++x.c.drop k/\FM (aQ pr) x (p / 2) k)
          (fun k ver y=>(.cp (gT f1 o1 f2 o2 f3 o3 f4 o4 ow pr su) 0::zj 4++ .ptr 0 0 0:: .ptr 1 0 0:: .junk::p64 k::zj 47))
          (fun k ver y=>[.cells 0 ver (msC y),.cells 0 0 (msC mz)]) (fun k _ _=>8-k) (p / 2) ver y ⟨Nat.le_refl _,by omega,hy,hc,fun i c n a b=>by omega⟩ (by simp only[PW]) rfl ?_
        clear ih c;intro k ver y ⟨hle1,hle2,hy,hc,hf⟩ ih;refine aM (by kernel_rfl) ?_;simp only[PP,simprocAttr];refine QIf.intro (fun c=>?_) (fun c=>?_)
        · have hk8:k<8:=by omega
          have k0:(0:Int)<=k:=by omega
          have k8:(k:Int)<8:=by omega
          have k9:1+k+1<=9:=by omega
          have kne:¬(k:Int)=8:=by omega
          have hwk:=aH (k:=k) (by show _<1000000000000;omega);obtain⟨a,ga⟩:=Ms.get (x:=x) hk8;have gy:y.c[k]? =some a:=by rw[hc,aEJ,ga]
          have gn:=rL pr hk8;generalize pr.count ((2*k+1:Nat):Int)=n at gn;have hn:=hlt n (List.mem_of_getElem? gn);have g1:=L7 gy;have g2:(gT f1 o1 f2 o2 f3 o3 f4 o4 ow pr su)[3+k]? =some (p64 n):=PE gn;have hok:0<=a/\a<=n:=by have:=rI k hx.1;rw[gP gn,gP ga]at this;exact⟨this.1,this.2.1⟩
          have hwa:IntKind.i64.wrap (a+1)=a+1:=wrap64 (by omega) (by omega);simp only[PP,simprocAttr,PN,c,k0,k8,k9,g1,g2];refine QIf.intro (fun e=>?_) (fun e=>?_)
          · simp only[PP,simprocAttr,PN,e,c,k0,k8,k9,g1,hwa,EG,kne];obtain⟨w1,w2⟩:=aB0 (y:=y.put k (a+1)) hx ht h8 hle1 hk8 hf ga gn e hy (by show y.c.set k (a+1)=_;rw[hc];exact V8 _ (by rw[x.h];exact hk8));exact hk _ w1 (by rw[w2,WH nlt,e1])
          · simp only[PP,simprocAttr,PN,e,k0,k8,k9,EG,hwk];refine bA (ih (k+1) (ver+1) (y.put k 0) ⟨by omega,by omega,hy,?_,fun i c m a1 a2 g5 g6=>?_⟩ (by omega)) (by simp only[PW]) rfl
            · show y.c.set k 0=_;rw[hc];exact OX (by rw[x.h];exact hk8)
            · by_cases ei:i=k
              · subst ei;rw[ga]at g5;rw[gn]at g6;cases g5;cases g6;omega
              · exact hf i c m a1 (by omega) g5 g6
        · have hk8:k=8:=by omega
          subst hk8;simp only[PP,simprocAttr,PN];refine hk mtop (QD h8) ?_;rw[YV,WH nlt,e1];exact WG hx ht h8 (by omega) hf
end
theorem SZ(x:Ms):aY (msC x) 1 8=x.c.map (PV.int .i64):=by unfold aY msC;rw[List.drop_succ_cons,List.drop_zero,List.take_of_length_le (by simp[x.h])]
theorem aGI{pr:List Int}{x:Ms}(h:∀(k:Nat) (c:Int),k<8->x.c[k]? =some c->0<=c/\c<=(pr.count ((2*k+1:Nat):Int):Nat)):mOk (aQ pr) x.c:=
  Y6 (by rw[x.h,iO]) fun u c n h1 h2=>by
    have hu:u<8:=by have:=aD h1;rwa [x.h]at this
    rw[rL pr hu]at h2;cases h2;exact h u c hu h1
theorem YL{pr:List Int}{x:Ms}(h:x.Ok (aQ pr)){k:Nat}{c:Int}(hk:k<8)(g:x.c[k]? =some c):0<=c/\c<=(pr.count ((2*k+1:Nat):Int):Nat):=QG h.1 g (rL pr hk)
theorem YW:mtop.fit:=fun c hc=>by have:=List.eq_of_mem_replicate (show c∈List.replicate 8 (0:Int)from hc);omega
section
variable {tab:FuncId->Option AF} (T:HasA tab)
include T
theorem aB1{M:Mem}{K:PV->Mem->Prop}{f1 o1 f2 o2 f3 o3 f4 o4:Bool}{ow pr:List Int}{su:List (List Int)}{x:Ms}(hb:pr.length<1000000000000)
    (hk:∀b:Bool,(b=true↔x.Ok (aQ pr))->K (.bool b) M):
    SemC tab 269 [.cp (gT f1 o1 f2 o2 f3 o3 f4 o4 ow pr su) 0,.agg (msC x)] M K:=by
  have h8:=iO pr;have hlt:=EL hb;have yes:x.Ok (aQ pr)->K (.bool true) M:=fun h=>hk true ⟨fun _=>h,fun _=>rfl⟩;have no:¬x.Ok (aQ pr)->K (.bool false) M:=fun h=>hk false ⟨fun q=>(by cases q),fun q=>absurd q h⟩;refine aE T.h269 (by simp only[PP,simprocAttr,PN,PV.under]) ?_;simp only[af269,PP,simprocAttr,PN,SZ];refine iX (fun(k:Nat)=>k<=8/\∀(i:Nat) (c:Int),i<k->x.c[i]? =some c->0<=c/\c<=(pr.count ((2*i+1:Nat):Int):Nat))
    (fun k=>(.cp (gT f1 o1 f2 o2 f3 o3 f4 o4 ow pr su) 0:: .junk:: .junk:: .ptr 0 0 0::zj 4++ .agg (x.c.map (PV.int .i64))::p64 k::zj 24))
    (fun k=>[.cells 0 0 (msC x)]) (fun k=>8-k) 0 ⟨by omega,fun i c h=>by omega⟩ (by simp only[PW]) rfl ?_
  intro k ⟨hle,hc⟩ ih;refine aM (by kernel_rfl) ?_;simp only[PP,simprocAttr];refine QIf.intro (fun c=>?_) (fun c=>?_)
  · have hk8:k<8:=by omega
    have k0:(0:Int)<=k:=by omega
    have k8:(k:Int)<8:=by omega
    have hwk:=aH (k:=k) (by show _<1000000000000;omega);obtain⟨a,ga⟩:=Ms.get (x:=x) hk8;have gn:=rL pr hk8;have g2:=PE (f1:=f1) (o1:=o1) (f2:=f2) (o2:=o2) (f3:=f3) (o3:=o3) (f4:=f4) (o4:=o4) (ow:=ow) (su:=su) gn;simp only[PP,simprocAttr,PN,c,k0,k8,ga];refine QIf.intro (fun d=>?_) (fun d=>?_)
    · simp only[PP,simprocAttr,d];exact no fun h=>by have:=YL h hk8 ga;omega
    · simp only[PP,simprocAttr,PN,c,d,k0,k8,ga,g2];refine QIf.intro (fun e=>?_) (fun e=>?_)
      · simp only[PP,simprocAttr,e];exact no fun h=>by have:=YL h hk8 ga;omega
      · simp only[PP,simprocAttr,e,hwk];refine aG (ih (k+1) ⟨by omega,fun i c' h1 h2=>?_⟩ (by omega)) (by simp only[PW]);by_cases ei:i=k
        · subst ei;rw[ga]at h2;cases h2;omega
        · exact hc i c' (by omega) h2
  · have hk8:k=8:=by omega
    subst hk8;have hok:=aGI hc
    cases ht:x.top with
    | false=>simp only[PP,simprocAttr,PN,ht];exact yes ⟨hok,fun h=>by rw[ht]at h;cases h⟩
    | true=>
      have hfit:x.fit:=Ms.Ok.fit (x:=⟨false,x.c,x.h⟩) (ns:=aQ pr) ⟨hok,fun h=>by cases h⟩ hlt;simp only[PP,simprocAttr,PN,ht,PQ hfit YW];refine hk _ ?_;rw[decide_eq_true_eq];constructor
      · intro h;rw[h];exact QD h8
      · intro h;exact Ms.ext' ht (h.2 ht)
end
def nx(p:Bool):Int->Int->List Int->Int
  | least,most,[]=>if p=true then(if least<0 then-1 else least+1)else most+1
  | least,most,r::rs=>if r<0 then(if p=true then nx p least most rs else-1)else nx p (if least<0 then r else if r<least then r else least) (max most r) rs
section
variable {n:Nat} {P:Nat->Bool} {S:Nat->List Nat} {Z:Nat->Bool}
end
def Sf(su:List (List Int))(v:Nat):List Nat:=(su.getD v []).map Int.toNat
theorem aE0{ow pr:List Int}{su:List (List Int)}(V:Valid ow pr su){v:Nat}(hv:v<ow.length):su.getD v []≠[]/\(su.getD v []).Pairwise (· < ·)/\∀u∈su.getD v [],0<=u/\u<ow.length:=by
  have hs:=V.s;have hi:v<su.length:=by omega
  obtain⟨_,_,_,h1,q⟩:=V.row v hi;have e:su.getD v []=su[v]:=by simp[List.getD,hi]
  obtain⟨q1,q2⟩:=gZ q;rw[e];exact⟨fun h=>by rw[h]at h1;simp at h1,q1,fun u hu=>by have:=q2 u hu;omega⟩
theorem aBx{ow pr:List Int}{su:List (List Int)}(V:Valid ow pr su){v:Nat}(hv:v<ow.length):Sf su v≠[]/\(∀u∈Sf su v,u<ow.length)/\(Sf su v).Nodup:=by
  obtain⟨h1,h2,h3⟩:=aE0 V hv;refine⟨fun h=>h1 (List.map_eq_nil_iff.1 h),fun u hu=>?_,?_⟩
  · obtain⟨w,hw,rfl⟩:=List.mem_map.1 hu;have:=h3 w hw;omega
  · unfold Sf;refine List.pairwise_map.2 (List.Pairwise.imp_of_mem ?_ h2);intro a b ha hb hab e;have:=h3 a ha;have:=h3 b hb;omega
end Go.Am.Ar
--P14
namespace Go.Am.Ar
open Go.Am.PV renaming junk->Zj
open Go.Am renaming pchk->P1,pold->P2,PKNo->P3,ppack->P4,PObj.under->P5,pput->P6,ptset->P7,ptget->P8,pev->P9,ofAV->P10,ofAV1->P11,ppad->P12,pfill->P13,bW->P14,AO.effect->P15
open List renaming replicate->L1
abbrev gO(ow:List Int):Nat->Int:=fun v=>ow.getD v 0
abbrev gL(ow pr:List Int)(su:List (List Int)):(Nat->Nat)->Nat->Nat:=lN (aQ pr) (gO ow) (Sf su) (gO pr)
def Nf(ns:List Nat)(ms:List Ms)(v:Nat):Nat:=(ms.getD v mz).num ns
structure StOk (ns:List Nat) (n:Nat) (ms:List Ms):Prop where
  l:ms.length=n
  ok:∀x∈ms,x.Ok ns
theorem sL{ns:List Nat}{ms:List Ms}{v:Nat}{x:Ms}(h:ms[v]? =some x):Nf ns ms v=x.num ns:=by unfold Nf;simp[List.getD,h]
theorem nA{ow pr:List Int}{su:List (List Int)}(V:Valid ow pr su):aHs pr:=⟨by rw[V.p];have:=V.n1;omega,fun x hx=>by
  obtain⟨i,hi⟩:=List.getElem?_of_mem hx;have hl:=aD hi;have:=V.row i (by rw[V.s,<-V.p];exact hl);rw[getD_some hi]at this;exact⟨this.1,this.2.1⟩⟩
theorem rH(x:Ms):(msC x).all PV.flat1=true:=by simp[msC,PV.flat1]
theorem eZ(l:List Ms):aY (msL l) 0 (l.length*9)=msL l:=aU _ _ (jA l).symm
section
variable {tab:FuncId->Option AF} (T:HasA tab)
include T
theorem TO{M:Mem}{K:PV->Mem->Prop}{f o:Bool}{ms:List Ms}{ns:List Nat}(h0:0<ms.length)(hb:ms.length<1000000000000)(hok:∀x∈ms,x.Ok ns)
    (hk:∀y,y∈ms->(∀z∈ms,y.num ns<=z.num ns)->K (.agg (msC y)) M):
    SemC tab 220 [slM f o ms,.func (.func 30) [] []] M K:=by
  refine aE T.h220 (by simp only[PP,P14,simprocAttr,PN,PV.under]) ?_;have n1:¬(ms.length:Int)<1:=by omega
  have n2:(0:Int)<ms.length:=by omega
  obtain⟨x0,g0⟩:=aO (xs:=ms) (k:=0) h0;have p0:=fM g0;have l0:=uK g0;rw[Nat.zero_mul]at p0 l0;rw[Nat.zero_add]at l0;simp only[af220,PP,P14,simprocAttr,PN,n1,n2,p0,l0];refine nV (fun(k ver:Nat) (y:Ms)=>1<=k/\k<=ms.length/\y∈ms/\∀(j:Nat) (z:Ms),j<k->ms[j]? =some z->y.num ns<=z.num ns)
    (fun k ver y=>(slM f o ms:: .func (.func 30) [] []:: .junk:: .junk:: .ptr 0 0 0:: .ptr 1 0 0::p64 k::zj 26))
    (fun k ver y=>[.cells 0 0 (msC mz),.cells 0 ver (msC y)]) (fun k _ _=>ms.length-k) 1 1 x0 ⟨by omega,h0,List.mem_of_getElem? g0,fun j z hj hz=>by
      have:j=0:=by omega
      subst this;rw[g0]at hz;cases hz;exact Nat.le_refl _⟩ (by simp only[PW]) rfl ?_
  intro k ver y ⟨hle1,hle,hy,hmin⟩ ih;refine aM (by kernel_rfl) ?_;simp only[PP,P14,simprocAttr];refine QIf.intro (fun c=>?_) (fun c=>?_)
  · have hk':k<ms.length:=by omega
    have k0:(0:Int)<=k:=by omega
    have kn:(k:Int)<ms.length:=by omega
    have hwk:=aH (k:=k) (by show _<1000000000000;omega);obtain⟨x,g1⟩:=aO (xs:=ms) (k:=k) hk';have hxm:=List.mem_of_getElem? g1;have p1:=fM g1;have l1:=uK g1;simp only[PP,P14,simprocAttr,PN,c,k0,p1,l1];refine lL T ?_;rw[wB (hok x hxm) (hok y hy)];simp only[PP,P14,simprocAttr,PN];refine QIf.intro (fun d=>?_) (fun d=>?_)
    · rw[JE]at d;simp only[PP,P14,simprocAttr,PN,c,k0,p1,l1,hwk];refine bA (ih (k+1) (ver+1) x ⟨by omega,hk',hxm,fun j z hj hz=>?_⟩ (by omega)) (by simp only[PW]) rfl;by_cases e:j=k
      · subst e;rw[g1]at hz;cases hz;exact Nat.le_refl _
      · have:=hmin j z (by omega) hz;omega
    · rw[JE]at d;simp only[PP,P14,simprocAttr,PN,hwk];refine aG (ih (k+1) ver y ⟨by omega,hk',hy,fun j z hj hz=>?_⟩ (by omega)) (by simp only[PW]);by_cases e:j=k
      · subst e;rw[g1]at hz;cases hz;omega
      · exact hmin j z (by omega) hz
  · simp only[PP,P14,simprocAttr,PN,c];refine hk y hy fun z hz=>?_;obtain⟨j,hj⟩:=List.getElem?_of_mem hz;exact hmin j z (by have:=aD hj;omega) hj
theorem TQ{M:Mem}{K:PV->Mem->Prop}{f o:Bool}{ms:List Ms}{ns:List Nat}(h0:0<ms.length)(hb:ms.length<1000000000000)(hok:∀x∈ms,x.Ok ns)
    (hk:∀y,y∈ms->(∀z∈ms,z.num ns<=y.num ns)->K (.agg (msC y)) M):
    SemC tab 221 [slM f o ms,.func (.func 30) [] []] M K:=by
  refine aE T.h221 (by simp only[PP,P14,simprocAttr,PN,PV.under]) ?_;have n1:¬(ms.length:Int)<1:=by omega
  have n2:(0:Int)<ms.length:=by omega
  obtain⟨x0,g0⟩:=aO (xs:=ms) (k:=0) h0;have p0:=fM g0;have l0:=uK g0;rw[Nat.zero_mul]at p0 l0;rw[Nat.zero_add]at l0;simp only[af221,PP,P14,simprocAttr,PN,n1,n2,p0,l0];refine nV (fun(k ver:Nat) (y:Ms)=>1<=k/\k<=ms.length/\y∈ms/\∀(j:Nat) (z:Ms),j<k->ms[j]? =some z->z.num ns<=y.num ns)
    (fun k ver y=>(slM f o ms:: .func (.func 30) [] []:: .junk:: .junk:: .ptr 0 0 0:: .ptr 1 0 0::p64 k::zj 26))
    (fun k ver y=>[.cells 0 0 (msC mz),.cells 0 ver (msC y)]) (fun k _ _=>ms.length-k) 1 1 x0 ⟨by omega,h0,List.mem_of_getElem? g0,fun j z hj hz=>by
      have:j=0:=by omega
      subst this;rw[g0]at hz;cases hz;exact Nat.le_refl _⟩ (by simp only[PW]) rfl ?_
  intro k ver y ⟨hle1,hle,hy,hmin⟩ ih;refine aM (by kernel_rfl) ?_;simp only[PP,P14,simprocAttr];refine QIf.intro (fun c=>?_) (fun c=>?_)
  · have hk':k<ms.length:=by omega
    have k0:(0:Int)<=k:=by omega
    have kn:(k:Int)<ms.length:=by omega
    have hwk:=aH (k:=k) (by show _<1000000000000;omega);obtain⟨x,g1⟩:=aO (xs:=ms) (k:=k) hk';have hxm:=List.mem_of_getElem? g1;have p1:=fM g1;have l1:=uK g1;simp only[PP,P14,simprocAttr,PN,c,k0,p1,l1];refine lL T ?_;rw[wB (hok x hxm) (hok y hy)];simp only[PP,P14,simprocAttr,PN];refine QIf.intro (fun d=>?_) (fun d=>?_)
    · rw[oB]at d;simp only[PP,P14,simprocAttr,PN,c,k0,p1,l1,hwk];refine bA (ih (k+1) (ver+1) x ⟨by omega,hk',hxm,fun j z hj hz=>?_⟩ (by omega)) (by simp only[PW]) rfl;by_cases e:j=k
      · subst e;rw[g1]at hz;cases hz;exact Nat.le_refl _
      · have:=hmin j z (by omega) hz;omega
    · rw[oB]at d;simp only[PP,P14,simprocAttr,PN,hwk];refine aG (ih (k+1) ver y ⟨by omega,hk',hy,fun j z hj hz=>?_⟩ (by omega)) (by simp only[PW]);by_cases e:j=k
      · subst e;rw[g1]at hz;cases hz;omega
      · exact hmin j z (by omega) hz
  · simp only[PP,P14,simprocAttr,PN,c];refine hk y hy fun z hz=>?_;obtain⟨j,hj⟩:=List.getElem?_of_mem hz;exact hmin j z (by have:=aD hj;omega) hj
set_option maxHeartbeats 1000000 in
theorem ZF{M:Mem}{K:PV->Mem->Prop}{f1 o1 f2 o2 f3 o3 f4 o4 f o:Bool}{ow pr:List Int}{su:List (List Int)}{ms:List Ms}{v:Nat}(V:Valid ow pr su)(B:Bnd ow pr su)(hm:StOk (aQ pr) ow.length ms)(hv:v<ow.length)
    (hk:∀y:Ms,y.Ok (aQ pr)->y.num (aQ pr)=gL ow pr su (Nf (aQ pr) ms) v->K (.agg (msC y)) M):
    SemC tab 190 [.cp (gT f1 o1 f2 o2 f3 o3 f4 o4 ow pr su) 0,slM f o ms,p64 v] M K:=by
  have P:=nA V;have hp:=V.p;have hs:=V.s;have hml:=hm.l;obtain⟨o',g1⟩:=aO (xs:=ow) (k:=v) hv;obtain⟨pv,g2⟩:=aO (xs:=pr) (k:=v) (by omega);obtain⟨row,g3⟩:=aO (xs:=su) (k:=v) (by omega);obtain⟨p0,p1⟩:=P.2 pv (List.mem_of_getElem? g2);obtain⟨p,rfl⟩:∃p:Nat,pv=p:=⟨pv.toNat,by omega⟩;have hp16:p<=16:=by omega
  have v0:(0:Int)<=v:=by omega
  have vn:(v:Int)<ow.length:=by omega
  have eO:gO ow v=o':=getD_some g1;have eR:gO pr v=p:=getD_some g2;have eS:Sf su v=row.map Int.toNat:=by unfold Sf;simp[List.getD,g3]
  have hrow:∀u∈row,0<=u/\u<ow.length:=fun u hu=>WU V hv (by simp[List.getD,g3];exact hu);have hrl:row.length<1000000000000:=B.r row (List.mem_of_getElem? g3);have hrn:0<row.length:=by
    have:=(aBx V hv).1;rw[eS]at this
    cases row with
    | nil=>exact absurd rfl this
    | cons x l=>simp
  refine aE T.h190 (by simp only[PP,P14,simprocAttr,PN,PV.under]) ?_;simp only[af190,PP,P14,simprocAttr,PN,v0,vn,hs,g3];refine bB (GStep.nil 7 9 rfl rfl rfl) ?_;refine pF (fun(k g ver:Nat) (l:List Ms)=>k<=row.length/\l.length=k/\(∀x∈l,x.Ok (aQ pr))/\∀(j:Nat) (u:Int) (x:Ms),row[j]? =some u->l[j]? =some x->x.num (aQ pr)=vN (aQ pr) p (Nf (aQ pr) ms u.toNat))
    (fun k g ver l=>(.cp (gT f1 o1 f2 o2 f3 o3 f4 o4 ow pr su) 0::slM f o ms::p64 v::zj 3++ .ptr 0 0 0:: .ref 1 g 9 0 k::zj 9++slI f4 o4 .i64 row::p64 row.length::p64 k::zj 34))
    (fun k g ver l=>[.cells 0 0 (msC mz),.cells g ver (msL l)]) (fun k _ _ _=>row.length-k) 0 0 0 [] ⟨by omega,rfl,fun x hx=>(by cases hx),fun j u x _ h=>by simp at h⟩ (by simp only[PP,P14,simprocAttr,PW,Int.cast_ofNat_Int]) (by simp only[PP,P14,simprocAttr];rfl) ?_
  intro k g ver l ⟨hle,hl,hlok,hln⟩ ih;refine aM (by kernel_rfl) ?_;simp only[PP,P14,simprocAttr];refine QIf.intro (fun c=>?_) (fun c=>?_)
  · have hk':k<row.length:=by omega
    have k0:(0:Int)<=k:=by omega
    have hwk:=aH (k:=k) (by show _<1000000000000;omega);obtain⟨u,g4⟩:=aO (xs:=row) (k:=k) hk';obtain⟨u0,u1⟩:=hrow u (List.mem_of_getElem? g4);obtain⟨x,g5⟩:=aO (xs:=ms) (k:=u.toNat) (by omega);have eN:Nf (aQ pr) ms u.toNat=x.num (aQ pr):=sL g5;have q1:=fM g5;have q2:=uK g5;rw[hml]at q2;simp only[PP,P14,simprocAttr,PN,c,k0,v0,vn,hp,g2,g4,u0,u1,hml,q1,q2];refine aGz T P.1 hp16 (hm.ok x (List.mem_of_getElem? g5)) (fun y y1 y2=>?_);have hps:aY (msL l) 0 (k*9)=msL l:=by rw[<-hl];exact eZ l
    have c72:(k+1)*72<=140737488355328:=by omega
    have c1:k+1<=9223372036854775807:=by omega
    have c9:k*9<=l.length*9:=by omega
    simp only[PP,P14,simprocAttr,PN,hps,c72,c1,c9,hwk];refine bA (ih (k+1) (g+1) 0 (l++[y]) ⟨by omega,by simp[hl],fun z hz=>?_,fun j w z h1 h2=>?_⟩ (by omega)) (by simp only[PW]) (by rw[aCF])
    · rcases List.mem_append.1 hz with h | h
      · exact hlok z h
      · rw[List.mem_singleton]at h;subst h;exact y1
    · by_cases e:j=k
      · subst e;rw[g4]at h1;cases h1;rw[List.getElem?_append_right (by omega),hl,Nat.sub_self]at h2;cases h2;rw[y2,eN]
      · have hj:j<l.length:=by have:=aD h2;simp at this;omega
        rw[List.getElem?_append_left hj]at h2;exact hln j w z h1 h2
  · have hkr:k=row.length:=by omega
    subst hkr;have hl0:0<l.length:=by omega
    have hlb:l.length<1000000000000:=by omega
    have mem:∀y∈l,∃u∈Sf su v,y.num (aQ pr)=vN (aQ pr) (gO pr v).toNat (Nf (aQ pr) ms u):=fun y hy=>by obtain⟨j,hj⟩:=List.getElem?_of_mem hy;obtain⟨u,hu⟩:=aO (xs:=row) (k:=j) (by have:=aD hj;omega);refine⟨u.toNat,by rw[eS];exact List.mem_map.2 ⟨u,List.mem_of_getElem? hu,rfl⟩,?_⟩;rw[eR,Int.toNat_natCast];exact hln j u y hu hj
    have mem2:∀u∈Sf su v,∃y∈l,y.num (aQ pr)=vN (aQ pr) (gO pr v).toNat (Nf (aQ pr) ms u):=fun u hu=>by rw[eS]at hu;obtain⟨w,hw,rfl⟩:=List.mem_map.1 hu;obtain⟨j,hj⟩:=List.getElem?_of_mem hw;obtain⟨y,hy⟩:=aO (xs:=l) (k:=j) (by have:=aD hj;omega);refine⟨y,List.mem_of_getElem? hy,?_⟩;rw[eR,Int.toNat_natCast];exact hln j w y hj hy
    have bor:PBor [.cells 0 0 (msC mz),.cells g ver (msL l)] [.ref 1 g 9 0 row.length,.func (.func 30) [] []] [slM true false l,.func (.func 30) [] []]:=by rw[<-hl];exact .ref rfl (by rw[jA];omega) (cM _ _) (eZ l) (.same rfl .nil)
    simp only[PP,P14,simprocAttr,PN,c,v0,vn,g1];refine QIf.intro (fun d=>?_) (fun d=>?_)
    · simp only[PP,P14,simprocAttr,PN,d];refine sI bor (TO T hl0 hlb hlok fun y hy hmin=>⟨by simp only[PV.flat,PV.flatA,rH],?_⟩);simp only[PP,P14,simprocAttr,PN];refine hk y (hlok y hy) ?_;unfold gL lN;rw[eO,if_pos d];refine aB2 (mem y hy) fun u hu=>?_;obtain⟨z,hz,e⟩:=mem2 u hu;rw[<-e];exact hmin z hz
    · simp only[PP,P14,simprocAttr,PN,d];refine sI bor (TQ T hl0 hlb hlok fun y hy hmin=>⟨by simp only[PV.flat,PV.flatA,rH],?_⟩);simp only[PP,P14,simprocAttr,PN];refine hk y (hlok y hy) ?_;unfold gL lN;rw[eO,if_neg d];refine aB3 (mem y hy) fun u hu=>?_;obtain⟨z,hz,e⟩:=mem2 u hu;rw[<-e];exact hmin z hz
end
section
variable {tab:FuncId->Option AF} (T:HasA tab)
include T
end
def LiftA(ow pr:List Int)(su:List (List Int))(ms:List Ms)(v:Int)(y:Ms)(e:Int):Prop:=
  (¬bG ow pr su=0/\y=mz/\e=bG ow pr su)\/(bG ow pr su=0/\¬ms.length=ow.length/\y=mz/\e=2)\/(bG ow pr su=0/\ms.length=ow.length/\¬(∀x∈ms,x.Ok (aQ pr))/\y=mz/\e=1)\/
  (bG ow pr su=0/\StOk (aQ pr) ow.length ms/\(v<0\/ow.length<=v)/\y=mz/\e=8)\/(bG ow pr su=0/\StOk (aQ pr) ow.length ms/\0<=v/\v<ow.length/\y.Ok (aQ pr)/\y.num (aQ pr)=gL ow pr su (Nf (aQ pr) ms) v.toNat/\e=0)
theorem LiftA.eq{ow pr:List Int}{su:List (List Int)}{ms:List Ms}{v:Int}{y y':Ms}{e e':Int}(h:LiftA ow pr su ms v y e)(h':LiftA ow pr su ms v y' e'):y=y'/\e=e':=by
  rcases h with⟨a1,a2,a3⟩ | ⟨a1,a2,a3,a4⟩ | ⟨a1,a2,a3,a4,a5⟩ | ⟨a1,a2,a3,a4,a5⟩ | ⟨a1,a2,a3,a4,a5,a6,a7⟩<;>
  rcases h' with⟨b1,b2,b3⟩ | ⟨b1,b2,b3,b4⟩ | ⟨b1,b2,b3,b4,b5⟩ | ⟨b1,b2,b3,b4,b5⟩ | ⟨b1,b2,b3,b4,b5,b6,b7⟩<;>
  first
    | (exact absurd a1 b1)
    | (exact absurd b1 a1)
    | (subst a2;subst b2;subst a3;subst b3;exact⟨rfl,rfl⟩)
    | (subst a3;subst b3;subst a4;subst b4;exact⟨rfl,rfl⟩)
    | (subst a4;subst b4;subst a5;subst b5;exact⟨rfl,rfl⟩)
    | (exact absurd b2 a2)
    | (exact absurd a2 b2)
    | (exact absurd b2.l a2)
    | (exact absurd a2.l b2)
    | (exact absurd b2.ok a3)
    | (exact absurd a2.ok b3)
    | (exfalso;omega)
    | exact⟨Ms.inj a5 b5 (a6.trans b6.symm),a7.trans b7.symm⟩
section
variable {tab:FuncId->Option AF} (T:HasA tab)
include T
theorem MQ{M:Mem}{K:PV->Mem->Prop}{f o:Bool}{ms:List Ms}{fn:FuncId}{cap:List PV}(p:Ms->Bool)(hb:ms.length<1000000000000)
    (hf:∀x∈ms,∀K':PV->Mem->Prop,K' (.bool (p x)) M->SemC tab fn (.agg (msC x)::cap) M K') (hk:∀i:Int,(0<=i↔∃x∈ms,p x=true)->K (p64 i) M):
    SemC tab 270 [slM f o ms,.func (.func fn) [] cap] M K:=by
  refine aT T.h270 ?_;simp only[af270,PP,simprocAttr];refine iX (fun(k:Nat)=>k<=ms.length/\∀(j:Nat) (x:Ms),j<k->ms[j]? =some x->p x=false) (fun k=>(slM f o ms:: .func (.func fn) [] cap::zj 5++p64 ms.length::p64 k::zj 10)) (fun k=>M) (fun k=>ms.length-k) 0 ⟨by omega,fun j x h=>by omega⟩ (by simp only[PW]) rfl ?_;intro k ⟨hle,hq⟩ ih;refine aM (by kernel_rfl) ?_;simp only[PP,simprocAttr];refine QIf.intro (fun c=>?_) (fun c=>?_)
  · have hk':k<ms.length:=by omega
    have h0:(0:Int)<=k:=by omega
    have hw:=aH (k:=k) (by show _<1000000000000;omega);obtain⟨x,e⟩:=aO hk';have q1:=fM e;have q2:=uK e;simp only[PP,simprocAttr,PN,c,h0,q1,q2];refine hf x (List.mem_of_getElem? e) _ ?_
    cases hp:p x with
    | true=>simp only[PP,simprocAttr];exact hk k ⟨fun _=>⟨x,List.mem_of_getElem? e,hp⟩,fun _=>h0⟩
    | false=>
      simp only[PP,simprocAttr,hw];refine aG (ih (k+1) ⟨by omega,fun j y hj hy=>?_⟩ (by omega)) (by simp only[PW]);by_cases e2:j=k
      · subst e2;rw[e]at hy;cases hy;exact hp
      · exact hq j y (by omega) hy
  · have hkn:k=ms.length:=by omega
    subst hkn;simp only[PP,simprocAttr,c];refine hk (-1) ⟨fun h=>absurd h (by decide),fun⟨x,hx,h⟩=>?_⟩;obtain⟨j,hj⟩:=List.getElem?_of_mem hx;rw[hq j x (aD hj) hj]at h;cases h
open Classical in
set_option maxHeartbeats 1000000 in
theorem aGs{M:Mem}{K:PV->Mem->Prop}{f1 o1 f2 o2 f3 o3 f4 o4 f o:Bool}{ow pr:List Int}{su:List (List Int)}{ms:List Ms}{v:Int}(B:Bnd ow pr su)(hb:ms.length<1000000000000)
    (hk:∀y e,LiftA ow pr su ms v y e->K (.tuple [.agg (msC y),p64 e]) M):
    SemC tab 266 [gmP f1 o1 f2 o2 f3 o3 f4 o4 ow pr su,slM f o ms,p64 v] M K:=by
  refine aE T.h266 (by simp only[PP,simprocAttr,PN,PV.under]) ?_;simp only[af266,PP,simprocAttr,PN];refine wC T B ?_;simp only[PP,simprocAttr];refine QIf.intro (fun c1=>?_) (fun c1=>?_);rotate_left
  · simp only[PP,simprocAttr,PN,c1];exact hk mz _ (.inl ⟨c1,rfl,rfl⟩)
  have V:=dP c1;have P:=nA V;simp only[PP,simprocAttr,PN,c1];refine nR T P ?_;simp only[PP,simprocAttr,PN];refine QIf.intro (fun c2=>?_) (fun c2=>?_);rotate_left
  · simp only[PP,simprocAttr,PN,c2];exact hk mz 2 (.inr (.inl ⟨c1,fun h=>c2 (by omega),rfl,rfl⟩))
  have hl:ms.length=ow.length:=by omega
  simp only[PP,simprocAttr,PN,c2];refine aT T.h267 ?_;simp only[af267,PP,simprocAttr,PN];refine MQ T (fun x=>decide ¬x.Ok (aQ pr)) hb (fun x hx K' hK'=>?_) (fun i hi=>?_)
  · refine zK ?_;refine aT T.h268 ?_;simp only[af268,PP,simprocAttr,PN];refine aB1 T P.1 (fun b hb=>?_);simp only[PP,simprocAttr,PN];refine⟨_,_,rfl,lD (by simp only[List.take_succ_cons,List.take_zero,List.all_cons,List.all_nil,aI,aP,aR,dX,eP,dQ,kW,vT,PV.under,qZ,Bool.and_self]),?_⟩;have e:(!b)=decide (¬x.Ok (aQ pr)):=by
      cases b with
      | true=>have h:=hb.1 rfl;simp[h]
      | false => have h : ¬ x.Ok (aQ pr) := fun q => (by have := hb.2 q; cases this)
                 simp [h]
    rw[e];exact hK'
  · simp only[PP,simprocAttr,PN];have hi2:0<=i↔¬∀x∈ms,x.Ok (aQ pr):=by
      rw[hi];constructor
      · rintro⟨x,hx,h⟩ q;exact(of_decide_eq_true h) (q x hx)
      · intro q;apply Classical.byContradiction;intro h;exact q fun x hx=>Classical.byContradiction fun h2=>h ⟨x,hx,decide_eq_true h2⟩
    refine QIf.intro (fun c3=>?_) (fun c3=>?_)
    · simp only[PP,simprocAttr,PN,c3];exact hk mz 1 (.inr (.inr (.inl ⟨c1,hl,hi2.1 c3,rfl,rfl⟩)))
    have S:StOk (aQ pr) ow.length ms:=⟨hl,Classical.byContradiction fun h=>c3 (hi2.2 h)⟩;simp only[PP,simprocAttr,PN,c3];refine QIf.intro (fun c4=>?_) (fun c4=>?_)
    · simp only[PP,simprocAttr,PN,c4];exact hk mz 8 (.inr (.inr (.inr (.inl ⟨c1,S,.inl c4,rfl,rfl⟩))))
    simp only[PP,simprocAttr,PN,c4,hl];refine QIf.intro (fun c5=>?_) (fun c5=>?_)
    · simp only[PP,simprocAttr,PN,c5];exact hk mz 8 (.inr (.inr (.inr (.inl ⟨c1,S,.inr c5,rfl,rfl⟩))))
    obtain⟨w,rfl⟩:∃w:Nat,v=w:=⟨v.toNat,by omega⟩;simp only[PP,simprocAttr,PN,c5];refine ZF T V B S (by omega) (fun y y1 y2=>?_);simp only[PP,simprocAttr,PN];exact hk y 0 (.inr (.inr (.inr (.inr ⟨c1,S,by omega,by omega,y1,y2,rfl⟩))))
end
theorem OC{tab:FuncId->Option AF}(id:Nat)(first args:List PV)(M:Mem)(K:PV->Mem->Prop):zO tab (.yld id first) args M K=((∃ver r,M[id]? =some (.loop ver r))/\JR tab id (first++args) M K):=rfl
theorem aAh{α:Type}(M:List α)(x:α):(M++[x])[M.length]? =some x:=by simp
theorem aEW{α:Type}(M:List α)(x y:α):(M++[x]).set M.length y=M++[y]:=by simp
theorem bY{α:Type}{M:List α}{i:Nat}{a:α}(h:M[i]? =some a)(l:List α):(M++l)[i]? =some a:=by rw[List.getElem?_append_left (aD h)];exact h
section
variable {tab:FuncId->Option AF} (T:HasA tab)
include T
set_option maxHeartbeats 1000000 in
theorem RE{M:Mem}{K:PV->Mem->Prop}{f1 o1 f2 o2 f3 o3 f4 o4:Bool}{ow pr:List Int}{su:List (List Int)}{L b2 b3 i:Nat}(V:Valid ow pr su)(B:Bnd ow pr su)(J:Nat->List Ms->Mem->Prop)(D:Mem->Prop){ms0:List Ms}(h0:J 0 ms0 M)
    (hid:∀k ms N,J k ms N->StOk (aQ pr) ow.length ms/\N[b3]? =some (.cells 0 0 [.ref i 0 9 0 ow.length])/\N[b2]? =some (.cells 0 0 [.cp (gT f1 o1 f2 o2 f3 o3 f4 o4 ow pr su) 0])/\(∃ver,N[i]? =some (.cells 0 ver (msL ms)))/\∃ver r,N[L]? =some (.loop ver r))
    (hskip:∀k ms N o,J k ms N->k<ow.length->gL ow pr su (Nf (aQ pr) ms) k<=Nf (aQ pr) ms k->J (k+1) ms (N++[o]))
    (hy:∀k ms N y,J k ms N->k<ow.length->y.Ok (aQ pr)->y.num (aQ pr)=gL ow pr su (Nf (aQ pr) ms) k->Nf (aQ pr) ms k<gL ow pr su (Nf (aQ pr) ms) k->∀K':PV->Mem->Prop,(∀ms' N',J (k+1) ms' N'->K' (.bool true) N')->(∀N',D N'->K' (.bool false) N')->JR tab L [p64 k,.agg (msC y)] (N++[.cells 0 1 (msC y)]) K')
    (hk1:∀ms N,J ow.length ms N->K (.tuple []) N) (hk2:∀N,D N->K (.tuple []) N):
    SemC tab 189 [.yld L [],.ptr b3 0 0,.ptr b2 0 0] M K:=by
  have n1:=V.n1;refine aT T.h189 ?_;obtain⟨_,p1,_,⟨_,p3⟩,_⟩:=hid 0 ms0 M h0;simp only[af189,PP,simprocAttr,PN,p1,p3];refine nV (fun(k:Nat) (ms:List Ms) (N:Mem)=>k<=ow.length/\J k ms N) (fun k ms N=>(.yld L []:: .ptr b3 0 0:: .ptr b2 0 0::zj 4++p64 ow.length::p64 k::zj 21)) (fun k ms N=>N) (fun k _ _=>ow.length-k) 0 ms0 M ⟨by omega,h0⟩ (by simp only[PW]) rfl ?_;intro k ms N ⟨hle,hJ⟩ ih;obtain⟨hm,q1,q2,⟨ver,q3⟩,q4⟩:=hid k ms N hJ;have hml:=hm.l;refine aM (by kernel_rfl) ?_;simp only[PP,simprocAttr];refine QIf.intro (fun c=>?_) (fun c=>?_)
  · have hk':k<ow.length:=by omega
    have k0:(0:Int)<=k:=by omega
    have kn:(k:Int)<ow.length:=by omega
    have hwk:=aH (k:=k) (by show _<1000000000000;omega);obtain⟨x,g5⟩:=aO (xs:=ms) (k:=k) (by omega);have eN:Nf (aQ pr) ms k=x.num (aQ pr):=sL g5;have hx:=hm.ok x (List.mem_of_getElem? g5);have r1:=fM g5;have r2:=uK g5;have bor:PBor N [.cp (gT f1 o1 f2 o2 f3 o3 f4 o4 ow pr su) 0,.ref i 0 9 0 ow.length,p64 k] [.cp (gT f1 o1 f2 o2 f3 o3 f4 o4 ow pr su) 0,slM true false ms,p64 k]:=by
      refine .same (by simp only[PV.under];exact qZ _) ?_;rw[<-hml];exact .ref q3 (by rw[jA];omega) (cM _ _) (by rw[eZ]) (.same rfl .nil)
    simp only[PP,simprocAttr,PN,c,q1,q2];refine sI bor (ZF T V B hm hk' fun y y1 y2=>⟨by simp only[PV.flat,PV.flatA,rH],?_⟩);simp only[PP,simprocAttr,PN,aAh,aEW,bY q1,bY q3,k0,kn,r1,r2];refine lL T ?_;rw[wB y1 hx];simp only[PP,simprocAttr,PN];refine QIf.intro (fun d=>?_) (fun d=>?_)
    · have d':=d;rw[oB]at d';simp only[PP,simprocAttr,PN,d,aAh,OC];refine⟨⟨_,_,bY q4.choose_spec.choose_spec _⟩,hy k ms N y hJ hk' y1 y2 (by rw[eN];have:=y2;omega) _ (fun ms' N' hJ'=>?_) fun N' hD=>?_⟩
      · simp only[PP,simprocAttr,hwk];exact aG (ih (k+1) ms' N' ⟨by omega,hJ'⟩ (by omega)) (by simp only[PW])
      · simp only[PP,simprocAttr];exact hk2 N' hD
    · have d':=d;rw[oB]at d';simp only[PP,simprocAttr,PN,d,hwk];exact aG (ih (k+1) ms _ ⟨by omega,hskip k ms N _ hJ hk' (by rw[eN];have:=y2;omega)⟩ (by omega)) (by simp only[PW])
  · have hkn:k=ow.length:=by omega
    subst hkn;simp only[PP,simprocAttr,c];exact hk1 ms N hJ
end
end Go.Am.Ar

