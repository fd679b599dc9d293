/- Plain law: progress measures as numbers, and the least one, and what goes with it. -/
import Derived.Test.YtapbgleednkimaaGreatDoorBudgetDividedG3
import Derived.Test.YtapbgleednkimaaGreatDoorPmC
import Derived.Test.YtapbgleednkimaaGreatDoorBudgetDividedG0
set_option linter.unusedVariables false
namespace Go.Am.Ar
open Go.Am.PV renaming junk->Zj
def mT:List Nat->Nat
 | []=>1
 | n::ns=>(n+1)*mT ns
def mr:List Nat->List Int->Nat
 | n::ns,c::cs=>c.toNat+(n+1)*mr ns cs
 | _,_=>0
def mOk:List Nat->List Int->Prop
 | n::ns,c::cs=>0<=c/\c<=n/\mOk ns cs
 | [],[]=>True
 | _,_=>False
theorem VP:∀ns:List Nat,0<mT ns
 | []=>by decide
 | n::ns=>Nat.mul_pos (Nat.succ_pos _) (VP ns)
theorem N5:∀{ns:List Nat} {cs:List Int},mOk ns cs->cs.length=ns.length
 | [],[],_=>rfl
 | n::ns,c::cs,h=>by simp[N5 h.2.2]
 | [],_::_,h=>h.elim
 | _::_,[],h=>h.elim
theorem CN:∀{ns:List Nat} {cs:List Int},mOk ns cs->mr ns cs<mT ns
 | [],[],_=>by decide
 | n::ns,c::cs,⟨h0,h1,h2⟩=>by
  have:=CN h2
  have h3:(n+1)*(mr ns cs+1)<=(n+1)*mT ns:=Nat.mul_le_mul_left _ this
  rw[Nat.mul_add]at h3
  show c.toNat+(n+1)*mr ns cs<(n+1)*mT ns
  omega
 | [],_::_,h=>h.elim
 | _::_,[],h=>h.elim
theorem VK:∀{ns:List Nat} {cs ds:List Int},mOk ns cs->mOk ns ds->mr ns cs=mr ns ds->cs=ds
 | [],[],[],_,_,_=>rfl
 | n::ns,c::cs,d::ds,⟨h0,h1,h2⟩,⟨g0,g1,g2⟩,e=>by
  have e:c.toNat+(n+1)*mr ns cs=d.toNat+(n+1)*mr ns ds:=e
  have e1:=congrArg (· % (n+1)) e
  simp only[Nat.add_mul_mod_self_left]at e1
  rw[Nat.mod_eq_of_lt (by omega),Nat.mod_eq_of_lt (by omega)]at e1
  have e2:(n+1)*mr ns cs=(n+1)*mr ns ds:=by omega
  have e3:=Nat.eq_of_mul_eq_mul_left (Nat.succ_pos n) e2
  rw[VK h2 g2 e3,show c=d by omega]
 | [],_::_,_,h,_,_=>h.elim
 | _::_,[],_,h,_,_=>h.elim
 | [],[],_::_,_,h,_=>h.elim
 | _::_,_::_,[],_,h,_=>h.elim
theorem VQ:∀{ns:List Nat} {cs:List Int},cs.length=ns.length->(∀(u:Nat) (c:Int) (n:Nat),cs[u]? =some c->ns[u]? =some n->0<=c/\c<=n)->mOk ns cs
 | [],[],_,_=>trivial
 | n::ns,c::cs,hl,h=>⟨(h 0 c n rfl rfl).1,(h 0 c n rfl rfl).2,VQ (by simpa using hl) fun u c n h1 h2=>h (u+1) c n (by simpa using h1) (by simpa using h2)⟩
 | [],_::_,h,_=>by simp at h
 | _::_,[],h,_=>by simp at h
theorem N6:∀{ns:List Nat} {cs:List Int},mOk ns cs->∀{u:Nat} {c:Int} {n:Nat},cs[u]? =some c->ns[u]? =some n->0<=c/\c<=n
 | n::ns,c::cs,⟨h0,h1,h2⟩,0,x,y,hx,hy=>by simp at hx hy;subst hx;subst hy;exact⟨h0,h1⟩
 | n::ns,c::cs,⟨h0,h1,h2⟩,u+1,x,y,hx,hy=>N6 h2 (by simpa using hx) (by simpa using hy)
 | [],[],_,_,_,_,hx,_=>by simp at hx
 | [],_::_,h,_,_,_,_,_=>h.elim
 | _::_,[],h,_,_,_,_,_=>h.elim
def mB (ns:List Nat) (q:Nat):Nat:=mT (ns.take q)
theorem VS (ns:List Nat) (q:Nat):0<mB ns q:=VP _
theorem o9:∀(ns:List Nat) (q:Nat),mT ns=mB ns q*mT (ns.drop q)
 | ns,0=>by simp[mB,mT]
 | [],q+1=>by simp[mB,mT]
 | n::ns,q+1=>by
  have h:=o9 ns q
  show(n+1)*mT ns=(n+1)*mT (ns.take q)*mT (ns.drop q)
  rw[h,Nat.mul_assoc];rfl
theorem aAg {ns:List Nat} {q n:Nat} (h:ns[q]? =some n):mB ns (q+1)=mB ns q*(n+1):=by
 induction ns generalizing q with
 | nil=>simp at h
 | cons a ns ih=>
  cases q with
  | zero=>simp at h;subst h;simp[mB,mT]
  | succ q=>
   have:=ih (q:=q) (by simpa using h)
   show(a+1)*mB ns (q+1)=(a+1)*mB ns q*(n+1)
   rw[this,Nat.mul_assoc]
theorem sF:∀{ns:List Nat} {cs:List Int} (q:Nat),mOk ns cs->mOk (ns.drop q) (cs.drop q)
 | ns,cs,0,h=>by simpa using h
 | [],[],q+1,h=>by simpa using h
 | n::ns,c::cs,q+1,h=>by simpa using sF q h.2.2
 | [],_::_,_+1,h=>h.elim
 | _::_,[],_+1,h=>h.elim
theorem EN:∀{ns:List Nat} {cs:List Int} (q:Nat),mOk ns cs->mr ns cs / mB ns q=mr (ns.drop q) (cs.drop q)
 | ns,cs,0,h=>by simp[mB,mT]
 | [],[],q+1,h=>by simp[mB,mT,mr]
 | n::ns,c::cs,q+1,⟨h0,h1,h2⟩=>by
  show(c.toNat+(n+1)*mr ns cs) / ((n+1)*mB ns q)=mr (ns.drop q) (cs.drop q)
  rw[<-Nat.div_div_eq_div_mul,Nat.add_mul_div_left _ _ (Nat.succ_pos n),Nat.div_eq_of_lt (show c.toNat<n.succ by show c.toNat<n+1;omega),Nat.zero_add,EN q h2]
 | [],_::_,_+1,h=>h.elim
 | _::_,[],_+1,h=>h.elim
theorem yK:∀(q:Nat) {ns:List Nat} {ds:List Int},ds.length+q=ns.length->mr ns (List.replicate q 0++ds)=mB ns q*mr (ns.drop q) ds
 | 0,ns,ds,h=>by simp[mB,mT]
 | q+1,[],ds,h=>by simp at h
 | q+1,n::ns,ds,h=>by
  show(0:Int).toNat+(n+1)*mr ns (List.replicate q 0++ds)=(n+1)*mB ns q*mr (ns.drop q) ds
  rw[yK q (by simp at h;omega),Nat.mul_assoc];simp
theorem tV:∀(q:Nat) {ns:List Nat} {ds:List Int},q<=ns.length->mOk (ns.drop q) ds->mOk ns (List.replicate q 0++ds)
 | 0,ns,ds,_,h=>by simpa using h
 | q+1,[],ds,h,_=>by simp at h
 | q+1,n::ns,ds,h,h2=>⟨by decide,by omega,tV q (by simpa using h) (by simpa using h2)⟩
structure Ms where
 top:Bool
 c:List Int
 h:c.length=8
def Ms.Ok (ns:List Nat) (x:Ms):Prop:=mOk ns x.c/\(x.top=true->x.c=List.replicate 8 0)
def Ms.num (ns:List Nat) (x:Ms):Nat:=if x.top=true then mT ns else mr ns x.c
def mz:Ms:=⟨false,List.replicate 8 0,by simp⟩
def mtop:Ms:=⟨true,List.replicate 8 0,by simp⟩
theorem Ms.ext' {x y:Ms} (h1:x.top=y.top) (h2:x.c=y.c):x=y:=by
 cases x;cases y;cases h1;cases h2;rfl
theorem EP:∀(ns:List Nat),mOk ns (List.replicate ns.length 0)
 | []=>trivial
 | n::ns=>⟨by decide,by omega,EP ns⟩
theorem VJ:∀(ns:List Nat) (k:Nat),mr ns (List.replicate k 0)=0
 | [],k=>by simp[mr]
 | n::ns,0=>by simp[mr]
 | n::ns,k+1=>by
  show(0:Int).toNat+(n+1)*mr ns (List.replicate k 0)=0
  rw[VJ ns k];simp
section
variable {ns:List Nat}
theorem Ms.num_le {x:Ms} (h:x.Ok ns):x.num ns<=mT ns:=by
 unfold Ms.num
 split
 ·exact Nat.le_refl _
 ·exact Nat.le_of_lt (CN h.1)
theorem Ms.num_top {x:Ms} (h:x.Ok ns):x.num ns=mT ns↔x.top=true:=by
 unfold Ms.num
 split
 ·rename_i e;simp[e]
 ·rename_i e;have:=CN h.1;simp[e];omega
theorem Ms.inj {x y:Ms} (hx:x.Ok ns) (hy:y.Ok ns) (e:x.num ns=y.num ns):x=y:=by
 have h1:=Ms.num_top hx
 have h2:=Ms.num_top hy
 rw[e]at h1
 have h3:x.top=true↔y.top=true:=h1.symm.trans h2
 cases hxt:x.top with
 | true=>
  have hyt:=h3.1 hxt
  exact Ms.ext' (by rw[hxt,hyt]) (by rw[hx.2 hxt,hy.2 hyt])
 | false=>
  have hyt:y.top=false:=by
   cases q:y.top with
   | true=>rw[h3.2 q]at hxt;cases hxt
   | false=>rfl
  refine Ms.ext' (by rw[hxt,hyt]) (VK hx.1 hy.1 ?_)
  simpa [Ms.num,hxt,hyt] using e
theorem aDC (h:ns.length=8):mz.Ok ns:=⟨by show mOk ns (List.replicate 8 0);rw[<-h];exact EP ns,fun h=>by cases h⟩
theorem N4 (h:ns.length=8):mtop.Ok ns:=⟨by show mOk ns (List.replicate 8 0);rw[<-h];exact EP ns,fun _=>rfl⟩
theorem VE:mz.num ns=0:=by
 show(if false=true then _ else mr ns (List.replicate 8 0))=0
 rw[if_neg (by decide),VJ]
theorem VF:mtop.num ns=mT ns:=if_pos rfl
end
def l8 (a b:Int):Int:=if a<b then-1 else if b<a then 1 else 0
def mO:List Int->List Int->Int
 | c::cs,d::ds=>if mO cs ds=0 then l8 c d else mO cs ds
 | _,_=>0
def BF (x y:Ms):Int:=if x.top=true then(if y.top=true then 0 else 1) else if y.top=true then-1 else mO x.c y.c
theorem pX {a b:Int} (h:a<b):l8 a b= -1:=if_pos h
theorem pY {a b:Int} (h:b<a):l8 a b=1:=by unfold l8;rw[if_neg (by omega),if_pos h]
theorem uD (a:Int):l8 a a=0:=by simp[l8]
theorem uC {a b:Int} :l8 a b=0↔a=b:=by
 unfold l8;split
 ·constructor<;>intro h<;>omega
 ·split<;>constructor<;>intro h<;>omega
theorem C4:∀{cs ds:List Int} (k:Nat),mO (cs.drop k) (ds.drop k)≠0->mO cs ds=mO (cs.drop k) (ds.drop k)
 | cs,ds,0,_=>by simp
 | [],ds,k+1,h=>by simp[mO]at h
 | _::_,[],k+1,h=>by simp[mO]at h
 | c::cs,d::ds,k+1,h=>by
  have h:mO (cs.drop k) (ds.drop k)≠0:=h
  have:=C4 k h
  show(if mO cs ds=0 then l8 c d else mO cs ds)=mO (cs.drop k) (ds.drop k)
  rw[if_neg (by rw[this];exact h),this]
theorem aAJ {cs ds:List Int} {k:Nat} {c d:Int} (hc:cs[k]? =some c) (hd:ds[k]? =some d) (h:mO (cs.drop (k+1)) (ds.drop (k+1))=0):mO (cs.drop k) (ds.drop k)=l8 c d:=by
 obtain⟨h1,e1⟩:=List.getElem?_eq_some_iff.1 hc
 obtain⟨h2,e2⟩:=List.getElem?_eq_some_iff.1 hd
 rw[List.drop_eq_getElem_cons h1,List.drop_eq_getElem_cons h2]
 show(if mO _ _=0 then _ else _)=_
 rw[if_pos h,e1,e2]
theorem WV:∀{ns:List Nat} {cs ds:List Int},mOk ns cs->mOk ns ds->mO cs ds=l8 (mr ns cs) (mr ns ds)
 | [],[],[],_,_=>by simp[mO,l8,mr]
 | n::ns,c::cs,d::ds,⟨h0,h1,h2⟩,⟨g0,g1,g2⟩=>by
  have ih:=WV h2 g2
  show(if mO cs ds=0 then l8 c d else mO cs ds)=l8 ((c.toNat+(n+1)*mr ns cs:Nat):Int) ((d.toNat+(n+1)*mr ns ds:Nat):Int)
  rw[ih]
  split
  ·rename_i e
   rw[uC]at e
   have e:mr ns cs=mr ns ds:=by omega
   rw[e]
   rcases Int.lt_trichotomy c d with q | q | q
   ·rw[pX q,pX (by omega)]
   ·rw[q,uD,uD]
   ·rw[pY q,pY (by omega)]
  ·rename_i e
   rw[uC]at e
   by_cases q1:mr ns cs<mr ns ds
   ·have:=Nat.mul_le_mul_left (n+1) (show mr ns cs+1<=mr ns ds by omega)
    rw[Nat.mul_add]at this
    rw[pX (by omega),pX (by omega)]
   ·have:=Nat.mul_le_mul_left (n+1) (show mr ns ds+1<=mr ns cs by omega)
    rw[Nat.mul_add]at this
    rw[pY (by omega),pY (by omega)]
 | [],_::_,_,h,_=>h.elim
 | _::_,[],_,h,_=>h.elim
 | [],[],_::_,_,h=>h.elim
 | _::_,_::_,[],_,h=>h.elim
theorem wU {ns:List Nat} {x y:Ms} (hx:x.Ok ns) (hy:y.Ok ns):BF x y=l8 (x.num ns) (y.num ns):=by
 have h1:=CN hx.1
 have h2:=CN hy.1
 unfold BF Ms.num
 split
 ·split
  ·rw[uD]
  ·rw[pY (by omega)]
 ·split
  ·rw[pX (by omega)]
  ·exact WV hx.1 hy.1
theorem pG {a b:Int} :0<l8 a b↔b<a:=by
 unfold l8;split
 ·constructor<;>intro h<;>omega
 ·split<;>constructor<;>intro h<;>omega
theorem I1 {a b:Int} :l8 a b<0↔a<b:=by
 unfold l8;split
 ·constructor<;>intro h<;>omega
 ·split<;>constructor<;>intro h<;>omega
def vN (ns:List Nat) (p x:Nat):Nat:=min (mT ns) ((x / mB ns (p / 2)+p % 2)*mB ns (p / 2))
section
variable {ns:List Nat}
theorem aBs (p x:Nat):vN ns p x<=mT ns:=Nat.min_le_left _ _
theorem NK {p x y:Nat} (h:x<=y):vN ns p x<=vN ns p y:=by
 unfold vN
 have h1:=Nat.div_le_div_right (c:=mB ns (p / 2)) h
 have h2:=Nat.mul_le_mul_right (mB ns (p / 2)) (Nat.add_le_add_right h1 (p % 2))
 omega
theorem aBM (p:Nat):vN ns p (mT ns)=mT ns:=by
 unfold vN
 have h:=o9 ns (p / 2)
 have e:mT ns / mB ns (p / 2)=mT (ns.drop (p / 2)):=by
  rw[h,Nat.mul_div_cancel_left _ (VS _ _)]
 rw[e,Nat.add_mul,Nat.mul_comm (mT (ns.drop (p / 2)))]
 omega
theorem IY {q x:Nat} (h:x<mT ns):x / mB ns q<mT (ns.drop q):=by
 rw[Nat.div_lt_iff_lt_mul (VS _ _),Nat.mul_comm,<-o9];exact h
theorem TC {p x:Nat} (h:x<mT ns):vN ns p x=(x / mB ns (p / 2)+p % 2)*mB ns (p / 2):=by
 unfold vN
 have h1:=IY (q:=p / 2) h
 have h2:(x / mB ns (p / 2)+p % 2)*mB ns (p / 2)<=mT (ns.drop (p / 2))*mB ns (p / 2):=Nat.mul_le_mul_right _ (by have:=Nat.mod_lt p (show 0<2 by decide);omega)
 rw[Nat.mul_comm (mT _),<-o9]at h2
 omega
theorem jU {α:Type} {l:List α} {q:Nat} {x:α} (h:l[q]? =some x):l.drop q=x::l.drop (q+1):=by
 obtain⟨h1,e⟩:=List.getElem?_eq_some_iff.1 h
 rw[List.drop_eq_getElem_cons h1,e]
end
def FQ (f:Nat->Nat):List Nat->Nat
 | []=>0
 | [a]=>f a
 | a::b::l=>min (f a) (FQ f (b::l))
def DH (f:Nat->Nat):List Nat->Nat
 | []=>0
 | a::l=>max (f a) (DH f l)
theorem rK {f:Nat->Nat} :∀{l:List Nat},l≠[]->∃u∈l,FQ f l=f u
 | [],h=>absurd rfl h
 | [a],_=>⟨a,by simp,rfl⟩
 | a::b::l,_=>by
  obtain⟨u,h1,h2⟩:=rK (f:=f) (l:=b::l) (by simp)
  show ∃u∈a::b::l,min (f a) (FQ f (b::l))=f u
  rcases Nat.le_total (f a) (FQ f (b::l)) with h | h
  ·exact⟨a,by simp,Nat.min_eq_left h⟩
  ·exact⟨u,List.mem_cons_of_mem _ h1,by rw[Nat.min_eq_right h,h2]⟩
theorem DE {f:Nat->Nat} :∀{l:List Nat} {u:Nat},u∈l->FQ f l<=f u
 | [a],u,h=>by rw[List.mem_singleton]at h;subst h;exact Nat.le_refl _
 | a::b::l,u,h=>by
  show min (f a) (FQ f (b::l))<=f u
  rcases List.mem_cons.1 h with e | h
  ·subst e;exact Nat.min_le_left _ _
  ·exact Nat.le_trans (Nat.min_le_right _ _) (DE h)
theorem rL {f:Nat->Nat} :∀{l:List Nat},l≠[]->∃u∈l,DH f l=f u
 | [],h=>absurd rfl h
 | [a],_=>⟨a,by simp,by simp[DH]⟩
 | a::b::l,_=>by
  obtain⟨u,h1,h2⟩:=rL (f:=f) (l:=b::l) (by simp)
  show ∃u∈a::b::l,max (f a) (DH f (b::l))=f u
  rcases Nat.le_total (f a) (DH f (b::l)) with h | h
  ·exact⟨u,List.mem_cons_of_mem _ h1,by rw[Nat.max_eq_right h,h2]⟩
  ·exact⟨a,by simp,Nat.max_eq_left h⟩
theorem DG {f:Nat->Nat} :∀{l:List Nat} {u:Nat},u∈l->f u<=DH f l
 | a::l,u,h=>by
  show f u<=max (f a) (DH f l)
  rcases List.mem_cons.1 h with e | h
  ·subst e;exact Nat.le_max_left _ _
  ·exact Nat.le_trans (DG h) (Nat.le_max_right _ _)
theorem Y9 {f:Nat->Nat} {l:List Nat} {y:Nat} (h1:∃u∈l,y=f u) (h2:∀u∈l,y<=f u):y=FQ f l:=by
 obtain⟨u,hu,e⟩:=h1
 obtain⟨w,hw,e2⟩:=rK (f:=f) (l:=l) (fun q=>by rw[q]at hu;cases hu)
 have:=DE (f:=f) hu
 have:=h2 w hw
 omega
theorem ZA {f:Nat->Nat} {l:List Nat} {y:Nat} (h1:∃u∈l,y=f u) (h2:∀u∈l,f u<=y):y=DH f l:=by
 obtain⟨u,hu,e⟩:=h1
 obtain⟨w,hw,e2⟩:=rL (f:=f) (l:=l) (fun q=>by rw[q]at hu;cases hu)
 have:=DG (f:=f) hu
 have:=h2 w hw
 omega
def lN (ns:List Nat) (O:Nat->Int) (S:Nat->List Nat) (R:Nat->Int) (m:Nat->Nat) (v:Nat):Nat:=
 if O v=0 then FQ (fun u=>vN ns (R v).toNat (m u)) (S v) else DH (fun u=>vN ns (R v).toNat (m u)) (S v)
def nR (m:Nat->Nat) (v x:Nat):Nat->Nat:=fun u=>if u=v then x else m u
structure Lft (n T:Nat) (L:(Nat->Nat)->Nat->Nat):Prop where
 bnd:∀m v,v<n->L m v<=T
 mono:∀m m' v,v<n->(∀u,u<n->m u<=m' u)->L m v<=L m' v
def uM (n:Nat) (L:(Nat->Nat)->Nat->Nat) (m:Nat->Nat):Prop:=∀v,v<n->L m v<=m v
structure LI (n T:Nat) (L:(Nat->Nat)->Nat->Nat) (m:Nat->Nat):Prop where
 bnd:∀v,v<n->m v<=T
 up:∀v,v<n->m v<=L m v
 low:∀m',uM n L m'->∀v,v<n->m v<=m' v
theorem aCp {n:Nat} {ns:List Nat} {O:Nat->Int} {S:Nat->List Nat} {R:Nat->Int} (hS:∀v,v<n->S v≠[]/\∀u∈S v,u<n):Lft n (mT ns) (lN ns O S R) where
 bnd:=fun m v hv=>by
  unfold lN
  split
  ·obtain⟨u,_,e⟩:=rK (f:=fun u=>vN ns (R v).toNat (m u)) (hS v hv).1
   rw[e];exact aBs _ _
  ·obtain⟨u,_,e⟩:=rL (f:=fun u=>vN ns (R v).toNat (m u)) (hS v hv).1
   rw[e];exact aBs _ _
 mono:=fun m m' v hv h=>by
  unfold lN
  split
  ·obtain⟨u,hu,e⟩:=rK (f:=fun u=>vN ns (R v).toNat (m' u)) (hS v hv).1
   rw[e]
   exact Nat.le_trans (DE hu) (NK (h u ((hS v hv).2 u hu)))
  ·obtain⟨u,hu,e⟩:=rL (f:=fun u=>vN ns (R v).toNat (m u)) (hS v hv).1
   rw[e]
   exact Nat.le_trans (NK (h u ((hS v hv).2 u hu))) (DG (f:=fun u=>vN ns (R v).toNat (m' u)) hu)
section
variable {n T:Nat} {L:(Nat->Nat)->Nat->Nat} {m:Nat->Nat}
theorem LI.zero (hL:Lft n T L):LI n T L fun _=>0:=⟨fun _ _=>Nat.zero_le _,fun _ _=>Nat.zero_le _,fun _ _ _ _=>Nat.zero_le _⟩
theorem LI.step (hL:Lft n T L) (h:LI n T L m) {v:Nat} (hv:v<n):LI n T L (nR m v (L m v)):=by
 have le:∀u,u<n->m u<=nR m v (L m v) u:=fun u hu=>by
  unfold nR;split
  ·rename_i e;subst e;exact h.up u hu
  ·exact Nat.le_refl _
 refine⟨fun u hu=>?_,fun u hu=>?_,fun m' hm u hu=>?_⟩
 ·unfold nR;split
  ·exact hL.bnd _ _ hv
  ·exact h.bnd u hu
 ·have:=hL.mono m _ u hu le
  show(if u=v then L m v else m u)<=_
  split
  ·rename_i e;subst e;exact this
  ·exact Nat.le_trans (h.up u hu) this
 ·unfold nR;split
  ·rename_i e;subst e
   exact Nat.le_trans (hL.mono m m' u hu (h.low m' hm)) (hm u hu)
  ·exact h.low m' hm u hu
def rQ:Nat->(Nat->Nat)->Nat
 | 0,_=>0
 | n+1,m=>rQ n m+m n
theorem NP:∀{n:Nat} {m:Nat->Nat},(∀v,v<n->m v<=T)->rQ n m<=n*T
 | 0,_,_=>by simp[rQ]
 | n+1,m,h=>by
  have:=NP (n:=n) (m:=m) (fun v hv=>h v (by omega))
  have:=h n (by omega)
  show rQ n m+m n<=(n+1)*T
  rw[Nat.add_mul];omega
theorem xG:∀{n:Nat} {m m':Nat->Nat},(∀v,v<n->m v=m' v)->rQ n m=rQ n m'
 | 0,_,_,_=>rfl
 | n+1,m,m',h=>by
  show rQ n m+m n=rQ n m'+m' n
  rw[xG (fun v hv=>h v (by omega)),h n (by omega)]
theorem F2:∀{n:Nat} {m:Nat->Nat} {v x:Nat},v<n->m v<x->rQ n m<rQ n (nR m v x)
 | 0,_,_,_,h,_=>by omega
 | n+1,m,v,x,h,hx=>by
  show rQ n m+m n<rQ n (nR m v x)+nR m v x n
  by_cases e:v=n
  ·subst e
   rw[xG (n:=v) (m:=nR m v x) (m':=m) (fun u hu=>by unfold nR;rw[if_neg (by omega)])]
   unfold nR;rw[if_pos rfl];omega
  ·have:=F2 (n:=n) (m:=m) (v:=v) (x:=x) (by omega) hx
   have e2:nR m v x n=m n:=by unfold nR;rw[if_neg (by omega)]
   omega
def FstN (n:Nat) (L:(Nat->Nat)->Nat->Nat) (m:Nat->Nat) (v:Nat):Prop:=v<n/\m v<L m v/\∀u,u<v->L m u<=m u
theorem FstN.eq {v u:Nat} (h:FstN n L m v) (k:FstN n L m u):v=u:=by
 rcases Nat.lt_trichotomy v u with q | q | q
 ·have:=k.2.2 v q;have:=h.2.1;omega
 ·exact q
 ·have:=h.2.2 u q;have:=k.2.1;omega
open Classical in
noncomputable def rU (n:Nat) (L:(Nat->Nat)->Nat->Nat) (m:Nat->Nat):Nat->Nat:=
 if h:∃v,FstN n L m v then nR m (Classical.choose h) (L m (Classical.choose h)) else m
theorem rT {v:Nat} (h:FstN n L m v):rU n L m=nR m v (L m v):=by
 unfold rU
 have q:∃v,FstN n L m v:=⟨v,h⟩
 rw[dif_pos q,(Classical.choose_spec q).eq h]
theorem TM (h:uM n L m):rU n L m=m:=by
 unfold rU
 rw[dif_neg]
 rintro⟨v,h1,h2,_⟩
 have:=h v h1;omega
noncomputable def itN (n:Nat) (L:(Nat->Nat)->Nat->Nat):Nat->Nat->Nat
 | 0=>fun _=>0
 | k+1=>rU n L (itN n L k)
theorem WE (hL:Lft n T L):∀k,LI n T L (itN n L k)
 | 0=>LI.zero hL
 | k+1=>by
  have ih:=WE hL k
  by_cases h:∃v,FstN n L (itN n L k) v
  ·obtain⟨v,hv⟩:=h
   show LI n T L (rU n L (itN n L k))
   rw[rT hv];exact ih.step hL hv.1
  ·show LI n T L (rU n L (itN n L k))
   unfold rU;rw[dif_neg h];exact ih
theorem OD {k:Nat} (h:uM n L (itN n L k)):∀d,itN n L (k+d)=itN n L k
 | 0=>rfl
 | d+1=>by
  show rU n L (itN n L (k+d))=_
  rw[OD h d,TM h]
end
set_option linter.unusedSimpArgs false
set_option maxRecDepth 10000
def msC (x:Ms):List PV:=PV.bool x.top::x.c.map (PV.int .i64)
def msL (l:List Ms):List PV:=l.flatMap msC
def dS (pr:List Int):List Nat:=vT 8 fun k=>pr.count ((2*k+1:Nat):Int)
def kR (l:List Nat):List PV:=l.map fun(n:Nat)=>p64 n
def kY (f1 o1 f2 o2 f3 o3 f4 o4:Bool) (ow pr:List Int) (su:List (List Int)):List PV:=slI f1 o1 .u8 ow::slI f2 o2 .i64 pr::slR f3 o3 f4 o4 .i64 su::kR (dS pr)
abbrev slM (f o:Bool) (l:List Ms):PV:= .sl f o 9 l.length (msL l)
def Ms.put (x:Ms) (k:Nat) (c:Int):Ms:=⟨x.top,x.c.set k c,by simp[x.h]⟩
theorem cC (x:Ms):(msC x).length=9:=by simp[msC,x.h]
theorem nA (pr:List Int):(dS pr).length=8:=oU _ _
theorem bW (pr:List Int):(kR (dS pr)).length=8:=by simp[kR,nA]
theorem cI (x:Ms):(msC x).all PV.one=true:=by simp[msC,PV.one]
theorem b9 (l:List Nat):(kR l).all PV.one=true:=by simp[kR,PV.one]
theorem cG (m:Nat) (x:Ms):cE m (msC x)=true:=by
 unfold msC;rw[iG,dI];simp[PV.under]
theorem bX (m:Nat) (l:List Nat):cE m (kR l)=true:=by
 unfold kR;exact gC _ _ (fun _=>by simp[PV.under]) _
theorem dJ (x:Ms):(msC x)[0]? =some (.bool x.top):=rfl
theorem LC {x:Ms} {k:Nat} {c:Int} (h:x.c[k]? =some c):(msC x)[1+k]? =some (p64 c):=by
 rw[Nat.add_comm];unfold msC;simp[h]
theorem EM (x:Ms) (k:Nat) (c:Int):(msC x).set (1+k) (p64 c)=msC (x.put k c):=by
 rw[Nat.add_comm];unfold msC Ms.put;simp[List.map_set]
theorem bY (x:Ms):dW (msC x) 0 9=msC x:=dQ _ _ (cC x).symm
theorem bL (pr:List Int):dW (kR (dS pr)) 0 8=kR (dS pr):=dQ _ _ (bW pr).symm
theorem G3 {a b:List PV} (h:a.length=b.length) (h2:2<=b.length):mC a 0 b=b:=by
 match b,h2 with
 | x::y::l,_=>
  show a.take 0++(x::y::l)++a.drop (0+(x::y::l).length)=x::y::l
  rw[List.drop_of_length_le (by rw[h];simp)];simp
theorem bM (x y:Ms):mC (msC y) 0 (msC x)=msC x:=G3 (by rw[cC,cC]) (by rw[cC];decide)
def aAi:List Nat:=List.replicate 8 0
theorem z8:[p64 0,p64 0,p64 0,p64 0,p64 0,p64 0,p64 0,p64 0]=kR aAi:=rfl
theorem z9:PV.bool false::kR aAi=msC mz:=rfl
theorem z9t:(msC mz).set 0 (.bool true)=msC mtop:=rfl
theorem bG (pr:List Int):mC (kR aAi) 0 (kR (dS pr))=kR (dS pr):=G3 (by rw[bW];rfl) (by rw[bW];decide)
theorem N9 {l:List Nat} {k n:Nat} (h:l[k]? =some n):(kR l)[k]? =some (p64 n):=by unfold kR;simp[h]
theorem VY (l:List Nat) (k n:Nat):(kR l).set k (p64 n)=kR (l.set k n):=by unfold kR;simp[List.map_set]
section
variable {f1 o1 f2 o2 f3 o3 f4 o4:Bool} {ow pr:List Int} {su:List (List Int)}
theorem cU:(kY f1 o1 f2 o2 f3 o3 f4 o4 ow pr su)[0]? =some (slI f1 o1 .u8 ow):=rfl
theorem cT:(kY f1 o1 f2 o2 f3 o3 f4 o4 ow pr su)[1]? =some (slI f2 o2 .i64 pr):=rfl
theorem cR:(kY f1 o1 f2 o2 f3 o3 f4 o4 ow pr su)[2]? =some (slR f3 o3 f4 o4 .i64 su):=rfl
theorem NS {k n:Nat} (h:(dS pr)[k]? =some n):(kY f1 o1 f2 o2 f3 o3 f4 o4 ow pr su)[3+k]? =some (p64 n):=by
 rw[Nat.add_comm];exact N9 h
theorem bV (m:Nat):cE m (kY f1 o1 f2 o2 f3 o3 f4 o4 ow pr su)=true:=by
 unfold kY
 simp only[iG,hR,mR,bX,Bool.and_self]
end
theorem bO (cs:List PV) (o:Nat):eQ (.cp cs o)=[.cp cs o]:=(rfl)
theorem cV (cs:List PV) (o:Nat):PV.one (.cp cs o)=true:=(rfl)
theorem bP:(kR aAi).length=8:=rfl
theorem bN (n:Nat) (M:Mem) (x:Ms):gQ n M (msC x)=some (msC x):=kO (cG _ _)
theorem bH (n:Nat) (M:Mem) (l:List Nat):gQ n M (kR l)=some (kR l):=kO (bX _ _)
theorem cD (l:List Ms):(msL l).length=l.length*9:=by
 unfold msL
 induction l with
 | nil=>rfl
 | cons x l ih=>rw[List.flatMap_cons,List.length_append,ih,cC,List.length_cons,Nat.add_mul];omega
theorem cJ (l:List Ms):(msL l).all PV.one=true:=by
 unfold msL
 induction l with
 | nil=>rfl
 | cons x l ih=>rw[List.flatMap_cons,List.all_append,ih,cI];rfl
theorem cA (m:Nat) (l:List Ms):cE m (msL l)=true:=by
 unfold msL
 induction l with
 | nil=>exact jC _
 | cons x l ih=>rw[List.flatMap_cons,mK,ih,cG];rfl
theorem bK (m:Nat) (f o:Bool) (sz n:Nat) (l:List Ms):PV.under m (.sl f o sz n (msL l))=true:=by
 simp only[PV.under];exact cA m l
theorem aAc (l:List Ms) (x:Ms):msL l++msC x=msL (l++[x]):=by simp[msL]
theorem CM {l:List Ms} {k:Nat} {x:Ms} (h:l[k]? =some x):∃a b,msL l=a++msC x++b/\a.length=k*9/\(∀y,msL (l.set k y)=a++msC y++b):=by
 obtain⟨hk,e⟩:=List.getElem?_eq_some_iff.1 h
 refine⟨msL (l.take k),msL (l.drop (k+1)),?_,?_,fun y=>?_⟩
 ·conv=>lhs;rw[<-List.take_append_drop k l,List.drop_eq_getElem_cons hk,e]
  simp[msL]
 ·rw[cD];simp;omega
 ·rw[List.set_eq_take_append_cons_drop,if_pos hk]
  simp[msL]
theorem iY {l:List Ms} {k:Nat} {x:Ms} (h:l[k]? =some x):dW (msL l) (k*9) 9=msC x:=by
 obtain⟨a,b,h1,h2,_⟩:=CM h
 unfold dW
 rw[h1,<-h2,List.append_assoc,List.drop_left,List.take_left' (cC x)]
theorem CJ {l:List Ms} {k:Nat} (y:Ms) (h:k<l.length):mC (msL l) (k*9) (msC y)=msL (l.set k y):=by
 obtain⟨a,b,h1,h2,h3⟩:=CM (List.getElem?_eq_getElem h)
 rw[h3,h1,<-h2]
 have e:msC y=PV.bool y.top::y.c.map (PV.int .i64):=rfl
 have hl:(msC y).length=9:=cC y
 have hc:∃c cs,y.c.map (PV.int .i64)=c::cs:=by
  cases q:y.c.map (PV.int .i64) with
  | nil=>rw[e,q]at hl;simp at hl
  | cons c cs=>exact⟨c,cs,rfl⟩
 obtain⟨c,cs,q⟩:=hc
 have:mC (a++msC (l[k])++b) a.length (msC y)=(a++msC l[k]++b).take a.length++msC y++(a++msC l[k]++b).drop (a.length+(msC y).length):=by
  rw[e,q];rfl
 rw[this,hl,<-cC l[k],<-List.length_append,List.drop_left,List.append_assoc a,List.take_left' rfl]
theorem bZ (n:Nat):fF n (msC mz)=msL (List.replicate n mz):=by
 induction n with
 | zero=>rfl
 | succ n ih=>show msC mz++fF n (msC mz)=_;rw[ih,List.replicate_succ];rfl
theorem vC {l:List Ms} {k:Nat} {x:Ms} (h:l[k]? =some x):k*9+9<=l.length*9:=by
 have:=cQ h;omega
instance:DecidableEq Ms:=fun x y=>if h:x.top=y.top/\x.c=y.c then isTrue (Ms.ext' h.1 h.2) else isFalse fun e=>h (by subst e;exact⟨rfl,rfl⟩)
def Ms.fit (x:Ms):Prop:=∀c∈x.c,-9223372036854775808<=c/\c<=9223372036854775807
theorem xE:∀l:List Int,iH (l.map (PV.int .i64))=some (l.map (AV.int .i64))
 | []=>rfl
 | x::l=>by
  show(match eJ (PV.int .i64 x),iH (l.map (PV.int .i64)) with | some x,some xs=>some (x::xs) | _,_=>none)=_
  rw[xE l];rfl
theorem H6 {c:Int} (h: -9223372036854775808<=c/\c<=9223372036854775807):RC .i64 c=true:=by
 unfold RC;simp;exact h
theorem IU:∀{a b:List Int},a.length=b.length->(∀c∈a,-9223372036854775808<=c/\c<=9223372036854775807)->(∀c∈b,-9223372036854775808<=c/\c<=9223372036854775807)->hI (List.replicate a.length (some .i64)) (a.map (AV.int .i64)) (b.map (AV.int .i64))=some (decide (a=b))
 | [],[],_,_,_=>rfl
 | x::a,y::b,hl,ha,hb=>by
  have ih:=IU (a:=a) (b:=b) (by simpa using hl) (fun c h=>ha c (List.mem_cons_of_mem _ h)) (fun c h=>hb c (List.mem_cons_of_mem _ h))
  rw[List.length_cons,List.replicate_succ,List.map_cons,List.map_cons]
  unfold hI
  rw[if_pos ⟨rfl,rfl,H6 (ha x (by simp)),H6 (hb y (by simp))⟩,ih]
  simp only[Option.some.injEq,List.cons.injEq]
  by_cases e:x=y<;>by_cases e2:a=b<;>simp[e,e2]
 | [],_::_,h,_,_=>by simp at h
 | _::_,[],h,_,_=>by simp at h
theorem NZ {x y:Ms} (hx:x.fit) (hy:y.fit):o5 [none,some .i64,some .i64,some .i64,some .i64,some .i64,some .i64,some .i64,some .i64] (msC x) (msC y)=some (decide (x=y)):=by
 have h:=IU (a:=x.c) (b:=y.c) (by rw[x.h,y.h]) hx hy
 rw[x.h]at h
 unfold o5 msC
 have e1:∀z:Ms,iH (PV.bool z.top::z.c.map (PV.int .i64))=some (AV.bool z.top::z.c.map (AV.int .i64)):=fun z=>by
  show(match eJ (PV.bool z.top),iH (z.c.map (PV.int .i64)) with | some x,some xs=>some (x::xs) | _,_=>none)=_
  rw[xE];rfl
 rw[e1 x,e1 y]
 show hI (none::List.replicate 8 (some .i64)) (AV.bool x.top::x.c.map (AV.int .i64)) (AV.bool y.top::y.c.map (AV.int .i64))=_
 unfold hI
 rw[h]
 simp only[Option.some.injEq]
 by_cases e:x=y
 ·subst e;simp
 ·rw[decide_eq_false e]
  by_cases e1:x.top=y.top
  ·have:x.c≠y.c:=fun q=>e (Ms.ext' e1 q)
   simp[this]
  ·have:(x.top==y.top)=false:=by simpa using e1
   rw[this];rfl
theorem Ms.Ok.fit {ns:List Nat} {x:Ms} (h:x.Ok ns) (hn:∀n∈ns,n<1000000000000):x.fit:=fun c hc=>by
 obtain⟨k,hk⟩:=List.getElem?_of_mem hc
 have hl:=N5 h.1
 have hk2:k<ns.length:=by have:=cQ hk;omega
 have key:∀{ns:List Nat} {cs:List Int},mOk ns cs->∀{u:Nat} {c:Int} {n:Nat},cs[u]? =some c->ns[u]? =some n->0<=c/\c<=n:=by
  intro ns
  induction ns with
  | nil=>intro cs h u c n hx hy;simp at hy
  | cons n ns ih=>
   intro cs h u c m hx hy
   cases cs with
   | nil=>exact h.elim
   | cons a cs=>
    cases u with
    | zero=>simp at hx hy;subst hx;subst hy;exact⟨h.1,h.2.1⟩
    | succ u=>exact ih h.2.2 (by simpa using hx) (by simpa using hy)
 have h1:=key h.1 hk (List.getElem?_eq_getElem hk2)
 have h2:=hn _ (List.getElem_mem hk2)
 omega
theorem ES {pr:List Int} (hb:pr.length<1000000000000):∀n∈dS pr,n<1000000000000:=fun n hn=>by
 obtain⟨v,_,rfl⟩:=FZ hn
 have:pr.count ((2*v+1:Nat):Int)<=pr.length:=List.count_le_length
 omega
open Go.Am renaming kV->P1,qL->P2,PKNo->P3,ppack->P4,PObj.under->P5,pput->P6,ptset->P7,ptget->P8,pev->P9,ofAV->P10,ofAV1->P11,ppad->P12,pfill->P13,fF->P14,AO.effect->P15
open List renaming replicate->L1
theorem Ms.get {x:Ms} {k:Nat} (h:k<8):∃c,x.c[k]? =some c:=dN (by rw[x.h];exact h)
theorem HH {j:Nat} (h:j<1000000000000):IntKind.i64.wrap ((j:Int)-1)=(j:Int)-1:=wrap64 (by omega) (by omega)
section
variable {tab:FuncId->Option AF} (T:HasA tab)
include T
theorem OE {M:Mem} {K:PV->Mem->Prop} {a:Int} (hk:K (.bool false) M):SemC tab 133 [p64 a] M K:=by
 refine cP T.h133 (by simp only[PP,P1,P2,P14,P15,simprocAttr]) ?_
 simp only[af133,PP,P1,P2,P14,P15,simprocAttr]
 exact hk
theorem aDT {M:Mem} {K:PV->Mem->Prop} {a b:Int} (hk:K (p64 (l8 a b)) M):SemC tab 78 [p64 a,p64 b] M K:=by
 refine cP T.h78 (by simp only[PP,P1,P2,P14,P15,simprocAttr]) ?_
 simp only[af78,PP,P1,P2,P14,P15,simprocAttr]
 refine OE T ?_
 simp only[PP,P1,P2,P14,P15,simprocAttr]
 refine OE T ?_
 simp only[PP,P1,P2,P14,P15,simprocAttr]
 refine QIf.intro (fun c=>?_) (fun c=>?_)
 ·simp only[PP,P1,P2,P14,P15,simprocAttr,c]
  rw[pX c]at hk;exact hk
 ·simp only[PP,P1,P2,P14,P15,simprocAttr,c]
  refine QIf.intro (fun d=>?_) (fun d=>?_)
  ·simp only[PP,P1,P2,P14,P15,simprocAttr,d]
   rw[pY d]at hk;exact hk
  ·simp only[PP,P1,P2,P14,P15,simprocAttr,d]
   rw[show l8 a b=0 from by rw[uC];omega]at hk;exact hk
theorem nI {M:Mem} {K:PV->Mem->Prop} {x y:Ms} (hk:K (p64 (BF x y)) M):SemC tab 30 [.agg (msC x),.agg (msC y)] M K:=by
 refine cP T.h30 (by simp only[PP,P1,P2,P14,P15,simprocAttr,cC,cI,cG,bK,dJ,bY,bM,z9,z9t,cD,cA,cJ,bZ,bW,b9,bX,bP,bN,bH,bL,bG,z8,bO,cV,bV,cU,cT,cR]) ?_
 simp only[af30,PP,P1,P2,P14,P15,simprocAttr,cC,cI,cG,bK,dJ,bY,bM,z9,z9t,cD,cA,cJ,bZ,bW,b9,bX,bP,bN,bH,bL,bG,z8,bO,cV,bV,cU,cT,cR]
 unfold BF at hk
 cases hx:x.top with
 | true=>
  rw[hx,if_pos rfl]at hk
  cases hy:y.top with
  | true=>rw[hy,if_pos rfl]at hk;simp only[PP,P1,P2,P14,P15,simprocAttr,cC,cI,cG,bK,dJ,bY,bM,z9,z9t,cD,cA,cJ,bZ,bW,b9,bX,bP,bN,bH,bL,bG,z8,bO,cV,bV,cU,cT,cR,hx,hy];exact hk
  | false=>rw[hy,if_neg (by decide)]at hk;simp only[PP,P1,P2,P14,P15,simprocAttr,cC,cI,cG,bK,dJ,bY,bM,z9,z9t,cD,cA,cJ,bZ,bW,b9,bX,bP,bN,bH,bL,bG,z8,bO,cV,bV,cU,cT,cR,hx,hy];exact hk
 | false=>
  rw[hx,if_neg (by decide)]at hk
  cases hy:y.top with
  | true=>rw[hy,if_pos rfl]at hk;simp only[PP,P1,P2,P14,P15,simprocAttr,cC,cI,cG,bK,dJ,bY,bM,z9,z9t,cD,cA,cJ,bZ,bW,b9,bX,bP,bN,bH,bL,bG,z8,bO,cV,bV,cU,cT,cR,hx,hy];exact hk
  | false=>
   rw[hy,if_neg (by decide)]at hk
   simp only[PP,P1,P2,P14,P15,simprocAttr,cC,cI,cG,bK,dJ,bY,bM,z9,z9t,cD,cA,cJ,bZ,bW,b9,bX,bP,bN,bH,bL,bG,z8,bO,cV,bV,cU,cT,cR,hx,hy]
   refine jZ (fun(k:Int)=> -1<=k/\k<=7/\mO (x.c.drop (k+1).toNat) (y.c.drop (k+1).toNat)=0) (fun k=>(.junk:: .junk:: .ptr 0 0 0:: .ptr 1 0 0:: .junk::p64 k::zj 30))
    (fun k=>[.cells 0 0 (msC x),.cells 0 0 (msC y)]) (fun k=>(k+1).toNat) 7 ⟨by decide,by decide,by
     rw[List.drop_of_length_le (by rw[x.h];decide)];rfl⟩ (by simp only[PW]) rfl ?_
   intro k ⟨h1,h2,h3⟩ ih
   refine dL (by kernel_rfl) ?_
   simp only[PP,P1,P2,P14,P15,simprocAttr]
   refine QIf.intro (fun c=>?_) (fun c=>?_)
   ·obtain⟨j,rfl⟩:∃j:Nat,k=j:=⟨k.toNat,by omega⟩
    have j8:(j:Int)<8:=by omega
    obtain⟨a,ga⟩:=Ms.get (x:=x) (k:=j) (by omega)
    obtain⟨b,gb⟩:=Ms.get (x:=y) (k:=j) (by omega)
    have g1:=LC ga
    have g2:=LC gb
    have hwk:=HH (j:=j) (by omega)
    have ej:((j:Int)+1).toNat=j+1:=by omega
    rw[ej]at h3
    have h4:=aAJ ga gb h3
    simp only[PP,P1,P2,P14,P15,simprocAttr,c,j8,g1,g2]
    refine aDT T ?_
    simp only[PP,P1,P2,P14,P15,simprocAttr]
    by_cases e:l8 a b=0
    ·simp only[PP,P1,P2,P14,P15,simprocAttr,e,hwk]
     refine dB (ih ((j:Int)-1) ⟨by omega,by omega,?_⟩ (by omega)) (by simp only[PW])
     rw[show((j:Int)-1+1).toNat=j by omega,h4];exact e
    ·simp only[PP,P1,P2,P14,P15,simprocAttr,e]
     rw[C4 j (by rw[h4];exact e),h4]at hk;exact hk
   ·have:k= -1:=by omega
    subst this
    have h3:mO x.c y.c=0:=by simpa using h3
    rw[h3]at hk
    simp only[PP,P1,P2,P14,P15,simprocAttr]
    exact hk
end
theorem aBJ {l:List Int} {k:Nat} :(List.replicate k (0:Int)++l.drop k)[k]? =l[k]? :=by
 rw[List.getElem?_append_right (by simp),List.length_replicate,Nat.sub_self,List.getElem?_drop,Nat.add_zero]
theorem S2 {l:List Int} {k:Nat} (y:Int) (h:k<l.length):(List.replicate k (0:Int)++l.drop k).set k y=List.replicate k 0++y::l.drop (k+1):=by
 rw[List.set_append_right _ _ (by simp),List.length_replicate,Nat.sub_self,List.drop_eq_getElem_cons h,List.set_cons_zero]
theorem M9 {l:List Int} {k:Nat} (h:k<l.length):(List.replicate k (0:Int)++l.drop k).set k 0=List.replicate (k+1) 0++l.drop (k+1):=by
 rw[S2 0 h,List.replicate_succ',List.append_assoc];rfl
section
variable {ns:List Nat} {x y:Ms} {q k:Nat}
theorem tR (ht:x.top=false):x.num ns=mr ns x.c:=by unfold Ms.num;rw[ht,if_neg (by decide)]
theorem TA (h:x.Ok ns) (ht:x.top=false) (hl:ns.length=8) (hq:q<=8) (hy:y.top=false) (hc:y.c=List.replicate q 0++x.c.drop q):y.Ok ns/\y.num ns=(x.num ns / mB ns q)*mB ns q:=by
 have h1:=sF q h.1
 refine⟨⟨by rw[hc];exact tV q (by omega) h1,fun e=>by rw[hy]at e;cases e⟩,?_⟩
 rw[tR hy,tR ht,hc,yK q (by simp[x.h];omega),EN q h.1,Nat.mul_comm]
def FJ (ns:List Nat) (x:Ms) (q k:Nat):Prop:=∀(i:Nat) (c:Int) (n:Nat),q<=i->i<k->x.c[i]? =some c->ns[i]? =some n->c=n
theorem TD (h:x.Ok ns) (hl:ns.length=8):∀{k:Nat},q<=k->k<=8->FJ ns x q k->(mr (ns.drop k) (x.c.drop k)+1)*mB ns k=(mr (ns.drop q) (x.c.drop q)+1)*mB ns q
 | 0,h1,h2,hf=>by
  have:q=0:=by omega
  subst this;rfl
 | k+1,h1,h2,hf=>by
  by_cases e:q=k+1
  ·subst e;rfl
  ·rw[<-TD h hl (k:=k) (by omega) (by omega) (fun i c n a b=>hf i c n a (by omega))]
   obtain⟨n,gn⟩:∃n,ns[k]? =some n:=⟨_,List.getElem?_eq_getElem (by omega)⟩
   obtain⟨c,gc⟩:=Ms.get (x:=x) (k:=k) (by omega)
   have e1:=hf k c n (by omega) (by omega) gc gn
   rw[aAg gn,jU gn,jU gc]
   show _=(c.toNat+(n+1)*mr (ns.drop (k+1)) (x.c.drop (k+1))+1)*mB ns k
   rw[e1,Int.toNat_natCast,show n+(n+1)*mr (ns.drop (k+1)) (x.c.drop (k+1))+1=(n+1)*(mr (ns.drop (k+1)) (x.c.drop (k+1))+1) by rw[Nat.mul_add];omega]
   rw[Nat.mul_comm (mB ns k),<-Nat.mul_assoc,Nat.mul_comm (n+1)]
theorem Y7 (h:x.Ok ns) (ht:x.top=false) (hl:ns.length=8) (hq:q<=k) (hk:k<8) (hf:FJ ns x q k) {c:Int} {n:Nat} (gc:x.c[k]? =some c) (gn:ns[k]? =some n) (hlt:c<n) (hy:y.top=false)
  (hc:y.c=List.replicate k 0++(c+1)::x.c.drop (k+1)):y.Ok ns/\y.num ns=(x.num ns / mB ns q+1)*mB ns q:=by
 have h1:=sF k h.1
 rw[jU gn,jU gc]at h1
 have hd:mOk (ns.drop k) ((c+1)::x.c.drop (k+1)):=by
  rw[jU gn];exact⟨by have:=h1.1;omega,by omega,h1.2.2⟩
 refine⟨⟨by rw[hc];exact tV k (by omega) hd,fun e=>by rw[hy]at e;cases e⟩,?_⟩
 rw[tR hy,tR ht,hc,yK k (by simp[x.h];omega),EN q h.1,<-TD h hl hq (by omega) hf,Nat.mul_comm,jU gn,jU gc]
 congr 1
 show(c+1).toNat+(n+1)*_=c.toNat+(n+1)*_+1
 have:=h1.1
 omega
theorem TB (h:x.Ok ns) (ht:x.top=false) (hl:ns.length=8) (hq:q<=8) (hf:FJ ns x q 8):mT ns=(x.num ns / mB ns q+1)*mB ns q:=by
 rw[tR ht,EN q h.1,<-TD h hl hq (Nat.le_refl _) hf,List.drop_of_length_le (by omega),o9 ns 8,List.drop_of_length_le (by omega)]
 simp[mr,mT]
theorem Ms.num_lt (h:x.Ok ns) (ht:x.top=false):x.num ns<mT ns:=by rw[tR ht];exact CN h.1
end
def aDY (pr:List Int):Prop:=pr.length<1000000000000/\∀x∈pr,0<=x/\x<=16
theorem sI (pr:List Int) {q:Nat} (h:q<8):(dS pr)[q]? =some (pr.count ((2*q+1:Nat):Int)):=rN h
theorem RA {pr:List Int} {k:Nat} {x:Int} (g:pr[k]? =some x) (h:x % 2=0):dS (pr.take (k+1))=dS (pr.take k):=xF fun v hv=>by
 rw[eK g,List.count_append,List.count_singleton]
 have:¬(x==((2*v+1:Nat):Int))=true:=by simp;omega
 rw[if_neg this];rfl
theorem VX {pr:List Int} {k q:Nat} {x:Int} (g:pr[k]? =some x) (h:x=((2*q+1:Nat):Int)) (hq:q<8):(dS (pr.take k)).set q ((pr.take k).count ((2*q+1:Nat):Int)+1)=dS (pr.take (k+1)):=by
 unfold dS
 rw[TK _ hq]
 refine xF fun v hv=>?_
 rw[eK g,List.count_append,List.count_singleton]
 by_cases e:v=q
 ·subst e;rw[if_pos rfl,if_pos (by simp[h])]
 ·rw[if_neg e,if_neg (by simp[h];omega)];rfl
section
variable {tab:FuncId->Option AF} (T:HasA tab)
include T
theorem vB {M:Mem} {K:PV->Mem->Prop} {f1 o1 f2 o2 f3 o3 f4 o4:Bool} {ow pr:List Int} {su:List (List Int)} (P:aDY pr) (hk:K (.cp (kY f1 o1 f2 o2 f3 o3 f4 o4 ow pr su) 0) M):
  SemC tab 89 [gmP f1 o1 f2 o2 f3 o3 f4 o4 ow pr su] M K:=by
 obtain⟨hn,hp⟩:=P
 refine YH (by simp only[PP,P1,P2,P14,P15,simprocAttr]) ?_
 refine dH T.h89 ?_
 simp only[af89,PP,P1,P2,P14,P15,simprocAttr,cC,cI,cG,bK,dJ,bY,bM,z9,z9t,cD,cA,cJ,bZ,bW,b9,bX,bP,bN,bH,bL,bG,z8,bO,cV,bV,cU,cT,cR]
 refine jY (fun(k ver:Nat)=>k<=pr.length) (fun k ver=>(zj 3++ .ptr 1 0 0::zj 6++slI f2 o2 .i64 pr::p64 pr.length::p64 k::zj 19))
  (fun k ver=>[.cells 0 0 [slI f1 o1 .u8 ow,slI f2 o2 .i64 pr,slR f3 o3 f4 o4 .i64 su],.cells 0 ver (slI f1 o1 .u8 ow::slI f2 o2 .i64 pr::slR f3 o3 f4 o4 .i64 su::kR (dS (pr.take k)))])
  (fun k _=>pr.length-k) 0 0 (by omega) (by simp only[PW]) rfl ?_
 intro k ver hle ih
 refine dL (by kernel_rfl) ?_
 simp only[PP,P1,P2,P14,P15,simprocAttr]
 refine QIf.intro (fun c=>?_) (fun c=>?_)
 ·have hk':k<pr.length:=by omega
  have k0:(0:Int)<=k:=by omega
  have kn:(k:Int)<pr.length:=by omega
  have hwk:=dA (k:=k) (by show _<1000000000000;omega)
  obtain⟨x,g1⟩:=dN (xs:=pr) (k:=k) hk'
  obtain⟨x0,x1⟩:=hp x (List.mem_of_getElem? g1)
  have hrem:x.tmod 2=x % 2:=Int.tmod_eq_emod_of_nonneg x0
  simp only[PP,P1,P2,P14,P15,simprocAttr,c,k0,kn,g1,aB9 (show(2:Int)≠0 by decide),hrem]
  refine QIf.intro (fun d=>?_) (fun d=>?_)
  ·obtain⟨q,hq,hq8⟩:∃q:Nat,x=((2*q+1:Nat):Int)/\q<8:=⟨(x / 2).toNat,by omega,by omega⟩
   have hquo:IntKind.i64.wrap (x.tdiv 2)=(q:Int):=by
    rw[Int.tdiv_eq_ediv_of_nonneg x0,wrap64 (by omega) (by omega)];omega
   have hcl:(pr.take k).count ((2*q+1:Nat):Int)<=(pr.take k).length:=List.count_le_length
   have hcl2:(pr.take k).length<=pr.length:=by simp;omega
   have gl:=N9 (sI (pr.take k) hq8)
   have hw2:=dA (k:=(pr.take k).count ((2*q+1:Nat):Int)) (by show _<1000000000000;omega)
   have g3:(slI f1 o1 .u8 ow::slI f2 o2 .i64 pr::slR f3 o3 f4 o4 .i64 su::kR (dS (pr.take k)))[3+q]? =some (p64 ((pr.take k).count ((2*q+1:Nat):Int))):=by rw[Nat.add_comm];exact gl
   have g4:∀y:PV,(slI f1 o1 .u8 ow::slI f2 o2 .i64 pr::slR f3 o3 f4 o4 .i64 su::kR (dS (pr.take k))).set (3+q) y=slI f1 o1 .u8 ow::slI f2 o2 .i64 pr::slR f3 o3 f4 o4 .i64 su::(kR (dS (pr.take k))).set q y:=fun y=>by rw[Nat.add_comm];rfl
   have q0:(0:Int)<=q:=by omega
   have q8:(q:Int)<8:=by omega
   have q3:3+q+1<=11:=by omega
   simp only[PP,P1,P2,P14,P15,simprocAttr,cC,cI,cG,bK,dJ,bY,bM,z9,z9t,cD,cA,cJ,bZ,bW,b9,bX,bP,bN,bH,bL,bG,z8,bO,cV,bV,cU,cT,cR,d,k0,kn,yC _ _ _ (show(2:Int)≠0 by decide),hquo,q0,q8,q3,g3,g4,hw2,hwk]
   refine dY (ih (k+1) (ver+1) (by omega) (by omega)) (by simp only[PW]) ?_
   rw[VY,VX g1 hq hq8]
  ·simp only[PP,P1,P2,P14,P15,simprocAttr,d,hwk]
   refine dY (ih (k+1) ver (by omega) (by omega)) (by simp only[PW]) ?_
   rw[RA g1 (by omega)]
 ·have:k=pr.length:=by omega
  subst this
  simp only[PP,P1,P2,P14,P15,simprocAttr,c]
  refine⟨1,0,ver,kY f1 o1 f2 o2 f3 o3 f4 o4 ow pr su,rfl,?_,bV _,hk⟩
  rw[List.take_of_length_le (Nat.le_refl _)];rfl
end
theorem aDv (p:Nat):((p:Int)).tmod 2=((p % 2:Nat):Int):=by
 rw[Int.tmod_eq_emod_of_nonneg (by omega)];omega
theorem aBx {p:Nat} (h:p<=16):IntKind.i64.wrap ((p:Int).tdiv 2)=((p / 2:Nat):Int):=by
 rw[Int.tdiv_eq_ediv_of_nonneg (by omega),wrap64 (by omega) (by omega)];omega
section
variable {tab:FuncId->Option AF} (T:HasA tab)
include T
set_option maxHeartbeats 1000000 in
theorem aDj {M:Mem} {K:PV->Mem->Prop} {f1 o1 f2 o2 f3 o3 f4 o4:Bool} {ow pr:List Int} {su:List (List Int)} {p:Nat} {x:Ms} (hb:pr.length<1000000000000) (hp:p<=16) (hx:x.Ok (dS pr))
  (hk:∀y:Ms,y.Ok (dS pr)->y.num (dS pr)=vN (dS pr) p (x.num (dS pr))->K (.agg (msC y)) M):
  SemC tab 219 [.cp (kY f1 o1 f2 o2 f3 o3 f4 o4 ow pr su) 0,p64 p,.agg (msC x)] M K:=by
 have h8:=nA pr
 have hlt:=ES hb
 refine cP T.h219 (by simp only[PP,P1,P2,P14,P15,simprocAttr,cC,cI,cG,bK,dJ,bY,bM,z9,z9t,cD,cA,cJ,bZ,bW,b9,bX,bP,bN,bH,bL,bG,z8,bO,cV,bV,cU,cT,cR,PV.under]) ?_
 simp only[af219,PP,P1,P2,P14,P15,simprocAttr,cC,cI,cG,bK,dJ,bY,bM,z9,z9t,cD,cA,cJ,bZ,bW,b9,bX,bP,bN,bH,bL,bG,z8,bO,cV,bV,cU,cT,cR]
 cases ht:x.top with
 | true=>
  simp only[PP,P1,P2,P14,P15,simprocAttr,cC,cI,cG,bK,dJ,bY,bM,z9,z9t,cD,cA,cJ,bZ,bW,b9,bX,bP,bN,bH,bL,bG,z8,bO,cV,bV,cU,cT,cR,ht]
  refine hk x hx ?_
  rw[(Ms.num_top hx).2 ht,aBM]
 | false=>
  have nlt:=Ms.num_lt hx ht
  simp only[PP,P1,P2,P14,P15,simprocAttr,cC,cI,cG,bK,dJ,bY,bM,z9,z9t,cD,cA,cJ,bZ,bW,b9,bX,bP,bN,bH,bL,bG,z8,bO,cV,bV,cU,cT,cR,ht,yC _ _ _ (show(2:Int)≠0 by decide),aBx hp]
  refine sG (fun(k ver:Nat) (y:Ms)=>k<=p / 2/\y.top=false/\y.c=List.replicate k 0++x.c.drop k)
   (fun k ver y=>(.cp (kY f1 o1 f2 o2 f3 o3 f4 o4 ow pr su) 0::p64 p::zj 3++ .ptr 0 0 0:: .ptr 1 0 0::zj 6++p64 ((p / 2:Nat):Int)::p64 k::zj 41))
   (fun k ver y=>[.cells 0 ver (msC y),.cells 0 0 (msC mz)]) (fun k _ _=>p / 2-k) 0 0 x ⟨by omega,ht,by simp⟩ (by simp only[PW]) rfl ?_
  intro k ver y ⟨hle,hy,hc⟩ ih
  refine dL (by kernel_rfl) ?_
  simp only[PP,P1,P2,P14,P15,simprocAttr]
  refine QIf.intro (fun c=>?_) (fun c=>?_)
  ·have hk8:k<8:=by omega
   have k0:(0:Int)<=k:=by omega
   have k8:(k:Int)<8:=by omega
   have k9:1+k+1<=9:=by omega
   have hwk:=dA (k:=k) (by show _<1000000000000;omega)
   simp only[PP,P1,P2,P14,P15,simprocAttr,cC,cI,cG,bK,dJ,bY,bM,z9,z9t,cD,cA,cJ,bZ,bW,b9,bX,bP,bN,bH,bL,bG,z8,bO,cV,bV,cU,cT,cR,c,k0,k8,k9,EM,hwk]
   refine dY (ih (k+1) (ver+1) (y.put k 0) ⟨by omega,hy,?_⟩ (by omega)) (by simp only[PW]) rfl
   show y.c.set k 0=_
   rw[hc];exact M9 (by rw[x.h];exact hk8)
  ·have hkq:k=p / 2:=by omega
   subst hkq
   simp only[PP,P1,P2,P14,P15,simprocAttr,cC,cI,cG,bK,dJ,bY,bM,z9,z9t,cD,cA,cJ,bZ,bW,b9,bX,bP,bN,bH,bL,bG,z8,bO,cV,bV,cU,cT,cR,c,aB9 (show(2:Int)≠0 by decide),aDv]
   obtain⟨z1,z2⟩:=TA hx ht h8 (show p / 2<=8 by omega) hy hc
   refine QIf.intro (fun d=>?_) (fun d=>?_)
   ·have e0:p % 2=0:=by omega
    simp only[PP,P1,P2,P14,P15,simprocAttr,cC,cI,cG,bK,dJ,bY,bM,z9,z9t,cD,cA,cJ,bZ,bW,b9,bX,bP,bN,bH,bL,bG,z8,bO,cV,bV,cU,cT,cR,d]
    exact hk y z1 (by rw[z2,TC nlt,e0,Nat.add_zero])
   ·have e1:p % 2=1:=by omega
    simp only[PP,P1,P2,P14,P15,simprocAttr,cC,cI,cG,bK,dJ,bY,bM,z9,z9t,cD,cA,cJ,bZ,bW,b9,bX,bP,bN,bH,bL,bG,z8,bO,cV,bV,cU,cT,cR,d,yC _ _ _ (show(2:Int)≠0 by decide),aBx hp]
    refine sG (fun(k ver:Nat) (y:Ms)=>p / 2<=k/\k<=8/\y.top=false/\y.c=List.replicate k 0++x.c.drop k/\FJ (dS pr) x (p / 2) k)
     (fun k ver y=>(.cp (kY f1 o1 f2 o2 f3 o3 f4 o4 ow pr su) 0::zj 4++ .ptr 0 0 0:: .ptr 1 0 0:: .junk::p64 k::zj 47))
     (fun k ver y=>[.cells 0 ver (msC y),.cells 0 0 (msC mz)]) (fun k _ _=>8-k) (p / 2) ver y ⟨Nat.le_refl _,by omega,hy,hc,fun i c n a b=>by omega⟩ (by simp only[PW]) rfl ?_
    clear ih c
    intro k ver y ⟨hle1,hle2,hy,hc,hf⟩ ih
    refine dL (by kernel_rfl) ?_
    simp only[PP,P1,P2,P14,P15,simprocAttr]
    refine QIf.intro (fun c=>?_) (fun c=>?_)
    ·have hk8:k<8:=by omega
     have k0:(0:Int)<=k:=by omega
     have k8:(k:Int)<8:=by omega
     have k9:1+k+1<=9:=by omega
     have kne:¬(k:Int)=8:=by omega
     have hwk:=dA (k:=k) (by show _<1000000000000;omega)
     obtain⟨a,ga⟩:=Ms.get (x:=x) hk8
     have gy:y.c[k]? =some a:=by rw[hc,aBJ,ga]
     have gn:=sI pr hk8
     generalize pr.count ((2*k+1:Nat):Int)=n at gn
     have hn:=hlt n (List.mem_of_getElem? gn)
     have g1:=LC gy
     have g2:(kY f1 o1 f2 o2 f3 o3 f4 o4 ow pr su)[3+k]? =some (p64 n):=NS gn
     have hok:0<=a/\a<=n:=by
      have:=sF k hx.1
      rw[jU gn,jU ga]at this
      exact⟨this.1,this.2.1⟩
     have hwa:IntKind.i64.wrap (a+1)=a+1:=wrap64 (by omega) (by omega)
     simp only[PP,P1,P2,P14,P15,simprocAttr,cC,cI,cG,bK,dJ,bY,bM,z9,z9t,cD,cA,cJ,bZ,bW,b9,bX,bP,bN,bH,bL,bG,z8,bO,cV,bV,cU,cT,cR,c,k0,k8,k9,g1,g2]
     refine QIf.intro (fun e=>?_) (fun e=>?_)
     ·simp only[PP,P1,P2,P14,P15,simprocAttr,cC,cI,cG,bK,dJ,bY,bM,z9,z9t,cD,cA,cJ,bZ,bW,b9,bX,bP,bN,bH,bL,bG,z8,bO,cV,bV,cU,cT,cR,e,c,k0,k8,k9,g1,hwa,EM,kne]
      obtain⟨w1,w2⟩:=Y7 (y:=y.put k (a+1)) hx ht h8 hle1 hk8 hf ga gn e hy (by show y.c.set k (a+1)=_;rw[hc];exact S2 _ (by rw[x.h];exact hk8))
      exact hk _ w1 (by rw[w2,TC nlt,e1])
     ·simp only[PP,P1,P2,P14,P15,simprocAttr,cC,cI,cG,bK,dJ,bY,bM,z9,z9t,cD,cA,cJ,bZ,bW,b9,bX,bP,bN,bH,bL,bG,z8,bO,cV,bV,cU,cT,cR,e,k0,k8,k9,EM,hwk]
      refine dY (ih (k+1) (ver+1) (y.put k 0) ⟨by omega,by omega,hy,?_,fun i c m a1 a2 g5 g6=>?_⟩ (by omega)) (by simp only[PW]) rfl
      ·show y.c.set k 0=_
       rw[hc];exact M9 (by rw[x.h];exact hk8)
      ·by_cases ei:i=k
       ·subst ei;rw[ga]at g5;rw[gn]at g6;cases g5;cases g6;omega
       ·exact hf i c m a1 (by omega) g5 g6
    ·have hk8:k=8:=by omega
     subst hk8
     simp only[PP,P1,P2,P14,P15,simprocAttr,cC,cI,cG,bK,dJ,bY,bM,z9,z9t,cD,cA,cJ,bZ,bW,b9,bX,bP,bN,bH,bL,bG,z8,bO,cV,bV,cU,cT,cR]
     refine hk mtop (N4 h8) ?_
     rw[VF,TC nlt,e1]
     exact TB hx ht h8 (by omega) hf
end
theorem QL (x:Ms):dW (msC x) 1 8=x.c.map (PV.int .i64):=by
 unfold dW msC
 rw[List.drop_succ_cons,List.drop_zero,List.take_of_length_le (by simp[x.h])]
theorem aDx {pr:List Int} {x:Ms} (h:∀(k:Nat) (c:Int),k<8->x.c[k]? =some c->0<=c/\c<=(pr.count ((2*k+1:Nat):Int):Nat)):mOk (dS pr) x.c:=
 VQ (by rw[x.h,nA]) fun u c n h1 h2=>by
  have hu:u<8:=by have:=cQ h1;rwa [x.h]at this
  rw[sI pr hu]at h2
  cases h2;exact h u c hu h1
theorem U4 {pr:List Int} {x:Ms} (h:x.Ok (dS pr)) {k:Nat} {c:Int} (hk:k<8) (g:x.c[k]? =some c):0<=c/\c<=(pr.count ((2*k+1:Nat):Int):Nat):=N6 h.1 g (sI pr hk)
theorem VG:mtop.fit:=fun c hc=>by
 have:=List.eq_of_mem_replicate (show c∈List.replicate 8 (0:Int) from hc)
 omega
section
variable {tab:FuncId->Option AF} (T:HasA tab)
include T
theorem Y8 {M:Mem} {K:PV->Mem->Prop} {f1 o1 f2 o2 f3 o3 f4 o4:Bool} {ow pr:List Int} {su:List (List Int)} {x:Ms} (hb:pr.length<1000000000000)
  (hk:∀b:Bool,(b=true↔x.Ok (dS pr))->K (.bool b) M):
  SemC tab 269 [.cp (kY f1 o1 f2 o2 f3 o3 f4 o4 ow pr su) 0,.agg (msC x)] M K:=by
 have h8:=nA pr
 have hlt:=ES hb
 have yes:x.Ok (dS pr)->K (.bool true) M:=fun h=>hk true ⟨fun _=>h,fun _=>rfl⟩
 have no:¬x.Ok (dS pr)->K (.bool false) M:=fun h=>hk false ⟨fun q=>(by cases q),fun q=>absurd q h⟩
 refine cP T.h269 (by simp only[PP,P1,P2,P14,P15,simprocAttr,cC,cI,cG,bK,dJ,bY,bM,z9,z9t,cD,cA,cJ,bZ,bW,b9,bX,bP,bN,bH,bL,bG,z8,bO,cV,bV,cU,cT,cR,PV.under]) ?_
 simp only[af269,PP,P1,P2,P14,P15,simprocAttr,cC,cI,cG,bK,dJ,bY,bM,z9,z9t,cD,cA,cJ,bZ,bW,b9,bX,bP,bN,bH,bL,bG,z8,bO,cV,bV,cU,cT,cR,QL]
 refine jZ (fun(k:Nat)=>k<=8/\∀(i:Nat) (c:Int),i<k->x.c[i]? =some c->0<=c/\c<=(pr.count ((2*i+1:Nat):Int):Nat))
  (fun k=>(.cp (kY f1 o1 f2 o2 f3 o3 f4 o4 ow pr su) 0:: .junk:: .junk:: .ptr 0 0 0::zj 4++ .agg (x.c.map (PV.int .i64))::p64 k::zj 24))
  (fun k=>[.cells 0 0 (msC x)]) (fun k=>8-k) 0 ⟨by omega,fun i c h=>by omega⟩ (by simp only[PW]) rfl ?_
 intro k ⟨hle,hc⟩ ih
 refine dL (by kernel_rfl) ?_
 simp only[PP,P1,P2,P14,P15,simprocAttr]
 refine QIf.intro (fun c=>?_) (fun c=>?_)
 ·have hk8:k<8:=by omega
  have k0:(0:Int)<=k:=by omega
  have k8:(k:Int)<8:=by omega
  have hwk:=dA (k:=k) (by show _<1000000000000;omega)
  obtain⟨a,ga⟩:=Ms.get (x:=x) hk8
  have gn:=sI pr hk8
  have g2:=NS (f1:=f1) (o1:=o1) (f2:=f2) (o2:=o2) (f3:=f3) (o3:=o3) (f4:=f4) (o4:=o4) (ow:=ow) (su:=su) gn
  simp only[PP,P1,P2,P14,P15,simprocAttr,cC,cI,cG,bK,dJ,bY,bM,z9,z9t,cD,cA,cJ,bZ,bW,b9,bX,bP,bN,bH,bL,bG,z8,bO,cV,bV,cU,cT,cR,c,k0,k8,ga]
  refine QIf.intro (fun d=>?_) (fun d=>?_)
  ·simp only[PP,P1,P2,P14,P15,simprocAttr,d]
   exact no fun h=>by have:=U4 h hk8 ga;omega
  ·simp only[PP,P1,P2,P14,P15,simprocAttr,cC,cI,cG,bK,dJ,bY,bM,z9,z9t,cD,cA,cJ,bZ,bW,b9,bX,bP,bN,bH,bL,bG,z8,bO,cV,bV,cU,cT,cR,c,d,k0,k8,ga,g2]
   refine QIf.intro (fun e=>?_) (fun e=>?_)
   ·simp only[PP,P1,P2,P14,P15,simprocAttr,e]
    exact no fun h=>by have:=U4 h hk8 ga;omega
   ·simp only[PP,P1,P2,P14,P15,simprocAttr,e,hwk]
    refine dB (ih (k+1) ⟨by omega,fun i c' h1 h2=>?_⟩ (by omega)) (by simp only[PW])
    by_cases ei:i=k
    ·subst ei;rw[ga]at h2;cases h2;omega
    ·exact hc i c' (by omega) h2
 ·have hk8:k=8:=by omega
  subst hk8
  have hok:=aDx hc
  cases ht:x.top with
  | false=>
   simp only[PP,P1,P2,P14,P15,simprocAttr,cC,cI,cG,bK,dJ,bY,bM,z9,z9t,cD,cA,cJ,bZ,bW,b9,bX,bP,bN,bH,bL,bG,z8,bO,cV,bV,cU,cT,cR,ht]
   exact yes ⟨hok,fun h=>by rw[ht]at h;cases h⟩
  | true=>
   have hfit:x.fit:=Ms.Ok.fit (x:=⟨false,x.c,x.h⟩) (ns:=dS pr) ⟨hok,fun h=>by cases h⟩ hlt
   simp only[PP,P1,P2,P14,P15,simprocAttr,cC,cI,cG,bK,dJ,bY,bM,z9,z9t,cD,cA,cJ,bZ,bW,b9,bX,bP,bN,bH,bL,bG,z8,bO,cV,bV,cU,cT,cR,ht,NZ hfit VG]
   refine hk _ ?_
   rw[decide_eq_true_eq]
   constructor
   ·intro h;rw[h];exact N4 h8
   ·intro h;exact Ms.ext' ht (h.2 ht)
end
def nx (p:Bool):Int->Int->List Int->Int
 | least,most,[]=>if p=true then(if least<0 then-1 else least+1) else most+1
 | least,most,r::rs=>if r<0 then(if p=true then nx p least most rs else-1) else nx p (if least<0 then r else if r<least then r else least) (max most r) rs
section
variable {n:Nat} {P:Nat->Bool} {S:Nat->List Nat} {Z:Nat->Bool}
end
def Sf (su:List (List Int)) (v:Nat):List Nat:=(su.getD v []).map Int.toNat
theorem aB0 {ow pr:List Int} {su:List (List Int)} (V:Valid ow pr su) {v:Nat} (hv:v<ow.length):su.getD v []≠[]/\(su.getD v []).Pairwise (· < ·)/\∀u∈su.getD v [],0<=u/\u<ow.length:=by
 have hs:=V.s
 have hi:v<su.length:=by omega
 obtain⟨_,_,_,h1,q⟩:=V.row v hi
 have e:su.getD v []=su[v]:=by simp[List.getD,hi]
 obtain⟨q1,q2⟩:=lJ q
 rw[e]
 exact⟨fun h=>by rw[h]at h1;simp at h1,q1,fun u hu=>by have:=q2 u hu;omega⟩
theorem YG {ow pr:List Int} {su:List (List Int)} (V:Valid ow pr su) {v:Nat} (hv:v<ow.length):Sf su v≠[]/\(∀u∈Sf su v,u<ow.length)/\(Sf su v).Nodup:=by
 obtain⟨h1,h2,h3⟩:=aB0 V hv
 refine⟨fun h=>h1 (List.map_eq_nil_iff.1 h),fun u hu=>?_,?_⟩
 ·obtain⟨w,hw,rfl⟩:=List.mem_map.1 hu
  have:=h3 w hw;omega
 ·unfold Sf
  refine List.pairwise_map.2 (List.Pairwise.imp_of_mem ?_ h2)
  intro a b ha hb hab e
  have:=h3 a ha;have:=h3 b hb;omega
end Go.Am.Ar

