/- Plain: what is read is what was written, and what goes with it. -/
import Derived.Test.YtapbgleednkimaaGreatDoorBudgetFinishesG6
import Derived.Test.YtapbgleednkimaaGreatDoorPmC
set_option linter.unusedVariables false
set_option linter.unusedSimpArgs false
set_option maxRecDepth 10000
namespace Go.Am.Ar
open Go.Am.PV renaming junk->Zj
def RS.li(r:RS):List Int:=r.l.map fun n:Nat=>(n:Int)
theorem uJ(n:Nat)(l:List Nat):RS.next ⟨n::l,0,0⟩=(n,⟨l,0,0⟩):=rfl
theorem GO{n k:Nat}(h:n<=k)(l:List Nat):RS.small k ⟨n::l,0,0⟩=(n,⟨l,0,0⟩):=by unfold RS.small;rw[uJ];simp only;rw[if_neg (by omega),Nat.min_eq_left h]
theorem aEj{n:Nat}(h:n<=6)(l:List Nat):RS.vars ⟨n::l,0,0⟩=(n,⟨l,0,0⟩):=by unfold RS.vars;rw[uJ];simp only;rw[if_neg (by omega)]
abbrev tn(l:List Int):List Nat:=l.map Int.toNat
theorem kG{α:Type}{f:List α->RS->List α×RS}{enc:α->List Int} :∀(xs:List α) (s:List α) (rest:List Nat),(∀x∈xs,∀s rest,f s ⟨tn (enc x)++rest,0,0⟩=(s++[x],⟨rest,0,0⟩))->
  n8 f xs.length s ⟨tn (xs.flatMap enc)++rest,0,0⟩=(s++xs,⟨rest,0,0⟩)
 | [],s,rest,h=>by simp[n8]
 | x::xs,s,rest,h=>by
  rw[List.length_cons];unfold n8;rw[if_pos rfl];have e:tn ((x::xs).flatMap enc)++rest=tn (enc x)++(tn (xs.flatMap enc)++rest):=by simp
  rw[e,h x (by simp)];simp only;rw[kG xs _ rest fun y hy=>h y (by simp[hy])];simp
theorem QH{xs:List Int}(h:∀x∈xs,0<=x)(rest:List Nat):RS.list xs.length ⟨tn xs++rest,0,0⟩=(xs,⟨rest,0,0⟩):=by have:=kG (f:=fun out r=>(out++[((RS.next r).1:Int)],(RS.next r).2)) (enc:=fun x:Int=>[x]) xs [] rest (fun x hx s rest=>by have e:=h x hx;show(s++[((x.toNat:Nat):Int)],_)=_;rw[Int.toNat_of_nonneg e];rfl);simpa [RS.list]using this
theorem aHi{x:Eg}(h1:0<=x.fr)(h2:0<=x.to)(h3:0<=x.ps/\x.ps<=255)(h4:0<=x.ng/\x.ng<=255)(rest:List Nat):uV ⟨tn (egN x)++rest,0,0⟩=(x,⟨rest,0,0⟩):=by unfold uV egN;simp only[List.map_cons,List.map_nil,List.cons_append,List.nil_append,uJ,GO (show x.ps.toNat<=255 by omega),GO (show x.ng.toNat<=255 by omega)];have e1:=Int.toNat_of_nonneg h1;have e2:=Int.toNat_of_nonneg h2;have e3:=Int.toNat_of_nonneg h3.1;have e4:=Int.toNat_of_nonneg h4.1;rw[e1,e2,e3,e4]
def In.Pos:In->Prop
 | .g ow _ _=>∀x∈ow,0<=x
 | _=>True
theorem DZ{n:Int}{l:List Int}(h:eU n (-1) l=true):∀x∈l,0<=x/\x<n:=fun x hx=>by have:=gG h x hx;omega
theorem aFf{N:NF}(C:NOk N)(B:BnN N):RS.nfa ⟨tn (In.n N).nums,0,0⟩=(N,⟨[],0,0⟩):=by have v0:=C.v0;have v6:=C.v6;have n0:=C.n0;have q1:=fun rest=>QH (xs:=N.st) (fun x hx=>(DZ C.st x hx).1) rest;have q2:=fun rest=>QH (xs:=N.fi) (fun x hx=>(DZ C.fi x hx).1) rest;have q3:=kG (f:=fun out r=>(out++[(uV r).1],(uV r).2)) (enc:=egN) N.es [] [] (fun x hx s rest=>by obtain⟨e1,_,e3,_,_⟩:=C.ed x hx;obtain⟨b1,b2⟩:=B.b x hx;show(s++[(uV _).1],(uV _).2)=_;rw[aHi e1 e3 b1 b2]);rw[List.append_nil]at q3;unfold RS.nfa In.nums eA;simp only[List.map_cons,List.map_nil,List.map_append,List.cons_append,List.nil_append,List.append_assoc,aEj (show N.vs.toNat<=6 by omega),uJ,Int.toNat_natCast];rw[q1];simp only[uJ];rw[q2];simp only[uJ];rw[q3];rw[Int.toNat_of_nonneg v0,Int.toNat_of_nonneg n0];rfl
theorem aFV{D:DF}(C:OkD D):RS.dfa ⟨tn (In.d D).nums,0,0⟩=(D,⟨[],0,0⟩):=by
 have v0:=C.v0;have v6:=C.v6;have n0:=C.s0;have q1:=fun rest=>kG (f:=fun out r=>(out++[(RS.list (2^(min D.vs.toNat 6)) r).1],(RS.list (2^(min D.vs.toNat 6)) r).2)) (enc:=fun x:List Int=>x) D.nx [] rest (fun x hx s rest=>by
  obtain⟨r1,r2⟩:=C.r x hx;have e:2^(min D.vs.toNat 6)=x.length:=by
   rw[Nat.min_eq_left (by omega)];have:((2^D.vs.toNat:Nat):Int)=x.length:=by rw[r1];simp
   omega
  show(s++[(RS.list _ _).1],(RS.list _ _).2)=_;rw[e,QH (fun t ht=>(r2 t ht).1)])
 have q2:=kG (f:=fun out r=>(out++[decide ((RS.small 1 r).1=1)],(RS.small 1 r).2)) (enc:=fun b:Bool=>[b2I b]) D.fi [] [] (fun x hx s rest=>by
  cases x
  ·show(s++[decide ((RS.small 1 ⟨0::rest,0,0⟩).1=1)],(RS.small 1 ⟨0::rest,0,0⟩).2)=_;rw[GO (by omega)];rfl
  ·show(s++[decide ((RS.small 1 ⟨1::rest,0,0⟩).1=1)],(RS.small 1 ⟨1::rest,0,0⟩).2)=_;rw[GO (by omega)];rfl)
 rw[List.append_nil,C.f]at q2;unfold RS.dfa In.nums;simp only[List.map_cons,List.map_nil,List.map_append,List.cons_append,List.nil_append,List.append_assoc,aEj (show D.vs.toNat<=6 by omega),uJ,Int.toNat_natCast];have e1:(D.nx.flatten)=D.nx.flatMap fun x=>x:=by simp[List.flatMap]
 have e2:D.fi.map b2I=D.fi.flatMap fun b=>[b2I b]:=by
  induction D.fi with
  | nil=>rfl
  | cons b l ih=>simp[ih]
 rw[e1,q1];simp only;rw[e2,q2,Int.toNat_of_nonneg v0,Int.toNat_of_nonneg n0];rfl
theorem aDh{ow pr:List Int}{su:List (List Int)}(V:Valid ow pr su)(hp:∀x∈ow,0<=x):RS.game ⟨tn (In.g ow pr su).nums,0,0⟩=((ow,pr,su),⟨[],0,0⟩):=by
 have hrow:∀i,(hi:i<ow.length)->0<=pr.getD i 0/\ow.getD i 0<=1/\∀x,su[i]? =some x->∀t∈x,0<=t:=fun i hi=>by have hs:=V.s;obtain⟨a,b,c,d,e⟩:=V.row i (by omega);refine⟨a,c,fun x hx t ht=>?_⟩;rw[List.getElem?_eq_getElem (by omega)]at hx;cases hx;exact(DZ e t ht).1
 have ow1:∀x∈ow,x<=1:=fun x hx=>by obtain⟨i,hi⟩:=List.mem_iff_getElem?.1 hx;have hl:=aD hi;have:=(hrow i hl).2.1;rw[List.getD,hi]at this;exact this
 have pr0:∀x∈pr,0<=x:=fun x hx=>by obtain⟨i,hi⟩:=List.mem_iff_getElem?.1 hx;have hl:=aD hi;have hp:=V.p;have:=(hrow i (by omega)).1;rw[List.getD,hi]at this;exact this
 have su0:∀x∈su,∀t∈x,0<=t:=fun x hx=>by obtain⟨i,hi⟩:=List.mem_iff_getElem?.1 hx;have hl:=aD hi;have hs:=V.s;exact(hrow i (by omega)).2.2 x hi
 have q1:=fun rest=>kG (f:=fun out r=>(out++[((RS.small 255 r).1:Int)],(RS.small 255 r).2)) (enc:=fun x:Int=>[x]) ow [] rest (fun x hx s rest=>by have a:=ow1 x hx;have b:=hp x hx;show(s++[((RS.small 255 ⟨x.toNat::rest,0,0⟩).1:Int)],(RS.small 255 ⟨x.toNat::rest,0,0⟩).2)=_;rw[GO (by omega)];simp only;rw[Int.toNat_of_nonneg b]);have q2:=fun rest=>kG (f:=fun out r=>(out++[((RS.next r).1:Int)],(RS.next r).2)) (enc:=fun x:Int=>[x]) pr [] rest (fun x hx s rest=>by have b:=pr0 x hx;show(s++[((x.toNat:Nat):Int)],_)=_;rw[Int.toNat_of_nonneg b];rfl);have q3:=kG (f:=fun out r=>(out++[(RS.list (RS.next r).1 (RS.next r).2).1],(RS.list (RS.next r).1 (RS.next r).2).2)) (enc:=eA) su [] [] (fun x hx s rest=>by show(s++[(RS.list x.length ⟨tn x++rest,0,0⟩).1],(RS.list x.length ⟨tn x++rest,0,0⟩).2)=_;rw[QH (su0 x hx)]);have hfm:∀l:List Int,l.flatMap (fun x=>[x])=l:=fun l=>by
  induction l with
  | nil=>rfl
  | cons b l ih=>simp[ih]
 rw[List.append_nil,V.s]at q3;have q2:=fun rest=>q2 rest;rw[hfm,V.p]at q2;rw[hfm]at q1;unfold RS.game In.nums;simp only[List.map_cons,List.map_append,List.cons_append,List.append_assoc,uJ,Int.toNat_natCast];rw[q1];simp only;rw[q2];simp only;rw[q3];rfl
def j7(n:Int):Prop:=0<=n/\n<=2147483647
theorem lB{n:Int}(hn:0<=n){l:List Int}(h:eU n (-1) l=true):(l.length:Int)<=n:=by
 obtain⟨h1,h2⟩:=gZ h;have key:∀(l:List Int) (a:Int),l.Pairwise (· < ·)->(∀x∈l,a<x/\x<n)->(l.length:Int)<=max 0 (n-a-1):=by
  intro l
  induction l with
  | nil=>intro a _ _;simp;omega
  | cons x l ih=>intro a hp hx;have h1:=List.pairwise_cons.1 hp;have h2:=ih x h1.2 fun z hz=>⟨h1.1 z hz,(hx z (by simp[hz])).2⟩;have h3:=hx x (by simp);rw[List.length_cons];omega
 have:=key l (-1) h1 h2;omega
theorem DP{n:Int}(h0:0<=n)(hn:n<=5000){l:List Int}(h:eU n (-1) l=true):∀x∈eA l,j7 x:=fun x hx=>by
 have h1:=lB h0 h;rcases List.mem_cons.1 hx with rfl | hx
 ·exact⟨by omega,by omega⟩
 ·have:=DZ h x hx;exact⟨by omega,by omega⟩
theorem FS{ow pr:List Int}{su:List (List Int)}(V:Valid ow pr su):(∀x∈ow,x<=1)/\(∀x∈pr,0<=x/\x<=16)/\∀x∈su,eU ow.length (-1) x=true:=by
 have hs:=V.s;have hp:=V.p;refine⟨fun x hx=>?_,fun x hx=>?_,fun x hx=>?_⟩
 ·obtain⟨i,hi⟩:=List.mem_iff_getElem?.1 hx;have hl:=aD hi;have:=(V.row i (by omega)).2.2.1;rw[List.getD,hi]at this;exact this
 ·obtain⟨i,hi⟩:=List.mem_iff_getElem?.1 hx;have hl:=aD hi;have:=V.row i (by omega);rw[List.getD,hi]at this;exact⟨this.1,this.2.1⟩
 ·obtain⟨i,hi⟩:=List.mem_iff_getElem?.1 hx;have hl:=aD hi;have:=(V.row i (by omega)).2.2.2.2;rw[List.getElem?_eq_getElem (by omega)]at hi;cases hi;exact this
theorem In.nums_sm{i:In}(h0:i.chk=0)(hB:i.Bn)(hp:i.Pos):∀x∈i.nums,j7 x:=by
 cases i with
 | n N=>
  have C:=gK h0;have v0:=C.v0;have v6:=C.v6;have n0:=C.n0;have n64:=C.n64;have e5:=C.e512;intro x hx;unfold In.nums at hx;simp only[List.mem_append,List.mem_cons,List.not_mem_nil,or_false,List.mem_flatMap]at hx;rcases hx with(((rfl | rfl) | hx) | hx) | rfl | ⟨e,he,hx⟩
  ·exact⟨by omega,by omega⟩
  ·exact⟨by omega,by omega⟩
  ·exact DP n0 (by omega) C.st x hx
  ·exact DP n0 (by omega) C.fi x hx
  ·exact⟨by omega,by omega⟩
  ·obtain⟨e1,e2,e3,e4,_⟩:=C.ed e he;obtain⟨b1,b2⟩:=hB.b e he;unfold egN at hx;simp only[List.mem_cons,List.not_mem_nil,or_false]at hx;rcases hx with rfl | rfl | rfl | rfl<;>exact⟨by omega,by omega⟩
 | d D=>
  have C:=okD_iff.1 h0;have v0:=C.v0;have v6:=C.v6;have n0:=C.n0;have n1:=C.n1;have s0:=C.s0;have s1:=C.s1;intro x hx;unfold In.nums at hx;simp only[List.mem_append,List.mem_cons,List.not_mem_nil,or_false,List.mem_flatten,List.mem_map]at hx;rcases hx with((rfl | rfl | rfl) | ⟨r,hr,hx⟩) | ⟨b,_,rfl⟩
  ·exact⟨by omega,by omega⟩
  ·exact⟨by omega,by omega⟩
  ·exact⟨by omega,by omega⟩
  ·have:=(C.r r hr).2 x hx;exact⟨by omega,by omega⟩
  ·unfold b2I;split<;>exact⟨by omega,by omega⟩
 | g ow pr su=>
  have V:=dP h0;have n1:=V.n1;obtain⟨a1,a2,a3⟩:=FS V;intro x hx;unfold In.nums at hx;simp only[List.mem_append,List.mem_cons,List.mem_flatMap]at hx;rcases hx with((rfl | hx) | hx) | ⟨r,hr,hx⟩
  ·exact⟨by omega,by omega⟩
  ·have:=a1 x hx;have:=hp x hx;exact⟨by omega,by omega⟩
  ·have:=a2 x hx;exact⟨by omega,by omega⟩
  ·exact DP (n:=ow.length) (by omega) (by omega) (a3 r hr) x hx
theorem In.rd{i:In}(h0:i.chk=0)(hB:i.Bn)(hp:i.Pos):PL i.kw ⟨tn i.nums,0,0⟩=(i,⟨[],0,0⟩):=by
 have d1:kwM≠kwD:=by decide
 have d2:kwP≠kwD:=by decide
 have d3:kwP≠kwM:=by decide
 cases i with
 | n N=>unfold PL In.kw;rw[if_pos rfl,aFf (gK h0) hB]
 | d D=>unfold PL In.kw;simp only;rw[if_neg d1,if_pos trivial,aFV (okD_iff.1 h0)]
 | g ow pr su=>unfold PL In.kw;simp only;rw[if_neg d2,if_neg d3,aDh (dP h0) hp]
open Go.Am renaming pchk->P1,pold->P2,PKNo->P3,ppack->P4,PObj.under->P5,pput->P6,ptset->P7,ptget->P8,pev->P9,ofAV->P10,ofAV1->P11,ppad->P12,pfill->P13,bW->P14,AO.effect->P15
open List renaming replicate->L1
theorem UD{x:Int}(h:0<=x):QS x=aAy x.toNat:=by unfold QS IV aAy UP;rw[if_neg (by omega)]
abbrev wds(l:List Int):List ByteArray:=l.map fun x=>aAy x.toNat
abbrev wdM(b vb g vw:Nat)(xs:List ByteArray):Mem:=[.cells 0 vb [.ref (b+1) g 1 0 xs.length],.cells g vw (xs.map PV.str)]
section
variable {tab:FuncId->Option AF} (T:HasA tab)
include T
set_option maxHeartbeats 1000000 in
theorem mX{A G M:Mem}{K:PV->Mem->Prop}{f o:Bool}{vb g vw:Nat}{xs:List ByteArray}{l:List Int}(hM:M=A++(wdM A.length vb g vw xs++G))(hl:∀x∈l,j7 x)(h1:xs.length<1000000000)(h2:l.length<1000000000)
  (hk:∀vb' g' vw',K (.tuple []) (A++(wdM A.length vb' g' vw' (xs++wds l)++G))):SemC tab 61 [.ptr A.length 0 0,slI f o .i64 l] M K:=by
 subst hM;refine aT T.h61 ?_;simp only[af61,PP,simprocAttr,PT];refine pF (fun(k vb g vw:Nat)=>k<=l.length) (fun k vb g vw=>(.ptr A.length 0 0::zj 5++slI f o .i64 l::p64 l.length::p64 k::zj 13)) (fun k vb g vw=>A++(wdM A.length vb g vw (xs++wds (l.take k))++G)) (fun k vb g vw=>l.length-k) 0 vb g vw (by omega) (by simp only[PW]) (by simp) ?_;intro k vb g vw hk' ih;refine aM (by kernel_rfl) ?_;simp only[PP,simprocAttr];refine QIf.intro (fun c=>?_) (fun c=>?_);rotate_left
 ·have hkl:k=l.length:=by omega
  subst hkl;rw[List.take_of_length_le (Nat.le_refl _)];have hk:=hk vb g vw;simp only[PP,simprocAttr]at hk;simp only[PP,simprocAttr,c];exact hk
 have hlt:k<l.length:=by omega
 have hw:=aH (k:=k) (by show _<1000000000000;omega);have i0:(0:Int)<=k:=by omega
 obtain⟨x,gx⟩:=aO hlt;have hx:=hl x (List.mem_of_getElem? gx);unfold j7 at hx;have tk:(l.take k).length=k:=by rw[List.length_take];omega
 have b1:(xs.length+k+1)*16<=140737488355328:=by omega
 have b2:xs.length+k+1<=9223372036854775807:=by omega
 simp only[PP,simprocAttr,PT,c,i0,gx,gk,gk0,sk,sk0,wdM,tk];refine aDa T (by omega) (by omega) ?_;simp only[PP,simprocAttr,PT,gk,gk0,sk,sk0,hw,tk,b1,b2];have e:xs.length+k+1=xs.length+(k+1):=by omega
 have:=ih (k+1) (vb+1) (g+1) 0 (by omega) (by omega);rw[bL gx,UD hx.1]at*;simp only[PP,simprocAttr,tk,e]at this ⊢;refine bA this (by simp only[PW]) ?_;rw[aU _ _ (by simp;omega)];simp only[List.append_assoc,List.map_append,List.map_cons,List.map_nil]
set_option maxHeartbeats 1000000 in
theorem tO{A G M:Mem}{K:PV->Mem->Prop}{f o:Bool}{vb g vw:Nat}{xs:List ByteArray}{l:List Int}(hM:M=A++(wdM A.length vb g vw xs++G))(hl:∀x∈eA l,j7 x)(h1:xs.length<900000000)(h2:l.length<900000000)
  (hk:∀vb' g' vw',K (.tuple []) (A++(wdM A.length vb' g' vw' (xs++wds (eA l))++G))):SemC tab 62 [.ptr A.length 0 0,slI f o .i64 l] M K:=by
 subst hM;refine aT T.h62 ?_;simp only[af62,PP,simprocAttr,PT];refine mX T (f:=true) (o:=true) (l:=[(l.length:Int)]) (A:=A) (G:=G) (vb:=vb) (g:=g) (vw:=vw) (xs:=xs) (by simp only[PP,simprocAttr]) (fun x hx=>hl x (by unfold eA;simp at hx;simp[hx])) (by omega) (by simp) fun vb g vw=>?_;simp only[PP,simprocAttr,PT];refine mX T (f:=f) (o:=o) (l:=l) (A:=A) (G:=G) (vb:=vb) (g:=g) (vw:=vw) (xs:=xs++wds [(l.length:Int)]) (by simp only[PP,simprocAttr]) (fun x hx=>hl x (List.mem_cons_of_mem _ hx)) (by simp;omega) (by omega) fun vb g vw=>?_;have hk:=hk vb g vw;simp only[PP,simprocAttr,PT,eA,List.append_assoc]at hk ⊢;exact hk
end
end Go.Am.Ar
namespace Go.Am
theorem qI{tab:FuncId->Option AF}{m:Nat}{a:List PV}{M:Mem}{Qn Qr:List PV->Mem->Prop}{Qe:Nat->List PV->Mem->Prop}{c:AR}{x y:AC}(hc:pev a c= .bool false)(h:bQ tab m y a M Qn Qr Qe):bQ tab m (.cond c x y) a M Qn Qr Qe:=by intro w hh a' h0 hm s ha;rw[FD];have hv:=aK ha c;rw[hc]at hv;refine⟨false,iK hv,?_⟩;rw[if_neg (by simp)];exact h w hh a' h0 hm s ha
end Go.Am
namespace Go.Am.Ar
open Go.Am.PV renaming junk->Zj
open Go.Am renaming pchk->P1,pold->P2,PKNo->P3,ppack->P4,PObj.under->P5,pput->P6,ptset->P7,ptget->P8,pev->P9,ofAV->P10,ofAV1->P11,ppad->P12,pfill->P13,bW->P14,AO.effect->P15
open List renaming replicate->L1
def In.txtS(i:In)(u:Nat):ByteArray:=⟨(i.txt u).toArray⟩
theorem Z4(i:In)(u:Nat):(⟨(Lib.join (((⟨i.kw.toArray⟩:ByteArray)::wds ((u:Int)::i.nums)).map (·.data.toList)) [32]).toArray⟩:ByteArray)=i.txtS u:=by rw[IO];unfold In.txtS In.txt;congr 3;simp[aAy]
theorem kT{A G:Mem}{b vb g vw n:Nat}{xs:List ByteArray}{cs:List PV}(h1:n=xs.length)(h2:cs=xs.map PV.str):A++PObj.cells 0 vb [.ref (b+1) g 1 0 n]::PObj.cells g vw cs::G=A++(wdM b vb g vw xs++G):=by subst h1;subst h2;rfl
theorem Q3:∀k u,(dig k u).length<=k
 | 0,_=>Nat.le_refl _
 | k+1,u=>by
  unfold dig;split
  ·simp
  ·rw[List.length_append,List.length_singleton];have:=Q3 k (u / 10);omega
theorem O2:∀l:List Int,((l.map fun n:Int=>UP n.toNat).flatMap fun x=>32::x).length<=21*l.length
 | []=>by simp
 | x::l=>by have:=O2 l;have h:=Q3 20 x.toNat;simp only[List.map_cons,List.flatMap_cons,List.length_append,List.length_cons];have:(UP x.toNat).length<=20:=h;omega
theorem aB5(i:In)(u:Nat):(i.txt u).length<=32+21*i.nums.length:=by
 have h:=O2 ((u:Int)::i.nums);have hk:i.kw.length<=11:=by cases i<;>simp[In.kw,kwD,kwM,kwP]
 have:(i.txt u).length=i.kw.length+((((u:Int)::i.nums).map fun n:Int=>UP n.toNat).flatMap fun x=>32::x).length:=by unfold In.txt IP;rw[List.length_append]
 rw[List.length_cons]at h;omega
section
variable {tab:FuncId->Option AF} (T:HasA tab)
include T
omit T in
theorem v8:∀l:List Eg,(l.flatMap egN).length=4*l.length
 | []=>rfl
 | e::l=>by rw[List.flatMap_cons,List.length_append,v8 l];simp[egN];omega
theorem K1{M:Mem}{K:PV->Mem->Prop}{i:In}{u id g ver n:Nat}{cs:List PV}(hM:M[id]? =some (.cells g ver cs))(hn:n=cs.length)(hcs:cs= .str ⟨i.kw.toArray⟩::((u:Int)::i.nums).map fun x=>PV.str (aAy x.toNat))(hl:i.nums.length<1000000000)(hk:K (.str (i.txtS u)) M):
  SemC tab 63 [.ref id g 1 0 n,.str ⟨#[32]⟩] M K:=by
 have e:cs=((⟨i.kw.toArray⟩:ByteArray)::wds ((u:Int)::i.nums)).map PV.str:=by rw[hcs];simp
 have hlen:n=((⟨i.kw.toArray⟩:ByteArray)::wds ((u:Int)::i.nums)).length:=by rw[hn,e,List.length_map]
 rw[e]at hM;rw[hlen];have h32:(⟨#[32]⟩:ByteArray).data.toList=[32]:=rfl;have ht:=aB5 i u;have hj:Lib.join (((⟨i.kw.toArray⟩:ByteArray)::wds ((u:Int)::i.nums)).map (·.data.toList)) [32]=i.txt u:=by have:=Z4 i u;unfold In.txtS at this;have:=congrArg (fun b:ByteArray=>b.data.toList) this;simpa using this
 refine aC9 T hM (by simp;omega) (by rw[h32,hj];omega) ?_;rw[h32,hj];exact hk
set_option maxHeartbeats 4000000 in
theorem aEZ{M:Mem}{K:PV->Mem->Prop}{j w v vw:Nat}{u:Nat}{f1 o1 f2 o2 f3 o3:Bool}{N:NF}{rest:List PV}
  (hj:M[j]? =some (.cells 0 v [.iface 116 (.ptr w 0 0),p64 (u:Int)])) (hw:M[w]? =some (.cells 0 vw (nfC f1 o1 f2 o2 f3 o3 N++rest)))
  (hn:∀x∈(In.n N).nums,j7 x) (hu:u<=2147483647) (hc:M.all (aI M.length)=true) (hB:N.st.length<100000000/\N.fi.length<100000000/\N.es.length<100000000)
  (hk:K (.str ((In.n N).txtS u)) M):SemC tab 23 [.ptr j 0 0] M K:=by
 have gj:=fun l=>bY hj l;have gw:=fun l=>bY hw l;refine dC (dV T.h23 ?_);simp only[af23];refine aB (aA ?_);simp only[PP,simprocAttr,PI,PT];refine aB (aA ?_);simp only[PP,simprocAttr,PI,PT,hj];refine aB (aA ?_);simp only[PP,simprocAttr,PI,PT,hj];refine aB ?_;refine aB (aA ?_);simp only[PP,simprocAttr,PI,PT,gj];refine jZ (aB (aA ?_));simp only[PP,simprocAttr,PI,PT,gj];refine qH rfl ?_;refine aB (aA ?_);simp only[PP,simprocAttr];refine aB (mR 0 rfl ?_);simp only[PP,simprocAttr,PT,Option.some.injEq,exists_eq_left',List.append_assoc,gk,gk0,sk,sk0];refine aA ?_;simp only[PP,simprocAttr,PI,PT,gj,gw,gk,gk0,sk,sk0];have hb1:N.st.length<100000000/\N.fi.length<100000000/\N.es.length<100000000:=by exact hB
 have m1:∀x∈[(u:Int),N.vs,N.n],j7 x:=fun x hx=>by
  simp only[List.mem_cons,List.not_mem_nil,or_false]at hx;rcases hx with rfl | rfl | rfl
  ·exact⟨by omega,by omega⟩
  ·exact hn _ (by unfold In.nums;simp)
  ·exact hn _ (by unfold In.nums;simp)
 have m2:∀x∈eA N.st,j7 x:=fun x hx=>hn x (by unfold In.nums;simp only[List.mem_append];exact .inl (.inl (.inr hx)));have m3:∀x∈eA N.fi,j7 x:=fun x hx=>hn x (by unfold In.nums;simp only[List.mem_append];exact .inl (.inr hx));have m4:∀x∈[(N.es.length:Int)],j7 x:=fun x hx=>by
  rw[List.mem_singleton]at hx;exact hn x (by unfold In.nums;simp[hx])
 have m5:∀e∈N.es,∀x∈egN e,j7 x:=fun e he x hx=>hn x (by unfold In.nums;simp only[List.mem_append,List.mem_cons,List.mem_flatMap];exact .inr (.inr ⟨e,he,hx⟩));refine mX T (f:=true) (o:=true) (l:=[(u:Int),N.vs,N.n]) (A:=M) (G:=[]) (vb:=1) (g:=0) (vw:=0) (xs:=[⟨kwD.toArray⟩]) (by simp only[PP,simprocAttr];rfl) m1 (by simp) (by simp) fun vb g vw=>?_;simp only[PP,simprocAttr,PI,PT,gj,gw,gk,gk0,sk,sk0];refine tO T (f:=f1) (o:=o1) (l:=N.st) (A:=M) (G:=[]) (vb:=vb) (g:=g) (vw:=vw) (xs:=[⟨kwD.toArray⟩]++wds [(u:Int),N.vs,N.n]) (by simp only[PP,simprocAttr]) m2 (by simp) (by omega) fun vb g vw=>?_;simp only[PP,simprocAttr,PI,PT,gj,gw,gk,gk0,sk,sk0];refine tO T (f:=f2) (o:=o2) (l:=N.fi) (A:=M) (G:=[]) (vb:=vb) (g:=g) (vw:=vw) (xs:=[⟨kwD.toArray⟩]++wds [(u:Int),N.vs,N.n]++wds (eA N.st)) (by simp only[PP,simprocAttr]) m3 (by simp[eA];omega) (by omega) fun vb g vw=>?_;simp only[PP,simprocAttr,PI,PT,gj,gw,gk,gk0,sk,sk0];refine mX T (f:=true) (o:=true) (l:=[(N.es.length:Int)]) (A:=M) (G:=[]) (vb:=vb) (g:=g) (vw:=vw) (xs:=[⟨kwD.toArray⟩]++wds [(u:Int),N.vs,N.n]++wds (eA N.st)++wds (eA N.fi)) (by simp only[PP,simprocAttr]) m4 (by simp[eA];omega) (by simp) fun vb g vw=>?_;simp only[PP,simprocAttr,PI,PT,gj,gw,gk,gk0,sk,sk0];refine ZA (fun(k vb g vw:Nat) (G:Mem)=>k<=N.es.length) (fun k vb g vw G=>(zj 3++ .ptr M.length 0 0::zj 63++slE f3 o3 N.es::p64 N.es.length::p64 k::zj 123))
  (fun k vb g vw G=>M++(wdM M.length vb g vw ([⟨kwD.toArray⟩]++wds [(u:Int),N.vs,N.n]++wds (eA N.st)++wds (eA N.fi)++wds [(N.es.length:Int)]++wds ((N.es.take k).flatMap egN))++G)) (fun k vb g vw G=>N.es.length-k) 0 vb g vw [] (by omega) (by simp only[PW]) (by simp) ?_
 intro k vb g vw G hk' ih;refine aM (by kernel_rfl) ?_;simp only[PP,simprocAttr];refine QIf.intro (fun c=>?_) (fun c=>?_);rotate_left
 ·have hkl:k=N.es.length:=by omega
  subst hkl;rw[List.take_of_length_le (Nat.le_refl _)];simp only[PP,simprocAttr,c];refine aA ?_;simp only[PP,simprocAttr,PT,gk,gk0,sk,sk0];refine K1 T (i:= .n N) (u:=u) (by rw[gk];rfl) (by simp;omega) (by simp[In.nums,eA,In.kw,Function.comp_def]) (by unfold In.nums eA;simp only[List.length_append,List.length_cons,List.length_nil,v8];omega) ?_;simp only[PP,simprocAttr,PT];refine Gh.step (GStep.dropM (b:=[.str ((In.n N).txtS u)]) (N:=M) M.length (Nat.le_refl _) (by simp) (by simp only[PW]) (by simp[aC,PV.under]) ?_ (List.take_left' rfl)) (Gh.same ⟨_,rfl,hk⟩);exact(congrArg (fun N:Mem=>N.all (aI M.length)) (List.take_left' rfl)).trans hc
 have hlt:k<N.es.length:=by omega
 have hw:=aH (k:=k) (by show _<1000000000000;omega);have i0:(0:Int)<=k:=by omega
 obtain⟨x,gx⟩:=aO hlt;have he:aY (egL N.es) (k*4) 4=egC x:=xG gx;have b4:k*4+4<=(egL N.es).length:=by rw[iH];omega
 have hx:=m5 x (List.mem_of_getElem? gx);have x1:=hx x.ps (by simp[egN]);have x2:=hx x.ng (by simp[egN]);unfold j7 at x1 x2;have w1:IntKind.i64.wrap x.ps=x.ps:=by rw[wrap64]<;>omega
 have w2:IntKind.i64.wrap x.ng=x.ng:=by rw[wrap64]<;>omega
 simp only[PP,simprocAttr,PT,c,i0,gx,gk,gk0,sk,sk0,he,b4,List.append_assoc,egC,w1,w2];refine mX T (f:=true) (o:=true) (l:=egN x) (A:=M) (G:=G++[.cells 0 1 (egC x)]) (vb:=vb) (g:=g) (vw:=vw) (xs:=[⟨kwD.toArray⟩]++wds [(u:Int),N.vs,N.n]++wds (eA N.st)++wds (eA N.fi)++wds [(N.es.length:Int)]++wds ((N.es.take k).flatMap egN)) (kT (by simp;omega) (by simp)) hx (by have h3:=v8 (N.es.take k);rw[List.length_take]at h3;simp only[PP,simprocAttr,eA,h3];omega) (by simp[egN]) fun vb g vw=>?_;simp only[PP,simprocAttr,PT,hw];refine bA (ih (k+1) vb g vw (G++[.cells 0 1 (egC x)]) (by omega) (by omega)) (by simp only[PW]) ?_;rw[bL gx];simp only[List.append_assoc];exact kT (by simp;omega) (by simp)
end
section
variable {tab:FuncId->Option AF} (T:HasA tab)
include T
set_option maxHeartbeats 4000000 in
theorem aEY{M:Mem}{K:PV->Mem->Prop}{j w v vw:Nat}{u:Nat}{f1 o1 f2 o2 f3 o3:Bool}{D:DF}{rest:List PV}
  (hj:M[j]? =some (.cells 0 v [.iface 122 (.ptr w 0 0),p64 (u:Int)])) (hw:M[w]? =some (.cells 0 vw (dfC f1 o1 f2 o2 f3 o3 D++rest)))
  (hn:∀x∈(In.d D).nums,j7 x) (hu:u<=2147483647) (hc:M.all (aI M.length)=true) (hB:(In.d D).nums.length<100000000)
  (hk:K (.str ((In.d D).txtS u)) M):SemC tab 23 [.ptr j 0 0] M K:=by
 have gj:=fun l=>bY hj l;have gw:=fun l=>bY hw l;have nl:3+D.nx.flatten.length+D.fi.length<100000000:=by unfold In.nums at hB;simp only[List.length_append,List.length_cons,List.length_nil,List.length_map]at hB;omega
 have m1:∀x∈[(u:Int),D.vs,D.st,(D.nx.length:Int)],j7 x:=fun x hx=>by
  rcases List.mem_cons.1 hx with rfl | hx
  ·exact⟨by omega,by omega⟩
  ·exact hn _ (by unfold In.nums;simp only[List.mem_append];exact .inl (.inl hx))
 have nb:D.nx.length<=2147483647:=by have:=m1 (D.nx.length:Int) (by simp);unfold j7 at this;omega
 have m2:∀r∈D.nx,∀x∈r,j7 x:=fun r hr x hx=>hn x (by unfold In.nums;simp only[List.mem_append,List.mem_flatten];exact .inl (.inr ⟨r,hr,hx⟩));have tkl:∀k,((D.nx.take k).flatten).length<=D.nx.flatten.length:=fun k=>by
  have:=congrArg (fun l:List (List Int)=>l.flatten.length) (List.take_append_drop k D.nx);simp only[List.flatten_append,List.length_append]at this;omega
 refine dC (dV T.h23 ?_);simp only[af23];refine aB (aA ?_);simp only[PP,simprocAttr,PI,PT];refine aB (aA ?_);simp only[PP,simprocAttr,PI,PT,hj];refine aB (aA ?_);simp only[PP,simprocAttr,PI,PT,hj];refine aB ?_;refine aB (aA ?_);simp only[PP,simprocAttr,PI,PT,gj];refine jZ (aB (aA ?_));simp only[PP,simprocAttr,PI,PT,gj];refine qI rfl ?_;refine aB (aA ?_);simp only[PP,simprocAttr,PI,PT,gj];refine qH rfl ?_;refine aB (aA ?_);simp only[PP,simprocAttr];refine aB (mR 0 rfl ?_);simp only[PP,simprocAttr,PT,Option.some.injEq,exists_eq_left',List.append_assoc,gk,gk0,sk,sk0];refine aA ?_;simp only[PP,simprocAttr,PI,PT,gj,gw,gk,gk0,sk,sk0];refine mX T (f:=true) (o:=true) (l:=[(u:Int),D.vs,D.st,(D.nx.length:Int)]) (A:=M) (G:=[]) (vb:=1) (g:=0) (vw:=0) (xs:=[⟨kwM.toArray⟩]) (by simp only[PP,simprocAttr];rfl) m1 (by simp) (by simp) fun vb g vw=>?_;simp only[PP,simprocAttr,PI,PT,gj,gw,gk,gk0,sk,sk0];refine pF (fun(k vb g vw:Nat)=>k<=D.nx.length) (fun k vb g vw=>(zj 3++ .ptr M.length 0 0::zj 3++ .ptr w 0 0::zj 108++slR f1 o1 f2 o2 .i64 D.nx::p64 D.nx.length::p64 k::zj 74))
  (fun k vb g vw=>M++(wdM M.length vb g vw ([⟨kwM.toArray⟩]++wds [(u:Int),D.vs,D.st,(D.nx.length:Int)]++wds ((D.nx.take k).flatten))++[])) (fun k vb g vw=>D.nx.length-k) 0 vb g vw (by omega) (by simp only[PW]) (by simp) ?_
 intro k vb g vw hk' ih;refine aM (by kernel_rfl) ?_;simp only[PP,simprocAttr];refine QIf.intro (fun c=>?_) (fun c=>?_)
 ·have hlt:k<D.nx.length:=by omega
  have hw:=aH (k:=k) (by show _<1000000000000;omega);have i0:(0:Int)<=k:=by omega
  obtain⟨x,gx⟩:=aO hlt;have hx:=m2 x (List.mem_of_getElem? gx);have h2:=tkl k;have h3:=tkl (k+1);rw[bL gx,List.flatten_append,List.length_append]at h3;simp only[List.flatten_cons,List.flatten_nil,List.append_nil]at h3;simp only[PP,simprocAttr,PT,c,i0,gx,gk,gk0,sk,sk0];refine mX T (f:=f2) (o:=o2) (l:=x) (A:=M) (G:=[]) (vb:=vb) (g:=g) (vw:=vw) (xs:=[⟨kwM.toArray⟩]++wds [(u:Int),D.vs,D.st,(D.nx.length:Int)]++wds ((D.nx.take k).flatten)) (kT (by simp) (by simp)) hx (by simp only[PP,simprocAttr];omega) (by omega) fun vb g vw=>?_;simp only[PP,simprocAttr,PT,hw];refine bA (ih (k+1) vb g vw (by omega) (by omega)) (by simp only[PW]) ?_;rw[bL gx];refine kT (by simp<;>omega) (by simp)
 ·have hkl:k=D.nx.length:=by omega
  subst hkl;rw[List.take_of_length_le (Nat.le_refl _)];simp only[PP,simprocAttr,PT,c,gj,gw,gk,gk0,sk,sk0];refine pF (fun(k vb g vw:Nat)=>k<=D.fi.length) (fun k vb g vw=>(zj 3++ .ptr M.length 0 0::zj 125++slB f3 o3 D.fi::p64 D.fi.length::p64 k::zj 61))
   (fun k vb g vw=>M++(wdM M.length vb g vw ([⟨kwM.toArray⟩]++wds [(u:Int),D.vs,D.st,(D.nx.length:Int)]++wds D.nx.flatten++wds ((D.fi.take k).map b2I))++[])) (fun k vb g vw=>D.fi.length-k) 0 vb g vw (by omega) (by simp only[PW]) (by simp) ?_
  intro k vb g vw hk' ih;refine aM (by kernel_rfl) ?_;simp only[PP,simprocAttr];refine QIf.intro (fun c=>?_) (fun c=>?_)
  ·have hlt:k<D.fi.length:=by omega
   have hw:=aH (k:=k) (by show _<1000000000000;omega);have i0:(0:Int)<=k:=by omega
   obtain⟨x,gx⟩:=aO hlt;have tk:(D.fi.take k).length=k:=by rw[List.length_take];omega
   simp only[PP,simprocAttr,PT,c,i0,gx,gk,gk0,sk,sk0];cases x
   ·simp only[PP,simprocAttr,PT,c,i0,gx,gk,gk0,sk,sk0];refine mX T (f:=true) (o:=true) (l:=[0]) (A:=M) (G:=[]) (vb:=vb) (g:=g) (vw:=vw) (xs:=[⟨kwM.toArray⟩]++wds [(u:Int),D.vs,D.st,(D.nx.length:Int)]++wds D.nx.flatten++wds ((D.fi.take k).map b2I)) (kT (by simp) (by simp)) (fun x hx=>by rw[List.mem_singleton]at hx;subst hx;exact⟨by omega,by omega⟩) (by simp only[PP,simprocAttr,tk];omega) (by simp) fun vb g vw=>?_;simp only[PP,simprocAttr,PT,hw];refine bA (ih (k+1) vb g vw (by omega) (by omega)) (by simp only[PW]) ?_;rw[bL gx];refine kT (by simp<;>omega) (by simp[b2I])
   ·simp only[PP,simprocAttr,PT,c,i0,gx,gk,gk0,sk,sk0];refine mX T (f:=true) (o:=true) (l:=[1]) (A:=M) (G:=[]) (vb:=vb) (g:=g) (vw:=vw) (xs:=[⟨kwM.toArray⟩]++wds [(u:Int),D.vs,D.st,(D.nx.length:Int)]++wds D.nx.flatten++wds ((D.fi.take k).map b2I)) (kT (by simp) (by simp)) (fun x hx=>by rw[List.mem_singleton]at hx;subst hx;exact⟨by omega,by omega⟩) (by simp only[PP,simprocAttr,tk];omega) (by simp) fun vb g vw=>?_;simp only[PP,simprocAttr,PT,hw];refine bA (ih (k+1) vb g vw (by omega) (by omega)) (by simp only[PW]) ?_;rw[bL gx];refine kT (by simp<;>omega) (by simp[b2I])
  ·have hkl:k=D.fi.length:=by omega
   subst hkl;rw[List.take_of_length_le (Nat.le_refl _)];simp only[PP,simprocAttr,c];refine aA ?_;simp only[PP,simprocAttr,PT,gk,gk0,sk,sk0];refine K1 T (i:= .d D) (u:=u) (by rw[gk];rfl) (by simp only[List.length_cons,List.length_append,List.length_map,List.length_nil]) (by simp[In.nums,In.kw,Function.comp_def]) (by omega) ?_;simp only[PP,simprocAttr,PT];refine Gh.step (GStep.dropM (b:=[.str ((In.d D).txtS u)]) (N:=M) M.length (Nat.le_refl _) (by simp) (by simp only[PW]) (by simp[aC,PV.under]) ?_ (List.take_left' rfl)) (Gh.same ⟨_,rfl,hk⟩);exact(congrArg (fun N:Mem=>N.all (aI M.length)) (List.take_left' rfl)).trans hc
end
section
variable {tab:FuncId->Option AF} (T:HasA tab)
include T
set_option maxHeartbeats 4000000 in
theorem aEX{M:Mem}{K:PV->Mem->Prop}{j w v vw:Nat}{u:Nat}{f1 o1 f2 o2 f3 o3 f4 o4:Bool}{ow pr:List Int}{su:List (List Int)}{rest:List PV}
  (hj:M[j]? =some (.cells 0 v [.iface 125 (.ptr w 0 0),p64 (u:Int)])) (hw:M[w]? =some (.cells 0 vw ([slI f1 o1 .u8 ow,slI f2 o2 .i64 pr,slR f3 o3 f4 o4 .i64 su]++rest)))
  (hn:∀x∈(In.g ow pr su).nums,j7 x) (hu:u<=2147483647) (hc:M.all (aI M.length)=true) (hB:(In.g ow pr su).nums.length<100000000)
  (hk:K (.str ((In.g ow pr su).txtS u)) M):SemC tab 23 [.ptr j 0 0] M K:=by
 have gj:=fun l=>bY hj l;have gw:=fun l=>bY hw l;have nl:1+ow.length+pr.length+(su.flatMap eA).length<100000000:=by unfold In.nums at hB;simp only[List.length_append,List.length_cons]at hB;omega
 have m1:∀x∈[(u:Int),(ow.length:Int)],j7 x:=fun x hx=>by
  simp only[List.mem_cons,List.not_mem_nil,or_false]at hx;rcases hx with rfl | rfl
  ·exact⟨by omega,by omega⟩
  ·exact hn _ (by unfold In.nums;simp)
 have m2:∀x∈ow,j7 x:=fun x hx=>hn x (by unfold In.nums;simp[hx]);have m3:∀x∈pr,j7 x:=fun x hx=>hn x (by unfold In.nums;simp[hx]);have m4:∀r∈su,∀x∈eA r,j7 x:=fun r hr x hx=>hn x (by unfold In.nums;simp only[List.mem_append,List.mem_flatMap];exact .inr ⟨r,hr,hx⟩);have tkl:∀k,((su.take k).flatMap eA).length<=(su.flatMap eA).length:=fun k=>by
  have:=congrArg (fun l:List (List Int)=>(l.flatMap eA).length) (List.take_append_drop k su);simp only[List.flatMap_append,List.length_append]at this;omega
 have hsl:su.length<=(su.flatMap eA).length:=by
  clear tkl m4 hn hk nl hB hw gw
  induction su with
  | nil=>simp
  | cons r l ih=>simp only[List.flatMap_cons,List.length_append,List.length_cons,eA]at ih ⊢;omega
 refine dC (dV T.h23 ?_);simp only[af23];refine aB (aA ?_);simp only[PP,simprocAttr,PI,PT];refine aB (aA ?_);simp only[PP,simprocAttr,PI,PT,hj];refine aB (aA ?_);simp only[PP,simprocAttr,PI,PT,hj];refine aB ?_;refine aB (aA ?_);simp only[PP,simprocAttr,PI,PT,gj];refine jZ (aB (aA ?_));simp only[PP,simprocAttr,PI,PT,gj];refine qI rfl ?_;refine aB (aA ?_);simp only[PP,simprocAttr,PI,PT,gj];refine qI rfl ?_;refine aB (aA ?_);simp only[PP,simprocAttr,PI,PT,gj];refine qH rfl ?_;refine aB (aA ?_);simp only[PP,simprocAttr];refine aB (mR 0 rfl ?_);simp only[PP,simprocAttr,PT,Option.some.injEq,exists_eq_left',List.append_assoc,gk,gk0,sk,sk0];refine aA ?_;simp only[PP,simprocAttr,PI,PT,gj,gw,gk,gk0,sk,sk0];refine mX T (f:=true) (o:=true) (l:=[(u:Int),(ow.length:Int)]) (A:=M) (G:=[]) (vb:=1) (g:=0) (vw:=0) (xs:=[⟨kwP.toArray⟩]) (by simp only[PP,simprocAttr];rfl) m1 (by simp) (by simp) fun vb g vw=>?_;simp only[PP,simprocAttr,PI,PT,gj,gw,gk,gk0,sk,sk0];refine pF (fun(k vb g vw:Nat)=>k<=ow.length) (fun k vb g vw=>(zj 3++ .ptr M.length 0 0::zj 8++ .ptr w 0 0::zj 148++slI f1 o1 .u8 ow::p64 ow.length::p64 k::zj 29))
  (fun k vb g vw=>M++(wdM M.length vb g vw ([⟨kwP.toArray⟩]++wds [(u:Int),(ow.length:Int)]++wds (ow.take k))++[])) (fun k vb g vw=>ow.length-k) 0 vb g vw (by omega) (by simp only[PW]) (by simp) ?_
 intro k vb g vw hk' ih;refine aM (by kernel_rfl) ?_;simp only[PP,simprocAttr];refine QIf.intro (fun c=>?_) (fun c=>?_)
 ·have hlt:k<ow.length:=by omega
  have hw:=aH (k:=k) (by show _<1000000000000;omega);have i0:(0:Int)<=k:=by omega
  obtain⟨x,gx⟩:=aO hlt;have hx:=m2 x (List.mem_of_getElem? gx);have hx':=hx;unfold j7 at hx';have w1:IntKind.i64.wrap x=x:=by rw[wrap64]<;>omega
  have tk:(ow.take k).length=k:=by rw[List.length_take];omega
  simp only[PP,simprocAttr,PT,c,i0,gx,gk,gk0,sk,sk0,w1];refine mX T (f:=true) (o:=true) (l:=[x]) (A:=M) (G:=[]) (vb:=vb) (g:=g) (vw:=vw) (xs:=[⟨kwP.toArray⟩]++wds [(u:Int),(ow.length:Int)]++wds (ow.take k)) (kT (by simp) (by simp)) (fun y hy=>by rw[List.mem_singleton]at hy;subst hy;exact hx) (by simp only[PP,simprocAttr,tk];omega) (by simp) fun vb g vw=>?_;simp only[PP,simprocAttr,PT,hw];refine bA (ih (k+1) vb g vw (by omega) (by omega)) (by simp only[PW]) ?_;rw[bL gx];refine kT (by simp<;>omega) (by simp)
 ·have hkl:k=ow.length:=by omega
  subst hkl;rw[List.take_of_length_le (Nat.le_refl _)];simp only[PP,simprocAttr,PT,c,gj,gw,gk,gk0,sk,sk0];refine mX T (f:=f2) (o:=o2) (l:=pr) (A:=M) (G:=[]) (vb:=vb) (g:=g) (vw:=vw) (xs:=[⟨kwP.toArray⟩]++wds [(u:Int),(ow.length:Int)]++wds ow) (kT (by simp) (by simp)) m3 (by simp only[PP,simprocAttr];omega) (by omega) fun vb g vw=>?_;simp only[PP,simprocAttr,PI,PT,gj,gw,gk,gk0,sk,sk0];refine pF (fun(k vb g vw:Nat)=>k<=su.length) (fun k vb g vw=>(zj 3++ .ptr M.length 0 0::zj 178++slR f3 o3 f4 o4 .i64 su::p64 su.length::p64 k::zj 8))
   (fun k vb g vw=>M++(wdM M.length vb g vw ([⟨kwP.toArray⟩]++wds [(u:Int),(ow.length:Int)]++wds ow++wds pr++wds ((su.take k).flatMap eA))++[])) (fun k vb g vw=>su.length-k) 0 vb g vw (by omega) (by simp only[PW]) (by simp) ?_
  intro k vb g vw hk' ih;refine aM (by kernel_rfl) ?_;simp only[PP,simprocAttr];refine QIf.intro (fun c=>?_) (fun c=>?_)
  ·have hlt:k<su.length:=by omega
   have hw:=aH (k:=k) (by show _<1000000000000;omega);have i0:(0:Int)<=k:=by omega
   obtain⟨x,gx⟩:=aO hlt;have hx:=m4 x (List.mem_of_getElem? gx);have h2:=tkl k;have h3:=tkl (k+1);rw[bL gx,List.flatMap_append,List.length_append]at h3;simp only[List.flatMap_cons,List.flatMap_nil,List.append_nil,eA,List.length_cons]at h3;simp only[PP,simprocAttr,PT,c,i0,gx,gk,gk0,sk,sk0];refine tO T (f:=f4) (o:=o4) (l:=x) (A:=M) (G:=[]) (vb:=vb) (g:=g) (vw:=vw) (xs:=[⟨kwP.toArray⟩]++wds [(u:Int),(ow.length:Int)]++wds ow++wds pr++wds ((su.take k).flatMap eA)) (kT (by simp) (by simp)) hx (by simp only[PP,simprocAttr];omega) (by omega) fun vb g vw=>?_;simp only[PP,simprocAttr,PT,hw];refine bA (ih (k+1) vb g vw (by omega) (by omega)) (by simp only[PW]) ?_;rw[bL gx];refine kT (by simp<;>omega) (by simp)
  ·have hkl:k=su.length:=by omega
   subst hkl;rw[List.take_of_length_le (Nat.le_refl _)];simp only[PP,simprocAttr,c];refine aA ?_;simp only[PP,simprocAttr,PT,gk,gk0,sk,sk0];refine K1 T (i:= .g ow pr su) (u:=u) (by rw[gk];rfl) (by simp only[List.length_cons,List.length_append,List.length_map,List.length_nil]) (by simp[In.nums,In.kw,Function.comp_def]) (by omega) ?_;simp only[PP,simprocAttr,PT];refine Gh.step (GStep.dropM (b:=[.str ((In.g ow pr su).txtS u)]) (N:=M) M.length (Nat.le_refl _) (by simp) (by simp only[PW]) (by simp[aC,PV.under]) ?_ (List.take_left' rfl)) (Gh.same ⟨_,rfl,hk⟩);exact(congrArg (fun N:Mem=>N.all (aI M.length)) (List.take_left' rfl)).trans hc
end
structure JobF (tab:FuncId->Option AF) (jid b L:Nat) (i:In) (StF:Mem->Nat->Mem->Prop):Prop where
 X:∀A:Mem,A.length=b->A.all (aI b)=true->JobX tab jid 10 i.done i.fails (StF A) L i.rp
 sav:∀A:Mem,A.length=b->A.all (aI b)=true->∀m M,StF A m M->m<=2147483647->∀(S:Mem) (K:PV->Mem->Prop),K (.str (i.txtS m)) (M++S)->SemC tab 23 [.ptr jid 0 0] (M++S) K
 pre:∀A m M,StF A m M->∃X,M=A++X
 bas:∀(A A':Mem) m X,A.length=b->A'.length=b->StF A m (A++X)->StF A' m (A'++X)
def In.Bw:In->Prop
 | .n N=>BnN N
 | .d D=>BnD D
 | .g ow pr su=>Bnd ow pr su
def In.B99:In->Prop
 | .n N=>True
 | .d D=>D.nx.length<=99
 | .g ow pr su=>ow.length<=99
theorem In.Bn.w{i:In}(h:i.Bn):i.Bw/\i.B99:=by
 cases i with
 | n N=>exact⟨h,trivial⟩
 | d D=>exact h
 | g ow pr su=>exact h
theorem In.bn{i:In}(h:i.Bw)(h2:i.B99):i.Bn:=by
 cases i with
 | n N=>exact h
 | d D=>exact⟨h,h2⟩
 | g ow pr su=>exact⟨h,h2⟩
theorem QY{l:List (List Int)}{c:Nat}(h:∀x∈l,x.length<=c):l.flatten.length<=l.length*c:=by
 induction l with
 | nil=>simp
 | cons x l ih=>have h1:=h x (by simp);have h2:=ih fun y hy=>h y (by simp[hy]);rw[List.flatten_cons,List.length_append,List.length_cons,Nat.add_mul];omega
theorem In.nums_len{i:In}(h0:i.chk=0):i.nums.length<100000000:=by
 cases i with
 | n N=>have C:=gK h0;have n0:=C.n0;have n64:=C.n64;have e5:=C.e512;have h1:=lB n0 C.st;have h2:=lB n0 C.fi;have h3:=v8 N.es;unfold In.nums eA;simp only[List.length_append,List.length_cons,List.length_nil,h3];omega
 | d D=>
  have C:=okD_iff.1 h0;have v6:=C.v6;have n1:=C.n1;have hf:=C.f;have h64:2^D.vs.toNat<=2^6:=Nat.pow_le_pow_right (by omega) (by omega);have h1:=QY (l:=D.nx) (c:=64) fun x hx=>by
   have:=(C.r x hx).1;have:((2^D.vs.toNat:Nat):Int)=x.length:=by rw[this];simp
   omega
  unfold In.nums;simp only[List.length_append,List.length_cons,List.length_nil,List.length_map];omega
 | g ow pr su=>
  have V:=dP h0;have n1:=V.n1;have hp:=V.p;have hs:=V.s;have h1:=QY (l:=su.map eA) (c:=4097) fun x hx=>by obtain⟨y,hy,rfl⟩:=List.mem_map.1 hx;have:=lB (n:=ow.length) (by omega) ((FS V).2.2 y hy);unfold eA;rw[List.length_cons];omega
  rw[List.length_map]at h1;have e:su.flatMap eA=(su.map eA).flatten:=by simp[List.flatMap]
  have h2:su.length*4097<=4096*4097:=Nat.mul_le_mul_right _ (by omega);unfold In.nums;simp only[List.length_append,List.length_cons,e];omega
section
variable {tab:FuncId->Option AF} (T:HasA tab)
include T
omit T in
theorem DU{jid L:Nat}{M S:Mem}{K:PV->Mem->Prop}{t:ByteArray}(hL:M.length=L)(hj:jid<L)(hc:M.all (aI L)=true)(hk:K (.str t) (M++S))(h:∀K':PV->Mem->Prop,K' (.str t) M->SemC tab 23 [.ptr jid 0 0] M K'):
  SemC tab 23 [.ptr jid 0 0] (M++S) K:=by
 have t1:(M++S).take L=M:=List.take_left' hL;have t2:(M++S).drop L=S:=List.drop_left' hL;refine kJ (m:=L) (by rw[List.length_append];omega) (by simp[aC,PV.under,hj]) (by rw[t1];exact hc) ?_;rw[t1,t2];exact h _ ⟨by simp[PV.under],hL,hc,hk⟩
theorem Z8{b:Nat}{N:NF}(hc:bZ N=0)(B:BnN N):JobF tab (b+7) b (b+8) (.n N) (fun A=>StD A N) where
 X:=fun A hb hA=>by subst hb;exact IR T hc B hA
 sav:=fun A hb hA m M hS hm S K hk=>by subst hb;have J:=IR T hc B hA;refine DU (J.len _ _ hS) (by omega) (J.cut _ _ hS) hk fun K' hk'=>?_;have hL:=J.len _ _ hS;have hC:=J.cut _ _ hS;obtain⟨_,f1,o1,f2,o2,f3,o3,f,o,q,v,rfl⟩:=hS;have C:=gK hc;have n0:=C.n0;have n64:=C.n64;have e5:=C.e512;have h1:=lB n0 C.st;have h2:=lB n0 C.fi;exact aEZ T (w:=A.length+4) vX (by unfold hG;rw[gk];rfl) (In.nums_sm (i:= .n N) hc B trivial) hm (by rw[hL];exact hC) ⟨by omega,by omega,by omega⟩ hk'
 pre:=fun A m M ⟨_,f1,o1,f2,o2,f3,o3,f,o,q,v,h⟩=>⟨_,h⟩
 bas:=fun A A' m X h1 h2 ⟨hb,f1,o1,f2,o2,f3,o3,f,o,q,v,h⟩=>by have hX:=List.append_cancel_left (show A++X=A++_ from h);refine⟨hb,f1,o1,f2,o2,f3,o3,f,o,q,v,?_⟩;unfold hG;rw[hX,h1,h2]
theorem Z7{b:Nat}{D:DF}(hc:cA D=0)(B:BnD D)(h99:D.nx.length<=99):JobF tab (b+1) b (b+2) (.d D) (fun A=>StM A D) where
 X:=fun A hb hA=>by subst hb;exact IQ T hc B h99 hA
 sav:=fun A hb hA m M hS hm S K hk=>by subst hb;have J:=IQ T hc B h99 hA;refine DU (J.len _ _ hS) (by omega) (J.cut _ _ hS) hk fun K' hk'=>?_;have hL:=J.len _ _ hS;have hC:=J.cut _ _ hS;obtain⟨_,f1,o1,f2,o2,f3,o3,f,o,v1,v2,rfl⟩:=hS;exact aEY T (w:=A.length) (by unfold j5;rw[gk];rfl) (by unfold j5;rw[gk0];rfl) (In.nums_sm (i:= .d D) hc ⟨B,h99⟩ trivial) hm (by rw[hL];exact hC) (In.nums_len (i:= .d D) hc) hk'
 pre:=fun A m M ⟨_,f1,o1,f2,o2,f3,o3,f,o,v1,v2,h⟩=>⟨_,h⟩
 bas:=fun A A' m X h1 h2 ⟨hb,f1,o1,f2,o2,f3,o3,f,o,v1,v2,h⟩=>by have hX:=List.append_cancel_left (show A++X=A++_ from h);refine⟨hb,f1,o1,f2,o2,f3,o3,f,o,v1,v2,?_⟩;unfold j5;rw[hX,h1,h2]
theorem UB{b:Nat}{ow pr:List Int}{su:List (List Int)}(hc:bG ow pr su=0)(B:Bnd ow pr su)(h99:ow.length<=99)(hp:∀x∈ow,0<=x):JobF tab (b+3) b (b+4) (.g ow pr su) (fun A=>StP A ow pr su) where
 X:=fun A hb hA=>by subst hb;exact CJ T hA hc B h99
 sav:=fun A hb hA m M hS hm S K hk=>by subst hb;have J:=CJ T hA hc B h99;refine DU (J.len _ _ hS) (by omega) (J.cut _ _ hS) hk fun K' hk'=>?_;have hL:=J.len _ _ hS;have hC:=J.cut _ _ hS;obtain⟨_,f1,o1,f2,o2,f3,o3,f4,o4,ms,v1,v2,v3,b,hS1,hN,_,rfl⟩:=hS;exact aEX T (w:=A.length) vW (by unfold fU;rw[gk0];rfl) (In.nums_sm (i:= .g ow pr su) hc ⟨B,h99⟩ hp) hm (by rw[hL];exact hC) (In.nums_len (i:= .g ow pr su) hc) hk'
 pre:=fun A m M ⟨_,f1,o1,f2,o2,f3,o3,f4,o4,ms,v1,v2,v3,b,_,_,_,h⟩=>⟨_,h⟩
 bas:=fun A A' m X h1 h2 ⟨hb,f1,o1,f2,o2,f3,o3,f4,o4,ms,v1,v2,v3,b,a1,a2,a3,h⟩=>by have hX:=List.append_cancel_left (show A++X=A++_ from h);refine⟨hb,f1,o1,f2,o2,f3,o3,f4,o4,ms,v1,v2,v3,b,a1,a2,a3,?_⟩;unfold fU;rw[hX,h1,h2]
end
structure StartK (tab:FuncId->Option AF) (i:In) (A:Mem) (K:PV->Mem->Prop):Prop where
 bad:i.chk≠0->K (.tuple [.nilptr,p64 i.chk]) A
 ok:i.chk=0->∀jid b L StF A0 M0,JobF tab jid b L i StF->A0.length=b->A0.all (aI b)=true->StF A0 0 M0->(∃X,A0=A++X)->K (.tuple [.ptr jid 0 0,p64 0]) M0
section
variable {tab:FuncId->Option AF} (T:HasA tab)
include T
theorem aHv{A Y:Mem}{N:NF}{K:PV->Mem->Prop}{q:Nat->Nat}{v:Nat}(hc:bZ N=0)(B:BnN N)(h:StartK tab (.n N) A K)(hY:(A++Y).all (aI (A++Y).length)=true):K (.tuple [.ptr ((A++Y).length+7) 0 0,p64 0]) (hG (A++Y) false true false true false true false true N q [bR N] [] [] v 0):=
 h.ok hc _ _ _ _ (A++Y) _ (Z8 T hc B) rfl hY ⟨⟨by omega,by show [bR N].length<=4096;simp⟩,false,true,false,true,false,true,false,true,q,v,rfl⟩ ⟨Y,rfl⟩
theorem aHx{A Y:Mem}{D:DF}{K:PV->Mem->Prop}{v:Nat}(hc:cA D=0)(B:BnD D)(h99:D.nx.length<=99)(h:StartK tab (.d D) A K)(hY:(A++Y).all (aI (A++Y).length)=true):K (.tuple [.ptr ((A++Y).length+1) 0 0,p64 0]) (j5 (A++Y) false true false true false true false true D v 0 0 0):=
 h.ok hc _ _ _ _ (A++Y) _ (Z7 T hc B h99) rfl hY ⟨fun j hj=>by omega,false,true,false,true,false,true,false,true,v,0,rfl⟩ ⟨Y,rfl⟩
theorem aHw{A Y:Mem}{ow pr:List Int}{su:List (List Int)}{ms:List Ms}{b:Bool}{K:PV->Mem->Prop}{v1 v2:Nat}(hc:bG ow pr su=0)(B:Bnd ow pr su)(h99:ow.length<=99)(hp:∀x∈ow,0<=x)(hAf:t8 ow pr su 0 ms b 0)(h:StartK tab (.g ow pr su) A K)(hY:(A++Y).all (aI (A++Y).length)=true):K (.tuple [.ptr ((A++Y).length+3) 0 0,p64 0]) (fU (A++Y) false true false true false true false true ow pr su ms v1 v2 0 b 0):=by
 rcases hAf with⟨a,_⟩ | ⟨_,a,_⟩ | ⟨_,_,a3,a4,a5,_⟩
 ·exact absurd hc a
 ·omega
 ·refine h.ok hc _ _ _ _ (A++Y) _ (UB T hc B h99 hp) rfl hY ⟨Nat.zero_le _,false,true,false,true,false,true,false,true,ms,v1,v2,0,b,a3,a4,?_,rfl⟩ ⟨Y,rfl⟩;rw[a5,a4];exact Iff.rfl
omit T in
theorem aAz{A Y:Mem}{n:Nat}(hA:A.all (aI A.length)=true)(hY:Y.all (aI n)=true)(hn:A.length+Y.length=n):(A++Y).all (aI (A++Y).length)=true:=by rw[List.length_append,hn,List.all_append,hY,cK (by omega) hA];rfl
theorem W0{A:Mem}{K:PV->Mem->Prop}{f o:Bool}{i:In}(hB:i.Bn)(hp:i.Pos)(hA:A.all (aI A.length)=true)(h:StartK tab i A K):SemC tab 11 [.agg (i.cs f o)] A K:=by
 cases i with
 | n N=>refine W4 T hB hA h.bad fun hc X1 X2 q v h1 h2=>?_;have:=aHv T (Y:=[X1,X2]) (q:=q) (v:=v) hc hB h (aAz (n:=A.length+2) hA (by simp[h1,h2]) rfl);simpa only[List.length_append,List.length_cons,List.length_nil,Nat.zero_add,Nat.add_assoc,Nat.reduceAdd]using this
 | d D=>refine W3 T hB.1 (fun _=>hB.2) hA h.bad fun hc X0 X1 X2 v h0 h1 h2=>?_;have:=aHx T (Y:=[X0,X1,X2]) (v:=v) hc hB.1 hB.2 h (aAz (n:=A.length+3) hA (by simp[h0,h1,h2]) rfl);simpa only[List.length_append,List.length_cons,List.length_nil,Nat.zero_add,Nat.add_assoc,Nat.reduceAdd]using this
 | g ow pr su=>refine W2 T hB.1 hA h.bad fun hc X0 X1 X2 v1 v2 ms b h0 h1 h2 hAf=>?_;have:=aHw T (Y:=[X0,X1,X2]) (v1:=v1) (v2:=v2) hc hB.1 hB.2 hp hAf h (aAz (n:=A.length+3) hA (by simp[h0,h1,h2]) rfl);simpa only[List.length_append,List.length_cons,List.length_nil,Nat.zero_add,Nat.add_assoc,Nat.reduceAdd]using this
end
section
variable {tab:FuncId->Option AF} (T:HasA tab)
include T
end
section
variable {tab:FuncId->Option AF} (T:HasA tab)
include T
end
section
variable {tab:FuncId->Option AF} (T:HasA tab)
include T
end
end Go.Am.Ar

