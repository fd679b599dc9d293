/- Contract: explore, and what goes with it. -/
import Derived.Test.YtapbgleednkimaaGreatDoorBudgetFinishesG1
import Derived.Test.YtapbgleednkimaaGreatDoorPmC
import Derived.Test.YtapbgleednkimaaGreatDoorBudgetFinishesG0
import Derived.Test.YtapbgleednkimaaGreatDoorBuKey
set_option linter.unusedVariables false
set_option linter.unusedSimpArgs false
set_option maxRecDepth 10000
namespace Go.Am.Ar
open Go.Am.PV renaming junk->Zj
open Go.Am renaming pchk->P1,pold->P2,PKNo->P3,ppack->P4,PObj.under->P5,pput->P6,ptset->P7,ptget->P8,pev->P9,ofAV->P10,ofAV1->P11,ppad->P12,pfill->P13,bW->P14,AO.effect->P15
open List renaming replicate->L1
theorem gkN{N:Mem}{m i:Nat}{l:Mem}(h:N.length=m):(N++l)[m+i]? =l[i]? :=by subst h;exact gk ..
theorem MS{N:Mem}{m:Nat}{l:Mem}(h:N.length=m):(N++l)[m]? =l[0]? :=by subst h;exact gk0 ..
theorem skN{N:Mem}{m i:Nat}{l:Mem}{x:PObj}(h:N.length=m):(N++l).set (m+i) x=N++l.set i x:=by subst h;exact sk ..
theorem aET{N:Mem}{m:Nat}{l:Mem}{x:PObj}(h:N.length=m):(N++l).set m x=N++l.set 0 x:=by subst h;exact sk0 ..
theorem B6{m:Nat}{M:Mem}{id g sz off k ver:Nat}{cs:List PV}{b:Bool}(hi:m<=id)(hM:M[id]? =some (.cells g ver cs))(h1:off+k*sz<=cs.length)(h2:aC m cs=true):fG m M (.tuple [.ref id g sz off k,.bool b])=some (.tuple [.sl false true sz k (aY cs off (k*sz)),.bool b]):=by have e:=mE hi hM h1 h2;simp[fG,fF,dD,e,HK]
theorem xL{N l M2:Mem}{m:Nat}(hN:N.length=m)(h:N.all (aI m)=true):kC m M2 ((N++l).take m)=some N:=by subst hN;rw[List.take_left];exact lD h
theorem aEm{N:Mem}{m i:Nat}{l:Mem}(h:N.length=m):(N++l).take (m+i)=N++l.take i:=by subst h;rw[List.take_append,List.take_of_length_le (by omega)];congr 2;omega
theorem YM{α:Type}(κ:α->ByteArray)(n ver k:Nat)(o:List α):aI n (.map ver (smE (eM κ k o)))=true:=DQ (fun p hp=>by
  obtain⟨j,h⟩:∃j:Nat,p.2=p64 j:=by
    induction o generalizing k with
    | nil=>simp[eM]at hp
    | cons a o ih=>
      unfold eM at hp;rcases List.mem_cons.1 hp with rfl | hp
      · exact⟨k,rfl⟩
      · exact ih (k+1) hp
  rw[h];simp[PV.under]) ver
theorem F1{n:Nat}{l:List PV}(h:aC n l=true)(i k:Nat):aC n (aY l i k)=true:=by unfold aY;exact nB (nC h i) k
theorem aCd{α:Type} [DecidableEq α]{δ:α->Nat->α}{a:α}{o:List α}{n j:Nat}(hj:j<n)(ho:∀x,x<j->δ a x∈o):
    ((gY δ j o a++List.replicate (n-j) 0).map p64).set j (p64 (((bP o (δ a j)).idxOf (δ a j):Nat):Int))=(gY δ (j+1) (bP o (δ a j)) a++List.replicate (n-(j+1)) 0).map p64:=by
  obtain⟨r,e⟩:=sE o (δ a j);have h1:gY δ (j+1) (bP o (δ a j)) a=gY δ j o a++[(((bP o (δ a j)).idxOf (δ a j):Nat):Int)]:=by have:=GY (δ:=δ) (n:=j) (o:=o) (r:=r) (a:=a) ho;rw[<-this,<-e];unfold gY;rw[List.range_succ,List.map_append];rfl
  have h2:(gY δ j o a).length=j:=by simp[gY]
  obtain⟨m,hm⟩:∃m,n-j=m+1:=⟨n-j-1,by omega⟩;rw[h1,hm,show n-(j+1)=m by omega,<-List.map_set];congr 1;rw[List.set_append_right _ _ (by omega),h2,Nat.sub_self,List.replicate_succ,List.set_cons_zero,List.append_assoc];rfl
section
variable {α:Type} [DecidableEq α]
variable {tab:FuncId->Option AF} (T:HasA tab)
include T
theorem UK{M:Mem}{K:PV->Mem->Prop}{g:FuncId}{caps:List PV}{J:List α->Mem->Prop}{δ:α->Nat->α}{κ:α->ByteArray}{Dm:α->Prop}{n:Nat}{bd:Int}{a0:α}
    (hL:∀o N,J o N->N.length=M.length) (hC:∀o N,J o N->N.all (aI M.length)=true) (hinj:∀a b,Dm a->Dm b->κ a=κ b->a=b) (hδ:∀a x,Dm a->x<n->Dm (δ a x)) (h0:Dm a0) (hn:n<=64) (hb0:1<=bd) (hb1:bd<=4096)
    (hcap:aC M.length caps=true) (hJ0:J [a0] M)
    (hnext:∀(o:List α) (N l:Mem) (s x:Nat) (a:α) (K:PV->Mem->Prop),J o N->(∀c∈o,Dm c)->o[s]? =some a->x<n->(o.length:Int)<=bd->(∀N',J (bP o (δ a x)) N'->K (.str (κ (δ a x))) (N'++l))->SemC tab g (p64 s::p8 x::caps) (N++l) K)
    (hk1:∀o N,FullN δ n a0 o->(o.length:Int)<=bd->J o N->K (.tuple [slR false true false true .i64 (pC δ n o),.bool true]) N)
    (hk2:∀r o N,OverN δ n a0 bd->J o N->K (.tuple [r,.bool false]) N):
    SemC tab 84 [p64 n,p64 bd,.str (κ a0),.func (.func g) [] caps] M K:=by
  refine zK (dV T.h84 ?_);simp only[af84];refine aB (aA ?_);simp only[PP,simprocAttr];refine aB (aA ?_);simp only[PP,simprocAttr,PT,List.append_assoc,gk0,gk,sk0,sk,List.length_append];refine aB (aA ?_);simp only[PP,simprocAttr,PT,List.append_assoc,gk0,gk,sk0,sk,List.length_append];refine bB (GStep.nil 8 1 rfl rfl rfl) ?_;refine aA ?_;simp only[PP,simprocAttr,List.append_assoc,List.length_append];refine ZA (fun(k:Nat) (N:Mem) (vm gr vr:Nat)=>k<=(bC δ n a0 k).length/\((bC δ n a0 k).length:Int)<=bd/\J (bC δ n a0 k) N)
    (fun k N vm gr vr=>(p64 n::p64 bd:: .junk:: .func (.func g) [] caps::zj 4++ .ref (M.length+2) gr 1 0 k:: .junk:: .ptr (M.length+1) 0 0:: .func (.func 145) [] [.ptr (M.length+1) 0 0]::p64 k::zj 43))
    (fun k N vm gr vr=>N++[.map vm (smE (eM κ 0 (bC δ n a0 k))),.cells 0 1 [.map M.length],.cells gr vr ((jO δ n a0 k).map (slI false true .i64))])
    (fun k N vm gr vr=>bd.toNat+1-k) 0 M 1 0 0 ⟨by omega,by simpa [bC]using hb0,hJ0⟩ (by simp only[PW]) ?_ ?_
  · simp[bC,jO,eM,smE]
  intro k N vm gr vr ⟨hle,hbk,hJ⟩ ih;have hN:=hL _ _ hJ;have hrl:=lA hle;refine aM (by kernel_rfl) ?_;simp only[PP,simprocAttr,PT,gkN hN,MS hN,oH,gJ];refine QIf.intro (fun c=>?_) (fun c=>?_);rotate_left
  · have hfull:(bC δ n a0 k).length<=k:=by omega
    have hrows:=l9 hfull;simp only[PP,simprocAttr,c,PT,gkN hN,MS hN,oH,gJ];have hkl:k=(pC δ n (bC δ n a0 k)).length:=by rw[<-hrows,hrl]
    refine⟨_,_,B6 (by omega) (gkN hN) (by simp[hrl]) (aR _ _ _ _ _),xL hN (hC _ _ hJ),?_⟩;rw[decide_eq_true hbk,hrows,aU _ _ (by simp;omega)];have:=hk1 _ N ⟨k,rfl,hfull⟩ hbk hJ;rw[show slR false true false true .i64 (pC δ n (bC δ n a0 k))= .sl false true 1 k ((pC δ n (bC δ n a0 k)).map (slI false true .i64)) by rw[slR,<-hkl]]at this;exact this
  have hk':k<(bC δ n a0 k).length:=by omega
  obtain⟨a,ga⟩:=aO hk';have b0:(0:Int)<=(n:Int):=by omega
  have b1:(n:Int)*8<=140737488355328:=by omega
  have b2:(n:Int)<=9223372036854775807:=by omega
  have da:Dm a:=iS h0 hδ k a (List.mem_of_getElem? ga);have ha:∀x,x<n->Dm (δ a x):=fun x hx=>hδ a x da hx;have dall:=iS h0 hδ k;simp only[PP,simprocAttr,c,b0,b1,b2,hN,List.append_assoc,gkN hN,MS hN];refine⟨Int.le_refl _,aDZ ?_⟩;refine pF (fun(j:Nat) (N':Mem) (vm' vw:Nat)=>j<=n/\((bI δ a j (bC δ n a0 k)).length:Int)<=bd/\J (bI δ a j (bC δ n a0 k)) N')
    (fun j N' vm' vw=>(p64 n::p64 bd:: .junk:: .func (.func g) [] caps::zj 4++ .ref (M.length+2) gr 1 0 k:: .junk:: .ptr (M.length+1) 0 0:: .func (.func 145) [] [.ptr (M.length+1) 0 0]::p64 k:: .ref (M.length+3) 0 1 0 n::zj 14++p64 n::p64 j::zj 26))
    (fun j N' vm' vw=>N'++[.map vm' (smE (eM κ 0 (bI δ a j (bC δ n a0 k)))),.cells 0 1 [.map M.length],.cells gr vr ((jO δ n a0 k).map (slI false true .i64)),.cells 0 vw ((gY δ j (bI δ a j (bC δ n a0 k)) a).map p64++(List.replicate (n-j) 0).map p64)])
    (fun j N' vm' vw=>n-j) 0 N vm 0 ⟨by omega,hbk,hJ⟩ (by simp only[PW]) ?_ ?_
  · simp[bI,gY,List.map_replicate]
  intro j N' vm' vw ⟨jle,jb,hJ'⟩ ih2;have hN':=hL _ _ hJ';refine aM (by kernel_rfl) ?_;simp only[PP,simprocAttr];refine QIf.intro (fun d=>?_) (fun d=>?_)
  · have hj':j<n:=by omega
    have j0:(0:Int)<=(j:Int):=by omega
    have wj:IntKind.u8.wrap (j:Int)=(j:Int):=OZ (by omega);have ga':(bI δ a j (bC δ n a0 k))[k]? =some a:=by
      obtain⟨r,e⟩:=gC δ a j (bC δ n a0 k);rw[e,List.getElem?_append_left hk',ga]
    simp only[PP,simprocAttr,d,wj];refine hnext _ _ _ _ j a _ hJ' (qM ha dall jle) ga' hj' jb fun Nb hJ2=>?_;have hNb:=hL _ _ hJ2;simp only[PP,simprocAttr];refine WE T hinj (ha j hj') (qM ha dall jle) (by omega) (by rw[MS hNb];rfl) (by rw[gkN hNb];rfl) fun ver'=>?_;have jn:(j:Int)<(n:Int):=by omega
    have hrl':(gY δ j (bI δ a j (bC δ n a0 k)) a).length=j:=by simp[gY]
    have hlt:j+1<=(gY δ j (bI δ a j (bC δ n a0 k)) a).length+(n-j):=by omega
    have hst:=aCd (o:=bI δ a j (bC δ n a0 k)) (δ:=δ) (a:=a) hj' fun x hx=>(jV δ a _ j _).2 (.inr ⟨x,hx,rfl⟩);rw[List.map_append,List.map_append]at hst;simp only[PP,simprocAttr,aET hNb,MS hNb,gkN hNb,skN hNb,j0,jn,hlt,hst,PT,oH,gJ];have wj1:=aH (k:=j) (by show _<1000000000000;omega);refine QIf.intro (fun e=>?_) (fun e=>?_)
    · simp only[PP,simprocAttr,e,PT,aET hNb,MS hNb,gkN hNb,skN hNb,oH,gJ];refine Gh.same ?_;simp only[PP,simprocAttr,e,PT,aET hNb,MS hNb,gkN hNb,skN hNb,oH,gJ];refine⟨_,_,B6 (by omega) (gkN hNb) (by simp[hrl]) (aR _ _ _ _ _),xL hNb (hC _ _ hJ2),?_⟩;have hnot:¬((bP (bI δ a j (bC δ n a0 k)) (δ a j)).length:Int)<=bd:=by omega
      rw[decide_eq_false hnot];exact hk2 _ _ _ (YD (j:=j+1) ga hj' e) hJ2
    · simp only[PP,simprocAttr,e,wj1];exact aG (ih2 (j+1) Nb ver' (vw+1) ⟨by omega,by show((bP _ _).length:Int)<=bd;omega,hJ2⟩ (by omega)) (by simp only[PW])
  · have hjn:n-j=0:=by omega
    have ej:j=n:=by omega
    simp only[PP,simprocAttr,d,hjn];rw[ej]at hJ' jb ⊢;have hrn:(gY δ n (bI δ a n (bC δ n a0 k)) a).length=n:=by simp[gY]
    have hrn2:n=((gY δ n (bI δ a n (bC δ n a0 k)) a).map p64).length:=by simp[gY]
    have c1:(k+1)*24<=140737488355328:=by omega
    have c2:k+1<=9223372036854775807:=by omega
    have c3:k<=(jO δ n a0 k).length:=by omega
    have wk:=aH (k:=k) (by show _<1000000000000;omega);have hpp:aY ((jO δ n a0 k).map (slI false true .i64)) 0 (k*1)=(jO δ n a0 k).map (slI false true .i64):=aU _ _ (by simp[hrl]);refine Gh.step (GStep.freeze (b:=(p64 n::p64 bd:: .junk:: .func (.func g) [] caps::zj 4++ .ref (M.length+2) gr 1 0 k:: .junk:: .ptr (M.length+1) 0 0:: .func (.func 145) [] [.ptr (M.length+1) 0 0]::p64 k:: .sl false true 1 n ((gY δ n (bI δ a n (bC δ n a0 k)) a).map p64)::zj 42)) (M.length+3) (by omega) (gkN hN') (by simp only[kK,kL,List.cons_append,List.nil_append,sJ,V5,o6,J8,Nat.mul_one,Nat.zero_add,List.length_map,hrn,Nat.le_refl,aU _ _ hrn2,List.append_nil,List.replicate_zero,List.map_nil]) (skN hN')) (Gh.same ?_);simp only[PP,simprocAttr,gkN hN',c1,c2,c3,skN hN',hpp,wk];refine bB (GStep.dropM (b:=(p64 n::p64 bd:: .junk:: .func (.func g) [] caps::zj 4++ .ref (M.length+2) (gr+1) 1 0 (k+1):: .junk:: .ptr (M.length+1) 0 0:: .func (.func 145) [] [.ptr (M.length+1) 0 0]::p64 ((k+1:Nat):Int)::zj 43))
      (N:=N'++[.map vm' (smE (eM κ 0 (bC δ n a0 (k+1)))),.cells 0 1 [.map M.length],.cells (gr+1) 0 ((jO δ n a0 (k+1)).map (slI false true .i64))]) (M.length+3) (by omega) (by simp[hN']) (by simp only[PW]) ?_ ?_ ?_) ?_
    · simp[PV.under,aC,cY (n:=M.length+3) (by omega) _ hcap]
    · rw[aEm hN',List.all_append,cK (by omega) (hC _ _ hJ'),Bool.true_and];simp only[List.take_succ_cons,List.take_zero,List.all_cons,List.all_nil,Bool.and_true,Bool.and_eq_true];refine⟨YM _ _ _ _ _,?_,?_⟩
      · simp[aI,PV.under,aC]
      · simp only[aI,iF,Bool.and_eq_true];exact⟨F1 (aR _ _ _ _ _) _ _,by simp only[aC,PV.under,aP,Bool.and_true]⟩
    · rw[aEm hN',cD ga,pP ga,List.map_append,aU _ _ (by simp[hrl])];simp only[List.take_succ_cons,List.take_zero,List.map_cons,List.map_nil,slI,hrn]
    exact aG (ih (k+1) N' vm' (gr+1) 0 ⟨by rw[cD ga];obtain⟨r,e⟩:=gC δ a n (bC δ n a0 k);rw[e];simp;omega,by rw[cD ga];exact jb,by rw[cD ga];exact hJ'⟩ (by omega)) (by simp only[PW])
end
structure OkD (D:DF):Prop where
  v0:0<=D.vs
  v6:D.vs<=6
  n0:0<D.nx.length
  n1:D.nx.length<=4096
  f:D.fi.length=D.nx.length
  s0:0<=D.st
  s1:D.st<D.nx.length
  r:∀r∈D.nx,(r.length:Int)=2^D.vs.toNat/\∀t∈r,0<=t/\t<D.nx.length
theorem rowsD_zero{v n:Int} :∀{l:List (List Int)},uE v n l=0↔∀r∈l,(r.length:Int)=2^v.toNat/\∀t∈r,0<=t/\t<n
  | []=>by simp[uE]
  | r::l=>by
    unfold uE;by_cases h1:(r.length:Int)=2^v.toNat
    · rw[if_pos h1];by_cases h2:aAR n r=true
      · rw[if_pos h2];constructor
        · intro h;exact absurd h (by decide)
        · intro h;unfold aAR at h2;obtain⟨t,h3,h4⟩:=List.any_eq_true.1 h2;have:=(h r (by simp)).2 t h3;simp only[decide_eq_true_eq]at h4;omega
      · rw[if_neg h2,rowsD_zero];constructor
        · intro h x hx;rcases List.mem_cons.1 hx with rfl | hx
          · refine⟨h1,fun t ht=>Classical.byContradiction fun q=>h2 ?_⟩;exact List.any_eq_true.2 ⟨t,ht,by simp only[decide_eq_true_eq];omega⟩
          · exact h x hx
        · intro h x hx;exact h x (by simp[hx])
    · rw[if_neg h1];constructor
      · intro h;exact absurd h (by decide)
      · intro h;exact absurd (h r (by simp)).1 h1
theorem okD_iff{D:DF} :cA D=0↔OkD D:=by
  unfold cA;constructor
  · intro h;split at h;· exact absurd h (by decide)
    split at h;· exact absurd h (by decide)
    split at h;· exact absurd h (by decide)
    split at h;· exact absurd h (by decide)
    split at h;· exact absurd h (by decide)
    rename_i h1 h2 h3 h4 h5;exact⟨by omega,by omega,by omega,by omega,by have:=Classical.not_not.1 h4;omega,by omega,by omega,rowsD_zero.1 h⟩
  · intro C;have h1:=C.v0;have h2:=C.v6;have h3:=C.n0;have h4:=C.n1;have h5:=C.f;have h6:=C.s0;have h7:=C.s1;rw[if_neg (by omega),if_neg (by omega),if_neg (by omega),if_neg (by omega),if_neg (by omega)];exact rowsD_zero.2 C.r
def uC(nx:List (List Int))(s x:Int):Int:=(((nx[s.toNat]?).getD [])[x.toNat]?).getD 0
def fiD(D:DF)(s:Int):Bool:=(D.fi[s.toNat]?).getD false
theorem OkD.step{D:DF}(C:OkD D){s x:Int}(s0:0<=s)(s1:s<D.nx.length)(x0:0<=x)(x1:x<2^D.vs.toNat):
    ∃r,D.nx[s.toNat]? =some r/\r[x.toNat]? =some (uC D.nx s x)/\x<r.length/\0<=uC D.nx s x/\uC D.nx s x<D.nx.length:=by
  obtain⟨r,g⟩:=aO (xs:=D.nx) (k:=s.toNat) (by omega);obtain⟨h1,h2⟩:=C.r r (List.mem_of_getElem? g);obtain⟨t,gt⟩:=aO (xs:=r) (k:=x.toNat) (by omega);have e:uC D.nx s x=t:=by unfold uC;rw[g];simp[gt]
  rw[e];exact⟨r,g,gt,by omega,h2 t (List.mem_of_getElem? gt)⟩
theorem OkD.run{D:DF}(C:OkD D):∀(w:List Int),(∀x∈w,0<=x/\x<2^D.vs.toNat)->∀s:Int,0<=s->s<D.nx.length->0<=w.foldl (uC D.nx) s/\w.foldl (uC D.nx) s<D.nx.length
  | [],_,s,h0,h1=>⟨h0,h1⟩
  | x::w,hw,s,h0,h1=>by have hx:=hw x (by simp);obtain⟨_,_,_,_,a,b⟩:=C.step h0 h1 hx.1 hx.2;exact OkD.run C w (fun y hy=>hw y (by simp[hy])) _ a b
theorem OkD.fin{D:DF}(C:OkD D){s:Int}(s0:0<=s)(s1:s<D.nx.length):D.fi[s.toNat]? =some (fiD D s)/\s<D.fi.length:=by obtain⟨b,g⟩:=aO (xs:=D.fi) (k:=s.toNat) (by have:=C.f;omega);exact⟨by unfold fiD;rw[g];rfl,by have:=C.f;omega⟩
section
variable {tab:FuncId->Option AF} (T:HasA tab)
include T
end
theorem DF.ext'{D D':DF}(h1:D.vs=D'.vs)(h2:D.st=D'.st)(h3:D.nx=D'.nx)(h4:D.fi=D'.fi):D=D':=by cases D;cases D';simp_all
section
variable {tab:FuncId->Option AF} (T:HasA tab)
include T
theorem Q7{M:Mem}{K:PV->Mem->Prop}{f o:Bool}{xs:List Bool}(hm:xs.length<big)(hk:K (slB false true xs) M):
    SemC tab 38 [slB f o xs] M K:=by
  refine aE T.h38 (by simp only[PP,simprocAttr]) ?_;have hb:xs.length<1000000000000:=hm;have b1:xs.length<=140737488355328:=by omega
  have b2:xs.length<=9223372036854775807:=by omega
  simp only[af38,PP,simprocAttr,b1,b2];exact hk
theorem I6{M:Mem}{K:PV->Mem->Prop}{f1 o1 f2 o2 f3 o3 e1 p1 e2 p2 e3 p3:Bool}{D D':DF}(B:BnD D)(hk:∀b:Bool,(b=true↔D=D')->K (.bool b) M):
    SemC tab 32 [.agg (dfC f1 o1 f2 o2 f3 o3 D),.agg (dfC e1 p1 e2 p2 e3 p3 D')] M K:=by
  refine aE T.h32 (by simp only[PP,simprocAttr]) ?_;simp only[af32,PP,simprocAttr];have no:¬(D=D')->K (.bool false) M:=fun h=>hk false ⟨fun h=>by(cases h),fun e=>absurd e h⟩;refine QIf.intro (fun c1=>?_) (fun c1=>?_);rotate_left
  · simp only[PP,simprocAttr,c1];exact no (by rintro rfl;exact c1 rfl)
  simp only[PP,simprocAttr,c1];by_cases c2:D.st=D'.st;rotate_left
  · simp only[PP,simprocAttr,c2];exact no (by rintro rfl;exact c2 rfl)
  simp only[PP,simprocAttr,c2];refine nZ T B.n B.r ?_;by_cases c3:D.nx=D'.nx;rotate_left
  · simp only[PP,simprocAttr,c3];exact no (by rintro rfl;exact c3 rfl)
  simp only[PP,simprocAttr,c3];refine aAv T B.f ?_;by_cases c4:D.fi=D'.fi;rotate_left
  · simp only[PP,simprocAttr,c4];exact no (by rintro rfl;exact c4 rfl)
  simp only[PP,simprocAttr,c4];exact hk true ⟨fun _=>DF.ext' c1 c2 c3 c4,fun _=>rfl⟩
end
def oA(D:DF)(a x:Nat):Nat:=(uC D.nx a x).toNat
abbrev lF(D:DF):Nat:=2^D.vs.toNat
theorem OkD.delta{D:DF}(C:OkD D){a x:Nat}(ha:a<D.nx.length)(hx:x<lF D):∃r,D.nx[a]? =some r/\r[x]? =some ((oA D a x:Nat):Int)/\(x:Int)<r.length/\oA D a x<D.nx.length:=by
  have hx':(x:Int)<2^D.vs.toNat:=by
    have:((x:Nat):Int)<((2^D.vs.toNat:Nat):Int):=by exact_mod_cast hx
    simpa using this
  obtain⟨r,g1,g2,g3,g4,g5⟩:=C.step (s:=a) (x:=x) (by omega) (by omega) (by omega) hx';simp only[Int.toNat_natCast]at g1 g2;refine⟨r,g1,?_,g3,?_⟩
  · rw[g2];unfold oA;congr 1;omega
  · unfold oA;omega
section
variable {tab:FuncId->Option AF} (T:HasA tab)
include T
end
theorem OkD.small{D:DF}(C:OkD D)(k:Nat):(bC (oA D) (lF D) D.st.toNat k).length<=D.nx.length:=
  pQ _ _ (jY _ _ _ k) (iS (Dm:=fun a=>a<D.nx.length) (by have:=C.s0;have:=C.s1;omega) (fun a x ha hx=>(C.delta ha hx).choose_spec.2.2.2) k)
theorem OkD.below{D:DF}(C:OkD D)(k:Nat):∀a∈bC (oA D) (lF D) D.st.toNat k,a<D.nx.length:=
  iS (Dm:=fun a=>a<D.nx.length) (by have:=C.s0;have:=C.s1;omega) (fun a x ha hx=>(C.delta ha hx).choose_spec.2.2.2) k
theorem OkD.row{D:DF}(C:OkD D){a:Nat}(ha:a<D.nx.length):∃r,D.nx[a]? =some r/\r.length=lF D/\∀x,x<lF D->r[x]? =some ((oA D a x:Nat):Int)/\oA D a x<D.nx.length:=by
  obtain⟨r,g⟩:=aO ha;have h1:=(C.r r (List.mem_of_getElem? g)).1;have h2:((lF D:Nat):Int)=2^D.vs.toNat:=by simp
  refine⟨r,g,by omega,fun x hx=>?_⟩;obtain⟨r',g1,g2,g3,g4⟩:=C.delta ha hx;rw[g]at g1;cases g1;exact⟨g2,g4⟩
section
variable {tab:FuncId->Option AF} (T:HasA tab)
include T
end
section
variable {α β:Type} [DecidableEq α] [DecidableEq β]
omit [DecidableEq α] [DecidableEq β] in
theorem uM{φ:α->β}{Dm:α->Prop}(hinj:∀a b,Dm a->Dm b->φ a=φ b->a=b){o:List α}{b:α}(ho:∀c∈o,Dm c)(hb:Dm b):φ b∈o.map φ↔b∈o:=by
  constructor
  · intro h;obtain⟨c,h1,h2⟩:=List.mem_map.1 h;rw[<-hinj c b (ho c h1) hb h2];exact h1
  · intro h;exact List.mem_map.2 ⟨b,h,rfl⟩
theorem aA0{φ:α->β}{Dm:α->Prop}(hinj:∀a b,Dm a->Dm b->φ a=φ b->a=b){o:List α}{b:α}(ho:∀c∈o,Dm c)(hb:Dm b):bP (o.map φ) (φ b)=(bP o b).map φ:=by
  unfold bP;by_cases h:b∈o
  · rw[if_pos h,if_pos ((uM hinj ho hb).2 h)]
  · rw[if_neg h,if_neg (fun q=>h ((uM hinj ho hb).1 q)),List.map_append];rfl
theorem FQ{δ:α->Nat->α}{δ':β->Nat->β}{φ:α->β}{Dm:α->Prop}{n:Nat}{a:α}(hinj:∀a b,Dm a->Dm b->φ a=φ b->a=b)(hs:∀x,x<n->Dm (δ a x))(hφ:∀x,x<n->φ (δ a x)=δ' (φ a) x){o:List α}(ho:∀c∈o,Dm c):∀j,j<=n->bI δ' (φ a) j (o.map φ)=(bI δ a j o).map φ
  | 0,_=>rfl
  | j+1,h=>by unfold bI;rw[FQ hinj hs hφ ho j (by omega),<-hφ j (by omega)];exact aA0 hinj (qM hs ho (by omega)) (hs j (by omega))
theorem zB{δ:α->Nat->α}{δ':β->Nat->β}{φ:α->β}{Dm:α->Prop}{n:Nat}{a0:α}(hinj:∀a b,Dm a->Dm b->φ a=φ b->a=b)(h0:Dm a0)(hs:∀a x,Dm a->x<n->Dm (δ a x))(hφ:∀a x,Dm a->x<n->φ (δ a x)=δ' (φ a) x):∀k,bC δ' n (φ a0) k=(bC δ n a0 k).map φ
  | 0=>rfl
  | k+1=>by
    have ih:=zB hinj h0 hs hφ k;have ho:=iS h0 hs k;rcases Nat.lt_or_ge k (bC δ n a0 k).length with hk | hk
    · have g:=List.getElem?_eq_getElem hk;have g':(bC δ' n (φ a0) k)[k]? =some (φ (bC δ n a0 k)[k]):=by rw[ih,List.getElem?_map,g];rfl
      have hd:=ho _ (List.getElem_mem hk);rw[cD g,cD g',ih];exact FQ hinj (fun x hx=>hs _ x hd hx) (fun x hx=>hφ _ x hd hx) ho n (Nat.le_refl n)
    · rw[f0 hk,f0 (by rw[ih,List.length_map];exact hk),ih]
theorem FullN.map{δ:α->Nat->α}{δ':β->Nat->β}{φ:α->β}{Dm:α->Prop}{n:Nat}{a0:α}{o:List α}(h:FullN δ n a0 o)(hinj:∀a b,Dm a->Dm b->φ a=φ b->a=b)(h0:Dm a0)(hs:∀a x,Dm a->x<n->Dm (δ a x))(hφ:∀a x,Dm a->x<n->φ (δ a x)=δ' (φ a) x):FullN δ' n (φ a0) (o.map φ):=by obtain⟨k,rfl,h2⟩:=h;exact⟨k,zB hinj h0 hs hφ k,by rw[List.length_map];exact h2⟩
theorem OverN.map{δ:α->Nat->α}{δ':β->Nat->β}{φ:α->β}{Dm:α->Prop}{n:Nat}{a0:α}{bd:Int}(h:OverN δ n a0 bd)(hinj:∀a b,Dm a->Dm b->φ a=φ b->a=b)(h0:Dm a0)(hs:∀a x,Dm a->x<n->Dm (δ a x))(hφ:∀a x,Dm a->x<n->φ (δ a x)=δ' (φ a) x):OverN δ' n (φ a0) bd:=by obtain⟨k,h⟩:=h;exact⟨k,by rw[zB hinj h0 hs hφ k,List.length_map];exact h⟩
end
abbrev aF(N:NF):Nat:=2^N.vs.toNat
def aL(N:NF)(a:BitVec 64)(x:Nat):BitVec 64:=(kQ N.es x).foldl (fun acc e=>if a.getLsbD e.fr.toNat=true then acc||| BitVec.twoPow 64 e.to.toNat else acc) 0#64
theorem I0(a:BitVec 64)(k:Nat):∀(l:List Eg) (acc:BitVec 64),(∀e∈l,0<=e.to/\e.to<64)->
    ((l.foldl (fun acc e=>if a.getLsbD e.fr.toNat=true then acc||| BitVec.twoPow 64 e.to.toNat else acc) acc).getLsbD k=true↔acc.getLsbD k=true\/∃e∈l,a.getLsbD e.fr.toNat=true/\e.to=k)
  | [],acc,_=>by simp
  | e::l,acc,h=>by
    have he:=h e (by simp);rw[List.foldl_cons,I0 a k l _ fun e he=>h e (by simp[he])];by_cases c:a.getLsbD e.fr.toNat=true
    · rw[if_pos c,BitVec.getLsbD_or,Bool.or_eq_true,BitVec.getLsbD_twoPow,Bool.and_eq_true,decide_eq_true_eq,decide_eq_true_eq];constructor
      · rintro((h1 | ⟨h1,h2⟩) | ⟨e',h1,h2⟩)
        · exact .inl h1
        · exact .inr ⟨e,by simp,c,by omega⟩
        · exact .inr ⟨e',by simp[h1],h2⟩
      · rintro(h1 | ⟨e',h1,h2,h3⟩)
        · exact .inl (.inl h1)
        · rcases List.mem_cons.1 h1 with rfl | h1
          · exact .inl (.inr ⟨by omega,by omega⟩)
          · exact .inr ⟨e',h1,h2,h3⟩
    · rw[if_neg c];constructor
      · rintro(h1 | ⟨e',h1,h2⟩)
        · exact .inl h1
        · exact .inr ⟨e',by simp[h1],h2⟩
      · rintro(h1 | ⟨e',h1,h2,h3⟩)
        · exact .inl h1
        · rcases List.mem_cons.1 h1 with rfl | h1
          · exact absurd h2 c
          · exact .inr ⟨e',h1,h2,h3⟩
theorem Y2{es:List Eg}{x:Nat}{e:Eg}(h:e∈kQ es x):e∈es:=(List.mem_filter.1 h).1
theorem yX{N:NF}(C:NOk N)(a:BitVec 64)(x k:Nat):(aL N a x).getLsbD k=true↔∃e∈kQ N.es x,a.getLsbD e.fr.toNat=true/\e.to=k:=by unfold aL;rw[I0 a k _ _ fun e he=>by have:=C.ed e (Y2 he);have:=C.n64;omega];simp
structure RB (s:Wd) (a:BitVec 64):Prop where
  len:s.length<=64
  lt:∀k,bit s k=true->k<64
  at0:wAt s 0=a
theorem RB.bit{s:Wd}{a:BitVec 64}(h:RB s a)(k:Nat):bit s k=a.getLsbD k:=by
  by_cases hk:k<64
  · unfold Ar.bit;rw[show k / 64=0 by omega,show k % 64=k by omega,h.at0]
  · rw[BitVec.getLsbD_of_ge _ _ (by omega)]
    cases hb:Ar.bit s k with
    | false=>rfl
    | true=>exact absurd (h.lt k hb) hk
theorem RB.mk'{s:Wd}{a:BitVec 64}(hl:s.length<=64)(h:∀k,Ar.bit s k=true↔a.getLsbD k=true):RB s a:=by
  have lt:∀k,Ar.bit s k=true->k<64:=fun k hk=>by refine Classical.byContradiction fun q=>?_;have:=(h k).1 hk;rw[BitVec.getLsbD_of_ge _ _ (by omega)]at this;cases this
  refine⟨hl,lt,BitVec.eq_of_getLsbD_eq fun i hi=>?_⟩;have:=h i;unfold Ar.bit at this;rw[show i / 64=0 by omega,show i % 64=i by omega]at this;exact Bool.eq_iff_iff.2 this
theorem RB.next{N:NF}(C:NOk N){s o:Wd}{a:BitVec 64}{x:Nat}(h:RB s a)(ho:aGx N.es s x o):RB o (aL N a x):=by refine .mk' ho.1 fun k=>?_;rw[ho.2,yX C];simp only[h.bit]
def bR(N:NF):BitVec 64:=wAt (faW N.st) 0
theorem GE{N:NF}(C:NOk N):RB (faW N.st) (bR N):=by obtain⟨_,h2,h3⟩:=I3 C C.st;refine⟨h2,fun k hk=>?_,rfl⟩;rw[h3,decide_eq_true_eq]at hk;have:=gG C.st _ hk;have:=C.n64;omega
theorem lZ{N:NF}(C:NOk N)(k:Nat):(bR N).getLsbD k=true↔(k:Int)∈N.st:=by obtain⟨_,_,h3⟩:=I3 C C.st;rw[<-(GE C).bit,h3,decide_eq_true_eq]
def o8(N:NF)(a:BitVec 64):Bool:=N.fi.any fun q=>a.getLsbD q.toNat
def aFW(N:NF)(o:List (BitVec 64)):DF:=⟨N.vs,0,pC (aL N) (aF N) o,o.map (o8 N)⟩
def cG(o:List (BitVec 64)):List (List Int):=o.map fun a=>m8 (dI a)
theorem UI{N:NF}(C:NOk N){s:Wd}{a:BitVec 64}(h:RB s a):decide (0<(cmb (fun x y=>x&&& y) s (faW N.fi)).length)=o8 N a:=by
  obtain⟨_,h2,h3⟩:=I3 C C.fi;rw[Bool.eq_iff_iff,decide_eq_true_eq,MO h.len h2];unfold o8;rw[List.any_eq_true];constructor
  · rintro⟨k,k1,k2⟩;rw[h.bit]at k1;rw[h3,decide_eq_true_eq]at k2;exact⟨k,k2,by rw[Int.toNat_natCast];exact k1⟩
  · rintro⟨q,q1,q2⟩;have:=gG C.fi q q1;refine⟨q.toNat,by rw[h.bit];exact q2,?_⟩;rw[h3,decide_eq_true_eq,show((q.toNat:Nat):Int)=q by omega];exact q1
theorem aCK{s:Wd}{a:BitVec 64}(h:RB s a):gN s=dI a:=by rw[TU h.lt,h.at0]
def knE(o:List (BitVec 64)):List (ByteArray×PV):=o.map fun a=>(rP a,.bool true)
theorem H9(b:BitVec 64):∀o:List (BitVec 64),j9 (rP b) (knE o)=if b∈o then some (.bool true)else none
  | []=>rfl
  | a::o=>by
    show(if rP b=rP a then some (PV.bool true)else j9 (rP b) (knE o))=_;by_cases e:b=a
    · subst e;rw[if_pos rfl,if_pos (by simp)]
    · rw[if_neg fun q=>e (IE q),H9 b o];by_cases hm:b∈o
      · rw[if_pos hm,if_pos (by simp[hm])]
      · rw[if_neg hm,if_neg (by simp[hm,e])]
structure RBs (ss:List Wd) (o:List (BitVec 64)):Prop where
  len:ss.length=o.length
  at':∀(i:Nat) s a,ss[i]? =some s->o[i]? =some a->RB s a
theorem RBs.snoc{ss:List Wd}{o:List (BitVec 64)}(h:RBs ss o){s:Wd}{a:BitVec 64}(ha:RB s a):RBs (ss++[s]) (o++[a]):=by
  refine⟨by simp[h.len],fun i s' a' h1 h2=>?_⟩;rcases Nat.lt_or_ge i ss.length with hi | hi
  · rw[List.getElem?_append_left hi]at h1;rw[List.getElem?_append_left (by rw[<-h.len];exact hi)]at h2;exact h.at' i s' a' h1 h2
  · rw[List.getElem?_append_right hi]at h1;rw[List.getElem?_append_right (by rw[<-h.len];exact hi),<-h.len]at h2
    cases hj:i-ss.length with
    | zero=>rw[hj]at h1 h2;simp at h1 h2;subst h1;subst h2;exact ha
    | succ j=>rw[hj]at h1;simp at h1
theorem RBs.get{ss:List Wd}{o:List (BitVec 64)}(h:RBs ss o){i:Nat}{a:BitVec 64}(g:o[i]? =some a):∃s,ss[i]? =some s/\RB s a:=by have hi:=aD g;obtain⟨s,gs⟩:=aO (xs:=ss) (k:=i) (by rw[h.len];exact hi);exact⟨s,gs,h.at' i s a gs g⟩
theorem FP{vs:Int}{x:Nat}(h:x<2^vs.toNat):O1 vs [(x:Int)]=0:=by
  have h':¬(2:Int)^vs.toNat<=x:=by
    have:((2^vs.toNat:Nat):Int)=2^vs.toNat:=by simp
    omega
  unfold O1;rw[if_neg (by simp),if_neg (by simp[h'])]
theorem NOk.let64{N:NF}(C:NOk N):aF N<=64:=G8 C.v6
section
variable {tab:FuncId->Option AF} (T:HasA tab)
include T
theorem YT{M:Mem}{K:PV->Mem->Prop}{f1 o1 f2 o2 f3 o3 f4 o4:Bool}{N:NF}{s:Wd}{a:BitVec 64}{x:Nat}(hc:bZ N=0)(B:BnN N)(hr:RB s a)(hx:x<aF N)(hk:∀o,RB o (aL N a x)->K (.tuple [slW false true o,p64 0]) M):
    SemC tab 83 [.agg (nfC f1 o1 f2 o2 f3 o3 N),slW f4 o4 s,p8 x] M K:=by
  have C:=gK hc;have h64:=C.let64;refine aE T.h83 (by simp only[PP,simprocAttr,bD]) ?_;simp only[af83,PP,simprocAttr];refine oI T B ?_;simp only[PP,simprocAttr,hc];refine WB T (w:=[(x:Int)]) C (fun y hy=>by simp at hy;subst hy;omega) (by simp) ?_;rw[FP hx];simp only[PP,simprocAttr];refine aHq T C B hr.len (by omega) fun o ho=>?_;simp only[PP,simprocAttr];exact hk o (hr.next C ho)
end
def aGw(o:Wd):Prop:=o=[]\/wAt o (o.length-1)≠0#64
def eL(a:BitVec 64):Wd:=if a=0#64 then []else [a]
theorem RB.one{o:Wd}{a:BitVec 64}(h:RB o a)(hc:aGw o):o=eL a:=by
  have hz:∀i,0<i->wAt o i=0#64:=fun i hi=>BitVec.eq_of_getLsbD_eq fun j hj=>by
    cases hx:(wAt o i).getLsbD j with
    | false=>simp
    | true=>
      have:Ar.bit o (64*i+j)=true:=by unfold Ar.bit;rw[show(64*i+j) / 64=i by omega,show(64*i+j) % 64=j by omega];exact hx
      have:=h.lt _ this;omega
  have h0:=h.at0;unfold eL;rcases hc with rfl | ht
  · have e:wAt ([]:Wd) 0=0#64:=gB (by simp);rw[e]at h0;rw[if_pos h0.symm]
  · have hl:o.length-1=0:=Classical.byContradiction fun q=>ht (hz _ (by omega));rw[hl,h0]at ht;rw[if_neg ht]
    match o,hl with
    | [],_=>have e:wAt ([]:Wd) 0=0#64:=gB (by simp);rw[e]at h0;exact absurd h0.symm ht
    | [x],_=>rw[<-h0];rfl
    | x::y::l,h=>simp at h
theorem aCy(a:BitVec 64):RB (eL a) a:=by
  unfold eL;by_cases h:a=0#64
  · rw[if_pos h];exact⟨by simp,fun k hk=>by simp[Ar.bit,wAt]at hk,by rw[h];rfl⟩
  · rw[if_neg h];refine⟨by simp,fun k hk=>?_,rfl⟩;refine Classical.byContradiction fun q=>?_;have:wAt [a] (k / 64)=0#64:=gB (by simp;omega);unfold Ar.bit at hk;rw[this]at hk;simp at hk
theorem YK(a:BitVec 64):(eL a).length<=1:=by unfold eL;split<;>simp
def iV(a:BitVec 64):ByteArray:=⟨(Key.keyT ((eL a).map (·.toNat))).toArray⟩
section
variable {tab:FuncId->Option AF} (T:HasA tab)
include T
set_option maxHeartbeats 1000000 in
theorem aF7{M:Mem}{K:PV->Mem->Prop}{f1 o1 f2 o2 f3 o3 f4 o4:Bool}{N:NF}{s:Wd}{x:Nat}(C:NOk N)(B:BnN N)(hs:s.length<=64)(hx:x<256)(hk:∀o,aGx N.es s x o->aGw o->K (slW false true o) M):
    SemC tab 144 [.agg (nfC f1 o1 f2 o2 f3 o3 N),slW f4 o4 s,p8 x] M K:=by
  have n64:=C.n64;refine bM T.h144 (by simp only[PP,simprocAttr,bD]) ?_;simp only[af144];refine aB (aA ?_);simp only[PP,simprocAttr];refine bB (GStep.freezeP (b:=(.junk:: .junk::p8 x:: .cp (nfC f1 o1 f2 o2 f3 o3 N) 0:: .ptr 1 0 0:: .junk:: .ptr 2 0 0::zj 14)) 0 (Nat.zero_le _) rfl (by simp only[kK,kL,List.cons_append,List.nil_append,cF,bU,bT,cE]) rfl) ?_;refine bB (GStep.freezeP (b:=(.junk:: .junk::p8 x:: .cp (nfC f1 o1 f2 o2 f3 o3 N) 0:: .cp [slW f4 o4 s] 0:: .junk:: .ptr 2 0 0::zj 14)) 1 (Nat.zero_le _) rfl (by simp only[kK,kL,List.cons_append,List.nil_append,cF,bU,bT,cE]) rfl) ?_;refine bB (GStep.wkC (v':=slW false true []) 2 0 rfl (fun v h=>by cases h;exact PvWk.nils _ _ _) rfl) ?_;refine aA ?_;simp only[PP,simprocAttr];refine xW T ?_;simp only[PP,simprocAttr];refine aG (b:=(zj 4++ .cp [slW f4 o4 s] 0:: .junk:: .ptr 2 0 0::zj 3++ .func (.func 213) [] [.cp (nfC f1 o1 f2 o2 f3 o3 N) 0,.cp [p8 x] 0]::zj 10)) ?_ (by simp only[PW]);refine f5 rfl (fun lp q1 q2 q3 q4 q5 q6=>?_);simp only[PP,simprocAttr];refine H2 T (L:=3) hx B.e B.b (fun k G=>∃ver v o Gs,G=[.gone,.gone,.cells 0 v [slW false true o],.loop ver lp]++Gs/\(o.length<=64/\aGw o)/\∀j:Nat,bit o j=true↔∃e∈(kQ N.es x).take k,bit s e.fr.toNat=true/\e.to=j)
    ⟨0,0,[],[],rfl,⟨by simp,.inl rfl⟩,fun j=>by simp[bit,wAt]⟩ ?_ ?_ ?_ ?_
  · rintro k G o ⟨ver,v,o',Gs,rfl,h⟩;exact⟨ver,v,o',Gs++[o],by simp only[List.append_assoc],h⟩
  · rintro k G ⟨ver,v,o',Gs,rfl,h⟩;exact⟨ver,lp,rfl⟩
  · rintro k G e ⟨ver,v,o,Gs,rfl,⟨ho,hco⟩,hb⟩ hat K' hK';refine lR (ver:=ver) (r:=lp) rfl (by rw[q4];rfl) ?_;rw[q3,q4,q5];refine aA ?_;simp only[gF,PP,simprocAttr,List.append_assoc,gk,gk0,sk,sk0];have hlp:∀B,lp.body=B->(⟨.ready,none,lp.tmps,lp.params,lp.assign,B⟩:PLoop)=lp:=fun B hB=>by cases lp;simp_all
    refine⟨ver,lp,rfl,q1,?_⟩;rw[q6];refine aA ?_;have hem:=List.mem_of_getElem? hat;have hen:e∈N.es:=(List.mem_filter.1 hem).1;obtain⟨e1,e2,e3,e4,_⟩:=C.ed e hen;have hfr:e.fr=((e.fr.toNat:Nat):Int):=by omega
    have hto:e.to=((e.to.toNat:Nat):Int):=by omega
    have nxt:∀o':Wd,(∀j:Nat,bit o' j=true↔(bit o j=true\/(bit s e.fr.toNat=true/\e.to=j)))->∀j:Nat,bit o' j=true↔∃e∈(kQ N.es x).take (k+1),bit s e.fr.toNat=true/\e.to=j:=fun o' h j=>by
      rw[h,hb,List.take_add_one,hat];simp only[Option.toList_some,List.mem_append,List.mem_singleton];constructor
      · rintro(⟨z,h1,h2⟩ | h)
        · exact⟨z,.inl h1,h2⟩
        · exact⟨e,.inr rfl,h⟩
      · rintro⟨z,h1 | rfl,h2⟩
        · exact .inl ⟨z,h1,h2⟩
        · exact .inr h2
    simp only[PP,simprocAttr,List.append_assoc,gk,gk0,sk,sk0];rw[show PV.int .i64 e.fr=p64 ((e.fr.toNat:Nat):Int) by rw[<-hfr]];refine RF T hs (by omega) ?_
    cases hbit:bit s e.fr.toNat with
    | false=>simp only[PP,simprocAttr,List.append_assoc,gk,gk0,sk,sk0];refine⟨ver+1,_,rfl,?_⟩;rw[if_pos rfl];refine hK' _ ⟨ver+1+1,v,o,Gs++[.cells 0 1 (egC e)],?_,⟨ho,hco⟩,nxt o fun j=>by rw[hbit];simp⟩;simp only[PP,simprocAttr,List.append_assoc,gk,gk0,sk,sk0,hlp _ q6,<-hfr]
    | true=>
      simp only[PP,simprocAttr,List.append_assoc,gk,gk0,sk,sk0];rw[show PV.int .i64 e.to=p64 ((e.to.toNat:Nat):Int) by rw[<-hto]];refine KD T (by show _<1000000000000;omega) (by omega) ?_;obtain⟨w1,w2⟩:=JJ (k:=e.to.toNat) ho (by omega);simp only[PP,simprocAttr,List.append_assoc,gk,gk0,sk,sk0];refine⟨ver+1,_,rfl,?_⟩;rw[if_pos rfl];refine hK' _ ⟨ver+1+1,v+1,mV o e.to.toNat,Gs++[.cells 0 1 (egC e)],?_,⟨w1,F4 _⟩,nxt _ fun j=>?_⟩
      · simp only[PP,simprocAttr,List.append_assoc,gk,gk0,sk,sk0,hlp _ q6,<-hfr,<-hto]
      · rw[w2,Bool.or_eq_true,decide_eq_true_eq,hbit];constructor
        · rintro(h | h)
          · exact .inl h
          · exact .inr ⟨rfl,by omega⟩
        · rintro(h | ⟨_,h⟩)
          · exact .inl h
          · exact .inr (by omega)
  · rintro G ⟨ver,v,o,Gs,rfl,⟨ho,hco⟩,hb⟩;refine⟨ver,lp,rfl,by rw[q1];exact(by intro h;cases h),?_⟩;rw[q2];simp only[PP,simprocAttr,List.append_assoc,gk,gk0,sk,sk0];rw[List.take_of_length_le (Nat.le_refl _)]at hb;exact hk o ⟨ho,hb⟩ hco
theorem TN{M:Mem}{K:PV->Mem->Prop}{f1 o1 f2 o2 f3 o3 f4 o4:Bool}{N:NF}{a:BitVec 64}{x:Nat}(hc:bZ N=0)(B:BnN N)(hx:x<aF N)(hk:K (.tuple [slW false true (eL (aL N a x)),p64 0]) M):
    SemC tab 83 [.agg (nfC f1 o1 f2 o2 f3 o3 N),slW f4 o4 (eL a),p8 x] M K:=by
  have C:=gK hc;have h64:=C.let64;have hr:=aCy a;refine aE T.h83 (by simp only[PP,simprocAttr,bD]) ?_;simp only[af83,PP,simprocAttr];refine oI T B ?_;simp only[PP,simprocAttr,hc];refine WB T (w:=[(x:Int)]) C (fun y hy=>by simp at hy;subst hy;omega) (by simp) ?_;rw[FP hx];simp only[PP,simprocAttr];refine aF7 T C B hr.len (by omega) fun o ho hco=>?_;rw[(hr.next C ho).one hco];simp only[PP,simprocAttr];exact hk
end
section
variable {tab:FuncId->Option AF}
theorem tX{g:FuncId}{F:List AV->H->Option AV}(hg:tab g=some (.prim (bE F))){args:List PV}{M:Mem}{K:PV->Mem->Prop}{r:PV}
    (h:∀w hh args',PSt w hh M->RepL w args args'->∃v,F args' hh=some v/\RepV w r v) (hk:K r M):SemC tab g args M K:=by
  intro w hh args' h0 s ha;obtain⟨v,hv,hr⟩:=h w hh args' s ha;unfold C;refine⟨v,hh,?_,w,r,M,PStp.refl (Nat.le_refl _) w hh,s,hr,hk⟩;rw[rK];simp only[dA,hg,bE,hv]
theorem PH{w:PWd}{s:ByteArray}{x:AV}(h:RepV w (.str s) x):x= .str s:=by cases h;rfl
theorem BX{w:PWd} :∀{l:List (BitVec 64)} {l':List AV},RepL w ((wI l).map (PV.int .u64)) l'->Key.wordsOf l'=some (l.map (·.toNat))
  | [],[],h=>rfl
  | [],_::_,h=>by have:=h.len;simp[wI]at this
  | _::_,[],h=>by have:=h.len;simp[wI]at this
  | a::l,x::l',h=>by have h1:=eJ h.hd;subst h1;have h2:=BX (l:=l) h.tl;have hlt:=a.isLt;unfold Key.wordsOf;rw[h2];simp only[List.map_cons];rw[if_pos ⟨by omega,by omega⟩];simp
theorem G2{w:PWd} :∀{l:List ByteArray} {l':List AV},RepL w (l.map PV.str) l'->dM l'=some l
  | [],[],h=>rfl
  | [],_::_,h=>by have:=h.len;simp at this
  | _::_,[],h=>by have:=h.len;simp at this
  | a::l,x::l',h=>by have h1:=PH h.hd;subst h1;have h2:=G2 (l:=l) h.tl;unfold dM;rw[h2]
end
def QS(n:Int):ByteArray:=⟨(IV n).toArray⟩
section
variable {tab:FuncId->Option AF} (T:HasA tab)
include T
theorem aDa{M:Mem}{K:PV->Mem->Prop}{n:Int}(h0: -9223372036854775808<=n)(h1:n<=9223372036854775807)(hk:K (.str (QS n)) M):SemC tab 106 [p64 n] M K:=by
  refine tX T.itoa (fun w hh args' s ha=>?_) hk
  match args',ha with
  | [v],ha=>have:=eJ ha.hd;subst this;exact⟨.str (QS n),by unfold itoaF;simp only;rw[if_pos ⟨h0,h1⟩];rfl,.str _⟩
theorem NK{M:Mem}{K:PV->Mem->Prop}{f o:Bool}{a:BitVec 64}(hk:K (.str (iV a)) M):SemC tab 155 [slW f o (eL a)] M K:=by
  refine tX T.key (fun w hh args' s ha=>?_) hk
  match args',ha with
  | [v],ha=>
    have hl:=YK a;rcases mA s ha.hd with⟨rfl,h1,h2⟩ | ⟨fl',b,off,ver,rw,bcs,rfl,_,e1,e2,e3,e4,e5,_⟩
    · refine⟨_,rfl,?_⟩;have:eL a=[]:=List.length_eq_zero_iff.1 h1;unfold iV;rw[this];exact .str _
    · by_cases hz:(eL a).length=0
      · refine⟨_,by show(if _ then _ else _)=_;rw[if_pos hz],?_⟩;have:eL a=[]:=List.length_eq_zero_iff.1 hz;unfold iV;rw[this];exact .str _
      · refine⟨.str (iV a),?_,.str _⟩;show(if _ then _ else _)=_;rw[if_neg hz,if_pos ⟨rfl,by omega⟩];have hgc:aZ hh b off (eL a).length=some ((bcs.drop off).take (eL a).length):=by
          unfold aZ;rw[e2];simp only;rw[if_pos (by rw[<-Nat.mul_one (eL a).length,<-e4];exact e3)]
        rw[hgc];have hc:((wI (eL a)).map (PV.int .u64)).length=(eL a).length:=by simp[wI]
        rw[hc]at e5;have:=BX e5;simp only[this];rfl
theorem aC9{M:Mem}{K:PV->Mem->Prop}{id g ver:Nat}{xs:List ByteArray}{sep:ByteArray}(hM:M[id]? =some (.cells g ver (xs.map PV.str)))(h1:xs.length<=140737488355328)
    (h2:(Lib.join (xs.map (·.data.toList)) sep.data.toList).length<=140737488355328) (hk:K (.str ⟨(Lib.join (xs.map (·.data.toList)) sep.data.toList).toArray⟩) M):SemC tab 63 [.ref id g 1 0 xs.length,.str sep] M K:=by
  refine tX T.join (fun w hh args' s ha=>?_) hk
  match args',ha with
  | [v,v2],ha=>
    have:=PH ha.tl.hd;subst this;obtain⟨e,q1,q2,q3⟩:=s.refAt hM ha.hd;rcases q3 with⟨rfl,h0,_,_,hcs⟩ | ⟨fl,b,bcs,rfl,p1,p2,p3,p4⟩
    · have:xs=[]:=by simpa using hcs
      subst this;exact⟨_,rfl,.str _⟩
    · by_cases hz:xs.length=0
      · refine⟨_,by show(if _ then _ else _)=_;rw[if_pos hz],?_⟩;have:xs=[]:=List.length_eq_zero_iff.1 hz;subst this;exact .str _
      · refine⟨_,?_,.str _⟩;show(if _ then _ else _)=_;rw[if_neg hz,if_pos rfl];have hgc:aZ hh b 0 xs.length=some bcs:=by unfold aZ;rw[p2];have:=p3.len;rw[List.length_map]at this;simp only;rw[if_pos (by omega),List.drop_zero,List.take_of_length_le (by omega)]
        rw[hgc];have:=G2 p3;simp only[this];rw[if_pos ⟨h1,h2⟩]
end
theorem LS{a:BitVec 64}{k:Nat}(h:k<64):bX .shr (kP a) (p64 k)=some (kP (a>>>k)):=by
  have h1:¬((k:Int)<0):=by omega
  have h2:min ((k:Int).toNat) 64=k:=by omega
  have h3:((a.toNat:Nat):Int).fdiv (2^k)=(((a>>>k).toNat:Nat):Int):=by rw[Int.fdiv_eq_ediv_of_nonneg _ (by exact Int.pow_nonneg (by omega)),BitVec.toNat_ushiftRight,Nat.shiftRight_eq_div_pow];simp
  simp only[bX,bN,eB,bF,sC,IntKind.bits,h1,h2,if_true,if_false,h3,Option.map_some,ofAV1]
theorem aDA(a:BitVec 64)(k:Nat):((((a>>>k)&&& 1#64).toNat:Nat):Int)=if a.getLsbD k=true then 1 else 0:=by
  have h:(a>>>k)&&& 1#64=if a.getLsbD k=true then 1#64 else 0#64:=by
    refine BitVec.eq_of_getLsbD_eq fun i hi=>?_;by_cases hk:a.getLsbD k=true
    · rw[if_pos hk,BitVec.getLsbD_and,BitVec.getLsbD_ushiftRight];by_cases h0:i=0
      · subst h0;simp[hk]
      · have:(1#64).getLsbD i=false:=by rw[BitVec.getLsbD_one];simp[h0]
        rw[this];simp
    · rw[if_neg hk,BitVec.getLsbD_and,BitVec.getLsbD_ushiftRight];by_cases h0:i=0
      · subst h0;simp at hk;simp[hk]
      · have:(1#64).getLsbD i=false:=by rw[BitVec.getLsbD_one];simp[h0]
        rw[this];simp
  rw[h];split<;>rfl
def lP(a:BitVec 64)(k:Nat):List Nat:=(List.range k).filter fun j=>a.getLsbD j
theorem NM(a:BitVec 64)(k:Nat):lP a (k+1)=lP a k++if a.getLsbD k=true then [k]else []:=by unfold lP;rw[List.range_succ,List.filter_append];congr 1;by_cases h:a.getLsbD k=true<;>simp[h]
theorem UZ(a:BitVec 64)(k:Nat):(lP a k).length<=k:=by unfold lP;exact Nat.le_trans (List.length_filter_le _ _) (by simp)
def orB(l:List Nat):BitVec 64:=l.foldl (fun w k=>w||| BitVec.twoPow 64 k) 0#64
theorem YE(l:List Nat)(k:Nat):orB (l++[k])=orB l||| BitVec.twoPow 64 k:=by unfold orB;rw[List.foldl_append];rfl
theorem YF(k:Nat):∀(l:List Nat) (w:BitVec 64),(∀x∈l,x<64)->((l.foldl (fun w k=>w||| BitVec.twoPow 64 k) w).getLsbD k=true↔w.getLsbD k=true\/k∈l)
  | [],w,_=>by simp
  | x::l,w,h=>by
    have hx:=h x (by simp);rw[List.foldl_cons,YF k l _ fun y hy=>h y (by simp[hy]),BitVec.getLsbD_or,Bool.or_eq_true,BitVec.getLsbD_twoPow,Bool.and_eq_true,decide_eq_true_eq,decide_eq_true_eq,List.mem_cons];constructor
    · rintro((h1 | ⟨h1,h2⟩) | h1)
      · exact .inl h1
      · exact .inr (.inl h2.symm)
      · exact .inr (.inr h1)
    · rintro(h1 | h1 | h1)
      · exact .inl (.inl h1)
      · exact .inl (.inr ⟨by omega,h1.symm⟩)
      · exact .inr h1
theorem aCr{l:List Nat}(h:∀x∈l,x<64)(k:Nat):(orB l).getLsbD k=true↔k∈l:=by unfold orB;rw[YF k l _ h];simp
theorem B5{N:NF}(C:NOk N):∀q∈N.st,0<=q/\q<64:=fun q hq=>by have:=gG C.st q hq;have:=C.n64;omega
theorem TK{N:NF}(C:NOk N):orB (N.st.map Int.toNat)=bR N:=by
  have h:=B5 C;refine BitVec.eq_of_getLsbD_eq fun i hi=>?_;rw[Bool.eq_iff_iff,aCr (fun x hx=>by obtain⟨q,hq,rfl⟩:=List.mem_map.1 hx;have:=h q hq;omega),lZ C];constructor
  · intro hx;obtain⟨q,hq,e⟩:=List.mem_map.1 hx;have:=h q hq;rw[show(i:Int)=q by omega];exact hq
  · intro hx;exact List.mem_map.2 ⟨i,hx,by simp⟩
theorem sH{tab:FuncId->Option AF}{g:FuncId}{args:List PV}{M:Mem}{K:PV->Mem->Prop}(hb:aC 0 args=true)(hc:SemC tab g args [] fun r M'=>∃r',fG 0 M' r=some r'/\K r' M):SemC tab g args M K:=qJ hb hc
section
variable {tab:FuncId->Option AF} (T:HasA tab)
include T
theorem lO{M:Mem}{K:PV->Mem->Prop}{f o:Bool}{xs:List Int}(hm:xs.length<big)(hk:K (slI false true .i64 xs) M):SemC tab 59 [slI f o .i64 xs] M K:=by refine sH (by simp only[PP,simprocAttr]) (aAF T hm fun g v=>⟨slI false true .i64 xs,?_,hk⟩);simp only[fG,dD];rw[mE (ver:=v) (Nat.zero_le _) rfl (by simp) (aP _ _ _),aU _ _ (by simp)]
theorem UV{M:Mem}{K:PV->Mem->Prop}{f o:Bool}{xs:List Eg}(hm:xs.length<big)(hk:K (slE false true xs) M):SemC tab 153 [slE f o xs] M K:=by
  refine sH (by simp only[PP,simprocAttr,bD]) (aAG T hm fun g v=>⟨slE false true xs,?_,hk⟩);simp only[fG,dD];have:=iH xs;have hu:aC 0 (egL xs)=true:=by
    exact dB 0 xs
  rw[mE (ver:=v) (Nat.zero_le _) rfl (by simp[iH]) hu,aU _ _ (by simp[iH])]
set_option maxHeartbeats 1000000 in
theorem RH{M:Mem}{K:PV->Mem->Prop}{f o:Bool}{a:BitVec 64}(hk:K (slI false true .i64 (m8 (dI a))) M):SemC tab 254 [slW f o (eL a)] M K:=by
  refine bM T.h254 (by simp only[PP,simprocAttr]) ?_;simp only[af254];refine aB (aA ?_);simp only[PP,simprocAttr];refine bB (GStep.nil 2 1 rfl rfl rfl) ?_;refine aA ?_;simp only[PP,simprocAttr];refine gU (fun(k:Nat) (g:Nat)=>k<=64) (fun k g=>(slW f o (eL a):: .junk:: .ref 0 g 1 0 (lP a k).length:: .junk::p64 k::zj 20)) (fun k g=>[.cells g 0 ((m8 (lP a k)).map p64)]) (fun k _=>64-k) 0 0 (by omega) (by simp only[lP,List.range_zero,List.filter_nil,PW]) rfl ?_;intro k g hk64 ih;refine aM (by kernel_rfl) ?_;simp only[PP,simprocAttr];refine QIf.intro (fun c=>?_) (fun c=>?_);rotate_left
  · obtain rfl:k=64:=by omega
    simp only[PP,simprocAttr,c];rw[aU _ _ (by simp)];have e:lP a 64=dI a:=rfl;rw[e];have e2:(m8 (dI a)).length=(dI a).length:=by simp
    rw[<-e2];exact hk
  have hlt:k<64:=by omega
  have hw:=aH (k:=k) (by show _<1000000000000;omega);have hbl:=UZ a k;have b1:((lP a k).length+1)*8<=140737488355328:=by omega
  have b2:(lP a k).length+1<=9223372036854775807:=by omega
  have hs:=NM a k;unfold eL;by_cases ha:a=0#64
  · have hn:a.getLsbD k=false:=by rw[ha];simp
    rw[hn]at hs;simp only[Bool.false_eq_true,if_false,List.append_nil]at hs;simp only[PP,simprocAttr,c,ha,hw,if_true];have:=ih (k+1) g (by omega) (by omega);rw[hs]at this;unfold eL at this;rw[ha]at this;simp only[if_true]at this;exact aG this (by simp only[PW])
  · have hsh:=LS (a:=a) hlt;have hand:bX .and (kP (a>>>k)) (.int .u64 1)=some (kP (a>>>k&&& 1#64)):=mF _ 1#64;have hb:=aDA a k;simp only[PP,simprocAttr,c,ha,hw,if_false,wI,hsh,hand,hb]
    cases hn:a.getLsbD k with
    | false=>rw[hn]at hs;simp only[Bool.false_eq_true,if_false,List.append_nil]at hs;simp only[PP,simprocAttr,hw];have:=ih (k+1) g (by omega) (by omega);rw[hs]at this;unfold eL at this;simp only[ha,if_false,wI]at this;exact aG this (by simp only[PW])
    | true=>
      rw[hn,if_pos rfl]at hs;simp only[PP,simprocAttr,hw,b1,b2];have:=ih (k+1) (g+1) (by omega) (by omega);rw[hs]at this;unfold eL at this;simp only[ha,if_false,wI]at this;have he:(lP a k++[k]).length=(lP a k).length+1:=by simp
      rw[he]at this;refine bA this (by simp only[PW]) ?_;rw[aU _ _ (by simp)];simp
set_option maxHeartbeats 1000000 in
theorem aF3{M:Mem}{K:PV->Mem->Prop}{f o:Bool}{N:NF}(C:NOk N)(B:BnN N)(hk:K (slW false true (eL (bR N))) M):SemC tab 154 [slI f o .i64 N.st] M K:=by
  have hst:=B5 C;have hb:N.st.length<1000000000000:=B.s;have z0:(((0#64:BitVec 64).toNat:Nat):Int)=0:=rfl;have z1:orB []=0#64:=rfl;have z2:kP 0#64= .int .u64 0:=rfl;refine fS (aE T.h154 (by simp only[PP,simprocAttr]) ?_);simp only[af154,PP,simprocAttr];refine iX (fun(k:Nat)=>k<=N.st.length) (fun k=>(zj 3++kP (orB ((N.st.map Int.toNat).take k)):: .junk:: .junk::slI f o .i64 N.st::p64 N.st.length::p64 k::zj 12)) (fun _=>[]) (fun k=>N.st.length-k) 0 (by omega) (by simp only[List.take_zero,z1,z2,PW]) rfl ?_;intro k hk' ih;refine aM (by kernel_rfl) ?_;simp only[PP,simprocAttr];refine QIf.intro (fun c=>?_) (fun c=>?_);rotate_left
  · have hkl:k=N.st.length:=by omega
    subst hkl;rw[List.take_of_length_le (by simp),TK C];unfold eL at hk;by_cases ha:bR N=0#64
    · rw[ha]at hk ⊢;simp only[PP,simprocAttr,c,z0];exact⟨_,PvWk.nils _ _ _,hk⟩
    · have hz:¬(((bR N).toNat:Nat):Int)=0:=fun h=>ha (by apply BitVec.eq_of_toNat_eq;simp;omega);rw[if_neg ha]at hk;simp only[PP,simprocAttr,c,hz];exact⟨_,PvWk.sl _ _ _ _,hk⟩
  have hlt:k<N.st.length:=by omega
  have hw:=aH (k:=k) (by show _<1000000000000;omega);have i0:(0:Int)<=k:=by omega
  obtain⟨q,gq⟩:=aO hlt;have hq:=hst q (List.mem_of_getElem? gq);have hsh:=xM (k:=q.toNat) (by omega);rw[show((q.toNat:Nat):Int)=q by omega]at hsh;have hor:=B7 (orB ((N.st.map Int.toNat).take k)) (BitVec.twoPow 64 q.toNat);have hnx:orB ((N.st.map Int.toNat).take (k+1))=orB ((N.st.map Int.toNat).take k)||| BitVec.twoPow 64 q.toNat:=by
    rw[<-YE,List.take_add_one,List.getElem?_map,gq];rfl
  simp only[PP,simprocAttr,c,i0,gq,hsh,hor,hw];have:=ih (k+1) (by omega) (by omega);rw[hnx]at this;exact aG this (by simp only[PW])
theorem aAe{M:Mem}{K:PV->Mem->Prop}{f o:Bool}{l:List Int}{q:Int}(hl:l.length<big)(hk:∀r:Int,(0<=r↔q∈l)->K (p64 r) M):SemC tab 259 [slI f o .i64 l,p64 q] M K:=by
  have hb:l.length<1000000000000:=hl;refine aE T.h259 (by simp only[PP,simprocAttr]) ?_;simp only[af259,PP,simprocAttr];refine iX (fun(k:Nat)=>k<=l.length/\q∉l.take k) (fun k=>(slI f o .i64 l::p64 q::zj 5++p64 l.length::p64 k::zj 10)) (fun _=>[]) (fun k=>l.length-k) 0 (by simp) (by simp only[PW]) rfl ?_;intro k ⟨hk',hnm⟩ ih;refine aM (by kernel_rfl) ?_;simp only[PP,simprocAttr];refine QIf.intro (fun c=>?_) (fun c=>?_);rotate_left
  · have hkl:k=l.length:=by omega
    subst hkl;rw[List.take_of_length_le (Nat.le_refl _)]at hnm;simp only[PP,simprocAttr,c];exact hk _ ⟨fun h=>absurd h (by omega),fun h=>absurd h hnm⟩
  have hlt:k<l.length:=by omega
  have hw:=aH (k:=k) (by show _<1000000000000;omega);have i0:(0:Int)<=k:=by omega
  obtain⟨x,gx⟩:=aO hlt;simp only[PP,simprocAttr,c,i0,gx];refine QIf.intro (fun d=>?_) (fun d=>?_)
  · simp only[PP,simprocAttr,d];exact hk _ ⟨fun _=>by rw[d];exact List.mem_of_getElem? gx,fun _=>i0⟩
  · simp only[PP,simprocAttr,d,hw];refine aG (ih (k+1) ⟨by omega,?_⟩ (by omega)) (by simp only[PW]);rw[List.take_add_one,gx];simp only[Option.toList_some,List.mem_append,List.mem_singleton];rintro(h | h)
    · exact hnm h
    · exact d h
theorem aDu{M:Mem}{K:PV->Mem->Prop}{f o:Bool}{l:List Int}{q:Int}(hl:l.length<big)(hk:K (.bool (decide (q∈l))) M):SemC tab 257 [slI f o .i64 l,p64 q] M K:=by
  refine aE T.h257 (by simp only[PP,simprocAttr]) ?_;simp only[af257,PP,simprocAttr];refine aAe T hl fun r hr=>?_;simp only[PP,simprocAttr];have:decide (0<=r)=decide (q∈l):=by simp only[hr]
  rw[this];exact hk
end
theorem ID{a b:BitVec 64}(h:iV a=iV b):a=b:=by
  unfold iV eL at h;have h:Key.keyT ((if a=0#64 then []else [a]).map (·.toNat))=Key.keyT ((if b=0#64 then []else [b]).map (·.toNat)):=by have:=congrArg (fun x:ByteArray=>x.data.toList) h;simpa using this
  by_cases ha:a=0#64<;>by_cases hb:b=0#64
  · rw[ha,hb]
  · rw[if_pos ha,if_neg hb]at h;simp[Key.keyT]at h
  · rw[if_neg ha,if_pos hb]at h;simp[Key.keyT]at h
  · rw[if_neg ha,if_neg hb]at h;simp only[List.map_cons,List.map_nil,Key.keyT]at h;have:=List.append_inj_left' h rfl;exact BitVec.eq_of_toNat_eq (ArK.t36_inj a.isLt b.isLt this)
section
variable {α:Type} [DecidableEq α]
def frN(δ:α->Nat->α)(a:α)(S:List α)(x:Nat):List α:=(bI δ a x S).drop S.length
theorem jW(δ:α->Nat->α)(a:α)(S:List α)(x:Nat):bI δ a x S=S++frN δ a S x:=by obtain⟨r,h⟩:=gC δ a x S;unfold frN;rw[h,List.drop_left]
def jP(δ:α->Nat->α)(a:α)(S:List α)(x:Nat):List Int:=(List.range x).map fun y=>(((bI δ a x S).idxOf (δ a y):Nat):Int)
theorem fK(δ:α->Nat->α)(a:α)(S:List α)(x:Nat):(jP δ a S x).length=x:=by simp[jP]
theorem BS(δ:α->Nat->α)(a:α)(S:List α)(x:Nat):jP δ a S (x+1)=jP δ a S x++[(((bI δ a (x+1) S).idxOf (δ a x):Nat):Int)]:=by unfold jP;rw[List.range_succ,List.map_append];congr 1;refine List.map_congr_left fun y hy=>?_;have hy:=List.mem_range.1 hy;obtain⟨r,h⟩:=sE (bI δ a x S) (δ a x);have h2:bI δ a (x+1) S=bI δ a x S++r:=h;rw[h2,tJ];exact(jV δ a _ x S).2 (.inr ⟨y,hy,rfl⟩)
theorem O3{δ:α->Nat->α}{a:α}{S:List α}{x:Nat}(h:δ a x∈S):frN δ a S (x+1)=frN δ a S x/\(bI δ a (x+1) S).idxOf (δ a x)=S.idxOf (δ a x):=by
  have e:bI δ a (x+1) S=bI δ a x S:=by show bP _ _=_;unfold bP;rw[if_pos (by rw[jW];exact List.mem_append_left _ h)]
  refine⟨by unfold frN;rw[e],?_⟩;rw[e,jW,tJ h]
theorem O5{δ:α->Nat->α}{a:α}{S:List α}{x:Nat}(h:δ a x∉S)(h2:δ a x∈frN δ a S x):frN δ a S (x+1)=frN δ a S x/\(bI δ a (x+1) S).idxOf (δ a x)=S.length+(frN δ a S x).idxOf (δ a x):=by
  have e:bI δ a (x+1) S=bI δ a x S:=by show bP _ _=_;unfold bP;rw[if_pos (by rw[jW];exact List.mem_append_right _ h2)]
  refine⟨by unfold frN;rw[e],?_⟩;rw[e,jW,List.idxOf_append,if_neg h,Nat.add_comm]
theorem O4{δ:α->Nat->α}{a:α}{S:List α}{x:Nat}(h:δ a x∉S)(h2:δ a x∉frN δ a S x):frN δ a S (x+1)=frN δ a S x++[δ a x]/\(bI δ a (x+1) S).idxOf (δ a x)=S.length+(frN δ a S x).length:=by
  have e:bI δ a (x+1) S=S++(frN δ a S x++[δ a x]):=by show bP _ _=_;unfold bP;rw[if_neg (by rw[jW,List.mem_append];rintro(q | q);exact h q;exact h2 q),jW,List.append_assoc]
  refine⟨by have:=e;unfold frN at this ⊢;rw[this,List.drop_left],?_⟩;rw[e,List.idxOf_append,if_neg h,List.idxOf_append,if_neg h2];simp only[List.idxOf_cons_self];omega
theorem pX(δ:α->Nat->α)(a:α)(S:List α):∀x,(frN δ a S x).length<=x
  | 0=>by simp[frN,bI]
  | x+1=>by
    have ih:=pX δ a S x;by_cases h:δ a x∈S
    · rw[(O3 h).1];omega
    · by_cases h2:δ a x∈frN δ a S x
      · rw[(O5 h h2).1];omega
      · rw[(O4 h h2).1];simp;omega
theorem UG(δ:α->Nat->α)(a:α){S:List α}(hS:S.Nodup)(x:Nat):∀t∈frN δ a S x,t∉S:=fun t ht hs=>by have:=lU (δ:=δ) (a:=a) x hS;rw[jW,List.nodup_append]at this;exact this.2.2 t hs t ht rfl
end
theorem HU{S:List (BitVec 64)}{t:BitVec 64}(k:Nat)(h:t∉S):gH 2 (.str (iV t)) (.str (iV t)) (p64 ((k+S.length:Nat):Int)) (smE (eM iV k S))=smE (eM iV k (S++[t])):=by have hl:=lE (κ:=iV) (Dm:=fun _=>True) (fun a b _ _ h=>ID h) (b:=t) trivial S k (fun _ _=>trivial);rw[if_neg h]at hl;rw[q9 _ _ _ hl,oN]
theorem tC(S:List (BitVec 64))(t:BitVec 64)(k:Nat):j9 (iV t) (eM iV k S)=if t∈S then some (p64 ((k+S.idxOf t:Nat):Int))else none:=
  lE (κ:=iV) (Dm:=fun _=>True) (fun a b _ _ h=>ID h) trivial S k (fun _ _=>trivial)
theorem y8(a:BitVec 64):(dI a).length<=64:=by unfold dI;exact Nat.le_trans (List.length_filter_le _ _) (by simp)
theorem J9(id g:Nat)(cs a b:List PV):∀l:List PV,PFrz id g cs (l++a) (l++b)=PFrz id g cs a b
  | []=>rfl
  | x::l=>by rw[List.cons_append,List.cons_append,o6,J9 id g cs a b l]
abbrev csD(f o:Bool)(S:List (BitVec 64)):List PV:=S.map fun a=>slW f o (eL a)
abbrev clD(f o:Bool)(S:List (BitVec 64)):List PV:=(cG S).map (slI f o .i64)
def qD(a b c d e f g h i j:Nat):Nat->Nat
  | 0=>a | 1=>b | 2=>c | 3=>d | 4=>e | 5=>f | 6=>g | 7=>h | 8=>i | _=>j
def dT(b:Nat)(f1 o1 f2 o2 f3 o3 f o:Bool)(N:NF)(q:Nat->Nat)(S:List (BitVec 64))(rows:List (List Int))(fins:List Bool):Mem:=
  [.gone,.cells (q 0) (q 1) (csD f o S),.cells (q 2) (q 3) (clD f o S),.map (q 4) (smE (eM iV 0 S)),
   .cells 0 (q 5) [p64 N.vs,p64 N.n,slI f1 o1 .i64 N.st,slI f2 o2 .i64 N.fi,slE f3 o3 N.es,.ref (b + 1) (q 0) 1 0 S.length,.ref (b + 2) (q 2) 1 0 S.length,.map (b + 3),.ref (b + 5) (q 6) 1 0 rows.length,.ref (b + 6) (q 8) 1 0 fins.length],
   .cells (q 6) (q 7) (rows.map (slI f o .i64)),.cells (q 8) (q 9) (fins.map PV.bool)]
theorem F0(m:Nat)(f o:Bool)(S:List (BitVec 64)):aC m (csD f o S)=true:=dK m _ (fun a=>dQ m _ _ 1 _ .u64 (wI (eL a))) S
theorem n9{A:Mem}(hA:A.all (aI A.length)=true)(f1 o1 f2 o2 f3 o3 f o:Bool)(N:NF)(q:Nat->Nat)(S:List (BitVec 64))(rows:List (List Int))(fins:List Bool):
    (A++dT A.length f1 o1 f2 o2 f3 o3 f o N q S rows fins).all (aI (A.length+7))=true:=by
  have h1:=cK (n:=A.length+7) (by omega) hA;have h2:∀m,aI m (.map (q 4) (smE (eM iV 0 S)))=true:=fun m=>by
    refine DQ (fun p hp=>?_) (q 4);have key:∀(S:List (BitVec 64)) (k:Nat),∀p∈eM iV k S,p.2.under m=true:=by
      intro S
      induction S with
      | nil=>intro k p hp;cases hp
      | cons a S ih=>
        intro k p hp;rcases List.mem_cons.1 hp with rfl | hp
        · simp[PV.under]
        · exact ih _ p hp
    exact key S 0 p hp
  rw[List.all_append,h1];have h3:aC (A.length+7) (rows.map (slI f o .i64))=true:=dK _ _ (fun x=>dQ _ _ _ 1 _ .i64 x) rows;have h4:aC (A.length+7) (clD f o S)=true:=dK _ _ (fun x=>dQ _ _ _ 1 _ .i64 x) _;have h5:aC (A.length+7) (fins.map PV.bool)=true:=dK _ _ (fun x=>by simp[PV.under]) fins;have h6:=F0 (A.length+7) f o S;simp only[dT,List.all_cons,List.all_nil,h2,Bool.true_and,Bool.and_true];simp only[aI,h3,h4,h5,h6];simp[aC,PV.under,dB,aP]
theorem lJ{A l:Mem}{f1 o1 f2 o2 f3 o3 f o:Bool}{N:NF}{q:Nat->Nat}{S:List (BitVec 64)}{rows:List (List Int)}{fins:List Bool} :
    (A++(dT A.length f1 o1 f2 o2 f3 o3 f o N q S rows fins++l)).take (A.length+7)=A++dT A.length f1 o1 f2 o2 f3 o3 f o N q S rows fins:=by
  rw[<-List.append_assoc];exact List.take_left' (by simp[dT])
section
variable {tab:FuncId->Option AF} (T:HasA tab)
include T
theorem Q2{A l:Mem}{K:PV->Mem->Prop}{f1 o1 f2 o2 f3 o3 f o:Bool}{N:NF}{q:Nat->Nat}{S:List (BitVec 64)}{rows:List (List Int)}{fins:List Bool}(hk:K (.bool (decide (rows.length<S.length))) (A++(dT A.length f1 o1 f2 o2 f3 o3 f o N q S rows fins++l))):
    SemC tab 252 [.ptr (A.length+4) 0 0] (A++(dT A.length f1 o1 f2 o2 f3 o3 f o N q S rows fins++l)) K:=by
  refine aT T.h252 ?_;unfold dT at hk ⊢;simp only[af252,PP,simprocAttr,gk,gk0,sk,sk0];have e:decide ((rows.length:Int)<S.length)=decide (rows.length<S.length):=by simp only[Int.ofNat_lt]
  rw[e];exact hk
theorem aHu{M:Mem}{K:PV->Mem->Prop}{id v:Nat}{f o:Bool}{l:List Int}{x:Int}(hM:M[id]? =some (.cells 0 v [slI f o .i64 l]))(hl:l.length<big)(hk:K (.bool (decide (x∈l))) M):
    SemC tab 256 [p64 x,.ptr id 0 0] M K:=by
  refine aT T.h256 ?_;simp only[af256,PP,simprocAttr,hM];refine aDu T hl ?_;simp only[PP,simprocAttr];exact hk
theorem aFF{M:Mem}{K:PV->Mem->Prop}{id v:Nat}{f o f2 o2:Bool}{l xs:List Int}(hM:M[id]? =some (.cells 0 v [slI f o .i64 l]))(hl:l.length<big)(hx:xs.length<big)(hk:∀r:Int,(0<=r↔∃x∈xs,x∈l)->K (p64 r) M):
    SemC tab 258 [slI f2 o2 .i64 xs,.func (.func 256) [] [.ptr id 0 0]] M K:=by
  have hb:xs.length<1000000000000:=hx;refine aT T.h258 ?_;simp only[af258,PP,simprocAttr];refine iX (fun(k:Nat)=>k<=xs.length/\∀x∈xs.take k,x∉l) (fun k=>(slI f2 o2 .i64 xs:: .func (.func 256) [] [.ptr id 0 0]::zj 5++p64 xs.length::p64 k::zj 10)) (fun _=>M) (fun k=>xs.length-k) 0 (by simp) (by simp only[PW]) rfl ?_;intro k ⟨hk',hnm⟩ ih;refine aM (by kernel_rfl) ?_;simp only[PP,simprocAttr];refine QIf.intro (fun c=>?_) (fun c=>?_);rotate_left
  · have hkl:k=xs.length:=by omega
    subst hkl;rw[List.take_of_length_le (Nat.le_refl _)]at hnm;simp only[PP,simprocAttr,c];exact hk _ ⟨fun h=>absurd h (by omega),fun⟨x,h1,h2⟩=>absurd h2 (hnm x h1)⟩
  have hlt:k<xs.length:=by omega
  have hw:=aH (k:=k) (by show _<1000000000000;omega);have i0:(0:Int)<=k:=by omega
  obtain⟨x,gx⟩:=aO hlt;simp only[PP,simprocAttr,c,i0,gx];refine aHu T hM hl ?_;by_cases d:x∈l
  · simp only[PP,simprocAttr,d];exact hk _ ⟨fun _=>⟨x,List.mem_of_getElem? gx,d⟩,fun _=>i0⟩
  · simp only[PP,simprocAttr,d,hw];refine aG (ih (k+1) ⟨by omega,?_⟩ (by omega)) (by simp only[PW]);rw[List.take_add_one,gx];simp only[Option.toList_some,List.mem_append,List.mem_singleton];rintro y (h | rfl)
    · exact hnm y h
    · exact d
theorem aDt{M:Mem}{K:PV->Mem->Prop}{id v:Nat}{f o f2 o2:Bool}{l xs:List Int}{b:Bool}(hM:M[id]? =some (.cells 0 v [slI f o .i64 l]))(hl:l.length<big)(hx:xs.length<big)(hb:b=true↔∃x∈xs,x∈l)(hk:K (.bool b) M):
    SemC tab 255 [slI f2 o2 .i64 xs,.func (.func 256) [] [.ptr id 0 0]] M K:=by
  refine aT T.h255 ?_;simp only[af255,PP,simprocAttr];refine aFF T hM hl hx fun r hr=>?_;simp only[PP,simprocAttr];have:decide (0<=r)=b:=by rw[Bool.eq_iff_iff,decide_eq_true_eq,hr,hb]
  rw[this];exact hk
set_option maxHeartbeats 2000000 in
theorem aDm{A:Mem}{K:PV->Mem->Prop}{f1 o1 f2 o2 f3 o3 f o:Bool}{N:NF}{q:Nat->Nat}{S:List (BitVec 64)}{rows:List (List Int)}{fins:List Bool}(hc:bZ N=0)(B:BnN N)(hA:A.all (aI A.length)=true)
    (hn:S.Nodup) (hl:S.length<=4096) (hfi:fins.length=rows.length)
    (hk0:S.length<=rows.length->K (.tuple [.bool false,p64 0]) (A++dT A.length f1 o1 f2 o2 f3 o3 f o N q S rows fins))
    (hk1:∀a,S[rows.length]? =some a->4096<(bI (aL N) a (aF N) S).length->K (.tuple [.bool false,p64 10]) (A++dT A.length f1 o1 f2 o2 f3 o3 f o N q S rows fins))
    (hk2:∀a,S[rows.length]? =some a->(bI (aL N) a (aF N) S).length<=4096->∀q',K (.tuple [.bool true,p64 0]) (A++dT A.length f1 o1 f2 o2 f3 o3 true false N q' (bI (aL N) a (aF N) S) (rows++[gY (aL N) (aF N) (bI (aL N) a (aF N) S) a]) (fins++[o8 N a]))):
    SemC tab 253 [.ptr (A.length+4) 0 0] (A++dT A.length f1 o1 f2 o2 f3 o3 f o N q S rows fins) K:=by
  have C:=gK hc;have hshl:bX .shl (.int .i64 1) (.int .i64 N.vs)=some (.int .i64 ((aF N:Nat):Int)):=by rw[DT (by have:=C.v0;omega) (by have:=C.v6;omega)];simp
  refine dC (dV T.h253 ?_);simp only[af253];refine aA ?_;simp only[PP,simprocAttr,PT];refine Q2 T (l:=[]) ?_;simp only[PP,simprocAttr];by_cases c:rows.length<S.length;rotate_left
  · simp only[PP,simprocAttr,c];exact Gh.same ⟨_,rfl,hk0 (by omega)⟩
  obtain⟨a,ga⟩:=aO c;have k0:(0:Int)<=rows.length:=by omega
  have k1:(rows.length:Int)<S.length:=by omega
  simp only[dT,PP,simprocAttr,PT,gk,gk0,sk,sk0,c,k0,k1,ga,hshl,List.append_assoc];refine aG (b:=(.ptr (A.length+4) 0 0::zj 3++slW f o (eL a):: .nils:: .nils:: .map (A.length+7)::zj 29++p64 (aF N:Nat)::p64 (0:Nat)::zj 130)) ?_ (by simp only[PW]);refine bB (GStep.nil (b:=(.ptr (A.length+4) 0 0::zj 3++slW f o (eL a):: .ref (A.length+8) 0 1 0 0:: .nils:: .map (A.length+7)::zj 29++p64 (aF N:Nat)::p64 (0:Nat)::zj 130)) 5 1 rfl (by simp only[PP,simprocAttr]) rfl) ?_;refine bB (GStep.nil (b:=(.ptr (A.length+4) 0 0::zj 3++slW f o (eL a):: .ref (A.length+8) 0 1 0 0:: .ref (A.length+9) 0 1 0 0:: .map (A.length+7)::zj 29++p64 (aF N:Nat)::p64 (0:Nat)::zj 130)) 6 1 rfl (by simp only[PP,simprocAttr]) rfl) ?_;refine pF (fun(x gr gf vm:Nat)=>x<=aF N) (fun x gr gf vm=>(.ptr (A.length+4) 0 0::zj 3++slW f o (eL a):: .ref (A.length+8) gr 1 0 x:: .ref (A.length+9) gf 1 0 (frN (aL N) a S x).length:: .map (A.length+7)::zj 29++p64 (aF N:Nat)::p64 (x:Nat)::zj 130))
    (fun x gr gf vm=>A++(dT A.length f1 o1 f2 o2 f3 o3 f o N q S rows fins++[.map vm (smE (eM iV S.length (frN (aL N) a S x))),.cells gr 0 ((jP (aL N) a S x).map p64),.cells gf 0 (csD false true (frN (aL N) a S x))])) (fun x gr gf vm=>aF N-x) 0 0 0 0 (by omega) (by simp only[frN,bI,List.drop_length,PW]) ?_ ?_
  · simp only[dT,frN,bI,List.drop_length,jP,List.range_zero,eM,smE,List.append_assoc,PP,simprocAttr]
  intro x gr gf vm hx ih;refine aM (by kernel_rfl) ?_;have h64:=C.let64;have hfl:=pX (aL N) a S x;simp only[dT,PP,simprocAttr,PT,gk,gk0,sk,sk0,List.append_assoc];refine QIf.intro (fun d=>?_) (fun d=>?_)
  · have hxl:x<aF N:=by omega
    have hw8:IntKind.u8.wrap (x:Int)=(x:Int):=by
      have:x<256:=by omega
      unfold IntKind.wrap;simp[IntKind.bits,IntKind.signed];omega
    have hwx:=aH (k:=x) (by show _<1000000000000;omega);have hwl:IntKind.i64.wrap ((S.length:Int)+(frN (aL N) a S x).length)=((S.length+(frN (aL N) a S x).length:Nat):Int):=by rw[wrap64]<;>omega
    have b1:(x+1)*8<=140737488355328:=by omega
    have b2:x+1<=9223372036854775807:=by omega
    have b3:x<=(jP (aL N) a S x).length:=by rw[fK];exact Nat.le_refl _
    have b4:((frN (aL N) a S x).length+1)*24<=140737488355328:=by omega
    have b5:(frN (aL N) a S x).length+1<=9223372036854775807:=by omega
    have hlk0:=tC S (aL N a x) 0;have hlk1:=tC (frN (aL N) a S x) (aL N a x) S.length;have hrow:=BS (aL N) a S x;simp only[dT,PP,simprocAttr,PT,gk,gk0,sk,sk0,List.append_assoc,d,hw8];refine TN T hc B hxl ?_;simp only[dT,PP,simprocAttr,PT,gk,gk0,sk,sk0,List.append_assoc];refine NK T ?_;simp only[dT,PP,simprocAttr,PT,gk,gk0,sk,sk0,List.append_assoc];by_cases m1:aL N a x∈S
    · rw[if_pos m1]at hlk0;obtain⟨v1,v2⟩:=O3 m1;rw[v2]at hrow;simp only[dT,PP,simprocAttr,PT,gk,gk0,sk,sk0,List.append_assoc,hlk0,hwx,b1,b2,b3];have:=ih (x+1) (gr+1) gf vm (by omega) (by omega);rw[v1,hrow]at this;refine bA this (by simp only[PW]) ?_;simp only[dT,List.append_assoc,PP,simprocAttr];rw[aU _ _ (by simp[fK])]
    · rw[if_neg m1]at hlk0;by_cases m2:aL N a x∈frN (aL N) a S x
      · rw[if_pos m2]at hlk1;obtain⟨v1,v2⟩:=O5 m1 m2;rw[v2]at hrow;simp only[dT,PP,simprocAttr,PT,gk,gk0,sk,sk0,List.append_assoc,hlk0,hlk1,hwx,b1,b2,b3];have:=ih (x+1) (gr+1) gf vm (by omega) (by omega);rw[v1,hrow]at this;refine bA this (by simp only[PW]) ?_;simp only[dT,List.append_assoc,PP,simprocAttr];rw[aU _ _ (by simp[fK])]
      · rw[if_neg m2]at hlk1;obtain⟨v1,v2⟩:=O4 m1 m2;rw[v2]at hrow;have hput:=HU S.length m2;simp only[dT,PP,simprocAttr,PT,gk,gk0,sk,sk0,List.append_assoc,hlk0,hlk1,hwx,hwl,hput,b1,b2,b3,b4,b5];have:=ih (x+1) (gr+1) (gf+1) (vm+1) (by omega) (by omega);rw[v1,hrow]at this;have e1:(frN (aL N) a S x++[aL N a x]).length=(frN (aL N) a S x).length+1:=by simp
        rw[e1]at this;refine bA this (by simp only[PW]) ?_;simp only[dT,List.append_assoc,PP,simprocAttr];rw[aU _ _ (by simp[fK])]
  obtain rfl:x=aF N:=by omega
  have hwl:IntKind.i64.wrap ((S.length:Int)+(frN (aL N) a S (aF N)).length)=((S.length+(frN (aL N) a S (aF N)).length:Nat):Int):=by rw[wrap64]<;>omega
  have hvl:(bI (aL N) a (aF N) S).length=S.length+(frN (aL N) a S (aF N)).length:=by rw[jW,List.length_append]
  simp only[dT,PP,simprocAttr,PT,gk,gk0,sk,sk0,List.append_assoc,d,hwl];refine QIf.intro (fun e=>?_) (fun e=>?_)
  · simp only[PP,simprocAttr,e];refine Gh.step (GStep.dropM (b:=[.tuple [.bool false,p64 10]]) (N:=A++dT A.length f1 o1 f2 o2 f3 o3 f o N q S rows fins) (A.length+7) (by simp) (by simp) (by simp only[PW]) ?_ ?_ ?_) (Gh.same ⟨_,rfl,hk1 a ga (by omega)⟩)
    · simp[aC,PV.under]
    · exact(congrArg (fun M:Mem=>M.all (aI (A.length+7))) (lJ (l:=[_,_,_]))).trans (n9 hA ..)
    · exact lJ (l:=[_,_,_])
  have hvn:=UG (aL N) a hn (aF N);have hfd:(frN (aL N) a S (aF N)).Nodup:=by have:=lU (δ:=aL N) (a:=a) (aF N) hn;rw[jW,List.nodup_append]at this;exact this.2.1
  have hcl:∀S:List (BitVec 64),(cG S).length=S.length:=fun S=>by simp[cG]
  simp only[PP,simprocAttr,gk,gk0,e];have hvis:=jW (aL N) a S (aF N);generalize hfr:frN (aL N) a S (aF N)=fr at*;refine aG (b:=(.ptr (A.length+4) 0 0::zj 3++slW f o (eL a):: .ref (A.length+8) gr 1 0 (aF N)::zj 96++ .ref (A.length+9) gf 1 0 fr.length::p64 fr.length::p64 (0:Nat)::zj 64)) ?_ (by simp only[PW]);refine bB (GStep.wkO (A.length+1) (cs2:=csD true false S) (by rw[gk];rfl) (fun w bcs h=>h.wkM (fun x=>PvWk.sl0 _ _ _ _ _)) rfl) ?_;refine bB (GStep.wkO (A.length+2) (cs2:=clD true false S) (by rw[sk,gk];rfl) (fun w bcs h=>h.wkM (fun x=>PvWk.sl0 _ _ _ _ _)) rfl) ?_;refine bB (GStep.wkO (A.length+5) (cs2:=rows.map (slI true false .i64)) (by rw[sk,sk,gk];rfl) (fun w bcs h=>h.wkM (fun x=>PvWk.sl0 _ _ _ _ _)) rfl) ?_;refine aGP (fun(i qs vs ql vl qm qw:Nat)=>i<=fr.length) (fun i qs vs ql vl qm qw=>(.ptr (A.length+4) 0 0::zj 3++slW f o (eL a):: .ref (A.length+8) gr 1 0 (aF N)::zj 96++ .ref (A.length+9) gf 1 0 fr.length::p64 fr.length::p64 (i:Nat)::zj 64))
    (fun i qs vs ql vl qm qw=>A++[.gone,.cells qs vs (csD true false S++csD false true (fr.take i)),.cells ql vl (clD true false S++clD false true (fr.take i)),.map qm (smE (eM iV 0 (S++fr.take i))),.cells 0 qw [p64 N.vs,p64 N.n,slI f1 o1 .i64 N.st,slI f2 o2 .i64 N.fi,slE f3 o3 N.es,.ref (A.length+1) qs 1 0 (S.length+i),.ref (A.length+2) ql 1 0 (S.length+i),.map (A.length+3),.ref (A.length+5) (q 6) 1 0 rows.length,.ref (A.length+6) (q 8) 1 0 fins.length],.cells (q 6) (q 7) (rows.map (slI true false .i64)),.cells (q 8) (q 9) (fins.map PV.bool),.map vm (smE (eM iV S.length fr)),.cells gr 0 ((jP (aL N) a S (aF N)).map p64),.cells gf 0 (csD false true fr)]) (fun i qs vs ql vl qm qw=>fr.length-i) 0 (q 0) (q 1) (q 2) (q 3) (q 4) (q 5) (by omega) (by simp only[PW]) ?_ ?_
  · have e0:clD false true []=[]:=rfl;simp only[sk,List.take_zero,List.map_nil,e0,List.append_nil,Nat.add_zero,PP,simprocAttr]
  intro i qs vs ql vl qm qw hi ih;refine aM (by kernel_rfl) ?_;simp only[PP,simprocAttr,PT,gk,gk0,sk,sk0];refine QIf.intro (fun c2=>?_) (fun c2=>?_)
  · have hil:i<fr.length:=by omega
    obtain⟨t,gt⟩:=aO hil;have i0:(0:Int)<=i:=by omega
    have hwi:=aH (k:=i) (by show _<1000000000000;omega);have htk:fr.take (i+1)=fr.take i++[t]:=bL gt;have hnm:t∉S++fr.take i:=by
      rw[List.mem_append];rintro(h | h)
      · exact hvn t (List.mem_of_getElem? gt) h
      · have h2:=hfd;rw[<-List.take_append_drop i fr,List.nodup_append]at h2;refine h2.2.2 t h t ?_ rfl;exact List.mem_of_getElem? (i:=0) (by rw[List.getElem?_drop];exact gt)
    have hput:=HU 0 hnm;have hlk:=tC (S++fr.take i) t 0;rw[if_neg hnm]at hlk;have hln:(S++fr.take i).length=S.length+i:=by rw[List.length_append,List.length_take,Nat.min_eq_left (by omega)]
    rw[hln,Nat.zero_add,List.append_assoc,<-htk]at hput;have hti:(fr.take i).length=i:=by rw[List.length_take,Nat.min_eq_left (by omega)]
    have hn14:(A.length+1==A.length+4)=false:=by simp
    have hn24:(A.length+2==A.length+4)=false:=by simp
    have hl2:(S.length+i+1)*24<=140737488355328:=by omega
    have hl3:S.length+i<=9223372036854775806:=by omega
    have hcs:(csD true false S++csD false true (fr.take i)).length=S.length+i:=by simp;omega
    have hcl':(clD true false S++clD false true (fr.take i)).length=S.length+i:=by simp[cG];omega
    simp only[PP,simprocAttr,PT,gk,gk0,sk,sk0,c2,i0,gt];refine NK T ?_;have hl0:S.length+i<=S.length+i:=Nat.le_refl _;simp only[PP,simprocAttr,PT,gk,gk0,sk,sk0,hlk,hput,hti,hl0,hl2,hl3,hn14];refine RH T ?_;simp only[PP,simprocAttr,PT,gk,gk0,sk,sk0,hcl,hti,hl0,hl2,hl3,hn14,hn24,hwi];have:=ih (i+1) (qs+1) 0 (ql+1) 0 (qm+1) (qw+1+1) (by omega) (by omega);refine bA this (by simp only[PW]) ?_;have e5:csD false true (fr.take (i+1))=csD false true (fr.take i)++[slW false true (eL t)]:=by rw[htk];simp
    have e6:clD false true (fr.take (i+1))=clD false true (fr.take i)++[slI false true .i64 (m8 (dI t))]:=by rw[htk];simp only[clD,cG,List.map_append,List.map_cons,List.map_nil]
    rw[aU _ _ hcs.symm,aU _ _ hcl'.symm,e5,e6];simp only[List.append_assoc,Nat.add_assoc,List.length_map,slW,slI]
  obtain rfl:i=fr.length:=by omega
  rw[List.take_length];simp only[PP,simprocAttr,PT,gk,gk0,sk,sk0,c2];refine RH T ?_;have n1:(rows.length+1)*24<=140737488355328:=by omega
  have n2:rows.length<=9223372036854775806:=by omega
  have n3:fins.length+1<=140737488355328:=by omega
  have n4:fins.length<=9223372036854775806:=by omega
  have n5:rows.length+1<=9223372036854775807:=by omega
  have n6:fins.length+1<=9223372036854775807:=by omega
  simp only[PP,simprocAttr,PT,gk,gk0,sk,sk0,List.append_assoc,n1,n2,n5,n3,n4,n6];refine aDt T (v:=1) (f:=false) (o:=true) (l:=m8 (dI a)) (b:=o8 N a) (by rw[gk];simp only[slI,List.length_map,List.getElem?_cons_succ,List.getElem?_cons_zero]) (by have:=y8 a;simp;show _<1000000000000;omega) B.f ?_ ?_
  · unfold o8;rw[List.any_eq_true];constructor
    · rintro⟨x,h1,h2⟩;have:=gG C.fi x h1;exact⟨x,h1,List.mem_map.2 ⟨x.toNat,mem_bitsW.2 h2,by omega⟩⟩
    · rintro⟨x,h1,h2⟩;obtain⟨k,h3,rfl⟩:=List.mem_map.1 h2;exact⟨_,h1,by rw[Int.toNat_natCast];exact mem_bitsW.1 h3⟩
  simp only[PP,simprocAttr,PT,gk,gk0,sk,sk0,List.append_assoc,n1,n2,n5,n3,n4,n6];have hrow:jP (aL N) a S (aF N)=gY (aL N) (aF N) (bI (aL N) a (aF N) S) a:=rfl;have hrl:=fK (aL N) a S (aF N);have key:=hk2 a ga (by omega) (qD qs vs ql vl qm (qw+1+1) (q 6+1) 0 (q 8+1) 0);rw[<-hrow,hvis]at key;refine Gh.step (GStep.freezeIn (b:=[.tuple [.bool true,.int .i64 0]]) (cj2:=rows.map (slI true false .i64)++[slI false true .i64 (jP (aL N) a S (aF N))]) (A.length+8) (A.length+5) (by omega) (by rw[gk];rfl) (by rw[gk];rfl) (by omega) ?_ ?_ rfl) ?_
  · simp only[kK,kL,List.cons_append,List.nil_append,o6,sJ]
  · rw[J9,J8 (by simp[hrl]) (by rw[aU _ _ (by simp[hrl])];simp only[slI,hrl]),sJ];trivial
  simp only[gk,sk,List.set_cons_succ,List.set_cons_zero];refine Gh.step (GStep.wkO (A.length+1) (cs2:=csD true false (S++fr)) (by rw[gk];rfl) (fun w bcs h=>h.wkA (fun x=>PvWk.refl _) (fun x=>PvWk.sl0 _ _ _ _ _)) rfl) ?_;simp only[gk,sk,List.set_cons_succ,List.set_cons_zero];refine Gh.step (GStep.wkO (A.length+2) (cs2:=clD true false (S++fr)) (by rw[gk];rfl) (fun w bcs h=>by
    have e:clD true false (S++fr)=(cG S++cG fr).map (slI true false .i64):=by simp only[clD,cG,List.map_append]
    rw[e];exact h.wkA (fun x=>PvWk.refl _) (fun x=>PvWk.sl0 _ _ _ _ _)) rfl) ?_
  simp only[gk,sk,List.set_cons_succ,List.set_cons_zero];refine Gh.step (GStep.wkO (A.length+5) (cs2:=(rows++[jP (aL N) a S (aF N)]).map (slI true false .i64)) (by rw[gk];rfl) (fun w bcs h=>RepL.wkA (ys:=[jP (aL N) a S (aF N)]) (f2:=slI false true .i64) (fun x=>PvWk.refl _) (fun x=>PvWk.sl0 _ _ _ _ _) h) rfl) ?_;simp only[gk,sk,List.set_cons_succ,List.set_cons_zero];have hsl:S.length+fr.length=(S++fr).length:=by simp
  have hrl2:rows.length+1=(rows++[jP (aL N) a S (aF N)]).length:=by simp
  have hfl2:fins.length+1=(fins++[o8 N a]).length:=by simp
  rw[hsl,hrl2,hfl2];have ef:fins.map PV.bool++[.bool (o8 N a)]=(fins++[o8 N a]).map PV.bool:=by simp
  rw[ef];refine Gh.step (GStep.dropM (b:=[.tuple [.bool true,p64 0]]) (N:=A++dT A.length f1 o1 f2 o2 f3 o3 true false N (qD qs vs ql vl qm (qw+1+1) (q 6+1) 0 (q 8+1) 0) (S++fr) (rows++[jP (aL N) a S (aF N)]) (fins++[o8 N a])) (A.length+7) (Nat.le_refl _) (by simp) (by simp only[PW]) (by simp[aC,PV.under]) ?_ ?_) (Gh.same ⟨_,rfl,key⟩)
  · exact(congrArg (fun M:Mem=>M.all (aI (A.length+7))) (lJ (q:=qD qs vs ql vl qm (qw+1+1) (q 6+1) 0 (q 8+1) 0) (l:=[_,_,_,_]))).trans (n9 hA ..)
  · exact lJ (q:=qD qs vs ql vl qm (qw+1+1) (q 6+1) 0 (q 8+1) 0) (l:=[_,_,_,_])
end
end Go.Am.Ar

