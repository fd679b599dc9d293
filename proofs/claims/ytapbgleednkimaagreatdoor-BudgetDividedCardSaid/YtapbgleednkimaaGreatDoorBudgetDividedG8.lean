/- Contract: Save of a determinization, and what goes with it. -/
import Derived.Test.YtapbgleednkimaaGreatDoorBudgetDividedG7
import Derived.Test.YtapbgleednkimaaGreatDoorPmC
set_option linter.unusedVariables false
set_option linter.unusedSimpArgs false
set_option maxRecDepth 10000
namespace Go.Am
theorem rE {tab:FuncId->Option AF} {m:Nat} {a:List PV} {M:Mem} {Qn Qr:List PV->Mem->Prop} {Qe:Nat->List PV->Mem->Prop} {c:AR} {x y:AC} (hc:pev a c= .bool false) (h:eT tab m y a M Qn Qr Qe):eT tab m (.cond c x y) a M Qn Qr Qe:=by
 intro w hh a' h0 hm s ha
 rw[FC]
 have hv:=dG ha c
 rw[hc]at hv
 refine⟨false,kN hv,?_⟩
 rw[if_neg (by simp)]
 exact h w hh a' h0 hm s ha
end Go.Am
namespace Go.Am.Ar
open Go.Am.PV renaming junk->Zj
open Go.Am renaming kV->P1,qL->P2,PKNo->P3,ppack->P4,PObj.under->P5,pput->P6,ptset->P7,ptget->P8,pev->P9,ofAV->P10,ofAV1->P11,ppad->P12,pfill->P13,fF->P14,AO.effect->P15
open List renaming replicate->L1
def In.txtS (i:In) (u:Nat):ByteArray:=⟨(i.txt u).toArray⟩
theorem V3 (i:In) (u:Nat):(⟨(Lib.join (((⟨i.kw.toArray⟩:ByteArray)::wds ((u:Int)::i.nums)).map (·.data.toList)) [32]).toArray⟩:ByteArray)=i.txtS u:=by
 rw[H8]
 unfold In.txtS In.txt
 congr 3
 simp[v7]
theorem mQ {A G:Mem} {b vb g vw n:Nat} {xs:List ByteArray} {cs:List PV} (h1:n=xs.length) (h2:cs=xs.map PV.str):A++PObj.cells 0 vb [.ref (b+1) g 1 0 n]::PObj.cells g vw cs::G=A++(wdM b vb g vw xs++G):=by
 subst h1;subst h2;rfl
theorem E4:∀k u,(dig k u).length<=k
 | 0,_=>Nat.le_refl _
 | k+1,u=>by
  unfold dig
  split
  ·simp
  ·rw[List.length_append,List.length_singleton]
   have:=E4 k (u / 10)
   omega
theorem ND:∀l:List Int,((l.map fun n:Int=>nG n.toNat).flatMap fun x=>32::x).length<=21*l.length
 | []=>by simp
 | x::l=>by
  have:=ND l
  have h:=E4 20 x.toNat
  simp only[List.map_cons,List.flatMap_cons,List.length_append,List.length_cons]
  have:(nG x.toNat).length<=20:=h
  omega
theorem NN (i:In) (u:Nat):(i.txt u).length<=32+21*i.nums.length:=by
 have h:=ND ((u:Int)::i.nums)
 have hk:i.kw.length<=11:=by cases i<;>simp[In.kw,kwD,kwM,kwP]
 have:(i.txt u).length=i.kw.length+((((u:Int)::i.nums).map fun n:Int=>nG n.toNat).flatMap fun x=>32::x).length:=by
  unfold In.txt qF
  rw[List.length_append]
 rw[List.length_cons]at h
 omega
section
variable {tab:FuncId->Option AF} (T:HasA tab)
include T
omit T in
theorem pW:∀l:List Eg,(l.flatMap egN).length=4*l.length
 | []=>rfl
 | e::l=>by
  rw[List.flatMap_cons,List.length_append,pW l]
  simp[egN];omega
theorem KF {M:Mem} {K:PV->Mem->Prop} {i:In} {u id g ver n:Nat} {cs:List PV} (hM:M[id]? =some (.cells g ver cs)) (hn:n=cs.length) (hcs:cs= .str ⟨i.kw.toArray⟩::((u:Int)::i.nums).map fun x=>PV.str (v7 x.toNat)) (hl:i.nums.length<1000000000) (hk:K (.str (i.txtS u)) M):
  SemC tab 63 [.ref id g 1 0 n,.str ⟨#[32]⟩] M K:=by
 have e:cs=((⟨i.kw.toArray⟩:ByteArray)::wds ((u:Int)::i.nums)).map PV.str:=by
  rw[hcs];simp
 have hlen:n=((⟨i.kw.toArray⟩:ByteArray)::wds ((u:Int)::i.nums)).length:=by
  rw[hn,e,List.length_map]
 rw[e]at hM
 rw[hlen]
 have h32:(⟨#[32]⟩:ByteArray).data.toList=[32]:=rfl
 have ht:=NN i u
 have hj:Lib.join (((⟨i.kw.toArray⟩:ByteArray)::wds ((u:Int)::i.nums)).map (·.data.toList)) [32]=i.txt u:=by
  have:=V3 i u
  unfold In.txtS at this
  have:=congrArg (fun b:ByteArray=>b.data.toList) this
  simpa using this
 refine aAm T hM (by simp;omega) (by rw[h32,hj];omega) ?_
 rw[h32,hj]
 exact hk
set_option maxHeartbeats 4000000 in
theorem aBZ {M:Mem} {K:PV->Mem->Prop} {j w v vw:Nat} {u:Nat} {f1 o1 f2 o2 f3 o3:Bool} {N:NF} {rest:List PV}
  (hj:M[j]? =some (.cells 0 v [.iface 116 (.ptr w 0 0),p64 (u:Int)])) (hw:M[w]? =some (.cells 0 vw (nfC f1 o1 f2 o2 f3 o3 N++rest)))
  (hn:∀x∈(In.n N).nums,lY x) (hu:u<=2147483647) (hc:M.all (cL M.length)=true) (hB:N.st.length<100000000/\N.fi.length<100000000/\N.es.length<100000000)
  (hk:K (.str ((In.n N).txtS u)) M):SemC tab 23 [.ptr j 0 0] M K:=by
 have gj:=fun l=>eV hj l
 have gw:=fun l=>eV hw l
 refine eZ (fJ T.h23 ?_)
 simp only[af23]
 refine bS (bR ?_)
 simp only[PP,P1,P2,P14,P15,simprocAttr,dE,cF,bQ,cZ,cO,cY,cW,dC,dD,cK,bJ,cN,bU,bT,bF,cB,bI,aQ,aL,aP,aC,aR,bD,aK,aJ,aN,aT,aU,aV,aW,aS,bA,aE,aF,aA,aG,aY,aZ,aO,bE,a8,aX,aM,bB,aH,bC,aI,aB,aD]
 refine bS (bR ?_)
 simp only[PP,P1,P2,P14,P15,simprocAttr,dE,cF,bQ,cZ,cO,cY,cW,dC,dD,cK,bJ,cN,bU,bT,bF,cB,bI,aQ,aL,aP,aC,aR,bD,aK,aJ,aN,aT,aU,aV,aW,aS,bA,aE,aF,aA,aG,aY,aZ,aO,bE,a8,aX,aM,bB,aH,bC,aI,aB,aD,hj]
 refine bS (bR ?_)
 simp only[PP,P1,P2,P14,P15,simprocAttr,dE,cF,bQ,cZ,cO,cY,cW,dC,dD,cK,bJ,cN,bU,bT,bF,cB,bI,aQ,aL,aP,aC,aR,bD,aK,aJ,aN,aT,aU,aV,aW,aS,bA,aE,aF,aA,aG,aY,aZ,aO,bE,a8,aX,aM,bB,aH,bC,aI,aB,aD,hj]
 refine bS ?_
 refine bS (bR ?_)
 simp only[PP,P1,P2,P14,P15,simprocAttr,dE,cF,bQ,cZ,cO,cY,cW,dC,dD,cK,bJ,cN,bU,bT,bF,cB,bI,aQ,aL,aP,aC,aR,bD,aK,aJ,aN,aT,aU,aV,aW,aS,bA,aE,aF,aA,aG,aY,aZ,aO,bE,a8,aX,aM,bB,aH,bC,aI,aB,aD,gj]
 refine pI (bS (bR ?_))
 simp only[PP,P1,P2,P14,P15,simprocAttr,dE,cF,bQ,cZ,cO,cY,cW,dC,dD,cK,bJ,cN,bU,bT,bF,cB,bI,aQ,aL,aP,aC,aR,bD,aK,aJ,aN,aT,aU,aV,aW,aS,bA,aE,aF,aA,aG,aY,aZ,aO,bE,a8,aX,aM,bB,aH,bC,aI,aB,aD,gj]
 refine rD rfl ?_
 refine bS (bR ?_)
 simp only[PP,P1,P2,P14,P15,simprocAttr]
 refine bS (rC 0 rfl ?_)
 simp only[PP,P1,P2,P14,P15,simprocAttr,aQ,aL,aP,aC,aR,bD,aK,aJ,aN,aT,aU,aV,aW,aS,bA,aE,aF,aA,aG,aY,aZ,aO,bE,a8,aX,aM,bB,aH,bC,aI,aB,aD,Option.some.injEq,exists_eq_left',List.append_assoc,gk,gk0,sk,sk0]
 refine bR ?_
 simp only[PP,P1,P2,P14,P15,simprocAttr,dE,cF,bQ,cZ,cO,cY,cW,dC,dD,cK,bJ,cN,bU,bT,bF,cB,bI,aQ,aL,aP,aC,aR,bD,aK,aJ,aN,aT,aU,aV,aW,aS,bA,aE,aF,aA,aG,aY,aZ,aO,bE,a8,aX,aM,bB,aH,bC,aI,aB,aD,gj,gw,gk,gk0,sk,sk0]
 have hb1:N.st.length<100000000/\N.fi.length<100000000/\N.es.length<100000000:=by
  exact hB
 have m1:∀x∈[(u:Int),N.vs,N.n],lY x:=fun x hx=>by
  simp only[List.mem_cons,List.not_mem_nil,or_false]at hx
  rcases hx with rfl | rfl | rfl
  ·exact⟨by omega,by omega⟩
  ·exact hn _ (by unfold In.nums;simp)
  ·exact hn _ (by unfold In.nums;simp)
 have m2:∀x∈eX N.st,lY x:=fun x hx=>hn x (by unfold In.nums;simp only[List.mem_append];exact .inl (.inl (.inr hx)))
 have m3:∀x∈eX N.fi,lY x:=fun x hx=>hn x (by unfold In.nums;simp only[List.mem_append];exact .inl (.inr hx))
 have m4:∀x∈[(N.es.length:Int)],lY x:=fun x hx=>by
  rw[List.mem_singleton]at hx
  exact hn x (by unfold In.nums;simp[hx])
 have m5:∀e∈N.es,∀x∈egN e,lY x:=fun e he x hx=>hn x (by unfold In.nums;simp only[List.mem_append,List.mem_cons,List.mem_flatMap];exact .inr (.inr ⟨e,he,hx⟩))
 refine oQ T (f:=true) (o:=true) (l:=[(u:Int),N.vs,N.n]) (A:=M) (G:=[]) (vb:=1) (g:=0) (vw:=0) (xs:=[⟨kwD.toArray⟩]) (by simp only[PP,P1,P2,P14,P15,simprocAttr];rfl) m1 (by simp) (by simp) fun vb g vw=>?_
 simp only[PP,P1,P2,P14,P15,simprocAttr,dE,cF,bQ,cZ,cO,cY,cW,dC,dD,cK,bJ,cN,bU,bT,bF,cB,bI,aQ,aL,aP,aC,aR,bD,aK,aJ,aN,aT,aU,aV,aW,aS,bA,aE,aF,aA,aG,aY,aZ,aO,bE,a8,aX,aM,bB,aH,bC,aI,aB,aD,gj,gw,gk,gk0,sk,sk0]
 refine uB T (f:=f1) (o:=o1) (l:=N.st) (A:=M) (G:=[]) (vb:=vb) (g:=g) (vw:=vw) (xs:=[⟨kwD.toArray⟩]++wds [(u:Int),N.vs,N.n]) (by simp only[PP,P1,P2,P14,P15,simprocAttr]) m2 (by simp) (by omega) fun vb g vw=>?_
 simp only[PP,P1,P2,P14,P15,simprocAttr,dE,cF,bQ,cZ,cO,cY,cW,dC,dD,cK,bJ,cN,bU,bT,bF,cB,bI,aQ,aL,aP,aC,aR,bD,aK,aJ,aN,aT,aU,aV,aW,aS,bA,aE,aF,aA,aG,aY,aZ,aO,bE,a8,aX,aM,bB,aH,bC,aI,aB,aD,gj,gw,gk,gk0,sk,sk0]
 refine uB T (f:=f2) (o:=o2) (l:=N.fi) (A:=M) (G:=[]) (vb:=vb) (g:=g) (vw:=vw) (xs:=[⟨kwD.toArray⟩]++wds [(u:Int),N.vs,N.n]++wds (eX N.st)) (by simp only[PP,P1,P2,P14,P15,simprocAttr]) m3 (by simp[eX];omega) (by omega) fun vb g vw=>?_
 simp only[PP,P1,P2,P14,P15,simprocAttr,dE,cF,bQ,cZ,cO,cY,cW,dC,dD,cK,bJ,cN,bU,bT,bF,cB,bI,aQ,aL,aP,aC,aR,bD,aK,aJ,aN,aT,aU,aV,aW,aS,bA,aE,aF,aA,aG,aY,aZ,aO,bE,a8,aX,aM,bB,aH,bC,aI,aB,aD,gj,gw,gk,gk0,sk,sk0]
 refine oQ T (f:=true) (o:=true) (l:=[(N.es.length:Int)]) (A:=M) (G:=[]) (vb:=vb) (g:=g) (vw:=vw) (xs:=[⟨kwD.toArray⟩]++wds [(u:Int),N.vs,N.n]++wds (eX N.st)++wds (eX N.fi)) (by simp only[PP,P1,P2,P14,P15,simprocAttr]) m4 (by simp[eX];omega) (by simp) fun vb g vw=>?_
 simp only[PP,P1,P2,P14,P15,simprocAttr,dE,cF,bQ,cZ,cO,cY,cW,dC,dD,cK,bJ,cN,bU,bT,bF,cB,bI,aQ,aL,aP,aC,aR,bD,aK,aJ,aN,aT,aU,aV,aW,aS,bA,aE,aF,aA,aG,aY,aZ,aO,bE,a8,aX,aM,bB,aH,bC,aI,aB,aD,gj,gw,gk,gk0,sk,sk0]
 refine VU (fun(k vb g vw:Nat) (G:Mem)=>k<=N.es.length) (fun k vb g vw G=>(zj 3++ .ptr M.length 0 0::zj 63++slE f3 o3 N.es::p64 N.es.length::p64 k::zj 123))
  (fun k vb g vw G=>M++(wdM M.length vb g vw ([⟨kwD.toArray⟩]++wds [(u:Int),N.vs,N.n]++wds (eX N.st)++wds (eX N.fi)++wds [(N.es.length:Int)]++wds ((N.es.take k).flatMap egN))++G)) (fun k vb g vw G=>N.es.length-k) 0 vb g vw [] (by omega) (by simp only[PW]) (by simp) ?_
 intro k vb g vw G hk' ih
 refine dL (by kernel_rfl) ?_
 simp only[PP,P1,P2,P14,P15,simprocAttr]
 refine QIf.intro (fun c=>?_) (fun c=>?_)
 rotate_left
 ·have hkl:k=N.es.length:=by omega
  subst hkl
  rw[List.take_of_length_le (Nat.le_refl _)]
  simp only[PP,P1,P2,P14,P15,simprocAttr,c]
  refine bR ?_
  simp only[PP,P1,P2,P14,P15,simprocAttr,aQ,aL,aP,aC,aR,bD,aK,aJ,aN,aT,aU,aV,aW,aS,bA,aE,aF,aA,aG,aY,aZ,aO,bE,a8,aX,aM,bB,aH,bC,aI,aB,aD,gk,gk0,sk,sk0]
  refine KF T (i:= .n N) (u:=u) (by rw[gk];rfl) (by simp;omega) (by simp[In.nums,eX,In.kw,Function.comp_def]) (by unfold In.nums eX;simp only[List.length_append,List.length_cons,List.length_nil,pW];omega) ?_
  simp only[PP,P1,P2,P14,P15,simprocAttr,aQ,aL,aP,aC,aR,bD,aK,aJ,aN,aT,aU,aV,aW,aS,bA,aE,aF,aA,aG,aY,aZ,aO,bE,a8,aX,aM,bB,aH,bC,aI,aB,aD]
  refine Gh.step (GStep.dropM (b:=[.str ((In.n N).txtS u)]) (N:=M) M.length (Nat.le_refl _) (by simp) (by simp only[PW]) (by simp[cE,PV.under]) ?_ (List.take_left' rfl)) (Gh.same ⟨_,rfl,hk⟩)
  exact(congrArg (fun N:Mem=>N.all (cL M.length)) (List.take_left' rfl)).trans hc
 have hlt:k<N.es.length:=by omega
 have hw:=dA (k:=k) (by show _<1000000000000;omega)
 have i0:(0:Int)<=k:=by omega
 obtain⟨x,gx⟩:=dN hlt
 have he:dW (egL N.es) (k*4) 4=egC x:=xY gx
 have b4:k*4+4<=(egL N.es).length:=by rw[iQ];omega
 have hx:=m5 x (List.mem_of_getElem? gx)
 have x1:=hx x.ps (by simp[egN])
 have x2:=hx x.ng (by simp[egN])
 unfold lY at x1 x2
 have w1:IntKind.i64.wrap x.ps=x.ps:=by rw[wrap64]<;>omega
 have w2:IntKind.i64.wrap x.ng=x.ng:=by rw[wrap64]<;>omega
 simp only[PP,P1,P2,P14,P15,simprocAttr,aQ,aL,aP,aC,aR,bD,aK,aJ,aN,aT,aU,aV,aW,aS,bA,aE,aF,aA,aG,aY,aZ,aO,bE,a8,aX,aM,bB,aH,bC,aI,aB,aD,c,i0,gx,gk,gk0,sk,sk0,he,b4,List.append_assoc,egC,w1,w2]
 refine oQ T (f:=true) (o:=true) (l:=egN x) (A:=M) (G:=G++[.cells 0 1 (egC x)]) (vb:=vb) (g:=g) (vw:=vw) (xs:=[⟨kwD.toArray⟩]++wds [(u:Int),N.vs,N.n]++wds (eX N.st)++wds (eX N.fi)++wds [(N.es.length:Int)]++wds ((N.es.take k).flatMap egN)) (mQ (by simp;omega) (by simp)) hx (by have h3:=pW (N.es.take k);rw[List.length_take]at h3;simp only[PP,P1,P2,P14,P15,simprocAttr,eX,h3];omega) (by simp[egN]) fun vb g vw=>?_
 simp only[PP,P1,P2,P14,P15,simprocAttr,aQ,aL,aP,aC,aR,bD,aK,aJ,aN,aT,aU,aV,aW,aS,bA,aE,aF,aA,aG,aY,aZ,aO,bE,a8,aX,aM,bB,aH,bC,aI,aB,aD,hw]
 refine dY (ih (k+1) vb g vw (G++[.cells 0 1 (egC x)]) (by omega) (by omega)) (by simp only[PW]) ?_
 rw[eK gx]
 simp only[List.append_assoc]
 exact mQ (by simp;omega) (by simp)
end
section
variable {tab:FuncId->Option AF} (T:HasA tab)
include T
set_option maxHeartbeats 4000000 in
theorem aBY {M:Mem} {K:PV->Mem->Prop} {j w v vw:Nat} {u:Nat} {f1 o1 f2 o2 f3 o3:Bool} {D:DF} {rest:List PV}
  (hj:M[j]? =some (.cells 0 v [.iface 122 (.ptr w 0 0),p64 (u:Int)])) (hw:M[w]? =some (.cells 0 vw (dfC f1 o1 f2 o2 f3 o3 D++rest)))
  (hn:∀x∈(In.d D).nums,lY x) (hu:u<=2147483647) (hc:M.all (cL M.length)=true) (hB:(In.d D).nums.length<100000000)
  (hk:K (.str ((In.d D).txtS u)) M):SemC tab 23 [.ptr j 0 0] M K:=by
 have gj:=fun l=>eV hj l
 have gw:=fun l=>eV hw l
 have nl:3+D.nx.flatten.length+D.fi.length<100000000:=by
  unfold In.nums at hB
  simp only[List.length_append,List.length_cons,List.length_nil,List.length_map]at hB
  omega
 have m1:∀x∈[(u:Int),D.vs,D.st,(D.nx.length:Int)],lY x:=fun x hx=>by
  rcases List.mem_cons.1 hx with rfl | hx
  ·exact⟨by omega,by omega⟩
  ·exact hn _ (by unfold In.nums;simp only[List.mem_append];exact .inl (.inl hx))
 have nb:D.nx.length<=2147483647:=by
  have:=m1 (D.nx.length:Int) (by simp)
  unfold lY at this
  omega
 have m2:∀r∈D.nx,∀x∈r,lY x:=fun r hr x hx=>hn x (by unfold In.nums;simp only[List.mem_append,List.mem_flatten];exact .inl (.inr ⟨r,hr,hx⟩))
 have tkl:∀k,((D.nx.take k).flatten).length<=D.nx.flatten.length:=fun k=>by
  have:=congrArg (fun l:List (List Int)=>l.flatten.length) (List.take_append_drop k D.nx)
  simp only[List.flatten_append,List.length_append]at this
  omega
 refine eZ (fJ T.h23 ?_)
 simp only[af23]
 refine bS (bR ?_)
 simp only[PP,P1,P2,P14,P15,simprocAttr,dE,cF,bQ,cZ,cO,cY,cW,dC,dD,cK,bJ,cN,bU,bT,bF,cB,bI,aQ,aL,aP,aC,aR,bD,aK,aJ,aN,aT,aU,aV,aW,aS,bA,aE,aF,aA,aG,aY,aZ,aO,bE,a8,aX,aM,bB,aH,bC,aI,aB,aD]
 refine bS (bR ?_)
 simp only[PP,P1,P2,P14,P15,simprocAttr,dE,cF,bQ,cZ,cO,cY,cW,dC,dD,cK,bJ,cN,bU,bT,bF,cB,bI,aQ,aL,aP,aC,aR,bD,aK,aJ,aN,aT,aU,aV,aW,aS,bA,aE,aF,aA,aG,aY,aZ,aO,bE,a8,aX,aM,bB,aH,bC,aI,aB,aD,hj]
 refine bS (bR ?_)
 simp only[PP,P1,P2,P14,P15,simprocAttr,dE,cF,bQ,cZ,cO,cY,cW,dC,dD,cK,bJ,cN,bU,bT,bF,cB,bI,aQ,aL,aP,aC,aR,bD,aK,aJ,aN,aT,aU,aV,aW,aS,bA,aE,aF,aA,aG,aY,aZ,aO,bE,a8,aX,aM,bB,aH,bC,aI,aB,aD,hj]
 refine bS ?_
 refine bS (bR ?_)
 simp only[PP,P1,P2,P14,P15,simprocAttr,dE,cF,bQ,cZ,cO,cY,cW,dC,dD,cK,bJ,cN,bU,bT,bF,cB,bI,aQ,aL,aP,aC,aR,bD,aK,aJ,aN,aT,aU,aV,aW,aS,bA,aE,aF,aA,aG,aY,aZ,aO,bE,a8,aX,aM,bB,aH,bC,aI,aB,aD,gj]
 refine pI (bS (bR ?_))
 simp only[PP,P1,P2,P14,P15,simprocAttr,dE,cF,bQ,cZ,cO,cY,cW,dC,dD,cK,bJ,cN,bU,bT,bF,cB,bI,aQ,aL,aP,aC,aR,bD,aK,aJ,aN,aT,aU,aV,aW,aS,bA,aE,aF,aA,aG,aY,aZ,aO,bE,a8,aX,aM,bB,aH,bC,aI,aB,aD,gj]
 refine rE rfl ?_
 refine bS (bR ?_)
 simp only[PP,P1,P2,P14,P15,simprocAttr,dE,cF,bQ,cZ,cO,cY,cW,dC,dD,cK,bJ,cN,bU,bT,bF,cB,bI,aQ,aL,aP,aC,aR,bD,aK,aJ,aN,aT,aU,aV,aW,aS,bA,aE,aF,aA,aG,aY,aZ,aO,bE,a8,aX,aM,bB,aH,bC,aI,aB,aD,gj]
 refine rD rfl ?_
 refine bS (bR ?_)
 simp only[PP,P1,P2,P14,P15,simprocAttr]
 refine bS (rC 0 rfl ?_)
 simp only[PP,P1,P2,P14,P15,simprocAttr,aQ,aL,aP,aC,aR,bD,aK,aJ,aN,aT,aU,aV,aW,aS,bA,aE,aF,aA,aG,aY,aZ,aO,bE,a8,aX,aM,bB,aH,bC,aI,aB,aD,Option.some.injEq,exists_eq_left',List.append_assoc,gk,gk0,sk,sk0]
 refine bR ?_
 simp only[PP,P1,P2,P14,P15,simprocAttr,dE,cF,bQ,cZ,cO,cY,cW,dC,dD,cK,bJ,cN,bU,bT,bF,cB,bI,aQ,aL,aP,aC,aR,bD,aK,aJ,aN,aT,aU,aV,aW,aS,bA,aE,aF,aA,aG,aY,aZ,aO,bE,a8,aX,aM,bB,aH,bC,aI,aB,aD,gj,gw,gk,gk0,sk,sk0]
 refine oQ T (f:=true) (o:=true) (l:=[(u:Int),D.vs,D.st,(D.nx.length:Int)]) (A:=M) (G:=[]) (vb:=1) (g:=0) (vw:=0) (xs:=[⟨kwM.toArray⟩]) (by simp only[PP,P1,P2,P14,P15,simprocAttr];rfl) m1 (by simp) (by simp) fun vb g vw=>?_
 simp only[PP,P1,P2,P14,P15,simprocAttr,dE,cF,bQ,cZ,cO,cY,cW,dC,dD,cK,bJ,cN,bU,bT,bF,cB,bI,aQ,aL,aP,aC,aR,bD,aK,aJ,aN,aT,aU,aV,aW,aS,bA,aE,aF,aA,aG,aY,aZ,aO,bE,a8,aX,aM,bB,aH,bC,aI,aB,aD,gj,gw,gk,gk0,sk,sk0]
 refine yN (fun(k vb g vw:Nat)=>k<=D.nx.length) (fun k vb g vw=>(zj 3++ .ptr M.length 0 0::zj 3++ .ptr w 0 0::zj 108++slR f1 o1 f2 o2 .i64 D.nx::p64 D.nx.length::p64 k::zj 74))
  (fun k vb g vw=>M++(wdM M.length vb g vw ([⟨kwM.toArray⟩]++wds [(u:Int),D.vs,D.st,(D.nx.length:Int)]++wds ((D.nx.take k).flatten))++[])) (fun k vb g vw=>D.nx.length-k) 0 vb g vw (by omega) (by simp only[PW]) (by simp) ?_
 intro k vb g vw hk' ih
 refine dL (by kernel_rfl) ?_
 simp only[PP,P1,P2,P14,P15,simprocAttr]
 refine QIf.intro (fun c=>?_) (fun c=>?_)
 ·have hlt:k<D.nx.length:=by omega
  have hw:=dA (k:=k) (by show _<1000000000000;omega)
  have i0:(0:Int)<=k:=by omega
  obtain⟨x,gx⟩:=dN hlt
  have hx:=m2 x (List.mem_of_getElem? gx)
  have h2:=tkl k
  have h3:=tkl (k+1)
  rw[eK gx,List.flatten_append,List.length_append]at h3
  simp only[List.flatten_cons,List.flatten_nil,List.append_nil]at h3
  simp only[PP,P1,P2,P14,P15,simprocAttr,aQ,aL,aP,aC,aR,bD,aK,aJ,aN,aT,aU,aV,aW,aS,bA,aE,aF,aA,aG,aY,aZ,aO,bE,a8,aX,aM,bB,aH,bC,aI,aB,aD,c,i0,gx,gk,gk0,sk,sk0]
  refine oQ T (f:=f2) (o:=o2) (l:=x) (A:=M) (G:=[]) (vb:=vb) (g:=g) (vw:=vw) (xs:=[⟨kwM.toArray⟩]++wds [(u:Int),D.vs,D.st,(D.nx.length:Int)]++wds ((D.nx.take k).flatten)) (mQ (by simp) (by simp)) hx (by simp only[PP,P1,P2,P14,P15,simprocAttr];omega) (by omega) fun vb g vw=>?_
  simp only[PP,P1,P2,P14,P15,simprocAttr,aQ,aL,aP,aC,aR,bD,aK,aJ,aN,aT,aU,aV,aW,aS,bA,aE,aF,aA,aG,aY,aZ,aO,bE,a8,aX,aM,bB,aH,bC,aI,aB,aD,hw]
  refine dY (ih (k+1) vb g vw (by omega) (by omega)) (by simp only[PW]) ?_
  rw[eK gx]
  refine mQ (by simp<;>omega) (by simp)
 ·have hkl:k=D.nx.length:=by omega
  subst hkl
  rw[List.take_of_length_le (Nat.le_refl _)]
  simp only[PP,P1,P2,P14,P15,simprocAttr,aQ,aL,aP,aC,aR,bD,aK,aJ,aN,aT,aU,aV,aW,aS,bA,aE,aF,aA,aG,aY,aZ,aO,bE,a8,aX,aM,bB,aH,bC,aI,aB,aD,c,gj,gw,gk,gk0,sk,sk0]
  refine yN (fun(k vb g vw:Nat)=>k<=D.fi.length) (fun k vb g vw=>(zj 3++ .ptr M.length 0 0::zj 125++slB f3 o3 D.fi::p64 D.fi.length::p64 k::zj 61))
   (fun k vb g vw=>M++(wdM M.length vb g vw ([⟨kwM.toArray⟩]++wds [(u:Int),D.vs,D.st,(D.nx.length:Int)]++wds D.nx.flatten++wds ((D.fi.take k).map b2I))++[])) (fun k vb g vw=>D.fi.length-k) 0 vb g vw (by omega) (by simp only[PW]) (by simp) ?_
  intro k vb g vw hk' ih
  refine dL (by kernel_rfl) ?_
  simp only[PP,P1,P2,P14,P15,simprocAttr]
  refine QIf.intro (fun c=>?_) (fun c=>?_)
  ·have hlt:k<D.fi.length:=by omega
   have hw:=dA (k:=k) (by show _<1000000000000;omega)
   have i0:(0:Int)<=k:=by omega
   obtain⟨x,gx⟩:=dN hlt
   have tk:(D.fi.take k).length=k:=by rw[List.length_take];omega
   simp only[PP,P1,P2,P14,P15,simprocAttr,aQ,aL,aP,aC,aR,bD,aK,aJ,aN,aT,aU,aV,aW,aS,bA,aE,aF,aA,aG,aY,aZ,aO,bE,a8,aX,aM,bB,aH,bC,aI,aB,aD,c,i0,gx,gk,gk0,sk,sk0]
   cases x
   ·simp only[PP,P1,P2,P14,P15,simprocAttr,aQ,aL,aP,aC,aR,bD,aK,aJ,aN,aT,aU,aV,aW,aS,bA,aE,aF,aA,aG,aY,aZ,aO,bE,a8,aX,aM,bB,aH,bC,aI,aB,aD,c,i0,gx,gk,gk0,sk,sk0]
    refine oQ T (f:=true) (o:=true) (l:=[0]) (A:=M) (G:=[]) (vb:=vb) (g:=g) (vw:=vw) (xs:=[⟨kwM.toArray⟩]++wds [(u:Int),D.vs,D.st,(D.nx.length:Int)]++wds D.nx.flatten++wds ((D.fi.take k).map b2I)) (mQ (by simp) (by simp)) (fun x hx=>by rw[List.mem_singleton]at hx;subst hx;exact⟨by omega,by omega⟩) (by simp only[PP,P1,P2,P14,P15,simprocAttr,tk];omega) (by simp) fun vb g vw=>?_
    simp only[PP,P1,P2,P14,P15,simprocAttr,aQ,aL,aP,aC,aR,bD,aK,aJ,aN,aT,aU,aV,aW,aS,bA,aE,aF,aA,aG,aY,aZ,aO,bE,a8,aX,aM,bB,aH,bC,aI,aB,aD,hw]
    refine dY (ih (k+1) vb g vw (by omega) (by omega)) (by simp only[PW]) ?_
    rw[eK gx]
    refine mQ (by simp<;>omega) (by simp[b2I])
   ·simp only[PP,P1,P2,P14,P15,simprocAttr,aQ,aL,aP,aC,aR,bD,aK,aJ,aN,aT,aU,aV,aW,aS,bA,aE,aF,aA,aG,aY,aZ,aO,bE,a8,aX,aM,bB,aH,bC,aI,aB,aD,c,i0,gx,gk,gk0,sk,sk0]
    refine oQ T (f:=true) (o:=true) (l:=[1]) (A:=M) (G:=[]) (vb:=vb) (g:=g) (vw:=vw) (xs:=[⟨kwM.toArray⟩]++wds [(u:Int),D.vs,D.st,(D.nx.length:Int)]++wds D.nx.flatten++wds ((D.fi.take k).map b2I)) (mQ (by simp) (by simp)) (fun x hx=>by rw[List.mem_singleton]at hx;subst hx;exact⟨by omega,by omega⟩) (by simp only[PP,P1,P2,P14,P15,simprocAttr,tk];omega) (by simp) fun vb g vw=>?_
    simp only[PP,P1,P2,P14,P15,simprocAttr,aQ,aL,aP,aC,aR,bD,aK,aJ,aN,aT,aU,aV,aW,aS,bA,aE,aF,aA,aG,aY,aZ,aO,bE,a8,aX,aM,bB,aH,bC,aI,aB,aD,hw]
    refine dY (ih (k+1) vb g vw (by omega) (by omega)) (by simp only[PW]) ?_
    rw[eK gx]
    refine mQ (by simp<;>omega) (by simp[b2I])
  ·have hkl:k=D.fi.length:=by omega
   subst hkl
   rw[List.take_of_length_le (Nat.le_refl _)]
   simp only[PP,P1,P2,P14,P15,simprocAttr,c]
   refine bR ?_
   simp only[PP,P1,P2,P14,P15,simprocAttr,aQ,aL,aP,aC,aR,bD,aK,aJ,aN,aT,aU,aV,aW,aS,bA,aE,aF,aA,aG,aY,aZ,aO,bE,a8,aX,aM,bB,aH,bC,aI,aB,aD,gk,gk0,sk,sk0]
   refine KF T (i:= .d D) (u:=u) (by rw[gk];rfl) (by simp only[List.length_cons,List.length_append,List.length_map,List.length_nil]) (by simp[In.nums,In.kw,Function.comp_def]) (by omega) ?_
   simp only[PP,P1,P2,P14,P15,simprocAttr,aQ,aL,aP,aC,aR,bD,aK,aJ,aN,aT,aU,aV,aW,aS,bA,aE,aF,aA,aG,aY,aZ,aO,bE,a8,aX,aM,bB,aH,bC,aI,aB,aD]
   refine Gh.step (GStep.dropM (b:=[.str ((In.d D).txtS u)]) (N:=M) M.length (Nat.le_refl _) (by simp) (by simp only[PW]) (by simp[cE,PV.under]) ?_ (List.take_left' rfl)) (Gh.same ⟨_,rfl,hk⟩)
   exact(congrArg (fun N:Mem=>N.all (cL M.length)) (List.take_left' rfl)).trans hc
end
section
variable {tab:FuncId->Option AF} (T:HasA tab)
include T
set_option maxHeartbeats 4000000 in
theorem aBX {M:Mem} {K:PV->Mem->Prop} {j w v vw:Nat} {u:Nat} {f1 o1 f2 o2 f3 o3 f4 o4:Bool} {ow pr:List Int} {su:List (List Int)} {rest:List PV}
  (hj:M[j]? =some (.cells 0 v [.iface 125 (.ptr w 0 0),p64 (u:Int)])) (hw:M[w]? =some (.cells 0 vw ([slI f1 o1 .u8 ow,slI f2 o2 .i64 pr,slR f3 o3 f4 o4 .i64 su]++rest)))
  (hn:∀x∈(In.g ow pr su).nums,lY x) (hu:u<=2147483647) (hc:M.all (cL M.length)=true) (hB:(In.g ow pr su).nums.length<100000000)
  (hk:K (.str ((In.g ow pr su).txtS u)) M):SemC tab 23 [.ptr j 0 0] M K:=by
 have gj:=fun l=>eV hj l
 have gw:=fun l=>eV hw l
 have nl:1+ow.length+pr.length+(su.flatMap eX).length<100000000:=by
  unfold In.nums at hB
  simp only[List.length_append,List.length_cons]at hB
  omega
 have m1:∀x∈[(u:Int),(ow.length:Int)],lY x:=fun x hx=>by
  simp only[List.mem_cons,List.not_mem_nil,or_false]at hx
  rcases hx with rfl | rfl
  ·exact⟨by omega,by omega⟩
  ·exact hn _ (by unfold In.nums;simp)
 have m2:∀x∈ow,lY x:=fun x hx=>hn x (by unfold In.nums;simp[hx])
 have m3:∀x∈pr,lY x:=fun x hx=>hn x (by unfold In.nums;simp[hx])
 have m4:∀r∈su,∀x∈eX r,lY x:=fun r hr x hx=>hn x (by unfold In.nums;simp only[List.mem_append,List.mem_flatMap];exact .inr ⟨r,hr,hx⟩)
 have tkl:∀k,((su.take k).flatMap eX).length<=(su.flatMap eX).length:=fun k=>by
  have:=congrArg (fun l:List (List Int)=>(l.flatMap eX).length) (List.take_append_drop k su)
  simp only[List.flatMap_append,List.length_append]at this
  omega
 have hsl:su.length<=(su.flatMap eX).length:=by
  clear tkl m4 hn hk nl hB hw gw
  induction su with
  | nil=>simp
  | cons r l ih=>simp only[List.flatMap_cons,List.length_append,List.length_cons,eX]at ih ⊢;omega
 refine eZ (fJ T.h23 ?_)
 simp only[af23]
 refine bS (bR ?_)
 simp only[PP,P1,P2,P14,P15,simprocAttr,dE,cF,bQ,cZ,cO,cY,cW,dC,dD,cK,bJ,cN,bU,bT,bF,cB,bI,aQ,aL,aP,aC,aR,bD,aK,aJ,aN,aT,aU,aV,aW,aS,bA,aE,aF,aA,aG,aY,aZ,aO,bE,a8,aX,aM,bB,aH,bC,aI,aB,aD]
 refine bS (bR ?_)
 simp only[PP,P1,P2,P14,P15,simprocAttr,dE,cF,bQ,cZ,cO,cY,cW,dC,dD,cK,bJ,cN,bU,bT,bF,cB,bI,aQ,aL,aP,aC,aR,bD,aK,aJ,aN,aT,aU,aV,aW,aS,bA,aE,aF,aA,aG,aY,aZ,aO,bE,a8,aX,aM,bB,aH,bC,aI,aB,aD,hj]
 refine bS (bR ?_)
 simp only[PP,P1,P2,P14,P15,simprocAttr,dE,cF,bQ,cZ,cO,cY,cW,dC,dD,cK,bJ,cN,bU,bT,bF,cB,bI,aQ,aL,aP,aC,aR,bD,aK,aJ,aN,aT,aU,aV,aW,aS,bA,aE,aF,aA,aG,aY,aZ,aO,bE,a8,aX,aM,bB,aH,bC,aI,aB,aD,hj]
 refine bS ?_
 refine bS (bR ?_)
 simp only[PP,P1,P2,P14,P15,simprocAttr,dE,cF,bQ,cZ,cO,cY,cW,dC,dD,cK,bJ,cN,bU,bT,bF,cB,bI,aQ,aL,aP,aC,aR,bD,aK,aJ,aN,aT,aU,aV,aW,aS,bA,aE,aF,aA,aG,aY,aZ,aO,bE,a8,aX,aM,bB,aH,bC,aI,aB,aD,gj]
 refine pI (bS (bR ?_))
 simp only[PP,P1,P2,P14,P15,simprocAttr,dE,cF,bQ,cZ,cO,cY,cW,dC,dD,cK,bJ,cN,bU,bT,bF,cB,bI,aQ,aL,aP,aC,aR,bD,aK,aJ,aN,aT,aU,aV,aW,aS,bA,aE,aF,aA,aG,aY,aZ,aO,bE,a8,aX,aM,bB,aH,bC,aI,aB,aD,gj]
 refine rE rfl ?_
 refine bS (bR ?_)
 simp only[PP,P1,P2,P14,P15,simprocAttr,dE,cF,bQ,cZ,cO,cY,cW,dC,dD,cK,bJ,cN,bU,bT,bF,cB,bI,aQ,aL,aP,aC,aR,bD,aK,aJ,aN,aT,aU,aV,aW,aS,bA,aE,aF,aA,aG,aY,aZ,aO,bE,a8,aX,aM,bB,aH,bC,aI,aB,aD,gj]
 refine rE rfl ?_
 refine bS (bR ?_)
 simp only[PP,P1,P2,P14,P15,simprocAttr,dE,cF,bQ,cZ,cO,cY,cW,dC,dD,cK,bJ,cN,bU,bT,bF,cB,bI,aQ,aL,aP,aC,aR,bD,aK,aJ,aN,aT,aU,aV,aW,aS,bA,aE,aF,aA,aG,aY,aZ,aO,bE,a8,aX,aM,bB,aH,bC,aI,aB,aD,gj]
 refine rD rfl ?_
 refine bS (bR ?_)
 simp only[PP,P1,P2,P14,P15,simprocAttr]
 refine bS (rC 0 rfl ?_)
 simp only[PP,P1,P2,P14,P15,simprocAttr,aQ,aL,aP,aC,aR,bD,aK,aJ,aN,aT,aU,aV,aW,aS,bA,aE,aF,aA,aG,aY,aZ,aO,bE,a8,aX,aM,bB,aH,bC,aI,aB,aD,Option.some.injEq,exists_eq_left',List.append_assoc,gk,gk0,sk,sk0]
 refine bR ?_
 simp only[PP,P1,P2,P14,P15,simprocAttr,dE,cF,bQ,cZ,cO,cY,cW,dC,dD,cK,bJ,cN,bU,bT,bF,cB,bI,aQ,aL,aP,aC,aR,bD,aK,aJ,aN,aT,aU,aV,aW,aS,bA,aE,aF,aA,aG,aY,aZ,aO,bE,a8,aX,aM,bB,aH,bC,aI,aB,aD,gj,gw,gk,gk0,sk,sk0]
 refine oQ T (f:=true) (o:=true) (l:=[(u:Int),(ow.length:Int)]) (A:=M) (G:=[]) (vb:=1) (g:=0) (vw:=0) (xs:=[⟨kwP.toArray⟩]) (by simp only[PP,P1,P2,P14,P15,simprocAttr];rfl) m1 (by simp) (by simp) fun vb g vw=>?_
 simp only[PP,P1,P2,P14,P15,simprocAttr,dE,cF,bQ,cZ,cO,cY,cW,dC,dD,cK,bJ,cN,bU,bT,bF,cB,bI,aQ,aL,aP,aC,aR,bD,aK,aJ,aN,aT,aU,aV,aW,aS,bA,aE,aF,aA,aG,aY,aZ,aO,bE,a8,aX,aM,bB,aH,bC,aI,aB,aD,gj,gw,gk,gk0,sk,sk0]
 refine yN (fun(k vb g vw:Nat)=>k<=ow.length) (fun k vb g vw=>(zj 3++ .ptr M.length 0 0::zj 8++ .ptr w 0 0::zj 148++slI f1 o1 .u8 ow::p64 ow.length::p64 k::zj 29))
  (fun k vb g vw=>M++(wdM M.length vb g vw ([⟨kwP.toArray⟩]++wds [(u:Int),(ow.length:Int)]++wds (ow.take k))++[])) (fun k vb g vw=>ow.length-k) 0 vb g vw (by omega) (by simp only[PW]) (by simp) ?_
 intro k vb g vw hk' ih
 refine dL (by kernel_rfl) ?_
 simp only[PP,P1,P2,P14,P15,simprocAttr]
 refine QIf.intro (fun c=>?_) (fun c=>?_)
 ·have hlt:k<ow.length:=by omega
  have hw:=dA (k:=k) (by show _<1000000000000;omega)
  have i0:(0:Int)<=k:=by omega
  obtain⟨x,gx⟩:=dN hlt
  have hx:=m2 x (List.mem_of_getElem? gx)
  have hx':=hx
  unfold lY at hx'
  have w1:IntKind.i64.wrap x=x:=by rw[wrap64]<;>omega
  have tk:(ow.take k).length=k:=by rw[List.length_take];omega
  simp only[PP,P1,P2,P14,P15,simprocAttr,aQ,aL,aP,aC,aR,bD,aK,aJ,aN,aT,aU,aV,aW,aS,bA,aE,aF,aA,aG,aY,aZ,aO,bE,a8,aX,aM,bB,aH,bC,aI,aB,aD,c,i0,gx,gk,gk0,sk,sk0,w1]
  refine oQ T (f:=true) (o:=true) (l:=[x]) (A:=M) (G:=[]) (vb:=vb) (g:=g) (vw:=vw) (xs:=[⟨kwP.toArray⟩]++wds [(u:Int),(ow.length:Int)]++wds (ow.take k)) (mQ (by simp) (by simp)) (fun y hy=>by rw[List.mem_singleton]at hy;subst hy;exact hx) (by simp only[PP,P1,P2,P14,P15,simprocAttr,tk];omega) (by simp) fun vb g vw=>?_
  simp only[PP,P1,P2,P14,P15,simprocAttr,aQ,aL,aP,aC,aR,bD,aK,aJ,aN,aT,aU,aV,aW,aS,bA,aE,aF,aA,aG,aY,aZ,aO,bE,a8,aX,aM,bB,aH,bC,aI,aB,aD,hw]
  refine dY (ih (k+1) vb g vw (by omega) (by omega)) (by simp only[PW]) ?_
  rw[eK gx]
  refine mQ (by simp<;>omega) (by simp)
 ·have hkl:k=ow.length:=by omega
  subst hkl
  rw[List.take_of_length_le (Nat.le_refl _)]
  simp only[PP,P1,P2,P14,P15,simprocAttr,aQ,aL,aP,aC,aR,bD,aK,aJ,aN,aT,aU,aV,aW,aS,bA,aE,aF,aA,aG,aY,aZ,aO,bE,a8,aX,aM,bB,aH,bC,aI,aB,aD,c,gj,gw,gk,gk0,sk,sk0]
  refine oQ T (f:=f2) (o:=o2) (l:=pr) (A:=M) (G:=[]) (vb:=vb) (g:=g) (vw:=vw) (xs:=[⟨kwP.toArray⟩]++wds [(u:Int),(ow.length:Int)]++wds ow) (mQ (by simp) (by simp)) m3 (by simp only[PP,P1,P2,P14,P15,simprocAttr];omega) (by omega) fun vb g vw=>?_
  simp only[PP,P1,P2,P14,P15,simprocAttr,dE,cF,bQ,cZ,cO,cY,cW,dC,dD,cK,bJ,cN,bU,bT,bF,cB,bI,aQ,aL,aP,aC,aR,bD,aK,aJ,aN,aT,aU,aV,aW,aS,bA,aE,aF,aA,aG,aY,aZ,aO,bE,a8,aX,aM,bB,aH,bC,aI,aB,aD,gj,gw,gk,gk0,sk,sk0]
  refine yN (fun(k vb g vw:Nat)=>k<=su.length) (fun k vb g vw=>(zj 3++ .ptr M.length 0 0::zj 178++slR f3 o3 f4 o4 .i64 su::p64 su.length::p64 k::zj 8))
   (fun k vb g vw=>M++(wdM M.length vb g vw ([⟨kwP.toArray⟩]++wds [(u:Int),(ow.length:Int)]++wds ow++wds pr++wds ((su.take k).flatMap eX))++[])) (fun k vb g vw=>su.length-k) 0 vb g vw (by omega) (by simp only[PW]) (by simp) ?_
  intro k vb g vw hk' ih
  refine dL (by kernel_rfl) ?_
  simp only[PP,P1,P2,P14,P15,simprocAttr]
  refine QIf.intro (fun c=>?_) (fun c=>?_)
  ·have hlt:k<su.length:=by omega
   have hw:=dA (k:=k) (by show _<1000000000000;omega)
   have i0:(0:Int)<=k:=by omega
   obtain⟨x,gx⟩:=dN hlt
   have hx:=m4 x (List.mem_of_getElem? gx)
   have h2:=tkl k
   have h3:=tkl (k+1)
   rw[eK gx,List.flatMap_append,List.length_append]at h3
   simp only[List.flatMap_cons,List.flatMap_nil,List.append_nil,eX,List.length_cons]at h3
   simp only[PP,P1,P2,P14,P15,simprocAttr,aQ,aL,aP,aC,aR,bD,aK,aJ,aN,aT,aU,aV,aW,aS,bA,aE,aF,aA,aG,aY,aZ,aO,bE,a8,aX,aM,bB,aH,bC,aI,aB,aD,c,i0,gx,gk,gk0,sk,sk0]
   refine uB T (f:=f4) (o:=o4) (l:=x) (A:=M) (G:=[]) (vb:=vb) (g:=g) (vw:=vw) (xs:=[⟨kwP.toArray⟩]++wds [(u:Int),(ow.length:Int)]++wds ow++wds pr++wds ((su.take k).flatMap eX)) (mQ (by simp) (by simp)) hx (by simp only[PP,P1,P2,P14,P15,simprocAttr];omega) (by omega) fun vb g vw=>?_
   simp only[PP,P1,P2,P14,P15,simprocAttr,aQ,aL,aP,aC,aR,bD,aK,aJ,aN,aT,aU,aV,aW,aS,bA,aE,aF,aA,aG,aY,aZ,aO,bE,a8,aX,aM,bB,aH,bC,aI,aB,aD,hw]
   refine dY (ih (k+1) vb g vw (by omega) (by omega)) (by simp only[PW]) ?_
   rw[eK gx]
   refine mQ (by simp<;>omega) (by simp)
  ·have hkl:k=su.length:=by omega
   subst hkl
   rw[List.take_of_length_le (Nat.le_refl _)]
   simp only[PP,P1,P2,P14,P15,simprocAttr,c]
   refine bR ?_
   simp only[PP,P1,P2,P14,P15,simprocAttr,aQ,aL,aP,aC,aR,bD,aK,aJ,aN,aT,aU,aV,aW,aS,bA,aE,aF,aA,aG,aY,aZ,aO,bE,a8,aX,aM,bB,aH,bC,aI,aB,aD,gk,gk0,sk,sk0]
   refine KF T (i:= .g ow pr su) (u:=u) (by rw[gk];rfl) (by simp only[List.length_cons,List.length_append,List.length_map,List.length_nil]) (by simp[In.nums,In.kw,Function.comp_def]) (by omega) ?_
   simp only[PP,P1,P2,P14,P15,simprocAttr,aQ,aL,aP,aC,aR,bD,aK,aJ,aN,aT,aU,aV,aW,aS,bA,aE,aF,aA,aG,aY,aZ,aO,bE,a8,aX,aM,bB,aH,bC,aI,aB,aD]
   refine Gh.step (GStep.dropM (b:=[.str ((In.g ow pr su).txtS u)]) (N:=M) M.length (Nat.le_refl _) (by simp) (by simp only[PW]) (by simp[cE,PV.under]) ?_ (List.take_left' rfl)) (Gh.same ⟨_,rfl,hk⟩)
   exact(congrArg (fun N:Mem=>N.all (cL M.length)) (List.take_left' rfl)).trans hc
end
structure JobF (tab:FuncId->Option AF) (jid b L:Nat) (i:In) (StF:Mem->Nat->Mem->Prop):Prop where
 X:∀A:Mem,A.length=b->A.all (cL b)=true->JobX tab jid 10 i.done i.fails (StF A) L i.rp
 sav:∀A:Mem,A.length=b->A.all (cL b)=true->∀m M,StF A m M->m<=2147483647->∀(S:Mem) (K:PV->Mem->Prop),K (.str (i.txtS m)) (M++S)->SemC tab 23 [.ptr jid 0 0] (M++S) K
 pre:∀A m M,StF A m M->∃X,M=A++X
 bas:∀(A A':Mem) m X,A.length=b->A'.length=b->StF A m (A++X)->StF A' m (A'++X)
def In.Bw:In->Prop
 | .n N=>BnN N
 | .d D=>BnD D
 | .g ow pr su=>Bnd ow pr su
def In.B99:In->Prop
 | .n N=>True
 | .d D=>D.nx.length<=99
 | .g ow pr su=>ow.length<=99
theorem In.Bn.w {i:In} (h:i.Bn):i.Bw/\i.B99:=by
 cases i with
 | n N=>exact⟨h,trivial⟩
 | d D=>exact h
 | g ow pr su=>exact h
theorem In.bn {i:In} (h:i.Bw) (h2:i.B99):i.Bn:=by
 cases i with
 | n N=>exact h
 | d D=>exact⟨h,h2⟩
 | g ow pr su=>exact⟨h,h2⟩
theorem wQ {l:List (List Int)} {c:Nat} (h:∀x∈l,x.length<=c):l.flatten.length<=l.length*c:=by
 induction l with
 | nil=>simp
 | cons x l ih=>
  have h1:=h x (by simp)
  have h2:=ih fun y hy=>h y (by simp[hy])
  rw[List.flatten_cons,List.length_append,List.length_cons,Nat.add_mul]
  omega
theorem In.nums_len {i:In} (h0:i.chk=0):i.nums.length<100000000:=by
 cases i with
 | n N=>
  have C:=lU h0
  have n0:=C.n0;have n64:=C.n64;have e5:=C.e512
  have h1:=jR n0 C.st
  have h2:=jR n0 C.fi
  have h3:=pW N.es
  unfold In.nums eX
  simp only[List.length_append,List.length_cons,List.length_nil,h3]
  omega
 | d D=>
  have C:=okD_iff.1 h0
  have v6:=C.v6;have n1:=C.n1;have hf:=C.f
  have h64:2^D.vs.toNat<=2^6:=Nat.pow_le_pow_right (by omega) (by omega)
  have h1:=wQ (l:=D.nx) (c:=64) fun x hx=>by
   have:=(C.r x hx).1
   have:((2^D.vs.toNat:Nat):Int)=x.length:=by rw[this];simp
   omega
  unfold In.nums
  simp only[List.length_append,List.length_cons,List.length_nil,List.length_map]
  omega
 | g ow pr su=>
  have V:=gX h0
  have n1:=V.n1;have hp:=V.p;have hs:=V.s
  have h1:=wQ (l:=su.map eX) (c:=4097) fun x hx=>by
   obtain⟨y,hy,rfl⟩:=List.mem_map.1 hx
   have:=jR (n:=ow.length) (by omega) ((w8 V).2.2 y hy)
   unfold eX
   rw[List.length_cons];omega
  rw[List.length_map]at h1
  have e:su.flatMap eX=(su.map eX).flatten:=by simp[List.flatMap]
  have h2:su.length*4097<=4096*4097:=Nat.mul_le_mul_right _ (by omega)
  unfold In.nums
  simp only[List.length_append,List.length_cons,e]
  omega
section
variable {tab:FuncId->Option AF} (T:HasA tab)
include T
omit T in
theorem D3 {jid L:Nat} {M S:Mem} {K:PV->Mem->Prop} {t:ByteArray} (hL:M.length=L) (hj:jid<L) (hc:M.all (cL L)=true) (hk:K (.str t) (M++S)) (h:∀K':PV->Mem->Prop,K' (.str t) M->SemC tab 23 [.ptr jid 0 0] M K'):
  SemC tab 23 [.ptr jid 0 0] (M++S) K:=by
 have t1:(M++S).take L=M:=List.take_left' hL
 have t2:(M++S).drop L=S:=List.drop_left' hL
 refine mJ (m:=L) (by rw[List.length_append];omega) (by simp[cE,PV.under,hj]) (by rw[t1];exact hc) ?_
 rw[t1,t2]
 exact h _ ⟨by simp[PV.under],hL,hc,hk⟩
theorem V7 {b:Nat} {N:NF} (hc:fZ N=0) (B:BnN N):JobF tab (b+7) b (b+8) (.n N) (fun A=>StD A N) where
 X:=fun A hb hA=>by
  subst hb
  exact IB T hc B hA
 sav:=fun A hb hA m M hS hm S K hk=>by
  subst hb
  have J:=IB T hc B hA
  refine D3 (J.len _ _ hS) (by omega) (J.cut _ _ hS) hk fun K' hk'=>?_
  have hL:=J.len _ _ hS
  have hC:=J.cut _ _ hS
  obtain⟨_,f1,o1,f2,o2,f3,o3,f,o,q,v,rfl⟩:=hS
  have C:=lU hc
  have n0:=C.n0;have n64:=C.n64;have e5:=C.e512
  have h1:=jR n0 C.st
  have h2:=jR n0 C.fi
  exact aBZ T (w:=A.length+4) wO (by unfold j9;rw[gk];rfl) (In.nums_sm (i:= .n N) hc B trivial) hm (by rw[hL];exact hC) ⟨by omega,by omega,by omega⟩ hk'
 pre:=fun A m M ⟨_,f1,o1,f2,o2,f3,o3,f,o,q,v,h⟩=>⟨_,h⟩
 bas:=fun A A' m X h1 h2 ⟨hb,f1,o1,f2,o2,f3,o3,f,o,q,v,h⟩=>by
  have hX:=List.append_cancel_left (show A++X=A++_ from h)
  refine⟨hb,f1,o1,f2,o2,f3,o3,f,o,q,v,?_⟩
  unfold j9
  rw[hX,h1,h2]
theorem V6 {b:Nat} {D:DF} (hc:eY D=0) (B:BnD D) (h99:D.nx.length<=99):JobF tab (b+1) b (b+2) (.d D) (fun A=>StM A D) where
 X:=fun A hb hA=>by
  subst hb
  exact IA T hc B h99 hA
 sav:=fun A hb hA m M hS hm S K hk=>by
  subst hb
  have J:=IA T hc B h99 hA
  refine D3 (J.len _ _ hS) (by omega) (J.cut _ _ hS) hk fun K' hk'=>?_
  have hL:=J.len _ _ hS
  have hC:=J.cut _ _ hS
  obtain⟨_,f1,o1,f2,o2,f3,o3,f,o,v1,v2,rfl⟩:=hS
  exact aBY T (w:=A.length) (by unfold l7;rw[gk];rfl) (by unfold l7;rw[gk0];rfl) (In.nums_sm (i:= .d D) hc ⟨B,h99⟩ trivial) hm (by rw[hL];exact hC) (In.nums_len (i:= .d D) hc) hk'
 pre:=fun A m M ⟨_,f1,o1,f2,o2,f3,o3,f,o,v1,v2,h⟩=>⟨_,h⟩
 bas:=fun A A' m X h1 h2 ⟨hb,f1,o1,f2,o2,f3,o3,f,o,v1,v2,h⟩=>by
  have hX:=List.append_cancel_left (show A++X=A++_ from h)
  refine⟨hb,f1,o1,f2,o2,f3,o3,f,o,v1,v2,?_⟩
  unfold l7
  rw[hX,h1,h2]
theorem RF {b:Nat} {ow pr:List Int} {su:List (List Int)} (hc:eH ow pr su=0) (B:Bnd ow pr su) (h99:ow.length<=99) (hp:∀x∈ow,0<=x):JobF tab (b+3) b (b+4) (.g ow pr su) (fun A=>StP A ow pr su) where
 X:=fun A hb hA=>by
  subst hb
  exact CQ T hA hc B h99
 sav:=fun A hb hA m M hS hm S K hk=>by
  subst hb
  have J:=CQ T hA hc B h99
  refine D3 (J.len _ _ hS) (by omega) (J.cut _ _ hS) hk fun K' hk'=>?_
  have hL:=J.len _ _ hS
  have hC:=J.cut _ _ hS
  obtain⟨_,f1,o1,f2,o2,f3,o3,f4,o4,ms,v1,v2,v3,b,hS1,hN,_,rfl⟩:=hS
  exact aBX T (w:=A.length) wN (by unfold jH;rw[gk0];rfl) (In.nums_sm (i:= .g ow pr su) hc ⟨B,h99⟩ hp) hm (by rw[hL];exact hC) (In.nums_len (i:= .g ow pr su) hc) hk'
 pre:=fun A m M ⟨_,f1,o1,f2,o2,f3,o3,f4,o4,ms,v1,v2,v3,b,_,_,_,h⟩=>⟨_,h⟩
 bas:=fun A A' m X h1 h2 ⟨hb,f1,o1,f2,o2,f3,o3,f4,o4,ms,v1,v2,v3,b,a1,a2,a3,h⟩=>by
  have hX:=List.append_cancel_left (show A++X=A++_ from h)
  refine⟨hb,f1,o1,f2,o2,f3,o3,f4,o4,ms,v1,v2,v3,b,a1,a2,a3,?_⟩
  unfold jH
  rw[hX,h1,h2]
end
structure StartK (tab:FuncId->Option AF) (i:In) (A:Mem) (K:PV->Mem->Prop):Prop where
 bad:i.chk≠0->K (.tuple [.nilptr,p64 i.chk]) A
 ok:i.chk=0->∀jid b L StF A0 M0,JobF tab jid b L i StF->A0.length=b->A0.all (cL b)=true->StF A0 0 M0->(∃X,A0=A++X)->K (.tuple [.ptr jid 0 0,p64 0]) M0
def In.oc:In->List PV
 | .n N=>nfC false true false true false true N
 | .d D=>dfC false true false true false true D
 | .g ow pr su=>[slI false true .u8 ow,slI false true .i64 pr,slR false true false true .i64 su]
def In.bg:In->FuncId
 | .n _=>121
 | .d _=>124
 | .g .. =>128
section
variable {tab:FuncId->Option AF} (T:HasA tab)
include T
theorem aDm {A Y:Mem} {N:NF} {K:PV->Mem->Prop} {q:Nat->Nat} {v:Nat} (hc:fZ N=0) (B:BnN N) (h:StartK tab (.n N) A K) (hY:(A++Y).all (cL (A++Y).length)=true):K (.tuple [.ptr ((A++Y).length+7) 0 0,p64 0]) (j9 (A++Y) false true false true false true true false N q [fA N] [] [] v 0):=
 h.ok hc _ _ _ _ (A++Y) _ (V7 T hc B) rfl hY ⟨⟨by omega,by show [fA N].length<=4096;simp⟩,false,true,false,true,false,true,true,false,q,v,rfl⟩ ⟨Y,rfl⟩
theorem aDo {A Y:Mem} {D:DF} {K:PV->Mem->Prop} {v:Nat} (hc:eY D=0) (B:BnD D) (h99:D.nx.length<=99) (h:StartK tab (.d D) A K) (hY:(A++Y).all (cL (A++Y).length)=true):K (.tuple [.ptr ((A++Y).length+1) 0 0,p64 0]) (l7 (A++Y) false true false true false true false true D v 0 0 0):=
 h.ok hc _ _ _ _ (A++Y) _ (V6 T hc B h99) rfl hY ⟨fun j hj=>by omega,false,true,false,true,false,true,false,true,v,0,rfl⟩ ⟨Y,rfl⟩
theorem aDn {A Y:Mem} {ow pr:List Int} {su:List (List Int)} {ms:List Ms} {b:Bool} {K:PV->Mem->Prop} {v1 v2:Nat} (hc:eH ow pr su=0) (B:Bnd ow pr su) (h99:ow.length<=99) (hp:∀x∈ow,0<=x) (hAf:uO ow pr su 0 ms b 0) (h:StartK tab (.g ow pr su) A K) (hY:(A++Y).all (cL (A++Y).length)=true):K (.tuple [.ptr ((A++Y).length+3) 0 0,p64 0]) (jH (A++Y) false true false true false true false true ow pr su ms v1 v2 0 b 0):=by
 rcases hAf with⟨a,_⟩ | ⟨_,a,_⟩ | ⟨_,_,a3,a4,a5,_⟩
 ·exact absurd hc a
 ·omega
 ·refine h.ok hc _ _ _ _ (A++Y) _ (RF T hc B h99 hp) rfl hY ⟨Nat.zero_le _,false,true,false,true,false,true,false,true,ms,v1,v2,0,b,a3,a4,?_,rfl⟩ ⟨Y,rfl⟩
  rw[a5,a4];exact Iff.rfl
omit T in
theorem C1 {A Y:Mem} {n:Nat} (hA:A.all (cL A.length)=true) (hY:Y.all (cL n)=true) (hn:A.length+Y.length=n):(A++Y).all (cL (A++Y).length)=true:=by
 rw[List.length_append,hn,List.all_append,hY,dV (by omega) hA];rfl
theorem aBt {A:Mem} {K:PV->Mem->Prop} {f1 o1 f2 o2 f3 o3:Bool} {N:NF} (B:BnN N) (hA:A.all (cL A.length)=true) (h:StartK tab (.n N) A K):SemC tab 40 [.agg (nfC f1 o1 f2 o2 f3 o3 N)] A K:=
 F7 T B hA h.bad fun hc X q v hx=>by
  have:=aDm T (Y:=[X]) (q:=q) (v:=v) hc B h (C1 (n:=A.length+1) hA (by simp[hx]) rfl)
  simpa only[List.length_append,List.length_cons,List.length_nil,Nat.zero_add,Nat.add_assoc,Nat.reduceAdd] using this
theorem aDq {A:Mem} {K:PV->Mem->Prop} {f1 o1 f2 o2 f3 o3:Bool} {D:DF} (B:BnD D) (h99:eY D=0->D.nx.length<=99) (hA:A.all (cL A.length)=true) (h:StartK tab (.d D) A K):SemC tab 41 [.agg (dfC f1 o1 f2 o2 f3 o3 D)] A K:=
 F6 T B h99 hA h.bad fun hc X Y v hx hy=>by
  have:=aDo T (Y:=[X,Y]) (v:=v) hc B (h99 hc) h (C1 (n:=A.length+2) hA (by simp[hx,hy]) rfl)
  simpa only[List.length_append,List.length_cons,List.length_nil,Nat.zero_add,Nat.add_assoc,Nat.reduceAdd] using this
theorem aDp {A:Mem} {K:PV->Mem->Prop} {f1 o1 f2 o2 f3 o3 f4 o4:Bool} {ow pr:List Int} {su:List (List Int)} (B:Bnd ow pr su) (h99:eH ow pr su=0->ow.length<=99) (hp:∀x∈ow,0<=x) (hA:A.all (cL A.length)=true) (h:StartK tab (.g ow pr su) A K):SemC tab 42 [gmP f1 o1 f2 o2 f3 o3 f4 o4 ow pr su] A K:=
 F5 T B hA h.bad fun hc X Y v1 v2 ms b hx hy hAf=>by
  have:=aDn T (Y:=[X,Y]) (v1:=v1) (v2:=v2) hc B (h99 hc) hp hAf h (C1 (n:=A.length+2) hA (by simp[hx,hy]) rfl)
  simpa only[List.length_append,List.length_cons,List.length_nil,Nat.zero_add,Nat.add_assoc,Nat.reduceAdd] using this
theorem aDU {A:Mem} {K:PV->Mem->Prop} {q vn:Nat} {i:In} (hB:i.Bw) (h99:i.chk=0->i.B99) (hp:i.Pos) (hM:A[q]? =some (.cells 0 vn i.oc)) (hA:A.all (cL A.length)=true) (h:StartK tab i A K):SemC tab i.bg [.ptr q 0 0] A K:=by
 cases i with
 | n N=>
  refine dH T.h121 ?_
  simp only[In.oc]at hM
  simp only[af121,PP,P1,P2,P14,P15,simprocAttr,hM]
  refine aBt T hB hA ⟨fun hc=>?_,fun hc jid b L StF A0 M0 J h1 h2 h3 h4=>?_⟩
  ·simp only[PP,P1,P2,P14,P15,simprocAttr]
   exact h.bad hc
  ·simp only[PP,P1,P2,P14,P15,simprocAttr]
   exact h.ok hc jid b L StF A0 M0 J h1 h2 h3 h4
 | d D=>
  refine dH T.h124 ?_
  simp only[In.oc]at hM
  simp only[af124,PP,P1,P2,P14,P15,simprocAttr,hM]
  refine aDq T hB h99 hA ⟨fun hc=>?_,fun hc jid b L StF A0 M0 J h1 h2 h3 h4=>?_⟩
  ·simp only[PP,P1,P2,P14,P15,simprocAttr]
   exact h.bad hc
  ·simp only[PP,P1,P2,P14,P15,simprocAttr]
   exact h.ok hc jid b L StF A0 M0 J h1 h2 h3 h4
 | g ow pr su=>
  refine dH T.h128 ?_
  simp only[In.oc]at hM
  simp only[af128,PP,P1,P2,P14,P15,simprocAttr,hM]
  refine aDp T hB h99 hp hA ⟨fun hc=>?_,fun hc jid b L StF A0 M0 J h1 h2 h3 h4=>?_⟩
  ·simp only[PP,P1,P2,P14,P15,simprocAttr]
   exact h.bad hc
  ·simp only[PP,P1,P2,P14,P15,simprocAttr]
   exact h.ok hc jid b L StF A0 M0 J h1 h2 h3 h4
theorem xI {A:Mem} {K:PV->Mem->Prop} {f o:Bool} {i:In} (hB:i.Bn) (hp:i.Pos) (hA:A.all (cL A.length)=true) (h:StartK tab i A K):SemC tab 11 [.agg (i.cs f o)] A K:=by
 cases i with
 | n N=>
  refine TS T hB hA h.bad fun hc X1 X2 q v h1 h2=>?_
  have:=aDm T (Y:=[X1,X2]) (q:=q) (v:=v) hc hB h (C1 (n:=A.length+2) hA (by simp[h1,h2]) rfl)
  simpa only[List.length_append,List.length_cons,List.length_nil,Nat.zero_add,Nat.add_assoc,Nat.reduceAdd] using this
 | d D=>
  refine TQ T hB.1 (fun _=>hB.2) hA h.bad fun hc X0 X1 X2 v h0 h1 h2=>?_
  have:=aDo T (Y:=[X0,X1,X2]) (v:=v) hc hB.1 hB.2 h (C1 (n:=A.length+3) hA (by simp[h0,h1,h2]) rfl)
  simpa only[List.length_append,List.length_cons,List.length_nil,Nat.zero_add,Nat.add_assoc,Nat.reduceAdd] using this
 | g ow pr su=>
  refine TP T hB.1 hA h.bad fun hc X0 X1 X2 v1 v2 ms b h0 h1 h2 hAf=>?_
  have:=aDn T (Y:=[X0,X1,X2]) (v1:=v1) (v2:=v2) hc hB.1 hB.2 hp hAf h (C1 (n:=A.length+3) hA (by simp[h0,h1,h2]) rfl)
  simpa only[List.length_append,List.length_cons,List.length_nil,Nat.zero_add,Nat.add_assoc,Nat.reduceAdd] using this
end
theorem zK {α:Type} {f:List α->RS->List α×RS} {P:α->Prop} (hf:∀s r,∃x,(f s r).1=s++[x]/\P x):∀(n:Nat) (s:List α) (r:RS),(∀x∈s,P x)->∀x∈(eP f n s r).1,P x
 | 0,s,r,h=>h
 | n+1,s,r,h=>by
  unfold eP
  split
  ·refine zK hf n _ _ fun x hx=>?_
   obtain⟨y,h1,h2⟩:=hf s r
   rw[h1]at hx
   rcases List.mem_append.1 hx with hx | hx
   ·exact h x hx
   ·rw[List.mem_singleton]at hx;subst hx;exact h2
  ·exact h
theorem GI (k:Nat) (r:RS):(RS.small k r).1<=k:=by unfold RS.small;simp only;omega
theorem aDy (r:RS):∀x∈r.nfa.1.es,(0<=x.ps/\x.ps<=255)/\(0<=x.ng/\x.ng<=255):=by
 unfold RS.nfa
 exact zK (f:=fun out r=>(out++[(iK r).1],(iK r).2)) (P:=fun x=>(0<=x.ps/\x.ps<=255)/\(0<=x.ng/\x.ng<=255)) (fun s r=>⟨_,rfl,by
  have h1:=GI 255 r.next.2.next.2
  have h2:=GI 255 (RS.small 255 r.next.2.next.2).2
  show(0<=((RS.small 255 r.next.2.next.2).1:Int)/\((RS.small 255 r.next.2.next.2).1:Int)<=255)/\(0<=((RS.small 255 (RS.small 255 r.next.2.next.2).2).1:Int)/\((RS.small 255 (RS.small 255 r.next.2.next.2).2).1:Int)<=255)
  omega⟩) _ [] _ (fun x hx=>by cases hx)
theorem aCy (r:RS):∀x∈r.game.1.1,0<=x:=by
 unfold RS.game
 exact zK (f:=fun out r=>(out++[((RS.small 255 r).1:Int)],(RS.small 255 r).2)) (P:=fun x=>0<=x) (fun s r=>⟨_,rfl,by omega⟩) _ [] _ (fun x hx=>by cases hx)
theorem QJ (k:List UInt8) (r:RS):(readK k r).1.Pos/\∀N,(readK k r).1= .n N->∀x∈N.es,(0<=x.ps/\x.ps<=255)/\(0<=x.ng/\x.ng<=255):=by
 unfold readK
 split
 ·exact⟨trivial,fun N h=>by cases h;exact aDy r⟩
 ·split
  ·exact⟨trivial,fun N h=>by cases h⟩
  ·exact⟨aCy r,fun N h=>by cases h⟩
theorem S7:∀l:List Int,2*l.length<=((l.map fun n:Int=>nG n.toNat).flatMap fun x=>32::x).length
 | []=>by simp
 | x::l=>by
  have:=S7 l
  have h:nG x.toNat≠[]:=by
   unfold nG dig
   split<;>simp
  have h:=List.length_pos_iff.2 h
  simp only[List.map_cons,List.flatMap_cons,List.length_append,List.length_cons]
  omega
theorem aBQ (i:In) (u:Nat):10+2*i.nums.length<=(i.txt u).length:=by
 have h:=S7 ((u:Int)::i.nums)
 have hk:8<=i.kw.length:=by cases i<;>simp[In.kw,kwD,kwM,kwP]
 have:(i.txt u).length=i.kw.length+((((u:Int)::i.nums).map fun n:Int=>nG n.toNat).flatMap fun x=>32::x).length:=by
  unfold In.txt qF
  rw[List.length_append]
 rw[List.length_cons]at h
 omega
theorem Z6 {i:In} (hl:i.nums.length<=195) (hs:∀x∈i.nums,x<=2147483647) (hb:∀N,i= .n N->∀x∈N.es,(0<=x.ps/\x.ps<=255)/\(0<=x.ng/\x.ng<=255)):i.Bw/\(i.chk=0->i.B99):=by
 have fl:∀(l:List (List Int)) (x:List Int),x∈l->x.length<=l.flatten.length:=fun l x hx=>by
  induction l with
  | nil=>cases hx
  | cons y l ih=>
   rw[List.flatten_cons,List.length_append]
   rcases List.mem_cons.1 hx with rfl | hx
   ·omega
   ·have:=ih hx;omega
 cases i with
 | n N=>
  have he:=pW N.es
  unfold In.nums eX at hl
  simp only[List.length_append,List.length_cons,List.length_nil,he]at hl
  exact⟨⟨by show _<1000000000000;omega,by show _<1000000000000;omega,by show _<1000000000000;omega,hb N rfl⟩,fun _=>trivial⟩
 | d D=>
  unfold In.nums at hl
  simp only[List.length_append,List.length_cons,List.length_nil,List.length_map]at hl
  have hz:D.nx.length<=195->D.nx.length<1000000000000:=fun h=>by omega
  refine⟨⟨?_,fun r hr=>?_,by show _<1000000000000;omega⟩,fun hc=>?_⟩
  ·have:=hs (D.nx.length:Int) (by unfold In.nums;simp)
   show _<1000000000000;omega
  ·have:=fl D.nx r hr
   show _<1000000000000;omega
  ·have C:=okD_iff.1 hc
   have:=C.f
   have h1:∀l:List (List Int),(∀r∈l,1<=r.length)->l.length<=l.flatten.length:=fun l h=>by
    induction l with
    | nil=>simp
    | cons y l ih=>
     have:=h y (by simp)
     have:=ih fun r hr=>h r (by simp[hr])
     rw[List.flatten_cons,List.length_append,List.length_cons];omega
   have:=h1 D.nx fun r hr=>by
    have:=(C.r r hr).1
    have hp:0<2^D.vs.toNat:=Nat.pow_pos (by omega)
    have:((2^D.vs.toNat:Nat):Int)=r.length:=by rw[this];simp
    omega
   show D.nx.length<=99
   omega
 | g ow pr su=>
  unfold In.nums at hl
  simp only[List.length_append,List.length_cons]at hl
  have h2:∀su:List (List Int),su.length<=(su.flatMap eX).length:=fun su=>by
   induction su with
   | nil=>simp
   | cons r l ih=>
    have e:(eX r).length=r.length+1:=rfl
    rw[List.flatMap_cons,List.length_append,List.length_cons];omega
  have h2:=h2 su
  refine⟨⟨by show _<1000000000000;omega,by show _<1000000000000;omega,by show _<1000000000000;omega,fun r hr=>?_⟩,fun hc=>?_⟩
  ·have:=fl (su.map eX) (eX r) (List.mem_map.2 ⟨r,hr,rfl⟩)
   have e:su.flatMap eX=(su.map eX).flatten:=by simp[List.flatMap]
   rw[<-e]at this
   have e2:(eX r).length=r.length+1:=rfl
   show _<1000000000000
   omega
  ·have V:=gX hc
   have:=V.p
   have:=V.s
   show ow.length<=99
   omega
theorem UW {l:List UInt8} {i:In} {u:Nat} (h:eW l= .ok i u) (hl:l.length<=400):i.Bw/\(i.chk=0->i.B99)/\i.Pos/\(∀x∈i.nums,x<=2147483647):=by
 obtain⟨ht,hu⟩:=K4 h
 have hg:=aBQ i u
 rw[ht]at hg
 have key:i.Pos/\(∀N,i= .n N->∀x∈N.es,(0<=x.ps/\x.ps<=255)/\(0<=x.ng/\x.ng<=255))/\∀x∈i.nums,x<=2147483647:=by
  unfold eW at h
  split at h
  ·cases h
  ·rename_i k ts hs
   split at h
   ·rename_i hk
    split at h
    ·cases h
    ·rename_i ns hn
     obtain⟨a1,a2⟩:=numsT_some.1 hn
     unfold qN at h
     split at h
     ·cases h
     ·split at h
      ·cases h
      ·rename_i c2
       split at h
       ·cases h
       ·rename_i c3
        split at h
        ·cases h
        ·rename_i c4
         have d2:=Classical.not_not.1 c2
         have d3:=Classical.not_not.1 c3
         have d4:=Classical.not_not.1 c4
         have hr:=QJ k (RS.next ⟨ns,0,0⟩).2
         obtain⟨b1,b2,b3⟩:=(Rd.next ⟨ns,0,0⟩).trans (Rd.readK k (RS.next ⟨ns,0,0⟩).2) d2 d4
         injection h with h1 h2
         rw[h1]at hr b3
         refine⟨hr.1,hr.2,fun x hx=>?_⟩
         have hx':x∈(RS.mk ns 0 0).li:=by rw[b3];simp[hx]
         obtain⟨n,hn,rfl⟩:=List.mem_map.1 hx'
         have:=a2 n hn
         omega
   ·cases h
 obtain⟨k1,k2,k3⟩:=key
 obtain⟨w1,w2⟩:=Z6 (by omega) k3 k2
 exact⟨w1,w2,k1,k3⟩
theorem DP (x y:ByteArray):eI .eql (.str x) (.str y)=some (.bool (decide (x=y))):=by
 have h:(x.toList==y.toList)=decide (x=y):=by
  rw[ByteArray.toList_eq,ByteArray.toList_eq,Bool.eq_iff_iff,beq_iff_eq,decide_eq_true_eq]
  exact⟨fun h=>ByteArray.ext (Array.ext' h),fun h=>by rw[h]⟩
 show(some (PV.bool (x.toList==y.toList)))=_
 rw[h]
theorem NQ (x y:ByteArray):eI .neq (.str x) (.str y)=some (.bool (!decide (x=y))):=by
 have h:(x.toList==y.toList)=decide (x=y):=by
  rw[ByteArray.toList_eq,ByteArray.toList_eq,Bool.eq_iff_iff,beq_iff_eq,decide_eq_true_eq]
  exact⟨fun h=>ByteArray.ext (Array.ext' h),fun h=>by rw[h]⟩
 show(some (PV.bool (!(x.toList==y.toList))))=_
 rw[h]
theorem dec_mk {l:List UInt8} {t:ByteArray} :(⟨l.toArray⟩:ByteArray)=t↔l=t.data.toList:=by
 constructor
 ·rintro rfl;rfl
 ·intro h
  subst h
  exact ByteArray.ext (by simp)
section
variable {tab:FuncId->Option AF} (T:HasA tab)
include T
theorem EQ {M:Mem} {K:PV->Mem->Prop} {c x:Int} (hx:eI .or (.int .u8 c) (.int .u8 32)=some (.int .u8 x)) (hk:K (.int .u8 x) M):SemC tab 200 [.int .u8 c] M K:=by
 refine cP T.h200 (by simp only[PP,P1,P2,P14,P15,simprocAttr]) ?_
 simp only[af200,PP,P1,P2,P14,P15,simprocAttr,hx]
 exact hk
set_option maxHeartbeats 4000000 in
theorem WF {M:Mem} {K:PV->Mem->Prop} {t:ByteArray} (hm:t.size<=100000000)
  (hk1:t.data.toList=[]\/t.data.toList.foldl j5 (some 0)=none->∀m:Int,∀k:Int,(k=1\/k=2)->K (.tuple [.int .u64 m,.iface (Proofs.YtapbgleednkimaaGreatDoor.Lay.renNm.t 167) (p64 k)]) M)
  (hk2:∀n:Nat,t.data.toList≠[]->t.data.toList.foldl j5 (some 0)=some n->K (.tuple [.int .u64 n,.niliface]) M):SemC tab 171 [.str t,p64 10,p64 31] M K:=by
 have hs:t.data.toList.length=t.size:=rfl
 have e0:=DP t ⟨#[]⟩
 have q1:eI .shl (.int .u64 1) (.int .u64 31)=some (.int .u64 2147483648):=by rfl
 have q2:eI .sub (.int .u64 2147483648) (.int .u64 1)=some (.int .u64 2147483647):=by rfl
 have hty:Proofs.YtapbgleednkimaaGreatDoor.Lay.renNm.t 167=263:=by kernel_rfl
 rw[hty]at hk1
 have f1:∀k:Int,fM 0 [] (.iface 263 (p64 k))=some (.iface 263 (p64 k)):=fun k=>by simp[fM,e9,PV.under]
 have f2:fM 0 [] .niliface=some .niliface:=by simp[fM,e9,PV.under]
 have w1:IntKind.u64.wrap 31=31:=by rfl
 have w2:IntKind.u64.wrap 10=10:=by rfl
 have w3:IntKind.u8.wrap 10=10:=by rfl
 refine cP T.h171 (by simp only[PP,P1,P2,P14,P15,simprocAttr,aQ,aL,aP,aC,aR,bD,aK,aJ,aN,aT,aU,aV,aW,aS,bA,aE,aF,aA,aG,aY,aZ,aO,bE,a8,aX,aM,bB,aH,bC,aI,aB,aD]) ?_
 simp only[af171,PP,P1,P2,P14,P15,simprocAttr,aQ,aL,aP,aC,aR,bD,aK,aJ,aN,aT,aU,aV,aW,aS,bA,aE,aF,aA,aG,aY,aZ,aO,bE,a8,aX,aM,bB,aH,bC,aI,aB,aD,dE,cF,bQ,cZ,cO,cY,cW,dC,dD,cK,bJ,cN,bU,bT,bF,cB,bI,e0]
 refine QIf.intro (fun c=>?_) (fun c=>?_)
 ·simp only[PP,P1,P2,P14,P15,simprocAttr,aQ,aL,aP,aC,aR,bD,aK,aJ,aN,aT,aU,aV,aW,aS,bA,aE,aF,aA,aG,aY,aZ,aO,bE,a8,aX,aM,bB,aH,bC,aI,aB,aD,dE,cF,bQ,cZ,cO,cY,cW,dC,dD,cK,bJ,cN,bU,bT,bF,cB,bI,c,f1]
  exact hk1 (.inl (by rw[c])) 0 2 (.inr rfl)
 have hne:t.data.toList≠[]:=fun h=>c (ByteArray.ext (Array.ext' h))
 have b1:t.size<=140737488355328:=by omega
 simp only[PP,P1,P2,P14,P15,simprocAttr,aQ,aL,aP,aC,aR,bD,aK,aJ,aN,aT,aU,aV,aW,aS,bA,aE,aF,aA,aG,aY,aZ,aO,bE,a8,aX,aM,bB,aH,bC,aI,aB,aD,dE,cF,bQ,cZ,cO,cY,cW,dC,dD,cK,bJ,cN,bU,bT,bF,cB,bI,c,q1,q2,w1,w2,w3,b1]
 refine jY (fun(k n:Nat)=>k<=t.size/\n<=2147483647/\(t.data.toList.take k).foldl j5 (some 0)=some n) (fun k n=>(.junk::p64 10::zj 6++ .bool false:: .str t:: .int .u64 1844674407370955162:: .int .u64 2147483647:: .bool false:: .int .u64 n::zj 85++ .sl true false 1 t.size (t.data.toList.map fun b:UInt8=>PV.int .u8 ((b.toNat:Nat):Int))::p64 t.size::p64 k::zj 70)) (fun k n=>[]) (fun k n=>t.size-k) 0 0 ⟨by omega,by omega,rfl⟩ (by simp only[PW]) rfl ?_
 intro k n ⟨hk',hn,hf⟩ ih
 have stop:∀b:UInt8,t.data.toList[k]? =some b->j5 (some n) b=none->t.data.toList.foldl j5 (some 0)=none:=fun b hb he=>by
  rw[<-List.take_append_drop k t.data.toList,List.foldl_append,hf,nE hb,List.foldl_cons,he,qT]
 refine dL (by kernel_rfl) ?_
 simp only[PP,P1,P2,P14,P15,simprocAttr]
 refine QIf.intro (fun c1=>?_) (fun c1=>?_)
 rotate_left
 ·have hkl:k=t.size:=by omega
  subst hkl
  rw[List.take_of_length_le (by rw[hs];exact Nat.le_refl _)]at hf
  simp only[PP,P1,P2,P14,P15,simprocAttr,aQ,aL,aP,aC,aR,bD,aK,aJ,aN,aT,aU,aV,aW,aS,bA,aE,aF,aA,aG,aY,aZ,aO,bE,a8,aX,aM,bB,aH,bC,aI,aB,aD,dE,cF,bQ,cZ,cO,cY,cW,dC,dD,cK,bJ,cN,bU,bT,bF,cB,bI,c1,f2]
  exact hk2 n hne hf
 have hlt:k<t.data.toList.length:=by omega
 have hw:=dA (k:=k) (by show _<1000000000000;omega)
 have i0:(0:Int)<=k:=by omega
 obtain⟨b,gb⟩:=dN hlt
 have hb:=b.toNat_lt
 have hd0:(48:Int)<=((b.toNat:Nat):Int)\/¬(48:Int)<=((b.toNat:Nat):Int):=by omega
 by_cases hd:48<=b.toNat/\b.toNat<=57
 ·have d0:¬((b.toNat:Nat):Int)=95:=by omega
  have d1:(48:Int)<=((b.toNat:Nat):Int):=by omega
  have d2:((b.toNat:Nat):Int)<=57:=by omega
  have d3:IntKind.u8.wrap (((b.toNat:Nat):Int)-48)=((b.toNat-48:Nat):Int):=by
   rw[show((b.toNat:Nat):Int)-48=((b.toNat-48:Nat):Int) by omega,w6 (by omega)]
  have d4:¬(10:Int)<=((b.toNat-48:Nat):Int):=by omega
  have d5:¬(1844674407370955162:Int)<=(n:Int):=by omega
  have wu:∀x:Nat,x<18446744073709551616->IntKind.u64.wrap (x:Int)=x:=fun x hx=>by
   simp only[IntKind.wrap,IntKind.signed,IntKind.bits]
   simp
   omega
  have d6:IntKind.u64.wrap ((n:Int)*10)=((n*10:Nat):Int):=by
   rw[show(n:Int)*10=((n*10:Nat):Int) by omega,wu _ (by omega)]
  have d7:IntKind.u64.wrap ((b.toNat-48:Nat):Int)=((b.toNat-48:Nat):Int):=wu _ (by omega)
  have d8:IntKind.u64.wrap (((n*10:Nat):Int)+((b.toNat-48:Nat):Int))=((10*n+(b.toNat-48):Nat):Int):=by
   rw[show((n*10:Nat):Int)+((b.toNat-48:Nat):Int)=((10*n+(b.toNat-48):Nat):Int) by omega,wu _ (by omega)]
  have d9:¬((10*n+(b.toNat-48):Nat):Int)<((n*10:Nat):Int):=by omega
  simp only[PP,P1,P2,P14,P15,simprocAttr,aQ,aL,aP,aC,aR,bD,aK,aJ,aN,aT,aU,aV,aW,aS,bA,aE,aF,aA,aG,aY,aZ,aO,bE,a8,aX,aM,bB,aH,bC,aI,aB,aD,dE,cF,bQ,cZ,cO,cY,cW,dC,dD,cK,bJ,cN,bU,bT,bF,cB,bI,c1,i0,gb,d0,d1,d2,d3,d4,d5,d6,d7,d8,d9,w2,w3]
  refine QIf.intro (fun e=>?_) (fun e=>?_)
  ·simp only[PP,P1,P2,P14,P15,simprocAttr,aQ,aL,aP,aC,aR,bD,aK,aJ,aN,aT,aU,aV,aW,aS,bA,aE,aF,aA,aG,aY,aZ,aO,bE,a8,aX,aM,bB,aH,bC,aI,aB,aD,dE,cF,bQ,cZ,cO,cY,cW,dC,dD,cK,bJ,cN,bU,bT,bF,cB,bI,e,f1]
   exact hk1 (.inr (stop b gb (by
    unfold j5
    simp only
    rw[if_neg (by omega)]))) _ 1 (.inl rfl)
  ·simp only[PP,P1,P2,P14,P15,simprocAttr,aQ,aL,aP,aC,aR,bD,aK,aJ,aN,aT,aU,aV,aW,aS,bA,aE,aF,aA,aG,aY,aZ,aO,bE,a8,aX,aM,bB,aH,bC,aI,aB,aD,dE,cF,bQ,cZ,cO,cY,cW,dC,dD,cK,bJ,cN,bU,bT,bF,cB,bI,e,hw]
   refine dB (ih (k+1) (10*n+(b.toNat-48)) ⟨by omega,by omega,?_⟩ (by omega)) (by simp only[PW])
   rw[List.take_add_one,gb,List.foldl_append,hf]
   show j5 (some n) b=_
   unfold j5
   simp only
   rw[if_pos (by omega)]
 ·have hn:j5 (some n) b=none:=by
   unfold j5
   simp only
   rw[if_neg (by omega)]
  have hst:=stop b gb hn
  have d0:((b.toNat:Nat):Int)=95\/¬((b.toNat:Nat):Int)=95:=by omega
  have d1:(¬((48:Int)<=((b.toNat:Nat):Int))/\¬(1:Int)<=0)\/((48:Int)<=((b.toNat:Nat):Int))/\¬(((b.toNat:Nat):Int)<=57):=by omega
  rcases d0 with d0 | d0<;>rcases d1 with⟨d1,d2⟩ | ⟨d1,d2⟩
  ·omega
  all_goals
   obtain⟨x,hx⟩:∃x,eI .or (.int .u8 ((b.toNat:Nat):Int)) (.int .u8 32)=some (.int .u8 x):=⟨_,rfl⟩
   simp only[PP,P1,P2,P14,P15,simprocAttr,aQ,aL,aP,aC,aR,bD,aK,aJ,aN,aT,aU,aV,aW,aS,bA,aE,aF,aA,aG,aY,aZ,aO,bE,a8,aX,aM,bB,aH,bC,aI,aB,aD,dE,cF,bQ,cZ,cO,cY,cW,dC,dD,cK,bJ,cN,bU,bT,bF,cB,bI,c1,i0,gb,d0,d1,d2,w2,w3]
   try rw[d0]at hx
   refine EQ T hx ?_
   simp only[PP,P1,P2,P14,P15,simprocAttr,aQ,aL,aP,aC,aR,bD,aK,aJ,aN,aT,aU,aV,aW,aS,bA,aE,aF,aA,aG,aY,aZ,aO,bE,a8,aX,aM,bB,aH,bC,aI,aB,aD,dE,cF,bQ,cZ,cO,cY,cW,dC,dD,cK,bJ,cN,bU,bT,bF,cB,bI]
   refine QIf.intro (fun e=>?_) (fun e=>?_)
   ·simp only[PP,P1,P2,P14,P15,simprocAttr,aQ,aL,aP,aC,aR,bD,aK,aJ,aN,aT,aU,aV,aW,aS,bA,aE,aF,aA,aG,aY,aZ,aO,bE,a8,aX,aM,bB,aH,bC,aI,aB,aD,dE,cF,bQ,cZ,cO,cY,cW,dC,dD,cK,bJ,cN,bU,bT,bF,cB,bI,e]
    refine EQ T hx ?_
    simp only[PP,P1,P2,P14,P15,simprocAttr,aQ,aL,aP,aC,aR,bD,aK,aJ,aN,aT,aU,aV,aW,aS,bA,aE,aF,aA,aG,aY,aZ,aO,bE,a8,aX,aM,bB,aH,bC,aI,aB,aD,dE,cF,bQ,cZ,cO,cY,cW,dC,dD,cK,bJ,cN,bU,bT,bF,cB,bI]
    refine QIf.intro (fun e2=>?_) (fun e2=>?_)
    ·simp only[PP,P1,P2,P14,P15,simprocAttr,aQ,aL,aP,aC,aR,bD,aK,aJ,aN,aT,aU,aV,aW,aS,bA,aE,aF,aA,aG,aY,aZ,aO,bE,a8,aX,aM,bB,aH,bC,aI,aB,aD,dE,cF,bQ,cZ,cO,cY,cW,dC,dD,cK,bJ,cN,bU,bT,bF,cB,bI,e,e2]
     refine EQ T hx ?_
     have d5:IntKind.u8.wrap (IntKind.u8.wrap (x-97)+10)=((x-97+10).toNat:Int):=by
      rw[show x-97=(((x-97).toNat:Nat):Int) by omega,w6 (by omega),show(((x-97).toNat:Nat):Int)+10=((((x-97).toNat+10):Nat):Int) by omega,w6 (by omega)]
      omega
     have d4:(10:Int)<=((x-97+10).toNat:Int):=by omega
     simp only[PP,P1,P2,P14,P15,simprocAttr,aQ,aL,aP,aC,aR,bD,aK,aJ,aN,aT,aU,aV,aW,aS,bA,aE,aF,aA,aG,aY,aZ,aO,bE,a8,aX,aM,bB,aH,bC,aI,aB,aD,dE,cF,bQ,cZ,cO,cY,cW,dC,dD,cK,bJ,cN,bU,bT,bF,cB,bI,d4,d5,w2,w3,f1]
     exact hk1 (.inr hst) _ 2 (.inr rfl)
    ·simp only[PP,P1,P2,P14,P15,simprocAttr,aQ,aL,aP,aC,aR,bD,aK,aJ,aN,aT,aU,aV,aW,aS,bA,aE,aF,aA,aG,aY,aZ,aO,bE,a8,aX,aM,bB,aH,bC,aI,aB,aD,dE,cF,bQ,cZ,cO,cY,cW,dC,dD,cK,bJ,cN,bU,bT,bF,cB,bI,e2,f1]
     exact hk1 (.inr hst) _ 2 (.inr rfl)
   ·simp only[PP,P1,P2,P14,P15,simprocAttr,aQ,aL,aP,aC,aR,bD,aK,aJ,aN,aT,aU,aV,aW,aS,bA,aE,aF,aA,aG,aY,aZ,aO,bE,a8,aX,aM,bB,aH,bC,aI,aB,aD,dE,cF,bQ,cZ,cO,cY,cW,dC,dD,cK,bJ,cN,bU,bT,bF,cB,bI,e,f1]
    exact hk1 (.inr hst) _ 2 (.inr rfl)
theorem UD {M:Mem} {K:PV->Mem->Prop} {t:ByteArray} (hm:t.size<=100000000)
  (hk1:t.data.toList=[]\/t.data.toList.foldl j5 (some 0)=none->∀(m:Int) t2,K (.tuple [.int .u64 m,.iface t2 Zj]) M)
  (hk2:∀n:Nat,t.data.toList≠[]->t.data.toList.foldl j5 (some 0)=some n->K (.tuple [.int .u64 n,.niliface]) M):SemC tab 130 [.str t,p64 10,p64 31] M K:=by
 refine dH T.h130 ?_
 simp only[af130,PP,P1,P2,P14,P15,simprocAttr,aQ,aL,aP,aC,aR,bD,aK,aJ,aN,aT,aU,aV,aW,aS,bA,aE,aF,aA,aG,aY,aZ,aO,bE,a8,aX,aM,bB,aH,bC,aI,aB,aD,dE,cF,bQ,cZ,cO,cY,cW,dC,dD,cK,bJ,cN,bU,bT,bF,cB,bI]
 refine WF T hm (fun h m k hk=>?_) (fun n h1 h2=>?_)
 ·simp only[PP,P1,P2,P14,P15,simprocAttr,aQ,aL,aP,aC,aR,bD,aK,aJ,aN,aT,aU,aV,aW,aS,bA,aE,aF,aA,aG,aY,aZ,aO,bE,a8,aX,aM,bB,aH,bC,aI,aB,aD,dE,cF,bQ,cZ,cO,cY,cW,dC,dD,cK,bJ,cN,bU,bT,bF,cB,bI]
  refine TJ T (by omega) hk fun t2=>?_
  simp only[PP,P1,P2,P14,P15,simprocAttr,aQ,aL,aP,aC,aR,bD,aK,aJ,aN,aT,aU,aV,aW,aS,bA,aE,aF,aA,aG,aY,aZ,aO,bE,a8,aX,aM,bB,aH,bC,aI,aB,aD,dE,cF,bQ,cZ,cO,cY,cW,dC,dD,cK,bJ,cN,bU,bT,bF,cB,bI]
  exact hk1 h m t2
 ·simp only[PP,P1,P2,P14,P15,simprocAttr,aQ,aL,aP,aC,aR,bD,aK,aJ,aN,aT,aU,aV,aW,aS,bA,aE,aF,aA,aG,aY,aZ,aO,bE,a8,aX,aM,bB,aH,bC,aI,aB,aD,dE,cF,bQ,cZ,cO,cY,cW,dC,dD,cK,bJ,cN,bU,bT,bF,cB,bI]
  exact hk2 n h1 h2
theorem XC {M:Mem} {K:PV->Mem->Prop} {t:ByteArray} (hm:t.size<=100000000) (hk:K (.bool (vS t.data.toList).isSome) M):SemC tab 76 [.str t] M K:=by
 refine dH T.h76 ?_
 simp only[af76,PP,P1,P2,P14,P15,simprocAttr,aQ,aL,aP,aC,aR,bD,aK,aJ,aN,aT,aU,aV,aW,aS,bA,aE,aF,aA,aG,aY,aZ,aO,bE,a8,aX,aM,bB,aH,bC,aI,aB,aD,dE,cF,bQ,cZ,cO,cY,cW,dC,dD,cK,bJ,cN,bU,bT,bF,cB,bI]
 refine UD T hm (fun h m t2=>?_) (fun n h1 h2=>?_)
 ·simp only[PP,P1,P2,P14,P15,simprocAttr,aQ,aL,aP,aC,aR,bD,aK,aJ,aN,aT,aU,aV,aW,aS,bA,aE,aF,aA,aG,aY,aZ,aO,bE,a8,aX,aM,bB,aH,bC,aI,aB,aD,dE,cF,bQ,cZ,cO,cY,cW,dC,dD,cK,bJ,cN,bU,bT,bF,cB,bI]
  have:(vS t.data.toList).isSome=false:=by
   cases hx:vS t.data.toList with
   | none=>rfl
   | some n=>
    obtain⟨a1,a2⟩:=tokN_some.1 hx
    rw[wT (by omega)]at a2
    rcases h with h | h
    ·rw[h]at a2;exact absurd a2 (WT n)
    ·rw[<-a2,tZ n a1]at h;cases h
  rw[this]at hk
  exact hk
 ·have hn:=zC _ (some 0) n (fun k hk=>by cases hk;omega) h2
  have e:=DP ⟨(dig 20 n).toArray⟩ t
  simp only[PP,P1,P2,P14,P15,simprocAttr,aQ,aL,aP,aC,aR,bD,aK,aJ,aN,aT,aU,aV,aW,aS,bA,aE,aF,aA,aG,aY,aZ,aO,bE,a8,aX,aM,bB,aH,bC,aI,aB,aD,dE,cF,bQ,cZ,cO,cY,cW,dC,dD,cK,bJ,cN,bU,bT,bF,cB,bI]
  refine aCC T (by omega) ?_
  simp only[PP,P1,P2,P14,P15,simprocAttr,aQ,aL,aP,aC,aR,bD,aK,aJ,aN,aT,aU,aV,aW,aS,bA,aE,aF,aA,aG,aY,aZ,aO,bE,a8,aX,aM,bB,aH,bC,aI,aB,aD,dE,cF,bQ,cZ,cO,cY,cW,dC,dD,cK,bJ,cN,bU,bT,bF,cB,bI,e]
  have:(vS t.data.toList).isSome=decide ((⟨(dig 20 n).toArray⟩:ByteArray)=t):=by
   unfold vS
   rw[h2]
   simp only
   by_cases c:nG n=t.data.toList
   ·rw[if_pos c]
    exact(decide_eq_true (dec_mk.2 c)).symm
   ·rw[if_neg c]
    exact(decide_eq_false fun h=>c (dec_mk.1 h)).symm
  rw[this]at hk
  exact hk
end
end Go.Am.Ar

