/- Contracts: few, start, and what goes with it. -/
import Derived.Test.YtapbgleednkimaaGreatDoorBudgetDividedG6
import Derived.Test.YtapbgleednkimaaGreatDoorBudgetDividedG2
import Derived.Test.YtapbgleednkimaaGreatDoorBudgetDividedG0
set_option linter.unusedVariables false
set_option linter.unusedSimpArgs false
set_option maxRecDepth 10000
namespace Go.Am.Ar
open Go.Am.PV renaming junk->Zj
open Go.Am renaming kV->P1,qL->P2,PKNo->P3,ppack->P4,PObj.under->P5,pput->P6,ptset->P7,ptget->P8,pev->P9,ofAV->P10,ofAV1->P11,ppad->P12,pfill->P13,fF->P14,AO.effect->P15
open List renaming replicate->L1
abbrev csC (f o:Bool) (k:Int) (N:NF) (D:DF) (ow pr:List Int) (su:List (List Int)):List PV:=
 [p64 k,p64 N.vs,p64 N.n,slI f o .i64 N.st,slI f o .i64 N.fi,slE f o N.es,p64 D.vs,p64 D.st,slR f o f o .i64 D.nx,slB f o D.fi,slI f o .u8 ow,slI f o .i64 pr,slR f o f o .i64 su]
def E1 (k:Int):Int:=(k.tmod 3+3).tmod 3
theorem LL (k:Int):E1 k=0\/E1 k=1\/E1 k=2:=by
 unfold E1
 have h1:=Int.tmod_lt_of_pos k (b:=3) (by omega)
 have h2: -3<k.tmod 3:=by
  have:=Int.tmod_lt_of_pos (-k) (b:=3) (by omega)
  rw[Int.neg_tmod]at this
  omega
 have h3:0<=k.tmod 3+3:=by omega
 rw[Int.tmod_eq_emod_of_nonneg h3]
 omega
def aDM (N:NF):NF:=⟨N.vs,min N.n 5,N.st.take 6,N.fi.take 6,N.es.take 20⟩
def E2 (D:DF):DF:=⟨D.vs,D.st,(D.nx.take 6).map (List.take 65),D.fi.take 6⟩
def IL (su:List (List Int)):List (List Int):=(su.take 4).map (List.take 6)
theorem pQ {α:Type} (l:List α) (c:Nat):min (l.length:Int) (c:Int)=((min l.length c:Nat):Int):=by omega
theorem kS (k:IntKind) (l:List Int) (c:Nat):PV.sl false false 1 (min l.length c) (dW (l.map (PV.int k)) 0 (min l.length c))=slI false false k (l.take c):=by
 unfold slI dW
 rw[List.drop_zero,<-List.map_take,List.length_take,Nat.min_comm]
 congr 2
 rw[<-List.take_length (l:=l.take c),List.length_take,List.take_take]
 simp
theorem IV:∀(l:List Eg) (c:Nat),(egL l).take (c*4)=egL (l.take c)
 | [],c=>by simp[egL]
 | e::l,0=>by simp[egL]
 | e::l,c+1=>by
  have ih:=IV l c
  rw[show(c+1)*4=c*4+1+1+1+1 by omega]
  show _::_::_::_::(egL l).take (c*4)=_::_::_::_::egL (l.take c)
  rw[ih]
theorem aAD (l:List Eg) (c:Nat):PV.sl false false 4 (min l.length c) (dW (egL l) 0 (min l.length c*4))=slE false false (l.take c):=by
 unfold dW
 rw[List.drop_zero,IV]
 have e:l.take (min l.length c)=l.take c:=by
  rcases Nat.le_total l.length c with h | h
  ·rw[Nat.min_eq_left h,List.take_of_length_le (Nat.le_refl _),List.take_of_length_le h]
  ·rw[Nat.min_eq_right h]
 rw[e]
 simp only[slE,List.length_take,Nat.min_comm]
theorem C0 (l:List Bool) (c:Nat):PV.sl false false 1 (min l.length c) (dW (l.map PV.bool) 0 (min l.length c))=slB false false (l.take c):=by
 unfold slB dW
 rw[List.drop_zero,<-List.map_take,List.length_take,Nat.min_comm]
 congr 2
 rw[<-List.take_length (l:=l.take c),List.length_take,List.take_take]
 simp
section
variable {tab:FuncId->Option AF} (T:HasA tab)
include T
theorem WU {M:Mem} {K:PV->Mem->Prop} {f o:Bool} {xs:List Eg} (hm:xs.length<big) (hk:K (slE false true xs) M):SemC tab 37 [slE f o xs] M K:=by
 refine sX (by simp only[PP,P1,P2,P14,P15,simprocAttr,eC]) (aAE T hm ⟨slE false true xs,?_,hk⟩)
 simp only[jF,fM]
 rw[oD (ver:=0) (Nat.zero_le _) rfl (by simp[iQ]) (fV 0 xs),dQ _ _ (by simp[iQ])]
set_option maxHeartbeats 4000000 in
theorem aCF {M:Mem} {K:PV->Mem->Prop} {k:Int} {N:NF} {D:DF} {ow pr:List Int} {su:List (List Int)} (hf:E1 k=0)
  (hk:K (.agg ([p64 0]++nfC false true false true false true (aDM N)++[p64 0,p64 0,.nils,.nils,.nils,.nils,.nils])) M):
  SemC tab 10 [.agg (csC false false k N D ow pr su)] M K:=by
 have h3:IntKind.i64.wrap (k.tmod 3+3)=k.tmod 3+3:=by
  have h1:=Int.tmod_lt_of_pos k (b:=3) (by omega)
  have h2: -3<k.tmod 3:=by
   have:=Int.tmod_lt_of_pos (-k) (b:=3) (by omega)
   rw[Int.neg_tmod]at this
   omega
  rw[wrap64]<;>omega
 have r1:eI .rem (p64 k) (p64 3)=some (p64 (k.tmod 3)):=by simp[eI,eJ,gW,eF,fH,ofAV1]
 have r2:eI .rem (p64 (k.tmod 3+3)) (p64 3)=some (p64 0):=by
  have:(k.tmod 3+3).tmod 3=0:=hf
  simp[eI,eJ,gW,eF,fH,ofAV1,this]
 refine fB T.h10 (by simp only[PP,P1,P2,P14,P15,simprocAttr,eC]) ?_
 simp only[af10]
 refine bS (bR ?_)
 simp only[PP,P1,P2,P14,P15,simprocAttr]
 refine eB (GStep.freezeP (b:=(.junk:: .cp (csC false false k N D ow pr su) 0:: .ptr 1 0 0::zj 171)) 0 (Nat.zero_le _) rfl (by simp only[kJ,kK,List.cons_append,List.nil_append,f9,fR,fQ,f8]) rfl) ?_
 refine bR ?_
 have m6:∀l:List Int,min (l.length:Int) 6=((min l.length 6:Nat):Int):=fun l=>pQ l 6
 have m20:min (N.es.length:Int) 20=((min N.es.length 20:Nat):Int):=pQ _ 20
 have nn:∀n:Nat,(0:Int)<=(n:Int):=fun n=>by omega
 have le1:∀(l:List Int),((min l.length 6:Nat):Int)<=l.length:=fun l=>by omega
 have le2:((min N.es.length 20:Nat):Int)<=N.es.length:=by omega
 have sb:∀n:Int,n-0=n:=fun n=>by omega
 simp only[PP,P1,P2,P14,P15,simprocAttr,r1,h3,r2,jX,m6,m20,nn,le1,le2,sb]
 have l6:∀l:List Int,(l.take 6).length<big:=fun l=>by rw[List.length_take];show _<1000000000000;omega
 have l20:(N.es.take 20).length<big:=by rw[List.length_take];show _<1000000000000;omega
 rw[kS]
 refine kA T (l6 _) ?_
 simp only[PP,P1,P2,P14,P15,simprocAttr,m6,m20,nn,le1,le2,sb,jX]
 rw[kS]
 refine kA T (l6 _) ?_
 simp only[PP,P1,P2,P14,P15,simprocAttr,m6,m20,nn,le1,le2,sb,jX]
 rw[aAD]
 refine WU T l20 ?_
 simp only[PP,P1,P2,P14,P15,simprocAttr,m6,m20,nn,le1,le2,sb,jX]
 have pe:∀(N':Mem) (n:Nat) (l:List Eg),e9 0 N' (.sl false true 4 n (egL l))=some (.sl false true 4 n (egL l)):=fun N' n l=>u7 (eC 0 false true 4 n l)
 simp only[pe,PP,P1,P2,P14,P15,simprocAttr]
 exact hk
set_option maxHeartbeats 4000000 in
theorem aCE {M:Mem} {K:PV->Mem->Prop} {k:Int} {N:NF} {D:DF} {ow pr:List Int} {su:List (List Int)} (hf:E1 k=1)
  (hk:K (.agg ([p64 1,p64 0,p64 0,.nils,.nils,.nils]++dfC false true false true false true (E2 D)++[.nils,.nils,.nils])) M):
  SemC tab 10 [.agg (csC false false k N D ow pr su)] M K:=by
 have h3:IntKind.i64.wrap (k.tmod 3+3)=k.tmod 3+3:=by
  have h1:=Int.tmod_lt_of_pos k (b:=3) (by omega)
  have h2: -3<k.tmod 3:=by
   have:=Int.tmod_lt_of_pos (-k) (b:=3) (by omega)
   rw[Int.neg_tmod]at this
   omega
  rw[wrap64]<;>omega
 have r1:eI .rem (p64 k) (p64 3)=some (p64 (k.tmod 3)):=by simp[eI,eJ,gW,eF,fH,ofAV1]
 have r2:eI .rem (p64 (k.tmod 3+3)) (p64 3)=some (p64 1):=by
  have:(k.tmod 3+3).tmod 3=1:=hf
  simp[eI,eJ,gW,eF,fH,ofAV1,this]
 refine fB T.h10 (by simp only[PP,P1,P2,P14,P15,simprocAttr,eC]) ?_
 simp only[af10]
 refine bS (bR ?_)
 simp only[PP,P1,P2,P14,P15,simprocAttr]
 refine eB (GStep.freezeP (b:=(.junk:: .cp (csC false false k N D ow pr su) 0:: .ptr 1 0 0::zj 171)) 0 (Nat.zero_le _) rfl (by simp only[kJ,kK,List.cons_append,List.nil_append,f9,fR,fQ,f8]) rfl) ?_
 refine bR ?_
 simp only[PP,P1,P2,P14,P15,simprocAttr,r1,h3,r2]
 refine dB (b:=(.junk:: .cp (csC false false k N D ow pr su) 0:: .ptr 1 0 0:: .ptr 2 0 0::p64 0::zj 169)) ?_ (by simp only[PW])
 refine eB (GStep.nilbox 2 8 1 rfl rfl rfl) ?_
 have m65:∀l:List Int,min (l.length:Int) 65=((min l.length 65:Nat):Int):=fun l=>pQ l 65
 have m6:min (D.fi.length:Int) 6=((min D.fi.length 6:Nat):Int):=pQ _ 6
 have nn:∀n:Nat,(0:Int)<=(n:Int):=fun n=>by omega
 have le1:∀(l:List Int),((min l.length 65:Nat):Int)<=l.length:=fun l=>by omega
 have le2:((min D.fi.length 6:Nat):Int)<=D.fi.length:=by omega
 have sb:∀n:Int,n-0=n:=fun n=>by omega
 have l65:∀l:List Int,(l.take 65).length<big:=fun l=>by rw[List.length_take];show _<1000000000000;omega
 refine sG (fun(i g v:Nat)=>i<=D.nx.length/\i<=6) (fun i g v=>(.junk:: .cp (csC false false k N D ow pr su) 0:: .ptr 1 0 0:: .ptr 2 0 0::p64 i::zj 169))
  (fun i g v=>[.gone,.cells 0 0 [p64 0,p64 0,p64 0,.nils,.nils,.nils,p64 0,p64 0,.nils,.nils,.nils,.nils,.nils],.cells 0 v [p64 1,p64 0,p64 0,.nils,.nils,.nils,p64 0,p64 0,.ref 3 g 1 0 i,.nils,.nils,.nils,.nils],.cells g 0 (((D.nx.take i).map (List.take 65)).map (slI false true .i64))]) (fun i g v=>6-i) 0 0 1 (by omega) (by simp only[PW]) rfl ?_
 intro i g v ⟨hi1,hi2⟩ ih
 have exit:¬(i<D.nx.length/\i<6)->D.nx.take i=D.nx.take 6/\i=(E2 D).nx.length:=fun h=>by
  have e:D.nx.take i=D.nx.take 6:=by
   by_cases q:i=6
   ·rw[q]
   ·rw[List.take_of_length_le (by omega),List.take_of_length_le (by omega)]
  refine⟨e,?_⟩
  unfold E2
  simp only[List.length_map,List.length_take]
  omega
 have l6b:(D.fi.take 6).length<big:=by rw[List.length_take];show _<1000000000000;omega
 have hfz:∀g,D.nx.take i=D.nx.take 6->i=(E2 D).nx.length->y8 (some (PObj.cells g 0 (((D.nx.take i).map (List.take 65)).map (slI false true .i64)))) g 1 0 i=some (slR false true false true .i64 (E2 D).nx):=fun g e1 e2=>by
  rw[e1,show(D.nx.take 6).map (List.take 65)=(E2 D).nx from rfl]
  subst e2
  rw[iJ (by simp) (dO _ _ _ _ _),dQ _ _ (by simp)]
 refine dL (by kernel_rfl) ?_
 by_cases c1:(i:Int)<D.nx.length
 ·by_cases c2:(i:Int)<6
  ·have hw:=dA (k:=i) (by show _<1000000000000;omega)
   obtain⟨x,gx⟩:=dN (xs:=D.nx) (k:=i) (by omega)
   have b1:(i+1)*24<=140737488355328:=by omega
   have b2:i+1<=9223372036854775807:=by omega
   have b3:i<=(D.nx.take i).length:=by rw[List.length_take];omega
   simp only[PP,P1,P2,P14,P15,simprocAttr,c1,c2,nn,gx,m65,le1,sb,jX]
   rw[kS]
   refine kA T (l65 _) ?_
   simp only[PP,P1,P2,P14,P15,simprocAttr,c1,c2,nn,gx,m65,le1,sb,jX,b1,b2,b3,hw]
   refine dY (ih (i+1) (g+1) (v+1) ⟨by omega,by omega⟩ (by omega)) (by simp only[PW]) ?_
   rw[dQ _ _ (by simp;omega),eK gx]
   simp only[List.map_append,List.map_cons,List.map_nil,slI]
  ·obtain⟨e1,e2⟩:=exit (fun h=>by omega)
   have hfz:=hfz g e1 e2
   simp only[PP,P1,P2,P14,P15,simprocAttr,c1,c2,jX,m6,nn,le2,sb]
   rw[C0]
   refine OK T l6b ?_
   simp only[PP,P1,P2,P14,P15,simprocAttr,hfz]
   exact hk
 ·obtain⟨e1,e2⟩:=exit (fun h=>by omega)
  have hfz:=hfz g e1 e2
  simp only[PP,P1,P2,P14,P15,simprocAttr,c1,jX,m6,nn,le2,sb]
  rw[C0]
  refine OK T l6b ?_
  simp only[PP,P1,P2,P14,P15,simprocAttr,hfz]
  exact hk
set_option maxHeartbeats 4000000 in
theorem aCD {M:Mem} {K:PV->Mem->Prop} {k:Int} {N:NF} {D:DF} {ow pr:List Int} {su:List (List Int)} (hf:E1 k=2)
  (hk:K (.agg [p64 2,p64 0,p64 0,.nils,.nils,.nils,p64 0,p64 0,.nils,.nils,slI false true .u8 (ow.take 4),slI false true .i64 (pr.take 4),slR false true false true .i64 (IL su)]) M):
  SemC tab 10 [.agg (csC false false k N D ow pr su)] M K:=by
 have h3:IntKind.i64.wrap (k.tmod 3+3)=k.tmod 3+3:=by
  have h1:=Int.tmod_lt_of_pos k (b:=3) (by omega)
  have h2: -3<k.tmod 3:=by
   have:=Int.tmod_lt_of_pos (-k) (b:=3) (by omega)
   rw[Int.neg_tmod]at this
   omega
  rw[wrap64]<;>omega
 have r1:eI .rem (p64 k) (p64 3)=some (p64 (k.tmod 3)):=by simp[eI,eJ,gW,eF,fH,ofAV1]
 have r2:eI .rem (p64 (k.tmod 3+3)) (p64 3)=some (p64 2):=by
  have:(k.tmod 3+3).tmod 3=2:=hf
  simp[eI,eJ,gW,eF,fH,ofAV1,this]
 refine fB T.h10 (by simp only[PP,P1,P2,P14,P15,simprocAttr,eC]) ?_
 simp only[af10]
 refine bS (bR ?_)
 simp only[PP,P1,P2,P14,P15,simprocAttr]
 refine eB (GStep.freezeP (b:=(.junk:: .cp (csC false false k N D ow pr su) 0:: .ptr 1 0 0::zj 171)) 0 (Nat.zero_le _) rfl (by simp only[kJ,kK,List.cons_append,List.nil_append,f9,fR,fQ,f8]) rfl) ?_
 refine bR ?_
 simp only[PP,P1,P2,P14,P15,simprocAttr,r1,h3,r2]
 refine dB (b:=(.junk:: .cp (csC false false k N D ow pr su) 0:: .ptr 1 0 0:: .ptr 2 0 0:: .junk::p64 0::zj 168)) ?_ (by simp only[PW])
 refine eB (GStep.nilbox 2 12 1 rfl rfl rfl) ?_
 have m6a:∀l:List Int,min (l.length:Int) 6=((min l.length 6:Nat):Int):=fun l=>pQ l 6
 have m4:∀l:List Int,min (l.length:Int) 4=((min l.length 4:Nat):Int):=fun l=>pQ l 4
 have nn:∀n:Nat,(0:Int)<=(n:Int):=fun n=>by omega
 have le1:∀(l:List Int),((min l.length 6:Nat):Int)<=l.length:=fun l=>by omega
 have le2:∀(l:List Int),((min l.length 4:Nat):Int)<=l.length:=fun l=>by omega
 have sb:∀n:Int,n-0=n:=fun n=>by omega
 have l6a:∀l:List Int,(l.take 6).length<big:=fun l=>by rw[List.length_take];show _<1000000000000;omega
 refine sG (fun(i g v:Nat)=>i<=su.length/\i<=4) (fun i g v=>(.junk:: .cp (csC false false k N D ow pr su) 0:: .ptr 1 0 0:: .ptr 2 0 0:: .junk::p64 i::zj 168))
  (fun i g v=>[.gone,.cells 0 0 [p64 0,p64 0,p64 0,.nils,.nils,.nils,p64 0,p64 0,.nils,.nils,.nils,.nils,.nils],.cells 0 v [p64 2,p64 0,p64 0,.nils,.nils,.nils,p64 0,p64 0,.nils,.nils,.nils,.nils,.ref 3 g 1 0 i],.cells g 0 (((su.take i).map (List.take 6)).map (slI false true .i64))]) (fun i g v=>4-i) 0 0 1 (by omega) (by simp only[PW]) rfl ?_
 intro i g v ⟨hi1,hi2⟩ ih
 have exit:¬(i<su.length/\i<4)->su.take i=su.take 4/\i=(IL su).length:=fun h=>by
  have e:su.take i=su.take 4:=by
   by_cases q:i=4
   ·rw[q]
   ·rw[List.take_of_length_le (by omega),List.take_of_length_le (by omega)]
  refine⟨e,?_⟩
  unfold IL
  simp only[List.length_map,List.length_take]
  omega
 have l4:∀l:List Int,(l.take 4).length<big:=fun l=>by rw[List.length_take];show _<1000000000000;omega
 have hfz:∀g,su.take i=su.take 4->i=(IL su).length->y8 (some (PObj.cells g 0 (((su.take i).map (List.take 6)).map (slI false true .i64)))) g 1 0 i=some (slR false true false true .i64 (IL su)):=fun g e1 e2=>by
  rw[e1,show(su.take 4).map (List.take 6)=(IL su) from rfl]
  subst e2
  rw[iJ (by simp) (dO _ _ _ _ _),dQ _ _ (by simp)]
 refine dL (by kernel_rfl) ?_
 by_cases c1:(i:Int)<su.length
 ·by_cases c2:(i:Int)<4
  ·have hw:=dA (k:=i) (by show _<1000000000000;omega)
   obtain⟨x,gx⟩:=dN (xs:=su) (k:=i) (by omega)
   have b1:(i+1)*24<=140737488355328:=by omega
   have b2:i+1<=9223372036854775807:=by omega
   have b3:i<=(su.take i).length:=by rw[List.length_take];omega
   simp only[PP,P1,P2,P14,P15,simprocAttr,c1,c2,nn,gx,m6a,le1,sb,jX]
   rw[kS]
   refine kA T (l6a _) ?_
   simp only[PP,P1,P2,P14,P15,simprocAttr,c1,c2,nn,gx,m6a,le1,sb,jX,b1,b2,b3,hw]
   refine dY (ih (i+1) (g+1) (v+1) ⟨by omega,by omega⟩ (by omega)) (by simp only[PW]) ?_
   rw[dQ _ _ (by simp;omega),eK gx]
   simp only[List.map_append,List.map_cons,List.map_nil,slI]
  ·obtain⟨e1,e2⟩:=exit (fun h=>by omega)
   have hfz:=hfz g e1 e2
   simp only[PP,P1,P2,P14,P15,simprocAttr,c1,c2,jX,m4,nn,le2,sb]
   rw[kS]
   refine vM T (l4 _) ?_
   simp only[PP,P1,P2,P14,P15,simprocAttr,c1,c2,jX,m4,nn,le2,sb]
   rw[kS]
   refine kA T (l4 _) ?_
   simp only[PP,P1,P2,P14,P15,simprocAttr,hfz]
   exact hk
 ·obtain⟨e1,e2⟩:=exit (fun h=>by omega)
  have hfz:=hfz g e1 e2
  simp only[PP,P1,P2,P14,P15,simprocAttr,c1,jX,m4,nn,le2,sb]
  rw[kS]
  refine vM T (l4 _) ?_
  simp only[PP,P1,P2,P14,P15,simprocAttr,c1,jX,m4,nn,le2,sb]
  rw[kS]
  refine kA T (l4 _) ?_
  simp only[PP,P1,P2,P14,P15,simprocAttr,hfz]
  exact hk
set_option maxHeartbeats 1000000 in
theorem TS {A:Mem} {K:PV->Mem->Prop} {f o:Bool} {N:NF} {D:DF} {ow pr:List Int} {su:List (List Int)} (B:BnN N) (hA:A.all (cL A.length)=true)
  (hk1:fZ N≠0->K (.tuple [.nilptr,p64 (fZ N)]) A)
  (hk2:fZ N=0->∀X1 X2 q v,cL (A.length+2) X1=true->cL (A.length+2) X2=true->K (.tuple [.ptr (A.length+9) 0 0,p64 0]) (j9 (A++[X1,X2]) false true false true false true true false N q [fA N] [] [] v 0)):
  SemC tab 11 [.agg (csC f o 0 N D ow pr su)] A K:=by
 have hX:∀m,cL m (PObj.cells 0 0 (csC f o 0 N D ow pr su))=true:=fun m=>by simp[cL,cE,PV.under,fV,dI,dO,eD]
 have hA1:(A++[PObj.cells 0 0 (csC f o 0 N D ow pr su)]).all (cL (A++[PObj.cells 0 0 (csC f o 0 N D ow pr su)]).length)=true:=by
  rw[List.all_append,dV (by simp) hA,List.all_cons,hX];rfl
 refine eZ (dH T.h11 ?_)
 simp only[af11,PP,P1,P2,P14,P15,simprocAttr,eC,gk0,sk0]
 refine F7 T B hA1 (fun hc=>?_) (fun hc X q v hx=>?_)
 ·simp only[PP,P1,P2,P14,P15,simprocAttr]
  refine Gh.step (GStep.dropM (b:=[.tuple [.nilptr,p64 (fZ N)]]) (N:=A) A.length (Nat.le_refl _) (by simp) (by simp only[PW]) (by simp[cE,PV.under]) ?_ (List.take_left' rfl)) (Gh.same ⟨_,rfl,hk1 hc⟩)
  exact(congrArg (fun M:Mem=>M.all (cL A.length)) (List.take_left' rfl)).trans hA
 ·have h:=hk2 hc (.cells 0 0 (csC f o 0 N D ow pr su)) X q v (hX _) (by simpa using hx)
  simp only[PP,P1,P2,P14,P15,simprocAttr,List.append_assoc,List.length_append,List.length_cons,List.length_nil,List.cons_append,List.nil_append,Nat.zero_add,Nat.reduceAdd]at h ⊢
  exact Gh.same ⟨_,rfl,h⟩
set_option maxHeartbeats 1000000 in
theorem TQ {A:Mem} {K:PV->Mem->Prop} {f o:Bool} {N:NF} {D:DF} {ow pr:List Int} {su:List (List Int)} (B:BnD D) (h99:eY D=0->D.nx.length<=99) (hA:A.all (cL A.length)=true)
  (hk1:eY D≠0->K (.tuple [.nilptr,p64 (eY D)]) A)
  (hk2:eY D=0->∀X0 X1 X2 v,cL (A.length+3) X0=true->cL (A.length+3) X1=true->cL (A.length+3) X2=true->K (.tuple [.ptr (A.length+4) 0 0,p64 0]) (l7 (A++[X0,X1,X2]) false true false true false true false true D v 0 0 0)):
  SemC tab 11 [.agg (csC f o 1 N D ow pr su)] A K:=by
 have hX:∀m,cL m (PObj.cells 0 0 (csC f o 1 N D ow pr su))=true:=fun m=>by simp[cL,cE,PV.under,fV,dI,dO,eD]
 have hA1:(A++[PObj.cells 0 0 (csC f o 1 N D ow pr su)]).all (cL (A++[PObj.cells 0 0 (csC f o 1 N D ow pr su)]).length)=true:=by
  rw[List.all_append,dV (by simp) hA,List.all_cons,hX];rfl
 refine eZ (dH T.h11 ?_)
 simp only[af11,PP,P1,P2,P14,P15,simprocAttr,eC,gk0,sk0]
 refine F6 T B h99 hA1 (fun hc=>?_) (fun hc X Y v hx hy=>?_)
 ·simp only[PP,P1,P2,P14,P15,simprocAttr]
  refine Gh.step (GStep.dropM (b:=[.tuple [.nilptr,p64 (eY D)]]) (N:=A) A.length (Nat.le_refl _) (by simp) (by simp only[PW]) (by simp[cE,PV.under]) ?_ (List.take_left' rfl)) (Gh.same ⟨_,rfl,hk1 hc⟩)
  exact(congrArg (fun M:Mem=>M.all (cL A.length)) (List.take_left' rfl)).trans hA
 ·have h:=hk2 hc (.cells 0 0 (csC f o 1 N D ow pr su)) X Y v (hX _) (by simpa using hx) (by simpa using hy)
  simp only[PP,P1,P2,P14,P15,simprocAttr,List.append_assoc,List.length_append,List.length_cons,List.length_nil,List.cons_append,List.nil_append,Nat.zero_add,Nat.reduceAdd]at h ⊢
  exact Gh.same ⟨_,rfl,h⟩
set_option maxHeartbeats 1000000 in
theorem TP {A:Mem} {K:PV->Mem->Prop} {f o:Bool} {N:NF} {D:DF} {ow pr:List Int} {su:List (List Int)} (B:Bnd ow pr su) (hA:A.all (cL A.length)=true)
  (hk1:eH ow pr su≠0->K (.tuple [.nilptr,p64 (eH ow pr su)]) A)
  (hk2:eH ow pr su=0->∀X0 X1 X2 v1 v2 ms b,cL (A.length+3) X0=true->cL (A.length+3) X1=true->cL (A.length+3) X2=true->uO ow pr su 0 ms b 0->K (.tuple [.ptr (A.length+6) 0 0,p64 0]) (jH (A++[X0,X1,X2]) false true false true false true false true ow pr su ms v1 v2 0 b 0)):
  SemC tab 11 [.agg (csC f o 2 N D ow pr su)] A K:=by
 have hX:∀m,cL m (PObj.cells 0 0 (csC f o 2 N D ow pr su))=true:=fun m=>by simp[cL,cE,PV.under,fV,dI,dO,eD]
 have hA1:(A++[PObj.cells 0 0 (csC f o 2 N D ow pr su)]).all (cL (A++[PObj.cells 0 0 (csC f o 2 N D ow pr su)]).length)=true:=by
  rw[List.all_append,dV (by simp) hA,List.all_cons,hX];rfl
 refine eZ (dH T.h11 ?_)
 simp only[af11,PP,P1,P2,P14,P15,simprocAttr,eC,gk0,sk0]
 refine F5 T B hA1 (fun hc=>?_) (fun hc X Y v1 v2 ms b hx hy ha=>?_)
 ·simp only[PP,P1,P2,P14,P15,simprocAttr]
  refine Gh.step (GStep.dropM (b:=[.tuple [.nilptr,p64 (eH ow pr su)]]) (N:=A) A.length (Nat.le_refl _) (by simp) (by simp only[PW]) (by simp[cE,PV.under]) ?_ (List.take_left' rfl)) (Gh.same ⟨_,rfl,hk1 hc⟩)
  exact(congrArg (fun M:Mem=>M.all (cL A.length)) (List.take_left' rfl)).trans hA
 ·have h:=hk2 hc (.cells 0 0 (csC f o 2 N D ow pr su)) X Y v1 v2 ms b (hX _) (by simpa using hx) (by simpa using hy) ha
  simp only[PP,P1,P2,P14,P15,simprocAttr,List.append_assoc,List.length_append,List.length_cons,List.length_nil,List.cons_append,List.nil_append,Nat.zero_add,Nat.reduceAdd]at h ⊢
  exact Gh.same ⟨_,rfl,h⟩
end
theorem OS {a:BitVec 64} {n:Nat} (hn:n<=64) (h:∀k,a.getLsbD k=true->k<n):a.toNat<2^n:=by
 refine Nat.lt_pow_two_of_testBit _ fun i hi=>?_
 by_cases c:a.toNat.testBit i=true
 ·have:=h i c
  omega
 ·simpa using c
theorem aBS {N:NF} (C:NOk N) (m:Nat):(stK N m).length<=2^N.n.toNat:=by
 have h64:N.n.toNat<=64:=by have:=C.n64;omega
 have hall:=sT (δ:=dR N) (n:=dK N) (a0:=fA N) (Dm:=fun a=>a.toNat<2^N.n.toNat) (OS h64 fun k hk=>by
   have:=(nW C k).1 hk
   have:=lS C.st _ this
   omega) (fun a x _ _=>OS h64 fun k hk=>by
   obtain⟨e,he,_,h2⟩:=(zM C a x k).1 hk
   have:=C.ed e (by unfold oF at he;exact(List.mem_filter.1 he).1)
   omega) m
 have hnd:((stK N m).map BitVec.toNat).Nodup:=by
  rw[List.Nodup,List.pairwise_map]
  exact(lW (dR N) (dK N) (fA N) m).imp fun h q=>h (BitVec.eq_of_toNat_eq q)
 have:=qO (2^N.n.toNat) ((stK N m).map BitVec.toNat) hnd fun x hx=>by
  obtain⟨a,ha,rfl⟩:=List.mem_map.1 hx
  exact hall a ha
 simpa using this
theorem GU (D:DF) (k i j:Nat) (hi:i<D.nx.length) (hj:j<D.nx.length) (h:(dX D (k+1)).getD i 0=(dX D (k+1)).getD j 0):(dX D k).getD i 0=(dX D k).getD j 0:=by
 have a1:=D6 (nx:=D.nx) (c:=dX D k) hi
 have a2:=D6 (nx:=D.nx) (c:=dX D k) hj
 have h:(rfN D.nx (dX D k)).getD i 0=(rfN D.nx (dX D k)).getD j 0:=h
 rw[a1,a2]at h
 have m1:fN D.nx (dX D k) i∈fv (fN D.nx (dX D k)) D.nx.length:=(jT _ _ _).2 ⟨i,hi,rfl⟩
 have m2:fN D.nx (dX D k) j∈fv (fN D.nx (dX D k)) D.nx.length:=(jT _ _ _).2 ⟨j,hj,rfl⟩
 have g1:=pT m1
 have g2:=pT m2
 have e:ixF (fv (fN D.nx (dX D k)) D.nx.length) (fN D.nx (dX D k) i)=ixF (fv (fN D.nx (dX D k)) D.nx.length) (fN D.nx (dX D k) j):=by omega
 rw[e,g2]at g1
 have:=congrArg (fun l:List Int=>l.headD 0) (Option.some.inj g1)
 exact this.symm
theorem xU (D:DF) (k i j:Nat) (hi:i<D.nx.length) (hj:j<D.nx.length):∀d,(dX D (k+d)).getD i 0=(dX D (k+d)).getD j 0->(dX D k).getD i 0=(dX D k).getD j 0
 | 0,h=>h
 | d+1,h=>xU D k i j hi hj d (GU D (k+d) i j hi hj h)
theorem ZF {n:Nat} {L:(Nat->Nat)->Nat->Nat} (m:Nat->Nat) (v:Nat):m v<=rU n L m v:=by
 by_cases h:∃v,FstN n L m v
 ·obtain⟨u,hu⟩:=h
  rw[rT hu]
  unfold nR
  split
  ·rename_i e;subst e;exact Nat.le_of_lt hu.2.1
  ·exact Nat.le_refl _
 ·unfold rU;rw[dif_neg h];exact Nat.le_refl _
theorem WC {n:Nat} {L:(Nat->Nat)->Nat->Nat} (k v:Nat):∀d,itN n L k v<=itN n L (k+d) v
 | 0=>Nat.le_refl _
 | d+1=>Nat.le_trans (WC k v d) (ZF _ v)
structure Res where
 vs:Int
 rows:List (List Int)
 fins:List Bool
 sets:List (List Int)
 cls:List Int
 ms:List Ms
abbrev Res.pv (r:Res):PV:=T6 false r.vs r.rows r.fins r.sets r.cls r.ms
theorem Res.pv_under (m:Nat) (r:Res):r.pv.under m=true:=by
 simp[Res.pv,PV.under,cE,dO,dI,eD,cA]
structure JobX (tab:FuncId->Option AF) (jid:Nat) (e:Int) (D F:Nat->Prop) (St:Nat->Mem->Prop) (L:Nat) (RP:Nat->Res->Prop):Prop where
 len:∀m M,St m M->M.length=L
 cut:∀m M,St m M->M.all (cL L)=true
 job:∀m M,St m M->∃v w wid,M[jid]? =some (.cells 0 v [.iface w (.ptr wid 0 0),p64 (m:Int)])
 sm:∀m M,St m M->m<4000000000000000000
 step:∀n M,St n M->∀(S:Mem) (k:Int) (K:PV->Mem->Prop),0<=k->k<=9223372036854775807->
  (∀m M' b,n<=m->(m:Int)<=n+k->(b=true↔D m)->(b=false->(m:Int)=n+k)->(∀j,n<=j->j<m->¬D j/\¬F j)->St m M'->K (.tuple [.bool b,p64 0]) (M'++S))->
  (∀m M',n<=m->(m:Int)<n+k->(∀j,n<=j->j<m->¬D j/\¬F j)->F m->St m M'->K (.tuple [.bool false,p64 e]) (M'++S))->
  SemC tab 18 [.ptr jid 0 0,p64 k] (M++S) K
 res:∀m M,St m M->∀(S:Mem) (K:PV->Mem->Prop),(∀r,RP m r->K r.pv (M++S))->SemC tab 20 [.ptr jid 0 0] (M++S) K
section
variable {tab:FuncId->Option AF} (T:HasA tab)
include T
theorem JobX.units {jid:Nat} {e:Int} {D F:Nat->Prop} {St:Nat->Mem->Prop} {L:Nat} {RP:Nat->Res->Prop} (J:JobX tab jid e D F St L RP) {m:Nat} {M S:Mem} (h:St m M) {K:PV->Mem->Prop} (hk:K (p64 (m:Int)) (M++S)):SemC tab 22 [.ptr jid 0 0] (M++S) K:=by
 obtain⟨v,w,wid,hj⟩:=J.job m M h
 exact ZB T (eV hj S) hk
omit T in
theorem JobX.res0 {jid:Nat} {e:Int} {D F:Nat->Prop} {St:Nat->Mem->Prop} {L:Nat} {RP:Nat->Res->Prop} (J:JobX tab jid e D F St L RP) {m:Nat} {M:Mem} (h:St m M) {K:PV->Mem->Prop} (hk:∀r,RP m r->K r.pv M):SemC tab 20 [.ptr jid 0 0] M K:=by
 have:=J.res m M h [] K (fun r hr=>by rw[List.append_nil];exact hk r hr)
 rwa [List.append_nil]at this
omit T in
theorem JobX.step0 {jid:Nat} {e:Int} {D F:Nat->Prop} {St:Nat->Mem->Prop} {L:Nat} {RP:Nat->Res->Prop} (J:JobX tab jid e D F St L RP) {n:Nat} {M:Mem} (h:St n M) {k:Int} {K:PV->Mem->Prop} (h0:0<=k) (h1:k<=9223372036854775807)
  (hA:∀m M' b,n<=m->(m:Int)<=n+k->(b=true↔D m)->(b=false->(m:Int)=n+k)->(∀j,n<=j->j<m->¬D j/\¬F j)->St m M'->K (.tuple [.bool b,p64 0]) M')
  (hC:∀m M',n<=m->(m:Int)<n+k->(∀j,n<=j->j<m->¬D j/\¬F j)->F m->St m M'->K (.tuple [.bool false,p64 e]) M'):SemC tab 18 [.ptr jid 0 0,p64 k] M K:=by
 have:=J.step n M h [] k K h0 h1 (fun m M' b a1 a2 a3 a4 a5 a6=>by rw[List.append_nil];exact hA m M' b a1 a2 a3 a4 a5 a6) (fun m M' a1 a2 a3 a4 a5=>by rw[List.append_nil];exact hC m M' a1 a2 a3 a4 a5)
 rwa [List.append_nil]at this
theorem ET {jid wid:Nat} {ty:TypeId} {fu fl:FuncId} {e:Int} {D F:Nat->Prop} {lft:Nat->Bool} {St:Nat->Mem->Prop} {L:Nat} {RP:Nat->Res->Prop} (J:JobK tab jid wid ty fu fl e D F lft St) (he:e≠0)
  (hl:∀m,lft m=true↔¬D m) (hlen:∀m M,St m M->M.length=L) (hcut:∀m M,St m M->M.all (cL L)=true)
  (hres:∀m M,St m M->∀(K:PV->Mem->Prop),(∀r,RP m r->K r.pv M)->SemC tab 20 [.ptr jid 0 0] M K):JobX tab jid e D F St L RP where
 len:=hlen
 cut:=hcut
 job:=fun m M h=>by
  obtain⟨v,hv⟩:=J.job m M h
  exact⟨v,ty,wid,hv⟩
 sm:=J.sm
 step:=fun n M h S k K h0 h1 hA hC=>by
  have hL:=hlen n M h
  have hj:jid<L:=by
   obtain⟨v,hv⟩:=J.job n M h
   have:=cQ hv
   omega
  have t1:(M++S).take L=M:=List.take_left' hL
  have t2:(M++S).drop L=S:=List.drop_left' hL
  refine mJ (m:=L) (by rw[List.length_append];omega) (by simp[cE,PV.under,hj]) (by rw[t1];exact hcut n M h) ?_
  rw[t1,t2]
  refine aAl T J he h h0 h1 (fun m M' a1 a2 a3 a4=>?_) (fun m M' a1 a2 a3 a4 a5=>?_) (fun m M' a1 a2 a3 a4 a5=>?_)
  ·refine⟨by simp[cE,PV.under],hlen m M' a4,hcut m M' a4,hA m M' _ a1 (by omega) ?_ (fun _=>a2) a3 a4⟩
   have:=hl m
   cases hb:lft m
   ·rw[hb]at this
    simp at this
    simpa using this
   ·rw[hb]at this
    simp at this
    simpa using this
  ·exact⟨by simp[cE,PV.under],hlen m M' a5,hcut m M' a5,hA m M' true a1 (by omega) ⟨fun _=>a4,fun _=>rfl⟩ (fun q=>by cases q) a3 a5⟩
  ·exact⟨by simp[cE,PV.under],hlen m M' a5,hcut m M' a5,hC m M' a1 a2 a3 a4 a5⟩
 res:=fun m M h S K hk=>by
  have hL:=hlen m M h
  have hj:jid<L:=by
   obtain⟨v,hv⟩:=J.job m M h
   have:=cQ hv
   omega
  have t1:(M++S).take L=M:=List.take_left' hL
  have t2:(M++S).drop L=S:=List.drop_left' hL
  refine mJ (m:=L) (by rw[List.length_append];omega) (by simp[cE,PV.under,hj]) (by rw[t1];exact hcut m M h) ?_
  rw[t1,t2]
  exact hres m M h _ fun r hr=>⟨r.pv_under L,hL,hcut m M h,hk r hr⟩
def RpD (N:NF) (m:Nat) (r:Res):Prop:=r=⟨N.vs,rwK N m,fnK N m,gZ (stK N m),[],[]⟩/\m<=(stK N m).length/\(stK N m).length<=4096
def RpM (D:DF) (m:Nat) (r:Res):Prop:=r=⟨0,[],[],[],dX D m,[]⟩
def RpP (ow pr:List Int) (su:List (List Int)) (m:Nat) (r:Res):Prop:=∃ms,r=⟨0,[],[],[],[],ms⟩/\StOk (dS pr) ow.length ms/\Nf (dS pr) ms=itN ow.length (gL ow pr su) m
theorem IB {A:Mem} {N:NF} (hc:fZ N=0) (B:BnN N) (hA:A.all (cL A.length)=true):
  JobX tab (A.length+7) 10 (fun m=>(stK N m).length<=m) (fun m=>m<(stK N m).length/\4096<(stK N (m+1)).length) (StD A N) (A.length+8) (RpD N):=by
 have C:=lU hc
 have hcut:∀(f1 o1 f2 o2 f3 o3 f o:Bool) (q:Nat->Nat) (S:List (BitVec 64)) (rows:List (List Int)) (fins:List Bool) (v:Nat) (u:Int),(j9 A f1 o1 f2 o2 f3 o3 f o N q S rows fins v u).all (cL (A.length+8))=true:=fun f1 o1 f2 o2 f3 o3 f o q S rows fins v u=>by
  rw[<-IC,List.all_append,dV (by omega) (pE hA ..)]
  simp[cL,cE,PV.under]
 refine ET T (V5 T hc B hA) (by decide) (fun m=>by simp) ?_ ?_ ?_
 ·rintro m M ⟨_,f1,o1,f2,o2,f3,o3,f,o,q,v,rfl⟩
  simp[j9,gM]
 ·rintro m M ⟨_,f1,o1,f2,o2,f3,o3,f,o,q,v,rfl⟩
  exact hcut ..
 ·rintro m M ⟨⟨h1,h2⟩,f1,o1,f2,o2,f3,o3,f,o,q,v,rfl⟩ K hk
  have hrl:(rwK N m).length=m:=pM h1
  have hfl:=EY h1
  have hsl:(gZ (stK N m)).length=(stK N m).length:=by unfold gZ;rw[List.length_map]
  have hlet:dK N<=64:=C.let64
  refine aB6 T (w:=A.length+4) (i2:=A.length+2) (i5:=A.length+5) (i6:=A.length+6) (sets:=gZ (stK N m)) (rows:=rwK N m) (fins:=fnK N m) wO (by rw[hsl];unfold j9;rw[gk];rfl) (by unfold j9;rw[gk];rfl) (by unfold j9;rw[gk];rfl) (by unfold j9;rw[gk];rfl) ?_ ?_ ?_ ?_ ?_ ?_ (hk _ ⟨rfl,h1,h2⟩)
  ·rw[hsl];show _<1000000000000;omega
  ·intro r hr
   obtain⟨a,_,rfl⟩:=List.mem_map.1 hr
   have:=zS a
   simp only[EL,List.length_map]
   show _<1000000000000
   omega
  ·rw[hrl];show _<1000000000000;omega
  ·intro r hr
   obtain⟨a,_,rfl⟩:=List.mem_map.1 hr
   rw[GS]
   show _<1000000000000
   omega
  ·rw[hfl];show _<1000000000000;omega
  ·have:=hcut f1 o1 f2 o2 f3 o3 f o q (stK N m) (rwK N m) (fnK N m) v m
   rw[show(j9 A f1 o1 f2 o2 f3 o3 f o N q (stK N m) (rwK N m) (fnK N m) v m).length=A.length+8 by simp[j9,gM]]
   exact this
theorem IA {A:Mem} {D:DF} (hc:eY D=0) (B:BnD D) (h99:D.nx.length<=99) (hA:A.all (cL A.length)=true):
  JobX tab (A.length+1) 10 (fun m=>dX D (m+1)=dX D m) (fun _=>False) (StM A D) (A.length+2) (RpM D):=by
 have hcut:∀(f1 o1 f2 o2 f3 o3 f o:Bool) (v1 v2 k:Nat) (u:Int),(l7 A f1 o1 f2 o2 f3 o3 f o D v1 v2 k u).all (cL (A.length+2))=true:=fun f1 o1 f2 o2 f3 o3 f o v1 v2 k u=>by
  unfold l7
  rw[List.all_append,dV (by omega) hA]
  simp[cL,cE,PV.under,dO,eD,dI]
 refine ET T (V4 T hc B h99) (by decide) (fun m=>by simp) ?_ ?_ ?_
 ·rintro m M ⟨_,f1,o1,f2,o2,f3,o3,f,o,v1,v2,rfl⟩
  simp[l7]
 ·rintro m M ⟨_,f1,o1,f2,o2,f3,o3,f,o,v1,v2,rfl⟩
  exact hcut ..
 ·rintro m M ⟨_,f1,o1,f2,o2,f3,o3,f,o,v1,v2,rfl⟩ K hk
  refine aB5 T (w:=A.length) (cls:=dX D m) (by unfold l7;rw[gk];rfl) (by unfold l7;rw[gk0];rfl) (by rw[hH];exact B.n) ?_ (hk _ rfl)
  rw[show(l7 A f1 o1 f2 o2 f3 o3 f o D v1 v2 m m).length=A.length+2 by simp[l7]]
  exact hcut ..
theorem CQ {A:Mem} {ow pr:List Int} {su:List (List Int)} (hA:A.all (cL A.length)=true) (c1:eH ow pr su=0) (B:Bnd ow pr su) (h99:ow.length<=99):
  JobX tab (A.length+3) 10 (fun m=>uM ow.length (gL ow pr su) (itN ow.length (gL ow pr su) m)) (fun _=>False) (StP A ow pr su) (A.length+4) (RpP ow pr su):=by
 have hcut:∀(f1 o1 f2 o2 f3 o3 f4 o4:Bool) (ms:List Ms) (v1 v2 v3:Nat) (b:Bool) (u:Int),(jH A f1 o1 f2 o2 f3 o3 f4 o4 ow pr su ms v1 v2 v3 b u).all (cL (A.length+4))=true:=fun f1 o1 f2 o2 f3 o3 f4 o4 ms v1 v2 v3 b u=>by
  unfold jH
  rw[List.all_append,dV (by omega) hA]
  simp[cL,cE,PV.under,dO,dI,cA]
 refine ET T (RE T hA c1 B h99) (by decide) (fun m=>by unfold aAj;simp) ?_ ?_ ?_
 ·rintro m M ⟨_,f1,o1,f2,o2,f3,o3,f4,o4,ms,v1,v2,v3,b,_,_,_,rfl⟩
  simp[jH]
 ·rintro m M ⟨_,f1,o1,f2,o2,f3,o3,f4,o4,ms,v1,v2,v3,b,_,_,_,rfl⟩
  exact hcut ..
 ·rintro m M ⟨_,f1,o1,f2,o2,f3,o3,f4,o4,ms,v1,v2,v3,b,hS,hN,_,rfl⟩ K hk
  refine aB4 T (w:=A.length) (i2:=A.length+2) (ms:=ms) wN (by unfold jH;rw[gk0,hS.l];rfl) (by unfold jH;rw[gk];rfl) (by rw[hS.l];exact B.o) ?_ (hk _ ⟨ms,rfl,hS,hN⟩)
  rw[show(jH A f1 o1 f2 o2 f3 o3 f4 o4 ow pr su ms v1 v2 v3 b m).length=A.length+4 by simp[jH]]
  exact hcut ..
end
inductive In where
 | n (N:NF) | d (D:DF) | g (ow pr:List Int) (su:List (List Int))
def In.k:In->Int
 | .n _=>0 | .d _=>1 | .g .. =>2
def In.N:In->NF
 | .n N=>N | _=>⟨0,0,[],[],[]⟩
def In.D:In->DF
 | .d D=>D | _=>⟨0,0,[],[]⟩
def In.ow:In->List Int
 | .g ow _ _=>ow | _=>[]
def In.pr:In->List Int
 | .g _ pr _=>pr | _=>[]
def In.su:In->List (List Int)
 | .g _ _ su=>su | _=>[]
abbrev In.cs (f o:Bool) (i:In):List PV:=csC f o i.k i.N i.D i.ow i.pr i.su
theorem S6 {k a1 a2 d1 d2:PV} {st st' fi fi' es es' nx nx' df df' ow ow' pr pr' su su':PV} (h1:PvWk st st') (h2:PvWk fi fi') (h3:PvWk es es') (h4:PvWk nx nx') (h5:PvWk df df') (h6:PvWk ow ow') (h7:PvWk pr pr') (h8:PvWk su su'):
  PvWk (.agg [k,a1,a2,st,fi,es,d1,d2,nx,df,ow,pr,su]) (.agg [k,a1,a2,st',fi',es',d1,d2,nx',df',ow',pr',su']):=by
 refine PvWk.agg rfl fun i y z p q=>?_
 match i,p,q with
 | 0,p,q=>cases p;cases q;exact PvWk.refl _
 | 1,p,q=>cases p;cases q;exact PvWk.refl _
 | 2,p,q=>cases p;cases q;exact PvWk.refl _
 | 3,p,q=>cases p;cases q;exact h1
 | 4,p,q=>cases p;cases q;exact h2
 | 5,p,q=>cases p;cases q;exact h3
 | 6,p,q=>cases p;cases q;exact PvWk.refl _
 | 7,p,q=>cases p;cases q;exact PvWk.refl _
 | 8,p,q=>cases p;cases q;exact h4
 | 9,p,q=>cases p;cases q;exact h5
 | 10,p,q=>cases p;cases q;exact h6
 | 11,p,q=>cases p;cases q;exact h7
 | 12,p,q=>cases p;cases q;exact h8
 | i+13,p,q=>simp at p
def IM (k:Int) (N:NF) (D:DF) (ow pr:List Int) (su:List (List Int)):In:=
 if E1 k=0 then .n (aDM N) else if E1 k=1 then .d (E2 D) else .g (ow.take 4) (pr.take 4) (IL su)
def In.Bn:In->Prop
 | .n N=>BnN N
 | .d D=>BnD D/\D.nx.length<=99
 | .g ow pr su=>Bnd ow pr su/\ow.length<=99
def In.few:In->Prop
 | .n N=>N.n<=12
 | _=>True
def In.chk:In->Int
 | .n N=>fZ N
 | .d D=>eY D
 | .g ow pr su=>eH ow pr su
def In.done:In->Nat->Prop
 | .n N=>fun m=>(stK N m).length<=m
 | .d D=>fun m=>dX D (m+1)=dX D m
 | .g ow pr su=>fun m=>uM ow.length (gL ow pr su) (itN ow.length (gL ow pr su) m)
def In.fails:In->Nat->Prop
 | .n N=>fun m=>m<(stK N m).length/\4096<(stK N (m+1)).length
 | _=>fun _=>False
def In.rp:In->Nat->Res->Prop
 | .n N=>RpD N
 | .d D=>RpM D
 | .g ow pr su=>RpP ow pr su
theorem In.no_fail {i:In} (h0:i.chk=0) (h:i.few) (m:Nat):¬i.fails m:=by
 cases i with
 | n N=>
  rintro⟨_,h2⟩
  have h1:=aBS (lU h0) (m+1)
  have h3:N.n.toNat<=12:=by have:N.n<=12:=h;omega
  have h4:=Nat.pow_le_pow_right (n:=2) (by omega) h3
  omega
 | d D=>exact fun q=>q
 | g ow pr su=>exact fun q=>q
theorem NU (N:NF) (m:Nat):∀d,∃t,rwK N (m+d)=rwK N m++t
 | 0=>⟨[],by simp⟩
 | d+1=>by
  obtain⟨t,h⟩:=NU N m d
  show ∃t,rwK N (m+d+1)=_
  cases g:(stK N (m+d))[m+d]? with
  | some a=>
   refine⟨t++[AZ (dR N) (dK N) (fE (dR N) a (dK N) (stK N (m+d))) a],?_⟩
   rw[show rwK N (m+d+1)=_ from xS g,<-List.append_assoc,<-h]
  | none=>
   refine⟨t,?_⟩
   have hl:=List.getElem?_eq_none_iff.1 g
   have e1:=xT hl
   have e2:=nN hl
   have e3:(stK N (m+d+1)).length<=m+d+1:=by
    rw[show stK N (m+d+1)=stK N (m+d) from e2];omega
   have e4:=xT e3
   rw[show rwK N (m+d+1)=_ from e4,show f0 (dR N) (dK N) (fA N) (m+d+1)=_ from e2,<-e1]
   exact h
structure Grow (r q:Res):Prop where
 s:∀(i:Nat) x,r.sets[i]? =some x->q.sets[i]? =some x
 w:∀(i:Nat) x,r.rows[i]? =some x->q.rows[i]? =some x
 cl:q.cls.length=r.cls.length
 c:∀(i k:Nat) a b,r.cls[i]? =some a->r.cls[k]? =some b->q.cls[i]? =q.cls[k]? ->a=b
 ml:r.ms.length<=q.ms.length
 m:∀(i:Nat) x y,r.ms[i]? =some x->q.ms[i]? =some y->BF x y<=0
structure Res.Sm (r:Res):Prop where
 s:r.sets.length<big
 w:r.rows.length<big
 sr:∀x∈r.sets,x.length<big
 wr:∀x∈r.rows,x.length<big
 f:r.fins.length<big
 c:r.cls.length<big
 m:r.ms.length<big
theorem In.rp_sm {i:In} (h0:i.chk=0) (hB:i.Bn) {m:Nat} {r:Res} (h:i.rp m r):r.Sm:=by
 cases i with
 | n N=>
  obtain⟨rfl,h1,h2⟩:=h
  have C:=lU h0
  have hrl:(rwK N m).length=m:=pM h1
  have hfl:=EY h1
  have hsl:(gZ (stK N m)).length=(stK N m).length:=by unfold gZ;rw[List.length_map]
  have hlet:dK N<=64:=C.let64
  refine⟨?_,?_,?_,?_,?_,by show 0<1000000000000;omega,by show 0<1000000000000;omega⟩
  ·show(gZ (stK N m)).length<1000000000000;omega
  ·show(rwK N m).length<1000000000000;omega
  ·intro r hr
   obtain⟨a,_,rfl⟩:=List.mem_map.1 hr
   have:=zS a
   simp only[EL,List.length_map]
   show _<1000000000000
   omega
  ·intro r hr
   obtain⟨a,_,rfl⟩:=List.mem_map.1 hr
   rw[GS]
   show _<1000000000000
   omega
  ·show(fnK N m).length<1000000000000;omega
 | d D=>
  obtain rfl:=h
  have:(dX D m).length<big:=by rw[hH];exact hB.1.n
  exact⟨by show 0<1000000000000;omega,by show 0<1000000000000;omega,fun x hx=>absurd hx (by simp),fun x hx=>absurd hx (by simp),by show 0<1000000000000;omega,this,by show 0<1000000000000;omega⟩
 | g ow pr su=>
  obtain⟨ms,rfl,hS,hN⟩:=h
  have:ms.length<big:=by rw[hS.l];exact hB.1.o
  exact⟨by show 0<1000000000000;omega,by show 0<1000000000000;omega,fun x hx=>absurd hx (by simp),fun x hx=>absurd hx (by simp),by show 0<1000000000000;omega,by show 0<1000000000000;omega,this⟩
theorem OG {l:List Int} {i:Nat} {a:Int} (h:l[i]? =some a):l.getD i 0=a:=by simp[List.getD,h]
theorem In.grow {i:In} (h0:i.chk=0) {m d:Nat} {r q:Res} (hr:i.rp m r) (hq:i.rp (m+d) q):Grow r q:=by
 cases i with
 | n N=>
  obtain⟨rfl,h1,h2⟩:=hr
  obtain⟨rfl,h3,h4⟩:=hq
  obtain⟨t,ht⟩:=C6 (dR N) (dK N) (fA N) m d
  have hs:gZ (stK N (m+d))=gZ (stK N m)++gZ t:=by
   show gZ (f0 _ _ _ _)=_
   rw[ht];unfold gZ;rw[List.map_append]
  have hw:∃t2,rwK N (m+d)=rwK N m++t2:=NU N m d
  obtain⟨t2,ht2⟩:=hw
  refine⟨fun i x h=>?_,fun i x h=>?_,rfl,fun i k a b ha=>by simp at ha,Nat.le_refl _,fun i x y hx=>by simp at hx⟩
  ·show(gZ (stK N (m+d)))[i]? =_
   rw[hs];exact eV h _
  ·show(rwK N (m+d))[i]? =_
   rw[ht2];exact eV h _
 | d D=>
  have hr:r=⟨0,[],[],[],dX D m,[]⟩:=hr
  have hq:q=⟨0,[],[],[],dX D (m+d),[]⟩:=hq
  subst hr
  subst hq
  refine⟨fun i x h=>by simp at h,fun i x h=>by simp at h,by show(dX D (m+d)).length=(dX D m).length;rw[hH,hH],fun i k a b ha hb hh=>?_,Nat.le_refl _,fun i x y hx=>by simp at hx⟩
  have l1:i<D.nx.length:=by have:=cQ ha;rw[hH]at this;exact this
  have l2:k<D.nx.length:=by have:=cQ hb;rw[hH]at this;exact this
  have:=xU D m i k l1 l2 d (by unfold List.getD;rw[show(dX D (m+d))[i]? =(dX D (m+d))[k]? from hh])
  rw[OG ha,OG hb]at this
  exact this
 | g ow pr su=>
  obtain⟨ms,rfl,hS,hN⟩:=hr
  obtain⟨ms2,rfl,hS2,hN2⟩:=hq
  refine⟨fun i x h=>by simp at h,fun i x h=>by simp at h,rfl,fun i k a b ha=>by simp at ha,by show ms.length<=ms2.length;rw[hS.l,hS2.l];exact Nat.le_refl _,fun i x y hx hy=>?_⟩
  refine(E6 (hS.ok x (List.mem_of_getElem? hx)) (hS2.ok y (List.mem_of_getElem? hy))).2 ?_
  rw[<-s8 hx,<-s8 hy,hN,hN2]
  exact WC m i d
theorem aAq (k:Int) (N:NF) (D:DF) (ow pr:List Int) (su:List (List Int)) (hN:∀x∈N.es,(0<=x.ps/\x.ps<=255)/\(0<=x.ng/\x.ng<=255)):(IM k N D ow pr su).Bn/\(IM k N D ow pr su).few:=by
 have tk:∀{α:Type} (l:List α) (c:Nat),c<=65->(l.take c).length<big:=fun l c h=>by rw[List.length_take];show _<1000000000000;omega
 unfold IM
 split
 ·refine⟨⟨tk _ _ (by omega),tk _ _ (by omega),tk _ _ (by omega),fun x hx=>hN x (List.mem_of_mem_take hx)⟩,?_⟩
  show min N.n 5<=12
  omega
 ·split
  ·refine⟨⟨⟨?_,fun r hr=>?_,tk _ _ (by omega)⟩,?_⟩,trivial⟩
   ·unfold E2
    rw[List.length_map];exact tk _ _ (by omega)
   ·obtain⟨x,_,rfl⟩:=List.mem_map.1 hr
    exact tk _ _ (by omega)
   ·unfold E2
    rw[List.length_map,List.length_take];omega
  ·refine⟨⟨⟨tk _ _ (by omega),tk _ _ (by omega),?_,fun r hr=>?_⟩,?_⟩,trivial⟩
   ·unfold IL
    rw[List.length_map];exact tk _ _ (by omega)
   ·obtain⟨x,_,rfl⟩:=List.mem_map.1 hr
    exact tk _ _ (by omega)
   ·rw[List.length_take];omega
section
variable {tab:FuncId->Option AF} (T:HasA tab)
include T
theorem aDL {M:Mem} {K:PV->Mem->Prop} {k:Int} {N:NF} {D:DF} {ow pr:List Int} {su:List (List Int)}
  (hk:K (.agg ((IM k N D ow pr su).cs false true)) M):SemC tab 10 [.agg (csC false false k N D ow pr su)] M K:=by
 unfold IM at hk
 rcases LL k with h | h | h
 ·rw[if_pos h]at hk
  exact kI (aCF T h ⟨_,S6 (PvWk.refl _) (PvWk.refl _) (PvWk.refl _) (PvWk.nils _ _ _) (PvWk.nils _ _ _) (PvWk.nils _ _ _) (PvWk.nils _ _ _) (PvWk.nils _ _ _),hk⟩)
 ·rw[if_neg (by omega),if_pos h]at hk
  exact kI (aCE T h ⟨_,S6 (PvWk.nils _ _ _) (PvWk.nils _ _ _) (PvWk.nils _ _ _) (PvWk.refl _) (PvWk.refl _) (PvWk.nils _ _ _) (PvWk.nils _ _ _) (PvWk.nils _ _ _),hk⟩)
 ·rw[if_neg (by omega),if_neg (by omega)]at hk
  exact kI (aCD T h ⟨_,S6 (PvWk.nils _ _ _) (PvWk.nils _ _ _) (PvWk.nils _ _ _) (PvWk.nils _ _ _) (PvWk.nils _ _ _) (PvWk.refl _) (PvWk.refl _) (PvWk.refl _),hk⟩)
end
def nG (n:Nat):List UInt8:=dig 20 n
def v7 (n:Nat):ByteArray:=⟨(nG n).toArray⟩
theorem wT {n:Nat} (h:n<100000000000000000000):nG n=Lib.decDigits n:=zL 20 n (by omega) (by decide)
theorem NL {k:Nat} (h:k<256):(UInt8.ofNat k).toNat=k:=by simp;omega
def j5 (o:Option Nat) (b:UInt8):Option Nat:=match o with
 | none=>none
 | some n=>if 48<=b.toNat/\b.toNat<=57/\10*n+(b.toNat-48)<=2147483647 then some (10*n+(b.toNat-48)) else none
theorem qT:∀l:List UInt8,l.foldl j5 none=none
 | []=>rfl
 | b::l=>qT l
theorem tZ:∀(n:Nat),n<=2147483647->(Lib.decDigits n).foldl j5 (some 0)=some n:=by
 intro n
 induction n using Nat.strongRecOn with
 | ind n ih=>
  intro h
  rw[Lib.decDigits]
  by_cases hn:n<10
  ·rw[dif_pos hn]
   have e:=NL (k:=48+n) (by omega)
   show j5 (some 0) _=_
   unfold j5
   simp only[e]
   rw[if_pos (by omega)]
   congr 1
   omega
  ·rw[dif_neg hn,List.foldl_append,ih (n / 10) (by omega) (by omega)]
   have e:=NL (k:=48+n % 10) (by omega)
   show j5 (some (n / 10)) _=_
   unfold j5
   simp only[e]
   rw[if_pos (by omega)]
   congr 1
   omega
def vS (w:List UInt8):Option Nat:=match w.foldl j5 (some 0) with
 | some n=>if nG n=w then some n else none
 | none=>none
theorem zC:∀(l:List UInt8) (o:Option Nat) (n:Nat),(∀k,o=some k->k<=2147483647)->l.foldl j5 o=some n->n<=2147483647
 | [],o,n,h,e=>h n e
 | b::l,o,n,h,e=>zC l (j5 o b) n (fun k hk=>by
  unfold j5 at hk
  split at hk
  ·cases hk
  ·split at hk
   ·cases hk;omega
   ·cases hk) e
theorem tokN_some {w:List UInt8} {n:Nat} :vS w=some n↔n<=2147483647/\nG n=w:=by
 constructor
 ·intro h
  unfold vS at h
  split at h
  ·rename_i k hk
   split at h
   ·rename_i he
    cases h
    exact⟨zC w (some 0) _ (fun k hk=>by cases hk;omega) hk,he⟩
   ·cases h
  ·cases h
 ·rintro⟨h,rfl⟩
  unfold vS
  have e:=wT (n:=n) (by omega)
  rw[e,tZ n h]
  simp only
  rw[if_pos e]
theorem CZ:∀(n:Nat),∀b∈Lib.decDigits n,48<=b.toNat/\b.toNat<=57:=by
 intro n
 induction n using Nat.strongRecOn with
 | ind n ih=>
  intro b hb
  rw[Lib.decDigits]at hb
  by_cases hn:n<10
  ·rw[dif_pos hn]at hb
   have e:=NL (k:=48+n) (by omega)
   rw[List.mem_singleton]at hb
   subst hb
   omega
  ·rw[dif_neg hn,List.mem_append,List.mem_singleton]at hb
   rcases hb with hb | hb
   ·exact ih (n / 10) (by omega) b hb
   ·have e:=NL (k:=48+n % 10) (by omega)
    subst hb
    omega
theorem WT (n:Nat):Lib.decDigits n≠[]:=by
 rw[Lib.decDigits]
 by_cases hn:n<10
 ·rw[dif_pos hn];simp
 ·rw[dif_neg hn];simp
theorem B0 (c:UInt8):∀l,eA c l≠[]
 | []=>by simp[eA]
 | b::l=>by
  unfold eA
  split
  ·simp
  ·unfold sQ
   split<;>simp
def qF:List (List UInt8)->List UInt8
 | []=>[]
 | w::ws=>w++ws.flatMap fun x=>32::x
theorem H8:∀ws:List (List UInt8),Lib.join ws [32]=qF ws
 | []=>rfl
 | [w]=>by simp[Lib.join,qF]
 | w::v::ws=>by
  have:=H8 (v::ws)
  show w++([32]++Lib.join (v::ws) [32])=_
  rw[this]
  simp[qF]
theorem xJ:∀{w:List UInt8},(∀b∈w,b≠32)->eA 32 w=[w]
 | [],_=>rfl
 | b::w,h=>by
  unfold eA
  rw[if_neg (h b (by simp)),xJ fun x hx=>h x (by simp[hx])]
  rfl
theorem BZ:∀{w:List UInt8} (l:List UInt8),(∀b∈w,b≠32)->eA 32 (w++32::l)=w::eA 32 l
 | [],l,_=>by simp[eA]
 | b::w,l,h=>by
  show eA 32 (b::(w++32::l))=_
  rw[eA,if_neg (h b (by simp)),BZ l fun x hx=>h x (by simp[hx])]
  rfl
theorem xK:∀{ws:List (List UInt8)},ws≠[]->(∀w∈ws,∀b∈w,b≠32)->eA 32 (qF ws)=ws
 | [],h,_=>absurd rfl h
 | [w],_,h=>by
  show eA 32 (w++[])=_
  rw[List.append_nil];exact xJ (h w (by simp))
 | w::v::ws,_,h=>by
  show eA 32 (w++32::(v++_))=_
  rw[BZ _ (h w (by simp))]
  have:=xK (ws:=v::ws) (by simp) fun x hx=>h x (by simp[hx])
  exact congrArg (w:: ·) this
theorem H9 (b:UInt8):∀{ws:List (List UInt8)},ws≠[]->qF (sQ b ws)=b::qF ws
 | [],h=>absurd rfl h
 | w::ws,_=>rfl
theorem yU:∀l:List UInt8,qF (eA 32 l)=l
 | []=>rfl
 | b::l=>by
  have ih:=yU l
  have hn:=B0 32 l
  unfold eA
  by_cases h:b=32
  ·rw[if_pos h]
   subst h
   revert ih hn
   match eA 32 l with
   | []=>exact fun _ h=>absurd rfl h
   | w::ws=>
    intro ih _
    show []++(32::w++ws.flatMap _)=_
    rw[<-ih]
    rfl
  ·rw[if_neg h,H9 b hn,ih]
def vA:List (List UInt8)->Option (List Nat)
 | []=>some []
 | w::ws=>match vS w,vA ws with
  | some n,some ns=>some (n::ns)
  | _,_=>none
theorem numsT_some:∀{ws:List (List UInt8)} {ns:List Nat},vA ws=some ns↔ws=ns.map nG/\∀n∈ns,n<=2147483647
 | [],ns=>by
  constructor
  ·intro h;cases h;exact⟨rfl,fun n h=>by cases h⟩
  ·rintro⟨h,_⟩
   cases ns with
   | nil=>rfl
   | cons=>cases h
 | w::ws,ns=>by
  unfold vA
  constructor
  ·intro h
   split at h
   ·rename_i n ms h1 h2
    cases h
    obtain⟨a1,a2⟩:=tokN_some.1 h1
    obtain⟨b1,b2⟩:=numsT_some.1 h2
    refine⟨by rw[List.map_cons,a2,b1],fun x hx=>?_⟩
    rcases List.mem_cons.1 hx with rfl | hx
    ·exact a1
    ·exact b2 x hx
   ·cases h
  ·rintro⟨h1,h2⟩
   cases ns with
   | nil=>cases h1
   | cons n ms=>
    rw[List.map_cons]at h1
    cases h1
    rw[tokN_some.2 ⟨h2 n (by simp),rfl⟩,numsT_some.2 ⟨rfl,fun x hx=>h2 x (by simp[hx])⟩]
structure RS where
 l:List Nat
 e:Int
 late:Int
def RS.next (r:RS):Nat×RS:=match r.l with
 | []=>(0,⟨[],if r.e=0 then 3 else r.e,r.late⟩)
 | n::l=>(n,⟨l,r.e,r.late⟩)
def RS.small (lim:Nat) (r:RS):Nat×RS:=(min r.next.1 lim,⟨r.next.2.l,r.next.2.e,if lim<r.next.1 then 1 else r.next.2.late⟩)
def eP {σ:Type} (f:σ->RS->σ×RS):Nat->σ->RS->σ×RS
 | 0,s,r=>(s,r)
 | n+1,s,r=>if r.e=0 then eP f n (f s r).1 (f s r).2 else(s,r)
def RS.list (n:Nat) (r:RS):List Int×RS:=eP (fun out r=>(out++[(r.next.1:Int)],r.next.2)) n [] r
def RS.vars (r:RS):Nat×RS:=(r.next.1,⟨r.next.2.l,if 6<r.next.1 then 7 else r.next.2.e,r.next.2.late⟩)
def iK (r:RS):Eg×RS:=
 let a:=r.next;let b:=a.2.next;let c:=b.2.small 255;let d:=c.2.small 255
 (⟨a.1,b.1,c.1,d.1⟩,d.2)
def RS.nfa (r:RS):NF×RS:=
 let a:=r.vars;let b:=a.2.next;let c:=b.2.next;let d:=RS.list c.1 c.2;let e:=d.2.next;let f:=RS.list e.1 e.2;let g:=f.2.next
 let h:=eP (fun out r=>(out++[(iK r).1],(iK r).2)) g.1 [] g.2
 (⟨a.1,b.1,d.1,f.1,h.1⟩,h.2)
def RS.dfa (r:RS):DF×RS:=
 let a:=r.vars;let b:=a.2.next;let c:=b.2.next
 let d:=eP (fun out r=>(out++[(RS.list (2^(min a.1 6)) r).1],(RS.list (2^(min a.1 6)) r).2)) c.1 [] c.2
 let e:=eP (fun out r=>(out++[decide ((r.small 1).1=1)],(r.small 1).2)) c.1 [] d.2
 (⟨a.1,b.1,d.1,e.1⟩,e.2)
def RS.game (r:RS):(List Int×List Int×List (List Int))×RS:=
 let c:=r.next
 let d:=eP (fun out r=>(out++[((r.small 255).1:Int)],(r.small 255).2)) c.1 [] c.2
 let e:=eP (fun out r=>(out++[(r.next.1:Int)],r.next.2)) c.1 [] d.2
 let f:=eP (fun out r=>(out++[(RS.list r.next.1 r.next.2).1],(RS.list r.next.1 r.next.2).2)) c.1 [] e.2
 ((d.1,e.1,f.1),f.2)
def kwD:List UInt8:=[100,101,116,101,114,109,105,110,105,122,101]
def kwM:List UInt8:=[109,105,110,105,109,105,122,101]
def kwP:List UInt8:=[109,101,97,115,117,114,101,115]
def readK (k:List UInt8) (r:RS):In×RS:=
 if k=kwD then(.n r.nfa.1,r.nfa.2) else if k=kwM then(.d r.dfa.1,r.dfa.2) else(.g r.game.1.1 r.game.1.2.1 r.game.1.2.2,r.game.2)
def In.kw:In->List UInt8
 | .n _=>kwD | .d _=>kwM | .g .. =>kwP
inductive PR where
 | err (e:Int) | ok (i:In) (u:Nat)
def qN (k:List UInt8) (ns:List Nat):PR:=
 if(RS.next ⟨ns,0,0⟩).2.e≠0 then .err (RS.next ⟨ns,0,0⟩).2.e else
 if(readK k (RS.next ⟨ns,0,0⟩).2).2.e≠0 then .err (readK k (RS.next ⟨ns,0,0⟩).2).2.e else
 if(readK k (RS.next ⟨ns,0,0⟩).2).2.l≠[] then .err 5 else
 if(readK k (RS.next ⟨ns,0,0⟩).2).2.late≠0 then .err (readK k (RS.next ⟨ns,0,0⟩).2).2.late else
 .ok (readK k (RS.next ⟨ns,0,0⟩).2).1 (RS.next ⟨ns,0,0⟩).1
def eW (l:List UInt8):PR:=match eA 32 l with
 | []=> .err 6
 | k::ts=>if k=kwD\/k=kwM\/k=kwP then match vA ts with
  | none=> .err 2
  | some ns=>qN k ns
  else .err 6
def eX (l:List Int):List Int:=(l.length:Int)::l
def egN (e:Eg):List Int:=[e.fr,e.to,e.ps,e.ng]
def b2I (b:Bool):Int:=if b=true then 1 else 0
def In.nums:In->List Int
 | .n N=>[N.vs,N.n]++eX N.st++eX N.fi++(N.es.length:Int)::N.es.flatMap egN
 | .d D=>[D.vs,D.st,(D.nx.length:Int)]++D.nx.flatten++D.fi.map b2I
 | .g ow pr su=>(ow.length:Int)::ow++pr++su.flatMap eX
def In.txt (i:In) (u:Nat):List UInt8:=qF (i.kw::((u:Int)::i.nums).map fun n=>nG n.toNat)
def RS.li (r:RS):List Int:=r.l.map fun n:Nat=>(n:Int)
def Rd (r r':RS) (ns:List Int):Prop:=r'.e=0->r'.late=0->r.e=0/\r.late=0/\r.li=ns++r'.li
theorem Rd.refl (r:RS):Rd r r []:=fun h1 h2=>⟨h1,h2,rfl⟩
theorem Rd.trans {a b c:RS} {x y:List Int} (h:Rd a b x) (k:Rd b c y):Rd a c (x++y):=fun h1 h2=>by
 obtain⟨p1,p2,p3⟩:=k h1 h2
 obtain⟨q1,q2,q3⟩:=h p1 p2
 exact⟨q1,q2,by rw[q3,p3,List.append_assoc]⟩
theorem Rd.next (r:RS):Rd r r.next.2 [(r.next.1:Int)]:=by
 obtain⟨l,e,la⟩:=r
 cases l with
 | nil=>
  intro h1 h2
  simp only[RS.next]at h1
  split at h1
  ·cases h1
  ·contradiction
 | cons n l=>exact fun h1 h2=>⟨h1,h2,rfl⟩
theorem Rd.small (r:RS) (k:Nat):Rd r (r.small k).2 [((r.small k).1:Int)]:=by
 intro h1 h2
 unfold RS.small at h1 h2 ⊢
 simp only at h1 h2 ⊢
 split at h2
 ·cases h2
 ·rename_i hk
  have:=Rd.next r h1 h2
  rw[Nat.min_eq_left (by omega)]
  exact this
theorem Rd.vars (r:RS):Rd r r.vars.2 [(r.vars.1:Int)]:=by
 intro h1 h2
 unfold RS.vars at h1 h2 ⊢
 simp only at h1 h2 ⊢
 split at h1
 ·cases h1
 ·exact Rd.next r h1 h2
theorem Rd.each {σ:Type} {f:σ->RS->σ×RS} {g:σ->List Int} (hf:∀s r,∃ns,Rd r (f s r).2 ns/\g (f s r).1=g s++ns):∀(n:Nat) (s:σ) (r:RS),∃ns,Rd r (eP f n s r).2 ns/\g (eP f n s r).1=g s++ns
 | 0,s,r=>⟨[],Rd.refl r,by simp[eP]⟩
 | n+1,s,r=>by
  unfold eP
  by_cases h:r.e=0
  ·rw[if_pos h]
   obtain⟨x,p1,p2⟩:=hf s r
   obtain⟨y,q1,q2⟩:=Rd.each hf n (f s r).1 (f s r).2
   exact⟨x++y,p1.trans q1,by rw[q2,p2,List.append_assoc]⟩
  ·rw[if_neg h]
   exact⟨[],Rd.refl r,by simp⟩
theorem pD {σ:Type} {f:σ->RS->σ×RS} {len:σ->Nat} (hf:∀s r,len (f s r).1=len s+1):∀(n:Nat) (s:σ) (r:RS),(eP f n s r).2.e=0->len (eP f n s r).1=len s+n
 | 0,s,r,_=>rfl
 | n+1,s,r,h=>by
  unfold eP at h ⊢
  by_cases c:r.e=0
  ·rw[if_pos c]at h ⊢
   rw[pD hf n _ _ h,hf]
   omega
  ·rw[if_neg c]at h
   exact absurd h c
theorem Rd.list (n:Nat) (r:RS):Rd r (RS.list n r).2 (RS.list n r).1:=by
 obtain⟨ns,h1,h2⟩:=Rd.each (f:=fun out r=>(out++[(r.next.1:Int)],r.next.2)) (g:=fun l=>l) (fun s r=>⟨_,Rd.next r,rfl⟩) n [] r
 have:(RS.list n r).1=ns:=by
  show(eP _ n [] r).1=ns
  rw[h2];rfl
 rw[this];exact h1
theorem yP {n:Nat} {r:RS} (h:(RS.list n r).2.e=0):(RS.list n r).1.length=n:=by
 have:=pD (len:=fun l:List Int=>l.length) (f:=fun out r=>(out++[((RS.next r).1:Int)],(RS.next r).2)) (fun s r=>by simp) n [] r h
 have:(RS.list n r).1.length=0+n:=this
 omega
theorem Rd.edge (r:RS):Rd r (iK r).2 (egN (iK r).1):=by
 have h:=(((Rd.next r).trans (Rd.next r.next.2)).trans (Rd.small r.next.2.next.2 255)).trans (Rd.small (r.next.2.next.2.small 255).2 255)
 exact h
theorem Rd.nfa (r:RS):Rd r r.nfa.2 (In.n r.nfa.1).nums:=by
 intro e0 l0
 obtain⟨ns,h1,h2⟩:=Rd.each (f:=fun out r=>(out++[(iK r).1],(iK r).2)) (g:=fun l=>l.flatMap egN) (fun s r=>⟨_,Rd.edge r,by simp⟩) (RS.next (RS.list (RS.next (RS.list (RS.next (RS.next r.vars.2).2).1 (RS.next (RS.next r.vars.2).2).2).2).1 (RS.next (RS.list (RS.next (RS.next r.vars.2).2).1 (RS.next (RS.next r.vars.2).2).2).2).2).2).1 [] (RS.next (RS.list (RS.next (RS.list (RS.next (RS.next r.vars.2).2).1 (RS.next (RS.next r.vars.2).2).2).2).1 (RS.next (RS.list (RS.next (RS.next r.vars.2).2).1 (RS.next (RS.next r.vars.2).2).2).2).2).2).2
 have hl:=pD (len:=fun l:List Eg=>l.length) (f:=fun out r=>(out++[(iK r).1],(iK r).2)) (fun s r=>by simp) _ [] _ (show(eP (fun out r=>(out++[(iK r).1],(iK r).2)) (RS.next (RS.list (RS.next (RS.list (RS.next (RS.next r.vars.2).2).1 (RS.next (RS.next r.vars.2).2).2).2).1 (RS.next (RS.list (RS.next (RS.next r.vars.2).2).1 (RS.next (RS.next r.vars.2).2).2).2).2).2).1 [] (RS.next (RS.list (RS.next (RS.list (RS.next (RS.next r.vars.2).2).1 (RS.next (RS.next r.vars.2).2).2).2).1 (RS.next (RS.list (RS.next (RS.next r.vars.2).2).1 (RS.next (RS.next r.vars.2).2).2).2).2).2).2).2.e=0 from e0)
 have s1:=Rd.vars r
 have s2:=Rd.next r.vars.2
 have s3:=Rd.next (RS.next r.vars.2).2
 have s4:=Rd.list (RS.next (RS.next r.vars.2).2).1 (RS.next (RS.next r.vars.2).2).2
 have s5:=Rd.next (RS.list (RS.next (RS.next r.vars.2).2).1 (RS.next (RS.next r.vars.2).2).2).2
 have s6:=Rd.list (RS.next (RS.list (RS.next (RS.next r.vars.2).2).1 (RS.next (RS.next r.vars.2).2).2).2).1 (RS.next (RS.list (RS.next (RS.next r.vars.2).2).1 (RS.next (RS.next r.vars.2).2).2).2).2
 have s7:=Rd.next (RS.list (RS.next (RS.list (RS.next (RS.next r.vars.2).2).1 (RS.next (RS.next r.vars.2).2).2).2).1 (RS.next (RS.list (RS.next (RS.next r.vars.2).2).1 (RS.next (RS.next r.vars.2).2).2).2).2).2
 have k7:=(s7.trans h1) e0 l0
 have k6:=(s6.trans (s7.trans h1)) e0 l0
 have l6:=yP (s7.trans h1 e0 l0).1
 have l4:=yP ((s5.trans (s6.trans (s7.trans h1))) e0 l0).1
 have:=(s1.trans (s2.trans (s3.trans (s4.trans (s5.trans (s6.trans (s7.trans h1))))))) e0 l0
 refine⟨this.1,this.2.1,?_⟩
 rw[this.2.2]
 have e1:(In.n r.nfa.1).nums=[(r.vars.1:Int),((RS.next r.vars.2).1:Int)]++eX (RS.list (RS.next (RS.next r.vars.2).2).1 (RS.next (RS.next r.vars.2).2).2).1++eX (RS.list (RS.next (RS.list (RS.next (RS.next r.vars.2).2).1 (RS.next (RS.next r.vars.2).2).2).2).1 (RS.next (RS.list (RS.next (RS.next r.vars.2).2).1 (RS.next (RS.next r.vars.2).2).2).2).2).1++(r.nfa.1.es.length:Int)::r.nfa.1.es.flatMap egN:=rfl
 rw[e1]
 have e2:r.nfa.1.es.flatMap egN=ns:=by rw[show r.nfa.1.es=_ from rfl];exact h2
 have e3:r.nfa.1.es.length=(RS.next (RS.list (RS.next (RS.list (RS.next (RS.next r.vars.2).2).1 (RS.next (RS.next r.vars.2).2).2).2).1 (RS.next (RS.list (RS.next (RS.next r.vars.2).2).1 (RS.next (RS.next r.vars.2).2).2).2).2).2).1:=by
  have:r.nfa.1.es.length=0+_:=hl
  rw[this,Nat.zero_add]
 rw[e2,e3]
 unfold eX
 rw[l6,l4]
 simp only[List.cons_append,List.nil_append,List.append_assoc]
 rfl
theorem Rd.dfa (r:RS):Rd r r.dfa.2 (In.d r.dfa.1).nums:=by
 intro e0 l0
 obtain⟨n1,h1,h2⟩:=Rd.each (f:=fun out r'=>(out++[(RS.list (2^(min r.vars.1 6)) r').1],(RS.list (2^(min r.vars.1 6)) r').2)) (g:=fun l=>l.flatten) (fun s r=>⟨_,Rd.list _ r,by simp⟩) (RS.next (RS.next r.vars.2).2).1 [] (RS.next (RS.next r.vars.2).2).2
 obtain⟨n2,h3,h4⟩:=Rd.each (f:=fun out r=>(out++[decide ((RS.small 1 r).1=1)],(RS.small 1 r).2)) (g:=fun l:List Bool=>l.map b2I) (fun s r=>⟨_,Rd.small r 1,by
  have:(RS.small 1 r).1<=1:=by unfold RS.small;simp only;omega
  simp only[List.map_append,List.map_cons,List.map_nil,b2I,decide_eq_true_eq]
  congr 2
  split<;>omega⟩) (RS.next (RS.next r.vars.2).2).1 [] (eP (fun out r'=>(out++[(RS.list (2^(min r.vars.1 6)) r').1],(RS.list (2^(min r.vars.1 6)) r').2)) (RS.next (RS.next r.vars.2).2).1 [] (RS.next (RS.next r.vars.2).2).2).2
 have s1:=Rd.vars r
 have s2:=Rd.next r.vars.2
 have s3:=Rd.next (RS.next r.vars.2).2
 have k:=h3 e0 l0
 have hl:=pD (len:=fun l:List (List Int)=>l.length) (f:=fun out r'=>(out++[(RS.list (2^(min r.vars.1 6)) r').1],(RS.list (2^(min r.vars.1 6)) r').2)) (fun s r=>by simp) _ [] _ k.1
 have:=(s1.trans (s2.trans (s3.trans (h1.trans h3)))) e0 l0
 refine⟨this.1,this.2.1,?_⟩
 rw[this.2.2]
 have e1:(In.d r.dfa.1).nums=[(r.vars.1:Int),((RS.next r.vars.2).1:Int),(r.dfa.1.nx.length:Int)]++r.dfa.1.nx.flatten++r.dfa.1.fi.map b2I:=rfl
 rw[e1]
 have e2:r.dfa.1.nx.flatten=n1:=h2
 have e3:r.dfa.1.fi.map b2I=n2:=h4
 have e4:r.dfa.1.nx.length=(RS.next (RS.next r.vars.2).2).1:=by
  have:r.dfa.1.nx.length=0+_:=hl
  rw[this,Nat.zero_add]
 rw[e2,e3,e4]
 simp only[List.cons_append,List.nil_append,List.append_assoc]
 rfl
theorem Rd.game (r:RS):Rd r r.game.2 (In.g r.game.1.1 r.game.1.2.1 r.game.1.2.2).nums:=by
 intro e0 l0
 obtain⟨n1,h1,h2⟩:=Rd.each (f:=fun out r=>(out++[((RS.small 255 r).1:Int)],(RS.small 255 r).2)) (g:=fun l=>l) (fun s r=>⟨_,Rd.small r 255,rfl⟩) r.next.1 [] r.next.2
 obtain⟨n2,h3,h4⟩:=Rd.each (f:=fun out r=>(out++[((RS.next r).1:Int)],(RS.next r).2)) (g:=fun l=>l) (fun s r=>⟨_,Rd.next r,rfl⟩) r.next.1 [] (eP (fun out r=>(out++[((RS.small 255 r).1:Int)],(RS.small 255 r).2)) r.next.1 [] r.next.2).2
 have hrow:∀(r:RS),(RS.list r.next.1 r.next.2).2.e=0->(RS.list r.next.1 r.next.2).1.length=r.next.1:=fun r h=>yP h
 have h5:∀(n:Nat) (s:List (List Int)) (r:RS),(eP (fun out r=>(out++[(RS.list (RS.next r).1 (RS.next r).2).1],(RS.list (RS.next r).1 (RS.next r).2).2)) n s r).2.e=0->(eP (fun out r=>(out++[(RS.list (RS.next r).1 (RS.next r).2).1],(RS.list (RS.next r).1 (RS.next r).2).2)) n s r).2.late=0->
   r.e=0/\r.late=0/\∃ns,r.li=ns++(eP (fun out r=>(out++[(RS.list (RS.next r).1 (RS.next r).2).1],(RS.list (RS.next r).1 (RS.next r).2).2)) n s r).2.li/\(eP (fun out r=>(out++[(RS.list (RS.next r).1 (RS.next r).2).1],(RS.list (RS.next r).1 (RS.next r).2).2)) n s r).1.flatMap eX=s.flatMap eX++ns:=by
  intro n
  induction n with
  | zero=>exact fun s r a b=>⟨a,b,[],rfl,by simp[eP]⟩
  | succ n ih=>
   intro s r a b
   unfold eP at a b ⊢
   by_cases c:r.e=0
   ·rw[if_pos c]at a b ⊢
    obtain⟨p1,p2,ns,p3,p4⟩:=ih _ _ a b
    obtain⟨q1,q2,q3⟩:=(Rd.next r).trans (Rd.list r.next.1 r.next.2) p1 p2
    refine⟨q1,q2,([((RS.next r).1:Int)]++(RS.list r.next.1 r.next.2).1)++ns,by rw[q3,show(RS.list r.next.1 r.next.2).2.li=_ from p3];simp only[List.append_assoc],?_⟩
    rw[p4]
    simp only[List.flatMap_append,List.flatMap_cons,List.flatMap_nil,List.append_nil,eX,hrow r p1,List.append_assoc]
    rfl
   ·rw[if_neg c]at a
    exact absurd a c
 obtain⟨k1,k2,n3,k3,k4⟩:=h5 _ _ _ e0 l0
 have g3:=h3 k1 k2
 have hl:=pD (len:=fun l:List Int=>l.length) (f:=fun out r=>(out++[((RS.small 255 r).1:Int)],(RS.small 255 r).2)) (fun s r=>by simp) _ [] _ g3.1
 have:=((Rd.next r).trans (h1.trans h3)) k1 k2
 refine⟨this.1,this.2.1,?_⟩
 rw[this.2.2,k3]
 have e1:(In.g r.game.1.1 r.game.1.2.1 r.game.1.2.2).nums=(r.game.1.1.length:Int)::r.game.1.1++r.game.1.2.1++r.game.1.2.2.flatMap eX:=rfl
 rw[e1]
 have e2:r.game.1.1=n1:=h2
 have e3:r.game.1.2.1=n2:=h4
 have e4:r.game.1.2.2.flatMap eX=n3:=k4
 have e5:r.game.1.1.length=r.next.1:=by
  have:r.game.1.1.length=0+_:=hl
  rw[this,Nat.zero_add]
 rw[e5,e2,e3,e4]
 simp only[List.cons_append,List.nil_append,List.append_assoc]
 rfl
theorem UB {k:List UInt8} (hk:k=kwD\/k=kwM\/k=kwP) (r:RS):(readK k r).1.kw=k:=by
 have d1:kwM≠kwD:=by decide
 have d2:kwP≠kwD:=by decide
 have d3:kwP≠kwM:=by decide
 rcases hk with rfl | rfl | rfl
 ·unfold readK;rw[if_pos rfl];rfl
 ·unfold readK;rw[if_neg d1,if_pos rfl];rfl
 ·unfold readK;rw[if_neg d2,if_neg d3];rfl
theorem Rd.readK (k:List UInt8) (r:RS):Rd r (readK k r).2 (readK k r).1.nums:=by
 unfold Ar.readK
 split
 ·exact Rd.nfa r
 ·split
  ·exact Rd.dfa r
  ·exact Rd.game r
theorem K4 {l:List UInt8} {i:In} {u:Nat} (h:eW l= .ok i u):i.txt u=l/\u<=2147483647:=by
 unfold eW at h
 split at h
 ·cases h
 ·rename_i k ts hs
  split at h
  ·rename_i hk
   split at h
   ·cases h
   ·rename_i ns hn
    obtain⟨a1,a2⟩:=numsT_some.1 hn
    unfold qN at h
    split at h
    ·cases h
    ·rename_i c1
     split at h
     ·cases h
     ·rename_i c2
      split at h
      ·cases h
      ·rename_i c3
       split at h
       ·cases h
       ·rename_i c4
        have d1:=Classical.not_not.1 c1
        have d2:=Classical.not_not.1 c2
        have d3:=Classical.not_not.1 c3
        have d4:=Classical.not_not.1 c4
        obtain⟨b1,b2,b3⟩:=(Rd.next ⟨ns,0,0⟩).trans (Rd.readK k (RS.next ⟨ns,0,0⟩).2) d2 d4
        injection h with h1 h2
        have hkw:=UB hk (RS.next ⟨ns,0,0⟩).2
        rw[h1]at hkw b3
        rw[h2]at b3
        have b4:(Ar.readK k (RS.next ⟨ns,0,0⟩).2).2.li=[]:=by unfold RS.li;rw[d3];rfl
        rw[b4,List.append_nil]at b3
        have b5:(u:Int)::i.nums=ns.map fun n:Nat=>(n:Int):=b3.symm
        constructor
        ·unfold In.txt
         rw[b5,List.map_map,hkw]
         have:(ns.map ((fun n:Int=>nG n.toNat)∘fun n:Nat=>(n:Int)))=ts:=by
          rw[a1];exact List.map_congr_left fun x _=>by simp
         rw[this,<-hs]
         exact yU l
        ·cases ns with
         | nil=>simp at b5
         | cons n ns=>
          simp only[List.map_cons,List.cons.injEq]at b5
          have:=a2 n (by simp)
          omega
  ·cases h
theorem sD (n:Nat) (l:List Nat):RS.next ⟨n::l,0,0⟩=(n,⟨l,0,0⟩):=rfl
theorem GJ {n k:Nat} (h:n<=k) (l:List Nat):RS.small k ⟨n::l,0,0⟩=(n,⟨l,0,0⟩):=by
 unfold RS.small
 rw[sD]
 simp only
 rw[if_neg (by omega),Nat.min_eq_left h]
theorem aBr {n:Nat} (h:n<=6) (l:List Nat):RS.vars ⟨n::l,0,0⟩=(n,⟨l,0,0⟩):=by
 unfold RS.vars
 rw[sD]
 simp only
 rw[if_neg (by omega)]
abbrev tn (l:List Int):List Nat:=l.map Int.toNat
theorem mH {α:Type} {f:List α->RS->List α×RS} {enc:α->List Int} :∀(xs:List α) (s:List α) (rest:List Nat),(∀x∈xs,∀s rest,f s ⟨tn (enc x)++rest,0,0⟩=(s++[x],⟨rest,0,0⟩))->
  eP f xs.length s ⟨tn (xs.flatMap enc)++rest,0,0⟩=(s++xs,⟨rest,0,0⟩)
 | [],s,rest,h=>by simp[eP]
 | x::xs,s,rest,h=>by
  rw[List.length_cons]
  unfold eP
  rw[if_pos rfl]
  have e:tn ((x::xs).flatMap enc)++rest=tn (enc x)++(tn (xs.flatMap enc)++rest):=by simp
  rw[e,h x (by simp)]
  simp only
  rw[mH xs _ rest fun y hy=>h y (by simp[hy])]
  simp
theorem N7 {xs:List Int} (h:∀x∈xs,0<=x) (rest:List Nat):RS.list xs.length ⟨tn xs++rest,0,0⟩=(xs,⟨rest,0,0⟩):=by
 have:=mH (f:=fun out r=>(out++[((RS.next r).1:Int)],(RS.next r).2)) (enc:=fun x:Int=>[x]) xs [] rest (fun x hx s rest=>by
  have e:=h x hx
  show(s++[((x.toNat:Nat):Int)],_)=_
  rw[Int.toNat_of_nonneg e];rfl)
 simpa [RS.list] using this
theorem aDO {x:Eg} (h1:0<=x.fr) (h2:0<=x.to) (h3:0<=x.ps/\x.ps<=255) (h4:0<=x.ng/\x.ng<=255) (rest:List Nat):iK ⟨tn (egN x)++rest,0,0⟩=(x,⟨rest,0,0⟩):=by
 unfold iK egN
 simp only[List.map_cons,List.map_nil,List.cons_append,List.nil_append,sD,GJ (show x.ps.toNat<=255 by omega),GJ (show x.ng.toNat<=255 by omega)]
 have e1:=Int.toNat_of_nonneg h1
 have e2:=Int.toNat_of_nonneg h2
 have e3:=Int.toNat_of_nonneg h3.1
 have e4:=Int.toNat_of_nonneg h4.1
 rw[e1,e2,e3,e4]
def In.Pos:In->Prop
 | .g ow _ _=>∀x∈ow,0<=x
 | _=>True
theorem D9 {n:Int} {l:List Int} (h:iU n (-1) l=true):∀x∈l,0<=x/\x<n:=fun x hx=>by
 have:=lS h x hx
 omega
theorem aCf {N:NF} (C:NOk N) (B:BnN N):RS.nfa ⟨tn (In.n N).nums,0,0⟩=(N,⟨[],0,0⟩):=by
 have v0:=C.v0;have v6:=C.v6;have n0:=C.n0
 have q1:=fun rest=>N7 (xs:=N.st) (fun x hx=>(D9 C.st x hx).1) rest
 have q2:=fun rest=>N7 (xs:=N.fi) (fun x hx=>(D9 C.fi x hx).1) rest
 have q3:=mH (f:=fun out r=>(out++[(iK r).1],(iK r).2)) (enc:=egN) N.es [] [] (fun x hx s rest=>by
  obtain⟨e1,_,e3,_,_⟩:=C.ed x hx
  obtain⟨b1,b2⟩:=B.b x hx
  show(s++[(iK _).1],(iK _).2)=_
  rw[aDO e1 e3 b1 b2])
 rw[List.append_nil]at q3
 unfold RS.nfa In.nums eX
 simp only[List.map_cons,List.map_nil,List.map_append,List.cons_append,List.nil_append,List.append_assoc,aBr (show N.vs.toNat<=6 by omega),sD,Int.toNat_natCast]
 rw[q1]
 simp only[sD]
 rw[q2]
 simp only[sD]
 rw[q3]
 rw[Int.toNat_of_nonneg v0,Int.toNat_of_nonneg n0]
 rfl
theorem aCH {D:DF} (C:OkD D):RS.dfa ⟨tn (In.d D).nums,0,0⟩=(D,⟨[],0,0⟩):=by
 have v0:=C.v0;have v6:=C.v6;have n0:=C.s0
 have q1:=fun rest=>mH (f:=fun out r=>(out++[(RS.list (2^(min D.vs.toNat 6)) r).1],(RS.list (2^(min D.vs.toNat 6)) r).2)) (enc:=fun x:List Int=>x) D.nx [] rest (fun x hx s rest=>by
  obtain⟨r1,r2⟩:=C.r x hx
  have e:2^(min D.vs.toNat 6)=x.length:=by
   rw[Nat.min_eq_left (by omega)]
   have:((2^D.vs.toNat:Nat):Int)=x.length:=by rw[r1];simp
   omega
  show(s++[(RS.list _ _).1],(RS.list _ _).2)=_
  rw[e,N7 (fun t ht=>(r2 t ht).1)])
 have q2:=mH (f:=fun out r=>(out++[decide ((RS.small 1 r).1=1)],(RS.small 1 r).2)) (enc:=fun b:Bool=>[b2I b]) D.fi [] [] (fun x hx s rest=>by
  cases x
  ·show(s++[decide ((RS.small 1 ⟨0::rest,0,0⟩).1=1)],(RS.small 1 ⟨0::rest,0,0⟩).2)=_
   rw[GJ (by omega)];rfl
  ·show(s++[decide ((RS.small 1 ⟨1::rest,0,0⟩).1=1)],(RS.small 1 ⟨1::rest,0,0⟩).2)=_
   rw[GJ (by omega)];rfl)
 rw[List.append_nil,C.f]at q2
 unfold RS.dfa In.nums
 simp only[List.map_cons,List.map_nil,List.map_append,List.cons_append,List.nil_append,List.append_assoc,aBr (show D.vs.toNat<=6 by omega),sD,Int.toNat_natCast]
 have e1:(D.nx.flatten)=D.nx.flatMap fun x=>x:=by simp[List.flatMap]
 have e2:D.fi.map b2I=D.fi.flatMap fun b=>[b2I b]:=by
  induction D.fi with
  | nil=>rfl
  | cons b l ih=>simp[ih]
 rw[e1,q1]
 simp only
 rw[e2,q2,Int.toNat_of_nonneg v0,Int.toNat_of_nonneg n0]
 rfl
theorem aAp {ow pr:List Int} {su:List (List Int)} (V:Valid ow pr su) (hp:∀x∈ow,0<=x):RS.game ⟨tn (In.g ow pr su).nums,0,0⟩=((ow,pr,su),⟨[],0,0⟩):=by
 have hrow:∀i,(hi:i<ow.length)->0<=pr.getD i 0/\ow.getD i 0<=1/\∀x,su[i]? =some x->∀t∈x,0<=t:=fun i hi=>by
  have hs:=V.s
  obtain⟨a,b,c,d,e⟩:=V.row i (by omega)
  refine⟨a,c,fun x hx t ht=>?_⟩
  rw[List.getElem?_eq_getElem (by omega)]at hx
  cases hx
  exact(D9 e t ht).1
 have ow1:∀x∈ow,x<=1:=fun x hx=>by
  obtain⟨i,hi⟩:=List.mem_iff_getElem?.1 hx
  have hl:=cQ hi
  have:=(hrow i hl).2.1
  rw[List.getD,hi]at this
  exact this
 have pr0:∀x∈pr,0<=x:=fun x hx=>by
  obtain⟨i,hi⟩:=List.mem_iff_getElem?.1 hx
  have hl:=cQ hi
  have hp:=V.p
  have:=(hrow i (by omega)).1
  rw[List.getD,hi]at this
  exact this
 have su0:∀x∈su,∀t∈x,0<=t:=fun x hx=>by
  obtain⟨i,hi⟩:=List.mem_iff_getElem?.1 hx
  have hl:=cQ hi
  have hs:=V.s
  exact(hrow i (by omega)).2.2 x hi
 have q1:=fun rest=>mH (f:=fun out r=>(out++[((RS.small 255 r).1:Int)],(RS.small 255 r).2)) (enc:=fun x:Int=>[x]) ow [] rest (fun x hx s rest=>by
  have a:=ow1 x hx
  have b:=hp x hx
  show(s++[((RS.small 255 ⟨x.toNat::rest,0,0⟩).1:Int)],(RS.small 255 ⟨x.toNat::rest,0,0⟩).2)=_
  rw[GJ (by omega)]
  simp only
  rw[Int.toNat_of_nonneg b])
 have q2:=fun rest=>mH (f:=fun out r=>(out++[((RS.next r).1:Int)],(RS.next r).2)) (enc:=fun x:Int=>[x]) pr [] rest (fun x hx s rest=>by
  have b:=pr0 x hx
  show(s++[((x.toNat:Nat):Int)],_)=_
  rw[Int.toNat_of_nonneg b];rfl)
 have q3:=mH (f:=fun out r=>(out++[(RS.list (RS.next r).1 (RS.next r).2).1],(RS.list (RS.next r).1 (RS.next r).2).2)) (enc:=eX) su [] [] (fun x hx s rest=>by
  show(s++[(RS.list x.length ⟨tn x++rest,0,0⟩).1],(RS.list x.length ⟨tn x++rest,0,0⟩).2)=_
  rw[N7 (su0 x hx)])
 have hfm:∀l:List Int,l.flatMap (fun x=>[x])=l:=fun l=>by
  induction l with
  | nil=>rfl
  | cons b l ih=>simp[ih]
 rw[List.append_nil,V.s]at q3
 have q2:=fun rest=>q2 rest
 rw[hfm,V.p]at q2
 rw[hfm]at q1
 unfold RS.game In.nums
 simp only[List.map_cons,List.map_append,List.cons_append,List.append_assoc,sD,Int.toNat_natCast]
 rw[q1]
 simp only
 rw[q2]
 simp only
 rw[q3]
 rfl
def lY (n:Int):Prop:=0<=n/\n<=2147483647
theorem jR {n:Int} (hn:0<=n) {l:List Int} (h:iU n (-1) l=true):(l.length:Int)<=n:=by
 obtain⟨h1,h2⟩:=lJ h
 have key:∀(l:List Int) (a:Int),l.Pairwise (· < ·)->(∀x∈l,a<x/\x<n)->(l.length:Int)<=max 0 (n-a-1):=by
  intro l
  induction l with
  | nil=>intro a _ _;simp;omega
  | cons x l ih=>
   intro a hp hx
   have h1:=List.pairwise_cons.1 hp
   have h2:=ih x h1.2 fun z hz=>⟨h1.1 z hz,(hx z (by simp[hz])).2⟩
   have h3:=hx x (by simp)
   rw[List.length_cons];omega
 have:=key l (-1) h1 h2
 omega
theorem DY {n:Int} (h0:0<=n) (hn:n<=5000) {l:List Int} (h:iU n (-1) l=true):∀x∈eX l,lY x:=fun x hx=>by
 have h1:=jR h0 h
 rcases List.mem_cons.1 hx with rfl | hx
 ·exact⟨by omega,by omega⟩
 ·have:=D9 h x hx
  exact⟨by omega,by omega⟩
theorem w8 {ow pr:List Int} {su:List (List Int)} (V:Valid ow pr su):(∀x∈ow,x<=1)/\(∀x∈pr,0<=x/\x<=16)/\∀x∈su,iU ow.length (-1) x=true:=by
 have hs:=V.s
 have hp:=V.p
 refine⟨fun x hx=>?_,fun x hx=>?_,fun x hx=>?_⟩
 ·obtain⟨i,hi⟩:=List.mem_iff_getElem?.1 hx
  have hl:=cQ hi
  have:=(V.row i (by omega)).2.2.1
  rw[List.getD,hi]at this
  exact this
 ·obtain⟨i,hi⟩:=List.mem_iff_getElem?.1 hx
  have hl:=cQ hi
  have:=V.row i (by omega)
  rw[List.getD,hi]at this
  exact⟨this.1,this.2.1⟩
 ·obtain⟨i,hi⟩:=List.mem_iff_getElem?.1 hx
  have hl:=cQ hi
  have:=(V.row i (by omega)).2.2.2.2
  rw[List.getElem?_eq_getElem (by omega)]at hi
  cases hi
  exact this
theorem In.nums_sm {i:In} (h0:i.chk=0) (hB:i.Bn) (hp:i.Pos):∀x∈i.nums,lY x:=by
 cases i with
 | n N=>
  have C:=lU h0
  have v0:=C.v0;have v6:=C.v6;have n0:=C.n0;have n64:=C.n64;have e5:=C.e512
  intro x hx
  unfold In.nums at hx
  simp only[List.mem_append,List.mem_cons,List.not_mem_nil,or_false,List.mem_flatMap]at hx
  rcases hx with(((rfl | rfl) | hx) | hx) | rfl | ⟨e,he,hx⟩
  ·exact⟨by omega,by omega⟩
  ·exact⟨by omega,by omega⟩
  ·exact DY n0 (by omega) C.st x hx
  ·exact DY n0 (by omega) C.fi x hx
  ·exact⟨by omega,by omega⟩
  ·obtain⟨e1,e2,e3,e4,_⟩:=C.ed e he
   obtain⟨b1,b2⟩:=hB.b e he
   unfold egN at hx
   simp only[List.mem_cons,List.not_mem_nil,or_false]at hx
   rcases hx with rfl | rfl | rfl | rfl<;>exact⟨by omega,by omega⟩
 | d D=>
  have C:=okD_iff.1 h0
  have v0:=C.v0;have v6:=C.v6;have n0:=C.n0;have n1:=C.n1;have s0:=C.s0;have s1:=C.s1
  intro x hx
  unfold In.nums at hx
  simp only[List.mem_append,List.mem_cons,List.not_mem_nil,or_false,List.mem_flatten,List.mem_map]at hx
  rcases hx with((rfl | rfl | rfl) | ⟨r,hr,hx⟩) | ⟨b,_,rfl⟩
  ·exact⟨by omega,by omega⟩
  ·exact⟨by omega,by omega⟩
  ·exact⟨by omega,by omega⟩
  ·have:=(C.r r hr).2 x hx
   exact⟨by omega,by omega⟩
  ·unfold b2I
   split<;>exact⟨by omega,by omega⟩
 | g ow pr su=>
  have V:=gX h0
  have n1:=V.n1
  obtain⟨a1,a2,a3⟩:=w8 V
  intro x hx
  unfold In.nums at hx
  simp only[List.mem_append,List.mem_cons,List.mem_flatMap]at hx
  rcases hx with((rfl | hx) | hx) | ⟨r,hr,hx⟩
  ·exact⟨by omega,by omega⟩
  ·have:=a1 x hx
   have:=hp x hx
   exact⟨by omega,by omega⟩
  ·have:=a2 x hx
   exact⟨by omega,by omega⟩
  ·exact DY (n:=ow.length) (by omega) (by omega) (a3 r hr) x hx
theorem In.rd {i:In} (h0:i.chk=0) (hB:i.Bn) (hp:i.Pos):readK i.kw ⟨tn i.nums,0,0⟩=(i,⟨[],0,0⟩):=by
 have d1:kwM≠kwD:=by decide
 have d2:kwP≠kwD:=by decide
 have d3:kwP≠kwM:=by decide
 cases i with
 | n N=>
  unfold readK In.kw
  rw[if_pos rfl,aCf (lU h0) hB]
 | d D=>
  unfold readK In.kw
  simp only
  rw[if_neg d1,if_pos trivial,aCH (okD_iff.1 h0)]
 | g ow pr su=>
  unfold readK In.kw
  simp only
  rw[if_neg d2,if_neg d3,aAp (gX h0) hp]
theorem aDH {k:List UInt8} (h:k=kwD\/k=kwM\/k=kwP):∀b∈k,b≠32:=by
 rcases h with rfl | rfl | rfl<;>decide
theorem In.kw3 (i:In):i.kw=kwD\/i.kw=kwM\/i.kw=kwP:=by
 cases i
 ·exact .inl rfl
 ·exact .inr (.inl rfl)
 ·exact .inr (.inr rfl)
theorem aAA {n:Nat} (h:n<=2147483647):∀b∈nG n,b≠32:=fun b hb=>by
 rw[wT (by omega)]at hb
 have:=CZ n b hb
 rintro rfl
 exact absurd this.1 (by decide)
theorem JY {i:In} {u:Nat} (h0:i.chk=0) (hB:i.Bn) (hp:i.Pos) (hu:u<=2147483647):eW (i.txt u)= .ok i u:=by
 have hs:=In.nums_sm h0 hB hp
 have ht:((u:Int)::i.nums).map (fun n=>nG n.toNat)=(u::tn i.nums).map nG:=by
  simp
 have hsm:∀n∈u::tn i.nums,n<=2147483647:=fun n hn=>by
  rcases List.mem_cons.1 hn with rfl | hn
  ·exact hu
  ·obtain⟨x,hx,rfl⟩:=List.mem_map.1 hn
   have:=hs x hx
   unfold lY at this
   omega
 unfold eW In.txt
 rw[ht,xK (by simp) (fun w hw=>by
  rcases List.mem_cons.1 hw with rfl | hw
  ·exact aDH (In.kw3 i)
  ·obtain⟨n,hn,rfl⟩:=List.mem_map.1 hw
   exact aAA (hsm n hn))]
 simp only
 rw[if_pos (In.kw3 i),numsT_some.2 ⟨rfl,hsm⟩]
 simp only
 unfold qN
 rw[sD]
 simp only
 rw[In.rd h0 hB hp]
 simp
theorem RI {x:Int} (h:0<=x):OC x=v7 x.toNat:=by
 unfold OC ID v7 nG
 rw[if_neg (by omega)]
abbrev wds (l:List Int):List ByteArray:=l.map fun x=>v7 x.toNat
abbrev wdM (b vb g vw:Nat) (xs:List ByteArray):Mem:=[.cells 0 vb [.ref (b+1) g 1 0 xs.length],.cells g vw (xs.map PV.str)]
section
variable {tab:FuncId->Option AF} (T:HasA tab)
include T
set_option maxHeartbeats 1000000 in
theorem oQ {A G M:Mem} {K:PV->Mem->Prop} {f o:Bool} {vb g vw:Nat} {xs:List ByteArray} {l:List Int} (hM:M=A++(wdM A.length vb g vw xs++G)) (hl:∀x∈l,lY x) (h1:xs.length<1000000000) (h2:l.length<1000000000)
  (hk:∀vb' g' vw',K (.tuple []) (A++(wdM A.length vb' g' vw' (xs++wds l)++G))):SemC tab 61 [.ptr A.length 0 0,slI f o .i64 l] M K:=by
 subst hM
 refine dH T.h61 ?_
 simp only[af61,PP,P1,P2,P14,P15,simprocAttr,aQ,aL,aP,aC,aR,bD,aK,aJ,aN,aT,aU,aV,aW,aS,bA,aE,aF,aA,aG,aY,aZ,aO,bE,a8,aX,aM,bB,aH,bC,aI,aB,aD]
 refine yN (fun(k vb g vw:Nat)=>k<=l.length) (fun k vb g vw=>(.ptr A.length 0 0::zj 5++slI f o .i64 l::p64 l.length::p64 k::zj 13)) (fun k vb g vw=>A++(wdM A.length vb g vw (xs++wds (l.take k))++G)) (fun k vb g vw=>l.length-k) 0 vb g vw (by omega) (by simp only[PW]) (by simp) ?_
 intro k vb g vw hk' ih
 refine dL (by kernel_rfl) ?_
 simp only[PP,P1,P2,P14,P15,simprocAttr]
 refine QIf.intro (fun c=>?_) (fun c=>?_)
 rotate_left
 ·have hkl:k=l.length:=by omega
  subst hkl
  rw[List.take_of_length_le (Nat.le_refl _)]
  have hk:=hk vb g vw
  simp only[PP,P1,P2,P14,P15,simprocAttr]at hk
  simp only[PP,P1,P2,P14,P15,simprocAttr,c]
  exact hk
 have hlt:k<l.length:=by omega
 have hw:=dA (k:=k) (by show _<1000000000000;omega)
 have i0:(0:Int)<=k:=by omega
 obtain⟨x,gx⟩:=dN hlt
 have hx:=hl x (List.mem_of_getElem? gx)
 unfold lY at hx
 have tk:(l.take k).length=k:=by rw[List.length_take];omega
 have b1:(xs.length+k+1)*16<=140737488355328:=by omega
 have b2:xs.length+k+1<=9223372036854775807:=by omega
 simp only[PP,P1,P2,P14,P15,simprocAttr,aQ,aL,aP,aC,aR,bD,aK,aJ,aN,aT,aU,aV,aW,aS,bA,aE,aF,aA,aG,aY,aZ,aO,bE,a8,aX,aM,bB,aH,bC,aI,aB,aD,c,i0,gx,gk,gk0,sk,sk0,wdM,tk]
 refine aAn T (by omega) (by omega) ?_
 simp only[PP,P1,P2,P14,P15,simprocAttr,aQ,aL,aP,aC,aR,bD,aK,aJ,aN,aT,aU,aV,aW,aS,bA,aE,aF,aA,aG,aY,aZ,aO,bE,a8,aX,aM,bB,aH,bC,aI,aB,aD,gk,gk0,sk,sk0,hw,tk,b1,b2]
 have e:xs.length+k+1=xs.length+(k+1):=by omega
 have:=ih (k+1) (vb+1) (g+1) 0 (by omega) (by omega)
 rw[eK gx,RI hx.1]at*
 simp only[PP,P1,P2,P14,P15,simprocAttr,tk,e]at this ⊢
 refine dY this (by simp only[PW]) ?_
 rw[dQ _ _ (by simp;omega)]
 simp only[List.append_assoc,List.map_append,List.map_cons,List.map_nil]
set_option maxHeartbeats 1000000 in
theorem uB {A G M:Mem} {K:PV->Mem->Prop} {f o:Bool} {vb g vw:Nat} {xs:List ByteArray} {l:List Int} (hM:M=A++(wdM A.length vb g vw xs++G)) (hl:∀x∈eX l,lY x) (h1:xs.length<900000000) (h2:l.length<900000000)
  (hk:∀vb' g' vw',K (.tuple []) (A++(wdM A.length vb' g' vw' (xs++wds (eX l))++G))):SemC tab 62 [.ptr A.length 0 0,slI f o .i64 l] M K:=by
 subst hM
 refine dH T.h62 ?_
 simp only[af62,PP,P1,P2,P14,P15,simprocAttr,aQ,aL,aP,aC,aR,bD,aK,aJ,aN,aT,aU,aV,aW,aS,bA,aE,aF,aA,aG,aY,aZ,aO,bE,a8,aX,aM,bB,aH,bC,aI,aB,aD]
 refine oQ T (f:=true) (o:=true) (l:=[(l.length:Int)]) (A:=A) (G:=G) (vb:=vb) (g:=g) (vw:=vw) (xs:=xs) (by simp only[PP,P1,P2,P14,P15,simprocAttr]) (fun x hx=>hl x (by unfold eX;simp at hx;simp[hx])) (by omega) (by simp) fun vb g vw=>?_
 simp only[PP,P1,P2,P14,P15,simprocAttr,aQ,aL,aP,aC,aR,bD,aK,aJ,aN,aT,aU,aV,aW,aS,bA,aE,aF,aA,aG,aY,aZ,aO,bE,a8,aX,aM,bB,aH,bC,aI,aB,aD]
 refine oQ T (f:=f) (o:=o) (l:=l) (A:=A) (G:=G) (vb:=vb) (g:=g) (vw:=vw) (xs:=xs++wds [(l.length:Int)]) (by simp only[PP,P1,P2,P14,P15,simprocAttr]) (fun x hx=>hl x (List.mem_cons_of_mem _ hx)) (by simp;omega) (by omega) fun vb g vw=>?_
 have hk:=hk vb g vw
 simp only[PP,P1,P2,P14,P15,simprocAttr,aQ,aL,aP,aC,aR,bD,aK,aJ,aN,aT,aU,aV,aW,aS,bA,aE,aF,aA,aG,aY,aZ,aO,bE,a8,aX,aM,bB,aH,bC,aI,aB,aD,eX,List.append_assoc]at hk ⊢
 exact hk
end
end Go.Am.Ar

