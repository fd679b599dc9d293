/- The law that an automaton and its subset automaton accept the same words, for all arguments, and what goes with it. -/
import Derived.Test.YtbcdfmecpjbeaaaDoorSubsetReturnsG5
set_option linter.unusedVariables false
set_option linter.unusedSimpArgs false
set_option maxRecDepth 10000
namespace Go.Am.Ar
open Go.Am.PV renaming junk→Zj
open Go.Am renaming pchk→P1,pold→P2,PKNo→P3,ppack→P4,PObj.under→P5,pput→P6,ptset→P7,ptget→P8,pev→P9,ofAV→P10,q57→P11,ppad→P12,pfill→P13,prepl→P14,AO.effect→P15
open List renaming replicate→L1
open Nat renaming reduceAdd→N1,reduceSub→N2,reduceMul→N3,reduceLT→N4,reduceLeDiff→N5,reduceEqDiff→N6,reduceBEq→N7
open Int renaming reduceToNat→I1,reduceLT→I2,reduceLE→I3,reduceEq→I4,reduceAdd→I5,reduceSub→I6,reduceNeg→I7
def wordB (N:NF) (a:BitVec 64) (w:List Int):BitVec 64:=w.foldl (fun a x=>q60 N a x.toNat) a
theorem wordB_run {N:NF} (C:NOk N):∀(w:List Int) (a:BitVec 64) (S:Nat→Prop),(∀k,a.getLsbD k=true↔S k)→∀k,(wordB N a w).getLsbD k=true↔runP N S w k
 | [],a,S,h,k=>h k
 | x::w,a,S,h,k=>by
  refine wordB_run C w (q60 N a x.toNat) _ (fun j=>?_) k
  rw[deltaB_bit C]
  simp only[h]
theorem OrdB.delta {N:NF} {o:List (BitVec 64)} (h:OrdB N o) {a:BitVec 64} {x:Nat} (ha:a∈o) (hx:x<q58 N):q46 (detD N o) (o.idxOf a) x=o.idxOf (q60 N a x):=by
 have g:=idxOf_atG ha
 unfold q46 stepD
 have e:(detD N o).nx[o.idxOf a]? =some (rowN (q60 N) (q58 N) o a):=by
  show(rowsN (q60 N) (q58 N) o)[_]? =_
  unfold rowsN;rw[List.getElem?_map,g];rfl
 simp only[Int.toNat_natCast]
 rw[e]
 unfold rowN
 simp only[Option.getD_some]
 rw[List.getElem?_map,List.getElem?_range hx]
 simp only[Option.map_some,Option.getD_some,Int.toNat_natCast]
theorem OrdB.runs {N:NF} {o:List (BitVec 64)} (h:OrdB N o):∀(w:List Int),(∀x∈w,0≤x∧x<2^N.vs.toNat)→∀a,a∈o→wordB N a w∈o∧w.foldl (stepD (detD N o).nx) ((o.idxOf a:Nat):Int)=(o.idxOf (wordB N a w):Nat)
 | [],_,a,ha=>⟨ha,rfl⟩
 | x::w,hw,a,ha=>by
  obtain⟨y,rfl,hy⟩:=nat_of (D:=detD N o) (hw x (by simp)).1 (hw x (by simp)).2
  have hy:y<q58 N:=hy
  have hd:=h.F.next ha hy
  obtain⟨h1,h2⟩:=OrdB.runs h w (fun z hz=>hw z (by simp[hz])) _ hd
  refine⟨h1,?_⟩
  have hi:=q27 (idxOf_atG ha)
  rw[List.foldl_cons,h.ok.step_nat (by rw[det_len];exact hi) hy,h.delta ha hy]
  exact h2
theorem OrdB.fin {N:NF} {o:List (BitVec 64)} (h:OrdB N o) {a:BitVec 64} (ha:a∈o):fiD (detD N o) ((o.idxOf a:Nat):Int)=finB N a:=by
 unfold fiD
 have g:=idxOf_atG ha
 simp only[Int.toNat_natCast]
 have e:(detD N o).fi[o.idxOf a]? =some (finB N a):=by
  show(o.map (finB N))[_]? =_
  rw[List.getElem?_map,g];rfl
 rw[e];rfl
theorem OrdB.st {N:NF} {o:List (BitVec 64)} (h:OrdB N o):startB N∈o∧o.idxOf (startB N)=0:=by
 have:=h.F.zero
 exact⟨List.mem_of_getElem? this,by have:=idxOf_leG this;omega⟩
theorem OrdB.err {N:NF} {o:List (BitVec 64)} (h:OrdB N o) (w:List Int):errD (detD N o) w=accE N w:=by
 unfold errD accE
 rw[if_pos (okD_iff.2 h.ok),if_pos h.c];rfl
theorem OrdB.run {N:NF} {o:List (BitVec 64)} (h:OrdB N o) {w:List Int} (hw:∀x∈w,0≤x∧x≤255) (he:accE N w=0):wordB N (startB N) w∈o∧runD (detD N o) w=(o.idxOf (wordB N (startB N) w):Nat):=by
 have e0:wordE N.vs w=0:=by unfold accE at he;rwa [if_pos h.c]at he
 obtain⟨m1,m2⟩:=h.st
 obtain⟨h1,h2⟩:=h.runs w (fun x hx=>⟨(hw x hx).1,(wordE_zero e0).2 x hx⟩) _ m1
 rw[m2]at h2
 exact⟨h1,h2⟩
theorem finB_iff {N:NF} (C:NOk N) {a:BitVec 64} :finB N a=true↔∃k:Nat,a.getLsbD k=true∧(k:Int)∈N.fi:=by
 unfold finB
 rw[List.any_eq_true]
 constructor
 ·rintro⟨q,q1,q2⟩
  have:=posM_mem C.fi q q1
  exact⟨q.toNat,q2,by rw[show((q.toNat:Nat):Int)=q by omega];exact q1⟩
 ·rintro⟨k,k1,k2⟩
  exact⟨k,k2,by rw[Int.toNat_natCast];exact k1⟩
theorem OrdB.acc {N:NF} {o:List (BitVec 64)} (h:OrdB N o) {w:List Int} (hw:∀x∈w,0≤x∧x≤255) {b:Bool} {e:Int} (hA:AccA N w b e):e=accE N w∧accD (detD N o) w=b:=by
 obtain⟨h1,h2⟩:=hA
 refine⟨h1,?_⟩
 have C:=nok_of h.c
 unfold accD
 rw[h.err]
 by_cases c:accE N w=0
 ·obtain⟨r1,r2⟩:=h.run hw c
  rw[r2,h.fin r1,decide_eq_true c,Bool.true_and,Bool.eq_iff_iff,finB_iff C,h2]
  unfold accP
  have:=wordB_run C w (startB N) (fun k=>(k:Int)∈N.st) (startB_bit C)
  simp only[this,c,true_and]
 ·rw[decide_eq_false c,Bool.false_and]
  cases b with
  | false=>rfl
  | true=>exact absurd (h2.1 rfl).1 c
theorem OrdB.sets {N:NF} {o:List (BitVec 64)} (h:OrdB N o) {a:BitVec 64} (ha:a∈o):(setsB o)[o.idxOf a]? =some (natI (bitsW a)):=by
 unfold setsB;rw[List.getElem?_map,idxOf_atG ha];rfl
section
variable {tab:FuncId→Option AF} (T:HasA tab)
include T
end
theorem cube_table:((List.range 7).all fun v=>(List.range (2^v)).all fun y=>(List.range (2^v)).all fun x=>(hasB (y:Nat) ((2^v-1-y:Nat):Int) x==decide (x=y))&&decide (bAnd (y:Nat) ((2^v-1-y:Nat):Int)=0))=true:=by decide+kernel
theorem cube_at {v y x:Nat} (hv:v≤6) (hy:y<2^v) (hx:x<2^v):hasB (y:Nat) ((2^v-1-y:Nat):Int) x=decide (x=y)∧bAnd (y:Nat) ((2^v-1-y:Nat):Int)=0:=by
 have h1:=List.all_eq_true.1 cube_table v (List.mem_range.2 (by omega))
 have h2:=List.all_eq_true.1 h1 y (List.mem_range.2 hy)
 have h3:=List.all_eq_true.1 h2 x (List.mem_range.2 hx)
 rw[Bool.and_eq_true,beq_iff_eq,decide_eq_true_eq]at h3
 exact h3
theorem edgesM_of {v n:Int} :∀{l:List Eg},(∀e∈l,(0≤e.fr∧e.fr<n∧0≤e.to∧e.to<n)∧cubeM v e.ps e.ng=0)→edgesM v n l=0
 | [],_=>rfl
 | e::l,h=>by
  obtain⟨h1,h2⟩:=h e (by simp)
  rw[edgesM_go (by omega),if_pos h2]
  exact edgesM_of fun e he=>h e (by simp[he])
structure SmD (D:DF):Prop where
 C:OkD D
 s:¬BigD D
theorem SmD.n64 {D:DF} (h:SmD D):D.nx.length≤64:=Classical.byContradiction fun q=>h.s (.inl (by omega))
theorem toN_check {D:DF} (h:SmD D):checkN (toN D)=0:=by
 have C:=h.C
 have v0:=C.v0;have v6:=C.v6;have s0:=C.s0;have s1:=C.s1
 have n64:=h.n64
 have hm:D.nx.length*q10 D≤512:=Classical.byContradiction fun q=>h.s (.inr (by omega))
 have hel:(toN D).es.length≤512:=by show(egsK D _).length≤512;rw[egsK_len];exact hm
 unfold checkN
 rw[if_neg (by show ¬(D.vs<0∨6<D.vs);omega),if_neg (by show ¬((D.nx.length:Int)<0);omega),if_neg (by
  show ¬(64<(D.nx.length:Int)∨_)
  omega),if_pos]
 ·refine edgesM_of fun e he=>?_
  obtain⟨s,x,h1,h2,rfl⟩:=egsK_mem he
  have hd:=(C.delta h1 h2).choose_spec.2.2.2
  refine⟨⟨by show(0:Int)≤(s:Int);omega,by show(s:Int)<D.nx.length;omega,by show(0:Int)≤((q46 D s x:Nat):Int);omega,by show((q46 D s x:Nat):Int)<D.nx.length;omega⟩,?_⟩
  have hc:=(cube_at (v:=D.vs.toNat) (by omega) h2 h2).2
  have hp:((2^D.vs.toNat:Nat):Int)=2^D.vs.toNat:=by simp
  have hx:x<2^D.vs.toNat:=h2
  unfold cubeM
  show(if D.vs<0 then _ else if 6<D.vs then _ else if(2:Int)^D.vs.toNat≤((x:Nat):Int) then _ else if(2:Int)^D.vs.toNat≤((q10 D-1-x:Nat):Int) then _ else if bAnd _ _=0 then _ else _)=_
  have hl:q10 D=2^D.vs.toNat:=rfl
  have hc':bAnd (egD D s x).ps (egD D s x).ng=0:=hc
  rw[if_neg (by omega),if_neg (by omega),if_neg (by omega),if_neg (by omega),if_pos hc']
 ·refine⟨posM_of (by show [D.st].Pairwise _;simp) (fun x hx=>?_),posM_of ?_ fun x hx=>?_⟩
  ·have hx:x∈[D.st]:=hx
   simp at hx;subst hx
   show-1<D.st∧D.st<(D.nx.length:Int)
   omega
  ·show(finK D D.nx.length).Pairwise _
   unfold finK
   rw[List.pairwise_map]
   exact((List.pairwise_lt_range (n:=D.nx.length)).filter _).imp fun h=>by omega
  ·have hx:x∈finK D D.nx.length:=hx
   unfold finK at hx
   obtain⟨k,h1,rfl⟩:=List.mem_map.1 hx
   have:=List.mem_range.1 (List.mem_filter.1 h1).1
   show-1<(k:Int)∧(k:Int)<(D.nx.length:Int)
   omega
theorem toN_mat {D:DF} (h:SmD D) {x:Nat} (hx:x<q10 D) (e:Eg):e∈matE (toN D).es x↔∃s,s<D.nx.length∧e=egD D s x:=by
 unfold matE
 rw[List.mem_filter]
 constructor
 ·rintro⟨h1,h2⟩
  obtain⟨s,y,h3,h4,rfl⟩:=egsK_mem h1
  have h2:hasB ((y:Nat):Int) ((2^D.vs.toNat-1-y:Nat):Int) x=true:=h2
  rw[(cube_at (by have:=h.C.v6;omega) h4 hx).1,decide_eq_true_eq]at h2
  subst h2
  exact⟨s,h3,rfl⟩
 ·rintro⟨s,h1,rfl⟩
  refine⟨List.mem_flatMap.2 ⟨s,List.mem_range.2 h1,List.mem_map.2 ⟨x,List.mem_range.2 hx,rfl⟩⟩,?_⟩
  show hasB ((x:Nat):Int) ((2^D.vs.toNat-1-x:Nat):Int) x=true
  rw[(cube_at (by have:=h.C.v6;omega) hx hx).1];simp
abbrev onlyB (s:Nat):BitVec 64:=BitVec.twoPow 64 s
theorem only_bit {s k:Nat} (hs:s<64):(onlyB s).getLsbD k=true↔k=s:=by
 rw[BitVec.getLsbD_twoPow,Bool.and_eq_true,decide_eq_true_eq,decide_eq_true_eq]
 omega
theorem only_inj {s t:Nat} (hs:s<64) (ht:t<64) (h:onlyB s=onlyB t):s=t:=by
 have:=(only_bit hs (k:=s)).2 rfl
 rw[h,only_bit ht]at this;exact this
theorem only_bits {s:Nat} (hs:s<64):bitsW (onlyB s)=[s]:=by
 have h1:(onlyB s).getLsbD s=true:=(only_bit hs).2 rfl
 have h2:∀j,j<s→(onlyB s).getLsbD j=false:=fun j hj=>by
  cases hb:(onlyB s).getLsbD j with
  | false=>rfl
  | true=>have:=(only_bit hs).1 hb;omega
 unfold bitsW
 rw[filter_low (q:=fun _=>false) hs h1 h2 fun i=>by
  cases hb:(onlyB s).getLsbD i with
  | false=>simp
  | true=>have:=(only_bit hs).1 hb;simp[this]]
 simp
theorem toN_delta {D:DF} (h:SmD D) {s x:Nat} (hs:s<D.nx.length) (hx:x<q10 D):q60 (toN D) (onlyB s) x=onlyB (q46 D s x):=by
 have n64:=h.n64
 have hd:=(h.C.delta hs hx).choose_spec.2.2.2
 refine BitVec.eq_of_getLsbD_eq fun k hk=>?_
 rw[Bool.eq_iff_iff,deltaB_bit (nok_of (toN_check h)),only_bit (by omega)]
 constructor
 ·rintro⟨e,h1,h2,h3⟩
  obtain⟨t,h4,rfl⟩:=(toN_mat h hx e).1 h1
  have h2:(onlyB s).getLsbD (((t:Nat):Int).toNat)=true:=h2
  rw[Int.toNat_natCast,only_bit (by omega)]at h2
  subst h2
  have h3:((q46 D t x:Nat):Int)=k:=h3
  omega
 ·rintro rfl
  refine⟨egD D s x,(toN_mat h hx _).2 ⟨s,hs,rfl⟩,?_,rfl⟩
  show(onlyB s).getLsbD (((s:Nat):Int).toNat)=true
  rw[Int.toNat_natCast,only_bit (by omega)]
theorem toN_start {D:DF} (h:SmD D):startB (toN D)=onlyB D.st.toNat:=by
 have n64:=h.n64
 have s0:=h.C.s0;have s1:=h.C.s1
 refine BitVec.eq_of_getLsbD_eq fun k hk=>?_
 rw[Bool.eq_iff_iff,startB_bit (nok_of (toN_check h)),only_bit (by omega)]
 show(k:Int)∈[D.st]↔_
 simp
 omega
theorem mem_finK {D:DF} {s n:Nat} :(s:Int)∈finK D n↔s<n∧fiD D s=true:=by
 unfold finK
 rw[List.mem_map]
 constructor
 ·rintro⟨k,h1,h2⟩
  have:k=s:=by omega
  subst this
  have:=List.mem_filter.1 h1
  exact⟨List.mem_range.1 this.1,this.2⟩
 ·rintro⟨h1,h2⟩
  exact⟨s,List.mem_filter.2 ⟨List.mem_range.2 h1,h2⟩,rfl⟩
theorem toN_fin {D:DF} (h:SmD D) {s:Nat} (hs:s<D.nx.length):finB (toN D) (onlyB s)=fiD D s:=by
 have n64:=h.n64
 rw[Bool.eq_iff_iff,finB_iff (nok_of (toN_check h))]
 constructor
 ·rintro⟨k,h1,h2⟩
  rw[only_bit (by omega)]at h1
  subst h1
  exact(mem_finK.1 h2).2
 ·intro h1
  exact⟨s,(only_bit (by omega)).2 rfl,mem_finK.2 ⟨hs,h1⟩⟩
theorem toN_full {D:DF} (h:SmD D) {o:List Nat} (hO:OrdD D o):FullN (q60 (toN D)) (q58 (toN D)) (startB (toN D)) (o.map onlyB):=by
 have n64:=h.n64
 rw[toN_start h]
 exact hO.F.map (Dm:=fun s=>s<D.nx.length) (φ:=onlyB) (fun a b ha hb e=>only_inj (by omega) (by omega) e) (by have:=h.C.s0;have:=h.C.s1;omega) (fun a x ha hx=>(h.C.delta ha hx).choose_spec.2.2.2) fun a x ha hx=>(toN_delta h ha hx).symm
theorem toN_det {D:DF} (h:SmD D) {o:List Nat} (hO:OrdD D o):detD (toN D) (o.map onlyB)=renD D o:=by
 have n64:=h.n64
 refine DF.ext' rfl rfl ?_ ?_
 ·exact rowsN_map (Dm:=fun s=>s<D.nx.length) (φ:=onlyB) hO.lt (fun a b ha hb e=>only_inj (by omega) (by omega) e) (fun a x ha hx=>(h.C.delta ha hx).choose_spec.2.2.2) fun a x ha hx=>(toN_delta h ha hx).symm
 ·show(o.map onlyB).map (finB (toN D))=o.map fun s:Nat=>fiD D s
  rw[List.map_map]
  exact List.map_congr_left fun s hs=>toN_fin h (hO.lt s hs)
theorem toN_sets {D:DF} (h:SmD D) {o:List Nat} (hO:OrdD D o):setsB (o.map onlyB)=o.map fun s:Nat=>[(s:Int)]:=by
 have n64:=h.n64
 unfold setsB
 rw[List.map_map]
 refine List.map_congr_left fun s hs=>?_
 have:=hO.lt s hs
 show natI (bitsW (onlyB s))=_
 rw[only_bits (by omega)];rfl
theorem toN_runP {D:DF} (h:SmD D):∀(w:List Int),(∀x∈w,0≤x∧x<2^D.vs.toNat)→∀(s:Nat) (S:Nat→Prop),s<D.nx.length→(∀j,S j↔j=s)→∀k,runP (toN D) S w k↔(k:Int)=w.foldl (stepD D.nx) (s:Int)
 | [],_,s,S,hs,hS,k=>by
  show S k↔(k:Int)=s
  rw[hS];omega
 | x::w,hw,s,S,hs,hS,k=>by
  obtain⟨y,rfl,hy⟩:=nat_of (hw x (by simp)).1 (hw x (by simp)).2
  have hd:=(h.C.delta hs hy).choose_spec.2.2.2
  rw[List.foldl_cons,h.C.step_nat hs hy]
  refine toN_runP h w (fun z hz=>hw z (by simp[hz])) (q46 D s y) _ hd (fun j=>?_) k
  simp only[Int.toNat_natCast]
  constructor
  ·rintro⟨e,h1,h2,h3⟩
   obtain⟨t,h4,rfl⟩:=(toN_mat h hy e).1 h1
   have h2:S (((t:Nat):Int).toNat):=h2
   rw[Int.toNat_natCast,hS]at h2
   subst h2
   have h3:((q46 D t y:Nat):Int)=j:=h3
   omega
  ·rintro rfl
   refine⟨egD D s y,(toN_mat h hy _).2 ⟨s,hs,rfl⟩,?_,rfl⟩
   show S (((s:Nat):Int).toNat)
   rw[Int.toNat_natCast,hS]
theorem toN_acc {D:DF} (h:SmD D) {w:List Int} (hw:∀x∈w,0≤x∧x≤255) {b:Bool} {e:Int} (hA:AccA (toN D) w b e):e=errD D w∧b=accD D w:=by
 obtain⟨h1,h2⟩:=hA
 have C:=h.C
 have s0:=C.s0;have s1:=C.s1
 have he:accE (toN D) w=errD D w:=by
  unfold accE errD
  rw[if_pos (toN_check h),if_pos (okD_iff.2 C)];rfl
 refine⟨by rw[h1,he],?_⟩
 unfold accD
 rw[he]at h2
 by_cases c:errD D w=0
 ·obtain⟨_,e0⟩:=errD_zero c
  have hr:=toN_runP h w (fun x hx=>⟨(hw x hx).1,(wordE_zero e0).2 x hx⟩) D.st.toNat (fun k=>(k:Int)∈(toN D).st) (by omega) (fun j=>by
   show(j:Int)∈[D.st]↔_
   simp;omega)
  rw[show((D.st.toNat:Nat):Int)=D.st by omega]at hr
  have hst:w.foldl (stepD D.nx) D.st=runD D w:=rfl
  rw[hst]at hr
  obtain⟨⟨r0,r1⟩,_⟩:=errD_fin c hw
  rw[decide_eq_true c,Bool.true_and,Bool.eq_iff_iff,h2]
  unfold accP
  constructor
  ·rintro⟨_,k,k1,k2⟩
   have:=(hr k).1 k1
   rw[←this]
   exact(mem_finK.1 k2).2
  ·intro hf
   refine⟨c,(runD D w).toNat,(hr _).2 (by omega),?_⟩
   show _∈finK D D.nx.length
   rw[mem_finK]
   exact⟨by omega,by rw[show(((runD D w).toNat:Nat):Int)=runD D w by omega];exact hf⟩
 ·rw[decide_eq_false c,Bool.false_and]
  cases b with
  | false=>rfl
  | true=>exact absurd (h2.1 rfl).1 c
theorem TonA.small {D:DF} {N:NF} (h:TonA D N 0):SmD D∧N=toN D:=by
 rcases h with⟨h1,h2,h3⟩ | ⟨h1,h2,h3,h4⟩ | ⟨h1,h2,h3,h4⟩
 ·exact absurd h3.symm h1
 ·exact absurd h4 (by decide)
 ·exact⟨⟨h1,h2⟩,h3⟩
theorem OrdD.ofRen {D R:DF} {e:Int} (C:OkD D) (h:RenA D R e):e=0∧∃o,OrdD D o∧R=renD D o:=by
 rcases h with⟨h1,_⟩ | h
 ·exact absurd (okD_iff.2 C) h1
 ·exact h
theorem det_toN {D R:DF} {l:List (List Int)} {e:Int} (h:SmD D) {o:List Nat} (hO:OrdD D o) (hD:DetA (toN D) 4096 R l e):e=0∧R=renD D o∧l=o.map fun s:Nat=>[(s:Int)]:=by
 have hc:=toN_check h
 have hF:=toN_full h hO
 have n64:=h.n64
 have hol:=hO.len
 rcases hD with⟨h1,_⟩ | ⟨h1,h2,_⟩ | ⟨h1,h2,h3,_⟩ | ⟨h1,h2,o',h3,h4,h5,h6,h7⟩
 ·exact absurd hc h1
 ·omega
 ·have:=hF.over h3
  rw[List.length_map]at this
  omega
 ·obtain rfl:=hF.eq h3
  exact⟨h7,by rw[h5,toN_det h hO],by rw[h6,toN_sets h hO]⟩
section
variable {tab:FuncId→Option AF} (T:HasA tab)
include T
set_option maxHeartbeats 4000000 in
theorem returns_p {D:DF} {w:List Int} (A:NumD D) (hw:∀x∈w,0≤x∧x≤255):
  SemC tab 11 [.agg (dfC false false false false false false D),slI false false .u8 w] [] fun r _=>r= .bool true:=by
 refine SemC_sem T.h11 ?_
 simp only[af11]
 refine q28 (q13 ?_)
 simp only[PP,P1,P2,P3,P4,P5,P6,P7,P8,P9,P10,P11,P12,P13,P14,L1,P15,N1,N2,N3,N4,N5,N6,N7,I1,I2,I3,I4,I5,I6,I7,reduceIte,reduceCtorEq]
 refine q28 (q13 ?_)
 simp only[PP,P1,P2,P3,P4,P5,P6,P7,P8,P9,P10,P11,P12,P13,P14,L1,P15,N1,N2,N3,N4,N5,N6,N7,I1,I2,I3,I4,I5,I6,I7,reduceIte,reduceCtorEq]
 refine longD_p T ?_
 cases hl:longD D with
 | true=>
  simp only[PP,P1,P2,P3,P4,P5,P6,P7,P8,P9,P10,P11,P12,P13,P14,L1,P15,N1,N2,N3,N4,N5,N6,N7,I1,I2,I3,I4,I5,I6,I7,reduceIte,reduceCtorEq]
  refine SemC_true T.awake ?_
  simp only[PP,P1,P2,P3,P4,P5,P6,P7,P8,P9,P10,P11,P12,P13,P14,L1,P15,N1,N2,N3,N4,N5,N6,N7,I1,I2,I3,I4,I5,I6,I7,reduceIte,reduceCtorEq]
 | false=>
 have B:=longD_bn hl
 have hn:=(longD_ok hl).1
 simp only[PP,P1,P2,P3,P4,P5,P6,P7,P8,P9,P10,P11,P12,P13,P14,L1,P15,N1,N2,N3,N4,N5,N6,N7,I1,I2,I3,I4,I5,I6,I7,reduceIte,reduceCtorEq]
 refine QIf.intro (fun c1=>?_) (fun c1=>?_)
 ·simp only[PP,P1,P2,P3,P4,P5,P6,P7,P8,P9,P10,P11,P12,P13,P14,L1,P15,N1,N2,N3,N4,N5,N6,N7,I1,I2,I3,I4,I5,I6,I7,reduceIte,reduceCtorEq,c1]
  refine SemC_true T.awake ?_
  simp only[PP,P1,P2,P3,P4,P5,P6,P7,P8,P9,P10,P11,P12,P13,P14,L1,P15,N1,N2,N3,N4,N5,N6,N7,I1,I2,I3,I4,I5,I6,I7,reduceIte,reduceCtorEq]
 have hwl:w.length<1000000000000:=by omega
 simp only[PP,P1,P2,P3,P4,P5,P6,P7,P8,P9,P10,P11,P12,P13,P14,L1,P15,N1,N2,N3,N4,N5,N6,N7,I1,I2,I3,I4,I5,I6,I7,reduceIte,reduceCtorEq,c1]
 refine SemC_true T.awake ?_
 simp only[PP,P1,P2,P3,P4,P5,P6,P7,P8,P9,P10,P11,P12,P13,P14,L1,P15,N1,N2,N3,N4,N5,N6,N7,I1,I2,I3,I4,I5,I6,I7,reduceIte,reduceCtorEq]
 refine q28 (q13 ?_)
 simp only[PP,P1,P2,P3,P4,P5,P6,P7,P8,P9,P10,P11,P12,P13,P14,L1,P15,N1,N2,N3,N4,N5,N6,N7,I1,I2,I3,I4,I5,I6,I7,reduceIte,reduceCtorEq]
 refine tonfaZ_p T B (by omega) fun N e hN=>?_
 simp only[PP,P1,P2,P3,P4,P5,P6,P7,P8,P9,P10,P11,P12,P13,P14,L1,P15,N1,N2,N3,N4,N5,N6,N7,I1,I2,I3,I4,I5,I6,I7,reduceIte,reduceCtorEq]
 by_cases he:e=0
 rotate_left
 ·rcases hN with⟨h1,rfl,rfl⟩ | ⟨h1,h2,rfl,rfl⟩ | ⟨h1,h2,rfl,rfl⟩
  ·refine q13 ?_
   have z:zeroN.n=0:=rfl
   simp only[PP,P1,P2,P3,P4,P5,P6,P7,P8,P9,P10,P11,P12,P13,P14,L1,P15,N1,N2,N3,N4,N5,N6,N7,I1,I2,I3,I4,I5,I6,I7,reduceIte,reduceCtorEq,he,z]
   refine dcheck_p T B ?_
   simp only[PP,P1,P2,P3,P4,P5,P6,P7,P8,P9,P10,P11,P12,P13,P14,L1,P15,N1,N2,N3,N4,N5,N6,N7,I1,I2,I3,I4,I5,I6,I7,reduceIte,reduceCtorEq]
  ·refine q13 ?_
   have z:zeroN.n=0:=rfl
   have c0:=okD_iff.2 h1
   simp only[PP,P1,P2,P3,P4,P5,P6,P7,P8,P9,P10,P11,P12,P13,P14,L1,P15,N1,N2,N3,N4,N5,N6,N7,I1,I2,I3,I4,I5,I6,I7,reduceIte,reduceCtorEq,he,z]
   refine dcheck_p T B ?_
   simp only[PP,P1,P2,P3,P4,P5,P6,P7,P8,P9,P10,P11,P12,P13,P14,L1,P15,N1,N2,N3,N4,N5,N6,N7,I1,I2,I3,I4,I5,I6,I7,reduceIte,reduceCtorEq,c0]
  ·exact absurd rfl he
 subst he
 obtain⟨S,rfl⟩:=hN.small
 have C:=S.C
 have BN:=toN_bn C
 refine q28 (q13 ?_)
 simp only[PP,P1,P2,P3,P4,P5,P6,P7,P8,P9,P10,P11,P12,P13,P14,L1,P15,N1,N2,N3,N4,N5,N6,N7,I1,I2,I3,I4,I5,I6,I7,reduceIte,reduceCtorEq]
 refine q28 (q13 ?_)
 simp only[PP,P1,P2,P3,P4,P5,P6,P7,P8,P9,P10,P11,P12,P13,P14,L1,P15,N1,N2,N3,N4,N5,N6,N7,I1,I2,I3,I4,I5,I6,I7,reduceIte,reduceCtorEq]
 refine dacc_p T B hw hwl ?_
 simp only[PP,P1,P2,P3,P4,P5,P6,P7,P8,P9,P10,P11,P12,P13,P14,L1,P15,N1,N2,N3,N4,N5,N6,N7,I1,I2,I3,I4,I5,I6,I7,reduceIte,reduceCtorEq]
 refine q28 (q13 ?_)
 simp only[PP,P1,P2,P3,P4,P5,P6,P7,P8,P9,P10,P11,P12,P13,P14,L1,P15,N1,N2,N3,N4,N5,N6,N7,I1,I2,I3,I4,I5,I6,I7,reduceIte,reduceCtorEq]
 refine accepts_p T BN hw hwl fun b e hA=>?_
 obtain⟨rfl,rfl⟩:=toN_acc S hw hA
 simp only[PP,P1,P2,P3,P4,P5,P6,P7,P8,P9,P10,P11,P12,P13,P14,L1,P15,N1,N2,N3,N4,N5,N6,N7,I1,I2,I3,I4,I5,I6,I7,reduceIte,reduceCtorEq]
 refine q28 (q13 ?_)
 simp only[PP,P1,P2,P3,P4,P5,P6,P7,P8,P9,P10,P11,P12,P13,P14,L1,P15,N1,N2,N3,N4,N5,N6,N7,I1,I2,I3,I4,I5,I6,I7,reduceIte,reduceCtorEq]
 refine renumberZ_p T B (by omega) fun R e hR=>?_
 obtain⟨rfl,o,hO,rfl⟩:=OrdD.ofRen C hR
 simp only[PP,P1,P2,P3,P4,P5,P6,P7,P8,P9,P10,P11,P12,P13,P14,L1,P15,N1,N2,N3,N4,N5,N6,N7,I1,I2,I3,I4,I5,I6,I7,reduceIte,reduceCtorEq]
 refine q28 (q13 ?_)
 simp only[PP,P1,P2,P3,P4,P5,P6,P7,P8,P9,P10,P11,P12,P13,P14,L1,P15,N1,N2,N3,N4,N5,N6,N7,I1,I2,I3,I4,I5,I6,I7,reduceIte,reduceCtorEq]
 refine determinizeZ_p T BN fun R' l e hD=>?_
 obtain⟨rfl,rfl,rfl⟩:=det_toN S hO hD
 simp only[PP,P1,P2,P3,P4,P5,P6,P7,P8,P9,P10,P11,P12,P13,P14,L1,P15,N1,N2,N3,N4,N5,N6,N7,I1,I2,I3,I4,I5,I6,I7,reduceIte,reduceCtorEq]
 refine q28 (q13 ?_)
 simp only[PP,P1,P2,P3,P4,P5,P6,P7,P8,P9,P10,P11,P12,P13,P14,L1,P15,N1,N2,N3,N4,N5,N6,N7,I1,I2,I3,I4,I5,I6,I7,reduceIte,reduceCtorEq]
 refine check_p T BN ?_
 rw[toN_check S]
 simp only[PP,P1,P2,P3,P4,P5,P6,P7,P8,P9,P10,P11,P12,P13,P14,L1,P15,N1,N2,N3,N4,N5,N6,N7,I1,I2,I3,I4,I5,I6,I7,reduceIte,reduceCtorEq]
 refine equalD_p T hO.bn (fun b hb=>?_)
 obtain rfl:b=true:=hb.2 rfl
 simp only[PP,P1,P2,P3,P4,P5,P6,P7,P8,P9,P10,P11,P12,P13,P14,L1,P15,N1,N2,N3,N4,N5,N6,N7,I1,I2,I3,I4,I5,I6,I7,reduceIte,reduceCtorEq]
 refine q13 ?_
 simp only[PP,P1,P2,P3,P4,P5,P6,P7,P8,P9,P10,P11,P12,P13,P14,L1,P15,N1,N2,N3,N4,N5,N6,N7,I1,I2,I3,I4,I5,I6,I7,reduceIte,reduceCtorEq]
 refine loop1 (fun(k:Nat)=>k≤o.length) (fun k=>[Zj,Zj,Zj,Zj,Zj,Zj,Zj,Zj,Zj,Zj,Zj,Zj,Zj,Zj,slR false true false true .i64 (o.map fun s:Nat=>[(s:Int)]),Zj,p64 k,Zj,Zj,Zj,Zj,Zj,Zj,Zj,Zj,Zj,Zj,Zj,Zj,Zj,Zj,Zj,Zj,Zj,Zj,Zj,Zj,Zj,Zj,Zj,Zj,Zj,Zj,Zj,Zj,Zj,Zj,Zj,Zj,Zj,Zj,Zj,Zj,Zj,Zj,Zj,Zj,Zj,Zj,Zj,Zj,Zj,Zj,Zj,Zj,Zj,Zj,Zj,Zj,Zj,Zj,Zj,Zj,Zj,Zj,Zj,Zj,Zj,Zj,Zj,Zj,Zj,Zj,Zj,Zj,Zj,Zj,Zj,Zj,Zj,Zj,Zj,Zj,Zj,Zj,Zj,Zj,Zj,Zj,Zj,Zj,Zj,Zj,Zj,Zj,Zj,Zj,Zj,Zj,Zj,Zj,Zj]) (fun _=>_) (fun k=>o.length-k) 0 (by omega) (by simp only[PW]) rfl ?_
 intro k hle ih
 refine q48 (by kernel_rfl) ?_
 simp only[PP,P1,P2,P3,P4,P5,P6,P7,P8,P9,P10,P11,P12,P13,P14,L1,P15,N1,N2,N3,N4,N5,N6,N7,I1,I2,I3,I4,I5,I6,I7,reduceIte,reduceCtorEq]
 refine QIf.intro (fun c=>?_) (fun c=>?_)
 ·have hk':k<o.length:=by omega
  obtain⟨s,g⟩:=some_of hk'
  have k0:(0:Int)≤k:=by omega
  have hol:=hO.len
  have wk:=q49 (k:=k) (by show _<1000000000000;omega)
  simp only[PP,P1,P2,P3,P4,P5,P6,P7,P8,P9,P10,P11,P12,P13,P14,L1,P15,N1,N2,N3,N4,N5,N6,N7,I1,I2,I3,I4,I5,I6,I7,reduceIte,reduceCtorEq,c,k0,g,wk]
  exact q35 (ih (k+1) (by omega) (by omega)) (by simp only[PW])
 ·simp only[PP,P1,P2,P3,P4,P5,P6,P7,P8,P9,P10,P11,P12,P13,P14,L1,P15,N1,N2,N3,N4,N5,N6,N7,I1,I2,I3,I4,I5,I6,I7,reduceIte,reduceCtorEq,c]
theorem returns_all (args:List AV) (h:H) (hs:ShVs [dfaTy,.slice (.int .u8)] args h):
  ∃n h',(run tab n).call 11 args h=some (.bool true,h'):=by
 obtain⟨a,b,rfl,ha,hb⟩:=shVs2 hs
 obtain⟨D,r1,A⟩:=arg_dfa ha
 obtain⟨w,r4,_,hw⟩:=arg_ints hb
 exact run_of_C (law_of_sem (.cons r1 (.cons r4 (.nil _))) (returns_p T A hw))
end
end Go.Am.Ar

