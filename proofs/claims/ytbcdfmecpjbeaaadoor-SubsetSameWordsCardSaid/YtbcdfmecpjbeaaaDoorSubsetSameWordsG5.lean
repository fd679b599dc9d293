/- Contract: a slice of trues (slices.Repeat), and what goes with it. -/
import Derived.Test.YtbcdfmecpjbeaaaDoorSubsetSameWordsG4
import Derived.Test.YtbcdfmecpjbeaaaDoorPmC
import Derived.Test.YtbcdfmecpjbeaaaDoorSubsetSameWordsG0
import Derived.Test.YtbcdfmecpjbeaaaDoorSubsetSameWordsG3
import Derived.Test.YtbcdfmecpjbeaaaDoorSubsetSameWordsG1
set_option linter.unusedVariables false
set_option linter.unusedSimpArgs false
set_option maxRecDepth 10000
namespace Go.Am.Ar
open Go.Am.PV renaming junk→Zj
open Go.Am renaming pchk→P1,pold→P2,PKNo→P3,ppack→P4,PObj.under→P5,pput→P6,ptset→P7,ptget→P8,pev→P9,ofAV→P10,q42→P11,ppad→P12,pfill→P13,prepl→P14,AO.effect→P15
open List renaming replicate→L1
open Nat renaming reduceAdd→N1,reduceSub→N2,reduceMul→N3,reduceLT→N4,reduceLeDiff→N5,reduceEqDiff→N6,reduceBEq→N7
open Int renaming reduceToNat→I1,reduceLT→I2,reduceLE→I3,reduceEq→I4,reduceAdd→I5,reduceSub→I6,reduceNeg→I7
section
variable {tab:FuncId→Option AF} (T:HasA tab)
include T
end
section
variable {tab:FuncId→Option AF} (T:HasA tab)
include T
end
section
variable {tab:FuncId→Option AF} (T:HasA tab)
include T
end
section
variable {tab:FuncId→Option AF} (T:HasA tab)
include T
end
section
variable {tab:FuncId→Option AF} (T:HasA tab)
include T
end
section
variable {tab:FuncId→Option AF} (T:HasA tab)
include T
end
section
variable {tab:FuncId→Option AF} (T:HasA tab)
include T
end
section
variable {tab:FuncId→Option AF} (T:HasA tab)
include T
end
section
variable {tab:FuncId→Option AF} (T:HasA tab)
include T
end
section
variable {tab:FuncId→Option AF} (T:HasA tab)
include T
end
section
variable {tab:FuncId→Option AF} (T:HasA tab)
include T
end
section
variable {tab:FuncId→Option AF} (T:HasA tab)
include T
end
theorem zeroD_bn:BnD zeroD:=⟨by show 0<1000000000000;omega,fun r hr=>(by cases hr),by show 0<1000000000000;omega⟩
theorem let64 {D:DF} (C:OkD D):lettersD D≤64:=by
 have h6:=C.v6;have h0:=C.v0
 show 2^D.vs.toNat≤2^6
 exact Nat.pow_le_pow_right (by decide) (by omega)
theorem wk_zeroD:PvWk (.agg [p64 0,p64 0,.nils,.nils]) (.agg (dfC false true false true false true zeroD)):=by
 refine PvWk.agg rfl fun i y z h1 h2=>?_
 match i with
 | 0=>cases h1;cases h2;exact PvWk.refl _
 | 1=>cases h1;cases h2;exact PvWk.refl _
 | 2=>cases h1;cases h2;exact PvWk.nils _ _ _
 | 3=>cases h1;cases h2;exact PvWk.nils _ _ _
 | i+4=>cases h1
section
variable {tab:FuncId→Option AF} (T:HasA tab)
include T
end
def DetA (N:NF) (bd:Int) (R:DF) (l:List (List Int)) (e:Int):Prop:=
 (q64 N≠0∧R=zeroD∧l=[]∧e=q64 N)∨(q64 N=0∧(bd<1∨4096<bd)∧R=zeroD∧l=[]∧e=1)∨
 (q64 N=0∧(1≤bd∧bd≤4096)∧OverN (q53 N) (q49 N) (startB N) bd∧R=zeroD∧l=[]∧e=10)∨
 (q64 N=0∧(1≤bd∧bd≤4096)∧∃o,FullN (q53 N) (q49 N) (startB N) o∧(o.length:Int)≤bd∧R=detD N o∧l=setsB o∧e=0)
theorem DetA.eq {N:NF} {bd:Int} {R R':DF} {l l':List (List Int)} {e e':Int} (h:DetA N bd R l e) (h':DetA N bd R' l' e'):R=R'∧l=l'∧e=e':=by
 rcases h with⟨h1,h2,h3,h4⟩ | ⟨h1,h2,h3,h4,h5⟩ | ⟨h1,h2,h3,h4,h5,h6⟩ | ⟨h1,h2,o,h3,h4,h5,h6,h7⟩<;>
 rcases h' with⟨g1,g2,g3,g4⟩ | ⟨g1,g2,g3,g4,g5⟩ | ⟨g1,g2,g3,g4,g5,g6⟩ | ⟨g1,g2,o',g3,g4,g5,g6,g7⟩<;>first
  | (subst_vars;exact⟨rfl,rfl,rfl⟩)
  | exact absurd g1 h1
  | exact absurd h1 g1
  | (exfalso;omega)
  | (have:=h3.over g3;exfalso;omega)
  | (have:=g3.over h3;exfalso;omega)
  | (obtain rfl:=h3.eq g3;subst_vars;exact⟨rfl,rfl,rfl⟩)
structure OrdB (N:NF) (o:List (BitVec 64)):Prop where
 c:q64 N=0
 F:FullN (q53 N) (q49 N) (startB N) o
 le:o.length≤4096
theorem OrdB.pos {N:NF} {o:List (BitVec 64)} (h:OrdB N o):0<o.length:=Nat.lt_of_le_of_lt (Nat.zero_le _) (q17 h.F.zero)
theorem det_len (N:NF) (o:List (BitVec 64)):(detD N o).nx.length=o.length:=by simp[detD,rowsN]
theorem sets_len (o:List (BitVec 64)):(setsB o).length=o.length:=by simp[setsB]
theorem OrdB.ok {N:NF} {o:List (BitVec 64)} (h:OrdB N o):OkD (detD N o):=by
 have C:=nok_of h.c
 refine⟨C.v0,C.v6,by rw[det_len];exact h.pos,by rw[det_len];exact h.le,by rw[det_len];simp[detD],Int.le_refl 0,by rw[det_len];show(0:Int)<_;have:=h.pos;omega,fun r hr=>?_⟩
 have hr:r∈rowsN (q53 N) (q49 N) o:=hr
 unfold rowsN at hr
 obtain⟨a,ha,rfl⟩:=List.mem_map.1 hr
 refine⟨by simp[rowN,detD],fun t ht=>?_⟩
 unfold rowN at ht
 obtain⟨x,hx,rfl⟩:=List.mem_map.1 ht
 have:=q17 (idxOf_atG (h.F.next ha (List.mem_range.1 hx)))
 rw[det_len];omega
theorem OkD.bn {D:DF} (C:OkD D):BnD D:=by
 have h1:=C.n1;have h2:=C.f
 refine⟨by show _<1000000000000;omega,fun r hr=>?_,by show _<1000000000000;omega⟩
 have h3:=(C.r r hr).1
 have h6:=C.v6;have h0:=C.v0
 have:((2^D.vs.toNat:Nat):Int)=2^D.vs.toNat:=by simp
 have h4:2^D.vs.toNat≤2^6:=Nat.pow_le_pow_right (by decide) (by omega)
 show _<1000000000000
 omega
theorem sets_row {o:List (BitVec 64)} :∀r∈setsB o,r.length≤64:=fun r hr=>by
 obtain⟨y,_,rfl⟩:=List.mem_map.1 hr
 rw[List.length_map];exact bitsW_len y
theorem DetA.ord {N:NF} {bd:Int} {o:List (BitVec 64)} (hc:q64 N=0) (hb:bd≤4096) (hF:FullN (q53 N) (q49 N) (startB N) o) (hl:(o.length:Int)≤bd):OrdB N o:=⟨hc,hF,by omega⟩
theorem DetA.bn {N:NF} {bd:Int} {R:DF} {l:List (List Int)} {e:Int} (h:DetA N bd R l e):BnD R∧l.length<big∧∀r∈l,r.length<big:=by
 have z:BnD zeroD∧([]:List (List Int)).length<big∧∀r∈([]:List (List Int)),r.length<big:=⟨zeroD_bn,by show 0<1000000000000;omega,fun r hr=>(by cases hr)⟩
 rcases h with⟨h1,rfl,rfl,h4⟩ | ⟨h1,h2,rfl,rfl,h5⟩ | ⟨h1,h2,h3,rfl,rfl,h6⟩ | ⟨h1,h2,o,h3,h4,rfl,rfl,h7⟩
 ·exact z
 ·exact z
 ·exact z
 ·have hO:=DetA.ord h1 h2.2 h3 h4
  exact⟨hO.ok.bn,by rw[sets_len];show _<1000000000000;have:=hO.le;omega,fun r hr=>by show _<1000000000000;have:=sets_row r hr;omega⟩
theorem lt_pow {a:BitVec 64} {n:Nat} (h:∀k,a.getLsbD k=true→k<n):a.toNat<2^n:=
 Nat.lt_pow_two_of_testBit _ fun i hi=>by
  cases hb:a.toNat.testBit i with
  | false=>rfl
  | true=>have:=h i (by rw[←BitVec.testBit_toNat];exact hb);omega
theorem few_subsets {N:NF} (C:NOk N) (k:Nat):(bfsK (q53 N) (q49 N) (startB N) k).length≤2^N.n.toNat:=by
 have hall:∀a∈bfsK (q53 N) (q49 N) (startB N) k,∀j,a.getLsbD j=true→j<N.n.toNat:=by
  refine bfsK_all (Dm:=fun a:BitVec 64=>∀j,a.getLsbD j=true→j<N.n.toNat) (fun j hj=>?_) (fun a x _ _ j hj=>?_) k
  ·have:=posM_mem C.st _ ((startB_bit C j).1 hj);omega
  ·obtain⟨e,h1,_,h3⟩:=(deltaB_bit C a x j).1 hj
   have:=C.ed e (matE_sub h1);omega
 have hn:=bfsK_nodup (q53 N) (q49 N) (startB N) k
 have h2:((bfsK (q53 N) (q49 N) (startB N) k).map BitVec.toNat).Nodup:=by
  rw[List.nodup_iff_pairwise_ne]at hn ⊢
  rw[List.pairwise_map]
  exact hn.imp fun h e=>h (BitVec.eq_of_toNat_eq e)
 have h3:=nodup_lenN (2^N.n.toNat) _ h2 fun x hx=>by
  obtain⟨a,ha,rfl⟩:=List.mem_map.1 hx
  exact lt_pow (hall a ha)
 simpa using h3
theorem wk_three {a b c a' b' c':PV} (h1:PvWk a a') (h2:PvWk b b') (h3:PvWk c c'):PvWk (.tuple [a,b,c]) (.tuple [a',b',c']):=by
 refine PvWk.tuple rfl fun i y z p q=>?_
 match i with
 | 0=>cases p;cases q;exact h1
 | 1=>cases p;cases q;exact h2
 | 2=>cases p;cases q;exact h3
 | i+3=>cases p
section
variable {tab:FuncId→Option AF} (T:HasA tab)
include T
theorem determinizeZ_p {M:Mem} {K:PV→Mem→Prop} {f1 o1 f2 o2 f3 o3:Bool} {N:NF} {bd:Int} (B:BnN N) (hk:∀R l e,DetA N bd R l e→K (.tuple [.agg (dfC false true false true false true R),slR false true false true .i64 l,p64 e]) M):
  SemC tab 29 [.agg (nfC f1 o1 f2 o2 f3 o3 N),p64 bd] M K:=
 SemC_wk (determinize_p T B (fun h=>⟨_,wk_three wk_zeroD (PvWk.nils _ _ _) (PvWk.refl _),hk zeroD [] _ (.inl ⟨h,rfl,rfl,rfl⟩)⟩) (fun h h2=>⟨_,wk_three wk_zeroD (PvWk.nils _ _ _) (PvWk.refl _),hk zeroD [] _ (.inr (.inl ⟨h,h2,rfl,rfl,rfl⟩))⟩)
  (fun h h1 h2 h3=>⟨_,wk_three wk_zeroD (PvWk.nils _ _ _) (PvWk.refl _),hk zeroD [] _ (.inr (.inr (.inl ⟨h,⟨h1,h2⟩,h3,rfl,rfl,rfl⟩)))⟩) fun h h1 h2 o hF hl=>⟨_,PvWk.refl _,hk _ _ 0 (.inr (.inr (.inr ⟨h,⟨h1,h2⟩,o,hF,hl,rfl,rfl,rfl⟩)))⟩)
end
section
variable {tab:FuncId→Option AF} (T:HasA tab)
include T
end
section
variable {tab:FuncId→Option AF} (T:HasA tab)
include T
end
theorem DetA.all {N:NF} {R:DF} {l:List (List Int)} {e:Int} (h:DetA N 4096 R l e) (hc:q64 N=0) (hn:2^N.n.toNat≤4096):e=0∧∃o,OrdB N o∧R=detD N o∧l=setsB o∧o.length≤2^N.n.toNat:=by
 rcases h with⟨h1,_⟩ | ⟨h1,h2,_⟩ | ⟨h1,h2,⟨k,h3⟩,_⟩ | ⟨h1,h2,o,h3,h4,h5,h6,h7⟩
 ·exact absurd hc h1
 ·omega
 ·have:=few_subsets (nok_of hc) k
  omega
 ·refine⟨h7,o,⟨hc,h3,by omega⟩,h5,h6,?_⟩
  obtain⟨k,rfl,_⟩:=h3
  exact few_subsets (nok_of hc) k
section
variable {tab:FuncId→Option AF} (T:HasA tab)
include T
end
end Go.Am.Ar

