/- Contract: a slice of trues (slices.Repeat), and what goes with it. -/
import Derived.Test.YtbcdfmecpjbeaaaDoorSubsetReturnsG4
import Derived.Test.YtbcdfmecpjbeaaaDoorPmC
import Derived.Test.YtbcdfmecpjbeaaaDoorSubsetReturnsG0
import Derived.Test.YtbcdfmecpjbeaaaDoorSubsetReturnsG3
import Derived.Test.YtbcdfmecpjbeaaaDoorSubsetReturnsG1
set_option linter.unusedVariables false
set_option linter.unusedSimpArgs false
set_option maxRecDepth 10000
namespace Go.Am.Ar
open Go.Am.PV renaming junk→Zj
open Go.Am renaming pchk→P1,pold→P2,PKNo→P3,ppack→P4,PObj.under→P5,pput→P6,ptset→P7,ptget→P8,pev→P9,ofAV→P10,q57→P11,ppad→P12,pfill→P13,prepl→P14,AO.effect→P15
open List renaming replicate→L1
open Nat renaming reduceAdd→N1,reduceSub→N2,reduceMul→N3,reduceLT→N4,reduceLeDiff→N5,reduceEqDiff→N6,reduceBEq→N7
open Int renaming reduceToNat→I1,reduceLT→I2,reduceLE→I3,reduceEq→I4,reduceAdd→I5,reduceSub→I6,reduceNeg→I7
section
variable {tab:FuncId→Option AF} (T:HasA tab)
include T
end
section
variable {tab:FuncId→Option AF} (T:HasA tab)
include T
end
theorem sh_boolsP {cs:List AV} {h:H} (hs:Sh (.slice .bool) cs h):∃v,∃xs:List Bool,cs=[v]∧RepV (wH h) (slB false false xs) v∧xs.length≤9223372036854775807:=by
 obtain⟨v,cells,rfl,h1,h2,h3⟩:=sh_sl rfl hs
 have:∀cells:List AV,(∀c∈cells,Sh .bool [c] h)→∃xs:List Bool,cells=xs.map AV.bool:=by
  intro cells
  induction cells with
  | nil=>intro _;exact⟨[],rfl⟩
  | cons c cells ih=>
   intro hc
   obtain⟨xs,e⟩:=ih (fun c' h'=>hc c' (List.mem_cons_of_mem _ h'))
   obtain⟨b,e1⟩:=hc c (by simp)
   cases e1
   exact⟨b::xs,by simp[e]⟩
 obtain⟨xs,rfl⟩:=this cells h2
 refine⟨v,xs,rfl,?_,by simpa using h1⟩
 have:=h3 (xs.map PV.bool) ⟨by simp,fun i y z p q=>by
  rw[List.getElem?_map]at p q
  cases hx:xs[i]? with
  | none=>rw[hx]at p;cases p
  | some x=>rw[hx]at p q;cases p;cases q;exact .bool x⟩
 simpa using this
section
variable {tab:FuncId→Option AF} (T:HasA tab)
include T
end
section
variable {tab:FuncId→Option AF} (T:HasA tab)
include T
end
section
variable {tab:FuncId→Option AF} (T:HasA tab)
include T
end
section
variable {tab:FuncId→Option AF} (T:HasA tab)
include T
end
section
variable {tab:FuncId→Option AF} (T:HasA tab)
include T
end
section
variable {tab:FuncId→Option AF} (T:HasA tab)
include T
end
section
variable {tab:FuncId→Option AF} (T:HasA tab)
include T
end
theorem wk_two {a b x:PV} (h:PvWk a b):PvWk (.tuple [a,x]) (.tuple [b,x]):=by
 refine PvWk.tuple rfl fun i y z h1 h2=>?_
 match i with
 | 0=>cases h1;cases h2;exact h
 | 1=>cases h1;cases h2;exact PvWk.refl _
 | i+2=>cases h1
section
variable {tab:FuncId→Option AF} (T:HasA tab)
include T
end
def zeroN:NF:=⟨0,0,[],[],[]⟩
theorem wk_zeroN:PvWk (.agg [p64 0,p64 0,.nils,.nils,.nils]) (.agg (nfC false true false true false true zeroN)):=by
 refine PvWk.agg rfl fun i y z h1 h2=>?_
 match i with
 | 0=>cases h1;cases h2;exact PvWk.refl _
 | 1=>cases h1;cases h2;exact PvWk.refl _
 | 2=>cases h1;cases h2;exact PvWk.nils _ _ _
 | 3=>cases h1;cases h2;exact PvWk.nils _ _ _
 | 4=>cases h1;cases h2;exact PvWk.nils _ _ _
 | i+5=>cases h1
section
variable {tab:FuncId→Option AF} (T:HasA tab)
include T
end
def egD (D:DF) (s x:Nat):Eg:=⟨s,(q46 D s x:Nat),x,((q10 D-1-x:Nat):Int)⟩
def egsK (D:DF) (k:Nat):List Eg:=(List.range k).flatMap fun s=>(List.range (q10 D)).map (egD D s)
def finK (D:DF) (k:Nat):List Int:=((List.range k).filter fun s:Nat=>fiD D s).map fun s:Nat=>(s:Int)
def toN (D:DF):NF:=⟨D.vs,D.nx.length,[D.st],finK D D.nx.length,egsK D D.nx.length⟩
def BigD (D:DF):Prop:=64<D.nx.length∨512<D.nx.length*q10 D
theorem finK_succ (D:DF) (k:Nat):finK D (k+1)=if fiD D k=true then finK D k++[(k:Int)] else finK D k:=by
 unfold finK
 rw[List.range_succ,List.filter_append,List.map_append]
 by_cases h:fiD D (k:Int)=true
 ·rw[if_pos h];simp[List.filter_cons,h]
 ·rw[if_neg h];simp[List.filter_cons,h]
theorem finK_len (D:DF) (k:Nat):(finK D k).length≤k:=by
 unfold finK;rw[List.length_map]
 exact Nat.le_trans (List.length_filter_le _ _) (by simp)
theorem egsK_succ (D:DF) (k:Nat):egsK D (k+1)=egsK D k++(List.range (q10 D)).map (egD D k):=by
 unfold egsK;rw[List.range_succ,List.flatMap_append];simp
theorem egsK_len (D:DF):∀k,(egsK D k).length=k*q10 D
 | 0=>by simp[egsK]
 | k+1=>by rw[egsK_succ,List.length_append,egsK_len D k,List.length_map,List.length_range,Nat.succ_mul]
theorem egsJ_succ (D:DF) (k j:Nat):(List.range (j+1)).map (egD D k)=(List.range j).map (egD D k)++[egD D k j]:=by
 rw[List.range_succ,List.map_append];rfl
section
variable {tab:FuncId→Option AF} (T:HasA tab)
include T
set_option maxHeartbeats 1000000 in
theorem tonfa_p {M:Mem} {K:PV→Mem→Prop} {f1 o1 f2 o2 f3 o3:Bool} {D:DF} (B:BnD D) (hn:D.nx.length≤99)
  (hk1:checkD D≠0→K (.tuple [.agg [p64 0,p64 0,.nils,.nils,.nils],p64 (checkD D)]) M)
  (hk3:OkD D→BigD D→K (.tuple [.agg [p64 0,p64 0,.nils,.nils,.nils],p64 4]) M)
  (hk2:OkD D→¬BigD D→K (.tuple [.agg (nfC true true false true false true (toN D)),p64 0]) M):
  SemC tab 42 [.agg (dfC f1 o1 f2 o2 f3 o3 D)] M K:=by
 refine SemC_pureS T.h42 (by simp only[PP,P1,P2,P3,P4,P5,P6,P7,P8,P9,P10,P11,P12,P13,P14,L1,P15,N1,N2,N3,N4,N5,N6,N7,I1,I2,I3,I4,I5,I6,I7,reduceIte,reduceCtorEq]) ?_
 simp only[af42]
 refine q28 (q13 ?_)
 simp only[PP,P1,P2,P3,P4,P5,P6,P7,P8,P9,P10,P11,P12,P13,P14,L1,P15,N1,N2,N3,N4,N5,N6,N7,I1,I2,I3,I4,I5,I6,I7,reduceIte,reduceCtorEq]
 refine q28 (q13 ?_)
 simp only[PP,P1,P2,P3,P4,P5,P6,P7,P8,P9,P10,P11,P12,P13,P14,L1,P15,N1,N2,N3,N4,N5,N6,N7,I1,I2,I3,I4,I5,I6,I7,reduceIte,reduceCtorEq]
 refine dcheck_p T B ?_
 by_cases hc:checkD D=0
 rotate_left
 ·simp only[PP,P1,P2,P3,P4,P5,P6,P7,P8,P9,P10,P11,P12,P13,P14,L1,P15,N1,N2,N3,N4,N5,N6,N7,I1,I2,I3,I4,I5,I6,I7,reduceIte,reduceCtorEq,hc]
  exact hk1 hc
 have C:=okD_iff.1 hc
 have h64:q10 D≤64:=by
  have h6:=C.v6;have h0:=C.v0
  show 2^D.vs.toNat≤2^6
  exact Nat.pow_le_pow_right (by decide) (by omega)
 have hl0:0<q10 D:=Nat.pow_pos (by decide)
 have hshl:pbin .shl (.int .i64 1) (.int .i64 D.vs)=some (.int .i64 ((q10 D:Nat):Int)):=by
  rw[shl_one (by have:=C.v0;omega) (by have:=C.v6;omega)];simp
 simp only[PP,P1,P2,P3,P4,P5,P6,P7,P8,P9,P10,P11,P12,P13,P14,L1,P15,N1,N2,N3,N4,N5,N6,N7,I1,I2,I3,I4,I5,I6,I7,reduceIte,reduceCtorEq,hc]
 refine q28 (q13 ?_)
 simp only[PP,P1,P2,P3,P4,P5,P6,P7,P8,P9,P10,P11,P12,P13,P14,L1,P15,N1,N2,N3,N4,N5,N6,N7,I1,I2,I3,I4,I5,I6,I7,reduceIte,reduceCtorEq,hshl]
 have hmul:D.nx.length*q10 D≤99*64:=Nat.mul_le_mul hn h64
 have wm:IntKind.i64.wrap ((D.nx.length:Int)*(q10 D:Nat))=((D.nx.length*q10 D:Nat):Int):=by
  rw[show(D.nx.length:Int)*(q10 D:Nat)=((D.nx.length*q10 D:Nat):Int) by simp]
  exact wrap64 (by omega) (by omega)
 by_cases c64:(64:Int)<D.nx.length
 ·refine q13 ?_
  simp only[PP,P1,P2,P3,P4,P5,P6,P7,P8,P9,P10,P11,P12,P13,P14,L1,P15,N1,N2,N3,N4,N5,N6,N7,I1,I2,I3,I4,I5,I6,I7,reduceIte,reduceCtorEq,c64]
  exact hk3 C (.inl (by omega))
 by_cases c512:(512:Int)<((D.nx.length*q10 D:Nat):Int)
 ·refine q13 ?_
  simp only[PP,P1,P2,P3,P4,P5,P6,P7,P8,P9,P10,P11,P12,P13,P14,L1,P15,N1,N2,N3,N4,N5,N6,N7,I1,I2,I3,I4,I5,I6,I7,reduceIte,reduceCtorEq,c64,wm,c512]
  exact hk3 C (.inr (by omega))
 refine q28 (q13 ?_)
 simp only[PP,P1,P2,P3,P4,P5,P6,P7,P8,P9,P10,P11,P12,P13,P14,L1,P15,N1,N2,N3,N4,N5,N6,N7,I1,I2,I3,I4,I5,I6,I7,reduceIte,reduceCtorEq,c64,wm,c512]
 refine q28 (q13 ?_)
 simp only[PP,P1,P2,P3,P4,P5,P6,P7,P8,P9,P10,P11,P12,P13,P14,L1,P15,N1,N2,N3,N4,N5,N6,N7,I1,I2,I3,I4,I5,I6,I7,reduceIte,reduceCtorEq]
 have C2:=hk2 C (by rintro(h | h)<;>omega)
 refine SemW_re (GStep.nilbox 1 3 1 (g:=0) (ver:=1) (cs:=[p64 D.vs,p64 D.nx.length,slI true true .i64 [D.st],.nils,.nils]) rfl rfl rfl) ?_
 simp only[PP,P1,P2,P3,P4,P5,P6,P7,P8,P9,P10,P11,P12,P13,P14,L1,P15,N1,N2,N3,N4,N5,N6,N7,I1,I2,I3,I4,I5,I6,I7,reduceIte,reduceCtorEq]
 refine SemW_re (GStep.nilbox 1 4 4 (g:=0) (ver:=1) (cs:=[p64 D.vs,p64 D.nx.length,slI true true .i64 [D.st],.ref 2 0 1 0 0,.nils]) rfl rfl rfl) ?_
 refine q13 ?_
 simp only[PP,P1,P2,P3,P4,P5,P6,P7,P8,P9,P10,P11,P12,P13,P14,L1,P15,N1,N2,N3,N4,N5,N6,N7,I1,I2,I3,I4,I5,I6,I7,reduceIte,reduceCtorEq]
 refine loop4 (fun(k g g2 v:Nat)=>k≤D.nx.length) (fun k g g2 v=>[Zj,.ptr 0 0 0,.ptr 1 0 0,Zj,Zj,p64 (q10 D:Nat),Zj,Zj,Zj,Zj,Zj,Zj,Zj,Zj,Zj,Zj,Zj,Zj,Zj,Zj,Zj,Zj,Zj,Zj,Zj,Zj,Zj,Zj,Zj,Zj,Zj,Zj,Zj,Zj,Zj,Zj,Zj,Zj,Zj,Zj,Zj,Zj,slR f1 o1 f2 o2 .i64 D.nx,p64 D.nx.length,p64 k,Zj,Zj,Zj,Zj,Zj,Zj,Zj,Zj,Zj,Zj,Zj,Zj,Zj,Zj,Zj,Zj,Zj,Zj,Zj,Zj,Zj,Zj,Zj,Zj,Zj,Zj,Zj,Zj,Zj,Zj,Zj,Zj,Zj,Zj,Zj,Zj,Zj,Zj,Zj,Zj])
  (fun k g g2 v=>[.cells 0 0 (dfC f1 o1 f2 o2 f3 o3 D),.cells 0 v [p64 D.vs,p64 D.nx.length,slI true true .i64 [D.st],.ref 2 g 1 0 (finK D k).length,.ref 3 g2 4 0 (egsK D k).length],.cells g 0 ((finK D k).map p64),.cells g2 0 (egL (egsK D k))])
  (fun k g g2 v=>D.nx.length-k) 0 0 0 1 (by omega) (by simp only[PW]) rfl ?_
 intro k g g2 v hle ih
 refine q48 (by kernel_rfl) ?_
 simp only[PP,P1,P2,P3,P4,P5,P6,P7,P8,P9,P10,P11,P12,P13,P14,L1,P15,N1,N2,N3,N4,N5,N6,N7,I1,I2,I3,I4,I5,I6,I7,reduceIte,reduceCtorEq]
 refine QIf.intro (fun c=>?_) (fun c=>?_)
 rotate_left
 ·obtain rfl:k=D.nx.length:=by omega
  have hfz:frzO (some (PObj.cells g2 0 (egL (egsK D D.nx.length)))) g2 4 0 (egsK D D.nx.length).length=some (slE false true (egsK D D.nx.length)):=by
   rw[frzO_cells (by rw[egL_len];omega) (egL_und _ _),q63 _ _ (by rw[egL_len])]
  simp only[PP,P1,P2,P3,P4,P5,P6,P7,P8,P9,P10,P11,P12,P13,P14,L1,P15,N1,N2,N3,N4,N5,N6,N7,I1,I2,I3,I4,I5,I6,I7,reduceIte,reduceCtorEq,c,hfz]
  exact C2
 have hk':k<D.nx.length:=by omega
 obtain⟨r,g1,g2',g3⟩:=C.row hk'
 have k0:(0:Int)≤k:=by omega
 have wk:=q49 (k:=k) (by show _<1000000000000;omega)
 obtain⟨f1',f2'⟩:=C.fin (s:=k) k0 (by omega)
 simp only[Int.toNat_natCast]at f1'
 have hfl:=finK_len D k
 have b1:((finK D k).length+1)*8≤140737488355328:=by omega
 have b2:(finK D k).length+1≤9223372036854775807:=by omega
 have hel:(egsK D k).length≤512:=by
  rw[egsK_len]
  exact Nat.le_trans (Nat.mul_le_mul_right _ hle) (by omega)
 simp only[PP,P1,P2,P3,P4,P5,P6,P7,P8,P9,P10,P11,P12,P13,P14,L1,P15,N1,N2,N3,N4,N5,N6,N7,I1,I2,I3,I4,I5,I6,I7,reduceIte,reduceCtorEq,c,k0,g1,f1',f2',ZCond_bool]
 apply QIf_both
 ·intro q gg
  simp only[PP,P1,P2,P3,P4,P5,P6,P7,P8,P9,P10,P11,P12,P13,P14,L1,P15,N1,N2,N3,N4,N5,N6,N7,I1,I2,I3,I4,I5,I6,I7,reduceIte,reduceCtorEq,q,b1,b2]
  refine SemW_to (b:=[Zj,.ptr 0 0 0,.ptr 1 0 0,Zj,Zj,p64 (q10 D:Nat),p64 k,Zj,Zj,Zj,Zj,Zj,Zj,Zj,Zj,Zj,Zj,Zj,Zj,Zj,Zj,Zj,Zj,Zj,Zj,Zj,Zj,Zj,Zj,Zj,Zj,Zj,Zj,Zj,Zj,Zj,Zj,Zj,Zj,Zj,Zj,Zj,slR f1 o1 f2 o2 .i64 D.nx,p64 D.nx.length,p64 k,Zj,Zj,Zj,Zj,Zj,Zj,Zj,Zj,Zj,Zj,Zj,Zj,Zj,Zj,Zj,slI f2 o2 .i64 r,p64 r.length,p64 0,Zj,Zj,Zj,Zj,Zj,Zj,Zj,Zj,Zj,Zj,Zj,Zj,Zj,Zj,Zj,Zj,Zj,Zj,Zj,Zj,Zj,Zj]) (N:=[.cells 0 0 (dfC f1 o1 f2 o2 f3 o3 D),.cells 0 (if fiD D k=true then v+1 else v) [p64 D.vs,p64 D.nx.length,slI true true .i64 [D.st],.ref 2 (if fiD D k=true then g+1 else g) 1 0 (finK D (k+1)).length,.ref 3 g2 4 0 (egsK D k).length],.cells (if fiD D k=true then g+1 else g) 0 ((finK D (k+1)).map p64),.cells g2 0 (egL (egsK D k))]) gg (by simp only[PW]) ?_
  rw[finK_succ,if_pos q,if_pos q,if_pos q]
  simp only[PP,P1,P2,P3,P4,P5,P6,P7,P8,P9,P10,P11,P12,P13,P14,L1,P15,N1,N2,N3,N4,N5,N6,N7,I1,I2,I3,I4,I5,I6,I7,reduceIte,reduceCtorEq]
 ·intro q gg
  simp only[PP,P1,P2,P3,P4,P5,P6,P7,P8,P9,P10,P11,P12,P13,P14,L1,P15,N1,N2,N3,N4,N5,N6,N7,I1,I2,I3,I4,I5,I6,I7,reduceIte,reduceCtorEq,q]
  refine SemW_to gg (by simp only[PW]) ?_
  rw[finK_succ,if_neg q,if_neg q,if_neg q]
 generalize (if fiD D k=true then v+1 else v)=v1
 generalize (if fiD D k=true then g+1 else g)=ga
 refine loop3 (fun(j g2 v1:Nat)=>j≤q10 D) (fun j g2 v1=>[Zj,.ptr 0 0 0,.ptr 1 0 0,Zj,Zj,p64 (q10 D:Nat),p64 k,Zj,Zj,Zj,Zj,Zj,Zj,Zj,Zj,Zj,Zj,Zj,Zj,Zj,Zj,Zj,Zj,Zj,Zj,Zj,Zj,Zj,Zj,Zj,Zj,Zj,Zj,Zj,Zj,Zj,Zj,Zj,Zj,Zj,Zj,Zj,slR f1 o1 f2 o2 .i64 D.nx,p64 D.nx.length,p64 k,Zj,Zj,Zj,Zj,Zj,Zj,Zj,Zj,Zj,Zj,Zj,Zj,Zj,Zj,Zj,slI f2 o2 .i64 r,p64 r.length,p64 j,Zj,Zj,Zj,Zj,Zj,Zj,Zj,Zj,Zj,Zj,Zj,Zj,Zj,Zj,Zj,Zj,Zj,Zj,Zj,Zj,Zj,Zj])
  (fun j g2 v1=>[.cells 0 0 (dfC f1 o1 f2 o2 f3 o3 D),.cells 0 v1 [p64 D.vs,p64 D.nx.length,slI true true .i64 [D.st],.ref 2 ga 1 0 (finK D (k+1)).length,.ref 3 g2 4 0 (egsK D k++(List.range j).map (egD D k)).length],.cells ga 0 ((finK D (k+1)).map p64),.cells g2 0 (egL (egsK D k++(List.range j).map (egD D k)))])
  (fun j g2 v1=>q10 D-j) 0 g2 v1 (by omega) (by simp only[PW]) (by simp) ?_
 intro j g2 v1 jle ih2
 refine q48 (by kernel_rfl) ?_
 simp only[PP,P1,P2,P3,P4,P5,P6,P7,P8,P9,P10,P11,P12,P13,P14,L1,P15,N1,N2,N3,N4,N5,N6,N7,I1,I2,I3,I4,I5,I6,I7,reduceIte,reduceCtorEq]
 refine QIf.intro (fun d=>?_) (fun d=>?_)
 ·have hj':j<q10 D:=by omega
  have j0:(0:Int)≤j:=by omega
  have wj:=q49 (k:=j) (by show _<1000000000000;omega)
  obtain⟨g4,g5⟩:=g3 j hj'
  have w1:IntKind.i64.wrap (((q10 D:Nat):Int)-1)=((q10 D-1:Nat):Int):=by rw[wrap64 (by omega) (by omega)];omega
  have w2:IntKind.i64.wrap (((q10 D-1:Nat):Int)-j)=((q10 D-1-j:Nat):Int):=by rw[wrap64 (by omega) (by omega)];omega
  have w3:IntKind.u8.wrap (j:Int)=j:=wrap8 (by omega)
  have w4:IntKind.u8.wrap ((q10 D-1-j:Nat):Int)=((q10 D-1-j:Nat):Int):=wrap8 (by omega)
  simp only[PP,P1,P2,P3,P4,P5,P6,P7,P8,P9,P10,P11,P12,P13,P14,L1,P15,N1,N2,N3,N4,N5,N6,N7,I1,I2,I3,I4,I5,I6,I7,reduceIte,reduceCtorEq,d,j0,g4,wj,w1,w2,w3,w4]
  refine⟨⟨by rw[egL_len];simp,by simp;omega,by simp;omega⟩,?_⟩
  refine SemW_to (ih2 (j+1) (g2+1) (v1+1) (by omega) (by omega)) (by simp only[PW]) ?_
  rw[q63 _ _ (by rw[egL_len];simp),egsJ_succ,←List.append_assoc,←egL_app]
  simp[egD,Nat.add_assoc]
 ·have ej:j=q10 D:=by omega
  rw[ej,←egsK_succ]
  simp only[PP,P1,P2,P3,P4,P5,P6,P7,P8,P9,P10,P11,P12,P13,P14,L1,P15,N1,N2,N3,N4,N5,N6,N7,I1,I2,I3,I4,I5,I6,I7,reduceIte,reduceCtorEq,d,wk]
  refine SemW_to (ih (k+1) ga g2 v1 (by omega) (by omega)) (by simp only[PW]) ?_
  rw[egsK_succ];simp
end
def RenA (D R:DF) (e:Int):Prop:=(checkD D≠0∧R=zeroD∧e=checkD D)∨(e=0∧∃o,OrdD D o∧R=renD D o)
def TonA (D:DF) (N:NF) (e:Int):Prop:=(checkD D≠0∧N=zeroN∧e=checkD D)∨(OkD D∧BigD D∧N=zeroN∧e=4)∨(OkD D∧¬BigD D∧N=toN D∧e=0)
theorem RenA.eq {D R R':DF} {e e':Int} (h:RenA D R e) (h':RenA D R' e'):R=R'∧e=e':=by
 rcases h with⟨h1,h2,h3⟩ | ⟨h1,o,h2,h3⟩<;>rcases h' with⟨g1,g2,g3⟩ | ⟨g1,o',g2,g3⟩
 ·subst_vars;exact⟨rfl,rfl⟩
 ·exact absurd (okD_iff.2 g2.C) h1
 ·exact absurd (okD_iff.2 h2.C) g1
 ·obtain rfl:=h2.F.eq g2.F
  exact⟨by rw[h3,g3],by rw[h1,g1]⟩
theorem TonA.eq {D:DF} {N N':NF} {e e':Int} (h:TonA D N e) (h':TonA D N' e'):N=N'∧e=e':=by
 rcases h with⟨h1,h2,h3⟩ | ⟨h1,h2,h3,h4⟩ | ⟨h1,h2,h3,h4⟩<;>rcases h' with⟨g1,g2,g3⟩ | ⟨g1,g2,g3,g4⟩ | ⟨g1,g2,g3,g4⟩<;>first
  | (subst_vars;exact⟨rfl,rfl⟩)
  | exact absurd (okD_iff.2 g1) h1
  | exact absurd (okD_iff.2 h1) g1
  | exact absurd h2 g2
  | exact absurd g2 h2
theorem zeroD_bn:BnD zeroD:=⟨by show 0<1000000000000;omega,fun r hr=>(by cases hr),by show 0<1000000000000;omega⟩
theorem RenA.bn {D R:DF} {e:Int} (h:RenA D R e):BnD R:=by
 rcases h with⟨_,rfl,_⟩ | ⟨_,o,h,rfl⟩
 ·exact zeroD_bn
 ·exact h.bn
theorem let64 {D:DF} (C:OkD D):q10 D≤64:=by
 have h6:=C.v6;have h0:=C.v0
 show 2^D.vs.toNat≤2^6
 exact Nat.pow_le_pow_right (by decide) (by omega)
theorem egsK_mem {D:DF} {k:Nat} {e:Eg} (h:e∈egsK D k):∃s x,s<k∧x<q10 D∧e=egD D s x:=by
 unfold egsK at h
 obtain⟨s,h1,h2⟩:=List.mem_flatMap.1 h
 obtain⟨x,h3,h4⟩:=List.mem_map.1 h2
 exact⟨s,x,List.mem_range.1 h1,List.mem_range.1 h3,h4.symm⟩
theorem toN_bn {D:DF} (C:OkD D):BnN (toN D):=by
 have n1:=C.n1
 have h64:=let64 C
 refine⟨by show 1<1000000000000;omega,?_,?_,fun e he=>?_⟩
 ·have:=finK_len D D.nx.length
  show(finK D D.nx.length).length<1000000000000;omega
 ·show(egsK D D.nx.length).length<1000000000000
  rw[egsK_len]
  have:=Nat.mul_le_mul n1 h64
  omega
 ·obtain⟨s,x,h1,h2,rfl⟩:=egsK_mem he
  refine⟨⟨?_,?_⟩,?_,?_⟩<;>simp only[egD]<;>omega
theorem toN_fit {D:DF} (C:OkD D):∀e∈(toN D).es,e.fit:=by
 intro e he
 have n1:=C.n1
 have h64:=let64 C
 obtain⟨s,x,h1,h2,rfl⟩:=egsK_mem he
 have hd:=(C.delta h1 h2).choose_spec.2.2.2
 unfold Eg.fit egD
 simp only
 refine⟨⟨by omega,by omega⟩,⟨by omega,by omega⟩,⟨by omega,by omega⟩,by omega,by omega⟩
theorem TonA.bn {D:DF} {N:NF} {e:Int} (h:TonA D N e):BnN N∧∀x∈N.es,x.fit:=by
 have z:BnN zeroN∧∀x∈zeroN.es,x.fit:=⟨⟨by show 0<1000000000000;omega,by show 0<1000000000000;omega,by show 0<1000000000000;omega,fun x hx=>(by cases hx)⟩,fun x hx=>(by cases hx)⟩
 rcases h with⟨_,rfl,_⟩ | ⟨_,_,rfl,_⟩ | ⟨C,_,rfl,_⟩
 ·exact z
 ·exact z
 ·exact⟨toN_bn C,toN_fit C⟩
theorem wk_zeroD:PvWk (.agg [p64 0,p64 0,.nils,.nils]) (.agg (dfC false true false true false true zeroD)):=by
 refine PvWk.agg rfl fun i y z h1 h2=>?_
 match i with
 | 0=>cases h1;cases h2;exact PvWk.refl _
 | 1=>cases h1;cases h2;exact PvWk.refl _
 | 2=>cases h1;cases h2;exact PvWk.nils _ _ _
 | 3=>cases h1;cases h2;exact PvWk.nils _ _ _
 | i+4=>cases h1
theorem wk_start (N:NF):PvWk (.agg (nfC true true false true false true N)) (.agg (nfC false true false true false true N)):=by
 refine PvWk.agg rfl fun i y z h1 h2=>?_
 match i with
 | 0=>cases h1;cases h2;exact PvWk.refl _
 | 1=>cases h1;cases h2;exact PvWk.refl _
 | 2=>cases h1;cases h2;exact PvWk.sl _ _ _ _
 | 3=>cases h1;cases h2;exact PvWk.refl _
 | 4=>cases h1;cases h2;exact PvWk.refl _
 | i+5=>cases h1
section
variable {tab:FuncId→Option AF} (T:HasA tab)
include T
theorem renumberZ_p {M:Mem} {K:PV→Mem→Prop} {f1 o1 f2 o2 f3 o3:Bool} {D:DF} (B:BnD D) (hn:D.nx.length≤99) (hk:∀R e,RenA D R e→K (.tuple [.agg (dfC false true false true false true R),p64 e]) M):
  SemC tab 39 [.agg (dfC f1 o1 f2 o2 f3 o3 D)] M K:=
 SemC_wk (renumber_p T B hn (fun h=>⟨_,wk_two wk_zeroD,hk zeroD _ (.inl ⟨h,rfl,rfl⟩)⟩) fun C o F=>⟨_,PvWk.refl _,hk _ 0 (.inr ⟨rfl,o,.of C F,rfl⟩)⟩)
theorem tonfaZ_p {M:Mem} {K:PV→Mem→Prop} {f1 o1 f2 o2 f3 o3:Bool} {D:DF} (B:BnD D) (hn:D.nx.length≤99) (hk:∀N e,TonA D N e→K (.tuple [.agg (nfC false true false true false true N),p64 e]) M):
  SemC tab 42 [.agg (dfC f1 o1 f2 o2 f3 o3 D)] M K:=
 SemC_wk (tonfa_p T B hn (fun h=>⟨_,wk_two wk_zeroN,hk zeroN _ (.inl ⟨h,rfl,rfl⟩)⟩) (fun C h=>⟨_,wk_two wk_zeroN,hk zeroN _ (.inr (.inl ⟨C,h,rfl,rfl⟩))⟩) fun C h=>⟨_,wk_two (wk_start _),hk _ 0 (.inr (.inr ⟨C,h,rfl,rfl⟩))⟩)
end
def DetA (N:NF) (bd:Int) (R:DF) (l:List (List Int)) (e:Int):Prop:=
 (checkN N≠0∧R=zeroD∧l=[]∧e=checkN N)∨(checkN N=0∧(bd<1∨4096<bd)∧R=zeroD∧l=[]∧e=1)∨
 (checkN N=0∧(1≤bd∧bd≤4096)∧OverN (q60 N) (q58 N) (startB N) bd∧R=zeroD∧l=[]∧e=10)∨
 (checkN N=0∧(1≤bd∧bd≤4096)∧∃o,FullN (q60 N) (q58 N) (startB N) o∧(o.length:Int)≤bd∧R=detD N o∧l=setsB o∧e=0)
theorem DetA.eq {N:NF} {bd:Int} {R R':DF} {l l':List (List Int)} {e e':Int} (h:DetA N bd R l e) (h':DetA N bd R' l' e'):R=R'∧l=l'∧e=e':=by
 rcases h with⟨h1,h2,h3,h4⟩ | ⟨h1,h2,h3,h4,h5⟩ | ⟨h1,h2,h3,h4,h5,h6⟩ | ⟨h1,h2,o,h3,h4,h5,h6,h7⟩<;>
 rcases h' with⟨g1,g2,g3,g4⟩ | ⟨g1,g2,g3,g4,g5⟩ | ⟨g1,g2,g3,g4,g5,g6⟩ | ⟨g1,g2,o',g3,g4,g5,g6,g7⟩<;>first
  | (subst_vars;exact⟨rfl,rfl,rfl⟩)
  | exact absurd g1 h1
  | exact absurd h1 g1
  | (exfalso;omega)
  | (have:=h3.over g3;exfalso;omega)
  | (have:=g3.over h3;exfalso;omega)
  | (obtain rfl:=h3.eq g3;subst_vars;exact⟨rfl,rfl,rfl⟩)
structure OrdB (N:NF) (o:List (BitVec 64)):Prop where
 c:checkN N=0
 F:FullN (q60 N) (q58 N) (startB N) o
 le:o.length≤4096
theorem OrdB.pos {N:NF} {o:List (BitVec 64)} (h:OrdB N o):0<o.length:=Nat.lt_of_le_of_lt (Nat.zero_le _) (q27 h.F.zero)
theorem det_len (N:NF) (o:List (BitVec 64)):(detD N o).nx.length=o.length:=by simp[detD,rowsN]
theorem sets_len (o:List (BitVec 64)):(setsB o).length=o.length:=by simp[setsB]
theorem OrdB.ok {N:NF} {o:List (BitVec 64)} (h:OrdB N o):OkD (detD N o):=by
 have C:=nok_of h.c
 refine⟨C.v0,C.v6,by rw[det_len];exact h.pos,by rw[det_len];exact h.le,by rw[det_len];simp[detD],Int.le_refl 0,by rw[det_len];show(0:Int)<_;have:=h.pos;omega,fun r hr=>?_⟩
 have hr:r∈rowsN (q60 N) (q58 N) o:=hr
 unfold rowsN at hr
 obtain⟨a,ha,rfl⟩:=List.mem_map.1 hr
 refine⟨by simp[rowN,detD],fun t ht=>?_⟩
 unfold rowN at ht
 obtain⟨x,hx,rfl⟩:=List.mem_map.1 ht
 have:=q27 (idxOf_atG (h.F.next ha (List.mem_range.1 hx)))
 rw[det_len];omega
theorem OkD.bn {D:DF} (C:OkD D):BnD D:=by
 have h1:=C.n1;have h2:=C.f
 refine⟨by show _<1000000000000;omega,fun r hr=>?_,by show _<1000000000000;omega⟩
 have h3:=(C.r r hr).1
 have h6:=C.v6;have h0:=C.v0
 have:((2^D.vs.toNat:Nat):Int)=2^D.vs.toNat:=by simp
 have h4:2^D.vs.toNat≤2^6:=Nat.pow_le_pow_right (by decide) (by omega)
 show _<1000000000000
 omega
theorem sets_row {o:List (BitVec 64)} :∀r∈setsB o,r.length≤64:=fun r hr=>by
 obtain⟨y,_,rfl⟩:=List.mem_map.1 hr
 rw[List.length_map];exact bitsW_len y
theorem DetA.ord {N:NF} {bd:Int} {o:List (BitVec 64)} (hc:checkN N=0) (hb:bd≤4096) (hF:FullN (q60 N) (q58 N) (startB N) o) (hl:(o.length:Int)≤bd):OrdB N o:=⟨hc,hF,by omega⟩
theorem DetA.bn {N:NF} {bd:Int} {R:DF} {l:List (List Int)} {e:Int} (h:DetA N bd R l e):BnD R∧l.length<big∧∀r∈l,r.length<big:=by
 have z:BnD zeroD∧([]:List (List Int)).length<big∧∀r∈([]:List (List Int)),r.length<big:=⟨zeroD_bn,by show 0<1000000000000;omega,fun r hr=>(by cases hr)⟩
 rcases h with⟨h1,rfl,rfl,h4⟩ | ⟨h1,h2,rfl,rfl,h5⟩ | ⟨h1,h2,h3,rfl,rfl,h6⟩ | ⟨h1,h2,o,h3,h4,rfl,rfl,h7⟩
 ·exact z
 ·exact z
 ·exact z
 ·have hO:=DetA.ord h1 h2.2 h3 h4
  exact⟨hO.ok.bn,by rw[sets_len];show _<1000000000000;have:=hO.le;omega,fun r hr=>by show _<1000000000000;have:=sets_row r hr;omega⟩
theorem lt_pow {a:BitVec 64} {n:Nat} (h:∀k,a.getLsbD k=true→k<n):a.toNat<2^n:=
 Nat.lt_pow_two_of_testBit _ fun i hi=>by
  cases hb:a.toNat.testBit i with
  | false=>rfl
  | true=>have:=h i (by rw[←BitVec.testBit_toNat];exact hb);omega
theorem few_subsets {N:NF} (C:NOk N) (k:Nat):(bfsK (q60 N) (q58 N) (startB N) k).length≤2^N.n.toNat:=by
 have hall:∀a∈bfsK (q60 N) (q58 N) (startB N) k,∀j,a.getLsbD j=true→j<N.n.toNat:=by
  refine bfsK_all (Dm:=fun a:BitVec 64=>∀j,a.getLsbD j=true→j<N.n.toNat) (fun j hj=>?_) (fun a x _ _ j hj=>?_) k
  ·have:=posM_mem C.st _ ((startB_bit C j).1 hj);omega
  ·obtain⟨e,h1,_,h3⟩:=(deltaB_bit C a x j).1 hj
   have:=C.ed e (matE_sub h1);omega
 have hn:=bfsK_nodup (q60 N) (q58 N) (startB N) k
 have h2:((bfsK (q60 N) (q58 N) (startB N) k).map BitVec.toNat).Nodup:=by
  rw[List.nodup_iff_pairwise_ne]at hn ⊢
  rw[List.pairwise_map]
  exact hn.imp fun h e=>h (BitVec.eq_of_toNat_eq e)
 have h3:=nodup_lenN (2^N.n.toNat) _ h2 fun x hx=>by
  obtain⟨a,ha,rfl⟩:=List.mem_map.1 hx
  exact lt_pow (hall a ha)
 simpa using h3
theorem wk_three {a b c a' b' c':PV} (h1:PvWk a a') (h2:PvWk b b') (h3:PvWk c c'):PvWk (.tuple [a,b,c]) (.tuple [a',b',c']):=by
 refine PvWk.tuple rfl fun i y z p q=>?_
 match i with
 | 0=>cases p;cases q;exact h1
 | 1=>cases p;cases q;exact h2
 | 2=>cases p;cases q;exact h3
 | i+3=>cases p
section
variable {tab:FuncId→Option AF} (T:HasA tab)
include T
theorem determinizeZ_p {M:Mem} {K:PV→Mem→Prop} {f1 o1 f2 o2 f3 o3:Bool} {N:NF} {bd:Int} (B:BnN N) (hk:∀R l e,DetA N bd R l e→K (.tuple [.agg (dfC false true false true false true R),slR false true false true .i64 l,p64 e]) M):
  SemC tab 29 [.agg (nfC f1 o1 f2 o2 f3 o3 N),p64 bd] M K:=
 SemC_wk (determinize_p T B (fun h=>⟨_,wk_three wk_zeroD (PvWk.nils _ _ _) (PvWk.refl _),hk zeroD [] _ (.inl ⟨h,rfl,rfl,rfl⟩)⟩) (fun h h2=>⟨_,wk_three wk_zeroD (PvWk.nils _ _ _) (PvWk.refl _),hk zeroD [] _ (.inr (.inl ⟨h,h2,rfl,rfl,rfl⟩))⟩)
  (fun h h1 h2 h3=>⟨_,wk_three wk_zeroD (PvWk.nils _ _ _) (PvWk.refl _),hk zeroD [] _ (.inr (.inr (.inl ⟨h,⟨h1,h2⟩,h3,rfl,rfl,rfl⟩)))⟩) fun h h1 h2 o hF hl=>⟨_,PvWk.refl _,hk _ _ 0 (.inr (.inr (.inr ⟨h,⟨h1,h2⟩,o,hF,hl,rfl,rfl,rfl⟩)))⟩)
end
abbrev dfaTy:Ty:= .pair (.int .i64) (.pair (.int .i64) (.pair (.slice (.slice (.int .i64))) (.pair (.slice .bool) .unit)))
structure NumD (D:DF):Prop where
 v: -9223372036854775808≤D.vs∧D.vs≤9223372036854775807
 s: -9223372036854775808≤D.st∧D.st≤9223372036854775807
 l:D.nx.length≤9223372036854775807
 r:∀r∈D.nx,r.length≤9223372036854775807∧∀x∈r,-9223372036854775808≤x∧x≤9223372036854775807
 f:D.fi.length≤9223372036854775807
theorem arg_dfa {v:AV} {h:H} (hs:ShV dfaTy v h):∃D:DF,RepV (wH h) (.agg (dfC false false false false false false D)) v∧NumD D:=by
 obtain⟨avs,hs,rfl⟩:=hs
 obtain⟨c1,c2,rfl,⟨a,rfl,a1,a2⟩,c3,c4,rfl,⟨b,rfl,b1,b2⟩,c5,c6,rfl,h3,c7,c8,rfl,h4,h6⟩:=hs
 have h6:c8=[]:=h6
 subst h6
 obtain⟨vo,nx,rfl,p1,q1,r1⟩:=sh_rowsP h3
 obtain⟨vp,fi,rfl,p2,q2⟩:=sh_boolsP h4
 refine⟨⟨a,b,nx,fi⟩,?_,⟨⟨a1,a2⟩,⟨b1,b2⟩,q1,r1,q2⟩⟩
 have:=RepL.cons (.int .i64 a) (.cons (.int .i64 b) (.cons p1 (.cons p2 (.nil (wH h)))))
 exact .agg this.len this.get
def longD (D:DF):Bool:=decide (40<D.nx.length)||decide (40<D.fi.length)||D.nx.any fun r=>decide (100<r.length)
theorem longD_ok {D:DF} (h:longD D=false):D.nx.length≤40∧D.fi.length≤40∧∀r∈D.nx,r.length≤100:=by
 simp only[longD,Bool.or_eq_false_iff,decide_eq_false_iff_not,List.any_eq_false]at h
 exact⟨by omega,by omega,fun r hr=>by have:=h.2 r hr;simp only[decide_eq_true_eq]at this;omega⟩
theorem longD_bn {D:DF} (h:longD D=false):BnD D:=by
 obtain⟨h1,h2,h3⟩:=longD_ok h
 exact⟨by show _<1000000000000;omega,fun r hr=>by show _<1000000000000;have:=h3 r hr;omega,by show _<1000000000000;omega⟩
section
variable {tab:FuncId→Option AF} (T:HasA tab)
include T
theorem longD_p {M:Mem} {K:PV→Mem→Prop} {f1 o1 f2 o2 f3 o3:Bool} {D:DF} (hk:K (.bool (longD D)) M):
  SemC tab 12 [.sl true true 4 1 (dfC f1 o1 f2 o2 f3 o3 D)] M K:=by
 refine q18 T.h12 (by simp only[PP,P1,P2,P3,P4,P5,P6,P7,P8,P9,P10,P11,P12,P13,P14,L1,P15,N1,N2,N3,N4,N5,N6,N7,I1,I2,I3,I4,I5,I6,I7,reduceIte,reduceCtorEq,PV.under]) ?_
 simp only[af12,PP,P1,P2,P3,P4,P5,P6,P7,P8,P9,P10,P11,P12,P13,P14,L1,P15,N1,N2,N3,N4,N5,N6,N7,I1,I2,I3,I4,I5,I6,I7,reduceIte,reduceCtorEq]
 refine loop1 (fun(k:Nat)=>k=0∨(k=1∧longD D=false)) (fun k=>[.sl true true 4 1 (dfC f1 o1 f2 o2 f3 o3 D),Zj,Zj,p64 k,Zj,Zj,Zj,Zj,Zj,Zj,Zj,Zj,Zj,Zj,Zj,Zj,Zj,Zj,Zj,Zj,Zj,Zj,Zj,Zj,Zj,Zj,Zj,Zj,Zj,Zj,Zj,Zj,Zj,Zj,Zj,Zj,Zj,Zj,Zj,Zj,Zj,Zj,Zj,Zj,Zj,Zj,Zj]) (fun _=>[]) (fun k=>1-k) 0 (.inl rfl) (by simp only[PW]) rfl ?_
 intro k hk1 ih
 rcases hk1 with rfl | ⟨rfl,hf⟩
 ·have w1:IntKind.i64.wrap 1=1:=rfl
  have tr:longD D=true→K (.bool true) M:=fun h=>by rw[h]at hk;exact hk
  refine q48 (by kernel_rfl) ?_
  simp only[PP,P1,P2,P3,P4,P5,P6,P7,P8,P9,P10,P11,P12,P13,P14,L1,P15,N1,N2,N3,N4,N5,N6,N7,I1,I2,I3,I4,I5,I6,I7,reduceIte,reduceCtorEq]
  refine QIf.intro (fun c1=>?_) (fun c1=>?_)
  ·simp only[PP,P1,P2,P3,P4,P5,P6,P7,P8,P9,P10,P11,P12,P13,P14,L1,P15,N1,N2,N3,N4,N5,N6,N7,I1,I2,I3,I4,I5,I6,I7,reduceIte,reduceCtorEq,c1]
   exact tr (by simp only[longD,Bool.or_eq_true,decide_eq_true_eq];omega)
  simp only[PP,P1,P2,P3,P4,P5,P6,P7,P8,P9,P10,P11,P12,P13,P14,L1,P15,N1,N2,N3,N4,N5,N6,N7,I1,I2,I3,I4,I5,I6,I7,reduceIte,reduceCtorEq,c1]
  refine QIf.intro (fun c2=>?_) (fun c2=>?_)
  ·simp only[PP,P1,P2,P3,P4,P5,P6,P7,P8,P9,P10,P11,P12,P13,P14,L1,P15,N1,N2,N3,N4,N5,N6,N7,I1,I2,I3,I4,I5,I6,I7,reduceIte,reduceCtorEq,c2]
   exact tr (by simp only[longD,Bool.or_eq_true,decide_eq_true_eq];omega)
  simp only[PP,P1,P2,P3,P4,P5,P6,P7,P8,P9,P10,P11,P12,P13,P14,L1,P15,N1,N2,N3,N4,N5,N6,N7,I1,I2,I3,I4,I5,I6,I7,reduceIte,reduceCtorEq,c2]
  refine loop1 (fun(j:Nat)=>j≤D.nx.length∧(D.nx.drop j).any (fun r=>decide (100<r.length))=D.nx.any (fun r=>decide (100<r.length))) (fun j=>[.sl true true 4 1 (dfC f1 o1 f2 o2 f3 o3 D),Zj,Zj,p64 0,p64 j,Zj,Zj,Zj,Zj,Zj,Zj,Zj,Zj,Zj,Zj,Zj,Zj,Zj,Zj,Zj,Zj,Zj,Zj,Zj,Zj,Zj,Zj,Zj,Zj,Zj,Zj,Zj,Zj,Zj,Zj,Zj,Zj,Zj,Zj,Zj,Zj,Zj,Zj,Zj,Zj,Zj,Zj]) (fun _=>[]) (fun j=>D.nx.length-j) 0 ⟨by omega,rfl⟩ (by simp only[PW]) rfl ?_
  intro j ⟨jle,hj⟩ ih2
  refine q48 (by kernel_rfl) ?_
  simp only[PP,P1,P2,P3,P4,P5,P6,P7,P8,P9,P10,P11,P12,P13,P14,L1,P15,N1,N2,N3,N4,N5,N6,N7,I1,I2,I3,I4,I5,I6,I7,reduceIte,reduceCtorEq]
  refine QIf.intro (fun c=>?_) (fun c=>?_)
  ·have hj':j<D.nx.length:=by omega
   obtain⟨r,g⟩:=some_of hj'
   have j0:(0:Int)≤j:=by omega
   have hwk:=q49 (k:=j) (by show _<1000000000000;omega)
   rw[drop_some g]at hj
   simp only[PP,P1,P2,P3,P4,P5,P6,P7,P8,P9,P10,P11,P12,P13,P14,L1,P15,N1,N2,N3,N4,N5,N6,N7,I1,I2,I3,I4,I5,I6,I7,reduceIte,reduceCtorEq,c,j0,g]
   refine QIf.intro (fun e=>?_) (fun e=>?_)
   ·simp only[PP,P1,P2,P3,P4,P5,P6,P7,P8,P9,P10,P11,P12,P13,P14,L1,P15,N1,N2,N3,N4,N5,N6,N7,I1,I2,I3,I4,I5,I6,I7,reduceIte,reduceCtorEq,e]
    have hl:100<r.length:=by omega
    exact tr (by simp only[longD,Bool.or_eq_true];right;rw[←hj];simp[hl])
   ·simp only[PP,P1,P2,P3,P4,P5,P6,P7,P8,P9,P10,P11,P12,P13,P14,L1,P15,N1,N2,N3,N4,N5,N6,N7,I1,I2,I3,I4,I5,I6,I7,reduceIte,reduceCtorEq,e,hwk]
    have hl:¬100<r.length:=by omega
    refine q35 (ih2 (j+1) ⟨by omega,?_⟩ (by omega)) (by simp only[PW])
    rw[←hj];simp[hl]
  ·rw[List.drop_eq_nil_of_le (by omega)]at hj
   simp only[PP,P1,P2,P3,P4,P5,P6,P7,P8,P9,P10,P11,P12,P13,P14,L1,P15,N1,N2,N3,N4,N5,N6,N7,I1,I2,I3,I4,I5,I6,I7,reduceIte,reduceCtorEq,c,w1]
   refine q35 (ih 1 (.inr ⟨rfl,?_⟩) (by omega)) (by simp only[PW])
   simp only[longD,Bool.or_eq_false_iff,decide_eq_false_iff_not]
   exact⟨⟨by omega,by omega⟩,by rw[←hj];rfl⟩
 ·refine q48 (by kernel_rfl) ?_
  rw[hf]at hk
  simp only[PP,P1,P2,P3,P4,P5,P6,P7,P8,P9,P10,P11,P12,P13,P14,L1,P15,N1,N2,N3,N4,N5,N6,N7,I1,I2,I3,I4,I5,I6,I7,reduceIte,reduceCtorEq]
  exact hk
end
section
variable {tab:FuncId→Option AF} (T:HasA tab)
include T
end
theorem DetA.all {N:NF} {R:DF} {l:List (List Int)} {e:Int} (h:DetA N 4096 R l e) (hc:checkN N=0) (hn:2^N.n.toNat≤4096):e=0∧∃o,OrdB N o∧R=detD N o∧l=setsB o∧o.length≤2^N.n.toNat:=by
 rcases h with⟨h1,_⟩ | ⟨h1,h2,_⟩ | ⟨h1,h2,⟨k,h3⟩,_⟩ | ⟨h1,h2,o,h3,h4,h5,h6,h7⟩
 ·exact absurd hc h1
 ·omega
 ·have:=few_subsets (nok_of hc) k
  omega
 ·refine⟨h7,o,⟨hc,h3,by omega⟩,h5,h6,?_⟩
  obtain⟨k,rfl,_⟩:=h3
  exact few_subsets (nok_of hc) k
section
variable {tab:FuncId→Option AF} (T:HasA tab)
include T
end
end Go.Am.Ar

