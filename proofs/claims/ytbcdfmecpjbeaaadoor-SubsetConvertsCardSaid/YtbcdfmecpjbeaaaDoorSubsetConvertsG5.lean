/- Contracts: the reference's classes, sets of classes, and what goes with it. -/
import Derived.Test.YtbcdfmecpjbeaaaDoorSubsetConvertsG4
import Derived.Test.YtbcdfmecpjbeaaaDoorSubsetConvertsG0
import Derived.Test.YtbcdfmecpjbeaaaDoorSubsetConvertsG1
import Derived.Test.YtbcdfmecpjbeaaaDoorPmC
import Derived.Test.YtbcdfmecpjbeaaaDoorSubsetConvertsG3
set_option linter.unusedVariables false
set_option linter.unusedSimpArgs false
set_option maxRecDepth 10000
namespace Go.Am.Ar
open Go.Am.PV renaming junk→Zj
open Go.Am renaming pchk→P1,pold→P2,PKNo→P3,ppack→P4,PObj.under→P5,pput→P6,ptset→P7,ptget→P8,pev→P9,ofAV→P10,ofAV1→P11,ppad→P12,pfill→P13,prepl→P14,AO.effect→P15
open List renaming replicate→L1
open Nat renaming reduceAdd→N1,reduceSub→N2,reduceMul→N3,reduceLT→N4,reduceLeDiff→N5,reduceEqDiff→N6,reduceBEq→N7
open Int renaming reduceToNat→I1,reduceLT→I2,reduceLE→I3,reduceEq→I4,reduceAdd→I5,reduceSub→I6,reduceNeg→I7
section
variable {tab:FuncId→Option AF} (T:HasA tab)
include T
end
section
variable {N:NF} {rs:List (List Bool)} {l:List Int} {m:Nat}
end
section
variable {tab:FuncId→Option AF} (T:HasA tab)
include T
end
section
variable {tab:FuncId→Option AF}
variable (T:HasA tab)
include T
end
theorem jnkL_ints (k:IntKind) (xs:List Int):jnkL (xs.map (PV.int k))=xs.map (PV.int k):=by
 rw[jnkL_map,List.map_map];exact List.map_congr_left fun x _=>by simp[PV.jnk]
theorem jnkL_bools (xs:List Bool):jnkL (xs.map PV.bool)=xs.map PV.bool:=by
 rw[jnkL_map,List.map_map];exact List.map_congr_left fun x _=>by simp[PV.jnk]
theorem jnk_old (sz n:Nat) (cs:List PV):PV.jnk (.sl false false sz n cs)= .sl false false sz n (jnkL cs):=by simp[PV.jnk]
theorem egL_of {f:PV→PV} (hf:∀k n,f (.int k n)= .int k n) (es:List Eg):(egL es).map f=egL es:=by
 unfold egL
 induction es with
 | nil=>rfl
 | cons e es ih=>rw[List.flatMap_cons,List.map_append,ih];simp[hf]
theorem jnkL_egL (es:List Eg):jnkL (egL es)=egL es:=by rw[jnkL_map];exact egL_of (fun k n=>by simp[PV.jnk]) es
theorem ageL_egL (es:List Eg):ageL (egL es)=egL es:=by rw[ageL_map];exact egL_of (fun k n=>by simp[PV.age]) es
theorem age_sl (f o:Bool) (sz n:Nat) (cs:List PV):PV.age (.sl f o sz n cs)= .sl false false sz n (ageL cs):=by simp[PV.age]
theorem jnkL_nf (N:NF):jnkL (nfF N)=nfF N:=by
 simp only[jnkL,jnk_old,jnkL_ints,jnkL_egL,show ∀k n,PV.jnk (.int k n)= .int k n from fun k n=>by simp[PV.jnk],slI,slE]
theorem ageL_nf (f1 o1 f2 o2 f3 o3:Bool) (N:NF):ageL (nfC f1 o1 f2 o2 f3 o3 N)=nfF N:=by
 simp only[ageL,age_sl,ageL_ints,ageL_egL,PV.age,slI,slE]
section
variable {tab:FuncId→Option AF} (T:HasA tab)
include T
end
abbrev dfF (D:DF):List PV:=dfC false false false false false false D
theorem jnk_rowsI (rs:List (List Int)):jnkL (rs.map (slI false false .i64))=rs.map (slI false false .i64):=by
 rw[jnkL_map,List.map_map]
 exact List.map_congr_left fun x _=>by
  show PV.jnk (slI false false .i64 x)=_
  unfold slI
  rw[jnk_old,jnkL_ints]
theorem ageL_rowsI (f o:Bool) (rs:List (List Int)):ageL (rs.map (slI f o .i64))=rs.map (slI false false .i64):=by
 rw[ageL_map,List.map_map]
 exact List.map_congr_left fun x _=>by
  show PV.age (slI f o .i64 x)=_
  unfold slI
  rw[age_sl,ageL_ints]
theorem jnkL_df (D:DF):jnkL (dfF D)=dfF D:=by
 simp only[jnkL,jnk_old,jnk_rowsI,jnkL_bools,show ∀k n,PV.jnk (.int k n)= .int k n from fun k n=>by simp[PV.jnk],slR,slB]
theorem ageL_df (f1 o1 f2 o2 f3 o3:Bool) (D:DF):ageL (dfC f1 o1 f2 o2 f3 o3 D)=dfF D:=by
 simp only[ageL,age_sl,ageL_rowsI,ageL_bools,PV.age,slR,slB]
section
variable {tab:FuncId→Option AF} (T:HasA tab)
include T
set_option maxHeartbeats 2000000 in
theorem converts_top {D:DF} (A:NumD D):Top tab (af9).body (ppad [.agg (dfF D)] (af9).ntmps) [] (PKLaw (af9).results) (PKLaw (af9).results):=by
 simp only[af9]
 refine TopX_top ?_
 refine TopX_seq (TopX_run ?_)
 simp only[PP,P1,P2,P3,P4,P5,P6,P7,P8,P9,P10,P11,P12,P13,P14,L1,P15,N1,N2,N3,N4,N5,N6,N7,I1,I2,I3,I4,I5,I6,I7,reduceIte,reduceCtorEq]
 refine TopX_seq (TopX_run ?_)
 simp only[PP,P1,P2,P3,P4,P5,P6,P7,P8,P9,P10,P11,P12,P13,P14,L1,P15,N1,N2,N3,N4,N5,N6,N7,I1,I2,I3,I4,I5,I6,I7,reduceIte,reduceCtorEq]
 refine longD_p T ?_
 cases hl:longD D with
 | true=>
  simp only[PP,P1,P2,P3,P4,P5,P6,P7,P8,P9,P10,P11,P12,P13,P14,L1,P15,N1,N2,N3,N4,N5,N6,N7,I1,I2,I3,I4,I5,I6,I7,reduceIte,reduceCtorEq]
  refine SemC_true T.awake ?_
  simp only[PP,P1,P2,P3,P4,P5,P6,P7,P8,P9,P10,P11,P12,P13,P14,L1,P15,N1,N2,N3,N4,N5,N6,N7,I1,I2,I3,I4,I5,I6,I7,reduceIte,reduceCtorEq]
  unfold PKLaw
  simp only[PP,P1,P2,P3,P4,P5,P6,P7,P8,P9,P10,P11,P12,P13,P14,L1,P15,N1,N2,N3,N4,N5,N6,N7,I1,I2,I3,I4,I5,I6,I7,reduceIte,reduceCtorEq]
 | false=>
 have B:=longD_bn hl
 have hn:=(longD_ok hl).1
 simp only[PP,P1,P2,P3,P4,P5,P6,P7,P8,P9,P10,P11,P12,P13,P14,L1,P15,N1,N2,N3,N4,N5,N6,N7,I1,I2,I3,I4,I5,I6,I7,reduceIte,reduceCtorEq]
 refine TopX_seq (TopX_run ?_)
 simp only[PP,P1,P2,P3,P4,P5,P6,P7,P8,P9,P10,P11,P12,P13,P14,L1,P15,N1,N2,N3,N4,N5,N6,N7,I1,I2,I3,I4,I5,I6,I7,reduceIte,reduceCtorEq]
 refine copyD_p T B ?_
 simp only[PP,P1,P2,P3,P4,P5,P6,P7,P8,P9,P10,P11,P12,P13,P14,L1,P15,N1,N2,N3,N4,N5,N6,N7,I1,I2,I3,I4,I5,I6,I7,reduceIte,reduceCtorEq]
 refine TopX_seq (TopX_run ?_)
 simp only[PP,P1,P2,P3,P4,P5,P6,P7,P8,P9,P10,P11,P12,P13,P14,L1,P15,N1,N2,N3,N4,N5,N6,N7,I1,I2,I3,I4,I5,I6,I7,reduceIte,reduceCtorEq]
 refine rrenumberZ_p T B (by omega) fun R e hR=>?_
 simp only[PP,P1,P2,P3,P4,P5,P6,P7,P8,P9,P10,P11,P12,P13,P14,L1,P15,N1,N2,N3,N4,N5,N6,N7,I1,I2,I3,I4,I5,I6,I7,reduceIte,reduceCtorEq]
 refine TopX_seq (TopX_run ?_)
 simp only[PP,P1,P2,P3,P4,P5,P6,P7,P8,P9,P10,P11,P12,P13,P14,L1,P15,N1,N2,N3,N4,N5,N6,N7,I1,I2,I3,I4,I5,I6,I7,reduceIte,reduceCtorEq]
 refine rtonfaZ_p T B (by omega) fun N e2 hN=>?_
 obtain⟨BN,fN⟩:=hN.bn
 simp only[PP,P1,P2,P3,P4,P5,P6,P7,P8,P9,P10,P11,P12,P13,P14,L1,P15,N1,N2,N3,N4,N5,N6,N7,I1,I2,I3,I4,I5,I6,I7,reduceIte,reduceCtorEq]
 refine TopX_weak (b:=[Zj,.ptr 0 0 0,Zj,.ptr 1 0 0,.ptr 2 0 0,p64 e,.ptr 3 0 0,p64 e2,Zj,Zj,Zj,Zj,Zj,Zj,Zj,Zj,Zj,Zj,Zj,Zj,Zj,Zj,Zj,Zj,Zj,Zj,Zj,Zj,Zj,Zj,Zj,Zj,Zj,Zj,Zj,Zj,Zj,Zj,Zj,Zj,Zj,Zj,Zj,Zj,Zj,Zj,Zj,Zj,Zj,Zj,Zj,Zj,Zj,Zj,Zj,Zj,Zj,Zj,Zj,Zj,Zj,Zj,Zj,Zj,Zj,Zj,Zj,Zj,Zj,Zj,Zj,Zj,Zj,Zj]) (N:=[.cells 0 0 (dfF D),.cells 0 1 (dfC false true false true false true D),.cells 0 1 (dfC false true false true false true R),.cells 0 1 (nfC false true false true false true N)]) ?_ (by simp only[PW]) rfl
 refine TopX_age (b:=[Zj,.ptr 0 0 0,Zj,.ptr 1 0 0,.ptr 2 0 0,p64 e,.ptr 3 0 0,p64 e2,Zj,Zj,Zj,Zj,Zj,Zj,Zj,Zj,Zj,Zj,Zj,Zj,Zj,Zj,Zj,Zj,Zj,Zj,Zj,Zj,Zj,Zj,Zj,Zj,Zj,Zj,Zj,Zj,Zj,Zj,Zj,Zj,Zj,Zj,Zj,Zj,Zj,Zj,Zj,Zj,Zj,Zj,Zj,Zj,Zj,Zj,Zj,Zj,Zj,Zj,Zj,Zj,Zj,Zj,Zj,Zj,Zj,Zj,Zj,Zj,Zj,Zj,Zj,Zj,Zj,Zj]) (N:=[.cells 0 0 (dfF D),.cells 0 1 (dfF D),.cells 0 1 (dfF R),.cells 0 1 (nfF N)]) ?_ ?_ ?_
 ·simp only[ageL,PV.age]
 ·simp only[List.map_cons,List.map_nil,PObj.mapC,ageL_nf,ageL_df]
 refine TopX_seq (TopX_seq (TopX_run ?_))
 simp only[PP,P1,P2,P3,P4,P5,P6,P7,P8,P9,P10,P11,P12,P13,P14,L1,P15,N1,N2,N3,N4,N5,N6,N7,I1,I2,I3,I4,I5,I6,I7,reduceIte,reduceCtorEq]
 refine TopX_block ?_
 refine TopX_loop (A:=Nat×Mem) (fun y=>y.1≤2) (fun y=>[Zj,.ptr 0 0 0,Zj,.ptr 1 0 0,.ptr 2 0 0,p64 e,.ptr 3 0 0,p64 e2,p64 y.1,Zj,Zj,Zj,Zj,Zj,Zj,Zj,Zj,Zj,Zj,Zj,Zj,Zj,Zj,Zj,Zj,Zj,Zj,Zj,Zj,Zj,Zj,Zj,Zj,Zj,Zj,Zj,Zj,Zj,Zj,Zj,Zj,Zj,Zj,Zj,Zj,Zj,Zj,Zj,Zj,Zj,Zj,Zj,Zj,Zj,Zj,Zj,Zj,Zj,Zj,Zj,Zj,Zj,Zj,Zj,Zj,Zj,Zj,Zj,Zj,Zj,Zj,Zj,Zj,Zj]) (fun y=> .cells 0 0 (dfF D):: .cells 0 1 (dfF D):: .cells 0 1 (dfF R):: .cells 0 1 (nfF N)::y.2) (fun y=>2-y.1) (0,[]) (by decide) (by simp only[PW]) rfl ?_
 rintro⟨k,G⟩ hk ih
 simp only at hk ⊢
 refine TopX_round (by kernel_rfl) ?_
 refine TopX_seq (TopX_run ?_)
 simp only[PP,P1,P2,P3,P4,P5,P6,P7,P8,P9,P10,P11,P12,P13,P14,L1,P15,N1,N2,N3,N4,N5,N6,N7,I1,I2,I3,I4,I5,I6,I7,reduceIte,reduceCtorEq]
 refine QIf.intro (fun d=>?_) (fun d=>?_)
 rotate_left
 ·simp only[PP,P1,P2,P3,P4,P5,P6,P7,P8,P9,P10,P11,P12,P13,P14,L1,P15,N1,N2,N3,N4,N5,N6,N7,I1,I2,I3,I4,I5,I6,I7,reduceIte,reduceCtorEq,d]
  refine TopX_run ?_
  simp only[PP,P1,P2,P3,P4,P5,P6,P7,P8,P9,P10,P11,P12,P13,P14,L1,P15,N1,N2,N3,N4,N5,N6,N7,I1,I2,I3,I4,I5,I6,I7,reduceIte,reduceCtorEq]
  refine SemC_true T.awake ?_
  simp only[PP,P1,P2,P3,P4,P5,P6,P7,P8,P9,P10,P11,P12,P13,P14,L1,P15,N1,N2,N3,N4,N5,N6,N7,I1,I2,I3,I4,I5,I6,I7,reduceIte,reduceCtorEq]
  unfold PKLaw
  simp only[PP,P1,P2,P3,P4,P5,P6,P7,P8,P9,P10,P11,P12,P13,P14,L1,P15,N1,N2,N3,N4,N5,N6,N7,I1,I2,I3,I4,I5,I6,I7,reduceIte,reduceCtorEq]
 have hwk:=q32 (k:=k) (by show _<1000000000000;omega)
 simp only[PP,P1,P2,P3,P4,P5,P6,P7,P8,P9,P10,P11,P12,P13,P14,L1,P15,N1,N2,N3,N4,N5,N6,N7,I1,I2,I3,I4,I5,I6,I7,reduceIte,reduceCtorEq,d]
 refine TopX_seq (TopX_block ?_)
 refine TopX_seq (TopX_run ?_)
 simp only[PP,P1,P2,P3,P4,P5,P6,P7,P8,P9,P10,P11,P12,P13,P14,L1,P15,N1,N2,N3,N4,N5,N6,N7,I1,I2,I3,I4,I5,I6,I7,reduceIte,reduceCtorEq]
 refine renumberZ_p T B (by omega) fun R' e' hR'=>?_
 obtain⟨rfl,rfl⟩:=hR.eq hR'
 simp only[PP,P1,P2,P3,P4,P5,P6,P7,P8,P9,P10,P11,P12,P13,P14,L1,P15,N1,N2,N3,N4,N5,N6,N7,I1,I2,I3,I4,I5,I6,I7,reduceIte,reduceCtorEq,List.append_assoc,gk0,sk0]
 refine TopX_seq (TopX_run ?_)
 simp only[PP,P1,P2,P3,P4,P5,P6,P7,P8,P9,P10,P11,P12,P13,P14,L1,P15,N1,N2,N3,N4,N5,N6,N7,I1,I2,I3,I4,I5,I6,I7,reduceIte,reduceCtorEq,List.append_assoc,gk0,sk0]
 refine tonfaZ_p T B (by omega) fun N' e3 hN'=>?_
 obtain⟨rfl,rfl⟩:=hN.eq hN'
 simp only[PP,P1,P2,P3,P4,P5,P6,P7,P8,P9,P10,P11,P12,P13,P14,L1,P15,N1,N2,N3,N4,N5,N6,N7,I1,I2,I3,I4,I5,I6,I7,reduceIte,reduceCtorEq,List.append_assoc,gk0,sk0,gk,sk]
 refine TopX_seq (TopX_run ?_)
 simp only[PP,P1,P2,P3,P4,P5,P6,P7,P8,P9,P10,P11,P12,P13,P14,L1,P15,N1,N2,N3,N4,N5,N6,N7,I1,I2,I3,I4,I5,I6,I7,reduceIte,reduceCtorEq,List.append_assoc,gk0,sk0,gk,sk]
 have BR:=hR.bn
 refine equalD_p T BR (fun b hb=>?_)
 obtain rfl:b=true:=hb.2 rfl
 simp only[PP,P1,P2,P3,P4,P5,P6,P7,P8,P9,P10,P11,P12,P13,P14,L1,P15,N1,N2,N3,N4,N5,N6,N7,I1,I2,I3,I4,I5,I6,I7,reduceIte,reduceCtorEq,List.append_assoc,gk0,sk0,gk,sk]
 refine equalN_p T BN fN fN (fun b hb=>?_)
 obtain rfl:b=true:=hb.2 rfl
 simp only[PP,P1,P2,P3,P4,P5,P6,P7,P8,P9,P10,P11,P12,P13,P14,L1,P15,N1,N2,N3,N4,N5,N6,N7,I1,I2,I3,I4,I5,I6,I7,reduceIte,reduceCtorEq,List.append_assoc,gk0,sk0,gk,sk]
 refine equalD_p T B (fun b hb=>?_)
 obtain rfl:b=true:=hb.2 rfl
 simp only[PP,P1,P2,P3,P4,P5,P6,P7,P8,P9,P10,P11,P12,P13,P14,L1,P15,N1,N2,N3,N4,N5,N6,N7,I1,I2,I3,I4,I5,I6,I7,reduceIte,reduceCtorEq,List.append_assoc,gk0,sk0,gk,sk]
 refine TopX_weak (b:=[Zj,.ptr 0 0 0,Zj,.ptr 1 0 0,.ptr 2 0 0,p64 e,.ptr 3 0 0,p64 e2,p64 k,.ptr (G.length+1+1+1+1) 0 0,Zj,.ptr (G.length+1+1+1+1+1) 0 0,Zj,Zj,Zj,Zj,Zj,Zj,Zj,Zj,Zj,Zj,Zj,Zj,Zj,Zj,Zj,Zj,Zj,Zj,Zj,Zj,Zj,Zj,Zj,Zj,Zj,Zj,Zj,Zj,Zj,Zj,Zj,Zj,Zj,Zj,Zj,Zj,Zj,Zj,Zj,Zj,Zj,Zj,Zj,Zj,Zj,Zj,Zj,Zj,Zj,Zj,Zj,Zj,Zj,Zj,Zj,Zj,Zj,Zj,Zj,Zj,Zj,Zj])
  (N:= .cells 0 0 (dfF D):: .cells 0 1 (dfF D):: .cells 0 1 (dfF R):: .cells 0 1 (nfF N)::(G++[.cells 0 1 (dfC false true false true false true R),.cells 0 1 (nfC false true false true false true N)])) ?_ (by simp only[PW]) rfl
 refine TopX_ov (OvX_seq (OvX_agg (gg:=0) (ver:=1) (cs:=dfC false true false true false true R) rfl (by simp only[List.getElem?_cons_succ,gk0];rfl) (by simp) rfl (over3_dfa T BR) (OvX_agg (gg:=0) (ver:=1) (cs:=nfC false true false true false true N) rfl (by simp only[List.getElem?_cons_succ,gk];rfl) (by simp) rfl (over3_nfa T BN) ?_)))
 simp only[PP,P1,P2,P3,P4,P5,P6,P7,P8,P9,P10,P11,P12,P13,P14,L1,P15,N1,N2,N3,N4,N5,N6,N7,I1,I2,I3,I4,I5,I6,I7,reduceIte,reduceCtorEq,jnkL,PV.jnk,List.map_append,List.map_cons,List.map_nil,PObj.mapC,jnkL_nf,jnkL_df,jnk_old,jnk_rowsI,jnkL_bools,jnkL_ints,jnkL_egL]
 refine TopX_run ?_
 simp only[PP,P1,P2,P3,P4,P5,P6,P7,P8,P9,P10,P11,P12,P13,P14,L1,P15,N1,N2,N3,N4,N5,N6,N7,I1,I2,I3,I4,I5,I6,I7,reduceIte,reduceCtorEq,hwk]
 have hk2:k<2:=by omega
 exact TopX_weak (ih (k+1,G.map (PObj.mapC jnkL)++[PObj.mapC jnkL (.cells 0 1 (dfC false true false true false true R)),PObj.mapC jnkL (.cells 0 1 (nfC false true false true false true N))]) (by show k+1≤2;omega) (by show 2-(k+1)<2-k;omega)) (by simp only[PW]) rfl
theorem converts_all (args:List AV) (h:H) (hs:ShVs [dfaTy] args h):
  ∃n h',(run tab n).call 9 args h=some (.bool true,h'):=by
 obtain⟨a,rfl,ha⟩:=shVs1 hs
 obtain⟨D,r1,A⟩:=arg_dfa ha
 exact run_of_C (law_of_top T.h9 (.cons r1 (.nil _)) (converts_top T A))
end
end Go.Am.Ar

