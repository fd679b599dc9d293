/- The law that Renumber and ToNFA answer as the reference does, for all arguments, and what goes with it. -/
import Derived.Test.YtbcdfmecpjbeaaaDoorSubsetDeterminizesG5
import Derived.Test.YtbcdfmecpjbeaaaDoorSubsetDeterminizesG6
set_option linter.unusedVariables false
set_option linter.unusedSimpArgs false
set_option maxRecDepth 10000
namespace Go.Am.Ar
open Go.Am.PV renaming junk→Zj
open Go.Am renaming pchk→P1,pold→P2,PKNo→P3,ppack→P4,PObj.under→P5,pput→P6,ptset→P7,ptget→P8,pev→P9,ofAV→P10,q65→P11,ppad→P12,pfill→P13,prepl→P14,AO.effect→P15
open List renaming replicate→L1
open Nat renaming reduceAdd→N1,reduceSub→N2,reduceMul→N3,reduceLT→N4,reduceLeDiff→N5,reduceEqDiff→N6,reduceBEq→N7
open Int renaming reduceToNat→I1,reduceLT→I2,reduceLE→I3,reduceEq→I4,reduceAdd→I5,reduceSub→I6,reduceNeg→I7
abbrev dfF (D:DF):List PV:=dfC false false false false false false D
theorem jnk_rowsI (rs:List (List Int)):jnkL (rs.map (slI false false .i64))=rs.map (slI false false .i64):=by
 rw[jnkL_map,List.map_map]
 exact List.map_congr_left fun x _=>by
  show PV.jnk (slI false false .i64 x)=_
  unfold slI
  rw[jnk_old,jnkL_ints]
theorem ageL_rowsI (f o:Bool) (rs:List (List Int)):ageL (rs.map (slI f o .i64))=rs.map (slI false false .i64):=by
 rw[ageL_map,List.map_map]
 exact List.map_congr_left fun x _=>by
  show PV.age (slI f o .i64 x)=_
  unfold slI
  rw[age_sl,ageL_ints]
theorem jnkL_df (D:DF):jnkL (dfF D)=dfF D:=by
 simp only[jnkL,jnk_old,jnk_rowsI,jnkL_bools,show ∀k n,PV.jnk (.int k n)= .int k n from fun k n=>by simp[PV.jnk],slR,slB]
theorem ageL_df (f1 o1 f2 o2 f3 o3:Bool) (D:DF):ageL (dfC f1 o1 f2 o2 f3 o3 D)=dfF D:=by
 simp only[ageL,age_sl,ageL_rowsI,ageL_bools,PV.age,slR,slB]
section
variable {tab:FuncId→Option AF} (T:HasA tab)
include T
end
section
variable {tab:FuncId→Option AF} (T:HasA tab)
include T
set_option maxHeartbeats 4000000 in
theorem determinizes_top {N:NF} {bd:Int} (A:NumN N):Top tab (af4).body (ppad [.agg (nfF N),p64 bd] (af4).ntmps) [] (PKLaw (af4).results) (PKLaw (af4).results):=by
 simp only[af4]
 refine TopX_top ?_
 refine TopX_seq (TopX_run ?_)
 simp only[PP,P1,P2,P3,P4,P5,P6,P7,P8,P9,P10,P11,P12,P13,P14,L1,P15,N1,N2,N3,N4,N5,N6,N7,I1,I2,I3,I4,I5,I6,I7,reduceIte,reduceCtorEq]
 cases hl:long6 N with
 | true=>
  refine TopX_seq (TopX_run ?_)
  simp only[PP,P1,P2,P3,P4,P5,P6,P7,P8,P9,P10,P11,P12,P13,P14,L1,P15,N1,N2,N3,N4,N5,N6,N7,I1,I2,I3,I4,I5,I6,I7,reduceIte,reduceCtorEq]
  refine long6_p T ?_
  rw[hl]
  simp only[PP,P1,P2,P3,P4,P5,P6,P7,P8,P9,P10,P11,P12,P13,P14,L1,P15,N1,N2,N3,N4,N5,N6,N7,I1,I2,I3,I4,I5,I6,I7,reduceIte,reduceCtorEq]
  refine SemC_true T.awake ?_
  simp only[PP,P1,P2,P3,P4,P5,P6,P7,P8,P9,P10,P11,P12,P13,P14,L1,P15,N1,N2,N3,N4,N5,N6,N7,I1,I2,I3,I4,I5,I6,I7,reduceIte,reduceCtorEq]
  unfold PKLaw
  simp only[PP,P1,P2,P3,P4,P5,P6,P7,P8,P9,P10,P11,P12,P13,P14,L1,P15,N1,N2,N3,N4,N5,N6,N7,I1,I2,I3,I4,I5,I6,I7,reduceIte,reduceCtorEq]
 | false=>
 have B:=long6_bn A hl
 refine TopX_seq (TopX_mono (Qn':=fun b M=>PWeak b [Zj,p64 bd,.ptr 0 0 0,Zj,Zj,Zj,Zj,Zj,Zj,Zj,Zj,Zj,Zj,Zj,Zj,Zj,Zj,Zj,Zj,Zj,Zj,Zj,Zj,Zj,Zj,Zj,Zj,Zj,Zj,Zj,Zj,Zj,Zj,Zj,Zj,Zj,Zj,Zj,Zj,Zj,Zj,Zj,Zj,Zj,Zj,Zj,Zj,Zj,Zj,Zj,Zj,Zj,Zj,Zj,Zj,Zj,Zj,Zj,Zj,Zj,Zj,Zj,Zj,Zj,Zj,Zj,Zj,Zj,Zj,Zj,Zj,Zj,Zj]∧M=[.cells 0 0 (nfF N)]) (TopX_run ?_) ?_)
 ·simp only[PP,P1,P2,P3,P4,P5,P6,P7,P8,P9,P10,P11,P12,P13,P14,L1,P15,N1,N2,N3,N4,N5,N6,N7,I1,I2,I3,I4,I5,I6,I7,reduceIte,reduceCtorEq]
  refine long6_p T ?_
  rw[hl]
  simp only[PP,P1,P2,P3,P4,P5,P6,P7,P8,P9,P10,P11,P12,P13,P14,L1,P15,N1,N2,N3,N4,N5,N6,N7,I1,I2,I3,I4,I5,I6,I7,reduceIte,reduceCtorEq]
  refine checkR_p T B ?_
  by_cases c0:checkN N=0
  ·simp only[PP,P1,P2,P3,P4,P5,P6,P7,P8,P9,P10,P11,P12,P13,P14,L1,P15,N1,N2,N3,N4,N5,N6,N7,I1,I2,I3,I4,I5,I6,I7,reduceIte,reduceCtorEq,c0]
   refine QIf.intro (fun c7=>?_) (fun c7=>?_)
   ·simp only[PP,P1,P2,P3,P4,P5,P6,P7,P8,P9,P10,P11,P12,P13,P14,L1,P15,N1,N2,N3,N4,N5,N6,N7,I1,I2,I3,I4,I5,I6,I7,reduceIte,reduceCtorEq,c7]
    refine SemC_true T.awake ?_
    simp only[PP,P1,P2,P3,P4,P5,P6,P7,P8,P9,P10,P11,P12,P13,P14,L1,P15,N1,N2,N3,N4,N5,N6,N7,I1,I2,I3,I4,I5,I6,I7,reduceIte,reduceCtorEq]
    unfold PKLaw
    simp only[PP,P1,P2,P3,P4,P5,P6,P7,P8,P9,P10,P11,P12,P13,P14,L1,P15,N1,N2,N3,N4,N5,N6,N7,I1,I2,I3,I4,I5,I6,I7,reduceIte,reduceCtorEq]
   ·simp only[PP,P1,P2,P3,P4,P5,P6,P7,P8,P9,P10,P11,P12,P13,P14,L1,P15,N1,N2,N3,N4,N5,N6,N7,I1,I2,I3,I4,I5,I6,I7,reduceIte,reduceCtorEq,c7]
    exact(by simp only[PW])
  ·simp only[PP,P1,P2,P3,P4,P5,P6,P7,P8,P9,P10,P11,P12,P13,P14,L1,P15,N1,N2,N3,N4,N5,N6,N7,I1,I2,I3,I4,I5,I6,I7,reduceIte,reduceCtorEq,c0]
   exact(by simp only[PW])
 rintro b M ⟨hb,rfl⟩
 refine TopX_weak ?_ hb rfl
 refine TopX_seq (TopX_run ?_)
 simp only[PP,P1,P2,P3,P4,P5,P6,P7,P8,P9,P10,P11,P12,P13,P14,L1,P15,N1,N2,N3,N4,N5,N6,N7,I1,I2,I3,I4,I5,I6,I7,reduceIte,reduceCtorEq]
 refine copyN_p T B ?_
 simp only[PP,P1,P2,P3,P4,P5,P6,P7,P8,P9,P10,P11,P12,P13,P14,L1,P15,N1,N2,N3,N4,N5,N6,N7,I1,I2,I3,I4,I5,I6,I7,reduceIte,reduceCtorEq]
 refine TopX_seq (TopX_run ?_)
 simp only[PP,P1,P2,P3,P4,P5,P6,P7,P8,P9,P10,P11,P12,P13,P14,L1,P15,N1,N2,N3,N4,N5,N6,N7,I1,I2,I3,I4,I5,I6,I7,reduceIte,reduceCtorEq]
 refine rdetZ_p T B fun R l e hD=>?_
 obtain⟨BR,bl1,bl2⟩:=hD.bn
 simp only[PP,P1,P2,P3,P4,P5,P6,P7,P8,P9,P10,P11,P12,P13,P14,L1,P15,N1,N2,N3,N4,N5,N6,N7,I1,I2,I3,I4,I5,I6,I7,reduceIte,reduceCtorEq]
 refine TopX_weak (b:=[Zj,p64 bd,.ptr 0 0 0,Zj,Zj,.ptr 1 0 0,.ptr 2 0 0,slR false true false true .i64 l,p64 e,Zj,Zj,Zj,Zj,Zj,Zj,Zj,Zj,Zj,Zj,Zj,Zj,Zj,Zj,Zj,Zj,Zj,Zj,Zj,Zj,Zj,Zj,Zj,Zj,Zj,Zj,Zj,Zj,Zj,Zj,Zj,Zj,Zj,Zj,Zj,Zj,Zj,Zj,Zj,Zj,Zj,Zj,Zj,Zj,Zj,Zj,Zj,Zj,Zj,Zj,Zj,Zj,Zj,Zj,Zj,Zj,Zj,Zj,Zj,Zj,Zj,Zj,Zj,Zj]) (N:=[.cells 0 0 (nfF N),.cells 0 1 (nfC false true false true false true N),.cells 0 1 (dfC false true false true false true R)]) ?_ (by simp only[PW]) rfl
 refine TopX_age (b:=[Zj,p64 bd,.ptr 0 0 0,Zj,Zj,.ptr 1 0 0,.ptr 2 0 0,slR false false false false .i64 l,p64 e,Zj,Zj,Zj,Zj,Zj,Zj,Zj,Zj,Zj,Zj,Zj,Zj,Zj,Zj,Zj,Zj,Zj,Zj,Zj,Zj,Zj,Zj,Zj,Zj,Zj,Zj,Zj,Zj,Zj,Zj,Zj,Zj,Zj,Zj,Zj,Zj,Zj,Zj,Zj,Zj,Zj,Zj,Zj,Zj,Zj,Zj,Zj,Zj,Zj,Zj,Zj,Zj,Zj,Zj,Zj,Zj,Zj,Zj,Zj,Zj,Zj,Zj,Zj,Zj]) (N:=[.cells 0 0 (nfF N),.cells 0 1 (nfF N),.cells 0 1 (dfF R)]) ?_ ?_ ?_
 ·simp only[ageL,PV.age,age_sl,ageL_rowsI,slR]
 ·simp only[List.map_cons,List.map_nil,PObj.mapC,ageL_nf,ageL_df]
 refine TopX_seq (TopX_seq (TopX_run ?_))
 simp only[PP,P1,P2,P3,P4,P5,P6,P7,P8,P9,P10,P11,P12,P13,P14,L1,P15,N1,N2,N3,N4,N5,N6,N7,I1,I2,I3,I4,I5,I6,I7,reduceIte,reduceCtorEq]
 refine TopX_block ?_
 refine TopX_loop (A:=Nat×Mem) (fun y=>y.1≤2) (fun y=>[Zj,p64 bd,.ptr 0 0 0,Zj,Zj,.ptr 1 0 0,.ptr 2 0 0,slR false false false false .i64 l,p64 e,p64 y.1,Zj,Zj,Zj,Zj,Zj,Zj,Zj,Zj,Zj,Zj,Zj,Zj,Zj,Zj,Zj,Zj,Zj,Zj,Zj,Zj,Zj,Zj,Zj,Zj,Zj,Zj,Zj,Zj,Zj,Zj,Zj,Zj,Zj,Zj,Zj,Zj,Zj,Zj,Zj,Zj,Zj,Zj,Zj,Zj,Zj,Zj,Zj,Zj,Zj,Zj,Zj,Zj,Zj,Zj,Zj,Zj,Zj,Zj,Zj,Zj,Zj,Zj,Zj]) (fun y=> .cells 0 0 (nfF N):: .cells 0 1 (nfF N):: .cells 0 1 (dfF R)::y.2) (fun y=>2-y.1) (0,[]) (by decide) (by simp only[PW]) rfl ?_
 rintro⟨k,G⟩ hk ih
 simp only at hk ⊢
 refine TopX_round (by kernel_rfl) ?_
 refine TopX_seq (TopX_run ?_)
 simp only[PP,P1,P2,P3,P4,P5,P6,P7,P8,P9,P10,P11,P12,P13,P14,L1,P15,N1,N2,N3,N4,N5,N6,N7,I1,I2,I3,I4,I5,I6,I7,reduceIte,reduceCtorEq]
 refine QIf.intro (fun d=>?_) (fun d=>?_)
 rotate_left
 ·simp only[PP,P1,P2,P3,P4,P5,P6,P7,P8,P9,P10,P11,P12,P13,P14,L1,P15,N1,N2,N3,N4,N5,N6,N7,I1,I2,I3,I4,I5,I6,I7,reduceIte,reduceCtorEq,d]
  refine TopX_run ?_
  simp only[PP,P1,P2,P3,P4,P5,P6,P7,P8,P9,P10,P11,P12,P13,P14,L1,P15,N1,N2,N3,N4,N5,N6,N7,I1,I2,I3,I4,I5,I6,I7,reduceIte,reduceCtorEq]
  refine SemC_true T.awake ?_
  simp only[PP,P1,P2,P3,P4,P5,P6,P7,P8,P9,P10,P11,P12,P13,P14,L1,P15,N1,N2,N3,N4,N5,N6,N7,I1,I2,I3,I4,I5,I6,I7,reduceIte,reduceCtorEq]
  unfold PKLaw
  simp only[PP,P1,P2,P3,P4,P5,P6,P7,P8,P9,P10,P11,P12,P13,P14,L1,P15,N1,N2,N3,N4,N5,N6,N7,I1,I2,I3,I4,I5,I6,I7,reduceIte,reduceCtorEq]
 have hwk:=q27 (k:=k) (by show _<1000000000000;omega)
 simp only[PP,P1,P2,P3,P4,P5,P6,P7,P8,P9,P10,P11,P12,P13,P14,L1,P15,N1,N2,N3,N4,N5,N6,N7,I1,I2,I3,I4,I5,I6,I7,reduceIte,reduceCtorEq,d]
 refine TopX_seq (TopX_block ?_)
 refine TopX_seq (TopX_run ?_)
 simp only[PP,P1,P2,P3,P4,P5,P6,P7,P8,P9,P10,P11,P12,P13,P14,L1,P15,N1,N2,N3,N4,N5,N6,N7,I1,I2,I3,I4,I5,I6,I7,reduceIte,reduceCtorEq]
 refine determinizeZ_p T B fun R' l' e' hD'=>?_
 obtain⟨rfl,rfl,rfl⟩:=hD.eq hD'
 simp only[PP,P1,P2,P3,P4,P5,P6,P7,P8,P9,P10,P11,P12,P13,P14,L1,P15,N1,N2,N3,N4,N5,N6,N7,I1,I2,I3,I4,I5,I6,I7,reduceIte,reduceCtorEq,List.append_assoc,gk0,sk0]
 refine TopX_seq (TopX_run ?_)
 simp only[PP,P1,P2,P3,P4,P5,P6,P7,P8,P9,P10,P11,P12,P13,P14,L1,P15,N1,N2,N3,N4,N5,N6,N7,I1,I2,I3,I4,I5,I6,I7,reduceIte,reduceCtorEq,List.append_assoc,gk0,sk0,gk,sk]
 refine equalD_p T BR (fun b hb=>?_)
 obtain rfl:b=true:=hb.2 rfl
 simp only[PP,P1,P2,P3,P4,P5,P6,P7,P8,P9,P10,P11,P12,P13,P14,L1,P15,N1,N2,N3,N4,N5,N6,N7,I1,I2,I3,I4,I5,I6,I7,reduceIte,reduceCtorEq,List.append_assoc,gk0,sk0,gk,sk]
 refine equalRows_p T bl1 bl2 ?_
 simp only[PP,P1,P2,P3,P4,P5,P6,P7,P8,P9,P10,P11,P12,P13,P14,L1,P15,N1,N2,N3,N4,N5,N6,N7,I1,I2,I3,I4,I5,I6,I7,reduceIte,reduceCtorEq,List.append_assoc,gk0,sk0,gk,sk]
 refine equalN_p T B A.e A.e (fun b hb=>?_)
 obtain rfl:b=true:=hb.2 rfl
 simp only[PP,P1,P2,P3,P4,P5,P6,P7,P8,P9,P10,P11,P12,P13,P14,L1,P15,N1,N2,N3,N4,N5,N6,N7,I1,I2,I3,I4,I5,I6,I7,reduceIte,reduceCtorEq,List.append_assoc,gk0,sk0,gk,sk]
 refine TopX_weak (b:=[Zj,p64 bd,.ptr 0 0 0,Zj,Zj,.ptr 1 0 0,.ptr 2 0 0,slR false false false false .i64 l,p64 e,p64 k,.ptr (G.length+1+1+1) 0 0,slR false true false true .i64 l,Zj,Zj,Zj,Zj,Zj,Zj,Zj,Zj,Zj,Zj,Zj,Zj,Zj,Zj,Zj,Zj,Zj,Zj,Zj,Zj,Zj,Zj,Zj,Zj,Zj,Zj,Zj,Zj,Zj,Zj,Zj,Zj,Zj,Zj,Zj,Zj,Zj,Zj,Zj,Zj,Zj,Zj,Zj,Zj,Zj,Zj,Zj,Zj,Zj,Zj,Zj,Zj,Zj,Zj,Zj,Zj,Zj,Zj,Zj,Zj,Zj])
  (N:= .cells 0 0 (nfF N):: .cells 0 1 (nfF N):: .cells 0 1 (dfF R)::(G++[.cells 0 1 (dfC false true false true false true R)])) ?_ (by simp only[PW]) rfl
 refine TopX_ov (OvX_seq (OvX_agg (gg:=0) (ver:=1) (cs:=dfC false true false true false true R) rfl (by simp only[List.getElem?_cons_succ,gk0];rfl) (by simp) rfl (over3_dfa T BR) (OvX_mv rfl rfl (over3_rows T bl1 bl2) ?_)))
 simp only[PP,P1,P2,P3,P4,P5,P6,P7,P8,P9,P10,P11,P12,P13,P14,L1,P15,N1,N2,N3,N4,N5,N6,N7,I1,I2,I3,I4,I5,I6,I7,reduceIte,reduceCtorEq,jnkL,PV.jnk,List.map_append,List.map_cons,List.map_nil,PObj.mapC,jnkL_nf,jnkL_df,jnk_old,jnk_rowsI,jnkL_bools,jnkL_ints,jnkL_egL]
 refine TopX_run ?_
 simp only[PP,P1,P2,P3,P4,P5,P6,P7,P8,P9,P10,P11,P12,P13,P14,L1,P15,N1,N2,N3,N4,N5,N6,N7,I1,I2,I3,I4,I5,I6,I7,reduceIte,reduceCtorEq,hwk]
 have hk2:k<2:=by omega
 exact TopX_weak (ih (k+1,G.map (PObj.mapC jnkL)++[PObj.mapC jnkL (.cells 0 1 (dfC false true false true false true R))]) (by show k+1≤2;omega) (by show 2-(k+1)<2-k;omega)) (by simp only[PW]) rfl
theorem determinizes_all (args:List AV) (h:H) (hs:ShVs [nfaTy,.int .i64] args h):
  ∃n h',(run tab n).call 4 args h=some (.bool true,h'):=by
 obtain⟨a,b,rfl,ha,hb⟩:=shVs2 hs
 obtain⟨N,r1,A⟩:=arg_nfa ha
 obtain⟨bd,rfl,r2,b1,b2⟩:=arg_int hb
 exact run_of_C (law_of_top T.h4 (.cons r1 (.cons r2 (.nil _))) (determinizes_top T A))
end
end Go.Am.Ar

