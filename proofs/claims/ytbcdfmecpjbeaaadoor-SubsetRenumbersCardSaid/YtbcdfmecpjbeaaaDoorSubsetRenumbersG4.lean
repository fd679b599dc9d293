/- The law that renumbering keeps the words and is idempotent, for all arguments. -/
import Derived.Test.YtbcdfmecpjbeaaaDoorSubsetRenumbersG3
set_option linter.unusedVariables false
set_option linter.unusedSimpArgs false
set_option maxRecDepth 10000
namespace Go.Am.Ar
open Go.Am.PV renaming junk→Zj
open Go.Am renaming pchk→P1,pold→P2,PKNo→P3,ppack→P4,PObj.under→P5,pput→P6,ptset→P7,ptget→P8,pev→P9,ofAV→P10,q38→P11,ppad→P12,pfill→P13,prepl→P14,AO.effect→P15
open List renaming replicate→L1
open Nat renaming reduceAdd→N1,reduceSub→N2,reduceMul→N3,reduceLT→N4,reduceLeDiff→N5,reduceEqDiff→N6,reduceBEq→N7
open Int renaming reduceToNat→I1,reduceLT→I2,reduceLE→I3,reduceEq→I4,reduceAdd→I5,reduceSub→I6,reduceNeg→I7
section
variable {tab:FuncId→Option AF} (T:HasA tab)
include T
set_option maxHeartbeats 1000000 in
theorem renumbers_p {D:DF} {w:List Int} (A:NumD D) (hw:∀x∈w,0≤x∧x≤255):
  SemC tab 8 [.agg (dfC false false false false false false D),slI false false .u8 w] [] fun r _=>r= .bool true:=by
 refine SemC_fn T.h8 ?_
 simp only[af8,PP,P1,P2,P3,P4,P5,P6,P7,P8,P9,P10,P11,P12,P13,P14,L1,P15,N1,N2,N3,N4,N5,N6,N7,I1,I2,I3,I4,I5,I6,I7,reduceIte,reduceCtorEq]
 refine longD_p T ?_
 cases hl:longD D with
 | true=>
  simp only[PP,P1,P2,P3,P4,P5,P6,P7,P8,P9,P10,P11,P12,P13,P14,L1,P15,N1,N2,N3,N4,N5,N6,N7,I1,I2,I3,I4,I5,I6,I7,reduceIte,reduceCtorEq]
  refine SemC_true T.awake ?_
  simp only[PP,P1,P2,P3,P4,P5,P6,P7,P8,P9,P10,P11,P12,P13,P14,L1,P15,N1,N2,N3,N4,N5,N6,N7,I1,I2,I3,I4,I5,I6,I7,reduceIte,reduceCtorEq]
 | false=>
 have B:=longD_bn hl
 have hn:=(longD_ok hl).1
 simp only[PP,P1,P2,P3,P4,P5,P6,P7,P8,P9,P10,P11,P12,P13,P14,L1,P15,N1,N2,N3,N4,N5,N6,N7,I1,I2,I3,I4,I5,I6,I7,reduceIte,reduceCtorEq]
 refine QIf.intro (fun c1=>?_) (fun c1=>?_)
 ·simp only[PP,P1,P2,P3,P4,P5,P6,P7,P8,P9,P10,P11,P12,P13,P14,L1,P15,N1,N2,N3,N4,N5,N6,N7,I1,I2,I3,I4,I5,I6,I7,reduceIte,reduceCtorEq,c1]
  refine SemC_true T.awake ?_
  simp only[PP,P1,P2,P3,P4,P5,P6,P7,P8,P9,P10,P11,P12,P13,P14,L1,P15,N1,N2,N3,N4,N5,N6,N7,I1,I2,I3,I4,I5,I6,I7,reduceIte,reduceCtorEq]
 have hwl:w.length<1000000000000:=by omega
 simp only[PP,P1,P2,P3,P4,P5,P6,P7,P8,P9,P10,P11,P12,P13,P14,L1,P15,N1,N2,N3,N4,N5,N6,N7,I1,I2,I3,I4,I5,I6,I7,reduceIte,reduceCtorEq,c1]
 refine SemC_true T.awake ?_
 simp only[PP,P1,P2,P3,P4,P5,P6,P7,P8,P9,P10,P11,P12,P13,P14,L1,P15,N1,N2,N3,N4,N5,N6,N7,I1,I2,I3,I4,I5,I6,I7,reduceIte,reduceCtorEq]
 refine renumber_p T B (by omega) (fun hc=>?_) (fun C o F=>?_)
 ·simp only[PP,P1,P2,P3,P4,P5,P6,P7,P8,P9,P10,P11,P12,P13,P14,L1,P15,N1,N2,N3,N4,N5,N6,N7,I1,I2,I3,I4,I5,I6,I7,reduceIte,reduceCtorEq,hc]
  refine dcheck_p T B ?_
  simp only[PP,P1,P2,P3,P4,P5,P6,P7,P8,P9,P10,P11,P12,P13,P14,L1,P15,N1,N2,N3,N4,N5,N6,N7,I1,I2,I3,I4,I5,I6,I7,reduceIte,reduceCtorEq]
 have h:=OrdD.of C F
 simp only[PP,P1,P2,P3,P4,P5,P6,P7,P8,P9,P10,P11,P12,P13,P14,L1,P15,N1,N2,N3,N4,N5,N6,N7,I1,I2,I3,I4,I5,I6,I7,reduceIte,reduceCtorEq]
 refine renumber_p T h.bn (by rw[ren_len];have:=h.len;omega) (fun hc=>absurd (okD_iff.2 h.ren) hc) (fun C2 o2 F2=>?_)
 have h2:=OrdD.of C2 F2
 rw[h.twice h2]
 simp only[PP,P1,P2,P3,P4,P5,P6,P7,P8,P9,P10,P11,P12,P13,P14,L1,P15,N1,N2,N3,N4,N5,N6,N7,I1,I2,I3,I4,I5,I6,I7,reduceIte,reduceCtorEq]
 refine dacc_p T B hw hwl ?_
 simp only[PP,P1,P2,P3,P4,P5,P6,P7,P8,P9,P10,P11,P12,P13,P14,L1,P15,N1,N2,N3,N4,N5,N6,N7,I1,I2,I3,I4,I5,I6,I7,reduceIte,reduceCtorEq]
 refine dacc_p T h.bn hw hwl ?_
 rw[h.acc hw,h.err]
 simp only[PP,P1,P2,P3,P4,P5,P6,P7,P8,P9,P10,P11,P12,P13,P14,L1,P15,N1,N2,N3,N4,N5,N6,N7,I1,I2,I3,I4,I5,I6,I7,reduceIte,reduceCtorEq]
 refine equalD_p T h.bn (fun b hb=>?_)
 obtain rfl:b=true:=hb.2 rfl
 have hle:((renD D o).nx.length:Int)≤D.nx.length:=by rw[ren_len];have:=h.len;omega
 have e0:(renD D o).st=0:=rfl
 simp only[PP,P1,P2,P3,P4,P5,P6,P7,P8,P9,P10,P11,P12,P13,P14,L1,P15,N1,N2,N3,N4,N5,N6,N7,I1,I2,I3,I4,I5,I6,I7,reduceIte,reduceCtorEq,e0,hle]
 refine dcheck_p T h.bn ?_
 rw[okD_iff.2 h.ren]
 simp only[PP,P1,P2,P3,P4,P5,P6,P7,P8,P9,P10,P11,P12,P13,P14,L1,P15,N1,N2,N3,N4,N5,N6,N7,I1,I2,I3,I4,I5,I6,I7,reduceIte,reduceCtorEq]
theorem renumbers_all (args:List AV) (h:H) (hs:ShVs [dfaTy,.slice (.int .u8)] args h):
  ∃n h',(run tab n).call 8 args h=some (.bool true,h'):=by
 obtain⟨a,b,rfl,ha,hb⟩:=shVs2 hs
 obtain⟨D,r1,A⟩:=arg_dfa ha
 obtain⟨w,r4,_,hw⟩:=arg_ints hb
 exact run_of_C (law_of_sem (.cons r1 (.cons r4 (.nil _))) (renumbers_p T A hw))
end
end Go.Am.Ar

