/- Contract: a refutation of a player's part (certify.refute), and what goes with it. -/
import Derived.Test.YtgcombgonagkkaaCertifyAcceptsG3
import Derived.Test.YtgcombgonagkkaaCertifyAcceptsG1
import Derived.Test.YtgcombgonagkkaaCertifyAcceptsG0
import Derived.Test.YtgcombgonagkkaaPmL
import Derived.Test.YtgcombgonagkkaaPmR
set_option linter.unusedVariables false
set_option linter.unusedSimpArgs false
set_option maxRecDepth 10000
namespace Go.Am.Ar
open Go.Am.PV renaming junk→Zj
open Go.Am renaming pchk→P1,pold→P2,PKNo→P3,ppack→P4,PObj.under→P5,pput→P6,ptset→P7,q60→P8,pev→P9,ofAV→P10,q30→P11,ppad→P12,pfill→P13,q39→P14,AO.effect→P15
open List renaming replicate→L1
open Nat renaming reduceAdd→N1,reduceSub→N2,reduceMul→N3,reduceLT→N4,reduceLeDiff→N5,reduceEqDiff→N6,reduceBEq→N7
open Int renaming reduceToNat→I1,reduceLT→I2,reduceLE→I3,reduceEq→I4,reduceAdd→I5,reduceSub→I6,reduceNeg→I7
theorem Ch.mono {S:Nat→List Nat} {A A':Nat→Prop} {u:Nat} (h:∀x,A x→A' x):∀{c:List Nat},Ch S A u c→Ch S A' u c
 | [],_=>trivial
 | [x],q=>q
 | x::y::c,⟨h1,h2,h3⟩=>⟨h1,h y h2,Ch.mono h h3⟩
theorem Rch.mono' {E:Nat→Nat→Prop} {Q Q':Nat→Prop} {v u:Nat} (hq:∀x,Q x→Q' x) (h:Rch E Q v u):Rch E Q' v u:=h.cond fun _ b _ q=>hq b q
def LoopR (mv:List (List Int)) (pr:List Int) (p:Int) (w:Nat) (lc:List Nat):Prop:=
 w<mv.length∧Ch (Sf mv) (fun x=>zP pr x≤zP pr w) w (w::lc)∧lc.length+1≤mv.length∧zP pr w % 2≠p
def StemR (mv:List (List Int)) (ws:List Int) (p:Int) (w:Nat) (stem:PV):Prop:=
 (stem= .nils∧ws.getD w 0=p)∨∃(v:Nat) (sc:List Nat),stem=slI false true .i64 (nI (v::sc))∧v<mv.length∧ws.getD v 0=p∧¬ws.getD w 0=p∧Ch (Sf mv) (fun _=>True) w (v::sc)∧sc.length+1≤mv.length
theorem cer_in {ow pr ws ss:List Int} {su:List (List Int)} {p:Int} (F:FormP ow pr su ws ss) (B:Bnd ow pr su):RowsIn (tabA ow.length (movC ow ws ss su p)):=by
 have:tabA ow.length (movF ow su p (tabA ow.length (ownF ow ws ss p)))=tabA ow.length (movC ow ws ss su p):=tabA_congr fun v hv=>mov_eq F hv
 rw[←this]
 exact mov_in (q25 F.c) B
theorem loop_ref {ow pr ws ss:List Int} {su:List (List Int)} {p:Int} {w:Nat} {lc:List Nat} {stem:PV} (hl:LoopR (tabA ow.length (movC ow ws ss su p)) pr p w lc) (hs:StemR (tabA ow.length (movC ow ws ss su p)) ws p w stem):RefP ow pr ws ss su p:=by
 obtain⟨h1,h2,h3,h4⟩:=hl
 rw[q27]at h1
 refine⟨w,h1,?_,h4,h2.rch (Int.le_refl _)⟩
 rcases hs with⟨_,q⟩ | ⟨v,sc,_,q1,q2,_,q3,_⟩
 ·exact⟨w,h1,q,.inl rfl⟩
 ·rw[q27]at q1
  exact⟨v,q1,q2,.inr (q3.rch trivial)⟩
section
variable {tab:FuncId→Option AF} (T:HasA tab)
include T
set_option maxHeartbeats 2000000 in
theorem refute_p {M:Mem} {K:PV→Mem→Prop} {f1 o1 f2 o2 f3 o3 f4 o4 f5 o5 f6 o6:Bool} {ow pr ws ss:List Int} {su:List (List Int)} {p:Int} (B:Bnd ow pr su) (F:FormP ow pr su ws ss) (hp:p=0∨p=1)
  (hk1:¬RefP ow pr ws ss su p→K (.tuple [.nils,.nils]) M)
  (hk2:∀(w:Nat) (lc:List Nat) (stem:PV),LoopR (tabA ow.length (movC ow ws ss su p)) pr p w lc→StemR (tabA ow.length (movC ow ws ss su p)) ws p w stem→K (.tuple [stem,slI false true .i64 (nI (w::lc))]) M):
  SemC tab 31 [gmP f1 o1 f2 o2 f3 o3 f4 o4 ow pr su,.agg (sC f5 o5 f6 o6 ws ss),p8 p] M K:=by
 have V:=q25 F.c
 have n1:=V.n1
 have hs:=V.s
 have hpl:=V.p
 have lw:=F.lw
 have ls:=F.ls
 have hwp:IntKind.i64.wrap p=p:=q52 (by omega) (by omega)
 have hF:∀v,v<ow.length→∀(M':Mem) (K':PV→Mem→Prop),K' (.bool (decide (ws.getD v 0=p))) M'→SemC tab 54 (p64 v::[.cp (sC f5 o5 f6 o6 ws ss) 0,.cp [p8 p] 0]) M' K':=fun v hv M' K' hK'=>by
  have v0:(0:Int)≤v:=by omega
  have vn:(v:Int)<ow.length:=by omega
  obtain⟨w,g2⟩:=q9 (xs:=ws) (k:=v) (by omega)
  rw[getD_some g2]at hK'
  refine q11 T.h54 (by simp only[PP,P1,P2,P3,P4,P5,P6,P7,P8,P9,P10,P11,P12,P13,P14,L1,P15,N1,N2,N3,N4,N5,N6,N7,I1,I2,I3,I4,I5,I6,I7,reduceIte,reduceCtorEq,PV.under]) ?_
  simp only[af54,PP,P1,P2,P3,P4,P5,P6,P7,P8,P9,P10,P11,P12,P13,P14,L1,P15,N1,N2,N3,N4,N5,N6,N7,I1,I2,I3,I4,I5,I6,I7,reduceIte,reduceCtorEq,v0,vn,g2,lw]
  exact hK'
 have hA:∀(k:Nat),k<ow.length→∀v,v<ow.length→∀(M':Mem) (K':PV→Mem→Prop),K' (.bool (decide (pr.getD v 0≤pr.getD k 0))) M'→SemC tab 56 (p64 v::[.cp (gC f1 o1 f2 o2 f3 o3 f4 o4 ow pr su) 0,.cp [p64 k] 0]) M' K':=fun k hk v hv M' K' hK'=>by
  have v0:(0:Int)≤v:=by omega
  have vn:(v:Int)<ow.length:=by omega
  have k0:(0:Int)≤k:=by omega
  have kn:(k:Int)<ow.length:=by omega
  obtain⟨a,g1⟩:=q9 (xs:=pr) (k:=v) (by omega)
  obtain⟨b,g2⟩:=q9 (xs:=pr) (k:=k) (by omega)
  rw[getD_some g1,getD_some g2]at hK'
  refine q11 T.h56 (by simp only[PP,P1,P2,P3,P4,P5,P6,P7,P8,P9,P10,P11,P12,P13,P14,L1,P15,N1,N2,N3,N4,N5,N6,N7,I1,I2,I3,I4,I5,I6,I7,reduceIte,reduceCtorEq,PV.under]) ?_
  simp only[af56,PP,P1,P2,P3,P4,P5,P6,P7,P8,P9,P10,P11,P12,P13,P14,L1,P15,N1,N2,N3,N4,N5,N6,N7,I1,I2,I3,I4,I5,I6,I7,reduceIte,reduceCtorEq,v0,vn,k0,kn,g1,g2,hpl]
  exact hK'
 have hT:∀(k:Nat),∀v,∀(M':Mem) (K':PV→Mem→Prop),K' (.bool (decide (v=k))) M'→SemC tab 57 (p64 v::[.cp [p64 k] 0]) M' K':=fun k v M' K' hK'=>by
  refine q11 T.h57 (by simp only[PP,P1,P2,P3,P4,P5,P6,P7,P8,P9,P10,P11,P12,P13,P14,L1,P15,N1,N2,N3,N4,N5,N6,N7,I1,I2,I3,I4,I5,I6,I7,reduceIte,reduceCtorEq,PV.under]) ?_
  simp only[af57,PP,P1,P2,P3,P4,P5,P6,P7,P8,P9,P10,P11,P12,P13,P14,L1,P15,N1,N2,N3,N4,N5,N6,N7,I1,I2,I3,I4,I5,I6,I7,reduceIte,reduceCtorEq]
  rw[decide_eq_decide.2 (show(v:Int)=k↔v=k by omega)]
  exact hK'
 have hU:∀v:Nat,∀(M':Mem) (K':PV→Mem→Prop),K' (.bool true) M'→SemC tab 59 (p64 v::[]) M' K':=fun v M' K' hK'=>by
  refine q11 T.h59 (by simp only[PP,P1,P2,P3,P4,P5,P6,P7,P8,P9,P10,P11,P12,P13,P14,L1,P15,N1,N2,N3,N4,N5,N6,N7,I1,I2,I3,I4,I5,I6,I7,reduceIte,reduceCtorEq,PV.under]) ?_
  simp only[af59,PP,P1,P2,P3,P4,P5,P6,P7,P8,P9,P10,P11,P12,P13,P14,L1,P15,N1,N2,N3,N4,N5,N6,N7,I1,I2,I3,I4,I5,I6,I7,reduceIte,reduceCtorEq]
  exact hK'
 refine SemC_pureS T.h31 (by simp only[PP,P1,P2,P3,P4,P5,P6,P7,P8,P9,P10,P11,P12,P13,P14,L1,P15,N1,N2,N3,N4,N5,N6,N7,I1,I2,I3,I4,I5,I6,I7,reduceIte,reduceCtorEq,PV.under]) ?_
 simp only[af31]
 refine q23 (q24 ?_)
 simp only[PP,P1,P2,P3,P4,P5,P6,P7,P8,P9,P10,P11,P12,P13,P14,L1,P15,N1,N2,N3,N4,N5,N6,N7,I1,I2,I3,I4,I5,I6,I7,reduceIte,reduceCtorEq]
 refine q41 (GStep.freezeP (b:=[Zj,Zj,Zj,.cp (gC f1 o1 f2 o2 f3 o3 f4 o4 ow pr su) 0,.ptr 1 0 0,.ptr 2 0 0,.nils,.nils,Zj,Zj,Zj,Zj,Zj,Zj,Zj,Zj,Zj,Zj,Zj,Zj,Zj,Zj,Zj,Zj,Zj,Zj,Zj,Zj,Zj,Zj,Zj,Zj,Zj,Zj,Zj,Zj,Zj,Zj,Zj,Zj,Zj,Zj,Zj,Zj,Zj,Zj,Zj,Zj,Zj,Zj,Zj,Zj,Zj,Zj,Zj,Zj,Zj,Zj,Zj,Zj,Zj,Zj,Zj,Zj,Zj,Zj,Zj,Zj,Zj,Zj,Zj,Zj,Zj,Zj,Zj,Zj,Zj,Zj,Zj,Zj,Zj,Zj,Zj,Zj,Zj,Zj]) 0 (Nat.zero_le _) rfl (by simp only[q67,q55,q54,q66]) rfl) ?_
 refine q41 (GStep.freezeP (b:=[Zj,Zj,Zj,.cp (gC f1 o1 f2 o2 f3 o3 f4 o4 ow pr su) 0,.cp (sC f5 o5 f6 o6 ws ss) 0,.ptr 2 0 0,.nils,.nils,Zj,Zj,Zj,Zj,Zj,Zj,Zj,Zj,Zj,Zj,Zj,Zj,Zj,Zj,Zj,Zj,Zj,Zj,Zj,Zj,Zj,Zj,Zj,Zj,Zj,Zj,Zj,Zj,Zj,Zj,Zj,Zj,Zj,Zj,Zj,Zj,Zj,Zj,Zj,Zj,Zj,Zj,Zj,Zj,Zj,Zj,Zj,Zj,Zj,Zj,Zj,Zj,Zj,Zj,Zj,Zj,Zj,Zj,Zj,Zj,Zj,Zj,Zj,Zj,Zj,Zj,Zj,Zj,Zj,Zj,Zj,Zj,Zj,Zj,Zj,Zj,Zj,Zj]) 1 (Nat.zero_le _) rfl (by simp only[q67,q55,q54,q66]) rfl) ?_
 refine q41 (GStep.freezeP (b:=[Zj,Zj,Zj,.cp (gC f1 o1 f2 o2 f3 o3 f4 o4 ow pr su) 0,.cp (sC f5 o5 f6 o6 ws ss) 0,.cp [p8 p] 0,.nils,.nils,Zj,Zj,Zj,Zj,Zj,Zj,Zj,Zj,Zj,Zj,Zj,Zj,Zj,Zj,Zj,Zj,Zj,Zj,Zj,Zj,Zj,Zj,Zj,Zj,Zj,Zj,Zj,Zj,Zj,Zj,Zj,Zj,Zj,Zj,Zj,Zj,Zj,Zj,Zj,Zj,Zj,Zj,Zj,Zj,Zj,Zj,Zj,Zj,Zj,Zj,Zj,Zj,Zj,Zj,Zj,Zj,Zj,Zj,Zj,Zj,Zj,Zj,Zj,Zj,Zj,Zj,Zj,Zj,Zj,Zj,Zj,Zj,Zj,Zj,Zj,Zj,Zj,Zj]) 2 (Nat.zero_le _) rfl (by simp only[q67,q55,q54,q66]) rfl) ?_
 refine q41 (GStep.drop (b:=[Zj,Zj,Zj,.cp (gC f1 o1 f2 o2 f3 o3 f4 o4 ow pr su) 0,.cp (sC f5 o5 f6 o6 ws ss) 0,.cp [p8 p] 0,.nils,.nils,Zj,Zj,Zj,Zj,Zj,Zj,Zj,Zj,Zj,Zj,Zj,Zj,Zj,Zj,Zj,Zj,Zj,Zj,Zj,Zj,Zj,Zj,Zj,Zj,Zj,Zj,Zj,Zj,Zj,Zj,Zj,Zj,Zj,Zj,Zj,Zj,Zj,Zj,Zj,Zj,Zj,Zj,Zj,Zj,Zj,Zj,Zj,Zj,Zj,Zj,Zj,Zj,Zj,Zj,Zj,Zj,Zj,Zj,Zj,Zj,Zj,Zj,Zj,Zj,Zj,Zj,Zj,Zj,Zj,Zj,Zj,Zj,Zj,Zj,Zj,Zj,Zj,Zj]) 0 (Nat.zero_le _) (by simp) (by simp only[PW]) (by simp only[PP,P1,P2,P3,P4,P5,P6,P7,P8,P9,P10,P11,P12,P13,P14,L1,P15,N1,N2,N3,N4,N5,N6,N7,I1,I2,I3,I4,I5,I6,I7,reduceIte,reduceCtorEq,PV.under]) rfl rfl) ?_
 refine q24 ?_
 simp only[PP,P1,P2,P3,P4,P5,P6,P7,P8,P9,P10,P11,P12,P13,P14,L1,P15,N1,N2,N3,N4,N5,N6,N7,I1,I2,I3,I4,I5,I6,I7,reduceIte,reduceCtorEq]
 refine moves33_p T B hs lw ls ?_
 have R:=cer_in (p:=p) F B
 have hRef:RefP ow pr ws ss su p↔∃w,w<ow.length∧(∃v,v<ow.length∧ws.getD v 0=p∧(w=v∨Rch (fun a b=>b∈Sf (tabA ow.length (movC ow ws ss su p)) a) (fun _=>True) v w))∧Bad (fun a b=>b∈Sf (tabA ow.length (movC ow ws ss su p)) a) (zP pr) p w:=Iff.rfl
 have lmv:(tabA ow.length (movC ow ws ss su p)).length=ow.length:=q27 _ _
 revert R hRef hk2 lmv
 generalize tabA ow.length (movC ow ws ss su p)=mv
 intro hk2 R hRef lmv
 rw[hRef]at hk1
 simp only[PP,P1,P2,P3,P4,P5,P6,P7,P8,P9,P10,P11,P12,P13,P14,L1,P15,N1,N2,N3,N4,N5,N6,N7,I1,I2,I3,I4,I5,I6,I7,reduceIte,reduceCtorEq]
 refine reach33_p T R (F:=fun v=>decide (ws.getD v 0=p)) (by simp only[PP,P1,P2,P3,P4,P5,P6,P7,P8,P9,P10,P11,P12,P13,P14,L1,P15,N1,N2,N3,N4,N5,N6,N7,I1,I2,I3,I4,I5,I6,I7,reduceIte,reduceCtorEq,PV.under]) (fun v hv=>hF v (by omega)) fun sn lsn hsn=>?_
 simp only[PP,P1,P2,P3,P4,P5,P6,P7,P8,P9,P10,P11,P12,P13,P14,L1,P15,N1,N2,N3,N4,N5,N6,N7,I1,I2,I3,I4,I5,I6,I7,reduceIte,reduceCtorEq]
 refine loop1 (fun(k:Nat)=>k≤ow.length∧∀w,w<k→bm sn w→¬Bad (fun a b=>b∈Sf mv a) (zP pr) p w)
  (fun k=>[Zj,Zj,Zj,.cp (gC f1 o1 f2 o2 f3 o3 f4 o4 ow pr su) 0,Zj,.cp [p8 p] 0,.nils,Zj,slR false true true false .i64 mv,.func (.func 54) [] [.cp (sC f5 o5 f6 o6 ws ss) 0,.cp [p8 p] 0],Zj,Zj,Zj,Zj,Zj,Zj,Zj,Zj,Zj,Zj,Zj,Zj,Zj,Zj,Zj,slB false true sn,p64 sn.length,p64 k,Zj,Zj,Zj,Zj,Zj,Zj,Zj,Zj,Zj,Zj,Zj,Zj,Zj,Zj,Zj,Zj,Zj,Zj,Zj,Zj,Zj,Zj,Zj,Zj,Zj,Zj,Zj,Zj,Zj,Zj,Zj,Zj,Zj,Zj,Zj,Zj,Zj,Zj,Zj,Zj,Zj,Zj,Zj,Zj,Zj,Zj,Zj,Zj,Zj,Zj,Zj,Zj,Zj,Zj,Zj,Zj,Zj,Zj])
  (fun k=>[]) (fun k=>ow.length-k) 0 ⟨by omega,by intro w h;omega⟩ (by simp only[PW]) rfl ?_
 intro k ⟨hle,hbad⟩ ih
 refine SemW_loop (by kernel_rfl) (q23 (q24 ?_))
 simp only[PP,P1,P2,P3,P4,P5,P6,P7,P8,P9,P10,P11,P12,P13,P14,L1,P15,N1,N2,N3,N4,N5,N6,N7,I1,I2,I3,I4,I5,I6,I7,reduceIte,reduceCtorEq]
 refine q23 (q24 ?_)
 simp only[PP,P1,P2,P3,P4,P5,P6,P7,P8,P9,P10,P11,P12,P13,P14,L1,P15,N1,N2,N3,N4,N5,N6,N7,I1,I2,I3,I4,I5,I6,I7,reduceIte,reduceCtorEq]
 refine QIf.intro (fun c=>?_) (fun c=>?_)
 rotate_left
 ·simp only[PP,P1,P2,P3,P4,P5,P6,P7,P8,P9,P10,P11,P12,P13,P14,L1,P15,N1,N2,N3,N4,N5,N6,N7,I1,I2,I3,I4,I5,I6,I7,reduceIte,reduceCtorEq,c]
  refine hk1 ?_
  rintro⟨w,hw,⟨v,hv,hwv,hvw⟩,hb⟩
  exact hbad w (by omega) ((hsn w).2 ⟨v,by omega,decide_eq_true hwv,hvw⟩) hb
 have hk':k<ow.length:=by omega
 have k0:(0:Int)≤k:=by omega
 have kn:(k:Int)<ow.length:=by omega
 have hwk:=q12 (k:=k) (by show _<1000000000000;omega)
 obtain⟨z,gz⟩:=q9 (xs:=sn) (k:=k) (by omega)
 obtain⟨q,gq⟩:=q9 (xs:=pr) (k:=k) (by omega)
 have eq:zP pr k=q:=getD_some gq
 have q0:0≤q:=(V.pri0 q (List.mem_of_getElem? gq)).1
 have hrem:q.tmod 2=q % 2:=Int.tmod_eq_emod_of_nonneg q0
 simp only[PP,P1,P2,P3,P4,P5,P6,P7,P8,P9,P10,P11,P12,P13,P14,L1,P15,N1,N2,N3,N4,N5,N6,N7,I1,I2,I3,I4,I5,I6,I7,reduceIte,reduceCtorEq,c]
 refine q23 (SemW_blk (q23 (q24 ?_)))
 simp only[PP,P1,P2,P3,P4,P5,P6,P7,P8,P9,P10,P11,P12,P13,P14,L1,P15,N1,N2,N3,N4,N5,N6,N7,I1,I2,I3,I4,I5,I6,I7,reduceIte,reduceCtorEq,k0,c,gz]
 refine q41 (GStep.freezeP (b:=[Zj,Zj,Zj,.cp (gC f1 o1 f2 o2 f3 o3 f4 o4 ow pr su) 0,Zj,.cp [p8 p] 0,.nils,Zj,slR false true true false .i64 mv,.func (.func 54) [] [.cp (sC f5 o5 f6 o6 ws ss) 0,.cp [p8 p] 0],Zj,.cp [p64 k] 0,.bool z,Zj,Zj,Zj,Zj,Zj,Zj,Zj,Zj,Zj,Zj,Zj,Zj,slB false true sn,p64 sn.length,p64 k,Zj,Zj,Zj,Zj,Zj,Zj,Zj,Zj,Zj,Zj,Zj,Zj,Zj,Zj,Zj,Zj,Zj,Zj,Zj,Zj,Zj,Zj,Zj,Zj,Zj,Zj,Zj,Zj,Zj,Zj,Zj,Zj,Zj,Zj,Zj,Zj,Zj,Zj,Zj,Zj,Zj,Zj,Zj,Zj,Zj,Zj,Zj,Zj,Zj,Zj,Zj,Zj,Zj,Zj,Zj,Zj,Zj,Zj]) 0 (Nat.zero_le _) rfl (by simp only[q67,q55,q54,q66]) rfl) ?_
 refine q41 (GStep.drop (b:=[Zj,Zj,Zj,.cp (gC f1 o1 f2 o2 f3 o3 f4 o4 ow pr su) 0,Zj,.cp [p8 p] 0,.nils,Zj,slR false true true false .i64 mv,.func (.func 54) [] [.cp (sC f5 o5 f6 o6 ws ss) 0,.cp [p8 p] 0],Zj,.cp [p64 k] 0,.bool z,Zj,Zj,Zj,Zj,Zj,Zj,Zj,Zj,Zj,Zj,Zj,Zj,slB false true sn,p64 sn.length,p64 k,Zj,Zj,Zj,Zj,Zj,Zj,Zj,Zj,Zj,Zj,Zj,Zj,Zj,Zj,Zj,Zj,Zj,Zj,Zj,Zj,Zj,Zj,Zj,Zj,Zj,Zj,Zj,Zj,Zj,Zj,Zj,Zj,Zj,Zj,Zj,Zj,Zj,Zj,Zj,Zj,Zj,Zj,Zj,Zj,Zj,Zj,Zj,Zj,Zj,Zj,Zj,Zj,Zj,Zj,Zj,Zj,Zj,Zj]) 0 (Nat.zero_le _) (by simp) (by simp only[PW]) (by simp only[PP,P1,P2,P3,P4,P5,P6,P7,P8,P9,P10,P11,P12,P13,P14,L1,P15,N1,N2,N3,N4,N5,N6,N7,I1,I2,I3,I4,I5,I6,I7,reduceIte,reduceCtorEq,PV.under]) rfl rfl) ?_
 refine q24 ?_
 have next:(bm sn k→¬Bad (fun a b=>b∈Sf mv a) (zP pr) p k)→k+1≤ow.length∧∀w,w<k+1→bm sn w→¬Bad (fun a b=>b∈Sf mv a) (zP pr) p w:=fun h=>⟨hk',fun w hw hb=>by
  by_cases e:w=k
  ·subst e;exact h hb
  ·exact hbad w (by omega) hb⟩
 cases z with
 | false=>
  simp only[PP,P1,P2,P3,P4,P5,P6,P7,P8,P9,P10,P11,P12,P13,P14,L1,P15,N1,N2,N3,N4,N5,N6,N7,I1,I2,I3,I4,I5,I6,I7,reduceIte,reduceCtorEq]
  refine q24 ?_
  simp only[PP,P1,P2,P3,P4,P5,P6,P7,P8,P9,P10,P11,P12,P13,P14,L1,P15,N1,N2,N3,N4,N5,N6,N7,I1,I2,I3,I4,I5,I6,I7,reduceIte,reduceCtorEq,hwk]
  exact q8 (ih (k+1) (next fun h=>by rw[q65 gz]at h;cases h) (by omega)) (by simp only[PW])
 | true=>
  have hbk:bm sn k:=(q65 gz).2 rfl
  obtain⟨v1,hv1,hv2,hv3⟩:=(hsn k).1 hbk
  simp only[PP,P1,P2,P3,P4,P5,P6,P7,P8,P9,P10,P11,P12,P13,P14,L1,P15,N1,N2,N3,N4,N5,N6,N7,I1,I2,I3,I4,I5,I6,I7,reduceIte,reduceCtorEq,k0,kn,gq,hpl,hwp,prem (show(2:Int)≠0 by decide),hrem]
  refine QIf.intro (fun d=>?_) (fun d=>?_)
  ·simp only[PP,P1,P2,P3,P4,P5,P6,P7,P8,P9,P10,P11,P12,P13,P14,L1,P15,N1,N2,N3,N4,N5,N6,N7,I1,I2,I3,I4,I5,I6,I7,reduceIte,reduceCtorEq,d]
   refine q24 ?_
   simp only[PP,P1,P2,P3,P4,P5,P6,P7,P8,P9,P10,P11,P12,P13,P14,L1,P15,N1,N2,N3,N4,N5,N6,N7,I1,I2,I3,I4,I5,I6,I7,reduceIte,reduceCtorEq,hwk]
   exact q8 (ih (k+1) (next fun _ h=>h.1 (by rw[eq];exact d)) (by omega)) (by simp only[PW])
  simp only[PP,P1,P2,P3,P4,P5,P6,P7,P8,P9,P10,P11,P12,P13,P14,L1,P15,N1,N2,N3,N4,N5,N6,N7,I1,I2,I3,I4,I5,I6,I7,reduceIte,reduceCtorEq,d]
  refine path_p T R (al:=fun v=>decide (pr.getD v 0≤pr.getD k 0)) (to:=fun v=>decide (v=k)) (by omega) (by simp only[PP,P1,P2,P3,P4,P5,P6,P7,P8,P9,P10,P11,P12,P13,P14,L1,P15,N1,N2,N3,N4,N5,N6,N7,I1,I2,I3,I4,I5,I6,I7,reduceIte,reduceCtorEq,PV.under]) (by simp only[PP,P1,P2,P3,P4,P5,P6,P7,P8,P9,P10,P11,P12,P13,P14,L1,P15,N1,N2,N3,N4,N5,N6,N7,I1,I2,I3,I4,I5,I6,I7,reduceIte,reduceCtorEq,PV.under]) (fun v hv=>hA k hk' v (by omega)) (fun v hv=>hT k v) (fun hno=>?_) (fun lc x hx htx hax hch hlc=>?_)
  ·simp only[PP,P1,P2,P3,P4,P5,P6,P7,P8,P9,P10,P11,P12,P13,P14,L1,P15,N1,N2,N3,N4,N5,N6,N7,I1,I2,I3,I4,I5,I6,I7,reduceIte,reduceCtorEq]
   refine q24 ?_
   simp only[PP,P1,P2,P3,P4,P5,P6,P7,P8,P9,P10,P11,P12,P13,P14,L1,P15,N1,N2,N3,N4,N5,N6,N7,I1,I2,I3,I4,I5,I6,I7,reduceIte,reduceCtorEq,hwk]
   exact q8 (ih (k+1) (next fun _ h=>hno k (by omega) (decide_eq_true rfl) (h.2.mono' fun x hx=>decide_eq_true hx)) (by omega)) (by simp only[PW])
  ·have hxk:x=k:=of_decide_eq_true htx
   subst hxk
   have hL:LoopR mv pr p x lc:=⟨by omega,hch.mono fun x hx=>of_decide_eq_true hx,hlc,by rw[eq];exact d⟩
   have hk3:=fun stem hst=>hk2 x lc stem hL hst
   obtain⟨xl,hxl⟩:∃xl,xl=nI (x::lc):=⟨_,rfl⟩
   have hx0:¬xl.length=0:=by rw[hxl];simp
   rw[←hxl]at hk3 ⊢
   simp only[PP,P1,P2,P3,P4,P5,P6,P7,P8,P9,P10,P11,P12,P13,P14,L1,P15,N1,N2,N3,N4,N5,N6,N7,I1,I2,I3,I4,I5,I6,I7,reduceIte,reduceCtorEq,hx0]
   refine loop2 (fun(i:Nat) (st:PV)=>i≤ow.length∧((st= .nils∧∀v,v<i→ws.getD v 0=p→v≠x→¬ws.getD x 0=p→¬Rch (fun a b=>b∈Sf mv a) (fun _=>True) v x)∨∃(v:Nat) (sc:List Nat),st=slI false true .i64 (nI (v::sc))∧v<mv.length∧ws.getD v 0=p∧¬ws.getD x 0=p∧Ch (Sf mv) (fun _=>True) x (v::sc)∧sc.length+1≤mv.length))
    (fun i st=>[Zj,Zj,Zj,Zj,Zj,Zj,st,slI false true .i64 xl,slR false true true false .i64 mv,.func (.func 54) [] [.cp (sC f5 o5 f6 o6 ws ss) 0,.cp [p8 p] 0],Zj,.cp [p64 x] 0,Zj,Zj,.func (.func 57) [] [.cp [p64 x] 0],.func (.func 59) [] [],Zj,Zj,Zj,Zj,Zj,Zj,Zj,Zj,Zj,Zj,Zj,Zj,Zj,Zj,Zj,Zj,Zj,Zj,Zj,Zj,Zj,Zj,Zj,Zj,Zj,Zj,Zj,Zj,Zj,Zj,Zj,Zj,Zj,Zj,Zj,Zj,Zj,Zj,Zj,p64 mv.length,p64 i,Zj,Zj,Zj,Zj,Zj,Zj,Zj,Zj,Zj,Zj,Zj,Zj,Zj,Zj,Zj,Zj,Zj,Zj,Zj,Zj,Zj,Zj,Zj,Zj,Zj,Zj,Zj,Zj,Zj])
    (fun i st=>[]) (fun i st=>ow.length-i) 0 .nils ⟨by omega,.inl ⟨rfl,by intro v h;omega⟩⟩ (by simp only[PW]) rfl ?_
   intro i st ⟨hle2,hst⟩ ih2
   have hwi:=q12 (k:=i) (by show _<1000000000000;omega)
   rcases hst with⟨rfl,hno⟩ | ⟨v,sc,rfl,w1,w2,w3,w4,w5⟩
   ·refine q15 (by kernel_rfl) ?_
    simp only[PP,P1,P2,P3,P4,P5,P6,P7,P8,P9,P10,P11,P12,P13,P14,L1,P15,N1,N2,N3,N4,N5,N6,N7,I1,I2,I3,I4,I5,I6,I7,reduceIte,reduceCtorEq]
    refine QIf.intro (fun c2=>?_) (fun c2=>?_)
    ·have hi:i<ow.length:=by omega
     have nx:(ws.getD i 0=p→i≠x→¬ws.getD x 0=p→¬Rch (fun a b=>b∈Sf mv a) (fun _=>True) i x)→∀v,v<i+1→ws.getD v 0=p→v≠x→¬ws.getD x 0=p→¬Rch (fun a b=>b∈Sf mv a) (fun _=>True) v x:=fun h v hv=>by
      by_cases e:v=i
      ·subst e;exact h
      ·exact hno v (by omega)
     simp only[PP,P1,P2,P3,P4,P5,P6,P7,P8,P9,P10,P11,P12,P13,P14,L1,P15,N1,N2,N3,N4,N5,N6,N7,I1,I2,I3,I4,I5,I6,I7,reduceIte,reduceCtorEq,c2]
     refine hF i hi _ _ ?_
     by_cases d1:ws.getD i 0=p
     ·rw[decide_eq_true d1]
      by_cases d2:i=x
      ·subst d2
       simp only[PP,P1,P2,P3,P4,P5,P6,P7,P8,P9,P10,P11,P12,P13,P14,L1,P15,N1,N2,N3,N4,N5,N6,N7,I1,I2,I3,I4,I5,I6,I7,reduceIte,reduceCtorEq,hwi]
       exact q8 (ih2 (i+1) .nils ⟨by omega,.inl ⟨rfl,nx fun _ h=>absurd rfl h⟩⟩ (by omega)) (by simp only[PW])
      ·have d2':¬(i:Int)=(x:Int):=by omega
       simp only[PP,P1,P2,P3,P4,P5,P6,P7,P8,P9,P10,P11,P12,P13,P14,L1,P15,N1,N2,N3,N4,N5,N6,N7,I1,I2,I3,I4,I5,I6,I7,reduceIte,reduceCtorEq,d2',hwi]
       refine hF x hk' _ _ ?_
       by_cases d3:ws.getD x 0=p
       ·rw[decide_eq_true d3]
        simp only[PP,P1,P2,P3,P4,P5,P6,P7,P8,P9,P10,P11,P12,P13,P14,L1,P15,N1,N2,N3,N4,N5,N6,N7,I1,I2,I3,I4,I5,I6,I7,reduceIte,reduceCtorEq,hwi]
        exact q8 (ih2 (i+1) .nils ⟨by omega,.inl ⟨rfl,nx fun _ _ h=>absurd d3 h⟩⟩ (by omega)) (by simp only[PW])
       ·rw[decide_eq_false d3]
        simp only[PP,P1,P2,P3,P4,P5,P6,P7,P8,P9,P10,P11,P12,P13,P14,L1,P15,N1,N2,N3,N4,N5,N6,N7,I1,I2,I3,I4,I5,I6,I7,reduceIte,reduceCtorEq,hwi]
        refine path_p T R (al:=fun v=>true) (to:=fun v=>decide (v=x)) (by omega) (by simp only[PP,P1,P2,P3,P4,P5,P6,P7,P8,P9,P10,P11,P12,P13,P14,L1,P15,N1,N2,N3,N4,N5,N6,N7,I1,I2,I3,I4,I5,I6,I7,reduceIte,reduceCtorEq,PV.under]) (by simp only[PP,P1,P2,P3,P4,P5,P6,P7,P8,P9,P10,P11,P12,P13,P14,L1,P15,N1,N2,N3,N4,N5,N6,N7,I1,I2,I3,I4,I5,I6,I7,reduceIte,reduceCtorEq,PV.under]) (fun v hv=>hU v) (fun v hv=>hT x v) (fun hno=>?_) (fun sc y hy hty hay hcy hls=>?_)
        ·simp only[PP,P1,P2,P3,P4,P5,P6,P7,P8,P9,P10,P11,P12,P13,P14,L1,P15,N1,N2,N3,N4,N5,N6,N7,I1,I2,I3,I4,I5,I6,I7,reduceIte,reduceCtorEq,hwi]
         exact q8 (ih2 (i+1) .nils ⟨by omega,.inl ⟨rfl,nx fun _ _ _ h=>hno x (by omega) (decide_eq_true rfl) (h.mono' fun _ _=>rfl)⟩⟩ (by omega)) (by simp only[PW])
        ·have hyx:y=x:=of_decide_eq_true hty
         subst hyx
         obtain⟨yl,hyl⟩:∃yl,yl=nI (i::sc):=⟨_,rfl⟩
         rw[←hyl]
         simp only[PP,P1,P2,P3,P4,P5,P6,P7,P8,P9,P10,P11,P12,P13,P14,L1,P15,N1,N2,N3,N4,N5,N6,N7,I1,I2,I3,I4,I5,I6,I7,reduceIte,reduceCtorEq,hwi]
         exact q8 (ih2 (i+1) (slI false true .i64 yl) ⟨by omega,.inr ⟨i,sc,by rw[hyl],by omega,d1,d3,hcy.mono fun _ _=>trivial,hls⟩⟩ (by omega)) (by simp only[PW])
     ·rw[decide_eq_false d1]
      simp only[PP,P1,P2,P3,P4,P5,P6,P7,P8,P9,P10,P11,P12,P13,P14,L1,P15,N1,N2,N3,N4,N5,N6,N7,I1,I2,I3,I4,I5,I6,I7,reduceIte,reduceCtorEq,hwi]
      exact q8 (ih2 (i+1) .nils ⟨by omega,.inl ⟨rfl,nx fun h=>absurd h d1⟩⟩ (by omega)) (by simp only[PW])
    ·simp only[PP,P1,P2,P3,P4,P5,P6,P7,P8,P9,P10,P11,P12,P13,P14,L1,P15,N1,N2,N3,N4,N5,N6,N7,I1,I2,I3,I4,I5,I6,I7,reduceIte,reduceCtorEq,c2]
     refine hk3 .nils ?_
     by_cases d3:ws.getD x 0=p
     ·exact .inl ⟨rfl,d3⟩
     ·exfalso
      have hv2:=of_decide_eq_true hv2
      rcases hv3 with e | e
      ·subst e;exact d3 hv2
      ·exact hno v1 (by omega) hv2 (fun e'=>d3 (e'▸hv2)) d3 e
   ·have hst0:StemR mv ws p x (slI false true .i64 (nI (v::sc))):= .inr ⟨v,sc,rfl,w1,w2,w3,w4,w5⟩
    have hk4:=hk3 _ hst0
    have stay:∀st,st=slI false true .i64 (nI (v::sc))→∃(v:Nat) (sc:List Nat),st=slI false true .i64 (nI (v::sc))∧v<mv.length∧ws.getD v 0=p∧¬ws.getD x 0=p∧Ch (Sf mv) (fun _=>True) x (v::sc)∧sc.length+1≤mv.length:=fun st e=>⟨v,sc,e,w1,w2,w3,w4,w5⟩
    obtain⟨yl,hyl⟩:∃yl,yl=nI (v::sc):=⟨_,rfl⟩
    have hy0:¬yl.length=0:=by rw[hyl];simp
    rw[←hyl]at hk4 stay ⊢
    refine q15 (by kernel_rfl) ?_
    simp only[PP,P1,P2,P3,P4,P5,P6,P7,P8,P9,P10,P11,P12,P13,P14,L1,P15,N1,N2,N3,N4,N5,N6,N7,I1,I2,I3,I4,I5,I6,I7,reduceIte,reduceCtorEq]
    refine QIf.intro (fun c2=>?_) (fun c2=>?_)
    ·have hi:i<ow.length:=by omega
     have keep:=ih2 (i+1) (slI false true .i64 yl) ⟨by omega,.inr (stay _ rfl)⟩ (by omega)
     simp only[PP,P1,P2,P3,P4,P5,P6,P7,P8,P9,P10,P11,P12,P13,P14,L1,P15,N1,N2,N3,N4,N5,N6,N7,I1,I2,I3,I4,I5,I6,I7,reduceIte,reduceCtorEq,c2]
     refine hF i hi _ _ ?_
     by_cases d1:ws.getD i 0=p
     ·rw[decide_eq_true d1]
      by_cases d2:i=x
      ·subst d2
       simp only[PP,P1,P2,P3,P4,P5,P6,P7,P8,P9,P10,P11,P12,P13,P14,L1,P15,N1,N2,N3,N4,N5,N6,N7,I1,I2,I3,I4,I5,I6,I7,reduceIte,reduceCtorEq,hwi,hy0]
       exact q8 keep (by simp only[PW])
      ·have d2':¬(i:Int)=(x:Int):=by omega
       simp only[PP,P1,P2,P3,P4,P5,P6,P7,P8,P9,P10,P11,P12,P13,P14,L1,P15,N1,N2,N3,N4,N5,N6,N7,I1,I2,I3,I4,I5,I6,I7,reduceIte,reduceCtorEq,d2',hwi,hy0]
       exact q8 keep (by simp only[PW])
     ·rw[decide_eq_false d1]
      simp only[PP,P1,P2,P3,P4,P5,P6,P7,P8,P9,P10,P11,P12,P13,P14,L1,P15,N1,N2,N3,N4,N5,N6,N7,I1,I2,I3,I4,I5,I6,I7,reduceIte,reduceCtorEq,hwi,hy0]
      exact q8 keep (by simp only[PW])
    ·simp only[PP,P1,P2,P3,P4,P5,P6,P7,P8,P9,P10,P11,P12,P13,P14,L1,P15,N1,N2,N3,N4,N5,N6,N7,I1,I2,I3,I4,I5,I6,I7,reduceIte,reduceCtorEq,c2]
     exact hk4
end
section
variable {tab:FuncId→Option AF} (T:HasA tab)
include T
def ChkE (ow pr:List Int) (su:List (List Int)) (ws ss:List Int) (e:Int):Prop:=(¬e=0∧FormE ow pr su ws ss e)∨(FormP ow pr su ws ss∧¬CorrP ow pr su ws ss∧e=14)∨(CorrP ow pr su ws ss∧e=0)
omit T in
theorem ChkE.eq {ow pr ws ss:List Int} {su:List (List Int)} {e e':Int} (h:ChkE ow pr su ws ss e) (h':ChkE ow pr su ws ss e'):e=e':=by
 rcases h with⟨h1,h2⟩ | ⟨h1,h2,rfl⟩ | ⟨h1,rfl⟩
 ·have nf:¬FormP ow pr su ws ss:=fun q=>h1 (h2.zero.2 q)
  rcases h' with⟨g1,g2⟩ | ⟨g1,g2,rfl⟩ | ⟨g1,rfl⟩
  ·exact h2.eq g2
  ·exact absurd g1 nf
  ·exact absurd g1.formP nf
 ·rcases h' with⟨g1,g2⟩ | ⟨g1,g2,rfl⟩ | ⟨g1,rfl⟩
  ·exact absurd (g2.zero.2 h1) g1
  ·rfl
  ·exact absurd g1 h2
 ·rcases h' with⟨g1,g2⟩ | ⟨g1,g2,rfl⟩ | ⟨g1,rfl⟩
  ·exact absurd (g2.zero.2 h1.formP) g1
  ·exact absurd h1 g2
  ·rfl
end
theorem LoopR.par {ow pr ws ss:List Int} {su:List (List Int)} {p:Int} {w:Nat} {lc:List Nat} {stem:PV} (F:FormP ow pr su ws ss) (hp:p=0∨p=1) (hl:LoopR (tabA ow.length (movC ow ws ss su p)) pr p w lc) (hs:StemR (tabA ow.length (movC ow ws ss su p)) ws p w stem):¬CorrP ow pr su ws ss:=fun h=>by
 have h2:=(corr_iff F).1 h
 have:=loop_ref hl hs
 rcases hp with rfl | rfl
 ·exact h2.1 this
 ·exact h2.2 this
section
variable {tab:FuncId→Option AF} (T:HasA tab)
include T
theorem refuteAll_p {M:Mem} {K:PV→Mem→Prop} {f1 o1 f2 o2 f3 o3 f4 o4 f5 o5 f6 o6:Bool} {ow pr ws ss:List Int} {su:List (List Int)} (B:Bnd ow pr su)
  (hk0:∀e:Int,¬e=0→FormE ow pr su ws ss e→K (.tuple [.nils,.nils,p64 e]) M)
  (hk1:CorrP ow pr su ws ss→K (.tuple [.nils,.nils,p64 0]) M)
  (hk2:∀(p:Int) (w:Nat) (lc:List Nat) (stem:PV),FormP ow pr su ws ss→(p=0∨p=1)→LoopR (tabA ow.length (movC ow ws ss su p)) pr p w lc→StemR (tabA ow.length (movC ow ws ss su p)) ws p w stem→K (.tuple [stem,slI false true .i64 (nI (w::lc)),p64 14]) M):
  SemC tab 14 [gmP f1 o1 f2 o2 f3 o3 f4 o4 ow pr su,.agg [slI f5 o5 .u8 ws,slI f6 o6 .i64 ss]] M K:=by
 refine q11 T.h14 (by simp only[PP,P1,P2,P3,P4,P5,P6,P7,P8,P9,P10,P11,P12,P13,P14,L1,P15,N1,N2,N3,N4,N5,N6,N7,I1,I2,I3,I4,I5,I6,I7,reduceIte,reduceCtorEq]) ?_
 simp only[af14,PP,P1,P2,P3,P4,P5,P6,P7,P8,P9,P10,P11,P12,P13,P14,L1,P15,N1,N2,N3,N4,N5,N6,N7,I1,I2,I3,I4,I5,I6,I7,reduceIte,reduceCtorEq]
 refine form33_p T B fun e he=>?_
 simp only[PP,P1,P2,P3,P4,P5,P6,P7,P8,P9,P10,P11,P12,P13,P14,L1,P15,N1,N2,N3,N4,N5,N6,N7,I1,I2,I3,I4,I5,I6,I7,reduceIte,reduceCtorEq]
 refine QIf.intro (fun c1=>?_) (fun c1=>?_)
 rotate_left
 ·simp only[PP,P1,P2,P3,P4,P5,P6,P7,P8,P9,P10,P11,P12,P13,P14,L1,P15,N1,N2,N3,N4,N5,N6,N7,I1,I2,I3,I4,I5,I6,I7,reduceIte,reduceCtorEq,c1]
  exact hk0 e c1 he
 have F:=he.zero.1 c1
 simp only[PP,P1,P2,P3,P4,P5,P6,P7,P8,P9,P10,P11,P12,P13,P14,L1,P15,N1,N2,N3,N4,N5,N6,N7,I1,I2,I3,I4,I5,I6,I7,reduceIte,reduceCtorEq,c1]
 refine loop1 (fun(q:Nat)=>q≤2∧∀p:Int,0≤p→p<q→¬RefP ow pr ws ss su p)
  (fun q=>[Zj,Zj,.ptr 0 0 0,.ptr 1 0 0,Zj,Zj,Zj,Zj,Zj,Zj,Zj,Zj,Zj,Zj,Zj,p8 q,Zj,Zj,Zj,Zj,Zj,Zj,Zj,Zj,Zj,Zj,Zj,Zj,Zj,Zj])
  (fun q=>[.cells 0 0 [slI f1 o1 .u8 ow,slI f2 o2 .i64 pr,slR f3 o3 f4 o4 .i64 su],.cells 0 0 [slI f5 o5 .u8 ws,slI f6 o6 .i64 ss]])
  (fun q=>2-q) 0 ⟨by omega,by intro v h1 h2;omega⟩ (by simp only[PW]) rfl ?_
 intro q ⟨hle2,hq⟩ ih2
 refine q15 (by kernel_rfl) ?_
 simp only[PP,P1,P2,P3,P4,P5,P6,P7,P8,P9,P10,P11,P12,P13,P14,L1,P15,N1,N2,N3,N4,N5,N6,N7,I1,I2,I3,I4,I5,I6,I7,reduceIte,reduceCtorEq]
 refine QIf.intro (fun d=>?_) (fun d=>?_)
 ·have hq2:q<2:=by omega
  have hwq:IntKind.u8.wrap ((q:Int)+1)=((q+1:Nat):Int):=by
   have:q=0∨q=1:=by omega
   rcases this with rfl | rfl<;>rfl
  simp only[PP,P1,P2,P3,P4,P5,P6,P7,P8,P9,P10,P11,P12,P13,P14,L1,P15,N1,N2,N3,N4,N5,N6,N7,I1,I2,I3,I4,I5,I6,I7,reduceIte,reduceCtorEq,d]
  refine refute_p T B F (by omega) (fun hno=>?_) (fun w lc stem hL hS=>?_)
  ·simp only[PP,P1,P2,P3,P4,P5,P6,P7,P8,P9,P10,P11,P12,P13,P14,L1,P15,N1,N2,N3,N4,N5,N6,N7,I1,I2,I3,I4,I5,I6,I7,reduceIte,reduceCtorEq,hwq]
   refine q8 (ih2 (q+1) ⟨by omega,fun p h1 h2=>?_⟩ (by omega)) (by simp only[PW])
   by_cases e:p=q
   ·subst e;exact hno
   ·exact hq p h1 (by omega)
  ·have hk3:=hk2 q w lc stem F (by omega) hL hS
   obtain⟨xl,hxl⟩:∃xl,xl=nI (w::lc):=⟨_,rfl⟩
   have hx0:¬xl.length=0:=by rw[hxl];simp
   rw[←hxl]at hk3 ⊢
   rcases hS with⟨rfl,_⟩ | ⟨v,sc,rfl,_⟩
   ·simp only[PP,P1,P2,P3,P4,P5,P6,P7,P8,P9,P10,P11,P12,P13,P14,L1,P15,N1,N2,N3,N4,N5,N6,N7,I1,I2,I3,I4,I5,I6,I7,reduceIte,reduceCtorEq,hx0]
    exact hk3
   ·revert hk3
    generalize nI (v::sc)=yl
    intro hk3
    simp only[PP,P1,P2,P3,P4,P5,P6,P7,P8,P9,P10,P11,P12,P13,P14,L1,P15,N1,N2,N3,N4,N5,N6,N7,I1,I2,I3,I4,I5,I6,I7,reduceIte,reduceCtorEq,hx0]
    exact hk3
 ·have:q=2:=by omega
  subst this
  simp only[PP,P1,P2,P3,P4,P5,P6,P7,P8,P9,P10,P11,P12,P13,P14,L1,P15,N1,N2,N3,N4,N5,N6,N7,I1,I2,I3,I4,I5,I6,I7,reduceIte,reduceCtorEq,d]
  exact hk1 ((corr_iff F).2 ⟨hq 0 (by omega) (by omega),hq 1 (by omega) (by omega)⟩)
theorem check33_p {M:Mem} {K:PV→Mem→Prop} {f1 o1 f2 o2 f3 o3 f4 o4 f5 o5 f6 o6:Bool} {ow pr ws ss:List Int} {su:List (List Int)} (B:Bnd ow pr su)
  (hk:∀e:Int,ChkE ow pr su ws ss e→K (p64 e) M):
  SemC tab 9 [gmP f1 o1 f2 o2 f3 o3 f4 o4 ow pr su,.agg [slI f5 o5 .u8 ws,slI f6 o6 .i64 ss]] M K:=by
 refine q11 T.h9 (by simp only[PP,P1,P2,P3,P4,P5,P6,P7,P8,P9,P10,P11,P12,P13,P14,L1,P15,N1,N2,N3,N4,N5,N6,N7,I1,I2,I3,I4,I5,I6,I7,reduceIte,reduceCtorEq]) ?_
 simp only[af9,PP,P1,P2,P3,P4,P5,P6,P7,P8,P9,P10,P11,P12,P13,P14,L1,P15,N1,N2,N3,N4,N5,N6,N7,I1,I2,I3,I4,I5,I6,I7,reduceIte,reduceCtorEq]
 refine refuteAll_p T B (fun e h0 he=>?_) (fun h=>?_) (fun p w lc stem F hp hL hS=>?_)
 ·simp only[PP,P1,P2,P3,P4,P5,P6,P7,P8,P9,P10,P11,P12,P13,P14,L1,P15,N1,N2,N3,N4,N5,N6,N7,I1,I2,I3,I4,I5,I6,I7,reduceIte,reduceCtorEq]
  exact hk e (.inl ⟨h0,he⟩)
 ·simp only[PP,P1,P2,P3,P4,P5,P6,P7,P8,P9,P10,P11,P12,P13,P14,L1,P15,N1,N2,N3,N4,N5,N6,N7,I1,I2,I3,I4,I5,I6,I7,reduceIte,reduceCtorEq]
  exact hk 0 (.inr (.inr ⟨h,rfl⟩))
 ·simp only[PP,P1,P2,P3,P4,P5,P6,P7,P8,P9,P10,P11,P12,P13,P14,L1,P15,N1,N2,N3,N4,N5,N6,N7,I1,I2,I3,I4,I5,I6,I7,reduceIte,reduceCtorEq]
  exact hk 14 (.inr (.inl ⟨F,hL.par F hp hS,rfl⟩))
end
def ClsA (ow ws ss:List Int) (su:List (List Int)) (p:Int) (v:Nat):Prop:=ws.getD v 0=p→∀u∈movC ow ws ss su p v,ws.getD u.toNat 0=p
theorem closP_iff {ow pr ws ss:List Int} {su:List (List Int)} (F:FormP ow pr su ws ss) (hw0:∀x∈ws,0≤x):ClosP ow ws ss su↔∀p:Int,p=0∨p=1→∀v,v<ow.length→ClsA ow ws ss su p v:=by
 constructor
 ·intro h p hp v hv hw u hu
  unfold movC at hu
  by_cases e:ow.getD v 0=p∧ws.getD v 0=p
  ·rw[if_pos e,List.mem_singleton]at hu
   subst hu
   rw[←hw]
   exact h v hv _ ((F.form v hv).own (by rw[e.1,e.2])) (.inr rfl)
  ·rw[if_neg e]at hu
   rw[←hw]
   exact h v hv u hu (.inl fun q=>e ⟨by rw[←q];exact hw,hw⟩)
 ·intro h v hv u hu hc
  have h1:=(F.form v hv).k
  obtain⟨w,gw⟩:=q9 (xs:=ws) (k:=v) (by rw[F.lw];exact hv)
  have h0:=hw0 w (List.mem_of_getElem? gw)
  have ew:ws.getD v 0=w:=getD_some gw
  refine h (ws.getD v 0) (by omega) v hv rfl u ?_
  unfold movC
  by_cases e:ow.getD v 0=ws.getD v 0∧ws.getD v 0=ws.getD v 0
  ·rw[if_pos e,List.mem_singleton]
   rcases hc with q | q
   ·exact absurd e.1.symm q
   ·exact q.symm
  ·rw[if_neg e];exact hu
def ClsE (ow pr:List Int) (su:List (List Int)) (ws ss:List Int) (b:Bool) (e:Int):Prop:=(¬e=0∧FormE ow pr su ws ss e∧b=false)∨(FormP ow pr su ws ss∧e=0∧(b=true↔ClosP ow ws ss su))
theorem ClsE.eq {ow pr ws ss:List Int} {su:List (List Int)} {b b':Bool} {e e':Int} (h:ClsE ow pr su ws ss b e) (h':ClsE ow pr su ws ss b' e'):b=b'∧e=e':=by
 rcases h with⟨h1,h2,rfl⟩ | ⟨h1,rfl,h2⟩
 ·rcases h' with⟨g1,g2,rfl⟩ | ⟨g1,rfl,g2⟩
  ·exact⟨rfl,h2.eq g2⟩
  ·exact absurd (h2.zero.2 g1) h1
 ·rcases h' with⟨g1,g2,rfl⟩ | ⟨g1,rfl,g2⟩
  ·exact absurd (g2.zero.2 h1) g1
  ·refine⟨?_,rfl⟩
   rw[Bool.eq_iff_iff,h2,g2]
section
variable {tab:FuncId→Option AF} (T:HasA tab)
include T
theorem idxF_p {M:Mem} {K:PV→Mem→Prop} {f o:Bool} {xs:List Int} {g:FuncId} {cap:List PV} {F:Int→Bool} (hm:xs.length<1000000000000) (hu:q14 0 cap=true)
  (hf:∀x∈xs,∀(M':Mem) (K':PV→Mem→Prop),K' (.bool (F x)) M'→SemC tab g (p64 x::cap) M' K')
  (hk1:(∀x∈xs,F x=false)→K (p64 (-1)) M) (hk2:∀(k:Nat) (x:Int),x∈xs→F x=true→K (p64 k) M):
  SemC tab 41 [slI f o .i64 xs,.func (.func g) [] cap] M K:=by
 refine q11 T.h41 (by simp only[PP,P1,P2,P3,P4,P5,P6,P7,P8,P9,P10,P11,P12,P13,P14,L1,P15,N1,N2,N3,N4,N5,N6,N7,I1,I2,I3,I4,I5,I6,I7,reduceIte,reduceCtorEq,PV.under,hu]) ?_
 simp only[af41,PP,P1,P2,P3,P4,P5,P6,P7,P8,P9,P10,P11,P12,P13,P14,L1,P15,N1,N2,N3,N4,N5,N6,N7,I1,I2,I3,I4,I5,I6,I7,reduceIte,reduceCtorEq]
 refine loop1 (fun(k:Nat)=>k≤xs.length∧∀j,j<k→∀x,xs[j]? =some x→F x=false) (fun k=>[slI f o .i64 xs,.func (.func g) [] cap,Zj,Zj,Zj,Zj,Zj,p64 xs.length,p64 k,Zj,Zj,Zj,Zj,Zj,Zj,Zj,Zj,Zj,Zj])
  (fun k=>[]) (fun k=>xs.length-k) 0 ⟨by omega,by intro j h;omega⟩ (by simp only[PW]) rfl ?_
 intro k ⟨hle,hd⟩ ih
 refine q15 (by kernel_rfl) ?_
 simp only[PP,P1,P2,P3,P4,P5,P6,P7,P8,P9,P10,P11,P12,P13,P14,L1,P15,N1,N2,N3,N4,N5,N6,N7,I1,I2,I3,I4,I5,I6,I7,reduceIte,reduceCtorEq]
 refine QIf.intro (fun c=>?_) (fun c=>?_)
 ·have hk':k<xs.length:=by omega
  have k0:(0:Int)≤k:=by omega
  have hwk:=q12 (k:=k) (by show _<1000000000000;omega)
  obtain⟨x,gx⟩:=q9 (xs:=xs) (k:=k) hk'
  simp only[PP,P1,P2,P3,P4,P5,P6,P7,P8,P9,P10,P11,P12,P13,P14,L1,P15,N1,N2,N3,N4,N5,N6,N7,I1,I2,I3,I4,I5,I6,I7,reduceIte,reduceCtorEq,c,k0,gx]
  refine hf x (List.mem_of_getElem? gx) _ _ ?_
  cases hF:F x with
  | true=>
   simp only[PP,P1,P2,P3,P4,P5,P6,P7,P8,P9,P10,P11,P12,P13,P14,L1,P15,N1,N2,N3,N4,N5,N6,N7,I1,I2,I3,I4,I5,I6,I7,reduceIte,reduceCtorEq]
   exact hk2 k x (List.mem_of_getElem? gx) hF
  | false=>
   simp only[PP,P1,P2,P3,P4,P5,P6,P7,P8,P9,P10,P11,P12,P13,P14,L1,P15,N1,N2,N3,N4,N5,N6,N7,I1,I2,I3,I4,I5,I6,I7,reduceIte,reduceCtorEq,hwk]
   refine q8 (ih (k+1) ⟨by omega,fun j hj y gy=>?_⟩ (by omega)) (by simp only[PW])
   by_cases e:j=k
   ·subst e;rw[gx]at gy;cases gy;exact hF
   ·exact hd j (by omega) y gy
 ·simp only[PP,P1,P2,P3,P4,P5,P6,P7,P8,P9,P10,P11,P12,P13,P14,L1,P15,N1,N2,N3,N4,N5,N6,N7,I1,I2,I3,I4,I5,I6,I7,reduceIte,reduceCtorEq,c]
  exact hk1 fun x hx=>by
   obtain⟨j,hj⟩:=List.getElem?_of_mem hx
   exact hd j (by have:=q10 hj;omega) x hj
theorem contF_p {M:Mem} {K:PV→Mem→Prop} {f o:Bool} {xs:List Int} {g:FuncId} {cap:List PV} {F:Int→Bool} (hm:xs.length<1000000000000) (hu:q14 0 cap=true)
  (hf:∀x∈xs,∀(M':Mem) (K':PV→Mem→Prop),K' (.bool (F x)) M'→SemC tab g (p64 x::cap) M' K')
  (hk1:(∀x∈xs,F x=false)→K (.bool false) M) (hk2:(∃x,x∈xs∧F x=true)→K (.bool true) M):
  SemC tab 29 [slI f o .i64 xs,.func (.func g) [] cap] M K:=by
 refine q11 T.h29 (by simp only[PP,P1,P2,P3,P4,P5,P6,P7,P8,P9,P10,P11,P12,P13,P14,L1,P15,N1,N2,N3,N4,N5,N6,N7,I1,I2,I3,I4,I5,I6,I7,reduceIte,reduceCtorEq,PV.under,hu]) ?_
 simp only[af29,PP,P1,P2,P3,P4,P5,P6,P7,P8,P9,P10,P11,P12,P13,P14,L1,P15,N1,N2,N3,N4,N5,N6,N7,I1,I2,I3,I4,I5,I6,I7,reduceIte,reduceCtorEq]
 refine idxF_p T hm hu hf (fun h=>?_) (fun k x hx hF=>?_)
 ·have e:¬(0:Int)≤-1:=by omega
  simp only[PP,P1,P2,P3,P4,P5,P6,P7,P8,P9,P10,P11,P12,P13,P14,L1,P15,N1,N2,N3,N4,N5,N6,N7,I1,I2,I3,I4,I5,I6,I7,reduceIte,reduceCtorEq,e]
  exact hk1 h
 ·have e:(0:Int)≤k:=by omega
  simp only[PP,P1,P2,P3,P4,P5,P6,P7,P8,P9,P10,P11,P12,P13,P14,L1,P15,N1,N2,N3,N4,N5,N6,N7,I1,I2,I3,I4,I5,I6,I7,reduceIte,reduceCtorEq,e]
  exact hk2 ⟨x,hx,hF⟩
set_option maxHeartbeats 1000000 in
theorem closed33_p {M:Mem} {K:PV→Mem→Prop} {f1 o1 f2 o2 f3 o3 f4 o4 f5 o5 f6 o6:Bool} {ow pr ws ss:List Int} {su:List (List Int)} (B:Bnd ow pr su) (hw0:∀x∈ws,0≤x)
  (hk:∀(b:Bool) (e:Int),ClsE ow pr su ws ss b e→K (.tuple [.bool b,p64 e]) M):
  SemC tab 10 [gmP f1 o1 f2 o2 f3 o3 f4 o4 ow pr su,.agg (sC f5 o5 f6 o6 ws ss)] M K:=by
 refine SemC_pureS T.h10 (by simp only[PP,P1,P2,P3,P4,P5,P6,P7,P8,P9,P10,P11,P12,P13,P14,L1,P15,N1,N2,N3,N4,N5,N6,N7,I1,I2,I3,I4,I5,I6,I7,reduceIte,reduceCtorEq,PV.under]) ?_
 simp only[af10]
 refine q23 (q24 ?_)
 simp only[PP,P1,P2,P3,P4,P5,P6,P7,P8,P9,P10,P11,P12,P13,P14,L1,P15,N1,N2,N3,N4,N5,N6,N7,I1,I2,I3,I4,I5,I6,I7,reduceIte,reduceCtorEq]
 refine q41 (GStep.freezeP (b:=[Zj,Zj,.cp (gC f1 o1 f2 o2 f3 o3 f4 o4 ow pr su) 0,.ptr 1 0 0,.bool false,p64 0,Zj,Zj,Zj,Zj,Zj,Zj,Zj,Zj,Zj,Zj,Zj,Zj,Zj,Zj,Zj,Zj,Zj,Zj,Zj,Zj,Zj,Zj,Zj,Zj,Zj,Zj,Zj,Zj,Zj,Zj,Zj,Zj,Zj,Zj,Zj,Zj,Zj]) 0 (Nat.zero_le _) rfl (by simp only[q67,q55,q54,q66]) rfl) ?_
 refine q41 (GStep.freezeP (b:=[Zj,Zj,.cp (gC f1 o1 f2 o2 f3 o3 f4 o4 ow pr su) 0,.cp (sC f5 o5 f6 o6 ws ss) 0,.bool false,p64 0,Zj,Zj,Zj,Zj,Zj,Zj,Zj,Zj,Zj,Zj,Zj,Zj,Zj,Zj,Zj,Zj,Zj,Zj,Zj,Zj,Zj,Zj,Zj,Zj,Zj,Zj,Zj,Zj,Zj,Zj,Zj,Zj,Zj,Zj,Zj,Zj,Zj]) 1 (Nat.zero_le _) rfl (by simp only[q67,q55,q54,q66]) rfl) ?_
 refine q41 (GStep.drop (b:=[Zj,Zj,.cp (gC f1 o1 f2 o2 f3 o3 f4 o4 ow pr su) 0,.cp (sC f5 o5 f6 o6 ws ss) 0,.bool false,p64 0,Zj,Zj,Zj,Zj,Zj,Zj,Zj,Zj,Zj,Zj,Zj,Zj,Zj,Zj,Zj,Zj,Zj,Zj,Zj,Zj,Zj,Zj,Zj,Zj,Zj,Zj,Zj,Zj,Zj,Zj,Zj,Zj,Zj,Zj,Zj,Zj,Zj]) 0 (Nat.zero_le _) (by simp) (by simp only[PW]) (by simp only[PP,P1,P2,P3,P4,P5,P6,P7,P8,P9,P10,P11,P12,P13,P14,L1,P15,N1,N2,N3,N4,N5,N6,N7,I1,I2,I3,I4,I5,I6,I7,reduceIte,reduceCtorEq,PV.under]) rfl rfl) ?_
 refine q24 ?_
 simp only[PP,P1,P2,P3,P4,P5,P6,P7,P8,P9,P10,P11,P12,P13,P14,L1,P15,N1,N2,N3,N4,N5,N6,N7,I1,I2,I3,I4,I5,I6,I7,reduceIte,reduceCtorEq]
 refine form33_p T B fun e he=>?_
 simp only[PP,P1,P2,P3,P4,P5,P6,P7,P8,P9,P10,P11,P12,P13,P14,L1,P15,N1,N2,N3,N4,N5,N6,N7,I1,I2,I3,I4,I5,I6,I7,reduceIte,reduceCtorEq]
 refine QIf.intro (fun c1=>?_) (fun c1=>?_)
 rotate_left
 ·simp only[PP,P1,P2,P3,P4,P5,P6,P7,P8,P9,P10,P11,P12,P13,P14,L1,P15,N1,N2,N3,N4,N5,N6,N7,I1,I2,I3,I4,I5,I6,I7,reduceIte,reduceCtorEq,c1]
  exact hk _ _ (.inl ⟨c1,he,rfl⟩)
 have F:=he.zero.1 c1
 have V:=q25 F.c
 have n1:=V.n1
 have hs:=V.s
 have lw:=F.lw
 have ls:=F.ls
 have no:∀(p:Int) (v:Nat),p=0∨p=1→v<ow.length→¬ClsA ow ws ss su p v→K (.tuple [.bool false,p64 0]) M:=fun p v hp hv hn=>hk _ _ (.inr ⟨F,rfl,⟨(fun q=>by cases q),fun q=>absurd ((closP_iff F hw0).1 q p hp v hv) hn⟩⟩)
 simp only[PP,P1,P2,P3,P4,P5,P6,P7,P8,P9,P10,P11,P12,P13,P14,L1,P15,N1,N2,N3,N4,N5,N6,N7,I1,I2,I3,I4,I5,I6,I7,reduceIte,reduceCtorEq,c1]
 refine loop1 (fun(q:Nat)=>q≤2∧∀p:Int,0≤p→p<q→∀v,v<ow.length→ClsA ow ws ss su p v)
  (fun q=>[Zj,Zj,.cp (gC f1 o1 f2 o2 f3 o3 f4 o4 ow pr su) 0,.cp (sC f5 o5 f6 o6 ws ss) 0,Zj,Zj,Zj,Zj,Zj,Zj,Zj,Zj,Zj,Zj,Zj,Zj,p8 q,Zj,Zj,Zj,Zj,Zj,Zj,Zj,Zj,Zj,Zj,Zj,Zj,Zj,Zj,Zj,Zj,Zj,Zj,Zj,Zj,Zj,Zj,Zj,Zj,Zj,Zj])
  (fun q=>[]) (fun q=>2-q) 0 ⟨by omega,by intro v h1 h2;omega⟩ (by simp only[PW]) rfl ?_
 intro q ⟨hle2,hq⟩ ih2
 refine SemW_loop (by kernel_rfl) (q23 (q24 ?_))
 simp only[PP,P1,P2,P3,P4,P5,P6,P7,P8,P9,P10,P11,P12,P13,P14,L1,P15,N1,N2,N3,N4,N5,N6,N7,I1,I2,I3,I4,I5,I6,I7,reduceIte,reduceCtorEq]
 refine q23 (q24 ?_)
 simp only[PP,P1,P2,P3,P4,P5,P6,P7,P8,P9,P10,P11,P12,P13,P14,L1,P15,N1,N2,N3,N4,N5,N6,N7,I1,I2,I3,I4,I5,I6,I7,reduceIte,reduceCtorEq]
 refine QIf.intro (fun d=>?_) (fun d=>?_)
 rotate_left
 ·have:q=2:=by omega
  subst this
  simp only[PP,P1,P2,P3,P4,P5,P6,P7,P8,P9,P10,P11,P12,P13,P14,L1,P15,N1,N2,N3,N4,N5,N6,N7,I1,I2,I3,I4,I5,I6,I7,reduceIte,reduceCtorEq,d]
  exact hk _ _ (.inr ⟨F,rfl,⟨fun _=>(closP_iff F hw0).2 fun p hp=>hq p (by omega) (by omega),fun _=>rfl⟩⟩)
 have hq2:q<2:=by omega
 have hwq:IntKind.u8.wrap ((q:Int)+1)=((q+1:Nat):Int):=by
  have:q=0∨q=1:=by omega
  rcases this with rfl | rfl<;>rfl
 simp only[PP,P1,P2,P3,P4,P5,P6,P7,P8,P9,P10,P11,P12,P13,P14,L1,P15,N1,N2,N3,N4,N5,N6,N7,I1,I2,I3,I4,I5,I6,I7,reduceIte,reduceCtorEq,d]
 refine q23 (SemW_blk (q23 (q24 ?_)))
 simp only[PP,P1,P2,P3,P4,P5,P6,P7,P8,P9,P10,P11,P12,P13,P14,L1,P15,N1,N2,N3,N4,N5,N6,N7,I1,I2,I3,I4,I5,I6,I7,reduceIte,reduceCtorEq]
 refine q41 (GStep.freezeP (b:=[Zj,Zj,.cp (gC f1 o1 f2 o2 f3 o3 f4 o4 ow pr su) 0,.cp (sC f5 o5 f6 o6 ws ss) 0,Zj,Zj,Zj,.cp [p8 q] 0,Zj,Zj,Zj,Zj,Zj,Zj,Zj,Zj,p8 q,Zj,Zj,Zj,Zj,Zj,Zj,Zj,Zj,Zj,Zj,Zj,Zj,Zj,Zj,Zj,Zj,Zj,Zj,Zj,Zj,Zj,Zj,Zj,Zj,Zj,Zj]) 0 (Nat.zero_le _) rfl (by simp only[q67,q55,q54,q66]) rfl) ?_
 refine q41 (GStep.drop (b:=[Zj,Zj,.cp (gC f1 o1 f2 o2 f3 o3 f4 o4 ow pr su) 0,.cp (sC f5 o5 f6 o6 ws ss) 0,Zj,Zj,Zj,.cp [p8 q] 0,Zj,Zj,Zj,Zj,Zj,Zj,Zj,Zj,p8 q,Zj,Zj,Zj,Zj,Zj,Zj,Zj,Zj,Zj,Zj,Zj,Zj,Zj,Zj,Zj,Zj,Zj,Zj,Zj,Zj,Zj,Zj,Zj,Zj,Zj,Zj]) 0 (Nat.zero_le _) (by simp) (by simp only[PW]) (by simp only[PP,P1,P2,P3,P4,P5,P6,P7,P8,P9,P10,P11,P12,P13,P14,L1,P15,N1,N2,N3,N4,N5,N6,N7,I1,I2,I3,I4,I5,I6,I7,reduceIte,reduceCtorEq,PV.under]) rfl rfl) ?_
 refine q24 ?_
 simp only[PP,P1,P2,P3,P4,P5,P6,P7,P8,P9,P10,P11,P12,P13,P14,L1,P15,N1,N2,N3,N4,N5,N6,N7,I1,I2,I3,I4,I5,I6,I7,reduceIte,reduceCtorEq]
 refine moves33_p T B hs lw ls ?_
 have R:=cer_in (p:=(q:Int)) F B
 have hget:∀v,v<ow.length→(tabA ow.length (movC ow ws ss su q))[v]? =some (movC ow ws ss su q v):=fun v hv=>q38 hv
 have lmv:(tabA ow.length (movC ow ws ss su q)).length=ow.length:=q27 _ _
 revert R hget lmv
 generalize tabA ow.length (movC ow ws ss su q)=mv
 intro R hget lmv
 simp only[PP,P1,P2,P3,P4,P5,P6,P7,P8,P9,P10,P11,P12,P13,P14,L1,P15,N1,N2,N3,N4,N5,N6,N7,I1,I2,I3,I4,I5,I6,I7,reduceIte,reduceCtorEq]
 refine loop1 (fun(i:Nat)=>i≤ow.length∧∀v,v<i→ClsA ow ws ss su q v)
  (fun i=>[Zj,Zj,.cp (gC f1 o1 f2 o2 f3 o3 f4 o4 ow pr su) 0,.cp (sC f5 o5 f6 o6 ws ss) 0,Zj,Zj,Zj,.cp [p8 q] 0,Zj,Zj,Zj,Zj,Zj,Zj,Zj,Zj,p8 q,Zj,Zj,Zj,Zj,Zj,slR false true true false .i64 mv,p64 mv.length,p64 i,Zj,Zj,Zj,Zj,Zj,Zj,Zj,Zj,Zj,Zj,Zj,Zj,Zj,Zj,Zj,Zj,Zj,Zj])
  (fun i=>[]) (fun i=>ow.length-i) 0 ⟨by omega,by intro v h1;omega⟩ (by simp only[PW]) rfl ?_
 intro i ⟨hle3,hcl⟩ ih3
 refine q15 (by kernel_rfl) ?_
 simp only[PP,P1,P2,P3,P4,P5,P6,P7,P8,P9,P10,P11,P12,P13,P14,L1,P15,N1,N2,N3,N4,N5,N6,N7,I1,I2,I3,I4,I5,I6,I7,reduceIte,reduceCtorEq]
 refine QIf.intro (fun c=>?_) (fun c=>?_)
 ·have hi:i<ow.length:=by omega
  have i0:(0:Int)≤i:=by omega
  have i1:(i:Int)<ow.length:=by omega
  have hwi:=q12 (k:=i) (by show _<1000000000000;omega)
  obtain⟨w,gw⟩:=q9 (xs:=ws) (k:=i) (by omega)
  have ew:ws.getD i 0=w:=getD_some gw
  have gr:=hget i hi
  have hin:=R.2 _ (List.mem_of_getElem? gr)
  have next:ClsA ow ws ss su q i→i+1≤ow.length∧∀v,v<i+1→ClsA ow ws ss su q v:=fun h=>⟨hi,fun v hv=>by
   by_cases e:v=i
   ·subst e;exact h
   ·exact hcl v (by omega)⟩
  have hcn:∀r,r=movC ow ws ss su q i→(∀u∈r,ws.getD u.toNat 0=q)→ClsA ow ws ss su q i:=fun r hr h _ u hu=>h u (by rw[hr];exact hu)
  have hcb:∀r,r=movC ow ws ss su q i→w=q→(∃u,u∈r∧¬ws.getD u.toNat 0=q)→¬ClsA ow ws ss su q i:=fun r hr hwq ⟨u,hu,h⟩ hc=>h (hc (by rw[ew];exact hwq) u (by rw[←hr];exact hu))
  revert gr hin hcn hcb
  generalize movC ow ws ss su q i=r
  intro gr hin hcn hcb
  simp only[PP,P1,P2,P3,P4,P5,P6,P7,P8,P9,P10,P11,P12,P13,P14,L1,P15,N1,N2,N3,N4,N5,N6,N7,I1,I2,I3,I4,I5,I6,I7,reduceIte,reduceCtorEq,c,i0,i1,gr,gw,lw]
  refine QIf.intro (fun e=>?_) (fun e=>?_)
  ·simp only[PP,P1,P2,P3,P4,P5,P6,P7,P8,P9,P10,P11,P12,P13,P14,L1,P15,N1,N2,N3,N4,N5,N6,N7,I1,I2,I3,I4,I5,I6,I7,reduceIte,reduceCtorEq,e]
   refine contF_p T (F:=fun u=>decide (¬ws.getD u.toNat 0=q)) hin.1 (by simp only[PP,P1,P2,P3,P4,P5,P6,P7,P8,P9,P10,P11,P12,P13,P14,L1,P15,N1,N2,N3,N4,N5,N6,N7,I1,I2,I3,I4,I5,I6,I7,reduceIte,reduceCtorEq,PV.under]) (fun u hu M' K' hK'=>?_) (fun hall=>?_) (fun hex=>?_)
   ·have hur:=hin.2 u hu
    obtain⟨a,rfl⟩:∃a:Nat,u=a:=⟨u.toNat,by omega⟩
    have a0:(0:Int)≤a:=by omega
    have an:(a:Int)<ow.length:=by omega
    obtain⟨y,gy⟩:=q9 (xs:=ws) (k:=a) (by omega)
    rw[Int.toNat_natCast,getD_some gy]at hK'
    refine q11 T.h30 (by simp only[PP,P1,P2,P3,P4,P5,P6,P7,P8,P9,P10,P11,P12,P13,P14,L1,P15,N1,N2,N3,N4,N5,N6,N7,I1,I2,I3,I4,I5,I6,I7,reduceIte,reduceCtorEq,PV.under]) ?_
    simp only[af30,PP,P1,P2,P3,P4,P5,P6,P7,P8,P9,P10,P11,P12,P13,P14,L1,P15,N1,N2,N3,N4,N5,N6,N7,I1,I2,I3,I4,I5,I6,I7,reduceIte,reduceCtorEq,a0,an,gy,lw]
    by_cases z:y=(q:Int)
    ·simp only[PP,P1,P2,P3,P4,P5,P6,P7,P8,P9,P10,P11,P12,P13,P14,L1,P15,N1,N2,N3,N4,N5,N6,N7,I1,I2,I3,I4,I5,I6,I7,reduceIte,reduceCtorEq,z,not_true_eq_false,decide_false]at hK' ⊢
     exact hK'
    ·simp only[PP,P1,P2,P3,P4,P5,P6,P7,P8,P9,P10,P11,P12,P13,P14,L1,P15,N1,N2,N3,N4,N5,N6,N7,I1,I2,I3,I4,I5,I6,I7,reduceIte,reduceCtorEq,z,not_false_eq_true,decide_true]at hK' ⊢
     exact hK'
   ·simp only[PP,P1,P2,P3,P4,P5,P6,P7,P8,P9,P10,P11,P12,P13,P14,L1,P15,N1,N2,N3,N4,N5,N6,N7,I1,I2,I3,I4,I5,I6,I7,reduceIte,reduceCtorEq,hwi]
    refine q8 (ih3 (i+1) (next (hcn r rfl fun u hu=>?_)) (by omega)) (by simp only[PW])
    have:=of_decide_eq_false (hall u hu)
    exact Classical.byContradiction this
   ·simp only[PP,P1,P2,P3,P4,P5,P6,P7,P8,P9,P10,P11,P12,P13,P14,L1,P15,N1,N2,N3,N4,N5,N6,N7,I1,I2,I3,I4,I5,I6,I7,reduceIte,reduceCtorEq]
    obtain⟨u,hu,h⟩:=hex
    exact no q i (by omega) hi (hcb r rfl e ⟨u,hu,of_decide_eq_true h⟩)
  ·simp only[PP,P1,P2,P3,P4,P5,P6,P7,P8,P9,P10,P11,P12,P13,P14,L1,P15,N1,N2,N3,N4,N5,N6,N7,I1,I2,I3,I4,I5,I6,I7,reduceIte,reduceCtorEq,e,hwi]
   exact q8 (ih3 (i+1) (next fun h=>absurd (by rw[←ew];exact h) e) (by omega)) (by simp only[PW])
 ·have:i=ow.length:=by omega
  subst this
  simp only[PP,P1,P2,P3,P4,P5,P6,P7,P8,P9,P10,P11,P12,P13,P14,L1,P15,N1,N2,N3,N4,N5,N6,N7,I1,I2,I3,I4,I5,I6,I7,reduceIte,reduceCtorEq,c]
  refine q24 ?_
  simp only[PP,P1,P2,P3,P4,P5,P6,P7,P8,P9,P10,P11,P12,P13,P14,L1,P15,N1,N2,N3,N4,N5,N6,N7,I1,I2,I3,I4,I5,I6,I7,reduceIte,reduceCtorEq,hwq]
  refine q8 (ih2 (q+1) ⟨by omega,fun p h1 h2=>?_⟩ (by omega)) (by simp only[PW])
  by_cases e:p=q
  ·subst e;exact hcl
  ·exact hq p h1 (by omega)
end
section
variable {ow pr ws ss:List Int} {su:List (List Int)}
theorem SolL.mem (V:Valid ow pr su) (L:SolL ow pr su ws ss) {v:Nat} (hv:v<ow.length) (h:ws.getD v 0=ow.getD v 0):ss.getD v 0∈su.getD v []:=by
 have h0:=L.own v hv h
 have h01:=L.sol.r01 v hv
 exact sf_mem V hv h0 ((L.sol.of h01).own v ⟨hv,rfl⟩ h.symm).1
end
theorem Lost.hd {E:Nat→Nat→Prop} {R:Nat→Int} {p:Int} {v u:Nat} (he:E v u) (h:Lost E R p u):Lost E R p v:=by
 rcases h with h | ⟨x,h1,h2⟩
 ·exact .inr ⟨u,h,.one he trivial⟩
 ·exact .inr ⟨x,h1,h2.hd he trivial⟩
section
variable {ow pr ws ss ws' ss':List Int} {su:List (List Int)}
theorem corr_lost (V:Valid ow pr su) (L:SolL ow pr su ws ss) (F:FormP ow pr su ws' ss') {q:Int} (hq01:q=0∨q=1) {k:Nat} (hk:k<ow.length) (hq:ws.getD k 0=q):
  Lost (cerE ow ws' ss' su (1-q)) (zP pr) (1-q) k:=by
 have lw:=L.lw
 have ls:=L.ls
 have hS:=valid_S V
 have hh:∀u,u<ow.length→∃x,x∈Sf su u:=fun u hu=>by
  cases e:Sf su u with
  | nil=>exact absurd e (hS u hu).1
  | cons x l=>exact⟨x,by simp⟩
 classical
 let f:Nat→Nat:=fun u=>if hu:u<ow.length then(if ow.getD u 0=q∧ws.getD u 0=q then stN ss u else if ow.getD u 0=1-q∧ws'.getD u 0=1-q then stN ss' u else Classical.choose (hh u hu)) else 0
 have f1:∀u,u<ow.length→ow.getD u 0=q∧ws.getD u 0=q→f u=stN ss u:=fun u hu h=>by show(if hu:_ then _ else _)=_;rw[dif_pos hu,if_pos h]
 have f2:∀u,u<ow.length→ow.getD u 0=1-q∧ws'.getD u 0=1-q→f u=stN ss' u:=fun u hu h=>by show(if hu:_ then _ else _)=_;rw[dif_pos hu,if_neg (fun z=>by have:=z.1;omega),if_pos h]
 have f3:∀u,u<ow.length→f u∈Sf su u:=fun u hu=>by
  by_cases h:ow.getD u 0=q∧ws.getD u 0=q
  ·rw[f1 u hu h];exact((L.sol.of hq01).own u ⟨hu,h.2⟩ h.1).1
  ·by_cases h1:ow.getD u 0=1-q∧ws'.getD u 0=1-q
   ·rw[f2 u hu h1];exact mem_sf V hu ((F.form u hu).own (by rw[h1.1,h1.2]))
   ·show(if hu:_ then _ else _)∈_
    rw[dif_pos hu,if_neg h,if_neg h1];exact Classical.choose_spec (hh u hu)
 refine(L.sol.of hq01).lost (p:=1-q) (by omega) (f:=f) (fun u hu=>⟨f3 u hu,(hS u hu).2 _ (f3 u hu)⟩) (fun u hu hou=>f1 u hu.1 ⟨hou,hu.2⟩) (fun u hu=>?_) (v:=k) ⟨hk,hq⟩
 show f u∈Sf (tabA ow.length (movC ow ws' ss' su (1-q))) u
 rw[sf_tab hu.1]
 unfold movC
 by_cases h:ow.getD u 0=1-q∧ws'.getD u 0=1-q
 ·rw[if_pos h,f2 u hu.1 h];simp[stN_eq]
 ·rw[if_neg h];exact f3 u hu.1
theorem corr_win (V:Valid ow pr su) (L:SolL ow pr su ws ss) (C:CorrP ow pr su ws' ss') {v:Nat} (hv:v<ow.length):ws'.getD v 0=ws.getD v 0∨1<ws'.getD v 0∨ws'.getD v 0<0:=by
 have h01:=L.sol.r01 v hv
 have h01:ws.getD v 0=0∨ws.getD v 0=1:=h01
 refine Classical.byContradiction fun e=>?_
 have e2:ws'.getD v 0=1-ws.getD v 0:=by omega
 have:=corr_lost V L C.formP h01 hv rfl
 rw[←solE_eq C.formP]at this
 exact C.win (1-ws.getD v 0) (by omega) v hv e2 this
theorem corr_eq (V:Valid ow pr su) (L:SolL ow pr su ws ss) (C:CorrP ow pr su ws' ss') (hw0:∀x∈ws',0≤x):ws'=ws:=by
 refine List.ext_getElem? fun v=>?_
 by_cases hv:v<ow.length
 ·obtain⟨x,hx⟩:=q9 (xs:=ws') (k:=v) (by rw[C.lw];exact hv)
  obtain⟨y,hy⟩:=q9 (xs:=ws) (k:=v) (by rw[L.lw];exact hv)
  have h1:=corr_win V L C hv
  have h2:=(C.form v hv).k
  have h3:=hw0 x (List.mem_of_getElem? hx)
  rw[getD_some hx]at h1 h2
  rw[getD_some hy]at h1
  rw[hx,hy,show x=y by omega]
 ·rw[List.getElem?_eq_none (by have:=C.lw;omega),List.getElem?_eq_none (by have:=L.lw;omega)]
theorem corr_clos (V:Valid ow pr su) (L:SolL ow pr su ws ss) (C:CorrP ow pr su ws ss'):ClosP ow ws ss' su:=fun v hv u hu hc=>by
 have h01:ws.getD v 0=0∨ws.getD v 0=1:=L.sol.r01 v hv
 have hr:=q43 V hv hu
 have hu':=mem_sf V hv hu
 by_cases e:ws.getD v 0=ow.getD v 0
 ·have e2:ss'.getD v 0=u:=hc.resolve_left fun q=>q e
  refine Classical.byContradiction fun q=>?_
  have h01':ws.getD u.toNat 0=0∨ws.getD u.toNat 0=1:=L.sol.r01 u.toNat (by omega)
  have h1:=corr_lost V L C.formP (q:=ws.getD u.toNat 0) h01' (k:=u.toNat) (by omega) rfl
  have h2:1-ws.getD u.toNat 0=ws.getD v 0:=by omega
  rw[h2]at h1
  refine C.win (ws.getD v 0) h01 v hv rfl ?_
  rw[solE_eq C.formP]
  refine h1.hd ?_
  show u.toNat∈Sf (tabA ow.length (movC ow ws ss' su (ws.getD v 0))) v
  rw[sf_tab hv]
  unfold movC
  rw[if_pos ⟨e.symm,rfl⟩,e2];simp
 ·exact((L.sol.of h01).opp v ⟨hv,rfl⟩ (fun q=>e q.symm) _ hu' ((valid_S V v hv).2 _ hu')).2
theorem ChkE.ok {e:Int} (h:ChkE ow pr su ws ss e) (C:CorrP ow pr su ws ss):e=0:=by
 rcases h with⟨h1,h2⟩ | ⟨_,h2,_⟩ | ⟨_,h⟩
 ·exact absurd ((FormE.zero h2).2 C.formP) h1
 ·exact absurd C h2
 ·exact h
theorem ChkE.corr {e:Int} (h:ChkE ow pr su ws ss e) (z:e=0):CorrP ow pr su ws ss:=by
 rcases h with⟨h1,h2⟩ | ⟨_,_,h2⟩ | ⟨h,_⟩
 ·exact absurd z h1
 ·rw[z]at h2;cases h2
 ·exact h
theorem ClsE.ok {b:Bool} {e:Int} (h:ClsE ow pr su ws ss b e) (F:FormP ow pr su ws ss) (C:ClosP ow ws ss su):b=true∧e=0:=by
 rcases h with⟨h1,h2,_⟩ | ⟨_,h1,h2⟩
 ·exact absurd ((FormE.zero h2).2 F) h1
 ·exact⟨h2.2 C,h1⟩
end
abbrev gameTy:Ty:= .pair (.slice (.int .u8)) (.pair (.slice (.int .i64)) (.pair (.slice (.slice (.int .i64))) .unit))
structure Nums (ow pr:List Int) (su:List (List Int)):Prop where
 o:∀x∈ow,0≤x∧x≤255
 p:∀x∈pr,-9223372036854775808≤x∧x≤9223372036854775807
 s:∀r∈su,∀x∈r,-9223372036854775808≤x∧x≤9223372036854775807
 lo:ow.length≤9223372036854775807
 lp:pr.length≤9223372036854775807
 ls:su.length≤9223372036854775807
 lr:∀r∈su,r.length≤9223372036854775807
theorem arg_game {v:AV} {h:H} (hs:ShV gameTy v h):∃(ow pr:List Int) (su:List (List Int)),RepV (wH h) (gmP false false false false false false false false ow pr su) v∧Nums ow pr su:=by
 obtain⟨avs,hs,rfl⟩:=hs
 obtain⟨c1,c2,rfl,h1,c3,c4,rfl,h2,c5,c6,rfl,h3,h4⟩:=hs
 have h4:c6=[]:=h4
 subst h4
 obtain⟨vo,ow,rfl,p1,q1,r1⟩:=sh_intsP h1
 obtain⟨vp,pr,rfl,p2,q2,r2⟩:=sh_intsP h2
 obtain⟨vs,su,rfl,p3,q3,r3⟩:=sh_rowsP h3
 refine⟨ow,pr,su,?_,⟨r1,r2,fun r hr=>(r3 r hr).2,q1,q2,q3,fun r hr=>(r3 r hr).1⟩⟩
 have:=RepL.cons p1 (.cons p2 (.cons p3 (.nil (wH h))))
 exact .agg this.len this.get
theorem run_of_C {tab:FuncId→Option AF} {g:FuncId} {args:List AV} {h:H} (hc:C (lim tab) g args h fun v _=>v= .bool true):∃n h',(run tab n).call g args h=some (.bool true,h'):=by
 unfold C at hc
 obtain⟨v,h',he,rfl⟩:=hc
 obtain⟨n,hn⟩:=(lim_call_iff tab).1 he
 exact⟨n,h',hn⟩
theorem shVs2 {A B:Ty} {args:List AV} {h:H} (hs:ShVs [A,B] args h):∃a b,args=[a,b]∧ShV A a h∧ShV B b h:=by
 match args,hs with
 | [a,b],⟨h1,h2,_⟩=>exact⟨a,b,rfl,h1,h2⟩
abbrev solTy:Ty:= .pair (.slice (.int .u8)) (.pair (.slice (.int .i64)) .unit)
theorem arg_sol {v:AV} {h:H} (hs:ShV solTy v h):∃(ws ss:List Int),RepV (wH h) (.agg [slI false false .u8 ws,slI false false .i64 ss]) v∧∀x∈ws,0≤x∧x≤255:=by
 obtain⟨avs,hs,rfl⟩:=hs
 obtain⟨c1,c2,rfl,h1,c3,c4,rfl,h2,h4⟩:=hs
 have h4:c4=[]:=h4
 subst h4
 obtain⟨vo,ws,rfl,p1,q1,r1⟩:=sh_intsP h1
 obtain⟨vp,ss,rfl,p2,q2,r2⟩:=sh_intsP h2
 refine⟨ws,ss,?_,r1⟩
 have:=RepL.cons p1 (.cons p2 (.nil (wH h)))
 exact .agg this.len this.get
section
variable {tab:FuncId→Option AF} (T:HasA tab)
include T
theorem long33_p {M:Mem} {K:PV→Mem→Prop} {f1 o1 f2 o2 f3 o3 f4 o4 f5 o5 f6 o6:Bool} {ow pr ws ss:List Int} {su:List (List Int)} (hk:∀b:Bool,(b=false→longM ow pr su [ss]=false∧ws.length≤40)→K (.bool b) M):
  SemC tab 4 [gmP f1 o1 f2 o2 f3 o3 f4 o4 ow pr su,.agg [slI f5 o5 .u8 ws,slI f6 o6 .i64 ss]] M K:=by
 refine q11 T.h4 (by simp only[PP,P1,P2,P3,P4,P5,P6,P7,P8,P9,P10,P11,P12,P13,P14,L1,P15,N1,N2,N3,N4,N5,N6,N7,I1,I2,I3,I4,I5,I6,I7,reduceIte,reduceCtorEq]) ?_
 simp only[af4,PP,P1,P2,P3,P4,P5,P6,P7,P8,P9,P10,P11,P12,P13,P14,L1,P15,N1,N2,N3,N4,N5,N6,N7,I1,I2,I3,I4,I5,I6,I7,reduceIte,reduceCtorEq]
 refine long_p T (ls:=[ss]) (f5:=true) (o5:=true) (f6:=f6) (o6:=o6) (by show 1<1000000000000;omega) ?_
 simp only[PP,P1,P2,P3,P4,P5,P6,P7,P8,P9,P10,P11,P12,P13,P14,L1,P15,N1,N2,N3,N4,N5,N6,N7,I1,I2,I3,I4,I5,I6,I7,reduceIte,reduceCtorEq]
 cases hl:longM ow pr su [ss] with
 | true=>
  simp only[PP,P1,P2,P3,P4,P5,P6,P7,P8,P9,P10,P11,P12,P13,P14,L1,P15,N1,N2,N3,N4,N5,N6,N7,I1,I2,I3,I4,I5,I6,I7,reduceIte,reduceCtorEq]
  exact hk true fun h=>by cases h
 | false=>
  simp only[PP,P1,P2,P3,P4,P5,P6,P7,P8,P9,P10,P11,P12,P13,P14,L1,P15,N1,N2,N3,N4,N5,N6,N7,I1,I2,I3,I4,I5,I6,I7,reduceIte,reduceCtorEq]
  by_cases c:(40:Int)<ws.length
  ·rw[decide_eq_true c]
   exact hk true fun h=>by cases h
  ·rw[decide_eq_false c]
   exact hk false fun h=>⟨hl,by omega⟩
end
def cmp3 (a b:Int):Int:=if a<b then-1 else if b<a then 1 else 0
theorem cmp3_lt {a b:Int} (h:a<b):cmp3 a b= -1:=if_pos h
theorem cmp3_gt {a b:Int} (h:b<a):cmp3 a b=1:=by unfold cmp3;rw[if_neg (by omega),if_pos h]
theorem cmp3_eq {a b:Int} (h:a=b):cmp3 a b=0:=by unfold cmp3;rw[if_neg (by omega),if_neg (by omega)]
theorem cmp3_cases (a b:Int):(a<b∧cmp3 a b= -1)∨(a=b∧cmp3 a b=0)∨(b<a∧cmp3 a b=1):=by
 rcases Int.lt_trichotomy a b with h | h | h
 ·exact .inl ⟨h,cmp3_lt h⟩
 ·exact .inr (.inl ⟨h,cmp3_eq h⟩)
 ·exact .inr (.inr ⟨h,cmp3_gt h⟩)
structure Ord3 {α:Type} (f:α→α→Int):Prop where
 rng:∀a b,f a b= -1∨f a b=0∨f a b=1
 anti:∀a b,f b a= -f a b
 tr:∀a b c,f a b≤0→f b c≤0→f a c≤0
theorem Ord3.self {α:Type} {f:α→α→Int} (h:Ord3 f) (a:α):f a a=0:=by have:=h.anti a a;omega
theorem Ord3.zeroL {α:Type} {f:α→α→Int} (h:Ord3 f) {a b:α} (e:f a b=0) (c:α):f a c=f b c:=by
 have e':=h.anti a b
 have r1:=h.rng a c;have r2:=h.rng b c
 have t1:=h.tr a b c (by omega);have t2:=h.tr b a c (by omega)
 have a1:=h.anti a c;have a2:=h.anti b c
 have t3:=h.tr c a b;have t4:=h.tr c b a
 omega
theorem Ord3.zeroR {α:Type} {f:α→α→Int} (h:Ord3 f) {a b:α} (e:f a b=0) (c:α):f c a=f c b:=by
 rw[h.anti a c,h.anti b c,h.zeroL e c]
theorem Ord3.same {α:Type} {f:α→α→Int} (h:Ord3 f) {a b c:α} (e:f a b=f b c):f a c=f a b:=by
 have r1:=h.rng a b;have r2:=h.rng a c
 have t1:=h.tr a b c;have t2:=h.tr c b a
 have a1:=h.anti a b;have a2:=h.anti b c;have a3:=h.anti a c
 have t3:=h.tr c a b;have t4:=h.tr b c a;have t5:=h.tr b a c;have t6:=h.tr a c b
 omega
def lex3 {α:Type} (f g:α→α→Int) (a b:α):Int:=if f a b≠0 then f a b else g a b
theorem Ord3.lex {α:Type} {f g:α→α→Int} (h:Ord3 f) (rng:∀a b,g a b= -1∨g a b=0∨g a b=1) (anti:∀a b,f a b=0→g b a= -g a b)
  (tr:∀a b c,f a b=0→f b c=0→g a b≤0→g b c≤0→g a c≤0):Ord3 (lex3 f g):=by
 refine⟨fun a b=>?_,fun a b=>?_,fun a b c=>?_⟩
 ·unfold lex3;split
  ·exact h.rng a b
  ·exact rng a b
 ·have e:=h.anti a b
  unfold lex3
  by_cases h0:f a b=0
  ·rw[if_neg (by omega),if_neg (by omega),anti a b h0]
  ·rw[if_pos (by omega),if_pos h0,e]
 ·unfold lex3
  intro h1 h2
  by_cases z1:f a b=0
  ·rw[if_neg (by omega)]at h1
   have e1:=h.zeroL z1 c
   by_cases z2:f b c=0
   ·rw[if_neg (by omega)]at h2
    rw[if_neg (by omega)]
    exact tr a b c z1 z2 h1 h2
   ·rw[if_pos z2]at h2
    rw[if_pos (by omega)];omega
  ·rw[if_pos z1]at h1
   by_cases z2:f b c=0
   ·rw[if_neg (by omega)]at h2
    have e1:=h.zeroR z2 a
    rw[if_pos (by omega)];omega
   ·rw[if_pos z2]at h2
    have t1:=h.tr a b c h1 h2
    have t2:=h.tr b c a h2
    have a1:=h.anti a c;have a2:=h.anti a b
    rw[if_pos (by intro e;omega)];exact t1
theorem ord3_cmp:Ord3 cmp3:=by
 refine⟨fun a b=>?_,fun a b=>?_,fun a b c=>?_⟩
 ·rcases cmp3_cases a b with⟨_,h⟩ | ⟨_,h⟩ | ⟨_,h⟩<;>omega
 ·rcases cmp3_cases a b with⟨h0,h⟩ | ⟨h0,h⟩ | ⟨h0,h⟩
  ·rw[h,cmp3_gt h0];rfl
  ·rw[h,cmp3_eq h0.symm];rfl
  ·rw[h,cmp3_lt h0]
 ·rcases cmp3_cases a b with⟨h0,h⟩ | ⟨h0,h⟩ | ⟨h0,h⟩<;>rcases cmp3_cases b c with⟨h2,h3⟩ | ⟨h2,h3⟩ | ⟨h2,h3⟩<;>rcases cmp3_cases a c with⟨h4,h5⟩ | ⟨h4,h5⟩ | ⟨h4,h5⟩<;>omega
theorem Ord3.comap {α β:Type} {f:α→α→Int} (h:Ord3 f) (k:β→α):Ord3 (fun a b=>f (k a) (k b)):=⟨fun a b=>h.rng _ _,fun a b=>h.anti _ _,fun a b c=>h.tr _ _ _⟩
def prI (pr:List Int) (v:Int):Int:=pr.getD v.toNat 0
def relI (pr:List Int) (u v:Int):Int:=lex3 (fun a b=>cmp3 (prI pr a) (prI pr b)) cmp3 u v
theorem q21 (pr:List Int):Ord3 (relI pr):=
 (ord3_cmp.comap (prI pr)).lex (ord3_cmp.rng) (fun a b _=>ord3_cmp.anti a b) (fun a b c _ _=>ord3_cmp.tr a b c)
theorem relI_zero {pr:List Int} {u v:Int} :relI pr u v=0↔u=v:=by
 constructor
 ·intro h
  unfold relI lex3 at h
  split at h
  ·rename_i h1;exact absurd h h1
  ·rcases cmp3_cases u v with⟨_,e⟩ | ⟨e,_⟩ | ⟨_,e⟩<;>omega
 ·rintro rfl;exact(q21 pr).self u
def sgI (pr:List Int) (v:Int):Int:=1-(prI pr v).tmod 2*2
theorem sgI_cases {pr:List Int} {v:Int} (h:0≤prI pr v):(sgI pr v=1∧(prI pr v) % 2=0)∨(sgI pr v= -1∧(prI pr v) % 2=1):=by
 unfold sgI
 rw[Int.tmod_eq_emod_of_nonneg h]
 omega
structure Vl where
 cy:Int
 se:List Int
 st:Int
def cycI (pr:List Int) (a b:Vl):Int:=if sgI pr a.cy≠sgI pr b.cy then sgI pr a.cy else sgI pr a.cy*relI pr a.cy b.cy
def seenF (pr:List Int) (other:List Int) (s:Int):Int×Int→List Int→Int×Int
 | acc,[]=>acc
 | acc,v::l=>seenF pr other s (if v∉other∧(acc.1<0∨0<relI pr v acc.1) then(v,s) else acc) l
def seenX (pr:List Int) (a b:List Int):Int×Int:=seenF pr a (-1) (seenF pr b 1 (-1,0) a) b
def seenI (pr:List Int) (a b:List Int):Int:=if(seenX pr a b).1<0 then 0 else(seenX pr a b).2*sgI pr (seenX pr a b).1
def stepI (pr:List Int) (a b:Vl):Int:=sgI pr a.cy*cmp3 b.st a.st
def ordI (pr:List Int) (a b:Vl):Int:=lex3 (cycI pr) (lex3 (fun a b=>seenI pr a.se b.se) (stepI pr)) a b
def SeenS (pr:List Int) (a b:List Int) (r:Int):Prop:=
 ((∀v,v∈a↔v∈b)∧r=0)∨∃x,((x∈a∧x∉b∧r=sgI pr x)∨(x∈b∧x∉a∧r= -sgI pr x))∧∀v,(v∈a∧v∉b)∨(v∈b∧v∉a)→relI pr v x≤0
def SeenM (pr:List Int) (A B:Int→Prop) (acc:Int×Int):Prop:=
 (acc.1<0∧(∀v,¬A v)∧∀v,¬B v)∨(0≤acc.1∧((A acc.1∧acc.2=1)∨(B acc.1∧acc.2= -1))∧∀v,A v∨B v→relI pr v acc.1≤0)
theorem seenM_a {pr other:List Int} {B:Int→Prop} :∀(l done:List Int) (acc:Int×Int),(∀v∈l,0≤v)→SeenM pr (fun v=>v∈done∧v∉other) B acc→SeenM pr (fun v=>v∈done++l∧v∉other) B (seenF pr other 1 acc l)
 | [],done,acc,_,h=>by simpa [seenF] using h
 | v::l,done,acc,hp,h=>by
  unfold seenF
  have:=seenM_a (pr:=pr) (other:=other) (B:=B) l (done++[v]) (if v∉other∧(acc.1<0∨0<relI pr v acc.1) then(v,1) else acc) (fun x hx=>hp x (List.mem_cons_of_mem _ hx)) ?_
  ·simpa [List.append_assoc] using this
  have hv:=hp v (List.mem_cons_self ..)
  split
  ·rename_i c
   obtain⟨c1,c2⟩:=c
   refine .inr ⟨hv,.inl ⟨⟨by simp,c1⟩,rfl⟩,fun u hu=>?_⟩
   rcases h with⟨h1,h2,h3⟩ | ⟨h1,h2,h3⟩
   ·rcases hu with⟨hu,hn⟩ | hu
    ·simp only[List.mem_append,List.mem_singleton]at hu
     rcases hu with hu | rfl
     ·exact absurd ⟨hu,hn⟩ (h2 u)
     ·rw[(q21 pr).self];exact Int.le_refl _
    ·exact absurd hu (h3 u)
   ·have c2:0<relI pr v acc.1:=by rcases c2 with c2 | c2;omega;exact c2
    have hle:∀u,relI pr u acc.1≤0→relI pr u v≤0:=fun u hu=>(q21 pr).tr u acc.1 v hu (by have:=(q21 pr).anti v acc.1;omega)
    rcases hu with⟨hu,hn⟩ | hu
    ·simp only[List.mem_append,List.mem_singleton]at hu
     rcases hu with hu | rfl
     ·exact hle u (h3 u (.inl ⟨hu,hn⟩))
     ·rw[(q21 pr).self];exact Int.le_refl _
    ·exact hle u (h3 u (.inr hu))
  ·rename_i c
   rcases h with⟨h1,h2,h3⟩ | ⟨h1,h2,h3⟩
   ·refine .inl ⟨h1,fun u ⟨hu,hn⟩=>?_,h3⟩
    simp only[List.mem_append,List.mem_singleton]at hu
    rcases hu with hu | rfl
    ·exact h2 u ⟨hu,hn⟩
    ·exact c ⟨hn,.inl h1⟩
   ·refine .inr ⟨h1,?_,fun u hu=>?_⟩
    ·rcases h2 with⟨⟨g1,g2⟩,g3⟩ | g
     ·exact .inl ⟨⟨by simp[g1],g2⟩,g3⟩
     ·exact .inr g
    ·rcases hu with⟨hu,hn⟩ | hu
     ·simp only[List.mem_append,List.mem_singleton]at hu
      rcases hu with hu | rfl
      ·exact h3 u (.inl ⟨hu,hn⟩)
      ·exact Int.not_lt.1 fun hh=>c ⟨hn,.inr hh⟩
     ·exact h3 u (.inr hu)
theorem SeenM.swap {pr:List Int} {A B:Int→Prop} {x s:Int} (h:SeenM pr A B (x,s)):SeenM pr B A (x,-s):=by
 rcases h with⟨h1,h2,h3⟩ | ⟨h1,h2,h3⟩
 ·exact .inl ⟨h1,h3,h2⟩
 ·refine .inr ⟨h1,?_,fun v hv=>h3 v hv.symm⟩
  rcases h2 with⟨g1,g2⟩ | ⟨g1,g2⟩
  ·exact .inr ⟨g1,by simp only at g2 ⊢;omega⟩
  ·exact .inl ⟨g1,by simp only at g2 ⊢;omega⟩
theorem seenF_neg {pr other:List Int} {s:Int} :∀(l:List Int) (x q:Int),seenF pr other s (x,q) l=((seenF pr other (-s) (x,-q) l).1,-(seenF pr other (-s) (x,-q) l).2)
 | [],x,q=>by simp[seenF]
 | v::l,x,q=>by
  unfold seenF
  simp only
  by_cases c:v∉other∧(x<0∨0<relI pr v x)
  ·rw[if_pos c,if_pos c];exact seenF_neg l v s
  ·rw[if_neg c,if_neg c];exact seenF_neg l x q
theorem seenI_spec {pr a b:List Int} (ha:∀v∈a,0≤v) (hb:∀v∈b,0≤v):SeenS pr a b (seenI pr a b):=by
 have h1:SeenM pr (fun v=>v∈a∧v∉b) (fun _=>False) (seenF pr b 1 (-1,0) a):=by
  have:=seenM_a (pr:=pr) (other:=b) (B:=fun _=>False) a [] (-1,0) ha (.inl ⟨by decide,fun v h=>by simp at h,fun v h=>h⟩)
  simpa using this
 have h2:SeenM pr (fun v=>v∈a∧v∉b) (fun v=>v∈b∧v∉a) (seenX pr a b):=by
  unfold seenX
  generalize seenF pr b 1 (-1,0) a=acc at h1 ⊢
  obtain⟨x,q⟩:=acc
  rw[seenF_neg]
  refine SeenM.swap ?_
  have h0:SeenM pr (fun v=>v∈([]:List Int)∧v∉a) (fun v=>v∈a∧v∉b) (x,-q):=by
   have:=h1.swap
   rcases this with⟨g1,g2,g3⟩ | ⟨g1,g2,g3⟩
   ·exact .inl ⟨g1,fun v h=>by simp at h,g3⟩
   ·refine .inr ⟨g1,?_,fun v hv=>g3 v ?_⟩
    ·rcases g2 with⟨g,_⟩ | g
     ·exact g.elim
     ·exact .inr g
    ·rcases hv with⟨h,_⟩ | h
     ·simp at h
     ·exact .inr h
  have:=seenM_a b [] (x,-q) hb h0
  simpa using this
 unfold seenI
 rcases h2 with⟨g1,g2,g3⟩ | ⟨g1,g2,g3⟩
 ·rw[if_pos g1]
  refine .inl ⟨fun v=>⟨fun h=>?_,fun h=>?_⟩,rfl⟩
  ·exact Classical.byContradiction fun hn=>g2 v ⟨h,hn⟩
  ·exact Classical.byContradiction fun hn=>g3 v ⟨h,hn⟩
 ·rw[if_neg (by omega)]
  refine .inr ⟨(seenX pr a b).1,?_,g3⟩
  rcases g2 with⟨⟨p1,p2⟩,p3⟩ | ⟨⟨p1,p2⟩,p3⟩
  ·exact .inl ⟨p1,p2,by rw[p3];omega⟩
  ·exact .inr ⟨p1,p2,by rw[p3];omega⟩
theorem SeenS.fun {pr a b:List Int} {r q:Int} (h1:SeenS pr a b r) (h2:SeenS pr a b q):r=q:=by
 rcases h1 with⟨e1,rfl⟩ | ⟨x,hx,mx⟩
 ·rcases h2 with⟨e2,rfl⟩ | ⟨y,hy,my⟩
  ·rfl
  ·rcases hy with⟨p,q,_⟩ | ⟨p,q,_⟩
   ·exact absurd ((e1 y).1 p) q
   ·exact absurd ((e1 y).2 p) q
 ·rcases h2 with⟨e2,rfl⟩ | ⟨y,hy,my⟩
  ·rcases hx with⟨p,q,_⟩ | ⟨p,q,_⟩
   ·exact absurd ((e2 x).1 p) q
   ·exact absurd ((e2 x).2 p) q
  ·have e:x=y:=by
    have a1:=my x (by rcases hx with⟨p,q,_⟩ | ⟨p,q,_⟩;exact .inl ⟨p,q⟩;exact .inr ⟨p,q⟩)
    have a2:=mx y (by rcases hy with⟨p,q,_⟩ | ⟨p,q,_⟩;exact .inl ⟨p,q⟩;exact .inr ⟨p,q⟩)
    have a3:=(q21 pr).anti x y
    exact(relI_zero (pr:=pr)).1 (by omega)
   subst e
   rcases hx with⟨p,q,e1⟩ | ⟨p,q,e1⟩<;>rcases hy with⟨p2,q2,e2⟩ | ⟨p2,q2,e2⟩
   ·rw[e1,e2]
   ·exact absurd p q2
   ·exact absurd p q2
   ·rw[e1,e2]
theorem SeenS.swap {pr a b:List Int} {r:Int} (h:SeenS pr a b r):SeenS pr b a (-r):=by
 rcases h with⟨e,rfl⟩ | ⟨x,hx,mx⟩
 ·exact .inl ⟨fun v=>(e v).symm,rfl⟩
 ·refine .inr ⟨x,?_,fun v hv=>mx v hv.symm⟩
  rcases hx with⟨p,q,e⟩ | ⟨p,q,e⟩
  ·exact .inr ⟨p,q,by omega⟩
  ·exact .inl ⟨p,q,by omega⟩
theorem q35 {pr:List Int} (hp:∀v,0≤prI pr v) (v:Int):sgI pr v=1∨sgI pr v= -1:=by
 rcases sgI_cases (hp v) with⟨h,_⟩ | ⟨h,_⟩
 ·exact .inl h
 ·exact .inr h
theorem ord3_cyc {pr:List Int} (hp:∀v,0≤prI pr v):Ord3 (cycI pr):=by
 refine⟨fun a b=>?_,fun a b=>?_,fun a b c=>?_⟩
 ·have r:=(q21 pr).rng a.cy b.cy
  unfold cycI
  rcases q35 hp a.cy with h1 | h1<;>rcases q35 hp b.cy with h2 | h2<;>rw[h1,h2]<;>simp<;>omega
 ·have r:=(q21 pr).anti a.cy b.cy
  unfold cycI
  rcases q35 hp a.cy with h1 | h1<;>rcases q35 hp b.cy with h2 | h2<;>rw[h1,h2]<;>simp<;>omega
 ·have t:=(q21 pr).tr a.cy b.cy c.cy
  have t2:=(q21 pr).tr c.cy b.cy a.cy
  have a1:=(q21 pr).anti a.cy b.cy
  have a2:=(q21 pr).anti b.cy c.cy
  have a3:=(q21 pr).anti a.cy c.cy
  unfold cycI
  rcases q35 hp a.cy with h1 | h1<;>rcases q35 hp b.cy with h2 | h2<;>rcases q35 hp c.cy with h3 | h3<;>rw[h1,h2,h3]<;>simp<;>omega
theorem cycI_zero {pr:List Int} (hp:∀v,0≤prI pr v) {a b:Vl} :cycI pr a b=0↔a.cy=b.cy:=by
 constructor
 ·intro h
  unfold cycI at h
  apply(relI_zero (pr:=pr)).1
  rcases q35 hp a.cy with h1 | h1<;>rcases q35 hp b.cy with h2 | h2<;>rw[h1,h2]at h<;>simp at h<;>omega
 ·intro h
  unfold cycI
  rw[h,(q21 pr).self];simp
abbrev Nn (l:List Int):Prop:=∀v∈l,(0:Int)≤v
theorem SeenS.congr {pr a b a' b':List Int} {r:Int} (ha:∀v,v∈a↔v∈a') (hb:∀v,v∈b↔v∈b') (h:SeenS pr a b r):SeenS pr a' b' r:=by
 unfold SeenS at*
 simpa only[ha,hb] using h
theorem SeenS.rng {pr a b:List Int} {r:Int} (hp:∀v,0≤prI pr v) (h:SeenS pr a b r):r= -1∨r=0∨r=1:=by
 rcases h with⟨_,rfl⟩ | ⟨x,hx,_⟩
 ·exact .inr (.inl rfl)
 ·rcases q35 hp x with e | e<;>rcases hx with⟨_,_,h⟩ | ⟨_,_,h⟩<;>omega
theorem SeenS.tr {pr a b c:List Int} {r q:Int} (hp:∀v,0≤prI pr v) (h1:SeenS pr a b r) (h2:SeenS pr b c q) (hr:r≤0) (hq:q≤0):∃s,SeenS pr a c s∧s≤0:=by
 by_cases z1:∀v,v∈a↔v∈b
 ·exact⟨q,h2.congr (fun v=>(z1 v).symm) (fun _=>Iff.rfl),hq⟩
 by_cases z2:∀v,v∈b↔v∈c
 ·exact⟨r,h1.congr (fun _=>Iff.rfl) z2,hr⟩
 rcases h1 with⟨e,_⟩ | ⟨x,hx,mx⟩
 ·exact absurd e z1
 rcases h2 with⟨e,_⟩ | ⟨y,hy,my⟩
 ·exact absurd e z2
 have hsx:=q35 hp x
 have hsy:=q35 hp y
 have split:∀v,(v∈a∧v∉c)∨(v∈c∧v∉a)→((v∈a∧v∉b)∨(v∈b∧v∉a))∨((v∈b∧v∉c)∨(v∈c∧v∉b)):=fun v hv=>by
  by_cases hb:v∈b<;>rcases hv with⟨h1,h2⟩ | ⟨h1,h2⟩<;>simp[h1,h2,hb]
 have an:=(q21 pr).anti x y
 rcases(q21 pr).rng x y with e | e | e
 ·--y is the more relevant
  have hya:y∈a↔y∈b:=by
   by_cases h1:y∈a<;>by_cases h2:y∈b<;>simp only[h1,h2]
   ·have:=mx y (.inl ⟨h1,h2⟩);omega
   ·have:=mx y (.inr ⟨h2,h1⟩);omega
  refine⟨q,.inr ⟨y,?_,fun v hv=>?_⟩,hq⟩
  ·rw[hya];exact hy
  ·rcases split v hv with h | h
   ·exact(q21 pr).tr v x y (mx v h) (by omega)
   ·exact my v h
 ·have e:=relI_zero.1 e
  subst e
  rcases hx with⟨p1,p2,p3⟩ | ⟨p1,p2,p3⟩<;>rcases hy with⟨q1,q2,q3⟩ | ⟨q1,q2,q3⟩
  ·exact absurd q1 p2
  ·omega
  ·omega
  ·exact absurd p1 q2
 ·have hxc:x∈c↔x∈b:=by
   by_cases h1:x∈c<;>by_cases h2:x∈b<;>simp only[h1,h2]
   ·have:=my x (.inr ⟨h1,h2⟩);omega
   ·have:=my x (.inl ⟨h2,h1⟩);omega
  refine⟨r,.inr ⟨x,?_,fun v hv=>?_⟩,hr⟩
  ·rw[hxc];exact hx
  ·rcases split v hv with h | h
   ·exact mx v h
   ·exact(q21 pr).tr v y x (my v h) (by omega)
abbrev Vn:Type:={x:Vl // Nn x.se}
theorem ord3_ord {pr:List Int} (hp:∀v,0≤prI pr v):Ord3 (fun a b:Vn=>ordI pr a.1 b.1):=by
 have hs:Ord3 (fun a b:Vn=>seenI pr a.1.se b.1.se):=by
  refine⟨fun a b=>(seenI_spec a.2 b.2).rng hp,fun a b=>(seenI_spec b.2 a.2).fun (seenI_spec a.2 b.2).swap,fun a b c h1 h2=>?_⟩
  obtain⟨s,g1,g2⟩:=(seenI_spec (pr:=pr) a.2 b.2).tr hp (seenI_spec b.2 c.2) h1 h2
  rw[(seenI_spec a.2 c.2).fun g1];exact g2
 have hin:∀(f:Vn→Vn→Int),True:=fun _=>trivial
 have hst:∀a b:Vn,stepI pr a.1 b.1= -1∨stepI pr a.1 b.1=0∨stepI pr a.1 b.1=1:=fun a b=>by
  unfold stepI
  rcases q35 hp a.1.cy with h | h<;>rw[h]<;>have:=ord3_cmp.rng b.1.st a.1.st<;>omega
 have hl:∀a b:Vn,lex3 (fun a b:Vl=>seenI pr a.se b.se) (stepI pr) a.1 b.1=lex3 (fun a b:Vn=>seenI pr a.1.se b.1.se) (fun a b=>stepI pr a.1 b.1) a b:=fun a b=>rfl
 have hsub:∀a b:Vn,ordI pr a.1 b.1=lex3 (fun a b:Vn=>cycI pr a.1 b.1) (lex3 (fun a b:Vn=>seenI pr a.1.se b.1.se) (fun a b=>stepI pr a.1 b.1)) a b:=fun a b=>rfl
 have hcy:=(ord3_cyc hp).comap (fun a:Vn=>a.1)
 have hstA:∀a b:Vn,a.1.cy=b.1.cy→stepI pr b.1 a.1= -stepI pr a.1 b.1:=fun a b e=>by
  unfold stepI
  rw[←e]
  have:=ord3_cmp.anti b.1.st a.1.st
  rcases q35 hp a.1.cy with h | h<;>rw[h]<;>omega
 have hstT:∀a b c:Vn,a.1.cy=b.1.cy→b.1.cy=c.1.cy→stepI pr a.1 b.1≤0→stepI pr b.1 c.1≤0→stepI pr a.1 c.1≤0:=fun a b c e1 e2=>by
  unfold stepI
  rw[←e1]
  have t1:=ord3_cmp.tr c.1.st b.1.st a.1.st
  have t2:=ord3_cmp.tr a.1.st b.1.st c.1.st
  have a1:=ord3_cmp.anti b.1.st a.1.st
  have a2:=ord3_cmp.anti c.1.st b.1.st
  have a3:=ord3_cmp.anti c.1.st a.1.st
  rcases q35 hp a.1.cy with h | h<;>rw[h]<;>omega
 have key:Ord3 (lex3 (fun a b:Vn=>cycI pr a.1 b.1) (lex3 (fun a b:Vn=>seenI pr a.1.se b.1.se) (fun a b=>stepI pr a.1 b.1))):=by
  refine hcy.lex (fun a b=>?_) (fun a b e=>?_) (fun a b c e1 e2=>?_)
  ·unfold lex3;split
   ·exact hs.rng a b
   ·exact hst a b
  ·have e:=(cycI_zero hp).1 e
   have h1:=hs.anti a b
   have h2:=hstA a b e
   unfold lex3
   simp only at*
   split<;>split<;>omega
  ·have e1:=(cycI_zero hp).1 e1
   have e2:=(cycI_zero hp).1 e2
   have t0:=hstT a b c e1 e2
   have t1:=hs.tr a b c;have t2:=hs.tr b c a;have t3:=hs.tr c a b
   have a1:=hs.anti a b;have a2:=hs.anti b c;have a3:=hs.anti a c
   have t4:=hs.tr b a c;have t5:=hs.tr a c b;have t6:=hs.tr c b a
   unfold lex3
   simp only at*
   intro h1 h2
   split at h1<;>split at h2<;>split<;>omega
 refine⟨fun a b=>?_,fun a b=>?_,fun a b c=>?_⟩
 ·rw[hsub];exact key.rng a b
 ·rw[hsub,hsub];exact key.anti a b
 ·rw[hsub,hsub,hsub];exact key.tr a b c
def Rise:Int→List Int→Prop
 | _,[]=>True
 | k,v::l=>k<v∧Rise v l
theorem Rise.lt:∀{l:List Int} {k v:Int},Rise k l→v∈l→k<v
 | x::l,k,v,h,hv=>by
  rcases List.mem_cons.1 hv with rfl | hv
  ·exact h.1
  ·have:=Rise.lt h.2 hv;have:=h.1;omega
theorem Rise.ext:∀{a b:List Int} {k:Int},Rise k a→Rise k b→(∀v,v∈a↔v∈b)→a=b
 | [],[],_,_,_,_=>rfl
 | [],y::b,_,_,_,h=>absurd ((h y).2 (List.mem_cons_self ..)) (by simp)
 | x::a,[],_,_,_,h=>absurd ((h x).1 (List.mem_cons_self ..)) (by simp)
 | x::a,y::b,k,ha,hb,h=>by
  have h1:=(h x).1 (List.mem_cons_self ..)
  have h2:=(h y).2 (List.mem_cons_self ..)
  have e:x=y:=by
   rcases List.mem_cons.1 h1 with e | e
   ·exact e
   ·rcases List.mem_cons.1 h2 with e' | e'
    ·exact e'.symm
    ·have:=ha.2.lt e';have:=hb.2.lt e;omega
  subst e
  congr 1
  refine Rise.ext ha.2 hb.2 fun v=>?_
  have:=h v
  simp only[List.mem_cons]at this
  constructor<;>intro hv
  ·rcases this.1 (.inr hv) with rfl | g
   ·have:=ha.2.lt hv;omega
   ·exact g
  ·rcases this.2 (.inr hv) with rfl | g
   ·have:=hb.2.lt hv;omega
   ·exact g
theorem ordI_zero {pr:List Int} (hp:∀v,0≤prI pr v) {a b:Vl} (ra:Rise (-1) a.se) (rb:Rise (-1) b.se):ordI pr a b=0↔a=b:=by
 have na:Nn a.se:=fun v hv=>by have:=ra.lt hv;omega
 have nb:Nn b.se:=fun v hv=>by have:=rb.lt hv;omega
 constructor
 ·intro h
  unfold ordI lex3 at h
  simp only at h
  split at h
  ·rename_i c;exact absurd h c
  ·rename_i c
   have e1:=(cycI_zero hp).1 (by simpa using c)
   split at h
   ·rename_i c2;exact absurd h c2
   ·rename_i c2
    have c2:seenI pr a.se b.se=0:=by simpa using c2
    have e2:a.se=b.se:=by
     have sp:=seenI_spec (pr:=pr) na nb
     rw[c2]at sp
     rcases sp with⟨e,_⟩ | ⟨x,hx,_⟩
     ·exact Rise.ext ra rb e
     ·rcases q35 hp x with g | g<;>rcases hx with⟨_,_,q⟩ | ⟨_,_,q⟩<;>omega
    have e3:a.st=b.st:=by
     unfold stepI at h
     rcases cmp3_cases b.st a.st with⟨q,e⟩ | ⟨q,e⟩ | ⟨q,e⟩
     ·rw[e]at h;rcases q35 hp a.cy with g | g<;>rw[g]at h<;>omega
     ·exact q.symm
     ·rw[e]at h;rcases q35 hp a.cy with g | g<;>rw[g]at h<;>omega
    cases a;cases b;simp_all
 ·rintro rfl
  exact(ord3_ord hp).self ⟨a,na⟩
def sumI (g:Nat→Int):Nat→Int
 | 0=>0
 | n+1=>sumI g n+g n
theorem sumI_congr {g h:Nat→Int} :∀{n:Nat},(∀i,i<n→g i=h i)→sumI g n=sumI h n
 | 0,_=>rfl
 | n+1,e=>by rw[sumI,sumI,sumI_congr fun i hi=>e i (by omega),e n (by omega)]
theorem sumI_le {g h:Nat→Int} :∀{n:Nat},(∀i,i<n→g i≤h i)→sumI g n≤sumI h n
 | 0,_=>Int.le_refl _
 | n+1,e=>by
  have:=sumI_le (n:=n) fun i hi=>e i (by omega)
  have:=e n (by omega)
  rw[sumI,sumI];omega
theorem sumI_add (g h:Nat→Int):∀n:Nat,sumI (fun i=>g i+h i) n=sumI g n+sumI h n
 | 0=>rfl
 | n+1=>by rw[sumI,sumI,sumI,sumI_add g h n];omega
theorem sumI_sub (g h:Nat→Int):∀n:Nat,sumI (fun i=>g i-h i) n=sumI g n-sumI h n
 | 0=>rfl
 | n+1=>by rw[sumI,sumI,sumI,sumI_sub g h n];omega
theorem sumI_mul (c:Int) (g:Nat→Int):∀n:Nat,sumI (fun i=>c*g i) n=c*sumI g n
 | 0=>by simp[sumI]
 | n+1=>by rw[sumI,sumI,sumI_mul c g n,Int.mul_add]
theorem sumI_const (c:Int):∀n:Nat,sumI (fun _=>c) n=c*n
 | 0=>by simp[sumI]
 | n+1=>by rw[sumI,sumI_const c n];rw[show((n+1:Nat):Int)=n+1 by omega,Int.mul_add,Int.mul_one]
theorem sumI_zero {g:Nat→Int} {n:Nat} (h:∀i,i<n→g i=0):sumI g n=0:=by
 rw[sumI_congr h,sumI_const];simp
theorem sumI_tele (g:Nat→Int):∀n:Nat,sumI (fun i=>g (i+1)-g i) n=g n-g 0
 | 0=>by simp[sumI]
 | n+1=>by rw[sumI,sumI_tele g n];omega
theorem sumI_one {g:Nat→Int} {n x:Nat} (hx:x<n):sumI g n=g x+sumI (fun i=>if i=x then 0 else g i) n:=by
 have:∀n,sumI g n=sumI (fun i=>if i=x then g x else 0) n+sumI (fun i=>if i=x then 0 else g i) n:=fun n=>by
  rw[←sumI_add]
  refine sumI_congr fun i _=>?_
  by_cases h:i=x
  ·subst h;simp
  ·simp[h]
 have one:∀n,sumI (fun i=>if i=x then g x else 0) n=if x<n then g x else 0:=by
  intro n
  induction n with
  | zero=>simp[sumI]
  | succ n ih=>
   rw[sumI,ih]
   by_cases h1:x<n
   ·rw[if_pos h1,if_neg (by omega),if_pos (by omega)];omega
   ·by_cases h2:n=x
    ·subst h2;rw[if_neg (by omega),if_pos rfl,if_pos (by omega)];omega
    ·rw[if_neg h1,if_neg h2,if_neg (by omega)];omega
 rw[this n,one n,if_pos hx]
theorem two_pos (k:Nat):(1:Int)≤2^k:=by
 induction k with
 | zero=>simp
 | succ k ih=>rw[Int.pow_succ];omega
theorem sumI_pow {E:Nat→Nat} {n:Nat} (hE:∀i j,i<n→j<n→E i=E j→i=j):∀b:Nat,sumI (fun i=>if E i<b then(2:Int)^E i else 0) n≤2^b-1
 | 0=>by rw[sumI_zero fun i _=>by rw[if_neg (by omega)]];simp
 | b+1=>by
  have ih:=sumI_pow hE b
  by_cases h:∃x,x<n∧E x=b
  ·obtain⟨x,hx,he⟩:=h
   have e:sumI (fun i=>if E i<b+1 then(2:Int)^E i else 0) n=2^b+sumI (fun i=>if E i<b then(2:Int)^E i else 0) n:=by
    rw[sumI_one hx,he,if_pos (by omega)]
    congr 1
    refine sumI_congr fun i hi=>?_
    by_cases e:i=x
    ·subst e;rw[if_pos rfl,if_neg (by omega)]
    ·rw[if_neg e]
     have:E i≠b:=fun q=>e (hE i x hi hx (q.trans he.symm))
     by_cases q:E i<b
     ·rw[if_pos q,if_pos (by omega)]
     ·rw[if_neg q,if_neg (by omega)]
   rw[e,Int.pow_succ];omega
  ·have e:sumI (fun i=>if E i<b+1 then(2:Int)^E i else 0) n=sumI (fun i=>if E i<b then(2:Int)^E i else 0) n:=by
    refine sumI_congr fun i hi=>?_
    have:E i≠b:=fun q=>h ⟨i,hi,q⟩
    by_cases q:E i<b
    ·rw[if_pos q,if_pos (by omega)]
    ·rw[if_neg q,if_neg (by omega)]
   rw[e,Int.pow_succ]
   have:=two_pos b
   omega
theorem lead {E:Nat→Nat} {d:Nat→Int} {n x:Nat} (hE:∀i j,i<n→j<n→E i=E j→i=j) (hx:x<n) (hd:∀i,i<n→d i= -1∨d i=0∨d i=1) (h1:d x=1) (hlt:∀i,i<n→i≠x→d i≠0→E i<E x):
  0<sumI (fun i=>d i*2^E i) n:=by
 rw[sumI_one hx,h1,Int.one_mul]
 have h2:sumI (fun i=> -(if E i<E x then(2:Int)^E i else 0)) n≤sumI (fun i=>if i=x then 0 else d i*2^E i) n:=by
  refine sumI_le fun i hi=>?_
  have hp:=two_pos (E i)
  by_cases e:i=x
  ·subst e;rw[if_pos rfl,if_neg (by omega)];omega
  ·rw[if_neg e]
   rcases hd i hi with h | h | h
   ·rw[if_pos (hlt i hi e (by omega)),h];omega
   ·rw[h];split<;>omega
   ·rw[h];split<;>omega
 have h3:sumI (fun i=> -(if E i<E x then(2:Int)^E i else 0)) n= -sumI (fun i=>if E i<E x then(2:Int)^E i else 0) n:=by
  have:=sumI_mul (-1) (fun i=>if E i<E x then(2:Int)^E i else 0) n
  simp only[Int.neg_mul,Int.one_mul]at this
  exact this
 have h4:=sumI_pow hE (E x)
 omega
theorem lead_neg {E:Nat→Nat} {d:Nat→Int} {n x:Nat} (hE:∀i j,i<n→j<n→E i=E j→i=j) (hx:x<n) (hd:∀i,i<n→d i= -1∨d i=0∨d i=1) (h1:d x= -1) (hlt:∀i,i<n→i≠x→d i≠0→E i<E x):
  sumI (fun i=>d i*2^E i) n<0:=by
 have:=lead (d:=fun i=> -d i) hE hx (fun i hi=>by have:=hd i hi;omega) (by omega) (fun i hi he hn=>hlt i hi he (by omega))
 have h2:=sumI_mul (-1) (fun i=>d i*2^E i) n
 have h3:sumI (fun i=> -d i*2^E i) n=sumI (fun i=> -1*(d i*2^E i)) n:=sumI_congr fun i _=>by rw[Int.neg_mul,Int.neg_mul,Int.one_mul]
 rw[h3,h2]at this
 omega
end Go.Am.Ar

