/- The law that an automaton and its subset automaton accept the same words, for all arguments. -/
import Derived.Test.YtbcdfmecpjbeaaaDoorSubsetSameWordsG5
set_option linter.unusedVariables false
set_option linter.unusedSimpArgs false
set_option maxRecDepth 10000
namespace Go.Am.Ar
open Go.Am.PV renaming junk→Zj
open Go.Am renaming pchk→P1,pold→P2,PKNo→P3,ppack→P4,PObj.under→P5,pput→P6,ptset→P7,ptget→P8,pev→P9,ofAV→P10,q42→P11,ppad→P12,pfill→P13,prepl→P14,AO.effect→P15
open List renaming replicate→L1
open Nat renaming reduceAdd→N1,reduceSub→N2,reduceMul→N3,reduceLT→N4,reduceLeDiff→N5,reduceEqDiff→N6,reduceBEq→N7
open Int renaming reduceToNat→I1,reduceLT→I2,reduceLE→I3,reduceEq→I4,reduceAdd→I5,reduceSub→I6,reduceNeg→I7
def wordB (N:NF) (a:BitVec 64) (w:List Int):BitVec 64:=w.foldl (fun a x=>q53 N a x.toNat) a
theorem wordB_run {N:NF} (C:NOk N):∀(w:List Int) (a:BitVec 64) (S:Nat→Prop),(∀k,a.getLsbD k=true↔S k)→∀k,(wordB N a w).getLsbD k=true↔runP N S w k
 | [],a,S,h,k=>h k
 | x::w,a,S,h,k=>by
  refine wordB_run C w (q53 N a x.toNat) _ (fun j=>?_) k
  rw[deltaB_bit C]
  simp only[h]
theorem OrdB.delta {N:NF} {o:List (BitVec 64)} (h:OrdB N o) {a:BitVec 64} {x:Nat} (ha:a∈o) (hx:x<q49 N):deltaD (detD N o) (o.idxOf a) x=o.idxOf (q53 N a x):=by
 have g:=idxOf_atG ha
 unfold deltaD stepD
 have e:(detD N o).nx[o.idxOf a]? =some (rowN (q53 N) (q49 N) o a):=by
  show(rowsN (q53 N) (q49 N) o)[_]? =_
  unfold rowsN;rw[List.getElem?_map,g];rfl
 simp only[Int.toNat_natCast]
 rw[e]
 unfold rowN
 simp only[Option.getD_some]
 rw[List.getElem?_map,List.getElem?_range hx]
 simp only[Option.map_some,Option.getD_some,Int.toNat_natCast]
theorem OrdB.runs {N:NF} {o:List (BitVec 64)} (h:OrdB N o):∀(w:List Int),(∀x∈w,0≤x∧x<2^N.vs.toNat)→∀a,a∈o→wordB N a w∈o∧w.foldl (stepD (detD N o).nx) ((o.idxOf a:Nat):Int)=(o.idxOf (wordB N a w):Nat)
 | [],_,a,ha=>⟨ha,rfl⟩
 | x::w,hw,a,ha=>by
  obtain⟨y,rfl,hy⟩:=nat_of (D:=detD N o) (hw x (by simp)).1 (hw x (by simp)).2
  have hy:y<q49 N:=hy
  have hd:=h.F.next ha hy
  obtain⟨h1,h2⟩:=OrdB.runs h w (fun z hz=>hw z (by simp[hz])) _ hd
  refine⟨h1,?_⟩
  have hi:=q17 (idxOf_atG ha)
  rw[List.foldl_cons,h.ok.step_nat (by rw[det_len];exact hi) hy,h.delta ha hy]
  exact h2
theorem OrdB.fin {N:NF} {o:List (BitVec 64)} (h:OrdB N o) {a:BitVec 64} (ha:a∈o):fiD (detD N o) ((o.idxOf a:Nat):Int)=finB N a:=by
 unfold fiD
 have g:=idxOf_atG ha
 simp only[Int.toNat_natCast]
 have e:(detD N o).fi[o.idxOf a]? =some (finB N a):=by
  show(o.map (finB N))[_]? =_
  rw[List.getElem?_map,g];rfl
 rw[e];rfl
theorem OrdB.st {N:NF} {o:List (BitVec 64)} (h:OrdB N o):startB N∈o∧o.idxOf (startB N)=0:=by
 have:=h.F.zero
 exact⟨List.mem_of_getElem? this,by have:=idxOf_leG this;omega⟩
theorem OrdB.err {N:NF} {o:List (BitVec 64)} (h:OrdB N o) (w:List Int):errD (detD N o) w=accE N w:=by
 unfold errD accE
 rw[if_pos (okD_iff.2 h.ok),if_pos h.c];rfl
theorem OrdB.run {N:NF} {o:List (BitVec 64)} (h:OrdB N o) {w:List Int} (hw:∀x∈w,0≤x∧x≤255) (he:accE N w=0):wordB N (startB N) w∈o∧runD (detD N o) w=(o.idxOf (wordB N (startB N) w):Nat):=by
 have e0:wordE N.vs w=0:=by unfold accE at he;rwa [if_pos h.c]at he
 obtain⟨m1,m2⟩:=h.st
 obtain⟨h1,h2⟩:=h.runs w (fun x hx=>⟨(hw x hx).1,(wordE_zero e0).2 x hx⟩) _ m1
 rw[m2]at h2
 exact⟨h1,h2⟩
theorem finB_iff {N:NF} (C:NOk N) {a:BitVec 64} :finB N a=true↔∃k:Nat,a.getLsbD k=true∧(k:Int)∈N.fi:=by
 unfold finB
 rw[List.any_eq_true]
 constructor
 ·rintro⟨q,q1,q2⟩
  have:=posM_mem C.fi q q1
  exact⟨q.toNat,q2,by rw[show((q.toNat:Nat):Int)=q by omega];exact q1⟩
 ·rintro⟨k,k1,k2⟩
  exact⟨k,k2,by rw[Int.toNat_natCast];exact k1⟩
theorem OrdB.acc {N:NF} {o:List (BitVec 64)} (h:OrdB N o) {w:List Int} (hw:∀x∈w,0≤x∧x≤255) {b:Bool} {e:Int} (hA:AccA N w b e):e=accE N w∧accD (detD N o) w=b:=by
 obtain⟨h1,h2⟩:=hA
 refine⟨h1,?_⟩
 have C:=nok_of h.c
 unfold accD
 rw[h.err]
 by_cases c:accE N w=0
 ·obtain⟨r1,r2⟩:=h.run hw c
  rw[r2,h.fin r1,decide_eq_true c,Bool.true_and,Bool.eq_iff_iff,finB_iff C,h2]
  unfold accP
  have:=wordB_run C w (startB N) (fun k=>(k:Int)∈N.st) (startB_bit C)
  simp only[this,c,true_and]
 ·rw[decide_eq_false c,Bool.false_and]
  cases b with
  | false=>rfl
  | true=>exact absurd (h2.1 rfl).1 c
theorem OrdB.sets {N:NF} {o:List (BitVec 64)} (h:OrdB N o) {a:BitVec 64} (ha:a∈o):(setsB o)[o.idxOf a]? =some (natI (bitsW a)):=by
 unfold setsB;rw[List.getElem?_map,idxOf_atG ha];rfl
section
variable {tab:FuncId→Option AF} (T:HasA tab)
include T
set_option maxHeartbeats 4000000 in
theorem sameWords_p {N:NF} {w:List Int} (A:NumN N) (hw:∀x∈w,0≤x∧x≤255):
  SemC tab 7 [.agg (nfC false false false false false false N),slI false false .u8 w] [] fun r _=>r= .bool true:=by
 refine SemC_sem T.h7 ?_
 simp only[af7]
 refine q29 (q13 ?_)
 simp only[PP,P1,P2,P3,P4,P5,P6,P7,P8,P9,P10,P11,P12,P13,P14,L1,P15,N1,N2,N3,N4,N5,N6,N7,I1,I2,I3,I4,I5,I6,I7,reduceIte,reduceCtorEq]
 cases hl:long6 N with
 | true=>
  refine q13 ?_
  simp only[PP,P1,P2,P3,P4,P5,P6,P7,P8,P9,P10,P11,P12,P13,P14,L1,P15,N1,N2,N3,N4,N5,N6,N7,I1,I2,I3,I4,I5,I6,I7,reduceIte,reduceCtorEq]
  refine long6_p T ?_
  rw[hl]
  simp only[PP,P1,P2,P3,P4,P5,P6,P7,P8,P9,P10,P11,P12,P13,P14,L1,P15,N1,N2,N3,N4,N5,N6,N7,I1,I2,I3,I4,I5,I6,I7,reduceIte,reduceCtorEq]
  refine SemC_true T.awake ?_
  simp only[PP,P1,P2,P3,P4,P5,P6,P7,P8,P9,P10,P11,P12,P13,P14,L1,P15,N1,N2,N3,N4,N5,N6,N7,I1,I2,I3,I4,I5,I6,I7,reduceIte,reduceCtorEq]
 | false=>
 have B:=long6_bn A hl
 refine q29 (SemW_mono (Qn:=fun b M=>(q64 N=0→N.n≤8)∧w.length≤100∧PWeak b [Zj,slI false false .u8 w,.ptr 0 0 0,Zj,Zj,Zj,Zj,Zj,Zj,Zj,Zj,Zj,Zj,Zj,Zj,Zj,Zj,Zj,Zj,Zj,Zj,Zj,Zj,Zj,Zj,Zj,Zj,Zj,Zj,Zj,Zj,Zj,Zj,Zj,Zj,Zj,Zj,Zj,Zj,Zj,Zj,Zj,Zj,Zj,Zj,Zj,Zj,Zj,Zj,Zj,Zj,Zj,Zj,Zj,Zj,Zj,Zj,Zj,Zj,Zj,Zj,Zj,Zj,Zj,Zj,Zj,Zj,Zj,Zj,Zj,Zj,Zj,Zj,Zj,Zj,Zj,Zj,Zj,Zj,Zj,Zj,Zj,Zj,Zj,Zj,Zj,Zj,Zj,Zj,Zj,Zj,Zj,Zj,Zj,Zj,Zj,Zj,Zj,Zj,Zj,Zj,Zj,Zj,Zj,Zj,Zj,Zj,Zj,Zj,Zj,Zj,Zj,Zj,Zj,Zj,Zj,Zj,Zj,Zj,Zj,Zj,Zj,Zj,Zj,Zj,Zj,Zj,Zj,Zj,Zj,Zj,Zj,Zj,Zj,Zj,Zj,Zj,Zj,Zj,Zj,Zj]∧M=[.cells 0 0 (nfF N)]) (Qr:=fun a M=>ptget a 4= .bool true) (Qe:=fun _ _ _=>False) (q13 ?_) ?_ ?_ ?_)
 ·simp only[PP,P1,P2,P3,P4,P5,P6,P7,P8,P9,P10,P11,P12,P13,P14,L1,P15,N1,N2,N3,N4,N5,N6,N7,I1,I2,I3,I4,I5,I6,I7,reduceIte,reduceCtorEq]
  refine long6_p T ?_
  rw[hl]
  simp only[PP,P1,P2,P3,P4,P5,P6,P7,P8,P9,P10,P11,P12,P13,P14,L1,P15,N1,N2,N3,N4,N5,N6,N7,I1,I2,I3,I4,I5,I6,I7,reduceIte,reduceCtorEq]
  refine check_p T B ?_
  by_cases c0:q64 N=0
  ·simp only[PP,P1,P2,P3,P4,P5,P6,P7,P8,P9,P10,P11,P12,P13,P14,L1,P15,N1,N2,N3,N4,N5,N6,N7,I1,I2,I3,I4,I5,I6,I7,reduceIte,reduceCtorEq,c0]
   refine QIf.intro (fun c8=>?_) (fun c8=>?_)
   ·simp only[PP,P1,P2,P3,P4,P5,P6,P7,P8,P9,P10,P11,P12,P13,P14,L1,P15,N1,N2,N3,N4,N5,N6,N7,I1,I2,I3,I4,I5,I6,I7,reduceIte,reduceCtorEq,c8]
    refine SemC_true T.awake ?_
    simp only[PP,P1,P2,P3,P4,P5,P6,P7,P8,P9,P10,P11,P12,P13,P14,L1,P15,N1,N2,N3,N4,N5,N6,N7,I1,I2,I3,I4,I5,I6,I7,reduceIte,reduceCtorEq]
   ·simp only[PP,P1,P2,P3,P4,P5,P6,P7,P8,P9,P10,P11,P12,P13,P14,L1,P15,N1,N2,N3,N4,N5,N6,N7,I1,I2,I3,I4,I5,I6,I7,reduceIte,reduceCtorEq,c8]
    refine QIf.intro (fun c1=>?_) (fun c1=>?_)
    ·simp only[PP,P1,P2,P3,P4,P5,P6,P7,P8,P9,P10,P11,P12,P13,P14,L1,P15,N1,N2,N3,N4,N5,N6,N7,I1,I2,I3,I4,I5,I6,I7,reduceIte,reduceCtorEq,c1]
     refine SemC_true T.awake ?_
     simp only[PP,P1,P2,P3,P4,P5,P6,P7,P8,P9,P10,P11,P12,P13,P14,L1,P15,N1,N2,N3,N4,N5,N6,N7,I1,I2,I3,I4,I5,I6,I7,reduceIte,reduceCtorEq]
    ·simp only[PP,P1,P2,P3,P4,P5,P6,P7,P8,P9,P10,P11,P12,P13,P14,L1,P15,N1,N2,N3,N4,N5,N6,N7,I1,I2,I3,I4,I5,I6,I7,reduceIte,reduceCtorEq,c1]
     refine SemC_true T.awake ?_
     simp only[PP,P1,P2,P3,P4,P5,P6,P7,P8,P9,P10,P11,P12,P13,P14,L1,P15,N1,N2,N3,N4,N5,N6,N7,I1,I2,I3,I4,I5,I6,I7,reduceIte,reduceCtorEq]
     exact⟨fun _=>by omega,by omega,(by simp only[PW])⟩
  ·simp only[PP,P1,P2,P3,P4,P5,P6,P7,P8,P9,P10,P11,P12,P13,P14,L1,P15,N1,N2,N3,N4,N5,N6,N7,I1,I2,I3,I4,I5,I6,I7,reduceIte,reduceCtorEq,c0]
   refine QIf.intro (fun c1=>?_) (fun c1=>?_)
   ·simp only[PP,P1,P2,P3,P4,P5,P6,P7,P8,P9,P10,P11,P12,P13,P14,L1,P15,N1,N2,N3,N4,N5,N6,N7,I1,I2,I3,I4,I5,I6,I7,reduceIte,reduceCtorEq,c1]
    refine SemC_true T.awake ?_
    simp only[PP,P1,P2,P3,P4,P5,P6,P7,P8,P9,P10,P11,P12,P13,P14,L1,P15,N1,N2,N3,N4,N5,N6,N7,I1,I2,I3,I4,I5,I6,I7,reduceIte,reduceCtorEq]
   ·simp only[PP,P1,P2,P3,P4,P5,P6,P7,P8,P9,P10,P11,P12,P13,P14,L1,P15,N1,N2,N3,N4,N5,N6,N7,I1,I2,I3,I4,I5,I6,I7,reduceIte,reduceCtorEq,c1]
    refine SemC_true T.awake ?_
    simp only[PP,P1,P2,P3,P4,P5,P6,P7,P8,P9,P10,P11,P12,P13,P14,L1,P15,N1,N2,N3,N4,N5,N6,N7,I1,I2,I3,I4,I5,I6,I7,reduceIte,reduceCtorEq]
    exact⟨fun h=>h.elim,by omega,(by simp only[PW])⟩
 rotate_left
 ·exact fun b N h=>h
 ·exact fun i b N h=>h
 rintro b M ⟨h8,hw100,hb,rfl⟩
 refine q24 ?_ hb
 have hwl:w.length<1000000000000:=by omega
 refine q29 (q13 ?_)
 simp only[PP,P1,P2,P3,P4,P5,P6,P7,P8,P9,P10,P11,P12,P13,P14,L1,P15,N1,N2,N3,N4,N5,N6,N7,I1,I2,I3,I4,I5,I6,I7,reduceIte,reduceCtorEq]
 refine determinizeZ_p T B fun R l e hD=>?_
 simp only[PP,P1,P2,P3,P4,P5,P6,P7,P8,P9,P10,P11,P12,P13,P14,L1,P15,N1,N2,N3,N4,N5,N6,N7,I1,I2,I3,I4,I5,I6,I7,reduceIte,reduceCtorEq]
 by_cases c0:q64 N=0
 rotate_left
 ·rcases hD with⟨h1,rfl,rfl,rfl⟩ | ⟨h1,_⟩ | ⟨h1,_⟩ | ⟨h1,_⟩
  ·refine q13 ?_
   simp only[PP,P1,P2,P3,P4,P5,P6,P7,P8,P9,P10,P11,P12,P13,P14,L1,P15,N1,N2,N3,N4,N5,N6,N7,I1,I2,I3,I4,I5,I6,I7,reduceIte,reduceCtorEq,c0]
   refine check_p T B ?_
   simp only[PP,P1,P2,P3,P4,P5,P6,P7,P8,P9,P10,P11,P12,P13,P14,L1,P15,N1,N2,N3,N4,N5,N6,N7,I1,I2,I3,I4,I5,I6,I7,reduceIte,reduceCtorEq]
   rfl
  ·exact absurd h1 c0
  ·exact absurd h1 c0
  ·exact absurd h1 c0
 have C:=nok_of c0
 have hpow:2^N.n.toNat≤256:=Nat.le_trans (Nat.pow_le_pow_right (by decide) (show N.n.toNat≤8 by have:=h8 c0;omega)) (by decide)
 obtain⟨rfl,o,hO,rfl,rfl,hol⟩:=hD.all c0 (by omega)
 refine q29 (q13 ?_)
 simp only[PP,P1,P2,P3,P4,P5,P6,P7,P8,P9,P10,P11,P12,P13,P14,L1,P15,N1,N2,N3,N4,N5,N6,N7,I1,I2,I3,I4,I5,I6,I7,reduceIte,reduceCtorEq]
 refine q29 (q13 ?_)
 simp only[PP,P1,P2,P3,P4,P5,P6,P7,P8,P9,P10,P11,P12,P13,P14,L1,P15,N1,N2,N3,N4,N5,N6,N7,I1,I2,I3,I4,I5,I6,I7,reduceIte,reduceCtorEq]
 refine accepts_p T B hw hwl fun b e hA=>?_
 obtain⟨rfl,hacc⟩:=hO.acc hw hA
 simp only[PP,P1,P2,P3,P4,P5,P6,P7,P8,P9,P10,P11,P12,P13,P14,L1,P15,N1,N2,N3,N4,N5,N6,N7,I1,I2,I3,I4,I5,I6,I7,reduceIte,reduceCtorEq]
 refine q29 (q13 ?_)
 simp only[PP,P1,P2,P3,P4,P5,P6,P7,P8,P9,P10,P11,P12,P13,P14,L1,P15,N1,N2,N3,N4,N5,N6,N7,I1,I2,I3,I4,I5,I6,I7,reduceIte,reduceCtorEq]
 refine dacc_p T hO.ok.bn hw hwl ?_
 rw[hacc,hO.err]
 simp only[PP,P1,P2,P3,P4,P5,P6,P7,P8,P9,P10,P11,P12,P13,P14,L1,P15,N1,N2,N3,N4,N5,N6,N7,I1,I2,I3,I4,I5,I6,I7,reduceIte,reduceCtorEq]
 by_cases he:accE N w=0
 rotate_left
 ·refine q29 (q13 ?_)
  simp only[PP,P1,P2,P3,P4,P5,P6,P7,P8,P9,P10,P11,P12,P13,P14,L1,P15,N1,N2,N3,N4,N5,N6,N7,I1,I2,I3,I4,I5,I6,I7,reduceIte,reduceCtorEq]
  refine run_p T B hw hwl (fun _=>?_) (fun h=>absurd h he)
  simp only[PP,P1,P2,P3,P4,P5,P6,P7,P8,P9,P10,P11,P12,P13,P14,L1,P15,N1,N2,N3,N4,N5,N6,N7,I1,I2,I3,I4,I5,I6,I7,reduceIte,reduceCtorEq]
  refine q29 (q13 ?_)
  simp only[PP,P1,P2,P3,P4,P5,P6,P7,P8,P9,P10,P11,P12,P13,P14,L1,P15,N1,N2,N3,N4,N5,N6,N7,I1,I2,I3,I4,I5,I6,I7,reduceIte,reduceCtorEq]
  refine drun_p T hO.ok.bn hw hwl ?_
  rw[hO.err,if_neg he]
  simp only[PP,P1,P2,P3,P4,P5,P6,P7,P8,P9,P10,P11,P12,P13,P14,L1,P15,N1,N2,N3,N4,N5,N6,N7,I1,I2,I3,I4,I5,I6,I7,reduceIte,reduceCtorEq]
  refine q13 ?_
  simp only[PP,P1,P2,P3,P4,P5,P6,P7,P8,P9,P10,P11,P12,P13,P14,L1,P15,N1,N2,N3,N4,N5,N6,N7,I1,I2,I3,I4,I5,I6,I7,reduceIte,reduceCtorEq,he]
 refine q29 (q13 ?_)
 simp only[PP,P1,P2,P3,P4,P5,P6,P7,P8,P9,P10,P11,P12,P13,P14,L1,P15,N1,N2,N3,N4,N5,N6,N7,I1,I2,I3,I4,I5,I6,I7,reduceIte,reduceCtorEq]
 refine run_p T B hw hwl (fun h=>absurd he h) (fun _ s hs hbit=>?_)
 simp only[PP,P1,P2,P3,P4,P5,P6,P7,P8,P9,P10,P11,P12,P13,P14,L1,P15,N1,N2,N3,N4,N5,N6,N7,I1,I2,I3,I4,I5,I6,I7,reduceIte,reduceCtorEq]
 refine q29 (q13 ?_)
 simp only[PP,P1,P2,P3,P4,P5,P6,P7,P8,P9,P10,P11,P12,P13,P14,L1,P15,N1,N2,N3,N4,N5,N6,N7,I1,I2,I3,I4,I5,I6,I7,reduceIte,reduceCtorEq]
 refine drun_p T hO.ok.bn hw hwl ?_
 obtain⟨r1,r2⟩:=hO.run hw he
 rw[hO.err,if_pos he,r2]
 simp only[PP,P1,P2,P3,P4,P5,P6,P7,P8,P9,P10,P11,P12,P13,P14,L1,P15,N1,N2,N3,N4,N5,N6,N7,I1,I2,I3,I4,I5,I6,I7,reduceIte,reduceCtorEq]
 refine q13 ?_
 simp only[PP,P1,P2,P3,P4,P5,P6,P7,P8,P9,P10,P11,P12,P13,P14,L1,P15,N1,N2,N3,N4,N5,N6,N7,I1,I2,I3,I4,I5,I6,I7,reduceIte,reduceCtorEq,he]
 refine dcheck_p T hO.ok.bn ?_
 rw[okD_iff.2 hO.ok]
 have hR:RB s (wordB N (startB N) w):= .mk' hs fun k=>by
  rw[hbit]
  exact(wordB_run C w (startB N) (fun k=>(k:Int)∈N.st) (startB_bit C) k).symm
 have hn0:=C.n0
 have hn8:=h8 c0
 have wn:IntKind.u64.wrap N.n=N.n:=by rw[u64_wrap];omega
 have hsh:pbin .shl (.int .i64 1) (.int .u64 N.n)=some (.int .i64 ((2^N.n.toNat:Nat):Int)):=by
  have:N.n=0∨N.n=1∨N.n=2∨N.n=3∨N.n=4∨N.n=5∨N.n=6∨N.n=7∨N.n=8:=by omega
  rcases this with h | h | h | h | h | h | h | h | h<;>rw[h]<;>rfl
 have hle:(o.length:Int)≤((2^N.n.toNat:Nat):Int):=by exact_mod_cast hol
 have hix:=q17 (idxOf_atG r1)
 have hix2:((o.idxOf (wordB N (startB N) w):Nat):Int)<o.length:=by omega
 have hix0:(0:Int)≤((o.idxOf (wordB N (startB N) w):Nat):Int):=by omega
 have hset:=hO.sets r1
 have hsl:=sets_len o
 have hdl:=det_len N o
 simp only[PP,P1,P2,P3,P4,P5,P6,P7,P8,P9,P10,P11,P12,P13,P14,L1,P15,N1,N2,N3,N4,N5,N6,N7,I1,I2,I3,I4,I5,I6,I7,reduceIte,reduceCtorEq,hsl,hdl,wn,hsh,hle,hix2]
 refine list_p T hs ?_
 rw[list_RB hR]
 simp only[PP,P1,P2,P3,P4,P5,P6,P7,P8,P9,P10,P11,P12,P13,P14,L1,P15,N1,N2,N3,N4,N5,N6,N7,I1,I2,I3,I4,I5,I6,I7,reduceIte,reduceCtorEq,hsl,hdl,hix2,hix0,hset]
 refine equalInts_p T (by simp;show _<1000000000000;exact Nat.lt_of_le_of_lt (bitsW_len _) (by decide)) ?_
 simp only[PP,P1,P2,P3,P4,P5,P6,P7,P8,P9,P10,P11,P12,P13,P14,L1,P15,N1,N2,N3,N4,N5,N6,N7,I1,I2,I3,I4,I5,I6,I7,reduceIte,reduceCtorEq]
theorem sameWords_all (args:List AV) (h:H) (hs:ShVs [nfaTy,.slice (.int .u8)] args h):
  ∃n h',(run tab n).call 7 args h=some (.bool true,h'):=by
 obtain⟨a,b,rfl,ha,hb⟩:=shVs2 hs
 obtain⟨N,r1,A⟩:=arg_nfa ha
 obtain⟨w,r4,_,hw⟩:=arg_ints hb
 exact run_of_C (law_of_sem (.cons r1 (.cons r4 (.nil _))) (sameWords_p T A hw))
end
end Go.Am.Ar

