/- Contracts: deterministic automata accept, both; copied and compared, and what goes with it. -/
import Derived.Test.YtbcdfmecpjbeaaaDoorSubsetReturnsG2
import Derived.Test.YtbcdfmecpjbeaaaDoorPmC
import Derived.Test.YtbcdfmecpjbeaaaDoorSubsetReturnsG0
import Derived.Test.YtbcdfmecpjbeaaaDoorSubsetReturnsG1
set_option linter.unusedVariables false
set_option linter.unusedSimpArgs false
set_option maxRecDepth 10000
namespace Go.Am.Ar
open Go.Am.PV renaming junk→Zj
open Go.Am renaming pchk→P1,pold→P2,PKNo→P3,ppack→P4,PObj.under→P5,pput→P6,ptset→P7,ptget→P8,pev→P9,ofAV→P10,q57→P11,ppad→P12,pfill→P13,prepl→P14,AO.effect→P15
open List renaming replicate→L1
open Nat renaming reduceAdd→N1,reduceSub→N2,reduceMul→N3,reduceLT→N4,reduceLeDiff→N5,reduceEqDiff→N6,reduceBEq→N7
open Int renaming reduceToNat→I1,reduceLT→I2,reduceLE→I3,reduceEq→I4,reduceAdd→I5,reduceSub→I6,reduceNeg→I7
theorem DF.ext' {D D':DF} (h1:D.vs=D'.vs) (h2:D.st=D'.st) (h3:D.nx=D'.nx) (h4:D.fi=D'.fi):D=D':=by
 cases D;cases D';simp_all
theorem errD_zero {D:DF} {w:List Int} (h:errD D w=0):OkD D∧wordE D.vs w=0:=by
 unfold errD at h
 by_cases c:checkD D=0
 ·rw[if_pos c]at h;exact⟨okD_iff.1 c,h⟩
 ·rw[if_neg c]at h;exact absurd h c
theorem errD_fin {D:DF} {w:List Int} (h:errD D w=0) (hw:∀x∈w,0≤x∧x≤255):(0≤runD D w∧runD D w<D.nx.length)∧D.fi[(runD D w).toNat]? =some (fiD D (runD D w))∧runD D w<D.fi.length:=by
 obtain⟨C,e0⟩:=errD_zero h
 have hr:=C.run w (fun x hx=>⟨(hw x hx).1,(wordE_zero e0).2 x hx⟩) D.st C.s0 C.s1
 exact⟨hr,C.fin hr.1 hr.2⟩
section
variable {tab:FuncId→Option AF} (T:HasA tab)
include T
theorem dacc_p {M:Mem} {K:PV→Mem→Prop} {f1 o1 f2 o2 f3 o3 f4 o4:Bool} {D:DF} {w:List Int} (B:BnD D) (hw:∀x∈w,0≤x∧x≤255) (hl:w.length<1000000000000)
  (hk:K (.tuple [.bool (accD D w),p64 (errD D w)]) M):
  SemC tab 20 [.agg (dfC f1 o1 f2 o2 f3 o3 D),slI f4 o4 .u8 w] M K:=by
 refine q18 T.h20 (by simp only[PP,P1,P2,P3,P4,P5,P6,P7,P8,P9,P10,P11,P12,P13,P14,L1,P15,N1,N2,N3,N4,N5,N6,N7,I1,I2,I3,I4,I5,I6,I7,reduceIte,reduceCtorEq]) ?_
 simp only[af20,PP,P1,P2,P3,P4,P5,P6,P7,P8,P9,P10,P11,P12,P13,P14,L1,P15,N1,N2,N3,N4,N5,N6,N7,I1,I2,I3,I4,I5,I6,I7,reduceIte,reduceCtorEq]
 refine drun_p T B hw hl ?_
 simp only[PP,P1,P2,P3,P4,P5,P6,P7,P8,P9,P10,P11,P12,P13,P14,L1,P15,N1,N2,N3,N4,N5,N6,N7,I1,I2,I3,I4,I5,I6,I7,reduceIte,reduceCtorEq]
 unfold accD at hk
 by_cases c:errD D w=0
 ·obtain⟨⟨h1,h2⟩,h3,h4⟩:=errD_fin c hw
  rw[decide_eq_true c,c]at hk
  simp only[PP,P1,P2,P3,P4,P5,P6,P7,P8,P9,P10,P11,P12,P13,P14,L1,P15,N1,N2,N3,N4,N5,N6,N7,I1,I2,I3,I4,I5,I6,I7,reduceIte,reduceCtorEq,c,h1,h4,h3]at hk ⊢
  exact hk
 ·rw[decide_eq_false c]at hk
  simp only[PP,P1,P2,P3,P4,P5,P6,P7,P8,P9,P10,P11,P12,P13,P14,L1,P15,N1,N2,N3,N4,N5,N6,N7,I1,I2,I3,I4,I5,I6,I7,reduceIte,reduceCtorEq,c]at hk ⊢
  exact hk
theorem equalD_p {M:Mem} {K:PV→Mem→Prop} {f1 o1 f2 o2 f3 o3 e1 p1 e2 p2 e3 p3:Bool} {D D':DF} (B:BnD D) (hk:∀b:Bool,(b=true↔D=D')→K (.bool b) M):
  SemC tab 23 [.agg (dfC f1 o1 f2 o2 f3 o3 D),.agg (dfC e1 p1 e2 p2 e3 p3 D')] M K:=by
 refine q18 T.h23 (by simp only[PP,P1,P2,P3,P4,P5,P6,P7,P8,P9,P10,P11,P12,P13,P14,L1,P15,N1,N2,N3,N4,N5,N6,N7,I1,I2,I3,I4,I5,I6,I7,reduceIte,reduceCtorEq]) ?_
 simp only[af23,PP,P1,P2,P3,P4,P5,P6,P7,P8,P9,P10,P11,P12,P13,P14,L1,P15,N1,N2,N3,N4,N5,N6,N7,I1,I2,I3,I4,I5,I6,I7,reduceIte,reduceCtorEq]
 have no:¬(D=D')→K (.bool false) M:=fun h=>hk false ⟨fun h=>by(cases h),fun e=>absurd e h⟩
 refine QIf.intro (fun c1=>?_) (fun c1=>?_)
 rotate_left
 ·simp only[PP,P1,P2,P3,P4,P5,P6,P7,P8,P9,P10,P11,P12,P13,P14,L1,P15,N1,N2,N3,N4,N5,N6,N7,I1,I2,I3,I4,I5,I6,I7,reduceIte,reduceCtorEq,c1]
  exact no (by rintro rfl;exact c1 rfl)
 simp only[PP,P1,P2,P3,P4,P5,P6,P7,P8,P9,P10,P11,P12,P13,P14,L1,P15,N1,N2,N3,N4,N5,N6,N7,I1,I2,I3,I4,I5,I6,I7,reduceIte,reduceCtorEq,c1]
 by_cases c2:D.st=D'.st
 rotate_left
 ·simp only[PP,P1,P2,P3,P4,P5,P6,P7,P8,P9,P10,P11,P12,P13,P14,L1,P15,N1,N2,N3,N4,N5,N6,N7,I1,I2,I3,I4,I5,I6,I7,reduceIte,reduceCtorEq,c2]
  exact no (by rintro rfl;exact c2 rfl)
 simp only[PP,P1,P2,P3,P4,P5,P6,P7,P8,P9,P10,P11,P12,P13,P14,L1,P15,N1,N2,N3,N4,N5,N6,N7,I1,I2,I3,I4,I5,I6,I7,reduceIte,reduceCtorEq,c2]
 refine equalRows_p T B.n B.r ?_
 by_cases c3:D.nx=D'.nx
 rotate_left
 ·simp only[PP,P1,P2,P3,P4,P5,P6,P7,P8,P9,P10,P11,P12,P13,P14,L1,P15,N1,N2,N3,N4,N5,N6,N7,I1,I2,I3,I4,I5,I6,I7,reduceIte,reduceCtorEq,c3]
  exact no (by rintro rfl;exact c3 rfl)
 simp only[PP,P1,P2,P3,P4,P5,P6,P7,P8,P9,P10,P11,P12,P13,P14,L1,P15,N1,N2,N3,N4,N5,N6,N7,I1,I2,I3,I4,I5,I6,I7,reduceIte,reduceCtorEq,c3]
 refine equalB_p T B.f ?_
 by_cases c4:D.fi=D'.fi
 rotate_left
 ·simp only[PP,P1,P2,P3,P4,P5,P6,P7,P8,P9,P10,P11,P12,P13,P14,L1,P15,N1,N2,N3,N4,N5,N6,N7,I1,I2,I3,I4,I5,I6,I7,reduceIte,reduceCtorEq,c4]
  exact no (by rintro rfl;exact c4 rfl)
 simp only[PP,P1,P2,P3,P4,P5,P6,P7,P8,P9,P10,P11,P12,P13,P14,L1,P15,N1,N2,N3,N4,N5,N6,N7,I1,I2,I3,I4,I5,I6,I7,reduceIte,reduceCtorEq,c4]
 exact hk true ⟨fun _=>DF.ext' c1 c2 c3 c4,fun _=>rfl⟩
end
def q46 (D:DF) (a x:Nat):Nat:=(stepD D.nx a x).toNat
abbrev q10 (D:DF):Nat:=2^D.vs.toNat
def renD (D:DF) (o:List Nat):DF:=⟨D.vs,0,rowsN (q46 D) (q10 D) o,o.map fun s:Nat=>fiD D s⟩
def zeroD:DF:=⟨0,0,[],[]⟩
def seenC (n:Nat) (o:List Nat):List Bool:=(List.range n).map fun s=>decide (s∈o)
theorem seenC_len (n:Nat) (o:List Nat):(seenC n o).length=n:=by simp[seenC]
theorem seenC_get {n k:Nat} (o:List Nat) (h:k<n):(seenC n o)[k]? =some (decide (k∈o)):=by simp[seenC,h]
theorem seenC_add {n k:Nat} (o:List Nat):(seenC n o).set k true=seenC n (addN o k):=by
 refine List.ext_getElem? fun i=>?_
 rw[List.getElem?_set]
 by_cases e:k=i
 ·subst e
  rw[if_pos rfl,seenC_len]
  by_cases h:k<n
  ·rw[if_pos h,seenC_get _ h]
   have:k∈addN o k:=(mem_addN o k k).2 (.inr rfl)
   simp[this]
  ·rw[if_neg h,List.getElem?_eq_none (by rw[seenC_len];omega)]
 ·rw[if_neg e]
  by_cases h:i<n
  ·rw[seenC_get _ h,seenC_get _ h]
   have:i∈addN o k↔i∈o:=by rw[mem_addN];exact⟨fun q=>q.elim id fun q=>absurd q.symm e,.inl⟩
   simp[this]
  ·rw[List.getElem?_eq_none (by rw[seenC_len];omega),List.getElem?_eq_none (by rw[seenC_len];omega)]
theorem OkD.delta {D:DF} (C:OkD D) {a x:Nat} (ha:a<D.nx.length) (hx:x<q10 D):∃r,D.nx[a]? =some r∧r[x]? =some ((q46 D a x:Nat):Int)∧(x:Int)<r.length∧q46 D a x<D.nx.length:=by
 have hx':(x:Int)<2^D.vs.toNat:=by
  have:((x:Nat):Int)<((2^D.vs.toNat:Nat):Int):=by exact_mod_cast hx
  simpa using this
 obtain⟨r,g1,g2,g3,g4,g5⟩:=C.step (s:=a) (x:=x) (by omega) (by omega) (by omega) hx'
 simp only[Int.toNat_natCast]at g1 g2
 refine⟨r,g1,?_,g3,?_⟩
 ·rw[g2];unfold q46;congr 1;omega
 ·unfold q46;omega
abbrev slot (g ver:Nat) (o:List Nat):PObj:= .cells g ver (o.map fun s:Nat=>p64 s)
section
variable {tab:FuncId→Option AF} (T:HasA tab)
include T
theorem ren1_p {f1 o1 f2 o2 f3 o3:Bool} {D:DF} {o:List Nat} {o1':PObj} {l:Mem} {g v vs v4 s x a:Nat} {K:PV→Mem→Prop} (C:OkD D) (hn:D.nx.length≤99) (ho:o.length≤99) (hs:o[s]? =some a) (ha:a<D.nx.length) (hx:x<q10 D)
  (hk:∀g' v' vs' v4',K (.str (itoaN (q46 D a x))) (.cells 0 0 (dfC f1 o1 f2 o2 f3 o3 D)::o1'::slot g' v' (addN o (q46 D a x)):: .cells 0 vs' ((seenC D.nx.length (addN o (q46 D a x))).map PV.bool):: .cells 0 v4' [.ref 2 g' 1 0 (addN o (q46 D a x)).length]:: .cells 0 1 [.ref 3 0 1 0 D.nx.length]::l)):
  SemC tab 82 [p64 s,p8 x,.ptr 0 0 0,.ptr 4 0 0,.ptr 5 0 0] (.cells 0 0 (dfC f1 o1 f2 o2 f3 o3 D)::o1'::slot g v o:: .cells 0 vs ((seenC D.nx.length o).map PV.bool):: .cells 0 v4 [.ref 2 g 1 0 o.length]:: .cells 0 1 [.ref 3 0 1 0 D.nx.length]::l) K:=by
 refine SemC_fn T.h82 ?_
 obtain⟨r,g1,g2,g3,g4⟩:=C.delta ha hx
 have s0:(0:Int)≤s:=by omega
 have s1:(s:Int)<o.length:=by have:=q27 hs;omega
 have a0:(0:Int)≤a:=by omega
 have a1:(a:Int)<D.nx.length:=by omega
 have x0:(0:Int)≤x:=by omega
 have t0:(0:Int)≤q46 D a x:=by omega
 have t1:(q46 D a x:Int)<D.nx.length:=by omega
 have q1:=seenC_get (n:=D.nx.length) o g4
 have hs':(o.map fun s:Nat=>p64 s)[s]? =some (p64 a):=by rw[List.getElem?_map,hs];rfl
 simp only[af82,PP,P1,P2,P3,P4,P5,P6,P7,P8,P9,P10,P11,P12,P13,P14,L1,P15,N1,N2,N3,N4,N5,N6,N7,I1,I2,I3,I4,I5,I6,I7,reduceIte,reduceCtorEq,q26,q33,q12,q34,q54,q25,q24,q31,q38,q39,q40,q41,q37,q47,q15,q16,q9,q17,q43,q44,q32,q55,q45,q42,q30,q51,q22,q52,q23,q11,q14,hs,s0,s1,a0,a1,g1,x0,g3,g2,t0,t1,q1]
 by_cases hm:q46 D a x∈o
 ·have e:addN o (q46 D a x)=o:=by unfold addN;rw[if_pos hm]
  have:=hk g v vs v4
  rw[e]at this
  simp only[PP,P1,P2,P3,P4,P5,P6,P7,P8,P9,P10,P11,P12,P13,P14,L1,P15,N1,N2,N3,N4,N5,N6,N7,I1,I2,I3,I4,I5,I6,I7,reduceIte,reduceCtorEq,hm]
  refine itoa_p T (by omega) ?_
  simp only[PP,P1,P2,P3,P4,P5,P6,P7,P8,P9,P10,P11,P12,P13,P14,L1,P15,N1,N2,N3,N4,N5,N6,N7,I1,I2,I3,I4,I5,I6,I7,reduceIte,reduceCtorEq,q26,q33,q12,q34,q54,q25,q24,q31,q38,q39,q40,q41,q37,q47,q15,q16,q9,q17,q43,q44,q32,q55,q45,q42,q30,q51,q22,q52,q23,q11,q14]
  exact this
 ·have e:addN o (q46 D a x)=o++[q46 D a x]:=by unfold addN;rw[if_neg hm]
  have:=hk (g+1) 0 (vs+1) (v4+1)
  rw[←seenC_add,e]at this
  have b1:(o.length+1)*8≤140737488355328:=by omega
  have b2:o.length+1≤9223372036854775807:=by omega
  have b3:q46 D a x+1≤(seenC D.nx.length o).length:=by rw[seenC_len];omega
  have q2:((seenC D.nx.length o).map PV.bool).set (q46 D a x) (.bool true)=((seenC D.nx.length o).set (q46 D a x) true).map PV.bool:=by rw[List.map_set]
  simp only[PP,P1,P2,P3,P4,P5,P6,P7,P8,P9,P10,P11,P12,P13,P14,L1,P15,N1,N2,N3,N4,N5,N6,N7,I1,I2,I3,I4,I5,I6,I7,reduceIte,reduceCtorEq,q26,q33,q12,q34,q54,q25,q24,q31,q38,q39,q40,q41,q37,q47,q15,q16,q9,q17,q43,q44,q32,q55,q45,q42,q30,q51,q22,q52,q23,q11,q14,hm,b1,b2,t0,t1,b3,q2]
  refine itoa_p T (by omega) ?_
  have q3:slot (g+1) 0 (o++[q46 D a x])= .cells (g+1) 0 ((o.map fun s:Nat=>p64 s)++[p64 (q46 D a x)]):=by rw[slot,List.map_append];rfl
  rw[q3]at this
  simp only[PP,P1,P2,P3,P4,P5,P6,P7,P8,P9,P10,P11,P12,P13,P14,L1,P15,N1,N2,N3,N4,N5,N6,N7,I1,I2,I3,I4,I5,I6,I7,reduceIte,reduceCtorEq,q26,q33,q12,q34,q54,q25,q24,q31,q38,q39,q40,q41,q37,q47,q15,q16,q9,q17,q43,q44,q32,q55,q45,q42,q30,q51,q22,q52,q23,q11,q14]at this ⊢
  exact this
set_option maxHeartbeats 1000000 in
theorem renumber_p {M:Mem} {K:PV→Mem→Prop} {f1 o1 f2 o2 f3 o3:Bool} {D:DF} (B:BnD D) (hn:D.nx.length≤99)
  (hk1:checkD D≠0→K (.tuple [.agg [p64 0,p64 0,.nils,.nils],p64 (checkD D)]) M)
  (hk2:OkD D→∀o,FullN (q46 D) (q10 D) D.st.toNat o→K (.tuple [.agg (dfC false true false true false true (renD D o)),p64 0]) M):
  SemC tab 39 [.agg (dfC f1 o1 f2 o2 f3 o3 D)] M K:=by
 refine SemC_pureS T.h39 (by simp only[PP,P1,P2,P3,P4,P5,P6,P7,P8,P9,P10,P11,P12,P13,P14,L1,P15,N1,N2,N3,N4,N5,N6,N7,I1,I2,I3,I4,I5,I6,I7,reduceIte,reduceCtorEq]) ?_
 simp only[af39]
 refine q28 (q13 ?_)
 simp only[PP,P1,P2,P3,P4,P5,P6,P7,P8,P9,P10,P11,P12,P13,P14,L1,P15,N1,N2,N3,N4,N5,N6,N7,I1,I2,I3,I4,I5,I6,I7,reduceIte,reduceCtorEq]
 refine q28 (q13 ?_)
 simp only[PP,P1,P2,P3,P4,P5,P6,P7,P8,P9,P10,P11,P12,P13,P14,L1,P15,N1,N2,N3,N4,N5,N6,N7,I1,I2,I3,I4,I5,I6,I7,reduceIte,reduceCtorEq]
 refine dcheck_p T B ?_
 by_cases hc:checkD D=0
 rotate_left
 ·simp only[PP,P1,P2,P3,P4,P5,P6,P7,P8,P9,P10,P11,P12,P13,P14,L1,P15,N1,N2,N3,N4,N5,N6,N7,I1,I2,I3,I4,I5,I6,I7,reduceIte,reduceCtorEq,hc]
  exact hk1 hc
 have C:=okD_iff.1 hc
 have n0:=C.n0
 have st0:=C.s0
 have st1:=C.s1
 have b1:(D.nx.length:Int)≤140737488355328:=by omega
 have b2:(D.nx.length:Int)≤9223372036854775807:=by omega
 have nn:(0:Int)≤(D.nx.length:Int):=by omega
 simp only[PP,P1,P2,P3,P4,P5,P6,P7,P8,P9,P10,P11,P12,P13,P14,L1,P15,N1,N2,N3,N4,N5,N6,N7,I1,I2,I3,I4,I5,I6,I7,reduceIte,reduceCtorEq,hc]
 refine q28 (SemW_litD 2 ?_)
 simp only[PP,P1,P2,P3,P4,P5,P6,P7,P8,P9,P10,P11,P12,P13,P14,L1,P15,N1,N2,N3,N4,N5,N6,N7,I1,I2,I3,I4,I5,I6,I7,reduceIte,reduceCtorEq,RH_go,RH_lit,KH_eq,Option.some.injEq,exists_eq_left',b1,b2,nn]
 obtain⟨sN,hsN⟩:∃sN:Nat,D.st=sN:=⟨D.st.toNat,by omega⟩
 have s0':(0:Int)≤sN:=by omega
 have s1':(sN:Int)<D.nx.length:=by omega
 have s2':sN+1≤D.nx.length:=by omega
 have eseen:(List.replicate D.nx.length (PV.bool false)).set sN (.bool true)=(seenC D.nx.length [sN]).map PV.bool:=by
  have h:=seenC_add (n:=D.nx.length) (k:=sN) []
  have e:seenC D.nx.length []=List.replicate D.nx.length false:=by unfold seenC;rw[List.eq_replicate_iff];simp
  rw[e]at h
  have e2:addN ([]:List Nat) sN=[sN]:=by simp[addN]
  rw[e2]at h
  rw[←h,List.map_set,List.map_replicate]
 have hshl:pbin .shl (.int .i64 1) (.int .i64 D.vs)=some (.int .i64 ((q10 D:Nat):Int)):=by
  rw[shl_one (by have:=C.v0;omega) (by have:=C.v6;omega)];simp
 refine⟨⟨Int.le_refl _,by omega⟩,q28 (q13 ?_)⟩
 simp only[PP,P1,P2,P3,P4,P5,P6,P7,P8,P9,P10,P11,P12,P13,P14,L1,P15,N1,N2,N3,N4,N5,N6,N7,I1,I2,I3,I4,I5,I6,I7,reduceIte,reduceCtorEq,hsN,s0',s1',s2',eseen]
 refine q28 (q13 ?_)
 simp only[PP,P1,P2,P3,P4,P5,P6,P7,P8,P9,P10,P11,P12,P13,P14,L1,P15,N1,N2,N3,N4,N5,N6,N7,I1,I2,I3,I4,I5,I6,I7,reduceIte,reduceCtorEq]
 refine q28 (q13 ?_)
 simp only[PP,P1,P2,P3,P4,P5,P6,P7,P8,P9,P10,P11,P12,P13,P14,L1,P15,N1,N2,N3,N4,N5,N6,N7,I1,I2,I3,I4,I5,I6,I7,reduceIte,reduceCtorEq]
 refine q28 (q13 ?_)
 simp only[PP,P1,P2,P3,P4,P5,P6,P7,P8,P9,P10,P11,P12,P13,P14,L1,P15,N1,N2,N3,N4,N5,N6,N7,I1,I2,I3,I4,I5,I6,I7,reduceIte,reduceCtorEq,hshl,hsN]
 refine itoa_p T (by omega) ?_
 simp only[PP,P1,P2,P3,P4,P5,P6,P7,P8,P9,P10,P11,P12,P13,P14,L1,P15,N1,N2,N3,N4,N5,N6,N7,I1,I2,I3,I4,I5,I6,I7,reduceIte,reduceCtorEq,q26,q33,q12,q34,q54,q25,q24,q31,q38,q39,q40,q41,q37,q47,q15,q16,q9,q17,q43,q44,q32,q55,q45,q42,q30,q51,q22,q52,q23,q11,q14]
 have h64:q10 D≤64:=by
  have h6:=C.v6;have h0:=C.v0
  show 2^D.vs.toNat≤2^6
  exact Nat.pow_le_pow_right (by decide) (by omega)
 refine explore_p T (Dm:=fun a=>a<D.nx.length) (δ:=q46 D) (κ:=itoaN) (a0:=sN) (n:=q10 D) (bd:=(D.nx.length:Int)) (caps:=[.ptr 0 0 0,.ptr 4 0 0,.ptr 5 0 0])
  (J:=fun o N=>∃g v vs v4,N=[.cells 0 0 (dfC f1 o1 f2 o2 f3 o3 D),.cells 0 1 [p64 D.vs,p64 0,.nils,.nils],slot g v o,.cells 0 vs ((seenC D.nx.length o).map PV.bool),.cells 0 v4 [.ref 2 g 1 0 o.length],.cells 0 1 [.ref 3 0 1 0 D.nx.length]])
  ?_ ?_ (fun a b ha hb h=>itoa_inj (by omega) (by omega) h) (fun a x ha hx=>(C.delta ha hx).choose_spec.2.2.2) (by omega) h64 (by omega) (by omega) (by simp[q19,PV.under]) ⟨0,0,1,1,rfl⟩ ?_ ?_ ?_
 ·rintro o N ⟨g,v,vs,v4,rfl⟩;rfl
 ·rintro o N ⟨g,v,vs,v4,rfl⟩
  have hsl:∀m,q19 m (o.map fun s:Nat=>p64 s)=true:=fun m=>underL_map m _ (fun x=>under_int m _ _) o
  simp only[List.all_cons,List.all_nil,cutOk,PP,P1,P2,P3,P4,P5,P6,P7,P8,P9,P10,P11,P12,P13,P14,L1,P15,N1,N2,N3,N4,N5,N6,N7,I1,I2,I3,I4,I5,I6,I7,reduceIte,reduceCtorEq,hsl,PV.under]
 ·rintro o N l s x a K ⟨g,v,vs,v4,rfl⟩ hall hs hx hle hK
  exact ren1_p T C hn (by omega) hs (hall a (List.mem_of_getElem? hs)) hx fun g' v' vs' v4'=>hK _ ⟨g',v',vs',v4',rfl⟩
 ·rintro o N hF hle ⟨g,v,vs,v4,rfl⟩
  have hall:∀a∈o,a<D.nx.length:=hF.all (Dm:=fun a=>a<D.nx.length) (by omega) fun a x ha hx=>(C.delta ha hx).choose_spec.2.2.2
  simp only[PP,P1,P2,P3,P4,P5,P6,P7,P8,P9,P10,P11,P12,P13,P14,L1,P15,N1,N2,N3,N4,N5,N6,N7,I1,I2,I3,I4,I5,I6,I7,reduceIte,reduceCtorEq]
  refine SemW_re (GStep.nilbox 1 3 1 (g:=0) (ver:=2) (cs:=[p64 D.vs,p64 0,slR false true false true .i64 (rowsN (q46 D) (q10 D) o),.nils]) rfl rfl rfl) ?_
  refine q13 ?_
  simp only[PP,P1,P2,P3,P4,P5,P6,P7,P8,P9,P10,P11,P12,P13,P14,L1,P15,N1,N2,N3,N4,N5,N6,N7,I1,I2,I3,I4,I5,I6,I7,reduceIte,reduceCtorEq]
  refine loop3 (fun(k g' v':Nat)=>k≤o.length) (fun k g' v'=>[Zj,.ptr 0 0 0,.ptr 1 0 0,Zj,Zj,Zj,Zj,Zj,Zj,Zj,Zj,Zj,Zj,Zj,Zj,Zj,Zj,Zj,Zj,Zj,Zj,Zj,Zj,Zj,Zj,Zj,Zj,Zj,Zj,Zj,Zj,Zj,Zj,Zj,Zj,Zj,Zj,Zj,Zj,Zj,Zj,Zj,Zj,Zj,Zj,Zj,.ref 2 g 1 0 o.length,p64 o.length,p64 k,Zj,Zj,Zj,Zj,Zj,Zj,Zj,Zj,Zj,Zj,Zj,Zj,Zj,Zj,Zj])
   (fun k g' v'=>[.cells 0 0 (dfC f1 o1 f2 o2 f3 o3 D),.cells 0 v' [p64 D.vs,p64 0,slR false true false true .i64 (rowsN (q46 D) (q10 D) o),.ref 6 g' 1 0 k],slot g v o,.cells 0 vs ((seenC D.nx.length o).map PV.bool),.cells 0 v4 [.ref 2 g 1 0 o.length],.cells 0 1 [.ref 3 0 1 0 D.nx.length],.cells g' 0 (((o.take k).map fun s:Nat=>fiD D s).map PV.bool)])
   (fun k g' v'=>o.length-k) 0 0 2 (by omega) (by simp only[PW]) rfl ?_
  intro k g' v' hle' ih
  refine q48 (by kernel_rfl) ?_
  simp only[PP,P1,P2,P3,P4,P5,P6,P7,P8,P9,P10,P11,P12,P13,P14,L1,P15,N1,N2,N3,N4,N5,N6,N7,I1,I2,I3,I4,I5,I6,I7,reduceIte,reduceCtorEq]
  refine QIf.intro (fun c=>?_) (fun c=>?_)
  ·have hk':k<o.length:=by omega
   obtain⟨a,ga⟩:=some_of hk'
   have k0:(0:Int)≤k:=by omega
   have ha:=hall a (List.mem_of_getElem? ga)
   have a0:(0:Int)≤a:=by omega
   obtain⟨f1',f2'⟩:=C.fin (s:=a) a0 (by omega)
   simp only[Int.toNat_natCast]at f1'
   have wk:=q49 (k:=k) (by show _<1000000000000;omega)
   have htk:((o.take k).map fun s:Nat=>fiD D s).length=k:=by simp;omega
   have b3:k+1≤140737488355328:=by omega
   have b4:k+1≤9223372036854775807:=by omega
   have b5:k≤(List.take k o).length:=by simp;omega
   simp only[PP,P1,P2,P3,P4,P5,P6,P7,P8,P9,P10,P11,P12,P13,P14,L1,P15,N1,N2,N3,N4,N5,N6,N7,I1,I2,I3,I4,I5,I6,I7,reduceIte,reduceCtorEq,c,ga,k0,a0,f1',f2',wk,b3,b4,b5,htk]
   refine SemW_to (ih (k+1) (g'+1) (v'+1) (by omega) (by omega)) (by simp only[PW]) ?_
   rw[q63 _ _ (by simp;omega),take_some ga]
   simp only[PP,P1,P2,P3,P4,P5,P6,P7,P8,P9,P10,P11,P12,P13,P14,L1,P15,N1,N2,N3,N4,N5,N6,N7,I1,I2,I3,I4,I5,I6,I7,reduceIte,reduceCtorEq]
  ·obtain rfl:k=o.length:=by omega
   have hfz:frzO (some (PObj.cells g' 0 (((o.take o.length).map fun s:Nat=>fiD D s).map PV.bool))) g' 1 0 o.length=some (slB false true (o.map fun s:Nat=>fiD D s)):=by
    rw[List.take_length,frzO_cells (by simp) (underL_bools _ _),q63 _ _ (by simp)]
    simp only[slB,List.length_map]
   simp only[PP,P1,P2,P3,P4,P5,P6,P7,P8,P9,P10,P11,P12,P13,P14,L1,P15,N1,N2,N3,N4,N5,N6,N7,I1,I2,I3,I4,I5,I6,I7,reduceIte,reduceCtorEq,c,hfz]
   have:=hk2 C o (by rw[show D.st.toNat=sN by omega];exact hF)
   exact this
 ·rintro r o N ⟨k,hO⟩ hJ
  have:=nodup_lenN D.nx.length _ (bfsK_nodup (q46 D) (q10 D) sN k) (bfsK_all (Dm:=fun a=>a<D.nx.length) (by omega) (fun a x ha hx=>(C.delta ha hx).choose_spec.2.2.2) k)
  omega
end
theorem idxOf_at {b:Nat} :∀{o:List Nat},b∈o→o[o.idxOf b]? =some b
 | [],h=>by simp at h
 | a::o,h=>by
  by_cases e:b=a
  ·subst e;simp
  ·rw[idxOf_ne e]
   rw[List.getElem?_cons_succ]
   exact idxOf_at ((List.mem_cons.1 h).resolve_left e)
theorem idxOf_le {b:Nat} :∀{o:List Nat} {k:Nat},o[k]? =some b→o.idxOf b≤k
 | [],k,h=>by simp at h
 | a::o,k,h=>by
  by_cases e:b=a
  ·subst e;simp
  ·rw[idxOf_ne e]
   cases k with
   | zero=>simp at h;exact absurd h.symm e
   | succ k=>have:=idxOf_le (o:=o) (k:=k) (by simpa using h);omega
theorem OkD.small {D:DF} (C:OkD D) (k:Nat):(bfsK (q46 D) (q10 D) D.st.toNat k).length≤D.nx.length:=
 nodup_lenN _ _ (bfsK_nodup _ _ _ k) (bfsK_all (Dm:=fun a=>a<D.nx.length) (by have:=C.s0;have:=C.s1;omega) (fun a x ha hx=>(C.delta ha hx).choose_spec.2.2.2) k)
theorem OkD.below {D:DF} (C:OkD D) (k:Nat):∀a∈bfsK (q46 D) (q10 D) D.st.toNat k,a<D.nx.length:=
 bfsK_all (Dm:=fun a=>a<D.nx.length) (by have:=C.s0;have:=C.s1;omega) (fun a x ha hx=>(C.delta ha hx).choose_spec.2.2.2) k
theorem OkD.row {D:DF} (C:OkD D) {a:Nat} (ha:a<D.nx.length):∃r,D.nx[a]? =some r∧r.length=q10 D∧∀x,x<q10 D→r[x]? =some ((q46 D a x:Nat):Int)∧q46 D a x<D.nx.length:=by
 obtain⟨r,g⟩:=some_of ha
 have h1:=(C.r r (List.mem_of_getElem? g)).1
 have h2:((q10 D:Nat):Int)=2^D.vs.toNat:=by simp
 refine⟨r,g,by omega,fun x hx=>?_⟩
 obtain⟨r',g1,g2,g3,g4⟩:=C.delta ha hx
 rw[g]at g1;cases g1
 exact⟨g2,g4⟩
section
variable {tab:FuncId→Option AF} (T:HasA tab)
include T
end
section
variable {α β:Type} [DecidableEq α] [DecidableEq β]
omit [DecidableEq α] [DecidableEq β] in
theorem mem_map_inj {φ:α→β} {Dm:α→Prop} (hinj:∀a b,Dm a→Dm b→φ a=φ b→a=b) {o:List α} {b:α} (ho:∀c∈o,Dm c) (hb:Dm b):φ b∈o.map φ↔b∈o:=by
 constructor
 ·intro h
  obtain⟨c,h1,h2⟩:=List.mem_map.1 h
  rw[←hinj c b (ho c h1) hb h2];exact h1
 ·intro h;exact List.mem_map.2 ⟨b,h,rfl⟩
theorem addN_map {φ:α→β} {Dm:α→Prop} (hinj:∀a b,Dm a→Dm b→φ a=φ b→a=b) {o:List α} {b:α} (ho:∀c∈o,Dm c) (hb:Dm b):addN (o.map φ) (φ b)=(addN o b).map φ:=by
 unfold addN
 by_cases h:b∈o
 ·rw[if_pos h,if_pos ((mem_map_inj hinj ho hb).2 h)]
 ·rw[if_neg h,if_neg (fun q=>h ((mem_map_inj hinj ho hb).1 q)),List.map_append];rfl
theorem idxOf_map {φ:α→β} {Dm:α→Prop} (hinj:∀a b,Dm a→Dm b→φ a=φ b→a=b) {b:α} (hb:Dm b):∀{o:List α},(∀c∈o,Dm c)→(o.map φ).idxOf (φ b)=o.idxOf b
 | [],_=>rfl
 | a::o,ho=>by
  by_cases e:b=a
  ·subst e;simp
  ·have e2:φ b≠φ a:=fun h=>e (hinj b a hb (ho a (by simp)) h)
   rw[List.map_cons,idxOf_ne e2,idxOf_ne e,idxOf_map hinj hb (fun c hc=>ho c (by simp[hc]))]
theorem visN_map {δ:α→Nat→α} {δ':β→Nat→β} {φ:α→β} {Dm:α→Prop} {n:Nat} {a:α} (hinj:∀a b,Dm a→Dm b→φ a=φ b→a=b) (hs:∀x,x<n→Dm (δ a x)) (hφ:∀x,x<n→φ (δ a x)=δ' (φ a) x) {o:List α} (ho:∀c∈o,Dm c):∀j,j≤n→visN δ' (φ a) j (o.map φ)=(visN δ a j o).map φ
 | 0,_=>rfl
 | j+1,h=>by
  unfold visN
  rw[visN_map hinj hs hφ ho j (by omega),←hφ j (by omega)]
  exact addN_map hinj (visN_all hs ho (by omega)) (hs j (by omega))
theorem bfsK_map {δ:α→Nat→α} {δ':β→Nat→β} {φ:α→β} {Dm:α→Prop} {n:Nat} {a0:α} (hinj:∀a b,Dm a→Dm b→φ a=φ b→a=b) (h0:Dm a0) (hs:∀a x,Dm a→x<n→Dm (δ a x)) (hφ:∀a x,Dm a→x<n→φ (δ a x)=δ' (φ a) x):∀k,bfsK δ' n (φ a0) k=(bfsK δ n a0 k).map φ
 | 0=>rfl
 | k+1=>by
  have ih:=bfsK_map hinj h0 hs hφ k
  have ho:=bfsK_all h0 hs k
  rcases Nat.lt_or_ge k (bfsK δ n a0 k).length with hk | hk
  ·have g:=List.getElem?_eq_getElem hk
   have g':(bfsK δ' n (φ a0) k)[k]? =some (φ (bfsK δ n a0 k)[k]):=by rw[ih,List.getElem?_map,g];rfl
   have hd:=ho _ (List.getElem_mem hk)
   rw[bfsK_succ g,bfsK_succ g',ih]
   exact visN_map hinj (fun x hx=>hs _ x hd hx) (fun x hx=>hφ _ x hd hx) ho n (Nat.le_refl n)
  ·rw[bfsK_stay hk,bfsK_stay (by rw[ih,List.length_map];exact hk),ih]
theorem FullN.map {δ:α→Nat→α} {δ':β→Nat→β} {φ:α→β} {Dm:α→Prop} {n:Nat} {a0:α} {o:List α} (h:FullN δ n a0 o) (hinj:∀a b,Dm a→Dm b→φ a=φ b→a=b) (h0:Dm a0) (hs:∀a x,Dm a→x<n→Dm (δ a x)) (hφ:∀a x,Dm a→x<n→φ (δ a x)=δ' (φ a) x):FullN δ' n (φ a0) (o.map φ):=by
 obtain⟨k,rfl,h2⟩:=h
 exact⟨k,bfsK_map hinj h0 hs hφ k,by rw[List.length_map];exact h2⟩
theorem OverN.map {δ:α→Nat→α} {δ':β→Nat→β} {φ:α→β} {Dm:α→Prop} {n:Nat} {a0:α} {bd:Int} (h:OverN δ n a0 bd) (hinj:∀a b,Dm a→Dm b→φ a=φ b→a=b) (h0:Dm a0) (hs:∀a x,Dm a→x<n→Dm (δ a x)) (hφ:∀a x,Dm a→x<n→φ (δ a x)=δ' (φ a) x):OverN δ' n (φ a0) bd:=by
 obtain⟨k,h⟩:=h
 exact⟨k,by rw[bfsK_map hinj h0 hs hφ k,List.length_map];exact h⟩
theorem rowsN_map {δ:α→Nat→α} {δ':β→Nat→β} {φ:α→β} {Dm:α→Prop} {n:Nat} {o:List α} (ho:∀c∈o,Dm c) (hinj:∀a b,Dm a→Dm b→φ a=φ b→a=b) (hs:∀a x,Dm a→x<n→Dm (δ a x)) (hφ:∀a x,Dm a→x<n→φ (δ a x)=δ' (φ a) x):rowsN δ' n (o.map φ)=rowsN δ n o:=by
 unfold rowsN
 rw[List.map_map]
 refine List.map_congr_left fun a ha=>?_
 have hd:=ho a ha
 show rowN δ' n (o.map φ) (φ a)=rowN δ n o a
 unfold rowN
 refine List.map_congr_left fun x hx=>?_
 have hx:=List.mem_range.1 hx
 rw[←hφ a x hd hx,idxOf_map hinj (hs a x hd hx) ho]
end
theorem ren_len (D:DF) (o:List Nat):(renD D o).nx.length=o.length:=by simp[renD,rowsN]
structure OrdD (D:DF) (o:List Nat):Prop where
 C:OkD D
 F:FullN (q46 D) (q10 D) D.st.toNat o
 lt:∀a∈o,a<D.nx.length
 len:o.length≤D.nx.length
 pos:0<o.length
theorem OrdD.of {D:DF} {o:List Nat} (C:OkD D) (F:FullN (q46 D) (q10 D) D.st.toNat o):OrdD D o:=by
 refine⟨C,F,?_,?_,?_⟩
 ·obtain⟨k,rfl,_⟩:=F;exact C.below k
 ·obtain⟨k,rfl,_⟩:=F;exact C.small k
 ·have:=F.zero;exact Nat.lt_of_le_of_lt (Nat.zero_le _) (q27 this)
theorem OrdD.next {D:DF} {o:List Nat} (h:OrdD D o) {a x:Nat} (ha:a∈o) (hx:x<q10 D):q46 D a x∈o:=h.F.next ha hx
theorem OrdD.rdelta {D:DF} {o:List Nat} (h:OrdD D o) {a x:Nat} (ha:a∈o) (hx:x<q10 D):q46 (renD D o) (o.idxOf a) x=o.idxOf (q46 D a x):=by
 have g:=idxOf_at ha
 unfold q46 stepD
 have e:(renD D o).nx[o.idxOf a]? =some (rowN (q46 D) (q10 D) o a):=by
  show(rowsN (q46 D) (q10 D) o)[_]? =_
  unfold rowsN;rw[List.getElem?_map,g];rfl
 simp only[Int.toNat_natCast]
 rw[e]
 unfold rowN
 simp only[Option.getD_some]
 rw[List.getElem?_map,List.getElem?_range hx]
 simp only[Option.map_some,Option.getD_some,Int.toNat_natCast]
 rfl
theorem OrdD.ren {D:DF} {o:List Nat} (h:OrdD D o):OkD (renD D o):=by
 refine⟨h.C.v0,h.C.v6,by rw[ren_len];exact h.pos,by rw[ren_len];have:=h.C.n1;have:=h.len;omega,by rw[ren_len];simp[renD],Int.le_refl 0,by rw[ren_len];show(0:Int)<_;have:=h.pos;omega,fun r hr=>?_⟩
 have hr:r∈rowsN (q46 D) (q10 D) o:=hr
 unfold rowsN at hr
 obtain⟨a,ha,rfl⟩:=List.mem_map.1 hr
 refine⟨by simp[rowN,renD],fun t ht=>?_⟩
 unfold rowN at ht
 obtain⟨x,hx,rfl⟩:=List.mem_map.1 ht
 have:=q27 (idxOf_at (h.next ha (List.mem_range.1 hx)))
 rw[ren_len];omega
theorem OrdD.bn {D:DF} {o:List Nat} (h:OrdD D o):BnD (renD D o):=by
 have hR:=h.ren
 have h1:=hR.n1;have h2:=hR.f
 refine⟨by show _<1000000000000;omega,fun r hr=>?_,by show _<1000000000000;omega⟩
 have h3:=(hR.r r hr).1
 have h6:=hR.v6;have h0:=hR.v0
 have:((2^(renD D o).vs.toNat:Nat):Int)=2^(renD D o).vs.toNat:=by simp
 have h4:2^(renD D o).vs.toNat≤2^6:=Nat.pow_le_pow_right (by decide) (by omega)
 show _<1000000000000
 omega
theorem nat_of {D:DF} {x:Int} (h0:0≤x) (h1:x<2^D.vs.toNat):∃y:Nat,x=y∧y<q10 D:=by
 refine⟨x.toNat,by omega,?_⟩
 have:((2^D.vs.toNat:Nat):Int)=2^D.vs.toNat:=by simp
 show x.toNat<2^D.vs.toNat
 omega
theorem OkD.step_nat {D:DF} (C:OkD D) {a x:Nat} (ha:a<D.nx.length) (hx:x<q10 D):stepD D.nx a x=q46 D a x:=by
 obtain⟨r,g1,g2,_⟩:=C.delta ha hx
 unfold stepD
 simp only[Int.toNat_natCast]
 rw[g1];simp[g2]
theorem OrdD.runs {D:DF} {o:List Nat} (h:OrdD D o):∀(w:List Int),(∀x∈w,0≤x∧x<2^D.vs.toNat)→∀a,a∈o→∃b,b∈o∧w.foldl (stepD D.nx) (a:Int)=b∧w.foldl (stepD (renD D o).nx) ((o.idxOf a:Nat):Int)=(o.idxOf b:Nat)
 | [],_,a,ha=>⟨a,ha,rfl,rfl⟩
 | x::w,hw,a,ha=>by
  obtain⟨y,rfl,hy⟩:=nat_of (hw x (by simp)).1 (hw x (by simp)).2
  obtain⟨b,h1,h2,h3⟩:=OrdD.runs h w (fun z hz=>hw z (by simp[hz])) _ (h.next ha hy)
  refine⟨b,h1,?_,?_⟩
  ·rw[List.foldl_cons,h.C.step_nat (h.lt a ha) hy];exact h2
  ·have hi:=q27 (idxOf_at ha)
   rw[List.foldl_cons,h.ren.step_nat (by rw[ren_len];exact hi) hy,h.rdelta ha hy];exact h3
theorem OrdD.fin {D:DF} {o:List Nat} (h:OrdD D o) {a:Nat} (ha:a∈o):fiD (renD D o) ((o.idxOf a:Nat):Int)=fiD D a:=by
 unfold fiD
 have g:=idxOf_at ha
 simp only[Int.toNat_natCast]
 have e:(renD D o).fi[o.idxOf a]? =some (fiD D a):=by
  show(o.map fun s:Nat=>fiD D s)[_]? =_
  rw[List.getElem?_map,g];rfl
 rw[e];unfold fiD;simp
theorem OrdD.st_mem {D:DF} {o:List Nat} (h:OrdD D o):D.st.toNat∈o∧o.idxOf D.st.toNat=0:=by
 have:=h.F.zero
 exact⟨List.mem_of_getElem? this,by have:=idxOf_le this;omega⟩
theorem OrdD.err {D:DF} {o:List Nat} (h:OrdD D o) (w:List Int):errD (renD D o) w=errD D w:=by
 unfold errD
 rw[if_pos (okD_iff.2 h.ren),if_pos (okD_iff.2 h.C)];rfl
theorem OrdD.acc {D:DF} {o:List Nat} (h:OrdD D o) {w:List Int} (hw:∀x∈w,0≤x∧x≤255):accD (renD D o) w=accD D w:=by
 unfold accD
 rw[h.err]
 by_cases c:errD D w=0
 ·obtain⟨_,e0⟩:=errD_zero c
  have hb:∀x∈w,0≤x∧x<2^D.vs.toNat:=fun x hx=>⟨(hw x hx).1,(wordE_zero e0).2 x hx⟩
  obtain⟨m1,m2⟩:=h.st_mem
  obtain⟨b,h1,h2,h3⟩:=h.runs w hb _ m1
  have s1:runD D w=b:=by
   unfold runD
   rw[show D.st=((D.st.toNat:Nat):Int) by have:=h.C.s0;omega];exact h2
  have s2:runD (renD D o) w=(o.idxOf b:Nat):=by
   unfold runD
   rw[m2]at h3;exact h3
  rw[s1,s2,h.fin h1]
 ·rw[decide_eq_false c];rfl
abbrev q58 (N:NF):Nat:=2^N.vs.toNat
def q60 (N:NF) (a:BitVec 64) (x:Nat):BitVec 64:=(matE N.es x).foldl (fun acc e=>if a.getLsbD e.fr.toNat=true then acc||| BitVec.twoPow 64 e.to.toNat else acc) 0#64
theorem fold_bit (a:BitVec 64) (k:Nat):∀(l:List Eg) (acc:BitVec 64),(∀e∈l,0≤e.to∧e.to<64)→
  ((l.foldl (fun acc e=>if a.getLsbD e.fr.toNat=true then acc||| BitVec.twoPow 64 e.to.toNat else acc) acc).getLsbD k=true↔acc.getLsbD k=true∨∃e∈l,a.getLsbD e.fr.toNat=true∧e.to=k)
 | [],acc,_=>by simp
 | e::l,acc,h=>by
  have he:=h e (by simp)
  rw[List.foldl_cons,fold_bit a k l _ fun e he=>h e (by simp[he])]
  by_cases c:a.getLsbD e.fr.toNat=true
  ·rw[if_pos c,BitVec.getLsbD_or,Bool.or_eq_true,BitVec.getLsbD_twoPow,Bool.and_eq_true,decide_eq_true_eq,decide_eq_true_eq]
   constructor
   ·rintro((h1 | ⟨h1,h2⟩) | ⟨e',h1,h2⟩)
    ·exact .inl h1
    ·exact .inr ⟨e,by simp,c,by omega⟩
    ·exact .inr ⟨e',by simp[h1],h2⟩
   ·rintro(h1 | ⟨e',h1,h2,h3⟩)
    ·exact .inl (.inl h1)
    ·rcases List.mem_cons.1 h1 with rfl | h1
     ·exact .inl (.inr ⟨by omega,by omega⟩)
     ·exact .inr ⟨e',h1,h2,h3⟩
  ·rw[if_neg c]
   constructor
   ·rintro(h1 | ⟨e',h1,h2⟩)
    ·exact .inl h1
    ·exact .inr ⟨e',by simp[h1],h2⟩
   ·rintro(h1 | ⟨e',h1,h2,h3⟩)
    ·exact .inl h1
    ·rcases List.mem_cons.1 h1 with rfl | h1
     ·exact absurd h2 c
     ·exact .inr ⟨e',h1,h2,h3⟩
theorem matE_sub {es:List Eg} {x:Nat} {e:Eg} (h:e∈matE es x):e∈es:=(List.mem_filter.1 h).1
theorem deltaB_bit {N:NF} (C:NOk N) (a:BitVec 64) (x k:Nat):(q60 N a x).getLsbD k=true↔∃e∈matE N.es x,a.getLsbD e.fr.toNat=true∧e.to=k:=by
 unfold q60
 rw[fold_bit a k _ _ fun e he=>by have:=C.ed e (matE_sub he);have:=C.n64;omega]
 simp
structure RB (s:Wd) (a:BitVec 64):Prop where
 len:s.length≤64
 lt:∀k,bit s k=true→k<64
 at0:wAt s 0=a
theorem RB.bit {s:Wd} {a:BitVec 64} (h:RB s a) (k:Nat):bit s k=a.getLsbD k:=by
 by_cases hk:k<64
 ·unfold Ar.bit
  rw[show k / 64=0 by omega,show k % 64=k by omega,h.at0]
 ·rw[BitVec.getLsbD_of_ge _ _ (by omega)]
  cases hb:Ar.bit s k with
  | false=>rfl
  | true=>exact absurd (h.lt k hb) hk
theorem RB.mk' {s:Wd} {a:BitVec 64} (hl:s.length≤64) (h:∀k,Ar.bit s k=true↔a.getLsbD k=true):RB s a:=by
 have lt:∀k,Ar.bit s k=true→k<64:=fun k hk=>by
  refine Classical.byContradiction fun q=>?_
  have:=(h k).1 hk
  rw[BitVec.getLsbD_of_ge _ _ (by omega)]at this;cases this
 refine⟨hl,lt,BitVec.eq_of_getLsbD_eq fun i hi=>?_⟩
 have:=h i
 unfold Ar.bit at this
 rw[show i / 64=0 by omega,show i % 64=i by omega]at this
 exact Bool.eq_iff_iff.2 this
theorem RB.next {N:NF} (C:NOk N) {s o:Wd} {a:BitVec 64} {x:Nat} (h:RB s a) (ho:AftP N.es s x o):RB o (q60 N a x):=by
 refine .mk' ho.1 fun k=>?_
 rw[ho.2,deltaB_bit C]
 simp only[h.bit]
def startB (N:NF):BitVec 64:=wAt (faW N.st) 0
theorem start_RB {N:NF} (C:NOk N):RB (faW N.st) (startB N):=by
 obtain⟨_,h2,h3⟩:=fa_ok C C.st
 refine⟨h2,fun k hk=>?_,rfl⟩
 rw[h3,decide_eq_true_eq]at hk
 have:=posM_mem C.st _ hk
 have:=C.n64
 omega
theorem startB_bit {N:NF} (C:NOk N) (k:Nat):(startB N).getLsbD k=true↔(k:Int)∈N.st:=by
 obtain⟨_,_,h3⟩:=fa_ok C C.st
 rw[←(start_RB C).bit,h3,decide_eq_true_eq]
def finB (N:NF) (a:BitVec 64):Bool:=N.fi.any fun q=>a.getLsbD q.toNat
def detD (N:NF) (o:List (BitVec 64)):DF:=⟨N.vs,0,rowsN (q60 N) (q58 N) o,o.map (finB N)⟩
def setsB (o:List (BitVec 64)):List (List Int):=o.map fun a=>natI (bitsW a)
theorem fin_inter {N:NF} (C:NOk N) {s:Wd} {a:BitVec 64} (h:RB s a):decide (0<(cmb (fun x y=>x&&& y) s (faW N.fi)).length)=finB N a:=by
 obtain⟨_,h2,h3⟩:=fa_ok C C.fi
 rw[Bool.eq_iff_iff,decide_eq_true_eq,inter_bits h.len h2]
 unfold finB
 rw[List.any_eq_true]
 constructor
 ·rintro⟨k,k1,k2⟩
  rw[h.bit]at k1
  rw[h3,decide_eq_true_eq]at k2
  exact⟨k,k2,by rw[Int.toNat_natCast];exact k1⟩
 ·rintro⟨q,q1,q2⟩
  have:=posM_mem C.fi q q1
  refine⟨q.toNat,by rw[h.bit];exact q2,?_⟩
  rw[h3,decide_eq_true_eq,show((q.toNat:Nat):Int)=q by omega];exact q1
theorem list_RB {s:Wd} {a:BitVec 64} (h:RB s a):listW s=bitsW a:=by rw[listW_one h.lt,h.at0]
def knE (o:List (BitVec 64)):List (ByteArray×PV):=o.map fun a=>(keyB a,.bool true)
theorem knE_look (b:BitVec 64):∀o:List (BitVec 64),slook (keyB b) (knE o)=if b∈o then some (.bool true) else none
 | []=>rfl
 | a::o=>by
  show(if keyB b=keyB a then some (PV.bool true) else slook (keyB b) (knE o))=_
  by_cases e:b=a
  ·subst e;rw[if_pos rfl,if_pos (by simp)]
  ·rw[if_neg fun q=>e (keyB_inj q),knE_look b o]
   by_cases hm:b∈o
   ·rw[if_pos hm,if_pos (by simp[hm])]
   ·rw[if_neg hm,if_neg (by simp[hm,e])]
structure RBs (ss:List Wd) (o:List (BitVec 64)):Prop where
 len:ss.length=o.length
 at':∀(i:Nat) s a,ss[i]? =some s→o[i]? =some a→RB s a
theorem RBs.snoc {ss:List Wd} {o:List (BitVec 64)} (h:RBs ss o) {s:Wd} {a:BitVec 64} (ha:RB s a):RBs (ss++[s]) (o++[a]):=by
 refine⟨by simp[h.len],fun i s' a' h1 h2=>?_⟩
 rcases Nat.lt_or_ge i ss.length with hi | hi
 ·rw[List.getElem?_append_left hi]at h1
  rw[List.getElem?_append_left (by rw[←h.len];exact hi)]at h2
  exact h.at' i s' a' h1 h2
 ·rw[List.getElem?_append_right hi]at h1
  rw[List.getElem?_append_right (by rw[←h.len];exact hi),←h.len]at h2
  cases hj:i-ss.length with
  | zero=>rw[hj]at h1 h2;simp at h1 h2;subst h1;subst h2;exact ha
  | succ j=>rw[hj]at h1;simp at h1
theorem RBs.get {ss:List Wd} {o:List (BitVec 64)} (h:RBs ss o) {i:Nat} {a:BitVec 64} (g:o[i]? =some a):∃s,ss[i]? =some s∧RB s a:=by
 have hi:=q27 g
 obtain⟨s,gs⟩:=some_of (xs:=ss) (k:=i) (by rw[h.len];exact hi)
 exact⟨s,gs,h.at' i s a gs g⟩
theorem word_one {vs:Int} {x:Nat} (h:x<2^vs.toNat):wordE vs [(x:Int)]=0:=by
 have h':¬(2:Int)^vs.toNat≤x:=by
  have:((2^vs.toNat:Nat):Int)=2^vs.toNat:=by simp
  omega
 unfold wordE
 rw[if_neg (by simp),if_neg (by simp[h'])]
theorem NOk.let64 {N:NF} (C:NOk N):q58 N≤64:=pow_le64 C.v6
section
variable {tab:FuncId→Option AF} (T:HasA tab)
include T
theorem nafter_p {M:Mem} {K:PV→Mem→Prop} {f1 o1 f2 o2 f3 o3 f4 o4:Bool} {N:NF} {s:Wd} {a:BitVec 64} {x:Nat} (hc:checkN N=0) (B:BnN N) (hr:RB s a) (hx:x<q58 N) (hk:∀o,RB o (q60 N a x)→K (.tuple [slW false true o,p64 0]) M):
  SemC tab 67 [.agg (nfC f1 o1 f2 o2 f3 o3 N),slW f4 o4 s,p8 x] M K:=by
 have C:=nok_of hc
 have h64:=C.let64
 refine q18 T.h67 (by simp only[PP,P1,P2,P3,P4,P5,P6,P7,P8,P9,P10,P11,P12,P13,P14,L1,P15,N1,N2,N3,N4,N5,N6,N7,I1,I2,I3,I4,I5,I6,I7,reduceIte,reduceCtorEq,under_slE]) ?_
 simp only[af67,PP,P1,P2,P3,P4,P5,P6,P7,P8,P9,P10,P11,P12,P13,P14,L1,P15,N1,N2,N3,N4,N5,N6,N7,I1,I2,I3,I4,I5,I6,I7,reduceIte,reduceCtorEq]
 refine check_p T B ?_
 simp only[PP,P1,P2,P3,P4,P5,P6,P7,P8,P9,P10,P11,P12,P13,P14,L1,P15,N1,N2,N3,N4,N5,N6,N7,I1,I2,I3,I4,I5,I6,I7,reduceIte,reduceCtorEq,hc]
 refine word_p T (w:=[(x:Int)]) C (fun y hy=>by simp at hy;subst hy;omega) (by simp) ?_
 rw[word_one hx]
 simp only[PP,P1,P2,P3,P4,P5,P6,P7,P8,P9,P10,P11,P12,P13,P14,L1,P15,N1,N2,N3,N4,N5,N6,N7,I1,I2,I3,I4,I5,I6,I7,reduceIte,reduceCtorEq]
 refine aft_p T C B hr.len (by omega) fun o ho=>?_
 simp only[PP,P1,P2,P3,P4,P5,P6,P7,P8,P9,P10,P11,P12,P13,P14,L1,P15,N1,N2,N3,N4,N5,N6,N7,I1,I2,I3,I4,I5,I6,I7,reduceIte,reduceCtorEq]
 exact hk o (hr.next C ho)
end
section
variable {tab:FuncId→Option AF} (T:HasA tab)
include T
end
end Go.Am.Ar

