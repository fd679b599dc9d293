/- Contract: the recursive solver (package zielonka), and what goes with it. -/
import Derived.Test.YtgcombgonagkkaaCertifyAcceptsG1
import Derived.Test.YtgcombgonagkkaaCertifyAcceptsG0
set_option linter.unusedVariables false
set_option linter.unusedSimpArgs false
set_option maxRecDepth 10000
namespace Go.Am.Ar
open Go.Am.PV renaming junk→Zj
open Go.Am renaming pchk→P1,pold→P2,PKNo→P3,ppack→P4,PObj.under→P5,pput→P6,ptset→P7,q60→P8,pev→P9,ofAV→P10,q30→P11,ppad→P12,pfill→P13,q39→P14,AO.effect→P15
open List renaming replicate→L1
open Nat renaming reduceAdd→N1,reduceSub→N2,reduceMul→N3,reduceLT→N4,reduceLeDiff→N5,reduceEqDiff→N6,reduceBEq→N7
open Int renaming reduceToNat→I1,reduceLT→I2,reduceLE→I3,reduceEq→I4,reduceAdd→I5,reduceSub→I6,reduceNeg→I7
abbrev zP (pr:List Int) (v:Nat):Int:=pr.getD v 0
structure ZRes (ow pr:List Int) (su:List (List Int)) (inL:List Bool) (st0 st:List Int) (w0 w1:List Bool):Prop where
 l0:w0.length=ow.length
 l1:w1.length=ow.length
 ls:st.length=ow.length
 nn:∀x∈st,0≤x
 all:∀v,bm inL v↔bm w0 v∨bm w1 v
 dis:∀v,bm w0 v→bm w1 v→False
 p0:SolIn (zO ow) (Sf su) (zP pr) (bm inL) 0 (bm w0) (stN st)
 p1:SolIn (zO ow) (Sf su) (zP pr) (bm inL) 1 (bm w1) (stN st)
 same:∀v,¬bm inL v→stN st v=stN st0 v
theorem par8 {m:Int} (h:0≤m):IntKind.u8.wrap (m.tmod 2)=m % 2:=by
 rw[Int.tmod_eq_emod_of_nonneg h]
 simp only[IntKind.wrap,IntKind.signed,IntKind.bits]
 simp
 omega
theorem idxFrom_some {p:Int→Bool} :∀{row:List Int} {j:Nat},(∃u∈row,p u=true)→∃i u,idxFrom p j row=((j+i:Nat):Int)∧row[i]? =some u∧p u=true
 | [],j,h=>by obtain⟨u,hu,_⟩:=h;cases hu
 | x::l,j,h=>by
  unfold idxFrom
  by_cases e:p x=true
  ·rw[if_pos e];exact⟨0,x,rfl,rfl,e⟩
  ·rw[if_neg e]
   obtain⟨u,hu,hp⟩:=h
   rcases List.mem_cons.1 hu with rfl | hu
   ·exact absurd hp e
   ·obtain⟨i,y,h1,h2,h3⟩:=idxFrom_some (p:=p) (row:=l) (j:=j+1) ⟨u,hu,hp⟩
    exact⟨i+1,y,by rw[h1];congr 1;omega,by simpa using h2,h3⟩
section
variable {tab:FuncId→Option AF} (T:HasA tab)
include T
set_option maxHeartbeats 2000000 in
theorem solve_z {o0 o1:PObj} {f1 p1 f2 p2 f3 p3 f4 p4:Bool} {ow pr:List Int} {su:List (List Int)} (V:Valid ow pr su) (B:Bnd ow pr su) (ho:∀x∈ow,0≤x) (h0:cutOk 4 o0=true) (h1:cutOk 4 o1=true):
  ∀(m:Nat) (inL:List Bool) (st0:List Int) (ver0:Nat) (K:PV→Mem→Prop),inL.count true<m→inL.length=ow.length→st0.length=ow.length→(∀x∈st0,0≤x)→(∀v,bm inL v→∃u∈Sf su v,bm inL u)→
   (∀ver st w0 w1,ZRes ow pr su inL st0 st w0 w1→K (.agg [slB false true w0,slB false true w1]) [o0,o1,.cells 0 ver (st.map (PV.int .i64)),.cells 0 0 (zSol f1 p1 f2 p2 f3 p3 f4 p4 ow pr su)])→
   SemC tab 19 [.ptr 3 0 0,slB false true inL] [o0,o1,.cells 0 ver0 (st0.map (PV.int .i64)),.cells 0 0 (zSol f1 p1 f2 p2 f3 p3 f4 p4 ow pr su)] K:=by
 intro m
 induction m with
 | zero=>intro inL st0 ver0 K hc;omega
 | succ m IH=>
 intro inL st0 ver0 K hcnt hi hs hs0 htot hk
 have n0:=V.n0
 have n1:=V.n1
 have hp:=V.p
 have hsl:=V.s
 have b0:(0:Int)≤ow.length:=by omega
 have b1:(ow.length:Int)*1≤140737488355328:=by omega
 have b2:(ow.length:Int)≤9223372036854775807:=by omega
 refine SemC_res (q34 T.h19 ?_)
 simp only[af19,PP,P1,P2,P3,P4,P5,P6,P7,P8,P9,P10,P11,P12,P13,P14,L1,P15,N1,N2,N3,N4,N5,N6,N7,I1,I2,I3,I4,I5,I6,I7,reduceIte,reduceCtorEq,hi,b0,b1,b2,Int.le_refl]
 refine loop2 (fun(k:Nat) (top:Int)=>k≤ow.length∧(∀v,v<k→bm inL v→zP pr v≤top)∧((top= -1∧∀v,v<k→¬bm inL v)∨∃v,v<k∧bm inL v∧zP pr v=top))
  (fun k top=>[.ptr 3 0 0,Zj,Zj,.ptr 4 0 0,.ptr 5 0 0,p64 top,Zj,Zj,Zj,Zj,Zj,Zj,Zj,Zj,Zj,Zj,Zj,Zj,Zj,Zj,Zj,Zj,Zj,p64 ow.length,p64 k,Zj,Zj,Zj,Zj,Zj,Zj,Zj,Zj,Zj,Zj,Zj,Zj,Zj,Zj,Zj,Zj,Zj,Zj,Zj,Zj,Zj,Zj,Zj,Zj,Zj,Zj,Zj,Zj,Zj,Zj,Zj,Zj,Zj,Zj,Zj,Zj,Zj,Zj,Zj,Zj,Zj,Zj,Zj,Zj,Zj,Zj,Zj,Zj,Zj,Zj,Zj,Zj,Zj,Zj,Zj,Zj,Zj,Zj,Zj,Zj,Zj,Zj,Zj,Zj,Zj,Zj,Zj,Zj,Zj,Zj,Zj,Zj,Zj,Zj,Zj,Zj,Zj,Zj,Zj,Zj,Zj,Zj,Zj,Zj,Zj,Zj,Zj,Zj,Zj,Zj,Zj,Zj,Zj,Zj,Zj,Zj,Zj,Zj,Zj,Zj,Zj,Zj,Zj,Zj,Zj,Zj,Zj,Zj,Zj,Zj,Zj,Zj,Zj,Zj,Zj,Zj,Zj,Zj,Zj,Zj,Zj,Zj,Zj,Zj,Zj,Zj,Zj,Zj,Zj,Zj,Zj,Zj,Zj,Zj,Zj,Zj,Zj,Zj,Zj,Zj,Zj,Zj,Zj,Zj,Zj,Zj,Zj,Zj,Zj,Zj,Zj,Zj,Zj,Zj,Zj,Zj,Zj])
  (fun k top=>[o0,o1,.cells 0 ver0 (st0.map (PV.int .i64)),.cells 0 0 (zSol f1 p1 f2 p2 f3 p3 f4 p4 ow pr su),.cells 0 0 [slB false true inL],.cells 0 1 [.ref 6 0 1 0 ow.length,.ref 7 0 1 0 ow.length],.cells 0 0 (List.replicate ow.length (.bool false)),.cells 0 0 (List.replicate ow.length (.bool false))])
  (fun k _=>ow.length-k) 0 (-1) ⟨by omega,fun v h=>by omega,.inl ⟨rfl,fun v h=>by omega⟩⟩ (by simp only[PW]) (by simp only[slB,hi]) ?_
 intro k top ⟨hle,htop,hex⟩ ih
 refine q15 (by kernel_rfl) ?_
 simp only[PP,P1,P2,P3,P4,P5,P6,P7,P8,P9,P10,P11,P12,P13,P14,L1,P15,N1,N2,N3,N4,N5,N6,N7,I1,I2,I3,I4,I5,I6,I7,reduceIte,reduceCtorEq]
 refine QIf.intro (fun c=>?_) (fun c=>?_)
 ·have hk':k<ow.length:=by omega
  have k0:(0:Int)≤k:=by omega
  have kp:(k:Int)<pr.length:=by omega
  have hwk:=q12 (k:=k) (by show _<1000000000000;omega)
  obtain⟨x,g1⟩:=q9 (xs:=inL) (k:=k) (by omega)
  obtain⟨q,g2⟩:=q9 (xs:=pr) (k:=k) (by omega)
  have eq:zP pr k=q:=getD_some g2
  have q0:0≤q:=by have:=(V.row k (by omega)).1;rw[←eq];exact this
  simp only[PP,P1,P2,P3,P4,P5,P6,P7,P8,P9,P10,P11,P12,P13,P14,L1,P15,N1,N2,N3,N4,N5,N6,N7,I1,I2,I3,I4,I5,I6,I7,reduceIte,reduceCtorEq,c,k0,g1,hi]
  cases x
  ·have hnb:¬bm inL k:=fun h=>by rw[q65 g1]at h;cases h
   simp only[PP,P1,P2,P3,P4,P5,P6,P7,P8,P9,P10,P11,P12,P13,P14,L1,P15,N1,N2,N3,N4,N5,N6,N7,I1,I2,I3,I4,I5,I6,I7,reduceIte,reduceCtorEq,hwk]
   refine q8 (ih (k+1) top ⟨by omega,fun v hv hb=>?_,?_⟩ (by omega)) (by simp only[PW])
   ·by_cases e:v=k
    ·subst e;exact absurd hb hnb
    ·exact htop v (by omega) hb
   ·rcases hex with⟨e1,e2⟩ | ⟨v,e1,e2,e3⟩
    ·refine .inl ⟨e1,fun v hv hb=>?_⟩
     by_cases e:v=k
     ·subst e;exact hnb hb
     ·exact e2 v (by omega) hb
    ·exact .inr ⟨v,by omega,e2,e3⟩
  ·simp only[PP,P1,P2,P3,P4,P5,P6,P7,P8,P9,P10,P11,P12,P13,P14,L1,P15,N1,N2,N3,N4,N5,N6,N7,I1,I2,I3,I4,I5,I6,I7,reduceIte,reduceCtorEq,g2,k0,kp,hwk]
   refine q8 (ih (k+1) (max top q) ⟨by omega,fun v hv hb=>?_,?_⟩ (by omega)) (by simp only[PW])
   ·by_cases e:v=k
    ·subst e;rw[eq];omega
    ·have:=htop v (by omega) hb;omega
   ·rcases Int.le_total top q with hq | hq
    ·exact .inr ⟨k,by omega,(q65 g1).2 rfl,by rw[eq];omega⟩
    ·rcases hex with⟨e1,e2⟩ | ⟨v,e1,e2,e3⟩
     ·omega
     ·exact .inr ⟨v,by omega,e2,by rw[e3];omega⟩
 have hkn:k=ow.length:=by omega
 subst hkn
 simp only[PP,P1,P2,P3,P4,P5,P6,P7,P8,P9,P10,P11,P12,P13,P14,L1,P15,N1,N2,N3,N4,N5,N6,N7,I1,I2,I3,I4,I5,I6,I7,reduceIte,reduceCtorEq,c]
 refine QIf.intro (fun c2=>?_) (fun c2=>?_)
 ·simp only[PP,P1,P2,P3,P4,P5,P6,P7,P8,P9,P10,P11,P12,P13,P14,L1,P15,N1,N2,N3,N4,N5,N6,N7,I1,I2,I3,I4,I5,I6,I7,reduceIte,reduceCtorEq,c2]
  have hno:∀v,¬bm inL v:=fun v hb=>by
   have hv:=bm_lt hb
   rw[hi]at hv
   rcases hex with⟨_,e⟩ | ⟨w,e1,e2,e3⟩
   ·exact e v hv hb
   ·have:=(V.row w (by omega)).1
    have e3:pr.getD w 0=top:=e3
    omega
  have hnr:∀v,¬bm (List.replicate ow.length false) v:=fun v h=>by
   unfold bm at h
   rw[List.getElem?_replicate]at h
   split at h<;>simp at h
  have hsol:∀p:Int,SolIn (zO ow) (Sf su) (zP pr) (bm inL) p (bm (List.replicate ow.length false)) (stN st0):=fun p=>
   ⟨fun v h=>absurd h (hnr v),fun v h=>absurd h (hnr v),fun v h=>absurd h (hnr v),fun cc kk _ _ h=>absurd (h 0) (hnr _)⟩
  refine⟨.agg [slB false true (List.replicate ow.length false),slB false true (List.replicate ow.length false)],_,pfrz_agg2 (pfrz1_refB (by omega) (by simp;rfl) (by simp)) (pfrz1_refB (by omega) (by simp;rfl) (by simp)),pfrzM_all (by simp only[PP,P1,P2,P3,P4,P5,P6,P7,P8,P9,P10,P11,P12,P13,P14,L1,P15,N1,N2,N3,N4,N5,N6,N7,I1,I2,I3,I4,I5,I6,I7,reduceIte,reduceCtorEq,q20,h0,h1,q16]),hk ver0 st0 _ _ ⟨by simp,by simp,hs,hs0,fun v=>⟨fun h=>absurd h (hno v),fun h=>absurd (h.elim id id) (hnr v)⟩,fun v h=>absurd h (hnr v),hsol 0,hsol 1,fun _ _=>rfl⟩⟩
 have t0:0≤top:=by omega
 have h2:(2:Int)≠0:=by omega
 simp only[PP,P1,P2,P3,P4,P5,P6,P7,P8,P9,P10,P11,P12,P13,P14,L1,P15,N1,N2,N3,N4,N5,N6,N7,I1,I2,I3,I4,I5,I6,I7,reduceIte,reduceCtorEq,c2,prem h2,par8 t0,hi,b0,b1,b2,Int.le_refl]
 refine SemW_gh ?_
 refine loop3 (fun(k ver:Nat) (w:List Bool)=>k≤ow.length∧w.length=ow.length∧∀v,v<k→(w[v]? =some true↔bm inL v∧zP pr v=top))
  (fun k ver w=>[.ptr 3 0 0,Zj,Zj,.ptr 4 0 0,.ptr 5 0 0,p64 top,Zj,p8 (top % 2),.ref 8 0 1 0 ow.length,Zj,Zj,Zj,Zj,Zj,Zj,Zj,Zj,Zj,Zj,Zj,Zj,Zj,Zj,Zj,Zj,Zj,Zj,Zj,Zj,Zj,Zj,Zj,Zj,Zj,Zj,Zj,Zj,Zj,Zj,Zj,Zj,Zj,Zj,Zj,Zj,Zj,Zj,Zj,Zj,Zj,Zj,Zj,p64 ow.length,p64 k,Zj,Zj,Zj,Zj,Zj,Zj,Zj,Zj,Zj,Zj,Zj,Zj,Zj,Zj,Zj,Zj,Zj,Zj,Zj,Zj,Zj,Zj,Zj,Zj,Zj,Zj,Zj,Zj,Zj,Zj,Zj,Zj,Zj,Zj,Zj,Zj,Zj,Zj,Zj,Zj,Zj,Zj,Zj,Zj,Zj,Zj,Zj,Zj,Zj,Zj,Zj,Zj,Zj,Zj,Zj,Zj,Zj,Zj,Zj,Zj,Zj,Zj,Zj,Zj,Zj,Zj,Zj,Zj,Zj,Zj,Zj,Zj,Zj,Zj,Zj,Zj,Zj,Zj,Zj,Zj,Zj,Zj,Zj,Zj,Zj,Zj,Zj,Zj,Zj,Zj,Zj,Zj,Zj,Zj,Zj,Zj,Zj,Zj,Zj,Zj,Zj,Zj,Zj,Zj,Zj,Zj,Zj,Zj,Zj,Zj,Zj,Zj,Zj,Zj,Zj,Zj,Zj,Zj,Zj,Zj,Zj,Zj,Zj,Zj,Zj,Zj,Zj,Zj])
  (fun k ver w=>[o0,o1,.cells 0 ver0 (st0.map (PV.int .i64)),.cells 0 0 (zSol f1 p1 f2 p2 f3 p3 f4 p4 ow pr su),.cells 0 0 [slB false true inL],.cells 0 1 [.ref 6 0 1 0 ow.length,.ref 7 0 1 0 ow.length],.cells 0 0 (List.replicate ow.length (.bool false)),.cells 0 0 (List.replicate ow.length (.bool false)),.cells 0 ver (w.map PV.bool)])
  (fun k _ _=>ow.length-k) 0 0 (List.replicate ow.length false) ⟨by omega,by simp,by intro v h;omega⟩ (by simp only[PW]) (by simp only[List.map_replicate]) ?_
 intro k ver w ⟨hle,hw,hget⟩ ih2
 refine q15 (by kernel_rfl) ?_
 simp only[PP,P1,P2,P3,P4,P5,P6,P7,P8,P9,P10,P11,P12,P13,P14,L1,P15,N1,N2,N3,N4,N5,N6,N7,I1,I2,I3,I4,I5,I6,I7,reduceIte,reduceCtorEq]
 refine QIf.intro (fun d=>?_) (fun d=>?_)
 ·have hk':k<ow.length:=by omega
  have k0:(0:Int)≤k:=by omega
  have kp:(k:Int)<pr.length:=by omega
  have hwk:=q12 (k:=k) (by show _<1000000000000;omega)
  obtain⟨x,g1⟩:=q9 (xs:=inL) (k:=k) (by omega)
  obtain⟨q,g2⟩:=q9 (xs:=pr) (k:=k) (by omega)
  have eq:zP pr k=q:=getD_some g2
  have k1:k+1≤ow.length:=hk'
  have up:∀z:Bool,(z=true↔bm inL k∧zP pr k=top)→k+1≤ow.length∧(w.set k z).length=ow.length∧∀v,v<k+1→((w.set k z)[v]? =some true↔bm inL v∧zP pr v=top):=fun z hz=>by
   refine⟨by omega,by simp[hw],fun v hv=>?_⟩
   by_cases e:v=k
   ·subst e;rw[List.getElem?_set_self (by omega),←hz];simp
   ·rw[List.getElem?_set_ne (by omega)];exact hget v (by omega)
  cases x
  ·have hnb:¬bm inL k:=fun h=>by rw[q65 g1]at h;cases h
   simp only[PP,P1,P2,P3,P4,P5,P6,P7,P8,P9,P10,P11,P12,P13,P14,L1,P15,N1,N2,N3,N4,N5,N6,N7,I1,I2,I3,I4,I5,I6,I7,reduceIte,reduceCtorEq,d,k0,g1,hi,hw,k1,hwk]
   exact q19 (ih2 (k+1) (ver+1) (w.set k false) (up false ⟨fun h=>(by cases h),fun h=>absurd h.1 hnb⟩) (by omega)) (by simp only[PW]) (by simp only[←List.map_set])
  ·simp only[PP,P1,P2,P3,P4,P5,P6,P7,P8,P9,P10,P11,P12,P13,P14,L1,P15,N1,N2,N3,N4,N5,N6,N7,I1,I2,I3,I4,I5,I6,I7,reduceIte,reduceCtorEq,d,k0,g1,g2,kp,hi,hw,k1,hwk]
   exact q19 (ih2 (k+1) (ver+1) (w.set k (decide (q=top))) (up _ ⟨fun h=>⟨(q65 g1).2 rfl,by rw[eq];exact of_decide_eq_true h⟩,fun h=>decide_eq_true (by rw[←eq];exact h.2)⟩) (by omega)) (by simp only[PW]) (by simp only[←List.map_set])
 have hkn:k=ow.length:=by omega
 subst hkn
 simp only[PP,P1,P2,P3,P4,P5,P6,P7,P8,P9,P10,P11,P12,P13,P14,L1,P15,N1,N2,N3,N4,N5,N6,N7,I1,I2,I3,I4,I5,I6,I7,reduceIte,reduceCtorEq,d]
 refine Gh.step (GStep.freeze (b:=[.ptr 3 0 0,Zj,Zj,.ptr 4 0 0,.ptr 5 0 0,p64 top,Zj,p8 (top % 2),slB false true w,Zj,Zj,Zj,Zj,Zj,Zj,Zj,Zj,Zj,Zj,Zj,Zj,Zj,Zj,Zj,Zj,Zj,Zj,Zj,Zj,Zj,Zj,Zj,Zj,Zj,Zj,Zj,Zj,Zj,Zj,Zj,Zj,Zj,Zj,Zj,Zj,Zj,Zj,Zj,Zj,Zj,Zj,Zj,Zj,Zj,Zj,Zj,Zj,Zj,Zj,Zj,Zj,Zj,Zj,Zj,Zj,Zj,Zj,Zj,Zj,Zj,Zj,Zj,Zj,Zj,Zj,Zj,Zj,Zj,Zj,Zj,Zj,Zj,Zj,Zj,Zj,Zj,Zj,Zj,Zj,Zj,Zj,Zj,Zj,Zj,Zj,Zj,Zj,Zj,Zj,Zj,Zj,Zj,Zj,Zj,Zj,Zj,Zj,Zj,Zj,Zj,Zj,Zj,Zj,Zj,Zj,Zj,Zj,Zj,Zj,Zj,Zj,Zj,Zj,Zj,Zj,Zj,Zj,Zj,Zj,Zj,Zj,Zj,Zj,Zj,Zj,Zj,Zj,Zj,Zj,Zj,Zj,Zj,Zj,Zj,Zj,Zj,Zj,Zj,Zj,Zj,Zj,Zj,Zj,Zj,Zj,Zj,Zj,Zj,Zj,Zj,Zj,Zj,Zj,Zj,Zj,Zj,Zj,Zj,Zj,Zj,Zj,Zj,Zj,Zj,Zj,Zj,Zj,Zj,Zj,Zj,Zj,Zj]) 8 (by omega) rfl (by
  simp only[PFrz_junk,PFrz_same]
  rw[PFrz_ref (by rw[List.length_map,hw];omega) (by rw[Nat.mul_one,q49 _ _ (by simp[hw])];unfold slB;rw[hw])]
  simp only[PFrz_nil,PFrz_junk,PFrz_same]) rfl) (Gh.same ?_)
 have htg:∀v,bm w v↔bm inL v∧zP pr v=top:=fun v=>by
  constructor
  ·intro h
   have:=bm_lt h
   exact(hget v (by omega)).1 h
  ·intro h
   have:=bm_lt h.1
   exact(hget v (by omega)).2 h
 have hwt:∀v,bm w v→bm inL v:=fun v h=>((htg v).1 h).1
 obtain⟨vt,vt1,vt2,vt3⟩:∃v,v<ow.length∧bm inL v∧zP pr v=top:=hex.resolve_left (by omega)
 have hO:∀v,bm inL v→zO ow v=0∨zO ow v=1:=fun v hv=>by
  have h1:=bm_lt hv
  rw[hi]at h1
  have h2:=(V.row v (by omega)).2.2.1
  have h3:0≤ow.getD v 0:=by rw[List.getD,List.getElem?_eq_getElem h1];exact ho _ (List.getElem_mem h1)
  show ow.getD v 0=0∨ow.getD v 0=1
  omega
 have hmx:∀v,bm inL v→zP pr v≤top:=fun v hv=>htop v (by have:=bm_lt hv;omega) hv
 have hw1:IntKind.u8.wrap 1=1:=rfl
 have hw0:IntKind.u8.wrap 0=0:=rfl
 rcases(show top % 2=0∨top % 2=1 by omega) with hp2 | hp2
 ·simp only[PP,P1,P2,P3,P4,P5,P6,P7,P8,P9,P10,P11,P12,P13,P14,L1,P15,N1,N2,N3,N4,N5,N6,N7,I1,I2,I3,I4,I5,I6,I7,reduceIte,reduceCtorEq,hp2]
  refine SemC_prefix (m:=4) (by simp) (by simp only[PP,P1,P2,P3,P4,P5,P6,P7,P8,P9,P10,P11,P12,P13,P14,L1,P15,N1,N2,N3,N4,N5,N6,N7,I1,I2,I3,I4,I5,I6,I7,reduceIte,reduceCtorEq,slB]) (by simp only[PP,P1,P2,P3,P4,P5,P6,P7,P8,P9,P10,P11,P12,P13,P14,L1,P15,N1,N2,N3,N4,N5,N6,N7,I1,I2,I3,I4,I5,I6,I7,reduceIte,reduceCtorEq,q20,h0,h1,q16]) ?_
  refine attract_z T V B h0 h1 hi hw hs hs0 hwt ?_
  intro ver1 A st1 r1 lA ls1 nn1 att
  refine⟨under_slB _ _ _ _ _ _,rfl,by simp only[PP,P1,P2,P3,P4,P5,P6,P7,P8,P9,P10,P11,P12,P13,P14,L1,P15,N1,N2,N3,N4,N5,N6,N7,I1,I2,I3,I4,I5,I6,I7,reduceIte,reduceCtorEq,q20,h0,h1,q16],?_⟩
  simp only[PP,P1,P2,P3,P4,P5,P6,P7,P8,P9,P10,P11,P12,P13,P14,L1,P15,N1,N2,N3,N4,N5,N6,N7,I1,I2,I3,I4,I5,I6,I7,reduceIte,reduceCtorEq]
  refine⟨by split<;>rfl,?_⟩
  refine minus_z T hi lA (by omega) ?_
  simp only[PP,P1,P2,P3,P4,P5,P6,P7,P8,P9,P10,P11,P12,P13,P14,L1,P15,N1,N2,N3,N4,N5,N6,N7,I1,I2,I3,I4,I5,I6,I7,reduceIte,reduceCtorEq]
  refine SemC_prefix (m:=4) (by simp) (by simp only[PP,P1,P2,P3,P4,P5,P6,P7,P8,P9,P10,P11,P12,P13,P14,L1,P15,N1,N2,N3,N4,N5,N6,N7,I1,I2,I3,I4,I5,I6,I7,reduceIte,reduceCtorEq,slB]) (by simp only[PP,P1,P2,P3,P4,P5,P6,P7,P8,P9,P10,P11,P12,P13,P14,L1,P15,N1,N2,N3,N4,N5,N6,N7,I1,I2,I3,I4,I5,I6,I7,reduceIte,reduceCtorEq,q20,h0,h1,q16]) ?_
  have vtA:=att.tgt vt ((htg vt).2 ⟨vt2,vt3⟩)
  have hcm:=count_minus hi vt2 vtA
  have mA:∀v,bm (q57 inL A ow.length) v↔bm inL v∧¬bm A v:=fun v=>bm_minus hi
  refine IH (q57 inL A ow.length) st1 ver1 _ (by omega) (minusL_len _ _ _) ls1 nn1 (fun v hv=>?_) ?_
  ·obtain⟨u,q1,q2⟩:=att.tot htot v ((mA v).1 hv)
   exact⟨u,q1,(mA u).2 q2⟩
  intro ver2 st2 wa wb Z2
  refine⟨by simp only[PP,P1,P2,P3,P4,P5,P6,P7,P8,P9,P10,P11,P12,P13,P14,L1,P15,N1,N2,N3,N4,N5,N6,N7,I1,I2,I3,I4,I5,I6,I7,reduceIte,reduceCtorEq,slB],rfl,by simp only[PP,P1,P2,P3,P4,P5,P6,P7,P8,P9,P10,P11,P12,P13,P14,L1,P15,N1,N2,N3,N4,N5,N6,N7,I1,I2,I3,I4,I5,I6,I7,reduceIte,reduceCtorEq,q20,h0,h1,q16],?_⟩
  simp only[PP,P1,P2,P3,P4,P5,P6,P7,P8,P9,P10,P11,P12,P13,P14,L1,P15,N1,N2,N3,N4,N5,N6,N7,I1,I2,I3,I4,I5,I6,I7,reduceIte,reduceCtorEq]
  refine⟨by split<;>split<;>rfl,?_⟩
  simp only[PP,P1,P2,P3,P4,P5,P6,P7,P8,P9,P10,P11,P12,P13,P14,L1,P15,N1,N2,N3,N4,N5,N6,N7,I1,I2,I3,I4,I5,I6,I7,reduceIte,reduceCtorEq,hw1]
  have lq:wb.length<big:=by show _<1000000000000;have:=Z2.l1;omega
  refine empty_p T lq ?_
  by_cases hemp:true∈wb
  ·simp only[PP,P1,P2,P3,P4,P5,P6,P7,P8,P9,P10,P11,P12,P13,P14,L1,P15,N1,N2,N3,N4,N5,N6,N7,I1,I2,I3,I4,I5,I6,I7,reduceIte,reduceCtorEq,hemp]
   simp only[PP,P1,P2,P3,P4,P5,P6,P7,P8,P9,P10,P11,P12,P13,P14,L1,P15,N1,N2,N3,N4,N5,N6,N7,I1,I2,I3,I4,I5,I6,I7,reduceIte,reduceCtorEq,hw1]
   obtain⟨ve,hve⟩:=mem_bm.1 hemp
   have eA:(bm (q57 inL A ow.length))=fun v=>bm inL v∧¬bm A v:=funext fun v=>propext (mA v)
   have sub:=Z2.p1
   rw[eA]at sub
   have hWi:∀v,bm wb v→bm inL v:=fun v h=>((sub.sub v h).1)
   refine SemC_prefix (m:=4) (by simp) (by simp only[PP,P1,P2,P3,P4,P5,P6,P7,P8,P9,P10,P11,P12,P13,P14,L1,P15,N1,N2,N3,N4,N5,N6,N7,I1,I2,I3,I4,I5,I6,I7,reduceIte,reduceCtorEq,slB]) (by simp only[PP,P1,P2,P3,P4,P5,P6,P7,P8,P9,P10,P11,P12,P13,P14,L1,P15,N1,N2,N3,N4,N5,N6,N7,I1,I2,I3,I4,I5,I6,I7,reduceIte,reduceCtorEq,q20,h0,h1,q16]) ?_
   refine attract_z T V B h0 h1 hi Z2.l1 Z2.ls Z2.nn hWi ?_
   intro ver3 L st3 r3 lL ls3 nn3 att3
   refine⟨under_slB _ _ _ _ _ _,rfl,by simp only[PP,P1,P2,P3,P4,P5,P6,P7,P8,P9,P10,P11,P12,P13,P14,L1,P15,N1,N2,N3,N4,N5,N6,N7,I1,I2,I3,I4,I5,I6,I7,reduceIte,reduceCtorEq,q20,h0,h1,q16],?_⟩
   simp only[PP,P1,P2,P3,P4,P5,P6,P7,P8,P9,P10,P11,P12,P13,P14,L1,P15,N1,N2,N3,N4,N5,N6,N7,I1,I2,I3,I4,I5,I6,I7,reduceIte,reduceCtorEq]
   refine minus_z T hi lL (by omega) ?_
   simp only[PP,P1,P2,P3,P4,P5,P6,P7,P8,P9,P10,P11,P12,P13,P14,L1,P15,N1,N2,N3,N4,N5,N6,N7,I1,I2,I3,I4,I5,I6,I7,reduceIte,reduceCtorEq]
   refine SemC_prefix (m:=4) (by simp) (by simp only[PP,P1,P2,P3,P4,P5,P6,P7,P8,P9,P10,P11,P12,P13,P14,L1,P15,N1,N2,N3,N4,N5,N6,N7,I1,I2,I3,I4,I5,I6,I7,reduceIte,reduceCtorEq,slB]) (by simp only[PP,P1,P2,P3,P4,P5,P6,P7,P8,P9,P10,P11,P12,P13,P14,L1,P15,N1,N2,N3,N4,N5,N6,N7,I1,I2,I3,I4,I5,I6,I7,reduceIte,reduceCtorEq,q20,h0,h1,q16]) ?_
   have hcm2:=count_minus hi (hWi ve hve) (att3.tgt ve hve)
   have mL:∀v,bm (q57 inL L ow.length) v↔bm inL v∧¬bm L v:=fun v=>bm_minus hi
   refine IH (q57 inL L ow.length) st3 ver3 _ (by omega) (minusL_len _ _ _) ls3 nn3 (fun v hv=>?_) ?_
   ·obtain⟨u,q1,q2⟩:=att3.tot htot v ((mL v).1 hv)
    exact⟨u,q1,(mL u).2 q2⟩
   intro ver4 st4 xa xb Z4
   refine⟨by simp only[PP,P1,P2,P3,P4,P5,P6,P7,P8,P9,P10,P11,P12,P13,P14,L1,P15,N1,N2,N3,N4,N5,N6,N7,I1,I2,I3,I4,I5,I6,I7,reduceIte,reduceCtorEq,slB],rfl,by simp only[PP,P1,P2,P3,P4,P5,P6,P7,P8,P9,P10,P11,P12,P13,P14,L1,P15,N1,N2,N3,N4,N5,N6,N7,I1,I2,I3,I4,I5,I6,I7,reduceIte,reduceCtorEq,q20,h0,h1,q16],?_⟩
   have nz:¬ow.length=0:=by omega
   have b3:ow.length≤140737488355328:=by omega
   have b4:ow.length≤9223372036854775807:=by omega
   have lxq:xb.length=ow.length:=Z4.l1
   simp only[PP,P1,P2,P3,P4,P5,P6,P7,P8,P9,P10,P11,P12,P13,P14,L1,P15,N1,N2,N3,N4,N5,N6,N7,I1,I2,I3,I4,I5,I6,I7,reduceIte,reduceCtorEq,hw1]
   refine q34 T.h43 ?_
   simp only[af43,PP,P1,P2,P3,P4,P5,P6,P7,P8,P9,P10,P11,P12,P13,P14,L1,P15,N1,N2,N3,N4,N5,N6,N7,I1,I2,I3,I4,I5,I6,I7,reduceIte,reduceCtorEq,lxq,nz,b3,b4,hw1,lL]
   have eL:(bm (q57 inL L ow.length))=fun v=>bm inL v∧¬bm L v:=funext fun v=>propext (mL v)
   have subp:=Z4.p0
   have subq:=Z4.p1
   rw[eL]at subp subq
   obtain⟨z1,z2⟩:=zk_two (D:=bm inL) (p:=0) (q:=1) (by omega) hO att sub att3 subp subq (fun v h=>Z4.same v fun q=>h ((mL v).1 q))
   refine loop3 (fun(k ver:Nat) (x:List Bool)=>k≤ow.length∧x.length=ow.length∧∀v,bm x v↔bm xb v∨(v<k∧bm L v))
    (fun k ver x=>[Zj,Zj,Zj,Zj,.ptr 5 0 0,Zj,Zj,p8 0,Zj,Zj,Zj,Zj,Zj,slB false true L,Zj,Zj,Zj,Zj,Zj,Zj,Zj,Zj,Zj,Zj,Zj,Zj,Zj,Zj,Zj,Zj,Zj,Zj,Zj,Zj,Zj,Zj,Zj,Zj,Zj,Zj,Zj,Zj,Zj,Zj,Zj,Zj,Zj,Zj,Zj,Zj,Zj,Zj,Zj,Zj,Zj,Zj,Zj,Zj,Zj,Zj,Zj,Zj,Zj,Zj,Zj,Zj,Zj,Zj,Zj,Zj,Zj,Zj,Zj,Zj,Zj,Zj,Zj,Zj,Zj,Zj,Zj,Zj,Zj,Zj,Zj,Zj,Zj,Zj,Zj,Zj,Zj,Zj,Zj,Zj,Zj,Zj,Zj,Zj,Zj,Zj,Zj,Zj,Zj,Zj,Zj,Zj,Zj,Zj,Zj,Zj,Zj,Zj,Zj,Zj,Zj,Zj,Zj,Zj,Zj,Zj,Zj,Zj,Zj,Zj,Zj,Zj,Zj,Zj,Zj,Zj,Zj,Zj,Zj,Zj,Zj,Zj,Zj,Zj,Zj,Zj,Zj,Zj,Zj,Zj,Zj,Zj,Zj,Zj,Zj,Zj,Zj,Zj,Zj,Zj,Zj,Zj,Zj,p64 ow.length,p64 k,Zj,Zj,Zj,Zj,Zj,Zj,Zj,Zj,Zj,Zj,Zj,Zj,Zj,Zj,Zj,Zj,Zj,Zj,Zj,Zj,Zj,Zj,Zj])
    (fun k ver x=>[o0,o1,.cells 0 ver4 (st4.map (PV.int .i64)),.cells 0 0 (zSol f1 p1 f2 p2 f3 p3 f4 p4 ow pr su),.cells 0 0 [slB false true inL],.cells 0 3 [slB false true xa,.ref 10 0 1 0 ow.length],.cells 0 0 (List.replicate ow.length (.bool false)),.cells 0 0 (List.replicate ow.length (.bool false)),.gone,.cells 0 1 [slB false true wa,slB false true wb],.cells 0 ver (x.map PV.bool)])
    (fun k _ _=>ow.length-k) 0 0 xb ⟨by omega,lxq,fun v=>⟨.inl,fun h=>h.elim id fun q=>by omega⟩⟩ (by simp only[PW]) (by simp only[PP,P1,P2,P3,P4,P5,P6,P7,P8,P9,P10,P11,P12,P13,P14,L1,P15,N1,N2,N3,N4,N5,N6,N7,I1,I2,I3,I4,I5,I6,I7,reduceIte,reduceCtorEq]) ?_
   intro k ver x ⟨hle,lx,hx⟩ ih3
   refine q15 (by kernel_rfl) ?_
   simp only[PP,P1,P2,P3,P4,P5,P6,P7,P8,P9,P10,P11,P12,P13,P14,L1,P15,N1,N2,N3,N4,N5,N6,N7,I1,I2,I3,I4,I5,I6,I7,reduceIte,reduceCtorEq]
   refine QIf.intro (fun e=>?_) (fun e=>?_)
   ·have hk':k<ow.length:=by omega
    have k0:(0:Int)≤k:=by omega
    have kn:(k:Int)<ow.length:=by omega
    have k1:k+1≤ow.length:=hk'
    have hwk:=q12 (k:=k) (by show _<1000000000000;omega)
    obtain⟨y,g1⟩:=q9 (xs:=x) (k:=k) (by omega)
    obtain⟨z,g2⟩:=q9 (xs:=L) (k:=k) (by omega)
    have up:∀b:Bool,(b=true↔bm x k∨bm L k)→k+1≤ow.length∧(x.set k b).length=ow.length∧∀v,bm (x.set k b) v↔bm xb v∨(v<k+1∧bm L v):=fun b hb=>by
     refine⟨by omega,by simp[lx],fun v=>?_⟩
     by_cases e:v=k
     ·subst e
      have:bm (x.set v b) v↔b=true:=by unfold bm;rw[List.getElem?_set_self (by omega)];simp
      rw[this,hb,hx v]
      constructor
      ·rintro(h | h)
       ·exact h.imp id fun q=>⟨by omega,q.2⟩
       ·exact .inr ⟨by omega,h⟩
      ·rintro(h | h)
       ·exact .inl (.inl h)
       ·exact .inr h.2
     ·have:bm (x.set k b) v↔bm x v:=by unfold bm;rw[List.getElem?_set_ne (by omega)]
      rw[this,hx v]
      exact⟨fun h=>h.imp id fun q=>⟨by omega,q.2⟩,fun h=>h.imp id fun q=>⟨by omega,q.2⟩⟩
    cases y
    ·have hy:¬bm x k:=fun h=>by rw[q65 g1]at h;cases h
     simp only[PP,P1,P2,P3,P4,P5,P6,P7,P8,P9,P10,P11,P12,P13,P14,L1,P15,N1,N2,N3,N4,N5,N6,N7,I1,I2,I3,I4,I5,I6,I7,reduceIte,reduceCtorEq,e,hw1,k0,kn,g1,g2,lx,lL,k1,hwk]
     exact q19 (ih3 (k+1) (ver+1) (x.set k z) (up z ⟨fun h=> .inr ((q65 g2).2 h),fun h=>h.elim (fun q=>absurd q hy) (q65 g2).1⟩) (by omega)) (by simp only[PW]) (by simp only[←List.map_set])
    ·simp only[PP,P1,P2,P3,P4,P5,P6,P7,P8,P9,P10,P11,P12,P13,P14,L1,P15,N1,N2,N3,N4,N5,N6,N7,I1,I2,I3,I4,I5,I6,I7,reduceIte,reduceCtorEq,e,hw1,k0,kn,g1,lx,k1,hwk]
     exact q19 (ih3 (k+1) (ver+1) (x.set k true) (up true ⟨fun _=> .inl ((q65 g1).2 rfl),fun _=>rfl⟩) (by omega)) (by simp only[PW]) (by simp only[←List.map_set])
   ·have hkn:k=ow.length:=by omega
    subst hkn
    have hx:∀v,bm x v↔bm xb v∨bm L v:=fun v=>(hx v).trans ⟨fun h=>h.imp id And.right,fun h=>h.imp id fun q=>⟨by have:=bm_lt q;omega,q⟩⟩
    simp only[PP,P1,P2,P3,P4,P5,P6,P7,P8,P9,P10,P11,P12,P13,P14,L1,P15,N1,N2,N3,N4,N5,N6,N7,I1,I2,I3,I4,I5,I6,I7,reduceIte,reduceCtorEq,e]
    have z2':SolIn (zO ow) (Sf su) (zP pr) (bm inL) 1 (bm x) (stN st4):=by
     have e2:bm x=fun v=>bm xb v∨bm L v:=funext fun v=>propext (hx v)
     rw[e2];exact z2
    have hsm:∀v,¬bm inL v→stN st4 v=stN st0 v:=fun v h=>by
     have q1:¬bm L v:=fun q=>h (att3.sub v q)
     rw[Z4.same v (fun q=>h ((mL v).1 q).1),att3.same v (.inl q1),Z2.same v (fun q=>h ((mA v).1 q).1),att.same v (.inl fun q=>h (att.sub v q))]
    refine⟨.agg [slB false true xa,slB false true x],_,pfrz_agg2 (pfrz1_slB _ _ _ _ _) (pfrz1_refB (by omega) rfl lx),pfrzM_all (by simp only[PP,P1,P2,P3,P4,P5,P6,P7,P8,P9,P10,P11,P12,P13,P14,L1,P15,N1,N2,N3,N4,N5,N6,N7,I1,I2,I3,I4,I5,I6,I7,reduceIte,reduceCtorEq,q20,h0,h1,q16]),hk ver4 st4 _ _ ⟨Z4.l0,lx,Z4.ls,Z4.nn,fun v=>⟨fun h=>?_,fun h=>h.elim (fun q=>((mL v).1 ((Z4.all v).2 (.inl q))).1) fun q=>((hx v).1 q).elim (fun q=>((mL v).1 ((Z4.all v).2 (.inr q))).1) (att3.sub v)⟩,fun v q1 q2=>((hx v).1 q2).elim (Z4.dis v q1) fun q=>((mL v).1 ((Z4.all v).2 (.inl q1))).2 q,z1,z2',hsm⟩⟩
    by_cases hl:bm L v
    ·exact .inr ((hx v).2 (.inr hl))
    ·exact(Z4.all v).1 ((mL v).2 ⟨h,hl⟩) |>.elim .inl fun q=> .inr ((hx v).2 (.inl q))
  ·simp only[PP,P1,P2,P3,P4,P5,P6,P7,P8,P9,P10,P11,P12,P13,P14,L1,P15,N1,N2,N3,N4,N5,N6,N7,I1,I2,I3,I4,I5,I6,I7,reduceIte,reduceCtorEq,hemp]
   have eA:(bm (q57 inL A ow.length))=fun v=>bm inL v∧¬bm A v:=funext fun v=>propext (mA v)
   have eW:bm wa=fun v=>bm inL v∧¬bm A v:=funext fun v=>propext (by
    rw[←mA v,Z2.all v]
    exact⟨.inl,fun h=>h.resolve_right (not_mem_bm hemp v)⟩)
   have sub:=Z2.p0
   rw[eA,eW]at sub
   have hsame2:∀v,¬(bm inL v∧¬bm A v)→stN st2 v=stN st1 v:=fun v h=>Z2.same v (fun q=>h ((mA v).1 q))
   refine loop3 (fun(k ver:Nat) (st:List Int)=>k≤ow.length∧st.length=ow.length∧(∀x∈st,0≤x)∧(∀v,v<k→bm w v→zO ow v=0→stN st v∈Sf su v∧bm inL (stN st v))∧∀v,¬(v<k∧bm w v∧zO ow v=0)→stN st v=stN st2 v)
    (fun k ver st=>[.ptr 3 0 0,Zj,Zj,.ptr 4 0 0,.ptr 5 0 0,Zj,Zj,p8 0,slB false true w,Zj,Zj,Zj,Zj,Zj,Zj,Zj,Zj,Zj,Zj,Zj,Zj,Zj,Zj,Zj,Zj,Zj,Zj,Zj,Zj,Zj,Zj,Zj,Zj,Zj,Zj,Zj,Zj,Zj,Zj,Zj,Zj,Zj,Zj,Zj,Zj,Zj,Zj,Zj,Zj,Zj,Zj,Zj,Zj,Zj,Zj,Zj,Zj,Zj,Zj,Zj,Zj,Zj,Zj,Zj,Zj,Zj,Zj,Zj,Zj,Zj,Zj,Zj,Zj,Zj,Zj,Zj,Zj,Zj,Zj,Zj,Zj,Zj,Zj,Zj,Zj,Zj,Zj,Zj,Zj,Zj,Zj,Zj,Zj,Zj,slR f3 p3 f4 p4 .i64 su,p64 su.length,p64 k,Zj,Zj,Zj,Zj,Zj,Zj,Zj,Zj,Zj,Zj,Zj,Zj,Zj,Zj,Zj,Zj,Zj,Zj,Zj,Zj,Zj,Zj,Zj,Zj,Zj,Zj,Zj,Zj,Zj,Zj,Zj,Zj,Zj,Zj,Zj,Zj,Zj,Zj,Zj,Zj,Zj,Zj,Zj,Zj,Zj,Zj,Zj,Zj,Zj,Zj,Zj,Zj,Zj,Zj,Zj,Zj,Zj,Zj,Zj,Zj,Zj,Zj,Zj,Zj,Zj,Zj,Zj,Zj,Zj,Zj,Zj,Zj,Zj,Zj,Zj,Zj,Zj,Zj,Zj,Zj,Zj,Zj,Zj,Zj,Zj])
    (fun k ver st=>[o0,o1,.cells 0 ver (st.map (PV.int .i64)),.cells 0 0 (zSol f1 p1 f2 p2 f3 p3 f4 p4 ow pr su),.cells 0 0 [slB false true inL],.cells 0 1 [.ref 6 0 1 0 ow.length,.ref 7 0 1 0 ow.length],.cells 0 0 (List.replicate ow.length (.bool false)),.cells 0 0 (List.replicate ow.length (.bool false)),.gone,.cells 0 1 [slB false true wa,slB false true wb]])
    (fun k _ _=>ow.length-k) 0 ver2 st2 ⟨by omega,Z2.ls,Z2.nn,fun v h=>by omega,fun _ _=>rfl⟩ (by simp only[PW]) rfl ?_
   intro k ver st ⟨hle,ls,nn,hst,hoth⟩ ih3
   refine q15 (by kernel_rfl) ?_
   simp only[PP,P1,P2,P3,P4,P5,P6,P7,P8,P9,P10,P11,P12,P13,P14,L1,P15,N1,N2,N3,N4,N5,N6,N7,I1,I2,I3,I4,I5,I6,I7,reduceIte,reduceCtorEq]
   refine QIf.intro (fun e=>?_) (fun e=>?_)
   ·have hk':k<ow.length:=by omega
    have k0:(0:Int)≤k:=by omega
    have kn:(k:Int)<ow.length:=by omega
    have hwk:=q12 (k:=k) (by show _<1000000000000;omega)
    obtain⟨x,g1⟩:=q9 (xs:=w) (k:=k) (by omega)
    obtain⟨o,g2⟩:=q9 (xs:=ow) (k:=k) hk'
    obtain⟨row,g3⟩:=q9 (xs:=su) (k:=k) (by omega)
    have eo:zO ow k=o:=getD_some g2
    have e1:su.getD k []=row:=by simp[List.getD,g3]
    have keep:¬(bm w k∧zO ow k=0)→k+1≤ow.length∧st.length=ow.length∧(∀x∈st,0≤x)∧(∀v,v<k+1→bm w v→zO ow v=0→stN st v∈Sf su v∧bm inL (stN st v))∧∀v,¬(v<k+1∧bm w v∧zO ow v=0)→stN st v=stN st2 v:=fun hn=>
     ⟨by omega,ls,nn,fun v hv q1 q2=>by
      by_cases e:v=k
      ·subst e;exact absurd ⟨q1,q2⟩ hn
      ·exact hst v (by omega) q1 q2,fun v hv=>hoth v fun q=>hv ⟨by omega,q.2⟩⟩
    simp only[PP,P1,P2,P3,P4,P5,P6,P7,P8,P9,P10,P11,P12,P13,P14,L1,P15,N1,N2,N3,N4,N5,N6,N7,I1,I2,I3,I4,I5,I6,I7,reduceIte,reduceCtorEq,e,k0,g3,g1,hw,kn]
    cases x
    ·have hnb:¬bm w k:=fun h=>by rw[q65 g1]at h;cases h
     simp only[PP,P1,P2,P3,P4,P5,P6,P7,P8,P9,P10,P11,P12,P13,P14,L1,P15,N1,N2,N3,N4,N5,N6,N7,I1,I2,I3,I4,I5,I6,I7,reduceIte,reduceCtorEq,hwk]
     exact q8 (ih3 (k+1) ver st (keep fun h=>hnb h.1) (by omega)) (by simp only[PW])
    simp only[PP,P1,P2,P3,P4,P5,P6,P7,P8,P9,P10,P11,P12,P13,P14,L1,P15,N1,N2,N3,N4,N5,N6,N7,I1,I2,I3,I4,I5,I6,I7,reduceIte,reduceCtorEq,k0,kn,g2]
    refine QIf.intro (fun e2=>?_) (fun e2=>?_)
    ·have hrb:row.length<big:=B.r _ (List.mem_of_getElem? g3)
     have hbk:bm w k:=(q65 g1).2 rfl
     obtain⟨u1,q1,q2⟩:=htot k (hwt k hbk)
     have q1:u1∈(su.getD k []).map Int.toNat:=q1
     rw[e1]at q1
     obtain⟨y1,q3,rfl⟩:=List.mem_map.1 q1
     have rr:∀u∈row,0≤u∧u<ow.length:=fun u hu=>q43 V hk' (by rw[e1];exact hu)
     obtain⟨i,u,r1,r2,r3⟩:=idxFrom_some (p:=fun u=>inL.getD u.toNat false) (j:=0) (row:=row) ⟨y1,q3,by rw[List.getD,q2];rfl⟩
     have il:=q10 r2
     have ur:=rr u (List.mem_of_getElem? r2)
     have bu:bm inL u.toNat:=by
      have hul:u.toNat<inL.length:=by omega
      rw[List.getD,List.getElem?_eq_getElem hul]at r3
      unfold bm;rw[List.getElem?_eq_getElem hul];simpa using r3
     simp only[PP,P1,P2,P3,P4,P5,P6,P7,P8,P9,P10,P11,P12,P13,P14,L1,P15,N1,N2,N3,N4,N5,N6,N7,I1,I2,I3,I4,I5,I6,I7,reduceIte,reduceCtorEq,e2]
     refine indexFunc_p T (fun u=>inL.getD u.toNat false) hrb (fun u hu K' hK'=>?_) ?_
     ·obtain⟨z,gz⟩:=q9 (xs:=inL) (k:=u.toNat) (by have:=rr u hu;omega)
      have ez:inL.getD u.toNat false=z:=by simp[List.getD,gz]
      refine q34 T.h42 ?_
      simp only[af42,PP,P1,P2,P3,P4,P5,P6,P7,P8,P9,P10,P11,P12,P13,P14,L1,P15,N1,N2,N3,N4,N5,N6,N7,I1,I2,I3,I4,I5,I6,I7,reduceIte,reduceCtorEq,(rr u hu).1,(rr u hu).2,gz,hi]
      rw[ez]at hK'
      exact hK'
     ·have i0:(0:Int)≤((0+i:Nat):Int):=by omega
      have i1:((0+i:Nat):Int)<row.length:=by omega
      have st3:k+1≤ow.length:=hk'
      rw[r1]
      simp only[PP,P1,P2,P3,P4,P5,P6,P7,P8,P9,P10,P11,P12,P13,P14,L1,P15,N1,N2,N3,N4,N5,N6,N7,I1,I2,I3,I4,I5,I6,I7,reduceIte,reduceCtorEq]at i0 i1 ⊢
      simp only[PP,P1,P2,P3,P4,P5,P6,P7,P8,P9,P10,P11,P12,P13,P14,L1,P15,N1,N2,N3,N4,N5,N6,N7,I1,I2,I3,I4,I5,I6,I7,reduceIte,reduceCtorEq,i0,i1,r2,k0,kn,ls,st3,hwk]
      refine q19 (ih3 (k+1) (ver+1) (st.set k u) ⟨by omega,by simp[ls],fun y hy=>?_,fun v hv b1 b2=>?_,fun v hv=>?_⟩ (by omega)) (by simp only[PW]) (by simp only[←List.map_set])
      ·rcases List.mem_or_eq_of_mem_set hy with h | h
       ·exact nn y h
       ·subst h;exact ur.1
      ·rw[stN_set (by omega)]
       by_cases e:v=k
       ·subst e;rw[if_pos rfl]
        exact⟨List.mem_map.2 ⟨u,by rw[e1];exact List.mem_of_getElem? r2,rfl⟩,bu⟩
       ·rw[if_neg e];exact hst v (by omega) b1 b2
      ·have e:v≠k:=by rintro rfl;exact hv ⟨by omega,hbk,by rw[eo];exact e2⟩
       rw[stN_set (by omega),if_neg e]
       exact hoth v fun q=>hv ⟨by omega,q.2⟩
    ·simp only[PP,P1,P2,P3,P4,P5,P6,P7,P8,P9,P10,P11,P12,P13,P14,L1,P15,N1,N2,N3,N4,N5,N6,N7,I1,I2,I3,I4,I5,I6,I7,reduceIte,reduceCtorEq,e2,hwk]
     exact q8 (ih3 (k+1) ver st (keep fun h=>e2 (by rw[←eo];exact h.2)) (by omega)) (by simp only[PW])
   ·simp only[PP,P1,P2,P3,P4,P5,P6,P7,P8,P9,P10,P11,P12,P13,P14,L1,P15,N1,N2,N3,N4,N5,N6,N7,I1,I2,I3,I4,I5,I6,I7,reduceIte,reduceCtorEq,e]
    have hz:=zk_one (D:=bm inL) (p:=0) (top:=top) att (by exact htg) hmx hp2 sub hsame2 (fun v hx ho2=>hst v (by have:=bm_lt hx;omega) hx ho2) (s3:=stN st) (fun v hx=>hoth v fun q=>hx q.2.1)
    have hnr:∀v,¬bm (List.replicate ow.length false) v:=fun v h=>by
     unfold bm at h
     rw[List.getElem?_replicate]at h
     split at h<;>simp at h
    have hemr:SolIn (zO ow) (Sf su) (zP pr) (bm inL) 1 (bm (List.replicate ow.length false)) (stN st):=
     ⟨fun v h=>absurd h (hnr v),fun v h=>absurd h (hnr v),fun v h=>absurd h (hnr v),fun cc kk _ _ h=>absurd (h 0) (hnr _)⟩
    have hsm:∀v,¬bm inL v→stN st v=stN st0 v:=fun v h=>by
     rw[hoth v (fun q=>h (hwt v q.2.1)),hsame2 v (fun q=>h q.1),att.same v (.inl fun q=>h (att.sub v q))]
    refine⟨.agg [slB false true inL,slB false true (List.replicate ow.length false)],_,pfrz_agg2 (pfrz1_slB _ _ _ _ _) (pfrz1_refB (by omega) (by simp;rfl) (by simp)),pfrzM_all (by simp only[PP,P1,P2,P3,P4,P5,P6,P7,P8,P9,P10,P11,P12,P13,P14,L1,P15,N1,N2,N3,N4,N5,N6,N7,I1,I2,I3,I4,I5,I6,I7,reduceIte,reduceCtorEq,q20,h0,h1,q16]),hk ver st _ _ ⟨hi,by simp,ls,nn,fun v=>⟨.inl,fun h=>h.resolve_right (hnr v)⟩,fun v _ h=>hnr v h,hz,hemr,hsm⟩⟩
 ·simp only[PP,P1,P2,P3,P4,P5,P6,P7,P8,P9,P10,P11,P12,P13,P14,L1,P15,N1,N2,N3,N4,N5,N6,N7,I1,I2,I3,I4,I5,I6,I7,reduceIte,reduceCtorEq,hp2]
  refine SemC_prefix (m:=4) (by simp) (by simp only[PP,P1,P2,P3,P4,P5,P6,P7,P8,P9,P10,P11,P12,P13,P14,L1,P15,N1,N2,N3,N4,N5,N6,N7,I1,I2,I3,I4,I5,I6,I7,reduceIte,reduceCtorEq,slB]) (by simp only[PP,P1,P2,P3,P4,P5,P6,P7,P8,P9,P10,P11,P12,P13,P14,L1,P15,N1,N2,N3,N4,N5,N6,N7,I1,I2,I3,I4,I5,I6,I7,reduceIte,reduceCtorEq,q20,h0,h1,q16]) ?_
  refine attract_z T V B h0 h1 hi hw hs hs0 hwt ?_
  intro ver1 A st1 r1 lA ls1 nn1 att
  refine⟨under_slB _ _ _ _ _ _,rfl,by simp only[PP,P1,P2,P3,P4,P5,P6,P7,P8,P9,P10,P11,P12,P13,P14,L1,P15,N1,N2,N3,N4,N5,N6,N7,I1,I2,I3,I4,I5,I6,I7,reduceIte,reduceCtorEq,q20,h0,h1,q16],?_⟩
  simp only[PP,P1,P2,P3,P4,P5,P6,P7,P8,P9,P10,P11,P12,P13,P14,L1,P15,N1,N2,N3,N4,N5,N6,N7,I1,I2,I3,I4,I5,I6,I7,reduceIte,reduceCtorEq]
  refine⟨by split<;>rfl,?_⟩
  refine minus_z T hi lA (by omega) ?_
  simp only[PP,P1,P2,P3,P4,P5,P6,P7,P8,P9,P10,P11,P12,P13,P14,L1,P15,N1,N2,N3,N4,N5,N6,N7,I1,I2,I3,I4,I5,I6,I7,reduceIte,reduceCtorEq]
  refine SemC_prefix (m:=4) (by simp) (by simp only[PP,P1,P2,P3,P4,P5,P6,P7,P8,P9,P10,P11,P12,P13,P14,L1,P15,N1,N2,N3,N4,N5,N6,N7,I1,I2,I3,I4,I5,I6,I7,reduceIte,reduceCtorEq,slB]) (by simp only[PP,P1,P2,P3,P4,P5,P6,P7,P8,P9,P10,P11,P12,P13,P14,L1,P15,N1,N2,N3,N4,N5,N6,N7,I1,I2,I3,I4,I5,I6,I7,reduceIte,reduceCtorEq,q20,h0,h1,q16]) ?_
  have vtA:=att.tgt vt ((htg vt).2 ⟨vt2,vt3⟩)
  have hcm:=count_minus hi vt2 vtA
  have mA:∀v,bm (q57 inL A ow.length) v↔bm inL v∧¬bm A v:=fun v=>bm_minus hi
  refine IH (q57 inL A ow.length) st1 ver1 _ (by omega) (minusL_len _ _ _) ls1 nn1 (fun v hv=>?_) ?_
  ·obtain⟨u,q1,q2⟩:=att.tot htot v ((mA v).1 hv)
   exact⟨u,q1,(mA u).2 q2⟩
  intro ver2 st2 wa wb Z2
  refine⟨by simp only[PP,P1,P2,P3,P4,P5,P6,P7,P8,P9,P10,P11,P12,P13,P14,L1,P15,N1,N2,N3,N4,N5,N6,N7,I1,I2,I3,I4,I5,I6,I7,reduceIte,reduceCtorEq,slB],rfl,by simp only[PP,P1,P2,P3,P4,P5,P6,P7,P8,P9,P10,P11,P12,P13,P14,L1,P15,N1,N2,N3,N4,N5,N6,N7,I1,I2,I3,I4,I5,I6,I7,reduceIte,reduceCtorEq,q20,h0,h1,q16],?_⟩
  simp only[PP,P1,P2,P3,P4,P5,P6,P7,P8,P9,P10,P11,P12,P13,P14,L1,P15,N1,N2,N3,N4,N5,N6,N7,I1,I2,I3,I4,I5,I6,I7,reduceIte,reduceCtorEq]
  refine⟨by split<;>split<;>rfl,?_⟩
  simp only[PP,P1,P2,P3,P4,P5,P6,P7,P8,P9,P10,P11,P12,P13,P14,L1,P15,N1,N2,N3,N4,N5,N6,N7,I1,I2,I3,I4,I5,I6,I7,reduceIte,reduceCtorEq,hw0]
  have lq:wa.length<big:=by show _<1000000000000;have:=Z2.l0;omega
  refine empty_p T lq ?_
  by_cases hemp:true∈wa
  ·simp only[PP,P1,P2,P3,P4,P5,P6,P7,P8,P9,P10,P11,P12,P13,P14,L1,P15,N1,N2,N3,N4,N5,N6,N7,I1,I2,I3,I4,I5,I6,I7,reduceIte,reduceCtorEq,hemp]
   simp only[PP,P1,P2,P3,P4,P5,P6,P7,P8,P9,P10,P11,P12,P13,P14,L1,P15,N1,N2,N3,N4,N5,N6,N7,I1,I2,I3,I4,I5,I6,I7,reduceIte,reduceCtorEq,hw0]
   obtain⟨ve,hve⟩:=mem_bm.1 hemp
   have eA:(bm (q57 inL A ow.length))=fun v=>bm inL v∧¬bm A v:=funext fun v=>propext (mA v)
   have sub:=Z2.p0
   rw[eA]at sub
   have hWi:∀v,bm wa v→bm inL v:=fun v h=>((sub.sub v h).1)
   refine SemC_prefix (m:=4) (by simp) (by simp only[PP,P1,P2,P3,P4,P5,P6,P7,P8,P9,P10,P11,P12,P13,P14,L1,P15,N1,N2,N3,N4,N5,N6,N7,I1,I2,I3,I4,I5,I6,I7,reduceIte,reduceCtorEq,slB]) (by simp only[PP,P1,P2,P3,P4,P5,P6,P7,P8,P9,P10,P11,P12,P13,P14,L1,P15,N1,N2,N3,N4,N5,N6,N7,I1,I2,I3,I4,I5,I6,I7,reduceIte,reduceCtorEq,q20,h0,h1,q16]) ?_
   refine attract_z T V B h0 h1 hi Z2.l0 Z2.ls Z2.nn hWi ?_
   intro ver3 L st3 r3 lL ls3 nn3 att3
   refine⟨under_slB _ _ _ _ _ _,rfl,by simp only[PP,P1,P2,P3,P4,P5,P6,P7,P8,P9,P10,P11,P12,P13,P14,L1,P15,N1,N2,N3,N4,N5,N6,N7,I1,I2,I3,I4,I5,I6,I7,reduceIte,reduceCtorEq,q20,h0,h1,q16],?_⟩
   simp only[PP,P1,P2,P3,P4,P5,P6,P7,P8,P9,P10,P11,P12,P13,P14,L1,P15,N1,N2,N3,N4,N5,N6,N7,I1,I2,I3,I4,I5,I6,I7,reduceIte,reduceCtorEq]
   refine minus_z T hi lL (by omega) ?_
   simp only[PP,P1,P2,P3,P4,P5,P6,P7,P8,P9,P10,P11,P12,P13,P14,L1,P15,N1,N2,N3,N4,N5,N6,N7,I1,I2,I3,I4,I5,I6,I7,reduceIte,reduceCtorEq]
   refine SemC_prefix (m:=4) (by simp) (by simp only[PP,P1,P2,P3,P4,P5,P6,P7,P8,P9,P10,P11,P12,P13,P14,L1,P15,N1,N2,N3,N4,N5,N6,N7,I1,I2,I3,I4,I5,I6,I7,reduceIte,reduceCtorEq,slB]) (by simp only[PP,P1,P2,P3,P4,P5,P6,P7,P8,P9,P10,P11,P12,P13,P14,L1,P15,N1,N2,N3,N4,N5,N6,N7,I1,I2,I3,I4,I5,I6,I7,reduceIte,reduceCtorEq,q20,h0,h1,q16]) ?_
   have hcm2:=count_minus hi (hWi ve hve) (att3.tgt ve hve)
   have mL:∀v,bm (q57 inL L ow.length) v↔bm inL v∧¬bm L v:=fun v=>bm_minus hi
   refine IH (q57 inL L ow.length) st3 ver3 _ (by omega) (minusL_len _ _ _) ls3 nn3 (fun v hv=>?_) ?_
   ·obtain⟨u,q1,q2⟩:=att3.tot htot v ((mL v).1 hv)
    exact⟨u,q1,(mL u).2 q2⟩
   intro ver4 st4 xa xb Z4
   refine⟨by simp only[PP,P1,P2,P3,P4,P5,P6,P7,P8,P9,P10,P11,P12,P13,P14,L1,P15,N1,N2,N3,N4,N5,N6,N7,I1,I2,I3,I4,I5,I6,I7,reduceIte,reduceCtorEq,slB],rfl,by simp only[PP,P1,P2,P3,P4,P5,P6,P7,P8,P9,P10,P11,P12,P13,P14,L1,P15,N1,N2,N3,N4,N5,N6,N7,I1,I2,I3,I4,I5,I6,I7,reduceIte,reduceCtorEq,q20,h0,h1,q16],?_⟩
   have nz:¬ow.length=0:=by omega
   have b3:ow.length≤140737488355328:=by omega
   have b4:ow.length≤9223372036854775807:=by omega
   have lxq:xa.length=ow.length:=Z4.l0
   simp only[PP,P1,P2,P3,P4,P5,P6,P7,P8,P9,P10,P11,P12,P13,P14,L1,P15,N1,N2,N3,N4,N5,N6,N7,I1,I2,I3,I4,I5,I6,I7,reduceIte,reduceCtorEq,hw0]
   refine q34 T.h43 ?_
   simp only[af43,PP,P1,P2,P3,P4,P5,P6,P7,P8,P9,P10,P11,P12,P13,P14,L1,P15,N1,N2,N3,N4,N5,N6,N7,I1,I2,I3,I4,I5,I6,I7,reduceIte,reduceCtorEq,lxq,nz,b3,b4,hw0,lL]
   have eL:(bm (q57 inL L ow.length))=fun v=>bm inL v∧¬bm L v:=funext fun v=>propext (mL v)
   have subp:=Z4.p1
   have subq:=Z4.p0
   rw[eL]at subp subq
   obtain⟨z1,z2⟩:=zk_two (D:=bm inL) (p:=1) (q:=0) (by omega) (fun v h=>(hO v h).symm) att sub att3 subp subq (fun v h=>Z4.same v fun q=>h ((mL v).1 q))
   refine loop3 (fun(k ver:Nat) (x:List Bool)=>k≤ow.length∧x.length=ow.length∧∀v,bm x v↔bm xa v∨(v<k∧bm L v))
    (fun k ver x=>[Zj,Zj,Zj,Zj,.ptr 5 0 0,Zj,Zj,p8 1,Zj,Zj,Zj,Zj,Zj,slB false true L,Zj,Zj,Zj,Zj,Zj,Zj,Zj,Zj,Zj,Zj,Zj,Zj,Zj,Zj,Zj,Zj,Zj,Zj,Zj,Zj,Zj,Zj,Zj,Zj,Zj,Zj,Zj,Zj,Zj,Zj,Zj,Zj,Zj,Zj,Zj,Zj,Zj,Zj,Zj,Zj,Zj,Zj,Zj,Zj,Zj,Zj,Zj,Zj,Zj,Zj,Zj,Zj,Zj,Zj,Zj,Zj,Zj,Zj,Zj,Zj,Zj,Zj,Zj,Zj,Zj,Zj,Zj,Zj,Zj,Zj,Zj,Zj,Zj,Zj,Zj,Zj,Zj,Zj,Zj,Zj,Zj,Zj,Zj,Zj,Zj,Zj,Zj,Zj,Zj,Zj,Zj,Zj,Zj,Zj,Zj,Zj,Zj,Zj,Zj,Zj,Zj,Zj,Zj,Zj,Zj,Zj,Zj,Zj,Zj,Zj,Zj,Zj,Zj,Zj,Zj,Zj,Zj,Zj,Zj,Zj,Zj,Zj,Zj,Zj,Zj,Zj,Zj,Zj,Zj,Zj,Zj,Zj,Zj,Zj,Zj,Zj,Zj,Zj,Zj,Zj,Zj,Zj,Zj,p64 ow.length,p64 k,Zj,Zj,Zj,Zj,Zj,Zj,Zj,Zj,Zj,Zj,Zj,Zj,Zj,Zj,Zj,Zj,Zj,Zj,Zj,Zj,Zj,Zj,Zj])
    (fun k ver x=>[o0,o1,.cells 0 ver4 (st4.map (PV.int .i64)),.cells 0 0 (zSol f1 p1 f2 p2 f3 p3 f4 p4 ow pr su),.cells 0 0 [slB false true inL],.cells 0 3 [.ref 10 0 1 0 ow.length,slB false true xb],.cells 0 0 (List.replicate ow.length (.bool false)),.cells 0 0 (List.replicate ow.length (.bool false)),.gone,.cells 0 1 [slB false true wa,slB false true wb],.cells 0 ver (x.map PV.bool)])
    (fun k _ _=>ow.length-k) 0 0 xa ⟨by omega,lxq,fun v=>⟨.inl,fun h=>h.elim id fun q=>by omega⟩⟩ (by simp only[PW]) (by simp only[PP,P1,P2,P3,P4,P5,P6,P7,P8,P9,P10,P11,P12,P13,P14,L1,P15,N1,N2,N3,N4,N5,N6,N7,I1,I2,I3,I4,I5,I6,I7,reduceIte,reduceCtorEq]) ?_
   intro k ver x ⟨hle,lx,hx⟩ ih3
   refine q15 (by kernel_rfl) ?_
   simp only[PP,P1,P2,P3,P4,P5,P6,P7,P8,P9,P10,P11,P12,P13,P14,L1,P15,N1,N2,N3,N4,N5,N6,N7,I1,I2,I3,I4,I5,I6,I7,reduceIte,reduceCtorEq]
   refine QIf.intro (fun e=>?_) (fun e=>?_)
   ·have hk':k<ow.length:=by omega
    have k0:(0:Int)≤k:=by omega
    have kn:(k:Int)<ow.length:=by omega
    have k1:k+1≤ow.length:=hk'
    have hwk:=q12 (k:=k) (by show _<1000000000000;omega)
    obtain⟨y,g1⟩:=q9 (xs:=x) (k:=k) (by omega)
    obtain⟨z,g2⟩:=q9 (xs:=L) (k:=k) (by omega)
    have up:∀b:Bool,(b=true↔bm x k∨bm L k)→k+1≤ow.length∧(x.set k b).length=ow.length∧∀v,bm (x.set k b) v↔bm xa v∨(v<k+1∧bm L v):=fun b hb=>by
     refine⟨by omega,by simp[lx],fun v=>?_⟩
     by_cases e:v=k
     ·subst e
      have:bm (x.set v b) v↔b=true:=by unfold bm;rw[List.getElem?_set_self (by omega)];simp
      rw[this,hb,hx v]
      constructor
      ·rintro(h | h)
       ·exact h.imp id fun q=>⟨by omega,q.2⟩
       ·exact .inr ⟨by omega,h⟩
      ·rintro(h | h)
       ·exact .inl (.inl h)
       ·exact .inr h.2
     ·have:bm (x.set k b) v↔bm x v:=by unfold bm;rw[List.getElem?_set_ne (by omega)]
      rw[this,hx v]
      exact⟨fun h=>h.imp id fun q=>⟨by omega,q.2⟩,fun h=>h.imp id fun q=>⟨by omega,q.2⟩⟩
    cases y
    ·have hy:¬bm x k:=fun h=>by rw[q65 g1]at h;cases h
     simp only[PP,P1,P2,P3,P4,P5,P6,P7,P8,P9,P10,P11,P12,P13,P14,L1,P15,N1,N2,N3,N4,N5,N6,N7,I1,I2,I3,I4,I5,I6,I7,reduceIte,reduceCtorEq,e,hw0,k0,kn,g1,g2,lx,lL,k1,hwk]
     exact q19 (ih3 (k+1) (ver+1) (x.set k z) (up z ⟨fun h=> .inr ((q65 g2).2 h),fun h=>h.elim (fun q=>absurd q hy) (q65 g2).1⟩) (by omega)) (by simp only[PW]) (by simp only[←List.map_set])
    ·simp only[PP,P1,P2,P3,P4,P5,P6,P7,P8,P9,P10,P11,P12,P13,P14,L1,P15,N1,N2,N3,N4,N5,N6,N7,I1,I2,I3,I4,I5,I6,I7,reduceIte,reduceCtorEq,e,hw0,k0,kn,g1,lx,k1,hwk]
     exact q19 (ih3 (k+1) (ver+1) (x.set k true) (up true ⟨fun _=> .inl ((q65 g1).2 rfl),fun _=>rfl⟩) (by omega)) (by simp only[PW]) (by simp only[←List.map_set])
   ·have hkn:k=ow.length:=by omega
    subst hkn
    have hx:∀v,bm x v↔bm xa v∨bm L v:=fun v=>(hx v).trans ⟨fun h=>h.imp id And.right,fun h=>h.imp id fun q=>⟨by have:=bm_lt q;omega,q⟩⟩
    simp only[PP,P1,P2,P3,P4,P5,P6,P7,P8,P9,P10,P11,P12,P13,P14,L1,P15,N1,N2,N3,N4,N5,N6,N7,I1,I2,I3,I4,I5,I6,I7,reduceIte,reduceCtorEq,e]
    have z2':SolIn (zO ow) (Sf su) (zP pr) (bm inL) 0 (bm x) (stN st4):=by
     have e2:bm x=fun v=>bm xa v∨bm L v:=funext fun v=>propext (hx v)
     rw[e2];exact z2
    have hsm:∀v,¬bm inL v→stN st4 v=stN st0 v:=fun v h=>by
     have q1:¬bm L v:=fun q=>h (att3.sub v q)
     rw[Z4.same v (fun q=>h ((mL v).1 q).1),att3.same v (.inl q1),Z2.same v (fun q=>h ((mA v).1 q).1),att.same v (.inl fun q=>h (att.sub v q))]
    refine⟨.agg [slB false true x,slB false true xb],_,pfrz_agg2 (pfrz1_refB (by omega) rfl lx) (pfrz1_slB _ _ _ _ _),pfrzM_all (by simp only[PP,P1,P2,P3,P4,P5,P6,P7,P8,P9,P10,P11,P12,P13,P14,L1,P15,N1,N2,N3,N4,N5,N6,N7,I1,I2,I3,I4,I5,I6,I7,reduceIte,reduceCtorEq,q20,h0,h1,q16]),hk ver4 st4 _ _ ⟨lx,Z4.l1,Z4.ls,Z4.nn,fun v=>⟨fun h=>?_,fun h=>h.elim (fun q=>((hx v).1 q).elim (fun q=>((mL v).1 ((Z4.all v).2 (.inl q))).1) (att3.sub v)) fun q=>((mL v).1 ((Z4.all v).2 (.inr q))).1⟩,fun v q2 q1=>((hx v).1 q2).elim (fun q=>Z4.dis v q q1) fun q=>((mL v).1 ((Z4.all v).2 (.inr q1))).2 q,z2',z1,hsm⟩⟩
    by_cases hl:bm L v
    ·exact .inl ((hx v).2 (.inr hl))
    ·exact(Z4.all v).1 ((mL v).2 ⟨h,hl⟩) |>.elim (fun q=> .inl ((hx v).2 (.inl q))) .inr
  ·simp only[PP,P1,P2,P3,P4,P5,P6,P7,P8,P9,P10,P11,P12,P13,P14,L1,P15,N1,N2,N3,N4,N5,N6,N7,I1,I2,I3,I4,I5,I6,I7,reduceIte,reduceCtorEq,hemp]
   have eA:(bm (q57 inL A ow.length))=fun v=>bm inL v∧¬bm A v:=funext fun v=>propext (mA v)
   have eW:bm wb=fun v=>bm inL v∧¬bm A v:=funext fun v=>propext (by
    rw[←mA v,Z2.all v]
    exact⟨.inr,fun h=>h.resolve_left (not_mem_bm hemp v)⟩)
   have sub:=Z2.p1
   rw[eA,eW]at sub
   have hsame2:∀v,¬(bm inL v∧¬bm A v)→stN st2 v=stN st1 v:=fun v h=>Z2.same v (fun q=>h ((mA v).1 q))
   refine loop3 (fun(k ver:Nat) (st:List Int)=>k≤ow.length∧st.length=ow.length∧(∀x∈st,0≤x)∧(∀v,v<k→bm w v→zO ow v=1→stN st v∈Sf su v∧bm inL (stN st v))∧∀v,¬(v<k∧bm w v∧zO ow v=1)→stN st v=stN st2 v)
    (fun k ver st=>[.ptr 3 0 0,Zj,Zj,.ptr 4 0 0,.ptr 5 0 0,Zj,Zj,p8 1,slB false true w,Zj,Zj,Zj,Zj,Zj,Zj,Zj,Zj,Zj,Zj,Zj,Zj,Zj,Zj,Zj,Zj,Zj,Zj,Zj,Zj,Zj,Zj,Zj,Zj,Zj,Zj,Zj,Zj,Zj,Zj,Zj,Zj,Zj,Zj,Zj,Zj,Zj,Zj,Zj,Zj,Zj,Zj,Zj,Zj,Zj,Zj,Zj,Zj,Zj,Zj,Zj,Zj,Zj,Zj,Zj,Zj,Zj,Zj,Zj,Zj,Zj,Zj,Zj,Zj,Zj,Zj,Zj,Zj,Zj,Zj,Zj,Zj,Zj,Zj,Zj,Zj,Zj,Zj,Zj,Zj,Zj,Zj,Zj,Zj,Zj,slR f3 p3 f4 p4 .i64 su,p64 su.length,p64 k,Zj,Zj,Zj,Zj,Zj,Zj,Zj,Zj,Zj,Zj,Zj,Zj,Zj,Zj,Zj,Zj,Zj,Zj,Zj,Zj,Zj,Zj,Zj,Zj,Zj,Zj,Zj,Zj,Zj,Zj,Zj,Zj,Zj,Zj,Zj,Zj,Zj,Zj,Zj,Zj,Zj,Zj,Zj,Zj,Zj,Zj,Zj,Zj,Zj,Zj,Zj,Zj,Zj,Zj,Zj,Zj,Zj,Zj,Zj,Zj,Zj,Zj,Zj,Zj,Zj,Zj,Zj,Zj,Zj,Zj,Zj,Zj,Zj,Zj,Zj,Zj,Zj,Zj,Zj,Zj,Zj,Zj,Zj,Zj,Zj])
    (fun k ver st=>[o0,o1,.cells 0 ver (st.map (PV.int .i64)),.cells 0 0 (zSol f1 p1 f2 p2 f3 p3 f4 p4 ow pr su),.cells 0 0 [slB false true inL],.cells 0 1 [.ref 6 0 1 0 ow.length,.ref 7 0 1 0 ow.length],.cells 0 0 (List.replicate ow.length (.bool false)),.cells 0 0 (List.replicate ow.length (.bool false)),.gone,.cells 0 1 [slB false true wa,slB false true wb]])
    (fun k _ _=>ow.length-k) 0 ver2 st2 ⟨by omega,Z2.ls,Z2.nn,fun v h=>by omega,fun _ _=>rfl⟩ (by simp only[PW]) rfl ?_
   intro k ver st ⟨hle,ls,nn,hst,hoth⟩ ih3
   refine q15 (by kernel_rfl) ?_
   simp only[PP,P1,P2,P3,P4,P5,P6,P7,P8,P9,P10,P11,P12,P13,P14,L1,P15,N1,N2,N3,N4,N5,N6,N7,I1,I2,I3,I4,I5,I6,I7,reduceIte,reduceCtorEq]
   refine QIf.intro (fun e=>?_) (fun e=>?_)
   ·have hk':k<ow.length:=by omega
    have k0:(0:Int)≤k:=by omega
    have kn:(k:Int)<ow.length:=by omega
    have hwk:=q12 (k:=k) (by show _<1000000000000;omega)
    obtain⟨x,g1⟩:=q9 (xs:=w) (k:=k) (by omega)
    obtain⟨o,g2⟩:=q9 (xs:=ow) (k:=k) hk'
    obtain⟨row,g3⟩:=q9 (xs:=su) (k:=k) (by omega)
    have eo:zO ow k=o:=getD_some g2
    have e1:su.getD k []=row:=by simp[List.getD,g3]
    have keep:¬(bm w k∧zO ow k=1)→k+1≤ow.length∧st.length=ow.length∧(∀x∈st,0≤x)∧(∀v,v<k+1→bm w v→zO ow v=1→stN st v∈Sf su v∧bm inL (stN st v))∧∀v,¬(v<k+1∧bm w v∧zO ow v=1)→stN st v=stN st2 v:=fun hn=>
     ⟨by omega,ls,nn,fun v hv q1 q2=>by
      by_cases e:v=k
      ·subst e;exact absurd ⟨q1,q2⟩ hn
      ·exact hst v (by omega) q1 q2,fun v hv=>hoth v fun q=>hv ⟨by omega,q.2⟩⟩
    simp only[PP,P1,P2,P3,P4,P5,P6,P7,P8,P9,P10,P11,P12,P13,P14,L1,P15,N1,N2,N3,N4,N5,N6,N7,I1,I2,I3,I4,I5,I6,I7,reduceIte,reduceCtorEq,e,k0,g3,g1,hw,kn]
    cases x
    ·have hnb:¬bm w k:=fun h=>by rw[q65 g1]at h;cases h
     simp only[PP,P1,P2,P3,P4,P5,P6,P7,P8,P9,P10,P11,P12,P13,P14,L1,P15,N1,N2,N3,N4,N5,N6,N7,I1,I2,I3,I4,I5,I6,I7,reduceIte,reduceCtorEq,hwk]
     exact q8 (ih3 (k+1) ver st (keep fun h=>hnb h.1) (by omega)) (by simp only[PW])
    simp only[PP,P1,P2,P3,P4,P5,P6,P7,P8,P9,P10,P11,P12,P13,P14,L1,P15,N1,N2,N3,N4,N5,N6,N7,I1,I2,I3,I4,I5,I6,I7,reduceIte,reduceCtorEq,k0,kn,g2]
    refine QIf.intro (fun e2=>?_) (fun e2=>?_)
    ·have hrb:row.length<big:=B.r _ (List.mem_of_getElem? g3)
     have hbk:bm w k:=(q65 g1).2 rfl
     obtain⟨u1,q1,q2⟩:=htot k (hwt k hbk)
     have q1:u1∈(su.getD k []).map Int.toNat:=q1
     rw[e1]at q1
     obtain⟨y1,q3,rfl⟩:=List.mem_map.1 q1
     have rr:∀u∈row,0≤u∧u<ow.length:=fun u hu=>q43 V hk' (by rw[e1];exact hu)
     obtain⟨i,u,r1,r2,r3⟩:=idxFrom_some (p:=fun u=>inL.getD u.toNat false) (j:=0) (row:=row) ⟨y1,q3,by rw[List.getD,q2];rfl⟩
     have il:=q10 r2
     have ur:=rr u (List.mem_of_getElem? r2)
     have bu:bm inL u.toNat:=by
      have hul:u.toNat<inL.length:=by omega
      rw[List.getD,List.getElem?_eq_getElem hul]at r3
      unfold bm;rw[List.getElem?_eq_getElem hul];simpa using r3
     simp only[PP,P1,P2,P3,P4,P5,P6,P7,P8,P9,P10,P11,P12,P13,P14,L1,P15,N1,N2,N3,N4,N5,N6,N7,I1,I2,I3,I4,I5,I6,I7,reduceIte,reduceCtorEq,e2]
     refine indexFunc_p T (fun u=>inL.getD u.toNat false) hrb (fun u hu K' hK'=>?_) ?_
     ·obtain⟨z,gz⟩:=q9 (xs:=inL) (k:=u.toNat) (by have:=rr u hu;omega)
      have ez:inL.getD u.toNat false=z:=by simp[List.getD,gz]
      refine q34 T.h42 ?_
      simp only[af42,PP,P1,P2,P3,P4,P5,P6,P7,P8,P9,P10,P11,P12,P13,P14,L1,P15,N1,N2,N3,N4,N5,N6,N7,I1,I2,I3,I4,I5,I6,I7,reduceIte,reduceCtorEq,(rr u hu).1,(rr u hu).2,gz,hi]
      rw[ez]at hK'
      exact hK'
     ·have i0:(0:Int)≤((0+i:Nat):Int):=by omega
      have i1:((0+i:Nat):Int)<row.length:=by omega
      have st3:k+1≤ow.length:=hk'
      rw[r1]
      simp only[PP,P1,P2,P3,P4,P5,P6,P7,P8,P9,P10,P11,P12,P13,P14,L1,P15,N1,N2,N3,N4,N5,N6,N7,I1,I2,I3,I4,I5,I6,I7,reduceIte,reduceCtorEq]at i0 i1 ⊢
      simp only[PP,P1,P2,P3,P4,P5,P6,P7,P8,P9,P10,P11,P12,P13,P14,L1,P15,N1,N2,N3,N4,N5,N6,N7,I1,I2,I3,I4,I5,I6,I7,reduceIte,reduceCtorEq,i0,i1,r2,k0,kn,ls,st3,hwk]
      refine q19 (ih3 (k+1) (ver+1) (st.set k u) ⟨by omega,by simp[ls],fun y hy=>?_,fun v hv b1 b2=>?_,fun v hv=>?_⟩ (by omega)) (by simp only[PW]) (by simp only[←List.map_set])
      ·rcases List.mem_or_eq_of_mem_set hy with h | h
       ·exact nn y h
       ·subst h;exact ur.1
      ·rw[stN_set (by omega)]
       by_cases e:v=k
       ·subst e;rw[if_pos rfl]
        exact⟨List.mem_map.2 ⟨u,by rw[e1];exact List.mem_of_getElem? r2,rfl⟩,bu⟩
       ·rw[if_neg e];exact hst v (by omega) b1 b2
      ·have e:v≠k:=by rintro rfl;exact hv ⟨by omega,hbk,by rw[eo];exact e2⟩
       rw[stN_set (by omega),if_neg e]
       exact hoth v fun q=>hv ⟨by omega,q.2⟩
    ·simp only[PP,P1,P2,P3,P4,P5,P6,P7,P8,P9,P10,P11,P12,P13,P14,L1,P15,N1,N2,N3,N4,N5,N6,N7,I1,I2,I3,I4,I5,I6,I7,reduceIte,reduceCtorEq,e2,hwk]
     exact q8 (ih3 (k+1) ver st (keep fun h=>e2 (by rw[←eo];exact h.2)) (by omega)) (by simp only[PW])
   ·simp only[PP,P1,P2,P3,P4,P5,P6,P7,P8,P9,P10,P11,P12,P13,P14,L1,P15,N1,N2,N3,N4,N5,N6,N7,I1,I2,I3,I4,I5,I6,I7,reduceIte,reduceCtorEq,e]
    have hz:=zk_one (D:=bm inL) (p:=1) (top:=top) att (by exact htg) hmx hp2 sub hsame2 (fun v hx ho2=>hst v (by have:=bm_lt hx;omega) hx ho2) (s3:=stN st) (fun v hx=>hoth v fun q=>hx q.2.1)
    have hnr:∀v,¬bm (List.replicate ow.length false) v:=fun v h=>by
     unfold bm at h
     rw[List.getElem?_replicate]at h
     split at h<;>simp at h
    have hemr:SolIn (zO ow) (Sf su) (zP pr) (bm inL) 0 (bm (List.replicate ow.length false)) (stN st):=
     ⟨fun v h=>absurd h (hnr v),fun v h=>absurd h (hnr v),fun v h=>absurd h (hnr v),fun cc kk _ _ h=>absurd (h 0) (hnr _)⟩
    have hsm:∀v,¬bm inL v→stN st v=stN st0 v:=fun v h=>by
     rw[hoth v (fun q=>h (hwt v q.2.1)),hsame2 v (fun q=>h q.1),att.same v (.inl fun q=>h (att.sub v q))]
    refine⟨.agg [slB false true (List.replicate ow.length false),slB false true inL],_,pfrz_agg2 (pfrz1_refB (by omega) (by simp;rfl) (by simp)) (pfrz1_slB _ _ _ _ _),pfrzM_all (by simp only[PP,P1,P2,P3,P4,P5,P6,P7,P8,P9,P10,P11,P12,P13,P14,L1,P15,N1,N2,N3,N4,N5,N6,N7,I1,I2,I3,I4,I5,I6,I7,reduceIte,reduceCtorEq,q20,h0,h1,q16]),hk ver st _ _ ⟨by simp,hi,ls,nn,fun v=>⟨.inr,fun h=>h.resolve_left (hnr v)⟩,fun v h _=>hnr v h,hemr,hz,hsm⟩⟩
end
theorem Rch.tgt {E:Nat→Nat→Prop} {Q:Nat→Prop} {v u:Nat} (h:Rch E Q v u):∃a,E a u:=by
 cases h with
 | one h1 _=>exact⟨_,h1⟩
 | more _ h1 _=>exact⟨_,h1⟩
theorem Rch.cond {E:Nat→Nat→Prop} {Q Q':Nat→Prop} {v u:Nat} (h:Rch E Q v u) (hE:∀a b,E a b→Q b→Q' b):Rch E Q' v u:=by
 induction h with
 | one h1 h2=>exact .one h1 (hE _ _ h1 h2)
 | more _ h1 h2 ih=>exact .more ih h1 (hE _ _ h1 h2)
theorem no_bm {n:Nat} (v:Nat):¬bm (List.replicate n false) v:=fun h=>by
 unfold bm at h
 rw[List.getElem?_replicate]at h
 split at h
 ·cases h
 ·cases h
section
variable {tab:FuncId→Option AF} (T:HasA tab)
include T
end
def RwWk:List PV→List (List Int)→Prop
 | [],[]=>True
 | y::cs,r::rows=>(∃f o,y=slI f o .i64 r)∧RwWk cs rows
 | _,_=>False
theorem RwWk.app:∀{cs:List PV} {rows:List (List Int)},RwWk cs rows→∀(f o:Bool) (r:List Int),RwWk (cs++[slI f o .i64 r]) (rows++[r])
 | [],[],_,f,o,r=>⟨⟨f,o,rfl⟩,trivial⟩
 | y::cs,x::rows,⟨h1,h2⟩,f,o,r=>⟨h1,h2.app f o r⟩
 | [],_::_,h,_,_,_=>h.elim
 | _::_,[],h,_,_,_=>h.elim
theorem RwWk.len:∀{cs:List PV} {rows:List (List Int)},RwWk cs rows→cs.length=rows.length
 | [],[],_=>rfl
 | y::cs,x::rows,⟨h1,h2⟩=>by simp[h2.len]
 | [],_::_,h=>h.elim
 | _::_,[],h=>h.elim
theorem RwWk.one:∀{cs:List PV} {rows:List (List Int)},RwWk cs rows→cs.all PV.one=true
 | [],[],_=>rfl
 | y::cs,x::rows,⟨⟨f,o,e⟩,h2⟩=>by subst e;simp only[List.all_cons,one_sl,h2.one,Bool.and_self]
 | [],_::_,h=>h.elim
 | _::_,[],h=>h.elim
theorem RwWk.und (m:Nat):∀{cs:List PV} {rows:List (List Int)},RwWk cs rows→q14 m cs=true
 | [],[],_=>underL_nil _
 | y::cs,x::rows,⟨⟨f,o,e⟩,h2⟩=>by subst e;rw[underL_cons,h2.und m,under_slI];rfl
 | [],_::_,h=>h.elim
 | _::_,[],h=>h.elim
theorem RwWk.get:∀{cs:List PV} {rows:List (List Int)},RwWk cs rows→∀(i:Nat) (y z:PV),cs[i]? =some y→(rows.map (slI true false .i64))[i]? =some z→PvWk y z
 | y::cs,x::rows,⟨⟨f,o,e⟩,h2⟩,0,a,b,ha,hb=>by
  cases ha;cases hb;subst e;exact PvWk.sl0 _ _ _ _ _
 | y::cs,x::rows,⟨_,h2⟩,i+1,a,b,ha,hb=>h2.get i a b (by simpa using ha) (by simpa using hb)
 | [],[],_,i,a,b,ha,_=>by simp at ha
 | [],_::_,h,_,_,_,_,_=>h.elim
 | _::_,[],h,_,_,_,_,_=>h.elim
theorem PvWk.cells {f o:Bool} {sz n:Nat} {cs cs':List PV} (hl:cs.length=cs'.length) (h:∀(i:Nat) (y z:PV),cs[i]? =some y→cs'[i]? =some z→PvWk y z):PvWk (.sl f o sz n cs) (.sl f o sz n cs'):=fun w x hx=>by
 cases hx with
 | sl h1 h2 h3 h4 h5 h7 h6=>
  refine .sl h1 (by rw[←hl];exact h2) (by rw[←hl];exact h3) h4 h5 h7 fun i y z hy hz=>?_
  have hi:i<cs.length:=by rw[hl];exact q10 hy
  exact h i _ y (List.getElem?_eq_getElem hi) hy w z (h6 i _ z (List.getElem?_eq_getElem hi) hz)
 | slN=>
  have:cs'=[]:=List.length_eq_zero_iff.1 (by rw[←hl];rfl)
  subst this;exact .slN
def movF (ow:List Int) (su:List (List Int)) (p:Int) (st:List Int) (v:Nat):List Int:=if ow.getD v 0=p∧st.getD v 0∈su.getD v [] then [st.getD v 0] else su.getD v []
def ownF (ow ws ss:List Int) (p:Int) (v:Nat):Int:=if ow.getD v 0=p∧ws.getD v 0=p then ss.getD v 0 else-1
section
variable {tab:FuncId→Option AF} (T:HasA tab)
include T
end
abbrev solE (ow:List Int) (su:List (List Int)) (ws ss:List Int) (p:Int) (a b:Nat):Prop:=b∈Sf (tabA ow.length (movF ow su p (tabA ow.length (ownF ow ws ss p)))) a
structure FormAt (ow:List Int) (su:List (List Int)) (ws ss:List Int) (v:Nat):Prop where
 k:¬1<ws.getD v 0
 own:ws.getD v 0=ow.getD v 0→ss.getD v 0∈su.getD v []
 opp:¬ws.getD v 0=ow.getD v 0→ss.getD v 0= -1
structure CorrP (ow pr:List Int) (su:List (List Int)) (ws ss:List Int):Prop where
 c:q37 ow pr su=0
 lw:ws.length=ow.length
 ls:ss.length=ow.length
 form:∀v,v<ow.length→FormAt ow su ws ss v
 win:∀p:Int,p=0∨p=1→∀v,v<ow.length→ws.getD v 0=p→¬Lost (solE ow su ws ss p) (zP pr) p v
theorem mov_in {ow pr st:List Int} {su:List (List Int)} {p:Int} (V:Valid ow pr su) (B:Bnd ow pr su):RowsIn (tabA ow.length (movF ow su p st)):=by
 have n1:=V.n1
 refine⟨by rw[q27];omega,fun row hrow=>?_⟩
 obtain⟨v,hv,rfl⟩:=tabA_mem hrow
 have hvs:v<su.length:=by rw[V.s];exact hv
 have e:su.getD v []=su[v]:=by simp[List.getD,hvs]
 have hr:∀x∈su.getD v [],0≤x∧x<ow.length:=fun x hx=>q43 V hv hx
 rw[q27]
 unfold movF
 split
 ·rename_i h
  refine⟨by simp,fun x hx=>?_⟩
  rw[List.mem_singleton]at hx;subst hx;exact hr _ h.2
 ·exact⟨by rw[e];exact B.r _ (List.getElem_mem hvs),hr⟩
theorem Valid.pri0 {ow pr:List Int} {su:List (List Int)} (V:Valid ow pr su):∀x∈pr,0≤x∧x≤16:=fun x hx=>by
 obtain⟨i,hi⟩:=List.getElem?_of_mem hx
 have hl:=q10 hi
 have:=V.row i (by rw[V.s,←V.p];exact hl)
 rw[getD_some hi]at this
 exact⟨this.1,this.2.1⟩
section
variable {tab:FuncId→Option AF} (T:HasA tab)
include T
end
theorem SolIn.congr {O:Nat→Int} {S:Nat→List Nat} {R:Nat→Int} {D:Nat→Prop} {p:Int} {W:Nat→Prop} {s s':Nat→Nat} (h:SolIn O S R D p W s) (hs:∀v,W v→O v=p→s' v=s v):SolIn O S R D p W s':=
 ⟨h.sub,fun v hv ho=>by rw[hs v hv ho];exact h.own v hv ho,h.opp,fun c k hk hper hW hS hc=>h.cyc c k hk hper hW hS fun i ho=>by rw[hc i ho,hs _ (hW i) ho]⟩
structure SolL (ow pr:List Int) (su:List (List Int)) (ws ss:List Int):Prop where
 lw:ws.length=ow.length
 ls:ss.length=ow.length
 sol:IsSol ow.length (zO ow) (Sf su) (zP pr) (fun v=>ws.getD v 0) (stN ss)
 own:∀v,v<ow.length→ws.getD v 0=ow.getD v 0→0≤ss.getD v 0
 opp:∀v,v<ow.length→¬ws.getD v 0=ow.getD v 0→ss.getD v 0= -1
abbrev solV (ws ss:List Int) (e:Int):PV:= .tuple [.agg [slI false true .u8 ws,slI false true .i64 ss],p64 e]
theorem wk_sol (e:Int):PvWk (.tuple [.agg [.nils,.nils],p64 e]) (solV [] [] e):=by
 refine PvWk.tuple rfl fun i y z h1 h2=>?_
 match i with
 | 0=>
  cases h1;cases h2
  refine PvWk.agg rfl fun i y z h1 h2=>?_
  match i with
  | 0=>cases h1;cases h2;exact PvWk.nils _ _ _
  | 1=>cases h1;cases h2;exact PvWk.nils _ _ _
  | i+2=>simp at h1
 | 1=>cases h1;cases h2;exact PvWk.refl _
 | i+2=>simp at h1
theorem frzI {g v n:Nat} {k:IntKind} {xs:List Int} (h:xs.length=n):frzO (some (.cells g v (xs.map (PV.int k)))) g 1 0 n=some (slI false true k xs):=by
 subst h
 rw[frzO_cells (by simp) (q16 _ _ _),Nat.mul_one,psub_map]
section
variable {tab:FuncId→Option AF} (T:HasA tab)
include T
theorem solve_p {M:Mem} {K:PV→Mem→Prop} {f1 p1 f2 p2 f3 p3 f4 p4:Bool} {ow pr:List Int} {su:List (List Int)} (B:Bnd ow pr su) (ho:∀x∈ow,0≤x)
  (hk1:¬q37 ow pr su=0→K (solV [] [] (q37 ow pr su)) M) (hk2:q37 ow pr su=0→∀ws ss,SolL ow pr su ws ss→K (solV ws ss 0) M):
  SemC tab 6 [gmP f1 p1 f2 p2 f3 p3 f4 p4 ow pr su] M K:=by
 refine SemC_wk ?_
 refine q11 T.h6 (by simp only[PP,P1,P2,P3,P4,P5,P6,P7,P8,P9,P10,P11,P12,P13,P14,L1,P15,N1,N2,N3,N4,N5,N6,N7,I1,I2,I3,I4,I5,I6,I7,reduceIte,reduceCtorEq]) ?_
 simp only[af6,PP,P1,P2,P3,P4,P5,P6,P7,P8,P9,P10,P11,P12,P13,P14,L1,P15,N1,N2,N3,N4,N5,N6,N7,I1,I2,I3,I4,I5,I6,I7,reduceIte,reduceCtorEq]
 refine check_p T B ?_
 simp only[PP,P1,P2,P3,P4,P5,P6,P7,P8,P9,P10,P11,P12,P13,P14,L1,P15,N1,N2,N3,N4,N5,N6,N7,I1,I2,I3,I4,I5,I6,I7,reduceIte,reduceCtorEq]
 refine QIf.intro (fun c1=>?_) (fun c1=>?_)
 rotate_left
 ·simp only[PP,P1,P2,P3,P4,P5,P6,P7,P8,P9,P10,P11,P12,P13,P14,L1,P15,N1,N2,N3,N4,N5,N6,N7,I1,I2,I3,I4,I5,I6,I7,reduceIte,reduceCtorEq,c1]
  exact⟨_,wk_sol _,hk1 c1⟩
 have V:=q25 c1
 have n0:=V.n0
 have n1:=V.n1
 have hsl:=V.s
 have b0:(0:Int)≤ow.length:=by omega
 have b1:(ow.length:Int)*1≤140737488355328:=by omega
 have b8:(ow.length:Int)*8≤140737488355328:=by omega
 have b2:(ow.length:Int)≤9223372036854775807:=by omega
 simp only[PP,P1,P2,P3,P4,P5,P6,P7,P8,P9,P10,P11,P12,P13,P14,L1,P15,N1,N2,N3,N4,N5,N6,N7,I1,I2,I3,I4,I5,I6,I7,reduceIte,reduceCtorEq,c1,b0,b1,b8,b2,Int.le_refl]
 refine SemW_gh ?_
 refine loop3 (fun(k ver:Nat) (w:List Bool)=>k≤ow.length∧w.length=ow.length∧∀v,v<k→w[v]? =some true)
  (fun k ver w=>[Zj,.ptr 0 0 0,.ptr 1 0 0,Zj,Zj,.ptr 3 0 0,.ref 4 0 1 0 ow.length,Zj,Zj,Zj,Zj,Zj,Zj,Zj,Zj,Zj,Zj,Zj,Zj,Zj,Zj,Zj,Zj,Zj,Zj,Zj,Zj,Zj,Zj,p64 ow.length,p64 k,Zj,Zj,Zj,Zj,Zj,Zj,Zj,Zj,Zj,Zj,Zj,Zj,Zj,Zj,Zj,Zj,Zj,Zj,Zj,Zj,Zj,Zj,Zj,Zj,Zj,Zj,Zj,Zj,Zj,Zj,Zj,Zj,Zj,Zj,Zj,Zj,Zj,Zj,Zj,Zj,Zj,Zj,Zj,Zj,Zj,Zj,Zj,Zj])
  (fun k ver w=>[.cells 0 0 [slI f1 p1 .u8 ow,slI f2 p2 .i64 pr,slR f3 p3 f4 p4 .i64 su],.cells 0 0 [.nils,.nils],.cells 0 0 ((List.replicate ow.length 0).map (PV.int .i64)),.cells 0 0 (zSol f1 p1 f2 p2 f3 p3 f4 p4 ow pr su),.cells 0 ver (w.map PV.bool)])
  (fun k _ _=>ow.length-k) 0 0 (List.replicate ow.length false) ⟨by omega,by simp,by intro v h;omega⟩ (by simp only[PW]) (by simp only[List.map_replicate]) ?_
 intro k ver w ⟨hle,hw,hget⟩ ih
 refine q15 (by kernel_rfl) ?_
 simp only[PP,P1,P2,P3,P4,P5,P6,P7,P8,P9,P10,P11,P12,P13,P14,L1,P15,N1,N2,N3,N4,N5,N6,N7,I1,I2,I3,I4,I5,I6,I7,reduceIte,reduceCtorEq]
 refine QIf.intro (fun c=>?_) (fun c=>?_)
 ·have hk':k<ow.length:=by omega
  have k0:(0:Int)≤k:=by omega
  have k1:k+1≤ow.length:=hk'
  have hwk:=q12 (k:=k) (by show _<1000000000000;omega)
  simp only[PP,P1,P2,P3,P4,P5,P6,P7,P8,P9,P10,P11,P12,P13,P14,L1,P15,N1,N2,N3,N4,N5,N6,N7,I1,I2,I3,I4,I5,I6,I7,reduceIte,reduceCtorEq,c,k0,k1,hw,hwk]
  refine q19 (ih (k+1) (ver+1) (w.set k true) ⟨by omega,by simp[hw],fun v hv=>?_⟩ (by omega)) (by simp only[PW]) (by simp only[←List.map_set])
  by_cases e:v=k
  ·subst e;rw[List.getElem?_set_self (by omega)]
  ·rw[List.getElem?_set_ne (by omega)];exact hget v (by omega)
 have hkn:k=ow.length:=by omega
 subst hkn
 have hall:∀v,bm w v↔v<ow.length:=fun v=>⟨fun h=>by rw[←hw];exact bm_lt h,fun h=>hget v h⟩
 simp only[PP,P1,P2,P3,P4,P5,P6,P7,P8,P9,P10,P11,P12,P13,P14,L1,P15,N1,N2,N3,N4,N5,N6,N7,I1,I2,I3,I4,I5,I6,I7,reduceIte,reduceCtorEq,c]
 refine Gh.step (GStep.freeze (b:=[Zj,.ptr 0 0 0,.ptr 1 0 0,Zj,Zj,.ptr 3 0 0,slB false true w,Zj,Zj,Zj,Zj,Zj,Zj,Zj,Zj,Zj,Zj,Zj,Zj,Zj,Zj,Zj,Zj,Zj,Zj,Zj,Zj,Zj,Zj,Zj,Zj,Zj,Zj,Zj,Zj,Zj,Zj,Zj,Zj,Zj,Zj,Zj,Zj,Zj,Zj,Zj,Zj,Zj,Zj,Zj,Zj,Zj,Zj,Zj,Zj,Zj,Zj,Zj,Zj,Zj,Zj,Zj,Zj,Zj,Zj,Zj,Zj,Zj,Zj,Zj,Zj,Zj,Zj,Zj,Zj,Zj,Zj,Zj,Zj]) 4 (by omega) rfl (by
  simp only[PFrz_junk,PFrz_same]
  rw[PFrz_ref (by rw[List.length_map,hw];omega) (by rw[Nat.mul_one,q49 _ _ (by simp[hw])];unfold slB;rw[hw])]
  simp only[PFrz_nil,PFrz_junk,PFrz_same]) rfl) (Gh.same ?_)
 simp only[PP,P1,P2,P3,P4,P5,P6,P7,P8,P9,P10,P11,P12,P13,P14,L1,P15,N1,N2,N3,N4,N5,N6,N7,I1,I2,I3,I4,I5,I6,I7,reduceIte,reduceCtorEq]
 refine SemC_prefix (m:=4) (by simp) (by simp only[PP,P1,P2,P3,P4,P5,P6,P7,P8,P9,P10,P11,P12,P13,P14,L1,P15,N1,N2,N3,N4,N5,N6,N7,I1,I2,I3,I4,I5,I6,I7,reduceIte,reduceCtorEq,slB]) (by simp only[PP,P1,P2,P3,P4,P5,P6,P7,P8,P9,P10,P11,P12,P13,P14,L1,P15,N1,N2,N3,N4,N5,N6,N7,I1,I2,I3,I4,I5,I6,I7,reduceIte,reduceCtorEq,q20,q16]) ?_
 have hcl:=cnt_le w
 refine solve_z T V B ho (by simp only[PP,P1,P2,P3,P4,P5,P6,P7,P8,P9,P10,P11,P12,P13,P14,L1,P15,N1,N2,N3,N4,N5,N6,N7,I1,I2,I3,I4,I5,I6,I7,reduceIte,reduceCtorEq,q20]) rfl (ow.length+1) w (List.replicate ow.length 0) 0 _ (by omega) hw (by simp) (fun x hx=>by rw[List.eq_of_mem_replicate hx];omega) (fun v hv=>?_) ?_
 ·have hv:=(hall v).1 hv
  obtain⟨q1,q2,_⟩:=Sf_ok V hv
  cases hs:Sf su v with
  | nil=>exact absurd hs q1
  | cons x l=>exact⟨x,by simp,(hall x).2 (q2 x (by rw[hs];simp))⟩
 intro ver2 st w0 w1 Z
 refine⟨by simp only[PP,P1,P2,P3,P4,P5,P6,P7,P8,P9,P10,P11,P12,P13,P14,L1,P15,N1,N2,N3,N4,N5,N6,N7,I1,I2,I3,I4,I5,I6,I7,reduceIte,reduceCtorEq,slB],rfl,by simp only[PP,P1,P2,P3,P4,P5,P6,P7,P8,P9,P10,P11,P12,P13,P14,L1,P15,N1,N2,N3,N4,N5,N6,N7,I1,I2,I3,I4,I5,I6,I7,reduceIte,reduceCtorEq,q20,q16],?_⟩
 simp only[PP,P1,P2,P3,P4,P5,P6,P7,P8,P9,P10,P11,P12,P13,P14,L1,P15,N1,N2,N3,N4,N5,N6,N7,I1,I2,I3,I4,I5,I6,I7,reduceIte,reduceCtorEq,hw,b0,b1,b2,Int.le_refl]
 have zs:=Z.ls
 have z1:=Z.l1
 refine loop5 (fun(k v6 v2:Nat) (ws ss:List Int)=>k≤ow.length∧ws.length=ow.length∧ss.length=ow.length∧(∀v,v<k→ws[v]? =some (if bm w1 v then 1 else 0)∧ss[v]? =some (if(if bm w1 v then 1 else 0)=ow.getD v 0 then st.getD v 0 else-1))∧∀v,k≤v→v<ow.length→ws[v]? =some 0∧ss[v]? =st[v]?)
  (fun k v6 v2 ws ss=>[Zj,.ptr 0 0 0,.ptr 1 0 0,Zj,Zj,Zj,Zj,Zj,.ptr 5 0 0,.ptr 7 0 0,Zj,Zj,Zj,Zj,Zj,Zj,Zj,Zj,Zj,Zj,Zj,Zj,Zj,Zj,Zj,Zj,Zj,Zj,Zj,Zj,Zj,Zj,Zj,Zj,Zj,Zj,Zj,Zj,Zj,Zj,Zj,Zj,Zj,Zj,Zj,Zj,Zj,Zj,Zj,p64 ow.length,p64 k,Zj,Zj,Zj,Zj,Zj,Zj,Zj,Zj,Zj,Zj,Zj,Zj,Zj,Zj,Zj,Zj,Zj,Zj,Zj,Zj,Zj,Zj,Zj,Zj,Zj,Zj,Zj,Zj])
  (fun k v6 v2 ws ss=>[.cells 0 0 [slI f1 p1 .u8 ow,slI f2 p2 .i64 pr,slR f3 p3 f4 p4 .i64 su],.cells 0 0 [.nils,.nils],.cells 0 v2 (ss.map (PV.int .i64)),.cells 0 0 (zSol f1 p1 f2 p2 f3 p3 f4 p4 ow pr su),.gone,.cells 0 1 [slB false true w0,slB false true w1],.cells 0 v6 (ws.map (PV.int .u8)),.cells 0 1 [.ref 6 0 1 0 ow.length,.ref 2 0 1 0 ow.length]])
  (fun k _ _ _ _=>ow.length-k) 0 0 ver2 (List.replicate ow.length 0) st ⟨by omega,by simp,zs,fun v h=>by omega,fun v _ h=>⟨by simp[h],rfl⟩⟩ (by simp only[PW]) (by simp only[List.map_replicate]) ?_
 intro k v6 v2 ws ss ⟨hle,lw,ls,hlo,hhi⟩ ih2
 refine q15 (by kernel_rfl) ?_
 simp only[PP,P1,P2,P3,P4,P5,P6,P7,P8,P9,P10,P11,P12,P13,P14,L1,P15,N1,N2,N3,N4,N5,N6,N7,I1,I2,I3,I4,I5,I6,I7,reduceIte,reduceCtorEq]
 refine QIf.intro (fun d=>?_) (fun d=>?_)
 ·have hk':k<ow.length:=by omega
  have k0:(0:Int)≤k:=by omega
  have kn:(k:Int)<ow.length:=by omega
  have k1:k+1≤ow.length:=hk'
  have hwk:=q12 (k:=k) (by show _<1000000000000;omega)
  obtain⟨x,g1⟩:=q9 (xs:=w1) (k:=k) (by omega)
  obtain⟨o,g2⟩:=q9 (xs:=ow) (k:=k) hk'
  obtain⟨y,g3⟩:=q9 (xs:=st) (k:=k) (by omega)
  have eo:ow.getD k 0=o:=getD_some g2
  have ey:st.getD k 0=y:=getD_some g3
  obtain⟨hw0,hs0⟩:=hhi k (Nat.le_refl _) hk'
  have up:∀(ws' ss':List Int),ws'.length=ow.length→ss'.length=ow.length→ws'[k]? =some (if bm w1 k then 1 else 0)→ss'[k]? =some (if(if bm w1 k then 1 else 0)=o then y else-1)→(∀v,v≠k→ws'[v]? =ws[v]? ∧ss'[v]? =ss[v]?)→
    k+1≤ow.length∧ws'.length=ow.length∧ss'.length=ow.length∧(∀v,v<k+1→ws'[v]? =some (if bm w1 v then 1 else 0)∧ss'[v]? =some (if(if bm w1 v then 1 else 0)=ow.getD v 0 then st.getD v 0 else-1))∧∀v,k+1≤v→v<ow.length→ws'[v]? =some 0∧ss'[v]? =st[v]? :=by
   intro ws' ss' q1 q2 q3 q4 q5
   refine⟨by omega,q1,q2,fun v hv=>?_,fun v hv hv2=>?_⟩
   ·by_cases e:v=k
    ·subst e;rw[eo,ey];exact⟨q3,q4⟩
    ·rw[(q5 v e).1,(q5 v e).2];exact hlo v (by omega)
   ·rw[(q5 v (by omega)).1,(q5 v (by omega)).2];exact hhi v (by omega) hv2
  cases x
  ·have hx:¬bm w1 k:=fun h=>by rw[q65 g1]at h;cases h
   rw[if_neg hx]at up
   simp only[PP,P1,P2,P3,P4,P5,P6,P7,P8,P9,P10,P11,P12,P13,P14,L1,P15,N1,N2,N3,N4,N5,N6,N7,I1,I2,I3,I4,I5,I6,I7,reduceIte,reduceCtorEq,d,k0,kn,g1,g2,z1,lw,ls,hw0]
   refine QIf.intro (fun e=>?_) (fun e=>?_)
   ·have e:(0:Int)=o:=e
    simp only[PP,P1,P2,P3,P4,P5,P6,P7,P8,P9,P10,P11,P12,P13,P14,L1,P15,N1,N2,N3,N4,N5,N6,N7,I1,I2,I3,I4,I5,I6,I7,reduceIte,reduceCtorEq,hwk]
    exact q8 (ih2 (k+1) v6 v2 ws ss (up ws ss lw ls hw0 (by rw[hs0,g3,if_pos e]) fun v _=>⟨rfl,rfl⟩) (by omega)) (by simp only[PW])
   ·have e:¬(0:Int)=o:=e
    simp only[PP,P1,P2,P3,P4,P5,P6,P7,P8,P9,P10,P11,P12,P13,P14,L1,P15,N1,N2,N3,N4,N5,N6,N7,I1,I2,I3,I4,I5,I6,I7,reduceIte,reduceCtorEq,k0,kn,k1,lw,ls,hwk]
    exact q19 (ih2 (k+1) v6 (v2+1) ws (ss.set k (-1)) (up ws _ lw (by simp[ls]) hw0 (by rw[List.getElem?_set_self (by omega),if_neg e]) fun v hv=>⟨rfl,List.getElem?_set_ne (by omega)⟩) (by omega)) (by simp only[PW]) (by simp only[←List.map_set])
  ·have hx:bm w1 k:=(q65 g1).2 rfl
   rw[if_pos hx]at up
   have hset:(ws.set k 1)[k]? =some 1:=List.getElem?_set_self (by omega)
   have lset:(ws.set k 1).length=ow.length:=by simp[lw]
   simp only[PP,P1,P2,P3,P4,P5,P6,P7,P8,P9,P10,P11,P12,P13,P14,L1,P15,N1,N2,N3,N4,N5,N6,N7,I1,I2,I3,I4,I5,I6,I7,reduceIte,reduceCtorEq,d,k0,kn,k1,g1,g2,z1,lw,ls,←List.map_set,hset]
   refine QIf.intro (fun e=>?_) (fun e=>?_)
   ·have e:(1:Int)=o:=e
    simp only[PP,P1,P2,P3,P4,P5,P6,P7,P8,P9,P10,P11,P12,P13,P14,L1,P15,N1,N2,N3,N4,N5,N6,N7,I1,I2,I3,I4,I5,I6,I7,reduceIte,reduceCtorEq,hwk]
    exact q19 (ih2 (k+1) (v6+1) v2 (ws.set k 1) ss (up _ ss lset ls hset (by rw[hs0,g3,if_pos e]) fun v hv=>⟨List.getElem?_set_ne (by omega),rfl⟩) (by omega)) (by simp only[PW]) rfl
   ·have e:¬(1:Int)=o:=e
    simp only[PP,P1,P2,P3,P4,P5,P6,P7,P8,P9,P10,P11,P12,P13,P14,L1,P15,N1,N2,N3,N4,N5,N6,N7,I1,I2,I3,I4,I5,I6,I7,reduceIte,reduceCtorEq,k0,kn,k1,lw,ls,hwk]
    exact q19 (ih2 (k+1) (v6+1) (v2+1) (ws.set k 1) (ss.set k (-1)) (up _ _ lset (by simp[ls]) hset (by rw[List.getElem?_set_self (by omega),if_neg e]) fun v hv=>⟨List.getElem?_set_ne (by omega),List.getElem?_set_ne (by omega)⟩) (by omega)) (by simp only[PW]) (by simp only[←List.map_set])
 ·have hkn:k=ow.length:=by omega
  subst hkn
  have gw:∀v,v<ow.length→ws.getD v 0=if bm w1 v then 1 else 0:=fun v hv=>getD_some (hlo v hv).1
  have gs:∀v,v<ow.length→ss.getD v 0=if ws.getD v 0=ow.getD v 0 then st.getD v 0 else-1:=fun v hv=>by rw[gw v hv];exact getD_some (hlo v hv).2
  have eD:bm w=fun v=>v<ow.length:=funext fun v=>propext (hall v)
  have e1:bm w1=fun v=>v<ow.length∧ws.getD v 0=1:=funext fun v=>propext (by
   constructor
   ·intro h
    have hv:v<ow.length:=(hall v).1 ((Z.all v).2 (.inr h))
    exact⟨hv,by rw[gw v hv,if_pos h]⟩
   ·rintro⟨hv,h⟩
    rw[gw v hv]at h
    split at h
    ·assumption
    ·omega)
  have e0:bm w0=fun v=>v<ow.length∧ws.getD v 0=0:=funext fun v=>propext (by
   constructor
   ·intro h
    have hv:v<ow.length:=(hall v).1 ((Z.all v).2 (.inl h))
    exact⟨hv,by rw[gw v hv,if_neg (Z.dis v h)]⟩
   ·rintro⟨hv,h⟩
    rw[gw v hv]at h
    split at h
    ·omega
    ·rename_i q;exact((Z.all v).1 ((hall v).2 hv)).resolve_right q)
  have hst:∀v,v<ow.length→ws.getD v 0=ow.getD v 0→stN ss v=stN st v:=fun v hv h=>by
   unfold stN;rw[gs v hv,if_pos h]
  have q0:=Z.p0
  have q1:=Z.p1
  rw[eD,e0]at q0
  rw[eD,e1]at q1
  have hL:SolL ow pr su ws ss:=by
   refine⟨lw,ls,⟨fun v hv=>?_,q0.congr fun v hv h=>hst v hv.1 (by rw[hv.2];exact h.symm),q1.congr fun v hv h=>hst v hv.1 (by rw[hv.2];exact h.symm)⟩,fun v hv h=>?_,fun v hv h=>by rw[gs v hv,if_neg h]⟩
   ·show ws.getD v 0=0∨ws.getD v 0=1
    rw[gw v hv];split<;>simp
   ·rw[gs v hv,if_pos h,List.getD,List.getElem?_eq_getElem (by omega:v<st.length)]
    exact Z.nn _ (List.getElem_mem _)
  simp only[PP,P1,P2,P3,P4,P5,P6,P7,P8,P9,P10,P11,P12,P13,P14,L1,P15,N1,N2,N3,N4,N5,N6,N7,I1,I2,I3,I4,I5,I6,I7,reduceIte,reduceCtorEq,d,frzI lw,frzI ls]
  exact⟨_,PvWk.refl _,hk2 c1 ws ss hL⟩
end
theorem valid_O {ow pr:List Int} {su:List (List Int)} (V:Valid ow pr su) (ho:∀x∈ow,0≤x):∀v,v<ow.length→zO ow v=0∨zO ow v=1:=fun v hv=>by
 have h2:=(V.row v (by rw[V.s];exact hv)).2.2.1
 have h3:0≤ow.getD v 0:=by rw[List.getD,List.getElem?_eq_getElem hv];exact ho _ (List.getElem_mem hv)
 show ow.getD v 0=0∨ow.getD v 0=1
 omega
theorem valid_S {ow pr:List Int} {su:List (List Int)} (V:Valid ow pr su):∀v,v<ow.length→Sf su v≠[]∧∀u∈Sf su v,u<ow.length:=fun v hv=>⟨(Sf_ok V hv).1,(Sf_ok V hv).2.1⟩
theorem SolL.unique {ow pr:List Int} {su:List (List Int)} {ws ss:List Int} {w':Nat→Int} {s':Nat→Nat} (V:Valid ow pr su) (ho:∀x∈ow,0≤x) (L:SolL ow pr su ws ss) (h:IsSol ow.length (zO ow) (Sf su) (zP pr) w' s'):∀v,v<ow.length→ws.getD v 0=w' v:=
 IsSol.unique (valid_O V ho) (fun v hv=>(valid_S V v hv).2) L.sol h
theorem getD_ext {a b:List Int} (hl:a.length=b.length) (h:∀v,v<a.length→a.getD v 0=b.getD v 0):a=b:=by
 apply List.ext_getElem hl
 intro v h1 h2
 have:=h v h1
 rw[List.getD,List.getD,List.getElem?_eq_getElem h1,List.getElem?_eq_getElem h2]at this
 exact this
section
variable {tab:FuncId→Option AF} (T:HasA tab)
include T
end
theorem SolL.eq {ow pr:List Int} {su:List (List Int)} {ws ss ws' ss':List Int} (V:Valid ow pr su) (ho:∀x∈ow,0≤x) (L:SolL ow pr su ws ss) (L':SolL ow pr su ws' ss'):ws=ws':=
 getD_ext (by rw[L.lw,L'.lw]) fun v hv=>L.unique V ho L'.sol v (by rw[←L.lw];exact hv)
theorem SolL.w01 {ow pr:List Int} {su:List (List Int)} {ws ss:List Int} (L:SolL ow pr su ws ss):∀x∈ws,x=0∨x=1:=fun x hx=>by
 obtain⟨i,hi⟩:=List.getElem?_of_mem hx
 have:=L.sol.r01 i (by rw[←L.lw];exact q10 hi)
 simp only[getD_some hi]at this
 exact this
section
variable {ow pr ws ss:List Int} {su:List (List Int)} {p:Int} (V:Valid ow pr su) (L:SolL ow pr su ws ss) (hp:p=0∨p=1)
include V L hp
end
section
variable {tab:FuncId→Option AF} (T:HasA tab)
include T
end
end Go.Am.Ar

