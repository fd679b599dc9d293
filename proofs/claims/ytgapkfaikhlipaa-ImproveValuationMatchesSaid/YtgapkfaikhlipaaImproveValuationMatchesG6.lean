/- The law that improving a strategy decreases no value, and what goes with it. -/
import Derived.Test.YtgapkfaikhlipaaImproveValuationMatchesG4
import Derived.Test.YtgapkfaikhlipaaImproveValuationMatchesG5
import Derived.Test.YtgapkfaikhlipaaImproveValuationMatchesG0
set_option linter.unusedVariables false
set_option linter.unusedSimpArgs false
set_option maxRecDepth 10000
namespace Go.Am.Ar
open Go.Am.PV renaming junk→Zj
open Go.Am renaming pchk→P1,pold→P2,PKNo→P3,ppack→P4,PObj.under→P5,pput→P6,ptset→P7,q55→P8,pev→P9,ofAV→P10,q31→P11,ppad→P12,pfill→P13,q30→P14,AO.effect→P15
open List renaming replicate→L1
open Nat renaming reduceAdd→N1,reduceSub→N2,reduceMul→N3,reduceLT→N4,reduceLeDiff→N5,reduceEqDiff→N6,reduceBEq→N7
open Int renaming reduceToNat→I1,reduceLT→I2,reduceLE→I3,reduceEq→I4,reduceAdd→I5,reduceSub→I6,reduceNeg→I7
section
variable {tab:FuncId→Option AF} (T:HasA tab)
include T
end
theorem lvO_get:∀(l:List (Vl×Nat×Nat)) (P:Mem) (k:Nat) (y:Vl×Nat×Nat),l[k]? =some y→(P++lvO l)[P.length+3+k*4]? =some (.cells y.2.1 y.2.2 (y.1.se.map p64))∧
  ∀(x:Vl) (g v:Nat),(P++lvO l).set (P.length+3+k*4) (.cells g v (x.se.map p64))=P++lvO (l.set k (x,g,v))
 | [],_,k,y,h=>by simp at h
 | z::l,P,0,y,h=>by
  cases h
  refine⟨?_,fun x g v=>?_⟩
  ·rw[lvO,List.getElem?_append_right (by omega),show P.length+3+0*4-P.length=3 by omega];rfl
  ·rw[lvO,List.set_append_right _ _ (by omega),show P.length+3+0*4-P.length=3 by omega];rfl
 | z::l,P,k+1,y,h=>by
  have ih:=lvO_get l (P++[.gone,.gone,.gone,.cells z.2.1 z.2.2 (z.1.se.map p64)]) k y (by simpa using h)
  have e:∀X:Mem,P++[PObj.gone,.gone,.gone,.cells z.2.1 z.2.2 (z.1.se.map p64)]++X=P++ .gone:: .gone:: .gone:: .cells z.2.1 z.2.2 (z.1.se.map p64)::X:=fun X=>by simp
  have e2:(P++[PObj.gone,.gone,.gone,.cells z.2.1 z.2.2 (z.1.se.map p64)]).length+3+k*4=P.length+3+(k+1)*4:=by simp;omega
  rw[e2,e]at ih
  refine⟨by rw[lvO];exact ih.1,fun x g v=>?_⟩
  have:=ih.2 x g v
  rw[e]at this
  rw[List.set_cons_succ,lvO,lvO];exact this
theorem lvC_set:∀(l:List (Vl×Nat×Nat)) (b k:Nat) (y x:Vl) (g u v:Nat),l[k]? =some (y,g,u)→x.cy=y.cy→x.st=y.st→x.se.length=y.se.length→lvC b (l.set k (x,g,v))=lvC b l
 | [],b,k,y,x,g,u,v,h,_,_,_=>by simp at h
 | z::l,b,0,y,x,g,u,v,h,h1,h2,h3=>by
  cases h
  rw[List.set_cons_zero,lvC,lvC,h1,h2,h3]
 | z::l,b,k+1,y,x,g,u,v,h,h1,h2,h3=>by
  rw[List.set_cons_succ,lvC,lvC,lvC_set l (b+4) k y x g u v (by simpa using h) h1 h2 h3]
theorem psub_lvC:∀(l:List (Vl×Nat×Nat)) (b k:Nat) (y:Vl×Nat×Nat),l[k]? =some y→psub (lvC b l) (k*3) 3=[p64 y.1.cy,.ref (b+k*4) y.2.1 1 0 y.1.se.length,p64 y.1.st]
 | [],b,k,y,h=>by simp at h
 | z::l,b,0,y,h=>by cases h;rfl
 | z::l,b,k+1,y,h=>by
  have:=psub_lvC l (b+4) k y (by simpa using h)
  rw[lvC]
  have e:psub (p64 z.1.cy:: .ref b z.2.1 1 0 z.1.se.length::p64 z.1.st::lvC (b+4) l) ((k+1)*3) 3=psub (lvC (b+4) l) (k*3) 3:=by
   unfold psub
   rw[show(k+1)*3=k*3+3 by omega];rfl
  rw[e,this,show b+4+k*4=b+(k+1)*4 by omega]
section
variable {tab:FuncId→Option AF} (T:HasA tab)
include T
set_option maxHeartbeats 2000000 in
theorem ivalm_p {F:GF} {ow pr st:List Int} {su:List (List Int)} (ho:∀x∈ow,0≤x):
  SemC tab 3 [.agg (gmF F ow pr su),slI false false .i64 st] [] fun r _=>r= .bool true:=by
 refine q33 T.h3 ?_
 simp only[af3,PP,P1,P2,P3,P4,P5,P6,P7,P8,P9,P10,P11,P12,P13,P14,L1,P15,N1,N2,N3,N4,N5,N6,N7,I1,I2,I3,I4,I5,I6,I7,reduceIte,reduceCtorEq]
 refine long32_p T (ls:=[st]) (f5:=true) (o5:=true) (f6:=false) (o6:=false) (by show 1<1000000000000;omega) (fun r hr=>?_)
 cases r with
 | true=>
  simp only[PP,P1,P2,P3,P4,P5,P6,P7,P8,P9,P10,P11,P12,P13,P14,L1,P15,N1,N2,N3,N4,N5,N6,N7,I1,I2,I3,I4,I5,I6,I7,reduceIte,reduceCtorEq]
  refine SemC_true T.awake ?_
  simp only[PP,P1,P2,P3,P4,P5,P6,P7,P8,P9,P10,P11,P12,P13,P14,L1,P15,N1,N2,N3,N4,N5,N6,N7,I1,I2,I3,I4,I5,I6,I7,reduceIte,reduceCtorEq]
 | false=>
 obtain⟨hl,h14⟩:=hr rfl
 have S:=longM_false hl
 have B:=S.bnd
 have lst:st.length<big:=by have:=S.l st (by simp);show _<1000000000000;omega
 simp only[PP,P1,P2,P3,P4,P5,P6,P7,P8,P9,P10,P11,P12,P13,P14,L1,P15,N1,N2,N3,N4,N5,N6,N7,I1,I2,I3,I4,I5,I6,I7,reduceIte,reduceCtorEq]
 refine copyGame_p T B ?_
 simp only[PP,P1,P2,P3,P4,P5,P6,P7,P8,P9,P10,P11,P12,P13,P14,L1,P15,N1,N2,N3,N4,N5,N6,N7,I1,I2,I3,I4,I5,I6,I7,reduceIte,reduceCtorEq]
 refine copyInts_p T lst ?_
 simp only[PP,P1,P2,P3,P4,P5,P6,P7,P8,P9,P10,P11,P12,P13,P14,L1,P15,N1,N2,N3,N4,N5,N6,N7,I1,I2,I3,I4,I5,I6,I7,reduceIte,reduceCtorEq]
 refine SemC_new (.same (by simp only[PP,P1,P2,P3,P4,P5,P6,P7,P8,P9,P10,P11,P12,P13,P14,L1,P15,N1,N2,N3,N4,N5,N6,N7,I1,I2,I3,I4,I5,I6,I7,reduceIte,reduceCtorEq]) (.same (by simp only[PP,P1,P2,P3,P4,P5,P6,P7,P8,P9,P10,P11,P12,P13,P14,L1,P15,N1,N2,N3,N4,N5,N6,N7,I1,I2,I3,I4,I5,I6,I7,reduceIte,reduceCtorEq]) .nil)) (age_gm2 ⟨false,true,false,true,false,true,false,true⟩ _ _ _ _ _ _) (valuation_l T B h14 lst (fun e N=>?_) (fun e N u L st1 hN R hL=>?_))
 ·refine⟨N.map fun _=> .gone,fun i o h=>?_,by rw[List.length_map];exact Nat.le_refl _,rfl,?_,?_⟩
  ·rw[List.getElem?_map]at h
   obtain⟨_,_,rfl⟩:=Option.map_eq_some_iff.1 h
   exact .inl rfl
  ·rw[List.all_map];exact List.all_eq_true.2 fun _ _=>rfl
  simp only[PP,P1,P2,P3,P4,P5,P6,P7,P8,P9,P10,P11,P12,P13,P14,L1,P15,N1,N2,N3,N4,N5,N6,N7,I1,I2,I3,I4,I5,I6,I7,reduceIte,reduceCtorEq,PV.sh,shL]
  refine Improve_p T (F:=⟨false,true,false,true,false,true,false,true⟩) B h14 lst (fun _=>?_) (fun e2=>absurd e2 e)
  simp only[PP,P1,P2,P3,P4,P5,P6,P7,P8,P9,P10,P11,P12,P13,P14,L1,P15,N1,N2,N3,N4,N5,N6,N7,I1,I2,I3,I4,I5,I6,I7,reduceIte,reduceCtorEq]
  refine rWrong_p T B ho lst ?_
  have w0:IntKind.i64.wrap 0=0:=by decide
  simp only[PP,P1,P2,P3,P4,P5,P6,P7,P8,P9,P10,P11,P12,P13,P14,L1,P15,N1,N2,N3,N4,N5,N6,N7,I1,I2,I3,I4,I5,I6,I7,reduceIte,reduceCtorEq]
  refine equalGame_p T B ?_
  simp only[PP,P1,P2,P3,P4,P5,P6,P7,P8,P9,P10,P11,P12,P13,P14,L1,P15,N1,N2,N3,N4,N5,N6,N7,I1,I2,I3,I4,I5,I6,I7,reduceIte,reduceCtorEq]
  refine equalInts_p T lst ?_
  simp only[PP,P1,P2,P3,P4,P5,P6,P7,P8,P9,P10,P11,P12,P13,P14,L1,P15,N1,N2,N3,N4,N5,N6,N7,I1,I2,I3,I4,I5,I6,I7,reduceIte,reduceCtorEq,e,w0]
  refine SemC_true T.awake ?_
  simp only[PP,P1,P2,P3,P4,P5,P6,P7,P8,P9,P10,P11,P12,P13,P14,L1,P15,N1,N2,N3,N4,N5,N6,N7,I1,I2,I3,I4,I5,I6,I7,reduceIte,reduceCtorEq]
 refine⟨[.gone,.gone,.gone,.gone,.gone,.gone,.gone]++ .cells 0 u (lvC 11 L)::lvO L,fun i o h=>?_,by simp[hN];omega,rfl,by simp only[List.all_append,List.all_cons,List.all_nil,shOkO,lvC_ok,lvO_ok,Bool.and_self],?_⟩
 ·by_cases q:i<7
  ·rw[List.getElem?_append_left q]at h
   match i with
   | 0=>cases h;exact .inl rfl
   | 1=>cases h;exact .inl rfl
   | 2=>cases h;exact .inl rfl
   | 3=>cases h;exact .inl rfl
   | 4=>cases h;exact .inl rfl
   | 5=>cases h;exact .inl rfl
   | 6=>cases h;exact .inl rfl
   | i+7=>omega
  ·rw[List.getElem?_append_right (by show 7≤i;omega)]at h
   rw[List.getElem?_append_right (by omega),hN];exact .inr h
 obtain⟨hc,hstl,hst⟩:=comE_ok e
 have V:=q22 hc
 have n1:=V.n1
 have hLl:L.length=ow.length:=by
  have:=congrArg List.length hL
  rw[List.length_map,q19,q23,R.ok.l]at this
  exact this
 simp only[PP,P1,P2,P3,P4,P5,P6,P7,P8,P9,P10,P11,P12,P13,P14,L1,P15,N1,N2,N3,N4,N5,N6,N7,I1,I2,I3,I4,I5,I6,I7,reduceIte,reduceCtorEq,PV.sh,shL,shO,lvC_sh,lvO_sh]
 refine Improve_p T (F:=⟨false,true,false,true,false,true,false,true⟩) B h14 lst (fun e2=>absurd e e2) (fun _ st2 R2=>?_)
 simp only[PP,P1,P2,P3,P4,P5,P6,P7,P8,P9,P10,P11,P12,P13,P14,L1,P15,N1,N2,N3,N4,N5,N6,N7,I1,I2,I3,I4,I5,I6,I7,reduceIte,reduceCtorEq]
 refine rWrong_p T B ho lst ?_
 rw[e]
 simp only[PP,P1,P2,P3,P4,P5,P6,P7,P8,P9,P10,P11,P12,P13,P14,L1,P15,N1,N2,N3,N4,N5,N6,N7,I1,I2,I3,I4,I5,I6,I7,reduceIte,reduceCtorEq]
 refine equalGame_p T B ?_
 simp only[PP,P1,P2,P3,P4,P5,P6,P7,P8,P9,P10,P11,P12,P13,P14,L1,P15,N1,N2,N3,N4,N5,N6,N7,I1,I2,I3,I4,I5,I6,I7,reduceIte,reduceCtorEq]
 refine equalInts_p T lst ?_
 simp only[PP,P1,P2,P3,P4,P5,P6,P7,P8,P9,P10,P11,P12,P13,P14,L1,P15,N1,N2,N3,N4,N5,N6,N7,I1,I2,I3,I4,I5,I6,I7,reduceIte,reduceCtorEq]
 refine rcount_p T B V.s fun cn=>?_
 simp only[PP,P1,P2,P3,P4,P5,P6,P7,P8,P9,P10,P11,P12,P13,P14,L1,P15,N1,N2,N3,N4,N5,N6,N7,I1,I2,I3,I4,I5,I6,I7,reduceIte,reduceCtorEq]
 refine QIf.intro (fun q=>?_) (fun q=>?_)
 ·simp only[PP,P1,P2,P3,P4,P5,P6,P7,P8,P9,P10,P11,P12,P13,P14,L1,P15,N1,N2,N3,N4,N5,N6,N7,I1,I2,I3,I4,I5,I6,I7,reduceIte,reduceCtorEq,q]
  refine SemC_true T.awake ?_
  simp only[PP,P1,P2,P3,P4,P5,P6,P7,P8,P9,P10,P11,P12,P13,P14,L1,P15,N1,N2,N3,N4,N5,N6,N7,I1,I2,I3,I4,I5,I6,I7,reduceIte,reduceCtorEq]
 simp only[PP,P1,P2,P3,P4,P5,P6,P7,P8,P9,P10,P11,P12,P13,P14,L1,P15,N1,N2,N3,N4,N5,N6,N7,I1,I2,I3,I4,I5,I6,I7,reduceIte,reduceCtorEq,q]
 refine rvaluation_p T B ho h14 e R ?_
 simp only[PP,P1,P2,P3,P4,P5,P6,P7,P8,P9,P10,P11,P12,P13,P14,L1,P15,N1,N2,N3,N4,N5,N6,N7,I1,I2,I3,I4,I5,I6,I7,reduceIte,reduceCtorEq]
 refine rimprove_p T B ho h14 e R2 ?_
 have hil:(impR ow pr su st2).length<big:=by rw[impR_len];show _<1000000000000;omega
 obtain⟨ch,hch⟩:∃ch,ch=chgM 1 ow pr su (q19 ow pr su st2) 0 st2:=⟨_,rfl⟩
 rw[←hch]
 simp only[PP,P1,P2,P3,P4,P5,P6,P7,P8,P9,P10,P11,P12,P13,P14,L1,P15,N1,N2,N3,N4,N5,N6,N7,I1,I2,I3,I4,I5,I6,I7,reduceIte,reduceCtorEq]
 cases ch
 all_goals
  refine equalInts_p T hil ?_
  simp only[PP,P1,P2,P3,P4,P5,P6,P7,P8,P9,P10,P11,P12,P13,P14,L1,P15,N1,N2,N3,N4,N5,N6,N7,I1,I2,I3,I4,I5,I6,I7,reduceIte,reduceCtorEq]
  refine loop2 (fun(k:Nat) (L':List (Vl×Nat×Nat))=>k≤ow.length∧lvC 13 L'=lvC 13 L∧L'.length=ow.length∧∀j,k≤j→L'[j]? =L[j]?) (fun k L'=>[Zj,Zj,Zj,Zj,Zj,Zj,Zj,.ref 9 0 3 0 ow.length,Zj,Zj,Zj,Zj,Zj,.sl false true 3 ow.length (vlsL (q19 ow pr su st1)),Zj,Zj,p64 k,Zj,Zj,Zj,Zj,Zj,Zj,Zj,Zj,Zj,Zj,Zj,Zj,Zj,Zj,Zj,Zj,Zj,Zj,Zj,Zj,Zj,Zj,Zj,Zj,Zj,Zj,Zj,Zj,Zj,Zj,Zj,Zj,Zj,Zj,Zj,Zj,Zj,Zj,Zj,Zj,Zj,Zj,Zj,Zj,Zj,Zj,Zj,Zj,Zj,Zj,Zj,Zj,Zj,Zj,Zj,Zj,Zj,Zj,Zj,Zj,Zj,Zj,Zj,Zj,Zj,Zj,Zj,Zj,Zj,Zj,Zj,Zj,Zj,Zj,Zj,Zj,Zj,Zj,Zj,Zj,Zj,Zj,Zj,Zj,Zj,Zj,Zj,Zj,Zj,Zj,Zj,Zj,Zj,Zj,Zj,Zj,Zj,Zj,Zj,Zj,Zj,Zj,Zj,Zj,Zj,Zj,Zj,Zj,Zj,Zj,Zj,Zj])
   (fun k L'=>[.cells 0 0 (gmF F ow pr su),.cells 0 1 [slI false true .u8 ow,slI false true .i64 pr,slR false true false true .i64 su],.gone,.gone,.gone,.gone,.gone,.gone,.gone,.cells 0 u (lvC 13 L)]++lvO L') (fun k _=>ow.length-k) 0 L ⟨Nat.zero_le _,rfl,hLl,fun _ _=>rfl⟩ (by simp only[PW]) rfl ?_
  intro k L' ⟨hle,hC,hLl',hrest⟩ ih
  refine q15 (by kernel_rfl) ?_
  simp only[PP,P1,P2,P3,P4,P5,P6,P7,P8,P9,P10,P11,P12,P13,P14,L1,P15,N1,N2,N3,N4,N5,N6,N7,I1,I2,I3,I4,I5,I6,I7,reduceIte,reduceCtorEq]
  refine QIf.intro (fun c=>?_) (fun c=>?_)
  ·have hk:k<ow.length:=by omega
   have k0:(0:Int)≤k:=by omega
   have kn:(k:Int)<ow.length:=by omega
   have hw:=q10 (k:=k) (by show _<1000000000000;omega)
   obtain⟨⟨x,g,v0⟩,hx⟩:=q13 (xs:=L) (k:=k) (by omega)
   have hx':L'[k]? =some (x,g,v0):=by rw[hrest k (Nat.le_refl _)];exact hx
   have hvx:(q19 ow pr su st1)[k]? =some x:=by rw[←hL,List.getElem?_map,hx];rfl
   have hps1:=psub_lvC L 13 k _ hx
   have hps2:=psub_vls hvx
   have hb1:k*3+3≤(lvC 13 L).length:=by rw[lvC_len];omega
   have hb2:k*3+3≤(vlsL (q19 ow pr su st1)).length:=by rw[q64,←hL,List.length_map];omega
   have hxs:x.se.length<big:=((vals_in hc R.ok) x (List.mem_of_getElem? hvx)).b
   obtain⟨P,hP⟩:∃P:Mem,P=[.cells 0 0 (gmF F ow pr su),.cells 0 1 [slI false true .u8 ow,slI false true .i64 pr,slR false true false true .i64 su],.gone,.gone,.gone,.gone,.gone,.gone,.gone,.cells 0 u (lvC 13 L)]:=⟨_,rfl⟩
   have hget:=lvO_get L' P k _ hx'
   have hPl:P.length+3=13:=by rw[hP];rfl
   rw[hPl]at hget
   obtain⟨hg1,hg2⟩:=hget
   rw[hP]at hg1 hg2
   simp only[List.cons_append,List.nil_append]at hg1 hg2
   simp only[PP,P1,P2,P3,P4,P5,P6,P7,P8,P9,P10,P11,P12,P13,P14,L1,P15,N1,N2,N3,N4,N5,N6,N7,I1,I2,I3,I4,I5,I6,I7,reduceIte,reduceCtorEq,c,k0,kn,hb1,hb2,hps1,hps2]
   refine SemC_bor (.agg (.same (by simp only[PP,P1,P2,P3,P4,P5,P6,P7,P8,P9,P10,P11,P12,P13,P14,L1,P15,N1,N2,N3,N4,N5,N6,N7,I1,I2,I3,I4,I5,I6,I7,reduceIte,reduceCtorEq]) (.ints hg1 rfl (.same (by simp only[PP,P1,P2,P3,P4,P5,P6,P7,P8,P9,P10,P11,P12,P13,P14,L1,P15,N1,N2,N3,N4,N5,N6,N7,I1,I2,I3,I4,I5,I6,I7,reduceIte,reduceCtorEq]) .nil))) (.same (by simp only[PP,P1,P2,P3,P4,P5,P6,P7,P8,P9,P10,P11,P12,P13,P14,L1,P15,N1,N2,N3,N4,N5,N6,N7,I1,I2,I3,I4,I5,I6,I7,reduceIte,reduceCtorEq]) .nil)) (same_p T (a:=x) (b:=x) hxs fun r hr=>⟨rfl,?_⟩)
   obtain rfl:r=true:=hr.2 rfl
   simp only[PP,P1,P2,P3,P4,P5,P6,P7,P8,P9,P10,P11,P12,P13,P14,L1,P15,N1,N2,N3,N4,N5,N6,N7,I1,I2,I3,I4,I5,I6,I7,reduceIte,reduceCtorEq,c,k0,kn,hb1,hps1]
   have hf:(lvC 13 L)[k*3+1]? =some (.ref (13+k*4) g 1 0 x.se.length):=by
    have:=congrArg (fun l:List PV=>l[1]?) hps1
    simp only[psub,List.getElem?_take,List.getElem?_drop]at this
    simpa using this
   have hxb:x.se.length<1000000000000:=hxs
   simp only[PP,P1,P2,P3,P4,P5,P6,P7,P8,P9,P10,P11,P12,P13,P14,L1,P15,N1,N2,N3,N4,N5,N6,N7,I1,I2,I3,I4,I5,I6,I7,reduceIte,reduceCtorEq,hf]
   refine SemC_at (pre:=[]) (post:=[]) hg1 (by simp only[PP,P1,P2,P3,P4,P5,P6,P7,P8,P9,P10,P11,P12,P13,P14,L1,P15,N1,N2,N3,N4,N5,N6,N7,I1,I2,I3,I4,I5,I6,I7,reduceIte,reduceCtorEq]) rfl rfl (overI_l T rfl hxb fun v ys hy=>⟨by simp only[PP,P1,P2,P3,P4,P5,P6,P7,P8,P9,P10,P11,P12,P13,P14,L1,P15,N1,N2,N3,N4,N5,N6,N7,I1,I2,I3,I4,I5,I6,I7,reduceIte,reduceCtorEq],v,_,[],rfl,by simp only[PP,P1,P2,P3,P4,P5,P6,P7,P8,P9,P10,P11,P12,P13,P14,L1,P15,N1,N2,N3,N4,N5,N6,N7,I1,I2,I3,I4,I5,I6,I7,reduceIte,reduceCtorEq],?_⟩)
   rw[hg2 ⟨x.cy,ys,x.st⟩ g v]
   simp only[PP,P1,P2,P3,P4,P5,P6,P7,P8,P9,P10,P11,P12,P13,P14,L1,P15,N1,N2,N3,N4,N5,N6,N7,I1,I2,I3,I4,I5,I6,I7,reduceIte,reduceCtorEq,hw]
   refine q8 (ih (k+1) (L'.set k (⟨x.cy,ys,x.st⟩,g,v)) ⟨by omega,by rw[lvC_set L' 13 k x ⟨x.cy,ys,x.st⟩ g v0 v hx' rfl rfl hy,hC],by rw[List.length_set];exact hLl',fun j hj=>by rw[List.getElem?_set_ne (by omega)];exact hrest j (by omega)⟩ (by omega)) (by simp only[PW])
  ·simp only[PP,P1,P2,P3,P4,P5,P6,P7,P8,P9,P10,P11,P12,P13,P14,L1,P15,N1,N2,N3,N4,N5,N6,N7,I1,I2,I3,I4,I5,I6,I7,reduceIte,reduceCtorEq,c]
   refine SemC_true T.awake ?_
   simp only[PP,P1,P2,P3,P4,P5,P6,P7,P8,P9,P10,P11,P12,P13,P14,L1,P15,N1,N2,N3,N4,N5,N6,N7,I1,I2,I3,I4,I5,I6,I7,reduceIte,reduceCtorEq]
theorem ivalm_all (args:List AV) (h:H) (hs:ShVs [gameTy,.slice (.int .i64)] args h):
  ∃n h',(run tab n).call 3 args h=some (.bool true,h'):=by
 obtain⟨a,b,rfl,ha,hb⟩:=shVs2 hs
 obtain⟨ow,pr,su,r1,N⟩:=arg_game ha
 obtain⟨st,r2,_⟩:=arg_ints hb
 exact run_of_C (law_of_sem (.cons r1 (.cons r2 (.nil _))) (ivalm_p T (F:=F0) (fun x hx=>(N.o x hx).1)))
end
end Go.Am.Ar

