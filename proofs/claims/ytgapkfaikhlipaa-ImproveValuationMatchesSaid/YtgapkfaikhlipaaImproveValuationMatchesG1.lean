/- Contracts: plays that follow a strategy, and their winners, and what goes with it. -/
import Derived.Test.YtgapkfaikhlipaaImproveValuationMatchesG0
import Derived.Test.YtgapkfaikhlipaaPmC
set_option linter.unusedVariables false
set_option linter.unusedSimpArgs false
set_option maxRecDepth 10000
namespace Go.Am.Ar
open Go.Am.PV renaming junk→Zj
open Go.Am renaming pchk→P1,pold→P2,PKNo→P3,ppack→P4,PObj.under→P5,pput→P6,ptset→P7,q55→P8,pev→P9,ofAV→P10,q31→P11,ppad→P12,pfill→P13,q30→P14,AO.effect→P15
open List renaming replicate→L1
open Nat renaming reduceAdd→N1,reduceSub→N2,reduceMul→N3,reduceLT→N4,reduceLeDiff→N5,reduceEqDiff→N6,reduceBEq→N7
open Int renaming reduceToNat→I1,reduceLT→I2,reduceLE→I3,reduceEq→I4,reduceAdd→I5,reduceSub→I6,reduceNeg→I7
def idxI (v:Int):Nat→List Int→Int
 | _,[]=> -1
 | k,x::l=>if v=x then(k:Int) else idxI v (k+1) l
theorem idxI_spec (v:Int):∀(l:List Int) (k:Nat),(v∉l∧idxI v k l= -1)∨∃i,l[i]? =some v∧v∉l.take i∧idxI v k l=((k+i:Nat):Int)
 | [],k=> .inl ⟨by simp,rfl⟩
 | x::l,k=>by
  unfold idxI
  by_cases h:v=x
  ·rw[if_pos h];exact .inr ⟨0,by simp[h],by simp,rfl⟩
  ·rw[if_neg h]
   rcases idxI_spec v l (k+1) with⟨h1,h2⟩ | ⟨i,h1,h2,h3⟩
   ·exact .inl ⟨by simp[h,h1],h2⟩
   ·refine .inr ⟨i+1,by simpa using h1,by simp[h,h2],?_⟩
    rw[h3];congr 1;omega
def q63 (st:List Int):Nat→Int→List Int→List Int×List Int
 | 0,_,all=>(all,[])
 | n+1,v,all=>if 0≤idxI v 0 all then(all.take (idxI v 0 all).toNat,all.drop (idxI v 0 all).toNat) else q63 st n (st.getD v.toNat 0) (all++[v])
def movM (su:List (List Int)):Nat→List Int→Bool
 | _,[]=>true
 | k,u::l=>if u∈su.getD k [] then movM su (k+1) l else false
def playE (ow pr:List Int) (su:List (List Int)) (st:List Int) (from':Int):Int:=
 if checkM ow pr su=0 then(if from'<0 then 8 else if(ow.length:Int)≤from' then 8 else if(st.length:Int)=ow.length then(if movM su 0 st=true then 0 else 13) else 2) else checkM ow pr su
def playM (ow pr:List Int) (su:List (List Int)) (st:List Int) (from':Int):PV:=
 if playE ow pr su st from'=0 then .tuple [slI false true .i64 (q63 st (ow.length+1) from' []).1,slI false true .i64 (q63 st (ow.length+1) from' []).2,p64 0]
 else .tuple [slI false true .i64 [],slI false true .i64 [],p64 (playE ow pr su st from')]
theorem movM_get {su:List (List Int)} :∀{l:List Int} {k:Nat},movM su k l=true→∀(i:Nat) (u:Int),l[i]? =some u→u∈su.getD (k+i) []
 | [],k,h,i,u,q=>by simp at q
 | x::l,k,h,i,u,q=>by
  unfold movM at h
  split at h
  ·rename_i hm
   cases i with
   | zero=>simp at q;subst q;exact hm
   | succ i=>
    have:=movM_get h i u (by simpa using q)
    rw[show k+(i+1)=k+1+i by omega];exact this
  ·cases h
section
variable {tab:FuncId→Option AF} (T:HasA tab)
include T
theorem index_p {M:Mem} {K:PV→Mem→Prop} {f o:Bool} {xs:List Int} {v:Int} (hm:xs.length<big) (hk:K (p64 (idxI v 0 xs)) M):
  SemC tab 56 [slI f o .i64 xs,p64 v] M K:=by
 refine q11 T.h56 (by simp only[PP,P1,P2,P3,P4,P5,P6,P7,P8,P9,P10,P11,P12,P13,P14,L1,P15,N1,N2,N3,N4,N5,N6,N7,I1,I2,I3,I4,I5,I6,I7,reduceIte,reduceCtorEq]) ?_
 simp only[af56,PP,P1,P2,P3,P4,P5,P6,P7,P8,P9,P10,P11,P12,P13,P14,L1,P15,N1,N2,N3,N4,N5,N6,N7,I1,I2,I3,I4,I5,I6,I7,reduceIte,reduceCtorEq]
 refine loop1 (fun(k:Nat)=>k≤xs.length∧K (p64 (idxI v k (xs.drop k))) M) (fun k=>[slI f o .i64 xs,p64 v,Zj,Zj,Zj,Zj,Zj,p64 xs.length,p64 k,Zj,Zj,Zj,Zj,Zj,Zj,Zj,Zj,Zj,Zj]) (fun _=>[]) (fun k=>xs.length-k) 0 ⟨by omega,hk⟩ (by simp only[PW]) rfl ?_
 intro k ⟨hle,hq⟩ ih
 refine q15 (by kernel_rfl) ?_
 simp only[PP,P1,P2,P3,P4,P5,P6,P7,P8,P9,P10,P11,P12,P13,P14,L1,P15,N1,N2,N3,N4,N5,N6,N7,I1,I2,I3,I4,I5,I6,I7,reduceIte,reduceCtorEq]
 refine QIf.intro (fun c=>?_) (fun c=>?_)
 ·have hk':k<xs.length:=by omega
  obtain⟨x,g⟩:=q13 hk'
  rw[drop_some g]at hq
  have hw:=q10 (k:=k) (by omega)
  have h0:(0:Int)≤k:=by omega
  simp only[PP,P1,P2,P3,P4,P5,P6,P7,P8,P9,P10,P11,P12,P13,P14,L1,P15,N1,N2,N3,N4,N5,N6,N7,I1,I2,I3,I4,I5,I6,I7,reduceIte,reduceCtorEq,idxI,c,g,h0]at hq ⊢
  refine QIf.intro (fun h1=>?_) (fun h1=>?_)
  ·simp only[PP,P1,P2,P3,P4,P5,P6,P7,P8,P9,P10,P11,P12,P13,P14,L1,P15,N1,N2,N3,N4,N5,N6,N7,I1,I2,I3,I4,I5,I6,I7,reduceIte,reduceCtorEq,h1]at hq ⊢
   exact hq
  simp only[PP,P1,P2,P3,P4,P5,P6,P7,P8,P9,P10,P11,P12,P13,P14,L1,P15,N1,N2,N3,N4,N5,N6,N7,I1,I2,I3,I4,I5,I6,I7,reduceIte,reduceCtorEq,h1]at hq ⊢
  simp only[hw]
  exact q8 (ih (k+1) ⟨by omega,hq⟩ (by omega)) (by simp only[PW])
 ·rw[List.drop_eq_nil_of_le (by omega)]at hq
  simp only[PP,P1,P2,P3,P4,P5,P6,P7,P8,P9,P10,P11,P12,P13,P14,L1,P15,N1,N2,N3,N4,N5,N6,N7,I1,I2,I3,I4,I5,I6,I7,reduceIte,reduceCtorEq,c]
  exact hq
theorem contains_p {M:Mem} {K:PV→Mem→Prop} {f o:Bool} {xs:List Int} {v:Int} (hm:xs.length<big) (hk:K (.bool (decide (v∈xs))) M):
  SemC tab 60 [slI f o .i64 xs,p64 v] M K:=by
 refine q11 T.h60 (by simp only[PP,P1,P2,P3,P4,P5,P6,P7,P8,P9,P10,P11,P12,P13,P14,L1,P15,N1,N2,N3,N4,N5,N6,N7,I1,I2,I3,I4,I5,I6,I7,reduceIte,reduceCtorEq]) ?_
 simp only[af60,PP,P1,P2,P3,P4,P5,P6,P7,P8,P9,P10,P11,P12,P13,P14,L1,P15,N1,N2,N3,N4,N5,N6,N7,I1,I2,I3,I4,I5,I6,I7,reduceIte,reduceCtorEq]
 refine index_p T hm ?_
 have e:decide (0≤idxI v 0 xs)=decide (v∈xs):=by
  rcases idxI_spec v xs 0 with⟨h1,h2⟩ | ⟨i,h1,h2,h3⟩
  ·rw[h2];simp[h1]
  ·rw[h3];simp[List.mem_of_getElem? h1]
 simp only[PP,P1,P2,P3,P4,P5,P6,P7,P8,P9,P10,P11,P12,P13,P14,L1,P15,N1,N2,N3,N4,N5,N6,N7,I1,I2,I3,I4,I5,I6,I7,reduceIte,reduceCtorEq,e]
 exact hk
theorem clone_r {M:Mem} {K:PV→Mem→Prop} {id g ver off n:Nat} {xs:List Int} (hM:M[id]? =some (.cells g ver (xs.map (PV.int .i64)))) (hl:off+n≤xs.length) (hb:xs.length<big) (hc:M.all (cutOk M.length)=true)
  (hk:K (slI false true .i64 ((xs.drop off).take n)) M):SemC tab 61 [.ref id g 1 off n] M K:=by
 have hb':xs.length<1000000000000:=hb
 have b1:n*8≤140737488355328:=by omega
 have b2:n≤9223372036854775807:=by omega
 have hlt:(id==M.length)=false:=beq_eq_false_iff_ne.2 (by have:=q12 hM;omega)
 have hps:psub (xs.map (PV.int .i64)) off n=((xs.drop off).take n).map (PV.int .i64):=by simp[psub,List.map_drop,List.map_take]
 have hln:((xs.drop off).take n).length=n:=by rw[List.length_take,List.length_drop];omega
 refine SemC_wk (SemC_gh (q33 T.h61 ?_))
 simp only[af61,PP,P1,P2,P3,P4,P5,P6,P7,P8,P9,P10,P11,P12,P13,P14,L1,P15,N1,N2,N3,N4,N5,N6,N7,I1,I2,I3,I4,I5,I6,I7,reduceIte,reduceCtorEq,hM]
 refine QIf.intro (fun c=>?_) (fun c=>?_)
 ·subst c
  constructor
  ·simp only[PP,P1,P2,P3,P4,P5,P6,P7,P8,P9,P10,P11,P12,P13,P14,L1,P15,N1,N2,N3,N4,N5,N6,N7,I1,I2,I3,I4,I5,I6,I7,reduceIte,reduceCtorEq]
   exact Gh.same ⟨_,rfl,_,PvWk.nils _ _ _,hk⟩
  ·simp only[PP,P1,P2,P3,P4,P5,P6,P7,P8,P9,P10,P11,P12,P13,P14,L1,P15,N1,N2,N3,N4,N5,N6,N7,I1,I2,I3,I4,I5,I6,I7,reduceIte,reduceCtorEq,hM,hl]
   exact⟨by omega,Gh.same ⟨_,rfl,_,PvWk.sl _ _ _ _,by simpa [slI] using hk⟩⟩
 ·simp only[PP,P1,P2,P3,P4,P5,P6,P7,P8,P9,P10,P11,P12,P13,P14,L1,P15,N1,N2,N3,N4,N5,N6,N7,I1,I2,I3,I4,I5,I6,I7,reduceIte,reduceCtorEq,c,hM,hl,b1,b2,List.length_map]
  rw[hps]
  exact⟨all_one_ints _ _,Gh_ret hc hln ⟨_,PvWk.refl _,hk⟩⟩
theorem play_p {M:Mem} {K:PV→Mem→Prop} {f1 o1 f2 o2 f3 o3 f4 o4 f5 o5:Bool} {ow pr st:List Int} {su:List (List Int)} {from':Int} (B:Bnd ow pr su) (hb:st.length<big) (hq:K (playM ow pr su st from') M):
  SemC tab 32 [gmP f1 o1 f2 o2 f3 o3 f4 o4 ow pr su,slI f5 o5 .i64 st,p64 from'] M K:=by
 refine SemC_wk ?_
 refine q11 T.h32 (by simp only[PP,P1,P2,P3,P4,P5,P6,P7,P8,P9,P10,P11,P12,P13,P14,L1,P15,N1,N2,N3,N4,N5,N6,N7,I1,I2,I3,I4,I5,I6,I7,reduceIte,reduceCtorEq]) ?_
 simp only[af32,PP,P1,P2,P3,P4,P5,P6,P7,P8,P9,P10,P11,P12,P13,P14,L1,P15,N1,N2,N3,N4,N5,N6,N7,I1,I2,I3,I4,I5,I6,I7,reduceIte,reduceCtorEq,playM,playE]at hq ⊢
 refine check_p T B ?_
 simp only[PP,P1,P2,P3,P4,P5,P6,P7,P8,P9,P10,P11,P12,P13,P14,L1,P15,N1,N2,N3,N4,N5,N6,N7,I1,I2,I3,I4,I5,I6,I7,reduceIte,reduceCtorEq]
 refine QIf.intro (fun c1=>?_) (fun c1=>?_)
 rotate_left
 ·simp only[PP,P1,P2,P3,P4,P5,P6,P7,P8,P9,P10,P11,P12,P13,P14,L1,P15,N1,N2,N3,N4,N5,N6,N7,I1,I2,I3,I4,I5,I6,I7,reduceIte,reduceCtorEq,c1]at hq ⊢
  exact⟨_,wk_attr _,hq⟩
 have V:=q22 c1
 have hs:=V.s
 have n1:=V.n1
 simp only[PP,P1,P2,P3,P4,P5,P6,P7,P8,P9,P10,P11,P12,P13,P14,L1,P15,N1,N2,N3,N4,N5,N6,N7,I1,I2,I3,I4,I5,I6,I7,reduceIte,reduceCtorEq,c1]at hq ⊢
 refine QIf.intro (fun c2=>?_) (fun c2=>?_)
 ·simp only[PP,P1,P2,P3,P4,P5,P6,P7,P8,P9,P10,P11,P12,P13,P14,L1,P15,N1,N2,N3,N4,N5,N6,N7,I1,I2,I3,I4,I5,I6,I7,reduceIte,reduceCtorEq,c2]at hq ⊢
  exact⟨_,wk_attr _,hq⟩
 simp only[PP,P1,P2,P3,P4,P5,P6,P7,P8,P9,P10,P11,P12,P13,P14,L1,P15,N1,N2,N3,N4,N5,N6,N7,I1,I2,I3,I4,I5,I6,I7,reduceIte,reduceCtorEq,c2]at hq ⊢
 refine QIf.intro (fun c3=>?_) (fun c3=>?_)
 ·simp only[PP,P1,P2,P3,P4,P5,P6,P7,P8,P9,P10,P11,P12,P13,P14,L1,P15,N1,N2,N3,N4,N5,N6,N7,I1,I2,I3,I4,I5,I6,I7,reduceIte,reduceCtorEq,c3]at hq ⊢
  exact⟨_,wk_attr _,hq⟩
 simp only[PP,P1,P2,P3,P4,P5,P6,P7,P8,P9,P10,P11,P12,P13,P14,L1,P15,N1,N2,N3,N4,N5,N6,N7,I1,I2,I3,I4,I5,I6,I7,reduceIte,reduceCtorEq,c3]at hq ⊢
 refine QIf.intro (fun c4=>?_) (fun c4=>?_)
 rotate_left
 ·simp only[PP,P1,P2,P3,P4,P5,P6,P7,P8,P9,P10,P11,P12,P13,P14,L1,P15,N1,N2,N3,N4,N5,N6,N7,I1,I2,I3,I4,I5,I6,I7,reduceIte,reduceCtorEq,c4]at hq ⊢
  exact⟨_,wk_attr _,hq⟩
 simp only[PP,P1,P2,P3,P4,P5,P6,P7,P8,P9,P10,P11,P12,P13,P14,L1,P15,N1,N2,N3,N4,N5,N6,N7,I1,I2,I3,I4,I5,I6,I7,reduceIte,reduceCtorEq,c4]at hq ⊢
 refine loop1 (fun(k:Nat)=>k≤ow.length∧movM su k (st.drop k)=movM su 0 st) (fun k=>[Zj,slI f5 o5 .i64 st,p64 from',.ptr 0 0 0,Zj,Zj,Zj,Zj,Zj,Zj,Zj,Zj,Zj,Zj,Zj,Zj,Zj,Zj,Zj,Zj,Zj,Zj,Zj,Zj,Zj,Zj,Zj,Zj,Zj,Zj,Zj,Zj,Zj,Zj,Zj,Zj,Zj,slI f5 o5 .i64 st,p64 ow.length,p64 k,Zj,Zj,Zj,Zj,Zj,Zj,Zj,Zj,Zj,Zj,Zj,Zj,Zj,Zj,Zj,Zj,Zj,Zj,Zj,Zj,Zj,Zj,Zj,Zj,Zj,Zj,Zj,Zj,Zj,Zj,Zj,Zj,Zj,Zj,Zj]) (fun _=>[.cells 0 0 [slI f1 o1 .u8 ow,slI f2 o2 .i64 pr,slR f3 o3 f4 o4 .i64 su]]) (fun k=>ow.length-k) 0 ⟨by omega,rfl⟩ (by simp only[PW]) rfl ?_
 intro k ⟨hle,hmv⟩ ih
 refine q15 (by kernel_rfl) ?_
 simp only[PP,P1,P2,P3,P4,P5,P6,P7,P8,P9,P10,P11,P12,P13,P14,L1,P15,N1,N2,N3,N4,N5,N6,N7,I1,I2,I3,I4,I5,I6,I7,reduceIte,reduceCtorEq]
 refine QIf.intro (fun d=>?_) (fun d=>?_)
 ·have hk:k<ow.length:=by omega
  have hw:=q10 (k:=k) (by show _<1000000000000;omega)
  have k0:(0:Int)≤k:=by omega
  obtain⟨u,g1⟩:=q13 (xs:=st) (k:=k) (by omega)
  obtain⟨row,g2⟩:=q13 (xs:=su) (k:=k) (by omega)
  have ks:(k:Int)<su.length:=by omega
  have e2:su.getD k []=row:=by simp[List.getD,g2]
  rw[drop_some g1,movM,e2]at hmv
  simp only[PP,P1,P2,P3,P4,P5,P6,P7,P8,P9,P10,P11,P12,P13,P14,L1,P15,N1,N2,N3,N4,N5,N6,N7,I1,I2,I3,I4,I5,I6,I7,reduceIte,reduceCtorEq,c4,d,g1,g2,k0,ks]
  refine contains_p T (B.r _ (List.mem_of_getElem? g2)) ?_
  by_cases h1:u∈row
  ·rw[if_pos h1]at hmv
   simp only[PP,P1,P2,P3,P4,P5,P6,P7,P8,P9,P10,P11,P12,P13,P14,L1,P15,N1,N2,N3,N4,N5,N6,N7,I1,I2,I3,I4,I5,I6,I7,reduceIte,reduceCtorEq,h1,hw]
   exact q8 (ih (k+1) ⟨by omega,hmv⟩ (by omega)) (by simp only[PW])
  ·rw[if_neg h1]at hmv
   simp only[PP,P1,P2,P3,P4,P5,P6,P7,P8,P9,P10,P11,P12,P13,P14,L1,P15,N1,N2,N3,N4,N5,N6,N7,I1,I2,I3,I4,I5,I6,I7,reduceIte,reduceCtorEq,h1,←hmv]at hq ⊢
   exact⟨_,wk_attr _,hq⟩
 ·have hkn:k=st.length:=by omega
  rw[List.drop_eq_nil_of_le (by omega)]at hmv
  simp only[PP,P1,P2,P3,P4,P5,P6,P7,P8,P9,P10,P11,P12,P13,P14,L1,P15,N1,N2,N3,N4,N5,N6,N7,I1,I2,I3,I4,I5,I6,I7,reduceIte,reduceCtorEq,←hmv,movM]at hq ⊢
  simp only[PP,P1,P2,P3,P4,P5,P6,P7,P8,P9,P10,P11,P12,P13,P14,L1,P15,N1,N2,N3,N4,N5,N6,N7,I1,I2,I3,I4,I5,I6,I7,reduceIte,reduceCtorEq,d]
  have hst:∀(k:Nat) (u:Int),st[k]? =some u→0≤u∧u<ow.length:=by
   intro k u hu
   have h1:=movM_get hmv.symm k u hu
   have hks:k<su.length:=by have:=q12 hu;omega
   obtain⟨_,_,_,_,q⟩:=V.row k hks
   rw[Nat.zero_add,List.getD,List.getElem?_eq_getElem hks]at h1
   have:=(posM_rise q).2 u h1
   omega
  obtain⟨v0,rfl⟩:∃v0:Nat,from'=v0:=⟨from'.toNat,by omega⟩
  refine SemW_re (GStep.nil 13 1 rfl rfl rfl) ?_
  simp only[ptset,List.cons_append,List.nil_append,List.length_cons,List.length_nil,Nat.reduceAdd]
  refine loop3 (fun(v g:Nat) (l:List Nat)=>v<ow.length∧l.Nodup∧(∀x∈l,x<ow.length)∧K (.tuple [slI false true .i64 (q63 st (ow.length+1-l.length) v (natI l)).1,slI false true .i64 (q63 st (ow.length+1-l.length) v (natI l)).2,p64 0]) M)
   (fun v g l=>[Zj,slI f5 o5 .i64 st,Zj,Zj,Zj,Zj,Zj,Zj,Zj,Zj,Zj,Zj,Zj,.ref 1 g 1 0 l.length,p64 v,Zj,Zj,Zj,Zj,Zj,Zj,Zj,Zj,Zj,Zj,Zj,Zj,Zj,Zj,Zj,Zj,Zj,Zj,Zj,Zj,Zj,Zj,Zj,Zj,Zj,Zj,Zj,Zj,Zj,Zj,Zj,Zj,Zj,Zj,Zj,Zj,Zj,Zj,Zj,Zj,Zj,Zj,Zj,Zj,Zj,Zj,Zj,Zj,Zj,Zj,Zj,Zj,Zj,Zj,Zj,Zj,Zj,Zj,Zj,Zj])
   (fun v g l=>[.cells 0 0 [slI f1 o1 .u8 ow,slI f2 o2 .i64 pr,slR f3 o3 f4 o4 .i64 su],.cells g 0 ((natI l).map (PV.int .i64))])
   (fun v g l=>ow.length+1-l.length) v0 0 [] ⟨by omega,List.nodup_nil,by simp,hq⟩ (by simp only[PW]) rfl ?_
  intro v g l ⟨hv,hnd,hlt,hq⟩ ih
  have hll:=nodup_lenN _ l hnd hlt
  have hlb:(natI l).length<big:=by show _<1000000000000;rw[List.length_map];omega
  obtain⟨fu,hfu⟩:∃fu,ow.length+1-l.length=fu+1:=⟨ow.length-l.length,by omega⟩
  rw[hfu,q63]at hq
  refine q15 (by kernel_rfl) ?_
  simp only[PP,P1,P2,P3,P4,P5,P6,P7,P8,P9,P10,P11,P12,P13,P14,L1,P15,N1,N2,N3,N4,N5,N6,N7,I1,I2,I3,I4,I5,I6,I7,reduceIte,reduceCtorEq]
  refine SemC_bor (.ints rfl (List.length_map _) (.same rfl .nil)) (index_p T hlb ⟨rfl,?_⟩)
  rcases idxI_spec v (natI l) 0 with⟨h1,h2⟩ | ⟨i,h1,h2,h3⟩
  ·have hv0:(0:Int)≤v:=by omega
   have hvs:(v:Int)<st.length:=by omega
   obtain⟨u,g1⟩:=q13 (xs:=st) (k:=v) (by omega)
   obtain⟨u0,u1⟩:=hst v u g1
   obtain⟨w,rfl⟩:∃w:Nat,u=w:=⟨u.toNat,by omega⟩
   have e1:st.getD v 0=w:=by simp[List.getD,g1]
   have b1:(l.length+1)*8≤140737488355328:=by omega
   have b2:l.length+1≤9223372036854775807:=by omega
   simp only[PP,P1,P2,P3,P4,P5,P6,P7,P8,P9,P10,P11,P12,P13,P14,L1,P15,N1,N2,N3,N4,N5,N6,N7,I1,I2,I3,I4,I5,I6,I7,reduceIte,reduceCtorEq,h2,e1]at hq ⊢
   have b2:l.length≤9223372036854775806:=by omega
   have hni:v∉l:=fun h=>h1 (mem_natI.2 h)
   have hps:psub ((natI l).map (PV.int .i64)) 0 l.length++[.int .i64 (v:Int)]=(natI (l++[v])).map (PV.int .i64):=by
    rw[q53 _ _ (by simp)];simp
   have hq2:natI l++[(v:Int)]=natI (l++[v]):=by simp
   simp only[PP,P1,P2,P3,P4,P5,P6,P7,P8,P9,P10,P11,P12,P13,P14,L1,P15,N1,N2,N3,N4,N5,N6,N7,I1,I2,I3,I4,I5,I6,I7,reduceIte,reduceCtorEq,g1,hv0,hvs,b1,b2]
   refine q20 (ih w (g+1) (l++[v]) ⟨by omega,?_,?_,?_⟩ (by rw[List.length_append,List.length_singleton];omega)) (by simp only[PW]) (by rw[hps])
   ·rw[List.nodup_append]
    exact⟨hnd,by simp,fun a ha b hb e=>by rw[List.mem_singleton]at hb;subst hb;subst e;exact hni ha⟩
   ·intro x hx
    rcases List.mem_append.1 hx with h | h
    ·exact hlt x h
    ·rw[List.mem_singleton]at h;subst h;exact hv
   ·rw[hq2]at hq
    rw[show ow.length+1-(l++[v]).length=fu by rw[List.length_append,List.length_singleton];omega]
    exact hq
  ·have i0:(0:Int)≤((0+i:Nat):Int):=by omega
   have il:i<l.length:=by have:=q12 h1;rwa [List.length_map]at this
   rw[h3]at hq ⊢
   rw[if_pos i0]at hq
   simp only[PP,P1,P2,P3,P4,P5,P6,P7,P8,P9,P10,P11,P12,P13,P14,L1,P15,N1,N2,N3,N4,N5,N6,N7,I1,I2,I3,I4,I5,I6,I7,reduceIte,reduceCtorEq]at hq i0 ⊢
   have il2:(i:Int)≤l.length:=by omega
   have e0:((i:Int)-0).toNat=i:=by omega
   have e1:((l.length:Int)-i).toNat=l.length-i:=by omega
   have ll:(natI l).length=l.length:=List.length_map _
   simp only[PP,P1,P2,P3,P4,P5,P6,P7,P8,P9,P10,P11,P12,P13,P14,L1,P15,N1,N2,N3,N4,N5,N6,N7,I1,I2,I3,I4,I5,I6,I7,reduceIte,reduceCtorEq,i0,il2,e0]
   refine clone_r T (xs:=natI l) (g:=g) (ver:=0) rfl (by omega) hlb (by simp only[PP,P1,P2,P3,P4,P5,P6,P7,P8,P9,P10,P11,P12,P13,P14,L1,P15,N1,N2,N3,N4,N5,N6,N7,I1,I2,I3,I4,I5,I6,I7,reduceIte,reduceCtorEq,cutOk,q58]) ?_
   simp only[PP,P1,P2,P3,P4,P5,P6,P7,P8,P9,P10,P11,P12,P13,P14,L1,P15,N1,N2,N3,N4,N5,N6,N7,I1,I2,I3,I4,I5,I6,I7,reduceIte,reduceCtorEq,i0,il2,e1,Int.le_refl]
   refine clone_r T (xs:=natI l) (g:=g) (ver:=0) rfl (by omega) hlb (by simp only[PP,P1,P2,P3,P4,P5,P6,P7,P8,P9,P10,P11,P12,P13,P14,L1,P15,N1,N2,N3,N4,N5,N6,N7,I1,I2,I3,I4,I5,I6,I7,reduceIte,reduceCtorEq,cutOk,q58]) ?_
   rw[List.take_of_length_le (show((natI l).drop i).length≤l.length-i by simp)]
   simp only[PP,P1,P2,P3,P4,P5,P6,P7,P8,P9,P10,P11,P12,P13,P14,L1,P15,N1,N2,N3,N4,N5,N6,N7,I1,I2,I3,I4,I5,I6,I7,reduceIte,reduceCtorEq]
   exact⟨_,PvWk.refl _,hq⟩
end
structure GF where
 (f1 o1 f2 o2 f3 o3 f4 o4:Bool)
abbrev gmF (F:GF) (ow pr:List Int) (su:List (List Int)):List PV:=[slI F.f1 F.o1 .u8 ow,slI F.f2 F.o2 .i64 pr,slR F.f3 F.o3 F.f4 F.o4 .i64 su]
abbrev vlL (f o:Bool) (x:Vl):List PV:=[p64 x.cy,slI f o .i64 x.se,p64 x.st]
theorem prI_get {pr:List Int} {v:Int} (h0:0≤v) (h1:v<pr.length):pr[v.toNat]? =some (prI pr v):=by
 have hk:v.toNat<pr.length:=by omega
 unfold prI
 simp[List.getD,List.getElem?_eq_getElem hk]
def firstN:List Int→Int
 | []=>0
 | x::l=>if x≠0 then x else firstN l
def FnRes (tab:FuncId→Option AF) (args:List PV) (fs:List PV) (cs:List Int):Prop:=
 ∀(i:Nat) (f:PV) (c:Int),fs[i]? =some f→cs[i]? =some c→∃(g:FuncId) (cap:List PV),f= .func (.func g) [] cap∧q14 0 cap=true∧∀(M:Mem) (K:PV→Mem→Prop),K (p64 c) M→SemC tab g (args++cap) M K
theorem FnRes.nil (tab:FuncId→Option AF) (args:List PV):FnRes tab args [] []:=fun i f c h=>by simp at h
theorem FnRes.cons {tab:FuncId→Option AF} {args fs:List PV} {f:PV} {c:Int} {cs:List Int} {g:FuncId} {cap:List PV} (hf:f= .func (.func g) [] cap) (hu:q14 0 cap=true) (hs:∀(M:Mem) (K:PV→Mem→Prop),K (p64 c) M→SemC tab g (args++cap) M K) (h:FnRes tab args fs cs):FnRes tab args (f::fs) (c::cs):=by
 intro i f' c' h1 h2
 cases i with
 | zero=>simp only[List.getElem?_cons_zero]at h1 h2;cases h1;cases h2;exact⟨g,cap,hf,hu,hs⟩
 | succ i=>exact h i f' c' (by simpa using h1) (by simpa using h2)
section
variable {tab:FuncId→Option AF} (T:HasA tab)
include T
theorem isNaN32_p {M:Mem} {K:PV→Mem→Prop} {a:Int} (hk:K (.bool false) M):SemC tab 96 [p64 a] M K:=by
 refine q11 T.h96 (by simp only[PP,P1,P2,P3,P4,P5,P6,P7,P8,P9,P10,P11,P12,P13,P14,L1,P15,N1,N2,N3,N4,N5,N6,N7,I1,I2,I3,I4,I5,I6,I7,reduceIte,reduceCtorEq]) ?_
 simp only[af96,PP,P1,P2,P3,P4,P5,P6,P7,P8,P9,P10,P11,P12,P13,P14,L1,P15,N1,N2,N3,N4,N5,N6,N7,I1,I2,I3,I4,I5,I6,I7,reduceIte,reduceCtorEq]
 exact hk
theorem cmp32_p {M:Mem} {K:PV→Mem→Prop} {a b:Int} (hk:K (p64 (cmp3 a b)) M):SemC tab 75 [p64 a,p64 b] M K:=by
 refine q11 T.h75 (by simp only[PP,P1,P2,P3,P4,P5,P6,P7,P8,P9,P10,P11,P12,P13,P14,L1,P15,N1,N2,N3,N4,N5,N6,N7,I1,I2,I3,I4,I5,I6,I7,reduceIte,reduceCtorEq]) ?_
 simp only[af75,PP,P1,P2,P3,P4,P5,P6,P7,P8,P9,P10,P11,P12,P13,P14,L1,P15,N1,N2,N3,N4,N5,N6,N7,I1,I2,I3,I4,I5,I6,I7,reduceIte,reduceCtorEq]
 refine isNaN32_p T ?_
 simp only[PP,P1,P2,P3,P4,P5,P6,P7,P8,P9,P10,P11,P12,P13,P14,L1,P15,N1,N2,N3,N4,N5,N6,N7,I1,I2,I3,I4,I5,I6,I7,reduceIte,reduceCtorEq]
 refine isNaN32_p T ?_
 simp only[PP,P1,P2,P3,P4,P5,P6,P7,P8,P9,P10,P11,P12,P13,P14,L1,P15,N1,N2,N3,N4,N5,N6,N7,I1,I2,I3,I4,I5,I6,I7,reduceIte,reduceCtorEq]
 refine QIf.intro (fun c=>?_) (fun c=>?_)
 ·simp only[PP,P1,P2,P3,P4,P5,P6,P7,P8,P9,P10,P11,P12,P13,P14,L1,P15,N1,N2,N3,N4,N5,N6,N7,I1,I2,I3,I4,I5,I6,I7,reduceIte,reduceCtorEq,c]
  rw[cmp3_lt c]at hk;exact hk
 ·simp only[PP,P1,P2,P3,P4,P5,P6,P7,P8,P9,P10,P11,P12,P13,P14,L1,P15,N1,N2,N3,N4,N5,N6,N7,I1,I2,I3,I4,I5,I6,I7,reduceIte,reduceCtorEq,c]
  refine QIf.intro (fun d=>?_) (fun d=>?_)
  ·simp only[PP,P1,P2,P3,P4,P5,P6,P7,P8,P9,P10,P11,P12,P13,P14,L1,P15,N1,N2,N3,N4,N5,N6,N7,I1,I2,I3,I4,I5,I6,I7,reduceIte,reduceCtorEq,d]
   rw[cmp3_gt d]at hk;exact hk
  ·simp only[PP,P1,P2,P3,P4,P5,P6,P7,P8,P9,P10,P11,P12,P13,P14,L1,P15,N1,N2,N3,N4,N5,N6,N7,I1,I2,I3,I4,I5,I6,I7,reduceIte,reduceCtorEq,d]
   rw[cmp3_eq (by omega)]at hk;exact hk
theorem rel2_p {M:Mem} {K:PV→Mem→Prop} {F:GF} {ow pr:List Int} {su:List (List Int)} {u v:Int} (u0:0≤u) (u1:u<pr.length) (v0:0≤v) (v1:v<pr.length)
  (hk:K (p64 (cmp3 (prI pr u) (prI pr v))) M):SemC tab 82 [p64 u,p64 v,.cp (gmF F ow pr su) 0] M K:=by
 refine q11 T.h82 (by simp only[PP,P1,P2,P3,P4,P5,P6,P7,P8,P9,P10,P11,P12,P13,P14,L1,P15,N1,N2,N3,N4,N5,N6,N7,I1,I2,I3,I4,I5,I6,I7,reduceIte,reduceCtorEq,PV.under]) ?_
 have gu:=prI_get u0 u1
 have gv:=prI_get v0 v1
 simp only[af82,PP,P1,P2,P3,P4,P5,P6,P7,P8,P9,P10,P11,P12,P13,P14,L1,P15,N1,N2,N3,N4,N5,N6,N7,I1,I2,I3,I4,I5,I6,I7,reduceIte,reduceCtorEq,u0,u1,v0,v1,gu,gv]
 refine cmp32_p T ?_
 simp only[PP,P1,P2,P3,P4,P5,P6,P7,P8,P9,P10,P11,P12,P13,P14,L1,P15,N1,N2,N3,N4,N5,N6,N7,I1,I2,I3,I4,I5,I6,I7,reduceIte,reduceCtorEq]
 exact hk
theorem firstI_p {M:Mem} {K:PV→Mem→Prop} {f o:Bool} {u v:Int} {fs:List PV} {cs:List Int} (hb:cs.length<big) (hl:fs.length=cs.length) (hu:q14 0 fs=true) (hf:FnRes tab [p64 u,p64 v] fs cs)
  (hk:K (p64 (firstN cs)) M):SemC tab 81 [p64 u,p64 v,.sl f o 1 cs.length fs] M K:=by
 have hb':cs.length<1000000000000:=hb
 refine q11 T.h81 (by simp only[PP,P1,P2,P3,P4,P5,P6,P7,P8,P9,P10,P11,P12,P13,P14,L1,P15,N1,N2,N3,N4,N5,N6,N7,I1,I2,I3,I4,I5,I6,I7,reduceIte,reduceCtorEq,PV.under,hu]) ?_
 simp only[af81,PP,P1,P2,P3,P4,P5,P6,P7,P8,P9,P10,P11,P12,P13,P14,L1,P15,N1,N2,N3,N4,N5,N6,N7,I1,I2,I3,I4,I5,I6,I7,reduceIte,reduceCtorEq]
 refine loop1 (fun(k:Nat)=>k≤cs.length∧K (p64 (firstN (cs.drop k))) M) (fun k=>[p64 u,p64 v,Zj,Zj,Zj,Zj,Zj,Zj,Zj,Zj,.sl f o 1 cs.length fs,p64 cs.length,p64 k,Zj,Zj,Zj,Zj,Zj,Zj,Zj,Zj,Zj,Zj,Zj]) (fun _=>[]) (fun k=>cs.length-k) 0 ⟨by omega,hk⟩ (by simp only[PW]) rfl ?_
 intro k ⟨hle,hq⟩ ih
 refine q15 (by kernel_rfl) ?_
 simp only[PP,P1,P2,P3,P4,P5,P6,P7,P8,P9,P10,P11,P12,P13,P14,L1,P15,N1,N2,N3,N4,N5,N6,N7,I1,I2,I3,I4,I5,I6,I7,reduceIte,reduceCtorEq]
 refine QIf.intro (fun c=>?_) (fun c=>?_)
 ·have hk':k<cs.length:=by omega
  obtain⟨x,g⟩:=q13 hk'
  obtain⟨fv,gf⟩:=q13 (xs:=fs) (k:=k) (by omega)
  obtain⟨g0,cap,rfl,hcap,hsem⟩:=hf k fv x gf g
  rw[drop_some g]at hq
  have hw:=q10 (k:=k) (by omega)
  have h0:(0:Int)≤k:=by omega
  simp only[PP,P1,P2,P3,P4,P5,P6,P7,P8,P9,P10,P11,P12,P13,P14,L1,P15,N1,N2,N3,N4,N5,N6,N7,I1,I2,I3,I4,I5,I6,I7,reduceIte,reduceCtorEq,c,gf,h0,hl]
  refine hsem _ _ ?_
  simp only[PP,P1,P2,P3,P4,P5,P6,P7,P8,P9,P10,P11,P12,P13,P14,L1,P15,N1,N2,N3,N4,N5,N6,N7,I1,I2,I3,I4,I5,I6,I7,reduceIte,reduceCtorEq]
  refine QIf.intro (fun d=>?_) (fun d=>?_)
  ·have:firstN (x::cs.drop (k+1))=firstN (cs.drop (k+1)):=by rw[firstN,if_neg (by simpa using d)]
   rw[this]at hq
   simp only[PP,P1,P2,P3,P4,P5,P6,P7,P8,P9,P10,P11,P12,P13,P14,L1,P15,N1,N2,N3,N4,N5,N6,N7,I1,I2,I3,I4,I5,I6,I7,reduceIte,reduceCtorEq,d,hw]
   exact q8 (ih (k+1) ⟨by omega,hq⟩ (by omega)) (by simp only[PW])
  ·simp only[PP,P1,P2,P3,P4,P5,P6,P7,P8,P9,P10,P11,P12,P13,P14,L1,P15,N1,N2,N3,N4,N5,N6,N7,I1,I2,I3,I4,I5,I6,I7,reduceIte,reduceCtorEq,d]
   have:firstN (x::cs.drop (k+1))=x:=by unfold firstN;exact if_pos d
   rw[this]at hq;exact hq
 ·rw[List.drop_eq_nil_of_le (by omega)]at hq
  simp only[PP,P1,P2,P3,P4,P5,P6,P7,P8,P9,P10,P11,P12,P13,P14,L1,P15,N1,N2,N3,N4,N5,N6,N7,I1,I2,I3,I4,I5,I6,I7,reduceIte,reduceCtorEq,c]
  exact hq
theorem rel1_p {M:Mem} {K:PV→Mem→Prop} {F:GF} {ow pr:List Int} {su:List (List Int)} {u v:Int} (u0:0≤u) (u1:u<pr.length) (v0:0≤v) (v1:v<pr.length)
  (hk:K (p64 (relI pr u v)) M):SemC tab 80 [p64 u,p64 v,.cp (gmF F ow pr su) 0] M K:=by
 refine q11 T.h80 (by simp only[PP,P1,P2,P3,P4,P5,P6,P7,P8,P9,P10,P11,P12,P13,P14,L1,P15,N1,N2,N3,N4,N5,N6,N7,I1,I2,I3,I4,I5,I6,I7,reduceIte,reduceCtorEq,PV.under]) ?_
 simp only[af80,PP,P1,P2,P3,P4,P5,P6,P7,P8,P9,P10,P11,P12,P13,P14,L1,P15,N1,N2,N3,N4,N5,N6,N7,I1,I2,I3,I4,I5,I6,I7,reduceIte,reduceCtorEq]
 refine firstI_p T (cs:=[cmp3 (prI pr u) (prI pr v),cmp3 u v]) (by show 2<1000000000000;decide) rfl (by simp only[PP,P1,P2,P3,P4,P5,P6,P7,P8,P9,P10,P11,P12,P13,P14,L1,P15,N1,N2,N3,N4,N5,N6,N7,I1,I2,I3,I4,I5,I6,I7,reduceIte,reduceCtorEq,PV.under]) (.cons rfl (by simp only[PP,P1,P2,P3,P4,P5,P6,P7,P8,P9,P10,P11,P12,P13,P14,L1,P15,N1,N2,N3,N4,N5,N6,N7,I1,I2,I3,I4,I5,I6,I7,reduceIte,reduceCtorEq,PV.under]) (fun M K h=>rel2_p T u0 u1 v0 v1 h) (.cons rfl rfl (fun M K h=>cmp32_p T h) (.nil _ _))) ?_
 simp only[PP,P1,P2,P3,P4,P5,P6,P7,P8,P9,P10,P11,P12,P13,P14,L1,P15,N1,N2,N3,N4,N5,N6,N7,I1,I2,I3,I4,I5,I6,I7,reduceIte,reduceCtorEq]
 have:firstN [cmp3 (prI pr u) (prI pr v),cmp3 u v]=relI pr u v:=by
  simp only[firstN,relI,lex3]
  split
  ·rfl
  ·split
   ·rfl
   ·rename_i h;simp only[ne_eq,Decidable.not_not]at h;exact h.symm
 rw[this]
 exact hk
theorem relevance_p {M:Mem} {K:PV→Mem→Prop} {F:GF} {ow pr:List Int} {su:List (List Int)}
  (hk:K (.func (.func 80) [] [.cp (gmF F ow pr su) 0]) M):SemC tab 53 [.agg (gmF F ow pr su)] M K:=by
 refine SemC_imgR (by simp only[PP,P1,P2,P3,P4,P5,P6,P7,P8,P9,P10,P11,P12,P13,P14,L1,P15,N1,N2,N3,N4,N5,N6,N7,I1,I2,I3,I4,I5,I6,I7,reduceIte,reduceCtorEq,PV.under]) ?_
 refine q33 T.h53 ?_
 simp only[af53,PP,P1,P2,P3,P4,P5,P6,P7,P8,P9,P10,P11,P12,P13,P14,L1,P15,N1,N2,N3,N4,N5,N6,N7,I1,I2,I3,I4,I5,I6,I7,reduceIte,reduceCtorEq]
 exact⟨_,.func (fun l h=>by cases h) .nil (.ptr rfl (PImg.sames (by simp only[PP,P1,P2,P3,P4,P5,P6,P7,P8,P9,P10,P11,P12,P13,P14,L1,P15,N1,N2,N3,N4,N5,N6,N7,I1,I2,I3,I4,I5,I6,I7,reduceIte,reduceCtorEq,PV.under])) .nil) .nil,by simp only[PP,P1,P2,P3,P4,P5,P6,P7,P8,P9,P10,P11,P12,P13,P14,L1,P15,N1,N2,N3,N4,N5,N6,N7,I1,I2,I3,I4,I5,I6,I7,reduceIte,reduceCtorEq,PV.under],hk⟩
theorem sign_p {M:Mem} {K:PV→Mem→Prop} {F:GF} {ow pr:List Int} {su:List (List Int)} {v:Int} (v0:0≤v) (v1:v<pr.length) (hp:0≤prI pr v)
  (hk:K (p64 (sgI pr v)) M):SemC tab 72 [.agg (gmF F ow pr su),p64 v] M K:=by
 refine q11 T.h72 (by simp only[PP,P1,P2,P3,P4,P5,P6,P7,P8,P9,P10,P11,P12,P13,P14,L1,P15,N1,N2,N3,N4,N5,N6,N7,I1,I2,I3,I4,I5,I6,I7,reduceIte,reduceCtorEq,PV.under]) ?_
 have gv:=prI_get v0 v1
 have hr:(prI pr v).tmod 2=0∨(prI pr v).tmod 2=1:=by rw[Int.tmod_eq_emod_of_nonneg hp];omega
 have w1:IntKind.i64.wrap ((prI pr v).tmod 2*2)=(prI pr v).tmod 2*2:=by rcases hr with h | h<;>rw[h]<;>decide
 have w2:IntKind.i64.wrap (1-(prI pr v).tmod 2*2)=1-(prI pr v).tmod 2*2:=by rcases hr with h | h<;>rw[h]<;>decide
 simp only[af72,PP,P1,P2,P3,P4,P5,P6,P7,P8,P9,P10,P11,P12,P13,P14,L1,P15,N1,N2,N3,N4,N5,N6,N7,I1,I2,I3,I4,I5,I6,I7,reduceIte,reduceCtorEq,v0,v1,gv,prem (show(2:Int)≠0 by decide),w1,w2]
 exact hk
end
structure InV (n:Nat) (x:Vl):Prop where
 c0:0≤x.cy
 c1:x.cy<n
 se:∀v∈x.se,0≤v∧v<n
 b:x.se.length<big
abbrev moreV (G:List PV):PV:= .func (.func 80) [] [.cp G 0]
abbrev cycV (G:List PV):PV:= .func (.func 71) [] [.cp G 0,.cp [moreV G] 0]
abbrev seenV (G:List PV):PV:= .func (.func 73) [] [.cp [moreV G] 0,.cp G 0]
abbrev stpV (G:List PV):PV:= .func (.func 74) [] [.cp G 0]
abbrev ordV (G:List PV):PV:= .func (.func 76) [] [.cp [cycV G] 0,.cp [seenV G] 0,.cp [stpV G] 0]
theorem relI_rng (pr:List Int) (u v:Int):relI pr u v= -1∨relI pr u v=0∨relI pr u v=1:=(q18 pr).rng u v
theorem wrap_unit {a b:Int} (ha:a=1∨a= -1) (hb:b= -1∨b=0∨b=1):IntKind.i64.wrap (a*b)=a*b:=by
 rcases ha with h | h<;>rcases hb with g | g | g<;>rw[h,g]<;>decide
section
variable {tab:FuncId→Option AF} (T:HasA tab)
include T
theorem cyc_p {M:Mem} {K:PV→Mem→Prop} {F:GF} {fa oa fb ob:Bool} {ow pr:List Int} {su:List (List Int)} {a b:Vl} (hp:∀v,0≤prI pr v) (ia:InV pr.length a) (ib:InV pr.length b)
  (hk:K (p64 (cycI pr a b)) M):SemC tab 71 [.agg (vlL fa oa a),.agg (vlL fb ob b),.cp (gmF F ow pr su) 0,.cp [moreV (gmF F ow pr su)] 0] M K:=by
 refine q11 T.h71 (by simp only[PP,P1,P2,P3,P4,P5,P6,P7,P8,P9,P10,P11,P12,P13,P14,L1,P15,N1,N2,N3,N4,N5,N6,N7,I1,I2,I3,I4,I5,I6,I7,reduceIte,reduceCtorEq,PV.under]) ?_
 simp only[af71,PP,P1,P2,P3,P4,P5,P6,P7,P8,P9,P10,P11,P12,P13,P14,L1,P15,N1,N2,N3,N4,N5,N6,N7,I1,I2,I3,I4,I5,I6,I7,reduceIte,reduceCtorEq]
 refine sign_p T ia.c0 ia.c1 (hp _) ?_
 simp only[PP,P1,P2,P3,P4,P5,P6,P7,P8,P9,P10,P11,P12,P13,P14,L1,P15,N1,N2,N3,N4,N5,N6,N7,I1,I2,I3,I4,I5,I6,I7,reduceIte,reduceCtorEq]
 refine sign_p T ib.c0 ib.c1 (hp _) ?_
 simp only[PP,P1,P2,P3,P4,P5,P6,P7,P8,P9,P10,P11,P12,P13,P14,L1,P15,N1,N2,N3,N4,N5,N6,N7,I1,I2,I3,I4,I5,I6,I7,reduceIte,reduceCtorEq]
 unfold cycI at hk
 refine QIf.intro (fun c=>?_) (fun c=>?_)
 ·rw[if_neg (fun h=>h c)]at hk
  have hw:=wrap_unit (q29 hp a.cy) (relI_rng pr a.cy b.cy)
  rw[c]at hk hw
  simp only[PP,P1,P2,P3,P4,P5,P6,P7,P8,P9,P10,P11,P12,P13,P14,L1,P15,N1,N2,N3,N4,N5,N6,N7,I1,I2,I3,I4,I5,I6,I7,reduceIte,reduceCtorEq,c]
  refine rel1_p T ia.c0 ia.c1 ib.c0 ib.c1 ?_
  simp only[PP,P1,P2,P3,P4,P5,P6,P7,P8,P9,P10,P11,P12,P13,P14,L1,P15,N1,N2,N3,N4,N5,N6,N7,I1,I2,I3,I4,I5,I6,I7,reduceIte,reduceCtorEq,hw]
  exact hk
 ·simp only[PP,P1,P2,P3,P4,P5,P6,P7,P8,P9,P10,P11,P12,P13,P14,L1,P15,N1,N2,N3,N4,N5,N6,N7,I1,I2,I3,I4,I5,I6,I7,reduceIte,reduceCtorEq,c]
  rw[if_pos c]at hk
  exact hk
theorem stp_p {M:Mem} {K:PV→Mem→Prop} {F:GF} {fa oa fb ob:Bool} {ow pr:List Int} {su:List (List Int)} {a b:Vl} (hp:∀v,0≤prI pr v) (ia:InV pr.length a) (ib:InV pr.length b)
  (hk:K (p64 (stepI pr a b)) M):SemC tab 74 [.agg (vlL fa oa a),.agg (vlL fb ob b),.cp (gmF F ow pr su) 0] M K:=by
 refine q11 T.h74 (by simp only[PP,P1,P2,P3,P4,P5,P6,P7,P8,P9,P10,P11,P12,P13,P14,L1,P15,N1,N2,N3,N4,N5,N6,N7,I1,I2,I3,I4,I5,I6,I7,reduceIte,reduceCtorEq,PV.under]) ?_
 simp only[af74,PP,P1,P2,P3,P4,P5,P6,P7,P8,P9,P10,P11,P12,P13,P14,L1,P15,N1,N2,N3,N4,N5,N6,N7,I1,I2,I3,I4,I5,I6,I7,reduceIte,reduceCtorEq]
 refine sign_p T ia.c0 ia.c1 (hp _) ?_
 simp only[PP,P1,P2,P3,P4,P5,P6,P7,P8,P9,P10,P11,P12,P13,P14,L1,P15,N1,N2,N3,N4,N5,N6,N7,I1,I2,I3,I4,I5,I6,I7,reduceIte,reduceCtorEq]
 refine cmp32_p T ?_
 simp only[PP,P1,P2,P3,P4,P5,P6,P7,P8,P9,P10,P11,P12,P13,P14,L1,P15,N1,N2,N3,N4,N5,N6,N7,I1,I2,I3,I4,I5,I6,I7,reduceIte,reduceCtorEq,wrap_unit (q29 hp a.cy) (ord3_cmp.rng b.st a.st)]
 exact hk
theorem seen_p {M:Mem} {K:PV→Mem→Prop} {F:GF} {fa oa fb ob:Bool} {ow pr:List Int} {su:List (List Int)} {a b:Vl} (hp:∀v,0≤prI pr v) (ia:InV pr.length a) (ib:InV pr.length b)
  (hk:K (p64 (seenI pr a.se b.se)) M):SemC tab 73 [.agg (vlL fa oa a),.agg (vlL fb ob b),.cp [moreV (gmF F ow pr su)] 0,.cp (gmF F ow pr su) 0] M K:=by
 refine q11 T.h73 (by simp only[PP,P1,P2,P3,P4,P5,P6,P7,P8,P9,P10,P11,P12,P13,P14,L1,P15,N1,N2,N3,N4,N5,N6,N7,I1,I2,I3,I4,I5,I6,I7,reduceIte,reduceCtorEq,PV.under]) ?_
 simp only[af73,PP,P1,P2,P3,P4,P5,P6,P7,P8,P9,P10,P11,P12,P13,P14,L1,P15,N1,N2,N3,N4,N5,N6,N7,I1,I2,I3,I4,I5,I6,I7,reduceIte,reduceCtorEq]
 refine loop3 (fun(k:Nat) (x q:Int)=>k≤2∧(x<0∨(0≤x∧x<pr.length))∧(q=0∨q=1∨q= -1)∧(k=0→(x,q)=(-1,0))∧(k=1→(x,q)=seenF pr b.se 1 (-1,0) a.se)∧(k=2→(x,q)=seenX pr a.se b.se))
  (fun k x q=>[Zj,Zj,.cp [moreV (gmF F ow pr su)] 0,.cp (gmF F ow pr su) 0,.ptr 0 0 0,.ptr 1 0 0,Zj,p64 x,p64 q,Zj,Zj,Zj,Zj,Zj,Zj,Zj,Zj,.sl true true 1 2 [slI fa oa .i64 a.se,slI fb ob .i64 b.se],p64 2,p64 k,Zj,Zj,Zj,Zj,Zj,Zj,Zj,Zj,Zj,Zj,Zj,Zj,Zj,Zj,Zj,Zj,Zj,Zj,Zj,Zj,Zj,Zj,Zj,Zj,Zj,Zj,Zj,Zj,Zj,Zj,Zj,Zj,Zj,Zj,Zj,Zj,Zj,Zj,Zj,Zj,Zj,Zj,Zj,Zj,Zj])
  (fun _ _ _=>[.cells 0 0 (vlL fa oa a),.cells 0 0 (vlL fb ob b)]) (fun k _ _=>2-k) 0 (-1) 0 ⟨by omega,.inl (by omega),.inl rfl,fun _=>rfl,fun h=>by omega,fun h=>by omega⟩ (by simp only[PW]) rfl ?_
 intro k x q ⟨hle,hx,hq,e0,e1,e2⟩ ih
 refine q15 (by kernel_rfl) ?_
 simp only[PP,P1,P2,P3,P4,P5,P6,P7,P8,P9,P10,P11,P12,P13,P14,L1,P15,N1,N2,N3,N4,N5,N6,N7,I1,I2,I3,I4,I5,I6,I7,reduceIte,reduceCtorEq]
 refine QIf.intro (fun c=>?_) (fun c=>?_)
 ·have k0:(0:Int)≤k:=by omega
  have hw:=q10 (k:=k) (by show _<1000000000000;omega)
  obtain⟨fl,ol,l,fo,oo,other,s,g1,g2,hl,hlb,hob,hs,hs2,hnx⟩:∃(fl ol:Bool) (l:List Int) (fo oo:Bool) (other:List Int) (s:Int),[slI fa oa .i64 a.se,slI fb ob .i64 b.se][k]? =some (slI fl ol .i64 l)∧[slI fb ob .i64 b.se,slI fa oa .i64 a.se][k]? =some (slI fo oo .i64 other)∧(∀v∈l,0≤v∧v<pr.length)∧l.length<big∧other.length<big∧IntKind.i64.wrap (1-IntKind.i64.wrap (2*k))=s∧(s=1∨s= -1)∧
    (∀(x' q':Int),(x',q')=seenF pr other s (x,q) l→(k+1=0→(x',q')=(-1,0))∧(k+1=1→(x',q')=seenF pr b.se 1 (-1,0) a.se)∧(k+1=2→(x',q')=seenX pr a.se b.se)):=by
   have hk2:k=0∨k=1:=by omega
   rcases hk2 with rfl | rfl
   ·refine⟨fa,oa,a.se,fb,ob,b.se,1,rfl,rfl,ia.se,ia.b,ib.b,by decide,.inl rfl,fun x' q' h=>⟨fun h=>by omega,fun _=>?_,fun h=>by omega⟩⟩
    rw[e0 rfl]at h;exact h
   ·refine⟨fb,ob,b.se,fa,oa,a.se,-1,rfl,rfl,ib.se,ib.b,ia.b,by decide,.inr rfl,fun x' q' h=>⟨fun h=>by omega,fun h=>by omega,fun _=>?_⟩⟩
    rw[e1 rfl]at h;exact h
  simp only[PP,P1,P2,P3,P4,P5,P6,P7,P8,P9,P10,P11,P12,P13,P14,L1,P15,N1,N2,N3,N4,N5,N6,N7,I1,I2,I3,I4,I5,I6,I7,reduceIte,reduceCtorEq,c,g1,k0]
  refine loop3 (fun(j:Nat) (x' q':Int)=>j≤l.length∧(x'<0∨(0≤x'∧x'<pr.length))∧(q'=0∨q'=1∨q'= -1)∧seenF pr other s (x',q') (l.drop j)=seenF pr other s (x,q) l)
   (fun j x' q'=>[Zj,Zj,.cp [moreV (gmF F ow pr su)] 0,.cp (gmF F ow pr su) 0,.ptr 0 0 0,.ptr 1 0 0,Zj,p64 x',p64 q',p64 k,Zj,Zj,Zj,Zj,Zj,Zj,Zj,.sl true true 1 2 [slI fa oa .i64 a.se,slI fb ob .i64 b.se],p64 2,p64 k,Zj,Zj,Zj,Zj,slI fl ol .i64 l,p64 l.length,p64 j,Zj,Zj,Zj,Zj,Zj,Zj,Zj,Zj,Zj,Zj,Zj,Zj,Zj,Zj,Zj,Zj,Zj,Zj,Zj,Zj,Zj,Zj,Zj,Zj,Zj,Zj,Zj,Zj,Zj,Zj,Zj,Zj,Zj,Zj,Zj,Zj,Zj,Zj])
   (fun _ _ _=>[.cells 0 0 (vlL fa oa a),.cells 0 0 (vlL fb ob b)]) (fun j _ _=>l.length-j) 0 x q ⟨by omega,hx,hq,rfl⟩ (by simp only[PW]) rfl ?_
  intro j x' q' ⟨hj,hx',hq',he⟩ ih2
  refine q15 (by kernel_rfl) ?_
  simp only[PP,P1,P2,P3,P4,P5,P6,P7,P8,P9,P10,P11,P12,P13,P14,L1,P15,N1,N2,N3,N4,N5,N6,N7,I1,I2,I3,I4,I5,I6,I7,reduceIte,reduceCtorEq]
  refine QIf.intro (fun d=>?_) (fun d=>?_)
  ·have hj':j<l.length:=by omega
   obtain⟨v,gv⟩:=q13 hj'
   obtain⟨v0,v1⟩:=hl v (List.mem_of_getElem? gv)
   have j0:(0:Int)≤j:=by omega
   have hwj:=q10 (k:=j) (by omega)
   rw[drop_some gv,seenF]at he
   simp only[PP,P1,P2,P3,P4,P5,P6,P7,P8,P9,P10,P11,P12,P13,P14,L1,P15,N1,N2,N3,N4,N5,N6,N7,I1,I2,I3,I4,I5,I6,I7,reduceIte,reduceCtorEq,d,gv,j0,c,k0,g2]
   refine contains_p T hob ?_
   simp only[PP,P1,P2,P3,P4,P5,P6,P7,P8,P9,P10,P11,P12,P13,P14,L1,P15,N1,N2,N3,N4,N5,N6,N7,I1,I2,I3,I4,I5,I6,I7,reduceIte,reduceCtorEq]
   by_cases h1:v∈other
   ·rw[if_neg (fun h=>h.1 h1)]at he
    simp only[PP,P1,P2,P3,P4,P5,P6,P7,P8,P9,P10,P11,P12,P13,P14,L1,P15,N1,N2,N3,N4,N5,N6,N7,I1,I2,I3,I4,I5,I6,I7,reduceIte,reduceCtorEq,h1,hwj]
    exact q8 (ih2 (j+1) x' q' ⟨by omega,hx',hq',he⟩ (by omega)) (by simp only[PW])
   ·simp only[PP,P1,P2,P3,P4,P5,P6,P7,P8,P9,P10,P11,P12,P13,P14,L1,P15,N1,N2,N3,N4,N5,N6,N7,I1,I2,I3,I4,I5,I6,I7,reduceIte,reduceCtorEq,h1]
    refine QIf.intro (fun e=>?_) (fun e=>?_)
    ·rw[if_pos ⟨h1,.inl e⟩]at he
     simp only[PP,P1,P2,P3,P4,P5,P6,P7,P8,P9,P10,P11,P12,P13,P14,L1,P15,N1,N2,N3,N4,N5,N6,N7,I1,I2,I3,I4,I5,I6,I7,reduceIte,reduceCtorEq,e,hs,hwj]
     exact q8 (ih2 (j+1) v s ⟨by omega,.inr ⟨v0,v1⟩,.inr hs2,he⟩ (by omega)) (by simp only[PW])
    ·simp only[PP,P1,P2,P3,P4,P5,P6,P7,P8,P9,P10,P11,P12,P13,P14,L1,P15,N1,N2,N3,N4,N5,N6,N7,I1,I2,I3,I4,I5,I6,I7,reduceIte,reduceCtorEq,e]
     refine rel1_p T v0 v1 (by omega) (by omega) ?_
     simp only[PP,P1,P2,P3,P4,P5,P6,P7,P8,P9,P10,P11,P12,P13,P14,L1,P15,N1,N2,N3,N4,N5,N6,N7,I1,I2,I3,I4,I5,I6,I7,reduceIte,reduceCtorEq]
     refine QIf.intro (fun e2=>?_) (fun e2=>?_)
     ·rw[if_pos ⟨h1,.inr e2⟩]at he
      simp only[PP,P1,P2,P3,P4,P5,P6,P7,P8,P9,P10,P11,P12,P13,P14,L1,P15,N1,N2,N3,N4,N5,N6,N7,I1,I2,I3,I4,I5,I6,I7,reduceIte,reduceCtorEq,e2,hs,hwj]
      exact q8 (ih2 (j+1) v s ⟨by omega,.inr ⟨v0,v1⟩,.inr hs2,he⟩ (by omega)) (by simp only[PW])
     ·rw[if_neg (fun h=>h.2.elim e e2)]at he
      simp only[PP,P1,P2,P3,P4,P5,P6,P7,P8,P9,P10,P11,P12,P13,P14,L1,P15,N1,N2,N3,N4,N5,N6,N7,I1,I2,I3,I4,I5,I6,I7,reduceIte,reduceCtorEq,e2,hwj]
      exact q8 (ih2 (j+1) x' q' ⟨by omega,hx',hq',he⟩ (by omega)) (by simp only[PW])
  ·rw[List.drop_eq_nil_of_le (by omega),seenF]at he
   simp only[PP,P1,P2,P3,P4,P5,P6,P7,P8,P9,P10,P11,P12,P13,P14,L1,P15,N1,N2,N3,N4,N5,N6,N7,I1,I2,I3,I4,I5,I6,I7,reduceIte,reduceCtorEq,d,hw]
   obtain⟨a1,a2,a3⟩:=hnx x' q' he
   exact q8 (ih (k+1) x' q' ⟨by omega,hx',hq',a1,a2,a3⟩ (by omega)) (by simp only[PW])
 ·have hk2:k=2:=by omega
  have e:=e2 hk2
  unfold seenI at hk
  rw[←e]at hk
  simp only[PP,P1,P2,P3,P4,P5,P6,P7,P8,P9,P10,P11,P12,P13,P14,L1,P15,N1,N2,N3,N4,N5,N6,N7,I1,I2,I3,I4,I5,I6,I7,reduceIte,reduceCtorEq,c]
  refine QIf.intro (fun d=>?_) (fun d=>?_)
  ·simp only[PP,P1,P2,P3,P4,P5,P6,P7,P8,P9,P10,P11,P12,P13,P14,L1,P15,N1,N2,N3,N4,N5,N6,N7,I1,I2,I3,I4,I5,I6,I7,reduceIte,reduceCtorEq,d]at hk ⊢
   exact hk
  ·simp only[PP,P1,P2,P3,P4,P5,P6,P7,P8,P9,P10,P11,P12,P13,P14,L1,P15,N1,N2,N3,N4,N5,N6,N7,I1,I2,I3,I4,I5,I6,I7,reduceIte,reduceCtorEq,d]at hk ⊢
   refine sign_p T (by omega) (by omega) (hp _) ?_
   have hq2:q= -1∨q=0∨q=1:=by omega
   have hw:IntKind.i64.wrap (q*sgI pr x)=q*sgI pr x:=by rw[Int.mul_comm];exact wrap_unit (q29 hp x) hq2
   simp only[PP,P1,P2,P3,P4,P5,P6,P7,P8,P9,P10,P11,P12,P13,P14,L1,P15,N1,N2,N3,N4,N5,N6,N7,I1,I2,I3,I4,I5,I6,I7,reduceIte,reduceCtorEq,hw]
   exact hk
end
theorem firstN_ord (pr:List Int) (a b:Vl):firstN [cycI pr a b,seenI pr a.se b.se,stepI pr a b]=ordI pr a b:=by
 simp only[firstN,ordI,lex3]
 split
 ·rfl
 ·split
  ·rfl
  ·split
   ·rfl
   ·rename_i h;simp only[ne_eq,Decidable.not_not]at h;exact h.symm
section
variable {tab:FuncId→Option AF} (T:HasA tab)
include T
theorem firstV_p {M:Mem} {K:PV→Mem→Prop} {f o fa oa fb ob:Bool} {a b:Vl} {fs:List PV} {cs:List Int} (hb:cs.length<big) (hl:fs.length=cs.length) (hu:q14 0 fs=true) (hf:FnRes tab [.agg (vlL fa oa a),.agg (vlL fb ob b)] fs cs)
  (hk:K (p64 (firstN cs)) M):SemC tab 77 [.agg (vlL fa oa a),.agg (vlL fb ob b),.sl f o 1 cs.length fs] M K:=by
 have hb':cs.length<1000000000000:=hb
 refine q11 T.h77 (by simp only[PP,P1,P2,P3,P4,P5,P6,P7,P8,P9,P10,P11,P12,P13,P14,L1,P15,N1,N2,N3,N4,N5,N6,N7,I1,I2,I3,I4,I5,I6,I7,reduceIte,reduceCtorEq,PV.under,hu]) ?_
 simp only[af77,PP,P1,P2,P3,P4,P5,P6,P7,P8,P9,P10,P11,P12,P13,P14,L1,P15,N1,N2,N3,N4,N5,N6,N7,I1,I2,I3,I4,I5,I6,I7,reduceIte,reduceCtorEq]
 refine loop1 (fun(k:Nat)=>k≤cs.length∧K (p64 (firstN (cs.drop k))) M) (fun k=>[Zj,Zj,Zj,.ptr 0 0 0,.ptr 1 0 0,Zj,Zj,Zj,Zj,Zj,.sl f o 1 cs.length fs,p64 cs.length,p64 k,Zj,Zj,Zj,Zj,Zj,Zj,Zj,Zj,Zj,Zj,Zj]) (fun _=>[.cells 0 0 (vlL fa oa a),.cells 0 0 (vlL fb ob b)]) (fun k=>cs.length-k) 0 ⟨by omega,hk⟩ (by simp only[PW]) rfl ?_
 intro k ⟨hle,hq⟩ ih
 refine q15 (by kernel_rfl) ?_
 simp only[PP,P1,P2,P3,P4,P5,P6,P7,P8,P9,P10,P11,P12,P13,P14,L1,P15,N1,N2,N3,N4,N5,N6,N7,I1,I2,I3,I4,I5,I6,I7,reduceIte,reduceCtorEq]
 refine QIf.intro (fun c=>?_) (fun c=>?_)
 ·have hk':k<cs.length:=by omega
  obtain⟨x,g⟩:=q13 hk'
  obtain⟨fv,gf⟩:=q13 (xs:=fs) (k:=k) (by omega)
  obtain⟨g0,cap,rfl,hcap,hsem⟩:=hf k fv x gf g
  rw[drop_some g]at hq
  have hw:=q10 (k:=k) (by omega)
  have h0:(0:Int)≤k:=by omega
  simp only[PP,P1,P2,P3,P4,P5,P6,P7,P8,P9,P10,P11,P12,P13,P14,L1,P15,N1,N2,N3,N4,N5,N6,N7,I1,I2,I3,I4,I5,I6,I7,reduceIte,reduceCtorEq,c,gf,h0,hl]
  refine hsem _ _ ?_
  simp only[PP,P1,P2,P3,P4,P5,P6,P7,P8,P9,P10,P11,P12,P13,P14,L1,P15,N1,N2,N3,N4,N5,N6,N7,I1,I2,I3,I4,I5,I6,I7,reduceIte,reduceCtorEq]
  refine QIf.intro (fun d=>?_) (fun d=>?_)
  ·have:firstN (x::cs.drop (k+1))=firstN (cs.drop (k+1)):=by rw[firstN,if_neg (by simpa using d)]
   rw[this]at hq
   simp only[PP,P1,P2,P3,P4,P5,P6,P7,P8,P9,P10,P11,P12,P13,P14,L1,P15,N1,N2,N3,N4,N5,N6,N7,I1,I2,I3,I4,I5,I6,I7,reduceIte,reduceCtorEq,d,hw]
   exact q8 (ih (k+1) ⟨by omega,hq⟩ (by omega)) (by simp only[PW])
  ·simp only[PP,P1,P2,P3,P4,P5,P6,P7,P8,P9,P10,P11,P12,P13,P14,L1,P15,N1,N2,N3,N4,N5,N6,N7,I1,I2,I3,I4,I5,I6,I7,reduceIte,reduceCtorEq,d]
   have:firstN (x::cs.drop (k+1))=x:=by unfold firstN;exact if_pos d
   rw[this]at hq;exact hq
 ·rw[List.drop_eq_nil_of_le (by omega)]at hq
  simp only[PP,P1,P2,P3,P4,P5,P6,P7,P8,P9,P10,P11,P12,P13,P14,L1,P15,N1,N2,N3,N4,N5,N6,N7,I1,I2,I3,I4,I5,I6,I7,reduceIte,reduceCtorEq,c]
  exact hq
theorem ord4_p {M:Mem} {K:PV→Mem→Prop} {F:GF} {fa oa fb ob:Bool} {ow pr:List Int} {su:List (List Int)} {a b:Vl} (hp:∀v,0≤prI pr v) (ia:InV pr.length a) (ib:InV pr.length b)
  (hk:K (p64 (ordI pr a b)) M):SemC tab 76 [.agg (vlL fa oa a),.agg (vlL fb ob b),.cp [cycV (gmF F ow pr su)] 0,.cp [seenV (gmF F ow pr su)] 0,.cp [stpV (gmF F ow pr su)] 0] M K:=by
 refine q11 T.h76 (by simp only[PP,P1,P2,P3,P4,P5,P6,P7,P8,P9,P10,P11,P12,P13,P14,L1,P15,N1,N2,N3,N4,N5,N6,N7,I1,I2,I3,I4,I5,I6,I7,reduceIte,reduceCtorEq,PV.under]) ?_
 simp only[af76,PP,P1,P2,P3,P4,P5,P6,P7,P8,P9,P10,P11,P12,P13,P14,L1,P15,N1,N2,N3,N4,N5,N6,N7,I1,I2,I3,I4,I5,I6,I7,reduceIte,reduceCtorEq]
 refine firstV_p T (cs:=[cycI pr a b,seenI pr a.se b.se,stepI pr a b]) (by show 3<1000000000000;decide) rfl (by simp only[PP,P1,P2,P3,P4,P5,P6,P7,P8,P9,P10,P11,P12,P13,P14,L1,P15,N1,N2,N3,N4,N5,N6,N7,I1,I2,I3,I4,I5,I6,I7,reduceIte,reduceCtorEq,PV.under]) (.cons rfl (by simp only[PP,P1,P2,P3,P4,P5,P6,P7,P8,P9,P10,P11,P12,P13,P14,L1,P15,N1,N2,N3,N4,N5,N6,N7,I1,I2,I3,I4,I5,I6,I7,reduceIte,reduceCtorEq,PV.under]) (fun M K h=>cyc_p T hp ia ib h) (.cons rfl (by simp only[PP,P1,P2,P3,P4,P5,P6,P7,P8,P9,P10,P11,P12,P13,P14,L1,P15,N1,N2,N3,N4,N5,N6,N7,I1,I2,I3,I4,I5,I6,I7,reduceIte,reduceCtorEq,PV.under]) (fun M K h=>seen_p T hp ia ib h) (.cons rfl (by simp only[PP,P1,P2,P3,P4,P5,P6,P7,P8,P9,P10,P11,P12,P13,P14,L1,P15,N1,N2,N3,N4,N5,N6,N7,I1,I2,I3,I4,I5,I6,I7,reduceIte,reduceCtorEq,PV.under]) (fun M K h=>stp_p T hp ia ib h) (.nil _ _)))) ?_
 simp only[PP,P1,P2,P3,P4,P5,P6,P7,P8,P9,P10,P11,P12,P13,P14,L1,P15,N1,N2,N3,N4,N5,N6,N7,I1,I2,I3,I4,I5,I6,I7,reduceIte,reduceCtorEq]
 rw[firstN_ord]
 exact hk
theorem order_p {M:Mem} {K:PV→Mem→Prop} {F:GF} {ow pr:List Int} {su:List (List Int)}
  (hk:K (ordV (gmF F ow pr su)) M):SemC tab 45 [.agg (gmF F ow pr su)] M K:=by
 refine SemC_imgR (by simp only[PP,P1,P2,P3,P4,P5,P6,P7,P8,P9,P10,P11,P12,P13,P14,L1,P15,N1,N2,N3,N4,N5,N6,N7,I1,I2,I3,I4,I5,I6,I7,reduceIte,reduceCtorEq,PV.under]) ?_
 refine q33 T.h45 ?_
 simp only[af45,PP,P1,P2,P3,P4,P5,P6,P7,P8,P9,P10,P11,P12,P13,P14,L1,P15,N1,N2,N3,N4,N5,N6,N7,I1,I2,I3,I4,I5,I6,I7,reduceIte,reduceCtorEq]
 refine relevance_p T ?_
 simp only[PP,P1,P2,P3,P4,P5,P6,P7,P8,P9,P10,P11,P12,P13,P14,L1,P15,N1,N2,N3,N4,N5,N6,N7,I1,I2,I3,I4,I5,I6,I7,reduceIte,reduceCtorEq]
 have im0:∀{M:Mem} {v:Nat} {b c:List PV},M[0]? =some (.cells 0 v (gmF F ow pr su))→PImg M b c→PImg M (.ptr 0 0 0::b) (.cp (gmF F ow pr su) 0::c):=fun h r=> .ptr h (PImg.sames (by simp only[PP,P1,P2,P3,P4,P5,P6,P7,P8,P9,P10,P11,P12,P13,P14,L1,P15,N1,N2,N3,N4,N5,N6,N7,I1,I2,I3,I4,I5,I6,I7,reduceIte,reduceCtorEq,PV.under])) r
 have im1:∀{M:Mem} {v:Nat} {b c:List PV},M[1]? =some (.cells 0 v [moreV (gmF F ow pr su)])→PImg M b c→PImg M (.ptr 1 0 0::b) (.cp [moreV (gmF F ow pr su)] 0::c):=fun h r=> .ptr h (PImg.sames (by simp only[PP,P1,P2,P3,P4,P5,P6,P7,P8,P9,P10,P11,P12,P13,P14,L1,P15,N1,N2,N3,N4,N5,N6,N7,I1,I2,I3,I4,I5,I6,I7,reduceIte,reduceCtorEq,PV.under])) r
 refine⟨_,.func (fun l h=>by cases h) .nil (.ptr rfl (.func (fun l h=>by cases h) .nil (im0 rfl (im1 rfl .nil)) .nil) (.ptr rfl (.func (fun l h=>by cases h) .nil (im1 rfl (im0 rfl .nil)) .nil) (.ptr rfl (.func (fun l h=>by cases h) .nil (im0 rfl .nil) .nil) .nil))) .nil,by simp only[PP,P1,P2,P3,P4,P5,P6,P7,P8,P9,P10,P11,P12,P13,P14,L1,P15,N1,N2,N3,N4,N5,N6,N7,I1,I2,I3,I4,I5,I6,I7,reduceIte,reduceCtorEq,PV.under],hk⟩
end
theorem Valid.prI {ow pr:List Int} {su:List (List Int)} (V:Valid ow pr su) (v:Int):0≤prI pr v∧prI pr v≤16:=by
 unfold Go.Am.Ar.prI
 by_cases h:v.toNat<pr.length
 ·have:=V.row v.toNat (by have:=V.s;have:=V.p;omega)
  exact⟨this.1,this.2.1⟩
 ·simp[List.getD,List.getElem?_eq_none (show pr.length≤v.toNat by omega)]
section
variable {tab:FuncId→Option AF} (T:HasA tab)
include T
end
def maxR (pr:List Int):Int→List Int→Int
 | m,[]=>m
 | m,x::l=>maxR pr (if 0<relI pr x m then x else m) l
theorem maxR_mem (pr:List Int):∀(l:List Int) (m:Int),maxR pr m l=m∨maxR pr m l∈l
 | [],m=> .inl rfl
 | x::l,m=>by
  unfold maxR
  rcases maxR_mem pr l (if 0<relI pr x m then x else m) with h | h
  ·rw[h];split
   ·exact .inr (by simp)
   ·exact .inl rfl
  ·exact .inr (by simp[h])
theorem maxR_ge (pr:List Int):∀(l:List Int) (m:Int),relI pr m (maxR pr m l)≤0∧∀x∈l,relI pr x (maxR pr m l)≤0
 | [],m=>⟨by rw[maxR,(q18 pr).self];exact Int.le_refl _,by simp⟩
 | x::l,m=>by
  unfold maxR
  obtain⟨h1,h2⟩:=maxR_ge pr l (if 0<relI pr x m then x else m)
  have a:=(q18 pr).anti x m
  have hm:relI pr m (if 0<relI pr x m then x else m)≤0:=by
   split
   ·show relI pr m x≤0;omega
   ·rw[(q18 pr).self];exact Int.le_refl _
  have hx:relI pr x (if 0<relI pr x m then x else m)≤0:=by
   split
   ·rw[(q18 pr).self];exact Int.le_refl _
   ·omega
  refine⟨(q18 pr).tr _ _ _ hm h1,fun y hy=>?_⟩
  rcases List.mem_cons.1 hy with rfl | hy
  ·exact(q18 pr).tr _ _ _ hx h1
  ·exact h2 y hy
section
variable {tab:FuncId→Option AF} (T:HasA tab)
include T
theorem grow_p {M:Mem} {K:PV→Mem→Prop} {n:Nat} (hn:0<n) (hb:n<1000000000000) (hk:K (.ref M.length 0 1 0 0) (M++[.cells 0 0 (List.replicate n (p64 0))])):
  SemC tab 83 [.nils,p64 n] M K:=by
 refine SemC_sem T.h83 ?_
 have n0:¬(n:Int)<0:=by omega
 have n1:(0:Int)<n:=by omega
 have w0:IntKind.i64.wrap 0=0:=by decide
 have wn:IntKind.i64.wrap ((n:Int)-0)=n:=by rw[q57 (by omega) (by omega)];omega
 simp only[af83]
 refine q25 (q35 ?_)
 simp only[PP,P1,P2,P3,P4,P5,P6,P7,P8,P9,P10,P11,P12,P13,P14,L1,P15,N1,N2,N3,N4,N5,N6,N7,I1,I2,I3,I4,I5,I6,I7,reduceIte,reduceCtorEq]
 refine q25 (q35 ?_)
 simp only[PP,P1,P2,P3,P4,P5,P6,P7,P8,P9,P10,P11,P12,P13,P14,L1,P15,N1,N2,N3,N4,N5,N6,N7,I1,I2,I3,I4,I5,I6,I7,reduceIte,reduceCtorEq,n0]
 refine q25 (q25 (SemW_op (os1:=[_,_]) rfl ?_))
 simp only[PP,P1,P2,P3,P4,P5,P6,P7,P8,P9,P10,P11,P12,P13,P14,L1,P15,N1,N2,N3,N4,N5,N6,N7,I1,I2,I3,I4,I5,I6,I7,reduceIte,reduceCtorEq]
 refine OpOk_cap rfl ?_
 simp only[PP,P1,P2,P3,P4,P5,P6,P7,P8,P9,P10,P11,P12,P13,P14,L1,P15,N1,N2,N3,N4,N5,N6,N7,I1,I2,I3,I4,I5,I6,I7,reduceIte,reduceCtorEq,w0,wn]
 refine q25 (q35 ?_)
 simp only[PP,P1,P2,P3,P4,P5,P6,P7,P8,P9,P10,P11,P12,P13,P14,L1,P15,N1,N2,N3,N4,N5,N6,N7,I1,I2,I3,I4,I5,I6,I7,reduceIte,reduceCtorEq,n1]
 refine SemW_condT rfl ?_
 refine SemW_op (os1:=[_,_]) rfl ?_
 simp only[PP,P1,P2,P3,P4,P5,P6,P7,P8,P9,P10,P11,P12,P13,P14,L1,P15,N1,N2,N3,N4,N5,N6,N7,I1,I2,I3,I4,I5,I6,I7,reduceIte,reduceCtorEq]
 refine OpOk_cap rfl ?_
 have hz:(n:Int)≠0:=by omega
 have h0:(0:Int)≤n:=by omega
 have pz:q30 n [PV.int .i64 0]=List.replicate n (PV.int .i64 0):=prepl_one n _
 have gM:(M++[PObj.cells 0 0 (List.replicate n (PV.int .i64 0))])[List.length M]? =some (PObj.cells 0 0 (List.replicate n (PV.int .i64 0))):=by simp
 simp only[PP,P1,P2,P3,P4,P5,P6,P7,P8,P9,P10,P11,P12,P13,P14,L1,P15,N1,N2,N3,N4,N5,N6,N7,I1,I2,I3,I4,I5,I6,I7,reduceIte,reduceCtorEq,PS_appendMake,hz,h0,pz,gM]
 refine⟨by omega,q35 ?_⟩
 simp only[PP,P1,P2,P3,P4,P5,P6,P7,P8,P9,P10,P11,P12,P13,P14,L1,P15,N1,N2,N3,N4,N5,N6,N7,I1,I2,I3,I4,I5,I6,I7,reduceIte,reduceCtorEq]
 exact hk
set_option maxHeartbeats 1000000 in
theorem concat_p {M:Mem} {K:PV→Mem→Prop} {f o f1 o1 f2 o2:Bool} {xs ys:List Int} (hb:xs.length+ys.length<1000000000000) (hy:ys≠[]) (hk:K (slI false true .i64 (xs++ys)) M):
  SemC tab 55 [.sl f o 1 2 [slI f1 o1 .i64 xs,slI f2 o2 .i64 ys]] M K:=by
 refine SemC_pureS T.h55 (by simp only[PP,P1,P2,P3,P4,P5,P6,P7,P8,P9,P10,P11,P12,P13,P14,L1,P15,N1,N2,N3,N4,N5,N6,N7,I1,I2,I3,I4,I5,I6,I7,reduceIte,reduceCtorEq,PV.under]) ?_
 have hy1:0<ys.length:=by cases ys with | nil=>exact absurd rfl hy | cons _ _=>simp
 have w1:IntKind.i64.wrap 1=((1:Nat):Int):=rfl
 have w2:IntKind.i64.wrap 2=((2:Nat):Int):=rfl
 simp only[af55]
 refine q25 (q35 ?_)
 simp only[PP,P1,P2,P3,P4,P5,P6,P7,P8,P9,P10,P11,P12,P13,P14,L1,P15,N1,N2,N3,N4,N5,N6,N7,I1,I2,I3,I4,I5,I6,I7,reduceIte,reduceCtorEq]
 refine q25 (q35 ?_)
 simp only[PP,P1,P2,P3,P4,P5,P6,P7,P8,P9,P10,P11,P12,P13,P14,L1,P15,N1,N2,N3,N4,N5,N6,N7,I1,I2,I3,I4,I5,I6,I7,reduceIte,reduceCtorEq]
 refine q25 (q35 ?_)
 simp only[PP,P1,P2,P3,P4,P5,P6,P7,P8,P9,P10,P11,P12,P13,P14,L1,P15,N1,N2,N3,N4,N5,N6,N7,I1,I2,I3,I4,I5,I6,I7,reduceIte,reduceCtorEq]
 refine loop2 (fun(k tot:Nat)=>k≤2∧(k=0→tot=0)∧(k=1→tot=xs.length)∧(k=2→tot=xs.length+ys.length)) (fun k tot=>[.sl f o 1 2 [slI f1 o1 .i64 xs,slI f2 o2 .i64 ys],Zj,Zj,p64 tot,Zj,Zj,Zj,Zj,Zj,.sl f o 1 2 [slI f1 o1 .i64 xs,slI f2 o2 .i64 ys],p64 2,p64 k,Zj,Zj,Zj,Zj,Zj,Zj,Zj,Zj,Zj,Zj,Zj,Zj,Zj,Zj,Zj,Zj,Zj,Zj,Zj,Zj,Zj,Zj,Zj,Zj]) (fun _ _=>[]) (fun k _=>2-k) 0 0 ⟨by omega,fun _=>rfl,fun h=>by omega,fun h=>by omega⟩ (by simp only[PW]) rfl ?_
 intro k tot ⟨hle,t0,t1,t2⟩ ih
 refine q15 (by kernel_rfl) ?_
 simp only[PP,P1,P2,P3,P4,P5,P6,P7,P8,P9,P10,P11,P12,P13,P14,L1,P15,N1,N2,N3,N4,N5,N6,N7,I1,I2,I3,I4,I5,I6,I7,reduceIte,reduceCtorEq]
 refine QIf.intro (fun c=>?_) (fun c=>?_)
 ·have hk2:k=0∨k=1:=by omega
  rcases hk2 with rfl | rfl
  ·rw[t0 rfl]
   have wx:IntKind.i64.wrap (0+(xs.length:Int))=((xs.length:Nat):Int):=by rw[q57 (by omega) (by omega)];omega
   have nx:¬(xs.length:Int)<0:=by omega
   simp only[PP,P1,P2,P3,P4,P5,P6,P7,P8,P9,P10,P11,P12,P13,P14,L1,P15,N1,N2,N3,N4,N5,N6,N7,I1,I2,I3,I4,I5,I6,I7,reduceIte,reduceCtorEq,wx,nx,w1]
   exact q8 (ih 1 xs.length ⟨by omega,fun h=>by omega,fun _=>rfl,fun h=>by omega⟩ (by omega)) (by simp only[PW])
  ·rw[t1 rfl]
   have wx:IntKind.i64.wrap ((xs.length:Int)+(ys.length:Int))=((xs.length+ys.length:Nat):Int):=by rw[q57 (by omega) (by omega)];omega
   have nx:¬((xs.length+ys.length:Nat):Int)<0:=by omega
   simp only[PP,P1,P2,P3,P4,P5,P6,P7,P8,P9,P10,P11,P12,P13,P14,L1,P15,N1,N2,N3,N4,N5,N6,N7,I1,I2,I3,I4,I5,I6,I7,reduceIte,reduceCtorEq,wx,nx,w2]
   exact q8 (ih 2 (xs.length+ys.length) ⟨by omega,fun h=>by omega,fun h=>by omega,fun _=>rfl⟩ (by omega)) (by simp only[PW])
 have hk2:k=2:=by omega
 rw[t2 hk2]
 simp only[PP,P1,P2,P3,P4,P5,P6,P7,P8,P9,P10,P11,P12,P13,P14,L1,P15,N1,N2,N3,N4,N5,N6,N7,I1,I2,I3,I4,I5,I6,I7,reduceIte,reduceCtorEq,c]
 refine q25 (q35 ?_)
 simp only[PP,P1,P2,P3,P4,P5,P6,P7,P8,P9,P10,P11,P12,P13,P14,L1,P15,N1,N2,N3,N4,N5,N6,N7,I1,I2,I3,I4,I5,I6,I7,reduceIte,reduceCtorEq]
 refine grow_p T (by omega) (by omega) ?_
 simp only[PP,P1,P2,P3,P4,P5,P6,P7,P8,P9,P10,P11,P12,P13,P14,L1,P15,N1,N2,N3,N4,N5,N6,N7,I1,I2,I3,I4,I5,I6,I7,reduceIte,reduceCtorEq]
 refine q25 (q35 ?_)
 simp only[PP,P1,P2,P3,P4,P5,P6,P7,P8,P9,P10,P11,P12,P13,P14,L1,P15,N1,N2,N3,N4,N5,N6,N7,I1,I2,I3,I4,I5,I6,I7,reduceIte,reduceCtorEq]
 refine loop4 (fun(k g m:Nat) (cs:List PV)=>k≤2∧m≤cs.length∧(k=0→m=0)∧(k=1→m=xs.length∧psub cs 0 m=xs.map (PV.int .i64))∧(k=2→m=xs.length+ys.length∧cs=(xs++ys).map (PV.int .i64)))
  (fun k g m cs=>[Zj,Zj,Zj,Zj,Zj,Zj,.ref 0 g 1 0 m,Zj,Zj,Zj,Zj,Zj,Zj,Zj,Zj,Zj,Zj,Zj,Zj,Zj,Zj,Zj,Zj,Zj,Zj,.sl f o 1 2 [slI f1 o1 .i64 xs,slI f2 o2 .i64 ys],p64 2,p64 k,Zj,Zj,Zj,Zj,Zj,Zj,Zj,Zj]) (fun k g m cs=>[.cells g 0 cs]) (fun k _ _ _=>2-k) 0 0 0 (List.replicate (xs.length+ys.length) (p64 0)) ⟨by omega,by omega,fun _=>rfl,fun h=>by omega,fun h=>by omega⟩ (by simp only[PW]) rfl ?_
 intro k g m cs ⟨hle,hm,m0,m1,m2⟩ ih
 have hk3:k=0∨k=1∨k=2:=by omega
 rcases hk3 with rfl | rfl | rfl
 ·have e0:=m0 rfl
  subst e0
  by_cases hx:xs=[]
  ·subst hx
   refine SemW_loop (by kernel_rfl) ?_
   refine q25 (q35 ?_)
   simp only[PP,P1,P2,P3,P4,P5,P6,P7,P8,P9,P10,P11,P12,P13,P14,L1,P15,N1,N2,N3,N4,N5,N6,N7,I1,I2,I3,I4,I5,I6,I7,reduceIte,reduceCtorEq]
   refine q25 (q35 ?_)
   simp only[PP,P1,P2,P3,P4,P5,P6,P7,P8,P9,P10,P11,P12,P13,P14,L1,P15,N1,N2,N3,N4,N5,N6,N7,I1,I2,I3,I4,I5,I6,I7,reduceIte,reduceCtorEq]
   refine q25 (SemW_blk (q25 (q35 ?_)))
   simp only[PP,P1,P2,P3,P4,P5,P6,P7,P8,P9,P10,P11,P12,P13,P14,L1,P15,N1,N2,N3,N4,N5,N6,N7,I1,I2,I3,I4,I5,I6,I7,reduceIte,reduceCtorEq]
   refine SemW_op (os1:=[_,_]) rfl ?_
   simp only[PP,P1,P2,P3,P4,P5,P6,P7,P8,P9,P10,P11,P12,P13,P14,L1,P15,N1,N2,N3,N4,N5,N6,N7,I1,I2,I3,I4,I5,I6,I7,reduceIte,reduceCtorEq]
   refine OpOk_app0 (ver:=0) (cs:=cs) (f:=f1) (o:=o1) rfl rfl rfl ?_
   refine q35 ?_
   simp only[PP,P1,P2,P3,P4,P5,P6,P7,P8,P9,P10,P11,P12,P13,P14,L1,P15,N1,N2,N3,N4,N5,N6,N7,I1,I2,I3,I4,I5,I6,I7,reduceIte,reduceCtorEq,w1]
   exact q8 (ih 1 g 0 cs ⟨by omega,by omega,fun h=>by omega,fun _=>⟨rfl,by simp[psub]⟩,fun h=>by omega⟩ (by omega)) (by simp only[PW])
  ·have hx1:0<xs.length:=by cases xs with | nil=>exact absurd rfl hx | cons _ _=>simp
   refine q15 (by kernel_rfl) ?_
   simp only[PP,P1,P2,P3,P4,P5,P6,P7,P8,P9,P10,P11,P12,P13,P14,L1,P15,N1,N2,N3,N4,N5,N6,N7,I1,I2,I3,I4,I5,I6,I7,reduceIte,reduceCtorEq,w1,hx1]
   refine⟨⟨by omega,by omega⟩,q8 (ih 1 (g+1) xs.length (xs.map (PV.int .i64)) ⟨by omega,by simp,fun h=>by omega,fun _=>⟨rfl,psub_map _ _⟩,fun h=>by omega⟩ (by omega)) (by simp only[PW])⟩
 ·obtain⟨e1,e2⟩:=m1 rfl
  subst e1
  refine q15 (by kernel_rfl) ?_
  simp only[PP,P1,P2,P3,P4,P5,P6,P7,P8,P9,P10,P11,P12,P13,P14,L1,P15,N1,N2,N3,N4,N5,N6,N7,I1,I2,I3,I4,I5,I6,I7,reduceIte,reduceCtorEq,w2,hy1,e2,hm]
  refine⟨⟨by omega,by omega⟩,q20 (ih 2 (g+1) (xs.length+ys.length) ((xs++ys).map (PV.int .i64)) ⟨by omega,by simp,fun h=>by omega,fun h=>by omega,fun _=>⟨rfl,rfl⟩⟩ (by omega)) (by simp only[PW]) (by simp)⟩
 ·obtain⟨e1,e2⟩:=m2 rfl
  subst e1 e2
  refine q15 (by kernel_rfl) ?_
  simp only[PP,P1,P2,P3,P4,P5,P6,P7,P8,P9,P10,P11,P12,P13,P14,L1,P15,N1,N2,N3,N4,N5,N6,N7,I1,I2,I3,I4,I5,I6,I7,reduceIte,reduceCtorEq]
  refine q35 ?_
  simp only[PP,P1,P2,P3,P4,P5,P6,P7,P8,P9,P10,P11,P12,P13,P14,L1,P15,N1,N2,N3,N4,N5,N6,N7,I1,I2,I3,I4,I5,I6,I7,reduceIte,reduceCtorEq]
  have e3:psub (xs.map (PV.int .i64)++ys.map (PV.int .i64)) 0 (xs.length+ys.length)=(xs++ys).map (PV.int .i64):=by rw[←List.map_append];exact q53 _ _ (by simp)
  rw[e3]
  simpa [slI] using hk
theorem maxF_p {M:Mem} {K:PV→Mem→Prop} {F:GF} {f o:Bool} {ow pr:List Int} {su:List (List Int)} {x:Int} {xs:List Int} (hb:(x::xs).length<big) (hr:∀v∈x::xs,0≤v∧v<pr.length) (hk:K (p64 (maxR pr x xs)) M):
  SemC tab 54 [slI f o .i64 (x::xs),moreV (gmF F ow pr su)] M K:=by
 have hb':(x::xs).length<1000000000000:=hb
 obtain⟨L,hL⟩:∃L,L=x::xs:=⟨_,rfl⟩
 have hl1:¬(L.length:Int)<1:=by rw[hL];simp only[List.length_cons];omega
 have hl0:(0:Int)<L.length:=by rw[hL];simp only[List.length_cons];omega
 have g0:L[0]? =some x:=by rw[hL];rfl
 rw[←hL]at hb' hr ⊢
 refine q11 T.h54 (by simp only[PP,P1,P2,P3,P4,P5,P6,P7,P8,P9,P10,P11,P12,P13,P14,L1,P15,N1,N2,N3,N4,N5,N6,N7,I1,I2,I3,I4,I5,I6,I7,reduceIte,reduceCtorEq,PV.under]) ?_
 have w1:IntKind.i64.wrap 1=((1:Nat):Int):=rfl
 simp only[af54,PP,P1,P2,P3,P4,P5,P6,P7,P8,P9,P10,P11,P12,P13,P14,L1,P15,N1,N2,N3,N4,N5,N6,N7,I1,I2,I3,I4,I5,I6,I7,reduceIte,reduceCtorEq,hl1,hl0,g0]
 refine loop2 (fun(k:Nat) (m:Int)=>1≤k∧k≤L.length∧(0≤m∧m<pr.length)∧maxR pr m (L.drop k)=maxR pr x xs) (fun k m=>[slI f o .i64 L,moreV (gmF F ow pr su),Zj,Zj,Zj,p64 m,p64 k,Zj,Zj,Zj,Zj,Zj,Zj,Zj,Zj,Zj,Zj,Zj,Zj,Zj,Zj,Zj,Zj,Zj,Zj,Zj,Zj,Zj,Zj,Zj,Zj,Zj,Zj]) (fun _ _=>[]) (fun k _=>L.length-k) 1 x ⟨by omega,by omega,hr x (by rw[hL];simp),by rw[hL];rfl⟩ (by simp only[PW]) rfl ?_
 intro k m ⟨hk1,hle,hm,hq⟩ ih
 refine q15 (by kernel_rfl) ?_
 simp only[PP,P1,P2,P3,P4,P5,P6,P7,P8,P9,P10,P11,P12,P13,P14,L1,P15,N1,N2,N3,N4,N5,N6,N7,I1,I2,I3,I4,I5,I6,I7,reduceIte,reduceCtorEq]
 refine QIf.intro (fun c=>?_) (fun c=>?_)
 ·have hk':k<L.length:=by omega
  obtain⟨v,g⟩:=q13 hk'
  obtain⟨v0,v1⟩:=hr v (List.mem_of_getElem? g)
  rw[drop_some g,maxR]at hq
  have hw:=q10 (k:=k) (by show _<1000000000000;omega)
  have h0:(0:Int)≤k:=by omega
  simp only[PP,P1,P2,P3,P4,P5,P6,P7,P8,P9,P10,P11,P12,P13,P14,L1,P15,N1,N2,N3,N4,N5,N6,N7,I1,I2,I3,I4,I5,I6,I7,reduceIte,reduceCtorEq,c,g,h0]
  refine rel1_p T v0 v1 hm.1 hm.2 ?_
  simp only[PP,P1,P2,P3,P4,P5,P6,P7,P8,P9,P10,P11,P12,P13,P14,L1,P15,N1,N2,N3,N4,N5,N6,N7,I1,I2,I3,I4,I5,I6,I7,reduceIte,reduceCtorEq]
  refine QIf.intro (fun d=>?_) (fun d=>?_)
  ·rw[if_pos d]at hq
   simp only[PP,P1,P2,P3,P4,P5,P6,P7,P8,P9,P10,P11,P12,P13,P14,L1,P15,N1,N2,N3,N4,N5,N6,N7,I1,I2,I3,I4,I5,I6,I7,reduceIte,reduceCtorEq,d,g,c,h0,hw]
   exact q8 (ih (k+1) v ⟨by omega,by omega,⟨v0,v1⟩,hq⟩ (by omega)) (by simp only[PW])
  ·rw[if_neg d]at hq
   simp only[PP,P1,P2,P3,P4,P5,P6,P7,P8,P9,P10,P11,P12,P13,P14,L1,P15,N1,N2,N3,N4,N5,N6,N7,I1,I2,I3,I4,I5,I6,I7,reduceIte,reduceCtorEq,d,hw]
   exact q8 (ih (k+1) m ⟨by omega,by omega,hm,hq⟩ (by omega)) (by simp only[PW])
 ·rw[List.drop_eq_nil_of_le (by omega),maxR]at hq
  simp only[PP,P1,P2,P3,P4,P5,P6,P7,P8,P9,P10,P11,P12,P13,P14,L1,P15,N1,N2,N3,N4,N5,N6,N7,I1,I2,I3,I4,I5,I6,I7,reduceIte,reduceCtorEq,c]
  rw[←hq]at hk
  exact hk
end
section
variable {tab:FuncId→Option AF} (T:HasA tab)
include T
theorem isNaN13_p {M:Mem} {K:PV→Mem→Prop} {x:Int} (hq:K (.bool false) M):SemC tab 96 [p64 x] M K:=by
 refine q11 T.h96 (by simp only[PP,P1,P2,P3,P4,P5,P6,P7,P8,P9,P10,P11,P12,P13,P14,L1,P15,N1,N2,N3,N4,N5,N6,N7,I1,I2,I3,I4,I5,I6,I7,reduceIte,reduceCtorEq]) ?_
 simp only[af96,PP,P1,P2,P3,P4,P5,P6,P7,P8,P9,P10,P11,P12,P13,P14,L1,P15,N1,N2,N3,N4,N5,N6,N7,I1,I2,I3,I4,I5,I6,I7,reduceIte,reduceCtorEq]
 exact hq
theorem less13_p {M:Mem} {K:PV→Mem→Prop} {x y:Int} (hq:K (.bool (decide (x<y))) M):SemC tab 103 [p64 x,p64 y] M K:=by
 refine q11 T.h103 (by simp only[PP,P1,P2,P3,P4,P5,P6,P7,P8,P9,P10,P11,P12,P13,P14,L1,P15,N1,N2,N3,N4,N5,N6,N7,I1,I2,I3,I4,I5,I6,I7,reduceIte,reduceCtorEq]) ?_
 simp only[af103,PP,P1,P2,P3,P4,P5,P6,P7,P8,P9,P10,P11,P12,P13,P14,L1,P15,N1,N2,N3,N4,N5,N6,N7,I1,I2,I3,I4,I5,I6,I7,reduceIte,reduceCtorEq]
 refine isNaN13_p T ?_
 simp only[PP,P1,P2,P3,P4,P5,P6,P7,P8,P9,P10,P11,P12,P13,P14,L1,P15,N1,N2,N3,N4,N5,N6,N7,I1,I2,I3,I4,I5,I6,I7,reduceIte,reduceCtorEq]
 exact hq
set_option maxHeartbeats 1000000 in
theorem isort_p {K:PV→Mem→Prop} {g v n:Nat} {l:List Int} (hn:l.length=n) (hb:n<1000000000000) (hk:∀(v':Nat) (l':List Int),l'.Perm l→l'.Pairwise (·≤·)→K (.tuple []) [.cells g v' (l'.map p64)]):
  SemC tab 97 [.ref 0 g 1 0 n,p64 0,p64 n] [.cells g v (l.map p64)] K:=by
 refine q33 T.h97 ?_
 simp only[af97,PP,P1,P2,P3,P4,P5,P6,P7,P8,P9,P10,P11,P12,P13,P14,L1,P15,N1,N2,N3,N4,N5,N6,N7,I1,I2,I3,I4,I5,I6,I7,reduceIte,reduceCtorEq]
 have w1:IntKind.i64.wrap 1=((1:Nat):Int):=rfl
 simp only[w1]
 refine loop3 (fun(i v:Nat) (x:List Int)=>1≤i∧x.Perm l∧(x.take i).Pairwise (·≤·)) (fun i v x=>[.ref 0 g 1 0 n,p64 0,p64 n,Zj,Zj,Zj,p64 i,Zj,Zj,Zj,Zj,Zj,Zj,Zj,Zj,Zj,Zj,Zj,Zj,Zj,Zj,Zj,Zj,Zj,Zj,Zj,Zj,Zj,Zj,Zj,Zj,Zj,Zj,Zj,Zj,Zj,Zj,Zj,Zj,Zj,Zj,Zj,Zj,Zj,Zj,Zj,Zj,Zj,Zj]) (fun i v x=>[.cells g v (x.map p64)]) (fun i _ _=>n-i) 1 v l ⟨by omega,.refl _,by match l with | []=>simp | [a]=>simp | a::b::c=>simp⟩ (by simp only[PW]) rfl ?_
 intro i v x ⟨hi,hp,hs⟩ ih
 have hxl:x.length=n:=by rw[hp.length_eq,hn]
 refine q15 (by kernel_rfl) ?_
 simp only[PP,P1,P2,P3,P4,P5,P6,P7,P8,P9,P10,P11,P12,P13,P14,L1,P15,N1,N2,N3,N4,N5,N6,N7,I1,I2,I3,I4,I5,I6,I7,reduceIte,reduceCtorEq]
 refine QIf.intro (fun c=>?_) (fun c=>?_)
 rotate_left
 ·rw[List.take_of_length_le (by omega)]at hs
  simp only[PP,P1,P2,P3,P4,P5,P6,P7,P8,P9,P10,P11,P12,P13,P14,L1,P15,N1,N2,N3,N4,N5,N6,N7,I1,I2,I3,I4,I5,I6,I7,reduceIte,reduceCtorEq,c]
  exact hk v x hp hs
 have hi':i<n:=by omega
 have hwi:=q10 (k:=i) (by show _<1000000000000;omega)
 simp only[PP,P1,P2,P3,P4,P5,P6,P7,P8,P9,P10,P11,P12,P13,P14,L1,P15,N1,N2,N3,N4,N5,N6,N7,I1,I2,I3,I4,I5,I6,I7,reduceIte,reduceCtorEq,c]
 obtain⟨y0,gy0⟩:=q13 (xs:=x) (k:=i) (by omega)
 have hx0:x.take i++y0::([]++x.drop (i+1))=x:=by
  have h2:=(List.getElem?_eq_some_iff.1 gy0).2
  have h3:=(List.getElem?_eq_some_iff.1 gy0).1
  conv=>rhs;rw[←List.take_append_drop i x,List.drop_eq_getElem_cons h3,h2]
  simp
 have hti:(x.take i).length=i:=by simp;omega
 refine loop5 (fun(v:Nat) (a:List Int) (y:Int) (b c:List Int)=>(a++y::(b++c)).Perm l∧a.length+b.length=i∧(a++b).Pairwise (·≤·)∧∀z∈b,y≤z) (fun v a y b c=>[.ref 0 g 1 0 n,p64 0,p64 n,Zj,Zj,Zj,p64 i,p64 a.length,Zj,Zj,Zj,Zj,Zj,Zj,Zj,Zj,Zj,Zj,Zj,Zj,Zj,Zj,Zj,Zj,Zj,Zj,Zj,Zj,Zj,Zj,Zj,Zj,Zj,Zj,Zj,Zj,Zj,Zj,Zj,Zj,Zj,Zj,Zj,Zj,Zj,Zj,Zj,Zj,Zj]) (fun v a y b c=>[.cells g v ((a++y::(b++c)).map p64)]) (fun _ a _ _ _=>a.length) v (x.take i) y0 [] (x.drop (i+1)) ⟨by rw[hx0];exact hp,by simp;omega,by simpa using hs,fun z hz=>by cases hz⟩ (by rw[hti];exact by simp only[PW]) (by rw[hx0]) ?_
 intro v a y b c' ⟨hp2,hl2,hs2,hb2⟩ ih2
 have hlen:=hp2.length_eq
 simp only[List.length_append,List.length_cons]at hlen
 have out:(∀z∈a,z≤y)→((a++y::(b++c')).take (i+1)).Pairwise (·≤·):=fun h=>by
  have e:(a++y::(b++c')).take (i+1)=a++y::b:=by
   rw[show a++y::(b++c')=(a++y::b)++c' by simp,List.take_left' (by simp;omega)]
  rw[e]
  rw[List.pairwise_append]at hs2 ⊢
  refine⟨hs2.1,List.pairwise_cons.2 ⟨hb2,hs2.2.1⟩,fun p hp q hq=>?_⟩
  rcases List.mem_cons.1 hq with rfl | hq
  ·exact h p hp
  ·exact hs2.2.2 p hp q hq
 rcases List.eq_nil_or_concat a with rfl | ⟨a,z,rfl⟩
 ·refine q15 (by kernel_rfl) ?_
  simp only[PP,P1,P2,P3,P4,P5,P6,P7,P8,P9,P10,P11,P12,P13,P14,L1,P15,N1,N2,N3,N4,N5,N6,N7,I1,I2,I3,I4,I5,I6,I7,reduceIte,reduceCtorEq,Int.lt_irrefl,hwi]
  exact q20 (ih (i+1) v (y::(b++c')) ⟨by omega,hp2,out (by simp)⟩ (by omega)) (by simp only[PW]) (by simp)
 ·simp only[List.concat_eq_append]at*
  obtain⟨X,hX⟩:∃X,X=(a++[z])++y::(b++c'):=⟨_,rfl⟩
  obtain⟨j,hj⟩:∃j,j=a.length:=⟨_,rfl⟩
  have hjl:(a++[z]).length=j+1:=by simp[hj]
  have e1:X[j]? =some z:=by simp[hX,hj]
  have e2:X[j+1]? =some y:=by simp[hX,hj,List.getElem?_append_right]
  have hXl:X.length=n:=by rw[hX,hp2.length_eq,hn]
  have hjn:j+1<n:=by have:=q12 e2;omega
  have m1:(X.map p64)[j]? =some (p64 z):=by rw[List.getElem?_map,e1];rfl
  have m2:(X.map p64)[j+1]? =some (p64 y):=by rw[List.getElem?_map,e2];rfl
  have q0:(0:Int)<((j+1:Nat):Int):=by omega
  have q1:(0:Int)≤((j+1:Nat):Int):=by omega
  have q2:((j+1:Nat):Int)<n:=by omega
  have q3:(0:Int)≤(j:Int):=by omega
  have q4:(j:Int)<n:=by omega
  have w2:IntKind.i64.wrap (((j+1:Nat):Int)-1)=(j:Int):=by rw[q57 (by omega) (by omega)];omega
  rw[←hX,hjl]
  refine q15 (by kernel_rfl) ?_
  simp only[PP,P1,P2,P3,P4,P5,P6,P7,P8,P9,P10,P11,P12,P13,P14,L1,P15,N1,N2,N3,N4,N5,N6,N7,I1,I2,I3,I4,I5,I6,I7,reduceIte,reduceCtorEq,q0,q1,q2,q3,q4,w2,m1,m2,e1,e2]
  refine less13_p T ?_
  simp only[PP,P1,P2,P3,P4,P5,P6,P7,P8,P9,P10,P11,P12,P13,P14,L1,P15,N1,N2,N3,N4,N5,N6,N7,I1,I2,I3,I4,I5,I6,I7,reduceIte,reduceCtorEq]
  refine QIf.intro (fun d=>?_) (fun d=>?_)
  ·simp only[PP,P1,P2,P3,P4,P5,P6,P7,P8,P9,P10,P11,P12,P13,P14,L1,P15,N1,N2,N3,N4,N5,N6,N7,I1,I2,I3,I4,I5,I6,I7,reduceIte,reduceCtorEq,d,q0,q1,q2,q3,q4,w2,m1,m2,e1,e2]
   subst hj
   refine⟨by omega,by omega,q20 (ih2 (v+1+1) a y (z::b) c' ⟨(List.Perm.append_left a (List.Perm.swap z y _)).trans (by simpa using hp2),by simp at hl2 ⊢;omega,by simpa using hs2,fun w hw=>?_⟩ (by simp)) (by simp only[PW]) (by simp[hX,List.getElem?_append_right])⟩
   rcases List.mem_cons.1 hw with rfl | hw
   ·omega
   ·exact hb2 w hw
  ·simp only[PP,P1,P2,P3,P4,P5,P6,P7,P8,P9,P10,P11,P12,P13,P14,L1,P15,N1,N2,N3,N4,N5,N6,N7,I1,I2,I3,I4,I5,I6,I7,reduceIte,reduceCtorEq,d,hwi]
   have hw0:∀w∈a++[z],w≤y:=fun w hw=>by
    rcases List.mem_append.1 hw with hw | hw
    ·have h1:=(List.pairwise_append.1 (List.pairwise_append.1 hs2).1).2.2 w hw z (by simp)
     omega
    ·rw[List.mem_singleton]at hw;omega
   exact q20 (ih (i+1) v X ⟨by omega,by rw[hX];exact hp2,by rw[hX];exact out hw0⟩ (by omega)) (by simp only[PW]) rfl
end
theorem swap_perm {l:List Int} {i j:Nat} {x y:Int} (h1:l[i]? =some x) (h2:l[j]? =some y):((l.set i y).set j x).Perm l:=by
 obtain⟨h3,rfl⟩:=List.getElem?_eq_some_iff.1 h1
 obtain⟨h4,rfl⟩:=List.getElem?_eq_some_iff.1 h2
 exact List.set_set_perm h3 h4
theorem swap_get {l:List Int} {i j:Nat} {x y:Int} (h1:l[i]? =some x) (h2:l[j]? =some y) (k:Nat):((l.set i y).set j x)[k]? =if k=j then some x else if k=i then some y else l[k]? :=by
 have h3:=q12 h1
 have h4:=q12 h2
 rw[List.getElem?_set,List.length_set]
 by_cases e:j=k
 ·subst e;rw[if_pos rfl,if_pos h4,if_pos rfl]
 ·rw[if_neg e,if_neg (fun q=>e q.symm),List.getElem?_set]
  by_cases e2:i=k
  ·subst e2;rw[if_pos rfl,if_pos h3,if_pos rfl]
  ·rw[if_neg e2,if_neg (fun q=>e2 q.symm)]
def cat3 (p x q:List Int):List Int:=p++(x++q)
section
variable {tab:FuncId→Option AF} (T:HasA tab)
include T
set_option maxHeartbeats 1000000 in
theorem isortR_p {K:PV→Mem→Prop} {g v n:Nat} {p s q:List Int} {ea eb:Int} (hn:p.length+s.length+q.length=n) (hb:n<1000000000000) (ha:ea=p.length) (hbb:eb=((p.length+s.length:Nat):Int)) (hk:∀(v':Nat) (s':List Int),s'.Perm s→s'.Pairwise (·≤·)→K (.tuple []) [.cells g v' ((cat3 p s' q).map p64)]):
  SemC tab 97 [.ref 0 g 1 0 n,p64 ea,p64 eb] [.cells g v ((cat3 p s q).map p64)] K:=by
 subst ha hbb
 refine q33 T.h97 ?_
 have w1:IntKind.i64.wrap ((p.length:Int)+1)=((p.length+1:Nat):Int):=q10 (by show _<1000000000000;omega)
 simp only[af97,PP,P1,P2,P3,P4,P5,P6,P7,P8,P9,P10,P11,P12,P13,P14,L1,P15,N1,N2,N3,N4,N5,N6,N7,I1,I2,I3,I4,I5,I6,I7,reduceIte,reduceCtorEq,w1]
 refine loop3 (fun(i v:Nat) (x:List Int)=>1≤i∧x.Perm s∧(x.take i).Pairwise (·≤·)) (fun i v x=>[.ref 0 g 1 0 n,p64 p.length,p64 ((p.length+s.length:Nat):Int),Zj,Zj,Zj,p64 ((p.length+i:Nat):Int),Zj,Zj,Zj,Zj,Zj,Zj,Zj,Zj,Zj,Zj,Zj,Zj,Zj,Zj,Zj,Zj,Zj,Zj,Zj,Zj,Zj,Zj,Zj,Zj,Zj,Zj,Zj,Zj,Zj,Zj,Zj,Zj,Zj,Zj,Zj,Zj,Zj,Zj,Zj,Zj,Zj,Zj]) (fun i v x=>[.cells g v ((cat3 p x q).map p64)]) (fun i _ _=>s.length-i) 1 v s ⟨by omega,.refl _,by match s with | []=>simp | [a]=>simp | a::b::c=>simp⟩ (by simp only[PW]) (by rfl) ?_
 intro i v x ⟨hi,hp,hs⟩ ih
 have hxl:x.length=s.length:=hp.length_eq
 refine q15 (by kernel_rfl) ?_
 simp only[PP,P1,P2,P3,P4,P5,P6,P7,P8,P9,P10,P11,P12,P13,P14,L1,P15,N1,N2,N3,N4,N5,N6,N7,I1,I2,I3,I4,I5,I6,I7,reduceIte,reduceCtorEq]
 refine QIf.intro (fun c=>?_) (fun c=>?_)
 rotate_left
 ·rw[List.take_of_length_le (by omega)]at hs
  simp only[PP,P1,P2,P3,P4,P5,P6,P7,P8,P9,P10,P11,P12,P13,P14,L1,P15,N1,N2,N3,N4,N5,N6,N7,I1,I2,I3,I4,I5,I6,I7,reduceIte,reduceCtorEq,c]
  exact hk v x hp hs
 have hi':i<s.length:=by omega
 have hwi:IntKind.i64.wrap (((p.length+i:Nat):Int)+1)=((p.length+(i+1):Nat):Int):=q10 (k:=p.length+i) (by show _<1000000000000;omega)
 simp only[PP,P1,P2,P3,P4,P5,P6,P7,P8,P9,P10,P11,P12,P13,P14,L1,P15,N1,N2,N3,N4,N5,N6,N7,I1,I2,I3,I4,I5,I6,I7,reduceIte,reduceCtorEq,c]
 obtain⟨y0,gy0⟩:=q13 (xs:=x) (k:=i) (by omega)
 have hx0:x.take i++y0::([]++x.drop (i+1))=x:=by
  have h2:=(List.getElem?_eq_some_iff.1 gy0).2
  have h3:=(List.getElem?_eq_some_iff.1 gy0).1
  conv=>rhs;rw[←List.take_append_drop i x,List.drop_eq_getElem_cons h3,h2]
  simp
 have hti:(x.take i).length=i:=by simp;omega
 refine loop5 (fun(v:Nat) (a:List Int) (y:Int) (b c:List Int)=>(a++y::(b++c)).Perm s∧a.length+b.length=i∧(a++b).Pairwise (·≤·)∧∀z∈b,y≤z) (fun v a y b c=>[.ref 0 g 1 0 n,p64 p.length,p64 ((p.length+s.length:Nat):Int),Zj,Zj,Zj,p64 ((p.length+i:Nat):Int),p64 ((p.length+a.length:Nat):Int),Zj,Zj,Zj,Zj,Zj,Zj,Zj,Zj,Zj,Zj,Zj,Zj,Zj,Zj,Zj,Zj,Zj,Zj,Zj,Zj,Zj,Zj,Zj,Zj,Zj,Zj,Zj,Zj,Zj,Zj,Zj,Zj,Zj,Zj,Zj,Zj,Zj,Zj,Zj,Zj,Zj]) (fun v a y b c=>[.cells g v ((cat3 p (a++y::(b++c)) q).map p64)]) (fun _ a _ _ _=>a.length) v (x.take i) y0 [] (x.drop (i+1)) ⟨by rw[hx0];exact hp,by simp;omega,by simpa using hs,fun z hz=>by cases hz⟩ (by rw[hti];exact by simp only[PW]) (by rw[hx0]) ?_
 intro v a y b c' ⟨hp2,hl2,hs2,hb2⟩ ih2
 have hlen:=hp2.length_eq
 simp only[List.length_append,List.length_cons]at hlen
 have out:(∀z∈a,z≤y)→((a++y::(b++c')).take (i+1)).Pairwise (·≤·):=fun h=>by
  have e:(a++y::(b++c')).take (i+1)=a++y::b:=by
   rw[show a++y::(b++c')=(a++y::b)++c' by simp,List.take_left' (by simp;omega)]
  rw[e]
  rw[List.pairwise_append]at hs2 ⊢
  refine⟨hs2.1,List.pairwise_cons.2 ⟨hb2,hs2.2.1⟩,fun p hp q hq=>?_⟩
  rcases List.mem_cons.1 hq with rfl | hq
  ·exact h p hp
  ·exact hs2.2.2 p hp q hq
 rcases List.eq_nil_or_concat a with rfl | ⟨a,z,rfl⟩
 ·refine q15 (by kernel_rfl) ?_
  have lir:¬((p.length:Int)<((p.length+([]:List Int).length:Nat):Int)):=by simp
  simp only[PP,P1,P2,P3,P4,P5,P6,P7,P8,P9,P10,P11,P12,P13,P14,L1,P15,N1,N2,N3,N4,N5,N6,N7,I1,I2,I3,I4,I5,I6,I7,reduceIte,reduceCtorEq,lir,Int.lt_irrefl,hwi]
  exact q20 (ih (i+1) v (y::(b++c')) ⟨by omega,hp2,out (by simp)⟩ (by omega)) (by simp only[PW]) (by simp)
 ·simp only[List.concat_eq_append]at*
  obtain⟨X,hX⟩:∃X,X=cat3 p ((a++[z])++y::(b++c')) q:=⟨_,rfl⟩
  obtain⟨j,hj⟩:∃j,j=p.length+a.length:=⟨_,rfl⟩
  have hjl:p.length+(a++[z]).length=j+1:=by simp[hj];omega
  have hX2:X=(p++a)++z::y::(b++c'++q):=by rw[hX];simp[cat3]
  have e1:X[j]? =some z:=by rw[hX2,hj,show p.length+a.length=(p++a).length by simp,List.getElem?_append_right (by omega),Nat.sub_self];rfl
  have e2:X[j+1]? =some y:=by rw[hX2,hj,show p.length+a.length+1=(p++a).length+1 by simp,List.getElem?_append_right (by omega),Nat.add_sub_cancel_left];rfl
  have hXl:X.length=n:=by rw[hX2];simp at hlen ⊢;omega
  have hjn:j+1<n:=by have:=q12 e2;omega
  have hpj:(p.length:Int)<((j+1:Nat):Int):=by omega
  have m1:(X.map p64)[j]? =some (p64 z):=by rw[List.getElem?_map,e1];rfl
  have m2:(X.map p64)[j+1]? =some (p64 y):=by rw[List.getElem?_map,e2];rfl
  have q1:(0:Int)≤((j+1:Nat):Int):=by omega
  have q2:((j+1:Nat):Int)<n:=by omega
  have q3:(0:Int)≤(j:Int):=by omega
  have q4:(j:Int)<n:=by omega
  have w2:IntKind.i64.wrap (((j+1:Nat):Int)-1)=(j:Int):=by rw[q57 (by omega) (by omega)];omega
  rw[←hX,hjl]
  refine q15 (by kernel_rfl) ?_
  simp only[PP,P1,P2,P3,P4,P5,P6,P7,P8,P9,P10,P11,P12,P13,P14,L1,P15,N1,N2,N3,N4,N5,N6,N7,I1,I2,I3,I4,I5,I6,I7,reduceIte,reduceCtorEq,hpj,q1,q2,q3,q4,w2,m1,m2,e1,e2]
  refine less13_p T ?_
  simp only[PP,P1,P2,P3,P4,P5,P6,P7,P8,P9,P10,P11,P12,P13,P14,L1,P15,N1,N2,N3,N4,N5,N6,N7,I1,I2,I3,I4,I5,I6,I7,reduceIte,reduceCtorEq]
  refine QIf.intro (fun d=>?_) (fun d=>?_)
  ·simp only[PP,P1,P2,P3,P4,P5,P6,P7,P8,P9,P10,P11,P12,P13,P14,L1,P15,N1,N2,N3,N4,N5,N6,N7,I1,I2,I3,I4,I5,I6,I7,reduceIte,reduceCtorEq,d,q1,q2,q3,q4,w2,m1,m2,e1,e2]
   have hmem:((X.set (j+1) z).set j y)=cat3 p (a++y::(z::b++c')) q:=by
    rw[hX2,hj]
    rw[show p.length+a.length=(p++a).length by simp]
    rw[List.set_append_right _ _ (by omega),Nat.add_sub_cancel_left]
    rw[List.set_append_right _ _ (by omega),Nat.sub_self]
    simp[cat3]
   subst hj
   refine⟨by omega,by omega,q20 (ih2 (v+1+1) a y (z::b) c' ⟨(List.Perm.append_left a (List.Perm.swap z y _)).trans (by simpa using hp2),by simp at hl2 ⊢;omega,by simpa using hs2,fun w hw=>?_⟩ (by simp)) (by simp only[PW]) (by rw[←hmem,List.map_set,List.map_set])⟩
   rcases List.mem_cons.1 hw with rfl | hw
   ·omega
   ·exact hb2 w hw
  ·simp only[PP,P1,P2,P3,P4,P5,P6,P7,P8,P9,P10,P11,P12,P13,P14,L1,P15,N1,N2,N3,N4,N5,N6,N7,I1,I2,I3,I4,I5,I6,I7,reduceIte,reduceCtorEq,d,hwi]
   have hw0:∀w∈a++[z],w≤y:=fun w hw=>by
    rcases List.mem_append.1 hw with hw | hw
    ·have h1:=(List.pairwise_append.1 (List.pairwise_append.1 hs2).1).2.2 w hw z (by simp)
     omega
    ·rw[List.mem_singleton]at hw;omega
   exact q20 (ih (i+1) v ((a++[z])++y::(b++c')) ⟨by omega,hp2,out hw0⟩ (by omega)) (by simp only[PW]) (by rw[hX])
end
end Go.Am.Ar

