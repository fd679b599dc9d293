/- Contracts: the reference's value of a play, and what goes with it. -/
import Derived.Test.YtgapkfaikhlipaaImproveValuationMatchesG4
import Derived.Test.YtgapkfaikhlipaaPmC
set_option linter.unusedVariables false
set_option linter.unusedSimpArgs false
set_option maxRecDepth 10000
namespace Go.Am.Ar
open Go.Am.PV renaming junk→Zj
open Go.Am renaming pchk→P1,pold→P2,PKNo→P3,ppack→P4,PObj.under→P5,pput→P6,ptset→P7,q55→P8,pev→P9,ofAV→P10,q31→P11,ppad→P12,pfill→P13,q30→P14,AO.effect→P15
open List renaming replicate→L1
open Nat renaming reduceAdd→N1,reduceSub→N2,reduceMul→N3,reduceLT→N4,reduceLeDiff→N5,reduceEqDiff→N6,reduceBEq→N7
open Int renaming reduceToNat→I1,reduceLT→I2,reduceLE→I3,reduceEq→I4,reduceAdd→I5,reduceSub→I6,reduceNeg→I7
theorem maxR_self (pr:List Int) (x:Int) (xs:List Int):maxR pr x (x::xs)=maxR pr x xs:=by
 rw[maxR,if_neg (by rw[(q18 pr).self];omega)]
theorem folZ_wk (e:Int):PvWk (.tuple [.agg [p64 0,.nils,p64 0],p64 e]) (.tuple [.agg (vlL false true ⟨0,[],0⟩),p64 e]):=by
 refine PvWk.tuple rfl fun i y z h1 h2=>?_
 match i with
 | 0=>
  cases h1;cases h2
  refine PvWk.agg rfl fun i y z h1 h2=>?_
  match i with
  | 0=>cases h1;cases h2;exact PvWk.refl _
  | 1=>cases h1;cases h2;exact PvWk.nils _ _ _
  | 2=>cases h1;cases h2;exact PvWk.refl _
  | i+3=>simp at h1
 | 1=>cases h1;cases h2;exact PvWk.refl _
 | i+2=>simp at h1
section
variable {tab:FuncId→Option AF} (T:HasA tab)
include T
set_option maxHeartbeats 2000000 in
theorem rfollow_p {M:Mem} {K:PV→Mem→Prop} {F:GF} {f5 o5:Bool} {ow pr st:List Int} {su:List (List Int)} {v:Int} (B:Bnd ow pr su) (hb:st.length<big) (hq:K (.tuple [.agg (vlL false true (folA ow pr su st v)),p64 (playE ow pr su st v)]) M):
  SemC tab 28 [.agg (gmF F ow pr su),slI f5 o5 .i64 st,p64 v] M K:=by
 refine SemC_wk ?_
 refine q11 T.h28 (by simp only[PP,P1,P2,P3,P4,P5,P6,P7,P8,P9,P10,P11,P12,P13,P14,L1,P15,N1,N2,N3,N4,N5,N6,N7,I1,I2,I3,I4,I5,I6,I7,reduceIte,reduceCtorEq]) ?_
 simp only[af28,PP,P1,P2,P3,P4,P5,P6,P7,P8,P9,P10,P11,P12,P13,P14,L1,P15,N1,N2,N3,N4,N5,N6,N7,I1,I2,I3,I4,I5,I6,I7,reduceIte,reduceCtorEq]
 refine rplay_l T B hb (fun c1 x=>?_) (fun c1 x2 x3=>?_)
 ·unfold folA at hq
  rw[if_neg c1]at hq
  simp only[PP,P1,P2,P3,P4,P5,P6,P7,P8,P9,P10,P11,P12,P13,P14,L1,P15,N1,N2,N3,N4,N5,N6,N7,I1,I2,I3,I4,I5,I6,I7,reduceIte,reduceCtorEq,c1]
  exact⟨_,folZ_wk _,hq⟩
 unfold folA at hq
 rw[if_pos c1,c1]at hq
 obtain⟨cc,v0,v1,hst,f,hf1,hf2,m,k,hP⟩:=play_facts c1
 have V:=q22 cc
 obtain⟨hnd,hran,hlen,hne⟩:=hP.facts (fun v hv=>(hf2 v hv).1) (by omega)
 have hpl:pr.length=ow.length:=V.p
 have hn4:=V.n1
 unfold folX at hq
 obtain⟨P,hPP⟩:∃P,P=(q63 st (ow.length+1) v []).1:=⟨_,rfl⟩
 obtain⟨L,hLL⟩:∃L,L=(q63 st (ow.length+1) v []).2:=⟨_,rfl⟩
 rw[←hPP,←hLL]at hnd hran hlen hq ⊢
 rw[←hLL]at hne
 obtain⟨x,xs,hL⟩:∃x xs,L=x::xs:=by cases L with | nil=>exact absurd rfl hne | cons x xs=>exact⟨x,xs,rfl⟩
 rw[hL]at hq
 simp only[folV]at hq
 rw[List.length_append]at hlen
 obtain⟨w,hw⟩:∃w,w=maxR pr x xs:=⟨_,rfl⟩
 rw[←hL,←hw]at hq
 have hL0:L[0]? =some x:=by rw[hL];rfl
 have hLn:0<L.length:=by rw[hL];simp
 have hLz:(0:Int)<L.length:=by omega
 have hrL:∀y∈L,0≤y∧y<pr.length:=fun y hy=>by
  have:=hran y (List.mem_append.2 (.inr hy));omega
 simp only[PP,P1,P2,P3,P4,P5,P6,P7,P8,P9,P10,P11,P12,P13,P14,L1,P15,N1,N2,N3,N4,N5,N6,N7,I1,I2,I3,I4,I5,I6,I7,reduceIte,reduceCtorEq,hL0,hLz]
 refine loop2 (fun(k:Nat) (m:Int)=>k≤L.length∧(0≤m∧m<pr.length)∧maxR pr m (L.drop k)=w) (fun k m=>[Zj,Zj,Zj,.ptr 0 0 0,Zj,Zj,.ptr 1 0 0,Zj,.ref 4 0 1 0 P.length,.ref 5 0 1 0 L.length,Zj,p64 m,p64 k,Zj,Zj,Zj,Zj,Zj,Zj,Zj,Zj,Zj,Zj,Zj,Zj,Zj,Zj,Zj,Zj,Zj,Zj,Zj,Zj,Zj,Zj,Zj,Zj,Zj,Zj,Zj,Zj,Zj,Zj,Zj,Zj,Zj,Zj,Zj,Zj,Zj,Zj,Zj,Zj,Zj,Zj,Zj,Zj,Zj,Zj,Zj,Zj,Zj,Zj,Zj,Zj,Zj,Zj,Zj,Zj,Zj,Zj,Zj,Zj,Zj,Zj,Zj,Zj,Zj,Zj,Zj,Zj,Zj,Zj,Zj,Zj,Zj,Zj])
  (fun _ _=>[.cells 0 0 (gmF F ow pr su),.cells 0 0 [p64 0,.nils,p64 0],x2,x3,.cells 0 0 (P.map p64),.cells 0 0 (L.map p64)]) (fun k _=>L.length-k) 0 x ⟨by omega,hrL x (by rw[hL];simp),by rw[List.drop_zero,hL,maxR_self,hw]⟩ (by simp only[PW]) rfl ?_
 intro k m ⟨hle,hm,hmx⟩ ih
 refine q15 (by kernel_rfl) ?_
 simp only[PP,P1,P2,P3,P4,P5,P6,P7,P8,P9,P10,P11,P12,P13,P14,L1,P15,N1,N2,N3,N4,N5,N6,N7,I1,I2,I3,I4,I5,I6,I7,reduceIte,reduceCtorEq]
 refine QIf.intro (fun c=>?_) (fun c=>?_)
 ·have hk':k<L.length:=by omega
  obtain⟨y,g⟩:=q13 hk'
  obtain⟨y0,y1⟩:=hrL y (List.mem_of_getElem? g)
  rw[drop_some g,maxR]at hmx
  have hwk:=q10 (k:=k) (by show _<1000000000000;omega)
  have k0:(0:Int)≤k:=by omega
  simp only[PP,P1,P2,P3,P4,P5,P6,P7,P8,P9,P10,P11,P12,P13,P14,L1,P15,N1,N2,N3,N4,N5,N6,N7,I1,I2,I3,I4,I5,I6,I7,reduceIte,reduceCtorEq,c,g,k0]
  refine relevant_p T y0 y1 hm.1 hm.2 ?_
  simp only[PP,P1,P2,P3,P4,P5,P6,P7,P8,P9,P10,P11,P12,P13,P14,L1,P15,N1,N2,N3,N4,N5,N6,N7,I1,I2,I3,I4,I5,I6,I7,reduceIte,reduceCtorEq]
  by_cases d:0<relI pr y m
  ·rw[if_pos d]at hmx
   simp only[PP,P1,P2,P3,P4,P5,P6,P7,P8,P9,P10,P11,P12,P13,P14,L1,P15,N1,N2,N3,N4,N5,N6,N7,I1,I2,I3,I4,I5,I6,I7,reduceIte,reduceCtorEq,d,g,c,k0,hwk]
   exact q8 (ih (k+1) y ⟨by omega,⟨y0,y1⟩,hmx⟩ (by omega)) (by simp only[PW])
  ·rw[if_neg d]at hmx
   simp only[PP,P1,P2,P3,P4,P5,P6,P7,P8,P9,P10,P11,P12,P13,P14,L1,P15,N1,N2,N3,N4,N5,N6,N7,I1,I2,I3,I4,I5,I6,I7,reduceIte,reduceCtorEq,d,hwk]
   exact q8 (ih (k+1) m ⟨by omega,hm,hmx⟩ (by omega)) (by simp only[PW])
 rw[List.drop_eq_nil_of_le (by omega),maxR]at hmx
 subst hmx
 have hwm:m∈P++L:=by
  rw[hL]
  refine List.mem_append.2 (.inr ?_)
  rcases maxR_mem pr xs x with h | h
  ·rw[hw,h];simp
  ·rw[hw];exact List.mem_cons_of_mem _ h
 obtain⟨A,hA⟩:∃A,A=P++L:=⟨_,rfl⟩
 have hps:psub (P.map p64) 0 P.length=P.map p64:=psub_map _ _
 have hps2:psub (L.map p64) 0 L.length=L.map p64:=psub_map _ _
 have hcat:P.map p64++L.map p64=A.map p64:=by rw[hA,List.map_append]
 have hAl:A.length=P.length+L.length:=by rw[hA,List.length_append]
 rw[←hA]at hq hnd hran hwm
 simp only[PP,P1,P2,P3,P4,P5,P6,P7,P8,P9,P10,P11,P12,P13,P14,L1,P15,N1,N2,N3,N4,N5,N6,N7,I1,I2,I3,I4,I5,I6,I7,reduceIte,reduceCtorEq,c,hps,hps2,hLn]
 rw[hcat]
 refine⟨by omega,?_⟩
 obtain⟨i0,hi0,hi1,hi2⟩:∃i:Nat,A[i]? =some m∧m∉A.take i∧idxI m 0 A=((0+i:Nat):Int):=by
  rcases idxI_spec m A 0 with⟨h1,_⟩ | h
  ·exact absurd hwm h1
  ·exact h
 have hi3:=q12 hi0
 refine loop2 (fun(i ver:Nat)=>i≤i0) (fun i ver=>[Zj,Zj,Zj,.ptr 0 0 0,Zj,Zj,.ptr 1 0 0,Zj,Zj,Zj,Zj,p64 m,Zj,.ptr 6 0 0,.ref 4 1 1 0 (P.length+L.length),Zj,Zj,Zj,Zj,Zj,Zj,Zj,Zj,Zj,Zj,Zj,Zj,Zj,Zj,Zj,Zj,Zj,Zj,Zj,Zj,Zj,Zj,Zj,Zj,Zj,Zj,Zj,Zj,Zj,Zj,Zj,Zj,Zj,Zj,Zj,Zj,Zj,Zj,Zj,Zj,Zj,Zj,Zj,Zj,Zj,Zj,Zj,Zj,Zj,Zj,Zj,Zj,Zj,Zj,Zj,Zj,Zj,Zj,Zj,Zj,Zj,Zj,Zj,Zj,Zj,Zj,Zj,Zj,Zj,Zj,Zj,Zj])
  (fun i ver=>[.cells 0 0 (gmF F ow pr su),.cells 0 0 [p64 0,.nils,p64 0],x2,x3,.cells 1 0 (A.map p64),.cells 0 0 (L.map p64),.cells 0 ver [p64 m,.nils,p64 i]]) (fun i _=>i0-i) 0 1 (Nat.zero_le _) (by simp only[PW]) rfl ?_
 intro i ver hi ih2
 have hil:i<A.length:=by omega
 obtain⟨y,gy⟩:=q13 hil
 have j0:(0:Int)≤i:=by omega
 have j1:(i:Int)<((P.length+L.length:Nat):Int):=by omega
 have hwi:=q10 (k:=i) (by show _<1000000000000;omega)
 refine q15 (by kernel_rfl) ?_
 simp only[PP,P1,P2,P3,P4,P5,P6,P7,P8,P9,P10,P11,P12,P13,P14,L1,P15,N1,N2,N3,N4,N5,N6,N7,I1,I2,I3,I4,I5,I6,I7,reduceIte,reduceCtorEq,gy,j0,j1]
 refine QIf.intro (fun e=>?_) (fun e=>?_)
 rotate_left
 ·have hne:i≠i0:=by rintro rfl;rw[hi0]at gy;cases gy;exact e rfl
  simp only[PP,P1,P2,P3,P4,P5,P6,P7,P8,P9,P10,P11,P12,P13,P14,L1,P15,N1,N2,N3,N4,N5,N6,N7,I1,I2,I3,I4,I5,I6,I7,reduceIte,reduceCtorEq,e,hwi]
  exact q8 (ih2 (i+1) _ (by omega) (by omega)) (by simp only[PW])
 have hie:i=i0:=by
  refine Classical.byContradiction fun hne=>hi1 ?_
  rw[e]at gy
  exact List.mem_of_getElem? (i:=i) (by rw[List.getElem?_take,if_pos (by omega)];exact gy)
 have hix:(i:Int)=idxI m 0 A:=by rw[hi2];omega
 simp only[PP,P1,P2,P3,P4,P5,P6,P7,P8,P9,P10,P11,P12,P13,P14,L1,P15,N1,N2,N3,N4,N5,N6,N7,I1,I2,I3,I4,I5,I6,I7,reduceIte,reduceCtorEq,e]
 rw[hix]
 refine SemW_re (GStep.nilbox 6 1 1 rfl rfl rfl) ?_
 simp only[List.set_cons_succ,List.set_cons_zero,List.cons_append,List.nil_append,List.length_cons,List.length_nil,Nat.reduceAdd]
 refine loop5 (fun(k g v ver n:Nat)=>k≤ow.length∧n=(seF k pr A m).length) (fun k g v ver n=>[Zj,Zj,Zj,.ptr 0 0 0,Zj,Zj,.ptr 1 0 0,Zj,Zj,Zj,Zj,p64 m,Zj,.ptr 6 0 0,.ref 4 1 1 0 (P.length+L.length),p64 k,Zj,Zj,Zj,Zj,Zj,Zj,Zj,Zj,Zj,Zj,Zj,Zj,Zj,Zj,Zj,Zj,Zj,Zj,Zj,Zj,Zj,Zj,Zj,Zj,Zj,Zj,Zj,Zj,Zj,Zj,Zj,Zj,Zj,Zj,Zj,Zj,Zj,Zj,Zj,Zj,Zj,Zj,Zj,Zj,Zj,Zj,Zj,Zj,Zj,Zj,Zj,Zj,Zj,Zj,Zj,Zj,Zj,Zj,Zj,Zj,Zj,Zj,Zj,Zj,Zj,Zj,Zj,Zj,Zj,Zj,Zj])
  (fun k g v ver n=>[.cells 0 0 (gmF F ow pr su),.cells 0 0 [p64 0,.nils,p64 0],x2,x3,.cells 1 0 (A.map p64),.cells 0 0 (L.map p64),.cells 0 ver [p64 m,.ref 7 g 1 0 n,p64 (idxI m 0 A)],.cells g v ((seF k pr A m).map p64)]) (fun k _ _ _ _=>ow.length-k) 0 0 0 _ 0 ⟨by omega,rfl⟩ (by simp only[PW]) rfl ?_
 intro k g v ver n ⟨hle,hn⟩ ih3
 refine q15 (by kernel_rfl) ?_
 simp only[PP,P1,P2,P3,P4,P5,P6,P7,P8,P9,P10,P11,P12,P13,P14,L1,P15,N1,N2,N3,N4,N5,N6,N7,I1,I2,I3,I4,I5,I6,I7,reduceIte,reduceCtorEq]
 refine QIf.intro (fun c=>?_) (fun c=>?_)
 ·have hk':k<ow.length:=by omega
  have hwk:=q10 (k:=k) (by show _<1000000000000;omega)
  have k0:(0:Int)≤k:=by omega
  have hnk:n≤k:=by rw[hn];exact seF_len
  have hsuc:seF (k+1) pr A m=seF k pr A m++(if(k:Int)∈A∧0<relI pr k m then [(k:Int)] else []):=by
   unfold seF
   rw[List.range_succ]
   simp only[List.map_append,List.filter_append,List.map_cons,List.map_nil]
   congr 1
   by_cases h:(k:Int)∈A∧0<relI pr k m
   ·rw[if_pos h];simp[h]
   ·rw[if_neg h];simp only[List.filter_cons,List.filter_nil];rw[if_neg (by simpa using h)]
  obtain⟨X,hX⟩:∃X,X=seF k pr A m:=⟨_,rfl⟩
  rw[←hX]at hn hsuc ⊢
  simp only[PP,P1,P2,P3,P4,P5,P6,P7,P8,P9,P10,P11,P12,P13,P14,L1,P15,N1,N2,N3,N4,N5,N6,N7,I1,I2,I3,I4,I5,I6,I7,reduceIte,reduceCtorEq,c]
  refine SemC_bor (.ints rfl hAl (.same rfl .nil)) (hasInt_p T (by show _<1000000000000;omega) ⟨rfl,?_⟩)
  simp only[PP,P1,P2,P3,P4,P5,P6,P7,P8,P9,P10,P11,P12,P13,P14,L1,P15,N1,N2,N3,N4,N5,N6,N7,I1,I2,I3,I4,I5,I6,I7,reduceIte,reduceCtorEq]
  by_cases h1:(k:Int)∈A
  ·simp only[PP,P1,P2,P3,P4,P5,P6,P7,P8,P9,P10,P11,P12,P13,P14,L1,P15,N1,N2,N3,N4,N5,N6,N7,I1,I2,I3,I4,I5,I6,I7,reduceIte,reduceCtorEq,h1]
   refine relevant_p T k0 (by omega) hm.1 hm.2 ?_
   simp only[PP,P1,P2,P3,P4,P5,P6,P7,P8,P9,P10,P11,P12,P13,P14,L1,P15,N1,N2,N3,N4,N5,N6,N7,I1,I2,I3,I4,I5,I6,I7,reduceIte,reduceCtorEq]
   by_cases h2:0<relI pr k m
   ·rw[if_pos ⟨h1,h2⟩]at hsuc
    have hps3:psub (X.map p64) 0 n=X.map p64:=q53 _ _ (by simp[hn])
    have hxl:n≤X.length:=by omega
    simp only[PP,P1,P2,P3,P4,P5,P6,P7,P8,P9,P10,P11,P12,P13,P14,L1,P15,N1,N2,N3,N4,N5,N6,N7,I1,I2,I3,I4,I5,I6,I7,reduceIte,reduceCtorEq,h2,hps3,hxl,hwk]
    refine⟨⟨by omega,by omega⟩,q20 (ih3 (k+1) (g+1) 0 (ver+1) (n+1) ⟨by omega,by rw[hsuc];simp[hn]⟩ (by omega)) (by simp only[PW]) (by rw[hsuc];simp)⟩
   ·rw[if_neg (fun h=>h2 h.2),List.append_nil]at hsuc
    simp only[PP,P1,P2,P3,P4,P5,P6,P7,P8,P9,P10,P11,P12,P13,P14,L1,P15,N1,N2,N3,N4,N5,N6,N7,I1,I2,I3,I4,I5,I6,I7,reduceIte,reduceCtorEq,h2,hwk]
    exact q20 (ih3 (k+1) g v ver n ⟨by omega,by rw[hsuc];exact hn⟩ (by omega)) (by simp only[PW]) (by rw[hsuc])
  ·rw[if_neg (fun h=>h1 h.1),List.append_nil]at hsuc
   simp only[PP,P1,P2,P3,P4,P5,P6,P7,P8,P9,P10,P11,P12,P13,P14,L1,P15,N1,N2,N3,N4,N5,N6,N7,I1,I2,I3,I4,I5,I6,I7,reduceIte,reduceCtorEq,h1,hwk]
   exact q20 (ih3 (k+1) g v ver n ⟨by omega,by rw[hsuc];exact hn⟩ (by omega)) (by simp only[PW]) (by rw[hsuc])
 ·have hkn:k=ow.length:=by omega
  rw[hkn]at hn ⊢
  obtain⟨X,hX⟩:∃X,X=seF ow.length pr A m:=⟨_,rfl⟩
  rw[←hX]at hn hq ⊢
  have hps3:psub (X.map p64) 0 n=X.map p64:=q53 _ _ (by simp[hn])
  have hxl:n≤X.length:=by omega
  simp only[PP,P1,P2,P3,P4,P5,P6,P7,P8,P9,P10,P11,P12,P13,P14,L1,P15,N1,N2,N3,N4,N5,N6,N7,I1,I2,I3,I4,I5,I6,I7,reduceIte,reduceCtorEq,c,hps3,hxl]
  refine⟨_,PvWk.refl _,?_⟩
  rw[hn]
  exact hq
end
abbrev chC (n:Nat) (c:Nat→Nat):List Int:=tabA n fun v=>((c v:Nat):Int)
theorem chC_get {n:Nat} {c:Nat→Nat} {v:Nat} (hv:v<n):(chC n c)[v]? =some ((c v:Nat):Int):=q66 hv
theorem chC_set {n:Nat} {c:Nat→Nat} {v:Nat} (x:Nat) (hv:v<n):(chC n c).set v (x:Int)=chC n fun u=>if u=v then x else c u:=by
 rw[tabA_set _ hv]
 exact q38 fun u hu=>by by_cases e:u=v<;>simp[e]
theorem age_gm3 (F:GF) (ow pr:List Int) (su:List (List Int)) (xs:List Int) (v:Int):ageL [.agg (gmF F ow pr su),slI true false .i64 xs,p64 v]=[.agg (gmF F0 ow pr su),slI false false .i64 xs,p64 v]:=by
 simp only[ageL,PV.age,ageL_ints,ageL_slI]
theorem put_le {A:List Vl} {R:List PV} (x:Vl):(vlsL A++R).take (A.length*3)++(vlL false true x++(vlsL A++R).drop (A.length*3+3))=vlsL (A++[x])++R.drop 3:=by
 rw[←q64 A,List.take_left' rfl,←List.drop_drop,List.drop_left' rfl,←vlsL_app,List.append_assoc]
theorem und_drop {m:Nat} {l:List PV} (h:q14 m l=true) (k:Nat):q14 m (l.drop k)=true:=(q37 m _).2 fun v hv=>(q37 m _).1 h v (List.mem_of_mem_drop hv)
theorem vlsL_append (a b:List Vl):vlsL (a++b)=vlsL a++vlsL b:=by simp[vlsL]
theorem und_celV (m n:Nat) (xs:List Vl):q14 m (celV n xs)=true:=by
 unfold celV
 rw[underL_append,vlsL_und,Bool.true_and]
 generalize n-xs.length=k
 induction k with
 | zero=>rfl
 | succ k ih=>rw[q30,underL_append,ih];rfl
section
variable {tab:FuncId→Option AF} (T:HasA tab)
include T
set_option maxHeartbeats 2000000 in
theorem rvaluation_p {M:Mem} {K:PV→Mem→Prop} {F:GF} {f5 o5:Bool} {ow pr st st1:List Int} {su:List (List Int)} (B:Bnd ow pr su) (ho:∀x∈ow,0≤x) (h14:ow.length≤14) (e:comE ow pr su st=0) (R:RespOk ow pr su (comM ow su st) st1)
  (hk:K (.sl false true 3 ow.length (vlsL (q19 ow pr su st1))) M):
  SemC tab 20 [.agg (gmF F ow pr su),slI f5 o5 .i64 st] M K:=by
 obtain⟨hc,hstl,hst⟩:=comE_ok e
 have V:=q22 hc
 have hp:=fun v=>(V.prI v).1
 have n0:=V.n0
 have n1:=V.n1
 have hpl:=V.p
 have hsl:=V.s
 have h01:∀v,v<ow.length→ow.getD v 0=0∨ow.getD v 0=1:=fun v hv=>by
  obtain⟨_,_,h1,_,_⟩:=V.row v (by omega)
  obtain⟨x,hx⟩:=q13 hv
  have:=ho x (List.mem_of_getElem? hx)
  rw[getD_some hx]at h1 ⊢;omega
 refine q11 T.h20 (by simp only[PP,P1,P2,P3,P4,P5,P6,P7,P8,P9,P10,P11,P12,P13,P14,L1,P15,N1,N2,N3,N4,N5,N6,N7,I1,I2,I3,I4,I5,I6,I7,reduceIte,reduceCtorEq]) ?_
 have e0:q30 ow.length [PV.int .i64 0,.nils,.int .i64 0]=celV ow.length []:=by simp[celV,vlsL]
 have e1:q30 ow.length [PV.int .i64 0]=(chC ow.length fun _=>0).map p64:=by
  rw[prepl_one]
  simp[chC,tabA,List.map_const']
 simp only[af20,PP,P1,P2,P3,P4,P5,P6,P7,P8,P9,P10,P11,P12,P13,P14,L1,P15,N1,N2,N3,N4,N5,N6,N7,I1,I2,I3,I4,I5,I6,I7,reduceIte,reduceCtorEq,e0]
 refine⟨by omega,?_⟩
 refine q33 T.h13 ?_
 have s8:st.length*8≤140737488355328∧st.length≤9223372036854775807:=⟨by omega,by omega⟩
 simp only[af13,PP,P1,P2,P3,P4,P5,P6,P7,P8,P9,P10,P11,P12,P13,P14,L1,P15,N1,N2,N3,N4,N5,N6,N7,I1,I2,I3,I4,I5,I6,I7,reduceIte,reduceCtorEq,s8.1,s8.2,e1,hstl]
 refine⟨by omega,by omega,?_⟩
 refine loop7 (fun(fst:Bool) (c:Nat→Nat) (L:List Vl) (mv:List Int) (v1 v2 v3:Nat)=>ChOk ow su c∧mv.length=ow.length∧(∀v,v<ow.length→ow.getD v 0≠1→mv.getD v 0=st.getD v 0)∧(fst=false→LstOk ow pr su st (codC ow su c ow.length) L)∧(fst=true→codC ow su c ow.length=0))
  (fun fst c L mv v1 v2 v3=>[Zj,Zj,.ptr 0 0 0,Zj,Zj,p64 ow.length,.ref 1 0 3 0 ow.length,.ref 2 0 1 0 ow.length,.ref 3 0 1 0 ow.length,.bool fst,Zj,Zj,Zj,Zj,Zj,Zj,Zj,Zj,Zj,Zj,Zj,Zj,Zj,Zj,Zj,Zj,Zj,Zj,Zj,Zj,Zj,Zj,Zj,Zj,Zj,Zj,Zj,Zj,Zj,Zj,Zj,Zj,Zj,Zj,Zj,Zj,Zj,Zj,Zj,Zj,Zj,Zj,Zj,Zj,Zj,Zj,Zj,Zj,Zj,Zj,Zj,Zj,Zj,Zj,Zj,Zj,Zj,Zj,Zj,Zj,Zj,Zj,Zj,Zj,Zj,Zj,Zj,Zj,Zj,Zj,Zj,Zj,Zj,Zj,Zj,Zj,Zj,Zj,Zj,Zj,Zj,Zj,Zj,Zj,Zj,Zj,Zj,Zj,Zj,Zj,Zj,Zj,Zj,Zj,Zj,Zj,Zj,Zj,Zj,Zj,Zj,Zj,Zj,Zj,Zj,Zj])
  (fun fst c L mv v1 v2 v3=>[.cells 0 0 (gmF F ow pr su),.cells 0 v1 (if fst then celV ow.length [] else vlsL L),.cells 0 v2 (mv.map p64),.cells 0 v3 ((chC ow.length c).map p64)])
  (fun fst c L mv v1 v2 v3=>radC ow su ow.length-codC ow su c ow.length) true (fun _=>0) [] st 0 0 0 ⟨fun v hv=>by
   unfold degC
   split
   ·have hvs:v<su.length:=by omega
    obtain⟨_,_,_,h0,_⟩:=V.row v hvs
    rw[show su.getD v []=su[v] by simp[List.getD,List.getElem?_eq_getElem hvs]];exact h0
   ·exact Nat.one_pos,hstl,fun _ _ _=>rfl,(fun q=>by cases q),fun _=>by
    have:∀m,codC ow su (fun _=>0) m=0:=fun m=>by
     induction m with
     | zero=>rfl
     | succ m ih=>show codC ow su (fun _=>0) m+0*_=0;rw[ih];simp
    exact this _⟩ (by simp only[PW]) rfl ?_
 intro fst c L mv v1 v2 v3 ⟨hC,hmvl,hmvs,hL,hF⟩ ihO
 obtain⟨LC,hLC⟩:∃LC,LC=if fst then celV ow.length [] else vlsL L:=⟨_,rfl⟩
 rw[←hLC]
 refine q15 (by kernel_rfl) ?_
 simp only[PP,P1,P2,P3,P4,P5,P6,P7,P8,P9,P10,P11,P12,P13,P14,L1,P15,N1,N2,N3,N4,N5,N6,N7,I1,I2,I3,I4,I5,I6,I7,reduceIte,reduceCtorEq]
 have hX0:mv=tabA ow.length fun v=>if v<0 then(mvC ow su st c).getD v 0 else mv.getD v 0:=by
  refine tabA_ext hmvl fun v hv=>?_
  rw[if_neg (by omega)]
  obtain⟨x,hx⟩:=q13 (xs:=mv) (k:=v) (by omega)
  rw[getD_some hx,hx]
 refine loop2 (fun(k ver:Nat)=>k≤ow.length) (fun k ver=>[Zj,Zj,.ptr 0 0 0,Zj,Zj,p64 ow.length,.ref 1 0 3 0 ow.length,.ref 2 0 1 0 ow.length,.ref 3 0 1 0 ow.length,.bool fst,p64 k,Zj,Zj,Zj,Zj,Zj,Zj,Zj,Zj,Zj,Zj,Zj,Zj,Zj,Zj,Zj,Zj,Zj,Zj,Zj,Zj,Zj,Zj,Zj,Zj,Zj,Zj,Zj,Zj,Zj,Zj,Zj,Zj,Zj,Zj,Zj,Zj,Zj,Zj,Zj,Zj,Zj,Zj,Zj,Zj,Zj,Zj,Zj,Zj,Zj,Zj,Zj,Zj,Zj,Zj,Zj,Zj,Zj,Zj,Zj,Zj,Zj,Zj,Zj,Zj,Zj,Zj,Zj,Zj,Zj,Zj,Zj,Zj,Zj,Zj,Zj,Zj,Zj,Zj,Zj,Zj,Zj,Zj,Zj,Zj,Zj,Zj,Zj,Zj,Zj,Zj,Zj,Zj,Zj,Zj,Zj,Zj,Zj,Zj,Zj,Zj,Zj,Zj,Zj,Zj,Zj])
  (fun k ver=>[.cells 0 0 (gmF F ow pr su),.cells 0 v1 LC,.cells 0 ver ((tabA ow.length fun v=>if v<k then(mvC ow su st c).getD v 0 else mv.getD v 0).map p64),.cells 0 v3 ((chC ow.length c).map p64)]) (fun k _=>ow.length-k) 0 v2 (Nat.zero_le _) (by simp only[PW]) (by rw[←hX0]) ?_
 intro k ver hle ih
 obtain⟨X,hX⟩:∃X,X=tabA ow.length fun v=>if v<k then(mvC ow su st c).getD v 0 else mv.getD v 0:=⟨_,rfl⟩
 have hXl:X.length=ow.length:=by rw[hX,q23]
 rw[←hX]
 refine q15 (by kernel_rfl) ?_
 simp only[PP,P1,P2,P3,P4,P5,P6,P7,P8,P9,P10,P11,P12,P13,P14,L1,P15,N1,N2,N3,N4,N5,N6,N7,I1,I2,I3,I4,I5,I6,I7,reduceIte,reduceCtorEq]
 refine QIf.intro (fun d=>?_) (fun d=>?_)
 ·have hk:k<ow.length:=by omega
  have hw:=q10 (k:=k) (by show _<1000000000000;omega)
  have k0:(0:Int)≤k:=by omega
  have hkX:k<X.length:=by omega
  obtain⟨row,gr⟩:=q13 (xs:=su) (k:=k) (by omega)
  have er:su.getD k []=row:=by simp[List.getD,gr]
  obtain⟨o,go⟩:=q13 (xs:=ow) (k:=k) hk
  have eo:ow.getD k 0=o:=getD_some go
  have ks:(k:Int)<su.length:=by omega
  have kn:(k:Int)<ow.length:=by omega
  have hup:∀y,(mvC ow su st c).getD k 0=y→X.set k y=tabA ow.length fun v=>if v<k+1 then(mvC ow su st c).getD v 0 else mv.getD v 0:=fun y hy=>by
   rw[hX,tabA_set y hk]
   refine q38 fun v hv=>?_
   by_cases e:v=k
   ·subst e;rw[if_pos rfl,if_pos (show v<v+1 by omega),hy]
   ·rw[if_neg e]
    by_cases q:v<k
    ·rw[if_pos q,if_pos (show v<k+1 by omega)]
    ·rw[if_neg q,if_neg (show ¬v<k+1 by omega)]
  have gX:X[k]? =some (mv.getD k 0):=by rw[hX,q66 hk,if_neg (by omega)]
  have hid:X.set k (mv.getD k 0)=X:=by
   refine List.ext_getElem? fun i=>?_
   by_cases e:k=i
   ·subst e;rw[List.getElem?_set_self hkX,gX]
   ·rw[List.getElem?_set_ne e]
  have gc:=chC_get (c:=c) hk
  have hck:=hC k hk
  unfold degC at hck
  rw[eo,er]at hck
  simp only[PP,P1,P2,P3,P4,P5,P6,P7,P8,P9,P10,P11,P12,P13,P14,L1,P15,N1,N2,N3,N4,N5,N6,N7,I1,I2,I3,I4,I5,I6,I7,reduceIte,reduceCtorEq,d,go,k0]
  refine QIf.intro (fun q=>?_) (fun q=>?_)
  ·rw[if_pos q]at hck
   obtain⟨u,gu⟩:=q13 hck
   have h1:=hup u (by rw[mvC_at hk,eo,er,if_pos q,getD_some gu])
   have hset:(X.map p64).set k (p64 u)=(X.set k u).map p64:=by rw[List.map_set]
   have c0:(0:Int)≤c k:=by omega
   have c1:((c k:Nat):Int)<row.length:=by omega
   have hkc:k<(chC ow.length c).length:=by rw[q23];exact hk
   have hcl:(chC ow.length c).length=ow.length:=q23 _ _
   simp only[PP,P1,P2,P3,P4,P5,P6,P7,P8,P9,P10,P11,P12,P13,P14,L1,P15,N1,N2,N3,N4,N5,N6,N7,I1,I2,I3,I4,I5,I6,I7,reduceIte,reduceCtorEq,q,k0,kn,ks,gr,gc,gu,c0,c1,hkX,hset,hw,hkc,hcl]
   exact⟨by omega,q20 (ih (k+1) (ver+1) (by omega) (by omega)) (by simp only[PW]) (by rw[h1])⟩
  ·have h1:=hup (mv.getD k 0) (by rw[mvC_at hk,eo,if_neg q,hmvs k hk (by rw[eo];exact q)])
   simp only[PP,P1,P2,P3,P4,P5,P6,P7,P8,P9,P10,P11,P12,P13,P14,L1,P15,N1,N2,N3,N4,N5,N6,N7,I1,I2,I3,I4,I5,I6,I7,reduceIte,reduceCtorEq,q,hw]
   exact q20 (ih (k+1) ver (by omega) (by omega)) (by simp only[PW]) (by rw[←h1,hid])
 have hkn:k=ow.length:=by omega
 have hXf:X=mvC ow su st c:=by
  rw[hX,hkn]
  unfold mvC
  refine q38 fun v hv=>?_
  rw[if_pos hv]
  exact mvC_at hv
 have XM:=mvC_ok e hC
 rw[←hXf]at XM
 have hLl:LC.length=ow.length*3:=by
  rw[hLC]
  cases fst with
  | true=>exact celV_len (Nat.zero_le _)
  | false=>show(vlsL L).length=_;rw[q64,(hL rfl).l]
 simp only[PP,P1,P2,P3,P4,P5,P6,P7,P8,P9,P10,P11,P12,P13,P14,L1,P15,N1,N2,N3,N4,N5,N6,N7,I1,I2,I3,I4,I5,I6,I7,reduceIte,reduceCtorEq,d]
 refine loop3 (fun(k w:Nat) (A:List Vl)=>A.length=k∧k≤ow.length∧∀v,v<k→∃x,A[v]? =some x∧Cand ow pr su st (codC ow su c ow.length+1) v x)
  (fun k w A=>[Zj,Zj,.ptr 0 0 0,Zj,Zj,p64 ow.length,.ref 1 0 3 0 ow.length,.ref 2 0 1 0 ow.length,.ref 3 0 1 0 ow.length,.bool fst,Zj,p64 k,Zj,Zj,Zj,Zj,Zj,Zj,Zj,Zj,Zj,Zj,Zj,Zj,Zj,Zj,Zj,Zj,Zj,Zj,Zj,Zj,Zj,Zj,Zj,Zj,Zj,Zj,Zj,Zj,Zj,Zj,Zj,Zj,Zj,Zj,Zj,Zj,Zj,Zj,Zj,Zj,Zj,Zj,Zj,Zj,Zj,Zj,Zj,Zj,Zj,Zj,Zj,Zj,Zj,Zj,Zj,Zj,Zj,Zj,Zj,Zj,Zj,Zj,Zj,Zj,Zj,Zj,Zj,Zj,Zj,Zj,Zj,Zj,Zj,Zj,Zj,Zj,Zj,Zj,Zj,Zj,Zj,Zj,Zj,Zj,Zj,Zj,Zj,Zj,Zj,Zj,Zj,Zj,Zj,Zj,Zj,Zj,Zj,Zj,Zj,Zj,Zj,Zj,Zj,Zj])
  (fun k w A=>[.cells 0 0 (gmF F ow pr su),.cells 0 w (vlsL A++LC.drop (k*3)),.cells 0 ver (X.map p64),.cells 0 v3 ((chC ow.length c).map p64)]) (fun k _ _=>ow.length-k) 0 v1 [] ⟨rfl,Nat.zero_le _,fun v hv=>by omega⟩ (by simp only[PW]) (by simp[vlsL]) ?_
 intro j w A ⟨hA,hjn,hcand⟩ ih2
 refine q15 (by kernel_rfl) ?_
 simp only[PP,P1,P2,P3,P4,P5,P6,P7,P8,P9,P10,P11,P12,P13,P14,L1,P15,N1,N2,N3,N4,N5,N6,N7,I1,I2,I3,I4,I5,I6,I7,reduceIte,reduceCtorEq]
 refine QIf.intro (fun d2=>?_) (fun d2=>?_)
 ·have hj:j<ow.length:=by omega
  have hw:=q10 (k:=j) (by show _<1000000000000;omega)
  have k0:(0:Int)≤j:=by omega
  have kn:(j:Int)<ow.length:=by omega
  have hpl2:playE ow pr su X j=0:=XM.play V hc hj
  have vx:=q36 hc XM hj
  obtain⟨W,hW⟩:∃W,W=vlsL A++LC.drop (j*3):=⟨_,rfl⟩
  have hWl:W.length=ow.length*3:=by rw[hW,List.length_append,q64,List.length_drop,hLl];omega
  have b3:j*3+3≤W.length:=by omega
  rw[←hW]
  simp only[PP,P1,P2,P3,P4,P5,P6,P7,P8,P9,P10,P11,P12,P13,P14,L1,P15,N1,N2,N3,N4,N5,N6,N7,I1,I2,I3,I4,I5,I6,I7,reduceIte,reduceCtorEq,d2]
  refine SemC_borF (.same (by simp only[PP,P1,P2,P3,P4,P5,P6,P7,P8,P9,P10,P11,P12,P13,P14,L1,P15,N1,N2,N3,N4,N5,N6,N7,I1,I2,I3,I4,I5,I6,I7,reduceIte,reduceCtorEq]) (.ints rfl hXl (.same (by simp only[PP,P1,P2,P3,P4,P5,P6,P7,P8,P9,P10,P11,P12,P13,P14,L1,P15,N1,N2,N3,N4,N5,N6,N7,I1,I2,I3,I4,I5,I6,I7,reduceIte,reduceCtorEq]) .nil))) (age_gm3 _ _ _ _ _ _) (rfollow_p T B (by rw[hXl];show _<1000000000000;omega) ⟨by simp only[young_tuple,young_agg,youngL_cons,youngL_nil,young_int,young_slI,Bool.and_self],?_⟩)
  rw[hpl2]
  have hLu:∀m,q14 m LC=true:=fun m=>by
   rw[hLC]
   split
   ·exact und_celV _ _ _
   ·exact vlsL_und _ _
  have hW2:∀x,List.take (j*3) W++(vlL false true x++List.drop (j*3+3) W)=vlsL (A++[x])++LC.drop ((j+1)*3):=fun x=>by
   rw[hW,←hA,put_le,List.drop_drop,Nat.add_mul,Nat.one_mul]
  have hcn:∀x,Cand ow pr su st (codC ow su c ow.length+1) j x→∀v,v<j+1→∃y,(A++[x])[v]? =some y∧Cand ow pr su st (codC ow su c ow.length+1) v y:=fun x hx v hv=>by
   by_cases q:v=j
   ·subst q;exact⟨x,by rw[←hA];simp,hx⟩
   ·obtain⟨y,h1,h2⟩:=hcand v (by omega)
    exact⟨y,by rw[List.getElem?_append_left (by omega)];exact h1,h2⟩
  cases fst with
  | true=>
   have hput:=hW2 (folA ow pr su X j)
   rw[←List.append_assoc]at hput
   simp only[vlL]at hput
   simp only[PP,P1,P2,P3,P4,P5,P6,P7,P8,P9,P10,P11,P12,P13,P14,L1,P15,N1,N2,N3,N4,N5,N6,N7,I1,I2,I3,I4,I5,I6,I7,reduceIte,reduceCtorEq,k0,kn,b3,hw,hput]
   refine SemW_re (GStep.drop (b:=[Zj,Zj,.ptr 0 0 0,Zj,Zj,p64 ow.length,.ref 1 0 3 0 ow.length,.ref 2 0 1 0 ow.length,.ref 3 0 1 0 ow.length,.bool true,Zj,p64 ((j+1:Nat):Int),Zj,Zj,Zj,Zj,Zj,Zj,Zj,Zj,Zj,Zj,Zj,Zj,Zj,Zj,Zj,Zj,Zj,Zj,Zj,Zj,Zj,Zj,Zj,Zj,Zj,Zj,Zj,Zj,Zj,Zj,Zj,Zj,Zj,Zj,Zj,Zj,Zj,Zj,Zj,Zj,Zj,Zj,Zj,Zj,Zj,Zj,Zj,Zj,Zj,Zj,Zj,Zj,Zj,Zj,Zj,Zj,Zj,Zj,Zj,Zj,Zj,Zj,Zj,Zj,Zj,Zj,Zj,Zj,Zj,Zj,Zj,Zj,Zj,Zj,Zj,Zj,Zj,Zj,Zj,Zj,Zj,Zj,Zj,Zj,Zj,Zj,Zj,Zj,Zj,Zj,Zj,Zj,Zj,Zj,Zj,Zj,Zj,Zj,Zj,Zj,Zj,Zj,Zj,Zj]) 4 (by decide) (by simp) (by simp only[PW]) (by simp only[PP,P1,P2,P3,P4,P5,P6,P7,P8,P9,P10,P11,P12,P13,P14,L1,P15,N1,N2,N3,N4,N5,N6,N7,I1,I2,I3,I4,I5,I6,I7,reduceIte,reduceCtorEq,PV.under]) (by simp only[PP,P1,P2,P3,P4,P5,P6,P7,P8,P9,P10,P11,P12,P13,P14,L1,P15,N1,N2,N3,N4,N5,N6,N7,I1,I2,I3,I4,I5,I6,I7,reduceIte,reduceCtorEq,PV.under,PObj.under,List.all_cons,List.all_nil,List.take_succ_cons,List.take_zero,vlsL_und,und_drop (hLu 4)]) rfl) ?_
   exact ih2 (j+1) (w+1) (A++[folA ow pr su X j]) ⟨by simp[hA],by omega,hcn (folA ow pr su X j) (by rw[hXf];exact Cand.first e hC hj (hF rfl))⟩ (by omega)
  | false=>
   obtain⟨y,hy,hcy⟩:=(hL rfl).at' j hj
   have hps:psub W (j*3) 3=vlL false true y:=by
    rw[hW,hLC]
    have e1:vlsL A++(vlsL L).drop (j*3)=vlsL (A++L.drop j):=by
     have:=vlsL_split hy
     have e2:vlsL L=vlsL (L.take j)++vlsL (L.drop j):=by rw[←vlsL_append,List.take_append_drop]
     rw[vlsL_append]
     congr 1
     rw[e2,List.drop_left' (by rw[q64,List.length_take];have:=(hL rfl).l;omega)]
    show psub (vlsL A++(vlsL L).drop (j*3)) (j*3) 3=_
    rw[e1]
    exact psub_vls (by rw[List.getElem?_append_right (by omega),hA,Nat.sub_self,List.getElem?_drop];exact hy)
   obtain⟨b,hb,eb⟩:=hcy.ex
   have vy:VOk ow.length y:=by rw[eb];exact q36 hc (mvC_ok e hb) hj
   simp only[PP,P1,P2,P3,P4,P5,P6,P7,P8,P9,P10,P11,P12,P13,P14,L1,P15,N1,N2,N3,N4,N5,N6,N7,I1,I2,I3,I4,I5,I6,I7,reduceIte,reduceCtorEq,k0,kn,b3,hw,hps]
   refine rcompare_p T hpl (by show _<1000000000000;omega) hp (by rw[hpl];exact vx.inV n1) (by rw[hpl];exact vy.inV n1) ?_
   simp only[PP,P1,P2,P3,P4,P5,P6,P7,P8,P9,P10,P11,P12,P13,P14,L1,P15,N1,N2,N3,N4,N5,N6,N7,I1,I2,I3,I4,I5,I6,I7,reduceIte,reduceCtorEq]
   refine QIf.intro (fun q=>?_) (fun q=>?_)
   ·have hput:=hW2 (folA ow pr su X j)
    rw[←List.append_assoc]at hput
    simp only[vlL]at hput
    simp only[PP,P1,P2,P3,P4,P5,P6,P7,P8,P9,P10,P11,P12,P13,P14,L1,P15,N1,N2,N3,N4,N5,N6,N7,I1,I2,I3,I4,I5,I6,I7,reduceIte,reduceCtorEq,q,k0,kn,b3,hw,hput]
    refine SemW_re (GStep.drop (b:=[Zj,Zj,.ptr 0 0 0,Zj,Zj,p64 ow.length,.ref 1 0 3 0 ow.length,.ref 2 0 1 0 ow.length,.ref 3 0 1 0 ow.length,.bool false,Zj,p64 ((j+1:Nat):Int),Zj,Zj,Zj,Zj,Zj,Zj,Zj,Zj,Zj,Zj,Zj,Zj,Zj,Zj,Zj,Zj,Zj,Zj,Zj,Zj,Zj,Zj,Zj,Zj,Zj,Zj,Zj,Zj,Zj,Zj,Zj,Zj,Zj,Zj,Zj,Zj,Zj,Zj,Zj,Zj,Zj,Zj,Zj,Zj,Zj,Zj,Zj,Zj,Zj,Zj,Zj,Zj,Zj,Zj,Zj,Zj,Zj,Zj,Zj,Zj,Zj,Zj,Zj,Zj,Zj,Zj,Zj,Zj,Zj,Zj,Zj,Zj,Zj,Zj,Zj,Zj,Zj,Zj,Zj,Zj,Zj,Zj,Zj,Zj,Zj,Zj,Zj,Zj,Zj,Zj,Zj,Zj,Zj,Zj,Zj,Zj,Zj,Zj,Zj,Zj,Zj,Zj,Zj,Zj]) 4 (by decide) (by simp) (by simp only[PW]) (by simp only[PP,P1,P2,P3,P4,P5,P6,P7,P8,P9,P10,P11,P12,P13,P14,L1,P15,N1,N2,N3,N4,N5,N6,N7,I1,I2,I3,I4,I5,I6,I7,reduceIte,reduceCtorEq,PV.under]) (by simp only[PP,P1,P2,P3,P4,P5,P6,P7,P8,P9,P10,P11,P12,P13,P14,L1,P15,N1,N2,N3,N4,N5,N6,N7,I1,I2,I3,I4,I5,I6,I7,reduceIte,reduceCtorEq,PV.under,PObj.under,List.all_cons,List.all_nil,List.take_succ_cons,List.take_zero,vlsL_und,und_drop (hLu 4)]) rfl) ?_
    exact ih2 (j+1) (w+1) (A++[folA ow pr su X j]) ⟨by simp[hA],by omega,hcn (folA ow pr su X j) (by rw[hXf]at q ⊢;exact Cand.take e hC hj hcy q)⟩ (by omega)
   ·have hid:W=vlsL (A++[y])++LC.drop ((j+1)*3):=by
     rw[←hW2 y,←hps]
     have:psub W (j*3) 3=(W.drop (j*3)).take 3:=rfl
     rw[this,←List.drop_drop,←List.append_assoc,List.append_assoc,List.take_append_drop,List.take_append_drop]
    simp only[PP,P1,P2,P3,P4,P5,P6,P7,P8,P9,P10,P11,P12,P13,P14,L1,P15,N1,N2,N3,N4,N5,N6,N7,I1,I2,I3,I4,I5,I6,I7,reduceIte,reduceCtorEq,q,hw]
    rw[hid]
    refine SemW_re (GStep.drop (b:=[Zj,Zj,.ptr 0 0 0,Zj,Zj,p64 ow.length,.ref 1 0 3 0 ow.length,.ref 2 0 1 0 ow.length,.ref 3 0 1 0 ow.length,.bool false,Zj,p64 ((j+1:Nat):Int),Zj,Zj,Zj,Zj,Zj,Zj,Zj,Zj,Zj,Zj,Zj,Zj,Zj,Zj,Zj,Zj,Zj,Zj,Zj,Zj,Zj,Zj,Zj,Zj,Zj,Zj,Zj,Zj,Zj,Zj,Zj,Zj,Zj,Zj,Zj,Zj,Zj,Zj,Zj,Zj,Zj,Zj,Zj,Zj,Zj,Zj,Zj,Zj,Zj,Zj,Zj,Zj,Zj,Zj,Zj,Zj,Zj,Zj,Zj,Zj,Zj,Zj,Zj,Zj,Zj,Zj,Zj,Zj,Zj,Zj,Zj,Zj,Zj,Zj,Zj,Zj,Zj,Zj,Zj,Zj,Zj,Zj,Zj,Zj,Zj,Zj,Zj,Zj,Zj,Zj,Zj,Zj,Zj,Zj,Zj,Zj,Zj,Zj,Zj,Zj,Zj,Zj,Zj,Zj]) 4 (by decide) (by simp) (by simp only[PW]) (by simp only[PP,P1,P2,P3,P4,P5,P6,P7,P8,P9,P10,P11,P12,P13,P14,L1,P15,N1,N2,N3,N4,N5,N6,N7,I1,I2,I3,I4,I5,I6,I7,reduceIte,reduceCtorEq,PV.under]) (by simp only[PP,P1,P2,P3,P4,P5,P6,P7,P8,P9,P10,P11,P12,P13,P14,L1,P15,N1,N2,N3,N4,N5,N6,N7,I1,I2,I3,I4,I5,I6,I7,reduceIte,reduceCtorEq,PV.under,PObj.under,List.all_cons,List.all_nil,List.take_succ_cons,List.take_zero,vlsL_und,und_drop (hLu 4)]) rfl) ?_
    exact ih2 (j+1) w (A++[y]) ⟨by simp[hA],by omega,hcn y (by rw[hXf]at q;exact Cand.keep e hC hj hcy q)⟩ (by omega)
 have hjn2:j=ow.length:=by omega
 subst hjn2
 rw[List.drop_eq_nil_of_le (by omega),List.append_nil]
 have hA2:LstOk ow pr su st (codC ow su c ow.length+1) A:=⟨hA,hcand⟩
 simp only[PP,P1,P2,P3,P4,P5,P6,P7,P8,P9,P10,P11,P12,P13,P14,L1,P15,N1,N2,N3,N4,N5,N6,N7,I1,I2,I3,I4,I5,I6,I7,reduceIte,reduceCtorEq,d2]
 refine loop2 (fun(k u:Nat)=>k≤ow.length∧∀v,v<k→c v+1=degC ow su v) (fun k u=>[Zj,Zj,.ptr 0 0 0,Zj,Zj,p64 ow.length,.ref 1 0 3 0 ow.length,.ref 2 0 1 0 ow.length,.ref 3 0 1 0 ow.length,Zj,Zj,Zj,Zj,Zj,p64 k,Zj,Zj,Zj,Zj,Zj,Zj,Zj,Zj,Zj,Zj,Zj,Zj,Zj,Zj,Zj,Zj,Zj,Zj,Zj,Zj,Zj,Zj,Zj,Zj,Zj,Zj,Zj,Zj,Zj,Zj,Zj,Zj,Zj,Zj,Zj,Zj,Zj,Zj,Zj,Zj,Zj,Zj,Zj,Zj,Zj,Zj,Zj,Zj,Zj,Zj,Zj,Zj,Zj,Zj,Zj,Zj,Zj,Zj,Zj,Zj,Zj,Zj,Zj,Zj,Zj,Zj,Zj,Zj,Zj,Zj,Zj,Zj,Zj,Zj,Zj,Zj,Zj,Zj,Zj,Zj,Zj,Zj,Zj,Zj,Zj,Zj,Zj,Zj,Zj,Zj,Zj,Zj,Zj,Zj,Zj,Zj,Zj,Zj,Zj,Zj,Zj])
  (fun k u=>[.cells 0 0 (gmF F ow pr su),.cells 0 w (vlsL A),.cells 0 ver (X.map p64),.cells 0 u ((chC ow.length fun v=>if v<k then 0 else c v).map p64)]) (fun k _=>ow.length-k) 0 v3 ⟨Nat.zero_le _,fun v hv=>by omega⟩ (by simp only[PW]) (by simp) ?_
 intro m u ⟨hmn,hfull⟩ ih3
 obtain⟨C,hCC⟩:∃C,C=chC ow.length fun v=>if v<m then 0 else c v:=⟨_,rfl⟩
 have hCl:C.length=ow.length:=by rw[hCC];exact q23 _ _
 rw[←hCC]
 refine q15 (by kernel_rfl) ?_
 simp only[PP,P1,P2,P3,P4,P5,P6,P7,P8,P9,P10,P11,P12,P13,P14,L1,P15,N1,N2,N3,N4,N5,N6,N7,I1,I2,I3,I4,I5,I6,I7,reduceIte,reduceCtorEq]
 refine QIf.intro (fun d3=>?_) (fun d3=>?_)
 ·have hm:m<ow.length:=by omega
  have k0:(0:Int)≤m:=by omega
  have kn:(m:Int)<ow.length:=by omega
  have ks:(m:Int)<su.length:=by omega
  obtain⟨row,gr⟩:=q13 (xs:=su) (k:=m) (by omega)
  have er:su.getD m []=row:=by simp[List.getD,gr]
  obtain⟨o,go⟩:=q13 (xs:=ow) (k:=m) hm
  have eo:ow.getD m 0=o:=getD_some go
  have ho1:=h01 m hm
  rw[eo]at ho1
  have gC:C[m]? =some ((c m:Nat):Int):=by rw[hCC,chC_get hm,if_neg (by omega)]
  have hcm:=hC m hm
  have hrl:row.length<1000000000000:=B.r row (List.mem_of_getElem? gr)
  unfold degC at hcm
  rw[eo,er]at hcm
  have hcb:c m<1000000000000:=by split at hcm<;>omega
  have wc:IntKind.i64.wrap ((c m:Int)+1)=((c m+1:Nat):Int):=q10 hcb
  have hmC:m<C.length:=by omega
  simp only[PP,P1,P2,P3,P4,P5,P6,P7,P8,P9,P10,P11,P12,P13,P14,L1,P15,N1,N2,N3,N4,N5,N6,N7,I1,I2,I3,I4,I5,I6,I7,reduceIte,reduceCtorEq,d3,go,k0,kn]
  have hw:=q10 (k:=m) (by show _<1000000000000;omega)
  have hset:∀x:Nat,(C.map p64).set m (p64 (x:Int))=(C.set m (x:Int)).map p64:=fun x=>by rw[List.map_set]
  have hz:C.set m ((0:Nat):Int)=chC ow.length fun v=>if v<m+1 then 0 else c v:=by
   rw[hCC,chC_set 0 hm]
   refine q38 fun v hv=>?_
   show(((if v=m then 0 else if v<m then 0 else c v:Nat):Nat):Int)=((if v<m+1 then 0 else c v:Nat):Int)
   by_cases q:v=m
   ·rw[if_pos q,if_pos (by omega)]
   ·rw[if_neg q]
    by_cases q2:v<m
    ·rw[if_pos q2,if_pos (by omega)]
    ·rw[if_neg q2,if_neg (by omega)]
  have hset0:=hset 0
  rw[Int.natCast_zero]at hset0 hz
  have hstep:c m+1=degC ow su m→∀v,v<m+1→c v+1=degC ow su v:=fun h v hv=>by
   by_cases q:v=m
   ·rw[q];exact h
   ·exact hfull v (by omega)
  refine QIf.intro (fun q=>?_) (fun q=>?_)
  ·have hd:c m+1=degC ow su m:=by
    unfold degC;rw[eo,if_neg (by omega)]
    rw[if_neg (by omega)]at hcm
    omega
   simp only[PP,P1,P2,P3,P4,P5,P6,P7,P8,P9,P10,P11,P12,P13,P14,L1,P15,N1,N2,N3,N4,N5,N6,N7,I1,I2,I3,I4,I5,I6,I7,reduceIte,reduceCtorEq,q,d3,k0,kn,hmC,hset0,hw]
   exact⟨by omega,q20 (ih3 (m+1) (u+1) ⟨by omega,hstep hd⟩ (by omega)) (by simp only[PW]) (by rw[hz])⟩
  ·rw[if_pos (by omega)]at hcm
   simp only[PP,P1,P2,P3,P4,P5,P6,P7,P8,P9,P10,P11,P12,P13,P14,L1,P15,N1,N2,N3,N4,N5,N6,N7,I1,I2,I3,I4,I5,I6,I7,reduceIte,reduceCtorEq,q,d3,k0,kn,gC,hmC,wc,gr,ks]
   refine QIf.intro (fun q2=>?_) (fun q2=>?_)
   ·have hd:c m+1=degC ow su m:=by
     unfold degC;rw[eo,er,if_pos (by omega)];omega
    simp only[PP,P1,P2,P3,P4,P5,P6,P7,P8,P9,P10,P11,P12,P13,P14,L1,P15,N1,N2,N3,N4,N5,N6,N7,I1,I2,I3,I4,I5,I6,I7,reduceIte,reduceCtorEq,q2,d3,k0,kn,hmC,hset0,hw]
    exact⟨by omega,q20 (ih3 (m+1) (u+1) ⟨by omega,hstep hd⟩ (by omega)) (by simp only[PW]) (by rw[hz])⟩
   ·have mn:¬(m:Int)=ow.length:=by omega
    simp only[PP,P1,P2,P3,P4,P5,P6,P7,P8,P9,P10,P11,P12,P13,P14,L1,P15,N1,N2,N3,N4,N5,N6,N7,I1,I2,I3,I4,I5,I6,I7,reduceIte,reduceCtorEq,q2,mn,k0,kn,hmC,gC,wc,hset (c m+1)]
    have hnx:C.set m ((c m+1:Nat):Int)=chC ow.length fun v=>if v=m then c m+1 else if v<m then 0 else c v:=by
     rw[hCC,chC_set _ hm]
    have h0:∀v,v<m→(if v=m then c m+1 else if v<m then 0 else c v)=0:=fun v hv=>by rw[if_neg (by omega),if_pos hv]
    have hgt:∀v,m<v→(if v=m then c m+1 else if v<m then 0 else c v)=c v:=fun v hv=>by rw[if_neg (by omega),if_neg (by omega)]
    have hcod:=codC_succ (ow:=ow) (su:=su) (c:=c) (c':=fun v=>if v=m then c m+1 else if v<m then 0 else c v) (v:=m) hfull h0 (if_pos rfl) hgt (n:=ow.length) hm
    have hC':ChOk ow su fun v=>if v=m then c m+1 else if v<m then 0 else c v:=fun v hv=>by
     show(if v=m then c m+1 else if v<m then 0 else c v)<degC ow su v
     by_cases q3:v=m
     ·rw[if_pos q3,q3];unfold degC;rw[eo,er,if_pos (by omega)];omega
     ·rw[if_neg q3]
      by_cases q4:v<m
      ·rw[if_pos q4];have:=hC v hv;omega
      ·rw[if_neg q4];exact hC v hv
    have hlt:=codC_lt hC'
    refine⟨by omega,q20 (ihO false (fun v=>if v=m then c m+1 else if v<m then 0 else c v) A X w ver (u+1) ⟨hC',hXl,fun v hv hov=>?_,fun _=>?_,fun q5=>by cases q5⟩ ?_) (by simp only[PW]) (by rw[hnx];rfl)⟩
    ·rw[hXf,mvC_at hv,if_neg hov]
    ·rw[hcod];exact hA2
    ·omega
 ·have hmn2:m=ow.length:=by omega
  simp only[PP,P1,P2,P3,P4,P5,P6,P7,P8,P9,P10,P11,P12,P13,P14,L1,P15,N1,N2,N3,N4,N5,N6,N7,I1,I2,I3,I4,I5,I6,I7,reduceIte,reduceCtorEq,d3]
  refine QIf.intro (fun _=>?_) (fun h=>absurd (by omega) h)
  have hz:ow.length*3≤(vlsL A).length:=by rw[q64];omega
  have hps:psub (vlsL A) 0 (ow.length*3)=vlsL A:=q53 _ _ (by rw[q64];omega)
  have hu:q14 0 (vlsL A)=true:=vlsL_und 0 _
  simp only[PP,P1,P2,P3,P4,P5,P6,P7,P8,P9,P10,P11,P12,P13,P14,L1,P15,N1,N2,N3,N4,N5,N6,N7,I1,I2,I3,I4,I5,I6,I7,reduceIte,reduceCtorEq,hz,hps,hu]
  have hfin:=codC_full (ow:=ow) (su:=su) (c:=c) (v:=ow.length) fun v hv=>hfull v (by omega)
  rw[hA2.fin e R (by omega)]
  exact hk
end
def impX (ow pr:List Int) (su:List (List Int)) (st1:List Int) (v:Nat):Int:=if ow.getD v 0=1 then-1 else impA 1 ow pr su (q19 ow pr su st1) 0 st1 v
theorem impR_eq {ow pr:List Int} {su:List (List Int)} {st1:List Int} (h:st1.length=ow.length):impR ow pr su st1=tabA ow.length (impX ow pr su st1):=
 q38 fun v hv=>by
  unfold impX
  split
  ·rfl
  ·exact impM_at (by omega)
section
variable {tab:FuncId→Option AF} (T:HasA tab)
include T
theorem rcount_p {M:Mem} {K:PV→Mem→Prop} {F:GF} {ow pr:List Int} {su:List (List Int)} {lim:Int} (B:Bnd ow pr su) (hsl:su.length=ow.length) (hk:∀c:Int,K (p64 c) M):
  SemC tab 19 [.agg (gmF F ow pr su),p64 lim] M K:=by
 refine q11 T.h19 (by simp only[PP,P1,P2,P3,P4,P5,P6,P7,P8,P9,P10,P11,P12,P13,P14,L1,P15,N1,N2,N3,N4,N5,N6,N7,I1,I2,I3,I4,I5,I6,I7,reduceIte,reduceCtorEq]) ?_
 simp only[af19,PP,P1,P2,P3,P4,P5,P6,P7,P8,P9,P10,P11,P12,P13,P14,L1,P15,N1,N2,N3,N4,N5,N6,N7,I1,I2,I3,I4,I5,I6,I7,reduceIte,reduceCtorEq]
 refine loop2 (fun(k:Nat) (c:Int)=>k≤ow.length) (fun k c=>[Zj,p64 lim,.ptr 0 0 0,Zj,Zj,p64 c,p64 k,Zj,Zj,Zj,Zj,Zj,Zj,Zj,Zj,Zj,Zj,Zj,Zj,Zj,Zj,Zj,Zj,Zj,Zj,Zj,Zj,Zj,Zj,Zj,Zj,Zj,Zj,Zj])
  (fun k c=>[.cells 0 0 (gmF F ow pr su)]) (fun k _=>ow.length-k) 0 1 (Nat.zero_le _) (by simp only[PW]) rfl ?_
 intro k c hle ih
 have hob:ow.length<1000000000000:=B.o
 refine q15 (by kernel_rfl) ?_
 simp only[PP,P1,P2,P3,P4,P5,P6,P7,P8,P9,P10,P11,P12,P13,P14,L1,P15,N1,N2,N3,N4,N5,N6,N7,I1,I2,I3,I4,I5,I6,I7,reduceIte,reduceCtorEq]
 refine QIf.intro (fun d=>?_) (fun d=>?_)
 rotate_left
 ·simp only[PP,P1,P2,P3,P4,P5,P6,P7,P8,P9,P10,P11,P12,P13,P14,L1,P15,N1,N2,N3,N4,N5,N6,N7,I1,I2,I3,I4,I5,I6,I7,reduceIte,reduceCtorEq,d]
  exact hk c
 have hkn:k<ow.length:=by omega
 have k0:(0:Int)≤k:=by omega
 have ko:(k:Int)<ow.length:=by omega
 have ks:(k:Int)<su.length:=by omega
 have hw:=q10 (k:=k) (by show _<1000000000000;omega)
 obtain⟨row,gr⟩:=q13 (xs:=su) (k:=k) (by omega)
 obtain⟨o,go⟩:=q13 (xs:=ow) (k:=k) hkn
 simp only[PP,P1,P2,P3,P4,P5,P6,P7,P8,P9,P10,P11,P12,P13,P14,L1,P15,N1,N2,N3,N4,N5,N6,N7,I1,I2,I3,I4,I5,I6,I7,reduceIte,reduceCtorEq,d,k0,ko,go]
 refine QIf.intro (fun d1=>?_) (fun d1=>?_)
 rotate_left
 ·simp only[PP,P1,P2,P3,P4,P5,P6,P7,P8,P9,P10,P11,P12,P13,P14,L1,P15,N1,N2,N3,N4,N5,N6,N7,I1,I2,I3,I4,I5,I6,I7,reduceIte,reduceCtorEq,d1]
  exact hk c
 simp only[PP,P1,P2,P3,P4,P5,P6,P7,P8,P9,P10,P11,P12,P13,P14,L1,P15,N1,N2,N3,N4,N5,N6,N7,I1,I2,I3,I4,I5,I6,I7,reduceIte,reduceCtorEq,d1,k0,ko,go]
 refine QIf.intro (fun q=>?_) (fun q=>?_)
 ·simp only[PP,P1,P2,P3,P4,P5,P6,P7,P8,P9,P10,P11,P12,P13,P14,L1,P15,N1,N2,N3,N4,N5,N6,N7,I1,I2,I3,I4,I5,I6,I7,reduceIte,reduceCtorEq,q,k0,ks,gr,hw]
  exact q8 (ih (k+1) (IntKind.i64.wrap (c*row.length)) (by omega) (by omega)) (by simp only[PW])
 ·simp only[PP,P1,P2,P3,P4,P5,P6,P7,P8,P9,P10,P11,P12,P13,P14,L1,P15,N1,N2,N3,N4,N5,N6,N7,I1,I2,I3,I4,I5,I6,I7,reduceIte,reduceCtorEq,q,hw]
  exact q8 (ih (k+1) c (by omega) (by omega)) (by simp only[PW])
set_option maxHeartbeats 2000000 in
theorem rimprove_p {M:Mem} {K:PV→Mem→Prop} {F:GF} {f5 o5:Bool} {ow pr st st1:List Int} {su:List (List Int)} (B:Bnd ow pr su) (ho:∀x∈ow,0≤x) (h14:ow.length≤14) (e:comE ow pr su st=0) (R:RespOk ow pr su (comM ow su st) st1)
  (hk:K (.tuple [slI false true .i64 (impR ow pr su st1),.bool (chgM 1 ow pr su (q19 ow pr su st1) 0 st1)]) M):
  SemC tab 21 [.agg (gmF F ow pr su),slI f5 o5 .i64 st] M K:=by
 obtain⟨hc,hstl,hst⟩:=comE_ok e
 have V:=q22 hc
 have hp:=fun v=>(V.prI v).1
 have n0:=V.n0
 have n1:=V.n1
 have hpl:=V.p
 have hsl:=V.s
 have h01:∀v,v<ow.length→ow.getD v 0=0∨ow.getD v 0=1:=fun v hv=>by
  obtain⟨_,_,h1,_,_⟩:=V.row v (by omega)
  obtain⟨x,hx⟩:=q13 hv
  have:=ho x (List.mem_of_getElem? hx)
  rw[getD_some hx]at h1 ⊢;omega
 obtain⟨l,hl⟩:∃l,l=q19 ow pr su st1:=⟨_,rfl⟩
 have hll:l.length=ow.length:=by rw[hl,q19,q23,R.ok.l]
 have hin:∀x∈l,InV pr.length x:=by rw[hl];exact vals_in hc R.ok
 have hsame:∀v,v<ow.length→ow.getD v 0≠1→st.getD v 0=st1.getD v 0:=fun v hv hv1=>by rw[R.same v hv hv1,comM_same hv hv1]
 rw[impR_eq R.ok.l]at hk
 refine q11 T.h21 (by simp only[PP,P1,P2,P3,P4,P5,P6,P7,P8,P9,P10,P11,P12,P13,P14,L1,P15,N1,N2,N3,N4,N5,N6,N7,I1,I2,I3,I4,I5,I6,I7,reduceIte,reduceCtorEq]) ?_
 simp only[af21,PP,P1,P2,P3,P4,P5,P6,P7,P8,P9,P10,P11,P12,P13,P14,L1,P15,N1,N2,N3,N4,N5,N6,N7,I1,I2,I3,I4,I5,I6,I7,reduceIte,reduceCtorEq]
 refine rvaluation_p T B ho h14 e R ?_
 rw[←hl]
 simp only[PP,P1,P2,P3,P4,P5,P6,P7,P8,P9,P10,P11,P12,P13,P14,L1,P15,N1,N2,N3,N4,N5,N6,N7,I1,I2,I3,I4,I5,I6,I7,reduceIte,reduceCtorEq]
 refine SemW_re (GStep.nil 7 1 rfl rfl rfl) ?_
 simp only[ptset,List.cons_append,List.nil_append,List.length_cons,List.length_nil,Nat.reduceAdd]
 refine loop3 (fun(k g:Nat) (ch:Bool)=>k≤ow.length∧(ch=true↔∃v,v<k∧ow.getD v 0=0∧bestM 1 pr l (st1.getD v 0) (su.getD v [])≠st1.getD v 0))
  (fun k g ch=>[Zj,slI f5 o5 .i64 st,.ptr 0 0 0,Zj,Zj,Zj,.sl false true 3 ow.length (vlsL l),.ref 1 g 1 0 k,.bool ch,p64 k,Zj,Zj,Zj,Zj,Zj,Zj,Zj,Zj,Zj,Zj,Zj,Zj,Zj,Zj,Zj,Zj,Zj,Zj,Zj,Zj,Zj,Zj,Zj,Zj,Zj,Zj,Zj,Zj,Zj,Zj,Zj,Zj,Zj,Zj,Zj,Zj,Zj,Zj,Zj,Zj,Zj,Zj,Zj,Zj,Zj,Zj,Zj,Zj,Zj,Zj,Zj,Zj,Zj,Zj,Zj,Zj,Zj,Zj,Zj,Zj,Zj,Zj,Zj,Zj,Zj,Zj,Zj,Zj,Zj,Zj,Zj,Zj,Zj,Zj,Zj])
  (fun k g ch=>[.cells 0 0 (gmF F ow pr su),.cells g 0 ((tabA k (impX ow pr su st1)).map p64)]) (fun k _ _=>ow.length-k) 0 0 false ⟨Nat.zero_le _,by simp⟩ (by simp only[PW]) rfl ?_
 intro k g ch ⟨hkn,hch⟩ ih
 obtain⟨X,hX⟩:∃X,X=tabA k (impX ow pr su st1):=⟨_,rfl⟩
 have hXl:X.length=k:=by rw[hX,q23]
 rw[←hX]
 have hps:psub (X.map p64) 0 k=X.map p64:=q53 _ _ (by rw[List.length_map];omega)
 have hxk:k≤X.length:=by omega
 refine q15 (by kernel_rfl) ?_
 simp only[PP,P1,P2,P3,P4,P5,P6,P7,P8,P9,P10,P11,P12,P13,P14,L1,P15,N1,N2,N3,N4,N5,N6,N7,I1,I2,I3,I4,I5,I6,I7,reduceIte,reduceCtorEq]
 refine QIf.intro (fun d=>?_) (fun d=>?_)
 rotate_left
 ·have hk2:k=ow.length:=by omega
  have hce:chgM 1 ow pr su l 0 st1=ch:=by
   cases h:chgM 1 ow pr su l 0 st1 with
   | false=>
    have h2:=chg_false.1 h
    cases ch with
    | false=>rfl
    | true=>
     obtain⟨v,hv,ho0,hne⟩:=hch.1 rfl
     exact absurd (h2 v (by rw[R.ok.l];omega) ho0) hne
   | true=>
    cases ch with
    | true=>rfl
    | false=>
     have:chgM 1 ow pr su l 0 st1=false:=chg_false.2 fun v hv ho0=>Classical.byContradiction fun q=>by
      have:=hch.2 ⟨v,by rw[R.ok.l]at hv;omega,ho0,q⟩
      cases this
     rw[this]at h;cases h
  simp only[PP,P1,P2,P3,P4,P5,P6,P7,P8,P9,P10,P11,P12,P13,P14,L1,P15,N1,N2,N3,N4,N5,N6,N7,I1,I2,I3,I4,I5,I6,I7,reduceIte,reduceCtorEq,d,hps,hxk]
  rw[←hl,hce,←hk2,←hX]at hk
  unfold slI at hk
  rw[hXl]at hk
  exact hk
 have hkn':k<ow.length:=by omega
 have k0:(0:Int)≤k:=by omega
 have ko:(k:Int)<ow.length:=by omega
 have ks:(k:Int)<su.length:=by omega
 have hw:=q10 (k:=k) (by show _<1000000000000;omega)
 obtain⟨row,gr⟩:=q13 (xs:=su) (k:=k) (by omega)
 have er:su.getD k []=row:=by simp[List.getD,gr]
 obtain⟨o,go⟩:=q13 (xs:=ow) (k:=k) hkn'
 have eo:ow.getD k 0=o:=getD_some go
 obtain⟨x0,gx0⟩:=q13 (xs:=st) (k:=k) (by omega)
 have ex0:st.getD k 0=x0:=getD_some gx0
 have hb8:(k+1)*8≤140737488355328:=by omega
 have hb9:k≤9223372036854775806:=by omega
 have happ:∀y,impX ow pr su st1 k=y→X.map p64++[p64 y]=(tabA (k+1) (impX ow pr su st1)).map p64:=fun y hy=>by rw[tabA_succ,hX,hy];simp
 have ho1:=h01 k hkn'
 rw[eo]at ho1
 have hrow:∀u∈row,0≤u∧u<ow.length:=fun u hu=>su_range V (v:=k) (by omega) (by rw[er];exact hu)
 have hrl:row.length<1000000000000:=B.r row (List.mem_of_getElem? gr)
 simp only[PP,P1,P2,P3,P4,P5,P6,P7,P8,P9,P10,P11,P12,P13,P14,L1,P15,N1,N2,N3,N4,N5,N6,N7,I1,I2,I3,I4,I5,I6,I7,reduceIte,reduceCtorEq,d,go,k0,ko]
 refine QIf.intro (fun q=>?_) (fun q=>?_)
 ·have hy:impX ow pr su st1 k= -1:=by unfold impX;rw[eo,if_pos q]
  simp only[PP,P1,P2,P3,P4,P5,P6,P7,P8,P9,P10,P11,P12,P13,P14,L1,P15,N1,N2,N3,N4,N5,N6,N7,I1,I2,I3,I4,I5,I6,I7,reduceIte,reduceCtorEq,q,hps,hxk,hb8,hb9,hw]
  refine q20 (ih (k+1) (g+1) ch ⟨by omega,?_⟩ (by omega)) (by simp only[PW]) (by rw[happ _ hy])
  rw[hch]
  constructor
  ·rintro⟨v,h1,h2⟩;exact⟨v,by omega,h2⟩
  ·rintro⟨v,h1,h2,h3⟩
   by_cases q5:v=k
   ·subst q5;rw[eo]at h2;omega
   ·exact⟨v,by omega,h2,h3⟩
 have hso:=hsame k hkn' (by rw[eo];omega)
 rw[ex0]at hso
 have hyb:impX ow pr su st1 k=bestM 1 pr l x0 row:=by unfold impX impA;rw[eo,if_neg q,if_pos (by omega),←hl,er,←hso]
 have hx0:0≤x0∧x0<ow.length:=by rw[hso];exact R.ok.rng V hkn'
 simp only[PP,P1,P2,P3,P4,P5,P6,P7,P8,P9,P10,P11,P12,P13,P14,L1,P15,N1,N2,N3,N4,N5,N6,N7,I1,I2,I3,I4,I5,I6,I7,reduceIte,reduceCtorEq,q,gx0,k0,hstl]
 refine⟨ko,?_⟩
 refine loop2 (fun(j:Nat) (b:Int)=>j≤row.length∧(0≤b∧b<ow.length)∧bestM 1 pr l b (row.drop j)=bestM 1 pr l x0 row)
  (fun j b=>[Zj,slI f5 o5 .i64 st,.ptr 0 0 0,Zj,Zj,Zj,.sl false true 3 ow.length (vlsL l),.ref 1 g 1 0 k,.bool ch,p64 k,p64 b,p64 j,Zj,Zj,Zj,Zj,Zj,Zj,Zj,Zj,Zj,Zj,Zj,Zj,Zj,Zj,Zj,Zj,Zj,Zj,Zj,Zj,Zj,Zj,Zj,Zj,Zj,Zj,Zj,Zj,Zj,Zj,Zj,Zj,Zj,Zj,Zj,Zj,Zj,Zj,Zj,Zj,Zj,Zj,Zj,Zj,Zj,Zj,Zj,Zj,Zj,Zj,Zj,Zj,Zj,Zj,Zj,Zj,Zj,Zj,Zj,Zj,Zj,Zj,Zj,Zj,Zj,Zj,Zj,Zj,Zj,Zj,Zj,Zj,Zj])
  (fun j b=>[.cells 0 0 (gmF F ow pr su),.cells g 0 (X.map p64)]) (fun j _=>row.length-j) 0 x0 ⟨Nat.zero_le _,hx0,rfl⟩ (by simp only[PW,hstl]) rfl ?_
 intro j b ⟨hj,hb,hbe⟩ ih2
 refine q15 (by kernel_rfl) ?_
 simp only[PP,P1,P2,P3,P4,P5,P6,P7,P8,P9,P10,P11,P12,P13,P14,L1,P15,N1,N2,N3,N4,N5,N6,N7,I1,I2,I3,I4,I5,I6,I7,reduceIte,reduceCtorEq,k0,ks,gr]
 refine QIf.intro (fun q2=>?_) (fun q2=>?_)
 ·have hj':j<row.length:=by omega
  obtain⟨u,gu⟩:=q13 hj'
  obtain⟨u0,un⟩:=hrow u (List.mem_of_getElem? gu)
  have j0:(0:Int)≤j:=by omega
  have hwj:=q10 (k:=j) (by show _<1000000000000;omega)
  obtain⟨lu,glu⟩:=q13 (xs:=l) (k:=u.toNat) (by omega)
  obtain⟨lb,glb⟩:=q13 (xs:=l) (k:=b.toNat) (by omega)
  have elu:atV l u=lu:=by simp[atV,List.getD,glu]
  have elb:atV l b=lb:=by simp[atV,List.getD,glb]
  have pu:=psub_vls glu
  have pb:=psub_vls glb
  have b1:u.toNat*3+3≤(vlsL l).length:=by rw[q64];omega
  have b2:b.toNat*3+3≤(vlsL l).length:=by rw[q64];omega
  have b0:=hb.1
  have bn:=hb.2
  rw[drop_some gu,bestM,elu,elb,Int.one_mul]at hbe
  simp only[PP,P1,P2,P3,P4,P5,P6,P7,P8,P9,P10,P11,P12,P13,P14,L1,P15,N1,N2,N3,N4,N5,N6,N7,I1,I2,I3,I4,I5,I6,I7,reduceIte,reduceCtorEq,k0,ks,gr,q2,gu,j0,u0,un,b0,bn,pu,pb,b1,b2]
  refine rcompare_p T hpl (by show _<1000000000000;omega) hp (hin lu (List.mem_of_getElem? glu)) (hin lb (List.mem_of_getElem? glb)) ?_
  simp only[PP,P1,P2,P3,P4,P5,P6,P7,P8,P9,P10,P11,P12,P13,P14,L1,P15,N1,N2,N3,N4,N5,N6,N7,I1,I2,I3,I4,I5,I6,I7,reduceIte,reduceCtorEq]
  refine QIf.intro (fun q3=>?_) (fun q3=>?_)
  ·rw[if_pos q3]at hbe
   simp only[PP,P1,P2,P3,P4,P5,P6,P7,P8,P9,P10,P11,P12,P13,P14,L1,P15,N1,N2,N3,N4,N5,N6,N7,I1,I2,I3,I4,I5,I6,I7,reduceIte,reduceCtorEq,q3,k0,ks,gr,q2,gu,j0,hwj]
   exact q8 (ih2 (j+1) u ⟨by omega,⟨u0,un⟩,hbe⟩ (by omega)) (by simp only[PW])
  ·rw[if_neg q3]at hbe
   simp only[PP,P1,P2,P3,P4,P5,P6,P7,P8,P9,P10,P11,P12,P13,P14,L1,P15,N1,N2,N3,N4,N5,N6,N7,I1,I2,I3,I4,I5,I6,I7,reduceIte,reduceCtorEq,q3,hwj]
   exact q8 (ih2 (j+1) b ⟨by omega,hb,hbe⟩ (by omega)) (by simp only[PW])
 rw[List.drop_eq_nil_of_le (by omega),bestM]at hbe
 rw[←hbe]at hyb
 have hchn:∀ch2:Bool,(ch2=true↔ch=true∨b≠x0)→(ch2=true↔∃v,v<k+1∧ow.getD v 0=0∧bestM 1 pr l (st1.getD v 0) (su.getD v [])≠st1.getD v 0):=fun ch2 h=>by
  rw[h,hch]
  constructor
  ·rintro(⟨v,h1,h2⟩ | h1)
   ·exact⟨v,by omega,h2⟩
   ·exact⟨k,by omega,by rw[eo];omega,by rw[←hso,er,←hbe];exact h1⟩
  ·rintro⟨v,h1,h2,h3⟩
   by_cases q5:v=k
   ·subst q5
    rw[←hso,er,←hbe]at h3
    exact .inr h3
   ·exact .inl ⟨v,by omega,h2,h3⟩
 cases ch with
 | true=>
  simp only[PP,P1,P2,P3,P4,P5,P6,P7,P8,P9,P10,P11,P12,P13,P14,L1,P15,N1,N2,N3,N4,N5,N6,N7,I1,I2,I3,I4,I5,I6,I7,reduceIte,reduceCtorEq,q2,hps,hw]
  exact⟨⟨hxk,hb8,hb9⟩,q20 (ih (k+1) (g+1) true ⟨by omega,hchn true (by simp)⟩ (by omega)) (by simp only[PW]) (by rw[happ _ hyb])⟩
 | false=>
  simp only[PP,P1,P2,P3,P4,P5,P6,P7,P8,P9,P10,P11,P12,P13,P14,L1,P15,N1,N2,N3,N4,N5,N6,N7,I1,I2,I3,I4,I5,I6,I7,reduceIte,reduceCtorEq,q2,gx0,k0,hstl,hps,hw]
  exact⟨ko,⟨hxk,hb8,hb9⟩,q20 (ih (k+1) (g+1) (decide ¬b=x0) ⟨by omega,hchn _ (by simp)⟩ (by omega)) (by simp only[PW]) (by rw[happ _ hyb])⟩
end
def lvC:Nat→List (Vl×Nat×Nat)→List PV
 | _,[]=>[]
 | b,y::l=>p64 y.1.cy:: .ref b y.2.1 1 0 y.1.se.length::p64 y.1.st::lvC (b+4) l
def lvO:List (Vl×Nat×Nat)→Mem
 | []=>[]
 | y::l=> .gone:: .gone:: .gone:: .cells y.2.1 y.2.2 (y.1.se.map p64)::lvO l
theorem lvC_len:∀(l:List (Vl×Nat×Nat)) (b:Nat),(lvC b l).length=l.length*3
 | [],b=>rfl
 | y::l,b=>by rw[lvC];simp[lvC_len l];omega
theorem lvO_len:∀l:List (Vl×Nat×Nat),(lvO l).length=l.length*4
 | []=>rfl
 | y::l=>by rw[lvO];simp[lvO_len l];omega
theorem lvC_app:∀(l:List (Vl×Nat×Nat)) (b:Nat) (y:Vl×Nat×Nat),lvC b (l++[y])=lvC b l++[p64 y.1.cy,.ref (b+l.length*4) y.2.1 1 0 y.1.se.length,p64 y.1.st]
 | [],b,y=>by simp[lvC]
 | z::l,b,y=>by
  rw[List.cons_append,lvC,lvC_app l,lvC]
  simp only[List.length_cons,List.cons_append,List.cons.injEq,true_and]
  rw[show b+4+l.length*4=b+(l.length+1)*4 by omega]
theorem lvO_app:∀(l:List (Vl×Nat×Nat)) (y:Vl×Nat×Nat),lvO (l++[y])=lvO l++[.gone,.gone,.gone,.cells y.2.1 y.2.2 (y.1.se.map p64)]
 | [],y=>rfl
 | z::l,y=>by rw[List.cons_append,lvO,lvO_app l,lvO];rfl
theorem lvC_put {m b:Nat} {l:List (Vl×Nat×Nat)} (y:Vl×Nat×Nat) (z:List PV) (hz:z.length=3):(lvC b l++q30 (m+1) z).take (l.length*3)++([p64 y.1.cy,.ref (b+l.length*4) y.2.1 1 0 y.1.se.length,p64 y.1.st]++(lvC b l++q30 (m+1) z).drop (l.length*3+3))=lvC b (l++[y])++q30 m z:=by
 rw[←lvC_len l b,List.take_left' rfl,←List.drop_drop,List.drop_left' rfl,lvC_app,q30,List.drop_left' hz]
 simp
theorem age_gm4 (F:GF) (f o:Bool) (ow pr:List Int) (su:List (List Int)) (xs:List Int) (v:Int):ageL [.agg (gmF F ow pr su),slI f o .i64 xs,p64 v]=[.agg (gmF F0 ow pr su),slI false false .i64 xs,p64 v]:=by
 simp only[ageL,PV.age,ageL_ints,ageL_slI]
section
variable {tab:FuncId→Option AF} (T:HasA tab)
include T
set_option maxHeartbeats 1000000 in
theorem follow_l {F:GF} {f5 o5:Bool} {ow pr st:List Int} {su:List (List Int)} {v:Int} (B:Bnd ow pr su) (h14:ow.length≤14) (hb:st.length<big) (c1:playE ow pr su st v=0):
  SemC tab 27 [.agg (gmF F ow pr su),slI f5 o5 .i64 st,p64 v] [] fun r N=>∃(g u:Nat) (o1 o2 o3:PObj),r= .tuple [.agg [p64 (folA ow pr su st v).cy,.ref 3 g 1 0 (folA ow pr su st v).se.length,p64 (folA ow pr su st v).st],p64 0]∧N=[o1,o2,o3,.cells g u ((folA ow pr su st v).se.map p64)]:=by
 obtain⟨K,hK⟩:∃K:PV→Mem→Prop,K=fun r N=>∃(g u:Nat) (o1 o2 o3:PObj),r= .tuple [.agg [p64 (folA ow pr su st v).cy,.ref 3 g 1 0 (folA ow pr su st v).se.length,p64 (folA ow pr su st v).st],p64 0]∧N=[o1,o2,o3,.cells g u ((folA ow pr su st v).se.map p64)]:=⟨_,rfl⟩
 rw[←hK]
 have hq:∀(x:Vl) (g u:Nat) (o1 o2 o3:PObj),folA ow pr su st v=x→K (.tuple [.agg [p64 x.cy,.ref 3 g 1 0 x.se.length,p64 x.st],p64 0]) [o1,o2,o3,.cells g u (x.se.map p64)]:=fun x g u o1 o2 o3 e=>by subst e;rw[hK];exact⟨g,u,o1,o2,o3,rfl,rfl⟩
 have hfx:folA ow pr su st v=folX ow pr st v:=if_pos c1
 refine q33 T.h27 ?_
 simp only[af27,PP,P1,P2,P3,P4,P5,P6,P7,P8,P9,P10,P11,P12,P13,P14,L1,P15,N1,N2,N3,N4,N5,N6,N7,I1,I2,I3,I4,I5,I6,I7,reduceIte,reduceCtorEq]
 refine play_p T B hb ?_
 unfold playM
 rw[if_pos c1]
 obtain⟨cc,v0,v1,hst,f,hf1,hf2,m,k,hP⟩:=play_facts c1
 have V:=q22 cc
 obtain⟨hnd,hran,hlen,hne⟩:=hP.facts (fun v hv=>(hf2 v hv).1) (by omega)
 have hpl:pr.length=ow.length:=V.p
 unfold folX at hfx
 obtain⟨P,hPP⟩:∃P,P=(q63 st (ow.length+1) v []).1:=⟨_,rfl⟩
 obtain⟨L,hLL⟩:∃L,L=(q63 st (ow.length+1) v []).2:=⟨_,rfl⟩
 rw[←hPP,←hLL]at hnd hran hlen hfx ⊢
 rw[←hLL]at hne
 obtain⟨x,xs,rfl⟩:∃x xs,L=x::xs:=by cases L with | nil=>exact absurd rfl hne | cons x xs=>exact⟨x,xs,rfl⟩
 simp only[folV]at hfx
 rw[List.length_append]at hlen
 obtain⟨L,hL⟩:∃L,L=x::xs:=⟨_,rfl⟩
 obtain⟨w,hw⟩:∃w,w=maxR pr x xs:=⟨_,rfl⟩
 rw[←hL,←hw]at hfx
 simp only[PP,P1,P2,P3,P4,P5,P6,P7,P8,P9,P10,P11,P12,P13,P14,L1,P15,N1,N2,N3,N4,N5,N6,N7,I1,I2,I3,I4,I5,I6,I7,reduceIte,reduceCtorEq]
 rw[←hL]
 refine relevance_p T ?_
 simp only[PP,P1,P2,P3,P4,P5,P6,P7,P8,P9,P10,P11,P12,P13,P14,L1,P15,N1,N2,N3,N4,N5,N6,N7,I1,I2,I3,I4,I5,I6,I7,reduceIte,reduceCtorEq]
 have hrL:∀v∈x::xs,0≤v∧v<pr.length:=fun y hy=>by
  have:=hran y (List.mem_append.2 (.inr hy));omega
 have hwr:0≤w∧w<pr.length:=by
  rcases maxR_mem pr xs x with h | h
  ·rw[hw,h];exact hrL x (by simp)
  ·rw[hw];exact hrL _ (List.mem_cons_of_mem _ h)
 rw[hL]
 refine maxF_p T (F:=F) (by show _<1000000000000;omega) hrL ?_
 rw[←hL,←hw]
 have hLlen:P.length+L.length≤ow.length:=by rw[hL];exact hlen
 simp only[PP,P1,P2,P3,P4,P5,P6,P7,P8,P9,P10,P11,P12,P13,P14,L1,P15,N1,N2,N3,N4,N5,N6,N7,I1,I2,I3,I4,I5,I6,I7,reduceIte,reduceCtorEq]
 refine concat_p T (by omega) (by rw[hL];simp) ?_
 obtain⟨A,hA⟩:∃A,A=P++L:=⟨_,rfl⟩
 rw[←hA]at hfx ⊢
 have hAn:A.length≤ow.length:=by rw[hA,List.length_append];exact hLlen
 have hnA:A.Nodup:=by rw[hA,hL];exact hnd
 have hrA:∀x∈A,0≤x∧x<ow.length:=by rw[hA,hL];exact hran
 have hwA:w∈A:=by
  rw[hA,hL]
  refine List.mem_append.2 (.inr ?_)
  rcases maxR_mem pr xs x with h | h
  ·rw[hw,h];simp
  ·rw[hw];exact List.mem_cons_of_mem _ h
 simp only[PP,P1,P2,P3,P4,P5,P6,P7,P8,P9,P10,P11,P12,P13,P14,L1,P15,N1,N2,N3,N4,N5,N6,N7,I1,I2,I3,I4,I5,I6,I7,reduceIte,reduceCtorEq]
 refine index_p T (by show _<1000000000000;omega) ?_
 simp only[PP,P1,P2,P3,P4,P5,P6,P7,P8,P9,P10,P11,P12,P13,P14,L1,P15,N1,N2,N3,N4,N5,N6,N7,I1,I2,I3,I4,I5,I6,I7,reduceIte,reduceCtorEq]
 refine SemW_re (GStep.nilbox 2 1 1 rfl rfl rfl) ?_
 simp only[List.set_cons_succ,List.set_cons_zero,List.cons_append,List.nil_append,List.length_cons,List.length_nil,Nat.reduceAdd]
 refine loop5 (fun(k g v ver n:Nat)=>k≤A.length∧n=((A.take k).filter fun u=>decide (0<relI pr u w)).length) (fun k g v ver n=>[Zj,Zj,Zj,Zj,Zj,Zj,.ptr 1 0 0,Zj,Zj,Zj,Zj,moreV (gmF F ow pr su),p64 w,Zj,.ptr 2 0 0,Zj,Zj,Zj,Zj,Zj,Zj,Zj,Zj,Zj,Zj,Zj,Zj,Zj,Zj,Zj,Zj,Zj,Zj,Zj,Zj,Zj,Zj,Zj,Zj,Zj,Zj,Zj,Zj,slI false true .i64 A,p64 A.length,p64 k,Zj,Zj,Zj,Zj,Zj,Zj,Zj,Zj,Zj,Zj,Zj,Zj,Zj,Zj,Zj,Zj,Zj,Zj,Zj])
  (fun k g v ver n=>[.cells 0 0 (gmF F ow pr su),.cells 0 0 [p64 0,.nils,p64 0],.cells 0 ver [p64 w,.ref 3 g 1 0 n,p64 (idxI w 0 A)],.cells g v (((A.take k).filter fun u=>decide (0<relI pr u w)).map p64)]) (fun k _ _ _ _=>A.length-k) 0 0 0 1 0 ⟨by omega,rfl⟩ (by simp only[PW]) rfl ?_
 intro k g v ver n ⟨hle,hn⟩ ih
 refine q15 (by kernel_rfl) ?_
 simp only[PP,P1,P2,P3,P4,P5,P6,P7,P8,P9,P10,P11,P12,P13,P14,L1,P15,N1,N2,N3,N4,N5,N6,N7,I1,I2,I3,I4,I5,I6,I7,reduceIte,reduceCtorEq]
 refine QIf.intro (fun c=>?_) (fun c=>?_)
 ·have hk':k<A.length:=by omega
  obtain⟨u,gu⟩:=q13 hk'
  obtain⟨u0,u1⟩:=hrA u (List.mem_of_getElem? gu)
  have hwk:=q10 (k:=k) (by show _<1000000000000;omega)
  have k0:(0:Int)≤k:=by omega
  simp only[PP,P1,P2,P3,P4,P5,P6,P7,P8,P9,P10,P11,P12,P13,P14,L1,P15,N1,N2,N3,N4,N5,N6,N7,I1,I2,I3,I4,I5,I6,I7,reduceIte,reduceCtorEq,c,gu,k0]
  refine rel1_p T u0 (by omega) hwr.1 hwr.2 ?_
  simp only[PP,P1,P2,P3,P4,P5,P6,P7,P8,P9,P10,P11,P12,P13,P14,L1,P15,N1,N2,N3,N4,N5,N6,N7,I1,I2,I3,I4,I5,I6,I7,reduceIte,reduceCtorEq]
  have htk:=take_some gu
  have hnk:n≤k:=by
   rw[hn]
   refine Nat.le_trans (List.length_filter_le _ _) ?_
   rw[List.length_take];omega
  obtain⟨X,hX⟩:∃X,X=(A.take k).filter fun u=>decide (0<relI pr u w):=⟨_,rfl⟩
  rw[←hX]at hn ⊢
  refine QIf.intro (fun d=>?_) (fun d=>?_)
  ·have hX2:(A.take (k+1)).filter (fun u=>decide (0<relI pr u w))=X++[u]:=by
    rw[htk,List.filter_append,←hX];simp[d]
   have hps:psub (X.map p64) 0 n=X.map p64:=q53 _ _ (by simp[hn])
   have hxl:n≤X.length:=by omega
   simp only[PP,P1,P2,P3,P4,P5,P6,P7,P8,P9,P10,P11,P12,P13,P14,L1,P15,N1,N2,N3,N4,N5,N6,N7,I1,I2,I3,I4,I5,I6,I7,reduceIte,reduceCtorEq,d,hps,hxl,hwk]
   refine⟨⟨by omega,by omega⟩,q20 (ih (k+1) (g+1) 0 (ver+1) (n+1) ⟨by omega,by rw[hX2];simp[hn]⟩ (by omega)) (by simp only[PW]) (by rw[hX2];simp)⟩
  ·have hX2:(A.take (k+1)).filter (fun u=>decide (0<relI pr u w))=X:=by
    rw[htk,List.filter_append,←hX];simp[d]
   simp only[PP,P1,P2,P3,P4,P5,P6,P7,P8,P9,P10,P11,P12,P13,P14,L1,P15,N1,N2,N3,N4,N5,N6,N7,I1,I2,I3,I4,I5,I6,I7,reduceIte,reduceCtorEq,d,hwk]
   exact q20 (ih (k+1) g v ver n ⟨by omega,by rw[hX2];exact hn⟩ (by omega)) (by simp only[PW]) (by rw[hX2])
 ·have hkA:k=A.length:=by omega
  rw[hkA,List.take_length]at hn ⊢
  obtain⟨X,hX⟩:∃X,X=A.filter fun u=>decide (0<relI pr u w):=⟨_,rfl⟩
  rw[←hX]at hn ⊢
  have hn13:n≤13:=by
   have h1:X.length≤(A.erase w).length:=by
    refine List.Nodup.length_le_of_subset ?_ ?_
    ·rw[hX];exact hnA.filter _
    ·intro y hy
     rw[hX,List.mem_filter,decide_eq_true_eq]at hy
     refine(List.Nodup.mem_erase_iff hnA).2 ⟨fun e=>?_,hy.1⟩
     rw[e,(q18 pr).self]at hy
     exact absurd hy.2 (by omega)
   rw[List.length_erase_of_mem hwA]at h1
   omega
  simp only[PP,P1,P2,P3,P4,P5,P6,P7,P8,P9,P10,P11,P12,P13,P14,L1,P15,N1,N2,N3,N4,N5,N6,N7,I1,I2,I3,I4,I5,I6,I7,reduceIte,reduceCtorEq,c]
  refine SemC_at (pre:=[]) (post:=[]) (cs:=X.map p64) (ver:=v) rfl (by simp only[PP,P1,P2,P3,P4,P5,P6,P7,P8,P9,P10,P11,P12,P13,P14,L1,P15,N1,N2,N3,N4,N5,N6,N7,I1,I2,I3,I4,I5,I6,I7,reduceIte,reduceCtorEq]) rfl rfl (sort13_p T hn.symm hn13 (fun v' l' h1 h2=>⟨by simp only[PP,P1,P2,P3,P4,P5,P6,P7,P8,P9,P10,P11,P12,P13,P14,L1,P15,N1,N2,N3,N4,N5,N6,N7,I1,I2,I3,I4,I5,I6,I7,reduceIte,reduceCtorEq],v',l'.map p64,[],rfl,by simp only[PP,P1,P2,P3,P4,P5,P6,P7,P8,P9,P10,P11,P12,P13,P14,L1,P15,N1,N2,N3,N4,N5,N6,N7,I1,I2,I3,I4,I5,I6,I7,reduceIte,reduceCtorEq],?_⟩))
  have e:=sorted_seF (n:=ow.length) (pr:=pr) (w:=w) (all:=A) hnA hrA (by rw[←hX];exact h1) h2
  have hll:n=l'.length:=by rw[h1.length_eq];exact hn
  have hps:psub (l'.map p64) 0 n=l'.map p64:=q53 _ _ (by rw[List.length_map];omega)
  have hle2:n≤l'.length:=by omega
  rw[e]at hll ⊢
  simp only[PP,P1,P2,P3,P4,P5,P6,P7,P8,P9,P10,P11,P12,P13,P14,L1,P15,N1,N2,N3,N4,N5,N6,N7,I1,I2,I3,I4,I5,I6,I7,reduceIte,reduceCtorEq]
  rw[hll]
  exact hq ⟨w,seF ow.length pr A w,idxI w 0 A⟩ g v' _ _ _ hfx
theorem values_l {F:GF} {f5 o5:Bool} {ow pr st:List Int} {su:List (List Int)} (hc:checkM ow pr su=0) (B:Bnd ow pr su) (h14:ow.length≤14) (hm:MvOk su ow.length st):
  SemC tab 70 [.agg (gmF F ow pr su),slI f5 o5 .i64 st] [] fun r N=>∃(L:List (Vl×Nat×Nat)) (o1:PObj) (u:Nat),L.map (·.1)=q19 ow pr su st∧r= .ref 1 0 3 0 ow.length∧N=o1:: .cells 0 u (lvC 5 L)::lvO L:=by
 have V:=q22 hc
 have hsl:=hm.l
 refine q33 T.h70 ?_
 simp only[af70,PP,P1,P2,P3,P4,P5,P6,P7,P8,P9,P10,P11,P12,P13,P14,L1,P15,N1,N2,N3,N4,N5,N6,N7,I1,I2,I3,I4,I5,I6,I7,reduceIte,reduceCtorEq]
 refine⟨by omega,?_⟩
 refine loop3 (fun(k ver:Nat) (L:List (Vl×Nat×Nat))=>k≤ow.length∧L.length=k∧L.map (·.1)=tabA k fun v=>folA ow pr su st v) (fun k ver L=>[Zj,slI f5 o5 .i64 st,.ptr 0 0 0,Zj,Zj,.ref 1 0 3 0 ow.length,Zj,Zj,Zj,Zj,Zj,p64 ow.length,p64 k,Zj,Zj,Zj,Zj,Zj,Zj,Zj,Zj,Zj,Zj,Zj,Zj,Zj,Zj])
  (fun k ver L=> .cells 0 0 (gmF F ow pr su):: .cells 0 ver (lvC 5 L++q30 (ow.length-k) [p64 0,.nils,p64 0])::lvO L) (fun k _ _=>ow.length-k) 0 0 [] ⟨Nat.zero_le _,rfl,rfl⟩ (by simp only[PW,hsl]) (by rw[hsl];rfl) ?_
 intro k ver L ⟨hle,hLl,hLm⟩ ih
 refine q15 (by kernel_rfl) ?_
 simp only[PP,P1,P2,P3,P4,P5,P6,P7,P8,P9,P10,P11,P12,P13,P14,L1,P15,N1,N2,N3,N4,N5,N6,N7,I1,I2,I3,I4,I5,I6,I7,reduceIte,reduceCtorEq]
 refine QIf.intro (fun c=>?_) (fun c=>?_)
 ·have hk':k<ow.length:=by omega
  have k0:(0:Int)≤k:=by omega
  have kn:(k:Int)<ow.length:=by omega
  have hw:=q10 (k:=k) (by show _<1000000000000;omega)
  obtain⟨m,hmm⟩:∃m,ow.length-k=m+1:=⟨ow.length-k-1,by omega⟩
  rw[hmm]
  obtain⟨X,hX⟩:∃X,X=lvC 5 L++q30 (m+1) [p64 0,.nils,p64 0]:=⟨_,rfl⟩
  have hXl:X.length=ow.length*3:=by rw[hX,List.length_append,lvC_len,prepl_len];simp;omega
  rw[←hX]
  have hb:k*3+3≤X.length:=by omega
  simp only[PP,P1,P2,P3,P4,P5,P6,P7,P8,P9,P10,P11,P12,P13,P14,L1,P15,N1,N2,N3,N4,N5,N6,N7,I1,I2,I3,I4,I5,I6,I7,reduceIte,reduceCtorEq,c]
  refine SemC_new (.same (by simp only[PP,P1,P2,P3,P4,P5,P6,P7,P8,P9,P10,P11,P12,P13,P14,L1,P15,N1,N2,N3,N4,N5,N6,N7,I1,I2,I3,I4,I5,I6,I7,reduceIte,reduceCtorEq]) (.same (by simp only[PP,P1,P2,P3,P4,P5,P6,P7,P8,P9,P10,P11,P12,P13,P14,L1,P15,N1,N2,N3,N4,N5,N6,N7,I1,I2,I3,I4,I5,I6,I7,reduceIte,reduceCtorEq]) (.same (by simp only[PP,P1,P2,P3,P4,P5,P6,P7,P8,P9,P10,P11,P12,P13,P14,L1,P15,N1,N2,N3,N4,N5,N6,N7,I1,I2,I3,I4,I5,I6,I7,reduceIte,reduceCtorEq]) .nil))) (age_gm4 _ _ _ _ _ _ _ _) ?_
  refine SemC_mono (follow_l T B h14 (by show _<1000000000000;omega) (hm.play V hc hk')) ?_
  rintro r N ⟨g,u,o1,o2,o3,rfl,rfl⟩
  refine⟨[.gone,.gone,.gone,.cells g u ((folA ow pr su st k).se.map p64)],fun i o ho=>?_,Nat.le_refl _,rfl,by simp[shOkO,shOkL_ints],?_⟩
  ·match i with
   | 0=>cases ho;exact .inl rfl
   | 1=>cases ho;exact .inl rfl
   | 2=>cases ho;exact .inl rfl
   | 3=>cases ho;exact .inr rfl
   | i+4=>simp at ho
  have hp:=lvC_put (m:=m) (b:=5) (l:=L) (folA ow pr su st k,g,u) [p64 0,.nils,p64 0] rfl
  rw[←hX,hLl,←List.append_assoc]at hp
  have hid:3+((lvO L).length+1+1)=5+k*4:=by rw[lvO_len];omega
  simp only[PP,P1,P2,P3,P4,P5,P6,P7,P8,P9,P10,P11,P12,P13,P14,L1,P15,N1,N2,N3,N4,N5,N6,N7,I1,I2,I3,I4,I5,I6,I7,reduceIte,reduceCtorEq,PV.sh,shL,shO,shL_ints,hid,hp,hw]
  refine⟨⟨k0,kn⟩,hb,q20 (ih (k+1) (ver+1) (L++[(folA ow pr su st k,g,u)]) ⟨by omega,by simp[hLl],by rw[List.map_append,hLm,tabA_succ];rfl⟩ (by omega)) (by simp only[PW]) ?_⟩
  rw[lvO_app,show ow.length-(k+1)=m by omega]
 ·have hkn:k=ow.length:=by omega
  have e0:lvC 5 L++q30 (ow.length-k) [p64 0,.nils,p64 0]=lvC 5 L:=by rw[hkn,Nat.sub_self];simp[q30]
  rw[e0]
  simp only[PP,P1,P2,P3,P4,P5,P6,P7,P8,P9,P10,P11,P12,P13,P14,L1,P15,N1,N2,N3,N4,N5,N6,N7,I1,I2,I3,I4,I5,I6,I7,reduceIte,reduceCtorEq,c]
  exact⟨L,_,ver,by rw[hLm,hkn,q19,hsl],rfl⟩
end
def vlsB (l:List Vl):List PV:=l.flatMap (vlL true false)
theorem vlsB_len (l:List Vl):(vlsB l).length=l.length*3:=by
 unfold vlsB
 induction l with
 | nil=>rfl
 | cons x l ih=>rw[List.flatMap_cons,List.length_append,ih];simp[vlL];omega
theorem psub_vlsB {l:List Vl} {k:Nat} {x:Vl} (h:l[k]? =some x):psub (vlsB l) (k*3) 3=vlL true false x:=by
 have hk:=q12 h
 have e:l[k]=x:=by rw[List.getElem?_eq_getElem hk]at h;cases h;rfl
 have hs:vlsB l=vlsB (l.take k)++(vlL true false x++vlsB (l.drop (k+1))):=by
  conv=>lhs;rw[←List.take_append_drop k l,List.drop_eq_getElem_cons hk,e]
  simp[vlsB]
 unfold psub
 rw[hs,List.drop_left' (by rw[vlsB_len,List.length_take,Nat.min_eq_left (by omega)])]
 rfl
theorem lvC_sh (k:Nat):∀(l:List (Vl×Nat×Nat)) (b:Nat),shL k (lvC b l)=lvC (b+k) l
 | [],b=>by simp[lvC,shL]
 | y::l,b=>by
  rw[lvC,lvC]
  simp only[shL,PV.sh,lvC_sh k l]
  rw[show b+4+k=b+k+4 by omega]
theorem lvC_ok:∀(l:List (Vl×Nat×Nat)) (b:Nat),shOkL (lvC b l)=true
 | [],b=>by simp[lvC,shOkL]
 | y::l,b=>by rw[lvC];simp only[shOkL,PV.shOk,lvC_ok l,Bool.and_self]
theorem lvO_sh (k:Nat):∀l:List (Vl×Nat×Nat),(lvO l).map (shO k)=lvO l
 | []=>rfl
 | y::l=>by rw[lvO];simp only[List.map_cons,shO,shL_ints,lvO_sh k l]
theorem lvO_ok:∀l:List (Vl×Nat×Nat),(lvO l).all shOkO=true
 | []=>rfl
 | y::l=>by rw[lvO];simp only[List.all_cons,shOkO,shOkL_ints,lvO_ok l,Bool.and_self]
theorem lv_bor:∀(l:List (Vl×Nat×Nat)) (P:Mem),PBor (P++lvO l) (lvC (P.length+3) l) (vlsB (l.map (·.1)))
 | [],P=>by simp only[lvC,List.map_nil];exact .nil
 | y::l,P=>by
  have ih:=lv_bor l (P++[.gone,.gone,.gone,.cells y.2.1 y.2.2 (y.1.se.map p64)])
  rw[lvC,lvO,List.map_cons]
  have e1:P++ .gone:: .gone:: .gone:: .cells y.2.1 y.2.2 (y.1.se.map p64)::lvO l=P++[.gone,.gone,.gone,.cells y.2.1 y.2.2 (y.1.se.map p64)]++lvO l:=by simp
  rw[e1]
  have e2:(P++[PObj.gone,.gone,.gone,.cells y.2.1 y.2.2 (y.1.se.map p64)]).length+3=P.length+3+4:=by simp
  rw[e2]at ih
  have hg:(P++[PObj.gone,.gone,.gone,.cells y.2.1 y.2.2 (y.1.se.map p64)]++lvO l)[P.length+3]? =some (.cells y.2.1 y.2.2 (y.1.se.map p64)):=by
   rw[List.append_assoc,List.getElem?_append_right (by omega),show P.length+3-P.length=3 by omega];rfl
  exact .same (under_int _ _ _) (.ints hg rfl (.same (under_int _ _ _) ih))
theorem age_gm2 (F:GF) (f o:Bool) (ow pr:List Int) (su:List (List Int)) (xs:List Int):ageL [.agg (gmF F ow pr su),slI f o .i64 xs]=[.agg (gmF F0 ow pr su),slI false false .i64 xs]:=by
 simp only[ageL,PV.age,ageL_ints,ageL_slI]
section
variable {tab:FuncId→Option AF} (T:HasA tab)
include T
set_option maxHeartbeats 1000000 in
theorem respond_l {o0 o1:PObj} {K:PV→Mem→Prop} {F:GF} {ow pr st:List Int} {su:List (List Int)} {g ver n:Nat} (hc:checkM ow pr su=0) (B:Bnd ow pr su) (h14:ow.length≤14) (hno:n=ow.length) (hm:MvOk su ow.length st)
  (hk:∀(N:Mem) (u:Nat) (L:List (Vl×Nat×Nat)) (st':List Int),N.length=7→RespOk ow pr su st st'→L.map (·.1)=q19 ow pr su st'→K (.ref 7 0 3 0 n) (N++ .cells 0 u (lvC 11 L)::lvO L)):
  SemC tab 44 [.agg (gmF F ow pr su),.ref 2 g 1 0 n] [o0,o1,.cells g ver (st.map p64)] K:=by
 subst hno
 have V:=q22 hc
 have hp:=fun v=>(V.prI v).1
 refine SemC_forget 0 (SemC_forget 1 ?_)
 simp only[List.set_cons_succ,List.set_cons_zero]
 clear o0 o1
 obtain⟨o0,ho0⟩:∃o0,o0=PObj.gone:=⟨_,rfl⟩
 obtain⟨o1,ho1⟩:∃o1,o1=PObj.gone:=⟨_,rfl⟩
 have e01:[PObj.gone,PObj.gone,.cells g ver (st.map p64)]=[o0,o1,.cells g ver (st.map p64)]:=by rw[ho0,ho1]
 rw[e01]
 refine SemC_sem T.h44 ?_
 simp only[af44]
 refine q25 (q35 ?_)
 simp only[PP,P1,P2,P3,P4,P5,P6,P7,P8,P9,P10,P11,P12,P13,P14,L1,P15,N1,N2,N3,N4,N5,N6,N7,I1,I2,I3,I4,I5,I6,I7,reduceIte,reduceCtorEq]
 refine SemW_blk (q25 (SemW_blk (q25 (q25 (q35 ?_)))))
 simp only[PP,P1,P2,P3,P4,P5,P6,P7,P8,P9,P10,P11,P12,P13,P14,L1,P15,N1,N2,N3,N4,N5,N6,N7,I1,I2,I3,I4,I5,I6,I7,reduceIte,reduceCtorEq]
 refine order_p T ?_
 simp only[PP,P1,P2,P3,P4,P5,P6,P7,P8,P9,P10,P11,P12,P13,P14,L1,P15,N1,N2,N3,N4,N5,N6,N7,I1,I2,I3,I4,I5,I6,I7,reduceIte,reduceCtorEq]
 refine SemW_re (b:=[Zj,.ref 2 g 1 0 ow.length,.ptr 3 0 0,Zj,Zj,.cp [ordV (gmF F ow pr su)] 0,Zj,Zj,Zj,Zj,Zj,Zj,Zj,Zj,Zj,Zj,Zj,Zj,Zj,Zj,Zj]) (GStep.freezeP 4 (by decide) rfl (by simp only[PFrzP_nil,PFrzP_junk,PFrzP_same,PFrzP_ptr]) rfl) ?_
 simp only[List.set_cons_succ,List.set_cons_zero]
 have bt:=bt_one T (F:=F) (ow:=ow) (su:=su) hp
 --the values,then a round
 have rnd:∀(ver:Nat) (st':List Int) (K1:PV→Mem→Prop),MvOk su ow.length st'→(∀(u:Nat) (L:List (Vl×Nat×Nat)),L.map (·.1)=q19 ow pr su st'→K1 (.ref 7 0 3 0 ow.length) (o0::o1:: .cells g ver (st'.map p64):: .cells 0 0 (gmF F ow pr su):: .gone:: .cells 0 1 [p8 1,betV (gmF F ow pr su)]:: .gone:: .cells 0 u (lvC 11 L)::lvO L))→
   SemC tab 70 [.agg (gmF F ow pr su),.ref 2 g 1 0 ow.length] [o0,o1,.cells g ver (st'.map p64),.cells 0 0 (gmF F ow pr su),.gone,.cells 0 1 [p8 1,betV (gmF F ow pr su)]] K1:=fun ver st' K1 h' h1=>by
  refine SemC_new (.same (by simp only[PP,P1,P2,P3,P4,P5,P6,P7,P8,P9,P10,P11,P12,P13,P14,L1,P15,N1,N2,N3,N4,N5,N6,N7,I1,I2,I3,I4,I5,I6,I7,reduceIte,reduceCtorEq]) (.ints rfl h'.l .nil)) (age_gm2 _ _ _ _ _ _ _) (SemC_mono (values_l T hc B h14 h') ?_)
  rintro r N ⟨L,o,u,e1,rfl,rfl⟩
  refine⟨.gone:: .cells 0 u (lvC 5 L)::lvO L,fun i o2 ho=>?_,Nat.le_refl _,rfl,by simp only[List.all_cons,shOkO,lvC_ok,lvO_ok,Bool.and_self],?_⟩
  ·match i with
   | 0=>cases ho;exact .inl rfl
   | i+1=>exact .inr ho
  simp only[List.map_cons,shO,lvO_sh,lvC_sh,PV.sh]
  exact h1 u L e1
 have imp:∀(ver u:Nat) (st':List Int) (L:List (Vl×Nat×Nat)) (K1:PV→Mem→Prop),MvOk su ow.length st'→L.map (·.1)=q19 ow pr su st'→
   (∀v1,K1 (.bool (chgM (-1) ow pr su (q19 ow pr su st') 1 st')) (o0::o1:: .cells g v1 ((impM (-1) ow pr su (q19 ow pr su st') 1 st').map p64):: .cells 0 0 (gmF F ow pr su):: .gone:: .cells 0 1 [p8 1,betV (gmF F ow pr su)]:: .gone:: .cells 0 u (lvC 11 L)::lvO L))→
   SemC tab 46 [.agg [p8 1,betV (gmF F ow pr su)],.agg (gmF F ow pr su),.ref 2 g 1 0 ow.length,.ref 7 0 3 0 ow.length] (o0::o1:: .cells g ver (st'.map p64):: .cells 0 0 (gmF F ow pr su):: .gone:: .cells 0 1 [p8 1,betV (gmF F ow pr su)]:: .gone:: .cells 0 u (lvC 11 L)::lvO L) K1:=fun ver u st' L K1 h' hL h1=>by
  have hvl':(q19 ow pr su st').length=ow.length:=by rw[q19,q23,h'.l]
  have hLl:L.length=ow.length:=by rw[←hvl',←hL,List.length_map]
  have hb0:=lv_bor L [o0,o1,.gone,.cells 0 0 (gmF F ow pr su),.gone,.cells 0 1 [p8 1,betV (gmF F ow pr su)],.gone,.cells 0 u (lvC 11 L)]
  have hps:psub (lvC 11 L) 0 (ow.length*3)=lvC 11 L:=q53 _ _ (by rw[lvC_len,hLl])
  rw[hL]at hb0
  refine SemC_atB (pre:=[.agg [p8 1,betV (gmF F ow pr su)],.agg (gmF F ow pr su)]) (post:=[.ref 7 0 3 0 ow.length]) (post2:=[.sl true false 3 ow.length (vlsB (q19 ow pr su st'))]) (id:=2) rfl (by simp only[PP,P1,P2,P3,P4,P5,P6,P7,P8,P9,P10,P11,P12,P13,P14,L1,P15,N1,N2,N3,N4,N5,N6,N7,I1,I2,I3,I4,I5,I6,I7,reduceIte,reduceCtorEq]) (by simp only[PP,P1,P2,P3,P4,P5,P6,P7,P8,P9,P10,P11,P12,P13,P14,L1,P15,N1,N2,N3,N4,N5,N6,N7,I1,I2,I3,I4,I5,I6,I7,reduceIte,reduceCtorEq,PV.under]) (.nest (id:=7) (cs:=lvC 11 L) rfl (by rw[lvC_len,hLl];omega) (by rw[hps];exact hb0) .nil) ?_
  refine improve_q T (fi:=true) (oi:=false) (vlsB_len _) (fun k x h=>psub_vlsB h) V h'.l hvl' rfl bt (fun v hv=>h'.rng V hv) (vals_in hc h') (fun v2=>⟨rfl,v2,_,[],rfl,by simp[PV.flat1],?_⟩)
  exact h1 v2
 refine q35 ?_
 simp only[PP,P1,P2,P3,P4,P5,P6,P7,P8,P9,P10,P11,P12,P13,P14,L1,P15,N1,N2,N3,N4,N5,N6,N7,I1,I2,I3,I4,I5,I6,I7,reduceIte,reduceCtorEq]
 refine rnd _ st _ hm fun u L hL=>?_
 simp only[PP,P1,P2,P3,P4,P5,P6,P7,P8,P9,P10,P11,P12,P13,P14,L1,P15,N1,N2,N3,N4,N5,N6,N7,I1,I2,I3,I4,I5,I6,I7,reduceIte,reduceCtorEq]
 refine imp _ u st L _ hm hL fun v1=>?_
 cases hch:chgM (-1) ow pr su (q19 ow pr su st) 1 st with
 | false=>
  have e:impM (-1) ow pr su (q19 ow pr su st) 1 st=st:=by
   unfold chgM at hch
   rw[decide_eq_false_iff_not,Classical.not_not]at hch;exact hch
  rw[e]
  simp only[PP,P1,P2,P3,P4,P5,P6,P7,P8,P9,P10,P11,P12,P13,P14,L1,P15,N1,N2,N3,N4,N5,N6,N7,I1,I2,I3,I4,I5,I6,I7,reduceIte,reduceCtorEq]
  exact hk [_,_,_,_,_,_,_] u L st rfl ⟨hm,fun _ _ _=>rfl,hch⟩ hL
 | true=>
  obtain⟨h1,h2,_⟩:=imp_ok hc (s:= -1) (.inr rfl) (player:=1) hm
  simp only[PP,P1,P2,P3,P4,P5,P6,P7,P8,P9,P10,P11,P12,P13,P14,L1,P15,N1,N2,N3,N4,N5,N6,N7,I1,I2,I3,I4,I5,I6,I7,reduceIte,reduceCtorEq]
  have hlast:∀(v u:Nat) (st':List Int) (L:List (Vl×Nat×Nat)) (a:List PV) (Qn Qr:List PV→Mem→Prop) (Qe:Nat→List PV→Mem→Prop) (x:AC),PWeak a [Zj,.ref 2 g 1 0 ow.length,.ptr 3 0 0,Zj,Zj,Zj,.ptr 5 0 0,Zj,Zj,Zj,Zj,Zj,Zj,Zj,Zj,Zj,Zj,Zj,Zj,Zj,Zj]→
    SemW tab 3 x [Zj,.ref 2 g 1 0 ow.length,.ptr 3 0 0,Zj,Zj,Zj,.ptr 5 0 0,Zj,Zj,Zj,Zj,Zj,Zj,Zj,Zj,Zj,Zj,Zj,Zj,Zj,Zj] [o0,o1,.cells g v (st'.map p64),.cells 0 0 (gmF F ow pr su),.gone,.cells 0 1 [p8 1,betV (gmF F ow pr su)]] Qn Qr Qe→
    SemW tab 3 x a (o0::o1:: .cells g v (st'.map p64):: .cells 0 0 (gmF F ow pr su):: .gone:: .cells 0 1 [p8 1,betV (gmF F ow pr su)]:: .gone:: .cells 0 u (lvC 11 L)::lvO L) Qn Qr Qe:=fun v u st' L a Qn Qr Qe x hw h=>by
   refine SemW_re (GStep.drop (b:=[Zj,.ref 2 g 1 0 ow.length,.ptr 3 0 0,Zj,Zj,Zj,.ptr 5 0 0,Zj,Zj,Zj,Zj,Zj,Zj,Zj,Zj,Zj,Zj,Zj,Zj,Zj,Zj]) 6 (by decide) (by simp) hw (by simp only[PP,P1,P2,P3,P4,P5,P6,P7,P8,P9,P10,P11,P12,P13,P14,L1,P15,N1,N2,N3,N4,N5,N6,N7,I1,I2,I3,I4,I5,I6,I7,reduceIte,reduceCtorEq,PV.under]) (by simp only[ho0,ho1,PP,P1,P2,P3,P4,P5,P6,P7,P8,P9,P10,P11,P12,P13,P14,L1,P15,N1,N2,N3,N4,N5,N6,N7,I1,I2,I3,I4,I5,I6,I7,reduceIte,reduceCtorEq,PV.under,PObj.under,List.take_succ_cons,List.take_zero]) rfl) ?_
   exact h
  refine hlast _ _ _ _ _ _ _ _ _ (by simp only[PW]) ?_
  refine loop2 (fun(ver:Nat) (st':List Int)=>MvOk su ow.length st'∧∀v,v<ow.length→ow.getD v 0≠1→st'.getD v 0=st.getD v 0) (fun ver st'=>[Zj,.ref 2 g 1 0 ow.length,.ptr 3 0 0,Zj,Zj,Zj,.ptr 5 0 0,Zj,Zj,Zj,Zj,Zj,Zj,Zj,Zj,Zj,Zj,Zj,Zj,Zj,Zj])
   (fun ver st'=>[o0,o1,.cells g ver (st'.map p64),.cells 0 0 (gmF F ow pr su),.gone,.cells 0 1 [p8 1,betV (gmF F ow pr su)]]) (fun _ st'=>muM (-1) ow pr su 1 st') v1 _ ⟨h1,h2⟩ (by simp only[PW]) rfl ?_
  intro ver st' ⟨h',hsame⟩ ih
  refine q15 (by kernel_rfl) ?_
  simp only[PP,P1,P2,P3,P4,P5,P6,P7,P8,P9,P10,P11,P12,P13,P14,L1,P15,N1,N2,N3,N4,N5,N6,N7,I1,I2,I3,I4,I5,I6,I7,reduceIte,reduceCtorEq]
  refine rnd _ st' _ h' fun u L hL=>?_
  simp only[PP,P1,P2,P3,P4,P5,P6,P7,P8,P9,P10,P11,P12,P13,P14,L1,P15,N1,N2,N3,N4,N5,N6,N7,I1,I2,I3,I4,I5,I6,I7,reduceIte,reduceCtorEq]
  refine imp _ u st' L _ h' hL fun v2=>?_
  cases hch':chgM (-1) ow pr su (q19 ow pr su st') 1 st' with
  | false=>
   have e:impM (-1) ow pr su (q19 ow pr su st') 1 st'=st':=by
    unfold chgM at hch'
    rw[decide_eq_false_iff_not,Classical.not_not]at hch';exact hch'
   rw[e]
   simp only[PP,P1,P2,P3,P4,P5,P6,P7,P8,P9,P10,P11,P12,P13,P14,L1,P15,N1,N2,N3,N4,N5,N6,N7,I1,I2,I3,I4,I5,I6,I7,reduceIte,reduceCtorEq]
   exact hk [_,_,_,_,_,_,_] u L st' rfl ⟨h',hsame,hch'⟩ hL
  | true=>
   obtain⟨g1,g2,_⟩:=imp_ok hc (s:= -1) (.inr rfl) (player:=1) h'
   simp only[PP,P1,P2,P3,P4,P5,P6,P7,P8,P9,P10,P11,P12,P13,P14,L1,P15,N1,N2,N3,N4,N5,N6,N7,I1,I2,I3,I4,I5,I6,I7,reduceIte,reduceCtorEq]
   refine hlast _ _ _ _ _ _ _ _ _ (by simp only[PW]) ?_
   exact ih v2 _ ⟨g1,fun v hv ho=>by rw[g2 v hv ho];exact hsame v hv ho⟩ (resp_step hc h' hch')
end
section
variable {tab:FuncId→Option AF} (T:HasA tab)
include T
theorem valuation_l {K:PV→Mem→Prop} {F:GF} {f5 o5:Bool} {ow pr st:List Int} {su:List (List Int)} (B:Bnd ow pr su) (h14:ow.length≤14) (hb:st.length<big)
  (hq1:comE ow pr su st≠0→∀N,K (.tuple [.nils,p64 (comE ow pr su st)]) N)
  (hq2:comE ow pr su st=0→∀(N:Mem) (u:Nat) (L:List (Vl×Nat×Nat)) (st1:List Int),N.length=7→RespOk ow pr su (comM ow su st) st1→L.map (·.1)=q19 ow pr su st1→K (.tuple [.ref 7 0 3 0 ow.length,p64 0]) (N++ .cells 0 u (lvC 11 L)::lvO L)):
  SemC tab 14 [.agg (gmF F ow pr su),slI f5 o5 .i64 st] [] K:=by
 refine q33 T.h14 ?_
 simp only[af14,PP,P1,P2,P3,P4,P5,P6,P7,P8,P9,P10,P11,P12,P13,P14,L1,P15,N1,N2,N3,N4,N5,N6,N7,I1,I2,I3,I4,I5,I6,I7,reduceIte,reduceCtorEq]
 refine complete_l T B hb (fun c N=>?_) (fun c x g v=>?_)
 ·simp only[PP,P1,P2,P3,P4,P5,P6,P7,P8,P9,P10,P11,P12,P13,P14,L1,P15,N1,N2,N3,N4,N5,N6,N7,I1,I2,I3,I4,I5,I6,I7,reduceIte,reduceCtorEq,c]
  exact hq1 c _
 ·obtain⟨hc,_,_⟩:=comE_ok c
  simp only[PP,P1,P2,P3,P4,P5,P6,P7,P8,P9,P10,P11,P12,P13,P14,L1,P15,N1,N2,N3,N4,N5,N6,N7,I1,I2,I3,I4,I5,I6,I7,reduceIte,reduceCtorEq,c]
  refine respond_l T hc B h14 rfl (comM_ok c) (fun N u L st1 hN R hL=>?_)
  simp only[PP,P1,P2,P3,P4,P5,P6,P7,P8,P9,P10,P11,P12,P13,P14,L1,P15,N1,N2,N3,N4,N5,N6,N7,I1,I2,I3,I4,I5,I6,I7,reduceIte,reduceCtorEq]
  exact hq2 c N u L st1 hN R hL
theorem overI_l {K:PV→Mem→Prop} {g ver n:Nat} {xs:List Int} (hn:xs.length=n) (hb:n<1000000000000) (hk:∀(v:Nat) (ys:List Int),ys.length=n→K (.tuple []) [.cells g v (ys.map p64)]):
  SemC tab 23 [.ref 0 g 1 0 n] [.cells g ver (xs.map p64)] K:=by
 refine q33 T.h23 ?_
 simp only[af23,PP,P1,P2,P3,P4,P5,P6,P7,P8,P9,P10,P11,P12,P13,P14,L1,P15,N1,N2,N3,N4,N5,N6,N7,I1,I2,I3,I4,I5,I6,I7,reduceIte,reduceCtorEq]
 refine loop3 (fun(k v:Nat) (ys:List Int)=>k≤n∧ys.length=n) (fun k v ys=>[.ref 0 g 1 0 n,Zj,p64 k,Zj,Zj,Zj,Zj,Zj,Zj,Zj,Zj,Zj])
  (fun k v ys=>[.cells g v (ys.map p64)]) (fun k _ _=>n-k) 0 ver xs ⟨Nat.zero_le _,hn⟩ (by simp only[PW]) rfl ?_
 intro k v ys ⟨hkn,hy⟩ ih
 refine q15 (by kernel_rfl) ?_
 simp only[PP,P1,P2,P3,P4,P5,P6,P7,P8,P9,P10,P11,P12,P13,P14,L1,P15,N1,N2,N3,N4,N5,N6,N7,I1,I2,I3,I4,I5,I6,I7,reduceIte,reduceCtorEq]
 refine QIf.intro (fun d=>?_) (fun d=>?_)
 ·have hk1:k<ys.length:=by omega
  have k0:(0:Int)≤k:=by omega
  have kn:(k:Int)<n:=by omega
  have hw:=q10 (k:=k) (by show _<1000000000000;omega)
  have hset:(ys.map p64).set k (p64 (-77))=(ys.set k (-77)).map p64:=by rw[List.map_set]
  simp only[PP,P1,P2,P3,P4,P5,P6,P7,P8,P9,P10,P11,P12,P13,P14,L1,P15,N1,N2,N3,N4,N5,N6,N7,I1,I2,I3,I4,I5,I6,I7,reduceIte,reduceCtorEq,d,k0,kn,hk1,hset,hw]
  exact⟨by omega,q8 (ih (k+1) (v+1) _ ⟨by omega,by rw[List.length_set];exact hy⟩ (by omega)) (by simp only[PW])⟩
 ·simp only[PP,P1,P2,P3,P4,P5,P6,P7,P8,P9,P10,P11,P12,P13,P14,L1,P15,N1,N2,N3,N4,N5,N6,N7,I1,I2,I3,I4,I5,I6,I7,reduceIte,reduceCtorEq,d]
  exact hk v ys hy
end
end Go.Am.Ar

