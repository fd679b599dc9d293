/- Contracts: the reference's Order, number, Renumber, and what goes with it. -/
import Derived.Test.YtbcdfmecpjbeaaaDoorSubsetConvertsG2
import Derived.Test.YtbcdfmecpjbeaaaDoorSubsetConvertsG0
import Derived.Test.YtbcdfmecpjbeaaaDoorPmC
import Derived.Test.YtbcdfmecpjbeaaaDoorPmL
set_option linter.unusedVariables false
set_option linter.unusedSimpArgs false
set_option maxRecDepth 10000
namespace Go.Am.Ar
open Go.Am.PV renaming junk→Zj
open Go.Am renaming pchk→P1,pold→P2,PKNo→P3,ppack→P4,PObj.under→P5,pput→P6,ptset→P7,ptget→P8,pev→P9,ofAV→P10,ofAV1→P11,ppad→P12,pfill→P13,prepl→P14,AO.effect→P15
open List renaming replicate→L1
open Nat renaming reduceAdd→N1,reduceSub→N2,reduceMul→N3,reduceLT→N4,reduceLeDiff→N5,reduceEqDiff→N6,reduceBEq→N7
open Int renaming reduceToNat→I1,reduceLT→I2,reduceLE→I3,reduceEq→I4,reduceAdd→I5,reduceSub→I6,reduceNeg→I7
theorem idxOf_at {b:Nat} :∀{o:List Nat},b∈o→o[o.idxOf b]? =some b
 | [],h=>by simp at h
 | a::o,h=>by
  by_cases e:b=a
  ·subst e;simp
  ·rw[idxOf_ne e]
   rw[List.getElem?_cons_succ]
   exact idxOf_at ((List.mem_cons.1 h).resolve_left e)
theorem idxOf_le {b:Nat} :∀{o:List Nat} {k:Nat},o[k]? =some b→o.idxOf b≤k
 | [],k,h=>by simp at h
 | a::o,k,h=>by
  by_cases e:b=a
  ·subst e;simp
  ·rw[idxOf_ne e]
   cases k with
   | zero=>simp at h;exact absurd h.symm e
   | succ k=>have:=idxOf_le (o:=o) (k:=k) (by simpa using h);omega
theorem natI_snoc (o:List Nat) (b:Nat):natI (o++[b])=natI o++[(b:Int)]:=by simp
theorem OkD.small {D:DF} (C:OkD D) (k:Nat):(bfsK (q9 D) (q8 D) D.st.toNat k).length≤D.nx.length:=
 nodup_lenN _ _ (bfsK_nodup _ _ _ k) (bfsK_all (Dm:=fun a=>a<D.nx.length) (by have:=C.s0;have:=C.s1;omega) (fun a x ha hx=>(C.delta ha hx).choose_spec.2.2.2) k)
theorem OkD.below {D:DF} (C:OkD D) (k:Nat):∀a∈bfsK (q9 D) (q8 D) D.st.toNat k,a<D.nx.length:=
 bfsK_all (Dm:=fun a=>a<D.nx.length) (by have:=C.s0;have:=C.s1;omega) (fun a x ha hx=>(C.delta ha hx).choose_spec.2.2.2) k
theorem OkD.row {D:DF} (C:OkD D) {a:Nat} (ha:a<D.nx.length):∃r,D.nx[a]? =some r∧r.length=q8 D∧∀x,x<q8 D→r[x]? =some ((q9 D a x:Nat):Int)∧q9 D a x<D.nx.length:=by
 obtain⟨r,g⟩:=some_of ha
 have h1:=(C.r r (List.mem_of_getElem? g)).1
 have h2:((q8 D:Nat):Int)=2^D.vs.toNat:=by simp
 refine⟨r,g,by omega,fun x hx=>?_⟩
 obtain⟨r',g1,g2,g3,g4⟩:=C.delta ha hx
 rw[g]at g1;cases g1
 exact⟨g2,g4⟩
section
variable {tab:FuncId→Option AF} (T:HasA tab)
include T
theorem number_p {M:Mem} {K:PV→Mem→Prop} {f o:Bool} {l:List Nat} {b:Nat} (hb:b∈l) (hl:l.length≤5000) (hk:K (p64 (l.idxOf b:Nat)) M):
  SemC tab 85 [slI f o .i64 (natI l),p64 b] M K:=by
 refine SemC_pure T.h85 (by simp only[PP,P1,P2,P3,P4,P5,P6,P7,P8,P9,P10,P11,P12,P13,P14,L1,P15,N1,N2,N3,N4,N5,N6,N7,I1,I2,I3,I4,I5,I6,I7,reduceIte,reduceCtorEq]) ?_
 simp only[af85,PP,P1,P2,P3,P4,P5,P6,P7,P8,P9,P10,P11,P12,P13,P14,L1,P15,N1,N2,N3,N4,N5,N6,N7,I1,I2,I3,I4,I5,I6,I7,reduceIte,reduceCtorEq]
 have hi:=idxOf_at hb
 have hil:=q26 hi
 refine loop1 (fun(k:Nat)=>k≤l.idxOf b) (fun k=>[slI f o .i64 (natI l),p64 b,Zj,Zj,Zj,p64 k,Zj,Zj,Zj,Zj,Zj,Zj,Zj,Zj,Zj]) (fun _=>[]) (fun k=>l.length-k) 0 (by omega) (by simp only[PW]) rfl ?_
 intro k hle ih
 refine SemW_go (by kernel_rfl) ?_
 have hk':k<l.length:=by omega
 obtain⟨a,ga⟩:=some_of hk'
 have k0:(0:Int)≤k:=by omega
 have k1:(k:Int)<l.length:=by omega
 have wk:=q32 (k:=k) (by show _<1000000000000;omega)
 simp only[PP,P1,P2,P3,P4,P5,P6,P7,P8,P9,P10,P11,P12,P13,P14,L1,P15,N1,N2,N3,N4,N5,N6,N7,I1,I2,I3,I4,I5,I6,I7,reduceIte,reduceCtorEq,k0,k1,ga]
 by_cases e:(a:Int)=b
 ·have eb:a=b:=by omega
  rw[eb]at ga
  have:=idxOf_le ga
  obtain rfl:k=l.idxOf b:=by omega
  simp only[PP,P1,P2,P3,P4,P5,P6,P7,P8,P9,P10,P11,P12,P13,P14,L1,P15,N1,N2,N3,N4,N5,N6,N7,I1,I2,I3,I4,I5,I6,I7,reduceIte,reduceCtorEq,e]
  exact hk
 ·have:k≠l.idxOf b:=by
   rintro rfl
   rw[hi]at ga;cases ga;exact e rfl
  simp only[PP,P1,P2,P3,P4,P5,P6,P7,P8,P9,P10,P11,P12,P13,P14,L1,P15,N1,N2,N3,N4,N5,N6,N7,I1,I2,I3,I4,I5,I6,I7,reduceIte,reduceCtorEq,e,wk]
  exact SemW_weak (ih (k+1) (by omega) (by omega)) (by simp only[PW])
set_option maxHeartbeats 1000000 in
theorem rorder_p {M:Mem} {K:PV→Mem→Prop} {f1 o1 f2 o2 f3 o3:Bool} {D:DF} (C:OkD D) (hn:D.nx.length≤99)
  (hk:∀o,FullN (q9 D) (q8 D) D.st.toNat o→K (slI false true .i64 (natI o)) M):
  SemC tab 84 [.agg (dfC f1 o1 f2 o2 f3 o3 D)] M K:=by
 obtain⟨sN,hsN⟩:∃sN:Nat,D.st=sN:=⟨D.st.toNat,by have:=C.s0;omega⟩
 have hst:D.st.toNat=sN:=by omega
 refine SemC_pureS T.h84 (by simp only[PP,P1,P2,P3,P4,P5,P6,P7,P8,P9,P10,P11,P12,P13,P14,L1,P15,N1,N2,N3,N4,N5,N6,N7,I1,I2,I3,I4,I5,I6,I7,reduceIte,reduceCtorEq]) ?_
 simp only[af84]
 refine q67 (q53 ?_)
 simp only[PP,P1,P2,P3,P4,P5,P6,P7,P8,P9,P10,P11,P12,P13,P14,L1,P15,N1,N2,N3,N4,N5,N6,N7,I1,I2,I3,I4,I5,I6,I7,reduceIte,reduceCtorEq]
 refine q67 (SemW_litAt 2 rfl ?_)
 simp only[PP,P1,P2,P3,P4,P5,P6,P7,P8,P9,P10,P11,P12,P13,P14,L1,P15,N1,N2,N3,N4,N5,N6,N7,I1,I2,I3,I4,I5,I6,I7,reduceIte,reduceCtorEq,Option.some.injEq,exists_eq_left']
 refine q53 ?_
 simp only[PP,P1,P2,P3,P4,P5,P6,P7,P8,P9,P10,P11,P12,P13,P14,L1,P15,N1,N2,N3,N4,N5,N6,N7,I1,I2,I3,I4,I5,I6,I7,reduceIte,reduceCtorEq]
 refine loop2 (fun(k g:Nat)=>k≤(bfsK (q9 D) (q8 D) D.st.toNat k).length) (fun k g=>[Zj,.ptr 0 0 0,Zj,.ref 1 g 1 0 (bfsK (q9 D) (q8 D) D.st.toNat k).length,p64 k,Zj,Zj,Zj,Zj,Zj,Zj,Zj,Zj,Zj,Zj,Zj,Zj,Zj,Zj,Zj,Zj,Zj,Zj,Zj,Zj,Zj,Zj,Zj,Zj,Zj,Zj,Zj,Zj,Zj,Zj,Zj,Zj,Zj,Zj,Zj,Zj,Zj,Zj,Zj,Zj])
  (fun k g=>[.cells 0 0 (dfC f1 o1 f2 o2 f3 o3 D),.cells g 0 ((natI (bfsK (q9 D) (q8 D) D.st.toNat k)).map p64)]) (fun k g=>100-k) 0 0 (by omega) (by simp only[bfsK,List.length_cons,List.length_nil,Nat.zero_add,PW]) (by simp[bfsK];omega) ?_
 intro k g hle ih
 have hsm:=C.small k
 refine SemW_go (by kernel_rfl) ?_
 simp only[PP,P1,P2,P3,P4,P5,P6,P7,P8,P9,P10,P11,P12,P13,P14,L1,P15,N1,N2,N3,N4,N5,N6,N7,I1,I2,I3,I4,I5,I6,I7,reduceIte,reduceCtorEq]
 refine QIf.intro (fun c=>?_) (fun c=>?_)
 rotate_left
 ·simp only[PP,P1,P2,P3,P4,P5,P6,P7,P8,P9,P10,P11,P12,P13,P14,L1,P15,N1,N2,N3,N4,N5,N6,N7,I1,I2,I3,I4,I5,I6,I7,reduceIte,reduceCtorEq,c]
  rw[psub_all _ _ (by simp)]
  have:=hk _ ⟨k,rfl,by omega⟩
  simp only[slI,List.length_map]at this
  exact this
 have hk':k<(bfsK (q9 D) (q8 D) D.st.toNat k).length:=by omega
 obtain⟨a,ga⟩:=some_of hk'
 have k0:(0:Int)≤k:=by omega
 have ha:=C.below k a (List.mem_of_getElem? ga)
 have a0:(0:Int)≤a:=by omega
 have a1:(a:Int)<D.nx.length:=by omega
 have wk:=q32 (k:=k) (by show _<1000000000000;omega)
 obtain⟨r,g1,g2,g3⟩:=C.row ha
 have h64:q8 D≤64:=by
  have h6:=C.v6;have h0:=C.v0
  show 2^D.vs.toNat≤2^6
  exact Nat.pow_le_pow_right (by decide) (by omega)
 simp only[PP,P1,P2,P3,P4,P5,P6,P7,P8,P9,P10,P11,P12,P13,P14,L1,P15,N1,N2,N3,N4,N5,N6,N7,I1,I2,I3,I4,I5,I6,I7,reduceIte,reduceCtorEq,c,ga,k0,a0,a1,g1]
 refine loop2 (fun(j g':Nat)=>j≤q8 D) (fun j g'=>[Zj,.ptr 0 0 0,Zj,.ref 1 g' 1 0 (visN (q9 D) a j (bfsK (q9 D) (q8 D) D.st.toNat k)).length,p64 k,slI f2 o2 .i64 r,p64 j,Zj,Zj,Zj,Zj,Zj,Zj,Zj,Zj,Zj,Zj,Zj,Zj,Zj,Zj,Zj,Zj,Zj,Zj,Zj,Zj,Zj,Zj,Zj,Zj,Zj,Zj,Zj,Zj,Zj,Zj,Zj,Zj,Zj,Zj,Zj,Zj,Zj,Zj])
  (fun j g'=>[.cells 0 0 (dfC f1 o1 f2 o2 f3 o3 D),.cells g' 0 ((natI (visN (q9 D) a j (bfsK (q9 D) (q8 D) D.st.toNat k))).map p64)]) (fun j g'=>q8 D-j) 0 g (by omega) (by simp only[visN,PW]) rfl ?_
 intro j g' jle ih2
 refine SemW_go (by kernel_rfl) ?_
 simp only[PP,P1,P2,P3,P4,P5,P6,P7,P8,P9,P10,P11,P12,P13,P14,L1,P15,N1,N2,N3,N4,N5,N6,N7,I1,I2,I3,I4,I5,I6,I7,reduceIte,reduceCtorEq]
 refine QIf.intro (fun d=>?_) (fun d=>?_)
 ·have hj':j<q8 D:=by omega
  have j0:(0:Int)≤j:=by omega
  have wj:=q32 (k:=j) (by show _<1000000000000;omega)
  obtain⟨g4,g5⟩:=g3 j hj'
  have hvl:(visN (q9 D) a j (bfsK (q9 D) (q8 D) D.st.toNat k)).length≤99:=by
   obtain⟨r',e⟩:=visN_pre2 (q9 D) a j (bfsK (q9 D) (q8 D) D.st.toNat k) (q8 D) (by omega)
   have:=C.small (k+1)
   rw[bfsK_succ ga,e]at this
   simp at this;omega
  simp only[PP,P1,P2,P3,P4,P5,P6,P7,P8,P9,P10,P11,P12,P13,P14,L1,P15,N1,N2,N3,N4,N5,N6,N7,I1,I2,I3,I4,I5,I6,I7,reduceIte,reduceCtorEq,d,j0,g4]
  refine SemC_bor (.ints rfl (List.length_map _) (.same rfl .nil)) (hasInt_p T (by simp;show _<1000000000000;omega) ⟨rfl,?_⟩)
  have hmem:((q9 D a j:Nat):Int)∈natI (visN (q9 D) a j (bfsK (q9 D) (q8 D) D.st.toNat k))↔q9 D a j∈visN (q9 D) a j (bfsK (q9 D) (q8 D) D.st.toNat k):=mem_natI
  by_cases hm:q9 D a j∈visN (q9 D) a j (bfsK (q9 D) (q8 D) D.st.toNat k)
  ·have e:visN (q9 D) a (j+1) (bfsK (q9 D) (q8 D) D.st.toNat k)=visN (q9 D) a j (bfsK (q9 D) (q8 D) D.st.toNat k):=by
    show addN _ _=_
    unfold addN;rw[if_pos hm]
   have hm2:=hmem.2 hm
   have:=ih2 (j+1) g' (by omega) (by omega)
   rw[e]at this
   simp only[PP,P1,P2,P3,P4,P5,P6,P7,P8,P9,P10,P11,P12,P13,P14,L1,P15,N1,N2,N3,N4,N5,N6,N7,I1,I2,I3,I4,I5,I6,I7,reduceIte,reduceCtorEq,hm2,d,j0,g4,wj]
   exact SemW_weak this (by simp only[PW])
  ·have e:visN (q9 D) a (j+1) (bfsK (q9 D) (q8 D) D.st.toNat k)=visN (q9 D) a j (bfsK (q9 D) (q8 D) D.st.toNat k)++[q9 D a j]:=by
    show addN _ _=_
    unfold addN;rw[if_neg hm]
   have hm2:¬((q9 D a j:Nat):Int)∈natI (visN (q9 D) a j (bfsK (q9 D) (q8 D) D.st.toNat k)):=fun q=>hm (hmem.1 q)
   have:=ih2 (j+1) (g'+1) (by omega) (by omega)
   rw[e]at this
   have b1:((visN (q9 D) a j (bfsK (q9 D) (q8 D) D.st.toNat k)).length+1)*8≤140737488355328:=by omega
   have b2:(visN (q9 D) a j (bfsK (q9 D) (q8 D) D.st.toNat k)).length+1≤9223372036854775807:=by omega
   simp only[PP,P1,P2,P3,P4,P5,P6,P7,P8,P9,P10,P11,P12,P13,P14,L1,P15,N1,N2,N3,N4,N5,N6,N7,I1,I2,I3,I4,I5,I6,I7,reduceIte,reduceCtorEq,hm2,d,j0,g4,wj,b1,b2]
   refine SemW_to this (by simp only[List.length_append,List.length_cons,List.length_nil,Nat.zero_add,PW]) ?_
   rw[psub_all _ _ (by simp),natI_snoc,List.map_append]
   simp only[PP,P1,P2,P3,P4,P5,P6,P7,P8,P9,P10,P11,P12,P13,P14,L1,P15,N1,N2,N3,N4,N5,N6,N7,I1,I2,I3,I4,I5,I6,I7,reduceIte,reduceCtorEq]
 ·have ej:j=q8 D:=by omega
  simp only[PP,P1,P2,P3,P4,P5,P6,P7,P8,P9,P10,P11,P12,P13,P14,L1,P15,N1,N2,N3,N4,N5,N6,N7,I1,I2,I3,I4,I5,I6,I7,reduceIte,reduceCtorEq,d,wk]
  rw[ej]
  have:=bfsK_succ ga
  rw[←this]
  exact SemW_weak (ih (k+1) g' (by rw[this];obtain⟨r,e⟩:=visN_pre (q9 D) a (q8 D) (bfsK (q9 D) (q8 D) D.st.toNat k);rw[e];simp;omega) (by omega)) (by simp only[PW])
set_option maxHeartbeats 1000000 in
theorem rrenumber_p {M:Mem} {K:PV→Mem→Prop} {f1 o1 f2 o2 f3 o3:Bool} {D:DF} (B:BnD D) (hn:D.nx.length≤99)
  (hk1:checkD D≠0→K (.tuple [.agg [p64 0,p64 0,.nils,.nils],p64 (checkD D)]) M)
  (hk2:OkD D→∀o,FullN (q9 D) (q8 D) D.st.toNat o→K (.tuple [.agg (dfC false true false true false true (renD D o)),p64 0]) M):
  SemC tab 40 [.agg (dfC f1 o1 f2 o2 f3 o3 D)] M K:=by
 refine SemC_pureS T.h40 (by simp only[PP,P1,P2,P3,P4,P5,P6,P7,P8,P9,P10,P11,P12,P13,P14,L1,P15,N1,N2,N3,N4,N5,N6,N7,I1,I2,I3,I4,I5,I6,I7,reduceIte,reduceCtorEq]) ?_
 simp only[af40]
 refine q67 (q53 ?_)
 simp only[PP,P1,P2,P3,P4,P5,P6,P7,P8,P9,P10,P11,P12,P13,P14,L1,P15,N1,N2,N3,N4,N5,N6,N7,I1,I2,I3,I4,I5,I6,I7,reduceIte,reduceCtorEq]
 refine q67 (q53 ?_)
 simp only[PP,P1,P2,P3,P4,P5,P6,P7,P8,P9,P10,P11,P12,P13,P14,L1,P15,N1,N2,N3,N4,N5,N6,N7,I1,I2,I3,I4,I5,I6,I7,reduceIte,reduceCtorEq]
 refine rdcheck_p T B ?_
 simp only[PP,P1,P2,P3,P4,P5,P6,P7,P8,P9,P10,P11,P12,P13,P14,L1,P15,N1,N2,N3,N4,N5,N6,N7,I1,I2,I3,I4,I5,I6,I7,reduceIte,reduceCtorEq]
 by_cases hc:checkD D=0
 rotate_left
 ·refine q53 ?_
  simp only[PP,P1,P2,P3,P4,P5,P6,P7,P8,P9,P10,P11,P12,P13,P14,L1,P15,N1,N2,N3,N4,N5,N6,N7,I1,I2,I3,I4,I5,I6,I7,reduceIte,reduceCtorEq,hc]
  exact hk1 hc
 have C:=okD_iff.1 hc
 refine q67 (q53 ?_)
 simp only[PP,P1,P2,P3,P4,P5,P6,P7,P8,P9,P10,P11,P12,P13,P14,L1,P15,N1,N2,N3,N4,N5,N6,N7,I1,I2,I3,I4,I5,I6,I7,reduceIte,reduceCtorEq,hc]
 refine q67 (q53 ?_)
 simp only[PP,P1,P2,P3,P4,P5,P6,P7,P8,P9,P10,P11,P12,P13,P14,L1,P15,N1,N2,N3,N4,N5,N6,N7,I1,I2,I3,I4,I5,I6,I7,reduceIte,reduceCtorEq]
 refine rorder_p T C hn fun o hF=>?_
 have hall:∀a∈o,a<D.nx.length:=by obtain⟨k,rfl,_⟩:=hF;exact C.below k
 have hol:o.length≤99:=by obtain⟨k,rfl,_⟩:=hF;have:=C.small k;omega
 simp only[PP,P1,P2,P3,P4,P5,P6,P7,P8,P9,P10,P11,P12,P13,P14,L1,P15,N1,N2,N3,N4,N5,N6,N7,I1,I2,I3,I4,I5,I6,I7,reduceIte,reduceCtorEq]
 refine q67 (q53 ?_)
 simp only[PP,P1,P2,P3,P4,P5,P6,P7,P8,P9,P10,P11,P12,P13,P14,L1,P15,N1,N2,N3,N4,N5,N6,N7,I1,I2,I3,I4,I5,I6,I7,reduceIte,reduceCtorEq]
 refine SemW_re (GStep.nilbox 2 2 1 (g:=0) (ver:=1) (cs:=[p64 D.vs,p64 0,.nils,.nils]) rfl rfl rfl) ?_
 simp only[PP,P1,P2,P3,P4,P5,P6,P7,P8,P9,P10,P11,P12,P13,P14,L1,P15,N1,N2,N3,N4,N5,N6,N7,I1,I2,I3,I4,I5,I6,I7,reduceIte,reduceCtorEq]
 refine SemW_re (GStep.nilbox 2 3 1 (g:=0) (ver:=1) (cs:=[p64 D.vs,p64 0,.ref 3 0 1 0 0,.nils]) rfl rfl rfl) ?_
 refine q53 ?_
 simp only[PP,P1,P2,P3,P4,P5,P6,P7,P8,P9,P10,P11,P12,P13,P14,L1,P15,N1,N2,N3,N4,N5,N6,N7,I1,I2,I3,I4,I5,I6,I7,reduceIte,reduceCtorEq]
 refine loop3 (fun(k g v:Nat)=>k≤o.length) (fun k g v=>[Zj,.ptr 0 0 0,.ptr 1 0 0,Zj,Zj,slI false true .i64 (natI o),.ptr 2 0 0,p64 k,Zj,Zj,Zj,Zj,Zj,Zj,Zj,Zj,Zj,Zj,Zj,Zj,Zj,Zj,Zj,Zj,Zj,Zj,Zj,Zj,Zj,Zj,Zj,Zj,Zj,Zj,Zj,Zj,Zj,Zj,Zj,Zj,Zj,Zj,Zj,Zj,Zj,Zj,Zj,Zj,Zj,Zj,Zj,Zj,Zj,Zj,Zj,Zj,Zj,Zj,Zj,Zj,Zj,Zj,Zj,Zj,Zj,Zj,Zj,Zj,Zj,Zj,Zj,Zj,Zj,Zj,Zj,Zj])
  (fun k g v=>[.cells 0 0 (dfC f1 o1 f2 o2 f3 o3 D),.cells 0 0 [p64 0,p64 0,.nils,.nils],.cells 0 v [p64 D.vs,p64 0,.ref 3 g 1 0 k,.ref 4 g 1 0 k],.cells g 0 (((o.take k).map (rowN (q9 D) (q8 D) o)).map (slI false true .i64)),.cells g 0 (((o.take k).map fun s:Nat=>fiD D s).map PV.bool)])
  (fun k g v=>o.length-k) 0 0 1 (by omega) (by simp only[PW]) rfl ?_
 intro k g v hle ih
 refine SemW_go (by kernel_rfl) ?_
 simp only[PP,P1,P2,P3,P4,P5,P6,P7,P8,P9,P10,P11,P12,P13,P14,L1,P15,N1,N2,N3,N4,N5,N6,N7,I1,I2,I3,I4,I5,I6,I7,reduceIte,reduceCtorEq]
 refine QIf.intro (fun c=>?_) (fun c=>?_)
 rotate_left
 ·obtain rfl:k=o.length:=by omega
  have hfz:frzO (some (PObj.cells g 0 (((o.take o.length).map fun s:Nat=>fiD D s).map PV.bool))) g 1 0 o.length=some (slB false true (o.map fun s:Nat=>fiD D s)):=by
   rw[List.take_length,frzO_cells (by simp) (underL_bools _ _),psub_all _ _ (by simp)]
   simp only[slB,List.length_map]
  have hfz2:frzO (some (PObj.cells g 0 (((o.take o.length).map (rowN (q9 D) (q8 D) o)).map (slI false true .i64)))) g 1 0 o.length=some (slR false true false true .i64 (rowsN (q9 D) (q8 D) o)):=by
   rw[List.take_length,frzO_cells (by simp) (underL_slRs _ _ _ _ _),psub_all _ _ (by simp)]
   simp only[slR,rowsN,List.length_map]
  simp only[PP,P1,P2,P3,P4,P5,P6,P7,P8,P9,P10,P11,P12,P13,P14,L1,P15,N1,N2,N3,N4,N5,N6,N7,I1,I2,I3,I4,I5,I6,I7,reduceIte,reduceCtorEq,c,hfz,hfz2]
  exact hk2 C o hF
 have hk':k<o.length:=by omega
 obtain⟨a,ga⟩:=some_of hk'
 have k0:(0:Int)≤k:=by omega
 have ha:=hall a (List.mem_of_getElem? ga)
 have a0:(0:Int)≤a:=by omega
 have a1:(a:Int)<D.nx.length:=by omega
 have wk:=q32 (k:=k) (by show _<1000000000000;omega)
 have h64:q8 D≤64:=by
  have h6:=C.v6;have h0:=C.v0
  show 2^D.vs.toNat≤2^6
  exact Nat.pow_le_pow_right (by decide) (by omega)
 obtain⟨r,g1,g2,g3⟩:=C.row ha
 obtain⟨f1',f2'⟩:=C.fin (s:=a) a0 (by omega)
 simp only[Int.toNat_natCast]at f1'
 simp only[PP,P1,P2,P3,P4,P5,P6,P7,P8,P9,P10,P11,P12,P13,P14,L1,P15,N1,N2,N3,N4,N5,N6,N7,I1,I2,I3,I4,I5,I6,I7,reduceIte,reduceCtorEq,c]
 refine SemW_re (GStep.nil 8 1 rfl rfl rfl) ?_
 simp only[PP,P1,P2,P3,P4,P5,P6,P7,P8,P9,P10,P11,P12,P13,P14,L1,P15,N1,N2,N3,N4,N5,N6,N7,I1,I2,I3,I4,I5,I6,I7,reduceIte,reduceCtorEq]
 refine SemW_gh ?_
 refine loop2 (fun(j g2:Nat)=>j≤q8 D) (fun j g2=>[Zj,.ptr 0 0 0,.ptr 1 0 0,Zj,Zj,slI false true .i64 (natI o),.ptr 2 0 0,p64 k,.ref 5 g2 1 0 j,p64 j,Zj,Zj,Zj,Zj,Zj,Zj,Zj,Zj,Zj,Zj,Zj,Zj,Zj,Zj,Zj,Zj,Zj,Zj,Zj,Zj,Zj,Zj,Zj,Zj,Zj,Zj,Zj,Zj,Zj,Zj,Zj,Zj,Zj,Zj,Zj,Zj,Zj,Zj,Zj,Zj,Zj,Zj,Zj,Zj,Zj,Zj,Zj,Zj,Zj,Zj,Zj,Zj,Zj,Zj,Zj,Zj,Zj,Zj,Zj,Zj,Zj,Zj,Zj,Zj,Zj,Zj])
  (fun j g2=>[.cells 0 0 (dfC f1 o1 f2 o2 f3 o3 D),.cells 0 0 [p64 0,p64 0,.nils,.nils],.cells 0 v [p64 D.vs,p64 0,.ref 3 g 1 0 k,.ref 4 g 1 0 k],.cells g 0 (((o.take k).map (rowN (q9 D) (q8 D) o)).map (slI false true .i64)),.cells g 0 (((o.take k).map fun s:Nat=>fiD D s).map PV.bool),.cells g2 0 ((rowN (q9 D) j o a).map p64)])
  (fun j g2=>q8 D-j) 0 0 (by omega) (by simp only[PW]) rfl ?_
 intro j g2 jle ih2
 have hrj:(rowN (q9 D) j o a).length=j:=by simp[rowN]
 refine SemW_go (by kernel_rfl) ?_
 simp only[PP,P1,P2,P3,P4,P5,P6,P7,P8,P9,P10,P11,P12,P13,P14,L1,P15,N1,N2,N3,N4,N5,N6,N7,I1,I2,I3,I4,I5,I6,I7,reduceIte,reduceCtorEq,c,k0,ga,a0,a1,g1]
 refine QIf.intro (fun d=>?_) (fun d=>?_)
 ·have hj':j<q8 D:=by omega
  have j0:(0:Int)≤j:=by omega
  have wj:=q32 (k:=j) (by show _<1000000000000;omega)
  obtain⟨g4,g5⟩:=g3 j hj'
  have hin:q9 D a j∈o:=hF.next (List.mem_of_getElem? ga) hj'
  have b1:(j+1)*8≤140737488355328:=by omega
  have b2:j+1≤9223372036854775807:=by omega
  simp only[PP,P1,P2,P3,P4,P5,P6,P7,P8,P9,P10,P11,P12,P13,P14,L1,P15,N1,N2,N3,N4,N5,N6,N7,I1,I2,I3,I4,I5,I6,I7,reduceIte,reduceCtorEq,d,j0,g4,c,k0,ga,a0,a1,g1]
  refine number_p T hin (by omega) ?_
  have b3:j≤(rowN (q9 D) j o a).length:=by omega
  simp only[PP,P1,P2,P3,P4,P5,P6,P7,P8,P9,P10,P11,P12,P13,P14,L1,P15,N1,N2,N3,N4,N5,N6,N7,I1,I2,I3,I4,I5,I6,I7,reduceIte,reduceCtorEq,b1,b2,wj,b3]
  refine SemW_to (ih2 (j+1) (g2+1) (by omega) (by omega)) (by simp only[PW]) ?_
  rw[psub_all _ _ (by simp[rowN])]
  have:rowN (q9 D) (j+1) o a=rowN (q9 D) j o a++[((o.idxOf (q9 D a j):Nat):Int)]:=by unfold rowN;rw[List.range_succ,List.map_append];rfl
  rw[this,List.map_append]
  rfl
 ·obtain ej:j=q8 D:=by omega
  simp only[PP,P1,P2,P3,P4,P5,P6,P7,P8,P9,P10,P11,P12,P13,P14,L1,P15,N1,N2,N3,N4,N5,N6,N7,I1,I2,I3,I4,I5,I6,I7,reduceIte,reduceCtorEq,d]
  rw[ej]at hrj ⊢
  have hrn2:q8 D=((rowN (q9 D) (q8 D) o a).map p64).length:=by simp[rowN]
  refine Gh.step (GStep.freeze (b:=[Zj,.ptr 0 0 0,.ptr 1 0 0,Zj,Zj,slI false true .i64 (natI o),.ptr 2 0 0,p64 k,.sl false true 1 (q8 D) ((rowN (q9 D) (q8 D) o a).map p64),Zj,Zj,Zj,Zj,Zj,Zj,Zj,Zj,Zj,Zj,Zj,Zj,Zj,Zj,Zj,Zj,Zj,Zj,Zj,Zj,Zj,Zj,Zj,Zj,Zj,Zj,Zj,Zj,Zj,Zj,Zj,Zj,Zj,Zj,Zj,Zj,Zj,Zj,Zj,Zj,Zj,Zj,Zj,Zj,Zj,Zj,Zj,Zj,Zj,Zj,Zj,Zj,Zj,Zj,Zj,Zj,Zj,Zj,Zj,Zj,Zj,Zj,Zj,Zj,Zj,Zj,Zj]) 5 (Nat.zero_le _) rfl (by simp only[PFrz_nil,PFrz_junk,PFrz_same,PFrz_ref,Nat.mul_one,Nat.zero_add,List.length_map,hrj,Nat.le_refl,psub_all _ _ hrn2]) rfl) (Gh.same ?_)
  have b1:(k+1)*24≤140737488355328:=by omega
  have b2:k+1≤9223372036854775807:=by omega
  have b3:k+1≤140737488355328:=by omega
  have b4:k≤(o.take k).length:=by simp;omega
  simp only[PP,P1,P2,P3,P4,P5,P6,P7,P8,P9,P10,P11,P12,P13,P14,L1,P15,N1,N2,N3,N4,N5,N6,N7,I1,I2,I3,I4,I5,I6,I7,reduceIte,reduceCtorEq,c,k0,ga,a0,a1,g1,b1,b2,b3,b4,f1',f2',wk]
  rw[psub_all _ _ (by simp;omega),psub_all _ _ (by simp;omega)]
  refine SemW_re (GStep.drop (b:=[Zj,.ptr 0 0 0,.ptr 1 0 0,Zj,Zj,slI false true .i64 (natI o),.ptr 2 0 0,p64 ((k+1:Nat):Int),Zj,Zj,Zj,Zj,Zj,Zj,Zj,Zj,Zj,Zj,Zj,Zj,Zj,Zj,Zj,Zj,Zj,Zj,Zj,Zj,Zj,Zj,Zj,Zj,Zj,Zj,Zj,Zj,Zj,Zj,Zj,Zj,Zj,Zj,Zj,Zj,Zj,Zj,Zj,Zj,Zj,Zj,Zj,Zj,Zj,Zj,Zj,Zj,Zj,Zj,Zj,Zj,Zj,Zj,Zj,Zj,Zj,Zj,Zj,Zj,Zj,Zj,Zj,Zj,Zj,Zj,Zj,Zj]) 5 (Nat.zero_le _) (by simp) (by simp only[PW]) (by simp only[PP,P1,P2,P3,P4,P5,P6,P7,P8,P9,P10,P11,P12,P13,P14,L1,P15,N1,N2,N3,N4,N5,N6,N7,I1,I2,I3,I4,I5,I6,I7,reduceIte,reduceCtorEq,PV.under]) (by
   have h1:∀x:List PV,q12 5 [.sl false true 1 (q8 D) ((rowN (q9 D) (q8 D) o a).map p64)]=true:=fun _=>by simp only[q12,PV.under,underL_ints,Bool.and_true]
   simp only[PP,P1,P2,P3,P4,P5,P6,P7,P8,P9,P10,P11,P12,P13,P14,L1,P15,N1,N2,N3,N4,N5,N6,N7,I1,I2,I3,I4,I5,I6,I7,reduceIte,reduceCtorEq,PV.under]) rfl) ?_
  refine SemW_to (ih (k+1) (g+1) (v+1+1) (by omega) (by omega)) (by simp only[PW]) ?_
  rw[take_some ga]
  simp only[PP,P1,P2,P3,P4,P5,P6,P7,P8,P9,P10,P11,P12,P13,P14,L1,P15,N1,N2,N3,N4,N5,N6,N7,I1,I2,I3,I4,I5,I6,I7,reduceIte,reduceCtorEq,slI,hrj]
end
def egD (D:DF) (s x:Nat):Eg:=⟨s,(q9 D s x:Nat),x,((q8 D-1-x:Nat):Int)⟩
def egsK (D:DF) (k:Nat):List Eg:=(List.range k).flatMap fun s=>(List.range (q8 D)).map (egD D s)
def finK (D:DF) (k:Nat):List Int:=((List.range k).filter fun s:Nat=>fiD D s).map fun s:Nat=>(s:Int)
def toN (D:DF):NF:=⟨D.vs,D.nx.length,[D.st],finK D D.nx.length,egsK D D.nx.length⟩
def BigD (D:DF):Prop:=64<D.nx.length∨512<D.nx.length*q8 D
theorem finK_succ (D:DF) (k:Nat):finK D (k+1)=if fiD D k=true then finK D k++[(k:Int)] else finK D k:=by
 unfold finK
 rw[List.range_succ,List.filter_append,List.map_append]
 by_cases h:fiD D (k:Int)=true
 ·rw[if_pos h];simp[List.filter_cons,h]
 ·rw[if_neg h];simp[List.filter_cons,h]
theorem finK_len (D:DF) (k:Nat):(finK D k).length≤k:=by
 unfold finK;rw[List.length_map]
 exact Nat.le_trans (List.length_filter_le _ _) (by simp)
theorem egsK_succ (D:DF) (k:Nat):egsK D (k+1)=egsK D k++(List.range (q8 D)).map (egD D k):=by
 unfold egsK;rw[List.range_succ,List.flatMap_append];simp
theorem egsK_len (D:DF):∀k,(egsK D k).length=k*q8 D
 | 0=>by simp[egsK]
 | k+1=>by rw[egsK_succ,List.length_append,egsK_len D k,List.length_map,List.length_range,Nat.succ_mul]
theorem egsJ_succ (D:DF) (k j:Nat):(List.range (j+1)).map (egD D k)=(List.range j).map (egD D k)++[egD D k j]:=by
 rw[List.range_succ,List.map_append];rfl
section
variable {tab:FuncId→Option AF} (T:HasA tab)
include T
set_option maxHeartbeats 1000000 in
theorem tonfa_p {M:Mem} {K:PV→Mem→Prop} {f1 o1 f2 o2 f3 o3:Bool} {D:DF} (B:BnD D) (hn:D.nx.length≤99)
  (hk1:checkD D≠0→K (.tuple [.agg [p64 0,p64 0,.nils,.nils,.nils],p64 (checkD D)]) M)
  (hk3:OkD D→BigD D→K (.tuple [.agg [p64 0,p64 0,.nils,.nils,.nils],p64 4]) M)
  (hk2:OkD D→¬BigD D→K (.tuple [.agg (nfC true true false true false true (toN D)),p64 0]) M):
  SemC tab 42 [.agg (dfC f1 o1 f2 o2 f3 o3 D)] M K:=by
 refine SemC_pureS T.h42 (by simp only[PP,P1,P2,P3,P4,P5,P6,P7,P8,P9,P10,P11,P12,P13,P14,L1,P15,N1,N2,N3,N4,N5,N6,N7,I1,I2,I3,I4,I5,I6,I7,reduceIte,reduceCtorEq]) ?_
 simp only[af42]
 refine q67 (q53 ?_)
 simp only[PP,P1,P2,P3,P4,P5,P6,P7,P8,P9,P10,P11,P12,P13,P14,L1,P15,N1,N2,N3,N4,N5,N6,N7,I1,I2,I3,I4,I5,I6,I7,reduceIte,reduceCtorEq]
 refine q67 (q53 ?_)
 simp only[PP,P1,P2,P3,P4,P5,P6,P7,P8,P9,P10,P11,P12,P13,P14,L1,P15,N1,N2,N3,N4,N5,N6,N7,I1,I2,I3,I4,I5,I6,I7,reduceIte,reduceCtorEq]
 refine dcheck_p T B ?_
 by_cases hc:checkD D=0
 rotate_left
 ·simp only[PP,P1,P2,P3,P4,P5,P6,P7,P8,P9,P10,P11,P12,P13,P14,L1,P15,N1,N2,N3,N4,N5,N6,N7,I1,I2,I3,I4,I5,I6,I7,reduceIte,reduceCtorEq,hc]
  exact hk1 hc
 have C:=okD_iff.1 hc
 have h64:q8 D≤64:=by
  have h6:=C.v6;have h0:=C.v0
  show 2^D.vs.toNat≤2^6
  exact Nat.pow_le_pow_right (by decide) (by omega)
 have hl0:0<q8 D:=Nat.pow_pos (by decide)
 have hshl:pbin .shl (.int .i64 1) (.int .i64 D.vs)=some (.int .i64 ((q8 D:Nat):Int)):=by
  rw[shl_one (by have:=C.v0;omega) (by have:=C.v6;omega)];simp
 simp only[PP,P1,P2,P3,P4,P5,P6,P7,P8,P9,P10,P11,P12,P13,P14,L1,P15,N1,N2,N3,N4,N5,N6,N7,I1,I2,I3,I4,I5,I6,I7,reduceIte,reduceCtorEq,hc]
 refine q67 (q53 ?_)
 simp only[PP,P1,P2,P3,P4,P5,P6,P7,P8,P9,P10,P11,P12,P13,P14,L1,P15,N1,N2,N3,N4,N5,N6,N7,I1,I2,I3,I4,I5,I6,I7,reduceIte,reduceCtorEq,hshl]
 have hmul:D.nx.length*q8 D≤99*64:=Nat.mul_le_mul hn h64
 have wm:IntKind.i64.wrap ((D.nx.length:Int)*(q8 D:Nat))=((D.nx.length*q8 D:Nat):Int):=by
  rw[show(D.nx.length:Int)*(q8 D:Nat)=((D.nx.length*q8 D:Nat):Int) by simp]
  exact wrap64 (by omega) (by omega)
 by_cases c64:(64:Int)<D.nx.length
 ·refine q53 ?_
  simp only[PP,P1,P2,P3,P4,P5,P6,P7,P8,P9,P10,P11,P12,P13,P14,L1,P15,N1,N2,N3,N4,N5,N6,N7,I1,I2,I3,I4,I5,I6,I7,reduceIte,reduceCtorEq,c64]
  exact hk3 C (.inl (by omega))
 by_cases c512:(512:Int)<((D.nx.length*q8 D:Nat):Int)
 ·refine q53 ?_
  simp only[PP,P1,P2,P3,P4,P5,P6,P7,P8,P9,P10,P11,P12,P13,P14,L1,P15,N1,N2,N3,N4,N5,N6,N7,I1,I2,I3,I4,I5,I6,I7,reduceIte,reduceCtorEq,c64,wm,c512]
  exact hk3 C (.inr (by omega))
 refine q67 (q53 ?_)
 simp only[PP,P1,P2,P3,P4,P5,P6,P7,P8,P9,P10,P11,P12,P13,P14,L1,P15,N1,N2,N3,N4,N5,N6,N7,I1,I2,I3,I4,I5,I6,I7,reduceIte,reduceCtorEq,c64,wm,c512]
 refine q67 (q53 ?_)
 simp only[PP,P1,P2,P3,P4,P5,P6,P7,P8,P9,P10,P11,P12,P13,P14,L1,P15,N1,N2,N3,N4,N5,N6,N7,I1,I2,I3,I4,I5,I6,I7,reduceIte,reduceCtorEq]
 have C2:=hk2 C (by rintro(h | h)<;>omega)
 refine SemW_re (GStep.nilbox 1 3 1 (g:=0) (ver:=1) (cs:=[p64 D.vs,p64 D.nx.length,slI true true .i64 [D.st],.nils,.nils]) rfl rfl rfl) ?_
 simp only[PP,P1,P2,P3,P4,P5,P6,P7,P8,P9,P10,P11,P12,P13,P14,L1,P15,N1,N2,N3,N4,N5,N6,N7,I1,I2,I3,I4,I5,I6,I7,reduceIte,reduceCtorEq]
 refine SemW_re (GStep.nilbox 1 4 4 (g:=0) (ver:=1) (cs:=[p64 D.vs,p64 D.nx.length,slI true true .i64 [D.st],.ref 2 0 1 0 0,.nils]) rfl rfl rfl) ?_
 refine q53 ?_
 simp only[PP,P1,P2,P3,P4,P5,P6,P7,P8,P9,P10,P11,P12,P13,P14,L1,P15,N1,N2,N3,N4,N5,N6,N7,I1,I2,I3,I4,I5,I6,I7,reduceIte,reduceCtorEq]
 refine loop4 (fun(k g g2 v:Nat)=>k≤D.nx.length) (fun k g g2 v=>[Zj,.ptr 0 0 0,.ptr 1 0 0,Zj,Zj,p64 (q8 D:Nat),Zj,Zj,Zj,Zj,Zj,Zj,Zj,Zj,Zj,Zj,Zj,Zj,Zj,Zj,Zj,Zj,Zj,Zj,Zj,Zj,Zj,Zj,Zj,Zj,Zj,Zj,Zj,Zj,Zj,Zj,Zj,Zj,Zj,Zj,Zj,Zj,slR f1 o1 f2 o2 .i64 D.nx,p64 D.nx.length,p64 k,Zj,Zj,Zj,Zj,Zj,Zj,Zj,Zj,Zj,Zj,Zj,Zj,Zj,Zj,Zj,Zj,Zj,Zj,Zj,Zj,Zj,Zj,Zj,Zj,Zj,Zj,Zj,Zj,Zj,Zj,Zj,Zj,Zj,Zj,Zj,Zj,Zj,Zj,Zj,Zj])
  (fun k g g2 v=>[.cells 0 0 (dfC f1 o1 f2 o2 f3 o3 D),.cells 0 v [p64 D.vs,p64 D.nx.length,slI true true .i64 [D.st],.ref 2 g 1 0 (finK D k).length,.ref 3 g2 4 0 (egsK D k).length],.cells g 0 ((finK D k).map p64),.cells g2 0 (egL (egsK D k))])
  (fun k g g2 v=>D.nx.length-k) 0 0 0 1 (by omega) (by simp only[PW]) rfl ?_
 intro k g g2 v hle ih
 refine SemW_go (by kernel_rfl) ?_
 simp only[PP,P1,P2,P3,P4,P5,P6,P7,P8,P9,P10,P11,P12,P13,P14,L1,P15,N1,N2,N3,N4,N5,N6,N7,I1,I2,I3,I4,I5,I6,I7,reduceIte,reduceCtorEq]
 refine QIf.intro (fun c=>?_) (fun c=>?_)
 rotate_left
 ·obtain rfl:k=D.nx.length:=by omega
  have hfz:frzO (some (PObj.cells g2 0 (egL (egsK D D.nx.length)))) g2 4 0 (egsK D D.nx.length).length=some (slE false true (egsK D D.nx.length)):=by
   rw[frzO_cells (by rw[egL_len];omega) (egL_und _ _),psub_all _ _ (by rw[egL_len])]
  simp only[PP,P1,P2,P3,P4,P5,P6,P7,P8,P9,P10,P11,P12,P13,P14,L1,P15,N1,N2,N3,N4,N5,N6,N7,I1,I2,I3,I4,I5,I6,I7,reduceIte,reduceCtorEq,c,hfz]
  exact C2
 have hk':k<D.nx.length:=by omega
 obtain⟨r,g1,g2',g3⟩:=C.row hk'
 have k0:(0:Int)≤k:=by omega
 have wk:=q32 (k:=k) (by show _<1000000000000;omega)
 obtain⟨f1',f2'⟩:=C.fin (s:=k) k0 (by omega)
 simp only[Int.toNat_natCast]at f1'
 have hfl:=finK_len D k
 have b1:((finK D k).length+1)*8≤140737488355328:=by omega
 have b2:(finK D k).length+1≤9223372036854775807:=by omega
 have hel:(egsK D k).length≤512:=by
  rw[egsK_len]
  exact Nat.le_trans (Nat.mul_le_mul_right _ hle) (by omega)
 simp only[PP,P1,P2,P3,P4,P5,P6,P7,P8,P9,P10,P11,P12,P13,P14,L1,P15,N1,N2,N3,N4,N5,N6,N7,I1,I2,I3,I4,I5,I6,I7,reduceIte,reduceCtorEq,c,k0,g1,f1',f2',ZCond_bool]
 apply QIf_both
 ·intro q gg
  simp only[PP,P1,P2,P3,P4,P5,P6,P7,P8,P9,P10,P11,P12,P13,P14,L1,P15,N1,N2,N3,N4,N5,N6,N7,I1,I2,I3,I4,I5,I6,I7,reduceIte,reduceCtorEq,q,b1,b2]
  refine SemW_to (b:=[Zj,.ptr 0 0 0,.ptr 1 0 0,Zj,Zj,p64 (q8 D:Nat),p64 k,Zj,Zj,Zj,Zj,Zj,Zj,Zj,Zj,Zj,Zj,Zj,Zj,Zj,Zj,Zj,Zj,Zj,Zj,Zj,Zj,Zj,Zj,Zj,Zj,Zj,Zj,Zj,Zj,Zj,Zj,Zj,Zj,Zj,Zj,Zj,slR f1 o1 f2 o2 .i64 D.nx,p64 D.nx.length,p64 k,Zj,Zj,Zj,Zj,Zj,Zj,Zj,Zj,Zj,Zj,Zj,Zj,Zj,Zj,Zj,slI f2 o2 .i64 r,p64 r.length,p64 0,Zj,Zj,Zj,Zj,Zj,Zj,Zj,Zj,Zj,Zj,Zj,Zj,Zj,Zj,Zj,Zj,Zj,Zj,Zj,Zj,Zj,Zj]) (N:=[.cells 0 0 (dfC f1 o1 f2 o2 f3 o3 D),.cells 0 (if fiD D k=true then v+1 else v) [p64 D.vs,p64 D.nx.length,slI true true .i64 [D.st],.ref 2 (if fiD D k=true then g+1 else g) 1 0 (finK D (k+1)).length,.ref 3 g2 4 0 (egsK D k).length],.cells (if fiD D k=true then g+1 else g) 0 ((finK D (k+1)).map p64),.cells g2 0 (egL (egsK D k))]) gg (by simp only[PW]) ?_
  rw[finK_succ,if_pos q,if_pos q,if_pos q]
  simp only[PP,P1,P2,P3,P4,P5,P6,P7,P8,P9,P10,P11,P12,P13,P14,L1,P15,N1,N2,N3,N4,N5,N6,N7,I1,I2,I3,I4,I5,I6,I7,reduceIte,reduceCtorEq]
 ·intro q gg
  simp only[PP,P1,P2,P3,P4,P5,P6,P7,P8,P9,P10,P11,P12,P13,P14,L1,P15,N1,N2,N3,N4,N5,N6,N7,I1,I2,I3,I4,I5,I6,I7,reduceIte,reduceCtorEq,q]
  refine SemW_to gg (by simp only[PW]) ?_
  rw[finK_succ,if_neg q,if_neg q,if_neg q]
 generalize (if fiD D k=true then v+1 else v)=v1
 generalize (if fiD D k=true then g+1 else g)=ga
 refine loop3 (fun(j g2 v1:Nat)=>j≤q8 D) (fun j g2 v1=>[Zj,.ptr 0 0 0,.ptr 1 0 0,Zj,Zj,p64 (q8 D:Nat),p64 k,Zj,Zj,Zj,Zj,Zj,Zj,Zj,Zj,Zj,Zj,Zj,Zj,Zj,Zj,Zj,Zj,Zj,Zj,Zj,Zj,Zj,Zj,Zj,Zj,Zj,Zj,Zj,Zj,Zj,Zj,Zj,Zj,Zj,Zj,Zj,slR f1 o1 f2 o2 .i64 D.nx,p64 D.nx.length,p64 k,Zj,Zj,Zj,Zj,Zj,Zj,Zj,Zj,Zj,Zj,Zj,Zj,Zj,Zj,Zj,slI f2 o2 .i64 r,p64 r.length,p64 j,Zj,Zj,Zj,Zj,Zj,Zj,Zj,Zj,Zj,Zj,Zj,Zj,Zj,Zj,Zj,Zj,Zj,Zj,Zj,Zj,Zj,Zj])
  (fun j g2 v1=>[.cells 0 0 (dfC f1 o1 f2 o2 f3 o3 D),.cells 0 v1 [p64 D.vs,p64 D.nx.length,slI true true .i64 [D.st],.ref 2 ga 1 0 (finK D (k+1)).length,.ref 3 g2 4 0 (egsK D k++(List.range j).map (egD D k)).length],.cells ga 0 ((finK D (k+1)).map p64),.cells g2 0 (egL (egsK D k++(List.range j).map (egD D k)))])
  (fun j g2 v1=>q8 D-j) 0 g2 v1 (by omega) (by simp only[PW]) (by simp) ?_
 intro j g2 v1 jle ih2
 refine SemW_go (by kernel_rfl) ?_
 simp only[PP,P1,P2,P3,P4,P5,P6,P7,P8,P9,P10,P11,P12,P13,P14,L1,P15,N1,N2,N3,N4,N5,N6,N7,I1,I2,I3,I4,I5,I6,I7,reduceIte,reduceCtorEq]
 refine QIf.intro (fun d=>?_) (fun d=>?_)
 ·have hj':j<q8 D:=by omega
  have j0:(0:Int)≤j:=by omega
  have wj:=q32 (k:=j) (by show _<1000000000000;omega)
  obtain⟨g4,g5⟩:=g3 j hj'
  have w1:IntKind.i64.wrap (((q8 D:Nat):Int)-1)=((q8 D-1:Nat):Int):=by rw[wrap64 (by omega) (by omega)];omega
  have w2:IntKind.i64.wrap (((q8 D-1:Nat):Int)-j)=((q8 D-1-j:Nat):Int):=by rw[wrap64 (by omega) (by omega)];omega
  have w3:IntKind.u8.wrap (j:Int)=j:=wrap8 (by omega)
  have w4:IntKind.u8.wrap ((q8 D-1-j:Nat):Int)=((q8 D-1-j:Nat):Int):=wrap8 (by omega)
  simp only[PP,P1,P2,P3,P4,P5,P6,P7,P8,P9,P10,P11,P12,P13,P14,L1,P15,N1,N2,N3,N4,N5,N6,N7,I1,I2,I3,I4,I5,I6,I7,reduceIte,reduceCtorEq,d,j0,g4,wj,w1,w2,w3,w4]
  refine⟨⟨by rw[egL_len];simp,by simp;omega,by simp;omega⟩,?_⟩
  refine SemW_to (ih2 (j+1) (g2+1) (v1+1) (by omega) (by omega)) (by simp only[PW]) ?_
  rw[psub_all _ _ (by rw[egL_len];simp),egsJ_succ,←List.append_assoc,←egL_app]
  simp[egD,Nat.add_assoc]
 ·have ej:j=q8 D:=by omega
  rw[ej,←egsK_succ]
  simp only[PP,P1,P2,P3,P4,P5,P6,P7,P8,P9,P10,P11,P12,P13,P14,L1,P15,N1,N2,N3,N4,N5,N6,N7,I1,I2,I3,I4,I5,I6,I7,reduceIte,reduceCtorEq,d,wk]
  refine SemW_to (ih (k+1) ga g2 v1 (by omega) (by omega)) (by simp only[PW]) ?_
  rw[egsK_succ];simp
set_option maxHeartbeats 1000000 in
theorem rtonfa_p {M:Mem} {K:PV→Mem→Prop} {f1 o1 f2 o2 f3 o3:Bool} {D:DF} (B:BnD D) (hn:D.nx.length≤99)
  (hk1:checkD D≠0→K (.tuple [.agg [p64 0,p64 0,.nils,.nils,.nils],p64 (checkD D)]) M)
  (hk3:OkD D→BigD D→K (.tuple [.agg [p64 0,p64 0,.nils,.nils,.nils],p64 4]) M)
  (hk2:OkD D→¬BigD D→K (.tuple [.agg (nfC true true false true false true (toN D)),p64 0]) M):
  SemC tab 41 [.agg (dfC f1 o1 f2 o2 f3 o3 D)] M K:=by
 refine SemC_pureS T.h41 (by simp only[PP,P1,P2,P3,P4,P5,P6,P7,P8,P9,P10,P11,P12,P13,P14,L1,P15,N1,N2,N3,N4,N5,N6,N7,I1,I2,I3,I4,I5,I6,I7,reduceIte,reduceCtorEq]) ?_
 simp only[af41]
 refine q67 (q53 ?_)
 simp only[PP,P1,P2,P3,P4,P5,P6,P7,P8,P9,P10,P11,P12,P13,P14,L1,P15,N1,N2,N3,N4,N5,N6,N7,I1,I2,I3,I4,I5,I6,I7,reduceIte,reduceCtorEq]
 refine q67 (q53 ?_)
 simp only[PP,P1,P2,P3,P4,P5,P6,P7,P8,P9,P10,P11,P12,P13,P14,L1,P15,N1,N2,N3,N4,N5,N6,N7,I1,I2,I3,I4,I5,I6,I7,reduceIte,reduceCtorEq]
 refine rdcheck_p T B ?_
 simp only[PP,P1,P2,P3,P4,P5,P6,P7,P8,P9,P10,P11,P12,P13,P14,L1,P15,N1,N2,N3,N4,N5,N6,N7,I1,I2,I3,I4,I5,I6,I7,reduceIte,reduceCtorEq]
 by_cases hc:checkD D=0
 rotate_left
 ·refine q53 ?_
  simp only[PP,P1,P2,P3,P4,P5,P6,P7,P8,P9,P10,P11,P12,P13,P14,L1,P15,N1,N2,N3,N4,N5,N6,N7,I1,I2,I3,I4,I5,I6,I7,reduceIte,reduceCtorEq,hc]
  exact hk1 hc
 have C:=okD_iff.1 hc
 have h64:q8 D≤64:=by
  have h6:=C.v6;have h0:=C.v0
  show 2^D.vs.toNat≤2^6
  exact Nat.pow_le_pow_right (by decide) (by omega)
 have hl0:0<q8 D:=Nat.pow_pos (by decide)
 have hshl:pbin .shl (.int .i64 1) (.int .i64 D.vs)=some (.int .i64 ((q8 D:Nat):Int)):=by
  rw[shl_one (by have:=C.v0;omega) (by have:=C.v6;omega)];simp
 refine q67 (q53 ?_)
 simp only[PP,P1,P2,P3,P4,P5,P6,P7,P8,P9,P10,P11,P12,P13,P14,L1,P15,N1,N2,N3,N4,N5,N6,N7,I1,I2,I3,I4,I5,I6,I7,reduceIte,reduceCtorEq,hc]
 refine q67 (q53 ?_)
 simp only[PP,P1,P2,P3,P4,P5,P6,P7,P8,P9,P10,P11,P12,P13,P14,L1,P15,N1,N2,N3,N4,N5,N6,N7,I1,I2,I3,I4,I5,I6,I7,reduceIte,reduceCtorEq]
 refine letters_p T (by have:=C.v0;omega) (by have:=C.v6;omega) ?_
 rw[show((2:Int)^D.vs.toNat)=((q8 D:Nat):Int) by simp]
 simp only[PP,P1,P2,P3,P4,P5,P6,P7,P8,P9,P10,P11,P12,P13,P14,L1,P15,N1,N2,N3,N4,N5,N6,N7,I1,I2,I3,I4,I5,I6,I7,reduceIte,reduceCtorEq]
 have hmul:D.nx.length*q8 D≤99*64:=Nat.mul_le_mul hn h64
 have wm:IntKind.i64.wrap ((D.nx.length:Int)*(q8 D:Nat))=((D.nx.length*q8 D:Nat):Int):=by
  rw[show(D.nx.length:Int)*(q8 D:Nat)=((D.nx.length*q8 D:Nat):Int) by simp]
  exact wrap64 (by omega) (by omega)
 by_cases c64:(64:Int)<D.nx.length
 ·refine q53 ?_
  simp only[PP,P1,P2,P3,P4,P5,P6,P7,P8,P9,P10,P11,P12,P13,P14,L1,P15,N1,N2,N3,N4,N5,N6,N7,I1,I2,I3,I4,I5,I6,I7,reduceIte,reduceCtorEq,c64]
  exact hk3 C (.inl (by omega))
 by_cases c512:(512:Int)<((D.nx.length*q8 D:Nat):Int)
 ·refine q53 ?_
  simp only[PP,P1,P2,P3,P4,P5,P6,P7,P8,P9,P10,P11,P12,P13,P14,L1,P15,N1,N2,N3,N4,N5,N6,N7,I1,I2,I3,I4,I5,I6,I7,reduceIte,reduceCtorEq,c64,wm,c512]
  exact hk3 C (.inr (by omega))
 refine q67 (q53 ?_)
 simp only[PP,P1,P2,P3,P4,P5,P6,P7,P8,P9,P10,P11,P12,P13,P14,L1,P15,N1,N2,N3,N4,N5,N6,N7,I1,I2,I3,I4,I5,I6,I7,reduceIte,reduceCtorEq,c64,wm,c512]
 refine q67 (q53 ?_)
 simp only[PP,P1,P2,P3,P4,P5,P6,P7,P8,P9,P10,P11,P12,P13,P14,L1,P15,N1,N2,N3,N4,N5,N6,N7,I1,I2,I3,I4,I5,I6,I7,reduceIte,reduceCtorEq]
 have C2:=hk2 C (by rintro(h | h)<;>omega)
 refine SemW_re (GStep.nilbox 2 3 1 (g:=0) (ver:=1) (cs:=[p64 D.vs,p64 D.nx.length,slI true true .i64 [D.st],.nils,.nils]) rfl rfl rfl) ?_
 simp only[PP,P1,P2,P3,P4,P5,P6,P7,P8,P9,P10,P11,P12,P13,P14,L1,P15,N1,N2,N3,N4,N5,N6,N7,I1,I2,I3,I4,I5,I6,I7,reduceIte,reduceCtorEq]
 refine SemW_re (GStep.nilbox 2 4 4 (g:=0) (ver:=1) (cs:=[p64 D.vs,p64 D.nx.length,slI true true .i64 [D.st],.ref 3 0 1 0 0,.nils]) rfl rfl rfl) ?_
 refine q53 ?_
 simp only[PP,P1,P2,P3,P4,P5,P6,P7,P8,P9,P10,P11,P12,P13,P14,L1,P15,N1,N2,N3,N4,N5,N6,N7,I1,I2,I3,I4,I5,I6,I7,reduceIte,reduceCtorEq]
 refine loop4 (fun(k g g2 v:Nat)=>k≤D.nx.length) (fun k g g2 v=>[Zj,.ptr 0 0 0,.ptr 1 0 0,Zj,Zj,p64 (q8 D:Nat),.ptr 2 0 0,p64 k,Zj,Zj,Zj,Zj,Zj,Zj,Zj,Zj,Zj,Zj,Zj,Zj,Zj,Zj,Zj,Zj,Zj,Zj,Zj,Zj,Zj,Zj,Zj,Zj,Zj,Zj,Zj,Zj,Zj,Zj,Zj,Zj,Zj,Zj,Zj,Zj,Zj,Zj,Zj,Zj,Zj,Zj,Zj,Zj,Zj,Zj,Zj,Zj,Zj,Zj,Zj,Zj,Zj,Zj,Zj,Zj,Zj,Zj,Zj,Zj,Zj,Zj,Zj,Zj,Zj,Zj,Zj,Zj,Zj,Zj,Zj,Zj,Zj,Zj,Zj,Zj,Zj,Zj])
  (fun k g g2 v=>[.cells 0 0 (dfC f1 o1 f2 o2 f3 o3 D),.cells 0 0 [p64 0,p64 0,.nils,.nils,.nils],.cells 0 v [p64 D.vs,p64 D.nx.length,slI true true .i64 [D.st],.ref 3 g 1 0 (finK D k).length,.ref 4 g2 4 0 (egsK D k).length],.cells g 0 ((finK D k).map p64),.cells g2 0 (egL (egsK D k))])
  (fun k g g2 v=>D.nx.length-k) 0 0 0 1 (by omega) (by simp only[PW]) rfl ?_
 intro k g g2 v hle ih
 refine SemW_go (by kernel_rfl) ?_
 simp only[PP,P1,P2,P3,P4,P5,P6,P7,P8,P9,P10,P11,P12,P13,P14,L1,P15,N1,N2,N3,N4,N5,N6,N7,I1,I2,I3,I4,I5,I6,I7,reduceIte,reduceCtorEq]
 refine QIf.intro (fun c=>?_) (fun c=>?_)
 rotate_left
 ·obtain rfl:k=D.nx.length:=by omega
  have hfz:frzO (some (PObj.cells g2 0 (egL (egsK D D.nx.length)))) g2 4 0 (egsK D D.nx.length).length=some (slE false true (egsK D D.nx.length)):=by
   rw[frzO_cells (by rw[egL_len];omega) (egL_und _ _),psub_all _ _ (by rw[egL_len])]
  simp only[PP,P1,P2,P3,P4,P5,P6,P7,P8,P9,P10,P11,P12,P13,P14,L1,P15,N1,N2,N3,N4,N5,N6,N7,I1,I2,I3,I4,I5,I6,I7,reduceIte,reduceCtorEq,c,hfz]
  exact C2
 have hk':k<D.nx.length:=by omega
 obtain⟨r,g1,g2',g3⟩:=C.row hk'
 have k0:(0:Int)≤k:=by omega
 have wk:=q32 (k:=k) (by show _<1000000000000;omega)
 obtain⟨f1',f2'⟩:=C.fin (s:=k) k0 (by omega)
 simp only[Int.toNat_natCast]at f1'
 have hfl:=finK_len D k
 have b1:((finK D k).length+1)*8≤140737488355328:=by omega
 have b2:(finK D k).length+1≤9223372036854775807:=by omega
 have hel:(egsK D k).length≤512:=by
  rw[egsK_len]
  exact Nat.le_trans (Nat.mul_le_mul_right _ hle) (by omega)
 simp only[PP,P1,P2,P3,P4,P5,P6,P7,P8,P9,P10,P11,P12,P13,P14,L1,P15,N1,N2,N3,N4,N5,N6,N7,I1,I2,I3,I4,I5,I6,I7,reduceIte,reduceCtorEq,c,k0,g1,f1',f2',ZCond_bool]
 apply QIf_both
 ·intro q gg
  simp only[PP,P1,P2,P3,P4,P5,P6,P7,P8,P9,P10,P11,P12,P13,P14,L1,P15,N1,N2,N3,N4,N5,N6,N7,I1,I2,I3,I4,I5,I6,I7,reduceIte,reduceCtorEq,q,b1,b2]
  refine SemW_to (b:=[Zj,.ptr 0 0 0,.ptr 1 0 0,Zj,Zj,p64 (q8 D:Nat),.ptr 2 0 0,p64 k,p64 0,Zj,Zj,Zj,Zj,Zj,Zj,Zj,Zj,Zj,Zj,Zj,Zj,Zj,Zj,Zj,Zj,Zj,Zj,Zj,Zj,Zj,Zj,Zj,Zj,Zj,Zj,Zj,Zj,Zj,Zj,Zj,Zj,Zj,Zj,Zj,Zj,Zj,Zj,Zj,Zj,Zj,Zj,Zj,Zj,Zj,Zj,Zj,Zj,Zj,Zj,Zj,Zj,Zj,Zj,Zj,Zj,Zj,Zj,Zj,Zj,Zj,Zj,Zj,Zj,Zj,Zj,Zj,Zj,Zj,Zj,Zj,Zj,Zj,Zj,Zj,Zj,Zj]) (N:=[.cells 0 0 (dfC f1 o1 f2 o2 f3 o3 D),.cells 0 0 [p64 0,p64 0,.nils,.nils,.nils],.cells 0 (if fiD D k=true then v+1 else v) [p64 D.vs,p64 D.nx.length,slI true true .i64 [D.st],.ref 3 (if fiD D k=true then g+1 else g) 1 0 (finK D (k+1)).length,.ref 4 g2 4 0 (egsK D k).length],.cells (if fiD D k=true then g+1 else g) 0 ((finK D (k+1)).map p64),.cells g2 0 (egL (egsK D k))]) gg (by simp only[PW]) ?_
  rw[finK_succ,if_pos q,if_pos q,if_pos q]
  simp only[PP,P1,P2,P3,P4,P5,P6,P7,P8,P9,P10,P11,P12,P13,P14,L1,P15,N1,N2,N3,N4,N5,N6,N7,I1,I2,I3,I4,I5,I6,I7,reduceIte,reduceCtorEq]
 ·intro q gg
  simp only[PP,P1,P2,P3,P4,P5,P6,P7,P8,P9,P10,P11,P12,P13,P14,L1,P15,N1,N2,N3,N4,N5,N6,N7,I1,I2,I3,I4,I5,I6,I7,reduceIte,reduceCtorEq,q]
  refine SemW_to gg (by simp only[PW]) ?_
  rw[finK_succ,if_neg q,if_neg q,if_neg q]
 generalize (if fiD D k=true then v+1 else v)=v1
 generalize (if fiD D k=true then g+1 else g)=ga
 refine loop3 (fun(j g2 v1:Nat)=>j≤q8 D) (fun j g2 v1=>[Zj,.ptr 0 0 0,.ptr 1 0 0,Zj,Zj,p64 (q8 D:Nat),.ptr 2 0 0,p64 k,p64 j,Zj,Zj,Zj,Zj,Zj,Zj,Zj,Zj,Zj,Zj,Zj,Zj,Zj,Zj,Zj,Zj,Zj,Zj,Zj,Zj,Zj,Zj,Zj,Zj,Zj,Zj,Zj,Zj,Zj,Zj,Zj,Zj,Zj,Zj,Zj,Zj,Zj,Zj,Zj,Zj,Zj,Zj,Zj,Zj,Zj,Zj,Zj,Zj,Zj,Zj,Zj,Zj,Zj,Zj,Zj,Zj,Zj,Zj,Zj,Zj,Zj,Zj,Zj,Zj,Zj,Zj,Zj,Zj,Zj,Zj,Zj,Zj,Zj,Zj,Zj,Zj,Zj])
  (fun j g2 v1=>[.cells 0 0 (dfC f1 o1 f2 o2 f3 o3 D),.cells 0 0 [p64 0,p64 0,.nils,.nils,.nils],.cells 0 v1 [p64 D.vs,p64 D.nx.length,slI true true .i64 [D.st],.ref 3 ga 1 0 (finK D (k+1)).length,.ref 4 g2 4 0 (egsK D k++(List.range j).map (egD D k)).length],.cells ga 0 ((finK D (k+1)).map p64),.cells g2 0 (egL (egsK D k++(List.range j).map (egD D k)))])
  (fun j g2 v1=>q8 D-j) 0 g2 v1 (by omega) (by simp only[PW]) (by simp) ?_
 intro j g2 v1 jle ih2
 refine SemW_go (by kernel_rfl) ?_
 simp only[PP,P1,P2,P3,P4,P5,P6,P7,P8,P9,P10,P11,P12,P13,P14,L1,P15,N1,N2,N3,N4,N5,N6,N7,I1,I2,I3,I4,I5,I6,I7,reduceIte,reduceCtorEq]
 refine QIf.intro (fun d=>?_) (fun d=>?_)
 ·have hj':j<q8 D:=by omega
  have j0:(0:Int)≤j:=by omega
  have wj:=q32 (k:=j) (by show _<1000000000000;omega)
  obtain⟨g4,g5⟩:=g3 j hj'
  have w1:IntKind.i64.wrap (((q8 D:Nat):Int)-1)=((q8 D-1:Nat):Int):=by rw[wrap64 (by omega) (by omega)];omega
  have w2:IntKind.i64.wrap (((q8 D-1:Nat):Int)-j)=((q8 D-1-j:Nat):Int):=by rw[wrap64 (by omega) (by omega)];omega
  have w3:IntKind.u8.wrap (j:Int)=j:=wrap8 (by omega)
  have w4:IntKind.u8.wrap ((q8 D-1-j:Nat):Int)=((q8 D-1-j:Nat):Int):=wrap8 (by omega)
  simp only[PP,P1,P2,P3,P4,P5,P6,P7,P8,P9,P10,P11,P12,P13,P14,L1,P15,N1,N2,N3,N4,N5,N6,N7,I1,I2,I3,I4,I5,I6,I7,reduceIte,reduceCtorEq,d,c,k0,g1,j0,g4,wj,w1,w2,w3,w4]
  refine⟨by omega,⟨by rw[egL_len];simp,by simp;omega,by simp;omega⟩,?_⟩
  refine SemW_to (ih2 (j+1) (g2+1) (v1+1) (by omega) (by omega)) (by simp only[PW]) ?_
  rw[psub_all _ _ (by rw[egL_len];simp),egsJ_succ,←List.append_assoc,←egL_app]
  simp[egD,Nat.add_assoc]
 ·have ej:j=q8 D:=by omega
  rw[ej,←egsK_succ]
  simp only[PP,P1,P2,P3,P4,P5,P6,P7,P8,P9,P10,P11,P12,P13,P14,L1,P15,N1,N2,N3,N4,N5,N6,N7,I1,I2,I3,I4,I5,I6,I7,reduceIte,reduceCtorEq,d,wk]
  refine SemW_to (ih (k+1) ga g2 v1 (by omega) (by omega)) (by simp only[PW]) ?_
  rw[egsK_succ];simp
end
section
variable {α β:Type} [DecidableEq α] [DecidableEq β]
omit [DecidableEq α] [DecidableEq β] in
theorem mem_map_inj {φ:α→β} {Dm:α→Prop} (hinj:∀a b,Dm a→Dm b→φ a=φ b→a=b) {o:List α} {b:α} (ho:∀c∈o,Dm c) (hb:Dm b):φ b∈o.map φ↔b∈o:=by
 constructor
 ·intro h
  obtain⟨c,h1,h2⟩:=List.mem_map.1 h
  rw[←hinj c b (ho c h1) hb h2];exact h1
 ·intro h;exact List.mem_map.2 ⟨b,h,rfl⟩
theorem addN_map {φ:α→β} {Dm:α→Prop} (hinj:∀a b,Dm a→Dm b→φ a=φ b→a=b) {o:List α} {b:α} (ho:∀c∈o,Dm c) (hb:Dm b):addN (o.map φ) (φ b)=(addN o b).map φ:=by
 unfold addN
 by_cases h:b∈o
 ·rw[if_pos h,if_pos ((mem_map_inj hinj ho hb).2 h)]
 ·rw[if_neg h,if_neg (fun q=>h ((mem_map_inj hinj ho hb).1 q)),List.map_append];rfl
theorem visN_map {δ:α→Nat→α} {δ':β→Nat→β} {φ:α→β} {Dm:α→Prop} {n:Nat} {a:α} (hinj:∀a b,Dm a→Dm b→φ a=φ b→a=b) (hs:∀x,x<n→Dm (δ a x)) (hφ:∀x,x<n→φ (δ a x)=δ' (φ a) x) {o:List α} (ho:∀c∈o,Dm c):∀j,j≤n→visN δ' (φ a) j (o.map φ)=(visN δ a j o).map φ
 | 0,_=>rfl
 | j+1,h=>by
  unfold visN
  rw[visN_map hinj hs hφ ho j (by omega),←hφ j (by omega)]
  exact addN_map hinj (visN_all hs ho (by omega)) (hs j (by omega))
theorem bfsK_map {δ:α→Nat→α} {δ':β→Nat→β} {φ:α→β} {Dm:α→Prop} {n:Nat} {a0:α} (hinj:∀a b,Dm a→Dm b→φ a=φ b→a=b) (h0:Dm a0) (hs:∀a x,Dm a→x<n→Dm (δ a x)) (hφ:∀a x,Dm a→x<n→φ (δ a x)=δ' (φ a) x):∀k,bfsK δ' n (φ a0) k=(bfsK δ n a0 k).map φ
 | 0=>rfl
 | k+1=>by
  have ih:=bfsK_map hinj h0 hs hφ k
  have ho:=bfsK_all h0 hs k
  rcases Nat.lt_or_ge k (bfsK δ n a0 k).length with hk | hk
  ·have g:=List.getElem?_eq_getElem hk
   have g':(bfsK δ' n (φ a0) k)[k]? =some (φ (bfsK δ n a0 k)[k]):=by rw[ih,List.getElem?_map,g];rfl
   have hd:=ho _ (List.getElem_mem hk)
   rw[bfsK_succ g,bfsK_succ g',ih]
   exact visN_map hinj (fun x hx=>hs _ x hd hx) (fun x hx=>hφ _ x hd hx) ho n (Nat.le_refl n)
  ·rw[bfsK_stay hk,bfsK_stay (by rw[ih,List.length_map];exact hk),ih]
theorem FullN.map {δ:α→Nat→α} {δ':β→Nat→β} {φ:α→β} {Dm:α→Prop} {n:Nat} {a0:α} {o:List α} (h:FullN δ n a0 o) (hinj:∀a b,Dm a→Dm b→φ a=φ b→a=b) (h0:Dm a0) (hs:∀a x,Dm a→x<n→Dm (δ a x)) (hφ:∀a x,Dm a→x<n→φ (δ a x)=δ' (φ a) x):FullN δ' n (φ a0) (o.map φ):=by
 obtain⟨k,rfl,h2⟩:=h
 exact⟨k,bfsK_map hinj h0 hs hφ k,by rw[List.length_map];exact h2⟩
theorem OverN.map {δ:α→Nat→α} {δ':β→Nat→β} {φ:α→β} {Dm:α→Prop} {n:Nat} {a0:α} {bd:Int} (h:OverN δ n a0 bd) (hinj:∀a b,Dm a→Dm b→φ a=φ b→a=b) (h0:Dm a0) (hs:∀a x,Dm a→x<n→Dm (δ a x)) (hφ:∀a x,Dm a→x<n→φ (δ a x)=δ' (φ a) x):OverN δ' n (φ a0) bd:=by
 obtain⟨k,h⟩:=h
 exact⟨k,by rw[bfsK_map hinj h0 hs hφ k,List.length_map];exact h⟩
end
theorem ren_len (D:DF) (o:List Nat):(renD D o).nx.length=o.length:=by simp[renD,rowsN]
structure OrdD (D:DF) (o:List Nat):Prop where
 C:OkD D
 F:FullN (q9 D) (q8 D) D.st.toNat o
 lt:∀a∈o,a<D.nx.length
 len:o.length≤D.nx.length
 pos:0<o.length
theorem OrdD.of {D:DF} {o:List Nat} (C:OkD D) (F:FullN (q9 D) (q8 D) D.st.toNat o):OrdD D o:=by
 refine⟨C,F,?_,?_,?_⟩
 ·obtain⟨k,rfl,_⟩:=F;exact C.below k
 ·obtain⟨k,rfl,_⟩:=F;exact C.small k
 ·have:=F.zero;exact Nat.lt_of_le_of_lt (Nat.zero_le _) (q26 this)
theorem OrdD.next {D:DF} {o:List Nat} (h:OrdD D o) {a x:Nat} (ha:a∈o) (hx:x<q8 D):q9 D a x∈o:=h.F.next ha hx
theorem OrdD.rdelta {D:DF} {o:List Nat} (h:OrdD D o) {a x:Nat} (ha:a∈o) (hx:x<q8 D):q9 (renD D o) (o.idxOf a) x=o.idxOf (q9 D a x):=by
 have g:=idxOf_at ha
 unfold q9 stepD
 have e:(renD D o).nx[o.idxOf a]? =some (rowN (q9 D) (q8 D) o a):=by
  show(rowsN (q9 D) (q8 D) o)[_]? =_
  unfold rowsN;rw[List.getElem?_map,g];rfl
 simp only[Int.toNat_natCast]
 rw[e]
 unfold rowN
 simp only[Option.getD_some]
 rw[List.getElem?_map,List.getElem?_range hx]
 simp only[Option.map_some,Option.getD_some,Int.toNat_natCast]
 rfl
theorem OrdD.ren {D:DF} {o:List Nat} (h:OrdD D o):OkD (renD D o):=by
 refine⟨h.C.v0,h.C.v6,by rw[ren_len];exact h.pos,by rw[ren_len];have:=h.C.n1;have:=h.len;omega,by rw[ren_len];simp[renD],Int.le_refl 0,by rw[ren_len];show(0:Int)<_;have:=h.pos;omega,fun r hr=>?_⟩
 have hr:r∈rowsN (q9 D) (q8 D) o:=hr
 unfold rowsN at hr
 obtain⟨a,ha,rfl⟩:=List.mem_map.1 hr
 refine⟨by simp[rowN,renD],fun t ht=>?_⟩
 unfold rowN at ht
 obtain⟨x,hx,rfl⟩:=List.mem_map.1 ht
 have:=q26 (idxOf_at (h.next ha (List.mem_range.1 hx)))
 rw[ren_len];omega
theorem OrdD.bn {D:DF} {o:List Nat} (h:OrdD D o):BnD (renD D o):=by
 have hR:=h.ren
 have h1:=hR.n1;have h2:=hR.f
 refine⟨by show _<1000000000000;omega,fun r hr=>?_,by show _<1000000000000;omega⟩
 have h3:=(hR.r r hr).1
 have h6:=hR.v6;have h0:=hR.v0
 have:((2^(renD D o).vs.toNat:Nat):Int)=2^(renD D o).vs.toNat:=by simp
 have h4:2^(renD D o).vs.toNat≤2^6:=Nat.pow_le_pow_right (by decide) (by omega)
 show _<1000000000000
 omega
theorem nat_of {D:DF} {x:Int} (h0:0≤x) (h1:x<2^D.vs.toNat):∃y:Nat,x=y∧y<q8 D:=by
 refine⟨x.toNat,by omega,?_⟩
 have:((2^D.vs.toNat:Nat):Int)=2^D.vs.toNat:=by simp
 show x.toNat<2^D.vs.toNat
 omega
theorem OkD.step_nat {D:DF} (C:OkD D) {a x:Nat} (ha:a<D.nx.length) (hx:x<q8 D):stepD D.nx a x=q9 D a x:=by
 obtain⟨r,g1,g2,_⟩:=C.delta ha hx
 unfold stepD
 simp only[Int.toNat_natCast]
 rw[g1];simp[g2]
theorem OrdD.runs {D:DF} {o:List Nat} (h:OrdD D o):∀(w:List Int),(∀x∈w,0≤x∧x<2^D.vs.toNat)→∀a,a∈o→∃b,b∈o∧w.foldl (stepD D.nx) (a:Int)=b∧w.foldl (stepD (renD D o).nx) ((o.idxOf a:Nat):Int)=(o.idxOf b:Nat)
 | [],_,a,ha=>⟨a,ha,rfl,rfl⟩
 | x::w,hw,a,ha=>by
  obtain⟨y,rfl,hy⟩:=nat_of (hw x (by simp)).1 (hw x (by simp)).2
  obtain⟨b,h1,h2,h3⟩:=OrdD.runs h w (fun z hz=>hw z (by simp[hz])) _ (h.next ha hy)
  refine⟨b,h1,?_,?_⟩
  ·rw[List.foldl_cons,h.C.step_nat (h.lt a ha) hy];exact h2
  ·have hi:=q26 (idxOf_at ha)
   rw[List.foldl_cons,h.ren.step_nat (by rw[ren_len];exact hi) hy,h.rdelta ha hy];exact h3
theorem OrdD.fin {D:DF} {o:List Nat} (h:OrdD D o) {a:Nat} (ha:a∈o):fiD (renD D o) ((o.idxOf a:Nat):Int)=fiD D a:=by
 unfold fiD
 have g:=idxOf_at ha
 simp only[Int.toNat_natCast]
 have e:(renD D o).fi[o.idxOf a]? =some (fiD D a):=by
  show(o.map fun s:Nat=>fiD D s)[_]? =_
  rw[List.getElem?_map,g];rfl
 rw[e];unfold fiD;simp
theorem OrdD.st_mem {D:DF} {o:List Nat} (h:OrdD D o):D.st.toNat∈o∧o.idxOf D.st.toNat=0:=by
 have:=h.F.zero
 exact⟨List.mem_of_getElem? this,by have:=idxOf_le this;omega⟩
theorem OrdD.err {D:DF} {o:List Nat} (h:OrdD D o) (w:List Int):errD (renD D o) w=errD D w:=by
 unfold errD
 rw[if_pos (okD_iff.2 h.ren),if_pos (okD_iff.2 h.C)];rfl
theorem OrdD.acc {D:DF} {o:List Nat} (h:OrdD D o) {w:List Int} (hw:∀x∈w,0≤x∧x≤255):accD (renD D o) w=accD D w:=by
 unfold accD
 rw[h.err]
 by_cases c:errD D w=0
 ·obtain⟨_,e0⟩:=errD_zero c
  have hb:∀x∈w,0≤x∧x<2^D.vs.toNat:=fun x hx=>⟨(hw x hx).1,(wordE_zero e0).2 x hx⟩
  obtain⟨m1,m2⟩:=h.st_mem
  obtain⟨b,h1,h2,h3⟩:=h.runs w hb _ m1
  have s1:runD D w=b:=by
   unfold runD
   rw[show D.st=((D.st.toNat:Nat):Int) by have:=h.C.s0;omega];exact h2
  have s2:runD (renD D o) w=(o.idxOf b:Nat):=by
   unfold runD
   rw[m2]at h3;exact h3
  rw[s1,s2,h.fin h1]
 ·rw[decide_eq_false c];rfl
theorem run_of_C {tab:FuncId→Option AF} {g:FuncId} {args:List AV} {h:H} (hc:C (lim tab) g args h fun v _=>v= .bool true):∃n h',(run tab n).call g args h=some (.bool true,h'):=by
 unfold C at hc
 obtain⟨v,h',he,rfl⟩:=hc
 obtain⟨n,hn⟩:=(lim_call_iff tab).1 he
 exact⟨n,h',hn⟩
theorem shVs1 {A:Ty} {args:List AV} {h:H} (hs:ShVs [A] args h):∃a,args=[a]∧ShV A a h:=by
 match args,hs with
 | [a],⟨h1,_⟩=>exact⟨a,rfl,h1⟩
section
variable {tab:FuncId→Option AF} (T:HasA tab)
include T
end
abbrev nfF (N:NF):List PV:=nfC false false false false false false N
section
variable {tab:FuncId→Option AF} (T:HasA tab)
include T
end
section
variable {tab:FuncId→Option AF} (T:HasA tab)
include T
end
section
variable {tab:FuncId→Option AF} (T:HasA tab)
include T
end
section
variable {N:NF} {rs0 rs:List (List Bool)} {ch:Bool} {done done':Nat→Nat→Prop} {p q:Nat}
end
section
variable {tab:FuncId→Option AF} (T:HasA tab)
include T
end
section
variable {tab:FuncId→Option AF} (T:HasA tab)
include T
end
end Go.Am.Ar

