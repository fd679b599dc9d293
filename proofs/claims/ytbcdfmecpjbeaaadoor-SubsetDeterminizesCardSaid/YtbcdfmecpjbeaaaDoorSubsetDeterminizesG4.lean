/- Contract: the reference's After, and what goes with it. -/
import Derived.Test.YtbcdfmecpjbeaaaDoorSubsetDeterminizesG3
import Derived.Test.YtbcdfmecpjbeaaaDoorPmC
import Derived.Test.YtbcdfmecpjbeaaaDoorSubsetDeterminizesG0
import Derived.Test.YtbcdfmecpjbeaaaDoorSubsetDeterminizesG2
import Derived.Test.YtbcdfmecpjbeaaaDoorPmL
set_option linter.unusedVariables false
set_option linter.unusedSimpArgs false
set_option maxRecDepth 10000
namespace Go.Am.Ar
open Go.Am.PV renaming junk→Zj
open Go.Am renaming pchk→P1,pold→P2,PKNo→P3,ppack→P4,PObj.under→P5,pput→P6,ptset→P7,ptget→P8,pev→P9,ofAV→P10,q65→P11,ppad→P12,pfill→P13,prepl→P14,AO.effect→P15
open List renaming replicate→L1
open Nat renaming reduceAdd→N1,reduceSub→N2,reduceMul→N3,reduceLT→N4,reduceLeDiff→N5,reduceEqDiff→N6,reduceBEq→N7
open Int renaming reduceToNat→I1,reduceLT→I2,reduceLE→I3,reduceEq→I4,reduceAdd→I5,reduceSub→I6,reduceNeg→I7
def aftL (N:NF) (a:BitVec 64) (x q:Nat):List Nat:=(List.range q).filter fun k=>(q8 N a x).getLsbD k
def edC (a:BitVec 64) (x q:Nat) (e:Eg):Bool:=decide (e.to=(q:Int))&&a.getLsbD e.fr.toNat&&hasB e.ps e.ng x
theorem aftL_succ (N:NF) (a:BitVec 64) (x q:Nat):aftL N a x (q+1)=if(q8 N a x).getLsbD q=true then aftL N a x q++[q] else aftL N a x q:=by
 unfold aftL
 rw[List.range_succ,List.filter_append,List.filter_cons,List.filter_nil]
 by_cases h:(q8 N a x).getLsbD q=true
 ·rw[if_pos h,if_pos h]
 ·rw[if_neg h,if_neg h,List.append_nil]
theorem aftL_any {N:NF} (C:NOk N) (a:BitVec 64) (x q:Nat):N.es.any (edC a x q)=(q8 N a x).getLsbD q:=by
 rw[Bool.eq_iff_iff,deltaB_bit C,List.any_eq_true]
 unfold edC matE
 simp only[Bool.and_eq_true,decide_eq_true_eq,List.mem_filter]
 constructor
 ·rintro⟨e,h1,⟨h2,h3⟩,h4⟩;exact⟨e,⟨h1,h4⟩,h3,h2⟩
 ·rintro⟨e,⟨h1,h4⟩,h3,h2⟩;exact⟨e,h1,⟨h2,h3⟩,h4⟩
theorem aftL_len (N:NF) (a:BitVec 64) (x q:Nat):(aftL N a x q).length≤q:=by
 unfold aftL;exact Nat.le_trans (List.length_filter_le _ _) (by simp)
theorem aftL_lt {N:NF} {a:BitVec 64} {x q k:Nat} (h:k∈aftL N a x q):k<q:=by
 unfold aftL at h;exact List.mem_range.1 (List.mem_filter.1 h).1
theorem aftL_all {N:NF} (C:NOk N) (a:BitVec 64) (x:Nat):aftL N a x N.n.toNat=q45 (q8 N a x):=by
 unfold aftL q45
 have h64:=C.n64
 have e:List.range 64=List.range N.n.toNat++(List.range (64-N.n.toNat)).map (fun j=>N.n.toNat+j):=by
  refine List.ext_getElem? fun i=>?_
  by_cases c:i<64
  ·rw[List.getElem?_range c]
   by_cases c1:i<N.n.toNat
   ·rw[List.getElem?_append_left (by simp;omega),List.getElem?_range c1]
   ·rw[List.getElem?_append_right (by simp;omega),List.getElem?_map,List.length_range,List.getElem?_range (by omega)]
    simp only[Option.map_some,Option.some.injEq];omega
  ·rw[List.getElem?_eq_none (by simp;omega),List.getElem?_eq_none (by simp;omega)]
 rw[e,List.filter_append]
 have z:((List.range (64-N.n.toNat)).map fun j=>N.n.toNat+j).filter (fun k=>(q8 N a x).getLsbD k)=[]:=by
  rw[List.filter_eq_nil_iff]
  intro k hk h
  obtain⟨j,_,rfl⟩:=List.mem_map.1 hk
  obtain⟨e,h1,_,h3⟩:=(deltaB_bit C a x _).1 h
  have:=C.ed e (matE_sub h1)
  omega
 rw[z,List.append_nil]
theorem mem_bits {a:BitVec 64} {x:Int} (h:0≤x):decide (x∈natI (q45 a))=a.getLsbD x.toNat:=by
 rw[Bool.eq_iff_iff,decide_eq_true_eq,←mem_bitsW]
 have e:x=((x.toNat:Nat):Int):=by omega
 rw[e,mem_natI,Int.toNat_natCast]
section
variable {tab:FuncId→Option AF} (T:HasA tab)
include T
set_option maxHeartbeats 2000000 in
theorem rafter_p {M:Mem} {K:PV→Mem→Prop} {f1 o1 f2 o2 f3 o3 f4 o4:Bool} {N:NF} {a:BitVec 64} {x:Nat} (C:NOk N) (B:BnN N) (hx:x<256) (hk:K (slI false true .i64 (natI (q45 (q8 N a x)))) M):
  SemC tab 61 [.agg (nfC f1 o1 f2 o2 f3 o3 N),slI f4 o4 .i64 (natI (q45 a)),p8 x] M K:=by
 have h64:=C.n64
 have n0:=C.n0
 have e512:=C.e512
 have hbl:(q45 a).length≤64:=by unfold q45;exact Nat.le_trans (List.length_filter_le _ _) (by simp)
 refine SemC_pureS T.h61 (by simp only[PP,P1,P2,P3,P4,P5,P6,P7,P8,P9,P10,P11,P12,P13,P14,L1,P15,N1,N2,N3,N4,N5,N6,N7,I1,I2,I3,I4,I5,I6,I7,reduceIte,reduceCtorEq,q67]) ?_
 simp only[af61]
 refine q46 (q20 ?_)
 simp only[PP,P1,P2,P3,P4,P5,P6,P7,P8,P9,P10,P11,P12,P13,P14,L1,P15,N1,N2,N3,N4,N5,N6,N7,I1,I2,I3,I4,I5,I6,I7,reduceIte,reduceCtorEq]
 refine q46 (q20 ?_)
 simp only[PP,P1,P2,P3,P4,P5,P6,P7,P8,P9,P10,P11,P12,P13,P14,L1,P15,N1,N2,N3,N4,N5,N6,N7,I1,I2,I3,I4,I5,I6,I7,reduceIte,reduceCtorEq]
 refine SemW_re (GStep.nil 7 1 rfl rfl rfl) ?_
 refine q20 ?_
 simp only[PP,P1,P2,P3,P4,P5,P6,P7,P8,P9,P10,P11,P12,P13,P14,L1,P15,N1,N2,N3,N4,N5,N6,N7,I1,I2,I3,I4,I5,I6,I7,reduceIte,reduceCtorEq]
 refine loop2 (fun(q g:Nat)=>(q:Int)≤N.n) (fun q g=>[Zj,slI f4 o4 .i64 (natI (q45 a)),p8 x,.ptr 0 0 0,Zj,Zj,Zj,.ref 1 g 1 0 (aftL N a x q).length,p64 q,Zj,Zj,Zj,Zj,Zj,Zj,Zj,Zj,Zj,Zj,Zj,Zj,Zj,Zj,Zj,Zj,Zj,Zj,Zj,Zj,Zj,Zj,Zj,Zj,Zj,Zj,Zj,Zj,Zj,Zj,Zj,Zj,Zj,Zj,Zj,Zj,Zj,Zj,Zj,Zj,Zj,Zj,Zj,Zj,Zj,Zj,Zj,Zj,Zj])
  (fun q g=>[.cells 0 0 (nfC f1 o1 f2 o2 f3 o3 N),.cells g 0 ((natI (aftL N a x q)).map p64)]) (fun q g=>N.n.toNat-q) 0 0 (by omega) (by simp only[aftL,List.range_zero,List.filter_nil,List.length_nil,PW]) rfl ?_
 intro q g qle ih
 refine q40 (by kernel_rfl) ?_
 simp only[PP,P1,P2,P3,P4,P5,P6,P7,P8,P9,P10,P11,P12,P13,P14,L1,P15,N1,N2,N3,N4,N5,N6,N7,I1,I2,I3,I4,I5,I6,I7,reduceIte,reduceCtorEq]
 refine QIf.intro (fun c=>?_) (fun c=>?_)
 rotate_left
 ·obtain rfl:q=N.n.toNat:=by omega
  rw[aftL_all C]
  have hfz:frzO (some (PObj.cells g 0 ((natI (q45 (q8 N a x))).map p64))) g 1 0 (q45 (q8 N a x)).length=some (slI false true .i64 (natI (q45 (q8 N a x)))):=by
   rw[frzO_cells (by simp) (underL_ints _ _ _),q44 _ _ (by simp)]
   simp only[slI,List.length_map]
  simp only[PP,P1,P2,P3,P4,P5,P6,P7,P8,P9,P10,P11,P12,P13,P14,L1,P15,N1,N2,N3,N4,N5,N6,N7,I1,I2,I3,I4,I5,I6,I7,reduceIte,reduceCtorEq,c,hfz]
  exact hk
 have hql:=aftL_len N a x q
 have wq:=q27 (k:=q) (by show _<1000000000000;omega)
 have hq0:(q8 N a x).getLsbD q=N.es.any (edC a x q):=(aftL_any C a x q).symm
 simp only[PP,P1,P2,P3,P4,P5,P6,P7,P8,P9,P10,P11,P12,P13,P14,L1,P15,N1,N2,N3,N4,N5,N6,N7,I1,I2,I3,I4,I5,I6,I7,reduceIte,reduceCtorEq,c]
 refine loop3 (fun(i g:Nat) (l:List Nat)=>i≤N.es.length∧l=aftL N a x q++if(N.es.take i).any (edC a x q)=true then [q] else []) (fun i g l=>[Zj,slI f4 o4 .i64 (natI (q45 a)),p8 x,.ptr 0 0 0,Zj,Zj,Zj,.ref 1 g 1 0 l.length,p64 q,p64 i,Zj,Zj,Zj,Zj,Zj,Zj,Zj,Zj,Zj,Zj,Zj,Zj,Zj,Zj,Zj,Zj,Zj,Zj,Zj,Zj,Zj,Zj,Zj,Zj,Zj,Zj,Zj,Zj,Zj,Zj,Zj,Zj,Zj,Zj,Zj,Zj,Zj,Zj,Zj,Zj,Zj,Zj,Zj,Zj,Zj,Zj,Zj,Zj])
  (fun i g l=>[.cells 0 0 (nfC f1 o1 f2 o2 f3 o3 N),.cells g 0 ((natI l).map p64)]) (fun i g l=>N.es.length-i) 0 g (aftL N a x q) ⟨by omega,by simp⟩ (by simp only[PW]) rfl ?_
 intro i g l ⟨ile,hl⟩ ih2
 refine q40 (by kernel_rfl) ?_
 simp only[PP,P1,P2,P3,P4,P5,P6,P7,P8,P9,P10,P11,P12,P13,P14,L1,P15,N1,N2,N3,N4,N5,N6,N7,I1,I2,I3,I4,I5,I6,I7,reduceIte,reduceCtorEq]
 refine QIf.intro (fun d=>?_) (fun d=>?_)
 ·have hi:i<N.es.length:=by omega
  obtain⟨e,ge⟩:=some_of hi
  have i0:(0:Int)≤i:=by omega
  have wi:=q27 (k:=i) (by show _<1000000000000;omega)
  have h4:=psub_egL ge
  have hl4:i*4+4≤(egL N.es).length:=by rw[egL_len];exact eg_le ge
  have hen:=List.mem_of_getElem? ge
  obtain⟨b1,b2⟩:=B.b e hen
  obtain⟨e1,e2,e3,e4,_⟩:=C.ed e hen
  have htk:(N.es.take (i+1)).any (edC a x q)=((N.es.take i).any (edC a x q)||edC a x q e):=by
   rw[List.take_add_one,ge,List.any_append];simp
  have hfr:=mem_bits (a:=a) e1
  have hll:l.length≤65:=by
   rw[hl,List.length_append]
   split<;>simp<;>omega
  have same:edC a x q e=false→l=aftL N a x q++if(N.es.take (i+1)).any (edC a x q)=true then [q] else []:=fun h=>by rw[htk,h,Bool.or_false];exact hl
  have go:=fun(h:edC a x q e=false)=>ih2 (i+1) g l ⟨by omega,same h⟩ (by omega)
  simp only[PP,P1,P2,P3,P4,P5,P6,P7,P8,P9,P10,P11,P12,P13,P14,L1,P15,N1,N2,N3,N4,N5,N6,N7,I1,I2,I3,I4,I5,I6,I7,reduceIte,reduceCtorEq,d,i0,h4,hl4]
  refine QIf.intro (fun c1=>?_) (fun c1=>?_)
  ·have c1':decide (e.to=(q:Int))=true:=decide_eq_true c1
   simp only[PP,P1,P2,P3,P4,P5,P6,P7,P8,P9,P10,P11,P12,P13,P14,L1,P15,N1,N2,N3,N4,N5,N6,N7,I1,I2,I3,I4,I5,I6,I7,reduceIte,reduceCtorEq,c1]
   refine hasInt_p T (by simp;show _<1000000000000;omega) ?_
   rw[hfr]
   cases c2:a.getLsbD e.fr.toNat with
   | false=>
    simp only[PP,P1,P2,P3,P4,P5,P6,P7,P8,P9,P10,P11,P12,P13,P14,L1,P15,N1,N2,N3,N4,N5,N6,N7,I1,I2,I3,I4,I5,I6,I7,reduceIte,reduceCtorEq,wi]
    refine SemW_re (GStep.drop (b:=[Zj,slI f4 o4 .i64 (natI (q45 a)),p8 x,.ptr 0 0 0,Zj,Zj,Zj,.ref 1 g 1 0 l.length,p64 q,p64 ((i+1:Nat):Int),Zj,Zj,Zj,Zj,Zj,Zj,Zj,Zj,Zj,Zj,Zj,Zj,Zj,Zj,Zj,Zj,Zj,Zj,Zj,Zj,Zj,Zj,Zj,Zj,Zj,Zj,Zj,Zj,Zj,Zj,Zj,Zj,Zj,Zj,Zj,Zj,Zj,Zj,Zj,Zj,Zj,Zj,Zj,Zj,Zj,Zj,Zj,Zj]) 2 (Nat.zero_le _) (by simp) (by simp only[PW]) (by simp only[PP,P1,P2,P3,P4,P5,P6,P7,P8,P9,P10,P11,P12,P13,P14,L1,P15,N1,N2,N3,N4,N5,N6,N7,I1,I2,I3,I4,I5,I6,I7,reduceIte,reduceCtorEq,PV.under]) (by simp only[PP,P1,P2,P3,P4,P5,P6,P7,P8,P9,P10,P11,P12,P13,P14,L1,P15,N1,N2,N3,N4,N5,N6,N7,I1,I2,I3,I4,I5,I6,I7,reduceIte,reduceCtorEq,egL_und,q67]) rfl) (go (by unfold edC;rw[c2];simp))
   | true=>
    simp only[PP,P1,P2,P3,P4,P5,P6,P7,P8,P9,P10,P11,P12,P13,P14,L1,P15,N1,N2,N3,N4,N5,N6,N7,I1,I2,I3,I4,I5,I6,I7,reduceIte,reduceCtorEq]
    refine letter_p T b1 b2 hx ?_
    cases c3:hasB e.ps e.ng x with
    | false=>
     simp only[PP,P1,P2,P3,P4,P5,P6,P7,P8,P9,P10,P11,P12,P13,P14,L1,P15,N1,N2,N3,N4,N5,N6,N7,I1,I2,I3,I4,I5,I6,I7,reduceIte,reduceCtorEq,wi]
     refine SemW_re (GStep.drop (b:=[Zj,slI f4 o4 .i64 (natI (q45 a)),p8 x,.ptr 0 0 0,Zj,Zj,Zj,.ref 1 g 1 0 l.length,p64 q,p64 ((i+1:Nat):Int),Zj,Zj,Zj,Zj,Zj,Zj,Zj,Zj,Zj,Zj,Zj,Zj,Zj,Zj,Zj,Zj,Zj,Zj,Zj,Zj,Zj,Zj,Zj,Zj,Zj,Zj,Zj,Zj,Zj,Zj,Zj,Zj,Zj,Zj,Zj,Zj,Zj,Zj,Zj,Zj,Zj,Zj,Zj,Zj,Zj,Zj,Zj,Zj]) 2 (Nat.zero_le _) (by simp) (by simp only[PW]) (by simp only[PP,P1,P2,P3,P4,P5,P6,P7,P8,P9,P10,P11,P12,P13,P14,L1,P15,N1,N2,N3,N4,N5,N6,N7,I1,I2,I3,I4,I5,I6,I7,reduceIte,reduceCtorEq,PV.under]) (by simp only[PP,P1,P2,P3,P4,P5,P6,P7,P8,P9,P10,P11,P12,P13,P14,L1,P15,N1,N2,N3,N4,N5,N6,N7,I1,I2,I3,I4,I5,I6,I7,reduceIte,reduceCtorEq,egL_und,q67]) rfl) (go (by unfold edC;rw[c3];simp))
    | true=>
     have hed:edC a x q e=true:=by unfold edC;rw[c1',c2,c3];rfl
     rw[hed,Bool.or_true]at htk
     simp only[PP,P1,P2,P3,P4,P5,P6,P7,P8,P9,P10,P11,P12,P13,P14,L1,P15,N1,N2,N3,N4,N5,N6,N7,I1,I2,I3,I4,I5,I6,I7,reduceIte,reduceCtorEq]
     refine SemC_bor (.ints rfl (List.length_map _) (.same rfl .nil)) (hasInt_p T (by simp;show _<1000000000000;omega) ⟨rfl,?_⟩)
     have hmem:((q:Nat):Int)∈natI l↔q∈l:=mem_natI
     by_cases hm:q∈l
     ·have hm2:=hmem.2 hm
      have hany:(N.es.take i).any (edC a x q)=true:=by
       refine Classical.byContradiction fun h=>?_
       rw[if_neg h,List.append_nil]at hl
       rw[hl]at hm
       exact absurd (aftL_lt hm) (by omega)
      have:=ih2 (i+1) g l ⟨by omega,by rw[htk,if_pos rfl,hl,if_pos hany]⟩ (by omega)
      simp only[PP,P1,P2,P3,P4,P5,P6,P7,P8,P9,P10,P11,P12,P13,P14,L1,P15,N1,N2,N3,N4,N5,N6,N7,I1,I2,I3,I4,I5,I6,I7,reduceIte,reduceCtorEq,hm2,wi]
      refine SemW_re (GStep.drop (b:=[Zj,slI f4 o4 .i64 (natI (q45 a)),p8 x,.ptr 0 0 0,Zj,Zj,Zj,.ref 1 g 1 0 l.length,p64 q,p64 ((i+1:Nat):Int),Zj,Zj,Zj,Zj,Zj,Zj,Zj,Zj,Zj,Zj,Zj,Zj,Zj,Zj,Zj,Zj,Zj,Zj,Zj,Zj,Zj,Zj,Zj,Zj,Zj,Zj,Zj,Zj,Zj,Zj,Zj,Zj,Zj,Zj,Zj,Zj,Zj,Zj,Zj,Zj,Zj,Zj,Zj,Zj,Zj,Zj,Zj,Zj]) 2 (Nat.zero_le _) (by simp) (by simp only[PW]) (by simp only[PP,P1,P2,P3,P4,P5,P6,P7,P8,P9,P10,P11,P12,P13,P14,L1,P15,N1,N2,N3,N4,N5,N6,N7,I1,I2,I3,I4,I5,I6,I7,reduceIte,reduceCtorEq,PV.under]) (by simp only[PP,P1,P2,P3,P4,P5,P6,P7,P8,P9,P10,P11,P12,P13,P14,L1,P15,N1,N2,N3,N4,N5,N6,N7,I1,I2,I3,I4,I5,I6,I7,reduceIte,reduceCtorEq,egL_und,q67]) rfl) this
     ·have hm2:¬((q:Nat):Int)∈natI l:=fun h=>hm (hmem.1 h)
      have hany:¬(N.es.take i).any (edC a x q)=true:=fun h=>by
       rw[if_pos h]at hl
       exact hm (by rw[hl];simp)
      have:=ih2 (i+1) (g+1) (l++[q]) ⟨by omega,by rw[htk,if_pos rfl,hl,if_neg hany,List.append_nil]⟩ (by omega)
      have k1:(l.length+1)*8≤140737488355328:=by omega
      have k2:l.length+1≤9223372036854775807:=by omega
      simp only[PP,P1,P2,P3,P4,P5,P6,P7,P8,P9,P10,P11,P12,P13,P14,L1,P15,N1,N2,N3,N4,N5,N6,N7,I1,I2,I3,I4,I5,I6,I7,reduceIte,reduceCtorEq,hm2,wi,k1,k2]
      rw[q44 _ _ (by simp)]
      refine SemW_re (GStep.drop (b:=[Zj,slI f4 o4 .i64 (natI (q45 a)),p8 x,.ptr 0 0 0,Zj,Zj,Zj,.ref 1 (g+1) 1 0 (l++[q]).length,p64 q,p64 ((i+1:Nat):Int),Zj,Zj,Zj,Zj,Zj,Zj,Zj,Zj,Zj,Zj,Zj,Zj,Zj,Zj,Zj,Zj,Zj,Zj,Zj,Zj,Zj,Zj,Zj,Zj,Zj,Zj,Zj,Zj,Zj,Zj,Zj,Zj,Zj,Zj,Zj,Zj,Zj,Zj,Zj,Zj,Zj,Zj,Zj,Zj,Zj,Zj,Zj,Zj]) 2 (Nat.zero_le _) (by simp) (by simp only[List.length_append,List.length_cons,List.length_nil,Nat.zero_add,PW]) (by simp only[PP,P1,P2,P3,P4,P5,P6,P7,P8,P9,P10,P11,P12,P13,P14,L1,P15,N1,N2,N3,N4,N5,N6,N7,I1,I2,I3,I4,I5,I6,I7,reduceIte,reduceCtorEq,PV.under]) (by simp only[PP,P1,P2,P3,P4,P5,P6,P7,P8,P9,P10,P11,P12,P13,P14,L1,P15,N1,N2,N3,N4,N5,N6,N7,I1,I2,I3,I4,I5,I6,I7,reduceIte,reduceCtorEq,egL_und,q67]) rfl) ?_
      refine SemW_to this (by simp only[PW]) ?_
      rw[natI_snoc',List.map_append]
      rfl
  ·simp only[PP,P1,P2,P3,P4,P5,P6,P7,P8,P9,P10,P11,P12,P13,P14,L1,P15,N1,N2,N3,N4,N5,N6,N7,I1,I2,I3,I4,I5,I6,I7,reduceIte,reduceCtorEq,c1,wi]
   refine SemW_re (GStep.drop (b:=[Zj,slI f4 o4 .i64 (natI (q45 a)),p8 x,.ptr 0 0 0,Zj,Zj,Zj,.ref 1 g 1 0 l.length,p64 q,p64 ((i+1:Nat):Int),Zj,Zj,Zj,Zj,Zj,Zj,Zj,Zj,Zj,Zj,Zj,Zj,Zj,Zj,Zj,Zj,Zj,Zj,Zj,Zj,Zj,Zj,Zj,Zj,Zj,Zj,Zj,Zj,Zj,Zj,Zj,Zj,Zj,Zj,Zj,Zj,Zj,Zj,Zj,Zj,Zj,Zj,Zj,Zj,Zj,Zj,Zj,Zj]) 2 (Nat.zero_le _) (by simp) (by simp only[PW]) (by simp only[PP,P1,P2,P3,P4,P5,P6,P7,P8,P9,P10,P11,P12,P13,P14,L1,P15,N1,N2,N3,N4,N5,N6,N7,I1,I2,I3,I4,I5,I6,I7,reduceIte,reduceCtorEq,PV.under]) (by simp only[PP,P1,P2,P3,P4,P5,P6,P7,P8,P9,P10,P11,P12,P13,P14,L1,P15,N1,N2,N3,N4,N5,N6,N7,I1,I2,I3,I4,I5,I6,I7,reduceIte,reduceCtorEq,egL_und,q67]) rfl) (go (by unfold edC;rw[decide_eq_false c1];rfl))
 ·obtain rfl:i=N.es.length:=by omega
  rw[List.take_length,←hq0]at hl
  have hl2:l=aftL N a x (q+1):=by
   rw[aftL_succ,hl]
   split<;>simp
  subst hl2
  simp only[PP,P1,P2,P3,P4,P5,P6,P7,P8,P9,P10,P11,P12,P13,P14,L1,P15,N1,N2,N3,N4,N5,N6,N7,I1,I2,I3,I4,I5,I6,I7,reduceIte,reduceCtorEq,d,wq]
  exact q18 (ih (q+1) g (by omega) (by omega)) (by simp only[PW])
end
theorem eq_of_rise:∀{l m:List Int},l.Pairwise (· < ·)→m.Pairwise (· < ·)→(∀x,x∈l↔x∈m)→l=m
 | [],[],_,_,_=>rfl
 | [],y::m,_,_,h=>by have:=(h y).2 (by simp);simp at this
 | x::l,[],_,_,h=>by have:=(h x).1 (by simp);simp at this
 | x::l,y::m,hl,hm,h=>by
  rw[List.pairwise_cons]at hl hm
  have e:x=y:=by
   have h1:=(h x).1 (by simp)
   have h2:=(h y).2 (by simp)
   rcases List.mem_cons.1 h1 with h1 | h1
   ·exact h1
   ·rcases List.mem_cons.1 h2 with h2 | h2
    ·exact h2.symm
    ·have:=hl.1 y h2
     have:=hm.1 x h1
     omega
  subst e
  congr 1
  refine eq_of_rise hl.2 hm.2 fun z=>?_
  constructor
  ·intro hz
   rcases List.mem_cons.1 ((h z).1 (by simp[hz])) with e | e
   ·have:=hl.1 z hz;omega
   ·exact e
  ·intro hz
   rcases List.mem_cons.1 ((h z).2 (by simp[hz])) with e | e
   ·have:=hm.1 z hz;omega
   ·exact e
section
variable {α:Type} [DecidableEq α]
theorem idxOf_atG {b:α} :∀{o:List α},b∈o→o[o.idxOf b]? =some b
 | [],h=>by simp at h
 | a::o,h=>by
  by_cases e:b=a
  ·subst e;simp
  ·rw[idxOf_ne e]
   rw[List.getElem?_cons_succ]
   exact idxOf_atG ((List.mem_cons.1 h).resolve_left e)
theorem idxOf_leG {b:α} :∀{o:List α} {k:Nat},o[k]? =some b→o.idxOf b≤k
 | [],k,h=>by simp at h
 | a::o,k,h=>by
  by_cases e:b=a
  ·subst e;simp
  ·rw[idxOf_ne e]
   cases k with
   | zero=>simp at h;exact absurd h.symm e
   | succ k=>have:=idxOf_leG (o:=o) (k:=k) (by simpa using h);omega
end
theorem visN_len {α:Type} [DecidableEq α] (δ:α→Nat→α) (a:α) (o:List α):∀j,(visN δ a j o).length≤o.length+j
 | 0=>Nat.le_refl _
 | j+1=>by
  have ih:=visN_len δ a o j
  unfold visN addN
  split
  ·omega
  ·simp;omega
abbrev idxI (rs:List (List Int)) (s:List Int):Nat:= @List.idxOf _ instBEqOfDecidableEq s rs
def findI (rs:List (List Int)) (s:List Int):Int:=if s∈rs then(idxI rs s:Nat) else-1
theorem bitsI_inj {a b:BitVec 64} (h:natI (q45 a)=natI (q45 b)):a=b:=by
 refine bitsW_inj ?_
 have:=congrArg (List.map Int.toNat) h
 simpa [List.map_map,Function.comp_def] using this
theorem findI_sets (o:List (BitVec 64)) (b:BitVec 64):findI (setsB o) (natI (q45 b))=if b∈o then((o.idxOf b:Nat):Int) else-1:=by
 have hi:=idxOf_map (φ:=fun a=>natI (q45 a)) (Dm:=fun _:BitVec 64=>True) (fun a b _ _ h=>bitsI_inj h) (b:=b) trivial (o:=o) fun _ _=>trivial
 have hm:=mem_map_inj (φ:=fun a=>natI (q45 a)) (Dm:=fun _:BitVec 64=>True) (fun a b _ _ h=>bitsI_inj h) (o:=o) (b:=b) (fun _ _=>trivial) trivial
 unfold findI setsB idxI
 rw[hi]
 by_cases h:b∈o
 ·rw[if_pos h,if_pos (hm.2 h)]
 ·rw[if_neg h,if_neg fun q=>h (hm.1 q)]
theorem start_sets {N:NF} (C:NOk N):natI (q45 (q28 N))=N.st:=by
 refine eq_of_rise ?_ (posM_rise C.st).1 fun x=>?_
 ·rw[List.pairwise_map]
  exact((List.pairwise_lt_range (n:=64)).filter _).imp fun h=>by omega
 ·constructor
  ·intro h
   obtain⟨k,h1,rfl⟩:=List.mem_map.1 h
   exact(startB_bit C k).1 (mem_bitsW.1 h1)
  ·intro h
   have:=posM_mem C.st x h
   have e:x=((x.toNat:Nat):Int):=by omega
   rw[e]at h ⊢
   exact List.mem_map.2 ⟨_,mem_bitsW.2 ((startB_bit C _).2 h),rfl⟩
theorem bitsW_len (a:BitVec 64):(q45 a).length≤64:=by unfold q45;exact Nat.le_trans (List.length_filter_le _ _) (by simp)
theorem rowN_len {α:Type} [DecidableEq α] (δ:α→Nat→α) (n:Nat) (o:List α) (a:α):(rowN δ n o a).length=n:=by simp[rowN]
theorem rowN_len2 {α:Type} [DecidableEq α] (δ:α→Nat→α) (n:Nat) (o:List α) (a:α):n=((rowN δ n o a).map p64).length:=by simp[rowN]
section
variable {tab:FuncId→Option AF} (T:HasA tab)
include T
theorem find_p {M:Mem} {K:PV→Mem→Prop} {f o f' o' f2 o2:Bool} {rs:List (List Int)} {s:List Int} (hm:rs.length≤5000) (hm2:∀r∈rs,r.length<big) (hk:K (p64 (findI rs s)) M):
  SemC tab 62 [slR f o f' o' .i64 rs,slI f2 o2 .i64 s] M K:=by
 refine q11 T.h62 (by simp only[PP,P1,P2,P3,P4,P5,P6,P7,P8,P9,P10,P11,P12,P13,P14,L1,P15,N1,N2,N3,N4,N5,N6,N7,I1,I2,I3,I4,I5,I6,I7,reduceIte,reduceCtorEq]) ?_
 simp only[af62,PP,P1,P2,P3,P4,P5,P6,P7,P8,P9,P10,P11,P12,P13,P14,L1,P15,N1,N2,N3,N4,N5,N6,N7,I1,I2,I3,I4,I5,I6,I7,reduceIte,reduceCtorEq]
 refine loop1 (fun(k:Nat)=>k≤rs.length∧(s∈rs→k≤idxI rs s)) (fun k=>[slR f o f' o' .i64 rs,slI f2 o2 .i64 s,Zj,Zj,Zj,p64 k,Zj,Zj,Zj,Zj,Zj,Zj,Zj,Zj,Zj,Zj,Zj,Zj,Zj]) (fun _=>[]) (fun k=>rs.length-k) 0 ⟨by omega,fun _=>Nat.zero_le _⟩ (by simp only[PW]) rfl ?_
 intro k ⟨hle,hq⟩ ih
 refine q40 (by kernel_rfl) ?_
 simp only[PP,P1,P2,P3,P4,P5,P6,P7,P8,P9,P10,P11,P12,P13,P14,L1,P15,N1,N2,N3,N4,N5,N6,N7,I1,I2,I3,I4,I5,I6,I7,reduceIte,reduceCtorEq]
 unfold findI at hk
 refine QIf.intro (fun c=>?_) (fun c=>?_)
 ·have hk':k<rs.length:=by omega
  obtain⟨r,g⟩:=some_of hk'
  have k0:(0:Int)≤k:=by omega
  have wk:=q27 (k:=k) (by show _<1000000000000;omega)
  simp only[PP,P1,P2,P3,P4,P5,P6,P7,P8,P9,P10,P11,P12,P13,P14,L1,P15,N1,N2,N3,N4,N5,N6,N7,I1,I2,I3,I4,I5,I6,I7,reduceIte,reduceCtorEq,c,k0,g]
  refine equalInts_p T (hm2 r (List.mem_of_getElem? g)) ?_
  by_cases e:r=s
  ·subst e
   have hmem:=List.mem_of_getElem? g
   have:=idxOf_leG g
   have:=hq hmem
   obtain rfl:k=idxI rs r:=by unfold idxI at*;omega
   rw[if_pos hmem]at hk
   simp only[PP,P1,P2,P3,P4,P5,P6,P7,P8,P9,P10,P11,P12,P13,P14,L1,P15,N1,N2,N3,N4,N5,N6,N7,I1,I2,I3,I4,I5,I6,I7,reduceIte,reduceCtorEq]
   exact hk
  ·simp only[PP,P1,P2,P3,P4,P5,P6,P7,P8,P9,P10,P11,P12,P13,P14,L1,P15,N1,N2,N3,N4,N5,N6,N7,I1,I2,I3,I4,I5,I6,I7,reduceIte,reduceCtorEq,e,wk]
   refine q18 (ih (k+1) ⟨by omega,fun h=>?_⟩ (by omega)) (by simp only[PW])
   have h1:=hq h
   have h2:=idxOf_atG h
   refine Classical.byContradiction fun q=>?_
   have:k=idxI rs s:=by omega
   have h2:rs[idxI rs s]? =some s:=h2
   rw[←this,g]at h2
   exact e (Option.some.inj h2)
 ·have:s∉rs:=fun h=>by
   have h1:=hq h
   have h2:idxI rs s<rs.length:=q15 (idxOf_atG h)
   omega
  rw[if_neg this]at hk
  simp only[PP,P1,P2,P3,P4,P5,P6,P7,P8,P9,P10,P11,P12,P13,P14,L1,P15,N1,N2,N3,N4,N5,N6,N7,I1,I2,I3,I4,I5,I6,I7,reduceIte,reduceCtorEq,c]
  exact hk
theorem findB_p {M:Mem} {K:PV→Mem→Prop} {f2 o2:Bool} {id g ver n:Nat} {o:List (BitVec 64)} {b:BitVec 64} (hM:M[id]? =some (.cells g ver ((setsB o).map (slI false true .i64)))) (hn:n=o.length) (hl:o.length≤5000) (hk:K (p64 (if b∈o then((o.idxOf b:Nat):Int) else-1)) M):
  SemC tab 62 [.ref id g 1 0 n,slI f2 o2 .i64 (natI (q45 b))] M K:=by
 have hsl:(setsB o).length=o.length:=by simp[setsB]
 subst hn
 refine SemC_bor (args2:=[slR true false false true .i64 (setsB o),slI f2 o2 .i64 (natI (q45 b))]) ?_ (find_p T (by omega) (fun r hr=>?_) ⟨rfl,?_⟩)
 ·have:=PBor.ref (sz:=1) (off:=0) (n:=o.length) (cs2:=(setsB o).map (slI false true .i64)) hM (by simp[hsl]) (underL_slRs _ _ _ _ _) (q44 _ _ (by simp[hsl])) (PBor.same (v:=slI f2 o2 .i64 (natI (q45 b))) (by simp only[PP,P1,P2,P3,P4,P5,P6,P7,P8,P9,P10,P11,P12,P13,P14,L1,P15,N1,N2,N3,N4,N5,N6,N7,I1,I2,I3,I4,I5,I6,I7,reduceIte,reduceCtorEq]) PBor.nil)
  rw[slR,hsl];exact this
 ·obtain⟨y,_,rfl⟩:=List.mem_map.1 hr
  have:(q45 y).length≤64:=by unfold q45;exact Nat.le_trans (List.length_filter_le _ _) (by simp)
  show _<1000000000000
  simp;omega
 ·rw[findI_sets];exact hk
set_option maxHeartbeats 4000000 in
theorem rdet_p {M:Mem} {K:PV→Mem→Prop} {f1 o1 f2 o2 f3 o3:Bool} {N:NF} {bd:Int} (B:BnN N)
  (hk1:checkN N≠0→K (.tuple [.agg [p64 0,p64 0,.nils,.nils],.nils,p64 (checkN N)]) M)
  (hk2:checkN N=0→bd<1∨4096<bd→K (.tuple [.agg [p64 0,p64 0,.nils,.nils],.nils,p64 1]) M)
  (hk3:checkN N=0→1≤bd→bd≤4096→OverN (q8 N) (q9 N) (q28 N) bd→K (.tuple [.agg [p64 0,p64 0,.nils,.nils],.nils,p64 10]) M)
  (hk4:checkN N=0→1≤bd→bd≤4096→∀o,FullN (q8 N) (q9 N) (q28 N) o→(o.length:Int)≤bd→K (.tuple [.agg (dfC false true false true false true (detD N o)),slR false true false true .i64 (setsB o),p64 0]) M):
  SemC tab 28 [.agg (nfC f1 o1 f2 o2 f3 o3 N),p64 bd] M K:=by
 refine SemC_pureS T.h28 (by simp only[PP,P1,P2,P3,P4,P5,P6,P7,P8,P9,P10,P11,P12,P13,P14,L1,P15,N1,N2,N3,N4,N5,N6,N7,I1,I2,I3,I4,I5,I6,I7,reduceIte,reduceCtorEq,q67]) ?_
 simp only[af28]
 refine q46 (q20 ?_)
 simp only[PP,P1,P2,P3,P4,P5,P6,P7,P8,P9,P10,P11,P12,P13,P14,L1,P15,N1,N2,N3,N4,N5,N6,N7,I1,I2,I3,I4,I5,I6,I7,reduceIte,reduceCtorEq]
 refine q46 (q20 ?_)
 simp only[PP,P1,P2,P3,P4,P5,P6,P7,P8,P9,P10,P11,P12,P13,P14,L1,P15,N1,N2,N3,N4,N5,N6,N7,I1,I2,I3,I4,I5,I6,I7,reduceIte,reduceCtorEq]
 refine checkR_p T B ?_
 simp only[PP,P1,P2,P3,P4,P5,P6,P7,P8,P9,P10,P11,P12,P13,P14,L1,P15,N1,N2,N3,N4,N5,N6,N7,I1,I2,I3,I4,I5,I6,I7,reduceIte,reduceCtorEq]
 by_cases hc:checkN N=0
 rotate_left
 ·refine q20 ?_
  simp only[PP,P1,P2,P3,P4,P5,P6,P7,P8,P9,P10,P11,P12,P13,P14,L1,P15,N1,N2,N3,N4,N5,N6,N7,I1,I2,I3,I4,I5,I6,I7,reduceIte,reduceCtorEq,hc]
  exact hk1 hc
 have C:=nok_of hc
 refine q46 (q20 ?_)
 simp only[PP,P1,P2,P3,P4,P5,P6,P7,P8,P9,P10,P11,P12,P13,P14,L1,P15,N1,N2,N3,N4,N5,N6,N7,I1,I2,I3,I4,I5,I6,I7,reduceIte,reduceCtorEq,hc]
 by_cases c1:bd<1
 ·refine q20 ?_
  simp only[PP,P1,P2,P3,P4,P5,P6,P7,P8,P9,P10,P11,P12,P13,P14,L1,P15,N1,N2,N3,N4,N5,N6,N7,I1,I2,I3,I4,I5,I6,I7,reduceIte,reduceCtorEq,c1]
  exact hk2 hc (.inl c1)
 by_cases c2:4096<bd
 ·refine q20 ?_
  simp only[PP,P1,P2,P3,P4,P5,P6,P7,P8,P9,P10,P11,P12,P13,P14,L1,P15,N1,N2,N3,N4,N5,N6,N7,I1,I2,I3,I4,I5,I6,I7,reduceIte,reduceCtorEq,c1,c2]
  exact hk2 hc (.inr c2)
 refine q46 (q20 ?_)
 simp only[PP,P1,P2,P3,P4,P5,P6,P7,P8,P9,P10,P11,P12,P13,P14,L1,P15,N1,N2,N3,N4,N5,N6,N7,I1,I2,I3,I4,I5,I6,I7,reduceIte,reduceCtorEq,c1,c2]
 refine q46 (q20 ?_)
 simp only[PP,P1,P2,P3,P4,P5,P6,P7,P8,P9,P10,P11,P12,P13,P14,L1,P15,N1,N2,N3,N4,N5,N6,N7,I1,I2,I3,I4,I5,I6,I7,reduceIte,reduceCtorEq]
 have hstl:=posM_len C.st C.n64
 refine q46 (SemW_litAt 3 rfl ?_)
 simp only[PP,P1,P2,P3,P4,P5,P6,P7,P8,P9,P10,P11,P12,P13,P14,L1,P15,N1,N2,N3,N4,N5,N6,N7,I1,I2,I3,I4,I5,I6,I7,reduceIte,reduceCtorEq]
 refine copyInts_p T (by show _<1000000000000;omega) ?_
 simp only[PP,P1,P2,P3,P4,P5,P6,P7,P8,P9,P10,P11,P12,P13,P14,L1,P15,N1,N2,N3,N4,N5,N6,N7,I1,I2,I3,I4,I5,I6,I7,reduceIte,reduceCtorEq,Option.some.injEq,exists_eq_left']
 refine SemW_re (GStep.nilbox 2 2 1 (g:=0) (ver:=1) (cs:=[p64 N.vs,p64 0,.nils,.nils]) rfl rfl rfl) ?_
 simp only[PP,P1,P2,P3,P4,P5,P6,P7,P8,P9,P10,P11,P12,P13,P14,L1,P15,N1,N2,N3,N4,N5,N6,N7,I1,I2,I3,I4,I5,I6,I7,reduceIte,reduceCtorEq]
 refine SemW_re (GStep.nilbox 2 3 1 (g:=0) (ver:=1) (cs:=[p64 N.vs,p64 0,.ref 4 0 1 0 0,.nils]) rfl rfl rfl) ?_
 refine q20 ?_
 simp only[PP,P1,P2,P3,P4,P5,P6,P7,P8,P9,P10,P11,P12,P13,P14,L1,P15,N1,N2,N3,N4,N5,N6,N7,I1,I2,I3,I4,I5,I6,I7,reduceIte,reduceCtorEq]
 refine loop4 (fun(k g3 g v:Nat)=>k≤(bfsK (q8 N) (q9 N) (q28 N) k).length∧((bfsK (q8 N) (q9 N) (q28 N) k).length:Int)≤bd) (fun k g3 g v=>[Zj,p64 bd,.ptr 0 0 0,Zj,.ptr 1 0 0,Zj,Zj,Zj,.ptr 2 0 0,.ref 3 g3 1 0 (bfsK (q8 N) (q9 N) (q28 N) k).length,p64 k,Zj,Zj,Zj,Zj,Zj,Zj,Zj,Zj,Zj,Zj,Zj,Zj,Zj,Zj,Zj,Zj,Zj,Zj,Zj,Zj,Zj,Zj,Zj,Zj,Zj,Zj,Zj,Zj,Zj,Zj,Zj,Zj,Zj,Zj,Zj,Zj,Zj,Zj,Zj,Zj,Zj,Zj,Zj,Zj,Zj,Zj,Zj,Zj,Zj,Zj,Zj,Zj,Zj,Zj,Zj,Zj,Zj,Zj,Zj,Zj,Zj,Zj,Zj,Zj,Zj,Zj,Zj,Zj,Zj,Zj,Zj,Zj,Zj,Zj,Zj,Zj,Zj,Zj,Zj,Zj,Zj,Zj,Zj,Zj,Zj,Zj,Zj,Zj,Zj,Zj,Zj,Zj,Zj,Zj,Zj,Zj,Zj,Zj,Zj])
  (fun k g3 g v=>[.cells 0 0 (nfC f1 o1 f2 o2 f3 o3 N),.cells 0 0 [p64 0,p64 0,.nils,.nils],.cells 0 v [p64 N.vs,p64 0,.ref 4 g 1 0 k,.ref 5 g 1 0 k],.cells g3 0 ((setsB (bfsK (q8 N) (q9 N) (q28 N) k)).map (slI false true .i64)),.cells g 0 ((rowsK (q8 N) (q9 N) (q28 N) k).map (slI false true .i64)),.cells g 0 ((((bfsK (q8 N) (q9 N) (q28 N) k).take k).map (finB N)).map PV.bool)])
  (fun k g3 g v=>bd.toNat+1-k) 0 0 0 1 ⟨by omega,by simp[bfsK];omega⟩ (by simp only[bfsK,List.length_cons,List.length_nil,Nat.zero_add,PW]) (by simp[bfsK,rowsK,setsB,start_sets C]) ?_
 intro k g3 g v ⟨hle,hbd⟩ ih
 have hrl:=rowsK_len hle
 refine q40 (by kernel_rfl) ?_
 simp only[PP,P1,P2,P3,P4,P5,P6,P7,P8,P9,P10,P11,P12,P13,P14,L1,P15,N1,N2,N3,N4,N5,N6,N7,I1,I2,I3,I4,I5,I6,I7,reduceIte,reduceCtorEq]
 refine QIf.intro (fun c=>?_) (fun c=>?_)
 rotate_left
 ·have hfull:(bfsK (q8 N) (q9 N) (q28 N) k).length≤k:=by omega
  have hkk:k=(bfsK (q8 N) (q9 N) (q28 N) k).length:=by omega
  have hF:FullN (q8 N) (q9 N) (q28 N) (bfsK (q8 N) (q9 N) (q28 N) k):=⟨k,rfl,hfull⟩
  have hres:=hk4 hc (by omega) (by omega) _ hF hbd
  rw[detD,←rowsK_full hfull]at hres
  have hro:(rowsK (q8 N) (q9 N) (q28 N) k).length=k:=hrl
  generalize rowsK (q8 N) (q9 N) (q28 N) k=rs at hres hro
  have hfz:frzO (some (PObj.cells g 0 ((((bfsK (q8 N) (q9 N) (q28 N) k).take k).map (finB N)).map PV.bool))) g 1 0 k=some (slB false true ((bfsK (q8 N) (q9 N) (q28 N) k).map (finB N))):=by
   rw[List.take_of_length_le hfull,frzO_cells (by simp;omega) (underL_bools _ _),q44 _ _ (by simp;omega)]
   simp only[slB,List.length_map];rw[←hkk]
  have hfz1:frzO (some (PObj.cells g 0 (rs.map (slI false true .i64)))) g 1 0 k=some (slR false true false true .i64 rs):=by
   rw[frzO_cells (by simp[hro]) (underL_slRs _ _ _ _ _),q44 _ _ (by simp[hro])]
   simp only[slR,hro]
  have hfz2:frzO (some (PObj.cells g3 0 ((setsB (bfsK (q8 N) (q9 N) (q28 N) k)).map (slI false true .i64)))) g3 1 0 (bfsK (q8 N) (q9 N) (q28 N) k).length=some (slR false true false true .i64 (setsB (bfsK (q8 N) (q9 N) (q28 N) k))):=by
   have hl:(setsB (bfsK (q8 N) (q9 N) (q28 N) k)).length=(bfsK (q8 N) (q9 N) (q28 N) k).length:=by unfold setsB;simp
   rw[frzO_cells (by simp[hl]) (underL_slRs _ _ _ _ _),q44 _ _ (by simp[hl])]
   simp only[slR,hl]
  simp only[PP,P1,P2,P3,P4,P5,P6,P7,P8,P9,P10,P11,P12,P13,P14,L1,P15,N1,N2,N3,N4,N5,N6,N7,I1,I2,I3,I4,I5,I6,I7,reduceIte,reduceCtorEq,c,hfz,hfz1,hfz2]
  exact hres
 have hk':k<(bfsK (q8 N) (q9 N) (q28 N) k).length:=by omega
 obtain⟨a,ga⟩:=some_of hk'
 have k0:(0:Int)≤k:=by omega
 have wk:=q27 (k:=k) (by show _<1000000000000;omega)
 have h64:=C.let64
 simp only[PP,P1,P2,P3,P4,P5,P6,P7,P8,P9,P10,P11,P12,P13,P14,L1,P15,N1,N2,N3,N4,N5,N6,N7,I1,I2,I3,I4,I5,I6,I7,reduceIte,reduceCtorEq,c]
 refine SemW_re (GStep.nil 11 1 rfl rfl rfl) ?_
 simp only[PP,P1,P2,P3,P4,P5,P6,P7,P8,P9,P10,P11,P12,P13,P14,L1,P15,N1,N2,N3,N4,N5,N6,N7,I1,I2,I3,I4,I5,I6,I7,reduceIte,reduceCtorEq]
 refine SemW_gh ?_
 refine loop4 (fun(j g3 g6:Nat) (o:List (BitVec 64))=>j≤q9 N∧o=visN (q8 N) a j (bfsK (q8 N) (q9 N) (q28 N) k)) (fun j g3 g6 o=>[Zj,p64 bd,.ptr 0 0 0,Zj,.ptr 1 0 0,Zj,Zj,Zj,.ptr 2 0 0,.ref 3 g3 1 0 o.length,p64 k,.ref 6 g6 1 0 j,p64 j,Zj,Zj,Zj,Zj,Zj,Zj,Zj,Zj,Zj,Zj,Zj,Zj,Zj,Zj,Zj,Zj,Zj,Zj,Zj,Zj,Zj,Zj,Zj,Zj,Zj,Zj,Zj,Zj,Zj,Zj,Zj,Zj,Zj,Zj,Zj,Zj,Zj,Zj,Zj,Zj,Zj,Zj,Zj,Zj,Zj,Zj,Zj,Zj,Zj,Zj,Zj,Zj,Zj,Zj,Zj,Zj,Zj,Zj,Zj,Zj,Zj,Zj,Zj,Zj,Zj,Zj,Zj,Zj,Zj,Zj,Zj,Zj,Zj,Zj,Zj,Zj,Zj,Zj,Zj,Zj,Zj,Zj,Zj,Zj,Zj,Zj,Zj,Zj,Zj,Zj,Zj,Zj,Zj,Zj,Zj,Zj,Zj])
  (fun j g3 g6 o=>[.cells 0 0 (nfC f1 o1 f2 o2 f3 o3 N),.cells 0 0 [p64 0,p64 0,.nils,.nils],.cells 0 v [p64 N.vs,p64 0,.ref 4 g 1 0 k,.ref 5 g 1 0 k],.cells g3 0 ((setsB o).map (slI false true .i64)),.cells g 0 ((rowsK (q8 N) (q9 N) (q28 N) k).map (slI false true .i64)),.cells g 0 ((((bfsK (q8 N) (q9 N) (q28 N) k).take k).map (finB N)).map PV.bool),.cells g6 0 ((rowN (q8 N) j o a).map p64)])
  (fun j g3 g6 o=>q9 N-j) 0 g3 0 (bfsK (q8 N) (q9 N) (q28 N) k) ⟨by omega,rfl⟩ (by simp only[PW]) (by simp[rowN]) ?_
 intro j g3 g6 o ⟨jle,ho⟩ ih2
 refine q40 (by kernel_rfl) ?_
 simp only[PP,P1,P2,P3,P4,P5,P6,P7,P8,P9,P10,P11,P12,P13,P14,L1,P15,N1,N2,N3,N4,N5,N6,N7,I1,I2,I3,I4,I5,I6,I7,reduceIte,reduceCtorEq]
 refine letters_p T (by have:=C.v0;omega) (by have:=C.v6;omega) ?_
 rw[show((2:Int)^N.vs.toNat)=((q9 N:Nat):Int) by simp]
 simp only[PP,P1,P2,P3,P4,P5,P6,P7,P8,P9,P10,P11,P12,P13,P14,L1,P15,N1,N2,N3,N4,N5,N6,N7,I1,I2,I3,I4,I5,I6,I7,reduceIte,reduceCtorEq]
 have hvl:=visN_len (q8 N) a (bfsK (q8 N) (q9 N) (q28 N) k) j
 rw[←ho]at hvl
 have hko:k<o.length:=by
  obtain⟨r,e⟩:=visN_pre (q8 N) a j (bfsK (q8 N) (q9 N) (q28 N) k)
  rw[ho,e];simp;omega
 have hko':(k:Int)<o.length:=by omega
 have hset:(setsB o)[k]? =some (natI (q45 a)):=by
  obtain⟨r,e⟩:=visN_pre (q8 N) a j (bfsK (q8 N) (q9 N) (q28 N) k)
  unfold setsB
  rw[List.getElem?_map,ho,e,List.getElem?_append_left hk',ga];rfl
 refine QIf.intro (fun d=>?_) (fun d=>?_)
 ·have hj':j<q9 N:=by omega
  have j0:(0:Int)≤j:=by omega
  have wj:=q27 (k:=j) (by show _<1000000000000;omega)
  have w8:IntKind.u8.wrap (j:Int)=j:=wrap8 (by omega)
  have hrj:(rowN (q8 N) j o a).length=j:=by simp[rowN]
  simp only[PP,P1,P2,P3,P4,P5,P6,P7,P8,P9,P10,P11,P12,P13,P14,L1,P15,N1,N2,N3,N4,N5,N6,N7,I1,I2,I3,I4,I5,I6,I7,reduceIte,reduceCtorEq,d,k0,hko',hset,w8]
  refine rafter_p T C B (by omega) ?_
  simp only[PP,P1,P2,P3,P4,P5,P6,P7,P8,P9,P10,P11,P12,P13,P14,L1,P15,N1,N2,N3,N4,N5,N6,N7,I1,I2,I3,I4,I5,I6,I7,reduceIte,reduceCtorEq]
  refine findB_p T rfl rfl (by omega) ?_
  have hin:∀x,x<j→q8 N a x∈o:=fun x hx=>by rw[ho];exact(mem_visN _ _ _ j _).2 (.inr ⟨x,hx,rfl⟩)
  have b1:(j+1)*8≤140737488355328:=by omega
  have b2:j+1≤9223372036854775807:=by omega
  have b3:j≤(rowN (q8 N) j o a).length:=by omega
  have hsucc:∀o',rowN (q8 N) (j+1) o' a=rowN (q8 N) j o' a++[((o'.idxOf (q8 N a j):Nat):Int)]:=fun o'=>by unfold rowN;rw[List.range_succ,List.map_append];rfl
  by_cases hm:q8 N a j∈o
  ·have e:visN (q8 N) a (j+1) (bfsK (q8 N) (q9 N) (q28 N) k)=o:=by
    show addN _ _=_
    rw[←ho];unfold addN;rw[if_pos hm]
   have:=ih2 (j+1) g3 (g6+1) o ⟨by omega,e.symm⟩ (by omega)
   have hneg:¬((o.idxOf (q8 N a j):Nat):Int)<0:=by omega
   rw[if_pos hm]
   simp only[PP,P1,P2,P3,P4,P5,P6,P7,P8,P9,P10,P11,P12,P13,P14,L1,P15,N1,N2,N3,N4,N5,N6,N7,I1,I2,I3,I4,I5,I6,I7,reduceIte,reduceCtorEq,hneg]
   refine findB_p T rfl rfl (by omega) ?_
   rw[if_pos hm]
   simp only[PP,P1,P2,P3,P4,P5,P6,P7,P8,P9,P10,P11,P12,P13,P14,L1,P15,N1,N2,N3,N4,N5,N6,N7,I1,I2,I3,I4,I5,I6,I7,reduceIte,reduceCtorEq,b1,b2,b3,wj]
   refine SemW_to this (by simp only[PW]) ?_
   rw[q44 _ _ (by simp[rowN]),hsucc,List.map_append]
   rfl
  ·have e:visN (q8 N) a (j+1) (bfsK (q8 N) (q9 N) (q28 N) k)=o++[q8 N a j]:=by
    show addN _ _=_
    rw[←ho];unfold addN;rw[if_neg hm]
   have:=ih2 (j+1) (g3+1) (g6+1) (o++[q8 N a j]) ⟨by omega,e.symm⟩ (by omega)
   have c1:(o.length+1)*24≤140737488355328:=by omega
   have c2:o.length+1≤9223372036854775807:=by omega
   have c3:o.length≤(setsB o).length:=by simp[setsB]
   have hn1:(-1:Int)<0:=by omega
   have hps:psub ((setsB o).map (slI false true .i64)) 0 o.length=(setsB o).map (slI false true .i64):=q44 _ _ (by simp[setsB])
   have hss:setsB (o++[q8 N a j])=setsB o++[natI (q45 (q8 N a j))]:=by simp[setsB]
   have hsln:slI false true .i64 (natI (q45 (q8 N a j)))= .sl false true 1 (q45 (q8 N a j)).length ((natI (q45 (q8 N a j))).map (PV.int .i64)):=by simp only[slI,List.length_map]
   have hix:(o++[q8 N a j]).idxOf (q8 N a j)=o.length:=by rw[List.idxOf_append,if_neg hm];simp
   rw[if_neg hm]
   simp only[PP,P1,P2,P3,P4,P5,P6,P7,P8,P9,P10,P11,P12,P13,P14,L1,P15,N1,N2,N3,N4,N5,N6,N7,I1,I2,I3,I4,I5,I6,I7,reduceIte,reduceCtorEq,hn1,c1,c2,c3,hps]
   refine findB_p T (o:=o++[q8 N a j]) (ver:=0) (by rw[hss,List.map_append,List.map_singleton,hsln];rfl) (by simp) (by simp;omega) ?_
   rw[if_pos (by simp),hix]
   simp only[PP,P1,P2,P3,P4,P5,P6,P7,P8,P9,P10,P11,P12,P13,P14,L1,P15,N1,N2,N3,N4,N5,N6,N7,I1,I2,I3,I4,I5,I6,I7,reduceIte,reduceCtorEq,b1,b2,b3,wj]
   refine SemW_to this (by simp only[List.length_append,List.length_cons,List.length_nil,Nat.zero_add,PW]) ?_
   rw[q44 _ _ (by simp[rowN]),hsucc,rowN_pre hin,hix,hss,List.map_append,List.map_append,List.map_singleton,hsln]
   rfl
 ·have ej:j=q9 N:=by omega
  rw[ej]at ho ⊢
  have hok:o=bfsK (q8 N) (q9 N) (q28 N) (k+1):=by rw[ho,bfsK_succ ga]
  simp only[PP,P1,P2,P3,P4,P5,P6,P7,P8,P9,P10,P11,P12,P13,P14,L1,P15,N1,N2,N3,N4,N5,N6,N7,I1,I2,I3,I4,I5,I6,I7,reduceIte,reduceCtorEq,d]
  refine Gh.step (GStep.freeze (b:=[Zj,p64 bd,.ptr 0 0 0,Zj,.ptr 1 0 0,Zj,Zj,Zj,.ptr 2 0 0,.ref 3 g3 1 0 o.length,p64 k,.sl false true 1 (q9 N) ((rowN (q8 N) (q9 N) o a).map p64),Zj,Zj,Zj,Zj,Zj,Zj,Zj,Zj,Zj,Zj,Zj,Zj,Zj,Zj,Zj,Zj,Zj,Zj,Zj,Zj,Zj,Zj,Zj,Zj,Zj,Zj,Zj,Zj,Zj,Zj,Zj,Zj,Zj,Zj,Zj,Zj,Zj,Zj,Zj,Zj,Zj,Zj,Zj,Zj,Zj,Zj,Zj,Zj,Zj,Zj,Zj,Zj,Zj,Zj,Zj,Zj,Zj,Zj,Zj,Zj,Zj,Zj,Zj,Zj,Zj,Zj,Zj,Zj,Zj,Zj,Zj,Zj,Zj,Zj,Zj,Zj,Zj,Zj,Zj,Zj,Zj,Zj,Zj,Zj,Zj,Zj,Zj,Zj,Zj,Zj,Zj,Zj,Zj,Zj,Zj,Zj,Zj,Zj]) 6 (Nat.zero_le _) rfl (by simp only[PFrz_nil,PFrz_junk,PFrz_same,PFrz_ref,Nat.mul_one,Nat.zero_add,List.length_map,rowN_len,Nat.le_refl,q44 _ _ (rowN_len2 (q8 N) (q9 N) o a)]) rfl) (Gh.same ?_)
  simp only[PP,P1,P2,P3,P4,P5,P6,P7,P8,P9,P10,P11,P12,P13,P14,L1,P15,N1,N2,N3,N4,N5,N6,N7,I1,I2,I3,I4,I5,I6,I7,reduceIte,reduceCtorEq]
  refine QIf.intro (fun e=>?_) (fun e=>?_)
  ·simp only[PP,P1,P2,P3,P4,P5,P6,P7,P8,P9,P10,P11,P12,P13,P14,L1,P15,N1,N2,N3,N4,N5,N6,N7,I1,I2,I3,I4,I5,I6,I7,reduceIte,reduceCtorEq,e]
   exact hk3 hc (by omega) (by omega) ⟨k+1,by rw[←hok];exact e⟩
  ·simp only[PP,P1,P2,P3,P4,P5,P6,P7,P8,P9,P10,P11,P12,P13,P14,L1,P15,N1,N2,N3,N4,N5,N6,N7,I1,I2,I3,I4,I5,I6,I7,reduceIte,reduceCtorEq,e]
   have hfil:=posM_len C.fi C.n64
   refine loop2 (fun(i:Nat) (f:Bool)=>i≤N.fi.length∧f=(N.fi.take i).any fun q=>a.getLsbD q.toNat) (fun i f=>[Zj,p64 bd,.ptr 0 0 0,Zj,.ptr 1 0 0,Zj,Zj,Zj,.ptr 2 0 0,.ref 3 g3 1 0 o.length,p64 k,.sl false true 1 (q9 N) ((rowN (q8 N) (q9 N) o a).map p64),Zj,Zj,.bool f,p64 i,Zj,Zj,Zj,Zj,Zj,Zj,Zj,Zj,Zj,Zj,Zj,Zj,Zj,Zj,Zj,Zj,Zj,Zj,Zj,Zj,Zj,Zj,Zj,Zj,Zj,Zj,Zj,Zj,Zj,Zj,Zj,Zj,Zj,Zj,Zj,Zj,Zj,Zj,Zj,Zj,Zj,Zj,Zj,Zj,Zj,Zj,Zj,Zj,Zj,Zj,Zj,Zj,Zj,Zj,Zj,Zj,Zj,Zj,Zj,Zj,Zj,Zj,Zj,Zj,Zj,Zj,Zj,Zj,Zj,Zj,Zj,Zj,Zj,Zj,Zj,Zj,Zj,Zj,Zj,Zj,Zj,Zj,Zj,Zj,Zj,Zj,Zj,Zj,Zj,Zj,Zj,Zj,Zj,Zj])
    (fun i f=>[.cells 0 0 (nfC f1 o1 f2 o2 f3 o3 N),.cells 0 0 [p64 0,p64 0,.nils,.nils],.cells 0 v [p64 N.vs,p64 0,.ref 4 g 1 0 k,.ref 5 g 1 0 k],.cells g3 0 ((setsB o).map (slI false true .i64)),.cells g 0 ((rowsK (q8 N) (q9 N) (q28 N) k).map (slI false true .i64)),.cells g 0 ((((bfsK (q8 N) (q9 N) (q28 N) k).take k).map (finB N)).map PV.bool),.gone]) (fun i f=>N.fi.length-i) 0 false ⟨by omega,by simp⟩ (by simp only[PW]) rfl ?_
   intro i f ⟨ile,hf⟩ ih3
   refine q40 (by kernel_rfl) ?_
   simp only[PP,P1,P2,P3,P4,P5,P6,P7,P8,P9,P10,P11,P12,P13,P14,L1,P15,N1,N2,N3,N4,N5,N6,N7,I1,I2,I3,I4,I5,I6,I7,reduceIte,reduceCtorEq]
   refine QIf.intro (fun q=>?_) (fun q=>?_)
   ·have hi:i<N.fi.length:=by omega
    obtain⟨x,gx⟩:=some_of hi
    have x0:=(posM_mem C.fi x (List.mem_of_getElem? gx)).1
    have i0:(0:Int)≤i:=by omega
    have wi:=q27 (k:=i) (by show _<1000000000000;omega)
    have htk:((N.fi.take (i+1)).any fun q=>a.getLsbD q.toNat)=(((N.fi.take i).any fun q=>a.getLsbD q.toNat)||a.getLsbD x.toNat):=by
     rw[List.take_add_one,gx,List.any_append];simp
    have:=ih3 (i+1) (f||a.getLsbD x.toNat) ⟨by omega,by rw[htk,hf]⟩ (by omega)
    cases f with
    | true=>
     rw[Bool.true_or]at this
     simp only[PP,P1,P2,P3,P4,P5,P6,P7,P8,P9,P10,P11,P12,P13,P14,L1,P15,N1,N2,N3,N4,N5,N6,N7,I1,I2,I3,I4,I5,I6,I7,reduceIte,reduceCtorEq,q,wi]
     exact q18 this (by simp only[PW])
    | false=>
     rw[Bool.false_or]at this
     simp only[PP,P1,P2,P3,P4,P5,P6,P7,P8,P9,P10,P11,P12,P13,P14,L1,P15,N1,N2,N3,N4,N5,N6,N7,I1,I2,I3,I4,I5,I6,I7,reduceIte,reduceCtorEq,q,wi,k0,hko',hset,i0,gx]
     refine hasInt_p T (by simp;show _<1000000000000;exact Nat.lt_of_le_of_lt (bitsW_len a) (by decide)) ?_
     rw[mem_bits x0]
     simp only[PP,P1,P2,P3,P4,P5,P6,P7,P8,P9,P10,P11,P12,P13,P14,L1,P15,N1,N2,N3,N4,N5,N6,N7,I1,I2,I3,I4,I5,I6,I7,reduceIte,reduceCtorEq,wi]
     exact q18 this (by simp only[PW])
   ·obtain rfl:i=N.fi.length:=by omega
    rw[List.take_length]at hf
    have hf:f=finB N a:=hf
    subst hf
    simp only[PP,P1,P2,P3,P4,P5,P6,P7,P8,P9,P10,P11,P12,P13,P14,L1,P15,N1,N2,N3,N4,N5,N6,N7,I1,I2,I3,I4,I5,I6,I7,reduceIte,reduceCtorEq,q,wk]
    refine⟨⟨by omega,by omega,by omega⟩,⟨by simp;omega,by omega,by omega⟩,?_⟩
    have hsuc:=rowsK_succ ga
    rw[←ho]at hsuc
    have htk:=take_some ga
    have hpre:(bfsK (q8 N) (q9 N) (q28 N) (k+1)).take (k+1)=(bfsK (q8 N) (q9 N) (q28 N) k).take (k+1):=by
     obtain⟨r,e⟩:=bfsK_pre (q8 N) (q9 N) (q28 N) k
     rw[e,List.take_append_of_le_length (by omega)]
    rw[q44 _ _ (by simp[hrl]),q44 _ _ (by simp;omega)]
    refine SemW_re (GStep.drop (b:=[Zj,p64 bd,.ptr 0 0 0,Zj,.ptr 1 0 0,Zj,Zj,Zj,.ptr 2 0 0,.ref 3 g3 1 0 o.length,p64 ((k+1:Nat):Int),Zj,Zj,Zj,Zj,Zj,Zj,Zj,Zj,Zj,Zj,Zj,Zj,Zj,Zj,Zj,Zj,Zj,Zj,Zj,Zj,Zj,Zj,Zj,Zj,Zj,Zj,Zj,Zj,Zj,Zj,Zj,Zj,Zj,Zj,Zj,Zj,Zj,Zj,Zj,Zj,Zj,Zj,Zj,Zj,Zj,Zj,Zj,Zj,Zj,Zj,Zj,Zj,Zj,Zj,Zj,Zj,Zj,Zj,Zj,Zj,Zj,Zj,Zj,Zj,Zj,Zj,Zj,Zj,Zj,Zj,Zj,Zj,Zj,Zj,Zj,Zj,Zj,Zj,Zj,Zj,Zj,Zj,Zj,Zj,Zj,Zj,Zj,Zj,Zj,Zj,Zj,Zj,Zj,Zj,Zj,Zj,Zj,Zj,Zj]) 6 (Nat.zero_le _) (by simp) (by simp only[PW]) (by simp only[PP,P1,P2,P3,P4,P5,P6,P7,P8,P9,P10,P11,P12,P13,P14,L1,P15,N1,N2,N3,N4,N5,N6,N7,I1,I2,I3,I4,I5,I6,I7,reduceIte,reduceCtorEq,PV.under]) (by simp only[PP,P1,P2,P3,P4,P5,P6,P7,P8,P9,P10,P11,P12,P13,P14,L1,P15,N1,N2,N3,N4,N5,N6,N7,I1,I2,I3,I4,I5,I6,I7,reduceIte,reduceCtorEq,egL_und,q67,PV.under]) rfl) ?_
    refine SemW_to (ih (k+1) g3 (g+1) (v+1+1) ⟨by rw[←hok];omega,by rw[←hok];omega⟩ (by omega)) (by simp only[←hok,PW]) ?_
    have htk2:o.take (k+1)=(bfsK (q8 N) (q9 N) (q28 N) k).take k++[a]:=by rw[hok,hpre,htk]
    have hsl:slI false true .i64 (rowN (q8 N) (q9 N) o a)= .sl false true 1 (q9 N) ((rowN (q8 N) (q9 N) o a).map p64):=by simp only[slI,rowN_len]
    rw[←hok,hsuc,htk2,List.map_append,List.map_append,List.map_append,List.map_singleton,List.map_singleton,List.map_singleton,hsl]
    rfl
end
abbrev setP (ss:List Wd):List PV:=ss.map (slW false true)
abbrev DetM (f1 o1 f2 o2 f3 o3:Bool) (N:NF) (o1':PObj) (g v v3 vm:Nat) (ss:List Wd) (o:List (BitVec 64)):Mem:=
 [.cells 0 0 (nfC f1 o1 f2 o2 f3 o3 N),o1',.cells g v (setP ss),.cells 0 v3 [.ref 2 g 1 0 o.length],.map vm (smE (knE o)),.cells 0 1 [.map 4]]
theorem knE_add {o:List (BitVec 64)} {b:BitVec 64} (h:b∉o):knE (addN o b)=knE o++[(keyB b,.bool true)]:=by
 unfold addN knE;rw[if_neg h,List.map_append];rfl
section
variable {tab:FuncId→Option AF} (T:HasA tab)
include T
set_option maxHeartbeats 1000000 in
theorem det1_p {f1 o1 f2 o2 f3 o3:Bool} {N:NF} {o1':PObj} {l:Mem} {g v v3 vm s x:Nat} {ss:List Wd} {o:List (BitVec 64)} {a:BitVec 64} {K:PV→Mem→Prop} (hc:checkN N=0) (B:BnN N) (hr:RBs ss o) (hs:o[s]? =some a) (hx:x<q9 N) (hol:o.length≤5000)
  (hk:∀g' v' v3' vm' ss',RBs ss' (addN o (q8 N a x))→K (.str (keyB (q8 N a x))) (DetM f1 o1 f2 o2 f3 o3 N o1' g' v' v3' vm' ss' (addN o (q8 N a x))++l)):
  SemC tab 66 [p64 s,p8 x,.ptr 0 0 0,.ptr 3 0 0,.ptr 5 0 0] (DetM f1 o1 f2 o2 f3 o3 N o1' g v v3 vm ss o++l) K:=by
 refine SemC_fn T.h66 ?_
 obtain⟨sw,gs,hR⟩:=hr.get hs
 have s0:(0:Int)≤s:=by omega
 have s1:(s:Int)<o.length:=by have:=q15 hs;omega
 have hsl:=hr.len
 simp only[af66,PP,P1,P2,P3,P4,P5,P6,P7,P8,P9,P10,P11,P12,P13,P14,L1,P15,N1,N2,N3,N4,N5,N6,N7,I1,I2,I3,I4,I5,I6,I7,reduceIte,reduceCtorEq,q33,q56,q21,q57,ZMp_map,q32,q31,q54,plook_st,plook_sf,plook_nt,plook_nf,q64,smE_len,q24,q25,q16,q26,ZStr_str,ZSlA_ptr,q55,ZB2S_sl,ZB2S_ref,pfrz_str,q53,one_str,q29,one_map,q30,q19,q23,gs,s0,s1]
 refine nafter_p T hc B hR hx fun to hto=>?_
 simp only[PP,P1,P2,P3,P4,P5,P6,P7,P8,P9,P10,P11,P12,P13,P14,L1,P15,N1,N2,N3,N4,N5,N6,N7,I1,I2,I3,I4,I5,I6,I7,reduceIte,reduceCtorEq,q33,q56,q21,q57,ZMp_map,q32,q31,q54,plook_st,plook_sf,plook_nt,plook_nf,q64,smE_len,q24,q25,q16,q26,ZStr_str,ZSlA_ptr,q55,ZB2S_sl,ZB2S_ref,pfrz_str,q53,one_str,q29,one_map,q30,q19,q23]
 refine key_p T hto.len hto.lt ?_
 rw[hto.at0]
 have hlk:=knE_look (q8 N a x) o
 by_cases hm:q8 N a x∈o
 ·rw[if_pos hm]at hlk
  have e:addN o (q8 N a x)=o:=by unfold addN;rw[if_pos hm]
  have:=hk g v v3 vm ss (by rw[e];exact hr)
  rw[e]at this
  simp only[PP,P1,P2,P3,P4,P5,P6,P7,P8,P9,P10,P11,P12,P13,P14,L1,P15,N1,N2,N3,N4,N5,N6,N7,I1,I2,I3,I4,I5,I6,I7,reduceIte,reduceCtorEq,q33,q56,q21,q57,ZMp_map,q32,q31,q54,plook_st,plook_sf,plook_nt,plook_nf,q64,smE_len,q24,q25,q16,q26,ZStr_str,ZSlA_ptr,q55,ZB2S_sl,ZB2S_ref,pfrz_str,q53,one_str,q29,one_map,q30,q19,q23,hlk]
  exact this
 ·rw[if_neg hm]at hlk
  have e:addN o (q8 N a x)=o++[q8 N a x]:=by unfold addN;rw[if_neg hm]
  have:=hk (g+1) 0 (v3+1) (vm+1) (ss++[to]) (by rw[e];exact hr.snoc hto)
  have hput:=smE_put (keyB (q8 N a x)) (.bool true) (knE o) hlk
  unfold DetM at this
  rw[knE_add hm,e]at this
  have b1:(o.length+1)*24≤140737488355328:=by omega
  have b2:o.length+1≤9223372036854775807:=by omega
  have b3:o.length≤ss.length:=by omega
  simp only[PP,P1,P2,P3,P4,P5,P6,P7,P8,P9,P10,P11,P12,P13,P14,L1,P15,N1,N2,N3,N4,N5,N6,N7,I1,I2,I3,I4,I5,I6,I7,reduceIte,reduceCtorEq,q33,q56,q21,q57,ZMp_map,q32,q31,q54,plook_st,plook_sf,plook_nt,plook_nf,q64,smE_len,q24,q25,q16,q26,ZStr_str,ZSlA_ptr,q55,ZB2S_sl,ZB2S_ref,pfrz_str,q53,one_str,q29,one_map,q30,q19,q23,hlk,hput,b1,b2,b3]
  rw[q44 _ _ (by simp[hsl])]
  have e2:setP (ss++[to])=setP ss++[slW false true to]:=by simp
  rw[e2,List.length_append,List.length_singleton]at this
  exact this
set_option maxHeartbeats 2000000 in
theorem determinize_p {M:Mem} {K:PV→Mem→Prop} {f1 o1 f2 o2 f3 o3:Bool} {N:NF} {bd:Int} (B:BnN N)
  (hk1:checkN N≠0→K (.tuple [.agg [p64 0,p64 0,.nils,.nils],.nils,p64 (checkN N)]) M)
  (hk2:checkN N=0→bd<1∨4096<bd→K (.tuple [.agg [p64 0,p64 0,.nils,.nils],.nils,p64 1]) M)
  (hk3:checkN N=0→1≤bd→bd≤4096→OverN (q8 N) (q9 N) (q28 N) bd→K (.tuple [.agg [p64 0,p64 0,.nils,.nils],.nils,p64 10]) M)
  (hk4:checkN N=0→1≤bd→bd≤4096→∀o,FullN (q8 N) (q9 N) (q28 N) o→(o.length:Int)≤bd→K (.tuple [.agg (dfC false true false true false true (detD N o)),slR false true false true .i64 (setsB o),p64 0]) M):
  SemC tab 29 [.agg (nfC f1 o1 f2 o2 f3 o3 N),p64 bd] M K:=by
 refine SemC_pureS T.h29 (by simp only[PP,P1,P2,P3,P4,P5,P6,P7,P8,P9,P10,P11,P12,P13,P14,L1,P15,N1,N2,N3,N4,N5,N6,N7,I1,I2,I3,I4,I5,I6,I7,reduceIte,reduceCtorEq,q67]) ?_
 simp only[af29]
 refine q46 (q20 ?_)
 simp only[PP,P1,P2,P3,P4,P5,P6,P7,P8,P9,P10,P11,P12,P13,P14,L1,P15,N1,N2,N3,N4,N5,N6,N7,I1,I2,I3,I4,I5,I6,I7,reduceIte,reduceCtorEq]
 refine q46 (q20 ?_)
 simp only[PP,P1,P2,P3,P4,P5,P6,P7,P8,P9,P10,P11,P12,P13,P14,L1,P15,N1,N2,N3,N4,N5,N6,N7,I1,I2,I3,I4,I5,I6,I7,reduceIte,reduceCtorEq]
 refine check_p T B ?_
 by_cases hc:checkN N=0
 rotate_left
 ·simp only[PP,P1,P2,P3,P4,P5,P6,P7,P8,P9,P10,P11,P12,P13,P14,L1,P15,N1,N2,N3,N4,N5,N6,N7,I1,I2,I3,I4,I5,I6,I7,reduceIte,reduceCtorEq,hc]
  exact hk1 hc
 have C:=nok_of hc
 simp only[PP,P1,P2,P3,P4,P5,P6,P7,P8,P9,P10,P11,P12,P13,P14,L1,P15,N1,N2,N3,N4,N5,N6,N7,I1,I2,I3,I4,I5,I6,I7,reduceIte,reduceCtorEq,hc]
 by_cases c1:bd<1
 ·refine q20 ?_
  simp only[PP,P1,P2,P3,P4,P5,P6,P7,P8,P9,P10,P11,P12,P13,P14,L1,P15,N1,N2,N3,N4,N5,N6,N7,I1,I2,I3,I4,I5,I6,I7,reduceIte,reduceCtorEq,c1]
  exact hk2 hc (.inl c1)
 by_cases c2:4096<bd
 ·refine q20 ?_
  simp only[PP,P1,P2,P3,P4,P5,P6,P7,P8,P9,P10,P11,P12,P13,P14,L1,P15,N1,N2,N3,N4,N5,N6,N7,I1,I2,I3,I4,I5,I6,I7,reduceIte,reduceCtorEq,c1,c2]
  exact hk2 hc (.inr c2)
 refine q46 (q20 ?_)
 simp only[PP,P1,P2,P3,P4,P5,P6,P7,P8,P9,P10,P11,P12,P13,P14,L1,P15,N1,N2,N3,N4,N5,N6,N7,I1,I2,I3,I4,I5,I6,I7,reduceIte,reduceCtorEq,c1,c2]
 have hR0:=start_RB C
 have hshl:pbin .shl (.int .i64 1) (.int .i64 N.vs)=some (.int .i64 ((q9 N:Nat):Int)):=by
  rw[shl_one (by have:=C.v0;omega) (by have:=C.v6;omega)];simp
 refine q46 (SemW_litAt 3 rfl ?_)
 simp only[PP,P1,P2,P3,P4,P5,P6,P7,P8,P9,P10,P11,P12,P13,P14,L1,P15,N1,N2,N3,N4,N5,N6,N7,I1,I2,I3,I4,I5,I6,I7,reduceIte,reduceCtorEq]
 refine ofF_p T C C.st ?_
 simp only[PP,P1,P2,P3,P4,P5,P6,P7,P8,P9,P10,P11,P12,P13,P14,L1,P15,N1,N2,N3,N4,N5,N6,N7,I1,I2,I3,I4,I5,I6,I7,reduceIte,reduceCtorEq,Option.some.injEq,exists_eq_left']
 refine q46 (q20 ?_)
 simp only[PP,P1,P2,P3,P4,P5,P6,P7,P8,P9,P10,P11,P12,P13,P14,L1,P15,N1,N2,N3,N4,N5,N6,N7,I1,I2,I3,I4,I5,I6,I7,reduceIte,reduceCtorEq,q33,q56,q21,q57,ZMp_map,q32,q31,q54,plook_st,plook_sf,plook_nt,plook_nf,q64,smE_len,q24,q25,q16,q26,ZStr_str,ZSlA_ptr,q55,ZB2S_sl,ZB2S_ref,pfrz_str,q53,one_str,q29,one_map,q30,q19,q23]
 refine key_p T hR0.len hR0.lt ?_
 rw[hR0.at0]
 simp only[PP,P1,P2,P3,P4,P5,P6,P7,P8,P9,P10,P11,P12,P13,P14,L1,P15,N1,N2,N3,N4,N5,N6,N7,I1,I2,I3,I4,I5,I6,I7,reduceIte,reduceCtorEq,q33,q56,q21,q57,ZMp_map,q32,q31,q54,plook_st,plook_sf,plook_nt,plook_nf,q64,smE_len,q24,q25,q16,q26,ZStr_str,ZSlA_ptr,q55,ZB2S_sl,ZB2S_ref,pfrz_str,q53,one_str,q29,one_map,q30,q19,q23]
 refine q46 (q20 ?_)
 simp only[PP,P1,P2,P3,P4,P5,P6,P7,P8,P9,P10,P11,P12,P13,P14,L1,P15,N1,N2,N3,N4,N5,N6,N7,I1,I2,I3,I4,I5,I6,I7,reduceIte,reduceCtorEq]
 refine q46 (q20 ?_)
 simp only[PP,P1,P2,P3,P4,P5,P6,P7,P8,P9,P10,P11,P12,P13,P14,L1,P15,N1,N2,N3,N4,N5,N6,N7,I1,I2,I3,I4,I5,I6,I7,reduceIte,reduceCtorEq,hshl]
 refine key_p T hR0.len hR0.lt ?_
 rw[hR0.at0]
 simp only[PP,P1,P2,P3,P4,P5,P6,P7,P8,P9,P10,P11,P12,P13,P14,L1,P15,N1,N2,N3,N4,N5,N6,N7,I1,I2,I3,I4,I5,I6,I7,reduceIte,reduceCtorEq,q33,q56,q21,q57,ZMp_map,q32,q31,q54,plook_st,plook_sf,plook_nt,plook_nf,q64,smE_len,q24,q25,q16,q26,ZStr_str,ZSlA_ptr,q55,ZB2S_sl,ZB2S_ref,pfrz_str,q53,one_str,q29,one_map,q30,q19,q23]
 refine explore_p T (Dm:=fun _=>True) (δ:=q8 N) (κ:=keyB) (a0:=q28 N) (n:=q9 N) (bd:=bd) (caps:=[.ptr 0 0 0,.ptr 3 0 0,.ptr 5 0 0])
  (J:=fun o M=>∃g v v3 vm ss,RBs ss o∧M=DetM f1 o1 f2 o2 f3 o3 N (.cells 0 0 [p64 0,p64 0,.nils,.nils]) g v v3 vm ss o)
  ?_ ?_ (fun a b _ _ h=>keyB_inj h) (fun _ _ _ _=>trivial) trivial C.let64 (by omega) (by omega) (by simp[q13,PV.under]) ⟨0,0,1,1,[faW N.st],?_,rfl⟩ ?_ ?_ ?_
 ·rintro o N' ⟨g,v,v3,vm,ss,hr,rfl⟩;rfl
 ·rintro o N' ⟨g,v,v3,vm,ss,hr,rfl⟩
  have h1:∀m,q13 m (setP ss)=true:=fun m=>underL_map m _ (fun x=>under_slI m _ _ 1 _ .u64 (wI x)) ss
  have h2:∀m,cutOk m (.map vm (smE (knE o)))=true:=fun m=>smE_cut (fun p hp=>by
   obtain⟨y,_,rfl⟩:=List.mem_map.1 hp;simp[PV.under]) vm
  simp only[DetM,List.all_cons,List.all_nil,h2,PP,P1,P2,P3,P4,P5,P6,P7,P8,P9,P10,P11,P12,P13,P14,L1,P15,N1,N2,N3,N4,N5,N6,N7,I1,I2,I3,I4,I5,I6,I7,reduceIte,reduceCtorEq]
  simp only[cutOk,PP,P1,P2,P3,P4,P5,P6,P7,P8,P9,P10,P11,P12,P13,P14,L1,P15,N1,N2,N3,N4,N5,N6,N7,I1,I2,I3,I4,I5,I6,I7,reduceIte,reduceCtorEq,h1,PV.under,egL_und]
 ·refine⟨rfl,fun i s a h1 h2=>?_⟩
  cases i with
  | zero=>simp at h1 h2;subst h1;subst h2;exact hR0
  | succ i=>simp at h1
 ·rintro o N' l s x a K ⟨g,v,v3,vm,ss,hr,rfl⟩ hall hs hx hle hK
  exact det1_p T hc B hr hs hx (by omega) fun g' v' v3' vm' ss' hr'=>hK _ ⟨g',v',v3',vm',ss',hr',rfl⟩
 ·rintro o N' hF hle ⟨g,v,v3,vm,ss,hr,rfl⟩
  have hol:o.length≤4096:=by omega
  have hsl:=hr.len
  unfold DetM
  simp only[PP,P1,P2,P3,P4,P5,P6,P7,P8,P9,P10,P11,P12,P13,P14,L1,P15,N1,N2,N3,N4,N5,N6,N7,I1,I2,I3,I4,I5,I6,I7,reduceIte,reduceCtorEq]
  refine q46 (q20 ?_)
  simp only[PP,P1,P2,P3,P4,P5,P6,P7,P8,P9,P10,P11,P12,P13,P14,L1,P15,N1,N2,N3,N4,N5,N6,N7,I1,I2,I3,I4,I5,I6,I7,reduceIte,reduceCtorEq]
  refine q46 (q20 ?_)
  simp only[PP,P1,P2,P3,P4,P5,P6,P7,P8,P9,P10,P11,P12,P13,P14,L1,P15,N1,N2,N3,N4,N5,N6,N7,I1,I2,I3,I4,I5,I6,I7,reduceIte,reduceCtorEq]
  refine ofF_p T C C.fi ?_
  simp only[PP,P1,P2,P3,P4,P5,P6,P7,P8,P9,P10,P11,P12,P13,P14,L1,P15,N1,N2,N3,N4,N5,N6,N7,I1,I2,I3,I4,I5,I6,I7,reduceIte,reduceCtorEq]
  refine q46 (q20 ?_)
  simp only[PP,P1,P2,P3,P4,P5,P6,P7,P8,P9,P10,P11,P12,P13,P14,L1,P15,N1,N2,N3,N4,N5,N6,N7,I1,I2,I3,I4,I5,I6,I7,reduceIte,reduceCtorEq]
  refine SemW_re (GStep.nilbox 1 3 1 (g:=0) (ver:=2) (cs:=[p64 N.vs,p64 0,slR false true false true .i64 (rowsN (q8 N) (q9 N) o),.nils]) rfl rfl rfl) ?_
  refine SemW_re (GStep.nil 5 1 rfl rfl rfl) ?_
  refine q20 ?_
  simp only[PP,P1,P2,P3,P4,P5,P6,P7,P8,P9,P10,P11,P12,P13,P14,L1,P15,N1,N2,N3,N4,N5,N6,N7,I1,I2,I3,I4,I5,I6,I7,reduceIte,reduceCtorEq]
  refine loop4 (fun(k g' v' g2:Nat)=>k≤o.length) (fun k g' v' g2=>[Zj,Zj,Zj,Zj,.ptr 1 0 0,.ref 7 g2 1 0 k,Zj,Zj,Zj,Zj,Zj,Zj,Zj,slW false true (faW N.fi),Zj,Zj,Zj,Zj,Zj,Zj,Zj,Zj,Zj,Zj,Zj,Zj,Zj,Zj,Zj,Zj,Zj,Zj,Zj,Zj,Zj,Zj,Zj,Zj,Zj,Zj,Zj,Zj,Zj,Zj,Zj,Zj,Zj,Zj,Zj,Zj,Zj,Zj,Zj,Zj,Zj,Zj,Zj,Zj,Zj,Zj,Zj,Zj,Zj,Zj,.ref 2 g 1 0 o.length,p64 o.length,p64 k,Zj,Zj,Zj,Zj,Zj,Zj,Zj,Zj,Zj,Zj,Zj,Zj,Zj,Zj,Zj,Zj,Zj,Zj,Zj])
   (fun k g' v' g2=>[.cells 0 0 (nfC f1 o1 f2 o2 f3 o3 N),.cells 0 v' [p64 N.vs,p64 0,slR false true false true .i64 (rowsN (q8 N) (q9 N) o),.ref 6 g' 1 0 k],.cells g v (setP ss),.cells 0 v3 [.ref 2 g 1 0 o.length],.map vm (smE (knE o)),.cells 0 1 [.map 4],.cells g' 0 (((o.take k).map (finB N)).map PV.bool),.cells g2 0 ((setsB (o.take k)).map (slI false true .i64))])
   (fun k g' v' g2=>o.length-k) 0 0 2 0 (by omega) (by simp only[PW]) rfl ?_
  intro k g' v' g2 hle' ih
  refine q40 (by kernel_rfl) ?_
  simp only[PP,P1,P2,P3,P4,P5,P6,P7,P8,P9,P10,P11,P12,P13,P14,L1,P15,N1,N2,N3,N4,N5,N6,N7,I1,I2,I3,I4,I5,I6,I7,reduceIte,reduceCtorEq]
  refine QIf.intro (fun c=>?_) (fun c=>?_)
  ·have hk':k<o.length:=by omega
   obtain⟨a,ga⟩:=some_of hk'
   obtain⟨sw,gs,hR⟩:=hr.get ga
   have k0:(0:Int)≤k:=by omega
   have wk:=q27 (k:=k) (by show _<1000000000000;omega)
   obtain⟨_,ff2,_⟩:=fa_ok C C.fi
   have hRl:=hR.len
   have b1:k+1≤140737488355328:=by omega
   have b2:k+1≤9223372036854775807:=by omega
   have b3:(k+1)*24≤140737488355328:=by omega
   have b4:k≤(o.take k).length:=by simp;omega
   have b5:k≤(setsB (o.take k)).length:=by unfold setsB;simp;omega
   simp only[PP,P1,P2,P3,P4,P5,P6,P7,P8,P9,P10,P11,P12,P13,P14,L1,P15,N1,N2,N3,N4,N5,N6,N7,I1,I2,I3,I4,I5,I6,I7,reduceIte,reduceCtorEq,c,k0,gs]
   refine intersects_p T (by show _<1000000000000;omega) (by show _<1000000000000;omega) ?_
   rw[fin_inter C hR]
   simp only[PP,P1,P2,P3,P4,P5,P6,P7,P8,P9,P10,P11,P12,P13,P14,L1,P15,N1,N2,N3,N4,N5,N6,N7,I1,I2,I3,I4,I5,I6,I7,reduceIte,reduceCtorEq,b1,b2,b4]
   refine list_p T hR.len ?_
   rw[list_RB hR]
   simp only[PP,P1,P2,P3,P4,P5,P6,P7,P8,P9,P10,P11,P12,P13,P14,L1,P15,N1,N2,N3,N4,N5,N6,N7,I1,I2,I3,I4,I5,I6,I7,reduceIte,reduceCtorEq,b2,b3,b5,wk]
   refine SemW_to (ih (k+1) (g'+1) (v'+1) (g2+1) (by omega) (by omega)) (by simp only[PW]) ?_
   rw[q44 _ _ (by simp;omega),q44 _ _ (by unfold setsB;simp;omega),take_some ga]
   simp[setsB]
  ·obtain rfl:k=o.length:=by omega
   have hfz:frzO (some (PObj.cells g' 0 (((o.take o.length).map (finB N)).map PV.bool))) g' 1 0 o.length=some (slB false true (o.map (finB N))):=by
    rw[List.take_length,frzO_cells (by simp) (underL_bools _ _),q44 _ _ (by simp)]
    simp only[slB,List.length_map]
   have hfz2:frzO (some (PObj.cells g2 0 ((setsB (o.take o.length)).map (slI false true .i64)))) g2 1 0 o.length=some (slR false true false true .i64 (setsB o)):=by
    have hl:(setsB o).length=o.length:=by unfold setsB;simp
    rw[List.take_length,frzO_cells (by simp[hl]) (underL_slRs _ _ _ _ _),q44 _ _ (by simp[hl])]
    simp only[slR,hl]
   simp only[PP,P1,P2,P3,P4,P5,P6,P7,P8,P9,P10,P11,P12,P13,P14,L1,P15,N1,N2,N3,N4,N5,N6,N7,I1,I2,I3,I4,I5,I6,I7,reduceIte,reduceCtorEq,c,hfz,hfz2]
   exact hk4 hc (by omega) (by omega) o hF hle
 ·rintro r o N' hO ⟨g,v,v3,vm,ss,hr,rfl⟩
  unfold DetM
  simp only[PP,P1,P2,P3,P4,P5,P6,P7,P8,P9,P10,P11,P12,P13,P14,L1,P15,N1,N2,N3,N4,N5,N6,N7,I1,I2,I3,I4,I5,I6,I7,reduceIte,reduceCtorEq]
  refine q20 ?_
  simp only[PP,P1,P2,P3,P4,P5,P6,P7,P8,P9,P10,P11,P12,P13,P14,L1,P15,N1,N2,N3,N4,N5,N6,N7,I1,I2,I3,I4,I5,I6,I7,reduceIte,reduceCtorEq]
  exact hk3 hc (by omega) (by omega) hO
end
theorem arg_int {k:IntKind} {v:AV} {h:H} (hs:ShV (.int k) v h):∃(x:Int),v= .int k x∧RepV (wH h) (.int k x) v∧k.min≤x∧x≤k.max:=by
 obtain⟨avs,hs,rfl⟩:=hs
 obtain⟨x,rfl,p⟩:=hs
 exact⟨x,rfl,.int k x,p⟩
theorem run_of_C {tab:FuncId→Option AF} {g:FuncId} {args:List AV} {h:H} (hc:C (lim tab) g args h fun v _=>v= .bool true):∃n h',(run tab n).call g args h=some (.bool true,h'):=by
 unfold C at hc
 obtain⟨v,h',he,rfl⟩:=hc
 obtain⟨n,hn⟩:=(lim_call_iff tab).1 he
 exact⟨n,h',hn⟩
theorem shVs2 {A B:Ty} {args:List AV} {h:H} (hs:ShVs [A,B] args h):∃a b,args=[a,b]∧ShV A a h∧ShV B b h:=by
 match args,hs with
 | [a,b],⟨h1,h2,_⟩=>exact⟨a,b,rfl,h1,h2⟩
abbrev edgeTy:Ty:= .pair (.int .i64) (.pair (.int .i64) (.pair (.int .u8) (.pair (.int .u8) .unit)))
abbrev nfaTy:Ty:= .pair (.int .i64) (.pair (.int .i64) (.pair (.slice (.int .i64)) (.pair (.slice (.int .i64)) (.pair (.slice edgeTy) .unit))))
theorem sh_edge {h:H} {cs:List AV} (hs:Sh edgeTy cs h):∃e:Eg,e.fit∧cs.length=4∧RepL (wH h) (egC e) cs:=by
 obtain⟨c1,c2,rfl,⟨a,rfl,a1,a2⟩,c3,c4,rfl,⟨b,rfl,b1,b2⟩,c5,c6,rfl,⟨p,rfl,p1,p2⟩,c7,c8,rfl,⟨q,rfl,q1,q2⟩,h8⟩:=hs
 have h8:c8=[]:=h8
 subst h8
 exact⟨⟨a,b,p,q⟩,⟨⟨a1,a2⟩,⟨b1,b2⟩,⟨p1,p2⟩,⟨q1,q2⟩⟩,rfl,.cons (.int _ _) (.cons (.int _ _) (.cons (.int _ _) (.cons (.int _ _) (.nil _))))⟩
theorem sh_egs {h:H} :∀{n:Nat} {cells:List AV},cells.length=n*4→(∀i,i<n→Sh edgeTy ((cells.drop (i*4)).take 4) h)→∃es:List Eg,es.length=n∧RepL (wH h) (egL es) cells∧∀x∈es,x.fit
 | 0,cells,hl,_=>by
  have:cells=[]:=List.length_eq_zero_iff.1 (by simpa using hl)
  subst this
  exact⟨[],rfl,.nil _,fun x hx=>by cases hx⟩
 | n+1,cells,hl,hs=>by
  obtain⟨x,hx,_,r1⟩:=sh_edge (by simpa using hs 0 (by omega))
  obtain⟨es,e1,r2,e3⟩:=sh_egs (n:=n) (cells:=cells.drop 4) (by simp;omega) (fun i hi=>by
   have:=hs (i+1) (by omega)
   rw[List.drop_drop,show 4+i*4=(i+1)*4 by omega];exact this)
  refine⟨x::es,by simp[e1],?_,fun y hy=>?_⟩
  ·have:=r1.append r2
   rw[List.take_append_drop]at this
   exact this
  ·rcases List.mem_cons.1 hy with rfl | hy
   ·exact hx
   ·exact e3 y hy
theorem sh_edges {cs:List AV} {h:H} (hs:Sh (.slice edgeTy) cs h):∃v,∃es:List Eg,cs=[v]∧RepV (wH h) (slE false false es) v∧es.length≤9223372036854775807∧∀x∈es,x.fit:=by
 rcases hs with rfl | ⟨b,n,cells,rfl,h2,h3,h4,h5⟩
 ·exact⟨.nilslice,[],rfl,.slN,by simp,fun x hx=>by cases hx⟩
 ·have e4:edgeTy.size=4:=rfl
  rw[e4]at h4 h5
  obtain⟨es,e1,r,e3⟩:=sh_egs h4 h5
  refine⟨_,es,rfl,?_,by rw[e1];simpa [maxLen] using h2,e3⟩
  have hl:=r.len
  have:=RepV.sl (fl:=false) (own:=false) (sz:=4) (n:=n) (cs:=egL es) (fl':=false) (off:=0) (show(wH h).imm b=_ from h3) (by omega) (by rw[egL_len,e1]) (fun q=>by cases q) (fun q=>by cases q) (fun _ _=>H.lt_of_get h3) (fun i y z p q=>r.get i y z p (by simpa using q))
  rw[←e1]at this
  rw[←e1]
  exact this
structure NumN (N:NF):Prop where
 e:∀x∈N.es,x.fit
 ls:N.st.length≤9223372036854775807
 lf:N.fi.length≤9223372036854775807
 le:N.es.length≤9223372036854775807
 v: -9223372036854775808≤N.vs∧N.vs≤9223372036854775807
 n: -9223372036854775808≤N.n∧N.n≤9223372036854775807
theorem arg_nfa {v:AV} {h:H} (hs:ShV nfaTy v h):∃N:NF,RepV (wH h) (.agg (nfC false false false false false false N)) v∧NumN N:=by
 obtain⟨avs,hs,rfl⟩:=hs
 obtain⟨c1,c2,rfl,⟨a,rfl,a1,a2⟩,c3,c4,rfl,⟨b,rfl,b1,b2⟩,c5,c6,rfl,h3,c7,c8,rfl,h4,c9,c10,rfl,h5,h6⟩:=hs
 have h6:c10=[]:=h6
 subst h6
 obtain⟨vo,st,rfl,p1,q1,r1⟩:=sh_intsP h3
 obtain⟨vp,fi,rfl,p2,q2,r2⟩:=sh_intsP h4
 obtain⟨vs,es,rfl,p3,q3,r3⟩:=sh_edges h5
 refine⟨⟨a,b,st,fi,es⟩,?_,⟨r3,q1,q2,q3,⟨a1,a2⟩,⟨b1,b2⟩⟩⟩
 have:=RepL.cons (.int .i64 a) (.cons (.int .i64 b) (.cons p1 (.cons p2 (.cons p3 (.nil (wH h))))))
 exact .agg this.len this.get
def long6 (N:NF):Bool:=decide (100<N.st.length)||decide (100<N.fi.length)||decide (520<N.es.length)
theorem long6_bn {N:NF} (A:NumN N) (h:long6 N=false):BnN N:=by
 simp only[long6,Bool.or_eq_false_iff,decide_eq_false_iff_not]at h
 exact⟨by show _<1000000000000;omega,by show _<1000000000000;omega,by show _<1000000000000;omega,fun x hx=>⟨(A.e x hx).2.2.1,(A.e x hx).2.2.2⟩⟩
section
variable {tab:FuncId→Option AF} (T:HasA tab)
include T
theorem long6_p {M:Mem} {K:PV→Mem→Prop} {f1 o1 f2 o2 f3 o3:Bool} {N:NF} (hk:K (.bool (long6 N)) M):
  SemC tab 25 [.sl true true 5 1 (nfC f1 o1 f2 o2 f3 o3 N)] M K:=by
 refine q11 T.h25 (by simp only[PP,P1,P2,P3,P4,P5,P6,P7,P8,P9,P10,P11,P12,P13,P14,L1,P15,N1,N2,N3,N4,N5,N6,N7,I1,I2,I3,I4,I5,I6,I7,reduceIte,reduceCtorEq,PV.under,egL_und]) ?_
 simp only[af25,PP,P1,P2,P3,P4,P5,P6,P7,P8,P9,P10,P11,P12,P13,P14,L1,P15,N1,N2,N3,N4,N5,N6,N7,I1,I2,I3,I4,I5,I6,I7,reduceIte,reduceCtorEq]
 refine loop1 (fun(k:Nat)=>k=0∨(k=1∧long6 N=false)) (fun k=>[.sl true true 5 1 (nfC f1 o1 f2 o2 f3 o3 N),Zj,Zj,p64 k,Zj,Zj,Zj,Zj,Zj,Zj,Zj,Zj,Zj,Zj,Zj,Zj,Zj,Zj,Zj,Zj,Zj,Zj,Zj,Zj,Zj,Zj,Zj,Zj,Zj,Zj,Zj,Zj,Zj,Zj,Zj]) (fun _=>[]) (fun k=>1-k) 0 (.inl rfl) (by simp only[PW]) rfl ?_
 intro k hk1 ih
 rcases hk1 with rfl | ⟨rfl,hf⟩
 ·have w1:IntKind.i64.wrap 1=1:=rfl
  have tr:(100<N.st.length∨100<N.fi.length∨520<N.es.length)→K (.bool true) M:=fun h=>by
   have e:long6 N=true:=by simp only[long6,Bool.or_eq_true,decide_eq_true_eq];omega
   rw[e]at hk;exact hk
  refine q40 (by kernel_rfl) ?_
  simp only[PP,P1,P2,P3,P4,P5,P6,P7,P8,P9,P10,P11,P12,P13,P14,L1,P15,N1,N2,N3,N4,N5,N6,N7,I1,I2,I3,I4,I5,I6,I7,reduceIte,reduceCtorEq]
  refine QIf.intro (fun c1=>?_) (fun c1=>?_)
  ·simp only[PP,P1,P2,P3,P4,P5,P6,P7,P8,P9,P10,P11,P12,P13,P14,L1,P15,N1,N2,N3,N4,N5,N6,N7,I1,I2,I3,I4,I5,I6,I7,reduceIte,reduceCtorEq,c1]
   exact tr (by omega)
  simp only[PP,P1,P2,P3,P4,P5,P6,P7,P8,P9,P10,P11,P12,P13,P14,L1,P15,N1,N2,N3,N4,N5,N6,N7,I1,I2,I3,I4,I5,I6,I7,reduceIte,reduceCtorEq,c1]
  refine QIf.intro (fun c2=>?_) (fun c2=>?_)
  ·simp only[PP,P1,P2,P3,P4,P5,P6,P7,P8,P9,P10,P11,P12,P13,P14,L1,P15,N1,N2,N3,N4,N5,N6,N7,I1,I2,I3,I4,I5,I6,I7,reduceIte,reduceCtorEq,c2]
   exact tr (by omega)
  simp only[PP,P1,P2,P3,P4,P5,P6,P7,P8,P9,P10,P11,P12,P13,P14,L1,P15,N1,N2,N3,N4,N5,N6,N7,I1,I2,I3,I4,I5,I6,I7,reduceIte,reduceCtorEq,c2]
  refine QIf.intro (fun c3=>?_) (fun c3=>?_)
  ·simp only[PP,P1,P2,P3,P4,P5,P6,P7,P8,P9,P10,P11,P12,P13,P14,L1,P15,N1,N2,N3,N4,N5,N6,N7,I1,I2,I3,I4,I5,I6,I7,reduceIte,reduceCtorEq,c3]
   exact tr (by omega)
  simp only[PP,P1,P2,P3,P4,P5,P6,P7,P8,P9,P10,P11,P12,P13,P14,L1,P15,N1,N2,N3,N4,N5,N6,N7,I1,I2,I3,I4,I5,I6,I7,reduceIte,reduceCtorEq,c3,w1]
  refine q18 (ih 1 (.inr ⟨rfl,by simp only[long6,Bool.or_eq_false_iff,decide_eq_false_iff_not];omega⟩) (by omega)) (by simp only[PW])
 ·refine q40 (by kernel_rfl) ?_
  rw[hf]at hk
  simp only[PP,P1,P2,P3,P4,P5,P6,P7,P8,P9,P10,P11,P12,P13,P14,L1,P15,N1,N2,N3,N4,N5,N6,N7,I1,I2,I3,I4,I5,I6,I7,reduceIte,reduceCtorEq]
  exact hk
end
abbrev nfF (N:NF):List PV:=nfC false false false false false false N
section
variable {tab:FuncId→Option AF} (T:HasA tab)
include T
end
section
variable {tab:FuncId→Option AF} (T:HasA tab)
include T
end
section
variable {N:NF} {rs0 rs:List (List Bool)} {ch:Bool} {done done':Nat→Nat→Prop} {p q:Nat}
end
section
variable {tab:FuncId→Option AF} (T:HasA tab)
include T
end
section
variable {tab:FuncId→Option AF} (T:HasA tab)
include T
end
end Go.Am.Ar

