/- Contracts: sets of numbers (package bitset), and what goes with it. -/
import Derived.Test.YtbcdfmecpjbeaaaDoorSubsetReturnsG0
import Derived.Test.YtbcdfmecpjbeaaaDoorPmC
set_option linter.unusedVariables false
set_option linter.unusedSimpArgs false
set_option maxRecDepth 10000
namespace Go.Am.Ar
open Go.Am.PV renaming junk→Zj
open Go.Am renaming pchk→P1,pold→P2,PKNo→P3,ppack→P4,PObj.under→P5,pput→P6,ptset→P7,ptget→P8,pev→P9,ofAV→P10,q57→P11,ppad→P12,pfill→P13,prepl→P14,AO.effect→P15
open List renaming replicate→L1
open Nat renaming reduceAdd→N1,reduceSub→N2,reduceMul→N3,reduceLT→N4,reduceLeDiff→N5,reduceEqDiff→N6,reduceBEq→N7
open Int renaming reduceToNat→I1,reduceLT→I2,reduceLE→I3,reduceEq→I4,reduceAdd→I5,reduceSub→I6,reduceNeg→I7
abbrev p64u (b:BitVec 64):PV:= .int .u64 ((b.toNat:Nat):Int)
abbrev slW (f o:Bool) (a:Wd):PV:= .sl f o 1 a.length ((wI a).map (PV.int .u64))
theorem wI_get {a:Wd} {i:Nat} (h:i<a.length):(wI a)[i]? =some (((wAt a i).toNat:Nat):Int):=by
 rw[List.getElem?_map,List.getElem?_eq_getElem h,wAt_some (List.getElem?_eq_getElem h)];rfl
theorem pquo64 {x y:Int} (h:y≠0):pbin .quo (.int .i64 x) (.int .i64 y)=some (.int .i64 (IntKind.i64.wrap (x.tdiv y))):=by
 simp[pbin,toAV0,abin,q57,h,q64,binInt]
theorem pmin2 {k:IntKind} {x y:Int} :pminV (.int k x) [.int k y]=some (.int k (min x y)):=by
 simp[pminV,toAV0,toAVs,foldO,amin2,q57]
 split<;>omega
theorem wrap_pred {j:Nat} (h:j<4000000000000):IntKind.i64.wrap (((j+1:Nat):Int)-1)=(j:Int):=by
 rw[wrap64 (by omega) (by omega)];omega
theorem frzW {g ver m:Nat} {W:Wd} (h:m≤W.length):frzO (some (.cells g ver ((wI W).map (PV.int .u64)))) g 1 0 m=some (slW false true (W.take m)):=by
 rw[frzO_cells (by simp;omega) (underL_ints _ _ _)]
 have h1:psub ((wI W).map (PV.int .u64)) 0 (m*1)=(wI (W.take m)).map (PV.int .u64):=by simp[psub,List.map_take]
 have h2:(W.take m).length=m:=by rw[List.length_take];omega
 rw[h1]
 unfold slW
 rw[h2]
theorem rep_set {α:Type} (z x:α):∀n:Nat,(z::List.replicate n z).set n x=List.replicate n z++[x]
 | 0=>rfl
 | n+1=>by
  rw[List.set_cons_succ,List.replicate_succ,rep_set z x n];rfl
section
variable {tab:FuncId→Option AF} (T:HasA tab)
include T
theorem bsAt_p {M:Mem} {K:PV→Mem→Prop} {f o:Bool} {a:Wd} {i:Nat} (hk:K (p64u (wAt a i)) M):
  SemC tab 114 [slW f o a,p64 i] M K:=by
 refine q18 T.h114 (by simp only[PP,P1,P2,P3,P4,P5,P6,P7,P8,P9,P10,P11,P12,P13,P14,L1,P15,N1,N2,N3,N4,N5,N6,N7,I1,I2,I3,I4,I5,I6,I7,reduceIte,reduceCtorEq]) ?_
 simp only[af114,PP,P1,P2,P3,P4,P5,P6,P7,P8,P9,P10,P11,P12,P13,P14,L1,P15,N1,N2,N3,N4,N5,N6,N7,I1,I2,I3,I4,I5,I6,I7,reduceIte,reduceCtorEq]
 refine QIf.intro (fun c=>?_) (fun c=>?_)
 ·have hi:i<a.length:=by omega
  have i0:(0:Int)≤i:=by omega
  have g:=wI_get hi
  rw[List.getElem?_map]at g
  simp only[PP,P1,P2,P3,P4,P5,P6,P7,P8,P9,P10,P11,P12,P13,P14,L1,P15,N1,N2,N3,N4,N5,N6,N7,I1,I2,I3,I4,I5,I6,I7,reduceIte,reduceCtorEq,c,g,i0]
  exact hk
 ·rw[wAt_ge (by omega)]at hk
  simp only[PP,P1,P2,P3,P4,P5,P6,P7,P8,P9,P10,P11,P12,P13,P14,L1,P15,N1,N2,N3,N4,N5,N6,N7,I1,I2,I3,I4,I5,I6,I7,reduceIte,reduceCtorEq,c]
  exact hk
theorem clipW_p {M:Mem} {K:PV→Mem→Prop} {id g off n ver:Nat} {cs:List PV} (hM:M[id]? =some (.cells g ver cs)) (hk:K (.ref id g 1 off n) M):
  SemC tab 115 [.ref id g 1 off n] M K:=by
 refine SemC_fn T.h115 ?_
 have e:((n:Int)-0).toNat=n:=by omega
 have n0:(0:Int)≤n:=by omega
 simp only[af115,PP,P1,P2,P3,P4,P5,P6,P7,P8,P9,P10,P11,P12,P13,P14,L1,P15,N1,N2,N3,N4,N5,N6,N7,I1,I2,I3,I4,I5,I6,I7,reduceIte,reduceCtorEq,hM,e,n0,Int.le_refl]
 exact hk
theorem combine_p {M:Mem} {K:PV→Mem→Prop} {f1 o1 f2 o2:Bool} {a b:Wd} {g:FuncId} (op:BitVec 64→BitVec 64→BitVec 64) (ha:a.length<big) (hb:b.length<big)
  (hop:∀(M:Mem) (K:PV→Mem→Prop) (x y:BitVec 64),K (p64u (op x y)) M→SemC tab g [p64u x,p64u y] M K) (hk:K (slW false true (cmb op a b)) M):
  SemC tab 104 [slW f1 o1 a,slW f2 o2 b,.func (.func g) [] []] M K:=by
 refine q18 T.h104 (by simp only[PP,P1,P2,P3,P4,P5,P6,P7,P8,P9,P10,P11,P12,P13,P14,L1,P15,N1,N2,N3,N4,N5,N6,N7,I1,I2,I3,I4,I5,I6,I7,reduceIte,reduceCtorEq]) ?_
 simp only[af104,PP,P1,P2,P3,P4,P5,P6,P7,P8,P9,P10,P11,P12,P13,P14,L1,P15,N1,N2,N3,N4,N5,N6,N7,I1,I2,I3,I4,I5,I6,I7,reduceIte,reduceCtorEq]
 have hn:min (max (a.length:Int) b.length) 64=((min (max a.length b.length) 64:Nat):Int):=by omega
 have hk':K (slW false true (trim (cmbL op a b (min (max a.length b.length) 64)))) M:=hk
 generalize hnn:min (max a.length b.length) 64=n at hn hk'
 have hn64:n≤64:=by omega
 simp only[PP,P1,P2,P3,P4,P5,P6,P7,P8,P9,P10,P11,P12,P13,P14,L1,P15,N1,N2,N3,N4,N5,N6,N7,I1,I2,I3,I4,I5,I6,I7,reduceIte,reduceCtorEq,pmin2,hn]
 refine SemW_re (GStep.nil 8 1 rfl rfl rfl) ?_
 simp only[ptset,List.cons_append,List.nil_append,List.length_cons,List.length_nil,Nat.reduceAdd]
 refine loop2 (fun(i g2:Nat)=>i≤n)
  (fun i g2=>[slW f1 o1 a,slW f2 o2 b,.func (.func g) [] [],Zj,Zj,Zj,Zj,.func (.func 114) [] [],.ref 0 g2 1 0 i,Zj,Zj,Zj,Zj,Zj,Zj,p64 n,p64 i,Zj,Zj,Zj,Zj,Zj,Zj,Zj,Zj,Zj,Zj,Zj,Zj,Zj,Zj,Zj,Zj,Zj,Zj,Zj,Zj,Zj,Zj,Zj,Zj,Zj,Zj,Zj,Zj,Zj,Zj,Zj,Zj,Zj,Zj,Zj])
  (fun i g2=>[.cells g2 0 ((wI (cmbL op a b i)).map (PV.int .u64))])
  (fun i _=>n-i) 0 0 (by omega) (by simp only[PW]) rfl ?_
 intro i g2 hi ih
 refine q48 (by kernel_rfl) ?_
 simp only[PP,P1,P2,P3,P4,P5,P6,P7,P8,P9,P10,P11,P12,P13,P14,L1,P15,N1,N2,N3,N4,N5,N6,N7,I1,I2,I3,I4,I5,I6,I7,reduceIte,reduceCtorEq]
 refine QIf.intro (fun c=>?_) (fun c=>?_)
 ·have hin:i<n:=by omega
  have hw:=q49 (k:=i) (by show _<1000000000000;omega)
  have b1:(i+1)*8≤140737488355328:=by omega
  have b2:i≤9223372036854775806:=by omega
  have b3:i≤(cmbL op a b i).length:=by rw[cmbL_len];omega
  have hps:psub (List.map (PV.int .u64) (wI (cmbL op a b i))) 0 i=List.map (PV.int .u64) (wI (cmbL op a b i)):=q63 _ _ (by rw[List.length_map,List.length_map,cmbL_len])
  simp only[PP,P1,P2,P3,P4,P5,P6,P7,P8,P9,P10,P11,P12,P13,P14,L1,P15,N1,N2,N3,N4,N5,N6,N7,I1,I2,I3,I4,I5,I6,I7,reduceIte,reduceCtorEq,c]
  refine bsAt_p T ?_
  simp only[PP,P1,P2,P3,P4,P5,P6,P7,P8,P9,P10,P11,P12,P13,P14,L1,P15,N1,N2,N3,N4,N5,N6,N7,I1,I2,I3,I4,I5,I6,I7,reduceIte,reduceCtorEq]
  refine bsAt_p T ?_
  simp only[PP,P1,P2,P3,P4,P5,P6,P7,P8,P9,P10,P11,P12,P13,P14,L1,P15,N1,N2,N3,N4,N5,N6,N7,I1,I2,I3,I4,I5,I6,I7,reduceIte,reduceCtorEq]
  refine hop _ _ _ _ ?_
  simp only[PP,P1,P2,P3,P4,P5,P6,P7,P8,P9,P10,P11,P12,P13,P14,L1,P15,N1,N2,N3,N4,N5,N6,N7,I1,I2,I3,I4,I5,I6,I7,reduceIte,reduceCtorEq,b1,b2,b3,hps,hw]
  exact SemW_to (ih (i+1) (g2+1) (by omega) (by omega)) (by simp only[PW]) (by rw[cmbL_succ];simp)
 ·have hin:i=n:=by omega
  subst hin
  simp only[PP,P1,P2,P3,P4,P5,P6,P7,P8,P9,P10,P11,P12,P13,P14,L1,P15,N1,N2,N3,N4,N5,N6,N7,I1,I2,I3,I4,I5,I6,I7,reduceIte,reduceCtorEq,c]
  have hwl:=cmbL_len op a b i
  generalize cmbL op a b i=W at hk' hwl ⊢
  refine loop1 (fun(m:Nat)=>m≤i∧trimN W m=trimN W W.length)
   (fun m=>[Zj,Zj,Zj,Zj,Zj,Zj,Zj,Zj,.ref 0 g2 1 0 m,Zj,Zj,Zj,Zj,Zj,Zj,Zj,Zj,Zj,Zj,Zj,Zj,Zj,Zj,Zj,Zj,Zj,Zj,Zj,Zj,Zj,Zj,Zj,Zj,Zj,Zj,Zj,Zj,Zj,Zj,Zj,Zj,Zj,Zj,Zj,Zj,Zj,Zj,Zj,Zj,Zj,Zj,Zj]) (fun m=>[.cells g2 0 ((wI W).map (PV.int .u64))]) (fun m=>m) i ⟨by omega,by rw[hwl]⟩ (by simp only[PW]) rfl ?_
  intro m ⟨hm,htr⟩ ih2
  have hfin:trimN W m=m→K (slW false true (W.take m)) M:=fun e=>by
   have hk2:K (slW false true (W.take (trimN W W.length))) M:=hk'
   rw[←htr,e]at hk2;exact hk2
  refine q48 (by kernel_rfl) ?_
  simp only[PP,P1,P2,P3,P4,P5,P6,P7,P8,P9,P10,P11,P12,P13,P14,L1,P15,N1,N2,N3,N4,N5,N6,N7,I1,I2,I3,I4,I5,I6,I7,reduceIte,reduceCtorEq]
  refine QIf.intro (fun d=>?_) (fun d=>?_)
  ·obtain⟨j,rfl⟩:∃j,m=j+1:=⟨m-1,by omega⟩
   have hw:=wrap_pred (j:=j) (by omega)
   have j0:(0:Int)≤j:=by omega
   have j1:(j:Int)<((j+1:Nat):Int):=by omega
   have gj:=wI_get (a:=W) (i:=j) (by omega)
   rw[List.getElem?_map]at gj
   have e2:((j:Int)-0).toNat=j:=by omega
   have j2:(j:Int)≤((j+1:Nat):Int):=by omega
   simp only[PP,P1,P2,P3,P4,P5,P6,P7,P8,P9,P10,P11,P12,P13,P14,L1,P15,N1,N2,N3,N4,N5,N6,N7,I1,I2,I3,I4,I5,I6,I7,reduceIte,reduceCtorEq,hw,j0,j1,gj,d]
   have et:trimN W (j+1)=if wAt W j=0#64 then trimN W j else j+1:=rfl
   rw[et]at htr hfin
   refine QIf.intro (fun e=>?_) (fun e=>?_)
   ·have hz:wAt W j=0#64:=BitVec.eq_of_toNat_eq (by simpa using e)
    rw[if_pos hz]at htr
    simp only[PP,P1,P2,P3,P4,P5,P6,P7,P8,P9,P10,P11,P12,P13,P14,L1,P15,N1,N2,N3,N4,N5,N6,N7,I1,I2,I3,I4,I5,I6,I7,reduceIte,reduceCtorEq,e,hw,j0,j2,e2]
    exact q35 (ih2 j ⟨by omega,htr⟩ (by omega)) (by simp only[PW])
   ·have hz:¬wAt W j=0#64:=fun h=>e (by rw[h];rfl)
    rw[if_neg hz]at hfin
    have hk3:=hfin rfl
    simp only[PP,P1,P2,P3,P4,P5,P6,P7,P8,P9,P10,P11,P12,P13,P14,L1,P15,N1,N2,N3,N4,N5,N6,N7,I1,I2,I3,I4,I5,I6,I7,reduceIte,reduceCtorEq,e]
    refine clipW_p T rfl ?_
    simp only[PP,P1,P2,P3,P4,P5,P6,P7,P8,P9,P10,P11,P12,P13,P14,L1,P15,N1,N2,N3,N4,N5,N6,N7,I1,I2,I3,I4,I5,I6,I7,reduceIte,reduceCtorEq,frzW (W:=W) (m:=j+1) (by omega)]
    exact hk3
  ·have:m=0:=by omega
   subst this
   have hk3:=hfin rfl
   simp only[PP,P1,P2,P3,P4,P5,P6,P7,P8,P9,P10,P11,P12,P13,P14,L1,P15,N1,N2,N3,N4,N5,N6,N7,I1,I2,I3,I4,I5,I6,I7,reduceIte,reduceCtorEq,d]
   refine clipW_p T rfl ?_
   simp only[PP,P1,P2,P3,P4,P5,P6,P7,P8,P9,P10,P11,P12,P13,P14,L1,P15,N1,N2,N3,N4,N5,N6,N7,I1,I2,I3,I4,I5,I6,I7,reduceIte,reduceCtorEq,frzW (W:=W) (m:=0) (by omega)]
   exact hk3
theorem orW_p {M:Mem} {K:PV→Mem→Prop} {x y:BitVec 64} (hk:K (p64u (x||| y)) M):SemC tab 109 [p64u x,p64u y] M K:=by
 refine q18 T.h109 (by simp only[PP,P1,P2,P3,P4,P5,P6,P7,P8,P9,P10,P11,P12,P13,P14,L1,P15,N1,N2,N3,N4,N5,N6,N7,I1,I2,I3,I4,I5,I6,I7,reduceIte,reduceCtorEq]) ?_
 simp only[af109,PP,P1,P2,P3,P4,P5,P6,P7,P8,P9,P10,P11,P12,P13,P14,L1,P15,N1,N2,N3,N4,N5,N6,N7,I1,I2,I3,I4,I5,I6,I7,reduceIte,reduceCtorEq,pbin_or64]
 exact hk
theorem andW_p {M:Mem} {K:PV→Mem→Prop} {x y:BitVec 64} (hk:K (p64u (x&&& y)) M):SemC tab 105 [p64u x,p64u y] M K:=by
 refine q18 T.h105 (by simp only[PP,P1,P2,P3,P4,P5,P6,P7,P8,P9,P10,P11,P12,P13,P14,L1,P15,N1,N2,N3,N4,N5,N6,N7,I1,I2,I3,I4,I5,I6,I7,reduceIte,reduceCtorEq]) ?_
 simp only[af105,PP,P1,P2,P3,P4,P5,P6,P7,P8,P9,P10,P11,P12,P13,P14,L1,P15,N1,N2,N3,N4,N5,N6,N7,I1,I2,I3,I4,I5,I6,I7,reduceIte,reduceCtorEq,pbin_and64]
 exact hk
theorem union_p {M:Mem} {K:PV→Mem→Prop} {f1 o1 f2 o2:Bool} {a b:Wd} (ha:a.length<big) (hb:b.length<big) (hk:K (slW false true (cmb (fun x y=>x||| y) a b)) M):
  SemC tab 101 [slW f1 o1 a,slW f2 o2 b] M K:=by
 refine q18 T.h101 (by simp only[PP,P1,P2,P3,P4,P5,P6,P7,P8,P9,P10,P11,P12,P13,P14,L1,P15,N1,N2,N3,N4,N5,N6,N7,I1,I2,I3,I4,I5,I6,I7,reduceIte,reduceCtorEq]) ?_
 simp only[af101,PP,P1,P2,P3,P4,P5,P6,P7,P8,P9,P10,P11,P12,P13,P14,L1,P15,N1,N2,N3,N4,N5,N6,N7,I1,I2,I3,I4,I5,I6,I7,reduceIte,reduceCtorEq]
 refine combine_p T (fun x y=>x||| y) ha hb (fun M K x y h=>orW_p T h) ?_
 simp only[PP,P1,P2,P3,P4,P5,P6,P7,P8,P9,P10,P11,P12,P13,P14,L1,P15,N1,N2,N3,N4,N5,N6,N7,I1,I2,I3,I4,I5,I6,I7,reduceIte,reduceCtorEq]
 exact hk
theorem intersect_p {M:Mem} {K:PV→Mem→Prop} {f1 o1 f2 o2:Bool} {a b:Wd} (ha:a.length<big) (hb:b.length<big) (hk:K (slW false true (cmb (fun x y=>x&&& y) a b)) M):
  SemC tab 94 [slW f1 o1 a,slW f2 o2 b] M K:=by
 refine q18 T.h94 (by simp only[PP,P1,P2,P3,P4,P5,P6,P7,P8,P9,P10,P11,P12,P13,P14,L1,P15,N1,N2,N3,N4,N5,N6,N7,I1,I2,I3,I4,I5,I6,I7,reduceIte,reduceCtorEq]) ?_
 simp only[af94,PP,P1,P2,P3,P4,P5,P6,P7,P8,P9,P10,P11,P12,P13,P14,L1,P15,N1,N2,N3,N4,N5,N6,N7,I1,I2,I3,I4,I5,I6,I7,reduceIte,reduceCtorEq]
 refine combine_p T (fun x y=>x&&& y) ha hb (fun M K x y h=>andW_p T h) ?_
 simp only[PP,P1,P2,P3,P4,P5,P6,P7,P8,P9,P10,P11,P12,P13,P14,L1,P15,N1,N2,N3,N4,N5,N6,N7,I1,I2,I3,I4,I5,I6,I7,reduceIte,reduceCtorEq]
 exact hk
theorem single_p {M:Mem} {K:PV→Mem→Prop} {k:Nat} (h:k<4096) (hk:K (slW false true (sing k)) M):SemC tab 102 [p64 k] M K:=by
 refine q18 T.h102 (by simp only[PP,P1,P2,P3,P4,P5,P6,P7,P8,P9,P10,P11,P12,P13,P14,L1,P15,N1,N2,N3,N4,N5,N6,N7,I1,I2,I3,I4,I5,I6,I7,reduceIte,reduceCtorEq]) ?_
 have k0:¬(k:Int)<0:=by omega
 have k1:¬(4095:Int)<k:=by omega
 have h64:(64:Int)≠0:=by omega
 have e1:IntKind.i64.wrap ((k:Int).tdiv 64)=((k / 64:Nat):Int):=by
  rw[Int.tdiv_eq_ediv_of_nonneg (by omega),wrap64 (by omega) (by omega)];omega
 have e2:(k:Int).tmod 64=((k % 64:Nat):Int):=by rw[Int.tmod_eq_emod_of_nonneg (by omega)];omega
 have e3:=q49 (k:=k / 64) (by show _<1000000000000;omega)
 have b0:(0:Int)≤((k / 64+1:Nat):Int):=by omega
 have b1:((k / 64+1:Nat):Int)*8≤140737488355328:=by omega
 have b2:((k / 64+1:Nat):Int)≤9223372036854775807:=by omega
 have b3:(0:Int)≤((k / 64:Nat):Int):=by omega
 have b4:((k / 64:Nat):Int)<((k / 64+1:Nat):Int):=by omega
 have b5:k / 64+1≤k / 64+1:=Nat.le_refl _
 have hsh:=pbin_shl64 (k:=k % 64) (Nat.mod_lt _ (by omega))
 simp only[af102,PP,P1,P2,P3,P4,P5,P6,P7,P8,P9,P10,P11,P12,P13,P14,L1,P15,N1,N2,N3,N4,N5,N6,N7,I1,I2,I3,I4,I5,I6,I7,reduceIte,reduceCtorEq,k0,k1,prem h64,pquo64 h64,e1,e2,e3,b0,b1,b2,b3,b4,hsh,Int.le_refl]
 have hc:List.replicate (k / 64) (PV.int .u64 0)++[PV.int .u64 (((BitVec.twoPow 64 (k % 64)).toNat:Nat):Int)]=(wI (sing k)).map (PV.int .u64):=by
  simp[sing]
 have hl:=sing_len k
 rw[rep_set,hc]
 have ht:(sing k).take (k / 64+1)=sing k:=List.take_of_length_le (by omega)
 simp only[PP,P1,P2,P3,P4,P5,P6,P7,P8,P9,P10,P11,P12,P13,P14,L1,P15,N1,N2,N3,N4,N5,N6,N7,I1,I2,I3,I4,I5,I6,I7,reduceIte,reduceCtorEq,frzW (W:=sing k) (m:=k / 64+1) (by omega),ht]
 exact hk
theorem with_p {M:Mem} {K:PV→Mem→Prop} {f o:Bool} {a:Wd} {k:Nat} (ha:a.length<big) (h:k<4096) (hk:K (slW false true (withK a k)) M):SemC tab 90 [slW f o a,p64 k] M K:=by
 refine q18 T.h90 (by simp only[PP,P1,P2,P3,P4,P5,P6,P7,P8,P9,P10,P11,P12,P13,P14,L1,P15,N1,N2,N3,N4,N5,N6,N7,I1,I2,I3,I4,I5,I6,I7,reduceIte,reduceCtorEq]) ?_
 simp only[af90,PP,P1,P2,P3,P4,P5,P6,P7,P8,P9,P10,P11,P12,P13,P14,L1,P15,N1,N2,N3,N4,N5,N6,N7,I1,I2,I3,I4,I5,I6,I7,reduceIte,reduceCtorEq]
 refine single_p T h ?_
 simp only[PP,P1,P2,P3,P4,P5,P6,P7,P8,P9,P10,P11,P12,P13,P14,L1,P15,N1,N2,N3,N4,N5,N6,N7,I1,I2,I3,I4,I5,I6,I7,reduceIte,reduceCtorEq]
 refine union_p T ha (by rw[sing_len];show _<1000000000000;omega) ?_
 simp only[PP,P1,P2,P3,P4,P5,P6,P7,P8,P9,P10,P11,P12,P13,P14,L1,P15,N1,N2,N3,N4,N5,N6,N7,I1,I2,I3,I4,I5,I6,I7,reduceIte,reduceCtorEq]
 exact hk
theorem of_p {M:Mem} {K:PV→Mem→Prop} {f o:Bool} {l:List Nat} {xs:List Int} (e:natI l=xs) (hb:l.length<big) (h:∀x∈l,x<4096) (hk:K (slW false true (ofL l)) M):SemC tab 64 [slI f o .i64 xs] M K:=by
 subst e
 refine SemC_wk ?_
 refine q18 T.h64 (by simp only[PP,P1,P2,P3,P4,P5,P6,P7,P8,P9,P10,P11,P12,P13,P14,L1,P15,N1,N2,N3,N4,N5,N6,N7,I1,I2,I3,I4,I5,I6,I7,reduceIte,reduceCtorEq]) ?_
 simp only[af64,PP,P1,P2,P3,P4,P5,P6,P7,P8,P9,P10,P11,P12,P13,P14,L1,P15,N1,N2,N3,N4,N5,N6,N7,I1,I2,I3,I4,I5,I6,I7,reduceIte,reduceCtorEq]
 refine SemW_re (GStep.wk 2 (slW false true []) (PvWk.nils _ _ _) rfl) ?_
 simp only[ptset]
 have hb':l.length<1000000000000:=hb
 refine loop2 (fun(k:Nat) (a:Wd)=>k≤l.length∧a.length≤64∧(l.drop k).foldl withK a=ofL l)
  (fun k a=>[Zj,Zj,slW false true a,Zj,Zj,slI f o .i64 (natI l),p64 l.length,p64 k,Zj,Zj,Zj,Zj,Zj,Zj,Zj,Zj]) (fun _ _=>[]) (fun k _=>l.length-k) 0 [] ⟨by omega,by simp,rfl⟩ (by simp only[PW]) rfl ?_
 intro k a ⟨hle,hal,hfo⟩ ih
 refine q48 (by kernel_rfl) ?_
 simp only[PP,P1,P2,P3,P4,P5,P6,P7,P8,P9,P10,P11,P12,P13,P14,L1,P15,N1,N2,N3,N4,N5,N6,N7,I1,I2,I3,I4,I5,I6,I7,reduceIte,reduceCtorEq]
 refine QIf.intro (fun c=>?_) (fun c=>?_)
 ·have hk':k<l.length:=by omega
  obtain⟨x,g⟩:=some_of hk'
  have hw:=q49 (k:=k) (by show _<1000000000000;omega)
  have k0:(0:Int)≤k:=by omega
  rw[drop_some g,List.foldl_cons]at hfo
  simp only[PP,P1,P2,P3,P4,P5,P6,P7,P8,P9,P10,P11,P12,P13,P14,L1,P15,N1,N2,N3,N4,N5,N6,N7,I1,I2,I3,I4,I5,I6,I7,reduceIte,reduceCtorEq,c,g,k0]
  refine with_p T (by show _<1000000000000;omega) (h x (List.mem_of_getElem? g)) ?_
  simp only[PP,P1,P2,P3,P4,P5,P6,P7,P8,P9,P10,P11,P12,P13,P14,L1,P15,N1,N2,N3,N4,N5,N6,N7,I1,I2,I3,I4,I5,I6,I7,reduceIte,reduceCtorEq,hw]
  exact q35 (ih (k+1) (withK a x) ⟨by omega,cmb_len _ _ _,hfo⟩ (by omega)) (by simp only[PW])
 ·rw[List.drop_eq_nil_of_le (by omega),List.foldl_nil]at hfo
  subst hfo
  simp only[PP,P1,P2,P3,P4,P5,P6,P7,P8,P9,P10,P11,P12,P13,P14,L1,P15,N1,N2,N3,N4,N5,N6,N7,I1,I2,I3,I4,I5,I6,I7,reduceIte,reduceCtorEq,c]
  exact⟨_,PvWk.refl _,hk⟩
theorem intersects_p {M:Mem} {K:PV→Mem→Prop} {f1 o1 f2 o2:Bool} {a b:Wd} (ha:a.length<big) (hb:b.length<big) (hk:K (.bool (decide (0<(cmb (fun x y=>x&&& y) a b).length))) M):
  SemC tab 69 [slW f1 o1 a,slW f2 o2 b] M K:=by
 refine q18 T.h69 (by simp only[PP,P1,P2,P3,P4,P5,P6,P7,P8,P9,P10,P11,P12,P13,P14,L1,P15,N1,N2,N3,N4,N5,N6,N7,I1,I2,I3,I4,I5,I6,I7,reduceIte,reduceCtorEq]) ?_
 simp only[af69,PP,P1,P2,P3,P4,P5,P6,P7,P8,P9,P10,P11,P12,P13,P14,L1,P15,N1,N2,N3,N4,N5,N6,N7,I1,I2,I3,I4,I5,I6,I7,reduceIte,reduceCtorEq]
 refine intersect_p T ha hb ?_
 simp only[PP,P1,P2,P3,P4,P5,P6,P7,P8,P9,P10,P11,P12,P13,P14,L1,P15,N1,N2,N3,N4,N5,N6,N7,I1,I2,I3,I4,I5,I6,I7,reduceIte,reduceCtorEq,Int.natCast_pos]
 exact hk
end
theorem and_sing {a:Wd} {k:Nat} (ha:a.length≤64) (hk:k<4096):decide (0<(cmb (fun x y=>x&&& y) a (sing k)).length)=bit a k:=by
 have hs:(sing k).length≤64:=by rw[sing_len];omega
 cases hb:bit a k with
 | true=>
  refine decide_eq_true (Nat.pos_of_ne_zero fun h=>?_)
  have:=(cmb_nil a (sing k)).1 h k
  rw[bit_cmb_and ha hs,bit_sing,hb]at this
  simp at this
 | false=>
  refine decide_eq_false (fun h=>?_)
  have:(cmb (fun x y=>x&&& y) a (sing k)).length=0:=(cmb_nil a (sing k)).2 fun j=>by
   rw[bit_cmb_and ha hs,bit_sing]
   by_cases e:j=k
   ·subst e;rw[hb];rfl
   ·simp[e]
  omega
section
variable {tab:FuncId→Option AF} (T:HasA tab)
include T
theorem bsHas_p {M:Mem} {K:PV→Mem→Prop} {f o:Bool} {a:Wd} {k:Nat} (ha:a.length≤64) (hk:k<4096) (hq:K (.bool (bit a k)) M):
  SemC tab 97 [slW f o a,p64 k] M K:=by
 refine q18 T.h97 (by simp only[PP,P1,P2,P3,P4,P5,P6,P7,P8,P9,P10,P11,P12,P13,P14,L1,P15,N1,N2,N3,N4,N5,N6,N7,I1,I2,I3,I4,I5,I6,I7,reduceIte,reduceCtorEq]) ?_
 simp only[af97,PP,P1,P2,P3,P4,P5,P6,P7,P8,P9,P10,P11,P12,P13,P14,L1,P15,N1,N2,N3,N4,N5,N6,N7,I1,I2,I3,I4,I5,I6,I7,reduceIte,reduceCtorEq]
 refine single_p T hk ?_
 simp only[PP,P1,P2,P3,P4,P5,P6,P7,P8,P9,P10,P11,P12,P13,P14,L1,P15,N1,N2,N3,N4,N5,N6,N7,I1,I2,I3,I4,I5,I6,I7,reduceIte,reduceCtorEq]
 refine intersects_p T (by show _<1000000000000;omega) (by show _<1000000000000;rw[sing_len];omega) ?_
 simp only[PP,P1,P2,P3,P4,P5,P6,P7,P8,P9,P10,P11,P12,P13,P14,L1,P15,N1,N2,N3,N4,N5,N6,N7,I1,I2,I3,I4,I5,I6,I7,reduceIte,reduceCtorEq,and_sing ha hk]
 exact hq
end
theorem posM_mem {n:Int} {l:List Int} (h:posM n (-1) l=true):∀x∈l,0≤x∧x<n:=fun x hx=>by
 have:=(posM_rise h).2 x hx;omega
def faW (l:List Int):Wd:=ofL (l.map Int.toNat)
theorem natI_toNat {n:Int} {l:List Int} (h:∀x∈l,0≤x∧x<n):natI (l.map Int.toNat)=l:=by
 show(l.map Int.toNat).map (fun(v:Nat)=>(v:Int))=l
 rw[List.map_map]
 conv=>rhs;rw[←List.map_id l]
 exact List.map_congr_left fun x hx=>by have:=h x hx;show((x.toNat:Nat):Int)=x;omega
theorem fa_ok {N:NF} (C:NOk N) {l:List Int} (h:posM N.n (-1) l=true):(∀x∈l.map Int.toNat,x<4096)∧(faW l).length≤64∧∀k:Nat,bit (faW l) k=decide ((k:Int)∈l):=by
 have hm:=posM_mem h
 have n64:=C.n64
 have h1:∀x∈l.map Int.toNat,x<4096:=fun x hx=>by
  obtain⟨y,hy,rfl⟩:=List.mem_map.1 hx
  have:=hm y hy;omega
 refine⟨h1,ofL_len h1,fun k=>?_⟩
 rw[faW,bit_ofL h1,decide_eq_decide,List.mem_map]
 exact⟨fun⟨y,hy,e⟩=>by have:=hm y hy;rw[show(k:Int)=y by omega];exact hy,fun hk=>⟨k,hk,by simp⟩⟩
theorem posM_len {n:Int} {l:List Int} (h:posM n (-1) l=true) (hn:n≤64):l.length≤64:=by
 obtain⟨h1,h2⟩:=posM_rise h
 have key:∀(l:List Int) (a:Int),l.Pairwise (· < ·)→(∀x∈l,a<x∧x<n)→(l.length:Int)≤max 0 (n-a-1):=by
  intro l
  induction l with
  | nil=>intro a _ _;simp;omega
  | cons x l ih=>
   intro a hp hx
   have h1:=List.pairwise_cons.1 hp
   have h2:=ih x h1.2 fun z hz=>⟨h1.1 z hz,(hx z (by simp[hz])).2⟩
   have h3:=hx x (by simp)
   rw[List.length_cons];omega
 have:=key l (-1) h1 h2
 omega
section
variable {tab:FuncId→Option AF} (T:HasA tab)
include T
theorem ofF_p {M:Mem} {K:PV→Mem→Prop} {f o:Bool} {N:NF} (C:NOk N) {l:List Int} (h:posM N.n (-1) l=true) (hk:K (slW false true (faW l)) M):SemC tab 64 [slI f o .i64 l] M K:=by
 obtain⟨fa1,fa2,fa3⟩:=fa_ok C h
 have hfl:l.length≤64:=posM_len h C.n64
 exact of_p T (l:=l.map Int.toNat) (natI_toNat (posM_mem h)) (by show _<1000000000000;rw[List.length_map];omega) fa1 hk
end
def matE (es:List Eg) (x:Nat):List Eg:=es.filter fun e=>hasB e.ps e.ng x
def AftP (es:List Eg) (s:Wd) (x:Nat) (o:Wd):Prop:=o.length≤64∧∀k:Nat,bit o k=true↔∃e∈matE es x,bit s e.fr.toNat=true∧e.to=k
theorem bit_with {a:Wd} {k:Nat} (ha:a.length≤64) (hk:k<4096):(withK a k).length≤64∧∀j,bit (withK a k) j=(bit a j||decide (j=k)):=by
 have:=ofL_go [k] a ha (fun x hx=>by simp at hx;subst hx;exact hk)
 refine⟨this.1,fun j=>?_⟩
 have h:=this.2 j
 simpa using h
section
variable {tab:FuncId→Option AF} (T:HasA tab)
include T
theorem matching_p {M:Mem} {K:PV→Mem→Prop} {f1 o1 f2 o2 f3 o3:Bool} {N:NF} {x:Nat} (hk:K (.func (.func 106) [] [.cp (nfC f1 o1 f2 o2 f3 o3 N) 0,.cp [p8 x] 0]) M):
  SemC tab 96 [.agg (nfC f1 o1 f2 o2 f3 o3 N),p8 x] M K:=by
 refine SemC_pureS T.h96 (by simp only[PP,P1,P2,P3,P4,P5,P6,P7,P8,P9,P10,P11,P12,P13,P14,L1,P15,N1,N2,N3,N4,N5,N6,N7,I1,I2,I3,I4,I5,I6,I7,reduceIte,reduceCtorEq,under_slE]) ?_
 simp only[af96]
 refine q28 (q13 ?_)
 simp only[PP,P1,P2,P3,P4,P5,P6,P7,P8,P9,P10,P11,P12,P13,P14,L1,P15,N1,N2,N3,N4,N5,N6,N7,I1,I2,I3,I4,I5,I6,I7,reduceIte,reduceCtorEq]
 refine SemW_re (GStep.freezeP (b:=[Zj,Zj,.cp (nfC f1 o1 f2 o2 f3 o3 N) 0,.ptr 1 0 0,Zj,Zj]) 0 (Nat.zero_le _) rfl (by simp only[PFrzP_nil,PFrzP_junk,PFrzP_same,PFrzP_ptr]) rfl) ?_
 refine SemW_re (GStep.freezeP (b:=[Zj,Zj,.cp (nfC f1 o1 f2 o2 f3 o3 N) 0,.cp [p8 x] 0,Zj,Zj]) 1 (Nat.zero_le _) rfl (by simp only[PFrzP_nil,PFrzP_junk,PFrzP_same,PFrzP_ptr]) rfl) ?_
 refine q13 ?_
 have e:∀N':Mem,pfrz 0 N' (.func (.func 106) [] [.cp (nfC f1 o1 f2 o2 f3 o3 N) 0,.cp [p8 x] 0])=some (.func (.func 106) [] [.cp (nfC f1 o1 f2 o2 f3 o3 N) 0,.cp [p8 x] 0]):=fun N'=>pfrz1_func' (M:=N') (by simp only[PP,P1,P2,P3,P4,P5,P6,P7,P8,P9,P10,P11,P12,P13,P14,L1,P15,N1,N2,N3,N4,N5,N6,N7,I1,I2,I3,I4,I5,I6,I7,reduceIte,reduceCtorEq,PV.under,egL_und])
 simp only[PP,P1,P2,P3,P4,P5,P6,P7,P8,P9,P10,P11,P12,P13,P14,L1,P15,N1,N2,N3,N4,N5,N6,N7,I1,I2,I3,I4,I5,I6,I7,reduceIte,reduceCtorEq,e]
 exact hk
set_option maxHeartbeats 1000000 in
theorem matchY_p {M:Mem} {K:PV→Mem→Prop} {L:Nat} {f1 o1 f2 o2 f3 o3:Bool} {N:NF} {x:Nat} (hx:x<256) (he:N.es.length<1000000000000) (B:∀e∈N.es,(0≤e.ps∧e.ps≤255)∧(0≤e.ng∧e.ng≤255)) (J:Nat→Mem→Prop) (h0:J 0 M) (hg:∀k G o,J k G→J k (G++[o]))
  (hl:∀k G,J k G→∃ver r,G[L]? =some (.loop ver r))
  (hy:∀k G e,J k G→(matE N.es x)[k]? =some e→∀K':PV→Mem→Prop,(∀G',J (k+1) G'→K' (.bool true) G')→SemY tab L [.agg (egC e)] G K')
  (hk:∀G,J (matE N.es x).length G→K (.tuple []) G):
  SemC tab 106 [.yld L [],.cp (nfC f1 o1 f2 o2 f3 o3 N) 0,.cp [p8 x] 0] M K:=by
 refine SemC_fn T.h106 ?_
 simp only[af106,PP,P1,P2,P3,P4,P5,P6,P7,P8,P9,P10,P11,P12,P13,P14,L1,P15,N1,N2,N3,N4,N5,N6,N7,I1,I2,I3,I4,I5,I6,I7,reduceIte,reduceCtorEq]
 refine loop2 (fun(i:Nat) (G:Mem)=>i≤N.es.length∧J (matE (N.es.take i) x).length G) (fun i G=>[.yld L [],Zj,.cp [p8 x] 0,Zj,Zj,Zj,Zj,slE f3 o3 N.es,p64 N.es.length,p64 i,Zj,Zj,Zj,Zj,Zj,Zj,Zj,Zj,Zj,Zj,Zj,Zj,Zj,Zj,Zj,Zj,Zj]) (fun _ G=>G) (fun i _=>N.es.length-i) 0 M ⟨by omega,h0⟩ (by simp only[PW]) rfl ?_
 intro i G ⟨hle,hJ⟩ ih
 refine q48 (by kernel_rfl) ?_
 simp only[PP,P1,P2,P3,P4,P5,P6,P7,P8,P9,P10,P11,P12,P13,P14,L1,P15,N1,N2,N3,N4,N5,N6,N7,I1,I2,I3,I4,I5,I6,I7,reduceIte,reduceCtorEq]
 refine QIf.intro (fun c=>?_) (fun c=>?_)
 rotate_left
 ·have hi:i=N.es.length:=by omega
  subst hi
  rw[List.take_of_length_le (Nat.le_refl _)]at hJ
  simp only[PP,P1,P2,P3,P4,P5,P6,P7,P8,P9,P10,P11,P12,P13,P14,L1,P15,N1,N2,N3,N4,N5,N6,N7,I1,I2,I3,I4,I5,I6,I7,reduceIte,reduceCtorEq,c]
  exact hk G hJ
 have hi':i<N.es.length:=by omega
 obtain⟨e,ge⟩:=some_of hi'
 have hw:=q49 (k:=i) (by show _<1000000000000;omega)
 have i0:(0:Int)≤i:=by omega
 have h4:=psub_egL ge
 have hl4:i*4+4≤(egL N.es).length:=by rw[egL_len];exact eg_le ge
 obtain⟨b1,b2⟩:=B e (List.mem_of_getElem? ge)
 have htk:matE (N.es.take (i+1)) x=matE (N.es.take i) x++if hasB e.ps e.ng x=true then [e] else []:=by
  unfold matE
  rw[List.take_add_one,ge,List.filter_append]
  congr 1
  by_cases q:hasB e.ps e.ng x=true<;>simp[q]
 simp only[PP,P1,P2,P3,P4,P5,P6,P7,P8,P9,P10,P11,P12,P13,P14,L1,P15,N1,N2,N3,N4,N5,N6,N7,I1,I2,I3,I4,I5,I6,I7,reduceIte,reduceCtorEq,c,i0,h4,hl4,List.append_assoc,gk,gk0,sk,sk0]
 refine has_p T b1 b2 hx ?_
 cases q:hasB e.ps e.ng x with
 | false=>
  rw[q]at htk
  simp only[PP,P1,P2,P3,P4,P5,P6,P7,P8,P9,P10,P11,P12,P13,P14,L1,P15,N1,N2,N3,N4,N5,N6,N7,I1,I2,I3,I4,I5,I6,I7,reduceIte,reduceCtorEq,hw]
  refine SemW_to (ih (i+1) (G++[.cells 0 1 (egC e)]) ⟨by omega,?_⟩ (by omega)) (by simp only[PW]) rfl
  rw[htk];simp;exact hg _ _ _ hJ
 | true=>
  rw[q]at htk
  have hat:(matE N.es x)[(matE (N.es.take i) x).length]? =some e:=by
   have:matE N.es x=matE (N.es.take (i+1)) x++matE (N.es.drop (i+1)) x:=by
    unfold matE;rw[←List.filter_append,List.take_append_drop]
   rw[this,htk,List.append_assoc,List.getElem?_append_right (Nat.le_refl _),Nat.sub_self]
   simp
  simp only[PP,P1,P2,P3,P4,P5,P6,P7,P8,P9,P10,P11,P12,P13,P14,L1,P15,N1,N2,N3,N4,N5,N6,N7,I1,I2,I3,I4,I5,I6,I7,reduceIte,reduceCtorEq,List.append_assoc,gk,gk0,sk,sk0,QCall_yl]
  refine⟨hl _ _ (hg _ _ _ hJ),?_⟩
  refine hy _ _ e (hg _ _ _ hJ) hat _ fun G' hJ'=>?_
  simp only[PP,P1,P2,P3,P4,P5,P6,P7,P8,P9,P10,P11,P12,P13,P14,L1,P15,N1,N2,N3,N4,N5,N6,N7,I1,I2,I3,I4,I5,I6,I7,reduceIte,reduceCtorEq,hw]
  refine q35 (ih (i+1) G' ⟨by omega,?_⟩ (by omega)) (by simp only[PW])
  rw[htk];simpa using hJ'
end
section
variable {tab:FuncId→Option AF} (T:HasA tab)
include T
set_option maxHeartbeats 1000000 in
theorem aft_p {M:Mem} {K:PV→Mem→Prop} {f1 o1 f2 o2 f3 o3 f4 o4:Bool} {N:NF} {s:Wd} {x:Nat} (C:NOk N) (B:BnN N) (hs:s.length≤64) (hx:x<256) (hk:∀o,AftP N.es s x o→K (slW false true o) M):
  SemC tab 80 [.agg (nfC f1 o1 f2 o2 f3 o3 N),slW f4 o4 s,p8 x] M K:=by
 have n64:=C.n64
 refine SemC_pureS T.h80 (by simp only[PP,P1,P2,P3,P4,P5,P6,P7,P8,P9,P10,P11,P12,P13,P14,L1,P15,N1,N2,N3,N4,N5,N6,N7,I1,I2,I3,I4,I5,I6,I7,reduceIte,reduceCtorEq,under_slE]) ?_
 simp only[af80]
 refine q28 (q13 ?_)
 simp only[PP,P1,P2,P3,P4,P5,P6,P7,P8,P9,P10,P11,P12,P13,P14,L1,P15,N1,N2,N3,N4,N5,N6,N7,I1,I2,I3,I4,I5,I6,I7,reduceIte,reduceCtorEq]
 refine SemW_re (GStep.freezeP (b:=[Zj,Zj,p8 x,.cp (nfC f1 o1 f2 o2 f3 o3 N) 0,.ptr 1 0 0,Zj,.ptr 2 0 0,Zj,Zj,Zj,Zj,Zj,Zj,Zj,Zj,Zj,Zj,Zj,Zj,Zj,Zj]) 0 (Nat.zero_le _) rfl (by simp only[PFrzP_nil,PFrzP_junk,PFrzP_same,PFrzP_ptr]) rfl) ?_
 refine SemW_re (GStep.freezeP (b:=[Zj,Zj,p8 x,.cp (nfC f1 o1 f2 o2 f3 o3 N) 0,.cp [slW f4 o4 s] 0,Zj,.ptr 2 0 0,Zj,Zj,Zj,Zj,Zj,Zj,Zj,Zj,Zj,Zj,Zj,Zj,Zj,Zj]) 1 (Nat.zero_le _) rfl (by simp only[PFrzP_nil,PFrzP_junk,PFrzP_same,PFrzP_ptr]) rfl) ?_
 refine SemW_re (GStep.wkC (v':=slW false true []) 2 0 rfl (fun v h=>by cases h;exact PvWk.nils _ _ _) rfl) ?_
 refine q13 ?_
 simp only[PP,P1,P2,P3,P4,P5,P6,P7,P8,P9,P10,P11,P12,P13,P14,L1,P15,N1,N2,N3,N4,N5,N6,N7,I1,I2,I3,I4,I5,I6,I7,reduceIte,reduceCtorEq]
 refine matching_p T ?_
 simp only[PP,P1,P2,P3,P4,P5,P6,P7,P8,P9,P10,P11,P12,P13,P14,L1,P15,N1,N2,N3,N4,N5,N6,N7,I1,I2,I3,I4,I5,I6,I7,reduceIte,reduceCtorEq]
 refine q35 (b:=[Zj,Zj,Zj,Zj,.cp [slW f4 o4 s] 0,Zj,.ptr 2 0 0,Zj,Zj,Zj,.func (.func 106) [] [.cp (nfC f1 o1 f2 o2 f3 o3 N) 0,.cp [p8 x] 0],Zj,Zj,Zj,Zj,Zj,Zj,Zj,Zj,Zj,Zj]) ?_ (by simp only[PW])
 refine SemW_rangeN rfl (fun lp q1 q2 q3 q4 q5 q6=>?_)
 simp only[PP,P1,P2,P3,P4,P5,P6,P7,P8,P9,P10,P11,P12,P13,P14,L1,P15,N1,N2,N3,N4,N5,N6,N7,I1,I2,I3,I4,I5,I6,I7,reduceIte,reduceCtorEq]
 refine matchY_p T (L:=3) hx B.e B.b (fun k G=>∃ver v o Gs,G=[.gone,.gone,.cells 0 v [slW false true o],.loop ver lp]++Gs∧o.length≤64∧∀j:Nat,bit o j=true↔∃e∈(matE N.es x).take k,bit s e.fr.toNat=true∧e.to=j)
  ⟨0,0,[],[],rfl,by simp,fun j=>by simp[bit,wAt]⟩ ?_ ?_ ?_ ?_
 ·rintro k G o ⟨ver,v,o',Gs,rfl,h⟩
  exact⟨ver,v,o',Gs++[o],by simp only[List.append_assoc],h⟩
 ·rintro k G ⟨ver,v,o',Gs,rfl,h⟩
  exact⟨ver,lp,rfl⟩
 ·rintro k G e ⟨ver,v,o,Gs,rfl,ho,hb⟩ hat K' hK'
  refine SemY_run (ver:=ver) (r:=lp) rfl (by rw[q4];rfl) ?_
  rw[q3,q4,q5]
  refine q13 ?_
  simp only[psetAll,PP,P1,P2,P3,P4,P5,P6,P7,P8,P9,P10,P11,P12,P13,P14,L1,P15,N1,N2,N3,N4,N5,N6,N7,I1,I2,I3,I4,I5,I6,I7,reduceIte,reduceCtorEq,List.append_assoc,gk,gk0,sk,sk0]
  have hlp:∀B,lp.body=B→(⟨.ready,none,lp.tmps,lp.params,lp.assign,B⟩:PLoop)=lp:=fun B hB=>by cases lp;simp_all
  refine⟨ver,lp,rfl,q1,?_⟩
  rw[q6]
  refine q13 ?_
  have hem:=List.mem_of_getElem? hat
  have hen:e∈N.es:=(List.mem_filter.1 hem).1
  obtain⟨e1,e2,e3,e4,_⟩:=C.ed e hen
  have hfr:e.fr=((e.fr.toNat:Nat):Int):=by omega
  have hto:e.to=((e.to.toNat:Nat):Int):=by omega
  have nxt:∀o':Wd,(∀j:Nat,bit o' j=true↔(bit o j=true∨(bit s e.fr.toNat=true∧e.to=j)))→∀j:Nat,bit o' j=true↔∃e∈(matE N.es x).take (k+1),bit s e.fr.toNat=true∧e.to=j:=fun o' h j=>by
   rw[h,hb,List.take_add_one,hat]
   simp only[Option.toList_some,List.mem_append,List.mem_singleton]
   constructor
   ·rintro(⟨z,h1,h2⟩ | h)
    ·exact⟨z,.inl h1,h2⟩
    ·exact⟨e,.inr rfl,h⟩
   ·rintro⟨z,h1 | rfl,h2⟩
    ·exact .inl ⟨z,h1,h2⟩
    ·exact .inr h2
  simp only[PP,P1,P2,P3,P4,P5,P6,P7,P8,P9,P10,P11,P12,P13,P14,L1,P15,N1,N2,N3,N4,N5,N6,N7,I1,I2,I3,I4,I5,I6,I7,reduceIte,reduceCtorEq,List.append_assoc,gk,gk0,sk,sk0]
  rw[show PV.int .i64 e.fr=p64 ((e.fr.toNat:Nat):Int) by rw[←hfr]]
  refine bsHas_p T hs (by omega) ?_
  cases hbit:bit s e.fr.toNat with
  | false=>
   simp only[PP,P1,P2,P3,P4,P5,P6,P7,P8,P9,P10,P11,P12,P13,P14,L1,P15,N1,N2,N3,N4,N5,N6,N7,I1,I2,I3,I4,I5,I6,I7,reduceIte,reduceCtorEq,List.append_assoc,gk,gk0,sk,sk0]
   refine⟨ver+1,_,rfl,?_⟩
   rw[if_pos rfl]
   refine hK' _ ⟨ver+1+1,v,o,Gs++[.cells 0 1 (egC e)],?_,ho,nxt o fun j=>by rw[hbit];simp⟩
   simp only[PP,P1,P2,P3,P4,P5,P6,P7,P8,P9,P10,P11,P12,P13,P14,L1,P15,N1,N2,N3,N4,N5,N6,N7,I1,I2,I3,I4,I5,I6,I7,reduceIte,reduceCtorEq,List.append_assoc,gk,gk0,sk,sk0,hlp _ q6,←hfr]
  | true=>
   simp only[PP,P1,P2,P3,P4,P5,P6,P7,P8,P9,P10,P11,P12,P13,P14,L1,P15,N1,N2,N3,N4,N5,N6,N7,I1,I2,I3,I4,I5,I6,I7,reduceIte,reduceCtorEq,List.append_assoc,gk,gk0,sk,sk0]
   rw[show PV.int .i64 e.to=p64 ((e.to.toNat:Nat):Int) by rw[←hto]]
   refine with_p T (by show _<1000000000000;omega) (by omega) ?_
   obtain⟨w1,w2⟩:=bit_with (k:=e.to.toNat) ho (by omega)
   simp only[PP,P1,P2,P3,P4,P5,P6,P7,P8,P9,P10,P11,P12,P13,P14,L1,P15,N1,N2,N3,N4,N5,N6,N7,I1,I2,I3,I4,I5,I6,I7,reduceIte,reduceCtorEq,List.append_assoc,gk,gk0,sk,sk0]
   refine⟨ver+1,_,rfl,?_⟩
   rw[if_pos rfl]
   refine hK' _ ⟨ver+1+1,v+1,withK o e.to.toNat,Gs++[.cells 0 1 (egC e)],?_,w1,nxt _ fun j=>?_⟩
   ·simp only[PP,P1,P2,P3,P4,P5,P6,P7,P8,P9,P10,P11,P12,P13,P14,L1,P15,N1,N2,N3,N4,N5,N6,N7,I1,I2,I3,I4,I5,I6,I7,reduceIte,reduceCtorEq,List.append_assoc,gk,gk0,sk,sk0,hlp _ q6,←hfr,←hto]
   ·rw[w2,Bool.or_eq_true,decide_eq_true_eq,hbit]
    constructor
    ·rintro(h | h)
     ·exact .inl h
     ·exact .inr ⟨rfl,by omega⟩
    ·rintro(h | ⟨_,h⟩)
     ·exact .inl h
     ·exact .inr (by omega)
 ·rintro G ⟨ver,v,o,Gs,rfl,ho,hb⟩
  refine⟨ver,lp,rfl,by rw[q1];exact(by intro h;cases h),?_⟩
  rw[q2]
  simp only[PP,P1,P2,P3,P4,P5,P6,P7,P8,P9,P10,P11,P12,P13,P14,L1,P15,N1,N2,N3,N4,N5,N6,N7,I1,I2,I3,I4,I5,I6,I7,reduceIte,reduceCtorEq,List.append_assoc,gk,gk0,sk,sk0]
  rw[List.take_of_length_le (Nat.le_refl _)]at hb
  exact hk o ⟨ho,hb⟩
end
def wordE (vs:Int) (w:List Int):Int:=if 64<(w.length:Int) then 4 else if w.any (fun x=>decide (2^vs.toNat≤x))=true then 1 else 0
def runP (N:NF) (S:Nat→Prop) (w:List Int):Nat→Prop:=w.foldl (fun S x k=>∃e∈matE N.es x.toNat,S e.fr.toNat∧e.to=(k:Int)) S
def accE (N:NF) (w:List Int):Int:=if checkN N=0 then wordE N.vs w else checkN N
def accP (N:NF) (w:List Int):Prop:=∃k:Nat,runP N (fun k=>(k:Int)∈N.st) w k∧(k:Int)∈N.fi
def AccA (N:NF) (w:List Int) (b:Bool) (e:Int):Prop:=e=accE N w∧(b=true↔accE N w=0∧accP N w)
theorem runP_snoc (N:NF) (S:Nat→Prop) (w:List Int) (x:Int) (k:Nat):runP N S (w++[x]) k=∃e∈matE N.es x.toNat,runP N S w e.fr.toNat∧e.to=(k:Int):=by
 unfold runP;rw[List.foldl_append];rfl
theorem inter_bits {a b:Wd} (ha:a.length≤64) (hb:b.length≤64):0<(cmb (fun x y=>x&&& y) a b).length↔∃k,bit a k=true∧bit b k=true:=by
 rw[Nat.pos_iff_ne_zero,ne_eq,cmb_nil]
 constructor
 ·intro h
  refine Classical.byContradiction fun q=>h fun k=>?_
  rw[bit_cmb_and ha hb]
  cases h1:bit a k<;>cases h2:bit b k<;>first | rfl | exact absurd ⟨k,h1,h2⟩ q
 ·rintro⟨k,h1,h2⟩ h
  have:=h k
  rw[bit_cmb_and ha hb,h1,h2]at this
  cases this
section
variable {tab:FuncId→Option AF} (T:HasA tab)
include T
theorem idx8_p {M:Mem} {K:PV→Mem→Prop} {f o:Bool} {xs:List Int} {g:FuncId} {cap:List PV} {F:Int→Bool} (hm:xs.length<1000000000000) (hu:q19 0 cap=true)
  (hf:∀x∈xs,∀(M':Mem) (K':PV→Mem→Prop),K' (.bool (F x)) M'→SemC tab g (p8 x::cap) M' K')
  (hk1:(∀x∈xs,F x=false)→K (p64 (-1)) M) (hk2:∀(k:Nat) (x:Int),x∈xs→F x=true→K (p64 k) M):
  SemC tab 87 [slI f o .u8 xs,.func (.func g) [] cap] M K:=by
 refine q18 T.h87 (by simp only[PP,P1,P2,P3,P4,P5,P6,P7,P8,P9,P10,P11,P12,P13,P14,L1,P15,N1,N2,N3,N4,N5,N6,N7,I1,I2,I3,I4,I5,I6,I7,reduceIte,reduceCtorEq,PV.under,hu]) ?_
 simp only[af87,PP,P1,P2,P3,P4,P5,P6,P7,P8,P9,P10,P11,P12,P13,P14,L1,P15,N1,N2,N3,N4,N5,N6,N7,I1,I2,I3,I4,I5,I6,I7,reduceIte,reduceCtorEq]
 refine loop1 (fun(k:Nat)=>k≤xs.length∧∀j,j<k→∀x,xs[j]? =some x→F x=false) (fun k=>[slI f o .u8 xs,.func (.func g) [] cap,Zj,Zj,Zj,Zj,Zj,p64 xs.length,p64 k,Zj,Zj,Zj,Zj,Zj,Zj,Zj,Zj,Zj,Zj])
  (fun k=>[]) (fun k=>xs.length-k) 0 ⟨by omega,by intro j h;omega⟩ (by simp only[PW]) rfl ?_
 intro k ⟨hle,hd⟩ ih
 refine q48 (by kernel_rfl) ?_
 simp only[PP,P1,P2,P3,P4,P5,P6,P7,P8,P9,P10,P11,P12,P13,P14,L1,P15,N1,N2,N3,N4,N5,N6,N7,I1,I2,I3,I4,I5,I6,I7,reduceIte,reduceCtorEq]
 refine QIf.intro (fun c=>?_) (fun c=>?_)
 ·have hk':k<xs.length:=by omega
  have k0:(0:Int)≤k:=by omega
  have hwk:=q49 (k:=k) (by show _<1000000000000;omega)
  obtain⟨x,gx⟩:=some_of (xs:=xs) (k:=k) hk'
  simp only[PP,P1,P2,P3,P4,P5,P6,P7,P8,P9,P10,P11,P12,P13,P14,L1,P15,N1,N2,N3,N4,N5,N6,N7,I1,I2,I3,I4,I5,I6,I7,reduceIte,reduceCtorEq,c,k0,gx]
  refine hf x (List.mem_of_getElem? gx) _ _ ?_
  cases hF:F x with
  | true=>
   simp only[PP,P1,P2,P3,P4,P5,P6,P7,P8,P9,P10,P11,P12,P13,P14,L1,P15,N1,N2,N3,N4,N5,N6,N7,I1,I2,I3,I4,I5,I6,I7,reduceIte,reduceCtorEq]
   exact hk2 k x (List.mem_of_getElem? gx) hF
  | false=>
   simp only[PP,P1,P2,P3,P4,P5,P6,P7,P8,P9,P10,P11,P12,P13,P14,L1,P15,N1,N2,N3,N4,N5,N6,N7,I1,I2,I3,I4,I5,I6,I7,reduceIte,reduceCtorEq,hwk]
   refine q35 (ih (k+1) ⟨by omega,fun j hj y gy=>?_⟩ (by omega)) (by simp only[PW])
   by_cases e:j=k
   ·subst e;rw[gx]at gy;cases gy;exact hF
   ·exact hd j (by omega) y gy
 ·simp only[PP,P1,P2,P3,P4,P5,P6,P7,P8,P9,P10,P11,P12,P13,P14,L1,P15,N1,N2,N3,N4,N5,N6,N7,I1,I2,I3,I4,I5,I6,I7,reduceIte,reduceCtorEq,c]
  exact hk1 fun x hx=>by
   obtain⟨j,hj⟩:=List.getElem?_of_mem hx
   exact hd j (by have:=q27 hj;omega) x hj
theorem cont8_p {M:Mem} {K:PV→Mem→Prop} {f o:Bool} {xs:List Int} {g:FuncId} {cap:List PV} {F:Int→Bool} (hm:xs.length<1000000000000) (hu:q19 0 cap=true)
  (hf:∀x∈xs,∀(M':Mem) (K':PV→Mem→Prop),K' (.bool (F x)) M'→SemC tab g (p8 x::cap) M' K')
  (hk1:(∀x∈xs,F x=false)→K (.bool false) M) (hk2:(∃x,x∈xs∧F x=true)→K (.bool true) M):
  SemC tab 50 [slI f o .u8 xs,.func (.func g) [] cap] M K:=by
 refine q18 T.h50 (by simp only[PP,P1,P2,P3,P4,P5,P6,P7,P8,P9,P10,P11,P12,P13,P14,L1,P15,N1,N2,N3,N4,N5,N6,N7,I1,I2,I3,I4,I5,I6,I7,reduceIte,reduceCtorEq,PV.under,hu]) ?_
 simp only[af50,PP,P1,P2,P3,P4,P5,P6,P7,P8,P9,P10,P11,P12,P13,P14,L1,P15,N1,N2,N3,N4,N5,N6,N7,I1,I2,I3,I4,I5,I6,I7,reduceIte,reduceCtorEq]
 refine idx8_p T hm hu hf (fun h=>?_) (fun k x hx hF=>?_)
 ·have e:¬(0:Int)≤-1:=by omega
  simp only[PP,P1,P2,P3,P4,P5,P6,P7,P8,P9,P10,P11,P12,P13,P14,L1,P15,N1,N2,N3,N4,N5,N6,N7,I1,I2,I3,I4,I5,I6,I7,reduceIte,reduceCtorEq,e]
  exact hk1 h
 ·have e:(0:Int)≤k:=by omega
  simp only[PP,P1,P2,P3,P4,P5,P6,P7,P8,P9,P10,P11,P12,P13,P14,L1,P15,N1,N2,N3,N4,N5,N6,N7,I1,I2,I3,I4,I5,I6,I7,reduceIte,reduceCtorEq,e]
  exact hk2 ⟨x,hx,hF⟩
theorem word1_p {M:Mem} {K:PV→Mem→Prop} {f1 o1 f2 o2 f3 o3:Bool} {N:NF} {x:Int} (C:NOk N) (hx:0≤x∧x≤255) (hk:K (.bool (decide (2^N.vs.toNat≤x))) M):SemC tab 95 [p8 x,.cp (nfC f1 o1 f2 o2 f3 o3 N) 0] M K:=by
 refine q18 T.h95 (by simp only[PP,P1,P2,P3,P4,P5,P6,P7,P8,P9,P10,P11,P12,P13,P14,L1,P15,N1,N2,N3,N4,N5,N6,N7,I1,I2,I3,I4,I5,I6,I7,reduceIte,reduceCtorEq,PV.under,egL_und]) ?_
 have v0:=C.v0
 have v6:=C.v6
 have w:IntKind.i64.wrap x=x:=wrap64 (by omega) (by omega)
 have sh:=pshl (v:=N.vs) (by omega) (by omega)
 simp only[af95,PP,P1,P2,P3,P4,P5,P6,P7,P8,P9,P10,P11,P12,P13,P14,L1,P15,N1,N2,N3,N4,N5,N6,N7,I1,I2,I3,I4,I5,I6,I7,reduceIte,reduceCtorEq,w,sh]
 exact hk
theorem word_p {M:Mem} {K:PV→Mem→Prop} {f1 o1 f2 o2 f3 o3 f4 o4:Bool} {N:NF} {w:List Int} (C:NOk N) (hw:∀x∈w,0≤x∧x≤255) (hl:w.length<1000000000000) (hk:K (p64 (wordE N.vs w)) M):
  SemC tab 79 [.agg (nfC f1 o1 f2 o2 f3 o3 N),slI f4 o4 .u8 w] M K:=by
 refine SemC_pureS T.h79 (by simp only[PP,P1,P2,P3,P4,P5,P6,P7,P8,P9,P10,P11,P12,P13,P14,L1,P15,N1,N2,N3,N4,N5,N6,N7,I1,I2,I3,I4,I5,I6,I7,reduceIte,reduceCtorEq,under_slE]) ?_
 simp only[af79]
 refine q28 (q13 ?_)
 simp only[PP,P1,P2,P3,P4,P5,P6,P7,P8,P9,P10,P11,P12,P13,P14,L1,P15,N1,N2,N3,N4,N5,N6,N7,I1,I2,I3,I4,I5,I6,I7,reduceIte,reduceCtorEq]
 refine SemW_re (GStep.freezeP (b:=[Zj,slI f4 o4 .u8 w,.cp (nfC f1 o1 f2 o2 f3 o3 N) 0,Zj,p64 0,Zj,Zj,Zj,Zj,Zj,Zj,Zj,Zj]) 0 (Nat.zero_le _) rfl (by simp only[PFrzP_nil,PFrzP_junk,PFrzP_same,PFrzP_ptr]) rfl) ?_
 refine q13 ?_
 simp only[PP,P1,P2,P3,P4,P5,P6,P7,P8,P9,P10,P11,P12,P13,P14,L1,P15,N1,N2,N3,N4,N5,N6,N7,I1,I2,I3,I4,I5,I6,I7,reduceIte,reduceCtorEq]
 unfold wordE at hk
 refine QIf.intro (fun c=>?_) (fun c=>?_)
 ·rw[if_pos c]at hk
  simp only[PP,P1,P2,P3,P4,P5,P6,P7,P8,P9,P10,P11,P12,P13,P14,L1,P15,N1,N2,N3,N4,N5,N6,N7,I1,I2,I3,I4,I5,I6,I7,reduceIte,reduceCtorEq,c]
  exact hk
 rw[if_neg c]at hk
 simp only[PP,P1,P2,P3,P4,P5,P6,P7,P8,P9,P10,P11,P12,P13,P14,L1,P15,N1,N2,N3,N4,N5,N6,N7,I1,I2,I3,I4,I5,I6,I7,reduceIte,reduceCtorEq,c]
 refine cont8_p T (F:=fun x=>decide (2^N.vs.toNat≤x)) hl (by simp only[PP,P1,P2,P3,P4,P5,P6,P7,P8,P9,P10,P11,P12,P13,P14,L1,P15,N1,N2,N3,N4,N5,N6,N7,I1,I2,I3,I4,I5,I6,I7,reduceIte,reduceCtorEq,PV.under,egL_und]) (fun x hx M' K' hK'=>word1_p T C (hw x hx) hK') (fun h=>?_) (fun⟨x,hx,hF⟩=>?_)
 ·rw[if_neg (by rw[Bool.not_eq_true,List.any_eq_false];intro x hx;rw[h x hx];decide)]at hk
  simp only[PP,P1,P2,P3,P4,P5,P6,P7,P8,P9,P10,P11,P12,P13,P14,L1,P15,N1,N2,N3,N4,N5,N6,N7,I1,I2,I3,I4,I5,I6,I7,reduceIte,reduceCtorEq]
  exact hk
 ·rw[if_pos (List.any_eq_true.2 ⟨x,hx,hF⟩)]at hk
  simp only[PP,P1,P2,P3,P4,P5,P6,P7,P8,P9,P10,P11,P12,P13,P14,L1,P15,N1,N2,N3,N4,N5,N6,N7,I1,I2,I3,I4,I5,I6,I7,reduceIte,reduceCtorEq]
  exact hk
set_option maxHeartbeats 1000000 in
theorem run_p {M:Mem} {K:PV→Mem→Prop} {f1 o1 f2 o2 f3 o3 f4 o4:Bool} {N:NF} {w:List Int} (B:BnN N) (hw:∀x∈w,0≤x∧x≤255) (hl:w.length<1000000000000) (hk1:accE N w≠0→K (.tuple [.nils,p64 (accE N w)]) M)
  (hk2:accE N w=0→∀o:Wd,o.length≤64→(∀k,bit o k=true↔runP N (fun k=>(k:Int)∈N.st) w k)→K (.tuple [slW false true o,p64 0]) M):
  SemC tab 36 [.agg (nfC f1 o1 f2 o2 f3 o3 N),slI f4 o4 .u8 w] M K:=by
 refine q18 T.h36 (by simp only[PP,P1,P2,P3,P4,P5,P6,P7,P8,P9,P10,P11,P12,P13,P14,L1,P15,N1,N2,N3,N4,N5,N6,N7,I1,I2,I3,I4,I5,I6,I7,reduceIte,reduceCtorEq,under_slE]) ?_
 simp only[af36,PP,P1,P2,P3,P4,P5,P6,P7,P8,P9,P10,P11,P12,P13,P14,L1,P15,N1,N2,N3,N4,N5,N6,N7,I1,I2,I3,I4,I5,I6,I7,reduceIte,reduceCtorEq]
 refine check_p T B ?_
 unfold accE at hk1 hk2
 by_cases c:checkN N=0
 rotate_left
 ·rw[if_neg c]at hk1
  simp only[PP,P1,P2,P3,P4,P5,P6,P7,P8,P9,P10,P11,P12,P13,P14,L1,P15,N1,N2,N3,N4,N5,N6,N7,I1,I2,I3,I4,I5,I6,I7,reduceIte,reduceCtorEq,c]
  exact hk1 c
 rw[if_pos c]at hk1 hk2
 have C:=nok_of c
 simp only[PP,P1,P2,P3,P4,P5,P6,P7,P8,P9,P10,P11,P12,P13,P14,L1,P15,N1,N2,N3,N4,N5,N6,N7,I1,I2,I3,I4,I5,I6,I7,reduceIte,reduceCtorEq,c]
 refine word_p T C hw hl ?_
 by_cases d:wordE N.vs w=0
 rotate_left
 ·simp only[PP,P1,P2,P3,P4,P5,P6,P7,P8,P9,P10,P11,P12,P13,P14,L1,P15,N1,N2,N3,N4,N5,N6,N7,I1,I2,I3,I4,I5,I6,I7,reduceIte,reduceCtorEq,d]
  exact hk1 d
 have hk3:=hk2 d
 obtain⟨_,fs2,fs3⟩:=fa_ok C C.st
 simp only[PP,P1,P2,P3,P4,P5,P6,P7,P8,P9,P10,P11,P12,P13,P14,L1,P15,N1,N2,N3,N4,N5,N6,N7,I1,I2,I3,I4,I5,I6,I7,reduceIte,reduceCtorEq,d]
 refine ofF_p T C C.st ?_
 simp only[PP,P1,P2,P3,P4,P5,P6,P7,P8,P9,P10,P11,P12,P13,P14,L1,P15,N1,N2,N3,N4,N5,N6,N7,I1,I2,I3,I4,I5,I6,I7,reduceIte,reduceCtorEq]
 refine loop2 (fun(k:Nat) (s:Wd)=>k≤w.length∧s.length≤64∧∀j,bit s j=true↔runP N (fun k=>(k:Int)∈N.st) (w.take k) j) (fun k s=>[Zj,Zj,.ptr 0 0 0,Zj,Zj,Zj,Zj,slW false true s,Zj,Zj,Zj,Zj,Zj,Zj,Zj,Zj,Zj,Zj,Zj,Zj,Zj,Zj,Zj,slI f4 o4 .u8 w,p64 w.length,p64 k,Zj,Zj,Zj,Zj,Zj,Zj,Zj,Zj,Zj]) (fun _ _=>[.cells 0 0 (nfC f1 o1 f2 o2 f3 o3 N)]) (fun k _=>w.length-k) 0 (faW N.st) ⟨by omega,fs2,fun j=>by rw[fs3,decide_eq_true_eq];exact Iff.rfl⟩ (by simp only[PW]) rfl ?_
 intro k s ⟨hle,hs,hb⟩ ih
 refine q48 (by kernel_rfl) ?_
 simp only[PP,P1,P2,P3,P4,P5,P6,P7,P8,P9,P10,P11,P12,P13,P14,L1,P15,N1,N2,N3,N4,N5,N6,N7,I1,I2,I3,I4,I5,I6,I7,reduceIte,reduceCtorEq]
 refine QIf.intro (fun e=>?_) (fun e=>?_)
 ·have hk':k<w.length:=by omega
  obtain⟨x,gx⟩:=some_of hk'
  obtain⟨x0,x1⟩:=hw x (List.mem_of_getElem? gx)
  have k0:(0:Int)≤k:=by omega
  have hwk:=q49 (k:=k) (by show _<1000000000000;omega)
  simp only[PP,P1,P2,P3,P4,P5,P6,P7,P8,P9,P10,P11,P12,P13,P14,L1,P15,N1,N2,N3,N4,N5,N6,N7,I1,I2,I3,I4,I5,I6,I7,reduceIte,reduceCtorEq,e,k0,gx]
  obtain⟨xn,rfl⟩:∃xn:Nat,x=xn:=⟨x.toNat,by omega⟩
  refine aft_p T C B hs (by omega) (fun o ho=>?_)
  simp only[PP,P1,P2,P3,P4,P5,P6,P7,P8,P9,P10,P11,P12,P13,P14,L1,P15,N1,N2,N3,N4,N5,N6,N7,I1,I2,I3,I4,I5,I6,I7,reduceIte,reduceCtorEq,hwk]
  refine q35 (ih (k+1) o ⟨by omega,ho.1,fun j=>?_⟩ (by omega)) (by simp only[PW])
  rw[ho.2,List.take_add_one,gx]
  show _↔runP N _ (_++[(xn:Int)]) j
  rw[runP_snoc]
  simp only[hb]
  exact Iff.rfl
 ·rw[List.take_of_length_le (by omega)]at hb
  simp only[PP,P1,P2,P3,P4,P5,P6,P7,P8,P9,P10,P11,P12,P13,P14,L1,P15,N1,N2,N3,N4,N5,N6,N7,I1,I2,I3,I4,I5,I6,I7,reduceIte,reduceCtorEq,e]
  exact hk3 s hs hb
theorem accepts_p {M:Mem} {K:PV→Mem→Prop} {f1 o1 f2 o2 f3 o3 f4 o4:Bool} {N:NF} {w:List Int} (B:BnN N) (hw:∀x∈w,0≤x∧x≤255) (hl:w.length<1000000000000) (hk:∀b e,AccA N w b e→K (.tuple [.bool b,p64 e]) M):
  SemC tab 35 [.agg (nfC f1 o1 f2 o2 f3 o3 N),slI f4 o4 .u8 w] M K:=by
 refine q18 T.h35 (by simp only[PP,P1,P2,P3,P4,P5,P6,P7,P8,P9,P10,P11,P12,P13,P14,L1,P15,N1,N2,N3,N4,N5,N6,N7,I1,I2,I3,I4,I5,I6,I7,reduceIte,reduceCtorEq,under_slE]) ?_
 simp only[af35,PP,P1,P2,P3,P4,P5,P6,P7,P8,P9,P10,P11,P12,P13,P14,L1,P15,N1,N2,N3,N4,N5,N6,N7,I1,I2,I3,I4,I5,I6,I7,reduceIte,reduceCtorEq]
 refine run_p T B hw hl (fun h=>?_) (fun h o ho hb=>?_)
 ·simp only[PP,P1,P2,P3,P4,P5,P6,P7,P8,P9,P10,P11,P12,P13,P14,L1,P15,N1,N2,N3,N4,N5,N6,N7,I1,I2,I3,I4,I5,I6,I7,reduceIte,reduceCtorEq,h]
  exact hk false _ ⟨rfl,(fun q=>by cases q),fun q=>absurd q.1 h⟩
 ·have c:checkN N=0:=Classical.byContradiction fun q=>by unfold accE at h;rw[if_neg q]at h;exact q h
  have C:=nok_of c
  obtain⟨_,fa2,fa3⟩:=fa_ok C C.fi
  simp only[PP,P1,P2,P3,P4,P5,P6,P7,P8,P9,P10,P11,P12,P13,P14,L1,P15,N1,N2,N3,N4,N5,N6,N7,I1,I2,I3,I4,I5,I6,I7,reduceIte,reduceCtorEq]
  refine ofF_p T C C.fi ?_
  simp only[PP,P1,P2,P3,P4,P5,P6,P7,P8,P9,P10,P11,P12,P13,P14,L1,P15,N1,N2,N3,N4,N5,N6,N7,I1,I2,I3,I4,I5,I6,I7,reduceIte,reduceCtorEq]
  refine intersects_p T (by show _<1000000000000;omega) (by show _<1000000000000;omega) ?_
  simp only[PP,P1,P2,P3,P4,P5,P6,P7,P8,P9,P10,P11,P12,P13,P14,L1,P15,N1,N2,N3,N4,N5,N6,N7,I1,I2,I3,I4,I5,I6,I7,reduceIte,reduceCtorEq]
  refine hk _ 0 ⟨h.symm,?_⟩
  rw[decide_eq_true_eq,inter_bits ho fa2]
  constructor
  ·rintro⟨k,h1,h2⟩
   exact⟨h,k,(hb k).1 h1,by rw[fa3,decide_eq_true_eq]at h2;exact h2⟩
  ·rintro⟨_,k,h1,h2⟩
   exact⟨k,(hb k).2 h1,by rw[fa3,decide_eq_true_eq];exact h2⟩
end
theorem min_of {p:Nat→Bool} (n:Nat) (h:p n=true):∃k,k≤n∧p k=true∧∀j,j<k→p j=false:=by
 induction n using Nat.strongRecOn with
 | ind n ih=>
  by_cases q:∃m,m<n∧p m=true
  ·obtain⟨m,h1,h2⟩:=q
   obtain⟨k,a,b,c⟩:=ih m h1 h2
   exact⟨k,by omega,b,c⟩
  ·refine⟨n,Nat.le_refl _,h,fun j hj=>?_⟩
   cases hp:p j with
   | false=>rfl
   | true=>exact absurd ⟨j,hj,hp⟩ q
def bitsW (x:BitVec 64):List Nat:=(List.range 64).filter fun k=>x.getLsbD k
theorem bitsW_zero:bitsW 0#64=[]:=by unfold bitsW;simp
theorem low_of {x:BitVec 64} (h:x≠0#64):∃k,k<64∧x.getLsbD k=true∧∀j,j<k→x.getLsbD j=false:=by
 have:∃n,x.getLsbD n=true:=by
  refine Classical.byContradiction fun q=>h (BitVec.eq_of_getLsbD_eq fun i hi=>?_)
  cases hx:x.getLsbD i with
  | false=>simp
  | true=>exact absurd ⟨i,hx⟩ q
 obtain⟨n,hn⟩:=this
 obtain⟨k,a,b,c⟩:=min_of (p:=fun k=>x.getLsbD k) n hn
 refine⟨k,Classical.byContradiction fun q=>?_,b,c⟩
 rw[BitVec.getLsbD_of_ge _ _ (by omega)]at b;cases b
theorem neg_bit {x:BitVec 64} {k:Nat} (h1:x.getLsbD k=true) (h2:∀j,j<k→x.getLsbD j=false) (i:Nat):(-x).getLsbD i=if i<k then false else if i=k then true else(decide (i<64)&& !x.getLsbD i):=by
 have hk:k<64:=by
  refine Classical.byContradiction fun q=>?_
  rw[BitVec.getLsbD_of_ge _ _ (by omega)]at h1;cases h1
 rw[BitVec.getLsbD_neg]
 by_cases c1:i<k
 ·rw[if_pos c1,h2 i c1]
  have:¬∃j,j<i∧x.getLsbD j=true:=by
   rintro⟨j,a,b⟩
   rw[h2 j (by omega)]at b;cases b
  simp[this]
 ·rw[if_neg c1]
  by_cases c2:i=k
  ·subst c2
   rw[if_pos rfl,h1]
   have:¬∃j,j<i∧x.getLsbD j=true:=by
    rintro⟨j,a,b⟩
    rw[h2 j a]at b;cases b
   simp[this]
  ·rw[if_neg c2]
   have:∃j,j<i∧x.getLsbD j=true:=⟨k,by omega,h1⟩
   by_cases c3:i<64
   ·simp[this,c3]
   ·rw[BitVec.getLsbD_of_ge x _ (by omega)];simp[c3]
theorem and_neg_low {x:BitVec 64} {k:Nat} (h1:x.getLsbD k=true) (h2:∀j,j<k→x.getLsbD j=false):x&&& -x=BitVec.twoPow 64 k:=by
 have hk:k<64:=by
  refine Classical.byContradiction fun q=>?_
  rw[BitVec.getLsbD_of_ge _ _ (by omega)]at h1;cases h1
 refine BitVec.eq_of_getLsbD_eq fun i hi=>?_
 rw[BitVec.getLsbD_and,neg_bit h1 h2,BitVec.getLsbD_twoPow]
 by_cases c1:i<k
 ·have:¬k=i:=by omega
  simp[c1,this]
 ·by_cases c2:i=k
  ·subst c2;simp[h1,hi]
  ·have:¬k=i:=by omega
   cases hx:x.getLsbD i<;>simp[c1,c2,this]
def clrW (x:BitVec 64):BitVec 64:=x&&& (x-1#64)
theorem clr_bit {x:BitVec 64} {k:Nat} (h1:x.getLsbD k=true) (h2:∀j,j<k→x.getLsbD j=false) (i:Nat):(clrW x).getLsbD i=(x.getLsbD i&&decide (i≠k)):=by
 unfold clrW
 rw[←BitVec.not_neg,BitVec.getLsbD_and,BitVec.getLsbD_not,neg_bit h1 h2]
 by_cases c0:i<64
 ·by_cases c1:i<k
  ·rw[h2 i c1];simp
  ·by_cases c2:i=k
   ·subst c2;simp
   ·cases hx:x.getLsbD i<;>simp[c0,c1,c2]
 ·have:=BitVec.getLsbD_of_ge x i (by omega)
  simp[this]
theorem filter_low {p q:Nat→Bool} {k n:Nat} (hk:k<n) (h1:p k=true) (h2:∀j,j<k→p j=false) (hq:∀i,q i=(p i&&decide (i≠k))):(List.range n).filter p=k::(List.range n).filter q:=by
 have e:List.range n=List.range k++k::(List.range (n-k-1)).map (fun j=>k+1+j):=by
  refine List.ext_getElem? fun i=>?_
  by_cases c:i<n
  ·rw[List.getElem?_range c]
   by_cases c1:i<k
   ·rw[List.getElem?_append_left (by simp;omega),List.getElem?_range c1]
   ·rw[List.getElem?_append_right (by simp;omega)]
    simp only[List.length_range]
    by_cases c2:i=k
    ·subst c2;simp
    ·obtain⟨m,hm⟩:∃m,i-k=m+1:=⟨i-k-1,by omega⟩
     rw[hm,List.getElem?_cons_succ,List.getElem?_map,List.getElem?_range (by omega)]
     simp only[Option.map_some,Option.some.injEq];omega
  ·rw[List.getElem?_eq_none (by simp;omega),List.getElem?_eq_none (by simp;omega)]
 rw[e,List.filter_append,List.filter_append,List.filter_cons,List.filter_cons]
 have z:∀r:Nat→Bool,(∀j,j<k→r j=false)→(List.range k).filter r=[]:=fun r hr=>by
  rw[List.filter_eq_nil_iff]
  intro j hj
  rw[hr j (List.mem_range.1 hj)];simp
 rw[z p h2,z q (fun j hj=>by rw[hq,h2 j hj];rfl),if_pos h1,if_neg (by rw[hq];simp)]
 simp only[List.nil_append]
 congr 1
 refine List.filter_congr fun j hj=>?_
 obtain⟨m,_,rfl⟩:=List.mem_map.1 hj
 rw[hq]
 have:k+1+m≠k:=by omega
 simp[this]
theorem tz_table:((List.range 64).all fun k=>tzTab[2^k*285870213051353865 % 18446744073709551616 / 288230376151711744]? ==some k)=true:=by decide+kernel
theorem u64_wrap (x:Int):IntKind.u64.wrap x=x % 18446744073709551616:=by
 simp only[IntKind.wrap,IntKind.signed,IntKind.bits];simp
theorem neg_u64 (x:BitVec 64):BitVec.ofInt 64 (IntKind.u64.wrap (-((x.toNat:Nat):Int)))= -x:=by
 rw[u64_wrap]
 have hl:=x.isLt
 apply BitVec.eq_of_toNat_eq
 rw[BitVec.toNat_ofInt,BitVec.toNat_neg]
 omega
theorem tz_at {x:BitVec 64} {k:Nat} (h1:x.getLsbD k=true) (h2:∀j,j<k→x.getLsbD j=false):tzF ((x.toNat:Nat):Int)=k:=by
 have hk:k<64:=by
  refine Classical.byContradiction fun q=>?_
  rw[BitVec.getLsbD_of_ge _ _ (by omega)]at h1;cases h1
 have hx:¬((x.toNat:Nat):Int)=0:=by
  intro h
  have:x=0#64:=by apply BitVec.eq_of_toNat_eq;simp;omega
  rw[this]at h1;simp at h1
 have ha:tzAnd ((x.toNat:Nat):Int)=((2^k:Nat):Int):=by
  unfold tzAnd
  have e1:BitVec.ofInt IntKind.u64.bits ((x.toNat:Nat):Int)=x:=bv_int x
  have e2:BitVec.ofInt IntKind.u64.bits (IntKind.u64.wrap (-((x.toNat:Nat):Int)))= -x:=neg_u64 x
  rw[e1,e2]
  have e3:=and_neg_low h1 h2
  show IntKind.u64.wrap ((((x&&& -x).toNat:Nat):Int))=_
  rw[e3,u64_small (BitVec.isLt _),BitVec.toNat_twoPow,Nat.mod_eq_of_lt (Nat.pow_lt_pow_right (by omega) hk)]
 have hi:tzIdx ((x.toNat:Nat):Int)=((2^k*285870213051353865 % 18446744073709551616 / 288230376151711744:Nat):Int):=by
  unfold tzIdx
  rw[ha,u64_wrap]
  omega
 have ht:=List.all_eq_true.1 tz_table k (List.mem_range.2 hk)
 unfold tzF
 rw[if_neg hx,hi,Int.toNat_natCast]
 rw[beq_iff_eq]at ht
 rw[ht];rfl
theorem bitsW_cons {x:BitVec 64} (h:x≠0#64):∃k,k<64∧bitsW x=k::bitsW (clrW x)∧tzF ((x.toNat:Nat):Int)=k:=by
 obtain⟨k,hk,h1,h2⟩:=low_of h
 exact⟨k,hk,filter_low hk h1 h2 (clr_bit h1 h2),tz_at h1 h2⟩
theorem sub_one_u64 {x:BitVec 64} (h:x≠0#64):IntKind.u64.wrap (((x.toNat:Nat):Int)-1)=(((x-1#64).toNat:Nat):Int):=by
 have hx:x.toNat≠0:=fun e=>h (by apply BitVec.eq_of_toNat_eq;simpa using e)
 have hl:=x.isLt
 rw[u64_wrap,BitVec.toNat_sub]
 simp
 omega
def listW (s:Wd):List Nat:=(List.range s.length).flatMap fun i=>(bitsW (wAt s i)).map fun k=>64*i+k
theorem listW_one {s:Wd} (h:∀k,bit s k=true→k<64):listW s=bitsW (wAt s 0):=by
 have z:∀i,0<i→wAt s i=0#64:=fun i hi=>BitVec.eq_of_getLsbD_eq fun j hj=>by
  cases hb:(wAt s i).getLsbD j with
  | false=>simp
  | true=>
   have:bit s (64*i+j)=true:=by
    unfold bit
    rw[show(64*i+j) / 64=i by omega,show(64*i+j) % 64=j by omega];exact hb
   have:=h _ this
   omega
 unfold listW
 cases s with
 | nil=>simp[wAt,bitsW_zero]
 | cons a s=>
  rw[List.length_cons,List.range_succ_eq_map,List.flatMap_cons,List.flatMap_map]
  have e:(List.range s.length).flatMap (fun i=>(bitsW (wAt (a::s) (Nat.succ i))).map fun k=>64*Nat.succ i+k)=[]:=by
   rw[List.flatMap_eq_nil_iff]
   intro i _
   rw[z (Nat.succ i) (by omega),bitsW_zero];rfl
  have e2:(bitsW (wAt (a::s) 0)).map (fun k=>64*0+k)=bitsW (wAt (a::s) 0):=by
   rw[List.map_congr_left (g:=id) (fun k _=>by simp)];simp
  rw[e,e2,List.append_nil]
section
variable {tab:FuncId→Option AF} (T:HasA tab)
include T
theorem tz_p {M:Mem} {K:PV→Mem→Prop} {x:BitVec 64} {k:Nat} (hx:tzF ((x.toNat:Nat):Int)=k) (hk:K (p64 k) M):SemC tab 99 [p64u x] M K:=by
 intro w h args' h0 s ha
 match args',ha with
 | [v],ha=>
 have hv:=rep_int ha.hd
 subst hv
 unfold C
 refine⟨.int .i64 k,h,?_,w,p64 k,M,PStp.refl (Nat.le_refl _) w h,s,.int _ _,hk⟩
 rw[lim_call]
 simp only[acallF,T.tz,primTz,primTzV,hx]
end
theorem NF.ext' {N N':NF} (h1:N.vs=N'.vs) (h2:N.n=N'.n) (h3:N.st=N'.st) (h4:N.fi=N'.fi) (h5:N.es=N'.es):N=N':=by
 cases N;cases N';simp_all
section
variable {tab:FuncId→Option AF} (T:HasA tab)
include T
theorem equalB_p {M:Mem} {K:PV→Mem→Prop} {f o f' o':Bool} {xs ys:List Bool} (hm:xs.length<big) (hk:K (.bool (decide (xs=ys))) M):
  SemC tab 46 [slB f o xs,slB f' o' ys] M K:=by
 refine q18 T.h46 (by simp only[PP,P1,P2,P3,P4,P5,P6,P7,P8,P9,P10,P11,P12,P13,P14,L1,P15,N1,N2,N3,N4,N5,N6,N7,I1,I2,I3,I4,I5,I6,I7,reduceIte,reduceCtorEq]) ?_
 simp only[af46,PP,P1,P2,P3,P4,P5,P6,P7,P8,P9,P10,P11,P12,P13,P14,L1,P15,N1,N2,N3,N4,N5,N6,N7,I1,I2,I3,I4,I5,I6,I7,reduceIte,reduceCtorEq]
 refine QIf.intro (fun c1=>?_) (fun c1=>?_)
 ·simp only[PP,P1,P2,P3,P4,P5,P6,P7,P8,P9,P10,P11,P12,P13,P14,L1,P15,N1,N2,N3,N4,N5,N6,N7,I1,I2,I3,I4,I5,I6,I7,reduceIte,reduceCtorEq,c1]
  have hl:xs.length=ys.length:=by omega
  refine loop1 (fun(k:Nat)=>k≤xs.length∧K (.bool (decide (xs.drop k=ys.drop k))) M) (fun k=>[slB f o xs,slB f' o' ys,Zj,Zj,Zj,p64 k,Zj,Zj,Zj,Zj,Zj,Zj,Zj,Zj,Zj,Zj,Zj,Zj,Zj,Zj,Zj,Zj,Zj,Zj,Zj,Zj]) (fun _=>[]) (fun k=>xs.length-k) 0 ⟨by omega,hk⟩ (by simp only[PW]) rfl ?_
  intro k ⟨hle,hq⟩ ih
  refine q48 (by kernel_rfl) ?_
  simp only[PP,P1,P2,P3,P4,P5,P6,P7,P8,P9,P10,P11,P12,P13,P14,L1,P15,N1,N2,N3,N4,N5,N6,N7,I1,I2,I3,I4,I5,I6,I7,reduceIte,reduceCtorEq]
  refine QIf.intro (fun c=>?_) (fun c=>?_)
  ·have hk':k<xs.length:=by omega
   have hk2:k<ys.length:=by omega
   obtain⟨x,gx⟩:=some_of hk'
   obtain⟨y,gy⟩:=some_of hk2
   rw[drop_some gx,drop_some gy]at hq
   have hw:=q49 (k:=k) (by omega)
   have h0:(0:Int)≤k:=by omega
   have cy:(k:Int)<ys.length:=by omega
   simp only[PP,P1,P2,P3,P4,P5,P6,P7,P8,P9,P10,P11,P12,P13,P14,L1,P15,N1,N2,N3,N4,N5,N6,N7,I1,I2,I3,I4,I5,I6,I7,reduceIte,reduceCtorEq,c,gx,gy,hw,h0,cy]
   by_cases e:x=y
   ·subst e
    simp only[PP,P1,P2,P3,P4,P5,P6,P7,P8,P9,P10,P11,P12,P13,P14,L1,P15,N1,N2,N3,N4,N5,N6,N7,I1,I2,I3,I4,I5,I6,I7,reduceIte,reduceCtorEq,hw,List.cons.injEq]at hq ⊢
    exact q35 (ih (k+1) ⟨by omega,hq⟩ (by omega)) (by simp only[PW])
   ·have hbe:(x==y)=false:=by simp[e]
    simp only[PP,P1,P2,P3,P4,P5,P6,P7,P8,P9,P10,P11,P12,P13,P14,L1,P15,N1,N2,N3,N4,N5,N6,N7,I1,I2,I3,I4,I5,I6,I7,reduceIte,reduceCtorEq,hbe,e,List.cons.injEq]at hq ⊢
    exact hq
  ·simp only[PP,P1,P2,P3,P4,P5,P6,P7,P8,P9,P10,P11,P12,P13,P14,L1,P15,N1,N2,N3,N4,N5,N6,N7,I1,I2,I3,I4,I5,I6,I7,reduceIte,reduceCtorEq,c]
   rw[List.drop_eq_nil_of_le (by omega),List.drop_eq_nil_of_le (by omega)]at hq
   simp only[PP,P1,P2,P3,P4,P5,P6,P7,P8,P9,P10,P11,P12,P13,P14,L1,P15,N1,N2,N3,N4,N5,N6,N7,I1,I2,I3,I4,I5,I6,I7,reduceIte,reduceCtorEq]at hq
   exact hq
 ·have hne:xs≠ys:=fun e=>c1 (by rw[e])
  simp only[PP,P1,P2,P3,P4,P5,P6,P7,P8,P9,P10,P11,P12,P13,P14,L1,P15,N1,N2,N3,N4,N5,N6,N7,I1,I2,I3,I4,I5,I6,I7,reduceIte,reduceCtorEq,c1]
  rw[decide_eq_false hne]at hk
  exact hk
end
structure DF where
 vs:Int
 st:Int
 nx:List (List Int)
 fi:List Bool
abbrev dfC (f1 o1 f2 o2 f3 o3:Bool) (D:DF):List PV:=[p64 D.vs,p64 D.st,slR f1 o1 f2 o2 .i64 D.nx,slB f3 o3 D.fi]
structure BnD (D:DF):Prop where
 n:D.nx.length<big
 r:∀r∈D.nx,r.length<big
 f:D.fi.length<big
def badR (n:Int) (r:List Int):Bool:=r.any fun t=>decide (t<0∨n≤t)
def rowsD (v n:Int):List (List Int)→Int
 | []=>0
 | r::l=>if(r.length:Int)=2^v.toNat then(if badR n r=true then 8 else rowsD v n l) else 2
def checkD (D:DF):Int:=
 if D.vs<0∨6<D.vs then 7 else if(D.nx.length:Int)=0 then 3 else if 4096<(D.nx.length:Int) then 4 else if ¬(D.fi.length:Int)=D.nx.length then 2 else if D.st<0∨(D.nx.length:Int)≤D.st then 8 else rowsD D.vs D.nx.length D.nx
def minFrom:Int→List Int→Int
 | m,[]=>m
 | m,x::l=>minFrom (min m x) l
theorem minFrom_neg:∀(l:List Int) (m:Int),minFrom m l<0↔m<0∨∃t∈l,t<0
 | [],m=>by simp[minFrom]
 | x::l,m=>by
  unfold minFrom
  rw[minFrom_neg l]
  simp only[List.mem_cons]
  constructor
  ·rintro(h | ⟨t,h1,h2⟩)
   ·by_cases h3:m<0
    ·exact .inl h3
    ·exact .inr ⟨x,.inl rfl,by omega⟩
   ·exact .inr ⟨t,.inr h1,h2⟩
  ·rintro(h | ⟨t,rfl | h1,h2⟩)
   ·exact .inl (by omega)
   ·exact .inl (by omega)
   ·exact .inr ⟨t,h1,h2⟩
theorem maxFrom_ge {n:Int} :∀(l:List Int) (m:Int),n≤maxFrom m l↔n≤m∨∃t∈l,n≤t
 | [],m=>by simp[maxFrom]
 | x::l,m=>by
  unfold maxFrom
  rw[maxFrom_ge l]
  simp only[List.mem_cons]
  constructor
  ·rintro(h | ⟨t,h1,h2⟩)
   ·by_cases h3:n≤m
    ·exact .inl h3
    ·exact .inr ⟨x,.inl rfl,by omega⟩
   ·exact .inr ⟨t,.inr h1,h2⟩
  ·rintro(h | ⟨t,rfl | h1,h2⟩)
   ·exact .inl (by omega)
   ·exact .inl (by omega)
   ·exact .inr ⟨t,h1,h2⟩
theorem badR_iff {n x:Int} {l:List Int} :badR n (x::l)=true↔minFrom x l<0∨n≤maxFrom x l:=by
 rw[minFrom_neg,maxFrom_ge]
 unfold badR
 simp only[List.any_eq_true,List.mem_cons,decide_eq_true_eq]
 constructor
 ·rintro⟨t,rfl | h1,h | h⟩
  ·exact .inl (.inl h)
  ·exact .inr (.inl h)
  ·exact .inl (.inr ⟨t,h1,h⟩)
  ·exact .inr (.inr ⟨t,h1,h⟩)
 ·rintro((h | ⟨t,h1,h⟩) | (h | ⟨t,h1,h⟩))
  ·exact⟨x,.inl rfl,.inl h⟩
  ·exact⟨t,.inr h1,.inl h⟩
  ·exact⟨x,.inl rfl,.inr h⟩
  ·exact⟨t,.inr h1,.inr h⟩
theorem shl_one {v:Int} (h0:¬v<0) (h6:¬6<v):pbin .shl (.int .i64 1) (.int .i64 v)=some (.int .i64 (2^v.toNat)):=by
 have:v=0∨v=1∨v=2∨v=3∨v=4∨v=5∨v=6:=by omega
 rcases this with rfl | rfl | rfl | rfl | rfl | rfl | rfl<;>rfl
theorem pow_pos' (v:Int):(0:Int)<2^v.toNat:=Int.pow_pos (by decide)
section
variable {tab:FuncId→Option AF} (T:HasA tab)
include T
theorem min_p {M:Mem} {K:PV→Mem→Prop} {f o:Bool} {x:Int} {xs:List Int} (hm:(x::xs).length<big) (hq:K (p64 (minFrom x xs)) M):
  SemC tab 53 [slI f o .i64 (x::xs)] M K:=by
 refine q18 T.h53 (by simp only[PP,P1,P2,P3,P4,P5,P6,P7,P8,P9,P10,P11,P12,P13,P14,L1,P15,N1,N2,N3,N4,N5,N6,N7,I1,I2,I3,I4,I5,I6,I7,reduceIte,reduceCtorEq]) ?_
 have c1:¬((xs.length+1:Nat):Int)<1:=by omega
 have c2:(0:Int)<((xs.length+1:Nat):Int):=by omega
 simp only[af53,PP,P1,P2,P3,P4,P5,P6,P7,P8,P9,P10,P11,P12,P13,P14,L1,P15,N1,N2,N3,N4,N5,N6,N7,I1,I2,I3,I4,I5,I6,I7,reduceIte,reduceCtorEq,c1,c2]
 have hm':xs.length+1<1000000000000:=hm
 refine loop2 (fun(k:Nat) (m:Int)=>k≤xs.length∧K (p64 (minFrom m (xs.drop k))) M) (fun k m=>[slI f o .i64 (x::xs),Zj,Zj,p64 m,p64 ((k+1:Nat):Int),Zj,Zj,Zj,Zj,Zj,Zj,Zj,Zj,Zj,Zj,Zj,Zj,Zj,Zj,Zj,Zj,Zj,Zj,Zj,Zj]) (fun _ _=>[]) (fun k _=>xs.length-k) 0 x ⟨by omega,hq⟩ (by simp only[PW]) rfl ?_
 intro k m ⟨hle,hq⟩ ih
 refine q48 (by kernel_rfl) ?_
 simp only[PP,P1,P2,P3,P4,P5,P6,P7,P8,P9,P10,P11,P12,P13,P14,L1,P15,N1,N2,N3,N4,N5,N6,N7,I1,I2,I3,I4,I5,I6,I7,reduceIte,reduceCtorEq]
 refine QIf.intro (fun c=>?_) (fun c=>?_)
 ·have hk':k<xs.length:=by omega
  have g1:xs[k]? =some xs[k]:=List.getElem?_eq_getElem hk'
  have h0:(0:Int)≤((k+1:Nat):Int):=by omega
  have hw:=q49 (k:=k+1) (by show _<1000000000000;omega)
  rw[drop_get' hk']at hq
  simp only[PP,P1,P2,P3,P4,P5,P6,P7,P8,P9,P10,P11,P12,P13,P14,L1,P15,N1,N2,N3,N4,N5,N6,N7,I1,I2,I3,I4,I5,I6,I7,reduceIte,reduceCtorEq,c,g1,h0,hw,minFrom,pmin_two]at hq ⊢
  exact q35 (ih (k+1) _ ⟨by omega,hq⟩ (by omega)) (by simp only[PW])
 ·rw[List.drop_eq_nil_of_le (by omega)]at hq
  simp only[PP,P1,P2,P3,P4,P5,P6,P7,P8,P9,P10,P11,P12,P13,P14,L1,P15,N1,N2,N3,N4,N5,N6,N7,I1,I2,I3,I4,I5,I6,I7,reduceIte,reduceCtorEq,c,minFrom]at hq ⊢
  exact hq
theorem dcheck_p {M:Mem} {K:PV→Mem→Prop} {f1 o1 f2 o2 f3 o3:Bool} {D:DF} (B:BnD D) (hk:K (p64 (checkD D)) M):
  SemC tab 21 [.agg (dfC f1 o1 f2 o2 f3 o3 D)] M K:=by
 refine q18 T.h21 (by simp only[PP,P1,P2,P3,P4,P5,P6,P7,P8,P9,P10,P11,P12,P13,P14,L1,P15,N1,N2,N3,N4,N5,N6,N7,I1,I2,I3,I4,I5,I6,I7,reduceIte,reduceCtorEq]) ?_
 simp only[af21,PP,P1,P2,P3,P4,P5,P6,P7,P8,P9,P10,P11,P12,P13,P14,L1,P15,N1,N2,N3,N4,N5,N6,N7,I1,I2,I3,I4,I5,I6,I7,reduceIte,reduceCtorEq]
 unfold checkD at hk
 refine QIf.intro (fun c1=>?_) (fun c1=>?_)
 ·rw[if_pos (.inl c1)]at hk
  simp only[PP,P1,P2,P3,P4,P5,P6,P7,P8,P9,P10,P11,P12,P13,P14,L1,P15,N1,N2,N3,N4,N5,N6,N7,I1,I2,I3,I4,I5,I6,I7,reduceIte,reduceCtorEq,c1]
  exact hk
 simp only[PP,P1,P2,P3,P4,P5,P6,P7,P8,P9,P10,P11,P12,P13,P14,L1,P15,N1,N2,N3,N4,N5,N6,N7,I1,I2,I3,I4,I5,I6,I7,reduceIte,reduceCtorEq,c1]
 refine QIf.intro (fun c2=>?_) (fun c2=>?_)
 ·rw[if_pos (.inr c2)]at hk
  simp only[PP,P1,P2,P3,P4,P5,P6,P7,P8,P9,P10,P11,P12,P13,P14,L1,P15,N1,N2,N3,N4,N5,N6,N7,I1,I2,I3,I4,I5,I6,I7,reduceIte,reduceCtorEq,c2]
  exact hk
 rw[if_neg (by omega)]at hk
 simp only[PP,P1,P2,P3,P4,P5,P6,P7,P8,P9,P10,P11,P12,P13,P14,L1,P15,N1,N2,N3,N4,N5,N6,N7,I1,I2,I3,I4,I5,I6,I7,reduceIte,reduceCtorEq,c2]
 refine QIf.intro (fun c3=>?_) (fun c3=>?_)
 ·rw[if_pos c3]at hk
  simp only[PP,P1,P2,P3,P4,P5,P6,P7,P8,P9,P10,P11,P12,P13,P14,L1,P15,N1,N2,N3,N4,N5,N6,N7,I1,I2,I3,I4,I5,I6,I7,reduceIte,reduceCtorEq,c3]
  exact hk
 rw[if_neg c3]at hk
 simp only[PP,P1,P2,P3,P4,P5,P6,P7,P8,P9,P10,P11,P12,P13,P14,L1,P15,N1,N2,N3,N4,N5,N6,N7,I1,I2,I3,I4,I5,I6,I7,reduceIte,reduceCtorEq,c3]
 refine QIf.intro (fun c4=>?_) (fun c4=>?_)
 ·rw[if_pos c4]at hk
  simp only[PP,P1,P2,P3,P4,P5,P6,P7,P8,P9,P10,P11,P12,P13,P14,L1,P15,N1,N2,N3,N4,N5,N6,N7,I1,I2,I3,I4,I5,I6,I7,reduceIte,reduceCtorEq,c4]
  exact hk
 rw[if_neg c4]at hk
 simp only[PP,P1,P2,P3,P4,P5,P6,P7,P8,P9,P10,P11,P12,P13,P14,L1,P15,N1,N2,N3,N4,N5,N6,N7,I1,I2,I3,I4,I5,I6,I7,reduceIte,reduceCtorEq,c4]
 refine QIf.intro (fun c5=>?_) (fun c5=>?_)
 rotate_left
 ·rw[if_pos c5]at hk
  simp only[PP,P1,P2,P3,P4,P5,P6,P7,P8,P9,P10,P11,P12,P13,P14,L1,P15,N1,N2,N3,N4,N5,N6,N7,I1,I2,I3,I4,I5,I6,I7,reduceIte,reduceCtorEq,c5]
  exact hk
 rw[if_neg (Classical.not_not.2 c5)]at hk
 simp only[PP,P1,P2,P3,P4,P5,P6,P7,P8,P9,P10,P11,P12,P13,P14,L1,P15,N1,N2,N3,N4,N5,N6,N7,I1,I2,I3,I4,I5,I6,I7,reduceIte,reduceCtorEq,c5]
 refine QIf.intro (fun c6=>?_) (fun c6=>?_)
 ·rw[if_pos (.inl c6)]at hk
  simp only[PP,P1,P2,P3,P4,P5,P6,P7,P8,P9,P10,P11,P12,P13,P14,L1,P15,N1,N2,N3,N4,N5,N6,N7,I1,I2,I3,I4,I5,I6,I7,reduceIte,reduceCtorEq,c6]
  exact hk
 simp only[PP,P1,P2,P3,P4,P5,P6,P7,P8,P9,P10,P11,P12,P13,P14,L1,P15,N1,N2,N3,N4,N5,N6,N7,I1,I2,I3,I4,I5,I6,I7,reduceIte,reduceCtorEq,c6]
 refine QIf.intro (fun c7=>?_) (fun c7=>?_)
 ·rw[if_pos (.inr c7)]at hk
  simp only[PP,P1,P2,P3,P4,P5,P6,P7,P8,P9,P10,P11,P12,P13,P14,L1,P15,N1,N2,N3,N4,N5,N6,N7,I1,I2,I3,I4,I5,I6,I7,reduceIte,reduceCtorEq,c7]
  exact hk
 rw[if_neg (by omega)]at hk
 simp only[PP,P1,P2,P3,P4,P5,P6,P7,P8,P9,P10,P11,P12,P13,P14,L1,P15,N1,N2,N3,N4,N5,N6,N7,I1,I2,I3,I4,I5,I6,I7,reduceIte,reduceCtorEq,c7]
 have hl:=shl_one c1 c2
 refine loop1 (fun(k:Nat)=>k≤D.nx.length∧K (p64 (rowsD D.vs D.nx.length (D.nx.drop k))) M) (fun k=>[Zj,.ptr 0 0 0,Zj,p64 D.nx.length,Zj,Zj,Zj,Zj,Zj,Zj,Zj,Zj,Zj,Zj,Zj,Zj,Zj,Zj,Zj,Zj,Zj,Zj,Zj,Zj,Zj,Zj,Zj,Zj,Zj,Zj,Zj,Zj,Zj,Zj,Zj,Zj,Zj,Zj,Zj,Zj,Zj,slR f1 o1 f2 o2 .i64 D.nx,p64 D.nx.length,p64 k,Zj,Zj,Zj,Zj,Zj,Zj,Zj,Zj,Zj,Zj,Zj,Zj,Zj,Zj,Zj,Zj,Zj,Zj,Zj]) (fun _=>[.cells 0 0 (dfC f1 o1 f2 o2 f3 o3 D)]) (fun k=>D.nx.length-k) 0 ⟨by omega,hk⟩ (by simp only[PW]) rfl ?_
 intro k ⟨hle,hq⟩ ih
 refine q48 (by kernel_rfl) ?_
 simp only[PP,P1,P2,P3,P4,P5,P6,P7,P8,P9,P10,P11,P12,P13,P14,L1,P15,N1,N2,N3,N4,N5,N6,N7,I1,I2,I3,I4,I5,I6,I7,reduceIte,reduceCtorEq]
 refine QIf.intro (fun c=>?_) (fun c=>?_)
 ·have hk':k<D.nx.length:=by omega
  obtain⟨r,g⟩:=some_of hk'
  have h0:(0:Int)≤(k:Int):=by omega
  have hB:D.nx.length<1000000000000:=B.n
  have hw:=q49 (k:=k) (by show _<1000000000000;omega)
  rw[drop_some g]at hq
  simp only[PP,P1,P2,P3,P4,P5,P6,P7,P8,P9,P10,P11,P12,P13,P14,L1,P15,N1,N2,N3,N4,N5,N6,N7,I1,I2,I3,I4,I5,I6,I7,reduceIte,reduceCtorEq,c,g,h0,hl]
  unfold rowsD at hq
  refine QIf.intro (fun e=>?_) (fun e=>?_)
  rotate_left
  ·rw[if_neg e]at hq
   simp only[PP,P1,P2,P3,P4,P5,P6,P7,P8,P9,P10,P11,P12,P13,P14,L1,P15,N1,N2,N3,N4,N5,N6,N7,I1,I2,I3,I4,I5,I6,I7,reduceIte,reduceCtorEq,e]
   exact hq
  rw[if_pos e]at hq
  simp only[PP,P1,P2,P3,P4,P5,P6,P7,P8,P9,P10,P11,P12,P13,P14,L1,P15,N1,N2,N3,N4,N5,N6,N7,I1,I2,I3,I4,I5,I6,I7,reduceIte,reduceCtorEq,e]
  cases r with
  | nil=>have:=pow_pos' D.vs;simp at e;omega
  | cons x l=>
   have hx:(x::l).length<big:=B.r _ (List.mem_of_getElem? g)
   refine min_p T hx ?_
   simp only[PP,P1,P2,P3,P4,P5,P6,P7,P8,P9,P10,P11,P12,P13,P14,L1,P15,N1,N2,N3,N4,N5,N6,N7,I1,I2,I3,I4,I5,I6,I7,reduceIte,reduceCtorEq]
   refine QIf.intro (fun e1=>?_) (fun e1=>?_)
   ·rw[if_pos (badR_iff.2 (.inl e1))]at hq
    simp only[PP,P1,P2,P3,P4,P5,P6,P7,P8,P9,P10,P11,P12,P13,P14,L1,P15,N1,N2,N3,N4,N5,N6,N7,I1,I2,I3,I4,I5,I6,I7,reduceIte,reduceCtorEq,e1]
    exact hq
   simp only[PP,P1,P2,P3,P4,P5,P6,P7,P8,P9,P10,P11,P12,P13,P14,L1,P15,N1,N2,N3,N4,N5,N6,N7,I1,I2,I3,I4,I5,I6,I7,reduceIte,reduceCtorEq,e1]
   refine max_p T hx ?_
   simp only[PP,P1,P2,P3,P4,P5,P6,P7,P8,P9,P10,P11,P12,P13,P14,L1,P15,N1,N2,N3,N4,N5,N6,N7,I1,I2,I3,I4,I5,I6,I7,reduceIte,reduceCtorEq]
   refine QIf.intro (fun e2=>?_) (fun e2=>?_)
   ·rw[if_pos (badR_iff.2 (.inr e2))]at hq
    simp only[PP,P1,P2,P3,P4,P5,P6,P7,P8,P9,P10,P11,P12,P13,P14,L1,P15,N1,N2,N3,N4,N5,N6,N7,I1,I2,I3,I4,I5,I6,I7,reduceIte,reduceCtorEq,e2]
    exact hq
   rw[if_neg (by rw[badR_iff];omega)]at hq
   simp only[PP,P1,P2,P3,P4,P5,P6,P7,P8,P9,P10,P11,P12,P13,P14,L1,P15,N1,N2,N3,N4,N5,N6,N7,I1,I2,I3,I4,I5,I6,I7,reduceIte,reduceCtorEq,e2,hw]
   exact q35 (ih (k+1) ⟨by omega,hq⟩ (by omega)) (by simp only[PW])
 ·rw[List.drop_eq_nil_of_le (by omega)]at hq
  simp only[PP,P1,P2,P3,P4,P5,P6,P7,P8,P9,P10,P11,P12,P13,P14,L1,P15,N1,N2,N3,N4,N5,N6,N7,I1,I2,I3,I4,I5,I6,I7,reduceIte,reduceCtorEq,c,rowsD]at hq ⊢
  exact hq
end
end Go.Am.Ar

