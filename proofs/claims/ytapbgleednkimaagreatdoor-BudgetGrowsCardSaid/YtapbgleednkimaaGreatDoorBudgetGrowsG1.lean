/- Contracts: sets of numbers (package bitset), and what goes with it. -/
import Derived.Test.YtapbgleednkimaaGreatDoorBudgetGrowsG0
import Derived.Test.YtapbgleednkimaaGreatDoorPmC
set_option linter.unusedVariables false
set_option linter.unusedSimpArgs false
set_option maxRecDepth 10000
namespace Go.Am.Ar
open Go.Am.PV renaming junk->Zj
open Go.Am renaming lF->P1,tB->P2,PKNo->P3,ppack->P4,PObj.under->P5,pput->P6,ptset->P7,ptget->P8,pev->P9,ofAV->P10,ofAV1->P11,ppad->P12,pfill->P13,eZ->P14,AO.effect->P15
open List renaming replicate->L1
open Nat renaming reduceAdd->N1,reduceSub->N2,reduceMul->N3,reduceLT->N4,reduceLeDiff->N5,reduceEqDiff->N6,reduceBEq->N7
open Int renaming reduceToNat->I1,reduceLT->I2,reduceLE->I3,reduceEq->I4,reduceAdd->I5,reduceSub->I6,reduceNeg->I7
abbrev oJ (b:BitVec 64):PV:= .int .u64 ((b.toNat:Nat):Int)
abbrev slW (f o:Bool) (a:Wd):PV:= .sl f o 1 a.length ((wI a).map (PV.int .u64))
theorem T0 {a:Wd} {i:Nat} (h:i<a.length):(wI a)[i]? =some (((wAt a i).toNat:Nat):Int):=by
 rw[List.getElem?_map,List.getElem?_eq_getElem h,qU (List.getElem?_eq_getElem h)];rfl
theorem aDa {x y:Int} (h:y≠0):dW .quo (.int .i64 x) (.int .i64 y)=some (.int .i64 (IntKind.i64.wrap (x.tdiv y))):=by
 simp[dW,dQ,gA,ofAV1,h,dE,d9]
theorem lE {k:IntKind} {x y:Int} :xJ (.int k x) [.int k y]=some (.int k (min x y)):=by
 simp[xJ,dQ,hI,lT,zC,ofAV1]
 split<;>omega
theorem QB {j:Nat} (h:j<4000000000000):IntKind.i64.wrap (((j+1:Nat):Int)-1)=(j:Int):=by
 rw[wrap64 (by omega) (by omega)];omega
theorem aDF {g ver m:Nat} {W:Wd} (h:m<=W.length):yN (some (.cells g ver ((wI W).map (PV.int .u64)))) g 1 0 m=some (slW false true (W.take m)):=by
 rw[hU (by simp;omega) (bW _ _ _)]
 have h1:cW ((wI W).map (PV.int .u64)) 0 (m*1)=(wI (W.take m)).map (PV.int .u64):=by simp[cW,List.map_take]
 have h2:(W.take m).length=m:=by rw[List.length_take];omega
 rw[h1]
 unfold slW
 rw[h2]
theorem NZ {α:Type} (z x:α):∀n:Nat,(z::List.replicate n z).set n x=List.replicate n z++[x]
 | 0=>rfl
 | n+1=>by
  rw[List.set_cons_succ,List.replicate_succ,NZ z x n];rfl
section
variable {tab:FuncId->Option AF} (T:HasA tab)
include T
theorem YJ {M:Mem} {K:PV->Mem->Prop} {f o:Bool} {a:Wd} {i:Nat} (hk:K (oJ (wAt a i)) M):
  SemC tab 215 [slW f o a,p64 i] M K:=by
 refine a8 T.h215 (by simp only[PP,P1,P2,P14,P15,N1,N2,N3,N4,N5,N6,N7,I1,I2,I3,I4,I5,I6,I7,reduceIte,reduceCtorEq]) ?_
 simp only[af215,PP,P1,P2,P14,P15,N1,N2,N3,N4,N5,N6,N7,I1,I2,I3,I4,I5,I6,I7,reduceIte,reduceCtorEq]
 refine QIf.intro (fun c=>?_) (fun c=>?_)
 ·have hi:i<a.length:=by omega
  have i0:(0:Int)<=i:=by omega
  have g:=T0 hi
  rw[List.getElem?_map]at g
  simp only[PP,P1,P2,P14,P15,N1,N2,N3,N4,N5,N6,N7,I1,I2,I3,I4,I5,I6,I7,reduceIte,reduceCtorEq,c,g,i0]
  exact hk
 ·rw[kY (by omega)]at hk
  simp only[PP,P1,P2,P14,P15,N1,N2,N3,N4,N5,N6,N7,I1,I2,I3,I4,I5,I6,I7,reduceIte,reduceCtorEq,c]
  exact hk
theorem O8 {M:Mem} {K:PV->Mem->Prop} {id g off n ver:Nat} {cs:List PV} (hM:M[id]? =some (.cells g ver cs)) (hk:K (.ref id g 1 off n) M):
  SemC tab 216 [.ref id g 1 off n] M K:=by
 refine cK T.h216 ?_
 have e:((n:Int)-0).toNat=n:=by omega
 have n0:(0:Int)<=n:=by omega
 simp only[af216,PP,P1,P2,P14,P15,N1,N2,N3,N4,N5,N6,N7,I1,I2,I3,I4,I5,I6,I7,reduceIte,reduceCtorEq,hM,e,n0,Int.le_refl]
 exact hk
theorem CP {M:Mem} {K:PV->Mem->Prop} {f1 o1 f2 o2:Bool} {a b:Wd} {g:FuncId} (op:BitVec 64->BitVec 64->BitVec 64) (ha:a.length<big) (hb:b.length<big)
  (hop:∀(M:Mem) (K:PV->Mem->Prop) (x y:BitVec 64),K (oJ (op x y)) M->SemC tab g [oJ x,oJ y] M K) (hk:K (slW false true (cmb op a b)) M):
  SemC tab 182 [slW f1 o1 a,slW f2 o2 b,.func (.func g) [] []] M K:=by
 refine a8 T.h182 (by simp only[PP,P1,P2,P14,P15,N1,N2,N3,N4,N5,N6,N7,I1,I2,I3,I4,I5,I6,I7,reduceIte,reduceCtorEq]) ?_
 simp only[af182,PP,P1,P2,P14,P15,N1,N2,N3,N4,N5,N6,N7,I1,I2,I3,I4,I5,I6,I7,reduceIte,reduceCtorEq]
 have hn:min (max (a.length:Int) b.length) 64=((min (max a.length b.length) 64:Nat):Int):=by omega
 have hk':K (slW false true (sR (l7 op a b (min (max a.length b.length) 64)))) M:=hk
 generalize hnn:min (max a.length b.length) 64=n at hn hk'
 have hn64:n<=64:=by omega
 simp only[PP,P1,P2,P14,P15,N1,N2,N3,N4,N5,N6,N7,I1,I2,I3,I4,I5,I6,I7,reduceIte,reduceCtorEq,lE,hn]
 refine d8 (GStep.nil 8 1 rfl rfl rfl) ?_
 simp only[ptset,List.cons_append,List.nil_append,List.length_cons,List.length_nil,Nat.reduceAdd]
 refine iF (fun(i g2:Nat)=>i<=n)
  (fun i g2=>(slW f1 o1 a::slW f2 o2 b:: .func (.func g) [] []::zj 4++ .func (.func 215) [] []:: .ref 0 g2 1 0 i::zj 6++p64 n::p64 i::zj 35))
  (fun i g2=>[.cells g2 0 ((wI (l7 op a b i)).map (PV.int .u64))])
  (fun i _=>n-i) 0 0 (by omega) (by simp only[PW]) rfl ?_
 intro i g2 hi ih
 refine bZ (by kernel_rfl) ?_
 simp only[PP,P1,P2,P14,P15,N1,N2,N3,N4,N5,N6,N7,I1,I2,I3,I4,I5,I6,I7,reduceIte,reduceCtorEq]
 refine QIf.intro (fun c=>?_) (fun c=>?_)
 ·have hin:i<n:=by omega
  have hw:=bG (k:=i) (by show _<1000000000000;omega)
  have b1:(i+1)*8<=140737488355328:=by omega
  have b2:i<=9223372036854775806:=by omega
  have b3:i<=(l7 op a b i).length:=by rw[mS];omega
  have hps:cW (List.map (PV.int .u64) (wI (l7 op a b i))) 0 i=List.map (PV.int .u64) (wI (l7 op a b i)):=dJ _ _ (by rw[List.length_map,List.length_map,mS])
  simp only[PP,P1,P2,P14,P15,N1,N2,N3,N4,N5,N6,N7,I1,I2,I3,I4,I5,I6,I7,reduceIte,reduceCtorEq,c]
  refine YJ T ?_
  simp only[PP,P1,P2,P14,P15,N1,N2,N3,N4,N5,N6,N7,I1,I2,I3,I4,I5,I6,I7,reduceIte,reduceCtorEq]
  refine YJ T ?_
  simp only[PP,P1,P2,P14,P15,N1,N2,N3,N4,N5,N6,N7,I1,I2,I3,I4,I5,I6,I7,reduceIte,reduceCtorEq]
  refine hop _ _ _ _ ?_
  simp only[PP,P1,P2,P14,P15,N1,N2,N3,N4,N5,N6,N7,I1,I2,I3,I4,I5,I6,I7,reduceIte,reduceCtorEq,b1,b2,b3,hps,hw]
  exact dR (ih (i+1) (g2+1) (by omega) (by omega)) (by simp only[PW]) (by rw[SN];simp)
 ·have hin:i=n:=by omega
  subst hin
  simp only[PP,P1,P2,P14,P15,N1,N2,N3,N4,N5,N6,N7,I1,I2,I3,I4,I5,I6,I7,reduceIte,reduceCtorEq,c]
  have hwl:=mS op a b i
  generalize l7 op a b i=W at hk' hwl ⊢
  refine mL (fun(m:Nat)=>m<=i/\iE W m=iE W W.length)
   (fun m=>(zj 8++ .ref 0 g2 1 0 m::zj 43)) (fun m=>[.cells g2 0 ((wI W).map (PV.int .u64))]) (fun m=>m) i ⟨by omega,by rw[hwl]⟩ (by simp only[PW]) rfl ?_
  intro m ⟨hm,htr⟩ ih2
  have hfin:iE W m=m->K (slW false true (W.take m)) M:=fun e=>by
   have hk2:K (slW false true (W.take (iE W W.length))) M:=hk'
   rw[<-htr,e]at hk2;exact hk2
  refine bZ (by kernel_rfl) ?_
  simp only[PP,P1,P2,P14,P15,N1,N2,N3,N4,N5,N6,N7,I1,I2,I3,I4,I5,I6,I7,reduceIte,reduceCtorEq]
  refine QIf.intro (fun d=>?_) (fun d=>?_)
  ·obtain⟨j,rfl⟩:∃j,m=j+1:=⟨m-1,by omega⟩
   have hw:=QB (j:=j) (by omega)
   have j0:(0:Int)<=j:=by omega
   have j1:(j:Int)<((j+1:Nat):Int):=by omega
   have gj:=T0 (a:=W) (i:=j) (by omega)
   rw[List.getElem?_map]at gj
   have e2:((j:Int)-0).toNat=j:=by omega
   have j2:(j:Int)<=((j+1:Nat):Int):=by omega
   simp only[PP,P1,P2,P14,P15,N1,N2,N3,N4,N5,N6,N7,I1,I2,I3,I4,I5,I6,I7,reduceIte,reduceCtorEq,hw,j0,j1,gj,d]
   have et:iE W (j+1)=if wAt W j=0#64 then iE W j else j+1:=rfl
   rw[et]at htr hfin
   refine QIf.intro (fun e=>?_) (fun e=>?_)
   ·have hz:wAt W j=0#64:=BitVec.eq_of_toNat_eq (by simpa using e)
    rw[if_pos hz]at htr
    simp only[PP,P1,P2,P14,P15,N1,N2,N3,N4,N5,N6,N7,I1,I2,I3,I4,I5,I6,I7,reduceIte,reduceCtorEq,e,hw,j0,j2,e2]
    exact bB (ih2 j ⟨by omega,htr⟩ (by omega)) (by simp only[PW])
   ·have hz:¬wAt W j=0#64:=fun h=>e (by rw[h];rfl)
    rw[if_neg hz]at hfin
    have hk3:=hfin rfl
    simp only[PP,P1,P2,P14,P15,N1,N2,N3,N4,N5,N6,N7,I1,I2,I3,I4,I5,I6,I7,reduceIte,reduceCtorEq,e]
    refine O8 T rfl ?_
    simp only[PP,P1,P2,P14,P15,N1,N2,N3,N4,N5,N6,N7,I1,I2,I3,I4,I5,I6,I7,reduceIte,reduceCtorEq,aDF (W:=W) (m:=j+1) (by omega)]
    exact hk3
  ·have:m=0:=by omega
   subst this
   have hk3:=hfin rfl
   simp only[PP,P1,P2,P14,P15,N1,N2,N3,N4,N5,N6,N7,I1,I2,I3,I4,I5,I6,I7,reduceIte,reduceCtorEq,d]
   refine O8 T rfl ?_
   simp only[PP,P1,P2,P14,P15,N1,N2,N3,N4,N5,N6,N7,I1,I2,I3,I4,I5,I6,I7,reduceIte,reduceCtorEq,aDF (W:=W) (m:=0) (by omega)]
   exact hk3
theorem aEx {M:Mem} {K:PV->Mem->Prop} {x y:BitVec 64} (hk:K (oJ (x||| y)) M):SemC tab 211 [oJ x,oJ y] M K:=by
 refine a8 T.h211 (by simp only[PP,P1,P2,P14,P15,N1,N2,N3,N4,N5,N6,N7,I1,I2,I3,I4,I5,I6,I7,reduceIte,reduceCtorEq]) ?_
 simp only[af211,PP,P1,P2,P14,P15,N1,N2,N3,N4,N5,N6,N7,I1,I2,I3,I4,I5,I6,I7,reduceIte,reduceCtorEq,B2]
 exact hk
theorem aDX {M:Mem} {K:PV->Mem->Prop} {x y:BitVec 64} (hk:K (oJ (x&&& y)) M):SemC tab 183 [oJ x,oJ y] M K:=by
 refine a8 T.h183 (by simp only[PP,P1,P2,P14,P15,N1,N2,N3,N4,N5,N6,N7,I1,I2,I3,I4,I5,I6,I7,reduceIte,reduceCtorEq]) ?_
 simp only[af183,PP,P1,P2,P14,P15,N1,N2,N3,N4,N5,N6,N7,I1,I2,I3,I4,I5,I6,I7,reduceIte,reduceCtorEq,qB]
 exact hk
theorem aAj {M:Mem} {K:PV->Mem->Prop} {f1 o1 f2 o2:Bool} {a b:Wd} (ha:a.length<big) (hb:b.length<big) (hk:K (slW false true (cmb (fun x y=>x||| y) a b)) M):
  SemC tab 175 [slW f1 o1 a,slW f2 o2 b] M K:=by
 refine a8 T.h175 (by simp only[PP,P1,P2,P14,P15,N1,N2,N3,N4,N5,N6,N7,I1,I2,I3,I4,I5,I6,I7,reduceIte,reduceCtorEq]) ?_
 simp only[af175,PP,P1,P2,P14,P15,N1,N2,N3,N4,N5,N6,N7,I1,I2,I3,I4,I5,I6,I7,reduceIte,reduceCtorEq]
 refine CP T (fun x y=>x||| y) ha hb (fun M K x y h=>aEx T h) ?_
 simp only[PP,P1,P2,P14,P15,N1,N2,N3,N4,N5,N6,N7,I1,I2,I3,I4,I5,I6,I7,reduceIte,reduceCtorEq]
 exact hk
theorem HY {M:Mem} {K:PV->Mem->Prop} {f1 o1 f2 o2:Bool} {a b:Wd} (ha:a.length<big) (hb:b.length<big) (hk:K (slW false true (cmb (fun x y=>x&&& y) a b)) M):
  SemC tab 146 [slW f1 o1 a,slW f2 o2 b] M K:=by
 refine a8 T.h146 (by simp only[PP,P1,P2,P14,P15,N1,N2,N3,N4,N5,N6,N7,I1,I2,I3,I4,I5,I6,I7,reduceIte,reduceCtorEq]) ?_
 simp only[af146,PP,P1,P2,P14,P15,N1,N2,N3,N4,N5,N6,N7,I1,I2,I3,I4,I5,I6,I7,reduceIte,reduceCtorEq]
 refine CP T (fun x y=>x&&& y) ha hb (fun M K x y h=>aDX T h) ?_
 simp only[PP,P1,P2,P14,P15,N1,N2,N3,N4,N5,N6,N7,I1,I2,I3,I4,I5,I6,I7,reduceIte,reduceCtorEq]
 exact hk
theorem F6 {M:Mem} {K:PV->Mem->Prop} {k:Nat} (h:k<4096) (hk:K (slW false true (nY k)) M):SemC tab 176 [p64 k] M K:=by
 refine a8 T.h176 (by simp only[PP,P1,P2,P14,P15,N1,N2,N3,N4,N5,N6,N7,I1,I2,I3,I4,I5,I6,I7,reduceIte,reduceCtorEq]) ?_
 have k0:¬(k:Int)<0:=by omega
 have k1:¬(4095:Int)<k:=by omega
 have h64:(64:Int)≠0:=by omega
 have e1:IntKind.i64.wrap ((k:Int).tdiv 64)=((k / 64:Nat):Int):=by
  rw[Int.tdiv_eq_ediv_of_nonneg (by omega),wrap64 (by omega) (by omega)];omega
 have e2:(k:Int).tmod 64=((k % 64:Nat):Int):=by rw[Int.tmod_eq_emod_of_nonneg (by omega)];omega
 have e3:=bG (k:=k / 64) (by show _<1000000000000;omega)
 have b0:(0:Int)<=((k / 64+1:Nat):Int):=by omega
 have b1:((k / 64+1:Nat):Int)*8<=140737488355328:=by omega
 have b2:((k / 64+1:Nat):Int)<=9223372036854775807:=by omega
 have b3:(0:Int)<=((k / 64:Nat):Int):=by omega
 have b4:((k / 64:Nat):Int)<((k / 64+1:Nat):Int):=by omega
 have b5:k / 64+1<=k / 64+1:=Nat.le_refl _
 have hsh:=xL (k:=k % 64) (Nat.mod_lt _ (by omega))
 simp only[af176,PP,P1,P2,P14,P15,N1,N2,N3,N4,N5,N6,N7,I1,I2,I3,I4,I5,I6,I7,reduceIte,reduceCtorEq,k0,k1,aC9 h64,aDa h64,e1,e2,e3,b0,b1,b2,b3,b4,hsh,Int.le_refl]
 have hc:List.replicate (k / 64) (PV.int .u64 0)++[PV.int .u64 (((BitVec.twoPow 64 (k % 64)).toNat:Nat):Int)]=(wI (nY k)).map (PV.int .u64):=by
  simp[nY]
 have hl:=mC k
 rw[NZ,hc]
 have ht:(nY k).take (k / 64+1)=nY k:=List.take_of_length_le (by omega)
 simp only[PP,P1,P2,P14,P15,N1,N2,N3,N4,N5,N6,N7,I1,I2,I3,I4,I5,I6,I7,reduceIte,reduceCtorEq,aDF (W:=nY k) (m:=k / 64+1) (by omega),ht]
 exact hk
theorem aCS {M:Mem} {K:PV->Mem->Prop} {f o:Bool} {a:Wd} {k:Nat} (ha:a.length<big) (h:k<4096) (hk:K (slW false true (qT a k)) M):SemC tab 140 [slW f o a,p64 k] M K:=by
 refine a8 T.h140 (by simp only[PP,P1,P2,P14,P15,N1,N2,N3,N4,N5,N6,N7,I1,I2,I3,I4,I5,I6,I7,reduceIte,reduceCtorEq]) ?_
 simp only[af140,PP,P1,P2,P14,P15,N1,N2,N3,N4,N5,N6,N7,I1,I2,I3,I4,I5,I6,I7,reduceIte,reduceCtorEq]
 refine F6 T h ?_
 simp only[PP,P1,P2,P14,P15,N1,N2,N3,N4,N5,N6,N7,I1,I2,I3,I4,I5,I6,I7,reduceIte,reduceCtorEq]
 refine aAj T ha (by rw[mC];show _<1000000000000;omega) ?_
 simp only[PP,P1,P2,P14,P15,N1,N2,N3,N4,N5,N6,N7,I1,I2,I3,I4,I5,I6,I7,reduceIte,reduceCtorEq]
 exact hk
theorem EN {M:Mem} {K:PV->Mem->Prop} {f1 o1 f2 o2:Bool} {a b:Wd} (ha:a.length<big) (hb:b.length<big) (hk:K (.bool (decide (0<(cmb (fun x y=>x&&& y) a b).length))) M):
  SemC tab 85 [slW f1 o1 a,slW f2 o2 b] M K:=by
 refine a8 T.h85 (by simp only[PP,P1,P2,P14,P15,N1,N2,N3,N4,N5,N6,N7,I1,I2,I3,I4,I5,I6,I7,reduceIte,reduceCtorEq]) ?_
 simp only[af85,PP,P1,P2,P14,P15,N1,N2,N3,N4,N5,N6,N7,I1,I2,I3,I4,I5,I6,I7,reduceIte,reduceCtorEq]
 refine HY T ha hb ?_
 simp only[PP,P1,P2,P14,P15,N1,N2,N3,N4,N5,N6,N7,I1,I2,I3,I4,I5,I6,I7,reduceIte,reduceCtorEq,Int.natCast_pos]
 exact hk
end
theorem YR {a:Wd} {k:Nat} (ha:a.length<=64) (hk:k<4096):decide (0<(cmb (fun x y=>x&&& y) a (nY k)).length)=bit a k:=by
 have hs:(nY k).length<=64:=by rw[mC];omega
 cases hb:bit a k with
 | true=>
  refine decide_eq_true (Nat.pos_of_ne_zero fun h=>?_)
  have:=(O7 a (nY k)).1 h k
  rw[vD ha hs,y9,hb]at this
  simp at this
 | false=>
  refine decide_eq_false (fun h=>?_)
  have:(cmb (fun x y=>x&&& y) a (nY k)).length=0:=(O7 a (nY k)).2 fun j=>by
   rw[vD ha hs,y9]
   by_cases e:j=k
   ·subst e;rw[hb];rfl
   ·simp[e]
  omega
section
variable {tab:FuncId->Option AF} (T:HasA tab)
include T
theorem aBK {M:Mem} {K:PV->Mem->Prop} {f o:Bool} {a:Wd} {k:Nat} (ha:a.length<=64) (hk:k<4096) (hq:K (.bool (bit a k)) M):
  SemC tab 181 [slW f o a,p64 k] M K:=by
 refine a8 T.h181 (by simp only[PP,P1,P2,P14,P15,N1,N2,N3,N4,N5,N6,N7,I1,I2,I3,I4,I5,I6,I7,reduceIte,reduceCtorEq]) ?_
 simp only[af181,PP,P1,P2,P14,P15,N1,N2,N3,N4,N5,N6,N7,I1,I2,I3,I4,I5,I6,I7,reduceIte,reduceCtorEq]
 refine F6 T hk ?_
 simp only[PP,P1,P2,P14,P15,N1,N2,N3,N4,N5,N6,N7,I1,I2,I3,I4,I5,I6,I7,reduceIte,reduceCtorEq]
 refine EN T (by show _<1000000000000;omega) (by show _<1000000000000;rw[mC];omega) ?_
 simp only[PP,P1,P2,P14,P15,N1,N2,N3,N4,N5,N6,N7,I1,I2,I3,I4,I5,I6,I7,reduceIte,reduceCtorEq,YR ha hk]
 exact hq
end
theorem mI {n:Int} {l:List Int} (h:jF n (-1) l=true):∀x∈l,0<=x/\x<n:=fun x hx=>by
 have:=(mH h).2 x hx;omega
def faW (l:List Int):Wd:=ofL (l.map Int.toNat)
theorem aCI {N:NF} (C:NOk N) {l:List Int} (h:jF N.n (-1) l=true):(∀x∈l.map Int.toNat,x<4096)/\(faW l).length<=64/\∀k:Nat,bit (faW l) k=decide ((k:Int)∈l):=by
 have hm:=mI h
 have n64:=C.n64
 have h1:∀x∈l.map Int.toNat,x<4096:=fun x hx=>by
  obtain⟨y,hy,rfl⟩:=List.mem_map.1 hx
  have:=hm y hy;omega
 refine⟨h1,aAN h1,fun k=>?_⟩
 rw[faW,aBN h1,decide_eq_decide,List.mem_map]
 exact⟨fun⟨y,hy,e⟩=>by have:=hm y hy;rw[show(k:Int)=y by omega];exact hy,fun hk=>⟨k,hk,by simp⟩⟩
section
variable {tab:FuncId->Option AF} (T:HasA tab)
include T
end
def nJ (es:List Eg) (x:Nat):List Eg:=es.filter fun e=>LO e.ps e.ng x
def aFh (es:List Eg) (s:Wd) (x:Nat) (o:Wd):Prop:=o.length<=64/\∀k:Nat,bit o k=true↔∃e∈nJ es x,bit s e.fr.toNat=true/\e.to=k
theorem YK {a:Wd} {k:Nat} (ha:a.length<=64) (hk:k<4096):(qT a k).length<=64/\∀j,bit (qT a k) j=(bit a j||decide (j=k)):=by
 have:=DX [k] a ha (fun x hx=>by simp at hx;subst hx;exact hk)
 refine⟨this.1,fun j=>?_⟩
 have h:=this.2 j
 simpa using h
section
variable {tab:FuncId->Option AF} (T:HasA tab)
include T
theorem K7 {M:Mem} {K:PV->Mem->Prop} {f1 o1 f2 o2 f3 o3:Bool} {N:NF} {x:Nat} (hk:K (.func (.func 213) [] [.cp (nfC f1 o1 f2 o2 f3 o3 N) 0,.cp [p8 x] 0]) M):
  SemC tab 180 [.agg (nfC f1 o1 f2 o2 f3 o3 N),p8 x] M K:=by
 refine fD T.h180 (by simp only[PP,P1,P2,P14,P15,N1,N2,N3,N4,N5,N6,N7,I1,I2,I3,I4,I5,I6,I7,reduceIte,reduceCtorEq,dN]) ?_
 simp only[af180]
 refine bL (bD ?_)
 simp only[PP,P1,P2,P14,P15,N1,N2,N3,N4,N5,N6,N7,I1,I2,I3,I4,I5,I6,I7,reduceIte,reduceCtorEq]
 refine d8 (GStep.freezeP (b:=(.junk:: .junk:: .cp (nfC f1 o1 f2 o2 f3 o3 N) 0:: .ptr 1 0 0:: .junk:: .junk::[])) 0 (Nat.zero_le _) rfl (by simp only[nZ,n7,List.cons_append,List.nil_append,fP,eU,eT,fM]) rfl) ?_
 refine d8 (GStep.freezeP (b:=(.junk:: .junk:: .cp (nfC f1 o1 f2 o2 f3 o3 N) 0:: .cp [p8 x] 0:: .junk:: .junk::[])) 1 (Nat.zero_le _) rfl (by simp only[nZ,n7,List.cons_append,List.nil_append,fP,eU,eT,fM]) rfl) ?_
 refine bD ?_
 have e:∀N':Mem,jB 0 N' (.func (.func 213) [] [.cp (nfC f1 o1 f2 o2 f3 o3 N) 0,.cp [p8 x] 0])=some (.func (.func 213) [] [.cp (nfC f1 o1 f2 o2 f3 o3 N) 0,.cp [p8 x] 0]):=fun N'=>uS (M:=N') (by simp only[PP,P1,P2,P14,P15,N1,N2,N3,N4,N5,N6,N7,I1,I2,I3,I4,I5,I6,I7,reduceIte,reduceCtorEq,PV.under,fW])
 simp only[PP,P1,P2,P14,P15,N1,N2,N3,N4,N5,N6,N7,I1,I2,I3,I4,I5,I6,I7,reduceIte,reduceCtorEq,e]
 exact hk
set_option maxHeartbeats 1000000 in
theorem WC {M:Mem} {K:PV->Mem->Prop} {L:Nat} {f1 o1 f2 o2 f3 o3:Bool} {N:NF} {x:Nat} (hx:x<256) (he:N.es.length<1000000000000) (B:∀e∈N.es,(0<=e.ps/\e.ps<=255)/\(0<=e.ng/\e.ng<=255)) (J:Nat->Mem->Prop) (h0:J 0 M) (hg:∀k G o,J k G->J k (G++[o]))
  (hl:∀k G,J k G->∃ver r,G[L]? =some (.loop ver r))
  (hy:∀k G e,J k G->(nJ N.es x)[k]? =some e->∀K':PV->Mem->Prop,(∀G',J (k+1) G'->K' (.bool true) G')->MO tab L [.agg (egC e)] G K')
  (hk:∀G,J (nJ N.es x).length G->K (.tuple []) G):
  SemC tab 213 [.yld L [],.cp (nfC f1 o1 f2 o2 f3 o3 N) 0,.cp [p8 x] 0] M K:=by
 refine cK T.h213 ?_
 simp only[af213,PP,P1,P2,P14,P15,N1,N2,N3,N4,N5,N6,N7,I1,I2,I3,I4,I5,I6,I7,reduceIte,reduceCtorEq]
 refine iF (fun(i:Nat) (G:Mem)=>i<=N.es.length/\J (nJ (N.es.take i) x).length G) (fun i G=>(.yld L []:: .junk:: .cp [p8 x] 0::zj 4++slE f3 o3 N.es::p64 N.es.length::p64 i::zj 17)) (fun _ G=>G) (fun i _=>N.es.length-i) 0 M ⟨by omega,h0⟩ (by simp only[PW]) rfl ?_
 intro i G ⟨hle,hJ⟩ ih
 refine bZ (by kernel_rfl) ?_
 simp only[PP,P1,P2,P14,P15,N1,N2,N3,N4,N5,N6,N7,I1,I2,I3,I4,I5,I6,I7,reduceIte,reduceCtorEq]
 refine QIf.intro (fun c=>?_) (fun c=>?_)
 rotate_left
 ·have hi:i=N.es.length:=by omega
  subst hi
  rw[List.take_of_length_le (Nat.le_refl _)]at hJ
  simp only[PP,P1,P2,P14,P15,N1,N2,N3,N4,N5,N6,N7,I1,I2,I3,I4,I5,I6,I7,reduceIte,reduceCtorEq,c]
  exact hk G hJ
 have hi':i<N.es.length:=by omega
 obtain⟨e,ge⟩:=bY hi'
 have hw:=bG (k:=i) (by show _<1000000000000;omega)
 have i0:(0:Int)<=i:=by omega
 have h4:=GM ge
 have hl4:i*4+4<=(egL N.es).length:=by rw[kQ];exact aCK ge
 obtain⟨b1,b2⟩:=B e (List.mem_of_getElem? ge)
 have htk:nJ (N.es.take (i+1)) x=nJ (N.es.take i) x++if LO e.ps e.ng x=true then [e] else []:=by
  unfold nJ
  rw[List.take_add_one,ge,List.filter_append]
  congr 1
  by_cases q:LO e.ps e.ng x=true<;>simp[q]
 simp only[PP,P1,P2,P14,P15,N1,N2,N3,N4,N5,N6,N7,I1,I2,I3,I4,I5,I6,I7,reduceIte,reduceCtorEq,c,i0,h4,hl4,List.append_assoc,gk,gk0,sk,sk0]
 refine aE0 T b1 b2 hx ?_
 cases q:LO e.ps e.ng x with
 | false=>
  rw[q]at htk
  simp only[PP,P1,P2,P14,P15,N1,N2,N3,N4,N5,N6,N7,I1,I2,I3,I4,I5,I6,I7,reduceIte,reduceCtorEq,hw]
  refine dR (ih (i+1) (G++[.cells 0 1 (egC e)]) ⟨by omega,?_⟩ (by omega)) (by simp only[PW]) rfl
  rw[htk];simp;exact hg _ _ _ hJ
 | true=>
  rw[q]at htk
  have hat:(nJ N.es x)[(nJ (N.es.take i) x).length]? =some e:=by
   have:nJ N.es x=nJ (N.es.take (i+1)) x++nJ (N.es.drop (i+1)) x:=by
    unfold nJ;rw[<-List.filter_append,List.take_append_drop]
   rw[this,htk,List.append_assoc,List.getElem?_append_right (Nat.le_refl _),Nat.sub_self]
   simp
  simp only[PP,P1,P2,P14,P15,N1,N2,N3,N4,N5,N6,N7,I1,I2,I3,I4,I5,I6,I7,reduceIte,reduceCtorEq,List.append_assoc,gk,gk0,sk,sk0,JC]
  refine⟨hl _ _ (hg _ _ _ hJ),?_⟩
  refine hy _ _ e (hg _ _ _ hJ) hat _ fun G' hJ'=>?_
  simp only[PP,P1,P2,P14,P15,N1,N2,N3,N4,N5,N6,N7,I1,I2,I3,I4,I5,I6,I7,reduceIte,reduceCtorEq,hw]
  refine bB (ih (i+1) G' ⟨by omega,?_⟩ (by omega)) (by simp only[PW])
  rw[htk];simpa using hJ'
end
section
variable {tab:FuncId->Option AF} (T:HasA tab)
include T
end
def NL (vs:Int) (w:List Int):Int:=if 64<(w.length:Int) then 4 else if w.any (fun x=>decide (2^vs.toNat<=x))=true then 1 else 0
section
variable {tab:FuncId->Option AF} (T:HasA tab)
include T
theorem aDB {M:Mem} {K:PV->Mem->Prop} {f o:Bool} {xs:List Int} {g:FuncId} {cap:List PV} {F:Int->Bool} (hm:xs.length<1000000000000) (hu:aU 0 cap=true)
  (hf:∀x∈xs,∀(M':Mem) (K':PV->Mem->Prop),K' (.bool (F x)) M'->SemC tab g (p8 x::cap) M' K')
  (hk1:(∀x∈xs,F x=false)->K (p64 (-1)) M) (hk2:∀(k:Nat) (x:Int),x∈xs->F x=true->K (p64 k) M):
  SemC tab 212 [slI f o .u8 xs,.func (.func g) [] cap] M K:=by
 refine a8 T.h212 (by simp only[PP,P1,P2,P14,P15,N1,N2,N3,N4,N5,N6,N7,I1,I2,I3,I4,I5,I6,I7,reduceIte,reduceCtorEq,PV.under,hu]) ?_
 simp only[af212,PP,P1,P2,P14,P15,N1,N2,N3,N4,N5,N6,N7,I1,I2,I3,I4,I5,I6,I7,reduceIte,reduceCtorEq]
 refine mL (fun(k:Nat)=>k<=xs.length/\∀j,j<k->∀x,xs[j]? =some x->F x=false) (fun k=>(slI f o .u8 xs:: .func (.func g) [] cap::zj 5++p64 xs.length::p64 k::zj 10))
  (fun k=>[]) (fun k=>xs.length-k) 0 ⟨by omega,by intro j h;omega⟩ (by simp only[PW]) rfl ?_
 intro k ⟨hle,hd⟩ ih
 refine bZ (by kernel_rfl) ?_
 simp only[PP,P1,P2,P14,P15,N1,N2,N3,N4,N5,N6,N7,I1,I2,I3,I4,I5,I6,I7,reduceIte,reduceCtorEq]
 refine QIf.intro (fun c=>?_) (fun c=>?_)
 ·have hk':k<xs.length:=by omega
  have k0:(0:Int)<=k:=by omega
  have hwk:=bG (k:=k) (by show _<1000000000000;omega)
  obtain⟨x,gx⟩:=bY (xs:=xs) (k:=k) hk'
  simp only[PP,P1,P2,P14,P15,N1,N2,N3,N4,N5,N6,N7,I1,I2,I3,I4,I5,I6,I7,reduceIte,reduceCtorEq,c,k0,gx]
  refine hf x (List.mem_of_getElem? gx) _ _ ?_
  cases hF:F x with
  | true=>
   simp only[PP,P1,P2,P14,P15,N1,N2,N3,N4,N5,N6,N7,I1,I2,I3,I4,I5,I6,I7,reduceIte,reduceCtorEq]
   exact hk2 k x (List.mem_of_getElem? gx) hF
  | false=>
   simp only[PP,P1,P2,P14,P15,N1,N2,N3,N4,N5,N6,N7,I1,I2,I3,I4,I5,I6,I7,reduceIte,reduceCtorEq,hwk]
   refine bB (ih (k+1) ⟨by omega,fun j hj y gy=>?_⟩ (by omega)) (by simp only[PW])
   by_cases e:j=k
   ·subst e;rw[gx]at gy;cases gy;exact hF
   ·exact hd j (by omega) y gy
 ·simp only[PP,P1,P2,P14,P15,N1,N2,N3,N4,N5,N6,N7,I1,I2,I3,I4,I5,I6,I7,reduceIte,reduceCtorEq,c]
  exact hk1 fun x hx=>by
   obtain⟨j,hj⟩:=List.getElem?_of_mem hx
   exact hd j (by have:=aZ hj;omega) x hj
theorem aBG {M:Mem} {K:PV->Mem->Prop} {f o:Bool} {xs:List Int} {g:FuncId} {cap:List PV} {F:Int->Bool} (hm:xs.length<1000000000000) (hu:aU 0 cap=true)
  (hf:∀x∈xs,∀(M':Mem) (K':PV->Mem->Prop),K' (.bool (F x)) M'->SemC tab g (p8 x::cap) M' K')
  (hk1:(∀x∈xs,F x=false)->K (.bool false) M) (hk2:(∃x,x∈xs/\F x=true)->K (.bool true) M):
  SemC tab 178 [slI f o .u8 xs,.func (.func g) [] cap] M K:=by
 refine a8 T.h178 (by simp only[PP,P1,P2,P14,P15,N1,N2,N3,N4,N5,N6,N7,I1,I2,I3,I4,I5,I6,I7,reduceIte,reduceCtorEq,PV.under,hu]) ?_
 simp only[af178,PP,P1,P2,P14,P15,N1,N2,N3,N4,N5,N6,N7,I1,I2,I3,I4,I5,I6,I7,reduceIte,reduceCtorEq]
 refine aDB T hm hu hf (fun h=>?_) (fun k x hx hF=>?_)
 ·have e:¬(0:Int)<=-1:=by omega
  simp only[PP,P1,P2,P14,P15,N1,N2,N3,N4,N5,N6,N7,I1,I2,I3,I4,I5,I6,I7,reduceIte,reduceCtorEq,e]
  exact hk1 h
 ·have e:(0:Int)<=k:=by omega
  simp only[PP,P1,P2,P14,P15,N1,N2,N3,N4,N5,N6,N7,I1,I2,I3,I4,I5,I6,I7,reduceIte,reduceCtorEq,e]
  exact hk2 ⟨x,hx,hF⟩
theorem aAd {M:Mem} {K:PV->Mem->Prop} {f1 o1 f2 o2 f3 o3:Bool} {N:NF} {x:Int} (C:NOk N) (hx:0<=x/\x<=255) (hk:K (.bool (decide (2^N.vs.toNat<=x))) M):SemC tab 179 [p8 x,.cp (nfC f1 o1 f2 o2 f3 o3 N) 0] M K:=by
 refine a8 T.h179 (by simp only[PP,P1,P2,P14,P15,N1,N2,N3,N4,N5,N6,N7,I1,I2,I3,I4,I5,I6,I7,reduceIte,reduceCtorEq,PV.under,fW]) ?_
 have v0:=C.v0
 have v6:=C.v6
 have w:IntKind.i64.wrap x=x:=wrap64 (by omega) (by omega)
 have sh:=aEv (v:=N.vs) (by omega) (by omega)
 simp only[af179,PP,P1,P2,P14,P15,N1,N2,N3,N4,N5,N6,N7,I1,I2,I3,I4,I5,I6,I7,reduceIte,reduceCtorEq,w,sh]
 exact hk
theorem aCR {M:Mem} {K:PV->Mem->Prop} {f1 o1 f2 o2 f3 o3 f4 o4:Bool} {N:NF} {w:List Int} (C:NOk N) (hw:∀x∈w,0<=x/\x<=255) (hl:w.length<1000000000000) (hk:K (p64 (NL N.vs w)) M):
  SemC tab 143 [.agg (nfC f1 o1 f2 o2 f3 o3 N),slI f4 o4 .u8 w] M K:=by
 refine fD T.h143 (by simp only[PP,P1,P2,P14,P15,N1,N2,N3,N4,N5,N6,N7,I1,I2,I3,I4,I5,I6,I7,reduceIte,reduceCtorEq,dN]) ?_
 simp only[af143]
 refine bL (bD ?_)
 simp only[PP,P1,P2,P14,P15,N1,N2,N3,N4,N5,N6,N7,I1,I2,I3,I4,I5,I6,I7,reduceIte,reduceCtorEq]
 refine d8 (GStep.freezeP (b:=(.junk::slI f4 o4 .u8 w:: .cp (nfC f1 o1 f2 o2 f3 o3 N) 0:: .junk::p64 0::zj 8)) 0 (Nat.zero_le _) rfl (by simp only[nZ,n7,List.cons_append,List.nil_append,fP,eU,eT,fM]) rfl) ?_
 refine bD ?_
 simp only[PP,P1,P2,P14,P15,N1,N2,N3,N4,N5,N6,N7,I1,I2,I3,I4,I5,I6,I7,reduceIte,reduceCtorEq]
 unfold NL at hk
 refine QIf.intro (fun c=>?_) (fun c=>?_)
 ·rw[if_pos c]at hk
  simp only[PP,P1,P2,P14,P15,N1,N2,N3,N4,N5,N6,N7,I1,I2,I3,I4,I5,I6,I7,reduceIte,reduceCtorEq,c]
  exact hk
 rw[if_neg c]at hk
 simp only[PP,P1,P2,P14,P15,N1,N2,N3,N4,N5,N6,N7,I1,I2,I3,I4,I5,I6,I7,reduceIte,reduceCtorEq,c]
 refine aBG T (F:=fun x=>decide (2^N.vs.toNat<=x)) hl (by simp only[PP,P1,P2,P14,P15,N1,N2,N3,N4,N5,N6,N7,I1,I2,I3,I4,I5,I6,I7,reduceIte,reduceCtorEq,PV.under,fW]) (fun x hx M' K' hK'=>aAd T C (hw x hx) hK') (fun h=>?_) (fun⟨x,hx,hF⟩=>?_)
 ·rw[if_neg (by rw[Bool.not_eq_true,List.any_eq_false];intro x hx;rw[h x hx];decide)]at hk
  simp only[PP,P1,P2,P14,P15,N1,N2,N3,N4,N5,N6,N7,I1,I2,I3,I4,I5,I6,I7,reduceIte,reduceCtorEq]
  exact hk
 ·rw[if_pos (List.any_eq_true.2 ⟨x,hx,hF⟩)]at hk
  simp only[PP,P1,P2,P14,P15,N1,N2,N3,N4,N5,N6,N7,I1,I2,I3,I4,I5,I6,I7,reduceIte,reduceCtorEq]
  exact hk
end
def nW (x:BitVec 64):List Nat:=(List.range 64).filter fun k=>x.getLsbD k
theorem mem_bitsW {x:BitVec 64} {k:Nat} :k∈nW x↔x.getLsbD k=true:=by
 unfold nW
 rw[List.mem_filter,List.mem_range]
 constructor
 ·exact fun h=>h.2
 ·intro h
  refine⟨Classical.byContradiction fun q=>?_,h⟩
  rw[BitVec.getLsbD_of_ge _ _ (by omega)]at h;cases h
theorem aAP {x:BitVec 64} {k:Nat} (h1:x.getLsbD k=true) (h2:∀j,j<k->x.getLsbD j=false) (i:Nat):(-x).getLsbD i=if i<k then false else if i=k then true else(decide (i<64)&& !x.getLsbD i):=by
 have hk:k<64:=by
  refine Classical.byContradiction fun q=>?_
  rw[BitVec.getLsbD_of_ge _ _ (by omega)]at h1;cases h1
 rw[BitVec.getLsbD_neg]
 by_cases c1:i<k
 ·rw[if_pos c1,h2 i c1]
  have:¬∃j,j<i/\x.getLsbD j=true:=by
   rintro⟨j,a,b⟩
   rw[h2 j (by omega)]at b;cases b
  simp[this]
 ·rw[if_neg c1]
  by_cases c2:i=k
  ·subst c2
   rw[if_pos rfl,h1]
   have:¬∃j,j<i/\x.getLsbD j=true:=by
    rintro⟨j,a,b⟩
    rw[h2 j a]at b;cases b
   simp[this]
  ·rw[if_neg c2]
   have:∃j,j<i/\x.getLsbD j=true:=⟨k,by omega,h1⟩
   by_cases c3:i<64
   ·simp[this,c3]
   ·rw[BitVec.getLsbD_of_ge x _ (by omega)];simp[c3]
theorem IO {x:BitVec 64} {k:Nat} (h1:x.getLsbD k=true) (h2:∀j,j<k->x.getLsbD j=false):x&&& -x=BitVec.twoPow 64 k:=by
 have hk:k<64:=by
  refine Classical.byContradiction fun q=>?_
  rw[BitVec.getLsbD_of_ge _ _ (by omega)]at h1;cases h1
 refine BitVec.eq_of_getLsbD_eq fun i hi=>?_
 rw[BitVec.getLsbD_and,aAP h1 h2,BitVec.getLsbD_twoPow]
 by_cases c1:i<k
 ·have:¬k=i:=by omega
  simp[c1,this]
 ·by_cases c2:i=k
  ·subst c2;simp[h1,hi]
  ·have:¬k=i:=by omega
   cases hx:x.getLsbD i<;>simp[c1,c2,this]
theorem T6:((List.range 64).all fun k=>tzTab[2^k*285870213051353865 % 18446744073709551616 / 288230376151711744]? ==some k)=true:=by decide+kernel
theorem FM (x:Int):IntKind.u64.wrap x=x % 18446744073709551616:=by
 simp only[IntKind.wrap,IntKind.signed,IntKind.bits];simp
theorem aAO (x:BitVec 64):BitVec.ofInt 64 (IntKind.u64.wrap (-((x.toNat:Nat):Int)))= -x:=by
 rw[FM]
 have hl:=x.isLt
 apply BitVec.eq_of_toNat_eq
 rw[BitVec.toNat_ofInt,BitVec.toNat_neg]
 omega
theorem aEq {x:BitVec 64} {k:Nat} (h1:x.getLsbD k=true) (h2:∀j,j<k->x.getLsbD j=false):tzF ((x.toNat:Nat):Int)=k:=by
 have hk:k<64:=by
  refine Classical.byContradiction fun q=>?_
  rw[BitVec.getLsbD_of_ge _ _ (by omega)]at h1;cases h1
 have hx:¬((x.toNat:Nat):Int)=0:=by
  intro h
  have:x=0#64:=by apply BitVec.eq_of_toNat_eq;simp;omega
  rw[this]at h1;simp at h1
 have ha:NR ((x.toNat:Nat):Int)=((2^k:Nat):Int):=by
  unfold NR
  have e1:BitVec.ofInt IntKind.u64.bits ((x.toNat:Nat):Int)=x:=L3 x
  have e2:BitVec.ofInt IntKind.u64.bits (IntKind.u64.wrap (-((x.toNat:Nat):Int)))= -x:=aAO x
  rw[e1,e2]
  have e3:=IO h1 h2
  show IntKind.u64.wrap ((((x&&& -x).toNat:Nat):Int))=_
  rw[e3,oZ (BitVec.isLt _),BitVec.toNat_twoPow,Nat.mod_eq_of_lt (Nat.pow_lt_pow_right (by omega) hk)]
 have hi:tzIdx ((x.toNat:Nat):Int)=((2^k*285870213051353865 % 18446744073709551616 / 288230376151711744:Nat):Int):=by
  unfold tzIdx
  rw[ha,FM]
  omega
 have ht:=List.all_eq_true.1 T6 k (List.mem_range.2 hk)
 unfold tzF
 rw[if_neg hx,hi,Int.toNat_natCast]
 rw[beq_iff_eq]at ht
 rw[ht];rfl
section
variable {tab:FuncId->Option AF} (T:HasA tab)
include T
theorem aFk {M:Mem} {K:PV->Mem->Prop} {x:BitVec 64} {k:Nat} (hx:tzF ((x.toNat:Nat):Int)=k) (hk:K (p64 k) M):SemC tab 185 [oJ x] M K:=by
 intro w h args' h0 s ha
 match args',ha with
 | [v],ha=>
 have hv:=iC ha.hd
 subst hv
 unfold C
 refine⟨.int .i64 k,h,?_,w,p64 k,M,PStp.refl (Nat.le_refl _) w h,s,.int _ _,hk⟩
 rw[rR]
 simp only[fC,T.tz,primTz,rM,hx]
end
theorem NF.ext' {N N':NF} (h1:N.vs=N'.vs) (h2:N.n=N'.n) (h3:N.st=N'.st) (h4:N.fi=N'.fi) (h5:N.es=N'.es):N=N':=by
 cases N;cases N';simp_all
section
variable {tab:FuncId->Option AF} (T:HasA tab)
include T
theorem aBD {M:Mem} {K:PV->Mem->Prop} {f o:Bool} {xs:List Eg} (hm:xs.length<big) (hk:K (.ref M.length 0 4 0 xs.length) (M++[.cells 0 0 (egL xs)])):
  SemC tab 37 [slE f o xs] M K:=by
 refine cK T.h37 ?_
 have hm:xs.length<1000000000000:=hm
 have b8:xs.length*24<=140737488355328:=by omega
 have b1:xs.length<=9223372036854775807:=by omega
 simp only[af37,PP,P1,P2,P14,P15,N1,N2,N3,N4,N5,N6,N7,I1,I2,I3,I4,I5,I6,I7,reduceIte,reduceCtorEq,b8,b1,O1]
 exact hk
end
structure DF where
 vs:Int
 st:Int
 nx:List (List Int)
 fi:List Bool
abbrev dfC (f1 o1 f2 o2 f3 o3:Bool) (D:DF):List PV:=[p64 D.vs,p64 D.st,slR f1 o1 f2 o2 .i64 D.nx,slB f3 o3 D.fi]
structure BnD (D:DF):Prop where
 n:D.nx.length<big
 r:∀r∈D.nx,r.length<big
 f:D.fi.length<big
def YO (n:Int) (r:List Int):Bool:=r.any fun t=>decide (t<0\/n<=t)
def uM (v n:Int):List (List Int)->Int
 | []=>0
 | r::l=>if(r.length:Int)=2^v.toNat then(if YO n r=true then 8 else uM v n l) else 2
def eP (D:DF):Int:=
 if D.vs<0\/6<D.vs then 7 else if(D.nx.length:Int)=0 then 3 else if 4096<(D.nx.length:Int) then 4 else if ¬(D.fi.length:Int)=D.nx.length then 2 else if D.st<0\/(D.nx.length:Int)<=D.st then 8 else uM D.vs D.nx.length D.nx
def kL:Int->List Int->Int
 | m,[]=>m
 | m,x::l=>kL (min m x) l
theorem uU:∀(l:List Int) (m:Int),kL m l<0↔m<0\/∃t∈l,t<0
 | [],m=>by simp[kL]
 | x::l,m=>by
  unfold kL
  rw[uU l]
  simp only[List.mem_cons]
  constructor
  ·rintro(h | ⟨t,h1,h2⟩)
   ·by_cases h3:m<0
    ·exact .inl h3
    ·exact .inr ⟨x,.inl rfl,by omega⟩
   ·exact .inr ⟨t,.inr h1,h2⟩
  ·rintro(h | ⟨t,rfl | h1,h2⟩)
   ·exact .inl (by omega)
   ·exact .inl (by omega)
   ·exact .inr ⟨t,h1,h2⟩
theorem xV {n:Int} :∀(l:List Int) (m:Int),n<=kM m l↔n<=m\/∃t∈l,n<=t
 | [],m=>by simp[kM]
 | x::l,m=>by
  unfold kM
  rw[xV l]
  simp only[List.mem_cons]
  constructor
  ·rintro(h | ⟨t,h1,h2⟩)
   ·by_cases h3:n<=m
    ·exact .inl h3
    ·exact .inr ⟨x,.inl rfl,by omega⟩
   ·exact .inr ⟨t,.inr h1,h2⟩
  ·rintro(h | ⟨t,rfl | h1,h2⟩)
   ·exact .inl (by omega)
   ·exact .inl (by omega)
   ·exact .inr ⟨t,h1,h2⟩
theorem badR_iff {n x:Int} {l:List Int} :YO n (x::l)=true↔kL x l<0\/n<=kM x l:=by
 rw[uU,xV]
 unfold YO
 simp only[List.any_eq_true,List.mem_cons,decide_eq_true_eq]
 constructor
 ·rintro⟨t,rfl | h1,h | h⟩
  ·exact .inl (.inl h)
  ·exact .inr (.inl h)
  ·exact .inl (.inr ⟨t,h1,h⟩)
  ·exact .inr (.inr ⟨t,h1,h⟩)
 ·rintro((h | ⟨t,h1,h⟩) | (h | ⟨t,h1,h⟩))
  ·exact⟨x,.inl rfl,.inl h⟩
  ·exact⟨t,.inr h1,.inl h⟩
  ·exact⟨x,.inl rfl,.inr h⟩
  ·exact⟨t,.inr h1,.inr h⟩
theorem NX {v:Int} (h0:¬v<0) (h6:¬6<v):dW .shl (.int .i64 1) (.int .i64 v)=some (.int .i64 (2^v.toNat)):=by
 have:v=0\/v=1\/v=2\/v=3\/v=4\/v=5\/v=6:=by omega
 rcases this with rfl | rfl | rfl | rfl | rfl | rfl | rfl<;>rfl
theorem U6 (v:Int):(0:Int)<2^v.toNat:=Int.pow_pos (by decide)
section
variable {tab:FuncId->Option AF} (T:HasA tab)
include T
theorem aEC {M:Mem} {K:PV->Mem->Prop} {f o:Bool} {x:Int} {xs:List Int} (hm:(x::xs).length<big) (hq:K (p64 (kL x xs)) M):
  SemC tab 156 [slI f o .i64 (x::xs)] M K:=by
 refine a8 T.h156 (by simp only[PP,P1,P2,P14,P15,N1,N2,N3,N4,N5,N6,N7,I1,I2,I3,I4,I5,I6,I7,reduceIte,reduceCtorEq]) ?_
 have c1:¬((xs.length+1:Nat):Int)<1:=by omega
 have c2:(0:Int)<((xs.length+1:Nat):Int):=by omega
 simp only[af156,PP,P1,P2,P14,P15,N1,N2,N3,N4,N5,N6,N7,I1,I2,I3,I4,I5,I6,I7,reduceIte,reduceCtorEq,c1,c2]
 have hm':xs.length+1<1000000000000:=hm
 refine iF (fun(k:Nat) (m:Int)=>k<=xs.length/\K (p64 (kL m (xs.drop k))) M) (fun k m=>(slI f o .i64 (x::xs):: .junk:: .junk::p64 m::p64 ((k+1:Nat):Int)::zj 20)) (fun _ _=>[]) (fun k _=>xs.length-k) 0 x ⟨by omega,hq⟩ (by simp only[PW]) rfl ?_
 intro k m ⟨hle,hq⟩ ih
 refine bZ (by kernel_rfl) ?_
 simp only[PP,P1,P2,P14,P15,N1,N2,N3,N4,N5,N6,N7,I1,I2,I3,I4,I5,I6,I7,reduceIte,reduceCtorEq]
 refine QIf.intro (fun c=>?_) (fun c=>?_)
 ·have hk':k<xs.length:=by omega
  have g1:xs[k]? =some xs[k]:=List.getElem?_eq_getElem hk'
  have h0:(0:Int)<=((k+1:Nat):Int):=by omega
  have hw:=bG (k:=k+1) (by show _<1000000000000;omega)
  rw[jR hk']at hq
  simp only[PP,P1,P2,P14,P15,N1,N2,N3,N4,N5,N6,N7,I1,I2,I3,I4,I5,I6,I7,reduceIte,reduceCtorEq,c,g1,h0,hw,kL,GR]at hq ⊢
  exact bB (ih (k+1) _ ⟨by omega,hq⟩ (by omega)) (by simp only[PW])
 ·rw[List.drop_eq_nil_of_le (by omega)]at hq
  simp only[PP,P1,P2,P14,P15,N1,N2,N3,N4,N5,N6,N7,I1,I2,I3,I4,I5,I6,I7,reduceIte,reduceCtorEq,c,kL]at hq ⊢
  exact hq
theorem IH {M:Mem} {K:PV->Mem->Prop} {f1 o1 f2 o2 f3 o3:Bool} {D:DF} (B:BnD D) (hk:K (p64 (eP D)) M):
  SemC tab 92 [.agg (dfC f1 o1 f2 o2 f3 o3 D)] M K:=by
 refine a8 T.h92 (by simp only[PP,P1,P2,P14,P15,N1,N2,N3,N4,N5,N6,N7,I1,I2,I3,I4,I5,I6,I7,reduceIte,reduceCtorEq]) ?_
 simp only[af92,PP,P1,P2,P14,P15,N1,N2,N3,N4,N5,N6,N7,I1,I2,I3,I4,I5,I6,I7,reduceIte,reduceCtorEq]
 unfold eP at hk
 refine QIf.intro (fun c1=>?_) (fun c1=>?_)
 ·rw[if_pos (.inl c1)]at hk
  simp only[PP,P1,P2,P14,P15,N1,N2,N3,N4,N5,N6,N7,I1,I2,I3,I4,I5,I6,I7,reduceIte,reduceCtorEq,c1]
  exact hk
 simp only[PP,P1,P2,P14,P15,N1,N2,N3,N4,N5,N6,N7,I1,I2,I3,I4,I5,I6,I7,reduceIte,reduceCtorEq,c1]
 refine QIf.intro (fun c2=>?_) (fun c2=>?_)
 ·rw[if_pos (.inr c2)]at hk
  simp only[PP,P1,P2,P14,P15,N1,N2,N3,N4,N5,N6,N7,I1,I2,I3,I4,I5,I6,I7,reduceIte,reduceCtorEq,c2]
  exact hk
 rw[if_neg (by omega)]at hk
 simp only[PP,P1,P2,P14,P15,N1,N2,N3,N4,N5,N6,N7,I1,I2,I3,I4,I5,I6,I7,reduceIte,reduceCtorEq,c2]
 refine QIf.intro (fun c3=>?_) (fun c3=>?_)
 ·rw[if_pos c3]at hk
  simp only[PP,P1,P2,P14,P15,N1,N2,N3,N4,N5,N6,N7,I1,I2,I3,I4,I5,I6,I7,reduceIte,reduceCtorEq,c3]
  exact hk
 rw[if_neg c3]at hk
 simp only[PP,P1,P2,P14,P15,N1,N2,N3,N4,N5,N6,N7,I1,I2,I3,I4,I5,I6,I7,reduceIte,reduceCtorEq,c3]
 refine QIf.intro (fun c4=>?_) (fun c4=>?_)
 ·rw[if_pos c4]at hk
  simp only[PP,P1,P2,P14,P15,N1,N2,N3,N4,N5,N6,N7,I1,I2,I3,I4,I5,I6,I7,reduceIte,reduceCtorEq,c4]
  exact hk
 rw[if_neg c4]at hk
 simp only[PP,P1,P2,P14,P15,N1,N2,N3,N4,N5,N6,N7,I1,I2,I3,I4,I5,I6,I7,reduceIte,reduceCtorEq,c4]
 refine QIf.intro (fun c5=>?_) (fun c5=>?_)
 rotate_left
 ·rw[if_pos c5]at hk
  simp only[PP,P1,P2,P14,P15,N1,N2,N3,N4,N5,N6,N7,I1,I2,I3,I4,I5,I6,I7,reduceIte,reduceCtorEq,c5]
  exact hk
 rw[if_neg (Classical.not_not.2 c5)]at hk
 simp only[PP,P1,P2,P14,P15,N1,N2,N3,N4,N5,N6,N7,I1,I2,I3,I4,I5,I6,I7,reduceIte,reduceCtorEq,c5]
 refine QIf.intro (fun c6=>?_) (fun c6=>?_)
 ·rw[if_pos (.inl c6)]at hk
  simp only[PP,P1,P2,P14,P15,N1,N2,N3,N4,N5,N6,N7,I1,I2,I3,I4,I5,I6,I7,reduceIte,reduceCtorEq,c6]
  exact hk
 simp only[PP,P1,P2,P14,P15,N1,N2,N3,N4,N5,N6,N7,I1,I2,I3,I4,I5,I6,I7,reduceIte,reduceCtorEq,c6]
 refine QIf.intro (fun c7=>?_) (fun c7=>?_)
 ·rw[if_pos (.inr c7)]at hk
  simp only[PP,P1,P2,P14,P15,N1,N2,N3,N4,N5,N6,N7,I1,I2,I3,I4,I5,I6,I7,reduceIte,reduceCtorEq,c7]
  exact hk
 rw[if_neg (by omega)]at hk
 simp only[PP,P1,P2,P14,P15,N1,N2,N3,N4,N5,N6,N7,I1,I2,I3,I4,I5,I6,I7,reduceIte,reduceCtorEq,c7]
 have hl:=NX c1 c2
 refine mL (fun(k:Nat)=>k<=D.nx.length/\K (p64 (uM D.vs D.nx.length (D.nx.drop k))) M) (fun k=>(.junk:: .ptr 0 0 0:: .junk::p64 D.nx.length::zj 37++slR f1 o1 f2 o2 .i64 D.nx::p64 D.nx.length::p64 k::zj 19)) (fun _=>[.cells 0 0 (dfC f1 o1 f2 o2 f3 o3 D)]) (fun k=>D.nx.length-k) 0 ⟨by omega,hk⟩ (by simp only[PW]) rfl ?_
 intro k ⟨hle,hq⟩ ih
 refine bZ (by kernel_rfl) ?_
 simp only[PP,P1,P2,P14,P15,N1,N2,N3,N4,N5,N6,N7,I1,I2,I3,I4,I5,I6,I7,reduceIte,reduceCtorEq]
 refine QIf.intro (fun c=>?_) (fun c=>?_)
 ·have hk':k<D.nx.length:=by omega
  obtain⟨r,g⟩:=bY hk'
  have h0:(0:Int)<=(k:Int):=by omega
  have hB:D.nx.length<1000000000000:=B.n
  have hw:=bG (k:=k) (by show _<1000000000000;omega)
  rw[CM g]at hq
  simp only[PP,P1,P2,P14,P15,N1,N2,N3,N4,N5,N6,N7,I1,I2,I3,I4,I5,I6,I7,reduceIte,reduceCtorEq,c,g,h0,hl]
  unfold uM at hq
  refine QIf.intro (fun e=>?_) (fun e=>?_)
  rotate_left
  ·rw[if_neg e]at hq
   simp only[PP,P1,P2,P14,P15,N1,N2,N3,N4,N5,N6,N7,I1,I2,I3,I4,I5,I6,I7,reduceIte,reduceCtorEq,e]
   exact hq
  rw[if_pos e]at hq
  simp only[PP,P1,P2,P14,P15,N1,N2,N3,N4,N5,N6,N7,I1,I2,I3,I4,I5,I6,I7,reduceIte,reduceCtorEq,e]
  cases r with
  | nil=>have:=U6 D.vs;simp at e;omega
  | cons x l=>
   have hx:(x::l).length<big:=B.r _ (List.mem_of_getElem? g)
   refine aEC T hx ?_
   simp only[PP,P1,P2,P14,P15,N1,N2,N3,N4,N5,N6,N7,I1,I2,I3,I4,I5,I6,I7,reduceIte,reduceCtorEq]
   refine QIf.intro (fun e1=>?_) (fun e1=>?_)
   ·rw[if_pos (badR_iff.2 (.inl e1))]at hq
    simp only[PP,P1,P2,P14,P15,N1,N2,N3,N4,N5,N6,N7,I1,I2,I3,I4,I5,I6,I7,reduceIte,reduceCtorEq,e1]
    exact hq
   simp only[PP,P1,P2,P14,P15,N1,N2,N3,N4,N5,N6,N7,I1,I2,I3,I4,I5,I6,I7,reduceIte,reduceCtorEq,e1]
   refine aED T hx ?_
   simp only[PP,P1,P2,P14,P15,N1,N2,N3,N4,N5,N6,N7,I1,I2,I3,I4,I5,I6,I7,reduceIte,reduceCtorEq]
   refine QIf.intro (fun e2=>?_) (fun e2=>?_)
   ·rw[if_pos (badR_iff.2 (.inr e2))]at hq
    simp only[PP,P1,P2,P14,P15,N1,N2,N3,N4,N5,N6,N7,I1,I2,I3,I4,I5,I6,I7,reduceIte,reduceCtorEq,e2]
    exact hq
   rw[if_neg (by rw[badR_iff];omega)]at hq
   simp only[PP,P1,P2,P14,P15,N1,N2,N3,N4,N5,N6,N7,I1,I2,I3,I4,I5,I6,I7,reduceIte,reduceCtorEq,e2,hw]
   exact bB (ih (k+1) ⟨by omega,hq⟩ (by omega)) (by simp only[PW])
 ·rw[List.drop_eq_nil_of_le (by omega)]at hq
  simp only[PP,P1,P2,P14,P15,N1,N2,N3,N4,N5,N6,N7,I1,I2,I3,I4,I5,I6,I7,reduceIte,reduceCtorEq,c,uM]at hq ⊢
  exact hq
end
def digS:ByteArray:=⟨#[48,49,50,51,52,53,54,55,56,57,97,98,99,100,101,102,103,104,105,106,107,108,109,110,111,112,113,114,115,116,117,118,119,120,121,122]⟩
def smlS:ByteArray:=⟨#[48,48,48,49,48,50,48,51,48,52,48,53,48,54,48,55,48,56,48,57,49,48,49,49,49,50,49,51,49,52,49,53,49,54,49,55,49,56,49,57,50,48,50,49,50,50,50,51,50,52,50,53,50,54,50,55,50,56,50,57,51,48,51,49,51,50,51,51,51,52,51,53,51,54,51,55,51,56,51,57,52,48,52,49,52,50,52,51,52,52,52,53,52,54,52,55,52,56,52,57,53,48,53,49,53,50,53,51,53,52,53,53,53,54,53,55,53,56,53,57,54,48,54,49,54,50,54,51,54,52,54,53,54,54,54,55,54,56,54,57,55,48,55,49,55,50,55,51,55,52,55,53,55,54,55,55,55,56,55,57,56,48,56,49,56,50,56,51,56,52,56,53,56,54,56,55,56,56,56,57,57,48,57,49,57,50,57,51,57,52,57,53,57,54,57,55,57,56,57,57]⟩
def mP (n:Nat):ByteArray:=if n<10 then digS.extract n (n+1) else smlS.extract (2*n) (2*n+2)
theorem XK:((List.range 100).all fun a=>(List.range 100).all fun b=>decide (a=b)|| !((mP a).data.toList==(mP b).data.toList))=true:=by decide+kernel
theorem XJ {a b:Nat} (ha:a<100) (hb:b<100) (h:mP a=mP b):a=b:=by
 have:=(List.all_eq_true.1 ((List.all_eq_true.1 XK) a (List.mem_range.2 ha))) b (List.mem_range.2 hb)
 rw[h]at this
 simpa using this
section
variable {tab:FuncId->Option AF} (T:HasA tab)
include T
theorem NW {M:Mem} {K:PV->Mem->Prop} {n:Nat} (hn:n<100) (hk:K (.str (mP n)) M):
  SemC tab 206 [p64 n] M K:=by
 refine a8 T.h206 (by simp only[PP,P1,P2,P14,P15,N1,N2,N3,N4,N5,N6,N7,I1,I2,I3,I4,I5,I6,I7,reduceIte,reduceCtorEq]) ?_
 simp only[af206,PP,P1,P2,P14,P15,N1,N2,N3,N4,N5,N6,N7,I1,I2,I3,I4,I5,I6,I7,reduceIte,reduceCtorEq]
 have w1:IntKind.i64.wrap ((n:Int)+1)=((n+1:Nat):Int):=bG (by show _<1000000000000;omega)
 have w2:IntKind.i64.wrap ((n:Int)*2)=((2*n:Nat):Int):=by rw[wrap64]<;>omega
 have w3:IntKind.i64.wrap (((2*n:Nat):Int)+2)=((2*n+2:Nat):Int):=by rw[wrap64]<;>omega
 refine QIf.intro (fun c=>?_) (fun c=>?_)
 ·simp only[PP,P1,P2,P14,P15,N1,N2,N3,N4,N5,N6,N7,I1,I2,I3,I4,I5,I6,I7,reduceIte,reduceCtorEq,c,w1,cF,bV,cE,bF,cG,dF,bU,bT,cC,cN,cO,cP,cQ,cM,dB,bN,bO,bC,bP,cT,cU,cD,dG,cV,cR,cB,dC,bR,dD,bS,bE,bM,Option.getD]
  refine⟨⟨by omega,by omega,?_⟩,?_⟩
  ·show((n+1:Nat):Int)<=((36:Nat):Int)
   omega
  ·have e:mP n=digS.extract n (n+1):=by unfold mP;rw[if_pos (by omega)]
   rw[e]at hk
   exact hk
 ·simp only[PP,P1,P2,P14,P15,N1,N2,N3,N4,N5,N6,N7,I1,I2,I3,I4,I5,I6,I7,reduceIte,reduceCtorEq,c,w2,w3,cF,bV,cE,bF,cG,dF,bU,bT,cC,cN,cO,cP,cQ,cM,dB,bN,bO,bC,bP,cT,cU,cD,dG,cV,cR,cB,dC,bR,dD,bS,bE,bM,Option.getD]
  refine⟨⟨by omega,by omega,?_⟩,?_⟩
  ·show((2*n+2:Nat):Int)<=((200:Nat):Int)
   omega
  ·have e:mP n=smlS.extract (2*n) (2*n+2):=by unfold mP;rw[if_neg (by omega)]
   rw[e]at hk
   exact hk
end
def tS (d:Nat):UInt8:=UInt8.ofNat (if d<10 then 48+d else 87+d)
def aFj (c:UInt8):Nat:=if c.toNat<58 then c.toNat-48 else c.toNat-87
theorem aBx:((List.range 16).all fun d=>digS[d]? ==some (tS d)&&aFj (tS d)==d)=true:=by decide+kernel
theorem aBz {d:Nat} (h:d<16):digS[d]? =some (tS d):=by
 have:=List.all_eq_true.1 aBx d (List.mem_range.2 h)
 rw[Bool.and_eq_true,beq_iff_eq]at this
 exact this.1
def vI (u:Nat):Nat->List UInt8
 | 0=>[]
 | c+1=>tS (u / 16^c % 16)::vI u c
theorem FU (u:Nat):∀c,(vI u c).length=c
 | 0=>rfl
 | c+1=>by simp[vI,FU u c]
def cHf (u:Nat):Nat->Nat->Nat
 | c,0=>c
 | c,f+1=>if u / 16^c<16 then c else cHf u (c+1) f
def cH (u:Nat):Nat:=cHf u 0 15
def HZ (u:Nat):List UInt8:=tS (u / 16^cH u)::vI u (cH u)
theorem aDU {u:Nat} (hu:u<18446744073709551616):∀(f c:Nat),c+f=15->u / 16^cHf u c f<16/\cHf u c f<=15:=by
 intro f
 induction f with
 | zero=>
  intro c h
  obtain rfl:c=15:=by omega
  have e:(16:Nat)^15*16=18446744073709551616:=by decide
  refine⟨Nat.div_lt_of_lt_mul ?_,Nat.le_refl _⟩
  show u<16^15*16
  rw[e];exact hu
 | succ f ih=>
  intro c h
  unfold cHf
  split
  ·rename_i q;exact⟨q,by omega⟩
  ·exact ih (c+1) (by omega)
theorem aE8 (u c:Nat):u / 16^(c+1)=u / 16^c / 16:=by rw[Nat.pow_succ,Nat.div_div_eq_div_mul]
theorem aDd {u:Nat} (h:u<18446744073709551616):dW .and (.int .u64 (u:Int)) (.int .u64 15)=some (.int .u64 ((u % 16:Nat):Int)):=by
 have h1:=qB (BitVec.ofNat 64 u) 15#64
 have e1:(BitVec.ofNat 64 u).toNat=u:=by simp;omega
 have e2:(BitVec.ofNat 64 u&&& 15#64).toNat=u % 16:=by
  rw[BitVec.toNat_and,e1]
  exact Nat.and_two_pow_sub_one_eq_mod u 4
 rw[e1,e2]at h1
 exact h1
theorem aEu (u:Nat):dW .shr (.int .u64 (u:Int)) (.int .u64 4)=some (.int .u64 ((u / 16:Nat):Int)):=by
 have:Int.fdiv (u:Int) 16=((u / 16:Nat):Int):=by
  rw[Int.fdiv_eq_ediv_of_nonneg _ (by omega)];rfl
 show some (PV.int .u64 (Int.fdiv (u:Int) 16))=_
 rw[this]
abbrev iL (l:List UInt8):List PV:=l.map fun c=> .int .u8 ((c.toNat:Nat):Int)
theorem rE:∀l:List UInt8,gM (l.map fun c=> .int .u8 ((c.toNat:Nat):Int))=some l
 | []=>rfl
 | c::l=>by
  have h:=c.toNat_lt
  have e:UInt8.ofNat c.toNat=c:=by simp
  simp only[List.map_cons,gM,rE l]
  rw[if_pos (by omega),Int.toNat_natCast,e]
theorem AZ:∀l:List UInt8,hI (iL l)=some (l.map fun c=>AV.int .u8 ((c.toNat:Nat):Int))
 | []=>rfl
 | c::l=>by simp only[iL,List.map_cons,hI,dQ,AZ l]
theorem Q2 (l:List UInt8):mG (iL l)=some l:=by
 unfold mG;rw[AZ];exact rE l
theorem uN (z x:PV) (l:List PV) (m:Nat):(List.replicate (m+1) z++l).set m x=List.replicate m z++x::l:=by
 rw[List.set_append_left _ _ (by simp),List.replicate_succ',List.set_append_right _ _ (by simp)]
 simp
section
variable {tab:FuncId->Option AF} (T:HasA tab)
include T
theorem KC {M:Mem} {K:PV->Mem->Prop} (hk:K (.bool true) M):SemC tab 232 [p64 16] M K:=by
 refine a8 T.h232 (by simp only[PP,P1,P2,P14,P15,N1,N2,N3,N4,N5,N6,N7,I1,I2,I3,I4,I5,I6,I7,reduceIte,reduceCtorEq]) ?_
 have w1:IntKind.i64.wrap (16-1)=15:=rfl
 have w2:dW .and (p64 16) (.int .i64 (IntKind.i64.wrap 15))=some (.int .i64 0):=rfl
 simp only[af232,PP,P1,P2,P14,P15,N1,N2,N3,N4,N5,N6,N7,I1,I2,I3,I4,I5,I6,I7,reduceIte,reduceCtorEq,w1,w2]
 exact hk
theorem aCW {M:Mem} {K:PV->Mem->Prop} (hk:K (p64 4) M):SemC tab 233 [.int .u64 16] M K:=by
 refine a8 T.h233 (by simp only[PP,P1,P2,P14,P15,N1,N2,N3,N4,N5,N6,N7,I1,I2,I3,I4,I5,I6,I7,reduceIte,reduceCtorEq]) ?_
 simp only[af233,PP,P1,P2,P14,P15,N1,N2,N3,N4,N5,N6,N7,I1,I2,I3,I4,I5,I6,I7,reduceIte,reduceCtorEq]
 refine aFk T (x:=16#64) (k:=4) (aEq (by decide) (by decide)) ?_
 simp only[PP,P1,P2,P14,P15,N1,N2,N3,N4,N5,N6,N7,I1,I2,I3,I4,I5,I6,I7,reduceIte,reduceCtorEq]
 exact hk
set_option maxHeartbeats 1000000 in
theorem CI {K:PV->Mem->Prop} {u:Nat} (hu:u<18446744073709551616) (hk:∀o,K (.tuple [.ref 1 0 1 0 (HZ u).length,.str ⟨#[]⟩]) [o,.cells 0 0 (iL (HZ u))]):
  SemC tab 209 [.nils,.int .u64 u,p64 16,.bool false,.bool true] [] K:=by
 refine cK T.h209 ?_
 simp only[af209,PP,P1,P2,P14,P15,N1,N2,N3,N4,N5,N6,N7,I1,I2,I3,I4,I5,I6,I7,reduceIte,reduceCtorEq]
 refine KC T ?_
 have u16:IntKind.u64.wrap 16=16:=rfl
 have u4:IntKind.u64.wrap 4=4:=rfl
 have u15:IntKind.u64.wrap (16-1)=15:=rfl
 simp only[PP,P1,P2,P14,P15,N1,N2,N3,N4,N5,N6,N7,I1,I2,I3,I4,I5,I6,I7,reduceIte,reduceCtorEq,u16]
 refine aCW T ?_
 have u15':IntKind.u64.wrap 15=15:=rfl
 simp only[PP,P1,P2,P14,P15,N1,N2,N3,N4,N5,N6,N7,I1,I2,I3,I4,I5,I6,I7,reduceIte,reduceCtorEq,u16,u4,u15,u15']
 have hdl:∀d:Nat,d<16->(ByteArray.mk #[48,49,50,51,52,53,54,55,56,57,97,98,99,100,101,102,103,104,105,106,107,108,109,110,111,112,113,114,115,116,117,118,119,120,121,122])[d]? =some (tS d):=fun d hd=>aBz hd
 refine iF (fun(c v:Nat)=>c<=15/\cHf u c (15-c)=cH u) (fun c v=>(.nils:: .int .u64 ((u / 16^c:Nat):Int):: .junk:: .bool false:: .bool true::zj 5++ .nils:: .str ⟨#[]⟩:: .ptr 0 0 0::p64 (65-c:Nat):: .int .u64 4:: .int .u64 16:: .int .u64 15::zj 85))
  (fun c v=>[.cells 0 v (List.replicate (65-c) (.int .u8 0)++iL (vI u c))]) (fun c v=>15-c) 0 0 ⟨by omega,rfl⟩ (by simp only[Nat.pow_zero,Nat.div_one,Nat.sub_zero,Int.cast_ofNat_Int,PW]) rfl ?_
 intro c v ⟨hc,hch⟩ ih
 have hq:u / 16^c<18446744073709551616:=Nat.lt_of_le_of_lt (Nat.div_le_self _ _) hu
 have hi:IntKind.i64.wrap (((65-c:Nat):Int)-1)=((65-(c+1):Nat):Int):=by rw[wrap64 (by omega) (by omega)];omega
 obtain⟨m,hm⟩:∃m,65-c=m+1:=⟨65-c-1,by omega⟩
 have hm2:65-(c+1)=m:=by omega
 have i0:(0:Int)<=(m:Int):=by omega
 have i1:(m:Int)<65:=by omega
 rw[hm,hm2]at hi
 refine bZ (by kernel_rfl) ?_
 simp only[PP,P1,P2,P14,P15,N1,N2,N3,N4,N5,N6,N7,I1,I2,I3,I4,I5,I6,I7,reduceIte,reduceCtorEq]
 refine QIf.intro (fun d=>?_) (fun d=>?_)
 ·have hd16:¬u / 16^c<16:=by omega
  have hc15:c<15:=by
   refine Classical.byContradiction fun q=>?_
   obtain rfl:c=15:=by omega
   have:=(aDU hu 0 15 rfl).1
   exact hd16 this
  have hnext:cHf u (c+1) (15-(c+1))=cH u:=by
   rw[<-hch,show 15-c=15-(c+1)+1 by omega]
   show _=if _ then _ else _
   rw[if_neg hd16]
  have a15:=aDd hq
  have s4:=aEu (u / 16^c)
  have hdig:=hdl (u / 16^c % 16) (Nat.mod_lt _ (by decide))
  have k0:(0:Int)<=((u / 16^c % 16:Nat):Int):=by omega
  simp only[PP,P1,P2,P14,P15,N1,N2,N3,N4,N5,N6,N7,I1,I2,I3,I4,I5,I6,I7,reduceIte,reduceCtorEq,d,hm,hi,a15,s4,cF,bV,cE,bF,cG,dF,bU,bT,cC,cN,cO,cP,cQ,cM,dB,bN,bO,bC,bP,cT,cU,cD,dG,cV,cR,cB,dC,bR,dD,bS,bE,bM,hdig,k0,i0,i1]
  have hrs:((PV.int .u8 0)::(List.replicate m (.int .u8 0)++iL (vI u c))).set m (.int .u8 (((tS (u / 16^c % 16)).toNat:Nat):Int))=List.replicate m (.int .u8 0)++(.int .u8 (((tS (u / 16^c % 16)).toNat:Nat):Int))::iL (vI u c):=uN _ _ _ m
  refine⟨by omega,dR (ih (c+1) (v+1) ⟨by omega,hnext⟩ (by omega)) (by simp only[aE8,hm2,PW]) ?_⟩
  rw[hrs,hm2];rfl
 ·have hd16:u / 16^c<16:=by omega
  have hcc:c=cH u:=by
   rw[<-hch]
   cases hf:15-c with
   | zero=>rfl
   | succ f=>
    show c=if _ then _ else _
    rw[if_pos hd16]
  have hdig:=hdl (u / 16^c) hd16
  have k0:(0:Int)<=((u / 16^c:Nat):Int):=Int.natCast_nonneg _
  have hrs:((PV.int .u8 0)::(List.replicate m (.int .u8 0)++iL (vI u c))).set m (.int .u8 (((tS (u / 16^c)).toNat:Nat):Int))=List.replicate m (.int .u8 0)++(.int .u8 (((tS (u / 16^c)).toNat:Nat):Int))::iL (vI u c):=uN _ _ _ m
  have hsl:=FU u c
  have t1:(65-(m:Int)).toNat=c+1:=by omega
  have hl:iL (HZ u)=PV.int .u8 (((tS (u / 16^c)).toNat:Nat):Int)::iL (vI u c):=by unfold HZ;rw[<-hcc];rfl
  have hlen:(HZ u).length=c+1:=by unfold HZ;rw[<-hcc,List.length_cons,hsl]
  have hps:cW (List.replicate m (PV.int .u8 0)++PV.int .u8 (((tS (u / 16^c)).toNat:Nat):Int)::iL (vI u c)) m (c+1)=iL (HZ u):=by
   rw[hl]
   unfold cW
   rw[List.drop_append_of_le_length (by simp),List.drop_eq_nil_of_le (by simp),List.nil_append,List.take_of_length_le (by simp[hsl])]
  have hone:(iL (HZ u)).all PV.one=true:=List.all_eq_true.2 fun x hx=>by obtain⟨y,_,rfl⟩:=List.mem_map.1 hx;rfl
  simp only[PP,P1,P2,P14,P15,N1,N2,N3,N4,N5,N6,N7,I1,I2,I3,I4,I5,I6,I7,reduceIte,reduceCtorEq,d,hm,hi,cF,bV,cE,bF,cG,dF,bU,bT,cC,cN,cO,cP,cQ,cM,dB,bN,bO,bC,bP,cT,cU,cD,dG,cV,cR,cB,dC,bR,dD,bS,bE,bM,hdig,k0,i0,i1,hrs,t1,hps,hone]
  have:=hk (.cells 0 (v+1) (List.replicate m (.int .u8 0)++ .int .u8 (((tS (u / 16^c)).toNat:Nat):Int)::iL (vI u c)))
  rw[hlen]at this
  exact⟨by omega,⟨by omega,by omega⟩,by omega,⟨by omega,by omega⟩,this⟩
end
end Go.Am.Ar

