/- Contract: Solve by strategy improvement, and what goes with it. -/
import Derived.Test.YtgcombgonagkkaaCertifyAcceptsG7
import Derived.Test.YtgcombgonagkkaaCertifyAcceptsG4
import Derived.Test.YtgcombgonagkkaaCertifyAcceptsG0
set_option linter.unusedVariables false
set_option linter.unusedSimpArgs false
set_option maxRecDepth 10000
namespace Go.Am.Ar
open Go.Am.PV renaming junk→Zj
open Go.Am renaming pchk→P1,pold→P2,PKNo→P3,ppack→P4,PObj.under→P5,pput→P6,ptset→P7,q60→P8,pev→P9,ofAV→P10,q30→P11,ppad→P12,pfill→P13,q39→P14,AO.effect→P15
open List renaming replicate→L1
open Nat renaming reduceAdd→N1,reduceSub→N2,reduceMul→N3,reduceLT→N4,reduceLeDiff→N5,reduceEqDiff→N6,reduceBEq→N7
open Int renaming reduceToNat→I1,reduceLT→I2,reduceLE→I3,reduceEq→I4,reduceAdd→I5,reduceSub→I6,reduceNeg→I7
theorem valsM_gt {ow pr:List Int} {su:List (List Int)} {st:List Int} {v:Nat} (hv:v<st.length):(q26 ow pr su st)[v]? =some (folA ow pr su st v):=q38 hv
theorem row_lenV {ow pr:List Int} {su:List (List Int)} (V:Valid ow pr su):∀r∈su,r.length≤ow.length:=fun r hr=>by
 obtain⟨k,hk⟩:=List.getElem?_of_mem hr
 have hks:=q10 hk
 obtain⟨_,_,_,_,hp⟩:=V.row k hks
 have hp:=posM_rise hp
 have e:su[k]=r:=by rw[List.getElem?_eq_getElem hks]at hk;cases hk;rfl
 rw[e]at hp
 have hnd:(r.map Int.toNat).Nodup:=by
  rw[List.Nodup,List.pairwise_map]
  refine hp.1.imp_of_mem fun {a b} ha hb (q:a<b)=>?_
  have:=hp.2 a ha;have:=hp.2 b hb;omega
 have:=nodup_lenN ow.length _ hnd (fun x hx=>by
  obtain⟨y,hy,rfl⟩:=List.mem_map.1 hx
  have:=hp.2 y hy;omega)
 rwa [List.length_map]at this
theorem allMv_len:∀{su:List (List Int)},(∀r∈su,r.length≤14)→(allMv su).length≤14^su.length
 | [],_=>by simp[allMv]
 | row::su,h=>by
  have ih:=allMv_len (su:=su) fun r hr=>h r (List.mem_cons_of_mem _ hr)
  have hr:=h row (by simp)
  have key:∀l:List Int,(l.flatMap fun u=>(allMv su).map (u:: ·)).length=l.length*(allMv su).length:=by
   intro l
   induction l with
   | nil=>simp
   | cons x l ih=>rw[List.flatMap_cons,List.length_append,ih,List.length_map,List.length_cons,Nat.add_mul,Nat.one_mul];omega
  rw[allMv,key,List.length_cons,Nat.pow_succ,Nat.mul_comm (14^su.length)]
  exact Nat.mul_le_mul hr ih
theorem muM_lt {s:Int} {ow pr:List Int} {su:List (List Int)} {player:Int} {st:List Int} (V:Valid ow pr su) (h14:ow.length≤14):muM s ow pr su player st<400000000000000000:=by
 have h1:=allMv_len (su:=su) fun r hr=>Nat.le_trans (row_lenV V r hr) h14
 have h2:14^su.length≤14^14:=Nat.pow_le_pow_right (by decide) (by rw[V.s];exact h14)
 have h3:(14:Nat)^14=11112006825558016:=by decide
 have h4:cntM s ow pr su st≤(allMv su).length*ow.length:=by
  unfold cntM
  refine Nat.le_trans (List.length_filter_le _ _) ?_
  have key:∀l:List (List Int),(l.flatMap fun g=>(List.range ow.length).map fun v=>(g,v)).length=l.length*ow.length:=by
   intro l
   induction l with
   | nil=>simp
   | cons x l ih=>rw[List.flatMap_cons,List.length_append,ih,List.length_map,List.length_range,List.length_cons,Nat.add_mul,Nat.one_mul];omega
  rw[key];exact Nat.le_refl _
 have h5:(allMv su).length*ow.length≤11112006825558016*14:=Nat.mul_le_mul (by omega) h14
 unfold muM
 split<;>omega
section
variable {tab:FuncId→Option AF} (T:HasA tab)
include T
set_option maxHeartbeats 2000000 in
theorem isolve_p {M:Mem} {K:PV→Mem→Prop} {F:GF} {ow pr:List Int} {su:List (List Int)} (B:Bnd ow pr su) (ho:∀x∈ow,0≤x) (h14:ow.length≤14)
  (hq1:q37 ow pr su≠0→K (.tuple [.agg [slI false true .u8 [],slI false true .i64 []],p64 0,p64 (q37 ow pr su)]) M)
  (hq2:q37 ow pr su=0→∀ws ss (r:Nat),SolL ow pr su ws ss→K (.tuple [.agg [slI false true .u8 ws,slI false true .i64 ss],p64 r,p64 0]) M):
  SemC tab 7 [.agg (gmF F ow pr su)] M K:=by
 refine SemC_wk ?_
 refine q11 T.h7 (by simp only[PP,P1,P2,P3,P4,P5,P6,P7,P8,P9,P10,P11,P12,P13,P14,L1,P15,N1,N2,N3,N4,N5,N6,N7,I1,I2,I3,I4,I5,I6,I7,reduceIte,reduceCtorEq]) ?_
 simp only[af7,PP,P1,P2,P3,P4,P5,P6,P7,P8,P9,P10,P11,P12,P13,P14,L1,P15,N1,N2,N3,N4,N5,N6,N7,I1,I2,I3,I4,I5,I6,I7,reduceIte,reduceCtorEq]
 refine check_p T B ?_
 simp only[PP,P1,P2,P3,P4,P5,P6,P7,P8,P9,P10,P11,P12,P13,P14,L1,P15,N1,N2,N3,N4,N5,N6,N7,I1,I2,I3,I4,I5,I6,I7,reduceIte,reduceCtorEq]
 refine QIf.intro (fun c1=>?_) (fun c1=>?_)
 rotate_left
 ·simp only[PP,P1,P2,P3,P4,P5,P6,P7,P8,P9,P10,P11,P12,P13,P14,L1,P15,N1,N2,N3,N4,N5,N6,N7,I1,I2,I3,I4,I5,I6,I7,reduceIte,reduceCtorEq,c1]
  refine⟨.tuple [.agg [slI false true .u8 [],slI false true .i64 []],p64 0,p64 (q37 ow pr su)],PvWk.tuple rfl fun i y z h1 h2=>?_,hq1 c1⟩
  match i with
  | 0=>
   cases h1;cases h2
   refine PvWk.agg rfl fun i y z h1 h2=>?_
   match i with
   | 0=>cases h1;cases h2;exact PvWk.nils _ _ _
   | 1=>cases h1;cases h2;exact PvWk.nils _ _ _
   | i+2=>simp at h1
  | 1=>cases h1;cases h2;exact PvWk.refl _
  | 2=>cases h1;cases h2;exact PvWk.refl _
  | i+3=>simp at h1
 have V:=q25 c1
 have hp:=fun v=>(V.prI v).1
 have n0:=V.n0
 have n1:=V.n1
 have hsl:=V.s
 have hpl:=V.p
 have hq2:=hq2 c1
 have h01:∀v,v<ow.length→ow.getD v 0=0∨ow.getD v 0=1:=fun v hv=>by
  obtain⟨_,_,h1,_,_⟩:=V.row v (by omega)
  obtain⟨x,hx⟩:=q9 hv
  have:=ho x (List.mem_of_getElem? hx)
  rw[getD_some hx]at h1 ⊢;omega
 have pz:q39 ow.length [PV.int .i64 0]=(List.replicate ow.length (0:Int)).map p64:=by rw[prepl_one];simp
 simp only[PP,P1,P2,P3,P4,P5,P6,P7,P8,P9,P10,P11,P12,P13,P14,L1,P15,N1,N2,N3,N4,N5,N6,N7,I1,I2,I3,I4,I5,I6,I7,reduceIte,reduceCtorEq,c1,pz]
 refine⟨by omega,?_⟩
 refine loop2 (fun(k ver:Nat)=>k≤ow.length) (fun k ver=>[Zj,.ptr 0 0 0,.ptr 1 0 0,p64 0,Zj,Zj,.ref 2 0 1 0 ow.length,Zj,Zj,Zj,Zj,Zj,Zj,Zj,Zj,Zj,Zj,Zj,Zj,Zj,Zj,Zj,Zj,Zj,Zj,slR F.f3 F.o3 F.f4 F.o4 .i64 su,p64 su.length,p64 k,Zj,Zj,Zj,Zj,Zj,Zj,Zj,Zj,Zj,Zj,Zj,Zj,Zj,Zj,Zj,Zj,Zj,Zj,Zj,Zj,Zj,Zj,Zj,Zj,Zj,Zj,Zj,Zj,Zj,Zj,Zj,Zj,Zj,Zj,Zj,Zj,Zj,Zj,Zj,Zj,Zj,Zj,Zj,Zj,Zj,Zj,Zj,Zj,Zj,Zj,Zj,Zj,Zj,Zj,Zj,Zj,Zj,Zj,Zj,Zj,Zj])
  (fun k ver=>[.cells 0 0 (gmF F ow pr su),.cells 0 0 [.nils,.nils],.cells 0 ver ((tabA ow.length fun v=>if v<k then(su.getD v []).getD 0 0 else 0).map p64)]) (fun k _=>ow.length-k) 0 0 (Nat.zero_le _) (by simp only[PW]) (by
   have:(List.replicate ow.length (0:Int))=tabA ow.length fun v=>if v<0 then(su.getD v []).getD 0 0 else 0:=tabA_ext (by simp) fun v hv=>by rw[if_neg (by omega)];simp[hv]
   rw[this]) ?_
 intro k ver hle ih
 obtain⟨X,hX⟩:∃X,X=tabA ow.length fun v=>if v<k then(su.getD v []).getD 0 0 else 0:=⟨_,rfl⟩
 have hXl:X.length=ow.length:=by rw[hX,q27]
 rw[←hX]
 refine q15 (by kernel_rfl) ?_
 simp only[PP,P1,P2,P3,P4,P5,P6,P7,P8,P9,P10,P11,P12,P13,P14,L1,P15,N1,N2,N3,N4,N5,N6,N7,I1,I2,I3,I4,I5,I6,I7,reduceIte,reduceCtorEq]
 refine QIf.intro (fun d=>?_) (fun d=>?_)
 ·have hk:k<ow.length:=by omega
  have hw:=q12 (k:=k) (by show _<1000000000000;omega)
  have k0:(0:Int)≤k:=by omega
  have kn:(k:Int)<ow.length:=by omega
  have hkX:k<X.length:=by omega
  obtain⟨row,gr⟩:=q9 (xs:=su) (k:=k) (by omega)
  have er:su.getD k []=row:=by simp[List.getD,gr]
  obtain⟨_,_,_,h0,_⟩:=V.row k (by omega)
  have hks:k<su.length:=by omega
  have erow:su[k]=row:=by rw[List.getElem?_eq_getElem hks]at gr;cases gr;rfl
  rw[erow]at h0
  obtain⟨r0,gr0⟩:=q9 h0
  have er0:row.getD 0 0=r0:=getD_some gr0
  have h00:(0:Int)<row.length:=by omega
  have hset:(X.map p64).set k (p64 r0)=(X.set k r0).map p64:=by rw[List.map_set]
  have h1:X.set k r0=tabA ow.length fun v=>if v<k+1 then(su.getD v []).getD 0 0 else 0:=by
   rw[hX,tabA_set r0 hk]
   refine tabA_congr fun v hv=>?_
   by_cases e:v=k
   ·subst e;rw[if_pos rfl,if_pos (show v<v+1 by omega),er,er0]
   ·rw[if_neg e]
    by_cases q:v<k
    ·rw[if_pos q,if_pos (show v<k+1 by omega)]
    ·rw[if_neg q,if_neg (show ¬v<k+1 by omega)]
  simp only[PP,P1,P2,P3,P4,P5,P6,P7,P8,P9,P10,P11,P12,P13,P14,L1,P15,N1,N2,N3,N4,N5,N6,N7,I1,I2,I3,I4,I5,I6,I7,reduceIte,reduceCtorEq,d,gr,k0,kn,gr0,h00,hkX,hset,hw]
  exact⟨by omega,q19 (ih (k+1) (ver+1) (by omega) (by omega)) (by simp only[PW]) (by rw[h1])⟩
 have hkn:k=ow.length:=by omega
 have XM:MvOk su ow.length X:=⟨hXl,fun v hv=>by
  have e:X[v]? =some ((su.getD v []).getD 0 0):=by rw[hX,q38 hv,if_pos (by omega)]
  rw[getD_some e]
  have hvs:v<su.length:=by omega
  obtain⟨_,_,_,h0,_⟩:=V.row v hvs
  have er:su.getD v []=su[v]:=by simp[List.getD,List.getElem?_eq_getElem hvs]
  rw[er,getD_some (List.getElem?_eq_getElem h0)]
  exact List.getElem_mem h0⟩
 simp only[PP,P1,P2,P3,P4,P5,P6,P7,P8,P9,P10,P11,P12,P13,P14,L1,P15,N1,N2,N3,N4,N5,N6,N7,I1,I2,I3,I4,I5,I6,I7,reduceIte,reduceCtorEq,d]
 refine order_p T ?_
 simp only[PP,P1,P2,P3,P4,P5,P6,P7,P8,P9,P10,P11,P12,P13,P14,L1,P15,N1,N2,N3,N4,N5,N6,N7,I1,I2,I3,I4,I5,I6,I7,reduceIte,reduceCtorEq]
 refine loop4 (fun(r e ver:Nat) (st:List Int)=>MvOk su ow.length st∧(∀st1,RespOk ow pr su st st1→muM 1 ow pr su 0 st1<e)∧r+e≤400000000000000000) (fun r e ver st=>[Zj,.ptr 0 0 0,.ptr 1 0 0,p64 r,Zj,Zj,.ref 2 0 1 0 ow.length,Zj,Zj,.ptr 3 0 0,Zj,Zj,Zj,Zj,Zj,Zj,Zj,Zj,Zj,Zj,Zj,Zj,Zj,Zj,Zj,Zj,Zj,Zj,Zj,Zj,Zj,Zj,Zj,Zj,Zj,Zj,Zj,Zj,Zj,Zj,Zj,Zj,Zj,Zj,Zj,Zj,Zj,Zj,Zj,Zj,Zj,Zj,Zj,Zj,Zj,Zj,Zj,Zj,Zj,Zj,Zj,Zj,Zj,Zj,Zj,Zj,Zj,Zj,Zj,Zj,Zj,Zj,Zj,Zj,Zj,Zj,Zj,Zj,Zj,Zj,Zj,Zj,Zj,Zj,Zj,Zj,Zj,Zj,Zj])
  (fun r e ver st=>[.cells 0 0 (gmF F ow pr su),.cells 0 0 [.nils,.nils],.cells 0 ver (st.map p64),.cells 0 1 [p8 0,ordV (gmF F ow pr su)]]) (fun _ e _ _=>e) 0 400000000000000000 ver X ⟨XM,fun st1 _=>muM_lt V h14,by omega⟩ (by simp only[PW]) rfl ?_
 intro r e ver st ⟨hM,hmu,hre⟩ ih
 refine q15 (by kernel_rfl) ?_
 simp only[PP,P1,P2,P3,P4,P5,P6,P7,P8,P9,P10,P11,P12,P13,P14,L1,P15,N1,N2,N3,N4,N5,N6,N7,I1,I2,I3,I4,I5,I6,I7,reduceIte,reduceCtorEq]
 refine SemC_at (pre:=[.agg (gmF F ow pr su)]) (post:=[]) rfl (by simp only[PP,P1,P2,P3,P4,P5,P6,P7,P8,P9,P10,P11,P12,P13,P14,L1,P15,N1,N2,N3,N4,N5,N6,N7,I1,I2,I3,I4,I5,I6,I7,reduceIte,reduceCtorEq]) (by simp only[PP,P1,P2,P3,P4,P5,P6,P7,P8,P9,P10,P11,P12,P13,P14,L1,P15,N1,N2,N3,N4,N5,N6,N7,I1,I2,I3,I4,I5,I6,I7,reduceIte,reduceCtorEq]) rfl (respond_p T c1 B h14 rfl hM (fun v1 st1 R=>⟨under_slV _ _ _ _ _ _,v1,_,[],rfl,by simp only[PP,P1,P2,P3,P4,P5,P6,P7,P8,P9,P10,P11,P12,P13,P14,L1,P15,N1,N2,N3,N4,N5,N6,N7,I1,I2,I3,I4,I5,I6,I7,reduceIte,reduceCtorEq],?_⟩))
 simp only[PP,P1,P2,P3,P4,P5,P6,P7,P8,P9,P10,P11,P12,P13,P14,L1,P15,N1,N2,N3,N4,N5,N6,N7,I1,I2,I3,I4,I5,I6,I7,reduceIte,reduceCtorEq]
 have hvl:(q26 ow pr su st1).length=ow.length:=by rw[q26,q27,R.ok.l]
 refine SemC_at (pre:=[.agg [p8 0,ordV (gmF F ow pr su)],.agg (gmF F ow pr su)]) (post:=[.sl false true 3 ow.length (vlsL (q26 ow pr su st1))]) rfl (by simp only[PP,P1,P2,P3,P4,P5,P6,P7,P8,P9,P10,P11,P12,P13,P14,L1,P15,N1,N2,N3,N4,N5,N6,N7,I1,I2,I3,I4,I5,I6,I7,reduceIte,reduceCtorEq]) (by simp only[PP,P1,P2,P3,P4,P5,P6,P7,P8,P9,P10,P11,P12,P13,P14,L1,P15,N1,N2,N3,N4,N5,N6,N7,I1,I2,I3,I4,I5,I6,I7,reduceIte,reduceCtorEq,PV.under]) (by simp only[PP,P1,P2,P3,P4,P5,P6,P7,P8,P9,P10,P11,P12,P13,P14,L1,P15,N1,N2,N3,N4,N5,N6,N7,I1,I2,I3,I4,I5,I6,I7,reduceIte,reduceCtorEq,under_slV]) ?_
 refine improve_p T V R.ok.l hvl rfl (bt_zero T hp) (fun v hv=>R.ok.rng V hv) (vals_in c1 R.ok) (fun v2=>⟨by simp only[PP,P1,P2,P3,P4,P5,P6,P7,P8,P9,P10,P11,P12,P13,P14,L1,P15,N1,N2,N3,N4,N5,N6,N7,I1,I2,I3,I4,I5,I6,I7,reduceIte,reduceCtorEq],v2,_,[],rfl,by simp only[PP,P1,P2,P3,P4,P5,P6,P7,P8,P9,P10,P11,P12,P13,P14,L1,P15,N1,N2,N3,N4,N5,N6,N7,I1,I2,I3,I4,I5,I6,I7,reduceIte,reduceCtorEq],?_⟩)
 cases hch:chgM 1 ow pr su (q26 ow pr su st1) 0 st1 with
 | true=>
  obtain⟨h',_,_⟩:=imp_ok c1 (s:=1) (.inl rfl) (player:=0) R.ok
  have hm1:=hmu st1 R
  have wr:IntKind.i64.wrap ((r:Int)+1)=((r+1:Nat):Int):=by rw[q52 (by omega) (by omega)];omega
  simp only[PP,P1,P2,P3,P4,P5,P6,P7,P8,P9,P10,P11,P12,P13,P14,L1,P15,N1,N2,N3,N4,N5,N6,N7,I1,I2,I3,I4,I5,I6,I7,reduceIte,reduceCtorEq,wr]
  exact q8 (ih (r+1) (e-1) v2 _ ⟨h',fun st3 Q=>by have:=R.mu c1 Q h01 hch;omega,by omega⟩ (by omega)) (by simp only[PW])
 | false=>
 have eI:impM 1 ow pr su (q26 ow pr su st1) 0 st1=st1:=by
  unfold chgM at hch
  rw[decide_eq_false_iff_not,Classical.not_not]at hch;exact hch
 rw[eI]
 simp only[PP,P1,P2,P3,P4,P5,P6,P7,P8,P9,P10,P11,P12,P13,P14,L1,P15,N1,N2,N3,N4,N5,N6,N7,I1,I2,I3,I4,I5,I6,I7,reduceIte,reduceCtorEq]
 refine q41 (GStep.nilbox 1 0 1 rfl rfl rfl) ?_
 simp only[List.set_cons_succ,List.set_cons_zero,List.cons_append,List.nil_append,List.length_cons,List.length_nil,Nat.reduceAdd]
 obtain⟨W,hW⟩:∃W:Nat→Int,W=fun v:Nat=>(prI pr (folA ow pr su st1 v).cy) % 2:=⟨_,rfl⟩
 obtain⟨S,hS⟩:∃S:Nat→Int,S=fun v:Nat=>if ow.getD v 0=W v then st1.getD v 0 else-1:=⟨_,rfl⟩
 have hst0:st1=tabA ow.length fun v=>if v<0 then S v else st1.getD v 0:=by
  refine tabA_ext R.ok.l fun v hv=>?_
  rw[if_neg (by omega)]
  obtain⟨x,hx⟩:=q9 (xs:=st1) (k:=v) (by rw[R.ok.l];exact hv)
  rw[getD_some hx,hx]
 have hRl:=R.ok.l
 refine loop6 (fun(k g vw vb v:Nat) (G:Mem)=>k≤ow.length) (fun k g vw vb v G=>[Zj,.ptr 0 0 0,.ptr 1 0 0,p64 r,Zj,Zj,.ref 2 0 1 0 ow.length,Zj,Zj,Zj,Zj,Zj,Zj,Zj,Zj,Zj,Zj,Zj,Zj,Zj,Zj,Zj,Zj,Zj,Zj,Zj,Zj,Zj,Zj,Zj,Zj,Zj,Zj,Zj,Zj,Zj,Zj,Zj,Zj,Zj,Zj,Zj,Zj,Zj,Zj,Zj,Zj,Zj,Zj,Zj,Zj,Zj,Zj,.sl false true 3 ow.length (vlsL (q26 ow pr su st1)),p64 ow.length,p64 k,Zj,Zj,Zj,Zj,Zj,Zj,Zj,Zj,Zj,Zj,Zj,Zj,Zj,Zj,Zj,Zj,Zj,Zj,Zj,Zj,Zj,Zj,Zj,Zj,Zj,Zj,Zj,Zj,Zj,Zj,Zj,Zj,Zj])
  (fun k g vw vb v G=> .cells 0 0 (gmF F ow pr su):: .cells 0 vb [.ref 4 g 1 0 k,.nils]:: .cells 0 v ((tabA ow.length fun v=>if v<k then S v else st1.getD v 0).map p64):: .cells 0 1 [p8 0,ordV (gmF F ow pr su)]:: .cells g vw ((tabA k W).map (PV.int .u8))::G) (fun k _ _ _ _ _=>ow.length-k) 0 0 0 _ v2 [] (Nat.zero_le _) (by simp only[PW]) (by rw[←hst0];rfl) ?_
 intro k g vw vb v G hk0 ih2
 obtain⟨Y,hY⟩:∃Y,Y=tabA ow.length fun v=>if v<k then S v else st1.getD v 0:=⟨_,rfl⟩
 have hYl:Y.length=ow.length:=by rw[hY,q27]
 obtain⟨Z,hZ⟩:∃Z,Z=tabA k W:=⟨_,rfl⟩
 have hZl:Z.length=k:=by rw[hZ,q27]
 rw[←hY,←hZ]
 refine q15 (by kernel_rfl) ?_
 simp only[PP,P1,P2,P3,P4,P5,P6,P7,P8,P9,P10,P11,P12,P13,P14,L1,P15,N1,N2,N3,N4,N5,N6,N7,I1,I2,I3,I4,I5,I6,I7,reduceIte,reduceCtorEq]
 refine QIf.intro (fun d2=>?_) (fun d2=>?_)
 rotate_left
 ·have hkn2:k=ow.length:=by omega
  have hYf:Y=tabA ow.length S:=by rw[hY];exact tabA_congr fun v hv=>if_pos (by omega)
  have hps1:psub (Z.map (PV.int .u8)) 0 k=Z.map (PV.int .u8):=q49 _ _ (by rw[List.length_map];omega)
  have hps2:psub (Y.map p64) 0 ow.length=Y.map p64:=q49 _ _ (by rw[List.length_map];omega)
  have hl1:k≤Z.length:=by omega
  have hl2:ow.length≤Y.length:=by omega
  have hu1:q14 0 (Z.map (PV.int .u8))=true:=q16 _ _ _
  simp only[PP,P1,P2,P3,P4,P5,P6,P7,P8,P9,P10,P11,P12,P13,P14,L1,P15,N1,N2,N3,N4,N5,N6,N7,I1,I2,I3,I4,I5,I6,I7,reduceIte,reduceCtorEq,d2,hps1,hps2,hl1,hl2,hu1]
  refine⟨_,PvWk.refl _,?_⟩
  have hsol:SolL ow pr su Z Y:=stable_sol c1 ho R.ok R.best hch (by omega) hYl (fun v hv=>by
    have:Z[v]? =some (W v):=by rw[hZ];exact q38 (by omega)
    rw[getD_some this,hW]) (fun v hv=>by
    have h1:Z[v]? =some (W v):=by rw[hZ];exact q38 (by omega)
    have h2:Y[v]? =some (S v):=by rw[hYf];exact q38 hv
    rw[getD_some h1,getD_some h2,hS])
  have:=hq2 Z Y r hsol
  unfold slI at this
  rw[hZl,hYl]at this
  exact this
 have hk:k<ow.length:=by omega
 have hw:=q12 (k:=k) (by show _<1000000000000;omega)
 have k0:(0:Int)≤k:=by omega
 have kn:(k:Int)<ow.length:=by omega
 have hkY:k<Y.length:=by omega
 obtain⟨o,go⟩:=q9 (xs:=ow) (k:=k) hk
 have eo:ow.getD k 0=o:=getD_some go
 have g1:=psub_vls (valsM_gt (ow:=ow) (pr:=pr) (su:=su) (st:=st1) (v:=k) (by rw[R.ok.l];exact hk))
 have b1:k*3+3≤(vlsL (q26 ow pr su st1)).length:=by rw[vlsL_len];omega
 have ok1:=q47 c1 R.ok hk
 have gp:=prI_get (pr:=pr) ok1.c0 (by have:=ok1.cn;omega)
 have cc0:=ok1.c0
 have ccn:(folA ow pr su st1 k).cy<pr.length:=by have:=ok1.cn;omega
 have hpp:=V.prI (folA ow pr su st1 k).cy
 have ew:IntKind.u8.wrap ((prI pr (folA ow pr su st1 k).cy).tmod 2)=W k:=by
  rw[hW,Int.tmod_eq_emod_of_nonneg hpp.1]
  exact Go.Am.wrap8 (by omega) (by omega)
 have hps:psub (Z.map (PV.int .u8)) 0 k=Z.map (PV.int .u8):=q49 _ _ (by rw[List.length_map];omega)
 have hZk:k≤Z.length:=by omega
 have hZs:Z.map (PV.int .u8)++[PV.int .u8 (W k)]=(tabA (k+1) W).map (PV.int .u8):=by rw[tabA_succ,hZ];simp
 have hup:∀y,S k=y→Y.set k y=tabA ow.length fun v=>if v<k+1 then S v else st1.getD v 0:=fun y hy=>by
  rw[hY,tabA_set y hk]
  refine tabA_congr fun v hv=>?_
  by_cases e:v=k
  ·subst e;rw[if_pos rfl,if_pos (show v<v+1 by omega),hy]
  ·rw[if_neg e]
   by_cases q:v<k
   ·rw[if_pos q,if_pos (show v<k+1 by omega)]
   ·rw[if_neg q,if_neg (show ¬v<k+1 by omega)]
 simp only[PP,P1,P2,P3,P4,P5,P6,P7,P8,P9,P10,P11,P12,P13,P14,L1,P15,N1,N2,N3,N4,N5,N6,N7,I1,I2,I3,I4,I5,I6,I7,reduceIte,reduceCtorEq,d2,k0,kn,g1,b1,gkI0,skI0,cc0,ccn,gp,prem (show(2:Int)≠0 by decide),ew,hps,hZk,go]
 refine⟨by omega,?_⟩
 rw[hZs]
 refine QIf.intro (fun q=>?_) (fun q=>?_)
 ·have hid:Y.set k (st1.getD k 0)=Y:=by
   refine List.ext_getElem? fun i=>?_
   by_cases e:k=i
   ·subst e;rw[List.getElem?_set_self hkY,hY,q38 hk,if_neg (by omega)]
   ·rw[List.getElem?_set_ne e]
  have h1:=hup (st1.getD k 0) (by rw[hS];show(if _ then _ else _)=_;rw[if_pos (by rw[eo,q])])
  simp only[PP,P1,P2,P3,P4,P5,P6,P7,P8,P9,P10,P11,P12,P13,P14,L1,P15,N1,N2,N3,N4,N5,N6,N7,I1,I2,I3,I4,I5,I6,I7,reduceIte,reduceCtorEq,q,hw]
  exact q19 (ih2 (k+1) (g+1) 0 (vb+1) v (G++[_]) (by omega) (by omega)) (by simp only[PW]) (by rw[←h1,hid])
 ·have h1:=hup (-1) (by rw[hS];show(if _ then _ else _)=_;rw[if_neg (by rw[eo];exact q)])
  have hset:(Y.map p64).set k (p64 (-1))=(Y.set k (-1)).map p64:=by rw[List.map_set]
  simp only[PP,P1,P2,P3,P4,P5,P6,P7,P8,P9,P10,P11,P12,P13,P14,L1,P15,N1,N2,N3,N4,N5,N6,N7,I1,I2,I3,I4,I5,I6,I7,reduceIte,reduceCtorEq,q,k0,kn,hkY,hset,hw]
  exact⟨by omega,q19 (ih2 (k+1) (g+1) 0 (vb+1) (v+1) (G++[_]) (by omega) (by omega)) (by simp only[PW]) (by rw[h1])⟩
end
section
variable {tab:FuncId→Option AF} (T:HasA tab)
include T
set_option maxHeartbeats 2000000 in
theorem caccepts_p {ow pr ws ss:List Int} {su:List (List Int)} (ho:∀x∈ow,0≤x) (hw0:∀x∈ws,0≤x):
  SemC tab 3 [gmP false false false false false false false false ow pr su,.agg [slI false false .u8 ws,slI false false .i64 ss]] [] fun r _=>r= .bool true:=by
 refine q34 T.h3 ?_
 simp only[af3,PP,P1,P2,P3,P4,P5,P6,P7,P8,P9,P10,P11,P12,P13,P14,L1,P15,N1,N2,N3,N4,N5,N6,N7,I1,I2,I3,I4,I5,I6,I7,reduceIte,reduceCtorEq]
 refine long33_p T (fun b hb=>?_)
 cases b with
 | true=>
  simp only[PP,P1,P2,P3,P4,P5,P6,P7,P8,P9,P10,P11,P12,P13,P14,L1,P15,N1,N2,N3,N4,N5,N6,N7,I1,I2,I3,I4,I5,I6,I7,reduceIte,reduceCtorEq]
  refine SemC_true T.awake ?_
  simp only[PP,P1,P2,P3,P4,P5,P6,P7,P8,P9,P10,P11,P12,P13,P14,L1,P15,N1,N2,N3,N4,N5,N6,N7,I1,I2,I3,I4,I5,I6,I7,reduceIte,reduceCtorEq]
 | false=>
  obtain⟨hl,h40⟩:=hb rfl
  have S:=longM_false hl
  have B:=S.bnd
  simp only[PP,P1,P2,P3,P4,P5,P6,P7,P8,P9,P10,P11,P12,P13,P14,L1,P15,N1,N2,N3,N4,N5,N6,N7,I1,I2,I3,I4,I5,I6,I7,reduceIte,reduceCtorEq]
  refine QIf.intro (fun c14=>?_) (fun c14=>?_)
  ·simp only[PP,P1,P2,P3,P4,P5,P6,P7,P8,P9,P10,P11,P12,P13,P14,L1,P15,N1,N2,N3,N4,N5,N6,N7,I1,I2,I3,I4,I5,I6,I7,reduceIte,reduceCtorEq,c14]
   refine SemC_true T.awake ?_
   simp only[PP,P1,P2,P3,P4,P5,P6,P7,P8,P9,P10,P11,P12,P13,P14,L1,P15,N1,N2,N3,N4,N5,N6,N7,I1,I2,I3,I4,I5,I6,I7,reduceIte,reduceCtorEq]
  have h14:ow.length≤14:=by omega
  simp only[PP,P1,P2,P3,P4,P5,P6,P7,P8,P9,P10,P11,P12,P13,P14,L1,P15,N1,N2,N3,N4,N5,N6,N7,I1,I2,I3,I4,I5,I6,I7,reduceIte,reduceCtorEq,c14]
  refine SemC_true T.awake ?_
  simp only[PP,P1,P2,P3,P4,P5,P6,P7,P8,P9,P10,P11,P12,P13,P14,L1,P15,N1,N2,N3,N4,N5,N6,N7,I1,I2,I3,I4,I5,I6,I7,reduceIte,reduceCtorEq]
  refine solve_p T B ho (fun c1=>?_) (fun c1 t1 t2 L1=>?_)
  ·simp only[PP,P1,P2,P3,P4,P5,P6,P7,P8,P9,P10,P11,P12,P13,P14,L1,P15,N1,N2,N3,N4,N5,N6,N7,I1,I2,I3,I4,I5,I6,I7,reduceIte,reduceCtorEq]
   refine isolve_p T (F:=F0) B ho h14 (fun c2=>?_) (fun c2=>absurd c2 c1)
   simp only[PP,P1,P2,P3,P4,P5,P6,P7,P8,P9,P10,P11,P12,P13,P14,L1,P15,N1,N2,N3,N4,N5,N6,N7,I1,I2,I3,I4,I5,I6,I7,reduceIte,reduceCtorEq,c1]
   refine valid33_p T B ?_
   simp only[PP,P1,P2,P3,P4,P5,P6,P7,P8,P9,P10,P11,P12,P13,P14,L1,P15,N1,N2,N3,N4,N5,N6,N7,I1,I2,I3,I4,I5,I6,I7,reduceIte,reduceCtorEq]
  have V:=q25 c1
  simp only[PP,P1,P2,P3,P4,P5,P6,P7,P8,P9,P10,P11,P12,P13,P14,L1,P15,N1,N2,N3,N4,N5,N6,N7,I1,I2,I3,I4,I5,I6,I7,reduceIte,reduceCtorEq]
  refine isolve_p T (F:=F0) B ho h14 (fun c2=>absurd c1 c2) (fun _ u1 u2 r L2=>?_)
  obtain rfl:=L1.eq V ho L2
  simp only[PP,P1,P2,P3,P4,P5,P6,P7,P8,P9,P10,P11,P12,P13,P14,L1,P15,N1,N2,N3,N4,N5,N6,N7,I1,I2,I3,I4,I5,I6,I7,reduceIte,reduceCtorEq]
  refine check33_p T B fun e1 hE1=>?_
  have z1:e1=0:=hE1.ok (L1.corr V c1 ho)
  simp only[PP,P1,P2,P3,P4,P5,P6,P7,P8,P9,P10,P11,P12,P13,P14,L1,P15,N1,N2,N3,N4,N5,N6,N7,I1,I2,I3,I4,I5,I6,I7,reduceIte,reduceCtorEq,z1]
  refine check33_p T B fun e2 hE2=>?_
  have z2:e2=0:=hE2.ok (L2.corr V c1 ho)
  simp only[PP,P1,P2,P3,P4,P5,P6,P7,P8,P9,P10,P11,P12,P13,P14,L1,P15,N1,N2,N3,N4,N5,N6,N7,I1,I2,I3,I4,I5,I6,I7,reduceIte,reduceCtorEq,z2]
  have hs0:∀x∈t1,0≤x:=fun x hx=>by rcases L1.w01 x hx with rfl | rfl<;>decide
  refine loop1 (fun(k:Nat)=>k≤3) (fun k=>[Zj,Zj,.ptr 0 0 0,.ptr 1 0 0,Zj,.ptr 2 0 0,Zj,.ptr 3 0 0,Zj,Zj,p64 k,Zj,Zj,Zj,Zj,Zj,Zj,Zj,Zj,Zj,Zj,Zj,Zj,Zj,Zj,Zj,Zj,Zj,Zj,Zj,Zj,Zj,Zj,Zj,Zj,Zj,Zj,Zj,Zj,Zj,Zj,Zj,Zj,Zj,Zj,Zj,Zj,Zj,Zj,Zj,Zj,Zj,Zj,Zj,Zj,Zj,Zj,Zj,Zj,Zj,Zj,Zj,Zj,Zj,Zj,Zj,Zj,Zj,Zj,Zj,Zj,Zj,Zj,Zj,Zj,Zj,Zj,Zj,Zj,Zj,Zj,Zj,Zj,Zj,Zj,Zj,Zj,Zj,Zj,Zj,Zj,Zj,Zj,Zj,Zj,Zj,Zj,Zj,Zj])
   (fun k=>[.cells 0 0 [slI false false .u8 ow,slI false false .i64 pr,slR false false false false .i64 su],.cells 0 0 [slI false false .u8 ws,slI false false .i64 ss],.cells 0 1 [slI false true .u8 t1,slI false true .i64 t2],.cells 0 1 [slI false true .u8 t1,slI false true .i64 u2]])
   (fun k=>3-k) 0 (by omega) (by simp only[PW]) rfl ?_
  intro k hle ih
  refine q15 (by kernel_rfl) ?_
  simp only[PP,P1,P2,P3,P4,P5,P6,P7,P8,P9,P10,P11,P12,P13,P14,L1,P15,N1,N2,N3,N4,N5,N6,N7,I1,I2,I3,I4,I5,I6,I7,reduceIte,reduceCtorEq]
  refine QIf.intro (fun c=>?_) (fun c=>?_)
  ·have hk:k<3:=by omega
   have k0:(0:Int)≤k:=by omega
   have k3:(k:Int)<3:=by omega
   have hw:=q12 (k:=k) (by show _<1000000000000;omega)
   obtain⟨f,o,xw,xs,hx,hx0⟩:∃f o xw xs,psub [slI false false .u8 ws,slI false false .i64 ss,slI false true .u8 t1,slI false true .i64 t2,slI false true .u8 t1,slI false true .i64 u2] (k*2) 2=[slI f o .u8 xw,slI f o .i64 xs]∧∀x∈xw,0≤x:=by
    have:k=0∨k=1∨k=2:=by omega
    rcases this with rfl | rfl | rfl
    ·exact⟨false,false,ws,ss,rfl,hw0⟩
    ·exact⟨false,true,t1,t2,rfl,hs0⟩
    ·exact⟨false,true,t1,u2,rfl,hs0⟩
   have hk4:k*2≤4:=by omega
   simp only[PP,P1,P2,P3,P4,P5,P6,P7,P8,P9,P10,P11,P12,P13,P14,L1,P15,N1,N2,N3,N4,N5,N6,N7,I1,I2,I3,I4,I5,I6,I7,reduceIte,reduceCtorEq,c,k0,k3,hw,hx,hk4]
   refine check33_p T B fun e1 hE1=>?_
   simp only[PP,P1,P2,P3,P4,P5,P6,P7,P8,P9,P10,P11,P12,P13,P14,L1,P15,N1,N2,N3,N4,N5,N6,N7,I1,I2,I3,I4,I5,I6,I7,reduceIte,reduceCtorEq]
   refine QIf.intro (fun z=>?_) (fun z=>?_)
   rotate_left
   ·simp only[PP,P1,P2,P3,P4,P5,P6,P7,P8,P9,P10,P11,P12,P13,P14,L1,P15,N1,N2,N3,N4,N5,N6,N7,I1,I2,I3,I4,I5,I6,I7,reduceIte,reduceCtorEq,z,hw]
    refine q41 (GStep.drop (b:=[Zj,Zj,.ptr 0 0 0,.ptr 1 0 0,Zj,.ptr 2 0 0,Zj,.ptr 3 0 0,Zj,Zj,p64 (k+1:Nat),Zj,Zj,Zj,Zj,Zj,Zj,Zj,Zj,Zj,Zj,Zj,Zj,Zj,Zj,Zj,Zj,Zj,Zj,Zj,Zj,Zj,Zj,Zj,Zj,Zj,Zj,Zj,Zj,Zj,Zj,Zj,Zj,Zj,Zj,Zj,Zj,Zj,Zj,Zj,Zj,Zj,Zj,Zj,Zj,Zj,Zj,Zj,Zj,Zj,Zj,Zj,Zj,Zj,Zj,Zj,Zj,Zj,Zj,Zj,Zj,Zj,Zj,Zj,Zj,Zj,Zj,Zj,Zj,Zj,Zj,Zj,Zj,Zj,Zj,Zj,Zj,Zj,Zj,Zj,Zj,Zj,Zj,Zj,Zj,Zj,Zj,Zj,Zj]) 4 (by decide) (by simp) (by simp only[PW]) (by simp only[PP,P1,P2,P3,P4,P5,P6,P7,P8,P9,P10,P11,P12,P13,P14,L1,P15,N1,N2,N3,N4,N5,N6,N7,I1,I2,I3,I4,I5,I6,I7,reduceIte,reduceCtorEq,PV.under]) (by simp only[PP,P1,P2,P3,P4,P5,P6,P7,P8,P9,P10,P11,P12,P13,P14,L1,P15,N1,N2,N3,N4,N5,N6,N7,I1,I2,I3,I4,I5,I6,I7,reduceIte,reduceCtorEq,PV.under,PObj.under,List.all_cons,List.all_nil,List.take_succ_cons,List.take_zero]) rfl) ?_
    exact ih (k+1) (by omega) (by omega)
   ·obtain C:=hE1.corr z
    have hw1:xw=t1:=corr_eq V L1 C hx0
    subst hw1
    simp only[PP,P1,P2,P3,P4,P5,P6,P7,P8,P9,P10,P11,P12,P13,P14,L1,P15,N1,N2,N3,N4,N5,N6,N7,I1,I2,I3,I4,I5,I6,I7,reduceIte,reduceCtorEq,z]
    refine closed33_p T B hx0 fun b e hC=>?_
    obtain⟨rfl,rfl⟩:=hC.ok C.formP (corr_clos V L1 C)
    simp only[PP,P1,P2,P3,P4,P5,P6,P7,P8,P9,P10,P11,P12,P13,P14,L1,P15,N1,N2,N3,N4,N5,N6,N7,I1,I2,I3,I4,I5,I6,I7,reduceIte,reduceCtorEq]
    refine equalBytes_p T (by have:=L1.lw;show _<1000000000000;omega) ?_
    simp only[PP,P1,P2,P3,P4,P5,P6,P7,P8,P9,P10,P11,P12,P13,P14,L1,P15,N1,N2,N3,N4,N5,N6,N7,I1,I2,I3,I4,I5,I6,I7,reduceIte,reduceCtorEq,hw]
    refine q41 (GStep.drop (b:=[Zj,Zj,.ptr 0 0 0,.ptr 1 0 0,Zj,.ptr 2 0 0,Zj,.ptr 3 0 0,Zj,Zj,p64 (k+1:Nat),Zj,Zj,Zj,Zj,Zj,Zj,Zj,Zj,Zj,Zj,Zj,Zj,Zj,Zj,Zj,Zj,Zj,Zj,Zj,Zj,Zj,Zj,Zj,Zj,Zj,Zj,Zj,Zj,Zj,Zj,Zj,Zj,Zj,Zj,Zj,Zj,Zj,Zj,Zj,Zj,Zj,Zj,Zj,Zj,Zj,Zj,Zj,Zj,Zj,Zj,Zj,Zj,Zj,Zj,Zj,Zj,Zj,Zj,Zj,Zj,Zj,Zj,Zj,Zj,Zj,Zj,Zj,Zj,Zj,Zj,Zj,Zj,Zj,Zj,Zj,Zj,Zj,Zj,Zj,Zj,Zj,Zj,Zj,Zj,Zj,Zj,Zj,Zj]) 4 (by decide) (by simp) (by simp only[PW]) (by simp only[PP,P1,P2,P3,P4,P5,P6,P7,P8,P9,P10,P11,P12,P13,P14,L1,P15,N1,N2,N3,N4,N5,N6,N7,I1,I2,I3,I4,I5,I6,I7,reduceIte,reduceCtorEq,PV.under]) (by simp only[PP,P1,P2,P3,P4,P5,P6,P7,P8,P9,P10,P11,P12,P13,P14,L1,P15,N1,N2,N3,N4,N5,N6,N7,I1,I2,I3,I4,I5,I6,I7,reduceIte,reduceCtorEq,PV.under,PObj.under,List.all_cons,List.all_nil,List.take_succ_cons,List.take_zero]) rfl) ?_
    exact ih (k+1) (by omega) (by omega)
  ·simp only[PP,P1,P2,P3,P4,P5,P6,P7,P8,P9,P10,P11,P12,P13,P14,L1,P15,N1,N2,N3,N4,N5,N6,N7,I1,I2,I3,I4,I5,I6,I7,reduceIte,reduceCtorEq,c]
theorem caccepts_all (args:List AV) (h:H) (hs:ShVs [gameTy,solTy] args h):
  ∃n h',(run tab n).call 3 args h=some (.bool true,h'):=by
 obtain⟨a,b,rfl,ha,hb⟩:=shVs2 hs
 obtain⟨ow,pr,su,r1,N⟩:=arg_game ha
 obtain⟨ws,ss,r2,hw⟩:=arg_sol hb
 exact run_of_C (law_of_sem (.cons r1 (.cons r2 (.nil _))) (caccepts_p T (fun x hx=>(N.o x hx).1) fun x hx=>(hw x hx).1))
end
end Go.Am.Ar

