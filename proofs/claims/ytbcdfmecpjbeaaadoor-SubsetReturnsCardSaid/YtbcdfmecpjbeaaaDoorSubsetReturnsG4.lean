/- Contract: the reference's After, and what goes with it. -/
import Derived.Test.YtbcdfmecpjbeaaaDoorSubsetReturnsG3
import Derived.Test.YtbcdfmecpjbeaaaDoorPmC
import Derived.Test.YtbcdfmecpjbeaaaDoorSubsetReturnsG0
import Derived.Test.YtbcdfmecpjbeaaaDoorSubsetReturnsG2
import Derived.Test.YtbcdfmecpjbeaaaDoorPmL
set_option linter.unusedVariables false
set_option linter.unusedSimpArgs false
set_option maxRecDepth 10000
namespace Go.Am.Ar
open Go.Am.PV renaming junk→Zj
open Go.Am renaming pchk→P1,pold→P2,PKNo→P3,ppack→P4,PObj.under→P5,pput→P6,ptset→P7,ptget→P8,pev→P9,ofAV→P10,q57→P11,ppad→P12,pfill→P13,prepl→P14,AO.effect→P15
open List renaming replicate→L1
open Nat renaming reduceAdd→N1,reduceSub→N2,reduceMul→N3,reduceLT→N4,reduceLeDiff→N5,reduceEqDiff→N6,reduceBEq→N7
open Int renaming reduceToNat→I1,reduceLT→I2,reduceLE→I3,reduceEq→I4,reduceAdd→I5,reduceSub→I6,reduceNeg→I7
section
variable {tab:FuncId→Option AF} (T:HasA tab)
include T
end
section
variable {α:Type} [DecidableEq α]
theorem idxOf_atG {b:α} :∀{o:List α},b∈o→o[o.idxOf b]? =some b
 | [],h=>by simp at h
 | a::o,h=>by
  by_cases e:b=a
  ·subst e;simp
  ·rw[idxOf_ne e]
   rw[List.getElem?_cons_succ]
   exact idxOf_atG ((List.mem_cons.1 h).resolve_left e)
theorem idxOf_leG {b:α} :∀{o:List α} {k:Nat},o[k]? =some b→o.idxOf b≤k
 | [],k,h=>by simp at h
 | a::o,k,h=>by
  by_cases e:b=a
  ·subst e;simp
  ·rw[idxOf_ne e]
   cases k with
   | zero=>simp at h;exact absurd h.symm e
   | succ k=>have:=idxOf_leG (o:=o) (k:=k) (by simpa using h);omega
end
theorem bitsW_len (a:BitVec 64):(bitsW a).length≤64:=by unfold bitsW;exact Nat.le_trans (List.length_filter_le _ _) (by simp)
section
variable {tab:FuncId→Option AF} (T:HasA tab)
include T
end
abbrev setP (ss:List Wd):List PV:=ss.map (slW false true)
abbrev DetM (f1 o1 f2 o2 f3 o3:Bool) (N:NF) (o1':PObj) (g v v3 vm:Nat) (ss:List Wd) (o:List (BitVec 64)):Mem:=
 [.cells 0 0 (nfC f1 o1 f2 o2 f3 o3 N),o1',.cells g v (setP ss),.cells 0 v3 [.ref 2 g 1 0 o.length],.map vm (smE (knE o)),.cells 0 1 [.map 4]]
theorem knE_add {o:List (BitVec 64)} {b:BitVec 64} (h:b∉o):knE (addN o b)=knE o++[(keyB b,.bool true)]:=by
 unfold addN knE;rw[if_neg h,List.map_append];rfl
section
variable {tab:FuncId→Option AF} (T:HasA tab)
include T
set_option maxHeartbeats 1000000 in
theorem det1_p {f1 o1 f2 o2 f3 o3:Bool} {N:NF} {o1':PObj} {l:Mem} {g v v3 vm s x:Nat} {ss:List Wd} {o:List (BitVec 64)} {a:BitVec 64} {K:PV→Mem→Prop} (hc:checkN N=0) (B:BnN N) (hr:RBs ss o) (hs:o[s]? =some a) (hx:x<q58 N) (hol:o.length≤5000)
  (hk:∀g' v' v3' vm' ss',RBs ss' (addN o (q60 N a x))→K (.str (keyB (q60 N a x))) (DetM f1 o1 f2 o2 f3 o3 N o1' g' v' v3' vm' ss' (addN o (q60 N a x))++l)):
  SemC tab 66 [p64 s,p8 x,.ptr 0 0 0,.ptr 3 0 0,.ptr 5 0 0] (DetM f1 o1 f2 o2 f3 o3 N o1' g v v3 vm ss o++l) K:=by
 refine SemC_fn T.h66 ?_
 obtain⟨sw,gs,hR⟩:=hr.get hs
 have s0:(0:Int)≤s:=by omega
 have s1:(s:Int)<o.length:=by have:=q27 hs;omega
 have hsl:=hr.len
 simp only[af66,PP,P1,P2,P3,P4,P5,P6,P7,P8,P9,P10,P11,P12,P13,P14,L1,P15,N1,N2,N3,N4,N5,N6,N7,I1,I2,I3,I4,I5,I6,I7,reduceIte,reduceCtorEq,q26,q33,q12,q34,q54,q25,q24,q31,q38,q39,q40,q41,q37,q47,q15,q16,q9,q17,q43,q44,q32,q55,q45,q42,q30,q51,q22,q52,q23,q11,q14,gs,s0,s1]
 refine nafter_p T hc B hR hx fun to hto=>?_
 simp only[PP,P1,P2,P3,P4,P5,P6,P7,P8,P9,P10,P11,P12,P13,P14,L1,P15,N1,N2,N3,N4,N5,N6,N7,I1,I2,I3,I4,I5,I6,I7,reduceIte,reduceCtorEq,q26,q33,q12,q34,q54,q25,q24,q31,q38,q39,q40,q41,q37,q47,q15,q16,q9,q17,q43,q44,q32,q55,q45,q42,q30,q51,q22,q52,q23,q11,q14]
 refine key_p T hto.len hto.lt ?_
 rw[hto.at0]
 have hlk:=knE_look (q60 N a x) o
 by_cases hm:q60 N a x∈o
 ·rw[if_pos hm]at hlk
  have e:addN o (q60 N a x)=o:=by unfold addN;rw[if_pos hm]
  have:=hk g v v3 vm ss (by rw[e];exact hr)
  rw[e]at this
  simp only[PP,P1,P2,P3,P4,P5,P6,P7,P8,P9,P10,P11,P12,P13,P14,L1,P15,N1,N2,N3,N4,N5,N6,N7,I1,I2,I3,I4,I5,I6,I7,reduceIte,reduceCtorEq,q26,q33,q12,q34,q54,q25,q24,q31,q38,q39,q40,q41,q37,q47,q15,q16,q9,q17,q43,q44,q32,q55,q45,q42,q30,q51,q22,q52,q23,q11,q14,hlk]
  exact this
 ·rw[if_neg hm]at hlk
  have e:addN o (q60 N a x)=o++[q60 N a x]:=by unfold addN;rw[if_neg hm]
  have:=hk (g+1) 0 (v3+1) (vm+1) (ss++[to]) (by rw[e];exact hr.snoc hto)
  have hput:=smE_put (keyB (q60 N a x)) (.bool true) (knE o) hlk
  unfold DetM at this
  rw[knE_add hm,e]at this
  have b1:(o.length+1)*24≤140737488355328:=by omega
  have b2:o.length+1≤9223372036854775807:=by omega
  have b3:o.length≤ss.length:=by omega
  simp only[PP,P1,P2,P3,P4,P5,P6,P7,P8,P9,P10,P11,P12,P13,P14,L1,P15,N1,N2,N3,N4,N5,N6,N7,I1,I2,I3,I4,I5,I6,I7,reduceIte,reduceCtorEq,q26,q33,q12,q34,q54,q25,q24,q31,q38,q39,q40,q41,q37,q47,q15,q16,q9,q17,q43,q44,q32,q55,q45,q42,q30,q51,q22,q52,q23,q11,q14,hlk,hput,b1,b2,b3]
  rw[q63 _ _ (by simp[hsl])]
  have e2:setP (ss++[to])=setP ss++[slW false true to]:=by simp
  rw[e2,List.length_append,List.length_singleton]at this
  exact this
set_option maxHeartbeats 2000000 in
theorem determinize_p {M:Mem} {K:PV→Mem→Prop} {f1 o1 f2 o2 f3 o3:Bool} {N:NF} {bd:Int} (B:BnN N)
  (hk1:checkN N≠0→K (.tuple [.agg [p64 0,p64 0,.nils,.nils],.nils,p64 (checkN N)]) M)
  (hk2:checkN N=0→bd<1∨4096<bd→K (.tuple [.agg [p64 0,p64 0,.nils,.nils],.nils,p64 1]) M)
  (hk3:checkN N=0→1≤bd→bd≤4096→OverN (q60 N) (q58 N) (startB N) bd→K (.tuple [.agg [p64 0,p64 0,.nils,.nils],.nils,p64 10]) M)
  (hk4:checkN N=0→1≤bd→bd≤4096→∀o,FullN (q60 N) (q58 N) (startB N) o→(o.length:Int)≤bd→K (.tuple [.agg (dfC false true false true false true (detD N o)),slR false true false true .i64 (setsB o),p64 0]) M):
  SemC tab 29 [.agg (nfC f1 o1 f2 o2 f3 o3 N),p64 bd] M K:=by
 refine SemC_pureS T.h29 (by simp only[PP,P1,P2,P3,P4,P5,P6,P7,P8,P9,P10,P11,P12,P13,P14,L1,P15,N1,N2,N3,N4,N5,N6,N7,I1,I2,I3,I4,I5,I6,I7,reduceIte,reduceCtorEq,under_slE]) ?_
 simp only[af29]
 refine q28 (q13 ?_)
 simp only[PP,P1,P2,P3,P4,P5,P6,P7,P8,P9,P10,P11,P12,P13,P14,L1,P15,N1,N2,N3,N4,N5,N6,N7,I1,I2,I3,I4,I5,I6,I7,reduceIte,reduceCtorEq]
 refine q28 (q13 ?_)
 simp only[PP,P1,P2,P3,P4,P5,P6,P7,P8,P9,P10,P11,P12,P13,P14,L1,P15,N1,N2,N3,N4,N5,N6,N7,I1,I2,I3,I4,I5,I6,I7,reduceIte,reduceCtorEq]
 refine check_p T B ?_
 by_cases hc:checkN N=0
 rotate_left
 ·simp only[PP,P1,P2,P3,P4,P5,P6,P7,P8,P9,P10,P11,P12,P13,P14,L1,P15,N1,N2,N3,N4,N5,N6,N7,I1,I2,I3,I4,I5,I6,I7,reduceIte,reduceCtorEq,hc]
  exact hk1 hc
 have C:=nok_of hc
 simp only[PP,P1,P2,P3,P4,P5,P6,P7,P8,P9,P10,P11,P12,P13,P14,L1,P15,N1,N2,N3,N4,N5,N6,N7,I1,I2,I3,I4,I5,I6,I7,reduceIte,reduceCtorEq,hc]
 by_cases c1:bd<1
 ·refine q13 ?_
  simp only[PP,P1,P2,P3,P4,P5,P6,P7,P8,P9,P10,P11,P12,P13,P14,L1,P15,N1,N2,N3,N4,N5,N6,N7,I1,I2,I3,I4,I5,I6,I7,reduceIte,reduceCtorEq,c1]
  exact hk2 hc (.inl c1)
 by_cases c2:4096<bd
 ·refine q13 ?_
  simp only[PP,P1,P2,P3,P4,P5,P6,P7,P8,P9,P10,P11,P12,P13,P14,L1,P15,N1,N2,N3,N4,N5,N6,N7,I1,I2,I3,I4,I5,I6,I7,reduceIte,reduceCtorEq,c1,c2]
  exact hk2 hc (.inr c2)
 refine q28 (q13 ?_)
 simp only[PP,P1,P2,P3,P4,P5,P6,P7,P8,P9,P10,P11,P12,P13,P14,L1,P15,N1,N2,N3,N4,N5,N6,N7,I1,I2,I3,I4,I5,I6,I7,reduceIte,reduceCtorEq,c1,c2]
 have hR0:=start_RB C
 have hshl:pbin .shl (.int .i64 1) (.int .i64 N.vs)=some (.int .i64 ((q58 N:Nat):Int)):=by
  rw[shl_one (by have:=C.v0;omega) (by have:=C.v6;omega)];simp
 refine q28 (SemW_litAt 3 rfl ?_)
 simp only[PP,P1,P2,P3,P4,P5,P6,P7,P8,P9,P10,P11,P12,P13,P14,L1,P15,N1,N2,N3,N4,N5,N6,N7,I1,I2,I3,I4,I5,I6,I7,reduceIte,reduceCtorEq]
 refine ofF_p T C C.st ?_
 simp only[PP,P1,P2,P3,P4,P5,P6,P7,P8,P9,P10,P11,P12,P13,P14,L1,P15,N1,N2,N3,N4,N5,N6,N7,I1,I2,I3,I4,I5,I6,I7,reduceIte,reduceCtorEq,Option.some.injEq,exists_eq_left']
 refine q28 (q13 ?_)
 simp only[PP,P1,P2,P3,P4,P5,P6,P7,P8,P9,P10,P11,P12,P13,P14,L1,P15,N1,N2,N3,N4,N5,N6,N7,I1,I2,I3,I4,I5,I6,I7,reduceIte,reduceCtorEq,q26,q33,q12,q34,q54,q25,q24,q31,q38,q39,q40,q41,q37,q47,q15,q16,q9,q17,q43,q44,q32,q55,q45,q42,q30,q51,q22,q52,q23,q11,q14]
 refine key_p T hR0.len hR0.lt ?_
 rw[hR0.at0]
 simp only[PP,P1,P2,P3,P4,P5,P6,P7,P8,P9,P10,P11,P12,P13,P14,L1,P15,N1,N2,N3,N4,N5,N6,N7,I1,I2,I3,I4,I5,I6,I7,reduceIte,reduceCtorEq,q26,q33,q12,q34,q54,q25,q24,q31,q38,q39,q40,q41,q37,q47,q15,q16,q9,q17,q43,q44,q32,q55,q45,q42,q30,q51,q22,q52,q23,q11,q14]
 refine q28 (q13 ?_)
 simp only[PP,P1,P2,P3,P4,P5,P6,P7,P8,P9,P10,P11,P12,P13,P14,L1,P15,N1,N2,N3,N4,N5,N6,N7,I1,I2,I3,I4,I5,I6,I7,reduceIte,reduceCtorEq]
 refine q28 (q13 ?_)
 simp only[PP,P1,P2,P3,P4,P5,P6,P7,P8,P9,P10,P11,P12,P13,P14,L1,P15,N1,N2,N3,N4,N5,N6,N7,I1,I2,I3,I4,I5,I6,I7,reduceIte,reduceCtorEq,hshl]
 refine key_p T hR0.len hR0.lt ?_
 rw[hR0.at0]
 simp only[PP,P1,P2,P3,P4,P5,P6,P7,P8,P9,P10,P11,P12,P13,P14,L1,P15,N1,N2,N3,N4,N5,N6,N7,I1,I2,I3,I4,I5,I6,I7,reduceIte,reduceCtorEq,q26,q33,q12,q34,q54,q25,q24,q31,q38,q39,q40,q41,q37,q47,q15,q16,q9,q17,q43,q44,q32,q55,q45,q42,q30,q51,q22,q52,q23,q11,q14]
 refine explore_p T (Dm:=fun _=>True) (δ:=q60 N) (κ:=keyB) (a0:=startB N) (n:=q58 N) (bd:=bd) (caps:=[.ptr 0 0 0,.ptr 3 0 0,.ptr 5 0 0])
  (J:=fun o M=>∃g v v3 vm ss,RBs ss o∧M=DetM f1 o1 f2 o2 f3 o3 N (.cells 0 0 [p64 0,p64 0,.nils,.nils]) g v v3 vm ss o)
  ?_ ?_ (fun a b _ _ h=>keyB_inj h) (fun _ _ _ _=>trivial) trivial C.let64 (by omega) (by omega) (by simp[q19,PV.under]) ⟨0,0,1,1,[faW N.st],?_,rfl⟩ ?_ ?_ ?_
 ·rintro o N' ⟨g,v,v3,vm,ss,hr,rfl⟩;rfl
 ·rintro o N' ⟨g,v,v3,vm,ss,hr,rfl⟩
  have h1:∀m,q19 m (setP ss)=true:=fun m=>underL_map m _ (fun x=>under_slI m _ _ 1 _ .u64 (wI x)) ss
  have h2:∀m,cutOk m (.map vm (smE (knE o)))=true:=fun m=>smE_cut (fun p hp=>by
   obtain⟨y,_,rfl⟩:=List.mem_map.1 hp;simp[PV.under]) vm
  simp only[DetM,List.all_cons,List.all_nil,h2,PP,P1,P2,P3,P4,P5,P6,P7,P8,P9,P10,P11,P12,P13,P14,L1,P15,N1,N2,N3,N4,N5,N6,N7,I1,I2,I3,I4,I5,I6,I7,reduceIte,reduceCtorEq]
  simp only[cutOk,PP,P1,P2,P3,P4,P5,P6,P7,P8,P9,P10,P11,P12,P13,P14,L1,P15,N1,N2,N3,N4,N5,N6,N7,I1,I2,I3,I4,I5,I6,I7,reduceIte,reduceCtorEq,h1,PV.under,egL_und]
 ·refine⟨rfl,fun i s a h1 h2=>?_⟩
  cases i with
  | zero=>simp at h1 h2;subst h1;subst h2;exact hR0
  | succ i=>simp at h1
 ·rintro o N' l s x a K ⟨g,v,v3,vm,ss,hr,rfl⟩ hall hs hx hle hK
  exact det1_p T hc B hr hs hx (by omega) fun g' v' v3' vm' ss' hr'=>hK _ ⟨g',v',v3',vm',ss',hr',rfl⟩
 ·rintro o N' hF hle ⟨g,v,v3,vm,ss,hr,rfl⟩
  have hol:o.length≤4096:=by omega
  have hsl:=hr.len
  unfold DetM
  simp only[PP,P1,P2,P3,P4,P5,P6,P7,P8,P9,P10,P11,P12,P13,P14,L1,P15,N1,N2,N3,N4,N5,N6,N7,I1,I2,I3,I4,I5,I6,I7,reduceIte,reduceCtorEq]
  refine q28 (q13 ?_)
  simp only[PP,P1,P2,P3,P4,P5,P6,P7,P8,P9,P10,P11,P12,P13,P14,L1,P15,N1,N2,N3,N4,N5,N6,N7,I1,I2,I3,I4,I5,I6,I7,reduceIte,reduceCtorEq]
  refine q28 (q13 ?_)
  simp only[PP,P1,P2,P3,P4,P5,P6,P7,P8,P9,P10,P11,P12,P13,P14,L1,P15,N1,N2,N3,N4,N5,N6,N7,I1,I2,I3,I4,I5,I6,I7,reduceIte,reduceCtorEq]
  refine ofF_p T C C.fi ?_
  simp only[PP,P1,P2,P3,P4,P5,P6,P7,P8,P9,P10,P11,P12,P13,P14,L1,P15,N1,N2,N3,N4,N5,N6,N7,I1,I2,I3,I4,I5,I6,I7,reduceIte,reduceCtorEq]
  refine q28 (q13 ?_)
  simp only[PP,P1,P2,P3,P4,P5,P6,P7,P8,P9,P10,P11,P12,P13,P14,L1,P15,N1,N2,N3,N4,N5,N6,N7,I1,I2,I3,I4,I5,I6,I7,reduceIte,reduceCtorEq]
  refine SemW_re (GStep.nilbox 1 3 1 (g:=0) (ver:=2) (cs:=[p64 N.vs,p64 0,slR false true false true .i64 (rowsN (q60 N) (q58 N) o),.nils]) rfl rfl rfl) ?_
  refine SemW_re (GStep.nil 5 1 rfl rfl rfl) ?_
  refine q13 ?_
  simp only[PP,P1,P2,P3,P4,P5,P6,P7,P8,P9,P10,P11,P12,P13,P14,L1,P15,N1,N2,N3,N4,N5,N6,N7,I1,I2,I3,I4,I5,I6,I7,reduceIte,reduceCtorEq]
  refine loop4 (fun(k g' v' g2:Nat)=>k≤o.length) (fun k g' v' g2=>[Zj,Zj,Zj,Zj,.ptr 1 0 0,.ref 7 g2 1 0 k,Zj,Zj,Zj,Zj,Zj,Zj,Zj,slW false true (faW N.fi),Zj,Zj,Zj,Zj,Zj,Zj,Zj,Zj,Zj,Zj,Zj,Zj,Zj,Zj,Zj,Zj,Zj,Zj,Zj,Zj,Zj,Zj,Zj,Zj,Zj,Zj,Zj,Zj,Zj,Zj,Zj,Zj,Zj,Zj,Zj,Zj,Zj,Zj,Zj,Zj,Zj,Zj,Zj,Zj,Zj,Zj,Zj,Zj,Zj,Zj,.ref 2 g 1 0 o.length,p64 o.length,p64 k,Zj,Zj,Zj,Zj,Zj,Zj,Zj,Zj,Zj,Zj,Zj,Zj,Zj,Zj,Zj,Zj,Zj,Zj,Zj])
   (fun k g' v' g2=>[.cells 0 0 (nfC f1 o1 f2 o2 f3 o3 N),.cells 0 v' [p64 N.vs,p64 0,slR false true false true .i64 (rowsN (q60 N) (q58 N) o),.ref 6 g' 1 0 k],.cells g v (setP ss),.cells 0 v3 [.ref 2 g 1 0 o.length],.map vm (smE (knE o)),.cells 0 1 [.map 4],.cells g' 0 (((o.take k).map (finB N)).map PV.bool),.cells g2 0 ((setsB (o.take k)).map (slI false true .i64))])
   (fun k g' v' g2=>o.length-k) 0 0 2 0 (by omega) (by simp only[PW]) rfl ?_
  intro k g' v' g2 hle' ih
  refine q48 (by kernel_rfl) ?_
  simp only[PP,P1,P2,P3,P4,P5,P6,P7,P8,P9,P10,P11,P12,P13,P14,L1,P15,N1,N2,N3,N4,N5,N6,N7,I1,I2,I3,I4,I5,I6,I7,reduceIte,reduceCtorEq]
  refine QIf.intro (fun c=>?_) (fun c=>?_)
  ·have hk':k<o.length:=by omega
   obtain⟨a,ga⟩:=some_of hk'
   obtain⟨sw,gs,hR⟩:=hr.get ga
   have k0:(0:Int)≤k:=by omega
   have wk:=q49 (k:=k) (by show _<1000000000000;omega)
   obtain⟨_,ff2,_⟩:=fa_ok C C.fi
   have hRl:=hR.len
   have b1:k+1≤140737488355328:=by omega
   have b2:k+1≤9223372036854775807:=by omega
   have b3:(k+1)*24≤140737488355328:=by omega
   have b4:k≤(o.take k).length:=by simp;omega
   have b5:k≤(setsB (o.take k)).length:=by unfold setsB;simp;omega
   simp only[PP,P1,P2,P3,P4,P5,P6,P7,P8,P9,P10,P11,P12,P13,P14,L1,P15,N1,N2,N3,N4,N5,N6,N7,I1,I2,I3,I4,I5,I6,I7,reduceIte,reduceCtorEq,c,k0,gs]
   refine intersects_p T (by show _<1000000000000;omega) (by show _<1000000000000;omega) ?_
   rw[fin_inter C hR]
   simp only[PP,P1,P2,P3,P4,P5,P6,P7,P8,P9,P10,P11,P12,P13,P14,L1,P15,N1,N2,N3,N4,N5,N6,N7,I1,I2,I3,I4,I5,I6,I7,reduceIte,reduceCtorEq,b1,b2,b4]
   refine list_p T hR.len ?_
   rw[list_RB hR]
   simp only[PP,P1,P2,P3,P4,P5,P6,P7,P8,P9,P10,P11,P12,P13,P14,L1,P15,N1,N2,N3,N4,N5,N6,N7,I1,I2,I3,I4,I5,I6,I7,reduceIte,reduceCtorEq,b2,b3,b5,wk]
   refine SemW_to (ih (k+1) (g'+1) (v'+1) (g2+1) (by omega) (by omega)) (by simp only[PW]) ?_
   rw[q63 _ _ (by simp;omega),q63 _ _ (by unfold setsB;simp;omega),take_some ga]
   simp[setsB]
  ·obtain rfl:k=o.length:=by omega
   have hfz:frzO (some (PObj.cells g' 0 (((o.take o.length).map (finB N)).map PV.bool))) g' 1 0 o.length=some (slB false true (o.map (finB N))):=by
    rw[List.take_length,frzO_cells (by simp) (underL_bools _ _),q63 _ _ (by simp)]
    simp only[slB,List.length_map]
   have hfz2:frzO (some (PObj.cells g2 0 ((setsB (o.take o.length)).map (slI false true .i64)))) g2 1 0 o.length=some (slR false true false true .i64 (setsB o)):=by
    have hl:(setsB o).length=o.length:=by unfold setsB;simp
    rw[List.take_length,frzO_cells (by simp[hl]) (underL_slRs _ _ _ _ _),q63 _ _ (by simp[hl])]
    simp only[slR,hl]
   simp only[PP,P1,P2,P3,P4,P5,P6,P7,P8,P9,P10,P11,P12,P13,P14,L1,P15,N1,N2,N3,N4,N5,N6,N7,I1,I2,I3,I4,I5,I6,I7,reduceIte,reduceCtorEq,c,hfz,hfz2]
   exact hk4 hc (by omega) (by omega) o hF hle
 ·rintro r o N' hO ⟨g,v,v3,vm,ss,hr,rfl⟩
  unfold DetM
  simp only[PP,P1,P2,P3,P4,P5,P6,P7,P8,P9,P10,P11,P12,P13,P14,L1,P15,N1,N2,N3,N4,N5,N6,N7,I1,I2,I3,I4,I5,I6,I7,reduceIte,reduceCtorEq]
  refine q13 ?_
  simp only[PP,P1,P2,P3,P4,P5,P6,P7,P8,P9,P10,P11,P12,P13,P14,L1,P15,N1,N2,N3,N4,N5,N6,N7,I1,I2,I3,I4,I5,I6,I7,reduceIte,reduceCtorEq]
  exact hk3 hc (by omega) (by omega) hO
end
theorem arg_ints {k:IntKind} {v:AV} {h:H} (hs:ShV (.slice (.int k)) v h):∃(xs:List Int),RepV (wH h) (slI false false k xs) v∧xs.length≤9223372036854775807∧∀x∈xs,k.min≤x∧x≤k.max:=by
 obtain⟨avs,hs,rfl⟩:=hs
 obtain⟨v,xs,rfl,p,q,r⟩:=sh_intsP hs
 exact⟨xs,p,q,r⟩
theorem run_of_C {tab:FuncId→Option AF} {g:FuncId} {args:List AV} {h:H} (hc:C (lim tab) g args h fun v _=>v= .bool true):∃n h',(run tab n).call g args h=some (.bool true,h'):=by
 unfold C at hc
 obtain⟨v,h',he,rfl⟩:=hc
 obtain⟨n,hn⟩:=(lim_call_iff tab).1 he
 exact⟨n,h',hn⟩
theorem shVs2 {A B:Ty} {args:List AV} {h:H} (hs:ShVs [A,B] args h):∃a b,args=[a,b]∧ShV A a h∧ShV B b h:=by
 match args,hs with
 | [a,b],⟨h1,h2,_⟩=>exact⟨a,b,rfl,h1,h2⟩
section
variable {tab:FuncId→Option AF} (T:HasA tab)
include T
end
section
variable {tab:FuncId→Option AF} (T:HasA tab)
include T
end
section
variable {tab:FuncId→Option AF} (T:HasA tab)
include T
end
section
variable {N:NF} {rs0 rs:List (List Bool)} {ch:Bool} {done done':Nat→Nat→Prop} {p q:Nat}
end
section
variable {tab:FuncId→Option AF} (T:HasA tab)
include T
end
section
variable {tab:FuncId→Option AF} (T:HasA tab)
include T
end
end Go.Am.Ar

