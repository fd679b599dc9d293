/- Contract: a slice of trues (slices.Repeat), and what goes with it. -/
import Derived.Test.YtbcdfmecpjbeaaaDoorSubsetConvertsG3
import Derived.Test.YtbcdfmecpjbeaaaDoorPmC
import Derived.Test.YtbcdfmecpjbeaaaDoorSubsetConvertsG0
import Derived.Test.YtbcdfmecpjbeaaaDoorSubsetConvertsG1
import Derived.Test.YtbcdfmecpjbeaaaDoorSubsetConvertsG2
set_option linter.unusedVariables false
set_option linter.unusedSimpArgs false
set_option maxRecDepth 10000
namespace Go.Am.Ar
open Go.Am.PV renaming junk→Zj
open Go.Am renaming pchk→P1,pold→P2,PKNo→P3,ppack→P4,PObj.under→P5,pput→P6,ptset→P7,ptget→P8,pev→P9,ofAV→P10,ofAV1→P11,ppad→P12,pfill→P13,prepl→P14,AO.effect→P15
open List renaming replicate→L1
open Nat renaming reduceAdd→N1,reduceSub→N2,reduceMul→N3,reduceLT→N4,reduceLeDiff→N5,reduceEqDiff→N6,reduceBEq→N7
open Int renaming reduceToNat→I1,reduceLT→I2,reduceLE→I3,reduceEq→I4,reduceAdd→I5,reduceSub→I6,reduceNeg→I7
section
variable {tab:FuncId→Option AF} (T:HasA tab)
include T
end
section
variable {tab:FuncId→Option AF} (T:HasA tab)
include T
end
theorem sh_boolsP {cs:List AV} {h:H} (hs:Sh (.slice .bool) cs h):∃v,∃xs:List Bool,cs=[v]∧RepV (wH h) (slB false false xs) v∧xs.length≤9223372036854775807:=by
 obtain⟨v,cells,rfl,h1,h2,h3⟩:=sh_sl rfl hs
 have:∀cells:List AV,(∀c∈cells,Sh .bool [c] h)→∃xs:List Bool,cells=xs.map AV.bool:=by
  intro cells
  induction cells with
  | nil=>intro _;exact⟨[],rfl⟩
  | cons c cells ih=>
   intro hc
   obtain⟨xs,e⟩:=ih (fun c' h'=>hc c' (List.mem_cons_of_mem _ h'))
   obtain⟨b,e1⟩:=hc c (by simp)
   cases e1
   exact⟨b::xs,by simp[e]⟩
 obtain⟨xs,rfl⟩:=this cells h2
 refine⟨v,xs,rfl,?_,by simpa using h1⟩
 have:=h3 (xs.map PV.bool) ⟨by simp,fun i y z p q=>by
  rw[List.getElem?_map]at p q
  cases hx:xs[i]? with
  | none=>rw[hx]at p;cases p
  | some x=>rw[hx]at p q;cases p;cases q;exact .bool x⟩
 simpa using this
section
variable {tab:FuncId→Option AF} (T:HasA tab)
include T
end
section
variable {tab:FuncId→Option AF} (T:HasA tab)
include T
end
section
variable {tab:FuncId→Option AF} (T:HasA tab)
include T
end
section
variable {tab:FuncId→Option AF} (T:HasA tab)
include T
end
section
variable {tab:FuncId→Option AF} (T:HasA tab)
include T
end
section
variable {tab:FuncId→Option AF} (T:HasA tab)
include T
end
section
variable {tab:FuncId→Option AF} (T:HasA tab)
include T
end
theorem wk_two {a b x:PV} (h:PvWk a b):PvWk (.tuple [a,x]) (.tuple [b,x]):=by
 refine PvWk.tuple rfl fun i y z h1 h2=>?_
 match i with
 | 0=>cases h1;cases h2;exact h
 | 1=>cases h1;cases h2;exact PvWk.refl _
 | i+2=>cases h1
section
variable {tab:FuncId→Option AF} (T:HasA tab)
include T
end
def zeroN:NF:=⟨0,0,[],[],[]⟩
theorem wk_zeroN:PvWk (.agg [p64 0,p64 0,.nils,.nils,.nils]) (.agg (nfC false true false true false true zeroN)):=by
 refine PvWk.agg rfl fun i y z h1 h2=>?_
 match i with
 | 0=>cases h1;cases h2;exact PvWk.refl _
 | 1=>cases h1;cases h2;exact PvWk.refl _
 | 2=>cases h1;cases h2;exact PvWk.nils _ _ _
 | 3=>cases h1;cases h2;exact PvWk.nils _ _ _
 | 4=>cases h1;cases h2;exact PvWk.nils _ _ _
 | i+5=>cases h1
section
variable {tab:FuncId→Option AF} (T:HasA tab)
include T
end
def RenA (D R:DF) (e:Int):Prop:=(checkD D≠0∧R=zeroD∧e=checkD D)∨(e=0∧∃o,OrdD D o∧R=renD D o)
def TonA (D:DF) (N:NF) (e:Int):Prop:=(checkD D≠0∧N=zeroN∧e=checkD D)∨(OkD D∧BigD D∧N=zeroN∧e=4)∨(OkD D∧¬BigD D∧N=toN D∧e=0)
theorem RenA.eq {D R R':DF} {e e':Int} (h:RenA D R e) (h':RenA D R' e'):R=R'∧e=e':=by
 rcases h with⟨h1,h2,h3⟩ | ⟨h1,o,h2,h3⟩<;>rcases h' with⟨g1,g2,g3⟩ | ⟨g1,o',g2,g3⟩
 ·subst_vars;exact⟨rfl,rfl⟩
 ·exact absurd (okD_iff.2 g2.C) h1
 ·exact absurd (okD_iff.2 h2.C) g1
 ·obtain rfl:=h2.F.eq g2.F
  exact⟨by rw[h3,g3],by rw[h1,g1]⟩
theorem TonA.eq {D:DF} {N N':NF} {e e':Int} (h:TonA D N e) (h':TonA D N' e'):N=N'∧e=e':=by
 rcases h with⟨h1,h2,h3⟩ | ⟨h1,h2,h3,h4⟩ | ⟨h1,h2,h3,h4⟩<;>rcases h' with⟨g1,g2,g3⟩ | ⟨g1,g2,g3,g4⟩ | ⟨g1,g2,g3,g4⟩<;>first
  | (subst_vars;exact⟨rfl,rfl⟩)
  | exact absurd (okD_iff.2 g1) h1
  | exact absurd (okD_iff.2 h1) g1
  | exact absurd h2 g2
  | exact absurd g2 h2
theorem zeroD_bn:BnD zeroD:=⟨by show 0<1000000000000;omega,fun r hr=>(by cases hr),by show 0<1000000000000;omega⟩
theorem RenA.bn {D R:DF} {e:Int} (h:RenA D R e):BnD R:=by
 rcases h with⟨_,rfl,_⟩ | ⟨_,o,h,rfl⟩
 ·exact zeroD_bn
 ·exact h.bn
theorem let64 {D:DF} (C:OkD D):q8 D≤64:=by
 have h6:=C.v6;have h0:=C.v0
 show 2^D.vs.toNat≤2^6
 exact Nat.pow_le_pow_right (by decide) (by omega)
theorem egsK_mem {D:DF} {k:Nat} {e:Eg} (h:e∈egsK D k):∃s x,s<k∧x<q8 D∧e=egD D s x:=by
 unfold egsK at h
 obtain⟨s,h1,h2⟩:=List.mem_flatMap.1 h
 obtain⟨x,h3,h4⟩:=List.mem_map.1 h2
 exact⟨s,x,List.mem_range.1 h1,List.mem_range.1 h3,h4.symm⟩
theorem toN_bn {D:DF} (C:OkD D):BnN (toN D):=by
 have n1:=C.n1
 have h64:=let64 C
 refine⟨by show 1<1000000000000;omega,?_,?_,fun e he=>?_⟩
 ·have:=finK_len D D.nx.length
  show(finK D D.nx.length).length<1000000000000;omega
 ·show(egsK D D.nx.length).length<1000000000000
  rw[egsK_len]
  have:=Nat.mul_le_mul n1 h64
  omega
 ·obtain⟨s,x,h1,h2,rfl⟩:=egsK_mem he
  refine⟨⟨?_,?_⟩,?_,?_⟩<;>simp only[egD]<;>omega
theorem toN_fit {D:DF} (C:OkD D):∀e∈(toN D).es,e.fit:=by
 intro e he
 have n1:=C.n1
 have h64:=let64 C
 obtain⟨s,x,h1,h2,rfl⟩:=egsK_mem he
 have hd:=(C.delta h1 h2).choose_spec.2.2.2
 unfold Eg.fit egD
 simp only
 refine⟨⟨by omega,by omega⟩,⟨by omega,by omega⟩,⟨by omega,by omega⟩,by omega,by omega⟩
theorem TonA.bn {D:DF} {N:NF} {e:Int} (h:TonA D N e):BnN N∧∀x∈N.es,x.fit:=by
 have z:BnN zeroN∧∀x∈zeroN.es,x.fit:=⟨⟨by show 0<1000000000000;omega,by show 0<1000000000000;omega,by show 0<1000000000000;omega,fun x hx=>(by cases hx)⟩,fun x hx=>(by cases hx)⟩
 rcases h with⟨_,rfl,_⟩ | ⟨_,_,rfl,_⟩ | ⟨C,_,rfl,_⟩
 ·exact z
 ·exact z
 ·exact⟨toN_bn C,toN_fit C⟩
theorem wk_zeroD:PvWk (.agg [p64 0,p64 0,.nils,.nils]) (.agg (dfC false true false true false true zeroD)):=by
 refine PvWk.agg rfl fun i y z h1 h2=>?_
 match i with
 | 0=>cases h1;cases h2;exact PvWk.refl _
 | 1=>cases h1;cases h2;exact PvWk.refl _
 | 2=>cases h1;cases h2;exact PvWk.nils _ _ _
 | 3=>cases h1;cases h2;exact PvWk.nils _ _ _
 | i+4=>cases h1
theorem wk_start (N:NF):PvWk (.agg (nfC true true false true false true N)) (.agg (nfC false true false true false true N)):=by
 refine PvWk.agg rfl fun i y z h1 h2=>?_
 match i with
 | 0=>cases h1;cases h2;exact PvWk.refl _
 | 1=>cases h1;cases h2;exact PvWk.refl _
 | 2=>cases h1;cases h2;exact PvWk.sl _ _ _ _
 | 3=>cases h1;cases h2;exact PvWk.refl _
 | 4=>cases h1;cases h2;exact PvWk.refl _
 | i+5=>cases h1
section
variable {tab:FuncId→Option AF} (T:HasA tab)
include T
theorem renumberZ_p {M:Mem} {K:PV→Mem→Prop} {f1 o1 f2 o2 f3 o3:Bool} {D:DF} (B:BnD D) (hn:D.nx.length≤99) (hk:∀R e,RenA D R e→K (.tuple [.agg (dfC false true false true false true R),p64 e]) M):
  SemC tab 39 [.agg (dfC f1 o1 f2 o2 f3 o3 D)] M K:=
 SemC_wk (renumber_p T B hn (fun h=>⟨_,wk_two wk_zeroD,hk zeroD _ (.inl ⟨h,rfl,rfl⟩)⟩) fun C o F=>⟨_,PvWk.refl _,hk _ 0 (.inr ⟨rfl,o,.of C F,rfl⟩)⟩)
theorem rrenumberZ_p {M:Mem} {K:PV→Mem→Prop} {f1 o1 f2 o2 f3 o3:Bool} {D:DF} (B:BnD D) (hn:D.nx.length≤99) (hk:∀R e,RenA D R e→K (.tuple [.agg (dfC false true false true false true R),p64 e]) M):
  SemC tab 40 [.agg (dfC f1 o1 f2 o2 f3 o3 D)] M K:=
 SemC_wk (rrenumber_p T B hn (fun h=>⟨_,wk_two wk_zeroD,hk zeroD _ (.inl ⟨h,rfl,rfl⟩)⟩) fun C o F=>⟨_,PvWk.refl _,hk _ 0 (.inr ⟨rfl,o,.of C F,rfl⟩)⟩)
theorem tonfaZ_p {M:Mem} {K:PV→Mem→Prop} {f1 o1 f2 o2 f3 o3:Bool} {D:DF} (B:BnD D) (hn:D.nx.length≤99) (hk:∀N e,TonA D N e→K (.tuple [.agg (nfC false true false true false true N),p64 e]) M):
  SemC tab 42 [.agg (dfC f1 o1 f2 o2 f3 o3 D)] M K:=
 SemC_wk (tonfa_p T B hn (fun h=>⟨_,wk_two wk_zeroN,hk zeroN _ (.inl ⟨h,rfl,rfl⟩)⟩) (fun C h=>⟨_,wk_two wk_zeroN,hk zeroN _ (.inr (.inl ⟨C,h,rfl,rfl⟩))⟩) fun C h=>⟨_,wk_two (wk_start _),hk _ 0 (.inr (.inr ⟨C,h,rfl,rfl⟩))⟩)
theorem rtonfaZ_p {M:Mem} {K:PV→Mem→Prop} {f1 o1 f2 o2 f3 o3:Bool} {D:DF} (B:BnD D) (hn:D.nx.length≤99) (hk:∀N e,TonA D N e→K (.tuple [.agg (nfC false true false true false true N),p64 e]) M):
  SemC tab 41 [.agg (dfC f1 o1 f2 o2 f3 o3 D)] M K:=
 SemC_wk (rtonfa_p T B hn (fun h=>⟨_,wk_two wk_zeroN,hk zeroN _ (.inl ⟨h,rfl,rfl⟩)⟩) (fun C h=>⟨_,wk_two wk_zeroN,hk zeroN _ (.inr (.inl ⟨C,h,rfl,rfl⟩))⟩) fun C h=>⟨_,wk_two (wk_start _),hk _ 0 (.inr (.inr ⟨C,h,rfl,rfl⟩))⟩)
end
theorem pidx_slN (sz:Nat) (fl:Bool) (b o n:Nat) (kd:IntKind) (j:Int) (K:AV→Prop):PIdx sz (.slice fl sz b o n) (.int kd j) K=((True∧0≤j∧j<n)∧K (.ptr b (o+j.toNat*sz))):=by
 unfold PIdx
 rw[q13,PInt_int]
 simp
theorem ov_slN {w:PWd} {f:Bool} {sz:Nat} {cs:List PV} {n:Nat} {v:AV} (hr:RepV w (.sl f true sz n cs) v):(v= .nilslice∧n=0)∨∃fl b off ver bcs,v= .slice fl sz b off n∧w.imm b=some (.cells ver true bcs)∧w.n0≤b∧off+cs.length≤bcs.length∧∀(i:Nat),i<cs.length→∃y z,cs[i]? =some y∧bcs[off+i]? =some z∧RepV w y z:=by
 cases hr with
 | slN=>exact .inl ⟨rfl,rfl⟩
 | sl h1 h2 h3 h4 h5 h7 h6=>
  obtain⟨h5',rfl⟩:=h5 rfl
  refine .inr ⟨_,_,_,_,_,rfl,h1,h5',h2,fun i hi=>?_⟩
  have hi2:_+i<_:=Nat.lt_of_lt_of_le (Nat.add_lt_add_left hi _) h2
  exact⟨cs[i],_,List.getElem?_eq_getElem hi,List.getElem?_eq_getElem hi2,h6 i _ _ (List.getElem?_eq_getElem hi) (List.getElem?_eq_getElem hi2)⟩
def ShA (z z':AV):Prop:=z'=z∨(∃k n n',z= .int k n∧z'= .int k n')∨∃b b',z= .bool b∧z'= .bool b'
structure Ov3 (w:PWd) (h h':H):Prop where
 next:h.next≤h'.next
 keep:∀x,x<h.next→x<w.n0∨w.imm x=none→h'.get x=h.get x
 cells:∀x ver bcs,w.imm x=some (.cells ver true bcs)→w.n0≤x→∃ver' bcs',h'.get x=some (.cells ver' true bcs')∧bcs'.length=bcs.length∧∀(i:Nat) (z:AV),bcs[i]? =some z→∃z',bcs'[i]? =some z'∧ShA z z'
theorem Ov3.refl {w:PWd} {h:H} (hw:∀b o,w.imm b=some o→h.get b=some o):Ov3 w h h:=
 ⟨Nat.le_refl _,fun _ _ _=>rfl,fun x ver bcs hx _=>⟨ver,bcs,hw x _ hx,rfl,fun i z hz=>⟨z,hz,.inl rfl⟩⟩⟩
theorem Ov3.alloc {w:PWd} {h h':H} (hw:∀b o,w.imm b=some o→b<h.next) (hv:Ov3 w h h') (o:AObj):Ov3 w h (h'.alloc o):=
 ⟨Nat.le_trans hv.next (by simp),fun x hx hy=>by rw[H.get_alloc,if_neg (by have:=hv.next;omega)];exact hv.keep x hx hy,fun x ver bcs hx hn=>by
  obtain⟨v2,b2,q1,q2,q3⟩:=hv.cells x ver bcs hx hn
  exact⟨v2,b2,by rw[H.get_alloc,if_neg (by have:=hv.next;have:=hw x _ hx;omega)];exact q1,q2,q3⟩⟩
theorem Ov3.two {w:PWd} {h h':H} (o:Ov3 w h h'):Ov2 w h h':=⟨o.next,o.keep,fun x ver bcs h1 h2=>by
 obtain⟨v,b,q1,q2,q3⟩:=o.cells x ver bcs h1 h2
 refine⟨v,b,q1,q2,fun i z hz hn hb=>?_⟩
 obtain⟨z',g1,g2⟩:=q3 i z hz
 rcases g2 with rfl | ⟨k,n,_,rfl,_⟩ | ⟨b,_,rfl,_⟩
 ·exact g1
 ·exact absurd rfl (hn k n)
 ·exact absurd rfl (hb b)⟩
theorem ov3_putN {w:PWd} {h h':H} (hw:∀b o,w.imm b=some o→b<h.next) (hv:Ov3 w h h') {b ver:Nat} {bcs:List AV} (e1:w.imm b=some (.cells ver true bcs)) (e2:w.n0≤b) {p:Nat} {xs:List AV} (hp:p+xs.length≤bcs.length) (hx:xs.all AV.one=true) (hz:∀i,i<xs.length→∃z x,bcs[p+i]? =some z∧xs[i]? =some x∧ShA z x):
  ∃h2,putCells h' b p xs=some h2∧Ov3 w h h2∧Kp w h' h2:=by
 obtain⟨v2,b2,q1,q2,q3⟩:=hv.cells b ver bcs e1 e2
 have hle:p+xs.length≤b2.length:=by omega
 have hlen:(over b2 p xs).length=b2.length:=by rw[over_get _ _ _ hle];simp;omega
 refine⟨h'.set b (.cells (v2+1) true (over b2 p xs)),?_,⟨?_,?_,?_⟩,⟨Nat.le_refl _,?_⟩⟩
 ·unfold putCells
  rw[q1]
  simp only
  rw[if_pos (by simp only[Bool.and_eq_true,decide_eq_true_eq];exact⟨hle,hx⟩)]
 ·exact hv.next
 ·intro y hy ho
  have:y≠b:=by
   rintro rfl
   rcases ho with ho | ho
   ·omega
   ·rw[e1]at ho;cases ho
  rw[H.get_set_ne this];exact hv.keep y hy ho
 ·intro y ver' bcs' hy hn
  by_cases e:y=b
  ·subst e
   rw[e1]at hy;cases hy
   refine⟨_,_,H.get_set_same q1,by rw[hlen,q2],fun i z hi=>?_⟩
   rw[over_get _ _ _ hle]
   by_cases hip:i<p∨p+xs.length≤i
   ·obtain⟨z',g1,g2⟩:=q3 i z hi
    refine⟨z',?_,g2⟩
    rcases hip with q | q
    ·rw[List.append_assoc,List.getElem?_append_left (by simp;omega),List.getElem?_take,if_pos q];exact g1
    ·rw[List.getElem?_append_right (by simp;omega),List.getElem?_drop]
     simp only[List.length_append,List.length_take]
     rw[show p+xs.length+(i-(min p b2.length+xs.length))=i by omega];exact g1
   ·rw[not_or,Nat.not_lt,Nat.not_le]at hip
    obtain⟨z0,x,g1,g2,g3⟩:=hz (i-p) (by omega)
    rw[show p+(i-p)=i by omega,hi]at g1
    cases g1
    refine⟨x,?_,g3⟩
    rw[List.getElem?_append_left (by simp;omega),List.getElem?_append_right (by simp;omega),List.length_take,show min p b2.length=p by omega];exact g2
  ·obtain⟨v3,b3,r1,r2,r3⟩:=hv.cells y ver' bcs' hy hn
   exact⟨v3,b3,by rw[H.get_set_ne e];exact r1,r2,r3⟩
 ·intro y hy ho
  have:y≠b:=by
   rintro rfl
   rcases ho with ho | ho
   ·omega
   ·rw[e1]at ho;cases ho
  exact H.get_set_ne this
section
variable {tab:FuncId→Option AF} (T:HasA tab)
include T
theorem overInts_3 {w:PWd} {h h1:H} (hw:∀b o,w.imm b=some o→b<h.next) {f:Bool} {xs:List Int} {v:AV} (hr:RepV w (slI f true .i64 xs) v) (hm:xs.length<big) (hi:Ov3 w h h1) {Q:AV→H→Prop} (hq:∀h2,Ov3 w h h2→Kp w h1 h2→Q (.tuple []) h2):
  C (lim tab) 72 [v] h1 Q:=by
 have hcs:cS 12 [0,2]=[1,3,4,5,6,7,8,9,10,11]:=rfl
 rw[C_fn T.h72]
 simp only[af72,W_skip,W_ret,q55,WD_nil,WD_none,KPutD_eq,q62,true_and,AO.effect,W_exit,W_region,W_seq,W_block,W_cond,q30,q25,q51,q47,q50,q48,q49,q16,q17,q18,q42,q28,q61,KSeq_eq,q36,WL_eq,WO_nil,WO_none,WO_some,KPut_eq,KCall_eq,KRes_eq,KFalse,WS_call,WS_move,WS_pick,WS_alloc,WS_box,WS_build,q15,WS_load,q37,WS_store,q29,WS_bin,WS_eqB,WS_isNil,q45,WS_un,q46,q63,q43,q21,WS_slice,q23,WS_field,q64,q22,q14,WS_index,q44,WS_len,q65,WS_max,PPtr_ptr,PInt_int,q52,q38,PAgg_agg,q24,q13,q39,PLen_nil,q40,q41,put,tset,tget,ev,bnd,scrub,padTo,q31,ares,q59,abin_add,abin_sub,abin_mul,abin_eql,abin_neq,abin_lss,abin_leq,abin_gtr,abin_geq,aun_not,maxV_two,List.length_cons,List.length_nil,List.replicate,List.cons_append,List.nil_append,List.append_nil,List.map_cons,List.map_nil,Nat.reduceAdd,Nat.reduceSub,ite_true,ite_false,if_true,if_false,Bool.false_eq_true,reduceIte,decide_true,decide_false,Bool.not_true,Bool.not_false,beq_self_eq_true,List.length_map,ne_eq,not_true_eq_false,not_false_eq_true]
 rw[W_scrub]
 simp only[hcs,scrub,tset]
 rcases ov_sl hr with⟨rfl,hx⟩ | ⟨fl,b,off,ver,bcs,rfl,e1,e2,e3,e4⟩
 ·rw[W_round]
  have hlt:¬(0:Int)<0:=by omega
  simp only[W_skip,W_ret,q55,WD_nil,WD_none,KPutD_eq,q62,true_and,AO.effect,W_exit,W_region,W_seq,W_block,W_cond,q30,q25,q51,q47,q50,q48,q49,q16,q17,q18,q42,q28,q61,KSeq_eq,q36,WL_eq,WO_nil,WO_none,WO_some,KPut_eq,KCall_eq,KRes_eq,KFalse,WS_call,WS_move,WS_pick,WS_alloc,WS_box,WS_build,q15,WS_load,q37,WS_store,q29,WS_bin,WS_eqB,WS_isNil,q45,WS_un,q46,q63,q43,q21,WS_slice,q23,WS_field,q64,q22,q14,WS_index,q44,WS_len,q65,WS_max,PPtr_ptr,PInt_int,q52,q38,PAgg_agg,q24,q13,q39,PLen_nil,q40,q41,put,tset,tget,ev,bnd,scrub,padTo,q31,ares,q59,abin_add,abin_sub,abin_mul,abin_eql,abin_neq,abin_lss,abin_leq,abin_gtr,abin_geq,aun_not,maxV_two,List.length_cons,List.length_nil,List.replicate,List.cons_append,List.nil_append,List.append_nil,List.map_cons,List.map_nil,Nat.reduceAdd,Nat.reduceSub,ite_true,ite_false,if_true,if_false,Bool.false_eq_true,reduceIte,decide_true,decide_false,Bool.not_true,Bool.not_false,beq_self_eq_true,List.length_map,ne_eq,not_true_eq_false,not_false_eq_true,hlt]
  exact hq h1 hi (.refl w h1)
 ·refine(?_:∀(m k:Nat) (h':H),k+m=xs.length→Ov3 w h h'→Kp w h1 h'→W (lim tab) (.loop ?sc ?x) [.slice fl 1 b off xs.length,.junk,i64 k,.junk,.junk,.junk,.junk,.junk,.junk,.junk,.junk,.junk] h' ?q1 ?q2 ?q3) xs.length 0 h1 (by simp) hi (.refl w h1)
  intro m
  induction m with
  | zero=>
   intro k h' hk hv hkp
   rw[W_round]
   have hlt:¬(k:Int)<xs.length:=by omega
   simp only[W_skip,W_ret,q55,WD_nil,WD_none,KPutD_eq,q62,true_and,AO.effect,W_exit,W_region,W_seq,W_block,W_cond,q30,q25,q51,q47,q50,q48,q49,q16,q17,q18,q42,q28,q61,KSeq_eq,q36,WL_eq,WO_nil,WO_none,WO_some,KPut_eq,KCall_eq,KRes_eq,KFalse,WS_call,WS_move,WS_pick,WS_alloc,WS_box,WS_build,q15,WS_load,q37,WS_store,q29,WS_bin,WS_eqB,WS_isNil,q45,WS_un,q46,q63,q43,q21,WS_slice,q23,WS_field,q64,q22,q14,WS_index,q44,WS_len,q65,WS_max,PPtr_ptr,PInt_int,q52,q38,PAgg_agg,q24,q13,q39,PLen_nil,q40,q41,put,tset,tget,ev,bnd,scrub,padTo,q31,ares,q59,abin_add,abin_sub,abin_mul,abin_eql,abin_neq,abin_lss,abin_leq,abin_gtr,abin_geq,aun_not,maxV_two,List.length_cons,List.length_nil,List.replicate,List.cons_append,List.nil_append,List.append_nil,List.map_cons,List.map_nil,Nat.reduceAdd,Nat.reduceSub,ite_true,ite_false,if_true,if_false,Bool.false_eq_true,reduceIte,decide_true,decide_false,Bool.not_true,Bool.not_false,beq_self_eq_true,List.length_map,ne_eq,not_true_eq_false,not_false_eq_true,hlt]
   exact hq h' hv hkp
  | succ m ih=>
   intro k h' hk hv hkp
   rw[W_round]
   have hlt:(k:Int)<xs.length:=by omega
   have h0:(0:Int)≤k:=by omega
   have hwr:=q32 (k:=k) (by omega)
   obtain⟨y,z,hy,hz,hrz⟩:=e4 k (by simp;omega)
   have hzi:∃n,z= .int .i64 n:=by
    rw[List.getElem?_map]at hy
    obtain⟨x,hx⟩:=some_of (xs:=xs) (k:=k) (by omega)
    rw[hx]at hy
    cases hy
    exact⟨x,rep_int hrz⟩
   obtain⟨nz,rfl⟩:=hzi
   obtain⟨h2,hp,hv2,hkp2⟩:=ov3_putN hw hv e1 e2 (p:=off+k) (xs:=[i64 (-77)]) (q26 hz) rfl (fun i hi=>by
    have:i=0:=by simpa using hi
    subst this
    exact⟨_,_,hz,rfl,.inr (.inl ⟨_,_,_,rfl,rfl⟩)⟩)
   simp only[W_skip,W_ret,q55,WD_nil,WD_none,KPutD_eq,q62,true_and,AO.effect,W_exit,W_region,W_seq,W_block,W_cond,q30,q25,q51,q47,q50,q48,q49,q16,q17,q18,q42,q28,q61,KSeq_eq,q36,WL_eq,WO_nil,WO_none,WO_some,KPut_eq,KCall_eq,KRes_eq,KFalse,WS_call,WS_move,WS_pick,WS_alloc,WS_box,WS_build,q15,WS_load,q37,WS_store,q29,WS_bin,WS_eqB,WS_isNil,q45,WS_un,q46,q63,q43,q21,WS_slice,q23,WS_field,q64,q22,q14,WS_index,q44,WS_len,q65,WS_max,PPtr_ptr,PInt_int,q52,q38,PAgg_agg,q24,q13,q39,PLen_nil,q40,q41,put,tset,tget,ev,bnd,scrub,padTo,q31,ares,q59,abin_add,abin_sub,abin_mul,abin_eql,abin_neq,abin_lss,abin_leq,abin_gtr,abin_geq,aun_not,maxV_two,List.length_cons,List.length_nil,List.replicate,List.cons_append,List.nil_append,List.append_nil,List.map_cons,List.map_nil,Nat.reduceAdd,Nat.reduceSub,ite_true,ite_false,if_true,if_false,Bool.false_eq_true,reduceIte,decide_true,decide_false,Bool.not_true,Bool.not_false,beq_self_eq_true,List.length_map,ne_eq,not_true_eq_false,not_false_eq_true,pidx_slice,hlt,h0,true_and,and_self,Int.toNat_natCast,Nat.mul_one,AV.cells,hp,hwr]
   rw[W_scrub]
   simp only[hcs,scrub,tset]
   exact ih (k+1) h2 (by omega) hv2 (hkp.trans hkp2)
theorem overEdges_3 {w:PWd} {h h1:H} (hw:∀b o,w.imm b=some o→b<h.next) {f:Bool} {es:List Eg} {v:AV} (hr:RepV w (slE f true es) v) (hm:es.length<big) (hi:Ov3 w h h1) {Q:AV→H→Prop} (hq:∀h2,Ov3 w h h2→Kp w h1 h2→Q (.tuple []) h2):
  C (lim tab) 86 [v] h1 Q:=by
 have hcs:cS 13 [0,2]=[1,3,4,5,6,7,8,9,10,11,12]:=rfl
 rw[C_fn T.h86]
 simp only[af86,W_skip,W_ret,q55,WD_nil,WD_none,KPutD_eq,q62,true_and,AO.effect,W_exit,W_region,W_seq,W_block,W_cond,q30,q25,q51,q47,q50,q48,q49,q16,q17,q18,q42,q28,q61,KSeq_eq,q36,WL_eq,WO_nil,WO_none,WO_some,KPut_eq,KCall_eq,KRes_eq,KFalse,WS_call,WS_move,WS_pick,WS_alloc,WS_box,WS_build,q15,WS_load,q37,WS_store,q29,WS_bin,WS_eqB,WS_isNil,q45,WS_un,q46,q63,q43,q21,WS_slice,q23,WS_field,q64,q22,q14,WS_index,q44,WS_len,q65,WS_max,PPtr_ptr,PInt_int,q52,q38,PAgg_agg,q24,q13,q39,PLen_nil,q40,q41,put,tset,tget,ev,bnd,scrub,padTo,q31,ares,q59,abin_add,abin_sub,abin_mul,abin_eql,abin_neq,abin_lss,abin_leq,abin_gtr,abin_geq,aun_not,maxV_two,List.length_cons,List.length_nil,List.replicate,List.cons_append,List.nil_append,List.append_nil,List.map_cons,List.map_nil,Nat.reduceAdd,Nat.reduceSub,ite_true,ite_false,if_true,if_false,Bool.false_eq_true,reduceIte,decide_true,decide_false,Bool.not_true,Bool.not_false,beq_self_eq_true,List.length_map,ne_eq,not_true_eq_false,not_false_eq_true]
 rw[W_scrub]
 simp only[hcs,scrub,tset]
 rcases ov_slN hr with⟨rfl,hx⟩ | ⟨fl,b,off,ver,bcs,rfl,e1,e2,e3,e4⟩
 ·rw[W_round]
  have hlt:¬(0:Int)<0:=by omega
  simp only[W_skip,W_ret,q55,WD_nil,WD_none,KPutD_eq,q62,true_and,AO.effect,W_exit,W_region,W_seq,W_block,W_cond,q30,q25,q51,q47,q50,q48,q49,q16,q17,q18,q42,q28,q61,KSeq_eq,q36,WL_eq,WO_nil,WO_none,WO_some,KPut_eq,KCall_eq,KRes_eq,KFalse,WS_call,WS_move,WS_pick,WS_alloc,WS_box,WS_build,q15,WS_load,q37,WS_store,q29,WS_bin,WS_eqB,WS_isNil,q45,WS_un,q46,q63,q43,q21,WS_slice,q23,WS_field,q64,q22,q14,WS_index,q44,WS_len,q65,WS_max,PPtr_ptr,PInt_int,q52,q38,PAgg_agg,q24,q13,q39,PLen_nil,q40,q41,put,tset,tget,ev,bnd,scrub,padTo,q31,ares,q59,abin_add,abin_sub,abin_mul,abin_eql,abin_neq,abin_lss,abin_leq,abin_gtr,abin_geq,aun_not,maxV_two,List.length_cons,List.length_nil,List.replicate,List.cons_append,List.nil_append,List.append_nil,List.map_cons,List.map_nil,Nat.reduceAdd,Nat.reduceSub,ite_true,ite_false,if_true,if_false,Bool.false_eq_true,reduceIte,decide_true,decide_false,Bool.not_true,Bool.not_false,beq_self_eq_true,List.length_map,ne_eq,not_true_eq_false,not_false_eq_true,hlt]
  exact hq h1 hi (.refl w h1)
 ·refine(?_:∀(m k:Nat) (h':H),k+m=es.length→Ov3 w h h'→Kp w h1 h'→W (lim tab) (.loop ?sc ?x) [.slice fl 4 b off es.length,.junk,i64 k,.junk,.junk,.junk,.junk,.junk,.junk,.junk,.junk,.junk,.junk] h' ?q1 ?q2 ?q3) es.length 0 h1 (by simp) hi (.refl w h1)
  intro m
  induction m with
  | zero=>
   intro k h' hk hv hkp
   rw[W_round]
   have hlt:¬(k:Int)<es.length:=by omega
   simp only[W_skip,W_ret,q55,WD_nil,WD_none,KPutD_eq,q62,true_and,AO.effect,W_exit,W_region,W_seq,W_block,W_cond,q30,q25,q51,q47,q50,q48,q49,q16,q17,q18,q42,q28,q61,KSeq_eq,q36,WL_eq,WO_nil,WO_none,WO_some,KPut_eq,KCall_eq,KRes_eq,KFalse,WS_call,WS_move,WS_pick,WS_alloc,WS_box,WS_build,q15,WS_load,q37,WS_store,q29,WS_bin,WS_eqB,WS_isNil,q45,WS_un,q46,q63,q43,q21,WS_slice,q23,WS_field,q64,q22,q14,WS_index,q44,WS_len,q65,WS_max,PPtr_ptr,PInt_int,q52,q38,PAgg_agg,q24,q13,q39,PLen_nil,q40,q41,put,tset,tget,ev,bnd,scrub,padTo,q31,ares,q59,abin_add,abin_sub,abin_mul,abin_eql,abin_neq,abin_lss,abin_leq,abin_gtr,abin_geq,aun_not,maxV_two,List.length_cons,List.length_nil,List.replicate,List.cons_append,List.nil_append,List.append_nil,List.map_cons,List.map_nil,Nat.reduceAdd,Nat.reduceSub,ite_true,ite_false,if_true,if_false,Bool.false_eq_true,reduceIte,decide_true,decide_false,Bool.not_true,Bool.not_false,beq_self_eq_true,List.length_map,ne_eq,not_true_eq_false,not_false_eq_true,hlt]
   exact hq h' hv hkp
  | succ m ih=>
   intro k h' hk hv hkp
   rw[W_round]
   have hlt:(k:Int)<es.length:=by omega
   have h0:(0:Int)≤k:=by omega
   have hwr:=q32 (k:=k) (by omega)
   have hcl:(egL es).length=es.length*4:=egL_len es
   obtain⟨e,ge⟩:=some_of (xs:=es) (k:=k) (by omega)
   have h4:=psub_egL ge
   have hint:∀i,i<4→∃z x,bcs[off+k*4+i]? =some z∧[AV.int .i64 (-7),.int .i64 0,.int .u8 0,.int .u8 0][i]? =some x∧ShA z x:=fun i hi=>by
    obtain⟨y,z,hy,hz,hrz⟩:=e4 (k*4+i) (by rw[hcl];omega)
    have:(egC e)[i]? =some y:=by
     rw[←h4];unfold psub
     rw[List.getElem?_take,if_pos hi,List.getElem?_drop];exact hy
    have hz':bcs[off+k*4+i]? =some z:=by rw[Nat.add_assoc];exact hz
    have hi4:i=0∨i=1∨i=2∨i=3:=by omega
    rcases hi4 with rfl | rfl | rfl | rfl<;>(simp only[egC,List.getElem?_cons_zero,List.getElem?_cons_succ,Option.some.injEq]at this;subst this;exact⟨_,_,hz',rfl,.inr (.inl ⟨_,_,_,rep_int hrz,rfl⟩)⟩)
   obtain⟨h2,hp,hv2,hkp2⟩:=ov3_putN hw hv e1 e2 (p:=off+k*4) (xs:=[.int .i64 (-7),.int .i64 0,.int .u8 0,.int .u8 0]) (by have:=e3;rw[hcl]at this;simp;omega) rfl (fun i hi=>hint i (by simpa using hi))
   have hfa:∀a:List AV,fillA a [AV.int .i64 0,AV.int .i64 0,AV.int .u8 0,AV.int .u8 0] [(0,1,AR.const (AV.int .i64 (-7)))]=some [.int .i64 (-7),.int .i64 0,.int .u8 0,.int .u8 0]:=fun a=>rfl
   simp only[W_skip,W_ret,q55,WD_nil,WD_none,KPutD_eq,q62,true_and,AO.effect,W_exit,W_region,W_seq,W_block,W_cond,q30,q25,q51,q47,q50,q48,q49,q16,q17,q18,q42,q28,q61,KSeq_eq,q36,WL_eq,WO_nil,WO_none,WO_some,KPut_eq,KCall_eq,KRes_eq,KFalse,WS_call,WS_move,WS_pick,WS_alloc,WS_box,WS_build,q15,WS_load,q37,WS_store,q29,WS_bin,WS_eqB,WS_isNil,q45,WS_un,q46,q63,q43,q21,WS_slice,q23,WS_field,q64,q22,q14,WS_index,q44,WS_len,q65,WS_max,PPtr_ptr,PInt_int,q52,q38,PAgg_agg,q24,q13,q39,PLen_nil,q40,q41,put,tset,tget,ev,bnd,scrub,padTo,q31,ares,q59,abin_add,abin_sub,abin_mul,abin_eql,abin_neq,abin_lss,abin_leq,abin_gtr,abin_geq,aun_not,maxV_two,List.length_cons,List.length_nil,List.replicate,List.cons_append,List.nil_append,List.append_nil,List.map_cons,List.map_nil,Nat.reduceAdd,Nat.reduceSub,ite_true,ite_false,if_true,if_false,Bool.false_eq_true,reduceIte,decide_true,decide_false,Bool.not_true,Bool.not_false,beq_self_eq_true,List.length_map,ne_eq,not_true_eq_false,not_false_eq_true,pidx_slN,hlt,h0,true_and,and_self,Int.toNat_natCast,Nat.mul_one,AV.cells,hfa,hp,hwr]
   rw[W_scrub]
   simp only[hcs,scrub,tset]
   exact ih (k+1) h2 (by omega) hv2 (hkp.trans hkp2)
theorem overNFA_3 {w:PWd} {h h1:H} (hw:∀b o,w.imm b=some o→b<h.next) {f1 f2 f3:Bool} {N:NF} (B:BnN N) {cs':List AV} (hc:RepL w (nfC f1 true f2 true f3 true N) cs') (hv:Ov3 w h h1) {Q:AV→H→Prop} (hq:∀h2,Ov3 w h h2→Kp w h1 h2→Q (.tuple []) h2):
  C (lim tab) 43 [.agg cs'] h1 Q:=by
 match cs',hc with
 | [v1,v2,v3,v4,v5],hc=>
 have r1:=hc.hd
 have r2:=hc.tl.hd
 have r3:=hc.tl.tl.hd
 have r4:=hc.tl.tl.tl.hd
 have r5:=hc.tl.tl.tl.tl.hd
 have o1:v1.one=true:=rep_one r1 rfl
 have o2:v2.one=true:=rep_one r2 rfl
 have o3:v3.one=true:=rep_one r3 rfl
 have o4:v4.one=true:=rep_one r4 rfl
 have o5:v5.one=true:=rep_one r5 rfl
 have hone:[v1,v2,v3,v4,v5].all AV.one=true:=by simp[o1,o2,o3,o4,o5]
 rw[C_fn T.h43]
 have w1:=hv.alloc hw (.cells 0 true [v1,v2,v3,v4,v5])
 have hnone:w.imm h1.next=none:=by
  cases hc:w.imm h1.next with
  | none=>rfl
  | some o=>have:=hw _ _ hc;have:=hv.next;omega
 have hbox:∀{h':H},Kp w (h1.alloc (.cells 0 true [v1,v2,v3,v4,v5])) h'→∀i,getCell h' h1.next i=[v1,v2,v3,v4,v5][i]? :=by
  intro h' hk i
  unfold getCell
  rw[hk.keep h1.next (by simp) (.inr hnone),H.get_alloc_new]
 have b1:=hbox (.refl w _)
 simp only[af43,W_skip,W_ret,q55,WD_nil,WD_none,KPutD_eq,q62,true_and,AO.effect,W_exit,W_region,W_seq,W_block,W_cond,q30,q25,q51,q47,q50,q48,q49,q16,q17,q18,q42,q28,q61,KSeq_eq,q36,WL_eq,WO_nil,WO_none,WO_some,KPut_eq,KCall_eq,KRes_eq,KFalse,WS_call,WS_move,WS_pick,WS_alloc,WS_box,WS_build,q15,WS_load,q37,WS_store,q29,WS_bin,WS_eqB,WS_isNil,q45,WS_un,q46,q63,q43,q21,WS_slice,q23,WS_field,q64,q22,q14,WS_index,q44,WS_len,q65,WS_max,PPtr_ptr,PInt_int,q52,q38,PAgg_agg,q24,q13,q39,PLen_nil,q40,q41,put,tset,tget,ev,bnd,scrub,padTo,q31,ares,q59,abin_add,abin_sub,abin_mul,abin_eql,abin_neq,abin_lss,abin_leq,abin_gtr,abin_geq,aun_not,maxV_two,List.length_cons,List.length_nil,List.replicate,List.cons_append,List.nil_append,List.append_nil,List.map_cons,List.map_nil,Nat.reduceAdd,Nat.reduceSub,ite_true,ite_false,if_true,if_false,Bool.false_eq_true,reduceIte,decide_true,decide_false,Bool.not_true,Bool.not_false,beq_self_eq_true,List.length_map,ne_eq,not_true_eq_false,not_false_eq_true,AV.cells,hone,b1,List.getElem?_cons_zero,List.getElem?_cons_succ]
 refine overInts_3 T hw r3 B.s w1 fun h2 v2' k2=>?_
 have b2:=hbox k2
 simp only[W_skip,W_ret,q55,WD_nil,WD_none,KPutD_eq,q62,true_and,AO.effect,W_exit,W_region,W_seq,W_block,W_cond,q30,q25,q51,q47,q50,q48,q49,q16,q17,q18,q42,q28,q61,KSeq_eq,q36,WL_eq,WO_nil,WO_none,WO_some,KPut_eq,KCall_eq,KRes_eq,KFalse,WS_call,WS_move,WS_pick,WS_alloc,WS_box,WS_build,q15,WS_load,q37,WS_store,q29,WS_bin,WS_eqB,WS_isNil,q45,WS_un,q46,q63,q43,q21,WS_slice,q23,WS_field,q64,q22,q14,WS_index,q44,WS_len,q65,WS_max,PPtr_ptr,PInt_int,q52,q38,PAgg_agg,q24,q13,q39,PLen_nil,q40,q41,put,tset,tget,ev,bnd,scrub,padTo,q31,ares,q59,abin_add,abin_sub,abin_mul,abin_eql,abin_neq,abin_lss,abin_leq,abin_gtr,abin_geq,aun_not,maxV_two,List.length_cons,List.length_nil,List.replicate,List.cons_append,List.nil_append,List.append_nil,List.map_cons,List.map_nil,Nat.reduceAdd,Nat.reduceSub,ite_true,ite_false,if_true,if_false,Bool.false_eq_true,reduceIte,decide_true,decide_false,Bool.not_true,Bool.not_false,beq_self_eq_true,List.length_map,ne_eq,not_true_eq_false,not_false_eq_true,b2,List.getElem?_cons_zero,List.getElem?_cons_succ]
 refine overInts_3 T hw r4 B.f v2' fun h3 v3' k3=>?_
 have b3:=hbox (k2.trans k3)
 simp only[W_skip,W_ret,q55,WD_nil,WD_none,KPutD_eq,q62,true_and,AO.effect,W_exit,W_region,W_seq,W_block,W_cond,q30,q25,q51,q47,q50,q48,q49,q16,q17,q18,q42,q28,q61,KSeq_eq,q36,WL_eq,WO_nil,WO_none,WO_some,KPut_eq,KCall_eq,KRes_eq,KFalse,WS_call,WS_move,WS_pick,WS_alloc,WS_box,WS_build,q15,WS_load,q37,WS_store,q29,WS_bin,WS_eqB,WS_isNil,q45,WS_un,q46,q63,q43,q21,WS_slice,q23,WS_field,q64,q22,q14,WS_index,q44,WS_len,q65,WS_max,PPtr_ptr,PInt_int,q52,q38,PAgg_agg,q24,q13,q39,PLen_nil,q40,q41,put,tset,tget,ev,bnd,scrub,padTo,q31,ares,q59,abin_add,abin_sub,abin_mul,abin_eql,abin_neq,abin_lss,abin_leq,abin_gtr,abin_geq,aun_not,maxV_two,List.length_cons,List.length_nil,List.replicate,List.cons_append,List.nil_append,List.append_nil,List.map_cons,List.map_nil,Nat.reduceAdd,Nat.reduceSub,ite_true,ite_false,if_true,if_false,Bool.false_eq_true,reduceIte,decide_true,decide_false,Bool.not_true,Bool.not_false,beq_self_eq_true,List.length_map,ne_eq,not_true_eq_false,not_false_eq_true,b3,List.getElem?_cons_zero,List.getElem?_cons_succ]
 refine overEdges_3 T hw r5 B.e v3' fun h4 v4' k4=>?_
 simp only[W_skip,W_ret,q55,WD_nil,WD_none,KPutD_eq,q62,true_and,AO.effect,W_exit,W_region,W_seq,W_block,W_cond,q30,q25,q51,q47,q50,q48,q49,q16,q17,q18,q42,q28,q61,KSeq_eq,q36,WL_eq,WO_nil,WO_none,WO_some,KPut_eq,KCall_eq,KRes_eq,KFalse,WS_call,WS_move,WS_pick,WS_alloc,WS_box,WS_build,q15,WS_load,q37,WS_store,q29,WS_bin,WS_eqB,WS_isNil,q45,WS_un,q46,q63,q43,q21,WS_slice,q23,WS_field,q64,q22,q14,WS_index,q44,WS_len,q65,WS_max,PPtr_ptr,PInt_int,q52,q38,PAgg_agg,q24,q13,q39,PLen_nil,q40,q41,put,tset,tget,ev,bnd,scrub,padTo,q31,ares,q59,abin_add,abin_sub,abin_mul,abin_eql,abin_neq,abin_lss,abin_leq,abin_gtr,abin_geq,aun_not,maxV_two,List.length_cons,List.length_nil,List.replicate,List.cons_append,List.nil_append,List.append_nil,List.map_cons,List.map_nil,Nat.reduceAdd,Nat.reduceSub,ite_true,ite_false,if_true,if_false,Bool.false_eq_true,reduceIte,decide_true,decide_false,Bool.not_true,Bool.not_false,beq_self_eq_true,List.length_map,ne_eq,not_true_eq_false,not_false_eq_true]
 exact hq _ v4' ((Kp.alloc w h1 _).trans ((k2.trans k3).trans k4))
theorem overBools_3 {w:PWd} {h h1:H} (hw:∀b o,w.imm b=some o→b<h.next) {f:Bool} {xs:List Bool} {v:AV} (hr:RepV w (slB f true xs) v) (hm:xs.length<big) (hi:Ov3 w h h1) {Q:AV→H→Prop} (hq:∀h2,Ov3 w h h2→Kp w h1 h2→Q (.tuple []) h2):
  C (lim tab) 71 [v] h1 Q:=by
 have hcs:cS 17 [0,2]=[1,3,4,5,6,7,8,9,10,11,12,13,14,15,16]:=rfl
 rw[C_fn T.h71]
 simp only[af71,W_skip,W_ret,q55,WD_nil,WD_none,KPutD_eq,q62,true_and,AO.effect,W_exit,W_region,W_seq,W_block,W_cond,q30,q25,q51,q47,q50,q48,q49,q16,q17,q18,q42,q28,q61,KSeq_eq,q36,WL_eq,WO_nil,WO_none,WO_some,KPut_eq,KCall_eq,KRes_eq,KFalse,WS_call,WS_move,WS_pick,WS_alloc,WS_box,WS_build,q15,WS_load,q37,WS_store,q29,WS_bin,WS_eqB,WS_isNil,q45,WS_un,q46,q63,q43,q21,WS_slice,q23,WS_field,q64,q22,q14,WS_index,q44,WS_len,q65,WS_max,PPtr_ptr,PInt_int,q52,q38,PAgg_agg,q24,q13,q39,PLen_nil,q40,q41,put,tset,tget,ev,bnd,scrub,padTo,q31,ares,q59,abin_add,abin_sub,abin_mul,abin_eql,abin_neq,abin_lss,abin_leq,abin_gtr,abin_geq,aun_not,maxV_two,List.length_cons,List.length_nil,List.replicate,List.cons_append,List.nil_append,List.append_nil,List.map_cons,List.map_nil,Nat.reduceAdd,Nat.reduceSub,ite_true,ite_false,if_true,if_false,Bool.false_eq_true,reduceIte,decide_true,decide_false,Bool.not_true,Bool.not_false,beq_self_eq_true,List.length_map,ne_eq,not_true_eq_false,not_false_eq_true]
 rw[W_scrub]
 simp only[hcs,scrub,tset]
 rcases ov_sl hr with⟨rfl,hx⟩ | ⟨fl,b,off,ver,bcs,rfl,e1,e2,e3,e4⟩
 ·rw[W_round]
  have hlt:¬(0:Int)<0:=by omega
  simp only[W_skip,W_ret,q55,WD_nil,WD_none,KPutD_eq,q62,true_and,AO.effect,W_exit,W_region,W_seq,W_block,W_cond,q30,q25,q51,q47,q50,q48,q49,q16,q17,q18,q42,q28,q61,KSeq_eq,q36,WL_eq,WO_nil,WO_none,WO_some,KPut_eq,KCall_eq,KRes_eq,KFalse,WS_call,WS_move,WS_pick,WS_alloc,WS_box,WS_build,q15,WS_load,q37,WS_store,q29,WS_bin,WS_eqB,WS_isNil,q45,WS_un,q46,q63,q43,q21,WS_slice,q23,WS_field,q64,q22,q14,WS_index,q44,WS_len,q65,WS_max,PPtr_ptr,PInt_int,q52,q38,PAgg_agg,q24,q13,q39,PLen_nil,q40,q41,put,tset,tget,ev,bnd,scrub,padTo,q31,ares,q59,abin_add,abin_sub,abin_mul,abin_eql,abin_neq,abin_lss,abin_leq,abin_gtr,abin_geq,aun_not,maxV_two,List.length_cons,List.length_nil,List.replicate,List.cons_append,List.nil_append,List.append_nil,List.map_cons,List.map_nil,Nat.reduceAdd,Nat.reduceSub,ite_true,ite_false,if_true,if_false,Bool.false_eq_true,reduceIte,decide_true,decide_false,Bool.not_true,Bool.not_false,beq_self_eq_true,List.length_map,ne_eq,not_true_eq_false,not_false_eq_true,hlt]
  exact hq h1 hi (.refl w h1)
 ·refine(?_:∀(m k:Nat) (h':H),k+m=xs.length→Ov3 w h h'→Kp w h1 h'→W (lim tab) (.loop ?sc ?x) [.slice fl 1 b off xs.length,.junk,i64 k,.junk,.junk,.junk,.junk,.junk,.junk,.junk,.junk,.junk,.junk,.junk,.junk,.junk,.junk] h' ?q1 ?q2 ?q3) xs.length 0 h1 (by simp) hi (.refl w h1)
  intro m
  induction m with
  | zero=>
   intro k h' hk hv hkp
   rw[W_round]
   have hlt:¬(k:Int)<xs.length:=by omega
   simp only[W_skip,W_ret,q55,WD_nil,WD_none,KPutD_eq,q62,true_and,AO.effect,W_exit,W_region,W_seq,W_block,W_cond,q30,q25,q51,q47,q50,q48,q49,q16,q17,q18,q42,q28,q61,KSeq_eq,q36,WL_eq,WO_nil,WO_none,WO_some,KPut_eq,KCall_eq,KRes_eq,KFalse,WS_call,WS_move,WS_pick,WS_alloc,WS_box,WS_build,q15,WS_load,q37,WS_store,q29,WS_bin,WS_eqB,WS_isNil,q45,WS_un,q46,q63,q43,q21,WS_slice,q23,WS_field,q64,q22,q14,WS_index,q44,WS_len,q65,WS_max,PPtr_ptr,PInt_int,q52,q38,PAgg_agg,q24,q13,q39,PLen_nil,q40,q41,put,tset,tget,ev,bnd,scrub,padTo,q31,ares,q59,abin_add,abin_sub,abin_mul,abin_eql,abin_neq,abin_lss,abin_leq,abin_gtr,abin_geq,aun_not,maxV_two,List.length_cons,List.length_nil,List.replicate,List.cons_append,List.nil_append,List.append_nil,List.map_cons,List.map_nil,Nat.reduceAdd,Nat.reduceSub,ite_true,ite_false,if_true,if_false,Bool.false_eq_true,reduceIte,decide_true,decide_false,Bool.not_true,Bool.not_false,beq_self_eq_true,List.length_map,ne_eq,not_true_eq_false,not_false_eq_true,hlt]
   exact hq h' hv hkp
  | succ m ih=>
   intro k h' hk hv hkp
   rw[W_round]
   have hlt:(k:Int)<xs.length:=by omega
   have h0:(0:Int)≤k:=by omega
   have hwr:=q32 (k:=k) (by omega)
   obtain⟨y,z,hy,hz,hrz⟩:=e4 k (by simp;omega)
   have hzb:∃bb,z= .bool bb:=by
    rw[List.getElem?_map]at hy
    obtain⟨x,hx⟩:=some_of (xs:=xs) (k:=k) (by omega)
    rw[hx]at hy
    cases hy
    exact⟨x,rep_bool hrz⟩
   obtain⟨bb,rfl⟩:=hzb
   obtain⟨v2,b2,q1,q2,q3⟩:=hv.cells b ver bcs e1 e2
   obtain⟨z',g1,g2⟩:=q3 _ _ hz
   have hz':∃b',z'= .bool b':=by
    rcases g2 with rfl | ⟨k,n,_,h,_⟩ | ⟨b,b',_,rfl⟩
    ·exact⟨bb,rfl⟩
    ·cases h
    ·exact⟨b',rfl⟩
   obtain⟨b',rfl⟩:=hz'
   have hgc:getCell h' b (off+k)=some (.bool b'):=by unfold getCell;rw[q1];exact g1
   obtain⟨h2,hp,hv2,hkp2⟩:=ov3_putN hw hv e1 e2 (p:=off+k) (xs:=[.bool !b']) (q26 hz) rfl (fun i hi=>by
    have:i=0:=by simpa using hi
    subst this
    exact⟨_,_,hz,rfl,.inr (.inr ⟨_,_,rfl,rfl⟩)⟩)
   simp only[W_skip,W_ret,q55,WD_nil,WD_none,KPutD_eq,q62,true_and,AO.effect,W_exit,W_region,W_seq,W_block,W_cond,q30,q25,q51,q47,q50,q48,q49,q16,q17,q18,q42,q28,q61,KSeq_eq,q36,WL_eq,WO_nil,WO_none,WO_some,KPut_eq,KCall_eq,KRes_eq,KFalse,WS_call,WS_move,WS_pick,WS_alloc,WS_box,WS_build,q15,WS_load,q37,WS_store,q29,WS_bin,WS_eqB,WS_isNil,q45,WS_un,q46,q63,q43,q21,WS_slice,q23,WS_field,q64,q22,q14,WS_index,q44,WS_len,q65,WS_max,PPtr_ptr,PInt_int,q52,q38,PAgg_agg,q24,q13,q39,PLen_nil,q40,q41,put,tset,tget,ev,bnd,scrub,padTo,q31,ares,q59,abin_add,abin_sub,abin_mul,abin_eql,abin_neq,abin_lss,abin_leq,abin_gtr,abin_geq,aun_not,maxV_two,List.length_cons,List.length_nil,List.replicate,List.cons_append,List.nil_append,List.append_nil,List.map_cons,List.map_nil,Nat.reduceAdd,Nat.reduceSub,ite_true,ite_false,if_true,if_false,Bool.false_eq_true,reduceIte,decide_true,decide_false,Bool.not_true,Bool.not_false,beq_self_eq_true,List.length_map,ne_eq,not_true_eq_false,not_false_eq_true,pidx_slice,hlt,h0,true_and,and_self,Int.toNat_natCast,Nat.mul_one,AV.cells,hgc,hp,hwr]
   rw[W_scrub]
   simp only[hcs,scrub,tset]
   exact ih (k+1) h2 (by omega) hv2 (hkp.trans hkp2)
end
section
variable {tab:FuncId→Option AF}
def Over3 (tab:FuncId→Option AF) (g:FuncId) (pargs:List PV):Prop:=
 ∀(w:PWd) (h h1:H) (args':List AV),(∀b o,w.imm b=some o→b<h.next)→RepL w pargs args'→Ov3 w h h1→C (lim tab) g args' h1 fun _ h2=>Ov3 w h h2∧Kp w h1 h2
def OvX (tab:FuncId→Option AF) (c:AC) (a:List PV) (M:Mem) (Q:List PV→Mem→Prop):Prop:=
 ∀(w:PWd) (h h1:H) (a':List AV),PSt w h M→RepL w a a'→Ov3 w h h1→W (lim tab) c a' h1 (fun a2 h2=>∃b,RepL w b a2∧Ov3 w h h2∧Q b M) (fun _ _=>False) (fun _ _ _=>False)
variable {a:List PV} {M:Mem}
theorem TopX_ov {c:AC} {Qn Qr:List PV→Mem→Prop} {Qe:Nat→List PV→Mem→Prop} (h:OvX tab c a M fun b N=>Qn (jnkL b) (N.map (PObj.mapC jnkL))):TopX tab c a M Qn Qr Qe:=by
 intro w hh a' s ha
 refine W_mono (h w hh hh a' s ha (.refl s.imm)) (fun a2 h2 ⟨b,r,o,q⟩=>?_) (fun _ _ q=>q.elim) (fun _ _ _ q=>q.elim)
 obtain⟨w2,s2,rl⟩:=s.ov2 o.two
 exact⟨w2,_,_,s2,rl _ _ r,q⟩
theorem OvX_seq {x y:AC} {Q:List PV→Mem→Prop} (h:OvX tab x a M fun b N=>OvX tab y b N Q):OvX tab (.seq x y) a M Q:=by
 intro w hh h1 a' s ha hv
 rw[W_seq]
 refine W_mono (h w hh h1 a' s ha hv) (fun a1 h2 ⟨b,r,o,q⟩=>?_) (fun _ _ q=>q.elim) (fun _ _ _ q=>q.elim)
 rw[KSeq_eq]
 exact q w hh h2 a1 s r o
theorem OvX_agg {g:FuncId} {Q:List PV→Mem→Prop} {d1:Nat} {d2:Option Nat} {n p:Nat} {c1 c2:List Nat} {id gg o ver:Nat} {cs:List PV}
  (hp:ptget a p= .ptr id gg o) (hM:M[id]? =some (.cells gg ver cs)) (hn:o+n≤cs.length) (hd:ptget (ptset a d1 (.agg (psub cs o n))) d1= .agg (psub cs o n)) (ho:Over3 tab g [.agg (psub cs o n)])
  (hq:Q (pput (ptset a d1 Zj) d2 Zj) M):
  OvX tab (.region [⟨some d1,.loadAgg n (.tmp p),none,c1⟩,⟨d2,.call (.const (.func (.func g) [] [])) [.tmp d1],none,c2⟩]) a M Q:=by
 intro w hh h1 a' s ha hv
 rw[W_region,WO_none,q37]
 have hx:=ha.tget p
 rw[hp]at hx
 obtain⟨e,b,bcs,e1,e2,e3,e4,e5,e6,e7⟩:=s.ptrAt hM hx
 have hev:ev a' (.tmp p)= .ptr b o:=e1
 have hsub:=rep_sub e6 o n
 have hgc:q60 h1 b o n=some ((bcs.drop o).take n):=by
  unfold q60
  rw[hv.keep b (e7.next s) (.inr (s.sep id b e7).1),e5]
  simp only
  rw[if_pos (by rw[←e6.len];exact hn)]
 rw[hev,PPtr_ptr,hgc,q38,KPut_eq,WO_none,WS_call]
 have hf:ev (put a' (some d1) (.agg ((bcs.drop o).take n))) (.const (.func (.func g) [] []))= .func (.func g) [] []:=rfl
 rw[hf,q41]
 have hagg:RepV w (.agg (psub cs o n)) (.agg ((bcs.drop o).take n)):= .agg hsub.len hsub.get
 have ha1:=ha.tset d1 hagg
 have harg:RepL w [.agg (psub cs o n)] ([]++List.map (ev (put a' (some d1) (.agg ((bcs.drop o).take n)))) [.tmp d1]++[]):=by
  have h1:=ha1.tget d1
  rw[hd]at h1
  exact .cons h1 (.nil w)
 refine C_mono (ho w hh h1 _ (fun b o hb=>s.immLt hb) harg hv) ?_
 rintro v h2 ⟨hv2,_⟩
 rw[KCall_eq,KPut_eq,WO_nil]
 exact⟨_,(ha.tset d1 (v:=Zj) (x:= .agg ((bcs.drop o).take n)) (.junk _)).put d2 (.junk _),hv2,hq⟩
end
section
variable {tab:FuncId→Option AF} (T:HasA tab)
include T
theorem overRows_3 {w:PWd} {h h1:H} (hw:∀b o,w.imm b=some o→b<h.next) {f f2:Bool} {rs:List (List Int)} {v:AV} (hr:RepV w (slR f true f2 true .i64 rs) v) (hm:rs.length<big) (hm2:∀r∈rs,r.length<big) (hi:Ov3 w h h1) {Q:AV→H→Prop} (hq:∀h2,Ov3 w h h2→Kp w h1 h2→Q (.tuple []) h2):
  C (lim tab) 33 [v] h1 Q:=by
 have hcs:cS 14 [0,2]=[1,3,4,5,6,7,8,9,10,11,12,13]:=rfl
 rw[C_fn T.h33]
 simp only[af33,W_skip,W_ret,q55,WD_nil,WD_none,KPutD_eq,q62,true_and,AO.effect,W_exit,W_region,W_seq,W_block,W_cond,q30,q25,q51,q47,q50,q48,q49,q16,q17,q18,q42,q28,q61,KSeq_eq,q36,WL_eq,WO_nil,WO_none,WO_some,KPut_eq,KCall_eq,KRes_eq,KFalse,WS_call,WS_move,WS_pick,WS_alloc,WS_box,WS_build,q15,WS_load,q37,WS_store,q29,WS_bin,WS_eqB,WS_isNil,q45,WS_un,q46,q63,q43,q21,WS_slice,q23,WS_field,q64,q22,q14,WS_index,q44,WS_len,q65,WS_max,PPtr_ptr,PInt_int,q52,q38,PAgg_agg,q24,q13,q39,PLen_nil,q40,q41,put,tset,tget,ev,bnd,scrub,padTo,q31,ares,q59,abin_add,abin_sub,abin_mul,abin_eql,abin_neq,abin_lss,abin_leq,abin_gtr,abin_geq,aun_not,maxV_two,List.length_cons,List.length_nil,List.replicate,List.cons_append,List.nil_append,List.append_nil,List.map_cons,List.map_nil,Nat.reduceAdd,Nat.reduceSub,ite_true,ite_false,if_true,if_false,Bool.false_eq_true,reduceIte,decide_true,decide_false,Bool.not_true,Bool.not_false,beq_self_eq_true,List.length_map,ne_eq,not_true_eq_false,not_false_eq_true]
 rw[W_scrub]
 simp only[hcs,scrub,tset]
 rcases ov_sl hr with⟨rfl,hx⟩ | ⟨fl,b,off,ver,bcs,rfl,e1,e2,e3,e4⟩
 ·rw[W_round]
  have hlt:¬(0:Int)<0:=by omega
  simp only[W_skip,W_ret,q55,WD_nil,WD_none,KPutD_eq,q62,true_and,AO.effect,W_exit,W_region,W_seq,W_block,W_cond,q30,q25,q51,q47,q50,q48,q49,q16,q17,q18,q42,q28,q61,KSeq_eq,q36,WL_eq,WO_nil,WO_none,WO_some,KPut_eq,KCall_eq,KRes_eq,KFalse,WS_call,WS_move,WS_pick,WS_alloc,WS_box,WS_build,q15,WS_load,q37,WS_store,q29,WS_bin,WS_eqB,WS_isNil,q45,WS_un,q46,q63,q43,q21,WS_slice,q23,WS_field,q64,q22,q14,WS_index,q44,WS_len,q65,WS_max,PPtr_ptr,PInt_int,q52,q38,PAgg_agg,q24,q13,q39,PLen_nil,q40,q41,put,tset,tget,ev,bnd,scrub,padTo,q31,ares,q59,abin_add,abin_sub,abin_mul,abin_eql,abin_neq,abin_lss,abin_leq,abin_gtr,abin_geq,aun_not,maxV_two,List.length_cons,List.length_nil,List.replicate,List.cons_append,List.nil_append,List.append_nil,List.map_cons,List.map_nil,Nat.reduceAdd,Nat.reduceSub,ite_true,ite_false,if_true,if_false,Bool.false_eq_true,reduceIte,decide_true,decide_false,Bool.not_true,Bool.not_false,beq_self_eq_true,List.length_map,ne_eq,not_true_eq_false,not_false_eq_true,hlt]
  exact hq h1 hi (.refl w h1)
 ·refine(?_:∀(m k:Nat) (h':H),k+m=rs.length→Ov3 w h h'→Kp w h1 h'→W (lim tab) (.loop ?sc ?x) [.slice fl 1 b off rs.length,.junk,i64 k,.junk,.junk,.junk,.junk,.junk,.junk,.junk,.junk,.junk,.junk,.junk] h' ?q1 ?q2 ?q3) rs.length 0 h1 (by simp) hi (.refl w h1)
  intro m
  induction m with
  | zero=>
   intro k h' hk hv hkp
   rw[W_round]
   have hlt:¬(k:Int)<rs.length:=by omega
   simp only[W_skip,W_ret,q55,WD_nil,WD_none,KPutD_eq,q62,true_and,AO.effect,W_exit,W_region,W_seq,W_block,W_cond,q30,q25,q51,q47,q50,q48,q49,q16,q17,q18,q42,q28,q61,KSeq_eq,q36,WL_eq,WO_nil,WO_none,WO_some,KPut_eq,KCall_eq,KRes_eq,KFalse,WS_call,WS_move,WS_pick,WS_alloc,WS_box,WS_build,q15,WS_load,q37,WS_store,q29,WS_bin,WS_eqB,WS_isNil,q45,WS_un,q46,q63,q43,q21,WS_slice,q23,WS_field,q64,q22,q14,WS_index,q44,WS_len,q65,WS_max,PPtr_ptr,PInt_int,q52,q38,PAgg_agg,q24,q13,q39,PLen_nil,q40,q41,put,tset,tget,ev,bnd,scrub,padTo,q31,ares,q59,abin_add,abin_sub,abin_mul,abin_eql,abin_neq,abin_lss,abin_leq,abin_gtr,abin_geq,aun_not,maxV_two,List.length_cons,List.length_nil,List.replicate,List.cons_append,List.nil_append,List.append_nil,List.map_cons,List.map_nil,Nat.reduceAdd,Nat.reduceSub,ite_true,ite_false,if_true,if_false,Bool.false_eq_true,reduceIte,decide_true,decide_false,Bool.not_true,Bool.not_false,beq_self_eq_true,List.length_map,ne_eq,not_true_eq_false,not_false_eq_true,hlt]
   exact hq h' hv hkp
  | succ m ih=>
   intro k h' hk hv hkp
   rw[W_round]
   have hlt:(k:Int)<rs.length:=by omega
   have h0:(0:Int)≤k:=by omega
   have hwr:=q32 (k:=k) (by omega)
   obtain⟨y,z,hy,hz,hrz⟩:=e4 k (by simp;omega)
   obtain⟨row,hrw⟩:=some_of (xs:=rs) (k:=k) (by omega)
   rw[List.getElem?_map,hrw]at hy
   cases hy
   obtain⟨v2,b2,o1,o2,o3⟩:=hv.cells b ver bcs e1 e2
   obtain⟨z',g1,g2⟩:=o3 _ _ hz
   have hz':z'=z:=by
    have hs:=rep_slq hrz rfl
    rcases g2 with h | ⟨k,n,_,h,_⟩ | ⟨b,b',h,_⟩
    ·exact h
    ·exact absurd h (hs.1 k n)
    ·exact absurd h (hs.2 b)
   subst hz'
   have hgc:getCell h' b (off+k)=some z':=by unfold getCell;rw[o1];exact g1
   simp only[W_skip,W_ret,q55,WD_nil,WD_none,KPutD_eq,q62,true_and,AO.effect,W_exit,W_region,W_seq,W_block,W_cond,q30,q25,q51,q47,q50,q48,q49,q16,q17,q18,q42,q28,q61,KSeq_eq,q36,WL_eq,WO_nil,WO_none,WO_some,KPut_eq,KCall_eq,KRes_eq,KFalse,WS_call,WS_move,WS_pick,WS_alloc,WS_box,WS_build,q15,WS_load,q37,WS_store,q29,WS_bin,WS_eqB,WS_isNil,q45,WS_un,q46,q63,q43,q21,WS_slice,q23,WS_field,q64,q22,q14,WS_index,q44,WS_len,q65,WS_max,PPtr_ptr,PInt_int,q52,q38,PAgg_agg,q24,q13,q39,PLen_nil,q40,q41,put,tset,tget,ev,bnd,scrub,padTo,q31,ares,q59,abin_add,abin_sub,abin_mul,abin_eql,abin_neq,abin_lss,abin_leq,abin_gtr,abin_geq,aun_not,maxV_two,List.length_cons,List.length_nil,List.replicate,List.cons_append,List.nil_append,List.append_nil,List.map_cons,List.map_nil,Nat.reduceAdd,Nat.reduceSub,ite_true,ite_false,if_true,if_false,Bool.false_eq_true,reduceIte,decide_true,decide_false,Bool.not_true,Bool.not_false,beq_self_eq_true,List.length_map,ne_eq,not_true_eq_false,not_false_eq_true,pidx_slice,hlt,h0,true_and,and_self,Int.toNat_natCast,Nat.mul_one,hgc]
   refine overInts_3 T hw hrz (hm2 row (List.mem_of_getElem? hrw)) hv fun h2 hv2 k2=>?_
   simp only[W_skip,W_ret,q55,WD_nil,WD_none,KPutD_eq,q62,true_and,AO.effect,W_exit,W_region,W_seq,W_block,W_cond,q30,q25,q51,q47,q50,q48,q49,q16,q17,q18,q42,q28,q61,KSeq_eq,q36,WL_eq,WO_nil,WO_none,WO_some,KPut_eq,KCall_eq,KRes_eq,KFalse,WS_call,WS_move,WS_pick,WS_alloc,WS_box,WS_build,q15,WS_load,q37,WS_store,q29,WS_bin,WS_eqB,WS_isNil,q45,WS_un,q46,q63,q43,q21,WS_slice,q23,WS_field,q64,q22,q14,WS_index,q44,WS_len,q65,WS_max,PPtr_ptr,PInt_int,q52,q38,PAgg_agg,q24,q13,q39,PLen_nil,q40,q41,put,tset,tget,ev,bnd,scrub,padTo,q31,ares,q59,abin_add,abin_sub,abin_mul,abin_eql,abin_neq,abin_lss,abin_leq,abin_gtr,abin_geq,aun_not,maxV_two,List.length_cons,List.length_nil,List.replicate,List.cons_append,List.nil_append,List.append_nil,List.map_cons,List.map_nil,Nat.reduceAdd,Nat.reduceSub,ite_true,ite_false,if_true,if_false,Bool.false_eq_true,reduceIte,decide_true,decide_false,Bool.not_true,Bool.not_false,beq_self_eq_true,List.length_map,ne_eq,not_true_eq_false,not_false_eq_true,hwr]
   rw[W_scrub]
   simp only[hcs,scrub,tset]
   exact ih (k+1) h2 (by omega) hv2 (hkp.trans k2)
theorem overDFA_3 {w:PWd} {h h1:H} (hw:∀b o,w.imm b=some o→b<h.next) {f1 f2 f3:Bool} {D:DF} (B:BnD D) {cs':List AV} (hc:RepL w (dfC f1 true f2 true f3 true D) cs') (hv:Ov3 w h h1) {Q:AV→H→Prop} (hq:∀h2,Ov3 w h h2→Kp w h1 h2→Q (.tuple []) h2):
  C (lim tab) 32 [.agg cs'] h1 Q:=by
 match cs',hc with
 | [v1,v2,v3,v4],hc=>
 have r1:=hc.hd
 have r2:=hc.tl.hd
 have r3:=hc.tl.tl.hd
 have r4:=hc.tl.tl.tl.hd
 have o1:v1.one=true:=rep_one r1 rfl
 have o2:v2.one=true:=rep_one r2 rfl
 have o3:v3.one=true:=rep_one r3 rfl
 have o4:v4.one=true:=rep_one r4 rfl
 have hone:[v1,v2,v3,v4].all AV.one=true:=by simp[o1,o2,o3,o4]
 rw[C_fn T.h32]
 have w1:=hv.alloc hw (.cells 0 true [v1,v2,v3,v4])
 have hnone:w.imm h1.next=none:=by
  cases hc:w.imm h1.next with
  | none=>rfl
  | some o=>have:=hw _ _ hc;have:=hv.next;omega
 have hbox:∀{h':H},Kp w (h1.alloc (.cells 0 true [v1,v2,v3,v4])) h'→∀i,getCell h' h1.next i=[v1,v2,v3,v4][i]? :=by
  intro h' hk i
  unfold getCell
  rw[hk.keep h1.next (by simp) (.inr hnone),H.get_alloc_new]
 have b1:=hbox (.refl w _)
 simp only[af32,W_skip,W_ret,q55,WD_nil,WD_none,KPutD_eq,q62,true_and,AO.effect,W_exit,W_region,W_seq,W_block,W_cond,q30,q25,q51,q47,q50,q48,q49,q16,q17,q18,q42,q28,q61,KSeq_eq,q36,WL_eq,WO_nil,WO_none,WO_some,KPut_eq,KCall_eq,KRes_eq,KFalse,WS_call,WS_move,WS_pick,WS_alloc,WS_box,WS_build,q15,WS_load,q37,WS_store,q29,WS_bin,WS_eqB,WS_isNil,q45,WS_un,q46,q63,q43,q21,WS_slice,q23,WS_field,q64,q22,q14,WS_index,q44,WS_len,q65,WS_max,PPtr_ptr,PInt_int,q52,q38,PAgg_agg,q24,q13,q39,PLen_nil,q40,q41,put,tset,tget,ev,bnd,scrub,padTo,q31,ares,q59,abin_add,abin_sub,abin_mul,abin_eql,abin_neq,abin_lss,abin_leq,abin_gtr,abin_geq,aun_not,maxV_two,List.length_cons,List.length_nil,List.replicate,List.cons_append,List.nil_append,List.append_nil,List.map_cons,List.map_nil,Nat.reduceAdd,Nat.reduceSub,ite_true,ite_false,if_true,if_false,Bool.false_eq_true,reduceIte,decide_true,decide_false,Bool.not_true,Bool.not_false,beq_self_eq_true,List.length_map,ne_eq,not_true_eq_false,not_false_eq_true,AV.cells,hone,b1,List.getElem?_cons_zero,List.getElem?_cons_succ]
 refine overRows_3 T hw r3 B.n B.r w1 fun h2 v2' k2=>?_
 have b2:=hbox k2
 simp only[W_skip,W_ret,q55,WD_nil,WD_none,KPutD_eq,q62,true_and,AO.effect,W_exit,W_region,W_seq,W_block,W_cond,q30,q25,q51,q47,q50,q48,q49,q16,q17,q18,q42,q28,q61,KSeq_eq,q36,WL_eq,WO_nil,WO_none,WO_some,KPut_eq,KCall_eq,KRes_eq,KFalse,WS_call,WS_move,WS_pick,WS_alloc,WS_box,WS_build,q15,WS_load,q37,WS_store,q29,WS_bin,WS_eqB,WS_isNil,q45,WS_un,q46,q63,q43,q21,WS_slice,q23,WS_field,q64,q22,q14,WS_index,q44,WS_len,q65,WS_max,PPtr_ptr,PInt_int,q52,q38,PAgg_agg,q24,q13,q39,PLen_nil,q40,q41,put,tset,tget,ev,bnd,scrub,padTo,q31,ares,q59,abin_add,abin_sub,abin_mul,abin_eql,abin_neq,abin_lss,abin_leq,abin_gtr,abin_geq,aun_not,maxV_two,List.length_cons,List.length_nil,List.replicate,List.cons_append,List.nil_append,List.append_nil,List.map_cons,List.map_nil,Nat.reduceAdd,Nat.reduceSub,ite_true,ite_false,if_true,if_false,Bool.false_eq_true,reduceIte,decide_true,decide_false,Bool.not_true,Bool.not_false,beq_self_eq_true,List.length_map,ne_eq,not_true_eq_false,not_false_eq_true,b2,List.getElem?_cons_zero,List.getElem?_cons_succ]
 refine overBools_3 T hw r4 B.f v2' fun h3 v3' k3=>?_
 simp only[W_skip,W_ret,q55,WD_nil,WD_none,KPutD_eq,q62,true_and,AO.effect,W_exit,W_region,W_seq,W_block,W_cond,q30,q25,q51,q47,q50,q48,q49,q16,q17,q18,q42,q28,q61,KSeq_eq,q36,WL_eq,WO_nil,WO_none,WO_some,KPut_eq,KCall_eq,KRes_eq,KFalse,WS_call,WS_move,WS_pick,WS_alloc,WS_box,WS_build,q15,WS_load,q37,WS_store,q29,WS_bin,WS_eqB,WS_isNil,q45,WS_un,q46,q63,q43,q21,WS_slice,q23,WS_field,q64,q22,q14,WS_index,q44,WS_len,q65,WS_max,PPtr_ptr,PInt_int,q52,q38,PAgg_agg,q24,q13,q39,PLen_nil,q40,q41,put,tset,tget,ev,bnd,scrub,padTo,q31,ares,q59,abin_add,abin_sub,abin_mul,abin_eql,abin_neq,abin_lss,abin_leq,abin_gtr,abin_geq,aun_not,maxV_two,List.length_cons,List.length_nil,List.replicate,List.cons_append,List.nil_append,List.append_nil,List.map_cons,List.map_nil,Nat.reduceAdd,Nat.reduceSub,ite_true,ite_false,if_true,if_false,Bool.false_eq_true,reduceIte,decide_true,decide_false,Bool.not_true,Bool.not_false,beq_self_eq_true,List.length_map,ne_eq,not_true_eq_false,not_false_eq_true]
 exact hq _ v3' ((Kp.alloc w h1 _).trans (k2.trans k3))
theorem over3_dfa {f1 f2 f3:Bool} {D:DF} (B:BnD D):Over3 tab 32 [.agg (dfC f1 true f2 true f3 true D)]:=fun w h h1 args' hb hr hv=>by
 match args',hr with
 | [v],hr=>
  obtain⟨cs',rfl,h2⟩:=rep_agg hr.hd
  exact overDFA_3 T hb B h2 hv fun h2 a b=>⟨a,b⟩
theorem over3_nfa {f1 f2 f3:Bool} {N:NF} (B:BnN N):Over3 tab 43 [.agg (nfC f1 true f2 true f3 true N)]:=fun w h h1 args' hb hr hv=>by
 match args',hr with
 | [v],hr=>
  obtain⟨cs',rfl,h2⟩:=rep_agg hr.hd
  exact overNFA_3 T hb B h2 hv fun h2 a b=>⟨a,b⟩
end
abbrev dfaTy:Ty:= .pair (.int .i64) (.pair (.int .i64) (.pair (.slice (.slice (.int .i64))) (.pair (.slice .bool) .unit)))
structure NumD (D:DF):Prop where
 v: -9223372036854775808≤D.vs∧D.vs≤9223372036854775807
 s: -9223372036854775808≤D.st∧D.st≤9223372036854775807
 l:D.nx.length≤9223372036854775807
 r:∀r∈D.nx,r.length≤9223372036854775807∧∀x∈r,-9223372036854775808≤x∧x≤9223372036854775807
 f:D.fi.length≤9223372036854775807
theorem arg_dfa {v:AV} {h:H} (hs:ShV dfaTy v h):∃D:DF,RepV (wH h) (.agg (dfC false false false false false false D)) v∧NumD D:=by
 obtain⟨avs,hs,rfl⟩:=hs
 obtain⟨c1,c2,rfl,⟨a,rfl,a1,a2⟩,c3,c4,rfl,⟨b,rfl,b1,b2⟩,c5,c6,rfl,h3,c7,c8,rfl,h4,h6⟩:=hs
 have h6:c8=[]:=h6
 subst h6
 obtain⟨vo,nx,rfl,p1,q1,r1⟩:=sh_rowsP h3
 obtain⟨vp,fi,rfl,p2,q2⟩:=sh_boolsP h4
 refine⟨⟨a,b,nx,fi⟩,?_,⟨⟨a1,a2⟩,⟨b1,b2⟩,q1,r1,q2⟩⟩
 have:=RepL.cons (.int .i64 a) (.cons (.int .i64 b) (.cons p1 (.cons p2 (.nil (wH h)))))
 exact .agg this.len this.get
def longD (D:DF):Bool:=decide (40<D.nx.length)||decide (40<D.fi.length)||D.nx.any fun r=>decide (100<r.length)
theorem longD_ok {D:DF} (h:longD D=false):D.nx.length≤40∧D.fi.length≤40∧∀r∈D.nx,r.length≤100:=by
 simp only[longD,Bool.or_eq_false_iff,decide_eq_false_iff_not,List.any_eq_false]at h
 exact⟨by omega,by omega,fun r hr=>by have:=h.2 r hr;simp only[decide_eq_true_eq]at this;omega⟩
theorem longD_bn {D:DF} (h:longD D=false):BnD D:=by
 obtain⟨h1,h2,h3⟩:=longD_ok h
 exact⟨by show _<1000000000000;omega,fun r hr=>by show _<1000000000000;have:=h3 r hr;omega,by show _<1000000000000;omega⟩
section
variable {tab:FuncId→Option AF} (T:HasA tab)
include T
theorem longD_p {M:Mem} {K:PV→Mem→Prop} {f1 o1 f2 o2 f3 o3:Bool} {D:DF} (hk:K (.bool (longD D)) M):
  SemC tab 12 [.sl true true 4 1 (dfC f1 o1 f2 o2 f3 o3 D)] M K:=by
 refine SemC_pure T.h12 (by simp only[PP,P1,P2,P3,P4,P5,P6,P7,P8,P9,P10,P11,P12,P13,P14,L1,P15,N1,N2,N3,N4,N5,N6,N7,I1,I2,I3,I4,I5,I6,I7,reduceIte,reduceCtorEq,PV.under]) ?_
 simp only[af12,PP,P1,P2,P3,P4,P5,P6,P7,P8,P9,P10,P11,P12,P13,P14,L1,P15,N1,N2,N3,N4,N5,N6,N7,I1,I2,I3,I4,I5,I6,I7,reduceIte,reduceCtorEq]
 refine loop1 (fun(k:Nat)=>k=0∨(k=1∧longD D=false)) (fun k=>[.sl true true 4 1 (dfC f1 o1 f2 o2 f3 o3 D),Zj,Zj,p64 k,Zj,Zj,Zj,Zj,Zj,Zj,Zj,Zj,Zj,Zj,Zj,Zj,Zj,Zj,Zj,Zj,Zj,Zj,Zj,Zj,Zj,Zj,Zj,Zj,Zj,Zj,Zj,Zj,Zj,Zj,Zj,Zj,Zj,Zj,Zj,Zj,Zj,Zj,Zj,Zj,Zj,Zj,Zj]) (fun _=>[]) (fun k=>1-k) 0 (.inl rfl) (by simp only[PW]) rfl ?_
 intro k hk1 ih
 rcases hk1 with rfl | ⟨rfl,hf⟩
 ·have w1:IntKind.i64.wrap 1=1:=rfl
  have tr:longD D=true→K (.bool true) M:=fun h=>by rw[h]at hk;exact hk
  refine SemW_go (by kernel_rfl) ?_
  simp only[PP,P1,P2,P3,P4,P5,P6,P7,P8,P9,P10,P11,P12,P13,P14,L1,P15,N1,N2,N3,N4,N5,N6,N7,I1,I2,I3,I4,I5,I6,I7,reduceIte,reduceCtorEq]
  refine QIf.intro (fun c1=>?_) (fun c1=>?_)
  ·simp only[PP,P1,P2,P3,P4,P5,P6,P7,P8,P9,P10,P11,P12,P13,P14,L1,P15,N1,N2,N3,N4,N5,N6,N7,I1,I2,I3,I4,I5,I6,I7,reduceIte,reduceCtorEq,c1]
   exact tr (by simp only[longD,Bool.or_eq_true,decide_eq_true_eq];omega)
  simp only[PP,P1,P2,P3,P4,P5,P6,P7,P8,P9,P10,P11,P12,P13,P14,L1,P15,N1,N2,N3,N4,N5,N6,N7,I1,I2,I3,I4,I5,I6,I7,reduceIte,reduceCtorEq,c1]
  refine QIf.intro (fun c2=>?_) (fun c2=>?_)
  ·simp only[PP,P1,P2,P3,P4,P5,P6,P7,P8,P9,P10,P11,P12,P13,P14,L1,P15,N1,N2,N3,N4,N5,N6,N7,I1,I2,I3,I4,I5,I6,I7,reduceIte,reduceCtorEq,c2]
   exact tr (by simp only[longD,Bool.or_eq_true,decide_eq_true_eq];omega)
  simp only[PP,P1,P2,P3,P4,P5,P6,P7,P8,P9,P10,P11,P12,P13,P14,L1,P15,N1,N2,N3,N4,N5,N6,N7,I1,I2,I3,I4,I5,I6,I7,reduceIte,reduceCtorEq,c2]
  refine loop1 (fun(j:Nat)=>j≤D.nx.length∧(D.nx.drop j).any (fun r=>decide (100<r.length))=D.nx.any (fun r=>decide (100<r.length))) (fun j=>[.sl true true 4 1 (dfC f1 o1 f2 o2 f3 o3 D),Zj,Zj,p64 0,p64 j,Zj,Zj,Zj,Zj,Zj,Zj,Zj,Zj,Zj,Zj,Zj,Zj,Zj,Zj,Zj,Zj,Zj,Zj,Zj,Zj,Zj,Zj,Zj,Zj,Zj,Zj,Zj,Zj,Zj,Zj,Zj,Zj,Zj,Zj,Zj,Zj,Zj,Zj,Zj,Zj,Zj,Zj]) (fun _=>[]) (fun j=>D.nx.length-j) 0 ⟨by omega,rfl⟩ (by simp only[PW]) rfl ?_
  intro j ⟨jle,hj⟩ ih2
  refine SemW_go (by kernel_rfl) ?_
  simp only[PP,P1,P2,P3,P4,P5,P6,P7,P8,P9,P10,P11,P12,P13,P14,L1,P15,N1,N2,N3,N4,N5,N6,N7,I1,I2,I3,I4,I5,I6,I7,reduceIte,reduceCtorEq]
  refine QIf.intro (fun c=>?_) (fun c=>?_)
  ·have hj':j<D.nx.length:=by omega
   obtain⟨r,g⟩:=some_of hj'
   have j0:(0:Int)≤j:=by omega
   have hwk:=q32 (k:=j) (by show _<1000000000000;omega)
   rw[drop_some g]at hj
   simp only[PP,P1,P2,P3,P4,P5,P6,P7,P8,P9,P10,P11,P12,P13,P14,L1,P15,N1,N2,N3,N4,N5,N6,N7,I1,I2,I3,I4,I5,I6,I7,reduceIte,reduceCtorEq,c,j0,g]
   refine QIf.intro (fun e=>?_) (fun e=>?_)
   ·simp only[PP,P1,P2,P3,P4,P5,P6,P7,P8,P9,P10,P11,P12,P13,P14,L1,P15,N1,N2,N3,N4,N5,N6,N7,I1,I2,I3,I4,I5,I6,I7,reduceIte,reduceCtorEq,e]
    have hl:100<r.length:=by omega
    exact tr (by simp only[longD,Bool.or_eq_true];right;rw[←hj];simp[hl])
   ·simp only[PP,P1,P2,P3,P4,P5,P6,P7,P8,P9,P10,P11,P12,P13,P14,L1,P15,N1,N2,N3,N4,N5,N6,N7,I1,I2,I3,I4,I5,I6,I7,reduceIte,reduceCtorEq,e,hwk]
    have hl:¬100<r.length:=by omega
    refine SemW_weak (ih2 (j+1) ⟨by omega,?_⟩ (by omega)) (by simp only[PW])
    rw[←hj];simp[hl]
  ·rw[List.drop_eq_nil_of_le (by omega)]at hj
   simp only[PP,P1,P2,P3,P4,P5,P6,P7,P8,P9,P10,P11,P12,P13,P14,L1,P15,N1,N2,N3,N4,N5,N6,N7,I1,I2,I3,I4,I5,I6,I7,reduceIte,reduceCtorEq,c,w1]
   refine SemW_weak (ih 1 (.inr ⟨rfl,?_⟩) (by omega)) (by simp only[PW])
   simp only[longD,Bool.or_eq_false_iff,decide_eq_false_iff_not]
   exact⟨⟨by omega,by omega⟩,by rw[←hj];rfl⟩
 ·refine SemW_go (by kernel_rfl) ?_
  rw[hf]at hk
  simp only[PP,P1,P2,P3,P4,P5,P6,P7,P8,P9,P10,P11,P12,P13,P14,L1,P15,N1,N2,N3,N4,N5,N6,N7,I1,I2,I3,I4,I5,I6,I7,reduceIte,reduceCtorEq]
  exact hk
end
section
variable {tab:FuncId→Option AF} (T:HasA tab)
include T
end
end Go.Am.Ar

