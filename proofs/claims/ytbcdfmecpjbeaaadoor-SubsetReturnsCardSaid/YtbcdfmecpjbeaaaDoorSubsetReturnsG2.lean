/- Contracts: the texts of small numbers, and what goes with it. -/
import Derived.Test.YtbcdfmecpjbeaaaDoorSubsetReturnsG1
import Derived.Test.YtbcdfmecpjbeaaaDoorPmC
set_option linter.unusedVariables false
set_option linter.unusedSimpArgs false
set_option maxRecDepth 10000
namespace Go.Am.Ar
open Go.Am.PV renaming junk→Zj
open Go.Am renaming pchk→P1,pold→P2,PKNo→P3,ppack→P4,PObj.under→P5,pput→P6,ptset→P7,ptget→P8,pev→P9,ofAV→P10,q57→P11,ppad→P12,pfill→P13,prepl→P14,AO.effect→P15
open List renaming replicate→L1
open Nat renaming reduceAdd→N1,reduceSub→N2,reduceMul→N3,reduceLT→N4,reduceLeDiff→N5,reduceEqDiff→N6,reduceBEq→N7
open Int renaming reduceToNat→I1,reduceLT→I2,reduceLE→I3,reduceEq→I4,reduceAdd→I5,reduceSub→I6,reduceNeg→I7
def digS:ByteArray:=⟨#[48,49,50,51,52,53,54,55,56,57,97,98,99,100,101,102,103,104,105,106,107,108,109,110,111,112,113,114,115,116,117,118,119,120,121,122]⟩
def smlS:ByteArray:=⟨#[48,48,48,49,48,50,48,51,48,52,48,53,48,54,48,55,48,56,48,57,49,48,49,49,49,50,49,51,49,52,49,53,49,54,49,55,49,56,49,57,50,48,50,49,50,50,50,51,50,52,50,53,50,54,50,55,50,56,50,57,51,48,51,49,51,50,51,51,51,52,51,53,51,54,51,55,51,56,51,57,52,48,52,49,52,50,52,51,52,52,52,53,52,54,52,55,52,56,52,57,53,48,53,49,53,50,53,51,53,52,53,53,53,54,53,55,53,56,53,57,54,48,54,49,54,50,54,51,54,52,54,53,54,54,54,55,54,56,54,57,55,48,55,49,55,50,55,51,55,52,55,53,55,54,55,55,55,56,55,57,56,48,56,49,56,50,56,51,56,52,56,53,56,54,56,55,56,56,56,57,57,48,57,49,57,50,57,51,57,52,57,53,57,54,57,55,57,56,57,57]⟩
def itoaN (n:Nat):ByteArray:=if n<10 then digS.extract n (n+1) else smlS.extract (2*n) (2*n+2)
theorem itoa_all:((List.range 100).all fun a=>(List.range 100).all fun b=>decide (a=b)|| !((itoaN a).data.toList==(itoaN b).data.toList))=true:=by decide+kernel
theorem itoa_inj {a b:Nat} (ha:a<100) (hb:b<100) (h:itoaN a=itoaN b):a=b:=by
 have:=(List.all_eq_true.1 ((List.all_eq_true.1 itoa_all) a (List.mem_range.2 ha))) b (List.mem_range.2 hb)
 rw[h]at this
 simpa using this
section
variable {tab:FuncId→Option AF} (T:HasA tab)
include T
theorem small_p {M:Mem} {K:PV→Mem→Prop} {n:Nat} (hn:n<100) (hk:K (.str (itoaN n)) M):
  SemC tab 110 [p64 n] M K:=by
 refine q18 T.h110 (by simp only[PP,P1,P2,P3,P4,P5,P6,P7,P8,P9,P10,P11,P12,P13,P14,L1,P15,N1,N2,N3,N4,N5,N6,N7,I1,I2,I3,I4,I5,I6,I7,reduceIte,reduceCtorEq]) ?_
 simp only[af110,PP,P1,P2,P3,P4,P5,P6,P7,P8,P9,P10,P11,P12,P13,P14,L1,P15,N1,N2,N3,N4,N5,N6,N7,I1,I2,I3,I4,I5,I6,I7,reduceIte,reduceCtorEq]
 have w1:IntKind.i64.wrap ((n:Int)+1)=((n+1:Nat):Int):=q49 (by show _<1000000000000;omega)
 have w2:IntKind.i64.wrap ((n:Int)*2)=((2*n:Nat):Int):=by rw[wrap64]<;>omega
 have w3:IntKind.i64.wrap (((2*n:Nat):Int)+2)=((2*n+2:Nat):Int):=by rw[wrap64]<;>omega
 refine QIf.intro (fun c=>?_) (fun c=>?_)
 ·simp only[PP,P1,P2,P3,P4,P5,P6,P7,P8,P9,P10,P11,P12,P13,P14,L1,P15,N1,N2,N3,N4,N5,N6,N7,I1,I2,I3,I4,I5,I6,I7,reduceIte,reduceCtorEq,c,w1,q26,q33,q12,q34,q54,q25,q24,q31,q38,q39,q40,q41,q37,q47,q15,q16,q9,q17,q43,q44,q32,q55,q45,q42,q30,q51,q22,q52,q23,q11,q14,Option.getD]
  refine⟨⟨by omega,by omega,?_⟩,?_⟩
  ·show((n+1:Nat):Int)≤((36:Nat):Int)
   omega
  ·have e:itoaN n=digS.extract n (n+1):=by unfold itoaN;rw[if_pos (by omega)]
   rw[e]at hk
   exact hk
 ·simp only[PP,P1,P2,P3,P4,P5,P6,P7,P8,P9,P10,P11,P12,P13,P14,L1,P15,N1,N2,N3,N4,N5,N6,N7,I1,I2,I3,I4,I5,I6,I7,reduceIte,reduceCtorEq,c,w2,w3,q26,q33,q12,q34,q54,q25,q24,q31,q38,q39,q40,q41,q37,q47,q15,q16,q9,q17,q43,q44,q32,q55,q45,q42,q30,q51,q22,q52,q23,q11,q14,Option.getD]
  refine⟨⟨by omega,by omega,?_⟩,?_⟩
  ·show((2*n+2:Nat):Int)≤((200:Nat):Int)
   omega
  ·have e:itoaN n=smlS.extract (2*n) (2*n+2):=by unfold itoaN;rw[if_neg (by omega)]
   rw[e]at hk
   exact hk
theorem fmtInt_p {M:Mem} {K:PV→Mem→Prop} {n:Nat} (hn:n<100) (hk:K (.str (itoaN n)) M):
  SemC tab 108 [p64 n,p64 10] M K:=by
 refine q18 T.h108 (by simp only[PP,P1,P2,P3,P4,P5,P6,P7,P8,P9,P10,P11,P12,P13,P14,L1,P15,N1,N2,N3,N4,N5,N6,N7,I1,I2,I3,I4,I5,I6,I7,reduceIte,reduceCtorEq]) ?_
 have c1:(0:Int)≤n:=by omega
 have c2:(n:Int)<100:=by omega
 simp only[af108,PP,P1,P2,P3,P4,P5,P6,P7,P8,P9,P10,P11,P12,P13,P14,L1,P15,N1,N2,N3,N4,N5,N6,N7,I1,I2,I3,I4,I5,I6,I7,reduceIte,reduceCtorEq,c1,c2]
 refine small_p T hn ?_
 simp only[PP,P1,P2,P3,P4,P5,P6,P7,P8,P9,P10,P11,P12,P13,P14,L1,P15,N1,N2,N3,N4,N5,N6,N7,I1,I2,I3,I4,I5,I6,I7,reduceIte,reduceCtorEq,q26,q33,q12,q34,q54,q25,q24,q31,q38,q39,q40,q41,q37,q47,q15,q16,q9,q17,q43,q44,q32,q55,q45,q42,q30,q51,q22,q52,q23,q11,q14]
 exact hk
theorem itoa0_p {M:Mem} {K:PV→Mem→Prop} {n:Nat} (hn:n<100) (hk:K (.str (itoaN n)) M):
  SemC tab 100 [p64 n] M K:=by
 refine q18 T.h100 (by simp only[PP,P1,P2,P3,P4,P5,P6,P7,P8,P9,P10,P11,P12,P13,P14,L1,P15,N1,N2,N3,N4,N5,N6,N7,I1,I2,I3,I4,I5,I6,I7,reduceIte,reduceCtorEq]) ?_
 simp only[af100,PP,P1,P2,P3,P4,P5,P6,P7,P8,P9,P10,P11,P12,P13,P14,L1,P15,N1,N2,N3,N4,N5,N6,N7,I1,I2,I3,I4,I5,I6,I7,reduceIte,reduceCtorEq]
 refine fmtInt_p T hn ?_
 simp only[PP,P1,P2,P3,P4,P5,P6,P7,P8,P9,P10,P11,P12,P13,P14,L1,P15,N1,N2,N3,N4,N5,N6,N7,I1,I2,I3,I4,I5,I6,I7,reduceIte,reduceCtorEq,q26,q33,q12,q34,q54,q25,q24,q31,q38,q39,q40,q41,q37,q47,q15,q16,q9,q17,q43,q44,q32,q55,q45,q42,q30,q51,q22,q52,q23,q11,q14]
 exact hk
theorem itoa_p {M:Mem} {K:PV→Mem→Prop} {n:Nat} (hn:n<100) (hk:K (.str (itoaN n)) M):
  SemC tab 83 [p64 n] M K:=by
 refine q18 T.h83 (by simp only[PP,P1,P2,P3,P4,P5,P6,P7,P8,P9,P10,P11,P12,P13,P14,L1,P15,N1,N2,N3,N4,N5,N6,N7,I1,I2,I3,I4,I5,I6,I7,reduceIte,reduceCtorEq]) ?_
 simp only[af83,PP,P1,P2,P3,P4,P5,P6,P7,P8,P9,P10,P11,P12,P13,P14,L1,P15,N1,N2,N3,N4,N5,N6,N7,I1,I2,I3,I4,I5,I6,I7,reduceIte,reduceCtorEq]
 refine itoa0_p T hn ?_
 simp only[PP,P1,P2,P3,P4,P5,P6,P7,P8,P9,P10,P11,P12,P13,P14,L1,P15,N1,N2,N3,N4,N5,N6,N7,I1,I2,I3,I4,I5,I6,I7,reduceIte,reduceCtorEq,q26,q33,q12,q34,q54,q25,q24,q31,q38,q39,q40,q41,q37,q47,q15,q16,q9,q17,q43,q44,q32,q55,q45,q42,q30,q51,q22,q52,q23,q11,q14]
 exact hk
end
def digU (d:Nat):UInt8:=UInt8.ofNat (if d<10 then 48+d else 87+d)
def undU (c:UInt8):Nat:=if c.toNat<58 then c.toNat-48 else c.toNat-87
theorem dig_all:((List.range 16).all fun d=>digS[d]? ==some (digU d)&&undU (digU d)==d)=true:=by decide+kernel
theorem digS_at {d:Nat} (h:d<16):digS[d]? =some (digU d):=by
 have:=List.all_eq_true.1 dig_all d (List.mem_range.2 h)
 rw[Bool.and_eq_true,beq_iff_eq]at this
 exact this.1
theorem und_dig {d:Nat} (h:d<16):undU (digU d)=d:=by
 have:=List.all_eq_true.1 dig_all d (List.mem_range.2 h)
 rw[Bool.and_eq_true,beq_iff_eq,beq_iff_eq]at this
 exact this.2
def sufH (u:Nat):Nat→List UInt8
 | 0=>[]
 | c+1=>digU (u / 16^c % 16)::sufH u c
theorem sufH_len (u:Nat):∀c,(sufH u c).length=c
 | 0=>rfl
 | c+1=>by simp[sufH,sufH_len u c]
def cHf (u:Nat):Nat→Nat→Nat
 | c,0=>c
 | c,f+1=>if u / 16^c<16 then c else cHf u (c+1) f
def cH (u:Nat):Nat:=cHf u 0 15
def hexT (u:Nat):List UInt8:=digU (u / 16^cH u)::sufH u (cH u)
theorem cHf_ok {u:Nat} (hu:u<18446744073709551616):∀(f c:Nat),c+f=15→u / 16^cHf u c f<16∧cHf u c f≤15:=by
 intro f
 induction f with
 | zero=>
  intro c h
  obtain rfl:c=15:=by omega
  have e:(16:Nat)^15*16=18446744073709551616:=by decide
  refine⟨Nat.div_lt_of_lt_mul ?_,Nat.le_refl _⟩
  show u<16^15*16
  rw[e];exact hu
 | succ f ih=>
  intro c h
  unfold cHf
  split
  ·rename_i q;exact⟨q,by omega⟩
  ·exact ih (c+1) (by omega)
theorem div16 (u c:Nat):u / 16^(c+1)=u / 16^c / 16:=by rw[Nat.pow_succ,Nat.div_div_eq_div_mul]
def valH:List UInt8→Nat
 | []=>0
 | c::l=>undU c*16^l.length+valH l
theorem valH_suf (u:Nat):∀c,valH (sufH u c)=u % 16^c
 | 0=>by simp[valH,sufH,Nat.mod_one]
 | c+1=>by
  unfold sufH valH
  rw[und_dig (Nat.mod_lt _ (by decide)),valH_suf u c,sufH_len,Nat.pow_succ,Nat.mod_mul,Nat.mul_comm,Nat.add_comm]
theorem valH_hex {u:Nat} (hu:u<18446744073709551616):valH (hexT u)=u:=by
 have h:=(cHf_ok hu 15 0 rfl).1
 unfold hexT valH
 have h:u / 16^cH u<16:=h
 rw[und_dig h,valH_suf,sufH_len,Nat.mul_comm]
 exact Nat.div_add_mod u _
theorem hexT_inj {u v:Nat} (hu:u<18446744073709551616) (hv:v<18446744073709551616) (h:hexT u=hexT v):u=v:=by
 rw[←valH_hex hu,←valH_hex hv,h]
theorem pand15 {u:Nat} (h:u<18446744073709551616):pbin .and (.int .u64 (u:Int)) (.int .u64 15)=some (.int .u64 ((u % 16:Nat):Int)):=by
 have h1:=pbin_and64 (BitVec.ofNat 64 u) 15#64
 have e1:(BitVec.ofNat 64 u).toNat=u:=by simp;omega
 have e2:(BitVec.ofNat 64 u&&& 15#64).toNat=u % 16:=by
  rw[BitVec.toNat_and,e1]
  exact Nat.and_two_pow_sub_one_eq_mod u 4
 rw[e1,e2]at h1
 exact h1
theorem pshr4 (u:Nat):pbin .shr (.int .u64 (u:Int)) (.int .u64 4)=some (.int .u64 ((u / 16:Nat):Int)):=by
 have:Int.fdiv (u:Int) 16=((u / 16:Nat):Int):=by
  rw[Int.fdiv_eq_ediv_of_nonneg _ (by omega)];rfl
 show some (PV.int .u64 (Int.fdiv (u:Int) 16))=_
 rw[this]
abbrev bytP (l:List UInt8):List PV:=l.map fun c=> .int .u8 ((c.toNat:Nat):Int)
theorem strBytes_map:∀l:List UInt8,strBytes (l.map fun c=> .int .u8 ((c.toNat:Nat):Int))=some l
 | []=>rfl
 | c::l=>by
  have h:=c.toNat_lt
  have e:UInt8.ofNat c.toNat=c:=by simp
  simp only[List.map_cons,strBytes,strBytes_map l]
  rw[if_pos (by omega),Int.toNat_natCast,e]
theorem toAVs_byt:∀l:List UInt8,toAVs (bytP l)=some (l.map fun c=>AV.int .u8 ((c.toNat:Nat):Int))
 | []=>rfl
 | c::l=>by simp only[bytP,List.map_cons,toAVs,toAV0,toAVs_byt l]
theorem pstrB_byt (l:List UInt8):pstrB (bytP l)=some l:=by
 unfold pstrB;rw[toAVs_byt];exact strBytes_map l
theorem rep_set_app (z x:PV) (l:List PV) (m:Nat):(List.replicate (m+1) z++l).set m x=List.replicate m z++x::l:=by
 rw[List.set_append_left _ _ (by simp),List.replicate_succ',List.set_append_right _ _ (by simp)]
 simp
section
variable {tab:FuncId→Option AF} (T:HasA tab)
include T
theorem pow2_p {M:Mem} {K:PV→Mem→Prop} (hk:K (.bool true) M):SemC tab 119 [p64 16] M K:=by
 refine q18 T.h119 (by simp only[PP,P1,P2,P3,P4,P5,P6,P7,P8,P9,P10,P11,P12,P13,P14,L1,P15,N1,N2,N3,N4,N5,N6,N7,I1,I2,I3,I4,I5,I6,I7,reduceIte,reduceCtorEq]) ?_
 have w1:IntKind.i64.wrap (16-1)=15:=rfl
 have w2:pbin .and (p64 16) (.int .i64 (IntKind.i64.wrap 15))=some (.int .i64 0):=rfl
 simp only[af119,PP,P1,P2,P3,P4,P5,P6,P7,P8,P9,P10,P11,P12,P13,P14,L1,P15,N1,N2,N3,N4,N5,N6,N7,I1,I2,I3,I4,I5,I6,I7,reduceIte,reduceCtorEq,w1,w2]
 exact hk
theorem tz16_p {M:Mem} {K:PV→Mem→Prop} (hk:K (p64 4) M):SemC tab 120 [.int .u64 16] M K:=by
 refine q18 T.h120 (by simp only[PP,P1,P2,P3,P4,P5,P6,P7,P8,P9,P10,P11,P12,P13,P14,L1,P15,N1,N2,N3,N4,N5,N6,N7,I1,I2,I3,I4,I5,I6,I7,reduceIte,reduceCtorEq]) ?_
 simp only[af120,PP,P1,P2,P3,P4,P5,P6,P7,P8,P9,P10,P11,P12,P13,P14,L1,P15,N1,N2,N3,N4,N5,N6,N7,I1,I2,I3,I4,I5,I6,I7,reduceIte,reduceCtorEq]
 refine tz_p T (x:=16#64) (k:=4) (tz_at (by decide) (by decide)) ?_
 simp only[PP,P1,P2,P3,P4,P5,P6,P7,P8,P9,P10,P11,P12,P13,P14,L1,P15,N1,N2,N3,N4,N5,N6,N7,I1,I2,I3,I4,I5,I6,I7,reduceIte,reduceCtorEq]
 exact hk
set_option maxHeartbeats 1000000 in
theorem fmtBits_p {K:PV→Mem→Prop} {u:Nat} (hu:u<18446744073709551616) (hk:∀o,K (.tuple [.ref 1 0 1 0 (hexT u).length,.str ⟨#[]⟩]) [o,.cells 0 0 (bytP (hexT u))]):
  SemC tab 113 [.nils,.int .u64 u,p64 16,.bool false,.bool true] [] K:=by
 refine SemC_fn T.h113 ?_
 simp only[af113,PP,P1,P2,P3,P4,P5,P6,P7,P8,P9,P10,P11,P12,P13,P14,L1,P15,N1,N2,N3,N4,N5,N6,N7,I1,I2,I3,I4,I5,I6,I7,reduceIte,reduceCtorEq]
 refine pow2_p T ?_
 have u16:IntKind.u64.wrap 16=16:=rfl
 have u4:IntKind.u64.wrap 4=4:=rfl
 have u15:IntKind.u64.wrap (16-1)=15:=rfl
 simp only[PP,P1,P2,P3,P4,P5,P6,P7,P8,P9,P10,P11,P12,P13,P14,L1,P15,N1,N2,N3,N4,N5,N6,N7,I1,I2,I3,I4,I5,I6,I7,reduceIte,reduceCtorEq,u16]
 refine tz16_p T ?_
 have u15':IntKind.u64.wrap 15=15:=rfl
 simp only[PP,P1,P2,P3,P4,P5,P6,P7,P8,P9,P10,P11,P12,P13,P14,L1,P15,N1,N2,N3,N4,N5,N6,N7,I1,I2,I3,I4,I5,I6,I7,reduceIte,reduceCtorEq,u16,u4,u15,u15']
 have hdl:∀d:Nat,d<16→(ByteArray.mk #[48,49,50,51,52,53,54,55,56,57,97,98,99,100,101,102,103,104,105,106,107,108,109,110,111,112,113,114,115,116,117,118,119,120,121,122])[d]? =some (digU d):=fun d hd=>digS_at hd
 refine loop2 (fun(c v:Nat)=>c≤15∧cHf u c (15-c)=cH u) (fun c v=>[.nils,.int .u64 ((u / 16^c:Nat):Int),Zj,.bool false,.bool true,Zj,Zj,Zj,Zj,Zj,.nils,.str ⟨#[]⟩,.ptr 0 0 0,p64 (65-c:Nat),.int .u64 4,.int .u64 16,.int .u64 15,Zj,Zj,Zj,Zj,Zj,Zj,Zj,Zj,Zj,Zj,Zj,Zj,Zj,Zj,Zj,Zj,Zj,Zj,Zj,Zj,Zj,Zj,Zj,Zj,Zj,Zj,Zj,Zj,Zj,Zj,Zj,Zj,Zj,Zj,Zj,Zj,Zj,Zj,Zj,Zj,Zj,Zj,Zj,Zj,Zj,Zj,Zj,Zj,Zj,Zj,Zj,Zj,Zj,Zj,Zj,Zj,Zj,Zj,Zj,Zj,Zj,Zj,Zj,Zj,Zj,Zj,Zj,Zj,Zj,Zj,Zj,Zj,Zj,Zj,Zj,Zj,Zj,Zj,Zj,Zj,Zj,Zj,Zj,Zj,Zj])
  (fun c v=>[.cells 0 v (List.replicate (65-c) (.int .u8 0)++bytP (sufH u c))]) (fun c v=>15-c) 0 0 ⟨by omega,rfl⟩ (by simp only[Nat.pow_zero,Nat.div_one,Nat.sub_zero,Int.cast_ofNat_Int,PW]) rfl ?_
 intro c v ⟨hc,hch⟩ ih
 have hq:u / 16^c<18446744073709551616:=Nat.lt_of_le_of_lt (Nat.div_le_self _ _) hu
 have hi:IntKind.i64.wrap (((65-c:Nat):Int)-1)=((65-(c+1):Nat):Int):=by rw[wrap64 (by omega) (by omega)];omega
 obtain⟨m,hm⟩:∃m,65-c=m+1:=⟨65-c-1,by omega⟩
 have hm2:65-(c+1)=m:=by omega
 have i0:(0:Int)≤(m:Int):=by omega
 have i1:(m:Int)<65:=by omega
 rw[hm,hm2]at hi
 refine q48 (by kernel_rfl) ?_
 simp only[PP,P1,P2,P3,P4,P5,P6,P7,P8,P9,P10,P11,P12,P13,P14,L1,P15,N1,N2,N3,N4,N5,N6,N7,I1,I2,I3,I4,I5,I6,I7,reduceIte,reduceCtorEq]
 refine QIf.intro (fun d=>?_) (fun d=>?_)
 ·have hd16:¬u / 16^c<16:=by omega
  have hc15:c<15:=by
   refine Classical.byContradiction fun q=>?_
   obtain rfl:c=15:=by omega
   have:=(cHf_ok hu 0 15 rfl).1
   exact hd16 this
  have hnext:cHf u (c+1) (15-(c+1))=cH u:=by
   rw[←hch,show 15-c=15-(c+1)+1 by omega]
   show _=if _ then _ else _
   rw[if_neg hd16]
  have a15:=pand15 hq
  have s4:=pshr4 (u / 16^c)
  have hdig:=hdl (u / 16^c % 16) (Nat.mod_lt _ (by decide))
  have k0:(0:Int)≤((u / 16^c % 16:Nat):Int):=by omega
  simp only[PP,P1,P2,P3,P4,P5,P6,P7,P8,P9,P10,P11,P12,P13,P14,L1,P15,N1,N2,N3,N4,N5,N6,N7,I1,I2,I3,I4,I5,I6,I7,reduceIte,reduceCtorEq,d,hm,hi,a15,s4,q26,q33,q12,q34,q54,q25,q24,q31,q38,q39,q40,q41,q37,q47,q15,q16,q9,q17,q43,q44,q32,q55,q45,q42,q30,q51,q22,q52,q23,q11,q14,hdig,k0,i0,i1]
  have hrs:((PV.int .u8 0)::(List.replicate m (.int .u8 0)++bytP (sufH u c))).set m (.int .u8 (((digU (u / 16^c % 16)).toNat:Nat):Int))=List.replicate m (.int .u8 0)++(.int .u8 (((digU (u / 16^c % 16)).toNat:Nat):Int))::bytP (sufH u c):=rep_set_app _ _ _ m
  refine⟨by omega,SemW_to (ih (c+1) (v+1) ⟨by omega,hnext⟩ (by omega)) (by simp only[div16,hm2,PW]) ?_⟩
  rw[hrs,hm2];rfl
 ·have hd16:u / 16^c<16:=by omega
  have hcc:c=cH u:=by
   rw[←hch]
   cases hf:15-c with
   | zero=>rfl
   | succ f=>
    show c=if _ then _ else _
    rw[if_pos hd16]
  have hdig:=hdl (u / 16^c) hd16
  have k0:(0:Int)≤((u / 16^c:Nat):Int):=Int.natCast_nonneg _
  have hrs:((PV.int .u8 0)::(List.replicate m (.int .u8 0)++bytP (sufH u c))).set m (.int .u8 (((digU (u / 16^c)).toNat:Nat):Int))=List.replicate m (.int .u8 0)++(.int .u8 (((digU (u / 16^c)).toNat:Nat):Int))::bytP (sufH u c):=rep_set_app _ _ _ m
  have hsl:=sufH_len u c
  have t1:(65-(m:Int)).toNat=c+1:=by omega
  have hl:bytP (hexT u)=PV.int .u8 (((digU (u / 16^c)).toNat:Nat):Int)::bytP (sufH u c):=by unfold hexT;rw[←hcc];rfl
  have hlen:(hexT u).length=c+1:=by unfold hexT;rw[←hcc,List.length_cons,hsl]
  have hps:psub (List.replicate m (PV.int .u8 0)++PV.int .u8 (((digU (u / 16^c)).toNat:Nat):Int)::bytP (sufH u c)) m (c+1)=bytP (hexT u):=by
   rw[hl]
   unfold psub
   rw[List.drop_append_of_le_length (by simp),List.drop_eq_nil_of_le (by simp),List.nil_append,List.take_of_length_le (by simp[hsl])]
  have hone:(bytP (hexT u)).all PV.one=true:=List.all_eq_true.2 fun x hx=>by obtain⟨y,_,rfl⟩:=List.mem_map.1 hx;rfl
  simp only[PP,P1,P2,P3,P4,P5,P6,P7,P8,P9,P10,P11,P12,P13,P14,L1,P15,N1,N2,N3,N4,N5,N6,N7,I1,I2,I3,I4,I5,I6,I7,reduceIte,reduceCtorEq,d,hm,hi,q26,q33,q12,q34,q54,q25,q24,q31,q38,q39,q40,q41,q37,q47,q15,q16,q9,q17,q43,q44,q32,q55,q45,q42,q30,q51,q22,q52,q23,q11,q14,hdig,k0,i0,i1,hrs,t1,hps,hone]
  have:=hk (.cells 0 (v+1) (List.replicate m (.int .u8 0)++ .int .u8 (((digU (u / 16^c)).toNat:Nat):Int)::bytP (sufH u c)))
  rw[hlen]at this
  exact⟨by omega,⟨by omega,by omega⟩,by omega,⟨by omega,by omega⟩,this⟩
theorem appU0_p {K:PV→Mem→Prop} {u:Nat} (hu:u<18446744073709551616) (hk:∀o,K (.ref 1 0 1 0 (hexT u).length) [o,.cells 0 0 (bytP (hexT u))]):
  SemC tab 103 [.nils,.int .u64 u,p64 16] [] K:=by
 refine SemC_fn T.h103 ?_
 simp only[af103,PP,P1,P2,P3,P4,P5,P6,P7,P8,P9,P10,P11,P12,P13,P14,L1,P15,N1,N2,N3,N4,N5,N6,N7,I1,I2,I3,I4,I5,I6,I7,reduceIte,reduceCtorEq]
 refine fmtBits_p T hu fun o=>?_
 simp only[PP,P1,P2,P3,P4,P5,P6,P7,P8,P9,P10,P11,P12,P13,P14,L1,P15,N1,N2,N3,N4,N5,N6,N7,I1,I2,I3,I4,I5,I6,I7,reduceIte,reduceCtorEq]
 exact hk o
theorem appU_p {K:PV→Mem→Prop} {u:Nat} (hu:u<18446744073709551616) (hk:∀o,K (.ref 1 0 1 0 (hexT u).length) [o,.cells 0 0 (bytP (hexT u))]):
  SemC tab 92 [.nils,.int .u64 u,p64 16] [] K:=by
 refine SemC_fn T.h92 ?_
 simp only[af92,PP,P1,P2,P3,P4,P5,P6,P7,P8,P9,P10,P11,P12,P13,P14,L1,P15,N1,N2,N3,N4,N5,N6,N7,I1,I2,I3,I4,I5,I6,I7,reduceIte,reduceCtorEq]
 refine appU0_p T hu fun o=>?_
 simp only[PP,P1,P2,P3,P4,P5,P6,P7,P8,P9,P10,P11,P12,P13,P14,L1,P15,N1,N2,N3,N4,N5,N6,N7,I1,I2,I3,I4,I5,I6,I7,reduceIte,reduceCtorEq]
 exact hk o
end
theorem SemC_wkA {tab:FuncId→Option AF} {g:FuncId} {args args2:List PV} {M:Mem} {K:PV→Mem→Prop} (hw:∀w l,RepL w args l→RepL w args2 l) (h:SemC tab g args2 M K):SemC tab g args M K:=
 fun w hh args' h0 s ha=>h w hh args' h0 s (hw w args' ha)
def keyB (w:BitVec 64):ByteArray:=if w=0#64 then⟨#[]⟩ else⟨(hexT w.toNat++[32]).toArray⟩
theorem keyB_inj {x y:BitVec 64} (h:keyB x=keyB y):x=y:=by
 unfold keyB at h
 by_cases hx:x=0#64<;>by_cases hy:y=0#64
 ·rw[hx,hy]
 ·rw[if_pos hx,if_neg hy]at h
  have:=congrArg (fun b:ByteArray=>b.data.toList) h
  simp at this
 ·rw[if_neg hx,if_pos hy]at h
  have:=congrArg (fun b:ByteArray=>b.data.toList) h
  simp at this
 ·rw[if_neg hx,if_neg hy]at h
  have:=congrArg (fun b:ByteArray=>b.data.toList) h
  simp only at this
  have:=List.append_inj_left' this rfl
  exact BitVec.eq_of_toNat_eq (hexT_inj x.isLt y.isLt this)
theorem trim_top (a:Wd):trim a=[]∨wAt (trim a) ((trim a).length-1)≠0#64:=by
 have hle:=trimN_le a a.length
 have hl:(trim a).length=trimN a a.length:=by unfold trim;rw[List.length_take];omega
 rcases trimN_top a a.length with h | h
 ·left
  exact List.length_eq_zero_iff.1 (by omega)
 ·right
  rw[hl,trim_at];exact h
theorem canon_one {s:Wd} (hs:s.length≤64) (hb:∀k,bit s k=true→k<64):cmb (fun x y=>x||| y) s []=if wAt s 0=0#64 then [] else [wAt s 0]:=by
 have hat:∀i,wAt (cmb (fun x y=>x||| y) s []) i=wAt s i:=fun i=>by
  rw[cmb_at (by simp) hs (by simp)]
  have:wAt ([]:Wd) i=0#64:=wAt_ge (by simp)
  rw[this];simp
 have hz:∀i,0<i→wAt s i=0#64:=fun i hi=>BitVec.eq_of_getLsbD_eq fun j hj=>by
  cases hx:(wAt s i).getLsbD j with
  | false=>simp
  | true=>
   have:bit s (64*i+j)=true:=by
    unfold bit
    rw[show(64*i+j) / 64=i by omega,show(64*i+j) % 64=j by omega];exact hx
   have:=hb _ this
   omega
 have ht:=trim_top (cmbL (fun x y=>x||| y) s [] (min (max s.length 0) 64))
 have hc:cmb (fun x y=>x||| y) s []=trim (cmbL (fun x y=>x||| y) s [] (min (max s.length 0) 64)):=rfl
 rw[←hc]at ht
 generalize cmb (fun x y=>x||| y) s []=c at hat ht
 rcases ht with rfl | ht
 ·have:=hat 0
  have e:wAt ([]:Wd) 0=0#64:=wAt_ge (by simp)
  rw[e]at this
  rw[if_pos this.symm]
 ·rw[hat]at ht
  have hl:c.length-1=0:=Classical.byContradiction fun q=>ht (hz _ (by omega))
  rw[hl]at ht
  rw[if_neg ht]
  match c,hl with
  | [],_=>
   have:=hat 0
   have e:wAt ([]:Wd) 0=0#64:=wAt_ge (by simp)
   rw[e]at this
   exact absurd this.symm ht
  | [x],_=>
   have:=hat 0
   rw[←this];rfl
  | x::y::l,h=>simp at h
section
variable {tab:FuncId→Option AF} (T:HasA tab)
include T
theorem canon_p {M:Mem} {K:PV→Mem→Prop} {f o:Bool} {s:Wd} (hs:s.length≤64) (hk:K (slW false true (cmb (fun x y=>x||| y) s [])) M):
  SemC tab 91 [slW f o s] M K:=by
 refine q18 T.h91 (by simp only[PP,P1,P2,P3,P4,P5,P6,P7,P8,P9,P10,P11,P12,P13,P14,L1,P15,N1,N2,N3,N4,N5,N6,N7,I1,I2,I3,I4,I5,I6,I7,reduceIte,reduceCtorEq]) ?_
 simp only[af91,PP,P1,P2,P3,P4,P5,P6,P7,P8,P9,P10,P11,P12,P13,P14,L1,P15,N1,N2,N3,N4,N5,N6,N7,I1,I2,I3,I4,I5,I6,I7,reduceIte,reduceCtorEq]
 refine SemC_wkA (args2:=[slW f o s,slW true true []]) ?_ (union_p T (by show _<1000000000000;omega) (by show 0<1000000000000;omega) ?_)
 ·intro w l h
  match l,h with
  | [x,y],h=>exact .cons h.hd (.cons (PvWk.nils true true 1 w y h.tl.hd) (.nil w))
 simp only[PP,P1,P2,P3,P4,P5,P6,P7,P8,P9,P10,P11,P12,P13,P14,L1,P15,N1,N2,N3,N4,N5,N6,N7,I1,I2,I3,I4,I5,I6,I7,reduceIte,reduceCtorEq]
 exact hk
set_option maxHeartbeats 1000000 in
theorem key_p {M:Mem} {K:PV→Mem→Prop} {f o:Bool} {s:Wd} (hs:s.length≤64) (hb:∀k,bit s k=true→k<64) (hk:K (.str (keyB (wAt s 0))) M):
  SemC tab 65 [slW f o s] M K:=by
 refine SemC_pureS T.h65 (by simp only[PP,P1,P2,P3,P4,P5,P6,P7,P8,P9,P10,P11,P12,P13,P14,L1,P15,N1,N2,N3,N4,N5,N6,N7,I1,I2,I3,I4,I5,I6,I7,reduceIte,reduceCtorEq]) ?_
 simp only[af65]
 refine q13 ?_
 simp only[PP,P1,P2,P3,P4,P5,P6,P7,P8,P9,P10,P11,P12,P13,P14,L1,P15,N1,N2,N3,N4,N5,N6,N7,I1,I2,I3,I4,I5,I6,I7,reduceIte,reduceCtorEq]
 refine canon_p T hs ?_
 rw[canon_one hs hb]
 unfold keyB at hk
 by_cases hw:wAt s 0=0#64
 ·rw[if_pos hw]at hk ⊢
  simp only[PP,P1,P2,P3,P4,P5,P6,P7,P8,P9,P10,P11,P12,P13,P14,L1,P15,N1,N2,N3,N4,N5,N6,N7,I1,I2,I3,I4,I5,I6,I7,reduceIte,reduceCtorEq]
  refine q35 (b:=[Zj,Zj,Zj,.nils,Zj,Zj,Zj,slW false true [],p64 0,p64 0,Zj,Zj,Zj,Zj,Zj,Zj,Zj,Zj,Zj,Zj,Zj,Zj]) ?_ (by simp only[PW])
  refine q48 (by kernel_rfl) ?_
  simp only[PP,P1,P2,P3,P4,P5,P6,P7,P8,P9,P10,P11,P12,P13,P14,L1,P15,N1,N2,N3,N4,N5,N6,N7,I1,I2,I3,I4,I5,I6,I7,reduceIte,reduceCtorEq,q26,q33,q12,q34,q54,q25,q24,q31,q38,q39,q40,q41,q37,q47,q15,q16,q9,q17,q43,q44,q32,q55,q45,q42,q30,q51,q22,q52,q23,q11,q14]
  exact hk
 ·rw[if_neg hw]at hk ⊢
  simp only[PP,P1,P2,P3,P4,P5,P6,P7,P8,P9,P10,P11,P12,P13,P14,L1,P15,N1,N2,N3,N4,N5,N6,N7,I1,I2,I3,I4,I5,I6,I7,reduceIte,reduceCtorEq]
  refine q35 (b:=[Zj,Zj,Zj,.nils,Zj,Zj,Zj,slW false true [wAt s 0],p64 1,p64 0,Zj,Zj,Zj,Zj,Zj,Zj,Zj,Zj,Zj,Zj,Zj,Zj]) ?_ (by simp only[PW])
  refine q48 (by kernel_rfl) ?_
  simp only[PP,P1,P2,P3,P4,P5,P6,P7,P8,P9,P10,P11,P12,P13,P14,L1,P15,N1,N2,N3,N4,N5,N6,N7,I1,I2,I3,I4,I5,I6,I7,reduceIte,reduceCtorEq,q26,q33,q12,q34,q54,q25,q24,q31,q38,q39,q40,q41,q37,q47,q15,q16,q9,q17,q43,q44,q32,q55,q45,q42,q30,q51,q22,q52,q23,q11,q14]
  have hlt:=(wAt s 0).isLt
  have hhl:(hexT (wAt s 0).toNat).length≤16:=by
   have:=(cHf_ok hlt 15 0 rfl).2
   unfold hexT
   rw[List.length_cons,sufH_len]
   show cHf _ 0 15+1≤16
   omega
  refine appU_p T hlt fun ob=>?_
  have b1:(hexT (wAt s 0).toNat).length+1≤140737488355328:=by omega
  have b2:(hexT (wAt s 0).toNat).length+1≤9223372036854775807:=by omega
  have w1:IntKind.i64.wrap (0+1)=1:=rfl
  have w1':IntKind.i64.wrap 1=1:=rfl
  simp only[PP,P1,P2,P3,P4,P5,P6,P7,P8,P9,P10,P11,P12,P13,P14,L1,P15,N1,N2,N3,N4,N5,N6,N7,I1,I2,I3,I4,I5,I6,I7,reduceIte,reduceCtorEq,q26,q33,q12,q34,q54,q25,q24,q31,q38,q39,q40,q41,q37,q47,q15,q16,q9,q17,q43,q44,q32,q55,q45,q42,q30,q51,q22,q52,q23,q11,q14,b1,b2,w1,w1']
  refine q35 (b:=[Zj,Zj,Zj,.ref 1 1 1 0 ((hexT (wAt s 0).toNat).length+1),Zj,Zj,Zj,slW false true [wAt s 0],p64 1,p64 1,Zj,Zj,Zj,Zj,Zj,Zj,Zj,Zj,Zj,Zj,Zj,Zj]) ?_ (by simp only[PW])
  refine q48 (by kernel_rfl) ?_
  have hp:pstrB (psub (bytP (hexT (wAt s 0).toNat)++[.int .u8 32]) 0 ((hexT (wAt s 0).toNat).length+1))=some (hexT (wAt s 0).toNat++[32]):=by
   rw[q63 _ _ (by simp)]
   have e:bytP (hexT (wAt s 0).toNat)++[.int .u8 32]=bytP (hexT (wAt s 0).toNat++[32]):=by simp[bytP]
   rw[e];exact pstrB_byt _
  simp only[PP,P1,P2,P3,P4,P5,P6,P7,P8,P9,P10,P11,P12,P13,P14,L1,P15,N1,N2,N3,N4,N5,N6,N7,I1,I2,I3,I4,I5,I6,I7,reduceIte,reduceCtorEq,q26,q33,q12,q34,q54,q25,q24,q31,q38,q39,q40,q41,q37,q47,q15,q16,q9,q17,q43,q44,q32,q55,q45,q42,q30,q51,q22,q52,q23,q11,q14,hp]
  exact hk
end
theorem drop_cons {α:Type} {l t:List α} {c:Nat} {a:α} (h:l.drop c=a::t):l[c]? =some a∧l.drop (c+1)=t:=by
 constructor
 ·have:(l.drop c)[0]? =some a:=by rw[h];rfl
  simpa [List.getElem?_drop] using this
 ·have:(l.drop c).drop 1=t:=by rw[h];rfl
  rw[List.drop_drop]at this;exact this
def sufW (s:Wd) (i:Nat):List Nat:=((List.range s.length).drop i).flatMap fun i=>(bitsW (wAt s i)).map fun k=>64*i+k
theorem sufW_cons {s:Wd} {i:Nat} (h:i<s.length):sufW s i=(bitsW (wAt s i)).map (fun k=>64*i+k)++sufW s (i+1):=by
 unfold sufW
 rw[List.drop_eq_getElem_cons (by simpa using h),List.flatMap_cons]
 simp
theorem sufW_end {s:Wd} {i:Nat} (h:s.length≤i):sufW s i=[]:=by
 unfold sufW;rw[List.drop_eq_nil_of_le (by simpa using h)];rfl
theorem natI_snoc' (o:List Nat) (b:Nat):natI (o++[b])=natI o++[(b:Int)]:=by simp
theorem listW_len (s:Wd):(listW s).length≤64*s.length:=by
 have key:∀n,((List.range n).flatMap fun i=>(bitsW (wAt s i)).map fun k=>64*i+k).length≤64*n:=by
  intro n
  induction n with
  | zero=>simp
  | succ n ih=>
   rw[List.range_succ,List.flatMap_append,List.length_append]
   have:(bitsW (wAt s n)).length≤64:=by unfold bitsW;exact Nat.le_trans (List.length_filter_le _ _) (by simp)
   simp only[List.flatMap_cons,List.flatMap_nil,List.append_nil,List.length_map]
   omega
 exact key s.length
section
variable {tab:FuncId→Option AF} (T:HasA tab)
include T
set_option maxHeartbeats 1000000 in
theorem elY_p {M:Mem} {K:PV→Mem→Prop} {L:Nat} {f o:Bool} {s:Wd} (hs:s.length≤64) (J:Nat→Mem→Prop) (h0:J 0 M)
  (hl:∀k G,J k G→∃ver r,G[L]? =some (.loop ver r))
  (hy:∀k G e,J k G→(listW s)[k]? =some e→∀K':PV→Mem→Prop,(∀G',J (k+1) G'→K' (.bool true) G')→SemY tab L [p64 e] G K')
  (hk:∀G,J (listW s).length G→K (.tuple []) G):
  SemC tab 98 [.yld L [],.cp [slW f o s] 0] M K:=by
 refine SemC_fn T.h98 ?_
 have hmn:min (s.length:Int) 64=s.length:=by omega
 have n0:(0:Int)≤s.length:=by omega
 have n1:((s.length:Int)-0).toNat=s.length:=by omega
 have hps:psub ((wI s).map (PV.int .u64)) 0 s.length=(wI s).map (PV.int .u64):=q63 _ _ (by simp)
 simp only[af98,PP,P1,P2,P3,P4,P5,P6,P7,P8,P9,P10,P11,P12,P13,P14,L1,P15,N1,N2,N3,N4,N5,N6,N7,I1,I2,I3,I4,I5,I6,I7,reduceIte,reduceCtorEq,pmin2,hmn,n0,n1,hps,List.length_map]
 generalize (if o=true then false else f)=f'
 refine⟨Int.le_refl _,?_⟩
 refine loop3 (fun(i c:Nat) (G:Mem)=>i≤s.length∧J c G∧c≤(listW s).length∧(listW s).drop c=sufW s i) (fun i c G=>[.yld L [],Zj,Zj,Zj,Zj,Zj,Zj,Zj,Zj,slW f' o s,p64 s.length,p64 i,Zj,Zj,Zj,Zj,Zj,Zj,Zj,Zj,Zj,Zj,Zj,Zj,Zj,Zj,Zj,Zj,Zj,Zj,Zj]) (fun _ _ G=>G) (fun i _ _=>s.length-i) 0 0 M ⟨by omega,h0,Nat.zero_le _,rfl⟩ (by simp only[PW]) rfl ?_
 intro i c G ⟨hle,hJ,hcl,hdr⟩ ih
 refine q48 (by kernel_rfl) ?_
 simp only[PP,P1,P2,P3,P4,P5,P6,P7,P8,P9,P10,P11,P12,P13,P14,L1,P15,N1,N2,N3,N4,N5,N6,N7,I1,I2,I3,I4,I5,I6,I7,reduceIte,reduceCtorEq]
 refine QIf.intro (fun q=>?_) (fun q=>?_)
 rotate_left
 ·rw[sufW_end (by omega)]at hdr
  have:c=(listW s).length:=by
   have:=congrArg List.length hdr
   simp at this;omega
  subst this
  simp only[PP,P1,P2,P3,P4,P5,P6,P7,P8,P9,P10,P11,P12,P13,P14,L1,P15,N1,N2,N3,N4,N5,N6,N7,I1,I2,I3,I4,I5,I6,I7,reduceIte,reduceCtorEq,q]
  exact hk G hJ
 have hi:i<s.length:=by omega
 have i0:(0:Int)≤i:=by omega
 have gw:=wI_get hi
 have wi:=q49 (k:=i) (by show _<1000000000000;omega)
 simp only[PP,P1,P2,P3,P4,P5,P6,P7,P8,P9,P10,P11,P12,P13,P14,L1,P15,N1,N2,N3,N4,N5,N6,N7,I1,I2,I3,I4,I5,I6,I7,reduceIte,reduceCtorEq,q,i0,gw]
 rw[sufW_cons hi]at hdr
 refine loop3 (fun(x:BitVec 64) (c:Nat) (G:Mem)=>J c G∧c≤(listW s).length∧(listW s).drop c=(bitsW x).map (fun k=>64*i+k)++sufW s (i+1)) (fun x c G=>[.yld L [],Zj,Zj,p64 i,p64u x,Zj,Zj,Zj,Zj,slW f' o s,p64 s.length,p64 i,Zj,Zj,Zj,Zj,Zj,Zj,Zj,Zj,Zj,Zj,Zj,Zj,Zj,Zj,Zj,Zj,Zj,Zj,Zj]) (fun _ _ G=>G) (fun x _ _=>(bitsW x).length) (wAt s i) c G ⟨hJ,hcl,hdr⟩ (by simp only[PW]) rfl ?_
 intro x c G ⟨hJ,hcl,hdr⟩ ih2
 refine q48 (by kernel_rfl) ?_
 simp only[PP,P1,P2,P3,P4,P5,P6,P7,P8,P9,P10,P11,P12,P13,P14,L1,P15,N1,N2,N3,N4,N5,N6,N7,I1,I2,I3,I4,I5,I6,I7,reduceIte,reduceCtorEq]
 by_cases hx:x=0#64
 ·subst hx
  rw[bitsW_zero]at hdr
  have z:(((0#64:BitVec 64).toNat:Nat):Int)=0:=rfl
  simp only[PP,P1,P2,P3,P4,P5,P6,P7,P8,P9,P10,P11,P12,P13,P14,L1,P15,N1,N2,N3,N4,N5,N6,N7,I1,I2,I3,I4,I5,I6,I7,reduceIte,reduceCtorEq,z,wi]
  exact q35 (ih (i+1) c G ⟨by omega,hJ,hcl,hdr⟩ (by omega)) (by simp only[PW])
 ·obtain⟨k,hk64,hb,htz⟩:=bitsW_cons hx
  have z:¬(((x.toNat:Nat):Int)=0):=fun h=>hx (by apply BitVec.eq_of_toNat_eq;simp;omega)
  rw[hb,List.map_cons,List.cons_append]at hdr
  obtain⟨d1,d2⟩:=drop_cons hdr
  have w1:IntKind.i64.wrap (64*(i:Int))=((64*i:Nat):Int):=by rw[wrap64]<;>omega
  have w2:IntKind.i64.wrap (((64*i:Nat):Int)+k)=((64*i+k:Nat):Int):=by rw[wrap64]<;>omega
  have w3:=sub_one_u64 hx
  have w4:pbin .and (p64u x) (p64u (x-1#64))=some (p64u (clrW x)):=pbin_and64 x (x-1#64)
  simp only[PP,P1,P2,P3,P4,P5,P6,P7,P8,P9,P10,P11,P12,P13,P14,L1,P15,N1,N2,N3,N4,N5,N6,N7,I1,I2,I3,I4,I5,I6,I7,reduceIte,reduceCtorEq,z]
  refine tz_p T htz ?_
  simp only[PP,P1,P2,P3,P4,P5,P6,P7,P8,P9,P10,P11,P12,P13,P14,L1,P15,N1,N2,N3,N4,N5,N6,N7,I1,I2,I3,I4,I5,I6,I7,reduceIte,reduceCtorEq,w1,w2,QCall_yl]
  refine⟨hl _ _ hJ,hy c G _ hJ d1 _ fun G' hJ'=>?_⟩
  simp only[PP,P1,P2,P3,P4,P5,P6,P7,P8,P9,P10,P11,P12,P13,P14,L1,P15,N1,N2,N3,N4,N5,N6,N7,I1,I2,I3,I4,I5,I6,I7,reduceIte,reduceCtorEq,w3,w4]
  have hc2:c+1≤(listW s).length:=q27 d1
  exact q35 (ih2 (clrW x) (c+1) G' ⟨hJ',hc2,d2⟩ (by rw[hb];simp)) (by simp only[PW])
theorem elements_p {M:Mem} {K:PV→Mem→Prop} {f o:Bool} {s:Wd} (hk:K (.func (.func 98) [] [.cp [slW f o s] 0]) M):
  SemC tab 81 [slW f o s] M K:=by
 refine SemC_pureS T.h81 (by simp only[PP,P1,P2,P3,P4,P5,P6,P7,P8,P9,P10,P11,P12,P13,P14,L1,P15,N1,N2,N3,N4,N5,N6,N7,I1,I2,I3,I4,I5,I6,I7,reduceIte,reduceCtorEq]) ?_
 simp only[af81]
 refine q28 (q13 ?_)
 simp only[PP,P1,P2,P3,P4,P5,P6,P7,P8,P9,P10,P11,P12,P13,P14,L1,P15,N1,N2,N3,N4,N5,N6,N7,I1,I2,I3,I4,I5,I6,I7,reduceIte,reduceCtorEq]
 refine SemW_re (GStep.freezeP (b:=[Zj,.cp [slW f o s] 0,.nilfunc,Zj]) 0 (Nat.zero_le _) rfl (by simp only[PFrzP_nil,PFrzP_junk,PFrzP_same,PFrzP_ptr]) rfl) ?_
 refine q13 ?_
 have e:∀N':Mem,pfrz 0 N' (.func (.func 98) [] [.cp [slW f o s] 0])=some (.func (.func 98) [] [.cp [slW f o s] 0]):=fun N'=>pfrz1_func' (M:=N') (by simp only[PP,P1,P2,P3,P4,P5,P6,P7,P8,P9,P10,P11,P12,P13,P14,L1,P15,N1,N2,N3,N4,N5,N6,N7,I1,I2,I3,I4,I5,I6,I7,reduceIte,reduceCtorEq,PV.under])
 simp only[PP,P1,P2,P3,P4,P5,P6,P7,P8,P9,P10,P11,P12,P13,P14,L1,P15,N1,N2,N3,N4,N5,N6,N7,I1,I2,I3,I4,I5,I6,I7,reduceIte,reduceCtorEq,e]
 exact hk
set_option maxHeartbeats 1000000 in
theorem list_p {M:Mem} {K:PV→Mem→Prop} {f o:Bool} {s:Wd} (hs:s.length≤64) (hk:K (slI false true .i64 (natI (listW s))) M):
  SemC tab 38 [slW f o s] M K:=by
 have hlen:=listW_len s
 refine SemC_pureS T.h38 (by simp only[PP,P1,P2,P3,P4,P5,P6,P7,P8,P9,P10,P11,P12,P13,P14,L1,P15,N1,N2,N3,N4,N5,N6,N7,I1,I2,I3,I4,I5,I6,I7,reduceIte,reduceCtorEq]) ?_
 simp only[af38]
 refine q28 (q13 ?_)
 simp only[PP,P1,P2,P3,P4,P5,P6,P7,P8,P9,P10,P11,P12,P13,P14,L1,P15,N1,N2,N3,N4,N5,N6,N7,I1,I2,I3,I4,I5,I6,I7,reduceIte,reduceCtorEq]
 refine SemW_re (GStep.nilbox 0 0 1 (g:=0) (ver:=0) (cs:=[.nils]) rfl rfl rfl) ?_
 refine q13 ?_
 simp only[PP,P1,P2,P3,P4,P5,P6,P7,P8,P9,P10,P11,P12,P13,P14,L1,P15,N1,N2,N3,N4,N5,N6,N7,I1,I2,I3,I4,I5,I6,I7,reduceIte,reduceCtorEq]
 refine elements_p T ?_
 simp only[PP,P1,P2,P3,P4,P5,P6,P7,P8,P9,P10,P11,P12,P13,P14,L1,P15,N1,N2,N3,N4,N5,N6,N7,I1,I2,I3,I4,I5,I6,I7,reduceIte,reduceCtorEq]
 refine q35 (b:=[Zj,Zj,.ptr 0 0 0,Zj,Zj,.func (.func 98) [] [.cp [slW f o s] 0],Zj,Zj,Zj,Zj,Zj,Zj]) ?_ (by simp only[PW])
 refine SemW_rangeN rfl (fun lp q1 q2 q3 q4 q5 q6=>?_)
 simp only[PP,P1,P2,P3,P4,P5,P6,P7,P8,P9,P10,P11,P12,P13,P14,L1,P15,N1,N2,N3,N4,N5,N6,N7,I1,I2,I3,I4,I5,I6,I7,reduceIte,reduceCtorEq]
 refine elY_p T (L:=2) hs (fun k G=>k≤(listW s).length∧∃ver v g,G=[.cells 0 v [.ref 1 g 1 0 k],.cells g 0 ((natI ((listW s).take k)).map p64),.loop ver lp])
  ⟨Nat.zero_le _,0,0,0,rfl⟩ ?_ ?_ ?_
 ·rintro k G ⟨_,ver,v,g,rfl⟩
  exact⟨ver,lp,rfl⟩
 ·rintro k G e ⟨hkl,ver,v,g,rfl⟩ hat K' hK'
  have hk1:=q27 hat
  refine SemY_run (ver:=ver) (r:=lp) rfl (by rw[q4];rfl) ?_
  rw[q3,q4,q5]
  refine q13 ?_
  simp only[psetAll,PP,P1,P2,P3,P4,P5,P6,P7,P8,P9,P10,P11,P12,P13,P14,L1,P15,N1,N2,N3,N4,N5,N6,N7,I1,I2,I3,I4,I5,I6,I7,reduceIte,reduceCtorEq]
  have hlp:∀B,lp.body=B→(⟨.ready,none,lp.tmps,lp.params,lp.assign,B⟩:PLoop)=lp:=fun B hB=>by cases lp;simp_all
  refine⟨ver,lp,rfl,q1,?_⟩
  rw[q6]
  refine q13 ?_
  have b1:(k+1)*8≤140737488355328:=by omega
  have b2:k+1≤9223372036854775807:=by omega
  have b3:k≤(List.take k (listW s)).length:=by simp;omega
  simp only[PP,P1,P2,P3,P4,P5,P6,P7,P8,P9,P10,P11,P12,P13,P14,L1,P15,N1,N2,N3,N4,N5,N6,N7,I1,I2,I3,I4,I5,I6,I7,reduceIte,reduceCtorEq,b1,b2,b3]
  refine⟨ver+1,_,rfl,?_⟩
  rw[if_pos rfl]
  refine hK' _ ⟨hk1,ver+1+1,v+1,g+1,?_⟩
  rw[q63 _ _ (by simp;omega),take_some hat,natI_snoc',List.map_append]
  simp only[PP,P1,P2,P3,P4,P5,P6,P7,P8,P9,P10,P11,P12,P13,P14,L1,P15,N1,N2,N3,N4,N5,N6,N7,I1,I2,I3,I4,I5,I6,I7,reduceIte,reduceCtorEq,hlp _ q6]
 ·rintro G ⟨_,ver,v,g,rfl⟩
  refine⟨ver,lp,rfl,by rw[q1];exact(by intro h;cases h),?_⟩
  rw[q2]
  rw[List.take_length]
  have hfz:frzO (some (PObj.cells g 0 ((natI (listW s)).map p64))) g 1 0 (listW s).length=some (slI false true .i64 (natI (listW s))):=by
   rw[frzO_cells (by simp) (underL_ints _ _ _),q63 _ _ (by simp)]
   simp only[slI,List.length_map]
  simp only[PP,P1,P2,P3,P4,P5,P6,P7,P8,P9,P10,P11,P12,P13,P14,L1,P15,N1,N2,N3,N4,N5,N6,N7,I1,I2,I3,I4,I5,I6,I7,reduceIte,reduceCtorEq,hfz]
  exact hk
end
section
variable {tab:FuncId→Option AF} (T:HasA tab)
include T
end
section
variable {α:Type} [DecidableEq α]
def addN (o:List α) (b:α):List α:=if b∈o then o else o++[b]
def visN (δ:α→Nat→α) (a:α):Nat→List α→List α
 | 0,o=>o
 | x+1,o=>addN (visN δ a x o) (δ a x)
def bfsK (δ:α→Nat→α) (n:Nat) (a0:α):Nat→List α
 | 0=>[a0]
 | k+1=>match (bfsK δ n a0 k)[k]? with
  | some a=>visN δ a n (bfsK δ n a0 k)
  | none=>bfsK δ n a0 k
theorem addN_pre (o:List α) (b:α):∃r,addN o b=o++r:=by
 unfold addN
 split
 ·exact⟨[],by simp⟩
 ·exact⟨[b],rfl⟩
theorem mem_addN (o:List α) (b c:α):c∈addN o b↔c∈o∨c=b:=by
 unfold addN
 split
 ·constructor
  ·exact .inl
  ·rintro(h | rfl)
   ·exact h
   ·assumption
 ·simp
theorem visN_pre (δ:α→Nat→α) (a:α):∀(x:Nat) (o:List α),∃r,visN δ a x o=o++r
 | 0,o=>⟨[],by simp[visN]⟩
 | x+1,o=>by
  obtain⟨r,h⟩:=visN_pre δ a x o
  obtain⟨r2,h2⟩:=addN_pre (visN δ a x o) (δ a x)
  exact⟨r++r2,by unfold visN;rw[h2,h,List.append_assoc]⟩
theorem visN_pre2 (δ:α→Nat→α) (a:α) (x:Nat) (o:List α):∀y,x≤y→∃r,visN δ a y o=visN δ a x o++r
 | 0,h=>by
  obtain rfl:x=0:=by omega
  exact⟨[],by simp⟩
 | y+1,h=>by
  by_cases e:x=y+1
  ·subst e;exact⟨[],by simp⟩
  ·obtain⟨r,h1⟩:=visN_pre2 δ a x o y (by omega)
   obtain⟨r2,h2⟩:=addN_pre (visN δ a y o) (δ a y)
   exact⟨r++r2,by rw[←List.append_assoc,←h1,←h2];rfl⟩
theorem mem_visN (δ:α→Nat→α) (a c:α):∀(x:Nat) (o:List α),c∈visN δ a x o↔c∈o∨∃y,y<x∧c=δ a y
 | 0,o=>by simp[visN]
 | x+1,o=>by
  unfold visN
  rw[mem_addN,mem_visN δ a c x o]
  constructor
  ·rintro((h | ⟨y,h1,h2⟩) | h)
   ·exact .inl h
   ·exact .inr ⟨y,by omega,h2⟩
   ·exact .inr ⟨x,by omega,h⟩
  ·rintro(h | ⟨y,h1,h2⟩)
   ·exact .inl (.inl h)
   ·by_cases e:y=x
    ·subst e;exact .inr h2
    ·exact .inl (.inr ⟨y,by omega,h2⟩)
theorem idxOf_ne {a b:α} {o:List α} (h:b≠a):(a::o).idxOf b=o.idxOf b+1:=by
 rw[List.idxOf_cons]
 have:(a==b)=false:=beq_false_of_ne fun e=>h e.symm
 rw[this];rfl
theorem idxOf_pre {o r:List α} {b:α} (h:b∈o):(o++r).idxOf b=o.idxOf b:=by
 rw[List.idxOf_append,if_pos h]
def rowN (δ:α→Nat→α) (n:Nat) (o:List α) (a:α):List Int:=(List.range n).map fun x=>((o.idxOf (δ a x):Nat):Int)
theorem rowN_pre {δ:α→Nat→α} {n:Nat} {o r:List α} {a:α} (h:∀x,x<n→δ a x∈o):rowN δ n (o++r) a=rowN δ n o a:=
 List.map_congr_left fun x hx=>by rw[idxOf_pre (h x (List.mem_range.1 hx))]
def numE (κ:α→ByteArray):Nat→List α→List (ByteArray×PV)
 | _,[]=>[]
 | k,a::o=>(κ a,p64 (k:Int))::numE κ (k+1) o
omit [DecidableEq α] in
theorem numE_len (κ:α→ByteArray):∀(o:List α) (k:Nat),(numE κ k o).length=o.length
 | [],k=>rfl
 | a::o,k=>by simp[numE,numE_len κ o]
omit [DecidableEq α] in
theorem numE_snoc (κ:α→ByteArray) (b:α):∀(o:List α) (k:Nat),numE κ k o++[(κ b,p64 ((k+o.length:Nat):Int))]=numE κ k (o++[b])
 | [],k=>rfl
 | a::o,k=>by
  show(κ a,p64 (k:Int))::(numE κ (k+1) o++_)=(κ a,p64 (k:Int))::numE κ (k+1) (o++[b])
  rw[←numE_snoc κ b o (k+1)]
  simp only[List.length_cons]
  rw[show k+1+o.length=k+(o.length+1) by omega]
theorem numE_look {κ:α→ByteArray} {Dm:α→Prop} (hinj:∀a b,Dm a→Dm b→κ a=κ b→a=b) {b:α} (hb:Dm b):∀(o:List α) (k:Nat),(∀a∈o,Dm a)→slook (κ b) (numE κ k o)=if b∈o then some (p64 ((k+o.idxOf b:Nat):Int)) else none
 | [],k,ho=>rfl
 | a::o,k,ho=>by
  unfold numE slook
  by_cases e:κ b=κ a
  ·obtain rfl:=hinj b a hb (ho a (by simp)) e
   rw[if_pos rfl,if_pos (by simp)];simp
  ·have hne:b≠a:=fun h=>e (by rw[h])
   rw[if_neg e,numE_look hinj hb o (k+1) (fun c hc=>ho c (by simp[hc]))]
   by_cases hm:b∈o
   ·rw[if_pos hm,if_pos (by simp[hm]),idxOf_ne hne,show k+1+o.idxOf b=k+(o.idxOf b+1) by omega]
   ·rw[if_neg hm,if_neg (by simp[hm,hne])]
end
section
variable {tab:FuncId→Option AF} (T:HasA tab)
include T
theorem visit_p {N:Mem} {K:PV→Mem→Prop} {i j ver vb:Nat} {l:List (ByteArray×PV)} {k:ByteArray} (hi:N[i]? =some (.map ver (smE l))) (hj:N[j]? =some (.cells 0 vb [.map i])) (hl:l.length<1000000000000)
  (hk1:∀v,slook k l=some (p64 v)→K (p64 v) N) (hv:∀v,slook k l=some v→∃n,v=p64 n) (hk2:slook k l=none→K (p64 l.length) (N.set i (.map (ver+1) (smE (l++[(k,p64 l.length)]))))):
  SemC tab 93 [.str k,.ptr j 0 0] N K:=by
 refine SemC_fn T.h93 ?_
 simp only[af93,PP,P1,P2,P3,P4,P5,P6,P7,P8,P9,P10,P11,P12,P13,P14,L1,P15,N1,N2,N3,N4,N5,N6,N7,I1,I2,I3,I4,I5,I6,I7,reduceIte,reduceCtorEq,q26,q33,q12,q34,q54,q25,q24,q31,q38,q39,q40,q41,q37,q47,q15,q16,q9,q17,q43,q44,q32,q55,q45,q42,q30,q51,q22,q52,q23,q11,q14,hi,hj]
 cases hs:slook k l with
 | some v=>
  obtain⟨n,rfl⟩:=hv v hs
  simp only[PP,P1,P2,P3,P4,P5,P6,P7,P8,P9,P10,P11,P12,P13,P14,L1,P15,N1,N2,N3,N4,N5,N6,N7,I1,I2,I3,I4,I5,I6,I7,reduceIte,reduceCtorEq,q26,q33,q12,q34,q54,q25,q24,q31,q38,q39,q40,q41,q37,q47,q15,q16,q9,q17,q43,q44,q32,q55,q45,q42,q30,q51,q22,q52,q23,q11,q14]
  exact hk1 n hs
 | none=>
  have hp:=smE_put k (p64 l.length) l hs
  simp only[PP,P1,P2,P3,P4,P5,P6,P7,P8,P9,P10,P11,P12,P13,P14,L1,P15,N1,N2,N3,N4,N5,N6,N7,I1,I2,I3,I4,I5,I6,I7,reduceIte,reduceCtorEq,q26,q33,q12,q34,q54,q25,q24,q31,q38,q39,q40,q41,q37,q47,q15,q16,q9,q17,q43,q44,q32,q55,q45,q42,q30,q51,q22,q52,q23,q11,q14,hi,hj,hs,hp]
  exact hk2 hs
variable {α:Type} [DecidableEq α]
theorem visitN_p {κ:α→ByteArray} {Dm:α→Prop} (hinj:∀a b,Dm a→Dm b→κ a=κ b→a=b) {o:List α} {b:α} (hb:Dm b) (ho:∀a∈o,Dm a) (hl:o.length<1000000000000)
  {N:Mem} {K:PV→Mem→Prop} {i j ver vb:Nat} (hi:N[i]? =some (.map ver (smE (numE κ 0 o)))) (hj:N[j]? =some (.cells 0 vb [.map i]))
  (hk:∀ver',K (p64 ((addN o b).idxOf b:Nat)) (N.set i (.map ver' (smE (numE κ 0 (addN o b)))))):
  SemC tab 93 [.str (κ b),.ptr j 0 0] N K:=by
 have hlk:=numE_look hinj hb o 0 ho
 refine visit_p T hi hj (by rw[numE_len];exact hl) (fun v hv=>?_) (fun v hv=>?_) (fun hv=>?_)
 ·rw[hlk]at hv
  by_cases hm:b∈o
  ·rw[if_pos hm]at hv
   simp only[Option.some.injEq,PV.int.injEq,true_and,Nat.zero_add]at hv
   subst hv
   have h:=hk ver
   have e:addN o b=o:=by unfold addN;rw[if_pos hm]
   rw[e]at h
   have hs:N.set i (.map ver (smE (numE κ 0 o)))=N:=by
    refine List.ext_getElem? fun x=>?_
    by_cases hx:i=x
    ·subst hx
     rw[List.getElem?_set_self (q27 hi),hi]
    ·rw[List.getElem?_set_ne hx]
   rw[hs]at h
   exact h
  ·rw[if_neg hm]at hv;cases hv
 ·rw[hlk]at hv
  by_cases hm:b∈o
  ·rw[if_pos hm]at hv;cases hv;exact⟨_,rfl⟩
  ·rw[if_neg hm]at hv;cases hv
 ·rw[hlk]at hv
  by_cases hm:b∈o
  ·rw[if_pos hm]at hv;cases hv
  ·have e:addN o b=o++[b]:=by unfold addN;rw[if_neg hm]
   have h:=hk (ver+1)
   have e2:=numE_snoc κ b o 0
   rw[Nat.zero_add]at e2
   rw[e,←e2]at h
   have e3:(o++[b]).idxOf b=o.length:=by rw[List.idxOf_append,if_neg hm];simp
   rw[e3]at h
   rw[numE_len]
   exact h
end
section
variable {α:Type} [DecidableEq α]
theorem bfsK_succ {δ:α→Nat→α} {n:Nat} {a0 a:α} {k:Nat} (h:(bfsK δ n a0 k)[k]? =some a):bfsK δ n a0 (k+1)=visN δ a n (bfsK δ n a0 k):=by
 show(match (bfsK δ n a0 k)[k]? with | some a=>_ | none=>_)=_
 rw[h]
theorem bfsK_stay {δ:α→Nat→α} {n:Nat} {a0:α} {k:Nat} (h:(bfsK δ n a0 k).length≤k):bfsK δ n a0 (k+1)=bfsK δ n a0 k:=by
 show(match (bfsK δ n a0 k)[k]? with | some a=>_ | none=>_)=_
 rw[List.getElem?_eq_none h]
theorem bfsK_pre (δ:α→Nat→α) (n:Nat) (a0:α) (k:Nat):∃r,bfsK δ n a0 (k+1)=bfsK δ n a0 k++r:=by
 rcases Nat.lt_or_ge k (bfsK δ n a0 k).length with h | h
 ·obtain⟨r,e⟩:=visN_pre δ ((bfsK δ n a0 k)[k]) n (bfsK δ n a0 k)
  exact⟨r,by rw[bfsK_succ (List.getElem?_eq_getElem h),e]⟩
 ·exact⟨[],by rw[bfsK_stay h];simp⟩
theorem bfsK_pre2 (δ:α→Nat→α) (n:Nat) (a0:α) (k:Nat):∀d,∃r,bfsK δ n a0 (k+d)=bfsK δ n a0 k++r
 | 0=>⟨[],by simp⟩
 | d+1=>by
  obtain⟨r,h⟩:=bfsK_pre2 δ n a0 k d
  obtain⟨r2,h2⟩:=bfsK_pre δ n a0 (k+d)
  exact⟨r++r2,by rw[←Nat.add_assoc,h2,h,List.append_assoc]⟩
theorem bfsK_stays {δ:α→Nat→α} {n:Nat} {a0:α} {k:Nat} (h:(bfsK δ n a0 k).length≤k):∀d,bfsK δ n a0 (k+d)=bfsK δ n a0 k
 | 0=>rfl
 | d+1=>by
  have ih:=bfsK_stays h d
  rw[←Nat.add_assoc,bfsK_stay (by rw[ih];omega),ih]
theorem bfsK_zero (δ:α→Nat→α) (n:Nat) (a0:α) (k:Nat):(bfsK δ n a0 k)[0]? =some a0:=by
 obtain⟨r,h⟩:=bfsK_pre2 δ n a0 0 k
 rw[Nat.zero_add]at h
 rw[h];simp[bfsK]
theorem bfsK_next {δ:α→Nat→α} {n:Nat} {a0:α} :∀{k i:Nat} {a:α},i<k→(bfsK δ n a0 k)[i]? =some a→∀x,x<n→δ a x∈bfsK δ n a0 k
 | 0,i,a,h,_,_,_=>by omega
 | k+1,i,a,h,g,x,hx=>by
  rcases Nat.lt_or_ge k (bfsK δ n a0 k).length with hk | hk
  ·have gk:=List.getElem?_eq_getElem hk
   have e:=bfsK_succ gk
   obtain⟨r,e2⟩:=visN_pre δ ((bfsK δ n a0 k)[k]) n (bfsK δ n a0 k)
   by_cases hi:i=k
   ·subst hi
    rw[e,e2,List.getElem?_append_left hk,gk]at g
    cases g
    rw[e,mem_visN]
    exact .inr ⟨x,hx,rfl⟩
   ·rw[e,e2,List.getElem?_append_left (by omega)]at g
    have:=bfsK_next (k:=k) (by omega) g x hx
    rw[e,e2]
    exact List.mem_append_left _ this
  ·rw[bfsK_stay hk]at g ⊢
   refine bfsK_next (k:=k) ?_ g x hx
   rcases Nat.lt_or_ge i (bfsK δ n a0 k).length with q | q
   ·omega
   ·rw[List.getElem?_eq_none q]at g;cases g
theorem addN_nodup {o:List α} {b:α} (h:o.Nodup):(addN o b).Nodup:=by
 unfold addN
 split
 ·exact h
 ·rename_i q
  rw[List.nodup_append]
  refine⟨h,by simp,fun x hx y hy e=>?_⟩
  simp at hy;subst hy;subst e;exact q hx
theorem visN_nodup {δ:α→Nat→α} {a:α} :∀(x:Nat) {o:List α},o.Nodup→(visN δ a x o).Nodup
 | 0,o,h=>h
 | x+1,o,h=>addN_nodup (visN_nodup x h)
theorem bfsK_nodup (δ:α→Nat→α) (n:Nat) (a0:α):∀k,(bfsK δ n a0 k).Nodup
 | 0=>by simp[bfsK]
 | k+1=>by
  rcases Nat.lt_or_ge k (bfsK δ n a0 k).length with hk | hk
  ·rw[bfsK_succ (List.getElem?_eq_getElem hk)]
   exact visN_nodup n (bfsK_nodup δ n a0 k)
  ·rw[bfsK_stay hk];exact bfsK_nodup δ n a0 k
theorem visN_all {δ:α→Nat→α} {Dm:α→Prop} {a:α} {n:Nat} (ha:∀x,x<n→Dm (δ a x)) {o:List α} (ho:∀c∈o,Dm c) {j:Nat} (hj:j≤n):∀c∈visN δ a j o,Dm c:=by
 intro c hc
 rcases(mem_visN δ a c j o).1 hc with h | ⟨y,h1,rfl⟩
 ·exact ho c h
 ·exact ha y (by omega)
theorem bfsK_all {δ:α→Nat→α} {n:Nat} {a0:α} {Dm:α→Prop} (h0:Dm a0) (hs:∀a x,Dm a→x<n→Dm (δ a x)):∀k,∀c∈bfsK δ n a0 k,Dm c
 | 0=>by simp[bfsK,h0]
 | k+1=>by
  have ih:=bfsK_all h0 hs k
  rcases Nat.lt_or_ge k (bfsK δ n a0 k).length with hk | hk
  ·rw[bfsK_succ (List.getElem?_eq_getElem hk)]
   exact visN_all (fun x hx=>hs _ x (ih _ (List.getElem_mem hk)) hx) ih (Nat.le_refl n)
  ·rw[bfsK_stay hk];exact ih
def rowsK (δ:α→Nat→α) (n:Nat) (a0:α) (k:Nat):List (List Int):=((bfsK δ n a0 k).take k).map (rowN δ n (bfsK δ n a0 k))
theorem rowsK_len {δ:α→Nat→α} {n:Nat} {a0:α} {k:Nat} (h:k≤(bfsK δ n a0 k).length):(rowsK δ n a0 k).length=k:=by
 unfold rowsK;rw[List.length_map,List.length_take];omega
theorem rowsK_succ {δ:α→Nat→α} {n:Nat} {a0 a:α} {k:Nat} (h:(bfsK δ n a0 k)[k]? =some a):rowsK δ n a0 (k+1)=rowsK δ n a0 k++[rowN δ n (visN δ a n (bfsK δ n a0 k)) a]:=by
 have hk:=q27 h
 obtain⟨r,e2⟩:=visN_pre δ a n (bfsK δ n a0 k)
 unfold rowsK
 rw[bfsK_succ h]
 have e3:(visN δ a n (bfsK δ n a0 k)).take (k+1)=(bfsK δ n a0 k).take k++[a]:=by
  rw[e2,List.take_append_of_le_length (by omega),List.take_add_one,h];rfl
 rw[e3,List.map_append]
 congr 1
 refine List.map_congr_left fun b hb=>?_
 rw[e2]
 refine rowN_pre fun x hx=>?_
 obtain⟨i,hi,hb⟩:=List.mem_iff_getElem.1 hb
 rw[List.length_take]at hi
 rw[List.getElem_take]at hb
 exact bfsK_next (k:=k) (i:=i) (by omega) (by rw[List.getElem?_eq_getElem (by omega),hb]) x hx
def FullN (δ:α→Nat→α) (n:Nat) (a0:α) (o:List α):Prop:=∃k,bfsK δ n a0 k=o∧o.length≤k
def OverN (δ:α→Nat→α) (n:Nat) (a0:α) (bd:Int):Prop:=∃k,bd<((bfsK δ n a0 k).length:Int)
theorem FullN.eq {δ:α→Nat→α} {n:Nat} {a0:α} {o o':List α} (h:FullN δ n a0 o) (h':FullN δ n a0 o'):o=o':=by
 obtain⟨k,rfl,h2⟩:=h
 obtain⟨k',rfl,h4⟩:=h'
 have e1:=bfsK_stays h2 k'
 have e2:=bfsK_stays h4 k
 rw[Nat.add_comm]at e2
 rw[←e1,e2]
theorem FullN.at {δ:α→Nat→α} {n:Nat} {a0:α} {o:List α} (h:FullN δ n a0 o) (k:Nat):∃r,o=bfsK δ n a0 k++r:=by
 obtain⟨l,rfl,h2⟩:=h
 have e1:=bfsK_stays h2 k
 obtain⟨r,e2⟩:=bfsK_pre2 δ n a0 k l
 exact⟨r,by rw[←e1,Nat.add_comm,e2]⟩
theorem FullN.over {δ:α→Nat→α} {n:Nat} {a0:α} {o:List α} {bd:Int} (h:FullN δ n a0 o) (h':OverN δ n a0 bd):bd<o.length:=by
 obtain⟨k,h1⟩:=h'
 obtain⟨r,e⟩:=h.at k
 rw[e];simp;omega
theorem FullN.zero {δ:α→Nat→α} {n:Nat} {a0:α} {o:List α} (h:FullN δ n a0 o):o[0]? =some a0:=by
 obtain⟨k,rfl,_⟩:=h;exact bfsK_zero δ n a0 k
theorem FullN.next {δ:α→Nat→α} {n:Nat} {a0 a:α} {o:List α} (h:FullN δ n a0 o) (ha:a∈o) {x:Nat} (hx:x<n):δ a x∈o:=by
 obtain⟨k,rfl,h2⟩:=h
 obtain⟨i,hi,e⟩:=List.mem_iff_getElem.1 ha
 exact bfsK_next (k:=k) (i:=i) (by omega) (by rw[List.getElem?_eq_getElem hi,e]) x hx
theorem FullN.all {δ:α→Nat→α} {n:Nat} {a0:α} {o:List α} {Dm:α→Prop} (h:FullN δ n a0 o) (h0:Dm a0) (hs:∀a x,Dm a→x<n→Dm (δ a x)):∀c∈o,Dm c:=by
 obtain⟨k,rfl,_⟩:=h;exact bfsK_all h0 hs k
def rowsN (δ:α→Nat→α) (n:Nat) (o:List α):List (List Int):=o.map (rowN δ n o)
theorem rowsK_full {δ:α→Nat→α} {n:Nat} {a0:α} {k:Nat} (h:(bfsK δ n a0 k).length≤k):rowsK δ n a0 k=rowsN δ n (bfsK δ n a0 k):=by
 unfold rowsK rowsN;rw[List.take_of_length_le h]
theorem over_vis {δ:α→Nat→α} {n:Nat} {a0 a:α} {k j:Nat} {bd:Int} (h:(bfsK δ n a0 k)[k]? =some a) (hj:j≤n) (ho:bd<((visN δ a j (bfsK δ n a0 k)).length:Int)):OverN δ n a0 bd:=by
 obtain⟨r,e⟩:=visN_pre2 δ a j (bfsK δ n a0 k) n hj
 exact⟨k+1,by rw[bfsK_succ h,e];simp;omega⟩
end
theorem gkN {N:Mem} {m i:Nat} {l:Mem} (h:N.length=m):(N++l)[m+i]? =l[i]? :=by subst h;exact gk ..
theorem gkN0 {N:Mem} {m:Nat} {l:Mem} (h:N.length=m):(N++l)[m]? =l[0]? :=by subst h;exact gk0 ..
theorem skN {N:Mem} {m i:Nat} {l:Mem} {x:PObj} (h:N.length=m):(N++l).set (m+i) x=N++l.set i x:=by subst h;exact sk ..
theorem skN0 {N:Mem} {m:Nat} {l:Mem} {x:PObj} (h:N.length=m):(N++l).set m x=N++l.set 0 x:=by subst h;exact sk0 ..
theorem pfrz_tupR {m:Nat} {M:Mem} {id g sz off k ver:Nat} {cs:List PV} {b:Bool} (hi:m≤id) (hM:M[id]? =some (.cells g ver cs)) (h1:off+k*sz≤cs.length) (h2:q19 m cs=true):pfrz m M (.tuple [.ref id g sz off k,.bool b])=some (.tuple [.sl false true sz k (psub cs off (k*sz)),.bool b]):=by
 have e:=pfrz1_ref' hi hM h1 h2
 simp[pfrz,pfrzL2,pfrz2,e,pfrz1_bool']
theorem pfrzM_take {N l M2:Mem} {m:Nat} (hN:N.length=m) (h:N.all (cutOk m)=true):pfrzM m M2 ((N++l).take m)=some N:=by
 subst hN;rw[List.take_left];exact pfrzM_all h
theorem takeN {N:Mem} {m i:Nat} {l:Mem} (h:N.length=m):(N++l).take (m+i)=N++l.take i:=by
 subst h;rw[List.take_append,List.take_of_length_le (by omega)];congr 2;omega
theorem numE_cut {α:Type} (κ:α→ByteArray) (n ver k:Nat) (o:List α):cutOk n (.map ver (smE (numE κ k o)))=true:=smE_cut (fun p hp=>by
 obtain⟨j,h⟩:∃j:Nat,p.2=p64 j:=by
  induction o generalizing k with
  | nil=>simp[numE]at hp
  | cons a o ih=>
   unfold numE at hp
   rcases List.mem_cons.1 hp with rfl | hp
   ·exact⟨k,rfl⟩
   ·exact ih (k+1) hp
 rw[h];simp[PV.under]) ver
theorem underL_psub {n:Nat} {l:List PV} (h:q19 n l=true) (i k:Nat):q19 n (psub l i k)=true:=by
 unfold psub;exact underL_take (underL_drop h i) k
theorem row_set {α:Type} [DecidableEq α] {δ:α→Nat→α} {a:α} {o:List α} {n j:Nat} (hj:j<n) (ho:∀x,x<j→δ a x∈o):
  ((rowN δ j o a++List.replicate (n-j) 0).map p64).set j (p64 (((addN o (δ a j)).idxOf (δ a j):Nat):Int))=(rowN δ (j+1) (addN o (δ a j)) a++List.replicate (n-(j+1)) 0).map p64:=by
 obtain⟨r,e⟩:=addN_pre o (δ a j)
 have h1:rowN δ (j+1) (addN o (δ a j)) a=rowN δ j o a++[(((addN o (δ a j)).idxOf (δ a j):Nat):Int)]:=by
  have:=rowN_pre (δ:=δ) (n:=j) (o:=o) (r:=r) (a:=a) ho
  rw[←this,←e]
  unfold rowN
  rw[List.range_succ,List.map_append];rfl
 have h2:(rowN δ j o a).length=j:=by simp[rowN]
 obtain⟨m,hm⟩:∃m,n-j=m+1:=⟨n-j-1,by omega⟩
 rw[h1,hm,show n-(j+1)=m by omega,←List.map_set]
 congr 1
 rw[List.set_append_right _ _ (by omega),h2,Nat.sub_self,List.replicate_succ,List.set_cons_zero,List.append_assoc];rfl
section
variable {α:Type} [DecidableEq α]
variable {tab:FuncId→Option AF} (T:HasA tab)
include T
theorem explore_p {M:Mem} {K:PV→Mem→Prop} {g:FuncId} {caps:List PV} {J:List α→Mem→Prop} {δ:α→Nat→α} {κ:α→ByteArray} {Dm:α→Prop} {n:Nat} {bd:Int} {a0:α}
  (hL:∀o N,J o N→N.length=M.length) (hC:∀o N,J o N→N.all (cutOk M.length)=true) (hinj:∀a b,Dm a→Dm b→κ a=κ b→a=b) (hδ:∀a x,Dm a→x<n→Dm (δ a x)) (h0:Dm a0) (hn:n≤64) (hb0:1≤bd) (hb1:bd≤4096)
  (hcap:q19 M.length caps=true) (hJ0:J [a0] M)
  (hnext:∀(o:List α) (N l:Mem) (s x:Nat) (a:α) (K:PV→Mem→Prop),J o N→(∀c∈o,Dm c)→o[s]? =some a→x<n→(o.length:Int)≤bd→(∀N',J (addN o (δ a x)) N'→K (.str (κ (δ a x))) (N'++l))→SemC tab g (p64 s::p8 x::caps) (N++l) K)
  (hk1:∀o N,FullN δ n a0 o→(o.length:Int)≤bd→J o N→K (.tuple [slR false true false true .i64 (rowsN δ n o),.bool true]) N)
  (hk2:∀r o N,OverN δ n a0 bd→J o N→K (.tuple [r,.bool false]) N):
  SemC tab 68 [p64 n,p64 bd,.str (κ a0),.func (.func g) [] caps] M K:=by
 refine SemC_res (SemC_sem T.h68 ?_)
 simp only[af68]
 refine q28 (q13 ?_)
 simp only[PP,P1,P2,P3,P4,P5,P6,P7,P8,P9,P10,P11,P12,P13,P14,L1,P15,N1,N2,N3,N4,N5,N6,N7,I1,I2,I3,I4,I5,I6,I7,reduceIte,reduceCtorEq]
 refine q28 (q13 ?_)
 simp only[PP,P1,P2,P3,P4,P5,P6,P7,P8,P9,P10,P11,P12,P13,P14,L1,P15,N1,N2,N3,N4,N5,N6,N7,I1,I2,I3,I4,I5,I6,I7,reduceIte,reduceCtorEq,q26,q33,q12,q34,q54,q25,q24,q31,q38,q39,q40,q41,q37,q47,q15,q16,q9,q17,q43,q44,q32,q55,q45,q42,q30,q51,q22,q52,q23,q11,q14,List.append_assoc,gk0,gk,sk0,sk,List.length_append]
 refine q28 (q13 ?_)
 simp only[PP,P1,P2,P3,P4,P5,P6,P7,P8,P9,P10,P11,P12,P13,P14,L1,P15,N1,N2,N3,N4,N5,N6,N7,I1,I2,I3,I4,I5,I6,I7,reduceIte,reduceCtorEq,q26,q33,q12,q34,q54,q25,q24,q31,q38,q39,q40,q41,q37,q47,q15,q16,q9,q17,q43,q44,q32,q55,q45,q42,q30,q51,q22,q52,q23,q11,q14,List.append_assoc,gk0,gk,sk0,sk,List.length_append]
 refine SemW_re (GStep.nil 8 1 rfl rfl rfl) ?_
 refine q13 ?_
 simp only[PP,P1,P2,P3,P4,P5,P6,P7,P8,P9,P10,P11,P12,P13,P14,L1,P15,N1,N2,N3,N4,N5,N6,N7,I1,I2,I3,I4,I5,I6,I7,reduceIte,reduceCtorEq,List.append_assoc,List.length_append]
 refine loop5 (fun(k:Nat) (N:Mem) (vm gr vr:Nat)=>k≤(bfsK δ n a0 k).length∧((bfsK δ n a0 k).length:Int)≤bd∧J (bfsK δ n a0 k) N)
  (fun k N vm gr vr=>[p64 n,p64 bd,Zj,.func (.func g) [] caps,Zj,Zj,Zj,Zj,.ref (M.length+2) gr 1 0 k,Zj,.ptr (M.length+1) 0 0,.func (.func 93) [] [.ptr (M.length+1) 0 0],p64 k,Zj,Zj,Zj,Zj,Zj,Zj,Zj,Zj,Zj,Zj,Zj,Zj,Zj,Zj,Zj,Zj,Zj,Zj,Zj,Zj,Zj,Zj,Zj,Zj,Zj,Zj,Zj,Zj,Zj,Zj,Zj,Zj,Zj,Zj,Zj,Zj,Zj,Zj,Zj,Zj,Zj,Zj,Zj])
  (fun k N vm gr vr=>N++[.map vm (smE (numE κ 0 (bfsK δ n a0 k))),.cells 0 1 [.map M.length],.cells gr vr ((rowsK δ n a0 k).map (slI false true .i64))])
  (fun k N vm gr vr=>bd.toNat+1-k) 0 M 1 0 0 ⟨by omega,by simpa [bfsK] using hb0,hJ0⟩ (by simp only[PW]) ?_ ?_
 ·simp[bfsK,rowsK,numE,smE]
 intro k N vm gr vr ⟨hle,hbk,hJ⟩ ih
 have hN:=hL _ _ hJ
 have hrl:=rowsK_len hle
 refine q48 (by kernel_rfl) ?_
 simp only[PP,P1,P2,P3,P4,P5,P6,P7,P8,P9,P10,P11,P12,P13,P14,L1,P15,N1,N2,N3,N4,N5,N6,N7,I1,I2,I3,I4,I5,I6,I7,reduceIte,reduceCtorEq,q26,q33,q12,q34,q54,q25,q24,q31,q38,q39,q40,q41,q37,q47,q15,q16,q9,q17,q43,q44,q32,q55,q45,q42,q30,q51,q22,q52,q23,q11,q14,gkN hN,gkN0 hN,q47,numE_len]
 refine QIf.intro (fun c=>?_) (fun c=>?_)
 rotate_left
 ·have hfull:(bfsK δ n a0 k).length≤k:=by omega
  have hrows:=rowsK_full hfull
  simp only[PP,P1,P2,P3,P4,P5,P6,P7,P8,P9,P10,P11,P12,P13,P14,L1,P15,N1,N2,N3,N4,N5,N6,N7,I1,I2,I3,I4,I5,I6,I7,reduceIte,reduceCtorEq,c,q26,q33,q12,q34,q54,q25,q24,q31,q38,q39,q40,q41,q37,q47,q15,q16,q9,q17,q43,q44,q32,q55,q45,q42,q30,q51,q22,q52,q23,q11,q14,gkN hN,gkN0 hN,q47,numE_len]
  have hkl:k=(rowsN δ n (bfsK δ n a0 k)).length:=by rw[←hrows,hrl]
  refine⟨_,_,pfrz_tupR (by omega) (gkN hN) (by simp[hrl]) (underL_slRs _ _ _ _ _),pfrzM_take hN (hC _ _ hJ),?_⟩
  rw[decide_eq_true hbk,hrows,q63 _ _ (by simp;omega)]
  have:=hk1 _ N ⟨k,rfl,hfull⟩ hbk hJ
  rw[show slR false true false true .i64 (rowsN δ n (bfsK δ n a0 k))= .sl false true 1 k ((rowsN δ n (bfsK δ n a0 k)).map (slI false true .i64)) by rw[slR,←hkl]]at this
  exact this
 have hk':k<(bfsK δ n a0 k).length:=by omega
 obtain⟨a,ga⟩:=some_of hk'
 have b0:(0:Int)≤(n:Int):=by omega
 have b1:(n:Int)*8≤140737488355328:=by omega
 have b2:(n:Int)≤9223372036854775807:=by omega
 have da:Dm a:=bfsK_all h0 hδ k a (List.mem_of_getElem? ga)
 have ha:∀x,x<n→Dm (δ a x):=fun x hx=>hδ a x da hx
 have dall:=bfsK_all h0 hδ k
 simp only[PP,P1,P2,P3,P4,P5,P6,P7,P8,P9,P10,P11,P12,P13,P14,L1,P15,N1,N2,N3,N4,N5,N6,N7,I1,I2,I3,I4,I5,I6,I7,reduceIte,reduceCtorEq,c,b0,b1,b2,hN,List.append_assoc,gkN hN,gkN0 hN]
 refine⟨Int.le_refl _,SemW_gh ?_⟩
 refine loop4 (fun(j:Nat) (N':Mem) (vm' vw:Nat)=>j≤n∧((visN δ a j (bfsK δ n a0 k)).length:Int)≤bd∧J (visN δ a j (bfsK δ n a0 k)) N')
  (fun j N' vm' vw=>[p64 n,p64 bd,Zj,.func (.func g) [] caps,Zj,Zj,Zj,Zj,.ref (M.length+2) gr 1 0 k,Zj,.ptr (M.length+1) 0 0,.func (.func 93) [] [.ptr (M.length+1) 0 0],p64 k,.ref (M.length+3) 0 1 0 n,Zj,Zj,Zj,Zj,Zj,Zj,Zj,Zj,Zj,Zj,Zj,Zj,Zj,Zj,p64 n,p64 j,Zj,Zj,Zj,Zj,Zj,Zj,Zj,Zj,Zj,Zj,Zj,Zj,Zj,Zj,Zj,Zj,Zj,Zj,Zj,Zj,Zj,Zj,Zj,Zj,Zj,Zj])
  (fun j N' vm' vw=>N'++[.map vm' (smE (numE κ 0 (visN δ a j (bfsK δ n a0 k)))),.cells 0 1 [.map M.length],.cells gr vr ((rowsK δ n a0 k).map (slI false true .i64)),.cells 0 vw ((rowN δ j (visN δ a j (bfsK δ n a0 k)) a).map p64++(List.replicate (n-j) 0).map p64)])
  (fun j N' vm' vw=>n-j) 0 N vm 0 ⟨by omega,hbk,hJ⟩ (by simp only[PW]) ?_ ?_
 ·simp[visN,rowN,List.map_replicate]
 intro j N' vm' vw ⟨jle,jb,hJ'⟩ ih2
 have hN':=hL _ _ hJ'
 refine q48 (by kernel_rfl) ?_
 simp only[PP,P1,P2,P3,P4,P5,P6,P7,P8,P9,P10,P11,P12,P13,P14,L1,P15,N1,N2,N3,N4,N5,N6,N7,I1,I2,I3,I4,I5,I6,I7,reduceIte,reduceCtorEq]
 refine QIf.intro (fun d=>?_) (fun d=>?_)
 ·have hj':j<n:=by omega
  have j0:(0:Int)≤(j:Int):=by omega
  have wj:IntKind.u8.wrap (j:Int)=(j:Int):=wrap8 (by omega)
  have ga':(visN δ a j (bfsK δ n a0 k))[k]? =some a:=by
   obtain⟨r,e⟩:=visN_pre δ a j (bfsK δ n a0 k)
   rw[e,List.getElem?_append_left hk',ga]
  simp only[PP,P1,P2,P3,P4,P5,P6,P7,P8,P9,P10,P11,P12,P13,P14,L1,P15,N1,N2,N3,N4,N5,N6,N7,I1,I2,I3,I4,I5,I6,I7,reduceIte,reduceCtorEq,d,wj]
  refine hnext _ _ _ _ j a _ hJ' (visN_all ha dall jle) ga' hj' jb fun Nb hJ2=>?_
  have hNb:=hL _ _ hJ2
  simp only[PP,P1,P2,P3,P4,P5,P6,P7,P8,P9,P10,P11,P12,P13,P14,L1,P15,N1,N2,N3,N4,N5,N6,N7,I1,I2,I3,I4,I5,I6,I7,reduceIte,reduceCtorEq]
  refine visitN_p T hinj (ha j hj') (visN_all ha dall jle) (by omega) (by rw[gkN0 hNb];rfl) (by rw[gkN hNb];rfl) fun ver'=>?_
  have jn:(j:Int)<(n:Int):=by omega
  have hrl':(rowN δ j (visN δ a j (bfsK δ n a0 k)) a).length=j:=by simp[rowN]
  have hlt:j+1≤(rowN δ j (visN δ a j (bfsK δ n a0 k)) a).length+(n-j):=by omega
  have hst:=row_set (o:=visN δ a j (bfsK δ n a0 k)) (δ:=δ) (a:=a) hj' fun x hx=>(mem_visN δ a _ j _).2 (.inr ⟨x,hx,rfl⟩)
  rw[List.map_append,List.map_append]at hst
  simp only[PP,P1,P2,P3,P4,P5,P6,P7,P8,P9,P10,P11,P12,P13,P14,L1,P15,N1,N2,N3,N4,N5,N6,N7,I1,I2,I3,I4,I5,I6,I7,reduceIte,reduceCtorEq,skN0 hNb,gkN0 hNb,gkN hNb,skN hNb,j0,jn,hlt,hst,q26,q33,q12,q34,q54,q25,q24,q31,q38,q39,q40,q41,q37,q47,q15,q16,q9,q17,q43,q44,q32,q55,q45,q42,q30,q51,q22,q52,q23,q11,q14,q47,numE_len]
  have wj1:=q49 (k:=j) (by show _<1000000000000;omega)
  refine QIf.intro (fun e=>?_) (fun e=>?_)
  ·simp only[PP,P1,P2,P3,P4,P5,P6,P7,P8,P9,P10,P11,P12,P13,P14,L1,P15,N1,N2,N3,N4,N5,N6,N7,I1,I2,I3,I4,I5,I6,I7,reduceIte,reduceCtorEq,e,q26,q33,q12,q34,q54,q25,q24,q31,q38,q39,q40,q41,q37,q47,q15,q16,q9,q17,q43,q44,q32,q55,q45,q42,q30,q51,q22,q52,q23,q11,q14,skN0 hNb,gkN0 hNb,gkN hNb,skN hNb,q47,numE_len]
   refine Gh.same ?_
   simp only[PP,P1,P2,P3,P4,P5,P6,P7,P8,P9,P10,P11,P12,P13,P14,L1,P15,N1,N2,N3,N4,N5,N6,N7,I1,I2,I3,I4,I5,I6,I7,reduceIte,reduceCtorEq,e,q26,q33,q12,q34,q54,q25,q24,q31,q38,q39,q40,q41,q37,q47,q15,q16,q9,q17,q43,q44,q32,q55,q45,q42,q30,q51,q22,q52,q23,q11,q14,skN0 hNb,gkN0 hNb,gkN hNb,skN hNb,q47,numE_len]
   refine⟨_,_,pfrz_tupR (by omega) (gkN hNb) (by simp[hrl]) (underL_slRs _ _ _ _ _),pfrzM_take hNb (hC _ _ hJ2),?_⟩
   have hnot:¬((addN (visN δ a j (bfsK δ n a0 k)) (δ a j)).length:Int)≤bd:=by omega
   rw[decide_eq_false hnot]
   exact hk2 _ _ _ (over_vis (j:=j+1) ga hj' e) hJ2
  ·simp only[PP,P1,P2,P3,P4,P5,P6,P7,P8,P9,P10,P11,P12,P13,P14,L1,P15,N1,N2,N3,N4,N5,N6,N7,I1,I2,I3,I4,I5,I6,I7,reduceIte,reduceCtorEq,e,wj1]
   exact q35 (ih2 (j+1) Nb ver' (vw+1) ⟨by omega,by show((addN _ _).length:Int)≤bd;omega,hJ2⟩ (by omega)) (by simp only[PW])
 ·have hjn:n-j=0:=by omega
  have ej:j=n:=by omega
  simp only[PP,P1,P2,P3,P4,P5,P6,P7,P8,P9,P10,P11,P12,P13,P14,L1,P15,N1,N2,N3,N4,N5,N6,N7,I1,I2,I3,I4,I5,I6,I7,reduceIte,reduceCtorEq,d,hjn]
  rw[ej]at hJ' jb ⊢
  have hrn:(rowN δ n (visN δ a n (bfsK δ n a0 k)) a).length=n:=by simp[rowN]
  have hrn2:n=((rowN δ n (visN δ a n (bfsK δ n a0 k)) a).map p64).length:=by simp[rowN]
  have c1:(k+1)*24≤140737488355328:=by omega
  have c2:k+1≤9223372036854775807:=by omega
  have c3:k≤(rowsK δ n a0 k).length:=by omega
  have wk:=q49 (k:=k) (by show _<1000000000000;omega)
  have hpp:psub ((rowsK δ n a0 k).map (slI false true .i64)) 0 (k*1)=(rowsK δ n a0 k).map (slI false true .i64):=q63 _ _ (by simp[hrl])
  refine Gh.step (GStep.freeze (b:=[p64 n,p64 bd,Zj,.func (.func g) [] caps,Zj,Zj,Zj,Zj,.ref (M.length+2) gr 1 0 k,Zj,.ptr (M.length+1) 0 0,.func (.func 93) [] [.ptr (M.length+1) 0 0],p64 k,.sl false true 1 n ((rowN δ n (visN δ a n (bfsK δ n a0 k)) a).map p64),Zj,Zj,Zj,Zj,Zj,Zj,Zj,Zj,Zj,Zj,Zj,Zj,Zj,Zj,Zj,Zj,Zj,Zj,Zj,Zj,Zj,Zj,Zj,Zj,Zj,Zj,Zj,Zj,Zj,Zj,Zj,Zj,Zj,Zj,Zj,Zj,Zj,Zj,Zj,Zj,Zj,Zj]) (M.length+3) (by omega) (gkN hN') (by simp only[PFrz_nil,PFrz_junk,PFrz_same,PFrz_ref,Nat.mul_one,Nat.zero_add,List.length_map,hrn,Nat.le_refl,q63 _ _ hrn2,List.append_nil,List.replicate_zero,List.map_nil]) (skN hN')) (Gh.same ?_)
  simp only[PP,P1,P2,P3,P4,P5,P6,P7,P8,P9,P10,P11,P12,P13,P14,L1,P15,N1,N2,N3,N4,N5,N6,N7,I1,I2,I3,I4,I5,I6,I7,reduceIte,reduceCtorEq,gkN hN',c1,c2,c3,skN hN',hpp,wk]
  refine SemW_re (GStep.dropM (b:=[p64 n,p64 bd,Zj,.func (.func g) [] caps,Zj,Zj,Zj,Zj,.ref (M.length+2) (gr+1) 1 0 (k+1),Zj,.ptr (M.length+1) 0 0,.func (.func 93) [] [.ptr (M.length+1) 0 0],p64 ((k+1:Nat):Int),Zj,Zj,Zj,Zj,Zj,Zj,Zj,Zj,Zj,Zj,Zj,Zj,Zj,Zj,Zj,Zj,Zj,Zj,Zj,Zj,Zj,Zj,Zj,Zj,Zj,Zj,Zj,Zj,Zj,Zj,Zj,Zj,Zj,Zj,Zj,Zj,Zj,Zj,Zj,Zj,Zj,Zj,Zj])
   (N:=N'++[.map vm' (smE (numE κ 0 (bfsK δ n a0 (k+1)))),.cells 0 1 [.map M.length],.cells (gr+1) 0 ((rowsK δ n a0 (k+1)).map (slI false true .i64))]) (M.length+3) (by omega) (by simp[hN']) (by simp only[PW]) ?_ ?_ ?_) ?_
  ·simp[PV.under,q19,underL_mono (n:=M.length+3) (by omega) _ hcap]
  ·rw[takeN hN',List.all_append,cutOks_mono (by omega) (hC _ _ hJ'),Bool.true_and]
   simp only[List.take_succ_cons,List.take_zero,List.all_cons,List.all_nil,Bool.and_true,Bool.and_eq_true]
   refine⟨numE_cut _ _ _ _ _,?_,?_⟩
   ·simp[cutOk,PV.under,q19]
   ·simp only[cutOk,underL_append,Bool.and_eq_true]
    exact⟨underL_psub (underL_slRs _ _ _ _ _) _ _,by simp only[q19,PV.under,underL_ints,Bool.and_true]⟩
  ·rw[takeN hN',bfsK_succ ga,rowsK_succ ga,List.map_append,q63 _ _ (by simp[hrl])]
   simp only[List.take_succ_cons,List.take_zero,List.map_cons,List.map_nil,slI,hrn]
  exact q35 (ih (k+1) N' vm' (gr+1) 0 ⟨by rw[bfsK_succ ga];obtain⟨r,e⟩:=visN_pre δ a n (bfsK δ n a0 k);rw[e];simp;omega,by rw[bfsK_succ ga];exact jb,by rw[bfsK_succ ga];exact hJ'⟩ (by omega)) (by simp only[PW])
end
structure OkD (D:DF):Prop where
 v0:0≤D.vs
 v6:D.vs≤6
 n0:0<D.nx.length
 n1:D.nx.length≤4096
 f:D.fi.length=D.nx.length
 s0:0≤D.st
 s1:D.st<D.nx.length
 r:∀r∈D.nx,(r.length:Int)=2^D.vs.toNat∧∀t∈r,0≤t∧t<D.nx.length
theorem rowsD_zero {v n:Int} :∀{l:List (List Int)},rowsD v n l=0↔∀r∈l,(r.length:Int)=2^v.toNat∧∀t∈r,0≤t∧t<n
 | []=>by simp[rowsD]
 | r::l=>by
  unfold rowsD
  by_cases h1:(r.length:Int)=2^v.toNat
  ·rw[if_pos h1]
   by_cases h2:badR n r=true
   ·rw[if_pos h2]
    constructor
    ·intro h;exact absurd h (by decide)
    ·intro h
     unfold badR at h2
     obtain⟨t,h3,h4⟩:=List.any_eq_true.1 h2
     have:=(h r (by simp)).2 t h3
     simp only[decide_eq_true_eq]at h4
     omega
   ·rw[if_neg h2,rowsD_zero]
    constructor
    ·intro h x hx
     rcases List.mem_cons.1 hx with rfl | hx
     ·refine⟨h1,fun t ht=>Classical.byContradiction fun q=>h2 ?_⟩
      exact List.any_eq_true.2 ⟨t,ht,by simp only[decide_eq_true_eq];omega⟩
     ·exact h x hx
    ·intro h x hx;exact h x (by simp[hx])
  ·rw[if_neg h1]
   constructor
   ·intro h;exact absurd h (by decide)
   ·intro h;exact absurd (h r (by simp)).1 h1
theorem okD_iff {D:DF} :checkD D=0↔OkD D:=by
 unfold checkD
 constructor
 ·intro h
  split at h;· exact absurd h (by decide)
  split at h;· exact absurd h (by decide)
  split at h;· exact absurd h (by decide)
  split at h;· exact absurd h (by decide)
  split at h;· exact absurd h (by decide)
  rename_i h1 h2 h3 h4 h5
  exact⟨by omega,by omega,by omega,by omega,by have:=Classical.not_not.1 h4;omega,by omega,by omega,rowsD_zero.1 h⟩
 ·intro C
  have h1:=C.v0;have h2:=C.v6;have h3:=C.n0;have h4:=C.n1;have h5:=C.f;have h6:=C.s0;have h7:=C.s1
  rw[if_neg (by omega),if_neg (by omega),if_neg (by omega),if_neg (by omega),if_neg (by omega)]
  exact rowsD_zero.2 C.r
def stepD (nx:List (List Int)) (s x:Int):Int:=(((nx[s.toNat]?).getD [])[x.toNat]?).getD 0
def runD (D:DF) (w:List Int):Int:=w.foldl (stepD D.nx) D.st
def errD (D:DF) (w:List Int):Int:=if checkD D=0 then wordE D.vs w else checkD D
def fiD (D:DF) (s:Int):Bool:=(D.fi[s.toNat]?).getD false
def accD (D:DF) (w:List Int):Bool:=decide (errD D w=0)&&fiD D (runD D w)
theorem OkD.step {D:DF} (C:OkD D) {s x:Int} (s0:0≤s) (s1:s<D.nx.length) (x0:0≤x) (x1:x<2^D.vs.toNat):
  ∃r,D.nx[s.toNat]? =some r∧r[x.toNat]? =some (stepD D.nx s x)∧x<r.length∧0≤stepD D.nx s x∧stepD D.nx s x<D.nx.length:=by
 obtain⟨r,g⟩:=some_of (xs:=D.nx) (k:=s.toNat) (by omega)
 obtain⟨h1,h2⟩:=C.r r (List.mem_of_getElem? g)
 obtain⟨t,gt⟩:=some_of (xs:=r) (k:=x.toNat) (by omega)
 have e:stepD D.nx s x=t:=by unfold stepD;rw[g];simp[gt]
 rw[e]
 exact⟨r,g,gt,by omega,h2 t (List.mem_of_getElem? gt)⟩
theorem OkD.run {D:DF} (C:OkD D):∀(w:List Int),(∀x∈w,0≤x∧x<2^D.vs.toNat)→∀s:Int,0≤s→s<D.nx.length→0≤w.foldl (stepD D.nx) s∧w.foldl (stepD D.nx) s<D.nx.length
 | [],_,s,h0,h1=>⟨h0,h1⟩
 | x::w,hw,s,h0,h1=>by
  have hx:=hw x (by simp)
  obtain⟨_,_,_,_,a,b⟩:=C.step h0 h1 hx.1 hx.2
  exact OkD.run C w (fun y hy=>hw y (by simp[hy])) _ a b
theorem wordE_zero {v:Int} {w:List Int} (h:wordE v w=0):w.length≤64∧∀x∈w,x<2^v.toNat:=by
 unfold wordE at h
 split at h;· exact absurd h (by decide)
 split at h;· exact absurd h (by decide)
 rename_i h1 h2
 refine⟨by omega,fun x hx=>Classical.byContradiction fun q=>h2 ?_⟩
 exact List.any_eq_true.2 ⟨x,hx,by simp only[decide_eq_true_eq];omega⟩
theorem OkD.fin {D:DF} (C:OkD D) {s:Int} (s0:0≤s) (s1:s<D.nx.length):D.fi[s.toNat]? =some (fiD D s)∧s<D.fi.length:=by
 obtain⟨b,g⟩:=some_of (xs:=D.fi) (k:=s.toNat) (by have:=C.f;omega)
 exact⟨by unfold fiD;rw[g];rfl,by have:=C.f;omega⟩
section
variable {tab:FuncId→Option AF} (T:HasA tab)
include T
theorem mrun_p {M:Mem} {K:PV→Mem→Prop} {f1 o1 f2 o2 f3 o3 f4 o4:Bool} {D:DF} {w:List Int} (C:OkD D) (hl:w.length<1000000000000) (hw:∀x∈w,0≤x∧x<2^D.vs.toNat) (hk:K (p64 (runD D w)) M):
  SemC tab 52 [.agg (dfC f1 o1 f2 o2 f3 o3 D),slI f4 o4 .u8 w] M K:=by
 refine q18 T.h52 (by simp only[PP,P1,P2,P3,P4,P5,P6,P7,P8,P9,P10,P11,P12,P13,P14,L1,P15,N1,N2,N3,N4,N5,N6,N7,I1,I2,I3,I4,I5,I6,I7,reduceIte,reduceCtorEq]) ?_
 simp only[af52,PP,P1,P2,P3,P4,P5,P6,P7,P8,P9,P10,P11,P12,P13,P14,L1,P15,N1,N2,N3,N4,N5,N6,N7,I1,I2,I3,I4,I5,I6,I7,reduceIte,reduceCtorEq]
 refine loop2 (fun(k:Nat) (s:Int)=>k≤w.length∧0≤s∧s<D.nx.length∧K (p64 ((w.drop k).foldl (stepD D.nx) s)) M) (fun k s=>[Zj,Zj,.ptr 0 0 0,Zj,Zj,p64 s,Zj,Zj,Zj,Zj,Zj,slI f4 o4 .u8 w,p64 w.length,p64 k,Zj,Zj,Zj,Zj,Zj,Zj,Zj,Zj,Zj,Zj,Zj,Zj,Zj,Zj]) (fun _ _=>[.cells 0 0 (dfC f1 o1 f2 o2 f3 o3 D)]) (fun k _=>w.length-k) 0 D.st ⟨by omega,C.s0,C.s1,hk⟩ (by simp only[PW]) rfl ?_
 intro k s ⟨hle,s0,s1,hq⟩ ih
 refine q48 (by kernel_rfl) ?_
 simp only[PP,P1,P2,P3,P4,P5,P6,P7,P8,P9,P10,P11,P12,P13,P14,L1,P15,N1,N2,N3,N4,N5,N6,N7,I1,I2,I3,I4,I5,I6,I7,reduceIte,reduceCtorEq]
 refine QIf.intro (fun c=>?_) (fun c=>?_)
 ·have hk':k<w.length:=by omega
  obtain⟨x,gx⟩:=some_of hk'
  have k0:(0:Int)≤(k:Int):=by omega
  have hwk:=q49 (k:=k) (by show _<1000000000000;omega)
  obtain⟨x0,x1⟩:=hw x (List.mem_of_getElem? gx)
  obtain⟨r,g1,g2,g3,g4,g5⟩:=C.step s0 s1 x0 x1
  rw[drop_some gx,List.foldl_cons]at hq
  simp only[PP,P1,P2,P3,P4,P5,P6,P7,P8,P9,P10,P11,P12,P13,P14,L1,P15,N1,N2,N3,N4,N5,N6,N7,I1,I2,I3,I4,I5,I6,I7,reduceIte,reduceCtorEq,c,gx,k0,s0,s1,g1,x0,g3,g2,hwk]
  exact q35 (ih (k+1) _ ⟨by omega,g4,g5,hq⟩ (by omega)) (by simp only[PW])
 ·rw[List.drop_eq_nil_of_le (by omega)]at hq
  simp only[PP,P1,P2,P3,P4,P5,P6,P7,P8,P9,P10,P11,P12,P13,P14,L1,P15,N1,N2,N3,N4,N5,N6,N7,I1,I2,I3,I4,I5,I6,I7,reduceIte,reduceCtorEq,c,List.foldl_nil]at hq ⊢
  exact hq
theorem run1_p {M:Mem} {K:PV→Mem→Prop} {f1 o1 f2 o2 f3 o3:Bool} {D:DF} {x:Int} (v0:¬D.vs<0) (v6:¬6<D.vs) (hx:0≤x∧x≤255) (hk:K (.bool (decide (2^D.vs.toNat≤x))) M):
  SemC tab 51 [p8 x,.cp (dfC f1 o1 f2 o2 f3 o3 D) 0] M K:=by
 refine q18 T.h51 (by simp only[PP,P1,P2,P3,P4,P5,P6,P7,P8,P9,P10,P11,P12,P13,P14,L1,P15,N1,N2,N3,N4,N5,N6,N7,I1,I2,I3,I4,I5,I6,I7,reduceIte,reduceCtorEq,PV.under]) ?_
 have w1:IntKind.i64.wrap x=x:=wrap64 (by omega) (by omega)
 simp only[af51,PP,P1,P2,P3,P4,P5,P6,P7,P8,P9,P10,P11,P12,P13,P14,L1,P15,N1,N2,N3,N4,N5,N6,N7,I1,I2,I3,I4,I5,I6,I7,reduceIte,reduceCtorEq,w1,shl_one v0 v6]
 exact hk
theorem drun_p {M:Mem} {K:PV→Mem→Prop} {f1 o1 f2 o2 f3 o3 f4 o4:Bool} {D:DF} {w:List Int} (B:BnD D) (hw:∀x∈w,0≤x∧x≤255) (hl:w.length<1000000000000)
  (hk:K (.tuple [p64 (if errD D w=0 then runD D w else 0),p64 (errD D w)]) M):
  SemC tab 19 [.agg (dfC f1 o1 f2 o2 f3 o3 D),slI f4 o4 .u8 w] M K:=by
 refine SemC_pureS T.h19 (by simp only[PP,P1,P2,P3,P4,P5,P6,P7,P8,P9,P10,P11,P12,P13,P14,L1,P15,N1,N2,N3,N4,N5,N6,N7,I1,I2,I3,I4,I5,I6,I7,reduceIte,reduceCtorEq]) ?_
 simp only[af19]
 refine q28 (q13 ?_)
 simp only[PP,P1,P2,P3,P4,P5,P6,P7,P8,P9,P10,P11,P12,P13,P14,L1,P15,N1,N2,N3,N4,N5,N6,N7,I1,I2,I3,I4,I5,I6,I7,reduceIte,reduceCtorEq]
 refine SemW_re (GStep.freezeP (b:=[Zj,slI f4 o4 .u8 w,.cp (dfC f1 o1 f2 o2 f3 o3 D) 0,Zj,p64 0,p64 0,Zj,Zj,Zj,Zj,Zj,Zj,Zj,Zj,Zj,Zj,Zj,Zj,Zj,Zj,Zj,Zj,Zj,Zj,Zj,Zj,Zj]) 0 (Nat.zero_le _) rfl (by simp only[PFrzP_nil,PFrzP_junk,PFrzP_same,PFrzP_ptr]) rfl) ?_
 refine q13 ?_
 simp only[PP,P1,P2,P3,P4,P5,P6,P7,P8,P9,P10,P11,P12,P13,P14,L1,P15,N1,N2,N3,N4,N5,N6,N7,I1,I2,I3,I4,I5,I6,I7,reduceIte,reduceCtorEq]
 refine dcheck_p T B ?_
 unfold errD at hk
 by_cases c:checkD D=0
 rotate_left
 ·rw[if_neg c,if_neg c]at hk
  simp only[PP,P1,P2,P3,P4,P5,P6,P7,P8,P9,P10,P11,P12,P13,P14,L1,P15,N1,N2,N3,N4,N5,N6,N7,I1,I2,I3,I4,I5,I6,I7,reduceIte,reduceCtorEq,c]
  exact hk
 rw[if_pos c]at hk
 simp only[PP,P1,P2,P3,P4,P5,P6,P7,P8,P9,P10,P11,P12,P13,P14,L1,P15,N1,N2,N3,N4,N5,N6,N7,I1,I2,I3,I4,I5,I6,I7,reduceIte,reduceCtorEq,c]
 have C:=okD_iff.1 c
 refine QIf.intro (fun d=>?_) (fun d=>?_)
 ·have e4:wordE D.vs w=4:=by unfold wordE;rw[if_pos d]
  rw[e4]at hk
  simp only[PP,P1,P2,P3,P4,P5,P6,P7,P8,P9,P10,P11,P12,P13,P14,L1,P15,N1,N2,N3,N4,N5,N6,N7,I1,I2,I3,I4,I5,I6,I7,reduceIte,reduceCtorEq,d]at hk ⊢
  exact hk
 simp only[PP,P1,P2,P3,P4,P5,P6,P7,P8,P9,P10,P11,P12,P13,P14,L1,P15,N1,N2,N3,N4,N5,N6,N7,I1,I2,I3,I4,I5,I6,I7,reduceIte,reduceCtorEq,d]
 have v0:¬D.vs<0:=by have:=C.v0;omega
 have v6:¬6<D.vs:=by have:=C.v6;omega
 refine cont8_p T (F:=fun x=>decide (2^D.vs.toNat≤x)) hl (by simp only[PP,P1,P2,P3,P4,P5,P6,P7,P8,P9,P10,P11,P12,P13,P14,L1,P15,N1,N2,N3,N4,N5,N6,N7,I1,I2,I3,I4,I5,I6,I7,reduceIte,reduceCtorEq,PV.under]) (fun x hx M' K' hK'=>run1_p T v0 v6 (hw x hx) hK') (fun h=>?_) (fun⟨x,hx,hF⟩=>?_)
 ·have e0:wordE D.vs w=0:=by
   unfold wordE
   rw[if_neg d,if_neg (by rw[Bool.not_eq_true,List.any_eq_false];intro x hx;rw[h x hx];decide)]
  rw[e0]at hk
  simp only[PP,P1,P2,P3,P4,P5,P6,P7,P8,P9,P10,P11,P12,P13,P14,L1,P15,N1,N2,N3,N4,N5,N6,N7,I1,I2,I3,I4,I5,I6,I7,reduceIte,reduceCtorEq]at hk ⊢
  exact mrun_p T C hl (fun x hx=>⟨(hw x hx).1,(wordE_zero e0).2 x hx⟩) (by simp only[PP,P1,P2,P3,P4,P5,P6,P7,P8,P9,P10,P11,P12,P13,P14,L1,P15,N1,N2,N3,N4,N5,N6,N7,I1,I2,I3,I4,I5,I6,I7,reduceIte,reduceCtorEq];exact hk)
 ·have e1:wordE D.vs w=1:=by
   unfold wordE
   rw[if_neg d,if_pos (List.any_eq_true.2 ⟨x,hx,hF⟩)]
  rw[e1]at hk
  simp only[PP,P1,P2,P3,P4,P5,P6,P7,P8,P9,P10,P11,P12,P13,P14,L1,P15,N1,N2,N3,N4,N5,N6,N7,I1,I2,I3,I4,I5,I6,I7,reduceIte,reduceCtorEq]at hk ⊢
  exact hk
end
end Go.Am.Ar

