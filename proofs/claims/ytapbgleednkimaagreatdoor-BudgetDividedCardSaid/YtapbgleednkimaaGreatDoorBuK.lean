/- FormatUint at base 36, over a table of its own. -/
import Derived.Test.YtapbgleednkimaaGreatDoorBuK0
set_option linter.unusedVariables false
set_option linter.unusedSimpArgs false
set_option maxRecDepth 10000
namespace Go.Am.ArK
open Go.Am renaming kV->P1,qL->P2,PKNo->P3,ppack->P4,PObj.under->P5,pput->P6,ptset->P7,ptget->P8,pev->P9,ofAV->P10,ofAV1->P11,ppad->P12,pfill->P13,fF->P14,AO.effect->P15
open List renaming replicate->L1
def XN:AFn:=⟨8,[.tmp 4],.seq (.region [⟨some 4,.move (.const (.str ⟨#[]⟩)),none,[]⟩]) (.seq (.region [⟨some 5,.move (.tmp 0),none,[]⟩,⟨some 6,.move (.tmp 1),none,[]⟩,⟨some 7,.call (.const (.func (.func 173) [] [])) [.tmp 5,.tmp 6],none,[]⟩,⟨some 4,.move (.tmp 7),none,[]⟩]) (.ret))⟩
def XM:AFn:=⟨32,[.tmp 4],.seq (.region [⟨some 4,.move (.const (.str ⟨#[]⟩)),none,[]⟩]) (.seq (.seq (.region [⟨some 9,.move (.tmp 1),none,[]⟩,⟨some 10,.bin (.eql) (.tmp 9) (.const (.int (.i64) 10)),none,[]⟩]) (.cond (.tmp 10) (.seq (.seq (.region [⟨some 11,.move (.tmp 0),none,[]⟩,⟨some 12,.bin (.lss) (.tmp 11) (.const (.int (.u64) 100)),none,[]⟩]) (.cond (.tmp 12) (.seq (.region [⟨some 13,.move (.tmp 0),none,[]⟩,⟨some 14,.convInt (.i64) (.tmp 13),none,[]⟩,⟨some 15,.call (.const (.func (.func 206) [] [])) [.tmp 14],none,[]⟩,⟨some 4,.move (.tmp 15),none,[]⟩]) (.ret)) (.skip))) (.seq (.region [⟨some 5,.alloc [.int (.u8) 0,.int (.u8) 0,.int (.u8) 0,.int (.u8) 0,.int (.u8) 0,.int (.u8) 0,.int (.u8) 0,.int (.u8) 0,.int (.u8) 0,.int (.u8) 0,.int (.u8) 0,.int (.u8) 0,.int (.u8) 0,.int (.u8) 0,.int (.u8) 0,.int (.u8) 0,.int (.u8) 0,.int (.u8) 0,.int (.u8) 0,.int (.u8) 0,.int (.u8) 0,.int (.u8) 0,.int (.u8) 0,.int (.u8) 0],none,[]⟩]) (.seq (.region [⟨some 16,.move (.tmp 0),none,[]⟩,⟨some 17,.call (.const (.func (.func 207) [] [])) [.tmp 16],none,[]⟩,⟨some 6,.move (.tmp 17),none,[]⟩]) (.seq (.region [⟨some 18,.move (.tmp 6),none,[]⟩,⟨some 19,.sliceArr 24 1 (.tmp 5) none (some (.tmp 18)),none,[]⟩,⟨some 20,.move (.tmp 0),none,[]⟩,⟨some 21,.call (.const (.func (.func 208) [] [])) [.tmp 19,.tmp 20],none,[]⟩]) (.seq (.region [⟨some 22,.move (.tmp 6),none,[]⟩,⟨some 23,.sliceArr 24 1 (.tmp 5) none (some (.tmp 22)),none,[]⟩,⟨some 24,.bytesToStr (.tmp 23),none,[]⟩,⟨some 4,.move (.tmp 24),none,[]⟩]) (.ret)))))) (.skip))) (.seq (.region [⟨some 26,.move (.tmp 0),none,[]⟩,⟨some 27,.move (.tmp 1),none,[]⟩,⟨some 28,.call (.const (.func (.func 209) [] [])) [.const (.nilslice),.tmp 26,.tmp 27,.const (.bool false),.const (.bool false)],none,[]⟩,⟨some 25,.move (.tmp 28),none,[]⟩,⟨some 29,.extract (.tmp 25) 0,none,[]⟩,⟨some 30,.extract (.tmp 25) 1,none,[]⟩,⟨some 7,.move (.tmp 29),none,[]⟩,⟨some 8,.move (.tmp 30),none,[]⟩]) (.seq (.region [⟨some 31,.move (.tmp 8),none,[]⟩,⟨some 4,.move (.tmp 31),none,[]⟩]) (.ret))))⟩
def af209:AFn:=⟨102,[.tmp 10,.tmp 11],.seq (.region [⟨some 10,.move (.const (.nilslice)),none,[]⟩,⟨some 11,.move (.const (.str ⟨#[]⟩)),none,[]⟩]) (.seq (.seq (.region [⟨some 19,.move (.tmp 2),none,[]⟩,⟨some 20,.bin (.lss) (.tmp 19) (.const (.int (.i64) 2)),none,[]⟩,⟨some 21,.move (.tmp 20),none,[]⟩,⟨some 22,.move (.tmp 2),some (21,false),[]⟩,⟨some 23,.bin (.eql) (.tmp 22) (.const (.int (.i64) 10)),some (21,false),[]⟩,⟨some 24,.pick (.tmp 21) (.const (.bool true)) (.tmp 23),none,[]⟩,⟨some 25,.move (.tmp 24),none,[]⟩,⟨some 26,.move (.tmp 2),some (25,false),[]⟩,⟨some 27,.bin (.gtr) (.tmp 26) (.const (.int (.i64) 36)),some (25,false),[]⟩,⟨some 28,.pick (.tmp 25) (.const (.bool true)) (.tmp 27),none,[]⟩]) (.cond (.tmp 28) (.region [⟨some 29,.mkIface 9 (.const (.str ⟨#[115,116,114,99,111,110,118,58,32,105,108,108,101,103,97,108,32,65,112,112,101,110,100,73,110,116,47,70,111,114,109,97,116,73,110,116,32,98,97,115,101]⟩)),none,[]⟩,⟨none,.extract (.const (.junk)) 0,none,[]⟩]) (.skip))) (.seq (.region [⟨some 12,.alloc [.int (.u8) 0,.int (.u8) 0,.int (.u8) 0,.int (.u8) 0,.int (.u8) 0,.int (.u8) 0,.int (.u8) 0,.int (.u8) 0,.int (.u8) 0,.int (.u8) 0,.int (.u8) 0,.int (.u8) 0,.int (.u8) 0,.int (.u8) 0,.int (.u8) 0,.int (.u8) 0,.int (.u8) 0,.int (.u8) 0,.int (.u8) 0,.int (.u8) 0,.int (.u8) 0,.int (.u8) 0,.int (.u8) 0,.int (.u8) 0,.int (.u8) 0,.int (.u8) 0,.int (.u8) 0,.int (.u8) 0,.int (.u8) 0,.int (.u8) 0,.int (.u8) 0,.int (.u8) 0,.int (.u8) 0,.int (.u8) 0,.int (.u8) 0,.int (.u8) 0,.int (.u8) 0,.int (.u8) 0,.int (.u8) 0,.int (.u8) 0,.int (.u8) 0,.int (.u8) 0,.int (.u8) 0,.int (.u8) 0,.int (.u8) 0,.int (.u8) 0,.int (.u8) 0,.int (.u8) 0,.int (.u8) 0,.int (.u8) 0,.int (.u8) 0,.int (.u8) 0,.int (.u8) 0,.int (.u8) 0,.int (.u8) 0,.int (.u8) 0,.int (.u8) 0,.int (.u8) 0,.int (.u8) 0,.int (.u8) 0,.int (.u8) 0,.int (.u8) 0,.int (.u8) 0,.int (.u8) 0,.int (.u8) 0],none,[]⟩]) (.seq (.region [⟨some 13,.move (.const (.int (.i64) 65)),none,[]⟩]) (.seq (.seq (.region [⟨some 30,.move (.tmp 3),none,[]⟩]) (.cond (.tmp 30) (.region [⟨some 31,.move (.tmp 1),none,[]⟩,⟨some 32,.un (.neg) (.tmp 31),none,[]⟩,⟨some 1,.move (.tmp 32),none,[]⟩]) (.skip))) (.seq (.seq (.region [⟨some 33,.move (.tmp 2),none,[]⟩,⟨some 34,.call (.const (.func (.func 232) [] [])) [.tmp 33],none,[]⟩]) (.cond (.tmp 34) (.seq (.region [⟨some 35,.move (.tmp 2),none,[]⟩,⟨some 36,.convInt (.u64) (.tmp 35),none,[]⟩,⟨some 37,.call (.const (.func (.func 233) [] [])) [.tmp 36],none,[]⟩,⟨some 38,.convInt (.u64) (.tmp 37),none,[]⟩,⟨some 14,.move (.tmp 38),none,[]⟩]) (.seq (.region [⟨some 39,.move (.tmp 2),none,[]⟩,⟨some 40,.convInt (.u64) (.tmp 39),none,[]⟩,⟨some 15,.move (.tmp 40),none,[]⟩]) (.seq (.region [⟨some 41,.move (.tmp 2),none,[]⟩,⟨some 42,.convInt (.u64) (.tmp 41),none,[]⟩,⟨some 43,.bin (.sub) (.tmp 42) (.const (.int (.u64) 1)),none,[]⟩,⟨some 16,.move (.tmp 43),none,[]⟩]) (.seq (.block 0 (.loop [2,5,6,7,8,9,17,18,19,20,21,22,23,24,25,26,27,28,29,30,31,32,33,34,35,36,37,38,39,40,41,42,43,44,45,46,47,48,49,50,51,52,53,54,55,56,57,58,59,60,61,62,63,64,65,66,67,68,69,70,71,72,73,74,75,76,77,78,79,80,81,82,83,84,85,86,87,88,89,90,91,92,93,94,95,96,97,98,99,100,101] (.seq (.seq (.region [⟨some 44,.move (.tmp 1),none,[]⟩,⟨some 45,.move (.tmp 15),none,[]⟩,⟨some 46,.bin (.geq) (.tmp 44) (.tmp 45),none,[]⟩]) (.cond (.tmp 46) (.skip) (.exit 0))) (.block 1 (.seq (.region [⟨some 47,.move (.tmp 13),none,[]⟩,⟨some 48,.bin (.sub) (.tmp 47) (.const (.int (.i64) 1)),none,[]⟩,⟨some 13,.move (.tmp 48),none,[]⟩]) (.seq (.region [⟨some 49,.move (.tmp 13),none,[]⟩,⟨some 50,.move (.tmp 1),none,[]⟩,⟨some 51,.move (.tmp 16),none,[]⟩,⟨some 52,.bin (.and) (.tmp 50) (.tmp 51),none,[]⟩,⟨some 53,.indexStr (.const (.str ⟨#[48,49,50,51,52,53,54,55,56,57,97,98,99,100,101,102,103,104,105,106,107,108,109,110,111,112,113,114,115,116,117,118,119,120,121,122]⟩)) (.tmp 52),none,[]⟩,⟨some 54,.indexAddrA 65 1 (.tmp 12) (.tmp 49),none,[]⟩,⟨none,.store 1 (.tmp 54) (.tmp 53),none,[]⟩]) (.region [⟨some 55,.move (.tmp 1),none,[]⟩,⟨some 56,.move (.tmp 14),none,[]⟩,⟨some 57,.bin (.shr) (.tmp 55) (.tmp 56),none,[]⟩,⟨some 1,.move (.tmp 57),none,[]⟩]))))))) (.seq (.region [⟨some 58,.move (.tmp 13),none,[]⟩,⟨some 59,.bin (.sub) (.tmp 58) (.const (.int (.i64) 1)),none,[]⟩,⟨some 13,.move (.tmp 59),none,[]⟩]) (.region [⟨some 60,.move (.tmp 13),none,[]⟩,⟨some 61,.move (.tmp 1),none,[]⟩,⟨some 62,.indexStr (.const (.str ⟨#[48,49,50,51,52,53,54,55,56,57,97,98,99,100,101,102,103,104,105,106,107,108,109,110,111,112,113,114,115,116,117,118,119,120,121,122]⟩)) (.tmp 61),none,[]⟩,⟨some 63,.indexAddrA 65 1 (.tmp 12) (.tmp 60),none,[]⟩,⟨none,.store 1 (.tmp 63) (.tmp 62),none,[]⟩])))))) (.seq (.region [⟨some 64,.move (.tmp 2),none,[]⟩,⟨some 65,.convInt (.u64) (.tmp 64),none,[]⟩,⟨some 17,.move (.tmp 65),none,[]⟩]) (.seq (.block 2 (.loop [2,5,6,7,8,9,14,15,16,18,19,20,21,22,23,24,25,26,27,28,29,30,31,32,33,34,35,36,37,38,39,40,41,42,43,44,45,46,47,48,49,50,51,52,53,54,55,56,57,58,59,60,61,62,63,64,65,66,67,68,69,70,71,72,73,74,75,76,77,78,79,80,81,82,83,84,85,86,87,88,89,90,91,92,93,94,95,96,97,98,99,100,101] (.seq (.seq (.region [⟨some 66,.move (.tmp 1),none,[]⟩,⟨some 67,.move (.tmp 17),none,[]⟩,⟨some 68,.bin (.geq) (.tmp 66) (.tmp 67),none,[]⟩]) (.cond (.tmp 68) (.skip) (.exit 2))) (.block 3 (.seq (.region [⟨some 69,.move (.tmp 13),none,[]⟩,⟨some 70,.bin (.sub) (.tmp 69) (.const (.int (.i64) 1)),none,[]⟩,⟨some 13,.move (.tmp 70),none,[]⟩]) (.seq (.region [⟨some 71,.move (.tmp 1),none,[]⟩,⟨some 72,.move (.tmp 17),none,[]⟩,⟨some 73,.bin (.quo) (.tmp 71) (.tmp 72),none,[]⟩,⟨some 18,.move (.tmp 73),none,[]⟩]) (.seq (.region [⟨some 74,.move (.tmp 13),none,[]⟩,⟨some 75,.move (.tmp 1),none,[]⟩,⟨some 76,.move (.tmp 18),none,[]⟩,⟨some 77,.move (.tmp 17),none,[]⟩,⟨some 78,.bin (.mul) (.tmp 76) (.tmp 77),none,[]⟩,⟨some 79,.bin (.sub) (.tmp 75) (.tmp 78),none,[]⟩,⟨some 80,.indexStr (.const (.str ⟨#[48,49,50,51,52,53,54,55,56,57,97,98,99,100,101,102,103,104,105,106,107,108,109,110,111,112,113,114,115,116,117,118,119,120,121,122]⟩)) (.tmp 79),none,[]⟩,⟨some 81,.indexAddrA 65 1 (.tmp 12) (.tmp 74),none,[]⟩,⟨none,.store 1 (.tmp 81) (.tmp 80),none,[]⟩]) (.region [⟨some 82,.move (.tmp 18),none,[]⟩,⟨some 1,.move (.tmp 82),none,[]⟩])))))))) (.seq (.region [⟨some 83,.move (.tmp 13),none,[]⟩,⟨some 84,.bin (.sub) (.tmp 83) (.const (.int (.i64) 1)),none,[]⟩,⟨some 13,.move (.tmp 84),none,[]⟩]) (.region [⟨some 85,.move (.tmp 13),none,[]⟩,⟨some 86,.move (.tmp 1),none,[]⟩,⟨some 87,.indexStr (.const (.str ⟨#[48,49,50,51,52,53,54,55,56,57,97,98,99,100,101,102,103,104,105,106,107,108,109,110,111,112,113,114,115,116,117,118,119,120,121,122]⟩)) (.tmp 86),none,[]⟩,⟨some 88,.indexAddrA 65 1 (.tmp 12) (.tmp 85),none,[]⟩,⟨none,.store 1 (.tmp 88) (.tmp 87),none,[]⟩])))))) (.seq (.seq (.region [⟨some 89,.move (.tmp 3),none,[]⟩]) (.cond (.tmp 89) (.seq (.region [⟨some 90,.move (.tmp 13),none,[]⟩,⟨some 91,.bin (.sub) (.tmp 90) (.const (.int (.i64) 1)),none,[]⟩,⟨some 13,.move (.tmp 91),none,[]⟩]) (.region [⟨some 92,.move (.tmp 13),none,[]⟩,⟨some 93,.indexAddrA 65 1 (.tmp 12) (.tmp 92),none,[]⟩,⟨none,.store 1 (.tmp 93) (.const (.int (.u8) 45)),none,[]⟩])) (.skip))) (.seq (.seq (.region [⟨some 94,.move (.tmp 4),none,[]⟩]) (.cond (.tmp 94) (.seq (.region [⟨some 95,.move (.tmp 0),none,[]⟩,⟨some 96,.move (.tmp 13),none,[]⟩,⟨some 97,.sliceArr 65 1 (.tmp 12) (some (.tmp 96)) none,none,[]⟩,⟨some 98,.append 1 1 (.tmp 95) (.tmp 97),none,[]⟩,⟨some 10,.move (.tmp 98),none,[]⟩]) (.ret)) (.skip))) (.seq (.region [⟨some 99,.move (.tmp 13),none,[]⟩,⟨some 100,.sliceArr 65 1 (.tmp 12) (some (.tmp 99)) none,none,[]⟩,⟨some 101,.bytesToStr (.tmp 100),none,[]⟩,⟨some 11,.move (.tmp 101),none,[]⟩]) (.ret)))))))))⟩
def af232:AFn:=⟨8,[.tmp 2],.seq (.region [⟨some 2,.move (.const (.bool false)),none,[]⟩]) (.seq (.region [⟨some 3,.move (.tmp 0),none,[]⟩,⟨some 4,.move (.tmp 0),none,[]⟩,⟨some 5,.bin (.sub) (.tmp 4) (.const (.int (.i64) 1)),none,[]⟩,⟨some 6,.bin (.and) (.tmp 3) (.tmp 5),none,[]⟩,⟨some 7,.bin (.eql) (.tmp 6) (.const (.int (.i64) 0)),none,[]⟩,⟨some 2,.move (.tmp 7),none,[]⟩]) (.ret))⟩
structure Has (tab:FuncId->Option AF):Prop where
 h131:tab 131=some (.fn XN)
 h173:tab 173=some (.fn XM)
 h209:tab 209=some (.fn af209)
 h232:tab 232=some (.fn af232)
section
variable {tab:FuncId->Option AF} (T:Has tab)
include T
theorem KO {M:Mem} {K:PV->Mem->Prop} (hk:K (.bool false) M):SemC tab 232 [p64 36] M K:=by
 refine cP T.h232 (by simp only[PP,P1,P2,P14,P15,simprocAttr]) ?_
 have w1:IntKind.i64.wrap (36-1)=35:=rfl
 have w2:eI .and (p64 36) (.int .i64 (IntKind.i64.wrap 35))=some (.int .i64 32):=rfl
 simp only[af232,PP,P1,P2,P14,P15,simprocAttr,w1,w2]
 exact hk
set_option maxHeartbeats 1000000 in
theorem CV {K:PV->Mem->Prop} {M:Mem} {u:Nat} (hu:u<18446744073709551616) (hk:K (.tuple [.nils,.str ⟨(t36 u).toArray⟩]) M):
  SemC tab 209 [.nils,.int .u64 u,p64 36,.bool false,.bool false] M K:=by
 refine cP T.h209 (by simp only[PP,P1,P2,P14,P15,simprocAttr]) ?_
 simp only[af209,PP,P1,P2,P14,P15,simprocAttr]
 refine KO T ?_
 have u36:IntKind.u64.wrap 36=36:=rfl
 simp only[PP,P1,P2,P14,P15,simprocAttr,u36]
 have hdl:∀d:Nat,d<36->(ByteArray.mk #[48,49,50,51,52,53,54,55,56,57,97,98,99,100,101,102,103,104,105,106,107,108,109,110,111,112,113,114,115,116,117,118,119,120,121,122])[d]? =some (sN d):=fun d hd=>aAw hd
 refine jY (fun(c v:Nat)=>c<=12/\cXf u c (12-c)=cX u) (fun c v=>(.nils:: .int .u64 ((u / 36^c:Nat):Int):: .junk:: .bool false:: .bool false::zj 5++ .nils:: .str ⟨#[]⟩:: .ptr 0 0 0::p64 (65-c:Nat)::zj 3++ .int .u64 36::zj 84))
  (fun c v=>[.cells 0 v (List.replicate (65-c) (.int .u8 0)++v8 (rR u c))]) (fun c v=>12-c) 0 0 ⟨by omega,rfl⟩ (by simp only[Nat.pow_zero,Nat.div_one,Nat.sub_zero,Int.cast_ofNat_Int,PW]) rfl ?_
 intro c v ⟨hc,hch⟩ ih
 have hq:u / 36^c<18446744073709551616:=Nat.lt_of_le_of_lt (Nat.div_le_self _ _) hu
 have hi:IntKind.i64.wrap (((65-c:Nat):Int)-1)=((65-(c+1):Nat):Int):=by rw[wrap64 (by omega) (by omega)];omega
 obtain⟨m,hm⟩:∃m,65-c=m+1:=⟨65-c-1,by omega⟩
 have hm2:65-(c+1)=m:=by omega
 have i0:(0:Int)<=(m:Int):=by omega
 have i1:(m:Int)<65:=by omega
 rw[hm,hm2]at hi
 refine dL (by kernel_rfl) ?_
 simp only[PP,P1,P2,P14,P15,simprocAttr]
 refine QIf.intro (fun d=>?_) (fun d=>?_)
 ·have hd36:¬u / 36^c<36:=by omega
  have hc12:c<12:=by
   refine Classical.byContradiction fun q=>?_
   obtain rfl:c=12:=by omega
   have:=(LU hu 0 12 rfl).1
   exact hd36 this
  have hnext:cXf u (c+1) (12-(c+1))=cX u:=by
   rw[<-hch,show 12-c=12-(c+1)+1 by omega]
   show _=if _ then _ else _
   rw[if_neg hd36]
  have hw1:IntKind.u64.wrap ((u / 36^c / 36:Nat):Int)=((u / 36^c / 36:Nat):Int):=S4 (by omega)
  have q36:=aCb (u / 36^c)
  rw[hw1]at q36
  have hw2:IntKind.u64.wrap (((u / 36^c / 36:Nat):Int)*36)=((u / 36^c / 36*36:Nat):Int):=by
   rw[show((u / 36^c / 36:Nat):Int)*36=((u / 36^c / 36*36:Nat):Int) by omega]
   exact S4 (by omega)
  have hw3:IntKind.u64.wrap (((u / 36^c:Nat):Int)-((u / 36^c / 36*36:Nat):Int))=((u / 36^c % 36:Nat):Int):=by
   rw[show((u / 36^c:Nat):Int)-((u / 36^c / 36*36:Nat):Int)=((u / 36^c % 36:Nat):Int) by omega]
   exact S4 (by omega)
  have hdig:=hdl (u / 36^c % 36) (Nat.mod_lt _ (by decide))
  have k0:(0:Int)<=((u / 36^c % 36:Nat):Int):=by omega
  simp only[PP,P1,P2,P14,P15,simprocAttr,d,hm,hi,q36,hw2,hw3,aQ,aL,aP,aC,aR,bD,aK,aJ,aN,aT,aU,aV,aW,aS,bA,aE,aF,aA,aG,aY,aZ,aO,bE,a8,aX,aM,bB,aH,bC,aI,aB,aD,hdig,k0,i0,i1]
  have hrs:((PV.int .u8 0)::(List.replicate m (.int .u8 0)++v8 (rR u c))).set m (.int .u8 (((sN (u / 36^c % 36)).toNat:Nat):Int))=List.replicate m (.int .u8 0)++(.int .u8 (((sN (u / 36^c % 36)).toNat:Nat):Int))::v8 (rR u c):=GO _ _ _ m
  refine⟨by omega,dY (ih (c+1) (v+1) ⟨by omega,hnext⟩ (by omega)) (by simp only[aDP,hm2,PW]) ?_⟩
  rw[hrs,hm2];rfl
 ·have hd36:u / 36^c<36:=by omega
  have hcc:c=cX u:=by
   rw[<-hch]
   cases hf:12-c with
   | zero=>rfl
   | succ f=>
    show c=if _ then _ else _
    rw[if_pos hd36]
  have hdig:=hdl (u / 36^c) hd36
  have k0:(0:Int)<=((u / 36^c:Nat):Int):=Int.natCast_nonneg _
  have hrs:((PV.int .u8 0)::(List.replicate m (.int .u8 0)++v8 (rR u c))).set m (.int .u8 (((sN (u / 36^c)).toNat:Nat):Int))=List.replicate m (.int .u8 0)++(.int .u8 (((sN (u / 36^c)).toNat:Nat):Int))::v8 (rR u c):=GO _ _ _ m
  have hsl:=oV u c
  have t1:(65-(m:Int)).toNat=c+1:=by omega
  have hl:v8 (t36 u)=PV.int .u8 (((sN (u / 36^c)).toNat:Nat):Int)::v8 (rR u c):=by unfold t36;rw[<-hcc];rfl
  have hps:dW (List.replicate m (PV.int .u8 0)++PV.int .u8 (((sN (u / 36^c)).toNat:Nat):Int)::v8 (rR u c)) m (c+1)=v8 (t36 u):=by
   rw[hl]
   unfold dW
   rw[List.drop_append_of_le_length (by simp),List.drop_eq_nil_of_le (by simp),List.nil_append,List.take_of_length_le (by simp[hsl])]
  have hstr:=ZU (t36 u)
  have j1:m<=m+c:=by omega
  have j2:65<=m+(c+1):=by omega
  have j3:(m:Int)<=65:=by omega
  simp only[PP,P1,P2,P14,P15,simprocAttr,d,hm,hi,aQ,aL,aP,aC,aR,bD,aK,aJ,aN,aT,aU,aV,aW,aS,bA,aE,aF,aA,aG,aY,aZ,aO,bE,a8,aX,aM,bB,aH,bC,aI,aB,aD,hdig,k0,i0,i1,hrs,t1,hps,hstr,QX,hsl,j1,j2,j3]
  exact hk
theorem aCB {K:PV->Mem->Prop} {M:Mem} {u:Nat} (hu:u<18446744073709551616) (hk:K (.str ⟨(t36 u).toArray⟩) M):
  SemC tab 173 [.int .u64 u,p64 36] M K:=by
 refine cP T.h173 (by simp only[PP,P1,P2,P14,P15,simprocAttr]) ?_
 simp only[XM,PP,P1,P2,P14,P15,simprocAttr]
 refine CV T hu ?_
 simp only[PP,P1,P2,P14,P15,simprocAttr,aQ,aL,aP,aC,aR,bD,aK,aJ,aN,aT,aU,aV,aW,aS,bA,aE,aF,aA,aG,aY,aZ,aO,bE,a8,aX,aM,bB,aH,bC,aI,aB,aD]
 exact hk
theorem aDK {K:PV->Mem->Prop} {M:Mem} {u:Nat} (hu:u<18446744073709551616) (hk:K (.str ⟨(t36 u).toArray⟩) M):
  SemC tab 131 [.int .u64 u,p64 36] M K:=by
 refine cP T.h131 (by simp only[PP,P1,P2,P14,P15,simprocAttr]) ?_
 simp only[XN,PP,P1,P2,P14,P15,simprocAttr]
 refine aCB T hu ?_
 simp only[PP,P1,P2,P14,P15,simprocAttr,aQ,aL,aP,aC,aR,bD,aK,aJ,aN,aT,aU,aV,aW,aS,bA,aE,aF,aA,aG,aY,aZ,aO,bE,a8,aX,aM,bB,aH,bC,aI,aB,aD]
 exact hk
end
end Go.Am.ArK

