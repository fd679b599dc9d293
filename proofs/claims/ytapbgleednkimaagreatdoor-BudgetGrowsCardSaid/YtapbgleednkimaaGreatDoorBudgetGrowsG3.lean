/- Contracts: the given functions (Itoa, Atoi, FormatUint, Split, Join, toError, the key of a set), and what goes with it. -/
import Derived.Test.YtapbgleednkimaaGreatDoorBudgetGrowsG2
import Derived.Test.YtapbgleednkimaaGreatDoorPmC
import Derived.Test.YtapbgleednkimaaGreatDoorBudgetGrowsG1
import Derived.Test.YtapbgleednkimaaGreatDoorBudgetGrowsG0
set_option linter.unusedVariables false
set_option linter.unusedSimpArgs false
set_option maxRecDepth 10000
namespace Go.Am.Ar
open Go.Am.PV renaming junk->Zj
section
variable {tab:FuncId->Option AF}
theorem TD {g:FuncId} {F:List AV->H->Option AV} (hg:tab g=some (.prim (dI F))) {args:List PV} {M:Mem} {K:PV->Mem->Prop} {r:PV}
    (h:∀w hh args',PSt w hh M->RepL w args args'->∃v,F args' hh=some v/\RepV w r v) (hk:K r M):SemC tab g args M K:=by
  intro w hh args' h0 s ha
  obtain⟨v,hv,hr⟩:=h w hh args' s ha
  unfold C
  refine⟨v,hh,?_,w,r,M,PStp.refl (Nat.le_refl _) w hh,s,hr,hk⟩
  rw[rR]
  simp only[fC,hg,dI,hv]
theorem BT {w:PWd} :∀{l:List (BitVec 64)} {l':List AV},RepL w ((wI l).map (PV.int .u64)) l'->Key.wordsOf l'=some (l.map (·.toNat))
  | [],[],h=>rfl
  | [],_::_,h=>by have:=h.len;simp[wI]at this
  | _::_,[],h=>by have:=h.len;simp[wI]at this
  | a::l,x::l',h=>by
    have h1:=iC h.hd
    subst h1
    have h2:=BT (l:=l) h.tl
    have hlt:=a.isLt
    unfold Key.wordsOf
    rw[h2]
    simp only[List.map_cons]
    rw[if_pos ⟨by omega,by omega⟩]
    simp
end
section
variable {tab:FuncId->Option AF} (T:HasA tab)
include T
theorem L4 {M:Mem} {K:PV->Mem->Prop} {f o:Bool} {a:BitVec 64} (hk:K (.str (kG a)) M):SemC tab 155 [slW f o (gW a)] M K:=by
  refine TD T.key (fun w hh args' s ha=>?_) hk
  match args',ha with
  | [v],ha=>
    have hl:=VW a
    rcases nF s ha.hd with⟨rfl,h1,h2⟩ | ⟨fl',b,off,ver,rw,bcs,rfl,_,e1,e2,e3,e4,e5,_⟩
    · refine⟨_,rfl,?_⟩
      have:gW a=[]:=List.length_eq_zero_iff.1 h1
      unfold kG
      rw[this];exact .str _
    · by_cases hz:(gW a).length=0
      · refine⟨_,by show(if _ then _ else _)=_;rw[if_pos hz],?_⟩
        have:gW a=[]:=List.length_eq_zero_iff.1 hz
        unfold kG
        rw[this];exact .str _
      · refine⟨.str (kG a),?_,.str _⟩
        show(if _ then _ else _)=_
        rw[if_neg hz,if_pos ⟨rfl,by omega⟩]
        have hgc:cZ hh b off (gW a).length=some ((bcs.drop off).take (gW a).length):=by
          unfold cZ
          rw[e2]
          simp only
          rw[if_pos (by rw[<-Nat.mul_one (gW a).length,<-e4];exact e3)]
        rw[hgc]
        have hc:((wI (gW a)).map (PV.int .u64)).length=(gW a).length:=by simp[wI]
        rw[hc]at e5
        have:=BT e5
        simp only[this]
        rfl
end
open Go.Am renaming lF->P1,tB->P2,PKNo->P3,ppack->P4,PObj.under->P5,pput->P6,ptset->P7,ptget->P8,pev->P9,ofAV->P10,ofAV1->P11,ppad->P12,pfill->P13,eZ->P14,AO.effect->P15
open List renaming replicate->L1
open Nat renaming reduceAdd->N1,reduceSub->N2,reduceMul->N3,reduceLT->N4,reduceLeDiff->N5,reduceEqDiff->N6,reduceBEq->N7
open Int renaming reduceToNat->I1,reduceLT->I2,reduceLE->I3,reduceEq->I4,reduceAdd->I5,reduceSub->I6,reduceNeg->I7
theorem KU {a:BitVec 64} {k:Nat} (h:k<64):dW .shr (oJ a) (p64 k)=some (oJ (a>>>k)):=by
  have h1:¬((k:Int)<0):=by omega
  have h2:min ((k:Int).toNat) 64=k:=by omega
  have h3:((a.toNat:Nat):Int).fdiv (2^k)=(((a>>>k).toNat:Nat):Int):=by
    rw[Int.fdiv_eq_ediv_of_nonneg _ (by exact Int.pow_nonneg (by omega)),BitVec.toNat_ushiftRight,Nat.shiftRight_eq_div_pow]
    simp
  simp only[dW,dQ,gA,dE,sE,IntKind.bits,h1,h2,if_true,if_false,h3,Option.map_some,ofAV1]
theorem aBM (a:BitVec 64) (k:Nat):((((a>>>k)&&& 1#64).toNat:Nat):Int)=if a.getLsbD k=true then 1 else 0:=by
  have h:(a>>>k)&&& 1#64=if a.getLsbD k=true then 1#64 else 0#64:=by
    refine BitVec.eq_of_getLsbD_eq fun i hi=>?_
    by_cases hk:a.getLsbD k=true
    · rw[if_pos hk,BitVec.getLsbD_and,BitVec.getLsbD_ushiftRight]
      by_cases h0:i=0
      · subst h0;simp[hk]
      · have:(1#64).getLsbD i=false:=by
          rw[BitVec.getLsbD_one]
          simp[h0]
        rw[this];simp
    · rw[if_neg hk,BitVec.getLsbD_and,BitVec.getLsbD_ushiftRight]
      by_cases h0:i=0
      · subst h0;simp at hk;simp[hk]
      · have:(1#64).getLsbD i=false:=by
          rw[BitVec.getLsbD_one]
          simp[h0]
        rw[this];simp
  rw[h]
  split<;>rfl
def mV (a:BitVec 64) (k:Nat):List Nat:=(List.range k).filter fun j=>a.getLsbD j
theorem L5 (a:BitVec 64) (k:Nat):mV a (k+1)=mV a k++if a.getLsbD k=true then [k] else []:=by
  unfold mV
  rw[List.range_succ,List.filter_append]
  congr 1
  by_cases h:a.getLsbD k=true<;>simp[h]
theorem ST (a:BitVec 64) (k:Nat):(mV a k).length<=k:=by
  unfold mV;exact Nat.le_trans (List.length_filter_le _ _) (by simp)
def orB (l:List Nat):BitVec 64:=l.foldl (fun w k=>w||| BitVec.twoPow 64 k) 0#64
theorem VP (l:List Nat) (k:Nat):orB (l++[k])=orB l||| BitVec.twoPow 64 k:=by unfold orB;rw[List.foldl_append];rfl
theorem VQ (k:Nat):∀(l:List Nat) (w:BitVec 64),(∀x∈l,x<64)->((l.foldl (fun w k=>w||| BitVec.twoPow 64 k) w).getLsbD k=true↔w.getLsbD k=true\/k∈l)
  | [],w,_=>by simp
  | x::l,w,h=>by
    have hx:=h x (by simp)
    rw[List.foldl_cons,VQ k l _ fun y hy=>h y (by simp[hy]),BitVec.getLsbD_or,Bool.or_eq_true,BitVec.getLsbD_twoPow,Bool.and_eq_true,decide_eq_true_eq,decide_eq_true_eq,List.mem_cons]
    constructor
    · rintro((h1 | ⟨h1,h2⟩) | h1)
      · exact .inl h1
      · exact .inr (.inl h2.symm)
      · exact .inr (.inr h1)
    · rintro(h1 | h1 | h1)
      · exact .inl (.inl h1)
      · exact .inl (.inr ⟨by omega,h1.symm⟩)
      · exact .inr h1
theorem aAH {l:List Nat} (h:∀x∈l,x<64) (k:Nat):(orB l).getLsbD k=true↔k∈l:=by
  unfold orB;rw[VQ k l _ h];simp
theorem B1 {N:NF} (C:NOk N):∀q∈N.st,0<=q/\q<64:=fun q hq=>by
  have:=mI C.st q hq
  have:=C.n64
  omega
theorem RL {N:NF} (C:NOk N):orB (N.st.map Int.toNat)=eI N:=by
  have h:=B1 C
  refine BitVec.eq_of_getLsbD_eq fun i hi=>?_
  rw[Bool.eq_iff_iff,aAH (fun x hx=>by obtain⟨q,hq,rfl⟩:=List.mem_map.1 hx;have:=h q hq;omega),nA C]
  constructor
  · intro hx
    obtain⟨q,hq,e⟩:=List.mem_map.1 hx
    have:=h q hq
    rw[show(i:Int)=q by omega];exact hq
  · intro hx
    exact List.mem_map.2 ⟨i,hx,by simp⟩
theorem sJ {tab:FuncId->Option AF} {g:FuncId} {args:List PV} {M:Mem} {K:PV->Mem->Prop} (hb:aU 0 args=true) (hc:SemC tab g args [] fun r M'=>∃r',jB 0 M' r=some r'/\K r' M):SemC tab g args M K:=qS hb hc
section
variable {tab:FuncId->Option AF} (T:HasA tab)
include T
theorem mU {M:Mem} {K:PV->Mem->Prop} {f o:Bool} {xs:List Int} (hm:xs.length<big) (hk:K (slI false true .i64 xs) M):SemC tab 59 [slI f o .i64 xs] M K:=by
  refine sJ (by simp only[PP,P1,P2,P14,P15,N1,N2,N3,N4,N5,N6,N7,I1,I2,I3,I4,I5,I6,I7,reduceIte,reduceCtorEq]) (YB T hm fun g v=>⟨slI false true .i64 xs,?_,hk⟩)
  simp only[jB,fT]
  rw[qA (ver:=v) (Nat.zero_le _) rfl (by simp) (bW _ _ _),dJ _ _ (by simp)]
theorem SQ {M:Mem} {K:PV->Mem->Prop} {f o:Bool} {xs:List Eg} (hm:xs.length<big) (hk:K (slE false true xs) M):SemC tab 153 [slE f o xs] M K:=by
  refine sJ (by simp only[PP,P1,P2,P14,P15,N1,N2,N3,N4,N5,N6,N7,I1,I2,I3,I4,I5,I6,I7,reduceIte,reduceCtorEq,dN]) (YC T hm fun g v=>⟨slE false true xs,?_,hk⟩)
  simp only[jB,fT]
  have:=kQ xs
  have hu:aU 0 (egL xs)=true:=by
    exact fW 0 xs
  rw[qA (ver:=v) (Nat.zero_le _) rfl (by simp[kQ]) hu,dJ _ _ (by simp[kQ])]
set_option maxHeartbeats 1000000 in
theorem PB {M:Mem} {K:PV->Mem->Prop} {f o:Bool} {a:BitVec 64} (hk:K (slI false true .i64 (D5 (nW a))) M):SemC tab 254 [slW f o (gW a)] M K:=by
  refine fD T.h254 (by simp only[PP,P1,P2,P14,P15,N1,N2,N3,N4,N5,N6,N7,I1,I2,I3,I4,I5,I6,I7,reduceIte,reduceCtorEq]) ?_
  simp only[af254]
  refine bL (bD ?_)
  simp only[PP,P1,P2,P14,P15,N1,N2,N3,N4,N5,N6,N7,I1,I2,I3,I4,I5,I6,I7,reduceIte,reduceCtorEq]
  refine d8 (GStep.nil 2 1 rfl rfl rfl) ?_
  refine bD ?_
  simp only[PP,P1,P2,P14,P15,N1,N2,N3,N4,N5,N6,N7,I1,I2,I3,I4,I5,I6,I7,reduceIte,reduceCtorEq]
  refine iF (fun(k:Nat) (g:Nat)=>k<=64) (fun k g=>(slW f o (gW a):: .junk:: .ref 0 g 1 0 (mV a k).length:: .junk::p64 k::zj 20)) (fun k g=>[.cells g 0 ((D5 (mV a k)).map p64)]) (fun k _=>64-k) 0 0 (by omega) (by simp only[mV,List.range_zero,List.filter_nil,PW]) rfl ?_
  intro k g hk64 ih
  refine bZ (by kernel_rfl) ?_
  simp only[PP,P1,P2,P14,P15,N1,N2,N3,N4,N5,N6,N7,I1,I2,I3,I4,I5,I6,I7,reduceIte,reduceCtorEq]
  refine QIf.intro (fun c=>?_) (fun c=>?_)
  rotate_left
  · obtain rfl:k=64:=by omega
    simp only[PP,P1,P2,P14,P15,N1,N2,N3,N4,N5,N6,N7,I1,I2,I3,I4,I5,I6,I7,reduceIte,reduceCtorEq,c]
    rw[dJ _ _ (by simp)]
    have e:mV a 64=nW a:=rfl
    rw[e]
    have e2:(D5 (nW a)).length=(nW a).length:=by simp
    rw[<-e2]
    exact hk
  have hlt:k<64:=by omega
  have hw:=bG (k:=k) (by show _<1000000000000;omega)
  have hbl:=ST a k
  have b1:((mV a k).length+1)*8<=140737488355328:=by omega
  have b2:(mV a k).length+1<=9223372036854775807:=by omega
  have hs:=L5 a k
  unfold gW
  by_cases ha:a=0#64
  · have hn:a.getLsbD k=false:=by rw[ha];simp
    rw[hn]at hs
    simp only[Bool.false_eq_true,if_false,List.append_nil]at hs
    simp only[PP,P1,P2,P14,P15,N1,N2,N3,N4,N5,N6,N7,I1,I2,I3,I4,I5,I6,I7,reduceIte,reduceCtorEq,c,ha,hw,if_true]
    have:=ih (k+1) g (by omega) (by omega)
    rw[hs]at this
    unfold gW at this
    rw[ha]at this
    simp only[if_true]at this
    exact bB this (by simp only[PW])
  · have hsh:=KU (a:=a) hlt
    have hand:dW .and (oJ (a>>>k)) (.int .u64 1)=some (oJ (a>>>k&&& 1#64)):=qB _ 1#64
    have hb:=aBM a k
    simp only[PP,P1,P2,P14,P15,N1,N2,N3,N4,N5,N6,N7,I1,I2,I3,I4,I5,I6,I7,reduceIte,reduceCtorEq,c,ha,hw,if_false,wI,hsh,hand,hb]
    cases hn:a.getLsbD k with
    | false=>
      rw[hn]at hs
      simp only[Bool.false_eq_true,if_false,List.append_nil]at hs
      simp only[PP,P1,P2,P14,P15,N1,N2,N3,N4,N5,N6,N7,I1,I2,I3,I4,I5,I6,I7,reduceIte,reduceCtorEq,hw]
      have:=ih (k+1) g (by omega) (by omega)
      rw[hs]at this
      unfold gW at this
      simp only[ha,if_false,wI]at this
      exact bB this (by simp only[PW])
    | true=>
      rw[hn,if_pos rfl]at hs
      simp only[PP,P1,P2,P14,P15,N1,N2,N3,N4,N5,N6,N7,I1,I2,I3,I4,I5,I6,I7,reduceIte,reduceCtorEq,hw,b1,b2]
      have:=ih (k+1) (g+1) (by omega) (by omega)
      rw[hs]at this
      unfold gW at this
      simp only[ha,if_false,wI]at this
      have he:(mV a k++[k]).length=(mV a k).length+1:=by simp
      rw[he]at this
      refine dR this (by simp only[PW]) ?_
      rw[dJ _ _ (by simp)]
      simp
set_option maxHeartbeats 1000000 in
theorem aDV {M:Mem} {K:PV->Mem->Prop} {f o:Bool} {N:NF} (C:NOk N) (B:BnN N) (hk:K (slW false true (gW (eI N))) M):SemC tab 154 [slI f o .i64 N.st] M K:=by
  have hst:=B1 C
  have hb:N.st.length<1000000000000:=B.s
  have z0:(((0#64:BitVec 64).toNat:Nat):Int)=0:=rfl
  have z1:orB []=0#64:=rfl
  have z2:oJ 0#64= .int .u64 0:=rfl
  refine j4 (a8 T.h154 (by simp only[PP,P1,P2,P14,P15,N1,N2,N3,N4,N5,N6,N7,I1,I2,I3,I4,I5,I6,I7,reduceIte,reduceCtorEq]) ?_)
  simp only[af154,PP,P1,P2,P14,P15,N1,N2,N3,N4,N5,N6,N7,I1,I2,I3,I4,I5,I6,I7,reduceIte,reduceCtorEq]
  refine mL (fun(k:Nat)=>k<=N.st.length) (fun k=>(zj 3++oJ (orB ((N.st.map Int.toNat).take k)):: .junk:: .junk::slI f o .i64 N.st::p64 N.st.length::p64 k::zj 12)) (fun _=>[]) (fun k=>N.st.length-k) 0 (by omega) (by simp only[List.take_zero,z1,z2,PW]) rfl ?_
  intro k hk' ih
  refine bZ (by kernel_rfl) ?_
  simp only[PP,P1,P2,P14,P15,N1,N2,N3,N4,N5,N6,N7,I1,I2,I3,I4,I5,I6,I7,reduceIte,reduceCtorEq]
  refine QIf.intro (fun c=>?_) (fun c=>?_)
  rotate_left
  · have hkl:k=N.st.length:=by omega
    subst hkl
    rw[List.take_of_length_le (by simp),RL C]
    unfold gW at hk
    by_cases ha:eI N=0#64
    · rw[ha]at hk ⊢
      simp only[PP,P1,P2,P14,P15,N1,N2,N3,N4,N5,N6,N7,I1,I2,I3,I4,I5,I6,I7,reduceIte,reduceCtorEq,c,z0]
      exact⟨_,PvWk.nils _ _ _,hk⟩
    · have hz:¬(((eI N).toNat:Nat):Int)=0:=fun h=>ha (by apply BitVec.eq_of_toNat_eq;simp;omega)
      rw[if_neg ha]at hk
      simp only[PP,P1,P2,P14,P15,N1,N2,N3,N4,N5,N6,N7,I1,I2,I3,I4,I5,I6,I7,reduceIte,reduceCtorEq,c,hz]
      exact⟨_,PvWk.sl _ _ _ _,hk⟩
  have hlt:k<N.st.length:=by omega
  have hw:=bG (k:=k) (by show _<1000000000000;omega)
  have i0:(0:Int)<=k:=by omega
  obtain⟨q,gq⟩:=bY hlt
  have hq:=hst q (List.mem_of_getElem? gq)
  have hsh:=xL (k:=q.toNat) (by omega)
  rw[show((q.toNat:Nat):Int)=q by omega]at hsh
  have hor:=B2 (orB ((N.st.map Int.toNat).take k)) (BitVec.twoPow 64 q.toNat)
  have hnx:orB ((N.st.map Int.toNat).take (k+1))=orB ((N.st.map Int.toNat).take k)||| BitVec.twoPow 64 q.toNat:=by
    rw[<-VP,List.take_add_one,List.getElem?_map,gq];rfl
  simp only[PP,P1,P2,P14,P15,N1,N2,N3,N4,N5,N6,N7,I1,I2,I3,I4,I5,I6,I7,reduceIte,reduceCtorEq,c,i0,gq,hsh,hor,hw]
  have:=ih (k+1) (by omega) (by omega)
  rw[hnx]at this
  exact bB this (by simp only[PW])
theorem XP {M:Mem} {K:PV->Mem->Prop} {f o:Bool} {l:List Int} {q:Int} (hl:l.length<big) (hk:∀r:Int,(0<=r↔q∈l)->K (p64 r) M):SemC tab 259 [slI f o .i64 l,p64 q] M K:=by
  have hb:l.length<1000000000000:=hl
  refine a8 T.h259 (by simp only[PP,P1,P2,P14,P15,N1,N2,N3,N4,N5,N6,N7,I1,I2,I3,I4,I5,I6,I7,reduceIte,reduceCtorEq]) ?_
  simp only[af259,PP,P1,P2,P14,P15,N1,N2,N3,N4,N5,N6,N7,I1,I2,I3,I4,I5,I6,I7,reduceIte,reduceCtorEq]
  refine mL (fun(k:Nat)=>k<=l.length/\q∉l.take k) (fun k=>(slI f o .i64 l::p64 q::zj 5++p64 l.length::p64 k::zj 10)) (fun _=>[]) (fun k=>l.length-k) 0 (by simp) (by simp only[PW]) rfl ?_
  intro k ⟨hk',hnm⟩ ih
  refine bZ (by kernel_rfl) ?_
  simp only[PP,P1,P2,P14,P15,N1,N2,N3,N4,N5,N6,N7,I1,I2,I3,I4,I5,I6,I7,reduceIte,reduceCtorEq]
  refine QIf.intro (fun c=>?_) (fun c=>?_)
  rotate_left
  · have hkl:k=l.length:=by omega
    subst hkl
    rw[List.take_of_length_le (Nat.le_refl _)]at hnm
    simp only[PP,P1,P2,P14,P15,N1,N2,N3,N4,N5,N6,N7,I1,I2,I3,I4,I5,I6,I7,reduceIte,reduceCtorEq,c]
    exact hk _ ⟨fun h=>absurd h (by omega),fun h=>absurd h hnm⟩
  have hlt:k<l.length:=by omega
  have hw:=bG (k:=k) (by show _<1000000000000;omega)
  have i0:(0:Int)<=k:=by omega
  obtain⟨x,gx⟩:=bY hlt
  simp only[PP,P1,P2,P14,P15,N1,N2,N3,N4,N5,N6,N7,I1,I2,I3,I4,I5,I6,I7,reduceIte,reduceCtorEq,c,i0,gx]
  refine QIf.intro (fun d=>?_) (fun d=>?_)
  · simp only[PP,P1,P2,P14,P15,N1,N2,N3,N4,N5,N6,N7,I1,I2,I3,I4,I5,I6,I7,reduceIte,reduceCtorEq,d]
    exact hk _ ⟨fun _=>by rw[d];exact List.mem_of_getElem? gx,fun _=>i0⟩
  · simp only[PP,P1,P2,P14,P15,N1,N2,N3,N4,N5,N6,N7,I1,I2,I3,I4,I5,I6,I7,reduceIte,reduceCtorEq,d,hw]
    refine bB (ih (k+1) ⟨by omega,?_⟩ (by omega)) (by simp only[PW])
    rw[List.take_add_one,gx]
    simp only[Option.toList_some,List.mem_append,List.mem_singleton]
    rintro(h | h)
    · exact hnm h
    · exact d h
theorem aBF {M:Mem} {K:PV->Mem->Prop} {f o:Bool} {l:List Int} {q:Int} (hl:l.length<big) (hk:K (.bool (decide (q∈l))) M):SemC tab 257 [slI f o .i64 l,p64 q] M K:=by
  refine a8 T.h257 (by simp only[PP,P1,P2,P14,P15,N1,N2,N3,N4,N5,N6,N7,I1,I2,I3,I4,I5,I6,I7,reduceIte,reduceCtorEq]) ?_
  simp only[af257,PP,P1,P2,P14,P15,N1,N2,N3,N4,N5,N6,N7,I1,I2,I3,I4,I5,I6,I7,reduceIte,reduceCtorEq]
  refine XP T hl fun r hr=>?_
  simp only[PP,P1,P2,P14,P15,N1,N2,N3,N4,N5,N6,N7,I1,I2,I3,I4,I5,I6,I7,reduceIte,reduceCtorEq]
  have:decide (0<=r)=decide (q∈l):=by simp only[hr]
  rw[this]
  exact hk
end
theorem HK {a b:BitVec 64} (h:kG a=kG b):a=b:=by
  unfold kG gW at h
  have h:Key.keyT ((if a=0#64 then [] else [a]).map (·.toNat))=Key.keyT ((if b=0#64 then [] else [b]).map (·.toNat)):=by
    have:=congrArg (fun x:ByteArray=>x.data.toList) h
    simpa using this
  by_cases ha:a=0#64<;>by_cases hb:b=0#64
  · rw[ha,hb]
  · rw[if_pos ha,if_neg hb]at h
    simp[Key.keyT]at h
  · rw[if_neg ha,if_pos hb]at h
    simp[Key.keyT]at h
  · rw[if_neg ha,if_neg hb]at h
    simp only[List.map_cons,List.map_nil,Key.keyT]at h
    have:=List.append_inj_left' h rfl
    exact BitVec.eq_of_toNat_eq (ArK.t36_inj a.isLt b.isLt this)
section
variable {α:Type} [DecidableEq α]
def frN (δ:α->Nat->α) (a:α) (S:List α) (x:Nat):List α:=(eH δ a x S).drop S.length
theorem lK (δ:α->Nat->α) (a:α) (S:List α) (x:Nat):eH δ a x S=S++frN δ a S x:=by
  obtain⟨r,h⟩:=kZ δ a x S
  unfold frN
  rw[h,List.drop_left]
def lB (δ:α->Nat->α) (a:α) (S:List α) (x:Nat):List Int:=(List.range x).map fun y=>(((eH δ a x S).idxOf (δ a y):Nat):Int)
theorem iK (δ:α->Nat->α) (a:α) (S:List α) (x:Nat):(lB δ a S x).length=x:=by simp[lB]
theorem BN (δ:α->Nat->α) (a:α) (S:List α) (x:Nat):lB δ a S (x+1)=lB δ a S x++[(((eH δ a (x+1) S).idxOf (δ a x):Nat):Int)]:=by
  unfold lB
  rw[List.range_succ,List.map_append]
  congr 1
  refine List.map_congr_left fun y hy=>?_
  have hy:=List.mem_range.1 hy
  obtain⟨r,h⟩:=IR (eH δ a x S) (δ a x)
  have h2:eH δ a (x+1) S=eH δ a x S++r:=h
  rw[h2,tO]
  exact(mK δ a _ x S).2 (.inr ⟨y,hy,rfl⟩)
theorem NM {δ:α->Nat->α} {a:α} {S:List α} {x:Nat} (h:δ a x∈S):frN δ a S (x+1)=frN δ a S x/\(eH δ a (x+1) S).idxOf (δ a x)=S.idxOf (δ a x):=by
  have e:eH δ a (x+1) S=eH δ a x S:=by
    show fG _ _=_
    unfold fG
    rw[if_pos (by rw[lK];exact List.mem_append_left _ h)]
  refine⟨by unfold frN;rw[e],?_⟩
  rw[e,lK,tO h]
theorem NO {δ:α->Nat->α} {a:α} {S:List α} {x:Nat} (h:δ a x∉S) (h2:δ a x∈frN δ a S x):frN δ a S (x+1)=frN δ a S x/\(eH δ a (x+1) S).idxOf (δ a x)=S.length+(frN δ a S x).idxOf (δ a x):=by
  have e:eH δ a (x+1) S=eH δ a x S:=by
    show fG _ _=_
    unfold fG
    rw[if_pos (by rw[lK];exact List.mem_append_right _ h2)]
  refine⟨by unfold frN;rw[e],?_⟩
  rw[e,lK,List.idxOf_append,if_neg h,Nat.add_comm]
theorem NN {δ:α->Nat->α} {a:α} {S:List α} {x:Nat} (h:δ a x∉S) (h2:δ a x∉frN δ a S x):frN δ a S (x+1)=frN δ a S x++[δ a x]/\(eH δ a (x+1) S).idxOf (δ a x)=S.length+(frN δ a S x).length:=by
  have e:eH δ a (x+1) S=S++(frN δ a S x++[δ a x]):=by
    show fG _ _=_
    unfold fG
    rw[if_neg (by rw[lK,List.mem_append];rintro(q | q);exact h q;exact h2 q),lK,List.append_assoc]
  refine⟨by have:=e;unfold frN at this ⊢;rw[this,List.drop_left],?_⟩
  rw[e,List.idxOf_append,if_neg h,List.idxOf_append,if_neg h2]
  simp only[List.idxOf_cons_self]
  omega
theorem qJ (δ:α->Nat->α) (a:α) (S:List α):∀x,(frN δ a S x).length<=x
  | 0=>by simp[frN,eH]
  | x+1=>by
    have ih:=qJ δ a S x
    by_cases h:δ a x∈S
    · rw[(NM h).1];omega
    · by_cases h2:δ a x∈frN δ a S x
      · rw[(NO h h2).1];omega
      · rw[(NN h h2).1];simp;omega
theorem SF (δ:α->Nat->α) (a:α) {S:List α} (hS:S.Nodup) (x:Nat):∀t∈frN δ a S x,t∉S:=fun t ht hs=>by
  have:=mZ (δ:=δ) (a:=a) x hS
  rw[lK,List.nodup_append]at this
  exact this.2.2 t hs t ht rfl
end
theorem G3 {S:List (BitVec 64)} {t:BitVec 64} (k:Nat) (h:t∉S):jG 2 (.str (kG t)) (.str (kG t)) (p64 ((k+S.length:Nat):Int)) (smE (j9 kG k S))=smE (j9 kG k (S++[t])):=by
  have hl:=pC (κ:=kG) (Dm:=fun _=>True) (fun a b _ _ h=>HK h) (b:=t) trivial S k (fun _ _=>trivial)
  rw[if_neg h]at hl
  rw[DL _ _ _ hl,tF]
theorem tE (S:List (BitVec 64)) (t:BitVec 64) (k:Nat):uJ (kG t) (j9 kG k S)=if t∈S then some (p64 ((k+S.idxOf t:Nat):Int)) else none:=
  pC (κ:=kG) (Dm:=fun _=>True) (fun a b _ _ h=>HK h) trivial S k (fun _ _=>trivial)
theorem y8 (a:BitVec 64):(nW a).length<=64:=by unfold nW;exact Nat.le_trans (List.length_filter_le _ _) (by simp)
theorem JI (id g:Nat) (cs a b:List PV):∀l:List PV,PFrz id g cs (l++a) (l++b)=PFrz id g cs a b
  | []=>rfl
  | x::l=>by rw[List.cons_append,List.cons_append,uC,JI id g cs a b l]
abbrev csD (f o:Bool) (S:List (BitVec 64)):List PV:=S.map fun a=>slW f o (gW a)
abbrev clD (f o:Bool) (S:List (BitVec 64)):List PV:=(hO S).map (slI f o .i64)
def qD (a b c d e f g h i j:Nat):Nat->Nat
  | 0=>a | 1=>b | 2=>c | 3=>d | 4=>e | 5=>f | 6=>g | 7=>h | 8=>i | _=>j
def f8 (b:Nat) (f1 o1 f2 o2 f3 o3 f o:Bool) (N:NF) (q:Nat->Nat) (S:List (BitVec 64)) (rows:List (List Int)) (fins:List Bool):Mem:=
  [.gone,.cells (q 0) (q 1) (csD f o S),.cells (q 2) (q 3) (clD f o S),.map (q 4) (smE (j9 kG 0 S)),
   .cells 0 (q 5) [p64 N.vs,p64 N.n,slI f1 o1 .i64 N.st,slI f2 o2 .i64 N.fi,slE f3 o3 N.es,.ref (b + 1) (q 0) 1 0 S.length,.ref (b + 2) (q 2) 1 0 S.length,.map (b + 3),.ref (b + 5) (q 6) 1 0 rows.length,.ref (b + 6) (q 8) 1 0 fins.length],
   .cells (q 6) (q 7) (rows.map (slI f o .i64)),.cells (q 8) (q 9) (fins.map PV.bool)]
theorem FK (m:Nat) (f o:Bool) (S:List (BitVec 64)):aU m (csD f o S)=true:=gG m _ (fun a=>gT m _ _ 1 _ .u64 (wI (gW a))) S
theorem oS {A:Mem} (hA:A.all (bH A.length)=true) (f1 o1 f2 o2 f3 o3 f o:Bool) (N:NF) (q:Nat->Nat) (S:List (BitVec 64)) (rows:List (List Int)) (fins:List Bool):
    (A++f8 A.length f1 o1 f2 o2 f3 o3 f o N q S rows fins).all (bH (A.length+7))=true:=by
  have h1:=eD (n:=A.length+7) (by omega) hA
  have h2:∀m,bH m (.map (q 4) (smE (j9 kG 0 S)))=true:=fun m=>by
    refine aAq (fun p hp=>?_) (q 4)
    have key:∀(S:List (BitVec 64)) (k:Nat),∀p∈j9 kG k S,p.2.under m=true:=by
      intro S
      induction S with
      | nil=>intro k p hp;cases hp
      | cons a S ih=>
        intro k p hp
        rcases List.mem_cons.1 hp with rfl | hp
        · simp[PV.under]
        · exact ih _ p hp
    exact key S 0 p hp
  rw[List.all_append,h1]
  have h3:aU (A.length+7) (rows.map (slI f o .i64))=true:=gG _ _ (fun x=>gT _ _ _ 1 _ .i64 x) rows
  have h4:aU (A.length+7) (clD f o S)=true:=gG _ _ (fun x=>gT _ _ _ 1 _ .i64 x) _
  have h5:aU (A.length+7) (fins.map PV.bool)=true:=gG _ _ (fun x=>by simp[PV.under]) fins
  have h6:=FK (A.length+7) f o S
  simp only[f8,List.all_cons,List.all_nil,h2,Bool.true_and,Bool.and_true]
  simp only[bH,h3,h4,h5,h6]
  simp[aU,PV.under,fW,bW]
theorem mQ {A l:Mem} {f1 o1 f2 o2 f3 o3 f o:Bool} {N:NF} {q:Nat->Nat} {S:List (BitVec 64)} {rows:List (List Int)} {fins:List Bool} :
    (A++(f8 A.length f1 o1 f2 o2 f3 o3 f o N q S rows fins++l)).take (A.length+7)=A++f8 A.length f1 o1 f2 o2 f3 o3 f o N q S rows fins:=by
  rw[<-List.append_assoc]
  exact List.take_left' (by simp[f8])
section
variable {tab:FuncId->Option AF} (T:HasA tab)
include T
theorem O2 {A l:Mem} {K:PV->Mem->Prop} {f1 o1 f2 o2 f3 o3 f o:Bool} {N:NF} {q:Nat->Nat} {S:List (BitVec 64)} {rows:List (List Int)} {fins:List Bool} (hk:K (.bool (decide (rows.length<S.length))) (A++(f8 A.length f1 o1 f2 o2 f3 o3 f o N q S rows fins++l))):
    SemC tab 252 [.ptr (A.length+4) 0 0] (A++(f8 A.length f1 o1 f2 o2 f3 o3 f o N q S rows fins++l)) K:=by
  refine cK T.h252 ?_
  unfold f8 at hk ⊢
  simp only[af252,PP,P1,P2,P14,P15,N1,N2,N3,N4,N5,N6,N7,I1,I2,I3,I4,I5,I6,I7,reduceIte,reduceCtorEq,gk,gk0,sk,sk0]
  have e:decide ((rows.length:Int)<S.length)=decide (rows.length<S.length):=by simp only[Int.ofNat_lt]
  rw[e]
  exact hk
theorem aFi {M:Mem} {K:PV->Mem->Prop} {id v:Nat} {f o:Bool} {l:List Int} {x:Int} (hM:M[id]? =some (.cells 0 v [slI f o .i64 l])) (hl:l.length<big) (hk:K (.bool (decide (x∈l))) M):
    SemC tab 256 [p64 x,.ptr id 0 0] M K:=by
  refine cK T.h256 ?_
  simp only[af256,PP,P1,P2,P14,P15,N1,N2,N3,N4,N5,N6,N7,I1,I2,I3,I4,I5,I6,I7,reduceIte,reduceCtorEq,hM]
  refine aBF T hl ?_
  simp only[PP,P1,P2,P14,P15,N1,N2,N3,N4,N5,N6,N7,I1,I2,I3,I4,I5,I6,I7,reduceIte,reduceCtorEq]
  exact hk
theorem aDA {M:Mem} {K:PV->Mem->Prop} {id v:Nat} {f o f2 o2:Bool} {l xs:List Int} (hM:M[id]? =some (.cells 0 v [slI f o .i64 l])) (hl:l.length<big) (hx:xs.length<big) (hk:∀r:Int,(0<=r↔∃x∈xs,x∈l)->K (p64 r) M):
    SemC tab 258 [slI f2 o2 .i64 xs,.func (.func 256) [] [.ptr id 0 0]] M K:=by
  have hb:xs.length<1000000000000:=hx
  refine cK T.h258 ?_
  simp only[af258,PP,P1,P2,P14,P15,N1,N2,N3,N4,N5,N6,N7,I1,I2,I3,I4,I5,I6,I7,reduceIte,reduceCtorEq]
  refine mL (fun(k:Nat)=>k<=xs.length/\∀x∈xs.take k,x∉l) (fun k=>(slI f2 o2 .i64 xs:: .func (.func 256) [] [.ptr id 0 0]::zj 5++p64 xs.length::p64 k::zj 10)) (fun _=>M) (fun k=>xs.length-k) 0 (by simp) (by simp only[PW]) rfl ?_
  intro k ⟨hk',hnm⟩ ih
  refine bZ (by kernel_rfl) ?_
  simp only[PP,P1,P2,P14,P15,N1,N2,N3,N4,N5,N6,N7,I1,I2,I3,I4,I5,I6,I7,reduceIte,reduceCtorEq]
  refine QIf.intro (fun c=>?_) (fun c=>?_)
  rotate_left
  · have hkl:k=xs.length:=by omega
    subst hkl
    rw[List.take_of_length_le (Nat.le_refl _)]at hnm
    simp only[PP,P1,P2,P14,P15,N1,N2,N3,N4,N5,N6,N7,I1,I2,I3,I4,I5,I6,I7,reduceIte,reduceCtorEq,c]
    exact hk _ ⟨fun h=>absurd h (by omega),fun⟨x,h1,h2⟩=>absurd h2 (hnm x h1)⟩
  have hlt:k<xs.length:=by omega
  have hw:=bG (k:=k) (by show _<1000000000000;omega)
  have i0:(0:Int)<=k:=by omega
  obtain⟨x,gx⟩:=bY hlt
  simp only[PP,P1,P2,P14,P15,N1,N2,N3,N4,N5,N6,N7,I1,I2,I3,I4,I5,I6,I7,reduceIte,reduceCtorEq,c,i0,gx]
  refine aFi T hM hl ?_
  by_cases d:x∈l
  · simp only[PP,P1,P2,P14,P15,N1,N2,N3,N4,N5,N6,N7,I1,I2,I3,I4,I5,I6,I7,reduceIte,reduceCtorEq,d]
    exact hk _ ⟨fun _=>⟨x,List.mem_of_getElem? gx,d⟩,fun _=>i0⟩
  · simp only[PP,P1,P2,P14,P15,N1,N2,N3,N4,N5,N6,N7,I1,I2,I3,I4,I5,I6,I7,reduceIte,reduceCtorEq,d,hw]
    refine bB (ih (k+1) ⟨by omega,?_⟩ (by omega)) (by simp only[PW])
    rw[List.take_add_one,gx]
    simp only[Option.toList_some,List.mem_append,List.mem_singleton]
    rintro y (h | rfl)
    · exact hnm y h
    · exact d
theorem aBE {M:Mem} {K:PV->Mem->Prop} {id v:Nat} {f o f2 o2:Bool} {l xs:List Int} {b:Bool} (hM:M[id]? =some (.cells 0 v [slI f o .i64 l])) (hl:l.length<big) (hx:xs.length<big) (hb:b=true↔∃x∈xs,x∈l) (hk:K (.bool b) M):
    SemC tab 255 [slI f2 o2 .i64 xs,.func (.func 256) [] [.ptr id 0 0]] M K:=by
  refine cK T.h255 ?_
  simp only[af255,PP,P1,P2,P14,P15,N1,N2,N3,N4,N5,N6,N7,I1,I2,I3,I4,I5,I6,I7,reduceIte,reduceCtorEq]
  refine aDA T hM hl hx fun r hr=>?_
  simp only[PP,P1,P2,P14,P15,N1,N2,N3,N4,N5,N6,N7,I1,I2,I3,I4,I5,I6,I7,reduceIte,reduceCtorEq]
  have:decide (0<=r)=b:=by rw[Bool.eq_iff_iff,decide_eq_true_eq,hr,hb]
  rw[this]
  exact hk
set_option maxHeartbeats 2000000 in
theorem aBw {A:Mem} {K:PV->Mem->Prop} {f1 o1 f2 o2 f3 o3 f o:Bool} {N:NF} {q:Nat->Nat} {S:List (BitVec 64)} {rows:List (List Int)} {fins:List Bool} (hc:gJ N=0) (B:BnN N) (hA:A.all (bH A.length)=true)
    (hn:S.Nodup) (hl:S.length<=4096) (hfi:fins.length=rows.length)
    (hk0:S.length<=rows.length->K (.tuple [.bool false,p64 0]) (A++f8 A.length f1 o1 f2 o2 f3 o3 f o N q S rows fins))
    (hk1:∀a,S[rows.length]? =some a->4096<(eH (b9 N) a (bJ N) S).length->K (.tuple [.bool false,p64 10]) (A++f8 A.length f1 o1 f2 o2 f3 o3 f o N q S rows fins))
    (hk2:∀a,S[rows.length]? =some a->(eH (b9 N) a (bJ N) S).length<=4096->∀q',K (.tuple [.bool true,p64 0]) (A++f8 A.length f1 o1 f2 o2 f3 o3 true false N q' (eH (b9 N) a (bJ N) S) (rows++[zW (b9 N) (bJ N) (eH (b9 N) a (bJ N) S) a]) (fins++[ET N a]))):
    SemC tab 253 [.ptr (A.length+4) 0 0] (A++f8 A.length f1 o1 f2 o2 f3 o3 f o N q S rows fins) K:=by
  have C:=tG hc
  have hshl:dW .shl (.int .i64 1) (.int .i64 N.vs)=some (.int .i64 ((bJ N:Nat):Int)):=by
    rw[NX (by have:=C.v0;omega) (by have:=C.v6;omega)];simp
  refine gK (jN T.h253 ?_)
  simp only[af253]
  refine bD ?_
  simp only[PP,P1,P2,P14,P15,N1,N2,N3,N4,N5,N6,N7,I1,I2,I3,I4,I5,I6,I7,reduceIte,reduceCtorEq,cF,bV,cE,bF,cG,dF,bU,bT,cC,cN,cO,cP,cQ,cM,dB,bN,bO,bC,bP,cT,cU,cD,dG,cV,cR,cB,dC,bR,dD,bS,bE,bM]
  refine O2 T (l:=[]) ?_
  simp only[PP,P1,P2,P14,P15,N1,N2,N3,N4,N5,N6,N7,I1,I2,I3,I4,I5,I6,I7,reduceIte,reduceCtorEq]
  by_cases c:rows.length<S.length
  rotate_left
  · simp only[PP,P1,P2,P14,P15,N1,N2,N3,N4,N5,N6,N7,I1,I2,I3,I4,I5,I6,I7,reduceIte,reduceCtorEq,c]
    exact Gh.same ⟨_,rfl,hk0 (by omega)⟩
  obtain⟨a,ga⟩:=bY c
  have k0:(0:Int)<=rows.length:=by omega
  have k1:(rows.length:Int)<S.length:=by omega
  simp only[f8,PP,P1,P2,P14,P15,N1,N2,N3,N4,N5,N6,N7,I1,I2,I3,I4,I5,I6,I7,reduceIte,reduceCtorEq,cF,bV,cE,bF,cG,dF,bU,bT,cC,cN,cO,cP,cQ,cM,dB,bN,bO,bC,bP,cT,cU,cD,dG,cV,cR,cB,dC,bR,dD,bS,bE,bM,gk,gk0,sk,sk0,c,k0,k1,ga,hshl,List.append_assoc]
  refine bB (b:=(.ptr (A.length+4) 0 0::zj 3++slW f o (gW a):: .nils:: .nils:: .map (A.length+7)::zj 29++p64 (bJ N:Nat)::p64 (0:Nat)::zj 130)) ?_ (by simp only[PW])
  refine d8 (GStep.nil (b:=(.ptr (A.length+4) 0 0::zj 3++slW f o (gW a):: .ref (A.length+8) 0 1 0 0:: .nils:: .map (A.length+7)::zj 29++p64 (bJ N:Nat)::p64 (0:Nat)::zj 130)) 5 1 rfl (by simp only[PP,P1,P2,P14,P15,N1,N2,N3,N4,N5,N6,N7,I1,I2,I3,I4,I5,I6,I7,reduceIte,reduceCtorEq]) rfl) ?_
  refine d8 (GStep.nil (b:=(.ptr (A.length+4) 0 0::zj 3++slW f o (gW a):: .ref (A.length+8) 0 1 0 0:: .ref (A.length+9) 0 1 0 0:: .map (A.length+7)::zj 29++p64 (bJ N:Nat)::p64 (0:Nat)::zj 130)) 6 1 rfl (by simp only[PP,P1,P2,P14,P15,N1,N2,N3,N4,N5,N6,N7,I1,I2,I3,I4,I5,I6,I7,reduceIte,reduceCtorEq]) rfl) ?_
  refine aCA (fun(x gr gf vm:Nat)=>x<=bJ N) (fun x gr gf vm=>(.ptr (A.length+4) 0 0::zj 3++slW f o (gW a):: .ref (A.length+8) gr 1 0 x:: .ref (A.length+9) gf 1 0 (frN (b9 N) a S x).length:: .map (A.length+7)::zj 29++p64 (bJ N:Nat)::p64 (x:Nat)::zj 130))
    (fun x gr gf vm=>A++(f8 A.length f1 o1 f2 o2 f3 o3 f o N q S rows fins++[.map vm (smE (j9 kG S.length (frN (b9 N) a S x))),.cells gr 0 ((lB (b9 N) a S x).map p64),.cells gf 0 (csD false true (frN (b9 N) a S x))])) (fun x gr gf vm=>bJ N-x) 0 0 0 0 (by omega) (by simp only[frN,eH,List.drop_length,PW]) ?_ ?_
  · simp only[f8,frN,eH,List.drop_length,lB,List.range_zero,j9,smE,List.append_assoc,PP,P1,P2,P14,P15,N1,N2,N3,N4,N5,N6,N7,I1,I2,I3,I4,I5,I6,I7,reduceIte,reduceCtorEq]
  intro x gr gf vm hx ih
  refine bZ (by kernel_rfl) ?_
  have h64:=C.let64
  have hfl:=qJ (b9 N) a S x
  simp only[f8,PP,P1,P2,P14,P15,N1,N2,N3,N4,N5,N6,N7,I1,I2,I3,I4,I5,I6,I7,reduceIte,reduceCtorEq,cF,bV,cE,bF,cG,dF,bU,bT,cC,cN,cO,cP,cQ,cM,dB,bN,bO,bC,bP,cT,cU,cD,dG,cV,cR,cB,dC,bR,dD,bS,bE,bM,gk,gk0,sk,sk0,List.append_assoc]
  refine QIf.intro (fun d=>?_) (fun d=>?_)
  · have hxl:x<bJ N:=by omega
    have hw8:IntKind.u8.wrap (x:Int)=(x:Int):=by
      have:x<256:=by omega
      unfold IntKind.wrap;simp[IntKind.bits,IntKind.signed];omega
    have hwx:=bG (k:=x) (by show _<1000000000000;omega)
    have hwl:IntKind.i64.wrap ((S.length:Int)+(frN (b9 N) a S x).length)=((S.length+(frN (b9 N) a S x).length:Nat):Int):=by rw[wrap64]<;>omega
    have b1:(x+1)*8<=140737488355328:=by omega
    have b2:x+1<=9223372036854775807:=by omega
    have b3:x<=(lB (b9 N) a S x).length:=by rw[iK];exact Nat.le_refl _
    have b4:((frN (b9 N) a S x).length+1)*24<=140737488355328:=by omega
    have b5:(frN (b9 N) a S x).length+1<=9223372036854775807:=by omega
    have hlk0:=tE S (b9 N a x) 0
    have hlk1:=tE (frN (b9 N) a S x) (b9 N a x) S.length
    have hrow:=BN (b9 N) a S x
    simp only[f8,PP,P1,P2,P14,P15,N1,N2,N3,N4,N5,N6,N7,I1,I2,I3,I4,I5,I6,I7,reduceIte,reduceCtorEq,cF,bV,cE,bF,cG,dF,bU,bT,cC,cN,cO,cP,cQ,cM,dB,bN,bO,bC,bP,cT,cU,cD,dG,cV,cR,cB,dC,bR,dD,bS,bE,bM,gk,gk0,sk,sk0,List.append_assoc,d,hw8]
    refine RQ T hc B hxl ?_
    simp only[f8,PP,P1,P2,P14,P15,N1,N2,N3,N4,N5,N6,N7,I1,I2,I3,I4,I5,I6,I7,reduceIte,reduceCtorEq,cF,bV,cE,bF,cG,dF,bU,bT,cC,cN,cO,cP,cQ,cM,dB,bN,bO,bC,bP,cT,cU,cD,dG,cV,cR,cB,dC,bR,dD,bS,bE,bM,gk,gk0,sk,sk0,List.append_assoc]
    refine L4 T ?_
    simp only[f8,PP,P1,P2,P14,P15,N1,N2,N3,N4,N5,N6,N7,I1,I2,I3,I4,I5,I6,I7,reduceIte,reduceCtorEq,cF,bV,cE,bF,cG,dF,bU,bT,cC,cN,cO,cP,cQ,cM,dB,bN,bO,bC,bP,cT,cU,cD,dG,cV,cR,cB,dC,bR,dD,bS,bE,bM,gk,gk0,sk,sk0,List.append_assoc]
    by_cases m1:b9 N a x∈S
    · rw[if_pos m1]at hlk0
      obtain⟨v1,v2⟩:=NM m1
      rw[v2]at hrow
      simp only[f8,PP,P1,P2,P14,P15,N1,N2,N3,N4,N5,N6,N7,I1,I2,I3,I4,I5,I6,I7,reduceIte,reduceCtorEq,cF,bV,cE,bF,cG,dF,bU,bT,cC,cN,cO,cP,cQ,cM,dB,bN,bO,bC,bP,cT,cU,cD,dG,cV,cR,cB,dC,bR,dD,bS,bE,bM,gk,gk0,sk,sk0,List.append_assoc,hlk0,hwx,b1,b2,b3]
      have:=ih (x+1) (gr+1) gf vm (by omega) (by omega)
      rw[v1,hrow]at this
      refine dR this (by simp only[PW]) ?_
      simp only[f8,List.append_assoc,PP,P1,P2,P14,P15,N1,N2,N3,N4,N5,N6,N7,I1,I2,I3,I4,I5,I6,I7,reduceIte,reduceCtorEq]
      rw[dJ _ _ (by simp[iK])]
    · rw[if_neg m1]at hlk0
      by_cases m2:b9 N a x∈frN (b9 N) a S x
      · rw[if_pos m2]at hlk1
        obtain⟨v1,v2⟩:=NO m1 m2
        rw[v2]at hrow
        simp only[f8,PP,P1,P2,P14,P15,N1,N2,N3,N4,N5,N6,N7,I1,I2,I3,I4,I5,I6,I7,reduceIte,reduceCtorEq,cF,bV,cE,bF,cG,dF,bU,bT,cC,cN,cO,cP,cQ,cM,dB,bN,bO,bC,bP,cT,cU,cD,dG,cV,cR,cB,dC,bR,dD,bS,bE,bM,gk,gk0,sk,sk0,List.append_assoc,hlk0,hlk1,hwx,b1,b2,b3]
        have:=ih (x+1) (gr+1) gf vm (by omega) (by omega)
        rw[v1,hrow]at this
        refine dR this (by simp only[PW]) ?_
        simp only[f8,List.append_assoc,PP,P1,P2,P14,P15,N1,N2,N3,N4,N5,N6,N7,I1,I2,I3,I4,I5,I6,I7,reduceIte,reduceCtorEq]
        rw[dJ _ _ (by simp[iK])]
      · rw[if_neg m2]at hlk1
        obtain⟨v1,v2⟩:=NN m1 m2
        rw[v2]at hrow
        have hput:=G3 S.length m2
        simp only[f8,PP,P1,P2,P14,P15,N1,N2,N3,N4,N5,N6,N7,I1,I2,I3,I4,I5,I6,I7,reduceIte,reduceCtorEq,cF,bV,cE,bF,cG,dF,bU,bT,cC,cN,cO,cP,cQ,cM,dB,bN,bO,bC,bP,cT,cU,cD,dG,cV,cR,cB,dC,bR,dD,bS,bE,bM,gk,gk0,sk,sk0,List.append_assoc,hlk0,hlk1,hwx,hwl,hput,b1,b2,b3,b4,b5]
        have:=ih (x+1) (gr+1) (gf+1) (vm+1) (by omega) (by omega)
        rw[v1,hrow]at this
        have e1:(frN (b9 N) a S x++[b9 N a x]).length=(frN (b9 N) a S x).length+1:=by simp
        rw[e1]at this
        refine dR this (by simp only[PW]) ?_
        simp only[f8,List.append_assoc,PP,P1,P2,P14,P15,N1,N2,N3,N4,N5,N6,N7,I1,I2,I3,I4,I5,I6,I7,reduceIte,reduceCtorEq]
        rw[dJ _ _ (by simp[iK])]
  obtain rfl:x=bJ N:=by omega
  have hwl:IntKind.i64.wrap ((S.length:Int)+(frN (b9 N) a S (bJ N)).length)=((S.length+(frN (b9 N) a S (bJ N)).length:Nat):Int):=by rw[wrap64]<;>omega
  have hvl:(eH (b9 N) a (bJ N) S).length=S.length+(frN (b9 N) a S (bJ N)).length:=by rw[lK,List.length_append]
  simp only[f8,PP,P1,P2,P14,P15,N1,N2,N3,N4,N5,N6,N7,I1,I2,I3,I4,I5,I6,I7,reduceIte,reduceCtorEq,cF,bV,cE,bF,cG,dF,bU,bT,cC,cN,cO,cP,cQ,cM,dB,bN,bO,bC,bP,cT,cU,cD,dG,cV,cR,cB,dC,bR,dD,bS,bE,bM,gk,gk0,sk,sk0,List.append_assoc,d,hwl]
  refine QIf.intro (fun e=>?_) (fun e=>?_)
  · simp only[PP,P1,P2,P14,P15,N1,N2,N3,N4,N5,N6,N7,I1,I2,I3,I4,I5,I6,I7,reduceIte,reduceCtorEq,e]
    refine Gh.step (GStep.dropM (b:=[.tuple [.bool false,p64 10]]) (N:=A++f8 A.length f1 o1 f2 o2 f3 o3 f o N q S rows fins) (A.length+7) (by simp) (by simp) (by simp only[PW]) ?_ ?_ ?_) (Gh.same ⟨_,rfl,hk1 a ga (by omega)⟩)
    · simp[aU,PV.under]
    · exact(congrArg (fun M:Mem=>M.all (bH (A.length+7))) (mQ (l:=[_,_,_]))).trans (oS hA ..)
    · exact mQ (l:=[_,_,_])
  have hvn:=SF (b9 N) a hn (bJ N)
  have hfd:(frN (b9 N) a S (bJ N)).Nodup:=by
    have:=mZ (δ:=b9 N) (a:=a) (bJ N) hn
    rw[lK,List.nodup_append]at this
    exact this.2.1
  have hcl:∀S:List (BitVec 64),(hO S).length=S.length:=fun S=>by simp[hO]
  simp only[PP,P1,P2,P14,P15,N1,N2,N3,N4,N5,N6,N7,I1,I2,I3,I4,I5,I6,I7,reduceIte,reduceCtorEq,gk,gk0,e]
  have hvis:=lK (b9 N) a S (bJ N)
  generalize hfr:frN (b9 N) a S (bJ N)=fr at*
  refine bB (b:=(.ptr (A.length+4) 0 0::zj 3++slW f o (gW a):: .ref (A.length+8) gr 1 0 (bJ N)::zj 96++ .ref (A.length+9) gf 1 0 fr.length::p64 fr.length::p64 (0:Nat)::zj 64)) ?_ (by simp only[PW])
  refine d8 (GStep.wkO (A.length+1) (cs2:=csD true false S) (by rw[gk];rfl) (fun w bcs h=>h.wkM (fun x=>PvWk.sl0 _ _ _ _ _)) rfl) ?_
  refine d8 (GStep.wkO (A.length+2) (cs2:=clD true false S) (by rw[sk,gk];rfl) (fun w bcs h=>h.wkM (fun x=>PvWk.sl0 _ _ _ _ _)) rfl) ?_
  refine d8 (GStep.wkO (A.length+5) (cs2:=rows.map (slI true false .i64)) (by rw[sk,sk,gk];rfl) (fun w bcs h=>h.wkM (fun x=>PvWk.sl0 _ _ _ _ _)) rfl) ?_
  refine aEE (fun(i qs vs ql vl qm qw:Nat)=>i<=fr.length) (fun i qs vs ql vl qm qw=>(.ptr (A.length+4) 0 0::zj 3++slW f o (gW a):: .ref (A.length+8) gr 1 0 (bJ N)::zj 96++ .ref (A.length+9) gf 1 0 fr.length::p64 fr.length::p64 (i:Nat)::zj 64))
    (fun i qs vs ql vl qm qw=>A++[.gone,.cells qs vs (csD true false S++csD false true (fr.take i)),.cells ql vl (clD true false S++clD false true (fr.take i)),.map qm (smE (j9 kG 0 (S++fr.take i))),.cells 0 qw [p64 N.vs,p64 N.n,slI f1 o1 .i64 N.st,slI f2 o2 .i64 N.fi,slE f3 o3 N.es,.ref (A.length+1) qs 1 0 (S.length+i),.ref (A.length+2) ql 1 0 (S.length+i),.map (A.length+3),.ref (A.length+5) (q 6) 1 0 rows.length,.ref (A.length+6) (q 8) 1 0 fins.length],.cells (q 6) (q 7) (rows.map (slI true false .i64)),.cells (q 8) (q 9) (fins.map PV.bool),.map vm (smE (j9 kG S.length fr)),.cells gr 0 ((lB (b9 N) a S (bJ N)).map p64),.cells gf 0 (csD false true fr)]) (fun i qs vs ql vl qm qw=>fr.length-i) 0 (q 0) (q 1) (q 2) (q 3) (q 4) (q 5) (by omega) (by simp only[PW]) ?_ ?_
  · have e0:clD false true []=[]:=rfl
    simp only[sk,List.take_zero,List.map_nil,e0,List.append_nil,Nat.add_zero,PP,P1,P2,P14,P15,N1,N2,N3,N4,N5,N6,N7,I1,I2,I3,I4,I5,I6,I7,reduceIte,reduceCtorEq]
  intro i qs vs ql vl qm qw hi ih
  refine bZ (by kernel_rfl) ?_
  simp only[PP,P1,P2,P14,P15,N1,N2,N3,N4,N5,N6,N7,I1,I2,I3,I4,I5,I6,I7,reduceIte,reduceCtorEq,cF,bV,cE,bF,cG,dF,bU,bT,cC,cN,cO,cP,cQ,cM,dB,bN,bO,bC,bP,cT,cU,cD,dG,cV,cR,cB,dC,bR,dD,bS,bE,bM,gk,gk0,sk,sk0]
  refine QIf.intro (fun c2=>?_) (fun c2=>?_)
  · have hil:i<fr.length:=by omega
    obtain⟨t,gt⟩:=bY hil
    have i0:(0:Int)<=i:=by omega
    have hwi:=bG (k:=i) (by show _<1000000000000;omega)
    have htk:fr.take (i+1)=fr.take i++[t]:=iB gt
    have hnm:t∉S++fr.take i:=by
      rw[List.mem_append]
      rintro(h | h)
      · exact hvn t (List.mem_of_getElem? gt) h
      · have h2:=hfd
        rw[<-List.take_append_drop i fr,List.nodup_append]at h2
        refine h2.2.2 t h t ?_ rfl
        exact List.mem_of_getElem? (i:=0) (by rw[List.getElem?_drop];exact gt)
    have hput:=G3 0 hnm
    have hlk:=tE (S++fr.take i) t 0
    rw[if_neg hnm]at hlk
    have hln:(S++fr.take i).length=S.length+i:=by rw[List.length_append,List.length_take,Nat.min_eq_left (by omega)]
    rw[hln,Nat.zero_add,List.append_assoc,<-htk]at hput
    have hti:(fr.take i).length=i:=by rw[List.length_take,Nat.min_eq_left (by omega)]
    have hn14:(A.length+1==A.length+4)=false:=by simp
    have hn24:(A.length+2==A.length+4)=false:=by simp
    have hl2:(S.length+i+1)*24<=140737488355328:=by omega
    have hl3:S.length+i<=9223372036854775806:=by omega
    have hcs:(csD true false S++csD false true (fr.take i)).length=S.length+i:=by simp;omega
    have hcl':(clD true false S++clD false true (fr.take i)).length=S.length+i:=by simp[hO];omega
    simp only[PP,P1,P2,P14,P15,N1,N2,N3,N4,N5,N6,N7,I1,I2,I3,I4,I5,I6,I7,reduceIte,reduceCtorEq,cF,bV,cE,bF,cG,dF,bU,bT,cC,cN,cO,cP,cQ,cM,dB,bN,bO,bC,bP,cT,cU,cD,dG,cV,cR,cB,dC,bR,dD,bS,bE,bM,gk,gk0,sk,sk0,c2,i0,gt]
    refine L4 T ?_
    have hl0:S.length+i<=S.length+i:=Nat.le_refl _
    simp only[PP,P1,P2,P14,P15,N1,N2,N3,N4,N5,N6,N7,I1,I2,I3,I4,I5,I6,I7,reduceIte,reduceCtorEq,cF,bV,cE,bF,cG,dF,bU,bT,cC,cN,cO,cP,cQ,cM,dB,bN,bO,bC,bP,cT,cU,cD,dG,cV,cR,cB,dC,bR,dD,bS,bE,bM,gk,gk0,sk,sk0,hlk,hput,hti,hl0,hl2,hl3,hn14]
    refine PB T ?_
    simp only[PP,P1,P2,P14,P15,N1,N2,N3,N4,N5,N6,N7,I1,I2,I3,I4,I5,I6,I7,reduceIte,reduceCtorEq,cF,bV,cE,bF,cG,dF,bU,bT,cC,cN,cO,cP,cQ,cM,dB,bN,bO,bC,bP,cT,cU,cD,dG,cV,cR,cB,dC,bR,dD,bS,bE,bM,gk,gk0,sk,sk0,hcl,hti,hl0,hl2,hl3,hn14,hn24,hwi]
    have:=ih (i+1) (qs+1) 0 (ql+1) 0 (qm+1) (qw+1+1) (by omega) (by omega)
    refine dR this (by simp only[PW]) ?_
    have e5:csD false true (fr.take (i+1))=csD false true (fr.take i)++[slW false true (gW t)]:=by rw[htk];simp
    have e6:clD false true (fr.take (i+1))=clD false true (fr.take i)++[slI false true .i64 (D5 (nW t))]:=by rw[htk];simp only[clD,hO,List.map_append,List.map_cons,List.map_nil]
    rw[dJ _ _ hcs.symm,dJ _ _ hcl'.symm,e5,e6]
    simp only[List.append_assoc,Nat.add_assoc,List.length_map,slW,slI]
  obtain rfl:i=fr.length:=by omega
  rw[List.take_length]
  simp only[PP,P1,P2,P14,P15,N1,N2,N3,N4,N5,N6,N7,I1,I2,I3,I4,I5,I6,I7,reduceIte,reduceCtorEq,cF,bV,cE,bF,cG,dF,bU,bT,cC,cN,cO,cP,cQ,cM,dB,bN,bO,bC,bP,cT,cU,cD,dG,cV,cR,cB,dC,bR,dD,bS,bE,bM,gk,gk0,sk,sk0,c2]
  refine PB T ?_
  have n1:(rows.length+1)*24<=140737488355328:=by omega
  have n2:rows.length<=9223372036854775806:=by omega
  have n3:fins.length+1<=140737488355328:=by omega
  have n4:fins.length<=9223372036854775806:=by omega
  have n5:rows.length+1<=9223372036854775807:=by omega
  have n6:fins.length+1<=9223372036854775807:=by omega
  simp only[PP,P1,P2,P14,P15,N1,N2,N3,N4,N5,N6,N7,I1,I2,I3,I4,I5,I6,I7,reduceIte,reduceCtorEq,cF,bV,cE,bF,cG,dF,bU,bT,cC,cN,cO,cP,cQ,cM,dB,bN,bO,bC,bP,cT,cU,cD,dG,cV,cR,cB,dC,bR,dD,bS,bE,bM,gk,gk0,sk,sk0,List.append_assoc,n1,n2,n5,n3,n4,n6]
  refine aBE T (v:=1) (f:=false) (o:=true) (l:=D5 (nW a)) (b:=ET N a) (by rw[gk];simp only[slI,List.length_map,List.getElem?_cons_succ,List.getElem?_cons_zero]) (by have:=y8 a;simp;show _<1000000000000;omega) B.f ?_ ?_
  · unfold ET
    rw[List.any_eq_true]
    constructor
    · rintro⟨x,h1,h2⟩
      have:=mI C.fi x h1
      exact⟨x,h1,List.mem_map.2 ⟨x.toNat,mem_bitsW.2 h2,by omega⟩⟩
    · rintro⟨x,h1,h2⟩
      obtain⟨k,h3,rfl⟩:=List.mem_map.1 h2
      exact⟨_,h1,by rw[Int.toNat_natCast];exact mem_bitsW.1 h3⟩
  simp only[PP,P1,P2,P14,P15,N1,N2,N3,N4,N5,N6,N7,I1,I2,I3,I4,I5,I6,I7,reduceIte,reduceCtorEq,cF,bV,cE,bF,cG,dF,bU,bT,cC,cN,cO,cP,cQ,cM,dB,bN,bO,bC,bP,cT,cU,cD,dG,cV,cR,cB,dC,bR,dD,bS,bE,bM,gk,gk0,sk,sk0,List.append_assoc,n1,n2,n5,n3,n4,n6]
  have hrow:lB (b9 N) a S (bJ N)=zW (b9 N) (bJ N) (eH (b9 N) a (bJ N) S) a:=rfl
  have hrl:=iK (b9 N) a S (bJ N)
  have key:=hk2 a ga (by omega) (qD qs vs ql vl qm (qw+1+1) (q 6+1) 0 (q 8+1) 0)
  rw[<-hrow,hvis]at key
  refine Gh.step (GStep.freezeIn (b:=[.tuple [.bool true,.int .i64 0]]) (cj2:=rows.map (slI true false .i64)++[slI false true .i64 (lB (b9 N) a S (bJ N))]) (A.length+8) (A.length+5) (by omega) (by rw[gk];rfl) (by rw[gk];rfl) (by omega) ?_ ?_ rfl) ?_
  · simp only[nZ,n7,List.cons_append,List.nil_append,uC,zN]
  · rw[JI,aAb (by simp[hrl]) (by rw[dJ _ _ (by simp[hrl])];simp only[slI,hrl]),zN];trivial
  simp only[gk,sk,List.set_cons_succ,List.set_cons_zero]
  refine Gh.step (GStep.wkO (A.length+1) (cs2:=csD true false (S++fr)) (by rw[gk];rfl) (fun w bcs h=>h.wkA (fun x=>PvWk.refl _) (fun x=>PvWk.sl0 _ _ _ _ _)) rfl) ?_
  simp only[gk,sk,List.set_cons_succ,List.set_cons_zero]
  refine Gh.step (GStep.wkO (A.length+2) (cs2:=clD true false (S++fr)) (by rw[gk];rfl) (fun w bcs h=>by
    have e:clD true false (S++fr)=(hO S++hO fr).map (slI true false .i64):=by simp only[clD,hO,List.map_append]
    rw[e]
    exact h.wkA (fun x=>PvWk.refl _) (fun x=>PvWk.sl0 _ _ _ _ _)) rfl) ?_
  simp only[gk,sk,List.set_cons_succ,List.set_cons_zero]
  refine Gh.step (GStep.wkO (A.length+5) (cs2:=(rows++[lB (b9 N) a S (bJ N)]).map (slI true false .i64)) (by rw[gk];rfl) (fun w bcs h=>RepL.wkA (ys:=[lB (b9 N) a S (bJ N)]) (f2:=slI false true .i64) (fun x=>PvWk.refl _) (fun x=>PvWk.sl0 _ _ _ _ _) h) rfl) ?_
  simp only[gk,sk,List.set_cons_succ,List.set_cons_zero]
  have hsl:S.length+fr.length=(S++fr).length:=by simp
  have hrl2:rows.length+1=(rows++[lB (b9 N) a S (bJ N)]).length:=by simp
  have hfl2:fins.length+1=(fins++[ET N a]).length:=by simp
  rw[hsl,hrl2,hfl2]
  have ef:fins.map PV.bool++[.bool (ET N a)]=(fins++[ET N a]).map PV.bool:=by simp
  rw[ef]
  refine Gh.step (GStep.dropM (b:=[.tuple [.bool true,p64 0]]) (N:=A++f8 A.length f1 o1 f2 o2 f3 o3 true false N (qD qs vs ql vl qm (qw+1+1) (q 6+1) 0 (q 8+1) 0) (S++fr) (rows++[lB (b9 N) a S (bJ N)]) (fins++[ET N a])) (A.length+7) (Nat.le_refl _) (by simp) (by simp only[PW]) (by simp[aU,PV.under]) ?_ ?_) (Gh.same ⟨_,rfl,key⟩)
  · exact(congrArg (fun M:Mem=>M.all (bH (A.length+7))) (mQ (q:=qD qs vs ql vl qm (qw+1+1) (q 6+1) 0 (q 8+1) 0) (l:=[_,_,_,_]))).trans (oS hA ..)
  · exact mQ (q:=qD qs vs ql vl qm (qw+1+1) (q 6+1) 0 (q 8+1) 0) (l:=[_,_,_,_])
end
section
variable {tab:FuncId->Option AF} (T:HasA tab)
include T
end
section
variable {tab:FuncId->Option AF} (T:HasA tab)
include T
end
theorem wrap_u64 {k:Nat} (h:k<4000000000000):IntKind.u64.wrap (k:Int)=(k:Int):=by
  simp only[IntKind.wrap,IntKind.signed,IntKind.bits]
  simp
  omega
theorem yS:∀{l m:List Int},l.Pairwise (· < ·)->m.Pairwise (· < ·)->(∀x,x∈l↔x∈m)->l=m
  | [],[],_,_,_=>rfl
  | [],y::m,_,_,h=>by have:=(h y).2 (by simp);simp at this
  | x::l,[],_,_,h=>by have:=(h x).1 (by simp);simp at this
  | x::l,y::m,hl,hm,h=>by
    rw[List.pairwise_cons]at hl hm
    have e:x=y:=by
      have h1:=(h x).1 (by simp)
      have h2:=(h y).2 (by simp)
      rcases List.mem_cons.1 h1 with h1 | h1
      · exact h1
      · rcases List.mem_cons.1 h2 with h2 | h2
        · exact h2.symm
        · have:=hl.1 y h2
          have:=hm.1 x h1
          omega
    subst e
    congr 1
    refine yS hl.2 hm.2 fun z=>?_
    constructor
    · intro hz
      rcases List.mem_cons.1 ((h z).1 (by simp[hz])) with e | e
      · have:=hl.1 z hz;omega
      · exact e
    · intro hz
      rcases List.mem_cons.1 ((h z).2 (by simp[hz])) with e | e
      · have:=hm.1 z hz;omega
      · exact e
section
variable {α:Type} [DecidableEq α]
end
theorem JW {N:NF} (C:NOk N):D5 (nW (eI N))=N.st:=by
  refine yS ?_ (mH C.st).1 fun x=>?_
  · rw[List.pairwise_map]
    exact((List.pairwise_lt_range (n:=64)).filter _).imp fun h=>by omega
  · constructor
    · intro h
      obtain⟨k,h1,rfl⟩:=List.mem_map.1 h
      exact(nA C k).1 (mem_bitsW.1 h1)
    · intro h
      have:=mI C.st x h
      have e:x=((x.toNat:Nat):Int):=by omega
      rw[e]at h ⊢
      exact List.mem_map.2 ⟨_,mem_bitsW.2 ((nA C _).2 h),rfl⟩
theorem GE {α:Type} [DecidableEq α] (δ:α->Nat->α) (n:Nat) (o:List α) (a:α):(zW δ n o a).length=n:=by simp[zW]
section
variable {tab:FuncId->Option AF} (T:HasA tab)
include T
end
def kH (A:Mem) (f1 o1 f2 o2 f3 o3 f o:Bool) (N:NF) (q:Nat->Nat) (S:List (BitVec 64)) (rows:List (List Int)) (fins:List Bool) (v:Nat) (u:Int):Mem:=
  A++(f8 A.length f1 o1 f2 o2 f3 o3 f o N q S rows fins++[.cells 0 v [.iface 116 (.ptr (A.length+4) 0 0),p64 u]])
section
variable {tab:FuncId->Option AF} (T:HasA tab)
include T
set_option maxHeartbeats 2000000 in
theorem aDh {A:Mem} {K:PV->Mem->Prop} {f1 o1 f2 o2 f3 o3:Bool} {N:NF} (hc:gJ N=0) (B:BnN N) (hA:A.all (bH A.length)=true)
    (hk:∀q,K (.ptr (A.length+4) 0 0) (A++f8 A.length false true false true false true true false N q [eI N] [] [])):SemC tab 91 [.agg (nfC f1 o1 f2 o2 f3 o3 N)] A K:=by
  have C:=tG hc
  refine gK (jN T.h91 ?_)
  simp only[af91]
  refine bL (bD ?_)
  simp only[PP,P1,P2,P14,P15,N1,N2,N3,N4,N5,N6,N7,I1,I2,I3,I4,I5,I6,I7,reduceIte,reduceCtorEq]
  refine bL (bD ?_)
  simp only[PP,P1,P2,P14,P15,N1,N2,N3,N4,N5,N6,N7,I1,I2,I3,I4,I5,I6,I7,reduceIte,reduceCtorEq,gk,gk0,sk,sk0,dN]
  refine mU T B.s ?_
  simp only[PP,P1,P2,P14,P15,N1,N2,N3,N4,N5,N6,N7,I1,I2,I3,I4,I5,I6,I7,reduceIte,reduceCtorEq,gk,gk0,sk,sk0]
  refine mU T B.f ?_
  simp only[PP,P1,P2,P14,P15,N1,N2,N3,N4,N5,N6,N7,I1,I2,I3,I4,I5,I6,I7,reduceIte,reduceCtorEq,gk,gk0,sk,sk0]
  refine SQ T B.e ?_
  simp only[PP,P1,P2,P14,P15,N1,N2,N3,N4,N5,N6,N7,I1,I2,I3,I4,I5,I6,I7,reduceIte,reduceCtorEq,gk,gk0,sk,sk0]
  refine bL (bD ?_)
  simp only[PP,P1,P2,P14,P15,N1,N2,N3,N4,N5,N6,N7,I1,I2,I3,I4,I5,I6,I7,reduceIte,reduceCtorEq,gk,gk0,sk,sk0]
  refine aDV T C B ?_
  simp only[PP,P1,P2,P14,P15,N1,N2,N3,N4,N5,N6,N7,I1,I2,I3,I4,I5,I6,I7,reduceIte,reduceCtorEq,gk,gk0,sk,sk0]
  refine bL (MR [2,6] ?_)
  simp only[PP,P1,P2,P14,P15,N1,N2,N3,N4,N5,N6,N7,I1,I2,I3,I4,I5,I6,I7,reduceIte,reduceCtorEq,MS,E6,wK,ND,Option.some.injEq,exists_eq_left',gk,gk0,sk,sk0,List.append_assoc]
  refine mU T B.s ?_
  simp only[PP,P1,P2,P14,P15,N1,N2,N3,N4,N5,N6,N7,I1,I2,I3,I4,I5,I6,I7,reduceIte,reduceCtorEq,MS,E6,wK,ND,Option.some.injEq,exists_eq_left',gk,gk0,sk,sk0,List.append_assoc,cF,bV,cE,bF,cG,dF,bU,bT,cC,cN,cO,cP,cQ,cM,dB,bN,bO,bC,bP,cT,cU,cD,dG,cV,cR,cB,dC,bR,dD,bS,bE,bM]
  refine L4 T ?_
  have hp:fS 2 (.str (kG (eI N))) []=some none:=rfl
  have hput:jG 2 (.str (kG (eI N))) (.str (kG (eI N))) (.int .i64 0) []=smE (j9 kG 0 [eI N]):=rfl
  simp only[PP,P1,P2,P14,P15,N1,N2,N3,N4,N5,N6,N7,I1,I2,I3,I4,I5,I6,I7,reduceIte,reduceCtorEq,MS,E6,wK,ND,Option.some.injEq,exists_eq_left',gk,gk0,sk,sk0,List.append_assoc,cF,bV,cE,bF,cG,dF,bU,bT,cC,cN,cO,cP,cQ,cM,dB,bN,bO,bC,bP,cT,cU,cD,dG,cV,cR,cB,dC,bR,dD,bS,bE,bM,hp,hput]
  refine⟨by simp,bD ?_⟩
  simp only[PP,P1,P2,P14,P15,N1,N2,N3,N4,N5,N6,N7,I1,I2,I3,I4,I5,I6,I7,reduceIte,reduceCtorEq]
  refine Gh.step (GStep.nilbox (A.length+4) 8 1 (by rw[gk];rfl) rfl rfl) ?_
  simp only[gk,sk,List.set_cons_succ,List.set_cons_zero,List.append_assoc,List.length_append,List.length_cons,List.length_nil,List.cons_append,List.nil_append,Nat.reduceAdd]
  refine Gh.step (GStep.nilbox (A.length+4) 9 1 (by rw[gk];rfl) rfl rfl) ?_
  simp only[gk,sk,List.set_cons_succ,List.set_cons_zero,List.append_assoc,List.length_append,List.length_cons,List.length_nil,List.cons_append,List.nil_append,Nat.reduceAdd]
  refine Gh.step (GStep.wkO (A.length+1) (cs2:=csD true false [eI N]) (by rw[gk];rfl) (fun w bcs h=>RepL.wkM (xs:=[eI N]) (f:=fun a=>slW false true (gW a)) (fun x=>PvWk.sl0 _ _ _ _ _) h) rfl) ?_
  simp only[gk,sk,List.set_cons_succ,List.set_cons_zero]
  refine Gh.step (GStep.wkO (A.length+2) (cs2:=clD true false [eI N]) (by rw[gk];rfl) (fun w bcs h=>RepL.wkM (xs:=hO [eI N]) (f:=slI false true .i64) (fun x=>PvWk.sl0 _ _ _ _ _) (by
    have e:hO [eI N]=[N.st]:=by rw[<-JW C];rfl
    rw[e];exact h)) rfl) ?_
  simp only[gk,sk,List.set_cons_succ,List.set_cons_zero]
  refine Gh.step (GStep.freeze (b:=[.ptr (A.length+4) 0 0]) A.length (Nat.le_refl _) (by rw[gk0];rfl) (by simp only[nZ,n7,List.cons_append,List.nil_append,uC,zN]) rfl) (Gh.same ⟨_,rfl,?_⟩)
  simp only[sk0,List.set_cons_zero]
  exact hk (qD 0 0 0 0 1 0 0 0 0 0)
set_option maxHeartbeats 2000000 in
theorem UM {A:Mem} {K:PV->Mem->Prop} {f1 o1 f2 o2 f3 o3:Bool} {N:NF} (B:BnN N) (hA:A.all (bH A.length)=true)
    (hk1:gJ N≠0->K (.tuple [.nilptr,p64 (gJ N)]) A)
    (hk2:gJ N=0->∀X q v,bH (A.length+1) X=true->K (.tuple [.ptr (A.length+8) 0 0,p64 0]) (kH (A++[X]) false true false true false true true false N q [eI N] [] [] v 0)):
    SemC tab 40 [.agg (nfC f1 o1 f2 o2 f3 o3 N)] A K:=by
  have hA1:(A++[PObj.cells 0 0 (nfC f1 o1 f2 o2 f3 o3 N)]).all (bH (A++[PObj.cells 0 0 (nfC f1 o1 f2 o2 f3 o3 N)]).length)=true:=by
    rw[List.all_append,eD (by simp) hA]
    simp[bH,aU,PV.under,fW,bW]
  refine gK (cK T.h40 ?_)
  simp only[af40,PP,P1,P2,P14,P15,N1,N2,N3,N4,N5,N6,N7,I1,I2,I3,I4,I5,I6,I7,reduceIte,reduceCtorEq,dN,gk0,sk0]
  refine BK T B ?_
  by_cases hc:gJ N=0
  rotate_left
  · simp only[PP,P1,P2,P14,P15,N1,N2,N3,N4,N5,N6,N7,I1,I2,I3,I4,I5,I6,I7,reduceIte,reduceCtorEq,hc]
    refine Gh.step (GStep.dropM (b:=[.tuple [.nilptr,p64 (gJ N)]]) (N:=A) A.length (Nat.le_refl _) (by simp) (by simp only[PW]) (by simp[aU,PV.under]) ?_ (List.take_left' rfl)) (Gh.same ⟨_,rfl,hk1 hc⟩)
    exact(congrArg (fun M:Mem=>M.all (bH A.length)) (List.take_left' rfl)).trans hA
  simp only[PP,P1,P2,P14,P15,N1,N2,N3,N4,N5,N6,N7,I1,I2,I3,I4,I5,I6,I7,reduceIte,reduceCtorEq,hc,gk0,sk0]
  refine aDh T hc B hA1 fun q=>?_
  have h:=hk2 hc (.cells 0 0 (nfC f1 o1 f2 o2 f3 o3 N)) q 0 (by simp[bH,aU,PV.under,fW,bW])
  have hl:A.length+8=(A++[PObj.cells 0 0 (nfC f1 o1 f2 o2 f3 o3 N)]).length+7:=by simp
  rw[hl]at h
  generalize A++[PObj.cells 0 0 (nfC f1 o1 f2 o2 f3 o3 N)]=A1 at*
  simp only[PP,P1,P2,P14,P15,N1,N2,N3,N4,N5,N6,N7,I1,I2,I3,I4,I5,I6,I7,reduceIte,reduceCtorEq,f8,gk,gk0,sk,sk0,dZ,eE,dK,List.append_assoc]
  exact Gh.same ⟨_,rfl,h⟩
end
end Go.Am.Ar

