/- Contract: is a matrix a simulation (simulate.Is)?, and what goes with it. -/
import Derived.Test.YtapbgleednkimaaGreatDoorBudgetDividedG0
import Derived.Test.YtapbgleednkimaaGreatDoorPmC
set_option linter.unusedVariables false
set_option linter.unusedSimpArgs false
set_option maxRecDepth 10000
namespace Go.Am.Ar
open Go.Am.PV renaming junk->Zj
open Go.Am renaming kV->P1,qL->P2,PKNo->P3,ppack->P4,PObj.under->P5,pput->P6,ptset->P7,ptget->P8,pev->P9,ofAV->P10,ofAV1->P11,ppad->P12,pfill->P13,fF->P14,AO.effect->P15
open List renaming replicate->L1
theorem lS {n:Int} {l:List Int} (h:iU n (-1) l=true):∀x∈l,0<=x/\x<n:=fun x hx=>by
 have:=(lJ h).2 x hx;omega
def faW (l:List Int):Wd:=ofL (l.map Int.toNat)
theorem aBC {N:NF} (C:NOk N) {l:List Int} (h:iU N.n (-1) l=true):(∀x∈l.map Int.toNat,x<4096)/\(faW l).length<=64/\∀k:Nat,bit (faW l) k=decide ((k:Int)∈l):=by
 have hm:=lS h
 have n64:=C.n64
 have h1:∀x∈l.map Int.toNat,x<4096:=fun x hx=>by
  obtain⟨y,hy,rfl⟩:=List.mem_map.1 hx
  have:=hm y hy;omega
 refine⟨h1,Z5 h1,fun k=>?_⟩
 rw[faW,aAO h1,decide_eq_decide,List.mem_map]
 exact⟨fun⟨y,hy,e⟩=>by have:=hm y hy;rw[show(k:Int)=y by omega];exact hy,fun hk=>⟨k,hk,by simp⟩⟩
section
variable {tab:FuncId->Option AF} (T:HasA tab)
include T
end
def oF (es:List Eg) (x:Nat):List Eg:=es.filter fun e=>LH e.ps e.ng x
def aD0 (es:List Eg) (s:Wd) (x:Nat) (o:Wd):Prop:=o.length<=64/\∀k:Nat,bit o k=true↔∃e∈oF es x,bit s e.fr.toNat=true/\e.to=k
theorem W8 {a:Wd} {k:Nat} (ha:a.length<=64) (hk:k<4096):(rG a k).length<=64/\∀j,bit (rG a k) j=(bit a j||decide (j=k)):=by
 have:=EE [k] a ha (fun x hx=>by simp at hx;subst hx;exact hk)
 refine⟨this.1,fun j=>?_⟩
 have h:=this.2 j
 simpa using h
section
variable {tab:FuncId->Option AF} (T:HasA tab)
include T
theorem LD {M:Mem} {K:PV->Mem->Prop} {f1 o1 f2 o2 f3 o3:Bool} {N:NF} {x:Nat} (hk:K (.func (.func 213) [] [.cp (nfC f1 o1 f2 o2 f3 o3 N) 0,.cp [p8 x] 0]) M):
  SemC tab 180 [.agg (nfC f1 o1 f2 o2 f3 o3 N),p8 x] M K:=by
 refine fB T.h180 (by simp only[PP,P1,P2,P14,P15,simprocAttr,eC]) ?_
 simp only[af180]
 refine bS (bR ?_)
 simp only[PP,P1,P2,P14,P15,simprocAttr]
 refine eB (GStep.freezeP (b:=(.junk:: .junk:: .cp (nfC f1 o1 f2 o2 f3 o3 N) 0:: .ptr 1 0 0:: .junk:: .junk::[])) 0 (Nat.zero_le _) rfl (by simp only[kJ,kK,List.cons_append,List.nil_append,f9,fR,fQ,f8]) rfl) ?_
 refine eB (GStep.freezeP (b:=(.junk:: .junk:: .cp (nfC f1 o1 f2 o2 f3 o3 N) 0:: .cp [p8 x] 0:: .junk:: .junk::[])) 1 (Nat.zero_le _) rfl (by simp only[kJ,kK,List.cons_append,List.nil_append,f9,fR,fQ,f8]) rfl) ?_
 refine bR ?_
 have e:∀N':Mem,jF 0 N' (.func (.func 213) [] [.cp (nfC f1 o1 f2 o2 f3 o3 N) 0,.cp [p8 x] 0])=some (.func (.func 213) [] [.cp (nfC f1 o1 f2 o2 f3 o3 N) 0,.cp [p8 x] 0]):=fun N'=>u9 (M:=N') (by simp only[PP,P1,P2,P14,P15,simprocAttr,PV.under,fV])
 simp only[PP,P1,P2,P14,P15,simprocAttr,e]
 exact hk
set_option maxHeartbeats 1000000 in
theorem VM {M:Mem} {K:PV->Mem->Prop} {L:Nat} {f1 o1 f2 o2 f3 o3:Bool} {N:NF} {x:Nat} (hx:x<256) (he:N.es.length<1000000000000) (B:∀e∈N.es,(0<=e.ps/\e.ps<=255)/\(0<=e.ng/\e.ng<=255)) (J:Nat->Mem->Prop) (h0:J 0 M) (hg:∀k G o,J k G->J k (G++[o]))
  (hl:∀k G,J k G->∃ver r,G[L]? =some (.loop ver r))
  (hy:∀k G e,J k G->(oF N.es x)[k]? =some e->∀K':PV->Mem->Prop,(∀G',J (k+1) G'->K' (.bool true) G')->MG tab L [.agg (egC e)] G K')
  (hk:∀G,J (oF N.es x).length G->K (.tuple []) G):
  SemC tab 213 [.yld L [],.cp (nfC f1 o1 f2 o2 f3 o3 N) 0,.cp [p8 x] 0] M K:=by
 refine dH T.h213 ?_
 simp only[af213,PP,P1,P2,P14,P15,simprocAttr]
 refine jY (fun(i:Nat) (G:Mem)=>i<=N.es.length/\J (oF (N.es.take i) x).length G) (fun i G=>(.yld L []:: .junk:: .cp [p8 x] 0::zj 4++slE f3 o3 N.es::p64 N.es.length::p64 i::zj 17)) (fun _ G=>G) (fun i _=>N.es.length-i) 0 M ⟨by omega,h0⟩ (by simp only[PW]) rfl ?_
 intro i G ⟨hle,hJ⟩ ih
 refine dL (by kernel_rfl) ?_
 simp only[PP,P1,P2,P14,P15,simprocAttr]
 refine QIf.intro (fun c=>?_) (fun c=>?_)
 rotate_left
 ·have hi:i=N.es.length:=by omega
  subst hi
  rw[List.take_of_length_le (Nat.le_refl _)]at hJ
  simp only[PP,P1,P2,P14,P15,simprocAttr,c]
  exact hk G hJ
 have hi':i<N.es.length:=by omega
 obtain⟨e,ge⟩:=dN hi'
 have hw:=dA (k:=i) (by show _<1000000000000;omega)
 have i0:(0:Int)<=i:=by omega
 have h4:=xY ge
 have hl4:i*4+4<=(egL N.es).length:=by rw[iQ];exact aBD ge
 obtain⟨b1,b2⟩:=B e (List.mem_of_getElem? ge)
 have htk:oF (N.es.take (i+1)) x=oF (N.es.take i) x++if LH e.ps e.ng x=true then [e] else []:=by
  unfold oF
  rw[List.take_add_one,ge,List.filter_append]
  congr 1
  by_cases q:LH e.ps e.ng x=true<;>simp[q]
 simp only[PP,P1,P2,P14,P15,simprocAttr,c,i0,h4,hl4,List.append_assoc,gk,gk0,sk,sk0]
 refine aDJ T b1 b2 hx ?_
 cases q:LH e.ps e.ng x with
 | false=>
  rw[q]at htk
  simp only[PP,P1,P2,P14,P15,simprocAttr,hw]
  refine dY (ih (i+1) (G++[.cells 0 1 (egC e)]) ⟨by omega,?_⟩ (by omega)) (by simp only[PW]) rfl
  rw[htk];simp;exact hg _ _ _ hJ
 | true=>
  rw[q]at htk
  have hat:(oF N.es x)[(oF (N.es.take i) x).length]? =some e:=by
   have:oF N.es x=oF (N.es.take (i+1)) x++oF (N.es.drop (i+1)) x:=by
    unfold oF;rw[<-List.filter_append,List.take_append_drop]
   rw[this,htk,List.append_assoc,List.getElem?_append_right (Nat.le_refl _),Nat.sub_self]
   simp
  simp only[PP,P1,P2,P14,P15,simprocAttr,List.append_assoc,gk,gk0,sk,sk0,JJ]
  refine⟨hl _ _ (hg _ _ _ hJ),?_⟩
  refine hy _ _ e (hg _ _ _ hJ) hat _ fun G' hJ'=>?_
  simp only[PP,P1,P2,P14,P15,simprocAttr,hw]
  refine dB (ih (i+1) G' ⟨by omega,?_⟩ (by omega)) (by simp only[PW])
  rw[htk];simpa using hJ'
end
section
variable {tab:FuncId->Option AF} (T:HasA tab)
include T
end
def NC (vs:Int) (w:List Int):Int:=if 64<(w.length:Int) then 4 else if w.any (fun x=>decide (2^vs.toNat<=x))=true then 1 else 0
section
variable {tab:FuncId->Option AF} (T:HasA tab)
include T
theorem aCs {M:Mem} {K:PV->Mem->Prop} {f o:Bool} {xs:List Int} {g:FuncId} {cap:List PV} {F:Int->Bool} (hm:xs.length<1000000000000) (hu:cE 0 cap=true)
  (hf:∀x∈xs,∀(M':Mem) (K':PV->Mem->Prop),K' (.bool (F x)) M'->SemC tab g (p8 x::cap) M' K')
  (hk1:(∀x∈xs,F x=false)->K (p64 (-1)) M) (hk2:∀(k:Nat) (x:Int),x∈xs->F x=true->K (p64 k) M):
  SemC tab 212 [slI f o .u8 xs,.func (.func g) [] cap] M K:=by
 refine cP T.h212 (by simp only[PP,P1,P2,P14,P15,simprocAttr,PV.under,hu]) ?_
 simp only[af212,PP,P1,P2,P14,P15,simprocAttr]
 refine jZ (fun(k:Nat)=>k<=xs.length/\∀j,j<k->∀x,xs[j]? =some x->F x=false) (fun k=>(slI f o .u8 xs:: .func (.func g) [] cap::zj 5++p64 xs.length::p64 k::zj 10))
  (fun k=>[]) (fun k=>xs.length-k) 0 ⟨by omega,by intro j h;omega⟩ (by simp only[PW]) rfl ?_
 intro k ⟨hle,hd⟩ ih
 refine dL (by kernel_rfl) ?_
 simp only[PP,P1,P2,P14,P15,simprocAttr]
 refine QIf.intro (fun c=>?_) (fun c=>?_)
 ·have hk':k<xs.length:=by omega
  have k0:(0:Int)<=k:=by omega
  have hwk:=dA (k:=k) (by show _<1000000000000;omega)
  obtain⟨x,gx⟩:=dN (xs:=xs) (k:=k) hk'
  simp only[PP,P1,P2,P14,P15,simprocAttr,c,k0,gx]
  refine hf x (List.mem_of_getElem? gx) _ _ ?_
  cases hF:F x with
  | true=>
   simp only[PP,P1,P2,P14,P15,simprocAttr]
   exact hk2 k x (List.mem_of_getElem? gx) hF
  | false=>
   simp only[PP,P1,P2,P14,P15,simprocAttr,hwk]
   refine dB (ih (k+1) ⟨by omega,fun j hj y gy=>?_⟩ (by omega)) (by simp only[PW])
   by_cases e:j=k
   ·subst e;rw[gx]at gy;cases gy;exact hF
   ·exact hd j (by omega) y gy
 ·simp only[PP,P1,P2,P14,P15,simprocAttr,c]
  exact hk1 fun x hx=>by
   obtain⟨j,hj⟩:=List.getElem?_of_mem hx
   exact hd j (by have:=cQ hj;omega) x hj
theorem aAI {M:Mem} {K:PV->Mem->Prop} {f o:Bool} {xs:List Int} {g:FuncId} {cap:List PV} {F:Int->Bool} (hm:xs.length<1000000000000) (hu:cE 0 cap=true)
  (hf:∀x∈xs,∀(M':Mem) (K':PV->Mem->Prop),K' (.bool (F x)) M'->SemC tab g (p8 x::cap) M' K')
  (hk1:(∀x∈xs,F x=false)->K (.bool false) M) (hk2:(∃x,x∈xs/\F x=true)->K (.bool true) M):
  SemC tab 178 [slI f o .u8 xs,.func (.func g) [] cap] M K:=by
 refine cP T.h178 (by simp only[PP,P1,P2,P14,P15,simprocAttr,PV.under,hu]) ?_
 simp only[af178,PP,P1,P2,P14,P15,simprocAttr]
 refine aCs T hm hu hf (fun h=>?_) (fun k x hx hF=>?_)
 ·have e:¬(0:Int)<=-1:=by omega
  simp only[PP,P1,P2,P14,P15,simprocAttr,e]
  exact hk1 h
 ·have e:(0:Int)<=k:=by omega
  simp only[PP,P1,P2,P14,P15,simprocAttr,e]
  exact hk2 ⟨x,hx,hF⟩
theorem Y6 {M:Mem} {K:PV->Mem->Prop} {f1 o1 f2 o2 f3 o3:Bool} {N:NF} {x:Int} (C:NOk N) (hx:0<=x/\x<=255) (hk:K (.bool (decide (2^N.vs.toNat<=x))) M):SemC tab 179 [p8 x,.cp (nfC f1 o1 f2 o2 f3 o3 N) 0] M K:=by
 refine cP T.h179 (by simp only[PP,P1,P2,P14,P15,simprocAttr,PV.under,fV]) ?_
 have v0:=C.v0
 have v6:=C.v6
 have w:IntKind.i64.wrap x=x:=wrap64 (by omega) (by omega)
 have sh:=aDu (v:=N.vs) (by omega) (by omega)
 simp only[af179,PP,P1,P2,P14,P15,simprocAttr,w,sh]
 exact hk
theorem aBK {M:Mem} {K:PV->Mem->Prop} {f1 o1 f2 o2 f3 o3 f4 o4:Bool} {N:NF} {w:List Int} (C:NOk N) (hw:∀x∈w,0<=x/\x<=255) (hl:w.length<1000000000000) (hk:K (p64 (NC N.vs w)) M):
  SemC tab 143 [.agg (nfC f1 o1 f2 o2 f3 o3 N),slI f4 o4 .u8 w] M K:=by
 refine fB T.h143 (by simp only[PP,P1,P2,P14,P15,simprocAttr,eC]) ?_
 simp only[af143]
 refine bS (bR ?_)
 simp only[PP,P1,P2,P14,P15,simprocAttr]
 refine eB (GStep.freezeP (b:=(.junk::slI f4 o4 .u8 w:: .cp (nfC f1 o1 f2 o2 f3 o3 N) 0:: .junk::p64 0::zj 8)) 0 (Nat.zero_le _) rfl (by simp only[kJ,kK,List.cons_append,List.nil_append,f9,fR,fQ,f8]) rfl) ?_
 refine bR ?_
 simp only[PP,P1,P2,P14,P15,simprocAttr]
 unfold NC at hk
 refine QIf.intro (fun c=>?_) (fun c=>?_)
 ·rw[if_pos c]at hk
  simp only[PP,P1,P2,P14,P15,simprocAttr,c]
  exact hk
 rw[if_neg c]at hk
 simp only[PP,P1,P2,P14,P15,simprocAttr,c]
 refine aAI T (F:=fun x=>decide (2^N.vs.toNat<=x)) hl (by simp only[PP,P1,P2,P14,P15,simprocAttr,PV.under,fV]) (fun x hx M' K' hK'=>Y6 T C (hw x hx) hK') (fun h=>?_) (fun⟨x,hx,hF⟩=>?_)
 ·rw[if_neg (by rw[Bool.not_eq_true,List.any_eq_false];intro x hx;rw[h x hx];decide)]at hk
  simp only[PP,P1,P2,P14,P15,simprocAttr]
  exact hk
 ·rw[if_pos (List.any_eq_true.2 ⟨x,hx,hF⟩)]at hk
  simp only[PP,P1,P2,P14,P15,simprocAttr]
  exact hk
end
def oP (x:BitVec 64):List Nat:=(List.range 64).filter fun k=>x.getLsbD k
theorem mem_bitsW {x:BitVec 64} {k:Nat} :k∈oP x↔x.getLsbD k=true:=by
 unfold oP
 rw[List.mem_filter,List.mem_range]
 constructor
 ·exact fun h=>h.2
 ·intro h
  refine⟨Classical.byContradiction fun q=>?_,h⟩
  rw[BitVec.getLsbD_of_ge _ _ (by omega)]at h;cases h
theorem Z8 {x:BitVec 64} {k:Nat} (h1:x.getLsbD k=true) (h2:∀j,j<k->x.getLsbD j=false) (i:Nat):(-x).getLsbD i=if i<k then false else if i=k then true else(decide (i<64)&& !x.getLsbD i):=by
 have hk:k<64:=by
  refine Classical.byContradiction fun q=>?_
  rw[BitVec.getLsbD_of_ge _ _ (by omega)]at h1;cases h1
 rw[BitVec.getLsbD_neg]
 by_cases c1:i<k
 ·rw[if_pos c1,h2 i c1]
  have:¬∃j,j<i/\x.getLsbD j=true:=by
   rintro⟨j,a,b⟩
   rw[h2 j (by omega)]at b;cases b
  simp[this]
 ·rw[if_neg c1]
  by_cases c2:i=k
  ·subst c2
   rw[if_pos rfl,h1]
   have:¬∃j,j<i/\x.getLsbD j=true:=by
    rintro⟨j,a,b⟩
    rw[h2 j a]at b;cases b
   simp[this]
  ·rw[if_neg c2]
   have:∃j,j<i/\x.getLsbD j=true:=⟨k,by omega,h1⟩
   by_cases c3:i<64
   ·simp[this,c3]
   ·rw[BitVec.getLsbD_of_ge x _ (by omega)];simp[c3]
theorem I6 {x:BitVec 64} {k:Nat} (h1:x.getLsbD k=true) (h2:∀j,j<k->x.getLsbD j=false):x&&& -x=BitVec.twoPow 64 k:=by
 have hk:k<64:=by
  refine Classical.byContradiction fun q=>?_
  rw[BitVec.getLsbD_of_ge _ _ (by omega)]at h1;cases h1
 refine BitVec.eq_of_getLsbD_eq fun i hi=>?_
 rw[BitVec.getLsbD_and,Z8 h1 h2,BitVec.getLsbD_twoPow]
 by_cases c1:i<k
 ·have:¬k=i:=by omega
  simp[c1,this]
 ·by_cases c2:i=k
  ·subst c2;simp[h1,hi]
  ·have:¬k=i:=by omega
   cases hx:x.getLsbD i<;>simp[c1,c2,this]
theorem TE:((List.range 64).all fun k=>tzTab[2^k*285870213051353865 % 18446744073709551616 / 288230376151711744]? ==some k)=true:=by decide+kernel
theorem FV (x:Int):IntKind.u64.wrap x=x % 18446744073709551616:=by
 simp only[IntKind.wrap,IntKind.signed,IntKind.bits];simp
theorem Z7 (x:BitVec 64):BitVec.ofInt 64 (IntKind.u64.wrap (-((x.toNat:Nat):Int)))= -x:=by
 rw[FV]
 have hl:=x.isLt
 apply BitVec.eq_of_toNat_eq
 rw[BitVec.toNat_ofInt,BitVec.toNat_neg]
 omega
theorem aDk {x:BitVec 64} {k:Nat} (h1:x.getLsbD k=true) (h2:∀j,j<k->x.getLsbD j=false):tzF ((x.toNat:Nat):Int)=k:=by
 have hk:k<64:=by
  refine Classical.byContradiction fun q=>?_
  rw[BitVec.getLsbD_of_ge _ _ (by omega)]at h1;cases h1
 have hx:¬((x.toNat:Nat):Int)=0:=by
  intro h
  have:x=0#64:=by apply BitVec.eq_of_toNat_eq;simp;omega
  rw[this]at h1;simp at h1
 have ha:NM ((x.toNat:Nat):Int)=((2^k:Nat):Int):=by
  unfold NM
  have e1:BitVec.ofInt IntKind.u64.bits ((x.toNat:Nat):Int)=x:=LV x
  have e2:BitVec.ofInt IntKind.u64.bits (IntKind.u64.wrap (-((x.toNat:Nat):Int)))= -x:=Z7 x
  rw[e1,e2]
  have e3:=I6 h1 h2
  show IntKind.u64.wrap ((((x&&& -x).toNat:Nat):Int))=_
  rw[e3,pK (BitVec.isLt _),BitVec.toNat_twoPow,Nat.mod_eq_of_lt (Nat.pow_lt_pow_right (by omega) hk)]
 have hi:tzIdx ((x.toNat:Nat):Int)=((2^k*285870213051353865 % 18446744073709551616 / 288230376151711744:Nat):Int):=by
  unfold tzIdx
  rw[ha,FV]
  omega
 have ht:=List.all_eq_true.1 TE k (List.mem_range.2 hk)
 unfold tzF
 rw[if_neg hx,hi,Int.toNat_natCast]
 rw[beq_iff_eq]at ht
 rw[ht];rfl
section
variable {tab:FuncId->Option AF} (T:HasA tab)
include T
theorem aD3 {M:Mem} {K:PV->Mem->Prop} {x:BitVec 64} {k:Nat} (hx:tzF ((x.toNat:Nat):Int)=k) (hk:K (p64 k) M):SemC tab 185 [o6 x] M K:=by
 intro w h args' h0 s ha
 match args',ha with
 | [v],ha=>
 have hv:=fT ha.hd
 subst hv
 unfold C
 refine⟨.int .i64 k,h,?_,w,p64 k,M,PStp.refl (Nat.le_refl _) w h,s,.int _ _,hk⟩
 rw[sH]
 simp only[iV,T.tz,primTz,D7,hx]
end
theorem NF.ext' {N N':NF} (h1:N.vs=N'.vs) (h2:N.n=N'.n) (h3:N.st=N'.st) (h4:N.fi=N'.fi) (h5:N.es=N'.es):N=N':=by
 cases N;cases N';simp_all
section
variable {tab:FuncId->Option AF} (T:HasA tab)
include T
theorem IR {M:Mem} {K:PV->Mem->Prop} {f o f' o':Bool} {xs ys:List Bool} (hm:xs.length<big) (hk:K (.bool (decide (xs=ys))) M):
  SemC tab 52 [slB f o xs,slB f' o' ys] M K:=by
 refine cP T.h52 (by simp only[PP,P1,P2,P14,P15,simprocAttr]) ?_
 simp only[af52,PP,P1,P2,P14,P15,simprocAttr]
 refine QIf.intro (fun c1=>?_) (fun c1=>?_)
 ·simp only[PP,P1,P2,P14,P15,simprocAttr,c1]
  have hl:xs.length=ys.length:=by omega
  refine jZ (fun(k:Nat)=>k<=xs.length/\K (.bool (decide (xs.drop k=ys.drop k))) M) (fun k=>(slB f o xs::slB f' o' ys::zj 3++p64 k::zj 20)) (fun _=>[]) (fun k=>xs.length-k) 0 ⟨by omega,hk⟩ (by simp only[PW]) rfl ?_
  intro k ⟨hle,hq⟩ ih
  refine dL (by kernel_rfl) ?_
  simp only[PP,P1,P2,P14,P15,simprocAttr]
  refine QIf.intro (fun c=>?_) (fun c=>?_)
  ·have hk':k<xs.length:=by omega
   have hk2:k<ys.length:=by omega
   obtain⟨x,gx⟩:=dN hk'
   obtain⟨y,gy⟩:=dN hk2
   rw[nE gx,nE gy]at hq
   have hw:=dA (k:=k) (by omega)
   have h0:(0:Int)<=k:=by omega
   have cy:(k:Int)<ys.length:=by omega
   simp only[PP,P1,P2,P14,P15,simprocAttr,c,gx,gy,hw,h0,cy]
   by_cases e:x=y
   ·subst e
    simp only[PP,P1,P2,P14,P15,simprocAttr,hw,List.cons.injEq]at hq ⊢
    exact dB (ih (k+1) ⟨by omega,hq⟩ (by omega)) (by simp only[PW])
   ·have hbe:(x==y)=false:=by simp[e]
    simp only[PP,P1,P2,P14,P15,simprocAttr,hbe,e,List.cons.injEq]at hq ⊢
    exact hq
  ·simp only[PP,P1,P2,P14,P15,simprocAttr,c]
   rw[List.drop_eq_nil_of_le (by omega),List.drop_eq_nil_of_le (by omega)]at hq
   simp only[PP,P1,P2,P14,P15,simprocAttr]at hq
   exact hq
 ·have hne:xs≠ys:=fun e=>c1 (by rw[e])
  simp only[PP,P1,P2,P14,P15,simprocAttr,c1]
  rw[decide_eq_false hne]at hk
  exact hk
theorem aAE {M:Mem} {K:PV->Mem->Prop} {f o:Bool} {xs:List Eg} (hm:xs.length<big) (hk:K (.ref M.length 0 4 0 xs.length) (M++[.cells 0 0 (egL xs)])):
  SemC tab 37 [slE f o xs] M K:=by
 refine dH T.h37 ?_
 have hm:xs.length<1000000000000:=hm
 have b8:xs.length*24<=140737488355328:=by omega
 have b1:xs.length<=9223372036854775807:=by omega
 simp only[af37,PP,P1,P2,P14,P15,simprocAttr,b8,b1,E3]
 exact hk
end
structure DF where
 vs:Int
 st:Int
 nx:List (List Int)
 fi:List Bool
abbrev dfC (f1 o1 f2 o2 f3 o3:Bool) (D:DF):List PV:=[p64 D.vs,p64 D.st,slR f1 o1 f2 o2 .i64 D.nx,slB f3 o3 D.fi]
structure BnD (D:DF):Prop where
 n:D.nx.length<big
 r:∀r∈D.nx,r.length<big
 f:D.fi.length<big
def XD (n:Int) (r:List Int):Bool:=r.any fun t=>decide (t<0\/n<=t)
def uV (v n:Int):List (List Int)->Int
 | []=>0
 | r::l=>if(r.length:Int)=2^v.toNat then(if XD n r=true then 8 else uV v n l) else 2
def eY (D:DF):Int:=
 if D.vs<0\/6<D.vs then 7 else if(D.nx.length:Int)=0 then 3 else if 4096<(D.nx.length:Int) then 4 else if ¬(D.fi.length:Int)=D.nx.length then 2 else if D.st<0\/(D.nx.length:Int)<=D.st then 8 else uV D.vs D.nx.length D.nx
def lB:Int->List Int->Int
 | m,[]=>m
 | m,x::l=>lB (min m x) l
theorem vD:∀(l:List Int) (m:Int),lB m l<0↔m<0\/∃t∈l,t<0
 | [],m=>by simp[lB]
 | x::l,m=>by
  unfold lB
  rw[vD l]
  simp only[List.mem_cons]
  constructor
  ·rintro(h | ⟨t,h1,h2⟩)
   ·by_cases h3:m<0
    ·exact .inl h3
    ·exact .inr ⟨x,.inl rfl,by omega⟩
   ·exact .inr ⟨t,.inr h1,h2⟩
  ·rintro(h | ⟨t,rfl | h1,h2⟩)
   ·exact .inl (by omega)
   ·exact .inl (by omega)
   ·exact .inr ⟨t,h1,h2⟩
theorem yL {n:Int} :∀(l:List Int) (m:Int),n<=lC m l↔n<=m\/∃t∈l,n<=t
 | [],m=>by simp[lC]
 | x::l,m=>by
  unfold lC
  rw[yL l]
  simp only[List.mem_cons]
  constructor
  ·rintro(h | ⟨t,h1,h2⟩)
   ·by_cases h3:n<=m
    ·exact .inl h3
    ·exact .inr ⟨x,.inl rfl,by omega⟩
   ·exact .inr ⟨t,.inr h1,h2⟩
  ·rintro(h | ⟨t,rfl | h1,h2⟩)
   ·exact .inl (by omega)
   ·exact .inl (by omega)
   ·exact .inr ⟨t,h1,h2⟩
theorem badR_iff {n x:Int} {l:List Int} :XD n (x::l)=true↔lB x l<0\/n<=lC x l:=by
 rw[vD,yL]
 unfold XD
 simp only[List.any_eq_true,List.mem_cons,decide_eq_true_eq]
 constructor
 ·rintro⟨t,rfl | h1,h | h⟩
  ·exact .inl (.inl h)
  ·exact .inr (.inl h)
  ·exact .inl (.inr ⟨t,h1,h⟩)
  ·exact .inr (.inr ⟨t,h1,h⟩)
 ·rintro((h | ⟨t,h1,h⟩) | (h | ⟨t,h1,h⟩))
  ·exact⟨x,.inl rfl,.inl h⟩
  ·exact⟨t,.inr h1,.inl h⟩
  ·exact⟨x,.inl rfl,.inr h⟩
  ·exact⟨t,.inr h1,.inr h⟩
theorem D2 {v:Int} (h0:¬v<0) (h6:¬6<v):eI .shl (.int .i64 1) (.int .i64 v)=some (.int .i64 (2^v.toNat)):=by
 have:v=0\/v=1\/v=2\/v=3\/v=4\/v=5\/v=6:=by omega
 rcases this with rfl | rfl | rfl | rfl | rfl | rfl | rfl<;>rfl
theorem UE (v:Int):(0:Int)<2^v.toNat:=Int.pow_pos (by decide)
section
variable {tab:FuncId->Option AF} (T:HasA tab)
include T
theorem aDE {M:Mem} {K:PV->Mem->Prop} {f o:Bool} {x:Int} {xs:List Int} (hm:(x::xs).length<big) (hq:K (p64 (lB x xs)) M):
  SemC tab 156 [slI f o .i64 (x::xs)] M K:=by
 refine cP T.h156 (by simp only[PP,P1,P2,P14,P15,simprocAttr]) ?_
 have c1:¬((xs.length+1:Nat):Int)<1:=by omega
 have c2:(0:Int)<((xs.length+1:Nat):Int):=by omega
 simp only[af156,PP,P1,P2,P14,P15,simprocAttr,c1,c2]
 have hm':xs.length+1<1000000000000:=hm
 refine jY (fun(k:Nat) (m:Int)=>k<=xs.length/\K (p64 (lB m (xs.drop k))) M) (fun k m=>(slI f o .i64 (x::xs):: .junk:: .junk::p64 m::p64 ((k+1:Nat):Int)::zj 20)) (fun _ _=>[]) (fun k _=>xs.length-k) 0 x ⟨by omega,hq⟩ (by simp only[PW]) rfl ?_
 intro k m ⟨hle,hq⟩ ih
 refine dL (by kernel_rfl) ?_
 simp only[PP,P1,P2,P14,P15,simprocAttr]
 refine QIf.intro (fun c=>?_) (fun c=>?_)
 ·have hk':k<xs.length:=by omega
  have g1:xs[k]? =some xs[k]:=List.getElem?_eq_getElem hk'
  have h0:(0:Int)<=((k+1:Nat):Int):=by omega
  have hw:=dA (k:=k+1) (by show _<1000000000000;omega)
  rw[iR hk']at hq
  simp only[PP,P1,P2,P14,P15,simprocAttr,c,g1,h0,hw,lB,G5]at hq ⊢
  exact dB (ih (k+1) _ ⟨by omega,hq⟩ (by omega)) (by simp only[PW])
 ·rw[List.drop_eq_nil_of_le (by omega)]at hq
  simp only[PP,P1,P2,P14,P15,simprocAttr,c,lB]at hq ⊢
  exact hq
theorem I0 {M:Mem} {K:PV->Mem->Prop} {f1 o1 f2 o2 f3 o3:Bool} {D:DF} (B:BnD D) (hk:K (p64 (eY D)) M):
  SemC tab 92 [.agg (dfC f1 o1 f2 o2 f3 o3 D)] M K:=by
 refine cP T.h92 (by simp only[PP,P1,P2,P14,P15,simprocAttr]) ?_
 simp only[af92,PP,P1,P2,P14,P15,simprocAttr]
 unfold eY at hk
 refine QIf.intro (fun c1=>?_) (fun c1=>?_)
 ·rw[if_pos (.inl c1)]at hk
  simp only[PP,P1,P2,P14,P15,simprocAttr,c1]
  exact hk
 simp only[PP,P1,P2,P14,P15,simprocAttr,c1]
 refine QIf.intro (fun c2=>?_) (fun c2=>?_)
 ·rw[if_pos (.inr c2)]at hk
  simp only[PP,P1,P2,P14,P15,simprocAttr,c2]
  exact hk
 rw[if_neg (by omega)]at hk
 simp only[PP,P1,P2,P14,P15,simprocAttr,c2]
 refine QIf.intro (fun c3=>?_) (fun c3=>?_)
 ·rw[if_pos c3]at hk
  simp only[PP,P1,P2,P14,P15,simprocAttr,c3]
  exact hk
 rw[if_neg c3]at hk
 simp only[PP,P1,P2,P14,P15,simprocAttr,c3]
 refine QIf.intro (fun c4=>?_) (fun c4=>?_)
 ·rw[if_pos c4]at hk
  simp only[PP,P1,P2,P14,P15,simprocAttr,c4]
  exact hk
 rw[if_neg c4]at hk
 simp only[PP,P1,P2,P14,P15,simprocAttr,c4]
 refine QIf.intro (fun c5=>?_) (fun c5=>?_)
 rotate_left
 ·rw[if_pos c5]at hk
  simp only[PP,P1,P2,P14,P15,simprocAttr,c5]
  exact hk
 rw[if_neg (Classical.not_not.2 c5)]at hk
 simp only[PP,P1,P2,P14,P15,simprocAttr,c5]
 refine QIf.intro (fun c6=>?_) (fun c6=>?_)
 ·rw[if_pos (.inl c6)]at hk
  simp only[PP,P1,P2,P14,P15,simprocAttr,c6]
  exact hk
 simp only[PP,P1,P2,P14,P15,simprocAttr,c6]
 refine QIf.intro (fun c7=>?_) (fun c7=>?_)
 ·rw[if_pos (.inr c7)]at hk
  simp only[PP,P1,P2,P14,P15,simprocAttr,c7]
  exact hk
 rw[if_neg (by omega)]at hk
 simp only[PP,P1,P2,P14,P15,simprocAttr,c7]
 have hl:=D2 c1 c2
 refine jZ (fun(k:Nat)=>k<=D.nx.length/\K (p64 (uV D.vs D.nx.length (D.nx.drop k))) M) (fun k=>(.junk:: .ptr 0 0 0:: .junk::p64 D.nx.length::zj 37++slR f1 o1 f2 o2 .i64 D.nx::p64 D.nx.length::p64 k::zj 19)) (fun _=>[.cells 0 0 (dfC f1 o1 f2 o2 f3 o3 D)]) (fun k=>D.nx.length-k) 0 ⟨by omega,hk⟩ (by simp only[PW]) rfl ?_
 intro k ⟨hle,hq⟩ ih
 refine dL (by kernel_rfl) ?_
 simp only[PP,P1,P2,P14,P15,simprocAttr]
 refine QIf.intro (fun c=>?_) (fun c=>?_)
 ·have hk':k<D.nx.length:=by omega
  obtain⟨r,g⟩:=dN hk'
  have h0:(0:Int)<=(k:Int):=by omega
  have hB:D.nx.length<1000000000000:=B.n
  have hw:=dA (k:=k) (by show _<1000000000000;omega)
  rw[nE g]at hq
  simp only[PP,P1,P2,P14,P15,simprocAttr,c,g,h0,hl]
  unfold uV at hq
  refine QIf.intro (fun e=>?_) (fun e=>?_)
  rotate_left
  ·rw[if_neg e]at hq
   simp only[PP,P1,P2,P14,P15,simprocAttr,e]
   exact hq
  rw[if_pos e]at hq
  simp only[PP,P1,P2,P14,P15,simprocAttr,e]
  cases r with
  | nil=>have:=UE D.vs;simp at e;omega
  | cons x l=>
   have hx:(x::l).length<big:=B.r _ (List.mem_of_getElem? g)
   refine aDE T hx ?_
   simp only[PP,P1,P2,P14,P15,simprocAttr]
   refine QIf.intro (fun e1=>?_) (fun e1=>?_)
   ·rw[if_pos (badR_iff.2 (.inl e1))]at hq
    simp only[PP,P1,P2,P14,P15,simprocAttr,e1]
    exact hq
   simp only[PP,P1,P2,P14,P15,simprocAttr,e1]
   refine aDF T hx ?_
   simp only[PP,P1,P2,P14,P15,simprocAttr]
   refine QIf.intro (fun e2=>?_) (fun e2=>?_)
   ·rw[if_pos (badR_iff.2 (.inr e2))]at hq
    simp only[PP,P1,P2,P14,P15,simprocAttr,e2]
    exact hq
   rw[if_neg (by rw[badR_iff];omega)]at hq
   simp only[PP,P1,P2,P14,P15,simprocAttr,e2,hw]
   exact dB (ih (k+1) ⟨by omega,hq⟩ (by omega)) (by simp only[PW])
 ·rw[List.drop_eq_nil_of_le (by omega)]at hq
  simp only[PP,P1,P2,P14,P15,simprocAttr,c,uV]at hq ⊢
  exact hq
end
def digS:ByteArray:=⟨#[48,49,50,51,52,53,54,55,56,57,97,98,99,100,101,102,103,104,105,106,107,108,109,110,111,112,113,114,115,116,117,118,119,120,121,122]⟩
def smlS:ByteArray:=⟨#[48,48,48,49,48,50,48,51,48,52,48,53,48,54,48,55,48,56,48,57,49,48,49,49,49,50,49,51,49,52,49,53,49,54,49,55,49,56,49,57,50,48,50,49,50,50,50,51,50,52,50,53,50,54,50,55,50,56,50,57,51,48,51,49,51,50,51,51,51,52,51,53,51,54,51,55,51,56,51,57,52,48,52,49,52,50,52,51,52,52,52,53,52,54,52,55,52,56,52,57,53,48,53,49,53,50,53,51,53,52,53,53,53,54,53,55,53,56,53,57,54,48,54,49,54,50,54,51,54,52,54,53,54,54,54,55,54,56,54,57,55,48,55,49,55,50,55,51,55,52,55,53,55,54,55,55,55,56,55,57,56,48,56,49,56,50,56,51,56,52,56,53,56,54,56,55,56,56,56,57,57,48,57,49,57,50,57,51,57,52,57,53,57,54,57,55,57,56,57,57]⟩
def nD (n:Nat):ByteArray:=if n<10 then digS.extract n (n+1) else smlS.extract (2*n) (2*n+2)
theorem WA:((List.range 100).all fun a=>(List.range 100).all fun b=>decide (a=b)|| !((nD a).data.toList==(nD b).data.toList))=true:=by decide+kernel
theorem V9 {a b:Nat} (ha:a<100) (hb:b<100) (h:nD a=nD b):a=b:=by
 have:=(List.all_eq_true.1 ((List.all_eq_true.1 WA) a (List.mem_range.2 ha))) b (List.mem_range.2 hb)
 rw[h]at this
 simpa using this
section
variable {tab:FuncId->Option AF} (T:HasA tab)
include T
theorem NT {M:Mem} {K:PV->Mem->Prop} {n:Nat} (hn:n<100) (hk:K (.str (nD n)) M):
  SemC tab 206 [p64 n] M K:=by
 refine cP T.h206 (by simp only[PP,P1,P2,P14,P15,simprocAttr]) ?_
 simp only[af206,PP,P1,P2,P14,P15,simprocAttr]
 have w1:IntKind.i64.wrap ((n:Int)+1)=((n+1:Nat):Int):=dA (by show _<1000000000000;omega)
 have w2:IntKind.i64.wrap ((n:Int)*2)=((2*n:Nat):Int):=by rw[wrap64]<;>omega
 have w3:IntKind.i64.wrap (((2*n:Nat):Int)+2)=((2*n+2:Nat):Int):=by rw[wrap64]<;>omega
 refine QIf.intro (fun c=>?_) (fun c=>?_)
 ·simp only[PP,P1,P2,P14,P15,simprocAttr,c,w1,aQ,aL,aP,aC,aR,bD,aK,aJ,aN,aT,aU,aV,aW,aS,bA,aE,aF,aA,aG,aY,aZ,aO,bE,a8,aX,aM,bB,aH,bC,aI,aB,aD,Option.getD]
  refine⟨⟨by omega,by omega,?_⟩,?_⟩
  ·show((n+1:Nat):Int)<=((36:Nat):Int)
   omega
  ·have e:nD n=digS.extract n (n+1):=by unfold nD;rw[if_pos (by omega)]
   rw[e]at hk
   exact hk
 ·simp only[PP,P1,P2,P14,P15,simprocAttr,c,w2,w3,aQ,aL,aP,aC,aR,bD,aK,aJ,aN,aT,aU,aV,aW,aS,bA,aE,aF,aA,aG,aY,aZ,aO,bE,a8,aX,aM,bB,aH,bC,aI,aB,aD,Option.getD]
  refine⟨⟨by omega,by omega,?_⟩,?_⟩
  ·show((2*n+2:Nat):Int)<=((200:Nat):Int)
   omega
  ·have e:nD n=smlS.extract (2*n) (2*n+2):=by unfold nD;rw[if_neg (by omega)]
   rw[e]at hk
   exact hk
end
def uA (d:Nat):UInt8:=UInt8.ofNat (if d<10 then 48+d else 87+d)
def aD2 (c:UInt8):Nat:=if c.toNat<58 then c.toNat-48 else c.toNat-87
theorem aAv:((List.range 16).all fun d=>digS[d]? ==some (uA d)&&aD2 (uA d)==d)=true:=by decide+kernel
theorem aAx {d:Nat} (h:d<16):digS[d]? =some (uA d):=by
 have:=List.all_eq_true.1 aAv d (List.mem_range.2 h)
 rw[Bool.and_eq_true,beq_iff_eq]at this
 exact this.1
def vU (u:Nat):Nat->List UInt8
 | 0=>[]
 | c+1=>uA (u / 16^c % 16)::vU u c
theorem F3 (u:Nat):∀c,(vU u c).length=c
 | 0=>rfl
 | c+1=>by simp[vU,F3 u c]
def cHf (u:Nat):Nat->Nat->Nat
 | c,0=>c
 | c,f+1=>if u / 16^c<16 then c else cHf u (c+1) f
def cH (u:Nat):Nat:=cHf u 0 15
def IF (u:Nat):List UInt8:=uA (u / 16^cH u)::vU u (cH u)
theorem aCO {u:Nat} (hu:u<18446744073709551616):∀(f c:Nat),c+f=15->u / 16^cHf u c f<16/\cHf u c f<=15:=by
 intro f
 induction f with
 | zero=>
  intro c h
  obtain rfl:c=15:=by omega
  have e:(16:Nat)^15*16=18446744073709551616:=by decide
  refine⟨Nat.div_lt_of_lt_mul ?_,Nat.le_refl _⟩
  show u<16^15*16
  rw[e];exact hu
 | succ f ih=>
  intro c h
  unfold cHf
  split
  ·rename_i q;exact⟨q,by omega⟩
  ·exact ih (c+1) (by omega)
theorem aDQ (u c:Nat):u / 16^(c+1)=u / 16^c / 16:=by rw[Nat.pow_succ,Nat.div_div_eq_div_mul]
theorem aCd {u:Nat} (h:u<18446744073709551616):eI .and (.int .u64 (u:Int)) (.int .u64 15)=some (.int .u64 ((u % 16:Nat):Int)):=by
 have h1:=qM (BitVec.ofNat 64 u) 15#64
 have e1:(BitVec.ofNat 64 u).toNat=u:=by simp;omega
 have e2:(BitVec.ofNat 64 u&&& 15#64).toNat=u % 16:=by
  rw[BitVec.toNat_and,e1]
  exact Nat.and_two_pow_sub_one_eq_mod u 4
 rw[e1,e2]at h1
 exact h1
theorem aDt (u:Nat):eI .shr (.int .u64 (u:Int)) (.int .u64 4)=some (.int .u64 ((u / 16:Nat):Int)):=by
 have:Int.fdiv (u:Int) 16=((u / 16:Nat):Int):=by
  rw[Int.fdiv_eq_ediv_of_nonneg _ (by omega)];rfl
 show some (PV.int .u64 (Int.fdiv (u:Int) 16))=_
 rw[this]
abbrev iZ (l:List UInt8):List PV:=l.map fun c=> .int .u8 ((c.toNat:Nat):Int)
theorem rS:∀l:List UInt8,gY (l.map fun c=> .int .u8 ((c.toNat:Nat):Int))=some l
 | []=>rfl
 | c::l=>by
  have h:=c.toNat_lt
  have e:UInt8.ofNat c.toNat=c:=by simp
  simp only[List.map_cons,gY,rS l]
  rw[if_pos (by omega),Int.toNat_natCast,e]
theorem BQ:∀l:List UInt8,iH (iZ l)=some (l.map fun c=>AV.int .u8 ((c.toNat:Nat):Int))
 | []=>rfl
 | c::l=>by simp only[iZ,List.map_cons,iH,eJ,BQ l]
theorem QM (l:List UInt8):mZ (iZ l)=some l:=by
 unfold mZ;rw[BQ];exact rS l
theorem uW (z x:PV) (l:List PV) (m:Nat):(List.replicate (m+1) z++l).set m x=List.replicate m z++x::l:=by
 rw[List.set_append_left _ _ (by simp),List.replicate_succ',List.set_append_right _ _ (by simp)]
 simp
section
variable {tab:FuncId->Option AF} (T:HasA tab)
include T
theorem KO {M:Mem} {K:PV->Mem->Prop} (hk:K (.bool true) M):SemC tab 232 [p64 16] M K:=by
 refine cP T.h232 (by simp only[PP,P1,P2,P14,P15,simprocAttr]) ?_
 have w1:IntKind.i64.wrap (16-1)=15:=rfl
 have w2:eI .and (p64 16) (.int .i64 (IntKind.i64.wrap 15))=some (.int .i64 0):=rfl
 simp only[af232,PP,P1,P2,P14,P15,simprocAttr,w1,w2]
 exact hk
theorem aBP {M:Mem} {K:PV->Mem->Prop} (hk:K (p64 4) M):SemC tab 233 [.int .u64 16] M K:=by
 refine cP T.h233 (by simp only[PP,P1,P2,P14,P15,simprocAttr]) ?_
 simp only[af233,PP,P1,P2,P14,P15,simprocAttr]
 refine aD3 T (x:=16#64) (k:=4) (aDk (by decide) (by decide)) ?_
 simp only[PP,P1,P2,P14,P15,simprocAttr]
 exact hk
set_option maxHeartbeats 1000000 in
theorem CV {K:PV->Mem->Prop} {u:Nat} (hu:u<18446744073709551616) (hk:∀o,K (.tuple [.ref 1 0 1 0 (IF u).length,.str ⟨#[]⟩]) [o,.cells 0 0 (iZ (IF u))]):
  SemC tab 209 [.nils,.int .u64 u,p64 16,.bool false,.bool true] [] K:=by
 refine dH T.h209 ?_
 simp only[af209,PP,P1,P2,P14,P15,simprocAttr]
 refine KO T ?_
 have u16:IntKind.u64.wrap 16=16:=rfl
 have u4:IntKind.u64.wrap 4=4:=rfl
 have u15:IntKind.u64.wrap (16-1)=15:=rfl
 simp only[PP,P1,P2,P14,P15,simprocAttr,u16]
 refine aBP T ?_
 have u15':IntKind.u64.wrap 15=15:=rfl
 simp only[PP,P1,P2,P14,P15,simprocAttr,u16,u4,u15,u15']
 have hdl:∀d:Nat,d<16->(ByteArray.mk #[48,49,50,51,52,53,54,55,56,57,97,98,99,100,101,102,103,104,105,106,107,108,109,110,111,112,113,114,115,116,117,118,119,120,121,122])[d]? =some (uA d):=fun d hd=>aAx hd
 refine jY (fun(c v:Nat)=>c<=15/\cHf u c (15-c)=cH u) (fun c v=>(.nils:: .int .u64 ((u / 16^c:Nat):Int):: .junk:: .bool false:: .bool true::zj 5++ .nils:: .str ⟨#[]⟩:: .ptr 0 0 0::p64 (65-c:Nat):: .int .u64 4:: .int .u64 16:: .int .u64 15::zj 85))
  (fun c v=>[.cells 0 v (List.replicate (65-c) (.int .u8 0)++iZ (vU u c))]) (fun c v=>15-c) 0 0 ⟨by omega,rfl⟩ (by simp only[Nat.pow_zero,Nat.div_one,Nat.sub_zero,Int.cast_ofNat_Int,PW]) rfl ?_
 intro c v ⟨hc,hch⟩ ih
 have hq:u / 16^c<18446744073709551616:=Nat.lt_of_le_of_lt (Nat.div_le_self _ _) hu
 have hi:IntKind.i64.wrap (((65-c:Nat):Int)-1)=((65-(c+1):Nat):Int):=by rw[wrap64 (by omega) (by omega)];omega
 obtain⟨m,hm⟩:∃m,65-c=m+1:=⟨65-c-1,by omega⟩
 have hm2:65-(c+1)=m:=by omega
 have i0:(0:Int)<=(m:Int):=by omega
 have i1:(m:Int)<65:=by omega
 rw[hm,hm2]at hi
 refine dL (by kernel_rfl) ?_
 simp only[PP,P1,P2,P14,P15,simprocAttr]
 refine QIf.intro (fun d=>?_) (fun d=>?_)
 ·have hd16:¬u / 16^c<16:=by omega
  have hc15:c<15:=by
   refine Classical.byContradiction fun q=>?_
   obtain rfl:c=15:=by omega
   have:=(aCO hu 0 15 rfl).1
   exact hd16 this
  have hnext:cHf u (c+1) (15-(c+1))=cH u:=by
   rw[<-hch,show 15-c=15-(c+1)+1 by omega]
   show _=if _ then _ else _
   rw[if_neg hd16]
  have a15:=aCd hq
  have s4:=aDt (u / 16^c)
  have hdig:=hdl (u / 16^c % 16) (Nat.mod_lt _ (by decide))
  have k0:(0:Int)<=((u / 16^c % 16:Nat):Int):=by omega
  simp only[PP,P1,P2,P14,P15,simprocAttr,d,hm,hi,a15,s4,aQ,aL,aP,aC,aR,bD,aK,aJ,aN,aT,aU,aV,aW,aS,bA,aE,aF,aA,aG,aY,aZ,aO,bE,a8,aX,aM,bB,aH,bC,aI,aB,aD,hdig,k0,i0,i1]
  have hrs:((PV.int .u8 0)::(List.replicate m (.int .u8 0)++iZ (vU u c))).set m (.int .u8 (((uA (u / 16^c % 16)).toNat:Nat):Int))=List.replicate m (.int .u8 0)++(.int .u8 (((uA (u / 16^c % 16)).toNat:Nat):Int))::iZ (vU u c):=uW _ _ _ m
  refine⟨by omega,dY (ih (c+1) (v+1) ⟨by omega,hnext⟩ (by omega)) (by simp only[aDQ,hm2,PW]) ?_⟩
  rw[hrs,hm2];rfl
 ·have hd16:u / 16^c<16:=by omega
  have hcc:c=cH u:=by
   rw[<-hch]
   cases hf:15-c with
   | zero=>rfl
   | succ f=>
    show c=if _ then _ else _
    rw[if_pos hd16]
  have hdig:=hdl (u / 16^c) hd16
  have k0:(0:Int)<=((u / 16^c:Nat):Int):=Int.natCast_nonneg _
  have hrs:((PV.int .u8 0)::(List.replicate m (.int .u8 0)++iZ (vU u c))).set m (.int .u8 (((uA (u / 16^c)).toNat:Nat):Int))=List.replicate m (.int .u8 0)++(.int .u8 (((uA (u / 16^c)).toNat:Nat):Int))::iZ (vU u c):=uW _ _ _ m
  have hsl:=F3 u c
  have t1:(65-(m:Int)).toNat=c+1:=by omega
  have hl:iZ (IF u)=PV.int .u8 (((uA (u / 16^c)).toNat:Nat):Int)::iZ (vU u c):=by unfold IF;rw[<-hcc];rfl
  have hlen:(IF u).length=c+1:=by unfold IF;rw[<-hcc,List.length_cons,hsl]
  have hps:dW (List.replicate m (PV.int .u8 0)++PV.int .u8 (((uA (u / 16^c)).toNat:Nat):Int)::iZ (vU u c)) m (c+1)=iZ (IF u):=by
   rw[hl]
   unfold dW
   rw[List.drop_append_of_le_length (by simp),List.drop_eq_nil_of_le (by simp),List.nil_append,List.take_of_length_le (by simp[hsl])]
  have hone:(iZ (IF u)).all PV.one=true:=List.all_eq_true.2 fun x hx=>by obtain⟨y,_,rfl⟩:=List.mem_map.1 hx;rfl
  simp only[PP,P1,P2,P14,P15,simprocAttr,d,hm,hi,aQ,aL,aP,aC,aR,bD,aK,aJ,aN,aT,aU,aV,aW,aS,bA,aE,aF,aA,aG,aY,aZ,aO,bE,a8,aX,aM,bB,aH,bC,aI,aB,aD,hdig,k0,i0,i1,hrs,t1,hps,hone]
  have:=hk (.cells 0 (v+1) (List.replicate m (.int .u8 0)++ .int .u8 (((uA (u / 16^c)).toNat:Nat):Int)::iZ (vU u c)))
  rw[hlen]at this
  exact⟨by omega,⟨by omega,by omega⟩,by omega,⟨by omega,by omega⟩,this⟩
end
theorem TH (a:Wd):tC a=[]\/wAt (tC a) ((tC a).length-1)≠0#64:=by
 have hle:=rM a a.length
 have hl:(tC a).length=iS a a.length:=by unfold tC;rw[List.length_take];omega
 rcases tB a a.length with h | h
 ·left
  exact List.length_eq_zero_iff.1 (by omega)
 ·right
  rw[hl,DI];exact h
section
variable {tab:FuncId->Option AF} (T:HasA tab)
include T
end
section
variable {tab:FuncId->Option AF} (T:HasA tab)
include T
end
section
variable {tab:FuncId->Option AF} (T:HasA tab)
include T
theorem WZ {M:Mem} {K:PV->Mem->Prop} {f o:Bool} {xs:List Int} (hm:xs.length<big) (hk:∀g v,K (.ref M.length g 1 0 xs.length) (M++[.cells g v (xs.map p64)])):
  SemC tab 59 [slI f o .i64 xs] M K:=by
 have hb:xs.length<1000000000000:=hm
 have b1:xs.length*8<=140737488355328:=by omega
 have b2:xs.length<=9223372036854775807:=by omega
 refine eZ (fJ T.h59 ?_)
 simp only[af59]
 refine bS (bR ?_)
 simp only[PP,P1,P2,P14,P15,simprocAttr]
 refine bS (bR ?_)
 simp only[PP,P1,P2,P14,P15,simprocAttr]
 have hone:(xs.map p64).all PV.one=true:=sU _ _
 refine QIf.intro (fun c=>?_) (fun c=>?_)
 ·constructor
  ·simp only[PP,P1,P2,P14,P15,simprocAttr]
   have:xs=[]:=List.length_eq_zero_iff.1 c
   subst this
   exact Gh.step (GStep.nil 0 1 rfl rfl rfl) (Gh.same ⟨_,rfl,hk 0 0⟩)
  ·simp only[PP,P1,P2,P14,P15,simprocAttr]
   refine bS (qA ⟨[],rfl,?_⟩)
   simp only[PP,P1,P2,P14,P15,simprocAttr,List.append_assoc,gk,gk0,sk,sk0]
   exact⟨⟨b1,b2⟩,bR (by simp only[PP,P1,P2,P14,P15,simprocAttr];exact Gh.same ⟨_,rfl,hk 1 0⟩)⟩
 ·simp only[PP,P1,P2,P14,P15,simprocAttr]
  refine bS (qA ⟨[],rfl,?_⟩)
  simp only[PP,P1,P2,P14,P15,simprocAttr,List.append_assoc,gk,gk0,sk,sk0]
  exact⟨⟨b1,b2⟩,bR (by simp only[PP,P1,P2,P14,P15,simprocAttr];exact Gh.same ⟨_,rfl,hk 1 0⟩)⟩
theorem W0 {M:Mem} {K:PV->Mem->Prop} {f o:Bool} {xs:List Eg} (hm:xs.length<big) (hk:∀g v,K (.ref M.length g 4 0 xs.length) (M++[.cells g v (egL xs)])):
  SemC tab 153 [slE f o xs] M K:=by
 have hb:xs.length<1000000000000:=hm
 have b1:xs.length*24<=140737488355328:=by omega
 have b2:xs.length<=9223372036854775807:=by omega
 refine eZ (fJ T.h153 ?_)
 simp only[af153]
 refine bS (bR ?_)
 simp only[PP,P1,P2,P14,P15,simprocAttr]
 refine bS (bR ?_)
 simp only[PP,P1,P2,P14,P15,simprocAttr]
 have hone:(egL xs).all PV.one=true:=E3 xs
 refine QIf.intro (fun c=>?_) (fun c=>?_)
 ·constructor
  ·simp only[PP,P1,P2,P14,P15,simprocAttr]
   have:xs=[]:=List.length_eq_zero_iff.1 c
   subst this
   exact Gh.step (GStep.nil 0 4 rfl rfl rfl) (Gh.same ⟨_,rfl,hk 0 0⟩)
  ·simp only[PP,P1,P2,P14,P15,simprocAttr]
   refine bS (qA ⟨[],rfl,?_⟩)
   simp only[PP,P1,P2,P14,P15,simprocAttr,List.append_assoc,gk,gk0,sk,sk0,hone]
   exact⟨⟨b1,b2⟩,bR (by simp only[PP,P1,P2,P14,P15,simprocAttr];exact Gh.same ⟨_,rfl,hk 1 0⟩)⟩
 ·simp only[PP,P1,P2,P14,P15,simprocAttr]
  refine bS (qA ⟨[],rfl,?_⟩)
  simp only[PP,P1,P2,P14,P15,simprocAttr,List.append_assoc,gk,gk0,sk,sk0,hone]
  exact⟨⟨b1,b2⟩,bR (by simp only[PP,P1,P2,P14,P15,simprocAttr];exact Gh.same ⟨_,rfl,hk 1 0⟩)⟩
end
section
variable {α:Type} [DecidableEq α]
def f5 (o:List α) (b:α):List α:=if b∈o then o else o++[b]
def fE (δ:α->Nat->α) (a:α):Nat->List α->List α
 | 0,o=>o
 | x+1,o=>f5 (fE δ a x o) (δ a x)
def f0 (δ:α->Nat->α) (n:Nat) (a0:α):Nat->List α
 | 0=>[a0]
 | k+1=>match (f0 δ n a0 k)[k]? with
  | some a=>fE δ a n (f0 δ n a0 k)
  | none=>f0 δ n a0 k
theorem I9 (o:List α) (b:α):∃r,f5 o b=o++r:=by
 unfold f5
 split
 ·exact⟨[],by simp⟩
 ·exact⟨[b],rfl⟩
theorem HP (o:List α) (b c:α):c∈f5 o b↔c∈o\/c=b:=by
 unfold f5
 split
 ·constructor
  ·exact .inl
  ·rintro(h | rfl)
   ·exact h
   ·assumption
 ·simp
theorem lO (δ:α->Nat->α) (a:α):∀(x:Nat) (o:List α),∃r,fE δ a x o=o++r
 | 0,o=>⟨[],by simp[fE]⟩
 | x+1,o=>by
  obtain⟨r,h⟩:=lO δ a x o
  obtain⟨r2,h2⟩:=I9 (fE δ a x o) (δ a x)
  exact⟨r++r2,by unfold fE;rw[h2,h,List.append_assoc]⟩
theorem m9 (δ:α->Nat->α) (a c:α):∀(x:Nat) (o:List α),c∈fE δ a x o↔c∈o\/∃y,y<x/\c=δ a y
 | 0,o=>by simp[fE]
 | x+1,o=>by
  unfold fE
  rw[HP,m9 δ a c x o]
  constructor
  ·rintro((h | ⟨y,h1,h2⟩) | h)
   ·exact .inl h
   ·exact .inr ⟨y,by omega,h2⟩
   ·exact .inr ⟨x,by omega,h⟩
  ·rintro(h | ⟨y,h1,h2⟩)
   ·exact .inl (.inl h)
   ·by_cases e:y=x
    ·subst e;exact .inr h2
    ·exact .inl (.inr ⟨y,by omega,h2⟩)
theorem yW {a b:α} {o:List α} (h:b≠a):(a::o).idxOf b=o.idxOf b+1:=by
 rw[List.idxOf_cons]
 have:(a==b)=false:=beq_false_of_ne fun e=>h e.symm
 rw[this];rfl
theorem tY {o r:List α} {b:α} (h:b∈o):(o++r).idxOf b=o.idxOf b:=by
 rw[List.idxOf_append,if_pos h]
def AZ (δ:α->Nat->α) (n:Nat) (o:List α) (a:α):List Int:=(List.range n).map fun x=>((o.idxOf (δ a x):Nat):Int)
theorem T5 {δ:α->Nat->α} {n:Nat} {o r:List α} {a:α} (h:∀x,x<n->δ a x∈o):AZ δ n (o++r) a=AZ δ n o a:=
 List.map_congr_left fun x hx=>by rw[tY (h x (List.mem_range.1 hx))]
def kP (κ:α->ByteArray):Nat->List α->List (ByteArray×PV)
 | _,[]=>[]
 | k,a::o=>(κ a,p64 (k:Int))::kP κ (k+1) o
omit [DecidableEq α] in
theorem HL (κ:α->ByteArray):∀(o:List α) (k:Nat),(kP κ k o).length=o.length
 | [],k=>rfl
 | a::o,k=>by simp[kP,HL κ o]
omit [DecidableEq α] in
theorem tT (κ:α->ByteArray) (b:α):∀(o:List α) (k:Nat),kP κ k o++[(κ b,p64 ((k+o.length:Nat):Int))]=kP κ k (o++[b])
 | [],k=>rfl
 | a::o,k=>by
  show(κ a,p64 (k:Int))::(kP κ (k+1) o++_)=(κ a,p64 (k:Int))::kP κ (k+1) (o++[b])
  rw[<-tT κ b o (k+1)]
  simp only[List.length_cons]
  rw[show k+1+o.length=k+(o.length+1) by omega]
theorem pP {κ:α->ByteArray} {Dm:α->Prop} (hinj:∀a b,Dm a->Dm b->κ a=κ b->a=b) {b:α} (hb:Dm b):∀(o:List α) (k:Nat),(∀a∈o,Dm a)->rV (κ b) (kP κ k o)=if b∈o then some (p64 ((k+o.idxOf b:Nat):Int)) else none
 | [],k,ho=>rfl
 | a::o,k,ho=>by
  unfold kP rV
  by_cases e:κ b=κ a
  ·obtain rfl:=hinj b a hb (ho a (by simp)) e
   rw[if_pos rfl,if_pos (by simp)];simp
  ·have hne:b≠a:=fun h=>e (by rw[h])
   rw[if_neg e,pP hinj hb o (k+1) (fun c hc=>ho c (by simp[hc]))]
   by_cases hm:b∈o
   ·rw[if_pos hm,if_pos (by simp[hm]),yW hne,show k+1+o.idxOf b=k+(o.idxOf b+1) by omega]
   ·rw[if_neg hm,if_neg (by simp[hm,hne])]
end
section
variable {tab:FuncId->Option AF} (T:HasA tab)
include T
variable {α:Type} [DecidableEq α]
end
section
variable {α:Type} [DecidableEq α]
theorem jM {δ:α->Nat->α} {n:Nat} {a0 a:α} {k:Nat} (h:(f0 δ n a0 k)[k]? =some a):f0 δ n a0 (k+1)=fE δ a n (f0 δ n a0 k):=by
 show(match (f0 δ n a0 k)[k]? with | some a=>_ | none=>_)=_
 rw[h]
theorem nN {δ:α->Nat->α} {n:Nat} {a0:α} {k:Nat} (h:(f0 δ n a0 k).length<=k):f0 δ n a0 (k+1)=f0 δ n a0 k:=by
 show(match (f0 δ n a0 k)[k]? with | some a=>_ | none=>_)=_
 rw[List.getElem?_eq_none h]
theorem XB (δ:α->Nat->α) (n:Nat) (a0:α) (k:Nat):∃r,f0 δ n a0 (k+1)=f0 δ n a0 k++r:=by
 rcases Nat.lt_or_ge k (f0 δ n a0 k).length with h | h
 ·obtain⟨r,e⟩:=lO δ ((f0 δ n a0 k)[k]) n (f0 δ n a0 k)
  exact⟨r,by rw[jM (List.getElem?_eq_getElem h),e]⟩
 ·exact⟨[],by rw[nN h];simp⟩
theorem C6 (δ:α->Nat->α) (n:Nat) (a0:α) (k:Nat):∀d,∃r,f0 δ n a0 (k+d)=f0 δ n a0 k++r
 | 0=>⟨[],by simp⟩
 | d+1=>by
  obtain⟨r,h⟩:=C6 δ n a0 k d
  obtain⟨r2,h2⟩:=XB δ n a0 (k+d)
  exact⟨r++r2,by rw[<-Nat.add_assoc,h2,h,List.append_assoc]⟩
theorem uF {δ:α->Nat->α} {n:Nat} {a0:α} :∀{k i:Nat} {a:α},i<k->(f0 δ n a0 k)[i]? =some a->∀x,x<n->δ a x∈f0 δ n a0 k
 | 0,i,a,h,_,_,_=>by omega
 | k+1,i,a,h,g,x,hx=>by
  rcases Nat.lt_or_ge k (f0 δ n a0 k).length with hk | hk
  ·have gk:=List.getElem?_eq_getElem hk
   have e:=jM gk
   obtain⟨r,e2⟩:=lO δ ((f0 δ n a0 k)[k]) n (f0 δ n a0 k)
   by_cases hi:i=k
   ·subst hi
    rw[e,e2,List.getElem?_append_left hk,gk]at g
    cases g
    rw[e,m9]
    exact .inr ⟨x,hx,rfl⟩
   ·rw[e,e2,List.getElem?_append_left (by omega)]at g
    have:=uF (k:=k) (by omega) g x hx
    rw[e,e2]
    exact List.mem_append_left _ this
  ·rw[nN hk]at g ⊢
   refine uF (k:=k) ?_ g x hx
   rcases Nat.lt_or_ge i (f0 δ n a0 k).length with q | q
   ·omega
   ·rw[List.getElem?_eq_none q]at g;cases g
theorem zZ {o:List α} {b:α} (h:o.Nodup):(f5 o b).Nodup:=by
 unfold f5
 split
 ·exact h
 ·rename_i q
  rw[List.nodup_append]
  refine⟨h,by simp,fun x hx y hy e=>?_⟩
  simp at hy;subst hy;subst e;exact q hx
theorem nQ {δ:α->Nat->α} {a:α} :∀(x:Nat) {o:List α},o.Nodup->(fE δ a x o).Nodup
 | 0,o,h=>h
 | x+1,o,h=>zZ (nQ x h)
theorem lW (δ:α->Nat->α) (n:Nat) (a0:α):∀k,(f0 δ n a0 k).Nodup
 | 0=>by simp[f0]
 | k+1=>by
  rcases Nat.lt_or_ge k (f0 δ n a0 k).length with hk | hk
  ·rw[jM (List.getElem?_eq_getElem hk)]
   exact nQ n (lW δ n a0 k)
  ·rw[nN hk];exact lW δ n a0 k
theorem S9 {δ:α->Nat->α} {Dm:α->Prop} {a:α} {n:Nat} (ha:∀x,x<n->Dm (δ a x)) {o:List α} (ho:∀c∈o,Dm c) {j:Nat} (hj:j<=n):∀c∈fE δ a j o,Dm c:=by
 intro c hc
 rcases(m9 δ a c j o).1 hc with h | ⟨y,h1,rfl⟩
 ·exact ho c h
 ·exact ha y (by omega)
theorem sT {δ:α->Nat->α} {n:Nat} {a0:α} {Dm:α->Prop} (h0:Dm a0) (hs:∀a x,Dm a->x<n->Dm (δ a x)):∀k,∀c∈f0 δ n a0 k,Dm c
 | 0=>by simp[f0,h0]
 | k+1=>by
  have ih:=sT h0 hs k
  rcases Nat.lt_or_ge k (f0 δ n a0 k).length with hk | hk
  ·rw[jM (List.getElem?_eq_getElem hk)]
   exact S9 (fun x hx=>hs _ x (ih _ (List.getElem_mem hk)) hx) ih (Nat.le_refl n)
  ·rw[nN hk];exact ih
def uU (δ:α->Nat->α) (n:Nat) (a0:α) (k:Nat):List (List Int):=((f0 δ n a0 k).take k).map (AZ δ n (f0 δ n a0 k))
theorem pM {δ:α->Nat->α} {n:Nat} {a0:α} {k:Nat} (h:k<=(f0 δ n a0 k).length):(uU δ n a0 k).length=k:=by
 unfold uU;rw[List.length_map,List.length_take];omega
theorem xS {δ:α->Nat->α} {n:Nat} {a0 a:α} {k:Nat} (h:(f0 δ n a0 k)[k]? =some a):uU δ n a0 (k+1)=uU δ n a0 k++[AZ δ n (fE δ a n (f0 δ n a0 k)) a]:=by
 have hk:=cQ h
 obtain⟨r,e2⟩:=lO δ a n (f0 δ n a0 k)
 unfold uU
 rw[jM h]
 have e3:(fE δ a n (f0 δ n a0 k)).take (k+1)=(f0 δ n a0 k).take k++[a]:=by
  rw[e2,List.take_append_of_le_length (by omega),List.take_add_one,h];rfl
 rw[e3,List.map_append]
 congr 1
 refine List.map_congr_left fun b hb=>?_
 rw[e2]
 refine T5 fun x hx=>?_
 obtain⟨i,hi,hb⟩:=List.mem_iff_getElem.1 hb
 rw[List.length_take]at hi
 rw[List.getElem_take]at hb
 exact uF (k:=k) (i:=i) (by omega) (by rw[List.getElem?_eq_getElem (by omega),hb]) x hx
def aBw (δ:α->Nat->α) (n:Nat) (o:List α):List (List Int):=o.map (AZ δ n o)
theorem xT {δ:α->Nat->α} {n:Nat} {a0:α} {k:Nat} (h:(f0 δ n a0 k).length<=k):uU δ n a0 k=aBw δ n (f0 δ n a0 k):=by
 unfold uU aBw;rw[List.take_of_length_le h]
end
end Go.Am.Ar

