/- Rounds of refinement (plain); the texts of keys, and what goes with it. -/
import Derived.Test.YtapbgleednkimaaGreatDoorBudgetDividedG2
import Derived.Test.YtapbgleednkimaaGreatDoorBudgetDividedG1
import Derived.Test.YtapbgleednkimaaGreatDoorBudgetDividedG3
import Derived.Test.YtapbgleednkimaaGreatDoorBudgetDividedG5
import Derived.Test.YtapbgleednkimaaGreatDoorPmC
set_option linter.unusedVariables false
set_option linter.unusedSimpArgs false
set_option maxRecDepth 10000
namespace Go.Am.Ar
open Go.Am.PV renaming junk->Zj
def dgT (n:Nat):List UInt8:=(nD n).data.toList
theorem OJ:((List.range 100).all fun a=>(dgT a).all (fun b=> !(b==32))&&decide ((dgT a).length<=2))=true:=by decide+kernel
theorem E5 {n:Nat} (h:n<100):∀b∈dgT n,b≠32:=fun b hb=>by
 have:=(List.all_eq_true.1 OJ) n (List.mem_range.2 h)
 simp only[Bool.and_eq_true]at this
 have:=(List.all_eq_true.1 this.1) b hb
 simpa using this
theorem wS {n:Nat} (h:n<100):(dgT n).length<=2:=by
 have:=(List.all_eq_true.1 OJ) n (List.mem_range.2 h)
 simp only[Bool.and_eq_true,decide_eq_true_eq]at this
 exact this.2
theorem OI {a b:Nat} (ha:a<100) (hb:b<100) (h:dgT a=dgT b):a=b:=by
 refine V9 ha hb ?_
 apply ByteArray.ext
 apply Array.ext'
 exact h
def gI (r:List Int):List UInt8:=r.flatMap fun x=>32::dgT x.toNat
def BC:List Int->List UInt8
 | []=>[]
 | c::r=>dgT c.toNat++gI r
theorem J3 (r:List Int) (x:Int):gI (r++[x])=gI r++32::dgT x.toNat:=by simp[gI]
theorem PM {r:List Int} (h:∀x∈r,0<=x/\x<100):(gI r).length<=3*r.length:=by
 induction r with
 | nil=>simp[gI]
 | cons x r ih=>
  have h1:=wS (n:=x.toNat) (by have:=h x (by simp);omega)
  have h2:=ih fun y hy=>h y (by simp[hy])
  unfold gI at h2 ⊢
  simp only[List.flatMap_cons,List.length_append,List.length_cons]
  omega
theorem DQ:∀{u v:List UInt8} {r s:List Int},(∀b∈u,b≠32)->(∀b∈v,b≠32)->u++gI r=v++gI s->u=v/\gI r=gI s
 | [],[],r,s,_,_,h=>⟨rfl,h⟩
 | [],b::v,r,s,_,hv,h=>by
  cases r with
  | nil=>simp[gI]at h
  | cons x r=>
   simp only[gI,List.flatMap_cons,List.nil_append,List.cons_append,List.cons.injEq]at h
   exact absurd h.1.symm (hv b (by simp))
 | b::u,[],r,s,hu,_,h=>by
  cases s with
  | nil=>simp[gI]at h
  | cons x s=>
   simp only[gI,List.flatMap_cons,List.nil_append,List.cons_append,List.cons.injEq]at h
   exact absurd h.1 (hu b (by simp))
 | b::u,c::v,r,s,hu,hv,h=>by
  simp only[List.cons_append,List.cons.injEq]at h
  obtain⟨h1,h2⟩:=DQ (fun x hx=>hu x (by simp[hx])) (fun x hx=>hv x (by simp[hx])) h.2
  exact⟨by rw[h.1,h1],h2⟩
theorem BT:∀{r s:List Int},(∀x∈r,0<=x/\x<100)->(∀x∈s,0<=x/\x<100)->gI r=gI s->r=s
 | [],[],_,_,_=>rfl
 | [],x::s,_,_,h=>by simp[gI]at h
 | x::r,[],_,_,h=>by simp[gI]at h
 | x::r,y::s,hr,hs,h=>by
  have hx:=hr x (by simp)
  have hy:=hs y (by simp)
  have h:(32::dgT x.toNat)++gI r=(32::dgT y.toNat)++gI s:=h
  simp only[List.cons_append,List.cons.injEq,true_and]at h
  obtain⟨h1,h2⟩:=DQ (E5 (by omega)) (E5 (by omega)) h
  have e:=OI (by omega) (by omega) h1
  rw[show x=y by omega,BT (fun z hz=>hr z (by simp[hz])) (fun z hz=>hs z (by simp[hz])) h2]
def O5 (l:List Int):Prop:=l≠[]/\∀x∈l,0<=x/\x<100
def H5 (l:List Int):ByteArray:=⟨(BC l).toArray⟩
theorem V1:∀{a b:List Int},O5 a->O5 b->H5 a=H5 b->a=b
 | [],_,h,_,_=>absurd rfl h.1
 | _::_,[],_,h,_=>absurd rfl h.1
 | x::r,y::s,ha,hb,h=>by
  have h:dgT x.toNat++gI r=dgT y.toNat++gI s:=by
   have:=congrArg (fun q:ByteArray=>q.data.toList) h
   simpa [H5,BC] using this
  have hx:=ha.2 x (by simp)
  have hy:=hb.2 y (by simp)
  obtain⟨h1,h2⟩:=DQ (E5 (by omega)) (E5 (by omega)) h
  have e:=OI (by omega) (by omega) h1
  rw[show x=y by omega,BT (fun z hz=>ha.2 z (by simp[hz])) (fun z hz=>hb.2 z (by simp[hz])) h2]
def fN (nx:List (List Int)) (c:List Int) (s:Nat):List Int:=c.getD s 0::((nx[s]?).getD []).map fun t=>c.getD t.toNat 0
def rfN (nx:List (List Int)) (c:List Int):List Int:=lR (fun _ y=>fN nx c y) ([]:List Int) [] nx.length
def kT (D:DF):List Int:=(List.range D.nx.length).map fun s=>if(D.fi.getD s false)=(D.fi.getD 0 false) then 0 else 1
def dX (D:DF):Nat->List Int
 | 0=>kT D
 | k+1=>rfN D.nx (dX D k)
theorem sA (nx:List (List Int)) (c:List Int):(rfN nx c).length=nx.length:=iX ..
theorem hH (D:DF):∀k,(dX D k).length=D.nx.length
 | 0=>by simp[dX,kT]
 | k+1=>sA ..
theorem ZJ {α:Type} [DecidableEq α] (δ:α->Nat->α) (a:α) (n:Nat):∀x∈lR δ a [] n,0<=x/\x<n:=fun x hx=>by
 unfold lR at hx
 obtain⟨y,hy,rfl⟩:=List.mem_map.1 hx
 have hy:=List.mem_range.1 hy
 have hm:δ a y∈fE δ a n []:=(m9 _ _ _ _ _).2 (.inr ⟨y,hy,rfl⟩)
 have h1:=List.idxOf_lt_length_of_mem hm
 have h2:=qS δ a [] n
 have h3:=lV δ a [] n
 rw[List.nil_append]at h3
 rw[h3]at h1 ⊢
 omega
theorem aB2 (nx:List (List Int)) (c:List Int):∀x∈rfN nx c,0<=x/\x<nx.length:=fun x hx=>ZJ _ _ _ x hx
theorem ZK {D:DF} (h:D.nx.length<=99):∀k,∀x∈dX D k,0<=x/\x<100
 | 0,x,hx=>by
  unfold dX kT at hx
  obtain⟨y,hy,rfl⟩:=List.mem_map.1 hx
  split<;>omega
 | k+1,x,hx=>by
  have:=aB2 _ _ x hx
  omega
theorem B9 {D:DF} {k:Nat} (h:dX D (k+1)=dX D k):∀j,dX D (k+j)=dX D k
 | 0=>rfl
 | j+1=>by
  show rfN D.nx (dX D (k+j))=_
  rw[B9 h j];exact h
theorem EW {c:List Int} {b:Int} (hb:0<b) (h:∀x∈c,0<=x/\x<b) (k:Nat):0<=c.getD k 0/\c.getD k 0<b:=by
 rw[List.getD]
 cases hx:c[k]? with
 | none=>simp;exact hb
 | some x=>simpa using h x (List.mem_of_getElem? hx)
theorem H1 (nx:List (List Int)) {c:List Int} (h:∀x∈c,0<=x/\x<100) (s:Nat):O5 (fN nx c s):=by
 refine⟨by simp[fN],fun x hx=>?_⟩
 unfold fN at hx
 rcases List.mem_cons.1 hx with rfl | hx
 ·exact EW (by omega) h s
 ·obtain⟨t,_,rfl⟩:=List.mem_map.1 hx
  exact EW (by omega) h _
open Go.Am renaming kV->P1,qL->P2,PKNo->P3,ppack->P4,PObj.under->P5,pput->P6,ptset->P7,ptget->P8,pev->P9,ofAV->P10,ofAV1->P11,ppad->P12,pfill->P13,fF->P14,AO.effect->P15
open List renaming replicate->L1
theorem I5 (l:List UInt8):(iZ l).all PV.one=true:=by
 rw[List.all_eq_true]
 intro x hx
 obtain⟨c,_,rfl⟩:=List.mem_map.1 hx
 rfl
theorem W6 (n:Nat):(nD n).data.toList.map (fun b:UInt8=>PV.int .u8 ((b.toNat:Nat):Int))=iZ (dgT n):=rfl
section
variable {tab:FuncId->Option AF} (T:HasA tab)
include T
theorem aAU {M:Mem} {K:PV->Mem->Prop} {c:Int} (h0:0<=c) (h1:c<100) (hk:K (.ref M.length 0 1 0 (dgT c.toNat).length) (M++[.cells 0 0 (iZ (dgT c.toNat))])):
  SemC tab 188 [.nils,p64 c,p64 10] M K:=by
 have hu:IntKind.u64.wrap c=c:=by
  unfold IntKind.wrap;simp[IntKind.bits,IntKind.signed];omega
 have hi:IntKind.i64.wrap c=((c.toNat:Nat):Int):=by rw[wrap64]<;>omega
 have hn:¬c<0:=by omega
 have hl:=wS (n:=c.toNat) (by omega)
 have hsz:(nD c.toNat).size=(dgT c.toNat).length:=rfl
 have b1:(dgT c.toNat).length<=140737488355328:=by omega
 have b2:(dgT c.toNat).length<=9223372036854775807:=by omega
 refine dH T.h188 ?_
 simp only[af188,PP,P1,P2,P14,P15,simprocAttr]
 refine dH T.h218 ?_
 simp only[af218,PP,P1,P2,P14,P15,simprocAttr,hu,hn]
 refine dH T.h177 ?_
 simp only[af177,PP,P1,P2,P14,P15,simprocAttr,hi,h1]
 refine NT T (by omega) ?_
 simp only[PP,P1,P2,P14,P15,simprocAttr,hsz,b1,b2]
 exact⟨I5 _,hk⟩
theorem aAT {M:Mem} {K:PV->Mem->Prop} {c:Int} {id g v:Nat} {l:List UInt8} (hM:M[id]? =some (.cells g v (iZ l))) (hl0:l.length<1000000000) (h0:0<=c) (h1:c<100) (hk:K (.ref id (g+1) 1 0 (l++dgT c.toNat).length) (M.set id (.cells (g+1) 0 (iZ (l++dgT c.toNat))))):
  SemC tab 188 [.ref id g 1 0 l.length,p64 c,p64 10] M K:=by
 have hu:IntKind.u64.wrap c=c:=by
  unfold IntKind.wrap;simp[IntKind.bits,IntKind.signed];omega
 have hi:IntKind.i64.wrap c=((c.toNat:Nat):Int):=by rw[wrap64]<;>omega
 have hn:¬c<0:=by omega
 have hl:=wS (n:=c.toNat) (by omega)
 have hsz:(nD c.toNat).size=(dgT c.toNat).length:=rfl
 have b1:l.length+(dgT c.toNat).length<=140737488355328:=by omega
 have b2:l.length+(dgT c.toNat).length<=9223372036854775807:=by omega
 have b3:l.length<=(iZ l).length:=by simp
 have b4:0<(dgT c.toNat).length\/l.length=(iZ l).length:= .inr (by simp)
 refine dH T.h188 ?_
 simp only[af188,PP,P1,P2,P14,P15,simprocAttr]
 refine dH T.h218 ?_
 simp only[af218,PP,P1,P2,P14,P15,simprocAttr,hu,hn]
 refine dH T.h177 ?_
 simp only[af177,PP,P1,P2,P14,P15,simprocAttr,hi,h1]
 refine NT T (by omega) ?_
 simp only[PP,P1,P2,P14,P15,simprocAttr,hM,hsz,b1,b2,b3,b4]
 rw[W6]
 refine⟨I5 _,?_⟩
 rw[List.length_append]at hk
 have e:iZ l++iZ (dgT c.toNat)=iZ (l++dgT c.toNat):=by simp[iZ]
 rw[e]
 exact hk
set_option maxHeartbeats 1000000 in
theorem aAP {M:Mem} {K:PV->Mem->Prop} {f1 o1 f2 o2 f3 o3:Bool} {D:DF} (B:BnD D) (hf:D.fi.length=D.nx.length) (h0:0<D.nx.length) (hk:K (slI false true .i64 (kT D)) M):
  SemC tab 148 [.agg (dfC f1 o1 f2 o2 f3 o3 D)] M K:=by
 have hb:D.nx.length<1000000000000:=B.n
 have b1:(D.nx.length:Int)*8<=140737488355328:=by omega
 have b2:(D.nx.length:Int)<=9223372036854775807:=by omega
 have nn:(0:Int)<=(D.nx.length:Int):=by omega
 obtain⟨z,gz⟩:=dN (xs:=D.fi) (k:=0) (by omega)
 have z0:(0:Int)<D.fi.length:=by omega
 refine cP T.h148 (by simp only[PP,P1,P2,P14,P15,simprocAttr]) ?_
 simp only[af148,PP,P1,P2,P14,P15,simprocAttr,b1,b2,nn,Int.le_refl]
 refine jY (fun(k v:Nat)=>k<=D.nx.length) (fun k v=>(.junk:: .ptr 0 0 0:: .junk:: .ref 1 0 1 0 D.nx.length::zj 6++p64 D.nx.length::p64 k::zj 17))
  (fun k v=>[.cells 0 0 (dfC f1 o1 f2 o2 f3 o3 D),.cells 0 v (((kT D).take k++List.replicate (D.nx.length-k) 0).map p64)]) (fun k v=>D.nx.length-k) 0 0 (by omega) (by simp only[PW]) (by simp[CG]) ?_
 intro k v hk' ih
 have hbl:(kT D).length=D.nx.length:=hH D 0
 refine dL (by kernel_rfl) ?_
 simp only[PP,P1,P2,P14,P15,simprocAttr]
 refine QIf.intro (fun c=>?_) (fun c=>?_)
 rotate_left
 ·obtain rfl:k=D.nx.length:=by omega
  rw[Nat.sub_self,List.replicate_zero,List.take_of_length_le (by omega)]
  have hfz:y8 (some (PObj.cells 0 v ((kT D).map p64))) 0 1 0 D.nx.length=some (slI false true .i64 (kT D)):=by
   rw[iJ (by simp[hbl]) (dI _ _ _),dQ _ _ (by simp[hbl])]
   simp only[slI,hbl]
  simp only[PP,P1,P2,P14,P15,simprocAttr,c,hfz]
  exact hk
 have hlt:k<D.nx.length:=by omega
 have k0:(0:Int)<=k:=by omega
 have kf:(k:Int)<D.fi.length:=by omega
 have hw:=dA (k:=k) (by show _<1000000000000;omega)
 obtain⟨b,gb⟩:=dN (xs:=D.fi) (k:=k) (by omega)
 have hat:(kT D)[k]? =some (if b=z then 0 else 1):=by
  unfold kT
  rw[List.getElem?_map,List.getElem?_range hlt]
  simp[List.getD,gb,gz]
 have htk:=eK hat
 have hrep:List.replicate (D.nx.length-k) (0:Int)=0::List.replicate (D.nx.length-(k+1)) 0:=by
  rw[show D.nx.length-k=(D.nx.length-(k+1))+1 by omega,List.replicate_succ]
 have hcl:((kT D).take k).length=k:=by rw[List.length_take];omega
 simp only[PP,P1,P2,P14,P15,simprocAttr,c,k0,kf,gb,gz,z0]
 by_cases hbz:b=z
 ·rw[if_pos hbz]at htk
  have he:(b==z)=true:=by rw[hbz];simp
  simp only[PP,P1,P2,P14,P15,simprocAttr,he,hw]
  refine dY (ih (k+1) v (by omega) (by omega)) (by simp only[PW]) ?_
  rw[htk,hrep];simp only[List.map_append,List.map_cons,List.map_nil,List.append_assoc,List.cons_append,List.nil_append]
 ·rw[if_neg hbz]at htk
  have he:(b==z)=false:=beq_false_of_ne hbz
  have hkl2:k+1<=k+(D.nx.length-k):=by omega
  have hkl3:k<D.nx.length:=hlt
  simp only[PP,P1,P2,P14,P15,simprocAttr,he,hw,c,k0,hcl,hkl2,hkl3]
  refine dY (ih (k+1) (v+1) (by omega) (by omega)) (by simp only[PW]) ?_
  rw[htk,hrep,List.set_append_right _ _ (by rw[List.length_map,hcl];exact Nat.le_refl _)]
  simp only[List.map_append,List.map_cons,List.map_nil,List.append_assoc,List.cons_append,List.nil_append,List.length_map,hcl,Nat.sub_self,List.set_cons_zero]
end
theorem I3 (i v v':Nat) (e e':List (PV×PV)) (R:Mem):eL i (.map v e::R) (.map v' e'::R)=if v=v' then [] else [i]:=by
 unfold eL
 simp only[mW,lF,beq_iff_eq]
section
variable {tab:FuncId->Option AF} (T:HasA tab)
include T
theorem aAd {M:Mem} {K:PV->Mem->Prop} {f1 o1 f2 o2 f3 o3:Bool} {D:DF} (hk:K (.func (.func 217) [] [.cp (dfC f1 o1 f2 o2 f3 o3 D) 0]) M):
  SemC tab 187 [.agg (dfC f1 o1 f2 o2 f3 o3 D)] M K:=by
 refine fB T.h187 (by simp only[PP,P1,P2,P14,P15,simprocAttr]) ?_
 simp only[af187]
 refine bS (bR ?_)
 simp only[PP,P1,P2,P14,P15,simprocAttr]
 refine eB (GStep.freezeP (b:=(.junk:: .cp (dfC f1 o1 f2 o2 f3 o3 D) 0:: .nilfunc:: .junk::[])) 0 (Nat.zero_le _) rfl (by simp only[kJ,kK,List.cons_append,List.nil_append,f9,fR,fQ,f8]) rfl) ?_
 refine bR ?_
 have e:∀N':Mem,jF 0 N' (.func (.func 217) [] [.cp (dfC f1 o1 f2 o2 f3 o3 D) 0])=some (.func (.func 217) [] [.cp (dfC f1 o1 f2 o2 f3 o3 D) 0]):=fun N'=>u9 (M:=N') (by simp only[PP,P1,P2,P14,P15,simprocAttr,PV.under])
 simp only[PP,P1,P2,P14,P15,simprocAttr,e]
 exact hk
set_option maxHeartbeats 1000000 in
theorem VI {M:Mem} {K:PV->Mem->Prop} {L:Nat} {f1 o1 f2 o2 f3 o3:Bool} {D:DF} (hb:D.nx.length<1000000000000) (J:Nat->Mem->Prop) (h0:J 0 M)
  (hl:∀k G,J k G->∃ver r,G[L]? =some (.loop ver r))
  (hy:∀k G row,J k G->D.nx[k]? =some row->∀K':PV->Mem->Prop,(∀G',J (k+1) G'->K' (.bool true) G')->MG tab L [p64 k,slI f2 o2 .i64 row] G K')
  (hk:∀G,J D.nx.length G->K (.tuple []) G):
  SemC tab 217 [.yld L [],.cp (dfC f1 o1 f2 o2 f3 o3 D) 0] M K:=by
 refine dH T.h217 ?_
 simp only[af217,PP,P1,P2,P14,P15,simprocAttr]
 refine jY (fun(i:Nat) (G:Mem)=>i<=D.nx.length/\J i G) (fun i G=>(.yld L []::zj 5++slR f1 o1 f2 o2 .i64 D.nx::p64 D.nx.length::p64 i::zj 10)) (fun _ G=>G) (fun i _=>D.nx.length-i) 0 M ⟨by omega,h0⟩ (by simp only[PW]) rfl ?_
 intro i G ⟨hle,hJ⟩ ih
 refine dL (by kernel_rfl) ?_
 simp only[PP,P1,P2,P14,P15,simprocAttr]
 refine QIf.intro (fun c=>?_) (fun c=>?_)
 rotate_left
 ·obtain rfl:i=D.nx.length:=by omega
  simp only[PP,P1,P2,P14,P15,simprocAttr,c]
  exact hk G hJ
 have hi':i<D.nx.length:=by omega
 obtain⟨e,ge⟩:=dN hi'
 have hw:=dA (k:=i) (by show _<1000000000000;omega)
 have i0:(0:Int)<=i:=by omega
 simp only[PP,P1,P2,P14,P15,simprocAttr,c,i0,ge,JJ]
 refine⟨hl _ _ hJ,?_⟩
 refine hy _ _ e hJ ge _ fun G' hJ'=>?_
 simp only[PP,P1,P2,P14,P15,simprocAttr,hw]
 exact dY (ih (i+1) G' ⟨by omega,hJ'⟩ (by omega)) (by simp only[PW]) rfl
theorem aCw {α:Type} [DecidableEq α] {κ:α->ByteArray} {Dm:α->Prop} (hinj:∀a b,Dm a->Dm b->κ a=κ b->a=b) {o:List α} {b:α} (hb:Dm b) (ho:∀a∈o,Dm a)
  {N:Mem} {K:PV->Mem->Prop} {i j ver vb:Nat} (hi:N[i]? =some (.map ver (smE (kP κ 0 o)))) (hj:N[j]? =some (.cells 0 vb [.map i]))
  (hk:∀ver',K (p64 ((f5 o b).idxOf b:Nat)) (N.set i (.map ver' (smE (kP κ 0 (f5 o b)))))):
  SemC tab 186 [.str (κ b),.ptr j 0 0] N K:=by
 have hlk:=pP hinj hb o 0 ho
 refine dH T.h186 ?_
 simp only[af186,PP,P1,P2,P14,P15,simprocAttr,aQ,aL,aP,aC,aR,bD,aK,aJ,aN,aT,aU,aV,aW,aS,bA,aE,aF,aA,aG,aY,aZ,aO,bE,a8,aX,aM,bB,aH,bC,aI,aB,aD,hi,hj]
 by_cases hm:b∈o
 ·rw[if_pos hm]at hlk
  have e:f5 o b=o:=by unfold f5;rw[if_pos hm]
  have h:=hk ver
  rw[e]at h
  have hs:N.set i (.map ver (smE (kP κ 0 o)))=N:=by
   refine List.ext_getElem? fun x=>?_
   by_cases hx:i=x
   ·subst hx
    rw[List.getElem?_set_self (cQ hi),hi]
   ·rw[List.getElem?_set_ne hx]
  rw[hs]at h
  simp only[PP,P1,P2,P14,P15,simprocAttr,aQ,aL,aP,aC,aR,bD,aK,aJ,aN,aT,aU,aV,aW,aS,bA,aE,aF,aA,aG,aY,aZ,aO,bE,a8,aX,aM,bB,aH,bC,aI,aB,aD,hlk]
  exact h
 ·rw[if_neg hm]at hlk
  have e:f5 o b=o++[b]:=by unfold f5;rw[if_neg hm]
  have h:=hk (ver+1)
  have e2:=tT κ b o 0
  rw[Nat.zero_add]at e2
  have e3:(o++[b]).idxOf b=o.length:=by rw[List.idxOf_append,if_neg hm];simp
  rw[e,e3]at h
  have hl0:=HL κ o 0
  have hp:=DZ (κ b) (p64 o.length) (kP κ 0 o) hlk
  rw[e2]at hp
  simp only[PP,P1,P2,P14,P15,simprocAttr,aQ,aL,aP,aC,aR,bD,aK,aJ,aN,aT,aU,aV,aW,aS,bA,aE,aF,aA,aG,aY,aZ,aO,bE,a8,aX,aM,bB,aH,bC,aI,aB,aD,hlk,hi,hj,hl0,hp]
  exact h
end
abbrev t7 (nx:List (List Int)) (c:List Int):List Int->Nat->List Int:=fun _ y=>fN nx c y
abbrev aB7 (nx:List (List Int)) (c:List Int) (k vm v ver:Nat) (lp:PLoop):Mem:=
 [.gone,.gone,.map vm (smE (kP H5 0 (fE (t7 nx c) [] k []))),.cells 0 1 [.map 2],.cells 0 1 [.func (.func 186) [] [.ptr 3 0 0]],.cells 0 v ((lR (t7 nx c) [] [] k++List.replicate (nx.length-k) 0).map p64),.cells 0 1 [.ref 5 0 1 0 nx.length],.loop ver lp]
section
variable {tab:FuncId->Option AF} (T:HasA tab)
include T
set_option maxHeartbeats 2000000 in
theorem UA {M:Mem} {K:PV->Mem->Prop} {f1 o1 f2 o2 f3 o3 f o:Bool} {D:DF} {c:List Int} (B:BnD D) (hcl:c.length=D.nx.length) (hrow:∀r∈D.nx,r.length<=64/\∀t∈r,0<=t/\t<D.nx.length) (h100:∀x∈c,0<=x/\x<100)
  (hk:K (slI false true .i64 (rfN D.nx c)) M):SemC tab 149 [.agg (dfC f1 o1 f2 o2 f3 o3 D),slI f o .i64 c] M K:=by
 have hb:D.nx.length<1000000000000:=B.n
 have b1:(D.nx.length:Int)*8<=140737488355328:=by omega
 have b2:(D.nx.length:Int)<=9223372036854775807:=by omega
 have nn:(0:Int)<=(D.nx.length:Int):=by omega
 refine fB T.h149 (by simp only[PP,P1,P2,P14,P15,simprocAttr]) ?_
 simp only[af149]
 refine bS (bR ?_)
 simp only[PP,P1,P2,P14,P15,simprocAttr]
 refine eB (GStep.freezeP (b:=(.junk:: .junk:: .cp (dfC f1 o1 f2 o2 f3 o3 D) 0:: .ptr 1 0 0:: .nils::zj 45)) 0 (Nat.zero_le _) rfl (by simp only[kJ,kK,List.cons_append,List.nil_append,f9,fR,fQ,f8]) rfl) ?_
 refine eB (GStep.freezeP (b:=(.junk:: .junk:: .cp (dfC f1 o1 f2 o2 f3 o3 D) 0:: .cp [slI f o .i64 c] 0:: .nils::zj 45)) 1 (Nat.zero_le _) rfl (by simp only[kJ,kK,List.cons_append,List.nil_append,f9,fR,fQ,f8]) rfl) ?_
 refine bR ?_
 simp only[PP,P1,P2,P14,P15,simprocAttr,aQ,aL,aP,aC,aR,bD,aK,aJ,aN,aT,aU,aV,aW,aS,bA,aE,aF,aA,aG,aY,aZ,aO,bE,a8,aX,aM,bB,aH,bC,aI,aB,aD,hcl,b1,b2,nn,Int.le_refl]
 refine aAd T ?_
 simp only[PP,P1,P2,P14,P15,simprocAttr]
 refine dB (b:=(zj 3++ .cp [slI f o .i64 c] 0:: .junk:: .junk:: .ptr 4 0 0:: .ptr 6 0 0::zj 11++ .func (.func 217) [] [.cp (dfC f1 o1 f2 o2 f3 o3 D) 0]::zj 30)) ?_ (by simp only[PW])
 refine pH rfl (fun lp q1 q2 q3 q4 q5 q6=>?_)
 simp only[PP,P1,P2,P14,P15,simprocAttr]
 refine VI T (L:=7) hb (fun k G=>∃vm v ver Gs,G=aB7 D.nx c k vm v ver lp++Gs) ⟨0,0,0,[],?_⟩ ?_ ?_ ?_
 ·simp only[aB7,fE,lR,List.range_zero,List.map_nil,List.nil_append,Nat.sub_zero,List.map_replicate,List.append_nil]
  rfl
 ·rintro k G ⟨vm,v,ver,Gs,rfl⟩
  exact⟨ver,lp,rfl⟩
 ·rintro k G row ⟨vm,v,ver,Gs,rfl⟩ grow K' hK'
  refine AE (ver:=ver) (r:=lp) rfl (by rw[q4];rfl) ?_
  rw[q3,q4,q5]
  refine bR ?_
  simp only[mA,PP,P1,P2,P14,P15,simprocAttr,List.append_assoc,gk,gk0,sk,sk0]
  refine⟨ver,lp,rfl,q1,?_⟩
  have hlb:({ ({lp with state:= .busy} :PLoop) with state:= .ready,pending:=none} :PLoop)=lp:=VT q1 q2
  generalize ({lp with state:= .busy} :PLoop)=lb at hlb ⊢
  rw[q6]
  refine bR ?_
  have hk:k<D.nx.length:=cQ grow
  have k0:(0:Int)<=k:=by omega
  have kc:(k:Int)<D.nx.length:=by omega
  obtain⟨x,gx⟩:=dN (xs:=c) (k:=k) (by omega)
  obtain⟨x0,x1⟩:=h100 x (List.mem_of_getElem? gx)
  simp only[PP,P1,P2,P14,P15,simprocAttr,List.append_assoc,gk,gk0,sk,sk0,hcl,k0,kc,gx]
  refine aAU T x0 x1 ?_
  simp only[PP,P1,P2,P14,P15,simprocAttr,List.append_assoc,gk,gk0,sk,sk0]
  have hrw:=hrow row (List.mem_of_getElem? grow)
  have hrl:row.length<=64:=hrw.1
  have hks:∀j,BC (x::(row.take (j+1)).map fun t=>c.getD t.toNat 0)=BC (x::(row.take j).map fun t=>c.getD t.toNat 0)++(match row[j]? with | some t=>32::dgT (c.getD t.toNat 0).toNat | none=>[]):=fun j=>by
   show dgT x.toNat++gI _=(dgT x.toNat++gI _)++_
   rw[List.take_add_one]
   cases row[j]? with
   | none=>simp
   | some t=>rw[Option.toList_some,List.map_append,List.map_cons,List.map_nil,J3,List.append_assoc]
  have hkl:∀j,j<=row.length->(BC (x::(row.take j).map fun t=>c.getD t.toNat 0)).length<=200:=fun j hj=>by
   show(dgT x.toNat++gI _).length<=200
   have h1:=wS (n:=x.toNat) (by omega)
   have h2:=PM (r:=(row.take j).map fun t=>c.getD t.toNat 0) (fun y hy=>by
    obtain⟨t,_,rfl⟩:=List.mem_map.1 hy
    exact EW (by omega) h100 _)
   simp only[List.length_append,List.length_map,List.length_take]at h2 ⊢
   omega
  have hk0':BC (x::(row.take 0).map fun t=>c.getD t.toNat 0)=dgT x.toNat:=by simp[BC,gI]
  generalize hkf:(fun j=>BC (x::(row.take j).map fun t=>c.getD t.toNat 0))=kf
  have hkf':∀j,BC (x::(row.take j).map fun t=>c.getD t.toNat 0)=kf j:=fun j=>by rw[<-hkf]
  simp only[hkf']at hks hkl hk0'
  rw[<-hk0']
  refine sG (fun(j g w:Nat)=>j<=row.length) (fun j g w=>(zj 3++ .cp [slI f o .i64 c] 0:: .junk:: .junk:: .ptr 4 0 0:: .ptr 6 0 0::p64 k:: .junk:: .ref (Gs.length+1+1+1+1+1+1+1+1) g 1 0 (kf j).length::zj 16++slI f2 o2 .i64 row::p64 row.length::p64 j::zj 20))
   (fun j g w=>[.gone,.gone,.map vm (smE (kP H5 0 (fE (t7 D.nx c) [] k []))),.cells 0 1 [.map 2],.cells 0 1 [.func (.func 186) [] [.ptr 3 0 0]],.cells 0 v (((lR (t7 D.nx c) [] [] k)++List.replicate (D.nx.length-k) 0).map p64),.cells 0 1 [.ref 5 0 1 0 D.nx.length],.loop (ver+1) lb]++(Gs++[.cells g w (iZ (kf j))])) (fun j g w=>row.length-j) 0 0 0 (by omega) (by simp only[PW]) (by simp only[List.map_append,PP,P1,P2,P14,P15,simprocAttr]) ?_
  intro j g w hj ih
  refine dL (by kernel_rfl) ?_
  simp only[PP,P1,P2,P14,P15,simprocAttr]
  refine QIf.intro (fun e=>?_) (fun e=>?_)
  ·have hjl:j<row.length:=by omega
   obtain⟨t,gt⟩:=dN hjl
   obtain⟨t0,t1⟩:=hrw.2 t (List.mem_of_getElem? gt)
   have j0:(0:Int)<=j:=by omega
   have hw:=dA (k:=j) (by show _<1000000000000;omega)
   obtain⟨y,gy⟩:=dN (xs:=c) (k:=t.toNat) (by omega)
   obtain⟨y0,y1⟩:=h100 y (List.mem_of_getElem? gy)
   have hnx:=hks j
   rw[gt]at hnx
   simp only[List.getD,gy,Option.getD_some]at hnx
   have hlk:=hkl j (by omega)
   have b5:(kf j).length+1<=140737488355328:=by omega
   have b6:(kf j).length<=9223372036854775806:=by omega
   simp only[PP,P1,P2,P14,P15,simprocAttr,e,List.append_assoc,gk,gk0,sk,sk0,gt,gy,hcl,j0,t0,t1,b5,b6]
   have e1:(kf j).length+1=(kf j++[32]).length:=by simp
   have e2:(kf j).map (fun c:UInt8=>PV.int .u8 ((c.toNat:Nat):Int))++[.int .u8 32]=iZ (kf j++[32]):=by simp[iZ]
   have e3:(kf j++[32])++dgT y.toNat=kf (j+1):=by rw[hnx];simp
   rw[e1,e2]
   refine aAT T (l:=kf j++[32]) (v:=0) (by simp only[List.getElem?_cons_succ,gk0,List.getElem?_cons_zero]) (by simp;omega) y0 y1 ?_
   rw[e3]
   simp only[PP,P1,P2,P14,P15,simprocAttr,List.append_assoc,gk,gk0,sk,sk0,hw]
   exact dY (ih (j+1) (g+1+1) 0 (by omega) (by omega)) (by simp only[PW]) (by simp only[List.map_append,PP,P1,P2,P14,P15,simprocAttr])
  ·obtain rfl:j=row.length:=by omega
   have hkey:BC (fN D.nx c k)=kf row.length:=by
    rw[<-hkf' row.length,List.take_length]
    unfold fN
    rw[grow]
    simp only[Option.getD_some,List.getD,gx]
   have hkap:(⟨(kf row.length).toArray⟩:ByteArray)=H5 (fN D.nx c k):=by unfold H5;rw[hkey]
   have hps:mZ (iZ (kf row.length))=some (kf row.length):=QM _
   have hbl:(kf row.length).length<=(iZ (kf row.length)).length:=by simp
   simp only[PP,P1,P2,P14,P15,simprocAttr,aQ,aL,aP,aC,aR,bD,aK,aJ,aN,aT,aU,aV,aW,aS,bA,aE,aF,aA,aG,aY,aZ,aO,bE,a8,aX,aM,bB,aH,bC,aI,aB,aD,e,List.append_assoc,gk,gk0,sk,sk0,hps,hbl,hkap]
   refine aCw T (κ:=H5) (Dm:=O5) (fun a b ha hb h=>V1 ha hb h) (o:=fE (t7 D.nx c) [] k []) (b:=fN D.nx c k) (H1 _ h100 k) ?_ (i:=2) (j:=3) rfl rfl fun ver'=>?_
   ·intro a ha
    rcases(m9 _ _ _ _ _).1 ha with h | ⟨y,_,rfl⟩
    ·cases h
    ·exact H1 _ h100 y
   have hvs:f5 (fE (t7 D.nx c) [] k []) (fN D.nx c k)=fE (t7 D.nx c) [] (k+1) []:=rfl
   rw[hvs]
   have hrx:=B7 (t7 D.nx c) [] [] k
   have hrl2:=iX (t7 D.nx c) [] [] k
   have hkl2:k+1<=k+(D.nx.length-k):=by omega
   simp only[PP,P1,P2,P14,P15,simprocAttr,aQ,aL,aP,aC,aR,bD,aK,aJ,aN,aT,aU,aV,aW,aS,bA,aE,aF,aA,aG,aY,aZ,aO,bE,a8,aX,aM,bB,aH,bC,aI,aB,aD,List.append_assoc,gk,gk0,sk,sk0,k0,hk,hrl2,hkl2]
   rw[I3]
   refine⟨by split<;>rfl,kc,ver+1,_,rfl,?_⟩
   rw[if_pos rfl]
   refine hK' _ ⟨ver',v+1,ver+1+1,Gs++[.cells g w (iZ (kf row.length))],?_⟩
   simp only[aB7,PP,P1,P2,P14,P15,simprocAttr,hlb]
   have hat:(fE (t7 D.nx c) [] (k+1) []).idxOf (fN D.nx c k)=(fE (t7 D.nx c) [] (k+1) []).idxOf (t7 D.nx c [] k):=rfl
   rw[hrx,List.set_append_right _ _ (by rw[List.length_map,hrl2];exact Nat.le_refl _),List.length_map,hrl2,Nat.sub_self,show D.nx.length-k=(D.nx.length-(k+1))+1 by omega,List.replicate_succ]
   simp only[List.map_append,List.map_cons,List.map_nil,List.append_assoc,List.cons_append,List.nil_append,List.set_cons_zero]
 ·rintro G ⟨vm,v,ver,Gs,rfl⟩
  refine⟨ver,lp,rfl,by rw[q1];exact(by intro h;cases h),?_⟩
  rw[q2]
  have hfz:y8 (some (PObj.cells 0 v ((lR (t7 D.nx c) [] [] D.nx.length).map p64))) 0 1 0 D.nx.length=some (slI false true .i64 (rfN D.nx c)):=by
   rw[iJ (by simp[iX]) (dI _ _ _),dQ _ _ (by simp[iX])]
   simp only[slI,rfN,iX]
  have hz:D.nx.length-D.nx.length=0:=Nat.sub_self _
  simp only[PP,P1,P2,P14,P15,simprocAttr,List.append_assoc,gk,gk0,sk,sk0,hz,hfz]
  exact hk
end
section
variable {tab:FuncId->Option AF} (T:HasA tab)
include T
theorem KD {M:Mem} {K:PV->Mem->Prop} {f o f2 o2:Bool} {a b:List Int} (ha:a.length<big) (hk:K (.bool (decide (a=b))) M):SemC tab 150 [slI f o .i64 a,slI f2 o2 .i64 b] M K:=by
 have hb:a.length<1000000000000:=ha
 refine cP T.h150 (by simp only[PP,P1,P2,P14,P15,simprocAttr]) ?_
 simp only[af150,PP,P1,P2,P14,P15,simprocAttr]
 by_cases hl:a.length=b.length
 rotate_left
 ·have h1:¬(a.length:Int)=b.length:=by omega
  have h2:¬a=b:=fun h=>hl (by rw[h])
  simp only[PP,P1,P2,P14,P15,simprocAttr,h1]
  simpa [h2] using hk
 have h1:(a.length:Int)=b.length:=by omega
 simp only[PP,P1,P2,P14,P15,simprocAttr,h1]
 refine jZ (fun(k:Nat)=>k<=b.length/\a.take k=b.take k) (fun k=>(slI f o .i64 a::slI f2 o2 .i64 b::zj 10++p64 b.length::p64 k::zj 12)) (fun _=>[]) (fun k=>b.length-k) 0 (by simp) (by simp only[PW]) rfl ?_
 intro k ⟨hk',htk⟩ ih
 refine dL (by kernel_rfl) ?_
 simp only[PP,P1,P2,P14,P15,simprocAttr]
 refine QIf.intro (fun c=>?_) (fun c=>?_)
 rotate_left
 ·obtain rfl:k=b.length:=by omega
  rw[List.take_of_length_le (by omega),List.take_of_length_le (by omega)]at htk
  simp only[PP,P1,P2,P14,P15,simprocAttr,c]
  simpa [htk] using hk
 have hlt:k<b.length:=by omega
 have i0:(0:Int)<=k:=by omega
 have hw:=dA (k:=k) (by show _<1000000000000;omega)
 obtain⟨x,gx⟩:=dN (xs:=a) (k:=k) (by omega)
 obtain⟨y,gy⟩:=dN hlt
 simp only[PP,P1,P2,P14,P15,simprocAttr,c,i0,gx,gy,h1]
 by_cases e:x=y
 ·simp only[PP,P1,P2,P14,P15,simprocAttr,e,hw]
  refine dB (ih (k+1) ⟨by omega,?_⟩ (by omega)) (by simp only[PW])
  rw[eK gx,eK gy,htk,e]
 ·simp only[PP,P1,P2,P14,P15,simprocAttr,e]
  have hne:¬a=b:=fun h=>e (by rw[h,gy]at gx;exact(Option.some.inj gx).symm)
  simpa [hne] using hk
set_option maxHeartbeats 1000000 in
theorem GT {M:Mem} {K:PV->Mem->Prop} {f1 o1 f2 o2 f3 o3:Bool} {D:DF} {k:Nat} (B:BnD D) (h99:eY D=0->D.nx.length<=99) (hk1:eY D≠0->K (.tuple [.nils,p64 (eY D)]) M) (hk2:eY D=0->K (.tuple [slI false true .i64 (dX D k),p64 0]) M) (hkk:k<1000000000000):
  SemC tab 87 [.agg (dfC f1 o1 f2 o2 f3 o3 D),p64 k] M K:=by
 refine cP T.h87 (by simp only[PP,P1,P2,P14,P15,simprocAttr]) ?_
 simp only[af87,PP,P1,P2,P14,P15,simprocAttr]
 refine I0 T B ?_
 by_cases hc:eY D=0
 rotate_left
 ·simp only[PP,P1,P2,P14,P15,simprocAttr,hc]
  exact hk1 hc
 have hk2:=hk2 hc
 have h99:=h99 hc
 have C:=okD_iff.1 hc
 have hrow:∀r∈D.nx,r.length<=64/\∀t∈r,0<=t/\t<D.nx.length:=fun r hr=>by
  obtain⟨h1,h2⟩:=C.r r hr
  refine⟨?_,h2⟩
  have:=G2 C.v6
  have e:((2^D.vs.toNat:Nat):Int)=2^D.vs.toNat:=by simp
  omega
 simp only[PP,P1,P2,P14,P15,simprocAttr,hc]
 refine aAP T B C.f C.n0 ?_
 simp only[PP,P1,P2,P14,P15,simprocAttr]
 refine jZ (fun(i:Nat)=>i<=k) (fun i=>(.junk:: .junk:: .ptr 0 0 0::zj 4++slI false true .i64 (dX D i)::zj 8++p64 k::p64 i::zj 10)) (fun _=>[.cells 0 0 (dfC f1 o1 f2 o2 f3 o3 D)]) (fun i=>k-i) 0 (by omega) (by simp only[dX,PW]) rfl ?_
 intro i hi ih
 refine dL (by kernel_rfl) ?_
 simp only[PP,P1,P2,P14,P15,simprocAttr]
 refine QIf.intro (fun c=>?_) (fun c=>?_)
 rotate_left
 ·obtain rfl:i=k:=by omega
  simp only[PP,P1,P2,P14,P15,simprocAttr,c]
  exact hk2
 have hw:=dA (k:=i) (by show _<1000000000000;omega)
 have hln:=hH D i
 have hln2:=hH D (i+1)
 simp only[PP,P1,P2,P14,P15,simprocAttr,c]
 refine UA T B hln hrow (ZK h99 i) ?_
 simp only[PP,P1,P2,P14,P15,simprocAttr]
 refine KD T (by rw[sA];exact B.n) ?_
 by_cases e:rfN D.nx (dX D i)=dX D i
 ·have hs:=B9 (D:=D) (k:=i) e (k-i)
  rw[show i+(k-i)=k by omega]at hs
  rw[hs]at hk2
  simp only[PP,P1,P2,P14,P15,simprocAttr,e]
  exact hk2
 ·simp only[PP,P1,P2,P14,P15,simprocAttr,e,hw]
  exact dB (ih (i+1) (by omega) (by omega)) (by simp only[dX,PW])
end
section
variable {α β:Type} [DecidableEq α] [DecidableEq β]
def ixF (l:List α) (x:α):Nat:=l.idxOf x
def fv (f:Nat->α):Nat->List α
 | 0=>[]
 | n+1=>f5 (fv f n) (f n)
theorem NJ (f:Nat->α) (a:α):∀n,fE (fun _ y=>f y) a n []=fv f n
 | 0=>rfl
 | n+1=>by show f5 _ _=f5 _ _;rw[NJ f a n]
theorem jT (f:Nat->α) (x:α):∀n,x∈fv f n↔∃y,y<n/\x=f y
 | 0=>by simp[fv]
 | n+1=>by
  show x∈f5 _ _↔_
  rw[HP,jT f x n]
  constructor
  ·rintro(⟨y,h1,h2⟩ | h)
   ·exact⟨y,by omega,h2⟩
   ·exact⟨n,by omega,h⟩
  ·rintro⟨y,h1,h2⟩
   by_cases e:y=n
   ·subst e;exact .inr h2
   ·exact .inl ⟨y,by omega,h2⟩
theorem yZ (f:Nat->α):∀n,(fv f n).Nodup
 | 0=>by simp[fv]
 | n+1=>zZ (yZ f n)
theorem WJ (f:Nat->α):∀n,(fv f n).length<=n
 | 0=>by simp[fv]
 | n+1=>by
  have:=WJ f n
  show(f5 _ _).length<=_
  unfold f5
  split
  ·omega
  ·simp;omega
theorem sV (o:List α) (x:α):(f5 o x).length=if x∈o then o.length else o.length+1:=by
 unfold f5;split<;>simp
theorem WK (f:Nat->α) (g:α->β):∀n,(fv (fun y=>g (f y)) n).length<=(fv f n).length
 | 0=>by simp[fv]
 | n+1=>by
  have ih:=WK f g n
  show(f5 _ _).length<=(f5 _ _).length
  rw[sV,sV]
  by_cases h:f n∈fv f n
  ·have h2:g (f n)∈fv (fun y=>g (f y)) n:=by
    obtain⟨y,h3,h4⟩:=(jT _ _ _).1 h
    exact(jT _ _ _).2 ⟨y,h3,by rw[h4]⟩
   rw[if_pos h,if_pos h2];exact ih
  ·rw[if_neg h];split<;>omega
theorem LJ (f:Nat->α) (g:α->β):∀n,(fv (fun y=>g (f y)) n).length=(fv f n).length->fv (fun y=>g (f y)) n=(fv f n).map g
 | 0,_=>rfl
 | n+1,h=>by
  have h:(f5 (fv (fun y=>g (f y)) n) (g (f n))).length=(f5 (fv f n) (f n)).length:=h
  show f5 _ _=(f5 _ _).map g
  have hle:=WK f g n
  rw[sV,sV]at h
  by_cases h1:f n∈fv f n
  ·have h2:g (f n)∈fv (fun y=>g (f y)) n:=by
    obtain⟨y,h3,h4⟩:=(jT _ _ _).1 h1
    exact(jT _ _ _).2 ⟨y,h3,by rw[h4]⟩
   rw[if_pos h1,if_pos h2]at h
   unfold f5
   rw[if_pos h1,if_pos h2,LJ f g n h]
  ·rw[if_neg h1]at h
   by_cases h2:g (f n)∈fv (fun y=>g (f y)) n
   ·rw[if_pos h2]at h;omega
   ·rw[if_neg h2]at h
    unfold f5
    rw[if_neg h1,if_neg h2,LJ f g n (by omega)];simp
theorem WM (f:Nat->α) (g:α->β):∀n,(∀x y,x<n->y<n->g (f x)=g (f y)->f x=f y)->fv (fun y=>g (f y)) n=(fv f n).map g
 | 0,_=>rfl
 | n+1,h=>by
  show f5 _ _=(f5 _ _).map g
  have ih:=WM f g n fun x y hx hy=>h x y (by omega) (by omega)
  by_cases h1:f n∈fv f n
  ·have h2:g (f n)∈fv (fun y=>g (f y)) n:=by rw[ih];exact List.mem_map.2 ⟨_,h1,rfl⟩
   unfold f5
   rw[if_pos h1,if_pos h2,ih]
  ·have h2:g (f n)∉fv (fun y=>g (f y)) n:=fun q=>by
    obtain⟨y,h3,h4⟩:=(jT _ _ _).1 q
    exact h1 ((jT _ _ _).2 ⟨y,h3,h n y (by omega) (by omega) h4⟩)
   unfold f5
   rw[if_neg h1,if_neg h2,ih];simp
theorem qR {g:α->β} :∀{l:List α} {x:α},(l.map g).Nodup->x∈l->ixF (l.map g) (g x)=ixF l x
 | [],x,_,h=>by cases h
 | a::l,x,hn,h=>by
  rw[List.map_cons,List.nodup_cons]at hn
  rw[List.map_cons]
  by_cases e:x=a
  ·subst e;unfold ixF;simp
  ·have hm:x∈l:=by
    rcases List.mem_cons.1 h with h | h
    ·exact absurd h e
    ·exact h
   have hg:g x≠g a:=fun q=>hn.1 (by rw[<-q];exact List.mem_map.2 ⟨x,hm,rfl⟩)
   have ih:=qR hn.2 hm
   unfold ixF at ih ⊢
   rw[yW e,yW hg,ih]
theorem pT {l:List α} {x:α} (h:x∈l):l[ixF l x]? =some x:=by
 unfold ixF
 have h1:=List.idxOf_lt_length_of_mem h
 rw[List.getElem?_eq_getElem h1,List.getElem_idxOf]
end
def O7 (n:Nat) (c:List Int):Prop:=c.length=n/\∀y,y<n->((ixF (fv (fun y=>c.getD y 0) n) (c.getD y 0):Nat):Int)=c.getD y 0
theorem R3 {α:Type} [DecidableEq α] (f:Nat->α) (n:Nat) {c:List Int} (hl:c.length=n) (hc:∀y,y<n->c.getD y 0=((ixF (fv f n) (f y):Nat):Int)):O7 n c/\(fv (fun y=>c.getD y 0) n).length=(fv f n).length:=by
 have hmem:∀y,y<n->f y∈fv f n:=fun y hy=>(jT _ _ _).2 ⟨y,hy,rfl⟩
 have hinj:∀x y,x<n->y<n->(fun z:α=>((ixF (fv f n) z:Nat):Int)) (f x)=(fun z:α=>((ixF (fv f n) z:Nat):Int)) (f y)->f x=f y:=fun x y hx hy h=>by
  have h:ixF (fv f n) (f x)=ixF (fv f n) (f y):=Int.ofNat.inj h
  have h1:=pT (hmem x hx)
  have h2:=pT (hmem y hy)
  rw[h,h2]at h1
  exact(Option.some.inj h1).symm
 have hcong:∀k,k<=n->fv (fun y=>c.getD y 0) k=fv (fun y=>(fun z:α=>((ixF (fv f n) z:Nat):Int)) (f y)) k:=by
  intro k
  induction k with
  | zero=>intro _;rfl
  | succ k ih=>
   intro hk
   show f5 _ (c.getD k 0)=f5 _ ((ixF (fv f n) (f k):Nat):Int)
   rw[ih (by omega),hc k (by omega)]
 have hm:=WM f (fun z:α=>((ixF (fv f n) z:Nat):Int)) n hinj
 have hV:fv (fun y=>c.getD y 0) n=(fv f n).map (fun z:α=>((ixF (fv f n) z:Nat):Int)):=by rw[hcong n (Nat.le_refl _),hm]
 have hnd:((fv f n).map (fun z:α=>((ixF (fv f n) z:Nat):Int))).Nodup:=by rw[<-hV];exact yZ _ _
 refine⟨⟨hl,fun y hy=>?_⟩,by rw[hV];simp⟩
 rw[hV,hc y hy]
 have:=qR (g:=fun z:α=>((ixF (fv f n) z:Nat):Int)) hnd (hmem y hy)
 rw[this]
theorem D6 {nx:List (List Int)} {c:List Int} {y:Nat} (hy:y<nx.length):(rfN nx c).getD y 0=((ixF (fv (fN nx c) nx.length) (fN nx c y):Nat):Int):=by
 unfold rfN lR
 rw[List.getD,List.getElem?_map,List.getElem?_range hy,Option.map_some,Option.getD_some]
 rw[NJ (fN nx c)]
 rfl
theorem CA (nx:List (List Int)) (c:List Int):O7 nx.length (rfN nx c)/\(fv (fun y=>(rfN nx c).getD y 0) nx.length).length=(fv (fN nx c) nx.length).length:=
 R3 (fN nx c) nx.length (sA nx c) fun y hy=>D6 hy
theorem aAQ {D:DF} {y:Nat} (hy:y<D.nx.length):(kT D).getD y 0=if D.fi.getD y false=D.fi.getD 0 false then 0 else 1:=by
 unfold kT
 rw[List.getD,List.getElem?_map,List.getElem?_range hy,Option.map_some,Option.getD_some]
theorem LZ (D:DF):O7 D.nx.length (kT D):=by
 have hs:∀k,k<=D.nx.length->fv (fun y=>(kT D).getD y 0) k=[]\/fv (fun y=>(kT D).getD y 0) k=[0]\/fv (fun y=>(kT D).getD y 0) k=[0,1]:=by
  intro k
  induction k with
  | zero=>intro _;exact .inl rfl
  | succ k ih=>
   intro hk
   have hb:=aAQ (D:=D) (y:=k) (by omega)
   show f5 _ ((kT D).getD k 0)=_\/f5 _ ((kT D).getD k 0)=_\/f5 _ ((kT D).getD k 0)=_
   have h01:(kT D).getD k 0=0\/(kT D).getD k 0=1:=by
    rw[hb];split
    ·exact .inl rfl
    ·exact .inr rfl
   rcases ih (by omega) with h | h | h
   ·have hk0:k=0:=by
     rcases Nat.eq_zero_or_pos k with q | q
     ·exact q
     ·have:(kT D).getD 0 0∈fv (fun y=>(kT D).getD y 0) k:=(jT _ _ _).2 ⟨0,q,rfl⟩
      rw[h]at this;cases this
    subst hk0
    rw[h,hb,if_pos rfl];exact .inr (.inl rfl)
   ·rw[h]
    rcases h01 with e | e<;>rw[e]
    ·exact .inr (.inl rfl)
    ·exact .inr (.inr rfl)
   ·rw[h]
    rcases h01 with e | e<;>rw[e]
    ·exact .inr (.inr rfl)
    ·exact .inr (.inr rfl)
 refine⟨hH D 0,fun y hy=>?_⟩
 have hm:(kT D).getD y 0∈fv (fun y=>(kT D).getD y 0) D.nx.length:=(jT _ _ _).2 ⟨y,hy,rfl⟩
 rcases hs D.nx.length (Nat.le_refl _) with h | h | h
 ·rw[h]at hm;cases hm
 ·rw[h]at hm ⊢
  simp only[List.mem_singleton]at hm
  rw[hm];rfl
 ·rw[h]at hm ⊢
  simp only[List.mem_cons,List.not_mem_nil,or_false]at hm
  rcases hm with hm | hm<;>rw[hm]<;>rfl
theorem KI (D:DF):∀k,O7 D.nx.length (dX D k)
 | 0=>LZ D
 | k+1=>(CA D.nx (dX D k)).1
def RV (D:DF) (k:Nat):Nat:=(fv (fun y=>(dX D k).getD y 0) D.nx.length).length
theorem RU {D:DF} {k:Nat} (h:dX D (k+1)≠dX D k):RV D k<RV D (k+1):=by
 have h1:=CA D.nx (dX D k)
 have e1:RV D (k+1)=(fv (fN D.nx (dX D k)) D.nx.length).length:=h1.2
 have hle:=WK (fN D.nx (dX D k)) (fun l=>l.headD 0) D.nx.length
 have hh:(fun y=>(fN D.nx (dX D k) y).headD 0)=fun y=>(dX D k).getD y 0:=rfl
 have e0:RV D k=(fv (fun y=>(fN D.nx (dX D k) y).headD 0) D.nx.length).length:=rfl
 rw[e0,e1]
 rcases Nat.lt_or_eq_of_le hle with q | q
 ·exact q
 ·exfalso
  have hm:=LJ (fN D.nx (dX D k)) (fun l=>l.headD 0) D.nx.length q
  apply h
  have hc:=KI D k
  show rfN D.nx (dX D k)=dX D k
  refine List.ext_getElem? fun y=>?_
  by_cases hy:y<D.nx.length
  ·have hl1:y<(rfN D.nx (dX D k)).length:=by rw[sA];exact hy
   have hl2:y<(dX D k).length:=by rw[hc.1];exact hy
   have a1:=D6 (nx:=D.nx) (c:=dX D k) hy
   have a2:=hc.2 y hy
   have hmem:fN D.nx (dX D k) y∈fv (fN D.nx (dX D k)) D.nx.length:=(jT _ _ _).2 ⟨y,hy,rfl⟩
   have hnd:((fv (fN D.nx (dX D k)) D.nx.length).map (fun l=>l.headD 0)).Nodup:=by rw[<-hm];exact yZ _ _
   have hi:=qR (g:=fun l:List Int=>l.headD 0) hnd hmem
   rw[<-hm]at hi
   have hi':ixF (fv (fun y=>(dX D k).getD y 0) D.nx.length) ((dX D k).getD y 0)=ixF (fv (fN D.nx (dX D k)) D.nx.length) (fN D.nx (dX D k) y):=hi
   rw[<-hi',a2]at a1
   rw[List.getD,List.getD,List.getElem?_eq_getElem hl1,List.getElem?_eq_getElem hl2]at a1
   rw[List.getElem?_eq_getElem hl1,List.getElem?_eq_getElem hl2]
   simpa using a1
  ·rw[List.getElem?_eq_none (by rw[sA];omega),List.getElem?_eq_none (by rw[hc.1];omega)]
theorem B8 {D:DF} (h0:0<D.nx.length):∀{m:Nat},(∀j,j<m->dX D (j+1)≠dX D j)->m+1<=RV D m
 | 0,_=>by
  have:(dX D 0).getD 0 0∈fv (fun y=>(dX D 0).getD y 0) D.nx.length:=(jT _ _ _).2 ⟨0,h0,rfl⟩
  exact List.length_pos_of_mem this
 | m+1,h=>by
  have ih:=B8 h0 (m:=m) fun j hj=>h j (by omega)
  have:=RU (h m (by omega))
  omega
theorem KH {D:DF} (h0:0<D.nx.length) {m:Nat} (h:∀j,j<m->dX D (j+1)≠dX D j):m<D.nx.length:=by
 have h1:=B8 h0 h
 have h2:RV D m<=D.nx.length:=WJ _ _
 omega
def l7 (A:Mem) (f1 o1 f2 o2 f3 o3 f o:Bool) (D:DF) (v1 v2 k:Nat) (u:Int):Mem:=
 A++[.cells 0 v1 [p64 D.vs,p64 D.st,slR f1 o1 f2 o2 .i64 D.nx,slB f3 o3 D.fi,p64 k,slI f o .i64 (dX D k)],.cells 0 v2 [.iface 122 (.ptr A.length 0 0),p64 u]]
def StM (A:Mem) (D:DF) (m:Nat) (M:Mem):Prop:=
 (∀j,j<m->dX D (j+1)≠dX D j)/\∃(f1 o1 f2 o2 f3 o3 f o:Bool) (v1 v2:Nat),M=l7 A f1 o1 f2 o2 f3 o3 f o D v1 v2 m m
section
variable {tab:FuncId->Option AF} (T:HasA tab)
include T
set_option maxHeartbeats 1000000 in
theorem zO {M:Mem} {K:PV->Mem->Prop} {f o f2 o2:Bool} {rs:List (List Int)} (hm:rs.length<big) (hr:∀r∈rs,r.length<big) (hk:K (slR false true false true .i64 rs) M):SemC tab 57 [slR f o f2 o2 .i64 rs] M K:=by
 have hb:rs.length<1000000000000:=hm
 refine fB T.h57 (by simp only[PP,P1,P2,P14,P15,simprocAttr]) ?_
 simp only[af57]
 refine bS (bR ?_)
 simp only[PP,P1,P2,P14,P15,simprocAttr]
 refine eB (GStep.nil 2 1 rfl rfl rfl) ?_
 refine bR ?_
 simp only[PP,P1,P2,P14,P15,simprocAttr]
 refine jY (fun(k:Nat) (g:Nat)=>k<=rs.length) (fun k g=>(.junk:: .junk:: .ref 0 g 1 0 k:: .junk:: .junk::slR f o f2 o2 .i64 rs::p64 rs.length::p64 k::zj 10)) (fun k g=>[.cells g 0 ((rs.take k).map (slI false true .i64))]) (fun k _=>rs.length-k) 0 0 (by omega) (by simp only[PW]) rfl ?_
 intro k g hk' ih
 refine dL (by kernel_rfl) ?_
 simp only[PP,P1,P2,P14,P15,simprocAttr]
 refine QIf.intro (fun c=>?_) (fun c=>?_)
 rotate_left
 ·obtain rfl:k=rs.length:=by omega
  have hfz:y8 (some (PObj.cells g 0 ((rs.take rs.length).map (slI false true .i64)))) g 1 0 rs.length=some (slR false true false true .i64 rs):=by
   rw[List.take_length,iJ (by simp) (dO _ _ _ _ _),dQ _ _ (by simp)]
  simp only[PP,P1,P2,P14,P15,simprocAttr,c,hfz]
  exact hk
 have hlt:k<rs.length:=by omega
 have hw:=dA (k:=k) (by show _<1000000000000;omega)
 have i0:(0:Int)<=k:=by omega
 have b1:(k+1)*24<=140737488355328:=by omega
 have b2:k+1<=9223372036854775807:=by omega
 have b3:k<=((rs.take k)).length:=by rw[List.length_take];omega
 obtain⟨x,gx⟩:=dN hlt
 simp only[PP,P1,P2,P14,P15,simprocAttr,c,i0,gx]
 refine nK T (hr x (List.mem_of_getElem? gx)) ?_
 simp only[PP,P1,P2,P14,P15,simprocAttr,b1,b2,b3,hw]
 refine dY (ih (k+1) (g+1) (by omega) (by omega)) (by simp only[PW]) ?_
 rw[dQ _ _ (by simp;omega),eK gx];simp
theorem C5 {M:Mem} {K:PV->Mem->Prop} {f o:Bool} {xs:List Bool} (hm:xs.length<big) (hk:K (slB false true xs) M):SemC tab 58 [slB f o xs] M K:=by
 have hb:xs.length<1000000000000:=hm
 have b1:xs.length<=140737488355328:=by omega
 have b2:xs.length<=9223372036854775807:=by omega
 refine kI (cP T.h58 (by simp only[PP,P1,P2,P14,P15,simprocAttr]) ?_)
 simp only[af58,PP,P1,P2,P14,P15,simprocAttr]
 refine QIf.intro (fun c=>?_) (fun c=>?_)
 ·have:xs=[]:=List.length_eq_zero_iff.1 c
  subst this
  constructor
  ·simp only[PP,P1,P2,P14,P15,simprocAttr]
   exact⟨_,PvWk.nils _ _ _,hk⟩
  ·simp only[PP,P1,P2,P14,P15,simprocAttr]
   exact⟨_,PvWk.sl _ _ _ _,hk⟩
 ·simp only[PP,P1,P2,P14,P15,simprocAttr,c,b1,b2]
  exact⟨_,PvWk.refl _,hk⟩
set_option maxHeartbeats 1000000 in
theorem aCi {A:Mem} {K:PV->Mem->Prop} {f1 o1 f2 o2 f3 o3:Bool} {D:DF} (hc:eY D=0) (B:BnD D) (h99:D.nx.length<=99)
  (hk:∀Y v,cL (A.length+1) Y=true->K (.ptr (A.length+1) 0 0) (A++[Y,.cells 0 v [p64 D.vs,p64 D.st,slR false true false true .i64 D.nx,slB false true D.fi,p64 (0:Nat),slI false true .i64 (dX D 0)]])):
  SemC tab 93 [.agg (dfC f1 o1 f2 o2 f3 o3 D)] A K:=by
 refine dH T.h93 ?_
 simp only[af93,PP,P1,P2,P14,P15,simprocAttr,gk,gk0,sk,sk0]
 refine zO T B.n B.r ?_
 simp only[PP,P1,P2,P14,P15,simprocAttr,gk,gk0,sk,sk0]
 refine C5 T B.f ?_
 simp only[PP,P1,P2,P14,P15,simprocAttr,gk,gk0,sk,sk0,List.append_assoc]
 refine GT T B (fun _=>h99) (fun h=>absurd hc h) (fun _=>?_) (k:=0) (by omega)
 simp only[PP,P1,P2,P14,P15,simprocAttr,gk,gk0,sk,sk0,List.append_assoc]
 exact hk _ 1 (by simp[cL,cE,PV.under,dO,eD])
theorem F6 {A:Mem} {K:PV->Mem->Prop} {f1 o1 f2 o2 f3 o3:Bool} {D:DF} (B:BnD D) (h99:eY D=0->D.nx.length<=99) (hA:A.all (cL A.length)=true)
  (hk1:eY D≠0->K (.tuple [.nilptr,p64 (eY D)]) A)
  (hk2:eY D=0->∀X Y v,cL (A.length+2) X=true->cL (A.length+2) Y=true->K (.tuple [.ptr (A.length+3) 0 0,p64 0]) (l7 (A++[X,Y]) false true false true false true false true D v 0 0 0)):
  SemC tab 41 [.agg (dfC f1 o1 f2 o2 f3 o3 D)] A K:=by
 have hX:∀m,cL m (PObj.cells 0 0 (dfC f1 o1 f2 o2 f3 o3 D))=true:=fun m=>by simp[cL,cE,PV.under,dO,eD]
 refine eZ (dH T.h41 ?_)
 simp only[af41,PP,P1,P2,P14,P15,simprocAttr,gk0,sk0]
 refine I0 T B ?_
 by_cases hc:eY D=0
 rotate_left
 ·simp only[PP,P1,P2,P14,P15,simprocAttr,hc]
  refine Gh.step (GStep.dropM (b:=[.tuple [.nilptr,p64 (eY D)]]) (N:=A) A.length (Nat.le_refl _) (by simp) (by simp only[PW]) (by simp[cE,PV.under]) ?_ (List.take_left' rfl)) (Gh.same ⟨_,rfl,hk1 hc⟩)
  exact(congrArg (fun M:Mem=>M.all (cL A.length)) (List.take_left' rfl)).trans hA
 simp only[PP,P1,P2,P14,P15,simprocAttr,hc,gk0,sk0]
 refine aCi T hc B (h99 hc) fun Y v hY=>?_
 have h:=hk2 hc (.cells 0 0 (dfC f1 o1 f2 o2 f3 o3 D)) Y v (hX _) (by simpa using hY)
 simp only[PP,P1,P2,P14,P15,simprocAttr,gk,gk0,sk,sk0,cF,cN,bT,List.append_assoc]
 unfold l7 at h
 simp only[List.append_assoc,List.cons_append,List.nil_append,List.length_append,List.length_cons,List.length_nil,Nat.zero_add,Nat.reduceAdd]at h
 exact Gh.same ⟨_,rfl,h⟩
theorem HS {A:Mem} {K:PV->Mem->Prop} {f1 o1 f2 o2 f3 o3 f o:Bool} {D:DF} {v1 v2 k:Nat} {u:Int} (hc:eY D=0) (B:BnD D) (h99:D.nx.length<=99) (hkk:k+1<1000000000000)
  (hk:K (slI false true .i64 (dX D (k+1))) (l7 A f1 o1 f2 o2 f3 o3 f o D v1 v2 k u)):SemC tab 262 [.ptr A.length 0 0] (l7 A f1 o1 f2 o2 f3 o3 f o D v1 v2 k u) K:=by
 have hw:=dA (k:=k) (by show _<1000000000000;omega)
 refine dH T.h262 ?_
 unfold l7 at hk ⊢
 simp only[af262,PP,P1,P2,P14,P15,simprocAttr,gk,gk0,sk,sk0,hw]
 refine GT T B (fun _=>h99) (fun h=>absurd hc h) (fun _=>?_) (k:=k+1) hkk
 simp only[PP,P1,P2,P14,P15,simprocAttr]
 exact hk
theorem V4 {A:Mem} {D:DF} (hc:eY D=0) (B:BnD D) (h99:D.nx.length<=99):
  JobK tab (A.length+1) A.length 122 261 260 10 (fun m=>dX D (m+1)=dX D m) (fun _=>False) (fun m=> !decide (dX D (m+1)=dX D m)) (StM A D) where
 job:=by
  rintro m M ⟨_,f1,o1,f2,o2,f3,o3,f,o,v1,v2,rfl⟩
  exact⟨v2,by unfold l7;rw[gk];rfl⟩
 sm:=by
  rintro m M ⟨h,_⟩
  have:=KH (okD_iff.1 hc).n0 h
  omega
 unit:=by
  rintro m M ⟨h,f1,o1,f2,o2,f3,o3,f,o,v1,v2,rfl⟩ K k1 k2 k3
  have hlt:=KH (okD_iff.1 hc).n0 h
  have hw:=dA (k:=m) (by show _<1000000000000;omega)
  refine dH T.h261 ?_
  simp only[af261,PP,P1,P2,P14,P15,simprocAttr]
  refine HS T hc B h99 (by omega) ?_
  unfold l7
  simp only[PP,P1,P2,P14,P15,simprocAttr,gk,gk0,sk,sk0]
  refine KD T (by rw[hH];exact B.n) ?_
  by_cases e:dX D (m+1)=dX D m
  ·simp only[PP,P1,P2,P14,P15,simprocAttr,e]
   exact k1 e _ ⟨h,f1,o1,f2,o2,f3,o3,f,o,v1,v2,rfl⟩
  ·simp only[PP,P1,P2,P14,P15,simprocAttr,e,gk,gk0,sk,sk0,hw]
   refine k3 e (fun q=>q) _ v2 (by rw[gk];rfl) ⟨fun j hj=>?_,f1,o1,f2,o2,f3,o3,false,true,v1+1+1,v2+1,?_⟩
   ·by_cases q:j=m
    ·subst q;exact e
    ·exact h j (by omega)
   ·unfold l7;rw[sk];rfl
 left:=by
  rintro m M ⟨h,f1,o1,f2,o2,f3,o3,f,o,v1,v2,rfl⟩ K k
  have hlt:=KH (okD_iff.1 hc).n0 h
  refine dH T.h260 ?_
  simp only[af260,PP,P1,P2,P14,P15,simprocAttr]
  refine HS T hc B h99 (by omega) ?_
  have hk:=k _ ⟨h,f1,o1,f2,o2,f3,o3,f,o,v1,v2,rfl⟩
  unfold l7 at hk ⊢
  simp only[PP,P1,P2,P14,P15,simprocAttr,gk,gk0,sk,sk0]
  refine KD T (by rw[hH];exact B.n) ?_
  simp only[PP,P1,P2,P14,P15,simprocAttr]
  exact hk
 meth:= .inr (.inl ⟨rfl,rfl,rfl⟩)
end
abbrev msM (b:Nat) (f1 o1 f2 o2 f3 o3 f4 o4:Bool) (ow pr:List Int) (su:List (List Int)) (ms:List Ms) (v1 v2 v3:Nat) (d:Bool) (u:Int):Mem:=
 [.cells 0 v1 [slI f1 o1 .u8 ow,slI f2 o2 .i64 pr,slR f3 o3 f4 o4 .i64 su,.ref (b+2) 0 9 0 ow.length,.bool d],.gone,.cells 0 v2 (msL ms),.cells 0 v3 [.iface 125 (.ptr b 0 0),p64 u]]
def jH (A:Mem) (f1 o1 f2 o2 f3 o3 f4 o4:Bool) (ow pr:List Int) (su:List (List Int)) (ms:List Ms) (v1 v2 v3:Nat) (b:Bool) (u:Int):Mem:=
 A++msM A.length f1 o1 f2 o2 f3 o3 f4 o4 ow pr su ms v1 v2 v3 b u
theorem E6 {ns:List Nat} {x y:Ms} (hx:x.Ok ns) (hy:y.Ok ns):BF x y<=0↔x.num ns<=y.num ns:=by
 rw[wU hx hy]
 have:= @pG (x.num ns) (y.num ns)
 omega
section
variable {tab:FuncId->Option AF} (T:HasA tab)
include T
theorem OA {M:Mem} {K:PV->Mem->Prop} {f1 o1 f2 o2 f3 o3 f4 o4:Bool} {ow pr:List Int} {su:List (List Int)} {ms:List Ms} {id ver v:Nat} (hM:M[id]? =some (.cells 0 ver (msL ms))) (c1:eH ow pr su=0) (B:Bnd ow pr su) (hS:StOk (dS pr) ow.length ms) (hv:v<ow.length)
  (hk:∀y,y.Ok (dS pr)->y.num (dS pr)=gL ow pr su (Nf (dS pr) ms) v->K (.tuple [.agg (msC y),p64 0]) M):
  SemC tab 266 [gmP f1 o1 f2 o2 f3 o3 f4 o4 ow pr su,.ref id 0 9 0 ow.length,p64 v] M K:=by
 have V:=gX c1
 have n1:=V.n1
 have hl:=hS.l
 have bor:PBor M [gmP f1 o1 f2 o2 f3 o3 f4 o4 ow pr su,.ref id 0 9 0 ow.length,p64 v] [gmP f1 o1 f2 o2 f3 o3 f4 o4 ow pr su,slM true false ms,p64 v]:=by
  refine .same (by simp only[PP,P1,P2,P14,P15,simprocAttr]) ?_
  rw[<-hl]
  exact .ref hM (by rw[cD];omega) (cA _ _) (jL ms) (.same (by simp only[PP,P1,P2,P14,P15,simprocAttr]) .nil)
 refine sY bor (aDe T B (by omega) (fun y e hA=>⟨by simp only[PV.flat,PV.flatA,PV.flat1,sE,List.all_cons,List.all_nil,Bool.and_self],?_⟩))
 rcases hA with⟨a1,_⟩ | ⟨_,a2,_⟩ | ⟨_,_,a3,_⟩ | ⟨_,_,a4,_⟩ | ⟨_,_,_,_,a5,a6,rfl⟩
 ·exact absurd c1 a1
 ·exact absurd hl a2
 ·exact absurd hS.ok a3
 ·omega
 ·exact hk y a5 (by simpa using a6)
set_option maxHeartbeats 1000000 in
theorem aDV {A G:Mem} {K:PV->Mem->Prop} {f1 o1 f2 o2 f3 o3 f4 o4:Bool} {ow pr:List Int} {su:List (List Int)} {ms:List Ms} {v1 v2 v3:Nat} {b:Bool} {u:Int} (c1:eH ow pr su=0) (B:Bnd ow pr su) (hS:StOk (dS pr) ow.length ms)
  (hk:∀r G',(r=false↔uM ow.length (gL ow pr su) (Nf (dS pr) ms))->K (.bool r) (A++(msM A.length f1 o1 f2 o2 f3 o3 f4 o4 ow pr su ms v1 v2 v3 b u++G'))):
  SemC tab 263 [.ptr A.length 0 0] (A++(msM A.length f1 o1 f2 o2 f3 o3 f4 o4 ow pr su ms v1 v2 v3 b u++G)) K:=by
 have V:=gX c1
 have n1:=V.n1
 have hl:=hS.l
 refine dH T.h263 ?_
 simp only[af263,PP,P1,P2,P14,P15,simprocAttr,gk,gk0,sk,sk0]
 refine jY (fun(i:Nat) (G:Mem)=>i<=ow.length/\∀v,v<i->gL ow pr su (Nf (dS pr) ms) v<=Nf (dS pr) ms v) (fun i G=>(.ptr A.length 0 0::zj 9++p64 ow.length::p64 i::zj 26))
  (fun i G=>A++(msM A.length f1 o1 f2 o2 f3 o3 f4 o4 ow pr su ms v1 v2 v3 b u++G)) (fun i G=>ow.length-i) 0 G ⟨by omega,fun v h=>by omega⟩ (by simp only[PW]) rfl ?_
 intro i G ⟨hi,hp⟩ ih
 refine dL (by kernel_rfl) ?_
 simp only[PP,P1,P2,P14,P15,simprocAttr]
 refine QIf.intro (fun c=>?_) (fun c=>?_)
 rotate_left
 ·obtain rfl:i=ow.length:=by omega
  simp only[PP,P1,P2,P14,P15,simprocAttr,c]
  exact hk false G ⟨fun _=>hp,fun _=>rfl⟩
 have hlt:i<ow.length:=by omega
 have i0:(0:Int)<=i:=by omega
 have hw:=dA (k:=i) (by show _<1000000000000;omega)
 obtain⟨x,gx⟩:=dN (xs:=ms) (k:=i) (by omega)
 have hx:=hS.ok x (List.mem_of_getElem? gx)
 have hps:=iY gx
 have hln9:i*9+9<=ms.length*9:=by omega
 simp only[PP,P1,P2,P14,P15,simprocAttr,c,gk,gk0,sk,sk0,List.append_assoc]
 refine OA T (by rw[gk];rfl) c1 B hS hlt fun y hy hn=>?_
 simp only[PP,P1,P2,P14,P15,simprocAttr,cC,cI,cG,bK,dJ,bY,bM,z9,z9t,cD,cA,cJ,bZ,bW,b9,bX,bP,bN,bH,bL,bG,z8,bO,cV,bV,cU,cT,cR,c,i0,gk,gk0,sk,sk0,List.append_assoc]
 rw[hps]
 refine⟨hln9,?_⟩
 refine nI T ?_
 have hcx:=E6 hy hx
 rw[hn,<-s8 gx]at hcx
 by_cases d:BF y x<=0
 ·have d':¬0<BF y x:=by omega
  simp only[PP,P1,P2,P14,P15,simprocAttr,d',hw]
  refine dB (ih (i+1) (G++[.cells 0 1 (msC y)]) ⟨by omega,fun v hv=>?_⟩ (by omega)) (by simp only[PW])
  by_cases q:v=i
  ·subst q;exact hcx.1 d
  ·exact hp v (by omega)
 ·have d':0<BF y x:=by omega
  simp only[PP,P1,P2,P14,P15,simprocAttr,d']
  refine hk true (G++[.cells 0 1 (msC y)]) ⟨fun h=>(by cases h),fun h=>?_⟩
  exact absurd (hcx.2 (h i hlt)) d
set_option maxHeartbeats 2000000 in
theorem ZO {A:Mem} {K:PV->Mem->Prop} {f1 o1 f2 o2 f3 o3 f4 o4:Bool} {ow pr:List Int} {su:List (List Int)} {ms:List Ms} {v1 v2 v3:Nat} {b:Bool} {u:Int} (hA:A.all (cL A.length)=true) (c1:eH ow pr su=0) (B:Bnd ow pr su) (hS:StOk (dS pr) ow.length ms)
  (hk1:uM ow.length (gL ow pr su) (Nf (dS pr) ms)->∀v1',K (.tuple [.bool false,p64 0]) (jH A f1 o1 f2 o2 f3 o3 f4 o4 ow pr su ms v1' v2 v3 true u))
  (hk2:∀v y r v1' v2',FstN ow.length (gL ow pr su) (Nf (dS pr) ms) v->y.Ok (dS pr)->y.num (dS pr)=gL ow pr su (Nf (dS pr) ms) v->(r=true↔uM ow.length (gL ow pr su) (Nf (dS pr) (ms.set v y)))->K (.tuple [.bool true,p64 0]) (jH A f1 o1 f2 o2 f3 o3 f4 o4 ow pr su (ms.set v y) v1' v2' v3 r u)):
  SemC tab 265 [.ptr A.length 0 0] (jH A f1 o1 f2 o2 f3 o3 f4 o4 ow pr su ms v1 v2 v3 b u) K:=by
 have V:=gX c1
 have n1:=V.n1
 have hl:=hS.l
 have hcut:∀(ms:List Ms) (v1 v2:Nat) (b:Bool),(jH A f1 o1 f2 o2 f3 o3 f4 o4 ow pr su ms v1 v2 v3 b u).all (cL (A.length+4))=true:=fun ms v1 v2 b=>by
  unfold jH
  rw[List.all_append,dV (by omega) hA]
  simp[cL,cE,PV.under,dI,dO,cA]
 have htake:∀(ms:List Ms) (v1 v2:Nat) (b:Bool) (G:Mem),(A++(msM A.length f1 o1 f2 o2 f3 o3 f4 o4 ow pr su ms v1 v2 v3 b u++G)).take (A.length+4)=jH A f1 o1 f2 o2 f3 o3 f4 o4 ow pr su ms v1 v2 v3 b u:=fun ms v1 v2 b G=>by
  unfold jH
  rw[<-List.append_assoc]
  exact List.take_left' (by simp)
 refine eZ (fJ T.h265 ?_)
 simp only[af265]
 refine bR ?_
 have hml:(jH A f1 o1 f2 o2 f3 o3 f4 o4 ow pr su ms v1 v2 v3 b u).length=A.length+4:=by simp[jH]
 rw[hml]
 unfold jH at htake hcut ⊢
 simp only[msM,PP,P1,P2,P14,P15,simprocAttr,gk,gk0,sk,sk0]
 refine VU (fun(i:Nat) (l:Bool) (ms':List Ms) (w2:Nat) (G:Mem)=>i<=ow.length/\StOk (dS pr) ow.length ms'/\(l=false->ms'=ms/\w2=v2/\∀v,v<i->gL ow pr su (Nf (dS pr) ms) v<=Nf (dS pr) ms v)/\(l=true->∃v y,FstN ow.length (gL ow pr su) (Nf (dS pr) ms) v/\y.Ok (dS pr)/\y.num (dS pr)=gL ow pr su (Nf (dS pr) ms) v/\ms'=ms.set v y))
  (fun i l ms' w2 G=>(.ptr A.length 0 0::zj 3++ .bool l::zj 10++p64 ow.length::p64 i::zj 45)) (fun i l ms' w2 G=>A++(msM A.length f1 o1 f2 o2 f3 o3 f4 o4 ow pr su ms' (v1+1) w2 v3 true u++G)) (fun i l ms' w2 G=>ow.length-i) 0 false ms v2 [] ⟨by omega,hS,fun _=>⟨rfl,rfl,fun v h=>by omega⟩,fun h=>by cases h⟩ (by simp only[PW]) (by rw[List.append_nil]) ?_
 intro i l ms' w2 G ⟨hi,hS',hf,ht⟩ ih
 have hl':=hS'.l
 refine dL (by kernel_rfl) ?_
 simp only[PP,P1,P2,P14,P15,simprocAttr]
 refine QIf.intro (fun c=>?_) (fun c=>?_)
 ·have hlt:i<ow.length:=by omega
  have i0:(0:Int)<=i:=by omega
  have hw:=dA (k:=i) (by show _<1000000000000;omega)
  obtain⟨x,gx⟩:=dN (xs:=ms') (k:=i) (by omega)
  have hx:=hS'.ok x (List.mem_of_getElem? gx)
  have hps:=iY gx
  have hln9:i*9+9<=ms'.length*9:=by omega
  simp only[msM,PP,P1,P2,P14,P15,simprocAttr,c,gk,gk0,sk,sk0,List.append_assoc]
  refine OA T (by rw[gk];rfl) c1 B hS' hlt fun y hy hn=>?_
  simp only[PP,P1,P2,P14,P15,simprocAttr,cC,cI,cG,bK,dJ,bY,bM,z9,z9t,cD,cA,cJ,bZ,bW,b9,bX,bP,bN,bH,bL,bG,z8,bO,cV,bV,cU,cT,cR,c,i0,gk,gk0,sk,sk0,List.append_assoc]
  rw[hps]
  refine⟨hln9,?_⟩
  refine nI T ?_
  have hcx:=E6 hy hx
  rw[hn,<-s8 gx]at hcx
  by_cases d:BF y x<=0
  ·simp only[PP,P1,P2,P14,P15,simprocAttr,d,hw]
   refine dB (ih (i+1) l ms' w2 (G++[.cells 0 1 (msC y)]) ⟨by omega,hS',fun q=>?_,ht⟩ (by omega)) (by simp only[PW])
   obtain⟨q1,q2,q3⟩:=hf q
   refine⟨q1,q2,fun v hv=>?_⟩
   by_cases e:v=i
   ·subst e;rw[<-q1];exact hcx.1 d
   ·exact q3 v (by omega)
  ·cases l with
   | true=>
    obtain⟨v,y2,p1,p2,p3,rfl⟩:=ht rfl
    simp only[PP,P1,P2,P14,P15,simprocAttr,d,gk,gk0,sk,sk0]
    refine Gh.step (GStep.dropM (b:=[.tuple [.bool true,p64 0]]) (N:=jH A f1 o1 f2 o2 f3 o3 f4 o4 ow pr su (ms.set v y2) (v1+1+1) w2 v3 false u) (A.length+4) (Nat.le_refl _) (by simp) (by simp only[PW]) (by simp[cE,PV.under]) ?_ ?_) (Gh.same ⟨_,rfl,hk2 v y2 false _ _ p1 p2 p3 ⟨fun h=>(by cases h),fun h=>?_⟩⟩)
    ·exact(congrArg (fun M:Mem=>M.all (cL (A.length+4))) (htake (ms.set v y2) (v1+1+1) w2 false _)).trans (hcut ..)
    ·exact htake (ms.set v y2) (v1+1+1) w2 false _
    ·exact absurd (hcx.2 (h i hlt)) d
   | false=>
    obtain⟨rfl,rfl,q3⟩:=hf rfl
    have hpov:=CJ (l:=ms') y (k:=i) (by omega)
    simp only[PP,P1,P2,P14,P15,simprocAttr,cC,cI,cG,bK,dJ,bY,bM,z9,z9t,cD,cA,cJ,bZ,bW,b9,bX,bP,bN,bH,bL,bG,z8,bO,cV,bV,cU,cT,cR,d,gk,gk0,sk,sk0,i0,c,hln9,hpov,hw]
    refine dY (ih (i+1) true (ms'.set i y) (w2+1) (G++[.cells 0 1 (msC y)]) ⟨by omega,hS'.set hy,⟨fun q=>Bool.noConfusion q,fun _=>⟨i,y,⟨hlt,?_,fun u hu=>q3 u hu⟩,hy,hn,rfl⟩⟩⟩ (by omega)) (by simp only[PW]) rfl
    have:=fun h=>d (hcx.2 h)
    omega
 ·obtain rfl:i=ow.length:=by omega
  cases l with
  | true=>
   obtain⟨v,y2,p1,p2,p3,rfl⟩:=ht rfl
   simp only[PP,P1,P2,P14,P15,simprocAttr,c,gk,gk0,sk,sk0]
   refine aDV T (G:=G) c1 B hS' fun r G' hr=>?_
   simp only[msM,PP,P1,P2,P14,P15,simprocAttr,gk,gk0,sk,sk0]
   refine Gh.step (GStep.dropM (b:=[.tuple [.bool true,p64 0]]) (N:=jH A f1 o1 f2 o2 f3 o3 f4 o4 ow pr su (ms.set v y2) (v1+1+1) w2 v3 (!r) u) (A.length+4) (Nat.le_refl _) (by simp) (by simp only[PW]) (by simp[cE,PV.under]) ?_ ?_) (Gh.same ⟨_,rfl,hk2 v y2 (!r) _ _ p1 p2 p3 ?_⟩)
   ·exact(congrArg (fun M:Mem=>M.all (cL (A.length+4))) (htake (ms.set v y2) (v1+1+1) w2 (!r) _)).trans (hcut ..)
   ·exact htake (ms.set v y2) (v1+1+1) w2 (!r) _
   ·rw[<-hr];cases r<;>simp
  | false=>
   obtain⟨rfl,rfl,q3⟩:=hf rfl
   simp only[PP,P1,P2,P14,P15,simprocAttr,c,gk,gk0,sk,sk0]
   refine Gh.step (GStep.dropM (b:=[.tuple [.bool false,p64 0]]) (N:=jH A f1 o1 f2 o2 f3 o3 f4 o4 ow pr su ms' (v1+1) w2 v3 true u) (A.length+4) (Nat.le_refl _) (by simp) (by simp only[PW]) (by simp[cE,PV.under]) ?_ ?_) (Gh.same ⟨_,rfl,hk1 q3 _⟩)
   ·exact(congrArg (fun M:Mem=>M.all (cL (A.length+4))) (htake ms' (v1+1) w2 true _)).trans (hcut ..)
   ·exact htake ms' (v1+1) w2 true _
end
theorem wM {ms:List Ms} :∀v∈msL ms,(∃b,v= .bool b)\/∃n,v=p64 n:=fun v hv=>by
 unfold msL at hv
 obtain⟨x,_,h⟩:=List.mem_flatMap.1 hv
 rcases List.mem_cons.1 h with rfl | h
 ·exact .inl ⟨_,rfl⟩
 ·obtain⟨n,_,rfl⟩:=List.mem_map.1 h
  exact .inr ⟨n,rfl⟩
theorem GN (k:Nat):∀{l:List PV},(∀v∈l,(∃b,v= .bool b)\/∃n,v=p64 n)->shL k l=l
 | [],_=>by simp[shL]
 | v::l,h=>by
  have h1:=GN k (l:=l) fun x hx=>h x (by simp[hx])
  rcases h v (by simp) with⟨b,rfl⟩ | ⟨n,rfl⟩<;>simp[shL,PV.sh,h1]
theorem VH (ms:List Ms):oW (msL ms)=true:=(tM _).2 fun v hv=>by
 rcases wM v hv with⟨b,rfl⟩ | ⟨n,rfl⟩<;>simp[PV.shOk]
theorem aBz (c:Nat):∀{ns:List Nat},(∀n∈ns,n<=c)->mT ns<=(c+1)^ns.length
 | [],_=>by simp[mT]
 | n::ns,h=>by
  have h1:=aBz c (ns:=ns) fun x hx=>h x (by simp[hx])
  have h2:=h n (by simp)
  show(n+1)*mT ns<=_
  rw[List.length_cons,Nat.pow_succ,Nat.mul_comm]
  exact Nat.mul_le_mul h1 (by omega)
theorem aAh (pr:List Int):∀n∈dS pr,n<=pr.length:=fun n hn=>by
 obtain⟨v,_,rfl⟩:=FZ hn
 exact List.count_le_length
theorem aDl {ow pr:List Int} {su:List (List Int)} (V:Valid ow pr su) (h:ow.length<=99) (m:Nat):rQ ow.length (itN ow.length (gL ow pr su) m)<4000000000000000000:=by
 have h1:=NP (n:=ow.length) (m:=itN ow.length (gL ow pr su) m) (WE (BN V) m).bnd
 have h2:mT (dS pr)<=100^8:=by
  have:=aBz 99 (ns:=dS pr) fun n hn=>by
   have:=aAh pr n hn
   have:=V.p
   omega
  rw[nA]at this
  exact this
 have h3:=Nat.mul_le_mul h h2
 have h4:99*100^8<4000000000000000000:=by decide
 omega
def StP (A:Mem) (ow pr:List Int) (su:List (List Int)) (m:Nat) (M:Mem):Prop:=
 m<=rQ ow.length (itN ow.length (gL ow pr su) m)/\∃(f1 o1 f2 o2 f3 o3 f4 o4:Bool) (ms:List Ms) (v1 v2 v3:Nat) (b:Bool),StOk (dS pr) ow.length ms/\Nf (dS pr) ms=itN ow.length (gL ow pr su) m/\(b=true↔uM ow.length (gL ow pr su) (itN ow.length (gL ow pr su) m))/\M=jH A f1 o1 f2 o2 f3 o3 f4 o4 ow pr su ms v1 v2 v3 b m
open Classical in
noncomputable def aAj (ow pr:List Int) (su:List (List Int)) (m:Nat):Bool:= !decide (uM ow.length (gL ow pr su) (itN ow.length (gL ow pr su) m))
theorem wN {A:Mem} {f1 o1 f2 o2 f3 o3 f4 o4:Bool} {ow pr:List Int} {su:List (List Int)} {ms:List Ms} {v1 v2 v3:Nat} {b:Bool} {u:Int} :(jH A f1 o1 f2 o2 f3 o3 f4 o4 ow pr su ms v1 v2 v3 b u)[A.length+3]? =some (.cells 0 v3 [.iface 125 (.ptr A.length 0 0),p64 u]):=by unfold jH;rw[gk];rfl
section
variable {tab:FuncId->Option AF} (T:HasA tab)
include T
theorem WY {M:Mem} {K:PV->Mem->Prop} {f o:Bool} {xs:List Int} (hm:xs.length<big) (hk:K (slI false true .u8 xs) M):SemC tab 158 [slI f o .u8 xs] M K:=by
 have hb:xs.length<1000000000000:=hm
 have b1:xs.length<=140737488355328:=by omega
 have b2:xs.length<=9223372036854775807:=by omega
 refine kI (cP T.h158 (by simp only[PP,P1,P2,P14,P15,simprocAttr]) ?_)
 simp only[af158,PP,P1,P2,P14,P15,simprocAttr]
 refine QIf.intro (fun c=>?_) (fun c=>?_)
 ·have:xs=[]:=List.length_eq_zero_iff.1 c
  subst this
  constructor
  ·simp only[PP,P1,P2,P14,P15,simprocAttr]
   exact⟨_,PvWk.nils _ _ _,hk⟩
  ·simp only[PP,P1,P2,P14,P15,simprocAttr]
   exact⟨_,PvWk.sl _ _ _ _,hk⟩
 ·simp only[PP,P1,P2,P14,P15,simprocAttr,c,b1,b2]
  exact⟨_,PvWk.refl _,hk⟩
theorem XK {M:Mem} {K:PV->Mem->Prop} {f1 o1 f2 o2 f3 o3 f4 o4:Bool} {ow pr:List Int} {su:List (List Int)} (B:Bnd ow pr su) (c1:eH ow pr su=0)
  (hk:∀ms b v,uO ow pr su 0 ms b 0->K (.tuple [.ref (M.length+1) 0 9 0 ow.length,.bool b,p64 0]) (M++[.gone,.cells 0 v (msL ms)])):
  SemC tab 159 [gmP f1 o1 f2 o2 f3 o3 f4 o4 ow pr su,p64 0] M K:=by
 refine YI (args2:=[gmP f1 o1 f2 o2 f3 o3 f4 o4 ow pr su,p64 0]) (args3:=[gmP false false false false false false false false ow pr su,p64 0]) (.same (by simp only[PP,P1,P2,P14,P15,simprocAttr]) (.same (by simp only[PP,P1,P2,P14,P15,simprocAttr]) .nil)) ?_ ?_
 ·simp only[jA,PV.age,DA,XJ,zY,List.map_cons,List.map_nil,PObj.mapC,slR]
 refine XL T B (by omega) c1 (by omega) fun ms b v X hA=>⟨[.gone,.cells 0 v (msL ms)],?_,by simp,by simp[PV.shOk,oW],by simp[aBu,VH],?_⟩
 ·intro i o h
  match i,h with
  | 0,h=>left;simpa using h.symm
  | 1,h=>right;simpa using h
  | i+2,h=>simp at h
 ·have:=hk ms b v hA
  rw[Nat.add_comm]at this
  simpa [PV.sh,shL,shO,GN _ wM] using this
set_option maxHeartbeats 1000000 in
theorem aCh {A:Mem} {K:PV->Mem->Prop} {f1 o1 f2 o2 f3 o3 f4 o4:Bool} {ow pr:List Int} {su:List (List Int)} (B:Bnd ow pr su) (c1:eH ow pr su=0)
  (hk:∀Y v1 v2 ms b,cL (A.length+1) Y=true->uO ow pr su 0 ms b 0->K (.ptr (A.length+1) 0 0) (A++[Y,.cells 0 v1 [slI false true .u8 ow,slI false true .i64 pr,slR false true false true .i64 su,.ref (A.length+3) 0 9 0 ow.length,.bool b],.gone,.cells 0 v2 (msL ms)])):
  SemC tab 94 [gmP f1 o1 f2 o2 f3 o3 f4 o4 ow pr su] A K:=by
 refine dH T.h94 ?_
 simp only[af94,PP,P1,P2,P14,P15,simprocAttr,gk,gk0,sk,sk0]
 refine WY T B.o ?_
 simp only[PP,P1,P2,P14,P15,simprocAttr,gk,gk0,sk,sk0]
 refine nK T B.p ?_
 simp only[PP,P1,P2,P14,P15,simprocAttr,gk,gk0,sk,sk0]
 refine zO T B.s B.r ?_
 simp only[PP,P1,P2,P14,P15,simprocAttr,gk,gk0,sk,sk0,List.append_assoc]
 refine XK T B c1 fun ms b v hA=>?_
 simp only[PP,P1,P2,P14,P15,simprocAttr,cC,cI,cG,bK,dJ,bY,bM,z9,z9t,cD,cA,cJ,bZ,bW,b9,bX,bP,bN,bH,bL,bG,z8,bO,cV,bV,cU,cT,cR,gk,gk0,sk,sk0,List.append_assoc]
 exact hk _ 2 v ms b (by simp[cL,cE,PV.under,dI,dO]) hA
theorem F5 {A:Mem} {K:PV->Mem->Prop} {f1 o1 f2 o2 f3 o3 f4 o4:Bool} {ow pr:List Int} {su:List (List Int)} (B:Bnd ow pr su) (hA:A.all (cL A.length)=true)
  (hk1:eH ow pr su≠0->K (.tuple [.nilptr,p64 (eH ow pr su)]) A)
  (hk2:eH ow pr su=0->∀X Y v1 v2 ms b,cL (A.length+2) X=true->cL (A.length+2) Y=true->uO ow pr su 0 ms b 0->K (.tuple [.ptr (A.length+5) 0 0,p64 0]) (jH (A++[X,Y]) false true false true false true false true ow pr su ms v1 v2 0 b 0)):
  SemC tab 42 [gmP f1 o1 f2 o2 f3 o3 f4 o4 ow pr su] A K:=by
 have hX:∀m,cL m (PObj.cells 0 0 [slI f1 o1 .u8 ow,slI f2 o2 .i64 pr,slR f3 o3 f4 o4 .i64 su])=true:=fun m=>by simp[cL,cE,PV.under,dI,dO]
 refine eZ (dH T.h42 ?_)
 simp only[af42,PP,P1,P2,P14,P15,simprocAttr,gk0,sk0]
 refine E7 T B ?_
 by_cases hc:eH ow pr su=0
 rotate_left
 ·simp only[PP,P1,P2,P14,P15,simprocAttr,hc]
  refine Gh.step (GStep.dropM (b:=[.tuple [.nilptr,p64 (eH ow pr su)]]) (N:=A) A.length (Nat.le_refl _) (by simp) (by simp only[PW]) (by simp[cE,PV.under]) ?_ (List.take_left' rfl)) (Gh.same ⟨_,rfl,hk1 hc⟩)
  exact(congrArg (fun M:Mem=>M.all (cL A.length)) (List.take_left' rfl)).trans hA
 simp only[PP,P1,P2,P14,P15,simprocAttr,hc,gk0,sk0]
 refine aCh T B hc fun Y v1 v2 ms b hY hA=>?_
 have h:=hk2 hc (.cells 0 0 [slI f1 o1 .u8 ow,slI f2 o2 .i64 pr,slR f3 o3 f4 o4 .i64 su]) Y v1 v2 ms b (hX _) (by simpa using hY) hA
 simp only[PP,P1,P2,P14,P15,simprocAttr,gk,gk0,sk,sk0,cF,cN,bT,List.append_assoc]
 unfold jH at h
 simp only[msM,List.append_assoc,List.cons_append,List.nil_append,List.length_append,List.length_cons,List.length_nil,Nat.zero_add,Nat.reduceAdd]at h
 exact Gh.same ⟨_,rfl,h⟩
theorem RE {A:Mem} {ow pr:List Int} {su:List (List Int)} (hA:A.all (cL A.length)=true) (c1:eH ow pr su=0) (B:Bnd ow pr su) (h99:ow.length<=99):
  JobK tab (A.length+3) A.length 125 265 264 10 (fun m=>uM ow.length (gL ow pr su) (itN ow.length (gL ow pr su) m)) (fun _=>False) (aAj ow pr su) (StP A ow pr su) where
 job:=by
  rintro m M ⟨_,f1,o1,f2,o2,f3,o3,f4,o4,ms,v1,v2,v3,b,_,_,_,rfl⟩
  exact⟨v3,wN⟩
 sm:=by
  rintro m M ⟨h,_⟩
  have:=aDl (gX c1) h99 m
  omega
 unit:=by
  rintro m M ⟨h,f1,o1,f2,o2,f3,o3,f4,o4,ms,v1,v2,v3,b,hS,hN,hb,rfl⟩ K k1 k2 k3
  refine ZO T hA c1 B hS (fun hp v1'=>?_) (fun v y r v1' v2' hF hy hn hr=>?_)
  ·rw[hN]at hp
   exact k1 hp _ ⟨h,f1,o1,f2,o2,f3,o3,f4,o4,ms,v1',v2,v3,true,hS,hN,⟨fun _=>hp,fun _=>rfl⟩,rfl⟩
  ·have hv:v<ms.length:=by rw[hS.l];exact hF.1
   have hnx:Nf (dS pr) (ms.set v y)=itN ow.length (gL ow pr su) (m+1):=by
    show _=rU ow.length (gL ow pr su) (itN ow.length (gL ow pr su) m)
    rw[Y5 hv,hn,hN,rT (by rw[<-hN];exact hF)]
   refine k3 (fun hp=>?_) (fun q=>q) _ v3 wN ⟨?_,f1,o1,f2,o2,f3,o3,f4,o4,ms.set v y,v1',v2',v3+1,r,hS.set hy,hnx,by rw[<-hnx];exact hr,?_⟩
   ·have:=hp v hF.1
    rw[<-hN]at this
    have:=hF.2.1
    omega
   ·have e:itN ow.length (gL ow pr su) (m+1)=nR (itN ow.length (gL ow pr su) m) v (gL ow pr su (itN ow.length (gL ow pr su) m) v):=by
     show rU ow.length (gL ow pr su) (itN ow.length (gL ow pr su) m)=_
     exact rT (by rw[<-hN];exact hF)
    have hF2:=hF.2.1
    rw[hN]at hF2
    have:=F2 (n:=ow.length) (m:=itN ow.length (gL ow pr su) m) (v:=v) (x:=gL ow pr su (itN ow.length (gL ow pr su) m) v) hF.1 hF2
    rw[e]
    omega
   ·unfold jH;rw[sk];rfl
 left:=by
  rintro m M ⟨h,f1,o1,f2,o2,f3,o3,f4,o4,ms,v1,v2,v3,b,hS,hN,hb,rfl⟩ K k
  refine dH T.h264 ?_
  have hk:=k _ ⟨h,f1,o1,f2,o2,f3,o3,f4,o4,ms,v1,v2,v3,b,hS,hN,hb,rfl⟩
  have e:aAj ow pr su m= !b:=by
   unfold aAj
   congr 1
   exact Bool.eq_iff_iff.2 (Iff.trans (@decide_eq_true_iff _ (Classical.propDecidable _)) hb.symm)
  rw[e]at hk
  unfold jH at hk ⊢
  simp only[af264,msM,PP,P1,P2,P14,P15,simprocAttr,gk,gk0,sk,sk0]
  exact hk
 meth:= .inr (.inr ⟨rfl,rfl,rfl⟩)
end
theorem wV (f o:Bool) (sz n:Nat) (cs:List PV):PV.age (.sl f o sz n cs)= .sl false false sz n (jA cs):=by simp[PV.age]
theorem L4 (f o:Bool) (rs:List (List Int)):jA (rs.map (slI f o .i64))=rs.map (slI false false .i64):=by
 rw[jV,List.map_map]
 exact List.map_congr_left fun x _=>by
  show PV.age (slI f o .i64 x)=_
  unfold slI
  rw[wV,DA]
theorem JR (f g:Bool) (rs:List (List Int)):PV.young (slR f true g true .i64 rs)=true:=by
 unfold slR
 rw[wY]
 exact(j4 _).2 fun v hv=>by obtain⟨x,_,rfl⟩:=List.mem_map.1 hv;exact O8 _ _ _ _ _
theorem FL (f:Bool) (xs:List Bool):PV.young (slB f true xs)=true:=by
 unfold slB
 rw[wY]
 exact(j4 _).2 fun v hv=>by obtain⟨x,_,rfl⟩:=List.mem_map.1 hv;exact wZ _
theorem S3 (f:Bool) (ms:List Ms):PV.young (slM f true ms)=true:=by
 unfold slM
 rw[wY]
 exact(j4 _).2 fun v hv=>by rcases wM v hv with⟨b,rfl⟩ | ⟨n,rfl⟩;exact wZ _;exact O9 _ _
theorem aAW (ms:List Ms):jA (msL ms)=msL ms:=by
 have h:∀l:List PV,(∀v∈l,(∃b,v= .bool b)\/∃n,v=p64 n)->jA l=l:=by
  intro l
  induction l with
  | nil=>intro _;simp[jA]
  | cons v l ih=>
   intro h
   have h1:=ih fun x hx=>h x (by simp[hx])
   rcases h v (by simp) with⟨b,rfl⟩ | ⟨n,rfl⟩<;>simp[jA,PV.age,h1]
 exact h _ wM
abbrev T6 (f:Bool) (vs:Int) (rows:List (List Int)) (fins:List Bool) (sets:List (List Int)) (cls:List Int) (ms:List Ms):PV:=
 .agg [p64 vs,p64 0,slR f true f true .i64 rows,slB f true fins,slR f true f true .i64 sets,slI f true .i64 cls,slM f true ms]
theorem JS {vs:Int} {a b c d e:PV} {rows:List (List Int)} {fins:List Bool} {sets:List (List Int)} {cls:List Int} {ms:List Ms} (h1:PvWk a (slR false true false true .i64 rows)) (h2:PvWk b (slB false true fins)) (h3:PvWk c (slR false true false true .i64 sets)) (h4:PvWk d (slI false true .i64 cls)) (h5:PvWk e (slM false true ms)):
  PvWk (.agg [p64 vs,p64 0,a,b,c,d,e]) (T6 false vs rows fins sets cls ms):=by
 refine PvWk.agg rfl fun i y z p q=>?_
 match i,p,q with
 | 0,p,q=>cases p;cases q;exact PvWk.refl _
 | 1,p,q=>cases p;cases q;exact PvWk.refl _
 | 2,p,q=>cases p;cases q;exact h1
 | 3,p,q=>cases p;cases q;exact h2
 | 4,p,q=>cases p;cases q;exact h3
 | 5,p,q=>cases p;cases q;exact h4
 | 6,p,q=>cases p;cases q;exact h5
 | i+7,p,q=>simp at p
section
variable {tab:FuncId->Option AF} (T:HasA tab)
include T
theorem C2 {M:Mem} {K:PV->Mem->Prop} {id g v:Nat} {f o:Bool} {rs:List (List Int)} (hM:M[id]? =some (.cells g v (rs.map (slI f o .i64)))) (hm:rs.length<big) (hr:∀r∈rs,r.length<big) (hk:K (slR false true false true .i64 rs) M):SemC tab 57 [.ref id g 1 0 rs.length] M K:=by
 refine uJ (args2:=[.sl true false 1 rs.length (rs.map (slI f o .i64))]) (args3:=[slR false false false false .i64 rs]) (.ref hM (by simp) (dO _ _ _ _ _) (dQ _ _ (by simp)) .nil) ?_ (zO T hm hr ⟨JR _ _ _,hk⟩)
 simp only[jA,wV,L4,slR]
theorem R1 {M:Mem} {K:PV->Mem->Prop} {id g v:Nat} {xs:List Bool} (hM:M[id]? =some (.cells g v (xs.map PV.bool))) (hm:xs.length<big) (hk:K (slB false true xs) M):SemC tab 58 [.ref id g 1 0 xs.length] M K:=by
 refine uJ (args2:=[.sl true false 1 xs.length (xs.map PV.bool)]) (args3:=[slB false false xs]) (.ref hM (by simp) (eD _ _) (dQ _ _ (by simp)) .nil) ?_ (C5 T hm ⟨FL _ _,hk⟩)
 simp only[jA,wV,zY,slB]
theorem RY {M:Mem} {K:PV->Mem->Prop} {f o:Bool} {ms:List Ms} (hm:ms.length<big) (hk:K (slM false true ms) M):SemC tab 60 [slM f o ms] M K:=by
 have hb:ms.length<1000000000000:=hm
 have b1:ms.length*72<=140737488355328:=by omega
 have b2:ms.length<=9223372036854775807:=by omega
 refine kI (cP T.h60 (by simp only[PP,P1,P2,P14,P15,simprocAttr,cC,cI,cG,bK,dJ,bY,bM,z9,z9t,cD,cA,cJ,bZ,bW,b9,bX,bP,bN,bH,bL,bG,z8,bO,cV,bV,cU,cT,cR,PV.under]) ?_)
 simp only[af60,PP,P1,P2,P14,P15,simprocAttr,cC,cI,cG,bK,dJ,bY,bM,z9,z9t,cD,cA,cJ,bZ,bW,b9,bX,bP,bN,bH,bL,bG,z8,bO,cV,bV,cU,cT,cR]
 refine QIf.intro (fun c=>?_) (fun c=>?_)
 ·have:ms=[]:=List.length_eq_zero_iff.1 c
  subst this
  constructor
  ·simp only[PP,P1,P2,P14,P15,simprocAttr]
   exact⟨_,PvWk.nils _ _ _,hk⟩
  ·simp only[PP,P1,P2,P14,P15,simprocAttr,cC,cI,cG,bK,dJ,bY,bM,z9,z9t,cD,cA,cJ,bZ,bW,b9,bX,bP,bN,bH,bL,bG,z8,bO,cV,bV,cU,cT,cR]
   exact⟨_,PvWk.sl _ _ _ _,hk⟩
 ·simp only[PP,P1,P2,P14,P15,simprocAttr,cC,cI,cG,bK,dJ,bY,bM,z9,z9t,cD,cA,cJ,bZ,bW,b9,bX,bP,bN,bH,bL,bG,z8,bO,cV,bV,cU,cT,cR,c,b1,b2]
  rw[jL]
  exact⟨_,PvWk.refl _,hk⟩
theorem RZ {M:Mem} {K:PV->Mem->Prop} {id g v:Nat} {ms:List Ms} (hM:M[id]? =some (.cells g v (msL ms))) (hm:ms.length<big) (hk:K (slM false true ms) M):SemC tab 60 [.ref id g 9 0 ms.length] M K:=by
 refine uJ (args2:=[slM true false ms]) (args3:=[slM false false ms]) (.ref hM (by rw[cD];omega) (cA _ _) (jL ms) .nil) ?_ (RY T hm ⟨S3 _ _,hk⟩)
 simp only[jA,wV,aAW,slM]
set_option maxHeartbeats 1000000 in
theorem aB6 {M:Mem} {K:PV->Mem->Prop} {j w v vw i2 g2 v2 i5 g5 v5 i6 g6 v6:Nat} {u:Int} {a b c d e x:PV} {vs:Int} {f1 o1 f2 o2:Bool} {rows sets:List (List Int)} {fins:List Bool}
  (hj:M[j]? =some (.cells 0 v [.iface 116 (.ptr w 0 0),p64 u])) (hw:M[w]? =some (.cells 0 vw [p64 vs,a,b,c,d,e,.ref i2 g2 1 0 sets.length,x,.ref i5 g5 1 0 rows.length,.ref i6 g6 1 0 fins.length]))
  (h2:M[i2]? =some (.cells g2 v2 (sets.map (slI f2 o2 .i64)))) (h5:M[i5]? =some (.cells g5 v5 (rows.map (slI f1 o1 .i64)))) (h6:M[i6]? =some (.cells g6 v6 (fins.map PV.bool)))
  (hs:sets.length<big) (hs2:∀r∈sets,r.length<big) (hr:rows.length<big) (hr2:∀r∈rows,r.length<big) (hf:fins.length<big) (hc:M.all (cL M.length)=true)
  (hk:K (T6 false vs rows fins sets [] []) M):SemC tab 20 [.ptr j 0 0] M K:=by
 have gj:=fun l=>eV hj l
 have gw:=fun l=>eV hw l
 refine kI (eZ (dH T.h20 ?_))
 simp only[af20,PP,P1,P2,P14,P15,simprocAttr,dE,cF,bQ,cZ,cO,cY,cW,dC,dD,cK,bJ,cN,bU,bT,bF,cB,bI,gj,gw,gk0,sk0]
 refine C2 T (eV h5 _) hr hr2 ?_
 simp only[PP,P1,P2,P14,P15,simprocAttr,dE,cF,bQ,cZ,cO,cY,cW,dC,dD,cK,bJ,cN,bU,bT,bF,cB,bI,gj,gw,gk0,sk0]
 refine R1 T (eV h6 _) hf ?_
 simp only[PP,P1,P2,P14,P15,simprocAttr,dE,cF,bQ,cZ,cO,cY,cW,dC,dD,cK,bJ,cN,bU,bT,bF,cB,bI,gj,gw,gk0,sk0]
 refine C2 T (eV h2 _) hs hs2 ?_
 simp only[PP,P1,P2,P14,P15,simprocAttr,dE,cF,bQ,cZ,cO,cY,cW,dC,dD,cK,bJ,cN,bU,bT,bF,cB,bI,gj,gw,gk0,sk0]
 refine Gh.step (GStep.dropM (b:=[.agg [p64 vs,p64 0,slR false true false true .i64 rows,slB false true fins,slR false true false true .i64 sets,.nils,.nils]]) (N:=M) M.length (Nat.le_refl _) (by simp) (by simp only[PW]) (by simp[cE,PV.under,dO,dI,eD,cA]) ?_ (List.take_left' rfl)) (Gh.same ⟨_,rfl,_,JS (PvWk.refl _) (PvWk.refl _) (PvWk.refl _) (PvWk.nils _ _ _) (PvWk.nils _ _ _),hk⟩)
 exact(congrArg (fun N:Mem=>N.all (cL M.length)) (List.take_left' rfl)).trans hc
set_option maxHeartbeats 1000000 in
theorem aB5 {M:Mem} {K:PV->Mem->Prop} {j w v vw:Nat} {u:Int} {a b c d e:PV} {f o:Bool} {cls:List Int}
  (hj:M[j]? =some (.cells 0 v [.iface 122 (.ptr w 0 0),p64 u])) (hw:M[w]? =some (.cells 0 vw [a,b,c,d,e,slI f o .i64 cls])) (hl:cls.length<big) (hc:M.all (cL M.length)=true)
  (hk:K (T6 false 0 [] [] [] cls []) M):SemC tab 20 [.ptr j 0 0] M K:=by
 have gj:=fun l=>eV hj l
 have gw:=fun l=>eV hw l
 refine kI (eZ (dH T.h20 ?_))
 simp only[af20,PP,P1,P2,P14,P15,simprocAttr,dE,cF,bQ,cZ,cO,cY,cW,dC,dD,cK,bJ,cN,bU,bT,bF,cB,bI,gj,gw,gk0,sk0]
 refine nK T hl ?_
 simp only[PP,P1,P2,P14,P15,simprocAttr,dE,cF,bQ,cZ,cO,cY,cW,dC,dD,cK,bJ,cN,bU,bT,bF,cB,bI,gj,gw,gk0,sk0]
 refine Gh.step (GStep.dropM (b:=[.agg [p64 0,p64 0,.nils,.nils,.nils,slI false true .i64 cls,.nils]]) (N:=M) M.length (Nat.le_refl _) (by simp) (by simp only[PW]) (by simp[cE,PV.under,dO,dI,eD,cA]) ?_ (List.take_left' rfl)) (Gh.same ⟨_,rfl,_,JS (PvWk.nils _ _ _) (PvWk.nils _ _ _) (PvWk.nils _ _ _) (PvWk.refl _) (PvWk.nils _ _ _),hk⟩)
 exact(congrArg (fun N:Mem=>N.all (cL M.length)) (List.take_left' rfl)).trans hc
set_option maxHeartbeats 1000000 in
theorem aB4 {M:Mem} {K:PV->Mem->Prop} {j w v vw i2 g2 v2:Nat} {u:Int} {a b c d:PV} {ms:List Ms}
  (hj:M[j]? =some (.cells 0 v [.iface 125 (.ptr w 0 0),p64 u])) (hw:M[w]? =some (.cells 0 vw [a,b,c,.ref i2 g2 9 0 ms.length,d])) (h2:M[i2]? =some (.cells g2 v2 (msL ms))) (hl:ms.length<big) (hc:M.all (cL M.length)=true)
  (hk:K (T6 false 0 [] [] [] [] ms) M):SemC tab 20 [.ptr j 0 0] M K:=by
 have gj:=fun l=>eV hj l
 have gw:=fun l=>eV hw l
 refine kI (eZ (dH T.h20 ?_))
 simp only[af20,PP,P1,P2,P14,P15,simprocAttr,dE,cF,bQ,cZ,cO,cY,cW,dC,dD,cK,bJ,cN,bU,bT,bF,cB,bI,gj,gw,gk0,sk0]
 refine RZ T (eV h2 _) hl ?_
 simp only[PP,P1,P2,P14,P15,simprocAttr,dE,cF,bQ,cZ,cO,cY,cW,dC,dD,cK,bJ,cN,bU,bT,bF,cB,bI,gj,gw,gk0,sk0]
 refine Gh.step (GStep.dropM (b:=[.agg [p64 0,p64 0,.nils,.nils,.nils,.nils,slM false true ms]]) (N:=M) M.length (Nat.le_refl _) (by simp) (by simp only[PW]) (by simp[cE,PV.under,dO,dI,eD,cA]) ?_ (List.take_left' rfl)) (Gh.same ⟨_,rfl,_,JS (PvWk.nils _ _ _) (PvWk.nils _ _ _) (PvWk.nils _ _ _) (PvWk.nils _ _ _) (PvWk.refl _),hk⟩)
 exact(congrArg (fun N:Mem=>N.all (cL M.length)) (List.take_left' rfl)).trans hc
theorem ZB {M:Mem} {K:PV->Mem->Prop} {j v:Nat} {w:PV} {u:Int} (hj:M[j]? =some (.cells 0 v [w,p64 u])) (hk:K (p64 u) M):SemC tab 22 [.ptr j 0 0] M K:=by
 refine dH T.h22 ?_
 simp only[af22,PP,P1,P2,P14,P15,simprocAttr,dE,cF,bQ,cZ,cO,cY,cW,dC,dD,cK,bJ,cN,bU,bT,bF,cB,bI,hj]
 exact hk
end
end Go.Am.Ar

