/- Contract: explore, and what goes with it. -/
import Derived.Test.YtapbgleednkimaaGreatDoorBudgetDividedG1
import Derived.Test.YtapbgleednkimaaGreatDoorPmC
import Derived.Test.YtapbgleednkimaaGreatDoorBudgetDividedG0
import Derived.Test.YtapbgleednkimaaGreatDoorBuKey
set_option linter.unusedVariables false
set_option linter.unusedSimpArgs false
set_option maxRecDepth 10000
namespace Go.Am.Ar
open Go.Am.PV renaming junk->Zj
open Go.Am renaming kV->P1,qL->P2,PKNo->P3,ppack->P4,PObj.under->P5,pput->P6,ptset->P7,ptget->P8,pev->P9,ofAV->P10,ofAV1->P11,ppad->P12,pfill->P13,fF->P14,AO.effect->P15
open List renaming replicate->L1
section
variable {α:Type} [DecidableEq α]
variable {tab:FuncId->Option AF} (T:HasA tab)
include T
end
structure OkD (D:DF):Prop where
  v0:0<=D.vs
  v6:D.vs<=6
  n0:0<D.nx.length
  n1:D.nx.length<=4096
  f:D.fi.length=D.nx.length
  s0:0<=D.st
  s1:D.st<D.nx.length
  r:∀r∈D.nx,(r.length:Int)=2^D.vs.toNat/\∀t∈r,0<=t/\t<D.nx.length
theorem rowsD_zero {v n:Int} :∀{l:List (List Int)},uV v n l=0↔∀r∈l,(r.length:Int)=2^v.toNat/\∀t∈r,0<=t/\t<n
  | []=>by simp[uV]
  | r::l=>by
    unfold uV
    by_cases h1:(r.length:Int)=2^v.toNat
    · rw[if_pos h1]
      by_cases h2:XD n r=true
      · rw[if_pos h2]
        constructor
        · intro h;exact absurd h (by decide)
        · intro h
          unfold XD at h2
          obtain⟨t,h3,h4⟩:=List.any_eq_true.1 h2
          have:=(h r (by simp)).2 t h3
          simp only[decide_eq_true_eq]at h4
          omega
      · rw[if_neg h2,rowsD_zero]
        constructor
        · intro h x hx
          rcases List.mem_cons.1 hx with rfl | hx
          · refine⟨h1,fun t ht=>Classical.byContradiction fun q=>h2 ?_⟩
            exact List.any_eq_true.2 ⟨t,ht,by simp only[decide_eq_true_eq];omega⟩
          · exact h x hx
        · intro h x hx;exact h x (by simp[hx])
    · rw[if_neg h1]
      constructor
      · intro h;exact absurd h (by decide)
      · intro h;exact absurd (h r (by simp)).1 h1
theorem okD_iff {D:DF} :eY D=0↔OkD D:=by
  unfold eY
  constructor
  · intro h
    split at h;· exact absurd h (by decide)
    split at h;· exact absurd h (by decide)
    split at h;· exact absurd h (by decide)
    split at h;· exact absurd h (by decide)
    split at h;· exact absurd h (by decide)
    rename_i h1 h2 h3 h4 h5
    exact⟨by omega,by omega,by omega,by omega,by have:=Classical.not_not.1 h4;omega,by omega,by omega,rowsD_zero.1 h⟩
  · intro C
    have h1:=C.v0;have h2:=C.v6;have h3:=C.n0;have h4:=C.n1;have h5:=C.f;have h6:=C.s0;have h7:=C.s1
    rw[if_neg (by omega),if_neg (by omega),if_neg (by omega),if_neg (by omega),if_neg (by omega)]
    exact rowsD_zero.2 C.r
def uS (nx:List (List Int)) (s x:Int):Int:=(((nx[s.toNat]?).getD [])[x.toNat]?).getD 0
def fiD (D:DF) (s:Int):Bool:=(D.fi[s.toNat]?).getD false
theorem OkD.step {D:DF} (C:OkD D) {s x:Int} (s0:0<=s) (s1:s<D.nx.length) (x0:0<=x) (x1:x<2^D.vs.toNat):
    ∃r,D.nx[s.toNat]? =some r/\r[x.toNat]? =some (uS D.nx s x)/\x<r.length/\0<=uS D.nx s x/\uS D.nx s x<D.nx.length:=by
  obtain⟨r,g⟩:=dN (xs:=D.nx) (k:=s.toNat) (by omega)
  obtain⟨h1,h2⟩:=C.r r (List.mem_of_getElem? g)
  obtain⟨t,gt⟩:=dN (xs:=r) (k:=x.toNat) (by omega)
  have e:uS D.nx s x=t:=by unfold uS;rw[g];simp[gt]
  rw[e]
  exact⟨r,g,gt,by omega,h2 t (List.mem_of_getElem? gt)⟩
theorem OkD.run {D:DF} (C:OkD D):∀(w:List Int),(∀x∈w,0<=x/\x<2^D.vs.toNat)->∀s:Int,0<=s->s<D.nx.length->0<=w.foldl (uS D.nx) s/\w.foldl (uS D.nx) s<D.nx.length
  | [],_,s,h0,h1=>⟨h0,h1⟩
  | x::w,hw,s,h0,h1=>by
    have hx:=hw x (by simp)
    obtain⟨_,_,_,_,a,b⟩:=C.step h0 h1 hx.1 hx.2
    exact OkD.run C w (fun y hy=>hw y (by simp[hy])) _ a b
theorem OkD.fin {D:DF} (C:OkD D) {s:Int} (s0:0<=s) (s1:s<D.nx.length):D.fi[s.toNat]? =some (fiD D s)/\s<D.fi.length:=by
  obtain⟨b,g⟩:=dN (xs:=D.fi) (k:=s.toNat) (by have:=C.f;omega)
  exact⟨by unfold fiD;rw[g];rfl,by have:=C.f;omega⟩
section
variable {tab:FuncId->Option AF} (T:HasA tab)
include T
end
theorem DF.ext' {D D':DF} (h1:D.vs=D'.vs) (h2:D.st=D'.st) (h3:D.nx=D'.nx) (h4:D.fi=D'.fi):D=D':=by
  cases D;cases D';simp_all
section
variable {tab:FuncId->Option AF} (T:HasA tab)
include T
theorem OK {M:Mem} {K:PV->Mem->Prop} {f o:Bool} {xs:List Bool} (hm:xs.length<big) (hk:K (slB false true xs) M):
    SemC tab 38 [slB f o xs] M K:=by
  refine cP T.h38 (by simp only[PP,P1,P2,P14,P15,simprocAttr]) ?_
  have hb:xs.length<1000000000000:=hm
  have b1:xs.length<=140737488355328:=by omega
  have b2:xs.length<=9223372036854775807:=by omega
  simp only[af38,PP,P1,P2,P14,P15,simprocAttr,b1,b2]
  exact hk
theorem WR {M:Mem} {K:PV->Mem->Prop} {f1 o1 f2 o2 f3 o3 e1 p1 e2 p2 e3 p3:Bool} {D D':DF} (B:BnD D) (hk:∀b:Bool,(b=true↔D=D')->K (.bool b) M):
    SemC tab 32 [.agg (dfC f1 o1 f2 o2 f3 o3 D),.agg (dfC e1 p1 e2 p2 e3 p3 D')] M K:=by
  refine cP T.h32 (by simp only[PP,P1,P2,P14,P15,simprocAttr]) ?_
  simp only[af32,PP,P1,P2,P14,P15,simprocAttr]
  have no:¬(D=D')->K (.bool false) M:=fun h=>hk false ⟨fun h=>by(cases h),fun e=>absurd e h⟩
  refine QIf.intro (fun c1=>?_) (fun c1=>?_)
  rotate_left
  · simp only[PP,P1,P2,P14,P15,simprocAttr,c1]
    exact no (by rintro rfl;exact c1 rfl)
  simp only[PP,P1,P2,P14,P15,simprocAttr,c1]
  by_cases c2:D.st=D'.st
  rotate_left
  · simp only[PP,P1,P2,P14,P15,simprocAttr,c2]
    exact no (by rintro rfl;exact c2 rfl)
  simp only[PP,P1,P2,P14,P15,simprocAttr,c2]
  refine mG T B.n B.r ?_
  by_cases c3:D.nx=D'.nx
  rotate_left
  · simp only[PP,P1,P2,P14,P15,simprocAttr,c3]
    exact no (by rintro rfl;exact c3 rfl)
  simp only[PP,P1,P2,P14,P15,simprocAttr,c3]
  refine IR T B.f ?_
  by_cases c4:D.fi=D'.fi
  rotate_left
  · simp only[PP,P1,P2,P14,P15,simprocAttr,c4]
    exact no (by rintro rfl;exact c4 rfl)
  simp only[PP,P1,P2,P14,P15,simprocAttr,c4]
  exact hk true ⟨fun _=>DF.ext' c1 c2 c3 c4,fun _=>rfl⟩
end
def pF (D:DF) (a x:Nat):Nat:=(uS D.nx a x).toNat
abbrev nB (D:DF):Nat:=2^D.vs.toNat
theorem OkD.delta {D:DF} (C:OkD D) {a x:Nat} (ha:a<D.nx.length) (hx:x<nB D):∃r,D.nx[a]? =some r/\r[x]? =some ((pF D a x:Nat):Int)/\(x:Int)<r.length/\pF D a x<D.nx.length:=by
  have hx':(x:Int)<2^D.vs.toNat:=by
    have:((x:Nat):Int)<((2^D.vs.toNat:Nat):Int):=by exact_mod_cast hx
    simpa using this
  obtain⟨r,g1,g2,g3,g4,g5⟩:=C.step (s:=a) (x:=x) (by omega) (by omega) (by omega) hx'
  simp only[Int.toNat_natCast]at g1 g2
  refine⟨r,g1,?_,g3,?_⟩
  · rw[g2];unfold pF;congr 1;omega
  · unfold pF;omega
section
variable {tab:FuncId->Option AF} (T:HasA tab)
include T
end
theorem OkD.small {D:DF} (C:OkD D) (k:Nat):(f0 (pF D) (nB D) D.st.toNat k).length<=D.nx.length:=
  qO _ _ (lW _ _ _ k) (sT (Dm:=fun a=>a<D.nx.length) (by have:=C.s0;have:=C.s1;omega) (fun a x ha hx=>(C.delta ha hx).choose_spec.2.2.2) k)
theorem OkD.below {D:DF} (C:OkD D) (k:Nat):∀a∈f0 (pF D) (nB D) D.st.toNat k,a<D.nx.length:=
  sT (Dm:=fun a=>a<D.nx.length) (by have:=C.s0;have:=C.s1;omega) (fun a x ha hx=>(C.delta ha hx).choose_spec.2.2.2) k
theorem OkD.row {D:DF} (C:OkD D) {a:Nat} (ha:a<D.nx.length):∃r,D.nx[a]? =some r/\r.length=nB D/\∀x,x<nB D->r[x]? =some ((pF D a x:Nat):Int)/\pF D a x<D.nx.length:=by
  obtain⟨r,g⟩:=dN ha
  have h1:=(C.r r (List.mem_of_getElem? g)).1
  have h2:((nB D:Nat):Int)=2^D.vs.toNat:=by simp
  refine⟨r,g,by omega,fun x hx=>?_⟩
  obtain⟨r',g1,g2,g3,g4⟩:=C.delta ha hx
  rw[g]at g1;cases g1
  exact⟨g2,g4⟩
section
variable {tab:FuncId->Option AF} (T:HasA tab)
include T
end
section
variable {α β:Type} [DecidableEq α] [DecidableEq β]
end
abbrev dK (N:NF):Nat:=2^N.vs.toNat
def dR (N:NF) (a:BitVec 64) (x:Nat):BitVec 64:=(oF N.es x).foldl (fun acc e=>if a.getLsbD e.fr.toNat=true then acc||| BitVec.twoPow 64 e.to.toNat else acc) 0#64
theorem IK (a:BitVec 64) (k:Nat):∀(l:List Eg) (acc:BitVec 64),(∀e∈l,0<=e.to/\e.to<64)->
    ((l.foldl (fun acc e=>if a.getLsbD e.fr.toNat=true then acc||| BitVec.twoPow 64 e.to.toNat else acc) acc).getLsbD k=true↔acc.getLsbD k=true\/∃e∈l,a.getLsbD e.fr.toNat=true/\e.to=k)
  | [],acc,_=>by simp
  | e::l,acc,h=>by
    have he:=h e (by simp)
    rw[List.foldl_cons,IK a k l _ fun e he=>h e (by simp[he])]
    by_cases c:a.getLsbD e.fr.toNat=true
    · rw[if_pos c,BitVec.getLsbD_or,Bool.or_eq_true,BitVec.getLsbD_twoPow,Bool.and_eq_true,decide_eq_true_eq,decide_eq_true_eq]
      constructor
      · rintro((h1 | ⟨h1,h2⟩) | ⟨e',h1,h2⟩)
        · exact .inl h1
        · exact .inr ⟨e,by simp,c,by omega⟩
        · exact .inr ⟨e',by simp[h1],h2⟩
      · rintro(h1 | ⟨e',h1,h2,h3⟩)
        · exact .inl (.inl h1)
        · rcases List.mem_cons.1 h1 with rfl | h1
          · exact .inl (.inr ⟨by omega,by omega⟩)
          · exact .inr ⟨e',h1,h2,h3⟩
    · rw[if_neg c]
      constructor
      · rintro(h1 | ⟨e',h1,h2⟩)
        · exact .inl h1
        · exact .inr ⟨e',by simp[h1],h2⟩
      · rintro(h1 | ⟨e',h1,h2,h3⟩)
        · exact .inl h1
        · rcases List.mem_cons.1 h1 with rfl | h1
          · exact absurd h2 c
          · exact .inr ⟨e',h1,h2,h3⟩
theorem VN {es:List Eg} {x:Nat} {e:Eg} (h:e∈oF es x):e∈es:=(List.mem_filter.1 h).1
theorem zM {N:NF} (C:NOk N) (a:BitVec 64) (x k:Nat):(dR N a x).getLsbD k=true↔∃e∈oF N.es x,a.getLsbD e.fr.toNat=true/\e.to=k:=by
  unfold dR
  rw[IK a k _ _ fun e he=>by have:=C.ed e (VN he);have:=C.n64;omega]
  simp
structure RB (s:Wd) (a:BitVec 64):Prop where
  len:s.length<=64
  lt:∀k,bit s k=true->k<64
  at0:wAt s 0=a
theorem RB.bit {s:Wd} {a:BitVec 64} (h:RB s a) (k:Nat):bit s k=a.getLsbD k:=by
  by_cases hk:k<64
  · unfold Ar.bit
    rw[show k / 64=0 by omega,show k % 64=k by omega,h.at0]
  · rw[BitVec.getLsbD_of_ge _ _ (by omega)]
    cases hb:Ar.bit s k with
    | false=>rfl
    | true=>exact absurd (h.lt k hb) hk
theorem RB.mk' {s:Wd} {a:BitVec 64} (hl:s.length<=64) (h:∀k,Ar.bit s k=true↔a.getLsbD k=true):RB s a:=by
  have lt:∀k,Ar.bit s k=true->k<64:=fun k hk=>by
    refine Classical.byContradiction fun q=>?_
    have:=(h k).1 hk
    rw[BitVec.getLsbD_of_ge _ _ (by omega)]at this;cases this
  refine⟨hl,lt,BitVec.eq_of_getLsbD_eq fun i hi=>?_⟩
  have:=h i
  unfold Ar.bit at this
  rw[show i / 64=0 by omega,show i % 64=i by omega]at this
  exact Bool.eq_iff_iff.2 this
theorem RB.next {N:NF} (C:NOk N) {s o:Wd} {a:BitVec 64} {x:Nat} (h:RB s a) (ho:aD0 N.es s x o):RB o (dR N a x):=by
  refine .mk' ho.1 fun k=>?_
  rw[ho.2,zM C]
  simp only[h.bit]
def fA (N:NF):BitVec 64:=wAt (faW N.st) 0
theorem TO {N:NF} (C:NOk N):RB (faW N.st) (fA N):=by
  obtain⟨_,h2,h3⟩:=aBC C C.st
  refine⟨h2,fun k hk=>?_,rfl⟩
  rw[h3,decide_eq_true_eq]at hk
  have:=lS C.st _ hk
  have:=C.n64
  omega
theorem nW {N:NF} (C:NOk N) (k:Nat):(fA N).getLsbD k=true↔(k:Int)∈N.st:=by
  obtain⟨_,_,h3⟩:=aBC C C.st
  rw[<-(TO C).bit,h3,decide_eq_true_eq]
def E0 (N:NF) (a:BitVec 64):Bool:=N.fi.any fun q=>a.getLsbD q.toNat
def gZ (o:List (BitVec 64)):List (List Int):=o.map fun a=>EL (oP a)
theorem S5 {vs:Int} {x:Nat} (h:x<2^vs.toNat):NC vs [(x:Int)]=0:=by
  have h':¬(2:Int)^vs.toNat<=x:=by
    have:((2^vs.toNat:Nat):Int)=2^vs.toNat:=by simp
    omega
  unfold NC
  rw[if_neg (by simp),if_neg (by simp[h'])]
theorem NOk.let64 {N:NF} (C:NOk N):dK N<=64:=G2 C.v6
section
variable {tab:FuncId->Option AF} (T:HasA tab)
include T
end
def aDi (o:Wd):Prop:=o=[]\/wAt o (o.length-1)≠0#64
def iB (a:BitVec 64):Wd:=if a=0#64 then [] else [a]
theorem RB.one {o:Wd} {a:BitVec 64} (h:RB o a) (hc:aDi o):o=iB a:=by
  have hz:∀i,0<i->wAt o i=0#64:=fun i hi=>BitVec.eq_of_getLsbD_eq fun j hj=>by
    cases hx:(wAt o i).getLsbD j with
    | false=>simp
    | true=>
      have:Ar.bit o (64*i+j)=true:=by
        unfold Ar.bit
        rw[show(64*i+j) / 64=i by omega,show(64*i+j) % 64=j by omega];exact hx
      have:=h.lt _ this
      omega
  have h0:=h.at0
  unfold iB
  rcases hc with rfl | ht
  · have e:wAt ([]:Wd) 0=0#64:=lM (by simp)
    rw[e]at h0
    rw[if_pos h0.symm]
  · have hl:o.length-1=0:=Classical.byContradiction fun q=>ht (hz _ (by omega))
    rw[hl,h0]at ht
    rw[if_neg ht]
    match o,hl with
    | [],_=>
      have e:wAt ([]:Wd) 0=0#64:=lM (by simp)
      rw[e]at h0;exact absurd h0.symm ht
    | [x],_=>rw[<-h0];rfl
    | x::y::l,h=>simp at h
theorem Z4 (a:BitVec 64):RB (iB a) a:=by
  unfold iB
  by_cases h:a=0#64
  · rw[if_pos h]
    exact⟨by simp,fun k hk=>by simp[Ar.bit,wAt]at hk,by rw[h];rfl⟩
  · rw[if_neg h]
    refine⟨by simp,fun k hk=>?_,rfl⟩
    refine Classical.byContradiction fun q=>?_
    have:wAt [a] (k / 64)=0#64:=lM (by simp;omega)
    unfold Ar.bit at hk
    rw[this]at hk
    simp at hk
theorem U3 (a:BitVec 64):(iB a).length<=1:=by
  unfold iB
  split<;>simp
def kW (a:BitVec 64):ByteArray:=⟨(Key.keyT ((iB a).map (·.toNat))).toArray⟩
section
variable {tab:FuncId->Option AF} (T:HasA tab)
include T
set_option maxHeartbeats 1000000 in
theorem aCS {M:Mem} {K:PV->Mem->Prop} {f1 o1 f2 o2 f3 o3 f4 o4:Bool} {N:NF} {s:Wd} {x:Nat} (C:NOk N) (B:BnN N) (hs:s.length<=64) (hx:x<256) (hk:∀o,aD0 N.es s x o->aDi o->K (slW false true o) M):
    SemC tab 144 [.agg (nfC f1 o1 f2 o2 f3 o3 N),slW f4 o4 s,p8 x] M K:=by
  have n64:=C.n64
  refine fB T.h144 (by simp only[PP,P1,P2,P14,P15,simprocAttr,eC]) ?_
  simp only[af144]
  refine bS (bR ?_)
  simp only[PP,P1,P2,P14,P15,simprocAttr]
  refine eB (GStep.freezeP (b:=(.junk:: .junk::p8 x:: .cp (nfC f1 o1 f2 o2 f3 o3 N) 0:: .ptr 1 0 0:: .junk:: .ptr 2 0 0::zj 14)) 0 (Nat.zero_le _) rfl (by simp only[kJ,kK,List.cons_append,List.nil_append,f9,fR,fQ,f8]) rfl) ?_
  refine eB (GStep.freezeP (b:=(.junk:: .junk::p8 x:: .cp (nfC f1 o1 f2 o2 f3 o3 N) 0:: .cp [slW f4 o4 s] 0:: .junk:: .ptr 2 0 0::zj 14)) 1 (Nat.zero_le _) rfl (by simp only[kJ,kK,List.cons_append,List.nil_append,f9,fR,fQ,f8]) rfl) ?_
  refine eB (GStep.wkC (v':=slW false true []) 2 0 rfl (fun v h=>by cases h;exact PvWk.nils _ _ _) rfl) ?_
  refine bR ?_
  simp only[PP,P1,P2,P14,P15,simprocAttr]
  refine LD T ?_
  simp only[PP,P1,P2,P14,P15,simprocAttr]
  refine dB (b:=(zj 4++ .cp [slW f4 o4 s] 0:: .junk:: .ptr 2 0 0::zj 3++ .func (.func 213) [] [.cp (nfC f1 o1 f2 o2 f3 o3 N) 0,.cp [p8 x] 0]::zj 10)) ?_ (by simp only[PW])
  refine pH rfl (fun lp q1 q2 q3 q4 q5 q6=>?_)
  simp only[PP,P1,P2,P14,P15,simprocAttr]
  refine VM T (L:=3) hx B.e B.b (fun k G=>∃ver v o Gs,G=[.gone,.gone,.cells 0 v [slW false true o],.loop ver lp]++Gs/\(o.length<=64/\aDi o)/\∀j:Nat,bit o j=true↔∃e∈(oF N.es x).take k,bit s e.fr.toNat=true/\e.to=j)
    ⟨0,0,[],[],rfl,⟨by simp,.inl rfl⟩,fun j=>by simp[bit,wAt]⟩ ?_ ?_ ?_ ?_
  · rintro k G o ⟨ver,v,o',Gs,rfl,h⟩
    exact⟨ver,v,o',Gs++[o],by simp only[List.append_assoc],h⟩
  · rintro k G ⟨ver,v,o',Gs,rfl,h⟩
    exact⟨ver,lp,rfl⟩
  · rintro k G e ⟨ver,v,o,Gs,rfl,⟨ho,hco⟩,hb⟩ hat K' hK'
    refine AE (ver:=ver) (r:=lp) rfl (by rw[q4];rfl) ?_
    rw[q3,q4,q5]
    refine bR ?_
    simp only[mA,PP,P1,P2,P14,P15,simprocAttr,List.append_assoc,gk,gk0,sk,sk0]
    have hlp:∀B,lp.body=B->(⟨.ready,none,lp.tmps,lp.params,lp.assign,B⟩:PLoop)=lp:=fun B hB=>by cases lp;simp_all
    refine⟨ver,lp,rfl,q1,?_⟩
    rw[q6]
    refine bR ?_
    have hem:=List.mem_of_getElem? hat
    have hen:e∈N.es:=(List.mem_filter.1 hem).1
    obtain⟨e1,e2,e3,e4,_⟩:=C.ed e hen
    have hfr:e.fr=((e.fr.toNat:Nat):Int):=by omega
    have hto:e.to=((e.to.toNat:Nat):Int):=by omega
    have nxt:∀o':Wd,(∀j:Nat,bit o' j=true↔(bit o j=true\/(bit s e.fr.toNat=true/\e.to=j)))->∀j:Nat,bit o' j=true↔∃e∈(oF N.es x).take (k+1),bit s e.fr.toNat=true/\e.to=j:=fun o' h j=>by
      rw[h,hb,List.take_add_one,hat]
      simp only[Option.toList_some,List.mem_append,List.mem_singleton]
      constructor
      · rintro(⟨z,h1,h2⟩ | h)
        · exact⟨z,.inl h1,h2⟩
        · exact⟨e,.inr rfl,h⟩
      · rintro⟨z,h1 | rfl,h2⟩
        · exact .inl ⟨z,h1,h2⟩
        · exact .inr h2
    simp only[PP,P1,P2,P14,P15,simprocAttr,List.append_assoc,gk,gk0,sk,sk0]
    rw[show PV.int .i64 e.fr=p64 ((e.fr.toNat:Nat):Int) by rw[<-hfr]]
    refine aAM T hs (by omega) ?_
    cases hbit:bit s e.fr.toNat with
    | false=>
      simp only[PP,P1,P2,P14,P15,simprocAttr,List.append_assoc,gk,gk0,sk,sk0]
      refine⟨ver+1,_,rfl,?_⟩
      rw[if_pos rfl]
      refine hK' _ ⟨ver+1+1,v,o,Gs++[.cells 0 1 (egC e)],?_,⟨ho,hco⟩,nxt o fun j=>by rw[hbit];simp⟩
      simp only[PP,P1,P2,P14,P15,simprocAttr,List.append_assoc,gk,gk0,sk,sk0,hlp _ q6,<-hfr]
    | true=>
      simp only[PP,P1,P2,P14,P15,simprocAttr,List.append_assoc,gk,gk0,sk,sk0]
      rw[show PV.int .i64 e.to=p64 ((e.to.toNat:Nat):Int) by rw[<-hto]]
      refine aBL T (by show _<1000000000000;omega) (by omega) ?_
      obtain⟨w1,w2⟩:=W8 (k:=e.to.toNat) ho (by omega)
      simp only[PP,P1,P2,P14,P15,simprocAttr,List.append_assoc,gk,gk0,sk,sk0]
      refine⟨ver+1,_,rfl,?_⟩
      rw[if_pos rfl]
      refine hK' _ ⟨ver+1+1,v+1,rG o e.to.toNat,Gs++[.cells 0 1 (egC e)],?_,⟨w1,TH _⟩,nxt _ fun j=>?_⟩
      · simp only[PP,P1,P2,P14,P15,simprocAttr,List.append_assoc,gk,gk0,sk,sk0,hlp _ q6,<-hfr,<-hto]
      · rw[w2,Bool.or_eq_true,decide_eq_true_eq,hbit]
        constructor
        · rintro(h | h)
          · exact .inl h
          · exact .inr ⟨rfl,by omega⟩
        · rintro(h | ⟨_,h⟩)
          · exact .inl h
          · exact .inr (by omega)
  · rintro G ⟨ver,v,o,Gs,rfl,⟨ho,hco⟩,hb⟩
    refine⟨ver,lp,rfl,by rw[q1];exact(by intro h;cases h),?_⟩
    rw[q2]
    simp only[PP,P1,P2,P14,P15,simprocAttr,List.append_assoc,gk,gk0,sk,sk0]
    rw[List.take_of_length_le (Nat.le_refl _)]at hb
    exact hk o ⟨ho,hb⟩ hco
theorem Q6 {M:Mem} {K:PV->Mem->Prop} {f1 o1 f2 o2 f3 o3 f4 o4:Bool} {N:NF} {a:BitVec 64} {x:Nat} (hc:fZ N=0) (B:BnN N) (hx:x<dK N) (hk:K (.tuple [slW false true (iB (dR N a x)),p64 0]) M):
    SemC tab 83 [.agg (nfC f1 o1 f2 o2 f3 o3 N),slW f4 o4 (iB a),p8 x] M K:=by
  have C:=lU hc
  have h64:=C.let64
  have hr:=Z4 a
  refine cP T.h83 (by simp only[PP,P1,P2,P14,P15,simprocAttr,eC]) ?_
  simp only[af83,PP,P1,P2,P14,P15,simprocAttr]
  refine B4 T B ?_
  simp only[PP,P1,P2,P14,P15,simprocAttr,hc]
  refine aBK T (w:=[(x:Int)]) C (fun y hy=>by simp at hy;subst hy;omega) (by simp) ?_
  rw[S5 hx]
  simp only[PP,P1,P2,P14,P15,simprocAttr]
  refine aCS T C B hr.len (by omega) fun o ho hco=>?_
  rw[(hr.next C ho).one hco]
  simp only[PP,P1,P2,P14,P15,simprocAttr]
  exact hk
end
section
variable {tab:FuncId->Option AF}
theorem lK {g:FuncId} {F:List AV->H->Option AV} (hg:tab g=some (.prim (eE F))) {args:List PV} {M:Mem} {K:PV->Mem->Prop} {r:PV}
    (h:∀w hh args',PSt w hh M->RepL w args args'->∃v,F args' hh=some v/\RepV w r v) (hk:K r M):SemC tab g args M K:=by
  intro w hh args' h0 s ha
  obtain⟨v,hv,hr⟩:=h w hh args' s ha
  unfold C
  refine⟨v,hh,?_,w,r,M,PStp.refl (Nat.le_refl _) w hh,s,hr,hk⟩
  rw[sH]
  simp only[iV,hg,eE,hv]
theorem n8 {w:PWd} {s:ByteArray} {x:AV} (h:RepV w (.str s) x):x= .str s:=by cases h;rfl
theorem CD {w:PWd} :∀{l:List (BitVec 64)} {l':List AV},RepL w ((wI l).map (PV.int .u64)) l'->Key.wordsOf l'=some (l.map (·.toNat))
  | [],[],h=>rfl
  | [],_::_,h=>by have:=h.len;simp[wI]at this
  | _::_,[],h=>by have:=h.len;simp[wI]at this
  | a::l,x::l',h=>by
    have h1:=fT h.hd
    subst h1
    have h2:=CD (l:=l) h.tl
    have hlt:=a.isLt
    unfold Key.wordsOf
    rw[h2]
    simp only[List.map_cons]
    rw[if_pos ⟨by omega,by omega⟩]
    simp
theorem GW {w:PWd} :∀{l:List ByteArray} {l':List AV},RepL w (l.map PV.str) l'->gE l'=some l
  | [],[],h=>rfl
  | [],_::_,h=>by have:=h.len;simp at this
  | _::_,[],h=>by have:=h.len;simp at this
  | a::l,x::l',h=>by
    have h1:=n8 h.hd
    subst h1
    have h2:=GW (l:=l) h.tl
    unfold gE
    rw[h2]
end
def OC (n:Int):ByteArray:=⟨(ID n).toArray⟩
section
variable {tab:FuncId->Option AF} (T:HasA tab)
include T
theorem aAn {M:Mem} {K:PV->Mem->Prop} {n:Int} (h0: -9223372036854775808<=n) (h1:n<=9223372036854775807) (hk:K (.str (OC n)) M):SemC tab 106 [p64 n] M K:=by
  refine lK T.itoa (fun w hh args' s ha=>?_) hk
  match args',ha with
  | [v],ha=>
    have:=fT ha.hd
    subst this
    exact⟨.str (OC n),by unfold itoaF;simp only;rw[if_pos ⟨h0,h1⟩];rfl,.str _⟩
theorem aAS {M:Mem} {K:PV->Mem->Prop} {t:ByteArray} {n:Int} (h0:t.size<=9223372036854775806) (h1:Lib.atoiAll t.data.toList= .ok n) (hk:K (.tuple [p64 n,.niliface]) M):SemC tab 132 [.str t] M K:=by
  refine lK T.atoi (fun w hh args' s ha=>?_) hk
  match args',ha with
  | [v],ha=>
    have:=n8 ha.hd
    subst this
    refine⟨.tuple [.int .i64 n,.niliface],by show(if _ then _ else _)=_;rw[if_pos h0,h1],?_⟩
    have:=RepL.cons (RepV.int (w:=w) .i64 n) (.cons .niliface (.nil w))
    exact .tuple this.len this.get
theorem aCC {M:Mem} {K:PV->Mem->Prop} {n:Nat} (h:n<18446744073709551616) (hk:K (.str ⟨(dig 20 n).toArray⟩) M):SemC tab 131 [.int .u64 n,p64 10] M K:=by
  refine lK T.fmt (fun w hh args' s ha=>?_) hk
  match args',ha with
  | [v,v2],ha=>
    have:=fT ha.hd
    subst this
    have:=fT ha.tl.hd
    subst this
    have h':(n:Int)<18446744073709551616:=by omega
    refine⟨.str ⟨(dig 20 n).toArray⟩,?_,.str _⟩
    unfold Proofs.YtapbgleednkimaaGreatDoor.Fmt.fmtF
    simp only
    rw[if_pos ⟨trivial,by omega,h'⟩]
    rfl
theorem TJ {M:Mem} {K:PV->Mem->Prop} {a t:ByteArray} {x y k:Int} (h:t.size<=281474976710656) (hkk:k=1\/k=2) (hk:∀t2,K (.iface t2 Zj) M):
    SemC tab 172 [.str a,.str t,p64 x,p64 y,.iface (Proofs.YtapbgleednkimaaGreatDoor.Lay.renNm.t 167) (p64 k)] M K:=by
  refine lK (r:= .iface (Proofs.YtapbgleednkimaaGreatDoor.Lay.renNm.t 168) .junk) T.toErr (fun w hh args' s ha=>?_) (hk _)
  match args',ha with
  | [v1,v2,v3,v4,v5],ha=>
    have:=n8 ha.hd
    subst this
    have:=n8 ha.tl.hd
    subst this
    have:=fT ha.tl.tl.hd
    subst this
    have:=fT ha.tl.tl.tl.hd
    subst this
    have h5:=ha.tl.tl.tl.tl.hd
    match v5,h5 with
    | _,.iface h6=>
      have:=fT h6
      subst this
      refine⟨.iface (Proofs.YtapbgleednkimaaGreatDoor.Lay.renNm.t 168) .junk,?_,.iface (.junk _)⟩
      show(if _ then _ else _)=_
      rw[if_pos ⟨h,rfl,hkk⟩]
theorem LW {M:Mem} {K:PV->Mem->Prop} {f o:Bool} {a:BitVec 64} (hk:K (.str (kW a)) M):SemC tab 155 [slW f o (iB a)] M K:=by
  refine lK T.key (fun w hh args' s ha=>?_) hk
  match args',ha with
  | [v],ha=>
    have hl:=U3 a
    rcases n9 s ha.hd with⟨rfl,h1,h2⟩ | ⟨fl',b,off,ver,rw,bcs,rfl,_,e1,e2,e3,e4,e5,_⟩
    · refine⟨_,rfl,?_⟩
      have:iB a=[]:=List.length_eq_zero_iff.1 h1
      unfold kW
      rw[this];exact .str _
    · by_cases hz:(iB a).length=0
      · refine⟨_,by show(if _ then _ else _)=_;rw[if_pos hz],?_⟩
        have:iB a=[]:=List.length_eq_zero_iff.1 hz
        unfold kW
        rw[this];exact .str _
      · refine⟨.str (kW a),?_,.str _⟩
        show(if _ then _ else _)=_
        rw[if_neg hz,if_pos ⟨rfl,by omega⟩]
        have hgc:dZ hh b off (iB a).length=some ((bcs.drop off).take (iB a).length):=by
          unfold dZ
          rw[e2]
          simp only
          rw[if_pos (by rw[<-Nat.mul_one (iB a).length,<-e4];exact e3)]
        rw[hgc]
        have hc:((wI (iB a)).map (PV.int .u64)).length=(iB a).length:=by simp[wI]
        rw[hc]at e5
        have:=CD e5
        simp only[this]
        rfl
theorem aAm {M:Mem} {K:PV->Mem->Prop} {id g ver:Nat} {xs:List ByteArray} {sep:ByteArray} (hM:M[id]? =some (.cells g ver (xs.map PV.str))) (h1:xs.length<=140737488355328)
    (h2:(Lib.join (xs.map (·.data.toList)) sep.data.toList).length<=140737488355328) (hk:K (.str ⟨(Lib.join (xs.map (·.data.toList)) sep.data.toList).toArray⟩) M):SemC tab 63 [.ref id g 1 0 xs.length,.str sep] M K:=by
  refine lK T.join (fun w hh args' s ha=>?_) hk
  match args',ha with
  | [v,v2],ha=>
    have:=n8 ha.tl.hd
    subst this
    obtain⟨e,q1,q2,q3⟩:=s.refAt hM ha.hd
    rcases q3 with⟨rfl,h0,_,_,hcs⟩ | ⟨fl,b,bcs,rfl,p1,p2,p3,p4⟩
    · have:xs=[]:=by simpa using hcs
      subst this
      exact⟨_,rfl,.str _⟩
    · by_cases hz:xs.length=0
      · refine⟨_,by show(if _ then _ else _)=_;rw[if_pos hz],?_⟩
        have:xs=[]:=List.length_eq_zero_iff.1 hz
        subst this
        exact .str _
      · refine⟨_,?_,.str _⟩
        show(if _ then _ else _)=_
        rw[if_neg hz,if_pos rfl]
        have hgc:dZ hh b 0 xs.length=some bcs:=by
          unfold dZ
          rw[p2]
          have:=p3.len
          rw[List.length_map]at this
          simp only
          rw[if_pos (by omega),List.drop_zero,List.take_of_length_le (by omega)]
        rw[hgc]
        have:=GW p3
        simp only[this]
        rw[if_pos ⟨h1,h2⟩]
theorem TU {M:Mem} {K:PV->Mem->Prop} {t:ByteArray} {c:UInt8} (h:t.size<4294967281) (hk:K (.sl true true 1 (eA c t.data.toList).length ((eA c t.data.toList).map fun l=> .str ⟨l.toArray⟩)) M):
    SemC tab 70 [.str t,.str ⟨#[c]⟩] M K:=by
  intro w hh args' h0 s ha
  match args',ha with
  | [v,v2],ha=>
    have:=n8 ha.hd
    subst this
    have:=n8 ha.tl.hd
    subst this
    have hF:splitF [.str t,.str ⟨#[c]⟩] hh=some ((eA c t.data.toList).map fun l=> .str ⟨l.toArray⟩):=by
      show(if _ then _ else _)=_
      rw[if_pos h]
    unfold C
    obtain⟨s1,s2,s3⟩:=s.allocImm (.cells 0 true ((eA c t.data.toList).map fun l=> .str ⟨l.toArray⟩))
    refine⟨.slice true 1 hh.next 0 ((eA c t.data.toList).map fun l=>AV.str ⟨l.toArray⟩).length,_,?_,_,_,M,s2,s1,?_,hk⟩
    · rw[sH]
      simp only[iV,T.split,oB,hF]
    · rw[List.length_map]
      refine .sl s3 (by simp) (by simp) (fun _ _=>rfl) (fun _=>⟨s.base,rfl⟩) (fun q=>by cases q) (fun i y z q1 q2=>?_)
      rw[Nat.zero_add]at q2
      rw[List.getElem?_map]at q1 q2
      cases hb:(eA c t.data.toList)[i]? with
      | none=>rw[hb]at q1;cases q1
      | some b=>rw[hb]at q1 q2;cases q1;cases q2;exact .str _
end
theorem K3 {a:BitVec 64} {k:Nat} (h:k<64):eI .shr (o6 a) (p64 k)=some (o6 (a>>>k)):=by
  have h1:¬((k:Int)<0):=by omega
  have h2:min ((k:Int).toNat) 64=k:=by omega
  have h3:((a.toNat:Nat):Int).fdiv (2^k)=(((a>>>k).toNat:Nat):Int):=by
    rw[Int.fdiv_eq_ediv_of_nonneg _ (by exact Int.pow_nonneg (by omega)),BitVec.toNat_ushiftRight,Nat.shiftRight_eq_div_pow]
    simp
  simp only[eI,eJ,gW,eF,sS,IntKind.bits,h1,h2,if_true,if_false,h3,Option.map_some,ofAV1]
theorem aAN (a:BitVec 64) (k:Nat):((((a>>>k)&&& 1#64).toNat:Nat):Int)=if a.getLsbD k=true then 1 else 0:=by
  have h:(a>>>k)&&& 1#64=if a.getLsbD k=true then 1#64 else 0#64:=by
    refine BitVec.eq_of_getLsbD_eq fun i hi=>?_
    by_cases hk:a.getLsbD k=true
    · rw[if_pos hk,BitVec.getLsbD_and,BitVec.getLsbD_ushiftRight]
      by_cases h0:i=0
      · subst h0;simp[hk]
      · have:(1#64).getLsbD i=false:=by
          rw[BitVec.getLsbD_one]
          simp[h0]
        rw[this];simp
    · rw[if_neg hk,BitVec.getLsbD_and,BitVec.getLsbD_ushiftRight]
      by_cases h0:i=0
      · subst h0;simp at hk;simp[hk]
      · have:(1#64).getLsbD i=false:=by
          rw[BitVec.getLsbD_one]
          simp[h0]
        rw[this];simp
  rw[h]
  split<;>rfl
def nL (a:BitVec 64) (k:Nat):List Nat:=(List.range k).filter fun j=>a.getLsbD j
theorem LX (a:BitVec 64) (k:Nat):nL a (k+1)=nL a k++if a.getLsbD k=true then [k] else []:=by
  unfold nL
  rw[List.range_succ,List.filter_append]
  congr 1
  by_cases h:a.getLsbD k=true<;>simp[h]
theorem R4 (a:BitVec 64) (k:Nat):(nL a k).length<=k:=by
  unfold nL;exact Nat.le_trans (List.length_filter_le _ _) (by simp)
def orB (l:List Nat):BitVec 64:=l.foldl (fun w k=>w||| BitVec.twoPow 64 k) 0#64
theorem UX (l:List Nat) (k:Nat):orB (l++[k])=orB l||| BitVec.twoPow 64 k:=by unfold orB;rw[List.foldl_append];rfl
theorem UY (k:Nat):∀(l:List Nat) (w:BitVec 64),(∀x∈l,x<64)->((l.foldl (fun w k=>w||| BitVec.twoPow 64 k) w).getLsbD k=true↔w.getLsbD k=true\/k∈l)
  | [],w,_=>by simp
  | x::l,w,h=>by
    have hx:=h x (by simp)
    rw[List.foldl_cons,UY k l _ fun y hy=>h y (by simp[hy]),BitVec.getLsbD_or,Bool.or_eq_true,BitVec.getLsbD_twoPow,Bool.and_eq_true,decide_eq_true_eq,decide_eq_true_eq,List.mem_cons]
    constructor
    · rintro((h1 | ⟨h1,h2⟩) | h1)
      · exact .inl h1
      · exact .inr (.inl h2.symm)
      · exact .inr (.inr h1)
    · rintro(h1 | h1 | h1)
      · exact .inl (.inl h1)
      · exact .inl (.inr ⟨by omega,h1.symm⟩)
      · exact .inr h1
theorem ZY {l:List Nat} (h:∀x∈l,x<64) (k:Nat):(orB l).getLsbD k=true↔k∈l:=by
  unfold orB;rw[UY k l _ h];simp
theorem CK {N:NF} (C:NOk N):∀q∈N.st,0<=q/\q<64:=fun q hq=>by
  have:=lS C.st q hq
  have:=C.n64
  omega
theorem Q3 {N:NF} (C:NOk N):orB (N.st.map Int.toNat)=fA N:=by
  have h:=CK C
  refine BitVec.eq_of_getLsbD_eq fun i hi=>?_
  rw[Bool.eq_iff_iff,ZY (fun x hx=>by obtain⟨q,hq,rfl⟩:=List.mem_map.1 hx;have:=h q hq;omega),nW C]
  constructor
  · intro hx
    obtain⟨q,hq,e⟩:=List.mem_map.1 hx
    have:=h q hq
    rw[show(i:Int)=q by omega];exact hq
  · intro hx
    exact List.mem_map.2 ⟨i,hx,by simp⟩
theorem sX {tab:FuncId->Option AF} {g:FuncId} {args:List PV} {M:Mem} {K:PV->Mem->Prop} (hb:cE 0 args=true) (hc:SemC tab g args [] fun r M'=>∃r',jF 0 M' r=some r'/\K r' M):SemC tab g args M K:=rF hb hc
section
variable {tab:FuncId->Option AF} (T:HasA tab)
include T
theorem nK {M:Mem} {K:PV->Mem->Prop} {f o:Bool} {xs:List Int} (hm:xs.length<big) (hk:K (slI false true .i64 xs) M):SemC tab 59 [slI f o .i64 xs] M K:=by
  refine sX (by simp only[PP,P1,P2,P14,P15,simprocAttr]) (WZ T hm fun g v=>⟨slI false true .i64 xs,?_,hk⟩)
  simp only[jF,fM]
  rw[oD (ver:=v) (Nat.zero_le _) rfl (by simp) (dI _ _ _),dQ _ _ (by simp)]
theorem R0 {M:Mem} {K:PV->Mem->Prop} {f o:Bool} {xs:List Eg} (hm:xs.length<big) (hk:K (slE false true xs) M):SemC tab 153 [slE f o xs] M K:=by
  refine sX (by simp only[PP,P1,P2,P14,P15,simprocAttr,eC]) (W0 T hm fun g v=>⟨slE false true xs,?_,hk⟩)
  simp only[jF,fM]
  have:=iQ xs
  have hu:cE 0 (egL xs)=true:=by
    exact fV 0 xs
  rw[oD (ver:=v) (Nat.zero_le _) rfl (by simp[iQ]) hu,dQ _ _ (by simp[iQ])]
set_option maxHeartbeats 1000000 in
theorem OQ {M:Mem} {K:PV->Mem->Prop} {f o:Bool} {a:BitVec 64} (hk:K (slI false true .i64 (EL (oP a))) M):SemC tab 254 [slW f o (iB a)] M K:=by
  refine fB T.h254 (by simp only[PP,P1,P2,P14,P15,simprocAttr]) ?_
  simp only[af254]
  refine bS (bR ?_)
  simp only[PP,P1,P2,P14,P15,simprocAttr]
  refine eB (GStep.nil 2 1 rfl rfl rfl) ?_
  refine bR ?_
  simp only[PP,P1,P2,P14,P15,simprocAttr]
  refine jY (fun(k:Nat) (g:Nat)=>k<=64) (fun k g=>(slW f o (iB a):: .junk:: .ref 0 g 1 0 (nL a k).length:: .junk::p64 k::zj 20)) (fun k g=>[.cells g 0 ((EL (nL a k)).map p64)]) (fun k _=>64-k) 0 0 (by omega) (by simp only[nL,List.range_zero,List.filter_nil,PW]) rfl ?_
  intro k g hk64 ih
  refine dL (by kernel_rfl) ?_
  simp only[PP,P1,P2,P14,P15,simprocAttr]
  refine QIf.intro (fun c=>?_) (fun c=>?_)
  rotate_left
  · obtain rfl:k=64:=by omega
    simp only[PP,P1,P2,P14,P15,simprocAttr,c]
    rw[dQ _ _ (by simp)]
    have e:nL a 64=oP a:=rfl
    rw[e]
    have e2:(EL (oP a)).length=(oP a).length:=by simp
    rw[<-e2]
    exact hk
  have hlt:k<64:=by omega
  have hw:=dA (k:=k) (by show _<1000000000000;omega)
  have hbl:=R4 a k
  have b1:((nL a k).length+1)*8<=140737488355328:=by omega
  have b2:(nL a k).length+1<=9223372036854775807:=by omega
  have hs:=LX a k
  unfold iB
  by_cases ha:a=0#64
  · have hn:a.getLsbD k=false:=by rw[ha];simp
    rw[hn]at hs
    simp only[Bool.false_eq_true,if_false,List.append_nil]at hs
    simp only[PP,P1,P2,P14,P15,simprocAttr,c,ha,hw,if_true]
    have:=ih (k+1) g (by omega) (by omega)
    rw[hs]at this
    unfold iB at this
    rw[ha]at this
    simp only[if_true]at this
    exact dB this (by simp only[PW])
  · have hsh:=K3 (a:=a) hlt
    have hand:eI .and (o6 (a>>>k)) (.int .u64 1)=some (o6 (a>>>k&&& 1#64)):=qM _ 1#64
    have hb:=aAN a k
    simp only[PP,P1,P2,P14,P15,simprocAttr,c,ha,hw,if_false,wI,hsh,hand,hb]
    cases hn:a.getLsbD k with
    | false=>
      rw[hn]at hs
      simp only[Bool.false_eq_true,if_false,List.append_nil]at hs
      simp only[PP,P1,P2,P14,P15,simprocAttr,hw]
      have:=ih (k+1) g (by omega) (by omega)
      rw[hs]at this
      unfold iB at this
      simp only[ha,if_false,wI]at this
      exact dB this (by simp only[PW])
    | true=>
      rw[hn,if_pos rfl]at hs
      simp only[PP,P1,P2,P14,P15,simprocAttr,hw,b1,b2]
      have:=ih (k+1) (g+1) (by omega) (by omega)
      rw[hs]at this
      unfold iB at this
      simp only[ha,if_false,wI]at this
      have he:(nL a k++[k]).length=(nL a k).length+1:=by simp
      rw[he]at this
      refine dY this (by simp only[PW]) ?_
      rw[dQ _ _ (by simp)]
      simp
set_option maxHeartbeats 1000000 in
theorem aCP {M:Mem} {K:PV->Mem->Prop} {f o:Bool} {N:NF} (C:NOk N) (B:BnN N) (hk:K (slW false true (iB (fA N))) M):SemC tab 154 [slI f o .i64 N.st] M K:=by
  have hst:=CK C
  have hb:N.st.length<1000000000000:=B.s
  have z0:(((0#64:BitVec 64).toNat:Nat):Int)=0:=rfl
  have z1:orB []=0#64:=rfl
  have z2:o6 0#64= .int .u64 0:=rfl
  refine kI (cP T.h154 (by simp only[PP,P1,P2,P14,P15,simprocAttr]) ?_)
  simp only[af154,PP,P1,P2,P14,P15,simprocAttr]
  refine jZ (fun(k:Nat)=>k<=N.st.length) (fun k=>(zj 3++o6 (orB ((N.st.map Int.toNat).take k)):: .junk:: .junk::slI f o .i64 N.st::p64 N.st.length::p64 k::zj 12)) (fun _=>[]) (fun k=>N.st.length-k) 0 (by omega) (by simp only[List.take_zero,z1,z2,PW]) rfl ?_
  intro k hk' ih
  refine dL (by kernel_rfl) ?_
  simp only[PP,P1,P2,P14,P15,simprocAttr]
  refine QIf.intro (fun c=>?_) (fun c=>?_)
  rotate_left
  · have hkl:k=N.st.length:=by omega
    subst hkl
    rw[List.take_of_length_le (by simp),Q3 C]
    unfold iB at hk
    by_cases ha:fA N=0#64
    · rw[ha]at hk ⊢
      simp only[PP,P1,P2,P14,P15,simprocAttr,c,z0]
      exact⟨_,PvWk.nils _ _ _,hk⟩
    · have hz:¬(((fA N).toNat:Nat):Int)=0:=fun h=>ha (by apply BitVec.eq_of_toNat_eq;simp;omega)
      rw[if_neg ha]at hk
      simp only[PP,P1,P2,P14,P15,simprocAttr,c,hz]
      exact⟨_,PvWk.sl _ _ _ _,hk⟩
  have hlt:k<N.st.length:=by omega
  have hw:=dA (k:=k) (by show _<1000000000000;omega)
  have i0:(0:Int)<=k:=by omega
  obtain⟨q,gq⟩:=dN hlt
  have hq:=hst q (List.mem_of_getElem? gq)
  have hsh:=yB (k:=q.toNat) (by omega)
  rw[show((q.toNat:Nat):Int)=q by omega]at hsh
  have hor:=CL (orB ((N.st.map Int.toNat).take k)) (BitVec.twoPow 64 q.toNat)
  have hnx:orB ((N.st.map Int.toNat).take (k+1))=orB ((N.st.map Int.toNat).take k)||| BitVec.twoPow 64 q.toNat:=by
    rw[<-UX,List.take_add_one,List.getElem?_map,gq];rfl
  simp only[PP,P1,P2,P14,P15,simprocAttr,c,i0,gq,hsh,hor,hw]
  have:=ih (k+1) (by omega) (by omega)
  rw[hnx]at this
  exact dB this (by simp only[PW])
theorem WG {M:Mem} {K:PV->Mem->Prop} {f o:Bool} {l:List Int} {q:Int} (hl:l.length<big) (hk:∀r:Int,(0<=r↔q∈l)->K (p64 r) M):SemC tab 259 [slI f o .i64 l,p64 q] M K:=by
  have hb:l.length<1000000000000:=hl
  refine cP T.h259 (by simp only[PP,P1,P2,P14,P15,simprocAttr]) ?_
  simp only[af259,PP,P1,P2,P14,P15,simprocAttr]
  refine jZ (fun(k:Nat)=>k<=l.length/\q∉l.take k) (fun k=>(slI f o .i64 l::p64 q::zj 5++p64 l.length::p64 k::zj 10)) (fun _=>[]) (fun k=>l.length-k) 0 (by simp) (by simp only[PW]) rfl ?_
  intro k ⟨hk',hnm⟩ ih
  refine dL (by kernel_rfl) ?_
  simp only[PP,P1,P2,P14,P15,simprocAttr]
  refine QIf.intro (fun c=>?_) (fun c=>?_)
  rotate_left
  · have hkl:k=l.length:=by omega
    subst hkl
    rw[List.take_of_length_le (Nat.le_refl _)]at hnm
    simp only[PP,P1,P2,P14,P15,simprocAttr,c]
    exact hk _ ⟨fun h=>absurd h (by omega),fun h=>absurd h hnm⟩
  have hlt:k<l.length:=by omega
  have hw:=dA (k:=k) (by show _<1000000000000;omega)
  have i0:(0:Int)<=k:=by omega
  obtain⟨x,gx⟩:=dN hlt
  simp only[PP,P1,P2,P14,P15,simprocAttr,c,i0,gx]
  refine QIf.intro (fun d=>?_) (fun d=>?_)
  · simp only[PP,P1,P2,P14,P15,simprocAttr,d]
    exact hk _ ⟨fun _=>by rw[d];exact List.mem_of_getElem? gx,fun _=>i0⟩
  · simp only[PP,P1,P2,P14,P15,simprocAttr,d,hw]
    refine dB (ih (k+1) ⟨by omega,?_⟩ (by omega)) (by simp only[PW])
    rw[List.take_add_one,gx]
    simp only[Option.toList_some,List.mem_append,List.mem_singleton]
    rintro(h | h)
    · exact hnm h
    · exact d h
theorem aAH {M:Mem} {K:PV->Mem->Prop} {f o:Bool} {l:List Int} {q:Int} (hl:l.length<big) (hk:K (.bool (decide (q∈l))) M):SemC tab 257 [slI f o .i64 l,p64 q] M K:=by
  refine cP T.h257 (by simp only[PP,P1,P2,P14,P15,simprocAttr]) ?_
  simp only[af257,PP,P1,P2,P14,P15,simprocAttr]
  refine WG T hl fun r hr=>?_
  simp only[PP,P1,P2,P14,P15,simprocAttr]
  have:decide (0<=r)=decide (q∈l):=by simp only[hr]
  rw[this]
  exact hk
end
theorem HZ {a b:BitVec 64} (h:kW a=kW b):a=b:=by
  unfold kW iB at h
  have h:Key.keyT ((if a=0#64 then [] else [a]).map (·.toNat))=Key.keyT ((if b=0#64 then [] else [b]).map (·.toNat)):=by
    have:=congrArg (fun x:ByteArray=>x.data.toList) h
    simpa using this
  by_cases ha:a=0#64<;>by_cases hb:b=0#64
  · rw[ha,hb]
  · rw[if_pos ha,if_neg hb]at h
    simp[Key.keyT]at h
  · rw[if_neg ha,if_pos hb]at h
    simp[Key.keyT]at h
  · rw[if_neg ha,if_neg hb]at h
    simp only[List.map_cons,List.map_nil,Key.keyT]at h
    have:=List.append_inj_left' h rfl
    exact BitVec.eq_of_toNat_eq (ArK.t36_inj a.isLt b.isLt this)
section
variable {α:Type} [DecidableEq α]
def frN (δ:α->Nat->α) (a:α) (S:List α) (x:Nat):List α:=(fE δ a x S).drop S.length
theorem lV (δ:α->Nat->α) (a:α) (S:List α) (x:Nat):fE δ a x S=S++frN δ a S x:=by
  obtain⟨r,h⟩:=lO δ a x S
  unfold frN
  rw[h,List.drop_left]
def lR (δ:α->Nat->α) (a:α) (S:List α) (x:Nat):List Int:=(List.range x).map fun y=>(((fE δ a x S).idxOf (δ a y):Nat):Int)
theorem iX (δ:α->Nat->α) (a:α) (S:List α) (x:Nat):(lR δ a S x).length=x:=by simp[lR]
theorem B7 (δ:α->Nat->α) (a:α) (S:List α) (x:Nat):lR δ a S (x+1)=lR δ a S x++[(((fE δ a (x+1) S).idxOf (δ a x):Nat):Int)]:=by
  unfold lR
  rw[List.range_succ,List.map_append]
  congr 1
  refine List.map_congr_left fun y hy=>?_
  have hy:=List.mem_range.1 hy
  obtain⟨r,h⟩:=I9 (fE δ a x S) (δ a x)
  have h2:fE δ a (x+1) S=fE δ a x S++r:=h
  rw[h2,tY]
  exact(m9 δ a _ x S).2 (.inr ⟨y,hy,rfl⟩)
theorem NG {δ:α->Nat->α} {a:α} {S:List α} {x:Nat} (h:δ a x∈S):frN δ a S (x+1)=frN δ a S x/\(fE δ a (x+1) S).idxOf (δ a x)=S.idxOf (δ a x):=by
  have e:fE δ a (x+1) S=fE δ a x S:=by
    show f5 _ _=_
    unfold f5
    rw[if_pos (by rw[lV];exact List.mem_append_left _ h)]
  refine⟨by unfold frN;rw[e],?_⟩
  rw[e,lV,tY h]
theorem NI {δ:α->Nat->α} {a:α} {S:List α} {x:Nat} (h:δ a x∉S) (h2:δ a x∈frN δ a S x):frN δ a S (x+1)=frN δ a S x/\(fE δ a (x+1) S).idxOf (δ a x)=S.length+(frN δ a S x).idxOf (δ a x):=by
  have e:fE δ a (x+1) S=fE δ a x S:=by
    show f5 _ _=_
    unfold f5
    rw[if_pos (by rw[lV];exact List.mem_append_right _ h2)]
  refine⟨by unfold frN;rw[e],?_⟩
  rw[e,lV,List.idxOf_append,if_neg h,Nat.add_comm]
theorem NH {δ:α->Nat->α} {a:α} {S:List α} {x:Nat} (h:δ a x∉S) (h2:δ a x∉frN δ a S x):frN δ a S (x+1)=frN δ a S x++[δ a x]/\(fE δ a (x+1) S).idxOf (δ a x)=S.length+(frN δ a S x).length:=by
  have e:fE δ a (x+1) S=S++(frN δ a S x++[δ a x]):=by
    show f5 _ _=_
    unfold f5
    rw[if_neg (by rw[lV,List.mem_append];rintro(q | q);exact h q;exact h2 q),lV,List.append_assoc]
  refine⟨by have:=e;unfold frN at this ⊢;rw[this,List.drop_left],?_⟩
  rw[e,List.idxOf_append,if_neg h,List.idxOf_append,if_neg h2]
  simp only[List.idxOf_cons_self]
  omega
theorem qS (δ:α->Nat->α) (a:α) (S:List α):∀x,(frN δ a S x).length<=x
  | 0=>by simp[frN,fE]
  | x+1=>by
    have ih:=qS δ a S x
    by_cases h:δ a x∈S
    · rw[(NG h).1];omega
    · by_cases h2:δ a x∈frN δ a S x
      · rw[(NI h h2).1];omega
      · rw[(NH h h2).1];simp;omega
theorem RL (δ:α->Nat->α) (a:α) {S:List α} (hS:S.Nodup) (x:Nat):∀t∈frN δ a S x,t∉S:=fun t ht hs=>by
  have:=nQ (δ:=δ) (a:=a) x hS
  rw[lV,List.nodup_append]at this
  exact this.2.2 t hs t ht rfl
end
theorem HK {S:List (BitVec 64)} {t:BitVec 64} (k:Nat) (h:t∉S):iN 2 (.str (kW t)) (.str (kW t)) (p64 ((k+S.length:Nat):Int)) (smE (kP kW k S))=smE (kP kW k (S++[t])):=by
  have hl:=pP (κ:=kW) (Dm:=fun _=>True) (fun a b _ _ h=>HZ h) (b:=t) trivial S k (fun _ _=>trivial)
  rw[if_neg h]at hl
  rw[DZ _ _ _ hl,tT]
theorem tS (S:List (BitVec 64)) (t:BitVec 64) (k:Nat):rV (kW t) (kP kW k S)=if t∈S then some (p64 ((k+S.idxOf t:Nat):Int)) else none:=
  pP (κ:=kW) (Dm:=fun _=>True) (fun a b _ _ h=>HZ h) trivial S k (fun _ _=>trivial)
theorem zS (a:BitVec 64):(oP a).length<=64:=by unfold oP;exact Nat.le_trans (List.length_filter_le _ _) (by simp)
theorem JP (id g:Nat) (cs a b:List PV):∀l:List PV,PFrz id g cs (l++a) (l++b)=PFrz id g cs a b
  | []=>rfl
  | x::l=>by rw[List.cons_append,List.cons_append,eM,JP id g cs a b l]
abbrev csD (f o:Bool) (S:List (BitVec 64)):List PV:=S.map fun a=>slW f o (iB a)
abbrev clD (f o:Bool) (S:List (BitVec 64)):List PV:=(gZ S).map (slI f o .i64)
def qD (a b c d e f g h i j:Nat):Nat->Nat
  | 0=>a | 1=>b | 2=>c | 3=>d | 4=>e | 5=>f | 6=>g | 7=>h | 8=>i | _=>j
def gM (b:Nat) (f1 o1 f2 o2 f3 o3 f o:Bool) (N:NF) (q:Nat->Nat) (S:List (BitVec 64)) (rows:List (List Int)) (fins:List Bool):Mem:=
  [.gone,.cells (q 0) (q 1) (csD f o S),.cells (q 2) (q 3) (clD f o S),.map (q 4) (smE (kP kW 0 S)),
   .cells 0 (q 5) [p64 N.vs,p64 N.n,slI f1 o1 .i64 N.st,slI f2 o2 .i64 N.fi,slE f3 o3 N.es,.ref (b + 1) (q 0) 1 0 S.length,.ref (b + 2) (q 2) 1 0 S.length,.map (b + 3),.ref (b + 5) (q 6) 1 0 rows.length,.ref (b + 6) (q 8) 1 0 fins.length],
   .cells (q 6) (q 7) (rows.map (slI f o .i64)),.cells (q 8) (q 9) (fins.map PV.bool)]
theorem FT (m:Nat) (f o:Bool) (S:List (BitVec 64)):cE m (csD f o S)=true:=gC m _ (fun a=>hR m _ _ 1 _ .u64 (wI (iB a))) S
theorem pE {A:Mem} (hA:A.all (cL A.length)=true) (f1 o1 f2 o2 f3 o3 f o:Bool) (N:NF) (q:Nat->Nat) (S:List (BitVec 64)) (rows:List (List Int)) (fins:List Bool):
    (A++gM A.length f1 o1 f2 o2 f3 o3 f o N q S rows fins).all (cL (A.length+7))=true:=by
  have h1:=dV (n:=A.length+7) (by omega) hA
  have h2:∀m,cL m (.map (q 4) (smE (kP kW 0 S)))=true:=fun m=>by
    refine ZG (fun p hp=>?_) (q 4)
    have key:∀(S:List (BitVec 64)) (k:Nat),∀p∈kP kW k S,p.2.under m=true:=by
      intro S
      induction S with
      | nil=>intro k p hp;cases hp
      | cons a S ih=>
        intro k p hp
        rcases List.mem_cons.1 hp with rfl | hp
        · simp[PV.under]
        · exact ih _ p hp
    exact key S 0 p hp
  rw[List.all_append,h1]
  have h3:cE (A.length+7) (rows.map (slI f o .i64))=true:=gC _ _ (fun x=>hR _ _ _ 1 _ .i64 x) rows
  have h4:cE (A.length+7) (clD f o S)=true:=gC _ _ (fun x=>hR _ _ _ 1 _ .i64 x) _
  have h5:cE (A.length+7) (fins.map PV.bool)=true:=gC _ _ (fun x=>by simp[PV.under]) fins
  have h6:=FT (A.length+7) f o S
  simp only[gM,List.all_cons,List.all_nil,h2,Bool.true_and,Bool.and_true]
  simp only[cL,h3,h4,h5,h6]
  simp[cE,PV.under,fV,dI]
theorem nF {A l:Mem} {f1 o1 f2 o2 f3 o3 f o:Bool} {N:NF} {q:Nat->Nat} {S:List (BitVec 64)} {rows:List (List Int)} {fins:List Bool} :
    (A++(gM A.length f1 o1 f2 o2 f3 o3 f o N q S rows fins++l)).take (A.length+7)=A++gM A.length f1 o1 f2 o2 f3 o3 f o N q S rows fins:=by
  rw[<-List.append_assoc]
  exact List.take_left' (by simp[gM])
end Go.Am.Ar

