/- Contracts: sets of numbers (package bitset), and what goes with it. -/
import Derived.Test.YtbcdfmecpjbeaaaDoorSubsetConvertsG0
import Derived.Test.YtbcdfmecpjbeaaaDoorPmC
import Derived.Test.YtbcdfmecpjbeaaaDoorSubsetConvertsG1
set_option linter.unusedVariables false
set_option linter.unusedSimpArgs false
set_option maxRecDepth 10000
namespace Go.Am.Ar
open Go.Am.PV renaming junk→Zj
open Go.Am renaming pchk→P1,pold→P2,PKNo→P3,ppack→P4,PObj.under→P5,pput→P6,ptset→P7,ptget→P8,pev→P9,ofAV→P10,ofAV1→P11,ppad→P12,pfill→P13,prepl→P14,AO.effect→P15
open List renaming replicate→L1
open Nat renaming reduceAdd→N1,reduceSub→N2,reduceMul→N3,reduceLT→N4,reduceLeDiff→N5,reduceEqDiff→N6,reduceBEq→N7
open Int renaming reduceToNat→I1,reduceLT→I2,reduceLE→I3,reduceEq→I4,reduceAdd→I5,reduceSub→I6,reduceNeg→I7
section
variable {tab:FuncId→Option AF} (T:HasA tab)
include T
end
section
variable {tab:FuncId→Option AF} (T:HasA tab)
include T
end
section
variable {tab:FuncId→Option AF} (T:HasA tab)
include T
end
section
variable {tab:FuncId→Option AF} (T:HasA tab)
include T
end
section
variable {tab:FuncId→Option AF} (T:HasA tab)
include T
end
def wordE (vs:Int) (w:List Int):Int:=if 64<(w.length:Int) then 4 else if w.any (fun x=>decide (2^vs.toNat≤x))=true then 1 else 0
section
variable {tab:FuncId→Option AF} (T:HasA tab)
include T
end
structure OkD (D:DF):Prop where
 v0:0≤D.vs
 v6:D.vs≤6
 n0:0<D.nx.length
 n1:D.nx.length≤4096
 f:D.fi.length=D.nx.length
 s0:0≤D.st
 s1:D.st<D.nx.length
 r:∀r∈D.nx,(r.length:Int)=2^D.vs.toNat∧∀t∈r,0≤t∧t<D.nx.length
theorem rowsD_zero {v n:Int} :∀{l:List (List Int)},rowsD v n l=0↔∀r∈l,(r.length:Int)=2^v.toNat∧∀t∈r,0≤t∧t<n
 | []=>by simp[rowsD]
 | r::l=>by
  unfold rowsD
  by_cases h1:(r.length:Int)=2^v.toNat
  ·rw[if_pos h1]
   by_cases h2:badR n r=true
   ·rw[if_pos h2]
    constructor
    ·intro h;exact absurd h (by decide)
    ·intro h
     unfold badR at h2
     obtain⟨t,h3,h4⟩:=List.any_eq_true.1 h2
     have:=(h r (by simp)).2 t h3
     simp only[decide_eq_true_eq]at h4
     omega
   ·rw[if_neg h2,rowsD_zero]
    constructor
    ·intro h x hx
     rcases List.mem_cons.1 hx with rfl | hx
     ·refine⟨h1,fun t ht=>Classical.byContradiction fun q=>h2 ?_⟩
      exact List.any_eq_true.2 ⟨t,ht,by simp only[decide_eq_true_eq];omega⟩
     ·exact h x hx
    ·intro h x hx;exact h x (by simp[hx])
  ·rw[if_neg h1]
   constructor
   ·intro h;exact absurd h (by decide)
   ·intro h;exact absurd (h r (by simp)).1 h1
theorem okD_iff {D:DF} :checkD D=0↔OkD D:=by
 unfold checkD
 constructor
 ·intro h
  split at h;· exact absurd h (by decide)
  split at h;· exact absurd h (by decide)
  split at h;· exact absurd h (by decide)
  split at h;· exact absurd h (by decide)
  split at h;· exact absurd h (by decide)
  rename_i h1 h2 h3 h4 h5
  exact⟨by omega,by omega,by omega,by omega,by have:=Classical.not_not.1 h4;omega,by omega,by omega,rowsD_zero.1 h⟩
 ·intro C
  have h1:=C.v0;have h2:=C.v6;have h3:=C.n0;have h4:=C.n1;have h5:=C.f;have h6:=C.s0;have h7:=C.s1
  rw[if_neg (by omega),if_neg (by omega),if_neg (by omega),if_neg (by omega),if_neg (by omega)]
  exact rowsD_zero.2 C.r
def stepD (nx:List (List Int)) (s x:Int):Int:=(((nx[s.toNat]?).getD [])[x.toNat]?).getD 0
def runD (D:DF) (w:List Int):Int:=w.foldl (stepD D.nx) D.st
def errD (D:DF) (w:List Int):Int:=if checkD D=0 then wordE D.vs w else checkD D
def fiD (D:DF) (s:Int):Bool:=(D.fi[s.toNat]?).getD false
def accD (D:DF) (w:List Int):Bool:=decide (errD D w=0)&&fiD D (runD D w)
theorem OkD.step {D:DF} (C:OkD D) {s x:Int} (s0:0≤s) (s1:s<D.nx.length) (x0:0≤x) (x1:x<2^D.vs.toNat):
  ∃r,D.nx[s.toNat]? =some r∧r[x.toNat]? =some (stepD D.nx s x)∧x<r.length∧0≤stepD D.nx s x∧stepD D.nx s x<D.nx.length:=by
 obtain⟨r,g⟩:=some_of (xs:=D.nx) (k:=s.toNat) (by omega)
 obtain⟨h1,h2⟩:=C.r r (List.mem_of_getElem? g)
 obtain⟨t,gt⟩:=some_of (xs:=r) (k:=x.toNat) (by omega)
 have e:stepD D.nx s x=t:=by unfold stepD;rw[g];simp[gt]
 rw[e]
 exact⟨r,g,gt,by omega,h2 t (List.mem_of_getElem? gt)⟩
theorem OkD.run {D:DF} (C:OkD D):∀(w:List Int),(∀x∈w,0≤x∧x<2^D.vs.toNat)→∀s:Int,0≤s→s<D.nx.length→0≤w.foldl (stepD D.nx) s∧w.foldl (stepD D.nx) s<D.nx.length
 | [],_,s,h0,h1=>⟨h0,h1⟩
 | x::w,hw,s,h0,h1=>by
  have hx:=hw x (by simp)
  obtain⟨_,_,_,_,a,b⟩:=C.step h0 h1 hx.1 hx.2
  exact OkD.run C w (fun y hy=>hw y (by simp[hy])) _ a b
theorem wordE_zero {v:Int} {w:List Int} (h:wordE v w=0):w.length≤64∧∀x∈w,x<2^v.toNat:=by
 unfold wordE at h
 split at h;· exact absurd h (by decide)
 split at h;· exact absurd h (by decide)
 rename_i h1 h2
 refine⟨by omega,fun x hx=>Classical.byContradiction fun q=>h2 ?_⟩
 exact List.any_eq_true.2 ⟨x,hx,by simp only[decide_eq_true_eq];omega⟩
theorem OkD.fin {D:DF} (C:OkD D) {s:Int} (s0:0≤s) (s1:s<D.nx.length):D.fi[s.toNat]? =some (fiD D s)∧s<D.fi.length:=by
 obtain⟨b,g⟩:=some_of (xs:=D.fi) (k:=s.toNat) (by have:=C.f;omega)
 exact⟨by unfold fiD;rw[g];rfl,by have:=C.f;omega⟩
section
variable {tab:FuncId→Option AF} (T:HasA tab)
include T
end
theorem DF.ext' {D D':DF} (h1:D.vs=D'.vs) (h2:D.st=D'.st) (h3:D.nx=D'.nx) (h4:D.fi=D'.fi):D=D':=by
 cases D;cases D';simp_all
theorem errD_zero {D:DF} {w:List Int} (h:errD D w=0):OkD D∧wordE D.vs w=0:=by
 unfold errD at h
 by_cases c:checkD D=0
 ·rw[if_pos c]at h;exact⟨okD_iff.1 c,h⟩
 ·rw[if_neg c]at h;exact absurd h c
section
variable {tab:FuncId→Option AF} (T:HasA tab)
include T
theorem copyB_p {M:Mem} {K:PV→Mem→Prop} {f o:Bool} {xs:List Bool} (hm:xs.length<big) (hk:K (slB false true xs) M):
  SemC tab 48 [slB f o xs] M K:=by
 refine SemC_pure T.h48 (by simp only[PP,P1,P2,P3,P4,P5,P6,P7,P8,P9,P10,P11,P12,P13,P14,L1,P15,N1,N2,N3,N4,N5,N6,N7,I1,I2,I3,I4,I5,I6,I7,reduceIte,reduceCtorEq]) ?_
 have hb:xs.length<1000000000000:=hm
 have b1:xs.length≤140737488355328:=by omega
 have b2:xs.length≤9223372036854775807:=by omega
 simp only[af48,PP,P1,P2,P3,P4,P5,P6,P7,P8,P9,P10,P11,P12,P13,P14,L1,P15,N1,N2,N3,N4,N5,N6,N7,I1,I2,I3,I4,I5,I6,I7,reduceIte,reduceCtorEq,b1,b2]
 exact hk
theorem copyD_p {M:Mem} {K:PV→Mem→Prop} {f1 o1 f2 o2 f3 o3:Bool} {D:DF} (B:BnD D) (hk:K (.agg (dfC false true false true false true D)) M):
  SemC tab 14 [.agg (dfC f1 o1 f2 o2 f3 o3 D)] M K:=by
 refine SemC_pure T.h14 (by simp only[PP,P1,P2,P3,P4,P5,P6,P7,P8,P9,P10,P11,P12,P13,P14,L1,P15,N1,N2,N3,N4,N5,N6,N7,I1,I2,I3,I4,I5,I6,I7,reduceIte,reduceCtorEq]) ?_
 simp only[af14,PP,P1,P2,P3,P4,P5,P6,P7,P8,P9,P10,P11,P12,P13,P14,L1,P15,N1,N2,N3,N4,N5,N6,N7,I1,I2,I3,I4,I5,I6,I7,reduceIte,reduceCtorEq]
 refine copyRows_p T B.n B.r ?_
 simp only[PP,P1,P2,P3,P4,P5,P6,P7,P8,P9,P10,P11,P12,P13,P14,L1,P15,N1,N2,N3,N4,N5,N6,N7,I1,I2,I3,I4,I5,I6,I7,reduceIte,reduceCtorEq]
 refine copyB_p T B.f ?_
 simp only[PP,P1,P2,P3,P4,P5,P6,P7,P8,P9,P10,P11,P12,P13,P14,L1,P15,N1,N2,N3,N4,N5,N6,N7,I1,I2,I3,I4,I5,I6,I7,reduceIte,reduceCtorEq]
 exact hk
theorem equalD_p {M:Mem} {K:PV→Mem→Prop} {f1 o1 f2 o2 f3 o3 e1 p1 e2 p2 e3 p3:Bool} {D D':DF} (B:BnD D) (hk:∀b:Bool,(b=true↔D=D')→K (.bool b) M):
  SemC tab 23 [.agg (dfC f1 o1 f2 o2 f3 o3 D),.agg (dfC e1 p1 e2 p2 e3 p3 D')] M K:=by
 refine SemC_pure T.h23 (by simp only[PP,P1,P2,P3,P4,P5,P6,P7,P8,P9,P10,P11,P12,P13,P14,L1,P15,N1,N2,N3,N4,N5,N6,N7,I1,I2,I3,I4,I5,I6,I7,reduceIte,reduceCtorEq]) ?_
 simp only[af23,PP,P1,P2,P3,P4,P5,P6,P7,P8,P9,P10,P11,P12,P13,P14,L1,P15,N1,N2,N3,N4,N5,N6,N7,I1,I2,I3,I4,I5,I6,I7,reduceIte,reduceCtorEq]
 have no:¬(D=D')→K (.bool false) M:=fun h=>hk false ⟨fun h=>by(cases h),fun e=>absurd e h⟩
 refine QIf.intro (fun c1=>?_) (fun c1=>?_)
 rotate_left
 ·simp only[PP,P1,P2,P3,P4,P5,P6,P7,P8,P9,P10,P11,P12,P13,P14,L1,P15,N1,N2,N3,N4,N5,N6,N7,I1,I2,I3,I4,I5,I6,I7,reduceIte,reduceCtorEq,c1]
  exact no (by rintro rfl;exact c1 rfl)
 simp only[PP,P1,P2,P3,P4,P5,P6,P7,P8,P9,P10,P11,P12,P13,P14,L1,P15,N1,N2,N3,N4,N5,N6,N7,I1,I2,I3,I4,I5,I6,I7,reduceIte,reduceCtorEq,c1]
 by_cases c2:D.st=D'.st
 rotate_left
 ·simp only[PP,P1,P2,P3,P4,P5,P6,P7,P8,P9,P10,P11,P12,P13,P14,L1,P15,N1,N2,N3,N4,N5,N6,N7,I1,I2,I3,I4,I5,I6,I7,reduceIte,reduceCtorEq,c2]
  exact no (by rintro rfl;exact c2 rfl)
 simp only[PP,P1,P2,P3,P4,P5,P6,P7,P8,P9,P10,P11,P12,P13,P14,L1,P15,N1,N2,N3,N4,N5,N6,N7,I1,I2,I3,I4,I5,I6,I7,reduceIte,reduceCtorEq,c2]
 refine equalRows_p T B.n B.r ?_
 by_cases c3:D.nx=D'.nx
 rotate_left
 ·simp only[PP,P1,P2,P3,P4,P5,P6,P7,P8,P9,P10,P11,P12,P13,P14,L1,P15,N1,N2,N3,N4,N5,N6,N7,I1,I2,I3,I4,I5,I6,I7,reduceIte,reduceCtorEq,c3]
  exact no (by rintro rfl;exact c3 rfl)
 simp only[PP,P1,P2,P3,P4,P5,P6,P7,P8,P9,P10,P11,P12,P13,P14,L1,P15,N1,N2,N3,N4,N5,N6,N7,I1,I2,I3,I4,I5,I6,I7,reduceIte,reduceCtorEq,c3]
 refine equalB_p T B.f ?_
 by_cases c4:D.fi=D'.fi
 rotate_left
 ·simp only[PP,P1,P2,P3,P4,P5,P6,P7,P8,P9,P10,P11,P12,P13,P14,L1,P15,N1,N2,N3,N4,N5,N6,N7,I1,I2,I3,I4,I5,I6,I7,reduceIte,reduceCtorEq,c4]
  exact no (by rintro rfl;exact c4 rfl)
 simp only[PP,P1,P2,P3,P4,P5,P6,P7,P8,P9,P10,P11,P12,P13,P14,L1,P15,N1,N2,N3,N4,N5,N6,N7,I1,I2,I3,I4,I5,I6,I7,reduceIte,reduceCtorEq,c4]
 exact hk true ⟨fun _=>DF.ext' c1 c2 c3 c4,fun _=>rfl⟩
end
def q9 (D:DF) (a x:Nat):Nat:=(stepD D.nx a x).toNat
abbrev q8 (D:DF):Nat:=2^D.vs.toNat
def renD (D:DF) (o:List Nat):DF:=⟨D.vs,0,rowsN (q9 D) (q8 D) o,o.map fun s:Nat=>fiD D s⟩
def zeroD:DF:=⟨0,0,[],[]⟩
def seenC (n:Nat) (o:List Nat):List Bool:=(List.range n).map fun s=>decide (s∈o)
theorem seenC_len (n:Nat) (o:List Nat):(seenC n o).length=n:=by simp[seenC]
theorem seenC_get {n k:Nat} (o:List Nat) (h:k<n):(seenC n o)[k]? =some (decide (k∈o)):=by simp[seenC,h]
theorem seenC_add {n k:Nat} (o:List Nat):(seenC n o).set k true=seenC n (addN o k):=by
 refine List.ext_getElem? fun i=>?_
 rw[List.getElem?_set]
 by_cases e:k=i
 ·subst e
  rw[if_pos rfl,seenC_len]
  by_cases h:k<n
  ·rw[if_pos h,seenC_get _ h]
   have:k∈addN o k:=(mem_addN o k k).2 (.inr rfl)
   simp[this]
  ·rw[if_neg h,List.getElem?_eq_none (by rw[seenC_len];omega)]
 ·rw[if_neg e]
  by_cases h:i<n
  ·rw[seenC_get _ h,seenC_get _ h]
   have:i∈addN o k↔i∈o:=by rw[mem_addN];exact⟨fun q=>q.elim id fun q=>absurd q.symm e,.inl⟩
   simp[this]
  ·rw[List.getElem?_eq_none (by rw[seenC_len];omega),List.getElem?_eq_none (by rw[seenC_len];omega)]
theorem OkD.delta {D:DF} (C:OkD D) {a x:Nat} (ha:a<D.nx.length) (hx:x<q8 D):∃r,D.nx[a]? =some r∧r[x]? =some ((q9 D a x:Nat):Int)∧(x:Int)<r.length∧q9 D a x<D.nx.length:=by
 have hx':(x:Int)<2^D.vs.toNat:=by
  have:((x:Nat):Int)<((2^D.vs.toNat:Nat):Int):=by exact_mod_cast hx
  simpa using this
 obtain⟨r,g1,g2,g3,g4,g5⟩:=C.step (s:=a) (x:=x) (by omega) (by omega) (by omega) hx'
 simp only[Int.toNat_natCast]at g1 g2
 refine⟨r,g1,?_,g3,?_⟩
 ·rw[g2];unfold q9;congr 1;omega
 ·unfold q9;omega
abbrev slot (g ver:Nat) (o:List Nat):PObj:= .cells g ver (o.map fun s:Nat=>p64 s)
section
variable {tab:FuncId→Option AF} (T:HasA tab)
include T
theorem ren1_p {f1 o1 f2 o2 f3 o3:Bool} {D:DF} {o:List Nat} {o1':PObj} {l:Mem} {g v vs v4 s x a:Nat} {K:PV→Mem→Prop} (C:OkD D) (hn:D.nx.length≤99) (ho:o.length≤99) (hs:o[s]? =some a) (ha:a<D.nx.length) (hx:x<q8 D)
  (hk:∀g' v' vs' v4',K (.str (itoaN (q9 D a x))) (.cells 0 0 (dfC f1 o1 f2 o2 f3 o3 D)::o1'::slot g' v' (addN o (q9 D a x)):: .cells 0 vs' ((seenC D.nx.length (addN o (q9 D a x))).map PV.bool):: .cells 0 v4' [.ref 2 g' 1 0 (addN o (q9 D a x)).length]:: .cells 0 1 [.ref 3 0 1 0 D.nx.length]::l)):
  SemC tab 82 [p64 s,p8 x,.ptr 0 0 0,.ptr 4 0 0,.ptr 5 0 0] (.cells 0 0 (dfC f1 o1 f2 o2 f3 o3 D)::o1'::slot g v o:: .cells 0 vs ((seenC D.nx.length o).map PV.bool):: .cells 0 v4 [.ref 2 g 1 0 o.length]:: .cells 0 1 [.ref 3 0 1 0 D.nx.length]::l) K:=by
 refine SemC_fn T.h82 ?_
 obtain⟨r,g1,g2,g3,g4⟩:=C.delta ha hx
 have s0:(0:Int)≤s:=by omega
 have s1:(s:Int)<o.length:=by have:=q26 hs;omega
 have a0:(0:Int)≤a:=by omega
 have a1:(a:Int)<D.nx.length:=by omega
 have x0:(0:Int)≤x:=by omega
 have t0:(0:Int)≤q9 D a x:=by omega
 have t1:(q9 D a x:Int)<D.nx.length:=by omega
 have q1:=seenC_get (n:=D.nx.length) o g4
 have hs':(o.map fun s:Nat=>p64 s)[s]? =some (p64 a):=by rw[List.getElem?_map,hs];rfl
 simp only[af82,PP,P1,P2,P3,P4,P5,P6,P7,P8,P9,P10,P11,P12,P13,P14,L1,P15,N1,N2,N3,N4,N5,N6,N7,I1,I2,I3,I4,I5,I6,I7,reduceIte,reduceCtorEq,PS_makeMap,PS_lookup,q35,PS_lenMap,ZMp_map,ZLook_maps,ZMapU_maps,ZLenM_map,plook_st,plook_sf,plook_nt,plook_nf,smE_find,smE_len,q56,q57,q27,q58,ZStr_str,ZSlA_ptr,ZB2S_nils,ZB2S_sl,ZB2S_ref,pfrz_str,under_str,one_str,pcells_str,one_map,pcells_map,q34,q54,hs,s0,s1,a0,a1,g1,x0,g3,g2,t0,t1,q1]
 by_cases hm:q9 D a x∈o
 ·have e:addN o (q9 D a x)=o:=by unfold addN;rw[if_pos hm]
  have:=hk g v vs v4
  rw[e]at this
  simp only[PP,P1,P2,P3,P4,P5,P6,P7,P8,P9,P10,P11,P12,P13,P14,L1,P15,N1,N2,N3,N4,N5,N6,N7,I1,I2,I3,I4,I5,I6,I7,reduceIte,reduceCtorEq,hm]
  refine itoa_p T (by omega) ?_
  simp only[PP,P1,P2,P3,P4,P5,P6,P7,P8,P9,P10,P11,P12,P13,P14,L1,P15,N1,N2,N3,N4,N5,N6,N7,I1,I2,I3,I4,I5,I6,I7,reduceIte,reduceCtorEq,PS_makeMap,PS_lookup,q35,PS_lenMap,ZMp_map,ZLook_maps,ZMapU_maps,ZLenM_map,plook_st,plook_sf,plook_nt,plook_nf,smE_find,smE_len,q56,q57,q27,q58,ZStr_str,ZSlA_ptr,ZB2S_nils,ZB2S_sl,ZB2S_ref,pfrz_str,under_str,one_str,pcells_str,one_map,pcells_map,q34,q54]
  exact this
 ·have e:addN o (q9 D a x)=o++[q9 D a x]:=by unfold addN;rw[if_neg hm]
  have:=hk (g+1) 0 (vs+1) (v4+1)
  rw[←seenC_add,e]at this
  have b1:(o.length+1)*8≤140737488355328:=by omega
  have b2:o.length+1≤9223372036854775807:=by omega
  have b3:q9 D a x+1≤(seenC D.nx.length o).length:=by rw[seenC_len];omega
  have q2:((seenC D.nx.length o).map PV.bool).set (q9 D a x) (.bool true)=((seenC D.nx.length o).set (q9 D a x) true).map PV.bool:=by rw[List.map_set]
  simp only[PP,P1,P2,P3,P4,P5,P6,P7,P8,P9,P10,P11,P12,P13,P14,L1,P15,N1,N2,N3,N4,N5,N6,N7,I1,I2,I3,I4,I5,I6,I7,reduceIte,reduceCtorEq,PS_makeMap,PS_lookup,q35,PS_lenMap,ZMp_map,ZLook_maps,ZMapU_maps,ZLenM_map,plook_st,plook_sf,plook_nt,plook_nf,smE_find,smE_len,q56,q57,q27,q58,ZStr_str,ZSlA_ptr,ZB2S_nils,ZB2S_sl,ZB2S_ref,pfrz_str,under_str,one_str,pcells_str,one_map,pcells_map,q34,q54,hm,b1,b2,t0,t1,b3,q2]
  refine itoa_p T (by omega) ?_
  have q3:slot (g+1) 0 (o++[q9 D a x])= .cells (g+1) 0 ((o.map fun s:Nat=>p64 s)++[p64 (q9 D a x)]):=by rw[slot,List.map_append];rfl
  rw[q3]at this
  simp only[PP,P1,P2,P3,P4,P5,P6,P7,P8,P9,P10,P11,P12,P13,P14,L1,P15,N1,N2,N3,N4,N5,N6,N7,I1,I2,I3,I4,I5,I6,I7,reduceIte,reduceCtorEq,PS_makeMap,PS_lookup,q35,PS_lenMap,ZMp_map,ZLook_maps,ZMapU_maps,ZLenM_map,plook_st,plook_sf,plook_nt,plook_nf,smE_find,smE_len,q56,q57,q27,q58,ZStr_str,ZSlA_ptr,ZB2S_nils,ZB2S_sl,ZB2S_ref,pfrz_str,under_str,one_str,pcells_str,one_map,pcells_map,q34,q54]at this ⊢
  exact this
set_option maxHeartbeats 1000000 in
theorem renumber_p {M:Mem} {K:PV→Mem→Prop} {f1 o1 f2 o2 f3 o3:Bool} {D:DF} (B:BnD D) (hn:D.nx.length≤99)
  (hk1:checkD D≠0→K (.tuple [.agg [p64 0,p64 0,.nils,.nils],p64 (checkD D)]) M)
  (hk2:OkD D→∀o,FullN (q9 D) (q8 D) D.st.toNat o→K (.tuple [.agg (dfC false true false true false true (renD D o)),p64 0]) M):
  SemC tab 39 [.agg (dfC f1 o1 f2 o2 f3 o3 D)] M K:=by
 refine SemC_pureS T.h39 (by simp only[PP,P1,P2,P3,P4,P5,P6,P7,P8,P9,P10,P11,P12,P13,P14,L1,P15,N1,N2,N3,N4,N5,N6,N7,I1,I2,I3,I4,I5,I6,I7,reduceIte,reduceCtorEq]) ?_
 simp only[af39]
 refine q67 (q53 ?_)
 simp only[PP,P1,P2,P3,P4,P5,P6,P7,P8,P9,P10,P11,P12,P13,P14,L1,P15,N1,N2,N3,N4,N5,N6,N7,I1,I2,I3,I4,I5,I6,I7,reduceIte,reduceCtorEq]
 refine q67 (q53 ?_)
 simp only[PP,P1,P2,P3,P4,P5,P6,P7,P8,P9,P10,P11,P12,P13,P14,L1,P15,N1,N2,N3,N4,N5,N6,N7,I1,I2,I3,I4,I5,I6,I7,reduceIte,reduceCtorEq]
 refine dcheck_p T B ?_
 by_cases hc:checkD D=0
 rotate_left
 ·simp only[PP,P1,P2,P3,P4,P5,P6,P7,P8,P9,P10,P11,P12,P13,P14,L1,P15,N1,N2,N3,N4,N5,N6,N7,I1,I2,I3,I4,I5,I6,I7,reduceIte,reduceCtorEq,hc]
  exact hk1 hc
 have C:=okD_iff.1 hc
 have n0:=C.n0
 have st0:=C.s0
 have st1:=C.s1
 have b1:(D.nx.length:Int)≤140737488355328:=by omega
 have b2:(D.nx.length:Int)≤9223372036854775807:=by omega
 have nn:(0:Int)≤(D.nx.length:Int):=by omega
 simp only[PP,P1,P2,P3,P4,P5,P6,P7,P8,P9,P10,P11,P12,P13,P14,L1,P15,N1,N2,N3,N4,N5,N6,N7,I1,I2,I3,I4,I5,I6,I7,reduceIte,reduceCtorEq,hc]
 refine q67 (SemW_litD 2 ?_)
 simp only[PP,P1,P2,P3,P4,P5,P6,P7,P8,P9,P10,P11,P12,P13,P14,L1,P15,N1,N2,N3,N4,N5,N6,N7,I1,I2,I3,I4,I5,I6,I7,reduceIte,reduceCtorEq,RH_go,RH_lit,KH_eq,Option.some.injEq,exists_eq_left',b1,b2,nn]
 obtain⟨sN,hsN⟩:∃sN:Nat,D.st=sN:=⟨D.st.toNat,by omega⟩
 have s0':(0:Int)≤sN:=by omega
 have s1':(sN:Int)<D.nx.length:=by omega
 have s2':sN+1≤D.nx.length:=by omega
 have eseen:(List.replicate D.nx.length (PV.bool false)).set sN (.bool true)=(seenC D.nx.length [sN]).map PV.bool:=by
  have h:=seenC_add (n:=D.nx.length) (k:=sN) []
  have e:seenC D.nx.length []=List.replicate D.nx.length false:=by unfold seenC;rw[List.eq_replicate_iff];simp
  rw[e]at h
  have e2:addN ([]:List Nat) sN=[sN]:=by simp[addN]
  rw[e2]at h
  rw[←h,List.map_set,List.map_replicate]
 have hshl:pbin .shl (.int .i64 1) (.int .i64 D.vs)=some (.int .i64 ((q8 D:Nat):Int)):=by
  rw[shl_one (by have:=C.v0;omega) (by have:=C.v6;omega)];simp
 refine⟨⟨Int.le_refl _,by omega⟩,q67 (q53 ?_)⟩
 simp only[PP,P1,P2,P3,P4,P5,P6,P7,P8,P9,P10,P11,P12,P13,P14,L1,P15,N1,N2,N3,N4,N5,N6,N7,I1,I2,I3,I4,I5,I6,I7,reduceIte,reduceCtorEq,hsN,s0',s1',s2',eseen]
 refine q67 (q53 ?_)
 simp only[PP,P1,P2,P3,P4,P5,P6,P7,P8,P9,P10,P11,P12,P13,P14,L1,P15,N1,N2,N3,N4,N5,N6,N7,I1,I2,I3,I4,I5,I6,I7,reduceIte,reduceCtorEq]
 refine q67 (q53 ?_)
 simp only[PP,P1,P2,P3,P4,P5,P6,P7,P8,P9,P10,P11,P12,P13,P14,L1,P15,N1,N2,N3,N4,N5,N6,N7,I1,I2,I3,I4,I5,I6,I7,reduceIte,reduceCtorEq]
 refine q67 (q53 ?_)
 simp only[PP,P1,P2,P3,P4,P5,P6,P7,P8,P9,P10,P11,P12,P13,P14,L1,P15,N1,N2,N3,N4,N5,N6,N7,I1,I2,I3,I4,I5,I6,I7,reduceIte,reduceCtorEq,hshl,hsN]
 refine itoa_p T (by omega) ?_
 simp only[PP,P1,P2,P3,P4,P5,P6,P7,P8,P9,P10,P11,P12,P13,P14,L1,P15,N1,N2,N3,N4,N5,N6,N7,I1,I2,I3,I4,I5,I6,I7,reduceIte,reduceCtorEq,PS_makeMap,PS_lookup,q35,PS_lenMap,ZMp_map,ZLook_maps,ZMapU_maps,ZLenM_map,plook_st,plook_sf,plook_nt,plook_nf,smE_find,smE_len,q56,q57,q27,q58,ZStr_str,ZSlA_ptr,ZB2S_nils,ZB2S_sl,ZB2S_ref,pfrz_str,under_str,one_str,pcells_str,one_map,pcells_map,q34,q54]
 have h64:q8 D≤64:=by
  have h6:=C.v6;have h0:=C.v0
  show 2^D.vs.toNat≤2^6
  exact Nat.pow_le_pow_right (by decide) (by omega)
 refine explore_p T (Dm:=fun a=>a<D.nx.length) (δ:=q9 D) (κ:=itoaN) (a0:=sN) (n:=q8 D) (bd:=(D.nx.length:Int)) (caps:=[.ptr 0 0 0,.ptr 4 0 0,.ptr 5 0 0])
  (J:=fun o N=>∃g v vs v4,N=[.cells 0 0 (dfC f1 o1 f2 o2 f3 o3 D),.cells 0 1 [p64 D.vs,p64 0,.nils,.nils],slot g v o,.cells 0 vs ((seenC D.nx.length o).map PV.bool),.cells 0 v4 [.ref 2 g 1 0 o.length],.cells 0 1 [.ref 3 0 1 0 D.nx.length]])
  ?_ ?_ (fun a b ha hb h=>itoa_inj (by omega) (by omega) h) (fun a x ha hx=>(C.delta ha hx).choose_spec.2.2.2) (by omega) h64 (by omega) (by omega) (by simp[q12,PV.under]) ⟨0,0,1,1,rfl⟩ ?_ ?_ ?_
 ·rintro o N ⟨g,v,vs,v4,rfl⟩;rfl
 ·rintro o N ⟨g,v,vs,v4,rfl⟩
  have hsl:∀m,q12 m (o.map fun s:Nat=>p64 s)=true:=fun m=>underL_map m _ (fun x=>under_int m _ _) o
  simp only[List.all_cons,List.all_nil,cutOk,PP,P1,P2,P3,P4,P5,P6,P7,P8,P9,P10,P11,P12,P13,P14,L1,P15,N1,N2,N3,N4,N5,N6,N7,I1,I2,I3,I4,I5,I6,I7,reduceIte,reduceCtorEq,hsl,PV.under]
 ·rintro o N l s x a K ⟨g,v,vs,v4,rfl⟩ hall hs hx hle hK
  exact ren1_p T C hn (by omega) hs (hall a (List.mem_of_getElem? hs)) hx fun g' v' vs' v4'=>hK _ ⟨g',v',vs',v4',rfl⟩
 ·rintro o N hF hle ⟨g,v,vs,v4,rfl⟩
  have hall:∀a∈o,a<D.nx.length:=hF.all (Dm:=fun a=>a<D.nx.length) (by omega) fun a x ha hx=>(C.delta ha hx).choose_spec.2.2.2
  simp only[PP,P1,P2,P3,P4,P5,P6,P7,P8,P9,P10,P11,P12,P13,P14,L1,P15,N1,N2,N3,N4,N5,N6,N7,I1,I2,I3,I4,I5,I6,I7,reduceIte,reduceCtorEq]
  refine SemW_re (GStep.nilbox 1 3 1 (g:=0) (ver:=2) (cs:=[p64 D.vs,p64 0,slR false true false true .i64 (rowsN (q9 D) (q8 D) o),.nils]) rfl rfl rfl) ?_
  refine q53 ?_
  simp only[PP,P1,P2,P3,P4,P5,P6,P7,P8,P9,P10,P11,P12,P13,P14,L1,P15,N1,N2,N3,N4,N5,N6,N7,I1,I2,I3,I4,I5,I6,I7,reduceIte,reduceCtorEq]
  refine loop3 (fun(k g' v':Nat)=>k≤o.length) (fun k g' v'=>[Zj,.ptr 0 0 0,.ptr 1 0 0,Zj,Zj,Zj,Zj,Zj,Zj,Zj,Zj,Zj,Zj,Zj,Zj,Zj,Zj,Zj,Zj,Zj,Zj,Zj,Zj,Zj,Zj,Zj,Zj,Zj,Zj,Zj,Zj,Zj,Zj,Zj,Zj,Zj,Zj,Zj,Zj,Zj,Zj,Zj,Zj,Zj,Zj,Zj,.ref 2 g 1 0 o.length,p64 o.length,p64 k,Zj,Zj,Zj,Zj,Zj,Zj,Zj,Zj,Zj,Zj,Zj,Zj,Zj,Zj,Zj])
   (fun k g' v'=>[.cells 0 0 (dfC f1 o1 f2 o2 f3 o3 D),.cells 0 v' [p64 D.vs,p64 0,slR false true false true .i64 (rowsN (q9 D) (q8 D) o),.ref 6 g' 1 0 k],slot g v o,.cells 0 vs ((seenC D.nx.length o).map PV.bool),.cells 0 v4 [.ref 2 g 1 0 o.length],.cells 0 1 [.ref 3 0 1 0 D.nx.length],.cells g' 0 (((o.take k).map fun s:Nat=>fiD D s).map PV.bool)])
   (fun k g' v'=>o.length-k) 0 0 2 (by omega) (by simp only[PW]) rfl ?_
  intro k g' v' hle' ih
  refine SemW_go (by kernel_rfl) ?_
  simp only[PP,P1,P2,P3,P4,P5,P6,P7,P8,P9,P10,P11,P12,P13,P14,L1,P15,N1,N2,N3,N4,N5,N6,N7,I1,I2,I3,I4,I5,I6,I7,reduceIte,reduceCtorEq]
  refine QIf.intro (fun c=>?_) (fun c=>?_)
  ·have hk':k<o.length:=by omega
   obtain⟨a,ga⟩:=some_of hk'
   have k0:(0:Int)≤k:=by omega
   have ha:=hall a (List.mem_of_getElem? ga)
   have a0:(0:Int)≤a:=by omega
   obtain⟨f1',f2'⟩:=C.fin (s:=a) a0 (by omega)
   simp only[Int.toNat_natCast]at f1'
   have wk:=q32 (k:=k) (by show _<1000000000000;omega)
   have htk:((o.take k).map fun s:Nat=>fiD D s).length=k:=by simp;omega
   have b3:k+1≤140737488355328:=by omega
   have b4:k+1≤9223372036854775807:=by omega
   have b5:k≤(List.take k o).length:=by simp;omega
   simp only[PP,P1,P2,P3,P4,P5,P6,P7,P8,P9,P10,P11,P12,P13,P14,L1,P15,N1,N2,N3,N4,N5,N6,N7,I1,I2,I3,I4,I5,I6,I7,reduceIte,reduceCtorEq,c,ga,k0,a0,f1',f2',wk,b3,b4,b5,htk]
   refine SemW_to (ih (k+1) (g'+1) (v'+1) (by omega) (by omega)) (by simp only[PW]) ?_
   rw[psub_all _ _ (by simp;omega),take_some ga]
   simp only[PP,P1,P2,P3,P4,P5,P6,P7,P8,P9,P10,P11,P12,P13,P14,L1,P15,N1,N2,N3,N4,N5,N6,N7,I1,I2,I3,I4,I5,I6,I7,reduceIte,reduceCtorEq]
  ·obtain rfl:k=o.length:=by omega
   have hfz:frzO (some (PObj.cells g' 0 (((o.take o.length).map fun s:Nat=>fiD D s).map PV.bool))) g' 1 0 o.length=some (slB false true (o.map fun s:Nat=>fiD D s)):=by
    rw[List.take_length,frzO_cells (by simp) (underL_bools _ _),psub_all _ _ (by simp)]
    simp only[slB,List.length_map]
   simp only[PP,P1,P2,P3,P4,P5,P6,P7,P8,P9,P10,P11,P12,P13,P14,L1,P15,N1,N2,N3,N4,N5,N6,N7,I1,I2,I3,I4,I5,I6,I7,reduceIte,reduceCtorEq,c,hfz]
   have:=hk2 C o (by rw[show D.st.toNat=sN by omega];exact hF)
   exact this
 ·rintro r o N ⟨k,hO⟩ hJ
  have:=nodup_lenN D.nx.length _ (bfsK_nodup (q9 D) (q8 D) sN k) (bfsK_all (Dm:=fun a=>a<D.nx.length) (by omega) (fun a x ha hx=>(C.delta ha hx).choose_spec.2.2.2) k)
  omega
end
end Go.Am.Ar

