/- Contracts: deterministic automata accept, both; copied and compared, and what goes with it. -/
import Derived.Test.YtbcdfmecpjbeaaaDoorSubsetSameWordsG2
import Derived.Test.YtbcdfmecpjbeaaaDoorPmC
import Derived.Test.YtbcdfmecpjbeaaaDoorSubsetSameWordsG0
import Derived.Test.YtbcdfmecpjbeaaaDoorSubsetSameWordsG1
set_option linter.unusedVariables false
set_option linter.unusedSimpArgs false
set_option maxRecDepth 10000
namespace Go.Am.Ar
open Go.Am.PV renaming junk→Zj
open Go.Am renaming pchk→P1,pold→P2,PKNo→P3,ppack→P4,PObj.under→P5,pput→P6,ptset→P7,ptget→P8,pev→P9,ofAV→P10,q42→P11,ppad→P12,pfill→P13,prepl→P14,AO.effect→P15
open List renaming replicate→L1
open Nat renaming reduceAdd→N1,reduceSub→N2,reduceMul→N3,reduceLT→N4,reduceLeDiff→N5,reduceEqDiff→N6,reduceBEq→N7
open Int renaming reduceToNat→I1,reduceLT→I2,reduceLE→I3,reduceEq→I4,reduceAdd→I5,reduceSub→I6,reduceNeg→I7
theorem DF.ext' {D D':DF} (h1:D.vs=D'.vs) (h2:D.st=D'.st) (h3:D.nx=D'.nx) (h4:D.fi=D'.fi):D=D':=by
 cases D;cases D';simp_all
theorem errD_zero {D:DF} {w:List Int} (h:errD D w=0):OkD D∧wordE D.vs w=0:=by
 unfold errD at h
 by_cases c:checkD D=0
 ·rw[if_pos c]at h;exact⟨okD_iff.1 c,h⟩
 ·rw[if_neg c]at h;exact absurd h c
theorem errD_fin {D:DF} {w:List Int} (h:errD D w=0) (hw:∀x∈w,0≤x∧x≤255):(0≤runD D w∧runD D w<D.nx.length)∧D.fi[(runD D w).toNat]? =some (fiD D (runD D w))∧runD D w<D.fi.length:=by
 obtain⟨C,e0⟩:=errD_zero h
 have hr:=C.run w (fun x hx=>⟨(hw x hx).1,(wordE_zero e0).2 x hx⟩) D.st C.s0 C.s1
 exact⟨hr,C.fin hr.1 hr.2⟩
section
variable {tab:FuncId→Option AF} (T:HasA tab)
include T
theorem dacc_p {M:Mem} {K:PV→Mem→Prop} {f1 o1 f2 o2 f3 o3 f4 o4:Bool} {D:DF} {w:List Int} (B:BnD D) (hw:∀x∈w,0≤x∧x≤255) (hl:w.length<1000000000000)
  (hk:K (.tuple [.bool (accD D w),p64 (errD D w)]) M):
  SemC tab 20 [.agg (dfC f1 o1 f2 o2 f3 o3 D),slI f4 o4 .u8 w] M K:=by
 refine q15 T.h20 (by simp only[PP,P1,P2,P3,P4,P5,P6,P7,P8,P9,P10,P11,P12,P13,P14,L1,P15,N1,N2,N3,N4,N5,N6,N7,I1,I2,I3,I4,I5,I6,I7,reduceIte,reduceCtorEq]) ?_
 simp only[af20,PP,P1,P2,P3,P4,P5,P6,P7,P8,P9,P10,P11,P12,P13,P14,L1,P15,N1,N2,N3,N4,N5,N6,N7,I1,I2,I3,I4,I5,I6,I7,reduceIte,reduceCtorEq]
 refine drun_p T B hw hl ?_
 simp only[PP,P1,P2,P3,P4,P5,P6,P7,P8,P9,P10,P11,P12,P13,P14,L1,P15,N1,N2,N3,N4,N5,N6,N7,I1,I2,I3,I4,I5,I6,I7,reduceIte,reduceCtorEq]
 unfold accD at hk
 by_cases c:errD D w=0
 ·obtain⟨⟨h1,h2⟩,h3,h4⟩:=errD_fin c hw
  rw[decide_eq_true c,c]at hk
  simp only[PP,P1,P2,P3,P4,P5,P6,P7,P8,P9,P10,P11,P12,P13,P14,L1,P15,N1,N2,N3,N4,N5,N6,N7,I1,I2,I3,I4,I5,I6,I7,reduceIte,reduceCtorEq,c,h1,h4,h3]at hk ⊢
  exact hk
 ·rw[decide_eq_false c]at hk
  simp only[PP,P1,P2,P3,P4,P5,P6,P7,P8,P9,P10,P11,P12,P13,P14,L1,P15,N1,N2,N3,N4,N5,N6,N7,I1,I2,I3,I4,I5,I6,I7,reduceIte,reduceCtorEq,c]at hk ⊢
  exact hk
end
def deltaD (D:DF) (a x:Nat):Nat:=(stepD D.nx a x).toNat
abbrev lettersD (D:DF):Nat:=2^D.vs.toNat
def zeroD:DF:=⟨0,0,[],[]⟩
theorem OkD.delta {D:DF} (C:OkD D) {a x:Nat} (ha:a<D.nx.length) (hx:x<lettersD D):∃r,D.nx[a]? =some r∧r[x]? =some ((deltaD D a x:Nat):Int)∧(x:Int)<r.length∧deltaD D a x<D.nx.length:=by
 have hx':(x:Int)<2^D.vs.toNat:=by
  have:((x:Nat):Int)<((2^D.vs.toNat:Nat):Int):=by exact_mod_cast hx
  simpa using this
 obtain⟨r,g1,g2,g3,g4,g5⟩:=C.step (s:=a) (x:=x) (by omega) (by omega) (by omega) hx'
 simp only[Int.toNat_natCast]at g1 g2
 refine⟨r,g1,?_,g3,?_⟩
 ·rw[g2];unfold deltaD;congr 1;omega
 ·unfold deltaD;omega
section
variable {tab:FuncId→Option AF} (T:HasA tab)
include T
end
theorem OkD.small {D:DF} (C:OkD D) (k:Nat):(bfsK (deltaD D) (lettersD D) D.st.toNat k).length≤D.nx.length:=
 nodup_lenN _ _ (bfsK_nodup _ _ _ k) (bfsK_all (Dm:=fun a=>a<D.nx.length) (by have:=C.s0;have:=C.s1;omega) (fun a x ha hx=>(C.delta ha hx).choose_spec.2.2.2) k)
theorem OkD.row {D:DF} (C:OkD D) {a:Nat} (ha:a<D.nx.length):∃r,D.nx[a]? =some r∧r.length=lettersD D∧∀x,x<lettersD D→r[x]? =some ((deltaD D a x:Nat):Int)∧deltaD D a x<D.nx.length:=by
 obtain⟨r,g⟩:=some_of ha
 have h1:=(C.r r (List.mem_of_getElem? g)).1
 have h2:((lettersD D:Nat):Int)=2^D.vs.toNat:=by simp
 refine⟨r,g,by omega,fun x hx=>?_⟩
 obtain⟨r',g1,g2,g3,g4⟩:=C.delta ha hx
 rw[g]at g1;cases g1
 exact⟨g2,g4⟩
section
variable {tab:FuncId→Option AF} (T:HasA tab)
include T
end
section
variable {α β:Type} [DecidableEq α] [DecidableEq β]
omit [DecidableEq α] [DecidableEq β] in
theorem mem_map_inj {φ:α→β} {Dm:α→Prop} (hinj:∀a b,Dm a→Dm b→φ a=φ b→a=b) {o:List α} {b:α} (ho:∀c∈o,Dm c) (hb:Dm b):φ b∈o.map φ↔b∈o:=by
 constructor
 ·intro h
  obtain⟨c,h1,h2⟩:=List.mem_map.1 h
  rw[←hinj c b (ho c h1) hb h2];exact h1
 ·intro h;exact List.mem_map.2 ⟨b,h,rfl⟩
theorem addN_map {φ:α→β} {Dm:α→Prop} (hinj:∀a b,Dm a→Dm b→φ a=φ b→a=b) {o:List α} {b:α} (ho:∀c∈o,Dm c) (hb:Dm b):addN (o.map φ) (φ b)=(addN o b).map φ:=by
 unfold addN
 by_cases h:b∈o
 ·rw[if_pos h,if_pos ((mem_map_inj hinj ho hb).2 h)]
 ·rw[if_neg h,if_neg (fun q=>h ((mem_map_inj hinj ho hb).1 q)),List.map_append];rfl
theorem visN_map {δ:α→Nat→α} {δ':β→Nat→β} {φ:α→β} {Dm:α→Prop} {n:Nat} {a:α} (hinj:∀a b,Dm a→Dm b→φ a=φ b→a=b) (hs:∀x,x<n→Dm (δ a x)) (hφ:∀x,x<n→φ (δ a x)=δ' (φ a) x) {o:List α} (ho:∀c∈o,Dm c):∀j,j≤n→visN δ' (φ a) j (o.map φ)=(visN δ a j o).map φ
 | 0,_=>rfl
 | j+1,h=>by
  unfold visN
  rw[visN_map hinj hs hφ ho j (by omega),←hφ j (by omega)]
  exact addN_map hinj (visN_all hs ho (by omega)) (hs j (by omega))
theorem bfsK_map {δ:α→Nat→α} {δ':β→Nat→β} {φ:α→β} {Dm:α→Prop} {n:Nat} {a0:α} (hinj:∀a b,Dm a→Dm b→φ a=φ b→a=b) (h0:Dm a0) (hs:∀a x,Dm a→x<n→Dm (δ a x)) (hφ:∀a x,Dm a→x<n→φ (δ a x)=δ' (φ a) x):∀k,bfsK δ' n (φ a0) k=(bfsK δ n a0 k).map φ
 | 0=>rfl
 | k+1=>by
  have ih:=bfsK_map hinj h0 hs hφ k
  have ho:=bfsK_all h0 hs k
  rcases Nat.lt_or_ge k (bfsK δ n a0 k).length with hk | hk
  ·have g:=List.getElem?_eq_getElem hk
   have g':(bfsK δ' n (φ a0) k)[k]? =some (φ (bfsK δ n a0 k)[k]):=by rw[ih,List.getElem?_map,g];rfl
   have hd:=ho _ (List.getElem_mem hk)
   rw[bfsK_succ g,bfsK_succ g',ih]
   exact visN_map hinj (fun x hx=>hs _ x hd hx) (fun x hx=>hφ _ x hd hx) ho n (Nat.le_refl n)
  ·rw[bfsK_stay hk,bfsK_stay (by rw[ih,List.length_map];exact hk),ih]
theorem FullN.map {δ:α→Nat→α} {δ':β→Nat→β} {φ:α→β} {Dm:α→Prop} {n:Nat} {a0:α} {o:List α} (h:FullN δ n a0 o) (hinj:∀a b,Dm a→Dm b→φ a=φ b→a=b) (h0:Dm a0) (hs:∀a x,Dm a→x<n→Dm (δ a x)) (hφ:∀a x,Dm a→x<n→φ (δ a x)=δ' (φ a) x):FullN δ' n (φ a0) (o.map φ):=by
 obtain⟨k,rfl,h2⟩:=h
 exact⟨k,bfsK_map hinj h0 hs hφ k,by rw[List.length_map];exact h2⟩
theorem OverN.map {δ:α→Nat→α} {δ':β→Nat→β} {φ:α→β} {Dm:α→Prop} {n:Nat} {a0:α} {bd:Int} (h:OverN δ n a0 bd) (hinj:∀a b,Dm a→Dm b→φ a=φ b→a=b) (h0:Dm a0) (hs:∀a x,Dm a→x<n→Dm (δ a x)) (hφ:∀a x,Dm a→x<n→φ (δ a x)=δ' (φ a) x):OverN δ' n (φ a0) bd:=by
 obtain⟨k,h⟩:=h
 exact⟨k,by rw[bfsK_map hinj h0 hs hφ k,List.length_map];exact h⟩
end
theorem nat_of {D:DF} {x:Int} (h0:0≤x) (h1:x<2^D.vs.toNat):∃y:Nat,x=y∧y<lettersD D:=by
 refine⟨x.toNat,by omega,?_⟩
 have:((2^D.vs.toNat:Nat):Int)=2^D.vs.toNat:=by simp
 show x.toNat<2^D.vs.toNat
 omega
theorem OkD.step_nat {D:DF} (C:OkD D) {a x:Nat} (ha:a<D.nx.length) (hx:x<lettersD D):stepD D.nx a x=deltaD D a x:=by
 obtain⟨r,g1,g2,_⟩:=C.delta ha hx
 unfold stepD
 simp only[Int.toNat_natCast]
 rw[g1];simp[g2]
abbrev q49 (N:NF):Nat:=2^N.vs.toNat
def q53 (N:NF) (a:BitVec 64) (x:Nat):BitVec 64:=(matE N.es x).foldl (fun acc e=>if a.getLsbD e.fr.toNat=true then acc||| BitVec.twoPow 64 e.to.toNat else acc) 0#64
theorem fold_bit (a:BitVec 64) (k:Nat):∀(l:List Eg) (acc:BitVec 64),(∀e∈l,0≤e.to∧e.to<64)→
  ((l.foldl (fun acc e=>if a.getLsbD e.fr.toNat=true then acc||| BitVec.twoPow 64 e.to.toNat else acc) acc).getLsbD k=true↔acc.getLsbD k=true∨∃e∈l,a.getLsbD e.fr.toNat=true∧e.to=k)
 | [],acc,_=>by simp
 | e::l,acc,h=>by
  have he:=h e (by simp)
  rw[List.foldl_cons,fold_bit a k l _ fun e he=>h e (by simp[he])]
  by_cases c:a.getLsbD e.fr.toNat=true
  ·rw[if_pos c,BitVec.getLsbD_or,Bool.or_eq_true,BitVec.getLsbD_twoPow,Bool.and_eq_true,decide_eq_true_eq,decide_eq_true_eq]
   constructor
   ·rintro((h1 | ⟨h1,h2⟩) | ⟨e',h1,h2⟩)
    ·exact .inl h1
    ·exact .inr ⟨e,by simp,c,by omega⟩
    ·exact .inr ⟨e',by simp[h1],h2⟩
   ·rintro(h1 | ⟨e',h1,h2,h3⟩)
    ·exact .inl (.inl h1)
    ·rcases List.mem_cons.1 h1 with rfl | h1
     ·exact .inl (.inr ⟨by omega,by omega⟩)
     ·exact .inr ⟨e',h1,h2,h3⟩
  ·rw[if_neg c]
   constructor
   ·rintro(h1 | ⟨e',h1,h2⟩)
    ·exact .inl h1
    ·exact .inr ⟨e',by simp[h1],h2⟩
   ·rintro(h1 | ⟨e',h1,h2,h3⟩)
    ·exact .inl h1
    ·rcases List.mem_cons.1 h1 with rfl | h1
     ·exact absurd h2 c
     ·exact .inr ⟨e',h1,h2,h3⟩
theorem matE_sub {es:List Eg} {x:Nat} {e:Eg} (h:e∈matE es x):e∈es:=(List.mem_filter.1 h).1
theorem deltaB_bit {N:NF} (C:NOk N) (a:BitVec 64) (x k:Nat):(q53 N a x).getLsbD k=true↔∃e∈matE N.es x,a.getLsbD e.fr.toNat=true∧e.to=k:=by
 unfold q53
 rw[fold_bit a k _ _ fun e he=>by have:=C.ed e (matE_sub he);have:=C.n64;omega]
 simp
structure RB (s:Wd) (a:BitVec 64):Prop where
 len:s.length≤64
 lt:∀k,bit s k=true→k<64
 at0:wAt s 0=a
theorem RB.bit {s:Wd} {a:BitVec 64} (h:RB s a) (k:Nat):bit s k=a.getLsbD k:=by
 by_cases hk:k<64
 ·unfold Ar.bit
  rw[show k / 64=0 by omega,show k % 64=k by omega,h.at0]
 ·rw[BitVec.getLsbD_of_ge _ _ (by omega)]
  cases hb:Ar.bit s k with
  | false=>rfl
  | true=>exact absurd (h.lt k hb) hk
theorem RB.mk' {s:Wd} {a:BitVec 64} (hl:s.length≤64) (h:∀k,Ar.bit s k=true↔a.getLsbD k=true):RB s a:=by
 have lt:∀k,Ar.bit s k=true→k<64:=fun k hk=>by
  refine Classical.byContradiction fun q=>?_
  have:=(h k).1 hk
  rw[BitVec.getLsbD_of_ge _ _ (by omega)]at this;cases this
 refine⟨hl,lt,BitVec.eq_of_getLsbD_eq fun i hi=>?_⟩
 have:=h i
 unfold Ar.bit at this
 rw[show i / 64=0 by omega,show i % 64=i by omega]at this
 exact Bool.eq_iff_iff.2 this
theorem RB.next {N:NF} (C:NOk N) {s o:Wd} {a:BitVec 64} {x:Nat} (h:RB s a) (ho:AftP N.es s x o):RB o (q53 N a x):=by
 refine .mk' ho.1 fun k=>?_
 rw[ho.2,deltaB_bit C]
 simp only[h.bit]
def startB (N:NF):BitVec 64:=wAt (faW N.st) 0
theorem start_RB {N:NF} (C:NOk N):RB (faW N.st) (startB N):=by
 obtain⟨_,h2,h3⟩:=fa_ok C C.st
 refine⟨h2,fun k hk=>?_,rfl⟩
 rw[h3,decide_eq_true_eq]at hk
 have:=posM_mem C.st _ hk
 have:=C.n64
 omega
theorem startB_bit {N:NF} (C:NOk N) (k:Nat):(startB N).getLsbD k=true↔(k:Int)∈N.st:=by
 obtain⟨_,_,h3⟩:=fa_ok C C.st
 rw[←(start_RB C).bit,h3,decide_eq_true_eq]
def finB (N:NF) (a:BitVec 64):Bool:=N.fi.any fun q=>a.getLsbD q.toNat
def detD (N:NF) (o:List (BitVec 64)):DF:=⟨N.vs,0,rowsN (q53 N) (q49 N) o,o.map (finB N)⟩
def setsB (o:List (BitVec 64)):List (List Int):=o.map fun a=>natI (bitsW a)
theorem fin_inter {N:NF} (C:NOk N) {s:Wd} {a:BitVec 64} (h:RB s a):decide (0<(cmb (fun x y=>x&&& y) s (faW N.fi)).length)=finB N a:=by
 obtain⟨_,h2,h3⟩:=fa_ok C C.fi
 rw[Bool.eq_iff_iff,decide_eq_true_eq,inter_bits h.len h2]
 unfold finB
 rw[List.any_eq_true]
 constructor
 ·rintro⟨k,k1,k2⟩
  rw[h.bit]at k1
  rw[h3,decide_eq_true_eq]at k2
  exact⟨k,k2,by rw[Int.toNat_natCast];exact k1⟩
 ·rintro⟨q,q1,q2⟩
  have:=posM_mem C.fi q q1
  refine⟨q.toNat,by rw[h.bit];exact q2,?_⟩
  rw[h3,decide_eq_true_eq,show((q.toNat:Nat):Int)=q by omega];exact q1
theorem list_RB {s:Wd} {a:BitVec 64} (h:RB s a):listW s=bitsW a:=by rw[listW_one h.lt,h.at0]
def knE (o:List (BitVec 64)):List (ByteArray×PV):=o.map fun a=>(keyB a,.bool true)
theorem knE_look (b:BitVec 64):∀o:List (BitVec 64),slook (keyB b) (knE o)=if b∈o then some (.bool true) else none
 | []=>rfl
 | a::o=>by
  show(if keyB b=keyB a then some (PV.bool true) else slook (keyB b) (knE o))=_
  by_cases e:b=a
  ·subst e;rw[if_pos rfl,if_pos (by simp)]
  ·rw[if_neg fun q=>e (keyB_inj q),knE_look b o]
   by_cases hm:b∈o
   ·rw[if_pos hm,if_pos (by simp[hm])]
   ·rw[if_neg hm,if_neg (by simp[hm,e])]
structure RBs (ss:List Wd) (o:List (BitVec 64)):Prop where
 len:ss.length=o.length
 at':∀(i:Nat) s a,ss[i]? =some s→o[i]? =some a→RB s a
theorem RBs.snoc {ss:List Wd} {o:List (BitVec 64)} (h:RBs ss o) {s:Wd} {a:BitVec 64} (ha:RB s a):RBs (ss++[s]) (o++[a]):=by
 refine⟨by simp[h.len],fun i s' a' h1 h2=>?_⟩
 rcases Nat.lt_or_ge i ss.length with hi | hi
 ·rw[List.getElem?_append_left hi]at h1
  rw[List.getElem?_append_left (by rw[←h.len];exact hi)]at h2
  exact h.at' i s' a' h1 h2
 ·rw[List.getElem?_append_right hi]at h1
  rw[List.getElem?_append_right (by rw[←h.len];exact hi),←h.len]at h2
  cases hj:i-ss.length with
  | zero=>rw[hj]at h1 h2;simp at h1 h2;subst h1;subst h2;exact ha
  | succ j=>rw[hj]at h1;simp at h1
theorem RBs.get {ss:List Wd} {o:List (BitVec 64)} (h:RBs ss o) {i:Nat} {a:BitVec 64} (g:o[i]? =some a):∃s,ss[i]? =some s∧RB s a:=by
 have hi:=q17 g
 obtain⟨s,gs⟩:=some_of (xs:=ss) (k:=i) (by rw[h.len];exact hi)
 exact⟨s,gs,h.at' i s a gs g⟩
theorem word_one {vs:Int} {x:Nat} (h:x<2^vs.toNat):wordE vs [(x:Int)]=0:=by
 have h':¬(2:Int)^vs.toNat≤x:=by
  have:((2^vs.toNat:Nat):Int)=2^vs.toNat:=by simp
  omega
 unfold wordE
 rw[if_neg (by simp),if_neg (by simp[h'])]
theorem NOk.let64 {N:NF} (C:NOk N):q49 N≤64:=pow_le64 C.v6
section
variable {tab:FuncId→Option AF} (T:HasA tab)
include T
theorem nafter_p {M:Mem} {K:PV→Mem→Prop} {f1 o1 f2 o2 f3 o3 f4 o4:Bool} {N:NF} {s:Wd} {a:BitVec 64} {x:Nat} (hc:q64 N=0) (B:BnN N) (hr:RB s a) (hx:x<q49 N) (hk:∀o,RB o (q53 N a x)→K (.tuple [slW false true o,p64 0]) M):
  SemC tab 67 [.agg (nfC f1 o1 f2 o2 f3 o3 N),slW f4 o4 s,p8 x] M K:=by
 have C:=nok_of hc
 have h64:=C.let64
 refine q15 T.h67 (by simp only[PP,P1,P2,P3,P4,P5,P6,P7,P8,P9,P10,P11,P12,P13,P14,L1,P15,N1,N2,N3,N4,N5,N6,N7,I1,I2,I3,I4,I5,I6,I7,reduceIte,reduceCtorEq,under_slE]) ?_
 simp only[af67,PP,P1,P2,P3,P4,P5,P6,P7,P8,P9,P10,P11,P12,P13,P14,L1,P15,N1,N2,N3,N4,N5,N6,N7,I1,I2,I3,I4,I5,I6,I7,reduceIte,reduceCtorEq]
 refine check_p T B ?_
 simp only[PP,P1,P2,P3,P4,P5,P6,P7,P8,P9,P10,P11,P12,P13,P14,L1,P15,N1,N2,N3,N4,N5,N6,N7,I1,I2,I3,I4,I5,I6,I7,reduceIte,reduceCtorEq,hc]
 refine word_p T (w:=[(x:Int)]) C (fun y hy=>by simp at hy;subst hy;omega) (by simp) ?_
 rw[word_one hx]
 simp only[PP,P1,P2,P3,P4,P5,P6,P7,P8,P9,P10,P11,P12,P13,P14,L1,P15,N1,N2,N3,N4,N5,N6,N7,I1,I2,I3,I4,I5,I6,I7,reduceIte,reduceCtorEq]
 refine aft_p T C B hr.len (by omega) fun o ho=>?_
 simp only[PP,P1,P2,P3,P4,P5,P6,P7,P8,P9,P10,P11,P12,P13,P14,L1,P15,N1,N2,N3,N4,N5,N6,N7,I1,I2,I3,I4,I5,I6,I7,reduceIte,reduceCtorEq]
 exact hk o (hr.next C ho)
end
section
variable {tab:FuncId→Option AF} (T:HasA tab)
include T
end
end Go.Am.Ar

