/- Contracts: the reference's Order, number, Renumber, and what goes with it. -/
import Derived.Test.YtbcdfmecpjbeaaaDoorSubsetRenumbersG2
import Derived.Test.YtbcdfmecpjbeaaaDoorSubsetRenumbersG0
import Derived.Test.YtbcdfmecpjbeaaaDoorPmC
import Derived.Test.YtbcdfmecpjbeaaaDoorPmL
import Derived.Test.YtbcdfmecpjbeaaaDoorSubsetRenumbersG1
set_option linter.unusedVariables false
set_option linter.unusedSimpArgs false
set_option maxRecDepth 10000
namespace Go.Am.Ar
open Go.Am.PV renaming junk→Zj
open Go.Am renaming pchk→P1,pold→P2,PKNo→P3,ppack→P4,PObj.under→P5,pput→P6,ptset→P7,ptget→P8,pev→P9,ofAV→P10,q38→P11,ppad→P12,pfill→P13,prepl→P14,AO.effect→P15
open List renaming replicate→L1
open Nat renaming reduceAdd→N1,reduceSub→N2,reduceMul→N3,reduceLT→N4,reduceLeDiff→N5,reduceEqDiff→N6,reduceBEq→N7
open Int renaming reduceToNat→I1,reduceLT→I2,reduceLE→I3,reduceEq→I4,reduceAdd→I5,reduceSub→I6,reduceNeg→I7
theorem idxOf_at {b:Nat} :∀{o:List Nat},b∈o→o[o.idxOf b]? =some b
 | [],h=>by simp at h
 | a::o,h=>by
  by_cases e:b=a
  ·subst e;simp
  ·rw[idxOf_ne e]
   rw[List.getElem?_cons_succ]
   exact idxOf_at ((List.mem_cons.1 h).resolve_left e)
theorem idxOf_le {b:Nat} :∀{o:List Nat} {k:Nat},o[k]? =some b→o.idxOf b≤k
 | [],k,h=>by simp at h
 | a::o,k,h=>by
  by_cases e:b=a
  ·subst e;simp
  ·rw[idxOf_ne e]
   cases k with
   | zero=>simp at h;exact absurd h.symm e
   | succ k=>have:=idxOf_le (o:=o) (k:=k) (by simpa using h);omega
theorem OkD.small {D:DF} (C:OkD D) (k:Nat):(bfsK (q23 D) (q30 D) D.st.toNat k).length≤D.nx.length:=
 nodup_lenN _ _ (bfsK_nodup _ _ _ k) (bfsK_all (Dm:=fun a=>a<D.nx.length) (by have:=C.s0;have:=C.s1;omega) (fun a x ha hx=>(C.delta ha hx).choose_spec.2.2.2) k)
theorem OkD.below {D:DF} (C:OkD D) (k:Nat):∀a∈bfsK (q23 D) (q30 D) D.st.toNat k,a<D.nx.length:=
 bfsK_all (Dm:=fun a=>a<D.nx.length) (by have:=C.s0;have:=C.s1;omega) (fun a x ha hx=>(C.delta ha hx).choose_spec.2.2.2) k
theorem OkD.row {D:DF} (C:OkD D) {a:Nat} (ha:a<D.nx.length):∃r,D.nx[a]? =some r∧r.length=q30 D∧∀x,x<q30 D→r[x]? =some ((q23 D a x:Nat):Int)∧q23 D a x<D.nx.length:=by
 obtain⟨r,g⟩:=some_of ha
 have h1:=(C.r r (List.mem_of_getElem? g)).1
 have h2:((q30 D:Nat):Int)=2^D.vs.toNat:=by simp
 refine⟨r,g,by omega,fun x hx=>?_⟩
 obtain⟨r',g1,g2,g3,g4⟩:=C.delta ha hx
 rw[g]at g1;cases g1
 exact⟨g2,g4⟩
section
variable {tab:FuncId→Option AF} (T:HasA tab)
include T
end
section
variable {α β:Type} [DecidableEq α] [DecidableEq β]
omit [DecidableEq α] [DecidableEq β] in
theorem mem_map_inj {φ:α→β} {Dm:α→Prop} (hinj:∀a b,Dm a→Dm b→φ a=φ b→a=b) {o:List α} {b:α} (ho:∀c∈o,Dm c) (hb:Dm b):φ b∈o.map φ↔b∈o:=by
 constructor
 ·intro h
  obtain⟨c,h1,h2⟩:=List.mem_map.1 h
  rw[←hinj c b (ho c h1) hb h2];exact h1
 ·intro h;exact List.mem_map.2 ⟨b,h,rfl⟩
theorem addN_map {φ:α→β} {Dm:α→Prop} (hinj:∀a b,Dm a→Dm b→φ a=φ b→a=b) {o:List α} {b:α} (ho:∀c∈o,Dm c) (hb:Dm b):addN (o.map φ) (φ b)=(addN o b).map φ:=by
 unfold addN
 by_cases h:b∈o
 ·rw[if_pos h,if_pos ((mem_map_inj hinj ho hb).2 h)]
 ·rw[if_neg h,if_neg (fun q=>h ((mem_map_inj hinj ho hb).1 q)),List.map_append];rfl
theorem idxOf_map {φ:α→β} {Dm:α→Prop} (hinj:∀a b,Dm a→Dm b→φ a=φ b→a=b) {b:α} (hb:Dm b):∀{o:List α},(∀c∈o,Dm c)→(o.map φ).idxOf (φ b)=o.idxOf b
 | [],_=>rfl
 | a::o,ho=>by
  by_cases e:b=a
  ·subst e;simp
  ·have e2:φ b≠φ a:=fun h=>e (hinj b a hb (ho a (by simp)) h)
   rw[List.map_cons,idxOf_ne e2,idxOf_ne e,idxOf_map hinj hb (fun c hc=>ho c (by simp[hc]))]
theorem visN_map {δ:α→Nat→α} {δ':β→Nat→β} {φ:α→β} {Dm:α→Prop} {n:Nat} {a:α} (hinj:∀a b,Dm a→Dm b→φ a=φ b→a=b) (hs:∀x,x<n→Dm (δ a x)) (hφ:∀x,x<n→φ (δ a x)=δ' (φ a) x) {o:List α} (ho:∀c∈o,Dm c):∀j,j≤n→visN δ' (φ a) j (o.map φ)=(visN δ a j o).map φ
 | 0,_=>rfl
 | j+1,h=>by
  unfold visN
  rw[visN_map hinj hs hφ ho j (by omega),←hφ j (by omega)]
  exact addN_map hinj (visN_all hs ho (by omega)) (hs j (by omega))
theorem bfsK_map {δ:α→Nat→α} {δ':β→Nat→β} {φ:α→β} {Dm:α→Prop} {n:Nat} {a0:α} (hinj:∀a b,Dm a→Dm b→φ a=φ b→a=b) (h0:Dm a0) (hs:∀a x,Dm a→x<n→Dm (δ a x)) (hφ:∀a x,Dm a→x<n→φ (δ a x)=δ' (φ a) x):∀k,bfsK δ' n (φ a0) k=(bfsK δ n a0 k).map φ
 | 0=>rfl
 | k+1=>by
  have ih:=bfsK_map hinj h0 hs hφ k
  have ho:=bfsK_all h0 hs k
  rcases Nat.lt_or_ge k (bfsK δ n a0 k).length with hk | hk
  ·have g:=List.getElem?_eq_getElem hk
   have g':(bfsK δ' n (φ a0) k)[k]? =some (φ (bfsK δ n a0 k)[k]):=by rw[ih,List.getElem?_map,g];rfl
   have hd:=ho _ (List.getElem_mem hk)
   rw[bfsK_succ g,bfsK_succ g',ih]
   exact visN_map hinj (fun x hx=>hs _ x hd hx) (fun x hx=>hφ _ x hd hx) ho n (Nat.le_refl n)
  ·rw[bfsK_stay hk,bfsK_stay (by rw[ih,List.length_map];exact hk),ih]
theorem FullN.map {δ:α→Nat→α} {δ':β→Nat→β} {φ:α→β} {Dm:α→Prop} {n:Nat} {a0:α} {o:List α} (h:FullN δ n a0 o) (hinj:∀a b,Dm a→Dm b→φ a=φ b→a=b) (h0:Dm a0) (hs:∀a x,Dm a→x<n→Dm (δ a x)) (hφ:∀a x,Dm a→x<n→φ (δ a x)=δ' (φ a) x):FullN δ' n (φ a0) (o.map φ):=by
 obtain⟨k,rfl,h2⟩:=h
 exact⟨k,bfsK_map hinj h0 hs hφ k,by rw[List.length_map];exact h2⟩
theorem OverN.map {δ:α→Nat→α} {δ':β→Nat→β} {φ:α→β} {Dm:α→Prop} {n:Nat} {a0:α} {bd:Int} (h:OverN δ n a0 bd) (hinj:∀a b,Dm a→Dm b→φ a=φ b→a=b) (h0:Dm a0) (hs:∀a x,Dm a→x<n→Dm (δ a x)) (hφ:∀a x,Dm a→x<n→φ (δ a x)=δ' (φ a) x):OverN δ' n (φ a0) bd:=by
 obtain⟨k,h⟩:=h
 exact⟨k,by rw[bfsK_map hinj h0 hs hφ k,List.length_map];exact h⟩
theorem rowsN_map {δ:α→Nat→α} {δ':β→Nat→β} {φ:α→β} {Dm:α→Prop} {n:Nat} {o:List α} (ho:∀c∈o,Dm c) (hinj:∀a b,Dm a→Dm b→φ a=φ b→a=b) (hs:∀a x,Dm a→x<n→Dm (δ a x)) (hφ:∀a x,Dm a→x<n→φ (δ a x)=δ' (φ a) x):rowsN δ' n (o.map φ)=rowsN δ n o:=by
 unfold rowsN
 rw[List.map_map]
 refine List.map_congr_left fun a ha=>?_
 have hd:=ho a ha
 show rowN δ' n (o.map φ) (φ a)=rowN δ n o a
 unfold rowN
 refine List.map_congr_left fun x hx=>?_
 have hx:=List.mem_range.1 hx
 rw[←hφ a x hd hx,idxOf_map hinj (hs a x hd hx) ho]
end
theorem ren_len (D:DF) (o:List Nat):(renD D o).nx.length=o.length:=by simp[renD,rowsN]
structure OrdD (D:DF) (o:List Nat):Prop where
 C:OkD D
 F:FullN (q23 D) (q30 D) D.st.toNat o
 lt:∀a∈o,a<D.nx.length
 len:o.length≤D.nx.length
 pos:0<o.length
theorem OrdD.of {D:DF} {o:List Nat} (C:OkD D) (F:FullN (q23 D) (q30 D) D.st.toNat o):OrdD D o:=by
 refine⟨C,F,?_,?_,?_⟩
 ·obtain⟨k,rfl,_⟩:=F;exact C.below k
 ·obtain⟨k,rfl,_⟩:=F;exact C.small k
 ·have:=F.zero;exact Nat.lt_of_le_of_lt (Nat.zero_le _) (q17 this)
theorem OrdD.next {D:DF} {o:List Nat} (h:OrdD D o) {a x:Nat} (ha:a∈o) (hx:x<q30 D):q23 D a x∈o:=h.F.next ha hx
theorem OrdD.rdelta {D:DF} {o:List Nat} (h:OrdD D o) {a x:Nat} (ha:a∈o) (hx:x<q30 D):q23 (renD D o) (o.idxOf a) x=o.idxOf (q23 D a x):=by
 have g:=idxOf_at ha
 unfold q23 stepD
 have e:(renD D o).nx[o.idxOf a]? =some (rowN (q23 D) (q30 D) o a):=by
  show(rowsN (q23 D) (q30 D) o)[_]? =_
  unfold rowsN;rw[List.getElem?_map,g];rfl
 simp only[Int.toNat_natCast]
 rw[e]
 unfold rowN
 simp only[Option.getD_some]
 rw[List.getElem?_map,List.getElem?_range hx]
 simp only[Option.map_some,Option.getD_some,Int.toNat_natCast]
 rfl
theorem OrdD.ren {D:DF} {o:List Nat} (h:OrdD D o):OkD (renD D o):=by
 refine⟨h.C.v0,h.C.v6,by rw[ren_len];exact h.pos,by rw[ren_len];have:=h.C.n1;have:=h.len;omega,by rw[ren_len];simp[renD],Int.le_refl 0,by rw[ren_len];show(0:Int)<_;have:=h.pos;omega,fun r hr=>?_⟩
 have hr:r∈rowsN (q23 D) (q30 D) o:=hr
 unfold rowsN at hr
 obtain⟨a,ha,rfl⟩:=List.mem_map.1 hr
 refine⟨by simp[rowN,renD],fun t ht=>?_⟩
 unfold rowN at ht
 obtain⟨x,hx,rfl⟩:=List.mem_map.1 ht
 have:=q17 (idxOf_at (h.next ha (List.mem_range.1 hx)))
 rw[ren_len];omega
theorem OrdD.bn {D:DF} {o:List Nat} (h:OrdD D o):BnD (renD D o):=by
 have hR:=h.ren
 have h1:=hR.n1;have h2:=hR.f
 refine⟨by show _<1000000000000;omega,fun r hr=>?_,by show _<1000000000000;omega⟩
 have h3:=(hR.r r hr).1
 have h6:=hR.v6;have h0:=hR.v0
 have:((2^(renD D o).vs.toNat:Nat):Int)=2^(renD D o).vs.toNat:=by simp
 have h4:2^(renD D o).vs.toNat≤2^6:=Nat.pow_le_pow_right (by decide) (by omega)
 show _<1000000000000
 omega
theorem nat_of {D:DF} {x:Int} (h0:0≤x) (h1:x<2^D.vs.toNat):∃y:Nat,x=y∧y<q30 D:=by
 refine⟨x.toNat,by omega,?_⟩
 have:((2^D.vs.toNat:Nat):Int)=2^D.vs.toNat:=by simp
 show x.toNat<2^D.vs.toNat
 omega
theorem OkD.step_nat {D:DF} (C:OkD D) {a x:Nat} (ha:a<D.nx.length) (hx:x<q30 D):stepD D.nx a x=q23 D a x:=by
 obtain⟨r,g1,g2,_⟩:=C.delta ha hx
 unfold stepD
 simp only[Int.toNat_natCast]
 rw[g1];simp[g2]
theorem OrdD.runs {D:DF} {o:List Nat} (h:OrdD D o):∀(w:List Int),(∀x∈w,0≤x∧x<2^D.vs.toNat)→∀a,a∈o→∃b,b∈o∧w.foldl (stepD D.nx) (a:Int)=b∧w.foldl (stepD (renD D o).nx) ((o.idxOf a:Nat):Int)=(o.idxOf b:Nat)
 | [],_,a,ha=>⟨a,ha,rfl,rfl⟩
 | x::w,hw,a,ha=>by
  obtain⟨y,rfl,hy⟩:=nat_of (hw x (by simp)).1 (hw x (by simp)).2
  obtain⟨b,h1,h2,h3⟩:=OrdD.runs h w (fun z hz=>hw z (by simp[hz])) _ (h.next ha hy)
  refine⟨b,h1,?_,?_⟩
  ·rw[List.foldl_cons,h.C.step_nat (h.lt a ha) hy];exact h2
  ·have hi:=q17 (idxOf_at ha)
   rw[List.foldl_cons,h.ren.step_nat (by rw[ren_len];exact hi) hy,h.rdelta ha hy];exact h3
theorem OrdD.fin {D:DF} {o:List Nat} (h:OrdD D o) {a:Nat} (ha:a∈o):fiD (renD D o) ((o.idxOf a:Nat):Int)=fiD D a:=by
 unfold fiD
 have g:=idxOf_at ha
 simp only[Int.toNat_natCast]
 have e:(renD D o).fi[o.idxOf a]? =some (fiD D a):=by
  show(o.map fun s:Nat=>fiD D s)[_]? =_
  rw[List.getElem?_map,g];rfl
 rw[e];unfold fiD;simp
theorem OrdD.st_mem {D:DF} {o:List Nat} (h:OrdD D o):D.st.toNat∈o∧o.idxOf D.st.toNat=0:=by
 have:=h.F.zero
 exact⟨List.mem_of_getElem? this,by have:=idxOf_le this;omega⟩
theorem OrdD.err {D:DF} {o:List Nat} (h:OrdD D o) (w:List Int):errD (renD D o) w=errD D w:=by
 unfold errD
 rw[if_pos (okD_iff.2 h.ren),if_pos (okD_iff.2 h.C)];rfl
theorem OrdD.acc {D:DF} {o:List Nat} (h:OrdD D o) {w:List Int} (hw:∀x∈w,0≤x∧x≤255):accD (renD D o) w=accD D w:=by
 unfold accD
 rw[h.err]
 by_cases c:errD D w=0
 ·obtain⟨_,e0⟩:=errD_zero c
  have hb:∀x∈w,0≤x∧x<2^D.vs.toNat:=fun x hx=>⟨(hw x hx).1,(wordE_zero e0).2 x hx⟩
  obtain⟨m1,m2⟩:=h.st_mem
  obtain⟨b,h1,h2,h3⟩:=h.runs w hb _ m1
  have s1:runD D w=b:=by
   unfold runD
   rw[show D.st=((D.st.toNat:Nat):Int) by have:=h.C.s0;omega];exact h2
  have s2:runD (renD D o) w=(o.idxOf b:Nat):=by
   unfold runD
   rw[m2]at h3;exact h3
  rw[s1,s2,h.fin h1]
 ·rw[decide_eq_false c];rfl
theorem OrdD.twice {D:DF} {o o':List Nat} (h:OrdD D o) (h':OrdD (renD D o) o'):renD (renD D o) o'=renD D o:=by
 have hn:=h.F.nodup
 obtain⟨m1,m2⟩:=h.st_mem
 have hinj:∀a b,a∈o→b∈o→o.idxOf a=o.idxOf b→a=b:=fun a b ha hb e=>by
  have h1:=idxOf_at ha
  have h2:=idxOf_at hb
  rw[e,h2]at h1;exact(Option.some.inj h1).symm
 have hF:=h.F.map (φ:=fun a=>o.idxOf a) (δ':=q23 (renD D o)) (Dm:=fun a=>a∈o) hinj m1 (fun a x ha hx=>h.next ha hx) (fun a x ha hx=>(h.rdelta ha hx).symm)
 simp only[m2]at hF
 have e:o'=o.map (fun a=>o.idxOf a):=h'.F.eq hF
 have er:rowsN (q23 (renD D o)) (q30 D) (o.map fun a=>o.idxOf a)=rowsN (q23 D) (q30 D) o:=
  rowsN_map (φ:=fun a=>o.idxOf a) (Dm:=fun a=>a∈o) (fun c hc=>hc) hinj (fun a x ha hx=>h.next ha hx) (fun a x ha hx=>(h.rdelta ha hx).symm)
 subst e
 refine DF.ext' rfl rfl er ?_
 show(o.map fun a=>o.idxOf a).map (fun s:Nat=>fiD (renD D o) s)=o.map fun s:Nat=>fiD D s
 rw[List.map_map]
 exact List.map_congr_left fun a ha=>h.fin ha
theorem arg_ints {k:IntKind} {v:AV} {h:H} (hs:ShV (.slice (.int k)) v h):∃(xs:List Int),RepV (wH h) (slI false false k xs) v∧xs.length≤9223372036854775807∧∀x∈xs,k.min≤x∧x≤k.max:=by
 obtain⟨avs,hs,rfl⟩:=hs
 obtain⟨v,xs,rfl,p,q,r⟩:=sh_intsP hs
 exact⟨xs,p,q,r⟩
theorem run_of_C {tab:FuncId→Option AF} {g:FuncId} {args:List AV} {h:H} (hc:C (lim tab) g args h fun v _=>v= .bool true):∃n h',(run tab n).call g args h=some (.bool true,h'):=by
 unfold C at hc
 obtain⟨v,h',he,rfl⟩:=hc
 obtain⟨n,hn⟩:=(lim_call_iff tab).1 he
 exact⟨n,h',hn⟩
theorem shVs2 {A B:Ty} {args:List AV} {h:H} (hs:ShVs [A,B] args h):∃a b,args=[a,b]∧ShV A a h∧ShV B b h:=by
 match args,hs with
 | [a,b],⟨h1,h2,_⟩=>exact⟨a,b,rfl,h1,h2⟩
section
variable {tab:FuncId→Option AF} (T:HasA tab)
include T
end
section
variable {tab:FuncId→Option AF} (T:HasA tab)
include T
end
section
variable {tab:FuncId→Option AF} (T:HasA tab)
include T
end
section
variable {tab:FuncId→Option AF} (T:HasA tab)
include T
end
section
variable {N:NF} {rs0 rs:List (List Bool)} {ch:Bool} {done done':Nat→Nat→Prop} {p q:Nat}
end
section
variable {tab:FuncId→Option AF} (T:HasA tab)
include T
end
section
variable {tab:FuncId→Option AF} (T:HasA tab)
include T
end
section
variable {tab:FuncId→Option AF} (T:HasA tab)
include T
end
section
variable {tab:FuncId→Option AF} (T:HasA tab)
include T
end
theorem sh_boolsP {cs:List AV} {h:H} (hs:Sh (.slice .bool) cs h):∃v,∃xs:List Bool,cs=[v]∧RepV (wH h) (slB false false xs) v∧xs.length≤9223372036854775807:=by
 obtain⟨v,cells,rfl,h1,h2,h3⟩:=sh_sl rfl hs
 have:∀cells:List AV,(∀c∈cells,Sh .bool [c] h)→∃xs:List Bool,cells=xs.map AV.bool:=by
  intro cells
  induction cells with
  | nil=>intro _;exact⟨[],rfl⟩
  | cons c cells ih=>
   intro hc
   obtain⟨xs,e⟩:=ih (fun c' h'=>hc c' (List.mem_cons_of_mem _ h'))
   obtain⟨b,e1⟩:=hc c (by simp)
   cases e1
   exact⟨b::xs,by simp[e]⟩
 obtain⟨xs,rfl⟩:=this cells h2
 refine⟨v,xs,rfl,?_,by simpa using h1⟩
 have:=h3 (xs.map PV.bool) ⟨by simp,fun i y z p q=>by
  rw[List.getElem?_map]at p q
  cases hx:xs[i]? with
  | none=>rw[hx]at p;cases p
  | some x=>rw[hx]at p q;cases p;cases q;exact .bool x⟩
 simpa using this
section
variable {tab:FuncId→Option AF} (T:HasA tab)
include T
end
abbrev dfaTy:Ty:= .pair (.int .i64) (.pair (.int .i64) (.pair (.slice (.slice (.int .i64))) (.pair (.slice .bool) .unit)))
structure NumD (D:DF):Prop where
 v: -9223372036854775808≤D.vs∧D.vs≤9223372036854775807
 s: -9223372036854775808≤D.st∧D.st≤9223372036854775807
 l:D.nx.length≤9223372036854775807
 r:∀r∈D.nx,r.length≤9223372036854775807∧∀x∈r,-9223372036854775808≤x∧x≤9223372036854775807
 f:D.fi.length≤9223372036854775807
theorem arg_dfa {v:AV} {h:H} (hs:ShV dfaTy v h):∃D:DF,RepV (wH h) (.agg (dfC false false false false false false D)) v∧NumD D:=by
 obtain⟨avs,hs,rfl⟩:=hs
 obtain⟨c1,c2,rfl,⟨a,rfl,a1,a2⟩,c3,c4,rfl,⟨b,rfl,b1,b2⟩,c5,c6,rfl,h3,c7,c8,rfl,h4,h6⟩:=hs
 have h6:c8=[]:=h6
 subst h6
 obtain⟨vo,nx,rfl,p1,q1,r1⟩:=sh_rowsP h3
 obtain⟨vp,fi,rfl,p2,q2⟩:=sh_boolsP h4
 refine⟨⟨a,b,nx,fi⟩,?_,⟨⟨a1,a2⟩,⟨b1,b2⟩,q1,r1,q2⟩⟩
 have:=RepL.cons (.int .i64 a) (.cons (.int .i64 b) (.cons p1 (.cons p2 (.nil (wH h)))))
 exact .agg this.len this.get
def longD (D:DF):Bool:=decide (40<D.nx.length)||decide (40<D.fi.length)||D.nx.any fun r=>decide (100<r.length)
theorem longD_ok {D:DF} (h:longD D=false):D.nx.length≤40∧D.fi.length≤40∧∀r∈D.nx,r.length≤100:=by
 simp only[longD,Bool.or_eq_false_iff,decide_eq_false_iff_not,List.any_eq_false]at h
 exact⟨by omega,by omega,fun r hr=>by have:=h.2 r hr;simp only[decide_eq_true_eq]at this;omega⟩
theorem longD_bn {D:DF} (h:longD D=false):BnD D:=by
 obtain⟨h1,h2,h3⟩:=longD_ok h
 exact⟨by show _<1000000000000;omega,fun r hr=>by show _<1000000000000;have:=h3 r hr;omega,by show _<1000000000000;omega⟩
section
variable {tab:FuncId→Option AF} (T:HasA tab)
include T
theorem longD_p {M:Mem} {K:PV→Mem→Prop} {f1 o1 f2 o2 f3 o3:Bool} {D:DF} (hk:K (.bool (longD D)) M):
  SemC tab 12 [.sl true true 4 1 (dfC f1 o1 f2 o2 f3 o3 D)] M K:=by
 refine q51 T.h12 (by simp only[PP,P1,P2,P3,P4,P5,P6,P7,P8,P9,P10,P11,P12,P13,P14,L1,P15,N1,N2,N3,N4,N5,N6,N7,I1,I2,I3,I4,I5,I6,I7,reduceIte,reduceCtorEq,PV.under]) ?_
 simp only[af12,PP,P1,P2,P3,P4,P5,P6,P7,P8,P9,P10,P11,P12,P13,P14,L1,P15,N1,N2,N3,N4,N5,N6,N7,I1,I2,I3,I4,I5,I6,I7,reduceIte,reduceCtorEq]
 refine loop1 (fun(k:Nat)=>k=0∨(k=1∧longD D=false)) (fun k=>[.sl true true 4 1 (dfC f1 o1 f2 o2 f3 o3 D),Zj,Zj,p64 k,Zj,Zj,Zj,Zj,Zj,Zj,Zj,Zj,Zj,Zj,Zj,Zj,Zj,Zj,Zj,Zj,Zj,Zj,Zj,Zj,Zj,Zj,Zj,Zj,Zj,Zj,Zj,Zj,Zj,Zj,Zj,Zj,Zj,Zj,Zj,Zj,Zj,Zj,Zj,Zj,Zj,Zj,Zj]) (fun _=>[]) (fun k=>1-k) 0 (.inl rfl) (by simp only[PW]) rfl ?_
 intro k hk1 ih
 rcases hk1 with rfl | ⟨rfl,hf⟩
 ·have w1:IntKind.i64.wrap 1=1:=rfl
  have tr:longD D=true→K (.bool true) M:=fun h=>by rw[h]at hk;exact hk
  refine SemW_go (by kernel_rfl) ?_
  simp only[PP,P1,P2,P3,P4,P5,P6,P7,P8,P9,P10,P11,P12,P13,P14,L1,P15,N1,N2,N3,N4,N5,N6,N7,I1,I2,I3,I4,I5,I6,I7,reduceIte,reduceCtorEq]
  refine QIf.intro (fun c1=>?_) (fun c1=>?_)
  ·simp only[PP,P1,P2,P3,P4,P5,P6,P7,P8,P9,P10,P11,P12,P13,P14,L1,P15,N1,N2,N3,N4,N5,N6,N7,I1,I2,I3,I4,I5,I6,I7,reduceIte,reduceCtorEq,c1]
   exact tr (by simp only[longD,Bool.or_eq_true,decide_eq_true_eq];omega)
  simp only[PP,P1,P2,P3,P4,P5,P6,P7,P8,P9,P10,P11,P12,P13,P14,L1,P15,N1,N2,N3,N4,N5,N6,N7,I1,I2,I3,I4,I5,I6,I7,reduceIte,reduceCtorEq,c1]
  refine QIf.intro (fun c2=>?_) (fun c2=>?_)
  ·simp only[PP,P1,P2,P3,P4,P5,P6,P7,P8,P9,P10,P11,P12,P13,P14,L1,P15,N1,N2,N3,N4,N5,N6,N7,I1,I2,I3,I4,I5,I6,I7,reduceIte,reduceCtorEq,c2]
   exact tr (by simp only[longD,Bool.or_eq_true,decide_eq_true_eq];omega)
  simp only[PP,P1,P2,P3,P4,P5,P6,P7,P8,P9,P10,P11,P12,P13,P14,L1,P15,N1,N2,N3,N4,N5,N6,N7,I1,I2,I3,I4,I5,I6,I7,reduceIte,reduceCtorEq,c2]
  refine loop1 (fun(j:Nat)=>j≤D.nx.length∧(D.nx.drop j).any (fun r=>decide (100<r.length))=D.nx.any (fun r=>decide (100<r.length))) (fun j=>[.sl true true 4 1 (dfC f1 o1 f2 o2 f3 o3 D),Zj,Zj,p64 0,p64 j,Zj,Zj,Zj,Zj,Zj,Zj,Zj,Zj,Zj,Zj,Zj,Zj,Zj,Zj,Zj,Zj,Zj,Zj,Zj,Zj,Zj,Zj,Zj,Zj,Zj,Zj,Zj,Zj,Zj,Zj,Zj,Zj,Zj,Zj,Zj,Zj,Zj,Zj,Zj,Zj,Zj,Zj]) (fun _=>[]) (fun j=>D.nx.length-j) 0 ⟨by omega,rfl⟩ (by simp only[PW]) rfl ?_
  intro j ⟨jle,hj⟩ ih2
  refine SemW_go (by kernel_rfl) ?_
  simp only[PP,P1,P2,P3,P4,P5,P6,P7,P8,P9,P10,P11,P12,P13,P14,L1,P15,N1,N2,N3,N4,N5,N6,N7,I1,I2,I3,I4,I5,I6,I7,reduceIte,reduceCtorEq]
  refine QIf.intro (fun c=>?_) (fun c=>?_)
  ·have hj':j<D.nx.length:=by omega
   obtain⟨r,g⟩:=some_of hj'
   have j0:(0:Int)≤j:=by omega
   have hwk:=wrap_succ (k:=j) (by show _<1000000000000;omega)
   rw[drop_some g]at hj
   simp only[PP,P1,P2,P3,P4,P5,P6,P7,P8,P9,P10,P11,P12,P13,P14,L1,P15,N1,N2,N3,N4,N5,N6,N7,I1,I2,I3,I4,I5,I6,I7,reduceIte,reduceCtorEq,c,j0,g]
   refine QIf.intro (fun e=>?_) (fun e=>?_)
   ·simp only[PP,P1,P2,P3,P4,P5,P6,P7,P8,P9,P10,P11,P12,P13,P14,L1,P15,N1,N2,N3,N4,N5,N6,N7,I1,I2,I3,I4,I5,I6,I7,reduceIte,reduceCtorEq,e]
    have hl:100<r.length:=by omega
    exact tr (by simp only[longD,Bool.or_eq_true];right;rw[←hj];simp[hl])
   ·simp only[PP,P1,P2,P3,P4,P5,P6,P7,P8,P9,P10,P11,P12,P13,P14,L1,P15,N1,N2,N3,N4,N5,N6,N7,I1,I2,I3,I4,I5,I6,I7,reduceIte,reduceCtorEq,e,hwk]
    have hl:¬100<r.length:=by omega
    refine q39 (ih2 (j+1) ⟨by omega,?_⟩ (by omega)) (by simp only[PW])
    rw[←hj];simp[hl]
  ·rw[List.drop_eq_nil_of_le (by omega)]at hj
   simp only[PP,P1,P2,P3,P4,P5,P6,P7,P8,P9,P10,P11,P12,P13,P14,L1,P15,N1,N2,N3,N4,N5,N6,N7,I1,I2,I3,I4,I5,I6,I7,reduceIte,reduceCtorEq,c,w1]
   refine q39 (ih 1 (.inr ⟨rfl,?_⟩) (by omega)) (by simp only[PW])
   simp only[longD,Bool.or_eq_false_iff,decide_eq_false_iff_not]
   exact⟨⟨by omega,by omega⟩,by rw[←hj];rfl⟩
 ·refine SemW_go (by kernel_rfl) ?_
  rw[hf]at hk
  simp only[PP,P1,P2,P3,P4,P5,P6,P7,P8,P9,P10,P11,P12,P13,P14,L1,P15,N1,N2,N3,N4,N5,N6,N7,I1,I2,I3,I4,I5,I6,I7,reduceIte,reduceCtorEq]
  exact hk
end
section
variable {tab:FuncId→Option AF} (T:HasA tab)
include T
end
section
variable {tab:FuncId→Option AF} (T:HasA tab)
include T
end
end Go.Am.Ar

