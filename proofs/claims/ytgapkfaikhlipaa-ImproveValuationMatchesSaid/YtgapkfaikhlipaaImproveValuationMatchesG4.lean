/- Plain: best responses, rounds that end, and what goes with it. -/
import Derived.Test.YtgapkfaikhlipaaImproveValuationMatchesG3
import Derived.Test.YtgapkfaikhlipaaPmC
import Derived.Test.YtgapkfaikhlipaaImproveValuationMatchesG0
import Derived.Test.YtgapkfaikhlipaaPmL
import Derived.Test.YtgapkfaikhlipaaImproveValuationMatchesG2
set_option linter.unusedVariables false
set_option linter.unusedSimpArgs false
namespace Go.Am.Ar
open Go.Am.PV renaming junk→Zj
theorem impM_at {s:Int} {ow pr:List Int} {su:List (List Int)} {l:List Vl} {player:Int} {st:List Int} {v:Nat} (hv:v<st.length):(impM s ow pr su l player st).getD v 0=impA s ow pr su l player st v:=by
 unfold impM
 rw[List.getD,q66 hv];rfl
theorem impM_len {s:Int} {ow pr:List Int} {su:List (List Int)} {l:List Vl} {player:Int} {st:List Int} :(impM s ow pr su l player st).length=st.length:=q23 _ _
theorem chg_false {s:Int} {ow pr:List Int} {su:List (List Int)} {l:List Vl} {player:Int} {st:List Int} :chgM s ow pr su l player st=false↔∀v,v<st.length→ow.getD v 0=player→bestM s pr l (st.getD v 0) (su.getD v [])=st.getD v 0:=by
 unfold chgM
 rw[decide_eq_false_iff_not,Classical.not_not]
 constructor
 ·intro h v hv ho
  have:=impM_at (s:=s) (ow:=ow) (pr:=pr) (su:=su) (l:=l) (player:=player) hv
  rw[h]at this
  unfold impA at this
  rw[if_pos ho]at this
  exact this.symm
 ·intro h
  refine(tabA_ext rfl fun v hv=>?_).symm
  obtain⟨x,hx⟩:=q13 (xs:=st) (k:=v) hv
  rw[hx]
  congr 1
  unfold impA
  split
  ·rename_i ho;rw[h v hv ho,getD_some hx]
  ·rw[getD_some hx]
section
variable {ow pr:List Int} {su:List (List Int)} (hc:checkM ow pr su=0)
include hc
theorem q36 {st:List Int} (h:MvOk su ow.length st) {v:Nat} (hv:v<ow.length):VOk ow.length (folA ow pr su st v):=(h.val (q22 hc) hc hv).ok (h.fn (q22 hc)) hv
theorem vals_at {st:List Int} (h:MvOk su ow.length st) {v:Int} (v0:0≤v) (v1:v<ow.length):atV (q19 ow pr su st) v=folA ow pr su st v:=by
 have _:=hc
 obtain⟨k,rfl⟩:∃k:Nat,v=k:=⟨v.toNat,by omega⟩
 exact valsM_at (by rw[h.l];omega)
theorem vals_nn {st:List Int} (h:MvOk su ow.length st) (v:Int):Nn (atV (q19 ow pr su st) v).se:=by
 by_cases hv:v.toNat<ow.length
 ·have e:atV (q19 ow pr su st) v=folA ow pr su st (v.toNat:Nat):=by
   have:=valsM_at (ow:=ow) (pr:=pr) (su:=su) (st:=st) (v:=v.toNat) (by rw[h.l];exact hv)
   unfold atV at this ⊢
   rw[Int.toNat_natCast]at this
   exact this
  rw[e];exact(q36 hc h hv).nn
 ·unfold atV q19
  rw[List.getD,tabA_none (by rw[h.l];omega)]
  intro x hx;cases hx
theorem vals_in {st:List Int} (h:MvOk su ow.length st):∀x∈q19 ow pr su st,InV pr.length x:=fun x hx=>by
 have V:=q22 hc
 obtain⟨v,hv,rfl⟩:=tabA_mem hx
 rw[V.p]
 exact(q36 hc h (by rw[←h.l];exact hv)).inV V.n1
theorem key_fol {s:Int} (hs:s=1∨s= -1) {st st':List Int} (h:MvOk su ow.length st) (h':MvOk su ow.length st')
  (him:∀v,v<ow.length→0≤s*ordI pr (folA ow pr su st (st'.getD v 0)) (folA ow pr su st (st.getD v 0))) {v:Nat} (hv:v<ow.length):0≤s*ordI pr (folA ow pr su st' v) (folA ow pr su st v):=by
 have V:=q22 hc
 refine key hs (fun v=>(V.prI v).1) (f:=fnM st) (f':=fnM st') (a:=fun v=>folA ow pr su st v) (a':=fun v=>folA ow pr su st' v) (h.fn V) (h'.fn V) (fun v hv=>h.val V hc hv) (fun v hv=>h'.val V hc hv) (fun v hv=>?_) hv
 have h1:=h.rng V hv
 have h2:=h'.rng V hv
 have:=him v hv
 unfold fnM
 rw[show(((st.getD v 0).toNat:Nat):Int)=st.getD v 0 by omega,show(((st'.getD v 0).toNat:Nat):Int)=st'.getD v 0 by omega]
 exact this
theorem fol_eq {s:Int} (hs:s=1∨s= -1) {st st':List Int} (h:MvOk su ow.length st) (h':MvOk su ow.length st') {v:Nat} (hv:v<ow.length) (e:s*ordI pr (folA ow pr su st' v) (folA ow pr su st v)=0):folA ow pr su st' v=folA ow pr su st v:=by
 have V:=q22 hc
 refine(ordI_zero (fun v=>(V.prI v).1) (q36 hc h' hv).rise (q36 hc h hv).rise).1 ?_
 rcases hs with rfl | rfl<;>omega
theorem vals_eq {st st':List Int} (h:MvOk su ow.length st) (h':MvOk su ow.length st') (e:∀v:Nat,v<ow.length→folA ow pr su st' v=folA ow pr su st v):q19 ow pr su st'=q19 ow pr su st:=by
 have _:=hc
 unfold q19
 rw[h.l,h'.l]
 exact q38 fun v hv=>e v hv
theorem mu_step {s:Int} (hs:s=1∨s= -1) {player:Int} {st st':List Int} (h:MvOk su ow.length st) (h':MvOk su ow.length st')
  (hge:∀v:Nat,v<ow.length→0≤s*ordI pr (folA ow pr su st' v) (folA ow pr su st v)) (hch:chgM s ow pr su (q19 ow pr su st) player st=true)
  (hst:(∀v:Nat,v<ow.length→folA ow pr su st' v=folA ow pr su st v)→chgM s ow pr su (q19 ow pr su st') player st'=false):muM s ow pr su player st'<muM s ow pr su player st:=by
 have V:=q22 hc
 have hp:=fun v=>(V.prI v).1
 have O:=ord3_ord hp
 unfold muM
 rw[hch,if_pos rfl]
 have nn:∀{g:List Int} {v:Nat},g∈allMv su→v<ow.length→Nn (folA ow pr su g v).se:=fun {g v} hg hv=>by
  obtain⟨h1,h2⟩:=(allMv_mem su g).1 hg
  exact(q36 hc ⟨by rw[h1,V.s],fun v hv=>h2 v (by rw[V.s];exact hv)⟩ hv).nn
 have tr:∀{g:List Int} {v:Nat},g∈allMv su→v<ow.length→0<s*ordI pr (folA ow pr su g v) (folA ow pr su st' v)→0<s*ordI pr (folA ow pr su g v) (folA ow pr su st v):=fun {g v} hg hv q=>by
  have q2:=hge v hv
  have t1:=O.tr ⟨_,nn hg hv⟩ ⟨_,(q36 hc h hv).nn⟩ ⟨_,(q36 hc h' hv).nn⟩
  have t2:=O.tr ⟨_,(q36 hc h' hv).nn⟩ ⟨_,(q36 hc h hv).nn⟩ ⟨_,nn hg hv⟩
  have a1:=O.anti ⟨_,nn hg hv⟩ ⟨_,(q36 hc h hv).nn⟩
  have a2:=O.anti ⟨_,(q36 hc h hv).nn⟩ ⟨_,(q36 hc h' hv).nn⟩
  have a3:=O.anti ⟨_,nn hg hv⟩ ⟨_,(q36 hc h' hv).nn⟩
  simp only at t1 t2 a1 a2 a3
  rcases hs with rfl | rfl<;>omega
 have hmem:∀{x:List Int×Nat},x∈((allMv su).flatMap fun g=>(List.range ow.length).map fun v=>(g,v))→x.1∈allMv su∧x.2<ow.length:=fun {x} hx=>by
  obtain⟨g,hg,hx⟩:=List.mem_flatMap.1 hx
  obtain⟨v,hv,rfl⟩:=List.mem_map.1 hx
  exact⟨hg,List.mem_range.1 hv⟩
 by_cases hall:∀v:Nat,v<ow.length→folA ow pr su st' v=folA ow pr su st v
 ·rw[hst hall,if_neg (by simp)]
  have:cntM s ow pr su st'≤cntM s ow pr su st:=by
   unfold cntM
   refine filter_leQ fun x hx q=>?_
   obtain⟨h1,h2⟩:=hmem hx
   rw[decide_eq_true_eq]at q ⊢
   exact tr h1 h2 q
  omega
 ·obtain⟨v,hv⟩:=Classical.not_forall.1 hall
  obtain⟨hv,hne⟩:=Classical.not_imp.1 hv
  have hpos:0<s*ordI pr (folA ow pr su st' v) (folA ow pr su st v):=by
   have:=hge v hv
   refine Classical.byContradiction fun q=>hne (fol_eq hc hs h h' hv (by omega))
  have:cntM s ow pr su st'<cntM s ow pr su st:=by
   unfold cntM
   refine filter_ltQ (fun x hx q=>?_) ⟨(st',v),?_,?_,?_⟩
   ·obtain⟨h1,h2⟩:=hmem hx
    rw[decide_eq_true_eq]at q ⊢
    exact tr h1 h2 q
   ·refine List.mem_flatMap.2 ⟨st',(allMv_mem su st').2 ⟨by rw[h'.l,V.s],fun v hv=>h'.m v (by rw[←V.s];exact hv)⟩,List.mem_map.2 ⟨v,List.mem_range.2 hv,rfl⟩⟩
   ·rw[decide_eq_true_eq];exact hpos
   ·rw[decide_eq_false_iff_not]
    have:=O.self ⟨_,(q36 hc h' hv).nn⟩
    simp only at this ⊢
    rw[this];omega
  split<;>omega
theorem stable_le {s:Int} (hs:s=1∨s= -1) {player:Int} {st:List Int} (h:MvOk su ow.length st) (hch:chgM s ow pr su (q19 ow pr su st) player st=false) {v:Nat} (hv:v<ow.length) (ho:ow.getD v 0=player) {u:Int} (hu:u∈su.getD v []):
  s*ordI pr (folA ow pr su st u) (folA ow pr su st (st.getD v 0))≤0:=by
 have V:=q22 hc
 have hp:=fun v=>(V.prI v).1
 obtain⟨_,_,h3⟩:=bestM_spec hs hp (q19 ow pr su st) (vals_nn hc h) (su.getD v []) (st.getD v 0)
 have e:=chg_false.1 hch v (by rw[h.l];exact hv) ho
 have h3:=h3 u hu
 have hr:=h.rng V hv
 have hu2:=su_range V hv hu
 rw[e,vals_at hc h hr.1 hr.2,vals_at hc h hu2.1 hu2.2]at h3
 obtain⟨u',rfl⟩:∃k:Nat,u=k:=⟨u.toNat,by omega⟩
 obtain⟨w',hw'⟩:∃k:Nat,st.getD v 0=k:=⟨(st.getD v 0).toNat,by omega⟩
 rw[hw']at h3 hr ⊢
 have an:=(ord3_ord hp).anti ⟨_,(q36 hc h (v:=u') (by omega)).nn⟩ ⟨_,(q36 hc h (v:=w') (by omega)).nn⟩
 simp only at an
 rcases hs with rfl | rfl<;>omega
theorem imp_ok {s:Int} (hs:s=1∨s= -1) {player:Int} {st:List Int} (h:MvOk su ow.length st):MvOk su ow.length (impM s ow pr su (q19 ow pr su st) player st)∧(∀v,v<ow.length→ow.getD v 0≠player→(impM s ow pr su (q19 ow pr su st) player st).getD v 0=st.getD v 0)∧
  (∀v,v<ow.length→ow.getD v 0=player→0≤s*ordI pr (folA ow pr su st ((impM s ow pr su (q19 ow pr su st) player st).getD v 0)) (folA ow pr su st (st.getD v 0))∧
   ∀u∈su.getD v [],0≤s*ordI pr (folA ow pr su st ((impM s ow pr su (q19 ow pr su st) player st).getD v 0)) (folA ow pr su st u)):=by
 have V:=q22 hc
 have hp:=fun v=>(V.prI v).1
 have at':∀v,v<ow.length→(impM s ow pr su (q19 ow pr su st) player st).getD v 0=impA s ow pr su (q19 ow pr su st) player st v:=fun v hv=>impM_at (by rw[h.l];exact hv)
 have hm:∀v,v<ow.length→(impM s ow pr su (q19 ow pr su st) player st).getD v 0∈su.getD v []:=fun v hv=>by
  rw[at' v hv]
  unfold impA
  split
  ·obtain⟨h1,_,_⟩:=bestM_spec hs hp (q19 ow pr su st) (vals_nn hc h) (su.getD v []) (st.getD v 0)
   rcases h1 with h1 | h1
   ·rw[h1];exact h.m v hv
   ·exact h1
  ·exact h.m v hv
 refine⟨⟨by rw[impM_len,h.l],hm⟩,fun v hv ho=>?_,fun v hv ho=>?_⟩
 ·rw[at' v hv];unfold impA;rw[if_neg ho]
 ·obtain⟨_,h2,h3⟩:=bestM_spec hs hp (q19 ow pr su st) (vals_nn hc h) (su.getD v []) (st.getD v 0)
  have hr:=h.rng V hv
  have hb:=su_range V hv (hm v hv)
  have e:(impM s ow pr su (q19 ow pr su st) player st).getD v 0=bestM s pr (q19 ow pr su st) (st.getD v 0) (su.getD v []):=by rw[at' v hv];unfold impA;rw[if_pos ho]
  rw[←e]at h2 h3
  rw[vals_at hc h hb.1 hb.2,vals_at hc h hr.1 hr.2]at h2
  refine⟨h2,fun u hu=>?_⟩
  have hu2:=su_range V hv hu
  have h3:=h3 u hu
  rw[vals_at hc h hb.1 hb.2,vals_at hc h hu2.1 hu2.2]at h3
  exact h3
theorem self_fol {st:List Int} (h:MvOk su ow.length st) {u:Int} (u0:0≤u) (u1:u<ow.length):ordI pr (folA ow pr su st u) (folA ow pr su st u)=0:=by
 have V:=q22 hc
 obtain⟨k,rfl⟩:∃k:Nat,u=k:=⟨u.toNat,by omega⟩
 exact(ord3_ord fun v=>(V.prI v).1).self ⟨_,(q36 hc h (v:=k) (by omega)).nn⟩
theorem resp_step {st:List Int} (h:MvOk su ow.length st) (hch:chgM (-1) ow pr su (q19 ow pr su st) 1 st=true):muM (-1) ow pr su 1 (impM (-1) ow pr su (q19 ow pr su st) 1 st)<muM (-1) ow pr su 1 st:=by
 have V:=q22 hc
 obtain⟨h',h1,h2⟩:=imp_ok hc (s:= -1) (.inr rfl) (player:=1) h
 refine mu_step hc (.inr rfl) h h' (fun v hv=>key_fol hc (.inr rfl) h h' (fun v hv=>?_) hv) hch fun e=>?_
 ·by_cases ho:ow.getD v 0=1
  ·exact(h2 v hv ho).1
  ·rw[h1 v hv ho]
   have hr:=h.rng V hv
   rw[self_fol hc h hr.1 hr.2];decide
 ·refine chg_false.2 fun v hv ho=>?_
  rw[h'.l]at hv
  rw[vals_eq hc h h' e]
  refine bestM_stay (.inr rfl) (fun v=>(V.prI v).1) _ _ _ fun u hu=>?_
  have hu2:=su_range V hv hu
  have hb:=h'.rng V hv
  rw[vals_at hc h hu2.1 hu2.2,vals_at hc h hb.1 hb.2]
  have:=(h2 v hv ho).2 u hu
  obtain⟨u',rfl⟩:∃k:Nat,u=k:=⟨u.toNat,by omega⟩
  obtain⟨w',hw'⟩:∃k:Nat,(impM (-1) ow pr su (q19 ow pr su st) 1 st).getD v 0=k:=⟨_,(Int.toNat_of_nonneg hb.1).symm⟩
  rw[hw']at this hb ⊢
  have an:=(ord3_ord fun v=>(V.prI v).1).anti ⟨_,(q36 hc h (v:=u') (by omega)).nn⟩ ⟨_,(q36 hc h (v:=w') (by omega)).nn⟩
  simp only at an
  omega
end
structure RespOk (ow pr:List Int) (su:List (List Int)) (st st':List Int):Prop where
 ok:MvOk su ow.length st'
 same:∀v,v<ow.length→ow.getD v 0≠1→st'.getD v 0=st.getD v 0
 best:chgM (-1) ow pr su (q19 ow pr su st') 1 st'=false
section
variable {ow pr:List Int} {su:List (List Int)} (hc:checkM ow pr su=0)
include hc
theorem RespOk.min {st st1 t:List Int} (R:RespOk ow pr su st st1) (ht:MvOk su ow.length t) (hs:∀v,v<ow.length→ow.getD v 0≠1→t.getD v 0=st.getD v 0) {v:Nat} (hv:v<ow.length):0≤ordI pr (folA ow pr su t v) (folA ow pr su st1 v):=by
 have V:=q22 hc
 have:=key_fol hc (s:=1) (.inl rfl) R.ok ht (fun v hv=>?_) hv
 ·rw[Int.one_mul]at this;exact this
 ·rw[Int.one_mul]
  by_cases ho:ow.getD v 0=1
  ·have:=stable_le hc (s:= -1) (.inr rfl) R.ok R.best hv ho (ht.m v hv)
   omega
  ·rw[hs v hv ho,←R.same v hv ho]
   have hr:=R.ok.rng V hv
   rw[self_fol hc R.ok hr.1 hr.2];exact Int.le_refl _
theorem RespOk.up {st0 st1 st3:List Int} (R:RespOk ow pr su st0 st1) (Q:RespOk ow pr su (impM 1 ow pr su (q19 ow pr su st1) 0 st1) st3) (h01:∀v,v<ow.length→ow.getD v 0=0∨ow.getD v 0=1) {v:Nat} (hv:v<ow.length):0≤ordI pr (folA ow pr su st3 v) (folA ow pr su st1 v):=by
 have V:=q22 hc
 obtain⟨h',h1,h2⟩:=imp_ok hc (s:=1) (.inl rfl) (player:=0) R.ok
 have:=key_fol hc (s:=1) (.inl rfl) R.ok Q.ok (fun v hv=>?_) hv
 ·rw[Int.one_mul]at this;exact this
 ·rw[Int.one_mul]
  rcases h01 v hv with ho | ho
  ·rw[Q.same v hv (by omega)]
   have:=(h2 v hv ho).1
   rw[Int.one_mul]at this;exact this
  ·have:=stable_le hc (s:= -1) (.inr rfl) R.ok R.best hv ho (Q.ok.m v hv)
   omega
end
set_option maxRecDepth 10000
open Go.Am renaming pchk→P1,pold→P2,PKNo→P3,ppack→P4,PObj.under→P5,pput→P6,ptset→P7,q55→P8,pev→P9,ofAV→P10,q31→P11,ppad→P12,pfill→P13,q30→P14,AO.effect→P15
open List renaming replicate→L1
open Nat renaming reduceAdd→N1,reduceSub→N2,reduceMul→N3,reduceLT→N4,reduceLeDiff→N5,reduceEqDiff→N6,reduceBEq→N7
open Int renaming reduceToNat→I1,reduceLT→I2,reduceLE→I3,reduceEq→I4,reduceAdd→I5,reduceSub→I6,reduceNeg→I7
abbrev F0:GF:=⟨false,false,false,false,false,false,false,false⟩
abbrev betV (G:List PV):PV:= .func (.func 69) [] [.cp [ordV G] 0]
theorem age_gm (F:GF) (ow pr:List Int) (su:List (List Int)) (xs:List Int):ageL [.agg (gmF F ow pr su),slI true false .i64 xs]=[.agg (gmF F0 ow pr su),slI false false .i64 xs]:=by
 simp only[ageL,PV.age,ageL_ints,ageL_slI]
theorem pfrz_und {n:Nat} {M:Mem} {f o:Bool} {sz m:Nat} {cs:List PV} (h:q14 n cs=true):pfrz n M (.sl f o sz m cs)=some (.sl f o sz m cs):=by simp[pfrz,q67,q43,PV.under,h]
theorem Bnd.of {ow pr:List Int} {su:List (List Int)} (V:Valid ow pr su) (hr:∀r∈su,r.length<big):Bnd ow pr su:=
 ⟨by have:=V.n1;show _<1000000000000;omega,by have:=V.n1;have:=V.p;show _<1000000000000;omega,by have:=V.n1;have:=V.s;show _<1000000000000;omega,hr⟩
section
variable {tab:FuncId→Option AF} (T:HasA tab)
include T
set_option maxHeartbeats 1000000 in
theorem respond_p {K:PV→Mem→Prop} {F:GF} {ow pr st:List Int} {su:List (List Int)} {g ver n:Nat} (hc:checkM ow pr su=0) (B:Bnd ow pr su) (h14:ow.length≤14) (hno:n=ow.length) (hm:MvOk su ow.length st)
  (hk:∀ver' st',RespOk ow pr su st st'→K (.sl false true 3 n (vlsL (q19 ow pr su st'))) [.cells g ver' (st'.map p64)]):
  SemC tab 44 [.agg (gmF F ow pr su),.ref 0 g 1 0 n] [.cells g ver (st.map p64)] K:=by
 subst hno
 have V:=q22 hc
 have hp:=fun v=>(V.prI v).1
 refine SemC_res (SemC_sem T.h44 ?_)
 simp only[af44]
 refine q25 (q35 ?_)
 simp only[PP,P1,P2,P3,P4,P5,P6,P7,P8,P9,P10,P11,P12,P13,P14,L1,P15,N1,N2,N3,N4,N5,N6,N7,I1,I2,I3,I4,I5,I6,I7,reduceIte,reduceCtorEq]
 refine SemW_blk (q25 (SemW_blk (q25 (q25 (q35 ?_)))))
 simp only[PP,P1,P2,P3,P4,P5,P6,P7,P8,P9,P10,P11,P12,P13,P14,L1,P15,N1,N2,N3,N4,N5,N6,N7,I1,I2,I3,I4,I5,I6,I7,reduceIte,reduceCtorEq]
 refine order_p T ?_
 simp only[PP,P1,P2,P3,P4,P5,P6,P7,P8,P9,P10,P11,P12,P13,P14,L1,P15,N1,N2,N3,N4,N5,N6,N7,I1,I2,I3,I4,I5,I6,I7,reduceIte,reduceCtorEq]
 refine SemW_re (b:=[Zj,.ref 0 g 1 0 ow.length,.ptr 1 0 0,Zj,Zj,.cp [ordV (gmF F ow pr su)] 0,Zj,Zj,Zj,Zj,Zj,Zj,Zj,Zj,Zj,Zj,Zj,Zj,Zj,Zj,Zj]) (GStep.freezeP 2 (by decide) rfl (by simp only[PFrzP_nil,PFrzP_junk,PFrzP_same,PFrzP_ptr]) rfl) ?_
 simp only[List.set_cons_succ,List.set_cons_zero]
 --one round,for any moves that respond
 have fin:∀ver' st',RespOk ow pr su st st'→∀M,∃r' N,pfrz 1 (.cells g ver' (st'.map p64)::M) (.sl false true 3 st'.length (vlsL (q19 ow pr su st')))=some r'∧pfrzM 1 (.cells g ver' (st'.map p64)::M) [.cells g ver' (st'.map p64)]=some N∧K r' N:=fun ver' st' R M=>by
  refine⟨_,_,pfrz_und (vlsL_und 1 _),pfrzM_cons (pfrzO_ok (by simp only[cutOk,q58])) rfl,?_⟩
  rw[R.ok.l];exact hk ver' st' R
 have inn:∀st',MvOk su ow.length st'→∀x∈q19 ow pr su st',InV pr.length x:=fun st' h=>vals_in hc h
 have bt:=bt_one T (F:=F) (ow:=ow) (su:=su) hp
 refine q35 ?_
 simp only[PP,P1,P2,P3,P4,P5,P6,P7,P8,P9,P10,P11,P12,P13,P14,L1,P15,N1,N2,N3,N4,N5,N6,N7,I1,I2,I3,I4,I5,I6,I7,reduceIte,reduceCtorEq]
 refine SemC_borF (.same (by simp only[PP,P1,P2,P3,P4,P5,P6,P7,P8,P9,P10,P11,P12,P13,P14,L1,P15,N1,N2,N3,N4,N5,N6,N7,I1,I2,I3,I4,I5,I6,I7,reduceIte,reduceCtorEq]) (.ints rfl hm.l .nil)) (age_gm _ _ _ _ _) (values_p T B h14 (by rw[hm.l];exact h14) ⟨by simp only[PV.young,vlsL_young,Bool.true_and],?_⟩)
 simp only[PP,P1,P2,P3,P4,P5,P6,P7,P8,P9,P10,P11,P12,P13,P14,L1,P15,N1,N2,N3,N4,N5,N6,N7,I1,I2,I3,I4,I5,I6,I7,reduceIte,reduceCtorEq]
 refine SemC_at (pre:=[.agg [p8 1,betV (gmF F ow pr su)],.agg (gmF F ow pr su)]) (post:=[.sl false true 3 st.length (vlsL (q19 ow pr su st))]) rfl (by simp only[PP,P1,P2,P3,P4,P5,P6,P7,P8,P9,P10,P11,P12,P13,P14,L1,P15,N1,N2,N3,N4,N5,N6,N7,I1,I2,I3,I4,I5,I6,I7,reduceIte,reduceCtorEq]) (by simp only[PP,P1,P2,P3,P4,P5,P6,P7,P8,P9,P10,P11,P12,P13,P14,L1,P15,N1,N2,N3,N4,N5,N6,N7,I1,I2,I3,I4,I5,I6,I7,reduceIte,reduceCtorEq,PV.under]) (by simp only[PP,P1,P2,P3,P4,P5,P6,P7,P8,P9,P10,P11,P12,P13,P14,L1,P15,N1,N2,N3,N4,N5,N6,N7,I1,I2,I3,I4,I5,I6,I7,reduceIte,reduceCtorEq,under_slV]) ?_
 have hvl:(q19 ow pr su st).length=ow.length:=by rw[q19,q23,hm.l]
 rw[hm.l]
 refine improve_p T V hm.l hvl rfl bt (fun v hv=>hm.rng V hv) (inn st hm) (fun v1=>⟨by simp only[PP,P1,P2,P3,P4,P5,P6,P7,P8,P9,P10,P11,P12,P13,P14,L1,P15,N1,N2,N3,N4,N5,N6,N7,I1,I2,I3,I4,I5,I6,I7,reduceIte,reduceCtorEq],v1,_,[],rfl,by simp only[PP,P1,P2,P3,P4,P5,P6,P7,P8,P9,P10,P11,P12,P13,P14,L1,P15,N1,N2,N3,N4,N5,N6,N7,I1,I2,I3,I4,I5,I6,I7,reduceIte,reduceCtorEq],?_⟩)
 cases hch:chgM (-1) ow pr su (q19 ow pr su st) 1 st with
 | false=>
  have e:impM (-1) ow pr su (q19 ow pr su st) 1 st=st:=by
   unfold chgM at hch
   rw[decide_eq_false_iff_not,Classical.not_not]at hch;exact hch
  rw[e]
  simp only[PP,P1,P2,P3,P4,P5,P6,P7,P8,P9,P10,P11,P12,P13,P14,L1,P15,N1,N2,N3,N4,N5,N6,N7,I1,I2,I3,I4,I5,I6,I7,reduceIte,reduceCtorEq]
  have:=fin v1 st ⟨hm,fun _ _ _=>rfl,hch⟩
  rw[hm.l]at this
  exact this _
 | true=>
  obtain⟨h1,h2,_⟩:=imp_ok hc (s:= -1) (.inr rfl) (player:=1) hm
  simp only[PP,P1,P2,P3,P4,P5,P6,P7,P8,P9,P10,P11,P12,P13,P14,L1,P15,N1,N2,N3,N4,N5,N6,N7,I1,I2,I3,I4,I5,I6,I7,reduceIte,reduceCtorEq]
  refine loop2 (fun(ver:Nat) (st':List Int)=>MvOk su ow.length st'∧∀v,v<ow.length→ow.getD v 0≠1→st'.getD v 0=st.getD v 0) (fun ver st'=>[Zj,.ref 0 g 1 0 ow.length,.ptr 1 0 0,Zj,Zj,Zj,.ptr 3 0 0,Zj,Zj,Zj,Zj,Zj,Zj,Zj,Zj,Zj,Zj,Zj,Zj,Zj,Zj])
   (fun ver st'=>[.cells g ver (st'.map p64),.cells 0 0 (gmF F ow pr su),.gone,.cells 0 1 [p8 1,betV (gmF F ow pr su)]]) (fun _ st'=>muM (-1) ow pr su 1 st') v1 _ ⟨h1,h2⟩ (by simp only[PW]) rfl ?_
  intro ver st' ⟨h',hsame⟩ ih
  have hvl':(q19 ow pr su st').length=ow.length:=by rw[q19,q23,h'.l]
  refine q15 (by kernel_rfl) ?_
  simp only[PP,P1,P2,P3,P4,P5,P6,P7,P8,P9,P10,P11,P12,P13,P14,L1,P15,N1,N2,N3,N4,N5,N6,N7,I1,I2,I3,I4,I5,I6,I7,reduceIte,reduceCtorEq]
  refine SemC_borF (.same (by simp only[PP,P1,P2,P3,P4,P5,P6,P7,P8,P9,P10,P11,P12,P13,P14,L1,P15,N1,N2,N3,N4,N5,N6,N7,I1,I2,I3,I4,I5,I6,I7,reduceIte,reduceCtorEq]) (.ints rfl h'.l .nil)) (age_gm _ _ _ _ _) (values_p T B h14 (by rw[h'.l];exact h14) ⟨by simp only[PV.young,vlsL_young,Bool.true_and],?_⟩)
  simp only[PP,P1,P2,P3,P4,P5,P6,P7,P8,P9,P10,P11,P12,P13,P14,L1,P15,N1,N2,N3,N4,N5,N6,N7,I1,I2,I3,I4,I5,I6,I7,reduceIte,reduceCtorEq]
  refine SemC_at (pre:=[.agg [p8 1,betV (gmF F ow pr su)],.agg (gmF F ow pr su)]) (post:=[.sl false true 3 st'.length (vlsL (q19 ow pr su st'))]) rfl (by simp only[PP,P1,P2,P3,P4,P5,P6,P7,P8,P9,P10,P11,P12,P13,P14,L1,P15,N1,N2,N3,N4,N5,N6,N7,I1,I2,I3,I4,I5,I6,I7,reduceIte,reduceCtorEq]) (by simp only[PP,P1,P2,P3,P4,P5,P6,P7,P8,P9,P10,P11,P12,P13,P14,L1,P15,N1,N2,N3,N4,N5,N6,N7,I1,I2,I3,I4,I5,I6,I7,reduceIte,reduceCtorEq,PV.under]) (by simp only[PP,P1,P2,P3,P4,P5,P6,P7,P8,P9,P10,P11,P12,P13,P14,L1,P15,N1,N2,N3,N4,N5,N6,N7,I1,I2,I3,I4,I5,I6,I7,reduceIte,reduceCtorEq,under_slV]) ?_
  rw[h'.l]
  refine improve_p T V h'.l hvl' rfl bt (fun v hv=>h'.rng V hv) (inn st' h') (fun v2=>⟨by simp only[PP,P1,P2,P3,P4,P5,P6,P7,P8,P9,P10,P11,P12,P13,P14,L1,P15,N1,N2,N3,N4,N5,N6,N7,I1,I2,I3,I4,I5,I6,I7,reduceIte,reduceCtorEq],v2,_,[],rfl,by simp only[PP,P1,P2,P3,P4,P5,P6,P7,P8,P9,P10,P11,P12,P13,P14,L1,P15,N1,N2,N3,N4,N5,N6,N7,I1,I2,I3,I4,I5,I6,I7,reduceIte,reduceCtorEq],?_⟩)
  cases hch':chgM (-1) ow pr su (q19 ow pr su st') 1 st' with
  | false=>
   have e:impM (-1) ow pr su (q19 ow pr su st') 1 st'=st':=by
    unfold chgM at hch'
    rw[decide_eq_false_iff_not,Classical.not_not]at hch';exact hch'
   rw[e]
   simp only[PP,P1,P2,P3,P4,P5,P6,P7,P8,P9,P10,P11,P12,P13,P14,L1,P15,N1,N2,N3,N4,N5,N6,N7,I1,I2,I3,I4,I5,I6,I7,reduceIte,reduceCtorEq]
   have:=fin v2 st' ⟨h',hsame,hch'⟩
   rw[h'.l]at this
   exact this _
  | true=>
   obtain⟨g1,g2,_⟩:=imp_ok hc (s:= -1) (.inr rfl) (player:=1) h'
   simp only[PP,P1,P2,P3,P4,P5,P6,P7,P8,P9,P10,P11,P12,P13,P14,L1,P15,N1,N2,N3,N4,N5,N6,N7,I1,I2,I3,I4,I5,I6,I7,reduceIte,reduceCtorEq]
   exact q8 (ih v2 _ ⟨g1,fun v hv ho=>by rw[g2 v hv ho];exact hsame v hv ho⟩ (resp_step hc h' hch')) (by simp only[PW])
end
def comL (ow:List Int) (su:List (List Int)) (st:List Int):Nat→Nat→Int
 | _,0=>0
 | k,m+1=>if ow.getD k 0≠1∧st.getD k 0∉su.getD k [] then 13 else comL ow su st (k+1) m
def comE (ow pr:List Int) (su:List (List Int)) (st:List Int):Int:=
 if checkM ow pr su=0 then(if(st.length:Int)=ow.length then comL ow su st 0 ow.length else 2) else checkM ow pr su
def comA (ow:List Int) (su:List (List Int)) (st:List Int) (v:Nat):Int:=if ow.getD v 0=1 then(su.getD v []).getD 0 0 else st.getD v 0
def comM (ow:List Int) (su:List (List Int)) (st:List Int):List Int:=tabA ow.length (comA ow su st)
theorem comL_ok {ow:List Int} {su:List (List Int)} {st:List Int} :∀(m k:Nat),comL ow su st k m=0↔∀v,k≤v→v<k+m→ow.getD v 0=1∨st.getD v 0∈su.getD v []
 | 0,k=>⟨fun _ v h1 h2=>by omega,fun _=>rfl⟩
 | m+1,k=>by
  unfold comL
  split
  ·rename_i h
   refine⟨fun q=>by simp at q,fun q=>?_⟩
   rcases q k (Nat.le_refl _) (by omega) with e | e
   ·exact absurd e h.1
   ·exact absurd e h.2
  ·rename_i h
   rw[comL_ok m (k+1)]
   constructor
   ·intro q v h1 h2
    by_cases e:v=k
    ·subst e
     by_cases e1:ow.getD v 0=1
     ·exact .inl e1
     ·exact .inr (Classical.byContradiction fun e2=>h ⟨e1,e2⟩)
    ·exact q v (by omega) (by omega)
   ·intro q v h1 h2;exact q v (by omega) (by omega)
theorem comE_ok {ow pr:List Int} {su:List (List Int)} {st:List Int} (h:comE ow pr su st=0):checkM ow pr su=0∧st.length=ow.length∧∀v,v<ow.length→ow.getD v 0=1∨st.getD v 0∈su.getD v []:=by
 unfold comE at h
 split at h
 ·rename_i c
  split at h
  ·rename_i c2
   exact⟨c,by omega,fun v hv=>(comL_ok ow.length 0).1 h v (by omega) (by omega)⟩
  ·simp at h
 ·rename_i c;exact absurd h c
theorem comM_at {ow:List Int} {su:List (List Int)} {st:List Int} {v:Nat} (hv:v<ow.length):(comM ow su st).getD v 0=comA ow su st v:=by
 unfold comM
 rw[List.getD,q66 hv];rfl
theorem comM_ok {ow pr:List Int} {su:List (List Int)} {st:List Int} (h:comE ow pr su st=0):MvOk su ow.length (comM ow su st):=by
 obtain⟨c,_,h2⟩:=comE_ok h
 have V:=q22 c
 refine⟨q23 _ _,fun v hv=>?_⟩
 rw[comM_at hv]
 unfold comA
 by_cases e:ow.getD v 0=1
 ·rw[if_pos e]
  have hvs:v<su.length:=by rw[V.s];exact hv
  obtain⟨_,_,_,h0,_⟩:=V.row v hvs
  have er:su.getD v []=su[v]:=by simp[List.getD,List.getElem?_eq_getElem hvs]
  rw[er]
  have:su[v][0]? =some su[v][0]:=List.getElem?_eq_getElem h0
  rw[getD_some this]
  exact List.getElem_mem h0
 ·rw[if_neg e]
  exact(h2 v hv).resolve_left e
theorem comM_same {ow:List Int} {su:List (List Int)} {st:List Int} {v:Nat} (hv:v<ow.length) (ho:ow.getD v 0≠1):(comM ow su st).getD v 0=st.getD v 0:=by
 rw[comM_at hv];unfold comA;rw[if_neg ho]
def impR (ow pr:List Int) (su:List (List Int)) (st1:List Int):List Int:=tabA ow.length fun v=>if ow.getD v 0=1 then-1 else(impM 1 ow pr su (q19 ow pr su st1) 0 st1).getD v 0
section
variable {M l:Mem} {x:PObj} {i:Nat}
theorem gkI:(M++l)[M.length+i]? =l[i]? :=by rw[List.getElem?_append_right (by omega)];congr 1;omega
theorem gkI0:(M++l)[M.length]? =l[0]? :=by rw[List.getElem?_append_right (Nat.le_refl _),Nat.sub_self]
theorem skI:(M++l).set (M.length+i) x=M++l.set i x:=by rw[List.set_append_right _ _ (by omega)];congr 2;omega
theorem skI0:(M++l).set M.length x=M++l.set 0 x:=by rw[List.set_append_right _ _ (Nat.le_refl _),Nat.sub_self]
end
section
variable {tab:FuncId→Option AF} (T:HasA tab)
include T
theorem cloneM_p {M:Mem} {K:PV→Mem→Prop} {f o:Bool} {xs:List Int} (hm:xs.length<big) (hk:∀g v,K (.ref M.length g 1 0 xs.length) (M++[.cells g v (xs.map p64)])):
  SemC tab 61 [slI f o .i64 xs] M K:=by
 have hb:xs.length<1000000000000:=hm
 have b1:xs.length*8≤140737488355328:=by omega
 have b2:xs.length≤9223372036854775807:=by omega
 refine SemC_gh (SemC_sem T.h61 ?_)
 simp only[af61]
 refine q25 (q35 ?_)
 simp only[PP,P1,P2,P3,P4,P5,P6,P7,P8,P9,P10,P11,P12,P13,P14,L1,P15,N1,N2,N3,N4,N5,N6,N7,I1,I2,I3,I4,I5,I6,I7,reduceIte,reduceCtorEq]
 refine q25 (q35 ?_)
 simp only[PP,P1,P2,P3,P4,P5,P6,P7,P8,P9,P10,P11,P12,P13,P14,L1,P15,N1,N2,N3,N4,N5,N6,N7,I1,I2,I3,I4,I5,I6,I7,reduceIte,reduceCtorEq]
 have hone:(xs.map p64).all PV.one=true:=all_one_ints _ _
 refine QIf.intro (fun c=>?_) (fun c=>?_)
 ·constructor
  ·simp only[PP,P1,P2,P3,P4,P5,P6,P7,P8,P9,P10,P11,P12,P13,P14,L1,P15,N1,N2,N3,N4,N5,N6,N7,I1,I2,I3,I4,I5,I6,I7,reduceIte,reduceCtorEq]
   have:xs=[]:=List.length_eq_zero_iff.1 c
   subst this
   exact Gh.step (GStep.nil 0 1 rfl rfl rfl) (Gh.same ⟨_,rfl,hk 0 0⟩)
  ·simp only[PP,P1,P2,P3,P4,P5,P6,P7,P8,P9,P10,P11,P12,P13,P14,L1,P15,N1,N2,N3,N4,N5,N6,N7,I1,I2,I3,I4,I5,I6,I7,reduceIte,reduceCtorEq]
   refine q25 (SemW_lit0 ⟨[],rfl,?_⟩)
   simp only[PP,P1,P2,P3,P4,P5,P6,P7,P8,P9,P10,P11,P12,P13,P14,L1,P15,N1,N2,N3,N4,N5,N6,N7,I1,I2,I3,I4,I5,I6,I7,reduceIte,reduceCtorEq,List.append_assoc,gkI,gkI0,skI,skI0]
   exact⟨⟨b1,b2⟩,q35 (by simp only[PP,P1,P2,P3,P4,P5,P6,P7,P8,P9,P10,P11,P12,P13,P14,L1,P15,N1,N2,N3,N4,N5,N6,N7,I1,I2,I3,I4,I5,I6,I7,reduceIte,reduceCtorEq];exact Gh.same ⟨_,rfl,hk 1 0⟩)⟩
 ·simp only[PP,P1,P2,P3,P4,P5,P6,P7,P8,P9,P10,P11,P12,P13,P14,L1,P15,N1,N2,N3,N4,N5,N6,N7,I1,I2,I3,I4,I5,I6,I7,reduceIte,reduceCtorEq]
  refine q25 (SemW_lit0 ⟨[],rfl,?_⟩)
  simp only[PP,P1,P2,P3,P4,P5,P6,P7,P8,P9,P10,P11,P12,P13,P14,L1,P15,N1,N2,N3,N4,N5,N6,N7,I1,I2,I3,I4,I5,I6,I7,reduceIte,reduceCtorEq,List.append_assoc,gkI,gkI0,skI,skI0]
  exact⟨⟨b1,b2⟩,q35 (by simp only[PP,P1,P2,P3,P4,P5,P6,P7,P8,P9,P10,P11,P12,P13,P14,L1,P15,N1,N2,N3,N4,N5,N6,N7,I1,I2,I3,I4,I5,I6,I7,reduceIte,reduceCtorEq];exact Gh.same ⟨_,rfl,hk 1 0⟩)⟩
set_option maxHeartbeats 1000000 in
theorem complete_l {o0:PObj} {K:PV→Mem→Prop} {F:GF} {f5 o5:Bool} {ow pr st:List Int} {su:List (List Int)} (B:Bnd ow pr su) (hb:st.length<big)
  (hq1:comE ow pr su st≠0→∀N,K (.tuple [.nils,p64 (comE ow pr su st)]) (o0::N))
  (hq2:comE ow pr su st=0→∀x g v,K (.tuple [.ref 2 g 1 0 ow.length,p64 0]) [o0,x,.cells g v ((comM ow su st).map p64)]):
  SemC tab 43 [.agg (gmF F ow pr su),slI f5 o5 .i64 st] [o0] K:=by
 refine q33 T.h43 ?_
 simp only[af43,PP,P1,P2,P3,P4,P5,P6,P7,P8,P9,P10,P11,P12,P13,P14,L1,P15,N1,N2,N3,N4,N5,N6,N7,I1,I2,I3,I4,I5,I6,I7,reduceIte,reduceCtorEq]
 refine check_p T B ?_
 simp only[PP,P1,P2,P3,P4,P5,P6,P7,P8,P9,P10,P11,P12,P13,P14,L1,P15,N1,N2,N3,N4,N5,N6,N7,I1,I2,I3,I4,I5,I6,I7,reduceIte,reduceCtorEq]
 unfold comE at hq1 hq2
 refine QIf.intro (fun c1=>?_) (fun c1=>?_)
 rotate_left
 ·rw[if_neg c1]at hq1
  simp only[PP,P1,P2,P3,P4,P5,P6,P7,P8,P9,P10,P11,P12,P13,P14,L1,P15,N1,N2,N3,N4,N5,N6,N7,I1,I2,I3,I4,I5,I6,I7,reduceIte,reduceCtorEq,c1]
  exact hq1 c1 _
 have V:=q22 c1
 have hs:=V.s
 have n1:=V.n1
 rw[if_pos c1]at hq1 hq2
 simp only[PP,P1,P2,P3,P4,P5,P6,P7,P8,P9,P10,P11,P12,P13,P14,L1,P15,N1,N2,N3,N4,N5,N6,N7,I1,I2,I3,I4,I5,I6,I7,reduceIte,reduceCtorEq,c1]
 refine QIf.intro (fun c2=>?_) (fun c2=>?_)
 rotate_left
 ·rw[if_neg c2]at hq1
  simp only[PP,P1,P2,P3,P4,P5,P6,P7,P8,P9,P10,P11,P12,P13,P14,L1,P15,N1,N2,N3,N4,N5,N6,N7,I1,I2,I3,I4,I5,I6,I7,reduceIte,reduceCtorEq,c2]
  exact hq1 (by decide) _
 rw[if_pos c2]at hq1 hq2
 have hsl:st.length=ow.length:=by omega
 simp only[PP,P1,P2,P3,P4,P5,P6,P7,P8,P9,P10,P11,P12,P13,P14,L1,P15,N1,N2,N3,N4,N5,N6,N7,I1,I2,I3,I4,I5,I6,I7,reduceIte,reduceCtorEq,c2]
 refine cloneM_p T hb (fun g v=>?_)
 simp only[PP,P1,P2,P3,P4,P5,P6,P7,P8,P9,P10,P11,P12,P13,P14,L1,P15,N1,N2,N3,N4,N5,N6,N7,I1,I2,I3,I4,I5,I6,I7,reduceIte,reduceCtorEq,hsl]
 have hst0:st=tabA ow.length fun v=>if v<0 then comA ow su st v else st.getD v 0:=by
  refine tabA_ext hsl fun v hv=>?_
  rw[if_neg (by omega)]
  obtain⟨x,hx⟩:=q13 (xs:=st) (k:=v) (by omega)
  rw[getD_some hx,hx]
 refine loop2 (fun(k ver:Nat)=>k≤ow.length∧comL ow su st k (ow.length-k)=comL ow su st 0 ow.length) (fun k ver=>[Zj,Zj,.ptr 1 0 0,Zj,Zj,Zj,Zj,.ref 2 g 1 0 ow.length,Zj,Zj,Zj,Zj,Zj,Zj,Zj,Zj,Zj,Zj,Zj,Zj,Zj,Zj,Zj,Zj,slR F.f3 F.o3 F.f4 F.o4 .i64 su,p64 su.length,p64 k,Zj,Zj,Zj,Zj,Zj,Zj,Zj,Zj,Zj,Zj,Zj,Zj,Zj,Zj,Zj,Zj,Zj,Zj,Zj,Zj,Zj,Zj,Zj,Zj,Zj])
  (fun k ver=>[o0,.cells 0 0 (gmF F ow pr su),.cells g ver ((tabA ow.length fun v=>if v<k then comA ow su st v else st.getD v 0).map p64)]) (fun k _=>ow.length-k) 0 v ⟨Nat.zero_le _,rfl⟩ (by simp only[PW]) (by rw[←hst0]) ?_
 intro k ver ⟨hle,hcl⟩ ih
 obtain⟨X,hX⟩:∃X,X=tabA ow.length fun v=>if v<k then comA ow su st v else st.getD v 0:=⟨_,rfl⟩
 have hXl:X.length=ow.length:=by rw[hX,q23]
 rw[←hX]
 refine q15 (by kernel_rfl) ?_
 simp only[PP,P1,P2,P3,P4,P5,P6,P7,P8,P9,P10,P11,P12,P13,P14,L1,P15,N1,N2,N3,N4,N5,N6,N7,I1,I2,I3,I4,I5,I6,I7,reduceIte,reduceCtorEq]
 refine QIf.intro (fun d=>?_) (fun d=>?_)
 rotate_left
 ·have hkn:k=ow.length:=by omega
  have hXc:X=comM ow su st:=by
   rw[hX];unfold comM
   exact q38 fun v hv=>if_pos (by omega)
  rw[hkn,Nat.sub_self]at hcl
  simp only[PP,P1,P2,P3,P4,P5,P6,P7,P8,P9,P10,P11,P12,P13,P14,L1,P15,N1,N2,N3,N4,N5,N6,N7,I1,I2,I3,I4,I5,I6,I7,reduceIte,reduceCtorEq,d]
  rw[hXc]
  exact hq2 hcl.symm _ _ _
 have hk:k<ow.length:=by omega
 have hw:=q10 (k:=k) (by show _<1000000000000;omega)
 have k0:(0:Int)≤k:=by omega
 obtain⟨x0,gx0⟩:=q13 (xs:=st) (k:=k) (by omega)
 have ex0:st.getD k 0=x0:=getD_some gx0
 have gX:X[k]? =some x0:=by rw[hX,q66 hk,if_neg (by omega),ex0]
 obtain⟨row,gr⟩:=q13 (xs:=su) (k:=k) (by omega)
 have er:su.getD k []=row:=by simp[List.getD,gr]
 obtain⟨o,go⟩:=q13 (xs:=ow) (k:=k) hk
 have eo:ow.getD k 0=o:=getD_some go
 have hks:k<su.length:=by omega
 obtain⟨_,_,_,h0,_⟩:=V.row k hks
 have erow:su[k]=row:=by rw[List.getElem?_eq_getElem hks]at gr;cases gr;rfl
 rw[erow]at h0
 obtain⟨r0,gr0⟩:=q13 h0
 have er0:row.getD 0 0=r0:=getD_some gr0
 have hup:∀y,comA ow su st k=y→X.set k y=tabA ow.length fun v=>if v<k+1 then comA ow su st v else st.getD v 0:=fun y hy=>by
  rw[hX,tabA_set y hk]
  refine q38 fun v hv=>?_
  by_cases e:v=k
  ·subst e;rw[if_pos rfl,if_pos (by omega),hy]
  ·rw[if_neg e]
   by_cases q:v<k
   ·rw[if_pos q,if_pos (by omega)]
   ·rw[if_neg q,if_neg (by omega)]
 obtain⟨m,hm⟩:∃m,ow.length-k=m+1:=⟨ow.length-k-1,by omega⟩
 rw[hm,comL,eo,ex0,er]at hcl
 have hm2:ow.length-(k+1)=m:=by omega
 have ko:(k:Int)<ow.length:=by omega
 have h00:(0:Int)<row.length:=by omega
 have hkX:k<X.length:=by omega
 simp only[PP,P1,P2,P3,P4,P5,P6,P7,P8,P9,P10,P11,P12,P13,P14,L1,P15,N1,N2,N3,N4,N5,N6,N7,I1,I2,I3,I4,I5,I6,I7,reduceIte,reduceCtorEq,d,gr,go,k0,ko]
 refine QIf.intro (fun e=>?_) (fun e=>?_)
 ·rw[if_neg (fun q=>q.1 e)]at hcl
  have hset:(X.map p64).set k (p64 r0)=(X.set k r0).map p64:=by rw[List.map_set]
  have hA:comA ow su st k=r0:=by unfold comA;rw[eo,if_pos e,er,er0]
  have h1:=hup r0 hA
  simp only[PP,P1,P2,P3,P4,P5,P6,P7,P8,P9,P10,P11,P12,P13,P14,L1,P15,N1,N2,N3,N4,N5,N6,N7,I1,I2,I3,I4,I5,I6,I7,reduceIte,reduceCtorEq,e,gr0,h00,k0,ko,hkX,hset,hw]
  refine⟨by omega,q20 (ih (k+1) (ver+1) ⟨by omega,by rw[hm2];exact hcl⟩ (by omega)) (by simp only[PW]) (by rw[h1])⟩
 ·simp only[PP,P1,P2,P3,P4,P5,P6,P7,P8,P9,P10,P11,P12,P13,P14,L1,P15,N1,N2,N3,N4,N5,N6,N7,I1,I2,I3,I4,I5,I6,I7,reduceIte,reduceCtorEq,e,gX,k0,ko]
  refine contains_p T (B.r _ (List.mem_of_getElem? gr)) ?_
  by_cases q:x0∈row
  ·rw[if_neg (fun z=>z.2 q)]at hcl
   have hA:comA ow su st k=x0:=by unfold comA;rw[eo,if_neg e,ex0]
   have h1:=hup x0 hA
   have hid:X.set k x0=X:=by
    refine List.ext_getElem? fun i=>?_
    by_cases e:k=i
    ·subst e;rw[List.getElem?_set_self hkX,gX]
    ·rw[List.getElem?_set_ne e]
   simp only[PP,P1,P2,P3,P4,P5,P6,P7,P8,P9,P10,P11,P12,P13,P14,L1,P15,N1,N2,N3,N4,N5,N6,N7,I1,I2,I3,I4,I5,I6,I7,reduceIte,reduceCtorEq,q,hw]
   exact q20 (ih (k+1) ver ⟨by omega,by rw[hm2];exact hcl⟩ (by omega)) (by simp only[PW]) (by rw[←h1,hid])
  ·rw[if_pos ⟨e,q⟩]at hcl
   rw[←hcl]at hq1
   simp only[PP,P1,P2,P3,P4,P5,P6,P7,P8,P9,P10,P11,P12,P13,P14,L1,P15,N1,N2,N3,N4,N5,N6,N7,I1,I2,I3,I4,I5,I6,I7,reduceIte,reduceCtorEq,q]
   exact hq1 (by decide) _
set_option maxHeartbeats 1000000 in
theorem Improve_p {M:Mem} {K:PV→Mem→Prop} {F:GF} {f5 o5:Bool} {ow pr st:List Int} {su:List (List Int)} (B:Bnd ow pr su) (h14:ow.length≤14) (hb:st.length<big)
  (hq1:comE ow pr su st≠0→K (.tuple [slI false true .i64 [],.bool false,p64 (comE ow pr su st)]) M)
  (hq2:comE ow pr su st=0→∀st1,RespOk ow pr su (comM ow su st) st1→K (.tuple [slI false true .i64 (impR ow pr su st1),.bool (chgM 1 ow pr su (q19 ow pr su st1) 0 st1),p64 0]) M):
  SemC tab 15 [.agg (gmF F ow pr su),slI f5 o5 .i64 st] M K:=by
 refine SemC_wk ?_
 refine q11 T.h15 (by simp only[PP,P1,P2,P3,P4,P5,P6,P7,P8,P9,P10,P11,P12,P13,P14,L1,P15,N1,N2,N3,N4,N5,N6,N7,I1,I2,I3,I4,I5,I6,I7,reduceIte,reduceCtorEq]) ?_
 simp only[af15,PP,P1,P2,P3,P4,P5,P6,P7,P8,P9,P10,P11,P12,P13,P14,L1,P15,N1,N2,N3,N4,N5,N6,N7,I1,I2,I3,I4,I5,I6,I7,reduceIte,reduceCtorEq]
 refine complete_l T B hb (fun c N=>?_) (fun c x g v=>?_)
 ·simp only[PP,P1,P2,P3,P4,P5,P6,P7,P8,P9,P10,P11,P12,P13,P14,L1,P15,N1,N2,N3,N4,N5,N6,N7,I1,I2,I3,I4,I5,I6,I7,reduceIte,reduceCtorEq,c]
  refine⟨.tuple [slI false true .i64 [],.bool false,p64 (comE ow pr su st)],PvWk.tuple rfl fun i y z h1 h2=>?_,hq1 c⟩
  match i with
  | 0=>cases h1;cases h2;exact PvWk.nils _ _ _
  | 1=>cases h1;cases h2;exact PvWk.refl _
  | 2=>cases h1;cases h2;exact PvWk.refl _
  | i+3=>simp at h1
 obtain⟨hc,_,_⟩:=comE_ok c
 have V:=q22 hc
 have n1:=V.n1
 have hp:=fun v=>(V.prI v).1
 have hq2:=hq2 c
 simp only[PP,P1,P2,P3,P4,P5,P6,P7,P8,P9,P10,P11,P12,P13,P14,L1,P15,N1,N2,N3,N4,N5,N6,N7,I1,I2,I3,I4,I5,I6,I7,reduceIte,reduceCtorEq,c]
 refine order_p T ?_
 simp only[PP,P1,P2,P3,P4,P5,P6,P7,P8,P9,P10,P11,P12,P13,P14,L1,P15,N1,N2,N3,N4,N5,N6,N7,I1,I2,I3,I4,I5,I6,I7,reduceIte,reduceCtorEq]
 refine SemC_at (pre:=[.agg (gmF F ow pr su)]) (post:=[]) rfl (by simp only[PP,P1,P2,P3,P4,P5,P6,P7,P8,P9,P10,P11,P12,P13,P14,L1,P15,N1,N2,N3,N4,N5,N6,N7,I1,I2,I3,I4,I5,I6,I7,reduceIte,reduceCtorEq]) (by simp only[PP,P1,P2,P3,P4,P5,P6,P7,P8,P9,P10,P11,P12,P13,P14,L1,P15,N1,N2,N3,N4,N5,N6,N7,I1,I2,I3,I4,I5,I6,I7,reduceIte,reduceCtorEq]) rfl (respond_p T hc B h14 rfl (comM_ok c) (fun v' st1 R=>⟨under_slV _ _ _ _ _ _,v',_,[],rfl,by simp only[PP,P1,P2,P3,P4,P5,P6,P7,P8,P9,P10,P11,P12,P13,P14,L1,P15,N1,N2,N3,N4,N5,N6,N7,I1,I2,I3,I4,I5,I6,I7,reduceIte,reduceCtorEq],?_⟩))
 simp only[PP,P1,P2,P3,P4,P5,P6,P7,P8,P9,P10,P11,P12,P13,P14,L1,P15,N1,N2,N3,N4,N5,N6,N7,I1,I2,I3,I4,I5,I6,I7,reduceIte,reduceCtorEq]
 have hvl:(q19 ow pr su st1).length=ow.length:=by rw[q19,q23,R.ok.l]
 refine⟨by by_cases e:v=v'<;>simp[e],?_⟩
 refine SemC_at (pre:=[.agg [p8 0,ordV (gmF F ow pr su)],.agg (gmF F ow pr su)]) (post:=[.sl false true 3 ow.length (vlsL (q19 ow pr su st1))]) rfl (by simp only[PP,P1,P2,P3,P4,P5,P6,P7,P8,P9,P10,P11,P12,P13,P14,L1,P15,N1,N2,N3,N4,N5,N6,N7,I1,I2,I3,I4,I5,I6,I7,reduceIte,reduceCtorEq]) (by simp only[PP,P1,P2,P3,P4,P5,P6,P7,P8,P9,P10,P11,P12,P13,P14,L1,P15,N1,N2,N3,N4,N5,N6,N7,I1,I2,I3,I4,I5,I6,I7,reduceIte,reduceCtorEq,PV.under]) (by simp only[PP,P1,P2,P3,P4,P5,P6,P7,P8,P9,P10,P11,P12,P13,P14,L1,P15,N1,N2,N3,N4,N5,N6,N7,I1,I2,I3,I4,I5,I6,I7,reduceIte,reduceCtorEq,under_slV]) ?_
 refine(improve_p T V R.ok.l hvl rfl (bt_zero T hp) (fun v hv=>R.ok.rng V hv) (vals_in hc R.ok) (fun v2=>⟨by simp only[PP,P1,P2,P3,P4,P5,P6,P7,P8,P9,P10,P11,P12,P13,P14,L1,P15,N1,N2,N3,N4,N5,N6,N7,I1,I2,I3,I4,I5,I6,I7,reduceIte,reduceCtorEq],v2,_,[],rfl,by simp only[PP,P1,P2,P3,P4,P5,P6,P7,P8,P9,P10,P11,P12,P13,P14,L1,P15,N1,N2,N3,N4,N5,N6,N7,I1,I2,I3,I4,I5,I6,I7,reduceIte,reduceCtorEq],?_⟩))
 simp only[PP,P1,P2,P3,P4,P5,P6,P7,P8,P9,P10,P11,P12,P13,P14,L1,P15,N1,N2,N3,N4,N5,N6,N7,I1,I2,I3,I4,I5,I6,I7,reduceIte,reduceCtorEq]
 obtain⟨I,hI⟩:∃I,I=impM 1 ow pr su (q19 ow pr su st1) 0 st1:=⟨_,rfl⟩
 have hIl:I.length=ow.length:=by rw[hI,impM_len,R.ok.l]
 have hI0:I=tabA ow.length fun v=>if v<0 then(if ow.getD v 0=1 then-1 else I.getD v 0) else I.getD v 0:=by
  refine tabA_ext hIl fun v hv=>?_
  rw[if_neg (by omega)]
  obtain⟨x,hx⟩:=q13 (xs:=I) (k:=v) (by omega)
  rw[getD_some hx,hx]
 obtain⟨ch,hch⟩:∃ch,ch=chgM 1 ow pr su (q19 ow pr su st1) 0 st1:=⟨_,rfl⟩
 have hq2:=hq2 st1 R
 unfold impR at hq2
 rw[←hI,←hch]at hq2
 rw[←hI,←hch]
 refine loop2 (fun(k ver:Nat)=>k≤ow.length) (fun k ver=>[Zj,Zj,Zj,Zj,Zj,.bool ch,Zj,.ref 2 g 1 0 ow.length,Zj,Zj,Zj,Zj,Zj,Zj,Zj,Zj,Zj,Zj,Zj,Zj,Zj,Zj,Zj,Zj,Zj,Zj,Zj,Zj,Zj,slI F.f1 F.o1 .u8 ow,p64 ow.length,p64 k,Zj,Zj,Zj,Zj,Zj,Zj,Zj,Zj,Zj,Zj,Zj,Zj])
  (fun k ver=>[.cells 0 0 (gmF F ow pr su),x,.cells g ver ((tabA ow.length fun v=>if v<k then(if ow.getD v 0=1 then-1 else I.getD v 0) else I.getD v 0).map p64)]) (fun k _=>ow.length-k) 0 v2 (Nat.zero_le _) (by simp only[PW]) (by rw[←hI0]) ?_
 intro k ver hle ih
 obtain⟨X,hX⟩:∃X,X=tabA ow.length fun v=>if v<k then(if ow.getD v 0=1 then-1 else I.getD v 0) else I.getD v 0:=⟨_,rfl⟩
 have hXl:X.length=ow.length:=by rw[hX,q23]
 rw[←hX]
 refine q15 (by kernel_rfl) ?_
 simp only[PP,P1,P2,P3,P4,P5,P6,P7,P8,P9,P10,P11,P12,P13,P14,L1,P15,N1,N2,N3,N4,N5,N6,N7,I1,I2,I3,I4,I5,I6,I7,reduceIte,reduceCtorEq]
 refine QIf.intro (fun d=>?_) (fun d=>?_)
 rotate_left
 ·have hkn:k=ow.length:=by omega
  have hXc:X=tabA ow.length fun v=>if ow.getD v 0=1 then-1 else I.getD v 0:=by
   rw[hX];exact q38 fun v hv=>if_pos (by omega)
  have hps:psub (X.map p64) 0 ow.length=X.map p64:=q53 _ _ (by rw[List.length_map];omega)
  have hxl:ow.length≤X.length:=by omega
  simp only[PP,P1,P2,P3,P4,P5,P6,P7,P8,P9,P10,P11,P12,P13,P14,L1,P15,N1,N2,N3,N4,N5,N6,N7,I1,I2,I3,I4,I5,I6,I7,reduceIte,reduceCtorEq,d,hxl,hps]
  refine⟨_,PvWk.refl _,?_⟩
  rw[←hXc]at hq2
  rw[←hXl]
  exact hq2
 have hk:k<ow.length:=by omega
 have hw:=q10 (k:=k) (by show _<1000000000000;omega)
 have k0:(0:Int)≤k:=by omega
 obtain⟨o,go⟩:=q13 (xs:=ow) (k:=k) hk
 have eo:ow.getD k 0=o:=getD_some go
 have hkX:k<X.length:=by omega
 have hup:∀y,(if ow.getD k 0=1 then-1 else I.getD k 0)=y→X.set k y=tabA ow.length fun v=>if v<k+1 then(if ow.getD v 0=1 then-1 else I.getD v 0) else I.getD v 0:=fun y hy=>by
  rw[hX,tabA_set y hk]
  refine q38 fun v hv=>?_
  by_cases e:v=k
  ·subst e;rw[if_pos rfl,if_pos (show v<v+1 by omega),hy]
  ·rw[if_neg e]
   by_cases q:v<k
   ·rw[if_pos q,if_pos (show v<k+1 by omega)]
   ·rw[if_neg q,if_neg (show ¬v<k+1 by omega)]
 simp only[PP,P1,P2,P3,P4,P5,P6,P7,P8,P9,P10,P11,P12,P13,P14,L1,P15,N1,N2,N3,N4,N5,N6,N7,I1,I2,I3,I4,I5,I6,I7,reduceIte,reduceCtorEq,d,go,k0]
 refine QIf.intro (fun e=>?_) (fun e=>?_)
 ·have hset:(X.map p64).set k (p64 (-1))=(X.set k (-1)).map p64:=by rw[List.map_set]
  have h1:=hup (-1) (by rw[eo,if_pos e])
  have kn:(k:Int)<ow.length:=by omega
  simp only[PP,P1,P2,P3,P4,P5,P6,P7,P8,P9,P10,P11,P12,P13,P14,L1,P15,N1,N2,N3,N4,N5,N6,N7,I1,I2,I3,I4,I5,I6,I7,reduceIte,reduceCtorEq,e,k0,kn,hkX,hset,hw]
  exact⟨by omega,q20 (ih (k+1) (ver+1) (by omega) (by omega)) (by simp only[PW]) (by rw[h1])⟩
 ·have h1:=hup (I.getD k 0) (by rw[eo,if_neg e])
  have gX:X[k]? =some (I.getD k 0):=by rw[hX,q66 hk,if_neg (by omega)]
  have hid:X.set k (I.getD k 0)=X:=by
   refine List.ext_getElem? fun i=>?_
   by_cases e:k=i
   ·subst e;rw[List.getElem?_set_self hkX,gX]
   ·rw[List.getElem?_set_ne e]
  simp only[PP,P1,P2,P3,P4,P5,P6,P7,P8,P9,P10,P11,P12,P13,P14,L1,P15,N1,N2,N3,N4,N5,N6,N7,I1,I2,I3,I4,I5,I6,I7,reduceIte,reduceCtorEq,e,hw]
  exact q20 (ih (k+1) ver (by omega) (by omega)) (by simp only[PW]) (by rw[←h1,hid])
end
abbrev gameTy:Ty:= .pair (.slice (.int .u8)) (.pair (.slice (.int .i64)) (.pair (.slice (.slice (.int .i64))) .unit))
structure Nums (ow pr:List Int) (su:List (List Int)):Prop where
 o:∀x∈ow,0≤x∧x≤255
 p:∀x∈pr,-9223372036854775808≤x∧x≤9223372036854775807
 s:∀r∈su,∀x∈r,-9223372036854775808≤x∧x≤9223372036854775807
 lo:ow.length≤9223372036854775807
 lp:pr.length≤9223372036854775807
 ls:su.length≤9223372036854775807
 lr:∀r∈su,r.length≤9223372036854775807
theorem arg_game {v:AV} {h:H} (hs:ShV gameTy v h):∃(ow pr:List Int) (su:List (List Int)),RepV (wH h) (gmP false false false false false false false false ow pr su) v∧Nums ow pr su:=by
 obtain⟨avs,hs,rfl⟩:=hs
 obtain⟨c1,c2,rfl,h1,c3,c4,rfl,h2,c5,c6,rfl,h3,h4⟩:=hs
 have h4:c6=[]:=h4
 subst h4
 obtain⟨vo,ow,rfl,p1,q1,r1⟩:=sh_intsP h1
 obtain⟨vp,pr,rfl,p2,q2,r2⟩:=sh_intsP h2
 obtain⟨vs,su,rfl,p3,q3,r3⟩:=sh_rowsP h3
 refine⟨ow,pr,su,?_,⟨r1,r2,fun r hr=>(r3 r hr).2,q1,q2,q3,fun r hr=>(r3 r hr).1⟩⟩
 have:=RepL.cons p1 (.cons p2 (.cons p3 (.nil (wH h))))
 exact .agg this.len this.get
theorem arg_ints {k:IntKind} {v:AV} {h:H} (hs:ShV (.slice (.int k)) v h):∃(xs:List Int),RepV (wH h) (slI false false k xs) v∧xs.length≤9223372036854775807∧∀x∈xs,k.min≤x∧x≤k.max:=by
 obtain⟨avs,hs,rfl⟩:=hs
 obtain⟨v,xs,rfl,p,q,r⟩:=sh_intsP hs
 exact⟨xs,p,q,r⟩
theorem run_of_C {tab:FuncId→Option AF} {g:FuncId} {args:List AV} {h:H} (hc:C (lim tab) g args h fun v _=>v= .bool true):∃n h',(run tab n).call g args h=some (.bool true,h'):=by
 unfold C at hc
 obtain⟨v,h',he,rfl⟩:=hc
 obtain⟨n,hn⟩:=(lim_call_iff tab).1 he
 exact⟨n,h',hn⟩
theorem shVs2 {A B:Ty} {args:List AV} {h:H} (hs:ShVs [A,B] args h):∃a b,args=[a,b]∧ShV A a h∧ShV B b h:=by
 match args,hs with
 | [a,b],⟨h1,h2,_⟩=>exact⟨a,b,rfl,h1,h2⟩
section
variable {tab:FuncId→Option AF} (T:HasA tab)
include T
theorem long32_p {M:Mem} {K:PV→Mem→Prop} {F:GF} {f5 o5 f6 o6:Bool} {ow pr:List Int} {su ls:List (List Int)} (hl:ls.length<big) (hk:∀b:Bool,(b=false→longM ow pr su ls=false∧ow.length≤14)→K (.bool b) M):
  SemC tab 10 [.agg (gmF F ow pr su),slR f5 o5 f6 o6 .i64 ls] M K:=by
 refine q11 T.h10 (by simp only[PP,P1,P2,P3,P4,P5,P6,P7,P8,P9,P10,P11,P12,P13,P14,L1,P15,N1,N2,N3,N4,N5,N6,N7,I1,I2,I3,I4,I5,I6,I7,reduceIte,reduceCtorEq]) ?_
 simp only[af10,PP,P1,P2,P3,P4,P5,P6,P7,P8,P9,P10,P11,P12,P13,P14,L1,P15,N1,N2,N3,N4,N5,N6,N7,I1,I2,I3,I4,I5,I6,I7,reduceIte,reduceCtorEq]
 refine long_p T hl ?_
 simp only[PP,P1,P2,P3,P4,P5,P6,P7,P8,P9,P10,P11,P12,P13,P14,L1,P15,N1,N2,N3,N4,N5,N6,N7,I1,I2,I3,I4,I5,I6,I7,reduceIte,reduceCtorEq]
 cases h:longM ow pr su ls with
 | true=>
  simp only[PP,P1,P2,P3,P4,P5,P6,P7,P8,P9,P10,P11,P12,P13,P14,L1,P15,N1,N2,N3,N4,N5,N6,N7,I1,I2,I3,I4,I5,I6,I7,reduceIte,reduceCtorEq]
  exact hk true fun h=>by cases h
 | false=>
  simp only[PP,P1,P2,P3,P4,P5,P6,P7,P8,P9,P10,P11,P12,P13,P14,L1,P15,N1,N2,N3,N4,N5,N6,N7,I1,I2,I3,I4,I5,I6,I7,reduceIte,reduceCtorEq]
  by_cases c:(14:Int)<ow.length
  ·rw[decide_eq_true c]
   exact hk true fun h=>by cases h
  ·rw[decide_eq_false c]
   exact hk false fun _=>⟨h,by omega⟩
end
theorem Rise.pair:∀{l:List Int} {k:Int},Rise k l→l.Pairwise (· < ·)
 | [],_,_=> .nil
 | x::l,k,h=>List.pairwise_cons.2 ⟨fun y hy=>h.2.lt hy,h.2.pair⟩
theorem RespOk.congr {ow pr:List Int} {su:List (List Int)} {a b x:List Int} (R:RespOk ow pr su a x) (h:∀v,v<ow.length→ow.getD v 0≠1→a.getD v 0=b.getD v 0):RespOk ow pr su b x:=
 ⟨R.ok,fun v hv ho=>by rw[R.same v hv ho,h v hv ho],R.best⟩
theorem impR_len {ow pr:List Int} {su:List (List Int)} {st1:List Int} :(impR ow pr su st1).length=ow.length:=q23 _ _
section
variable {tab:FuncId→Option AF} (T:HasA tab)
include T
theorem rWrong_p {M:Mem} {K:PV→Mem→Prop} {F:GF} {f5 o5:Bool} {ow pr st:List Int} {su:List (List Int)} (B:Bnd ow pr su) (ho:∀x∈ow,0≤x) (hb:st.length<big) (hk:K (p64 (comE ow pr su st)) M):
  SemC tab 16 [.agg (gmF F ow pr su),slI f5 o5 .i64 st] M K:=by
 refine q11 T.h16 (by simp only[PP,P1,P2,P3,P4,P5,P6,P7,P8,P9,P10,P11,P12,P13,P14,L1,P15,N1,N2,N3,N4,N5,N6,N7,I1,I2,I3,I4,I5,I6,I7,reduceIte,reduceCtorEq]) ?_
 simp only[af16,PP,P1,P2,P3,P4,P5,P6,P7,P8,P9,P10,P11,P12,P13,P14,L1,P15,N1,N2,N3,N4,N5,N6,N7,I1,I2,I3,I4,I5,I6,I7,reduceIte,reduceCtorEq]
 refine refCheck_p T B ?_
 simp only[PP,P1,P2,P3,P4,P5,P6,P7,P8,P9,P10,P11,P12,P13,P14,L1,P15,N1,N2,N3,N4,N5,N6,N7,I1,I2,I3,I4,I5,I6,I7,reduceIte,reduceCtorEq]
 unfold comE at hk
 refine QIf.intro (fun c1=>?_) (fun c1=>?_)
 rotate_left
 ·rw[if_neg c1]at hk
  simp only[PP,P1,P2,P3,P4,P5,P6,P7,P8,P9,P10,P11,P12,P13,P14,L1,P15,N1,N2,N3,N4,N5,N6,N7,I1,I2,I3,I4,I5,I6,I7,reduceIte,reduceCtorEq,c1]
  exact hk
 have V:=q22 c1
 have hs:=V.s
 have n1:=V.n1
 rw[if_pos c1]at hk
 simp only[PP,P1,P2,P3,P4,P5,P6,P7,P8,P9,P10,P11,P12,P13,P14,L1,P15,N1,N2,N3,N4,N5,N6,N7,I1,I2,I3,I4,I5,I6,I7,reduceIte,reduceCtorEq,c1]
 refine QIf.intro (fun c2=>?_) (fun c2=>?_)
 rotate_left
 ·rw[if_neg c2]at hk
  simp only[PP,P1,P2,P3,P4,P5,P6,P7,P8,P9,P10,P11,P12,P13,P14,L1,P15,N1,N2,N3,N4,N5,N6,N7,I1,I2,I3,I4,I5,I6,I7,reduceIte,reduceCtorEq,c2]
  exact hk
 rw[if_pos c2]at hk
 have hsl:st.length=ow.length:=by omega
 simp only[PP,P1,P2,P3,P4,P5,P6,P7,P8,P9,P10,P11,P12,P13,P14,L1,P15,N1,N2,N3,N4,N5,N6,N7,I1,I2,I3,I4,I5,I6,I7,reduceIte,reduceCtorEq,c2]
 refine loop1 (fun(k:Nat)=>k≤ow.length∧comL ow su st k (ow.length-k)=comL ow su st 0 ow.length) (fun k=>[Zj,slI f5 o5 .i64 st,.ptr 0 0 0,Zj,Zj,Zj,p64 k,Zj,Zj,Zj,Zj,Zj,Zj,Zj,Zj,Zj,Zj,Zj,Zj,Zj,Zj,Zj,Zj,Zj,Zj,Zj,Zj,Zj,Zj,Zj,Zj,Zj,Zj,Zj,Zj,Zj,Zj,Zj,Zj,Zj,Zj,Zj,Zj]) (fun _=>[.cells 0 0 (gmF F ow pr su)]) (fun k=>ow.length-k) 0 ⟨Nat.zero_le _,rfl⟩ (by simp only[PW]) rfl ?_
 intro k ⟨hle,hcl⟩ ih
 refine q15 (by kernel_rfl) ?_
 simp only[PP,P1,P2,P3,P4,P5,P6,P7,P8,P9,P10,P11,P12,P13,P14,L1,P15,N1,N2,N3,N4,N5,N6,N7,I1,I2,I3,I4,I5,I6,I7,reduceIte,reduceCtorEq,hsl]
 refine QIf.intro (fun d=>?_) (fun d=>?_)
 rotate_left
 ·have hkn:k=ow.length:=by omega
  rw[hkn,Nat.sub_self,comL]at hcl
  rw[←hcl]at hk
  simp only[PP,P1,P2,P3,P4,P5,P6,P7,P8,P9,P10,P11,P12,P13,P14,L1,P15,N1,N2,N3,N4,N5,N6,N7,I1,I2,I3,I4,I5,I6,I7,reduceIte,reduceCtorEq,d]
  exact hk
 have hk':k<ow.length:=by omega
 have hw:=q10 (k:=k) (by show _<1000000000000;omega)
 have k0:(0:Int)≤k:=by omega
 obtain⟨x0,gx0⟩:=q13 (xs:=st) (k:=k) (by omega)
 have ex0:st.getD k 0=x0:=getD_some gx0
 obtain⟨row,gr⟩:=q13 (xs:=su) (k:=k) (by omega)
 have er:su.getD k []=row:=by simp[List.getD,gr]
 obtain⟨o,go⟩:=q13 (xs:=ow) (k:=k) hk'
 have eo:ow.getD k 0=o:=getD_some go
 obtain⟨_,_,h1,_,_⟩:=V.row k (by omega)
 rw[eo]at h1
 have h0:=ho o (List.mem_of_getElem? go)
 obtain⟨m,hm⟩:∃m,ow.length-k=m+1:=⟨ow.length-k-1,by omega⟩
 rw[hm,comL,eo,ex0,er]at hcl
 have hm2:ow.length-(k+1)=m:=by omega
 have ks:(k:Int)<su.length:=by omega
 simp only[PP,P1,P2,P3,P4,P5,P6,P7,P8,P9,P10,P11,P12,P13,P14,L1,P15,N1,N2,N3,N4,N5,N6,N7,I1,I2,I3,I4,I5,I6,I7,reduceIte,reduceCtorEq,d,go,k0]
 refine QIf.intro (fun e=>?_) (fun e=>?_)
 ·simp only[PP,P1,P2,P3,P4,P5,P6,P7,P8,P9,P10,P11,P12,P13,P14,L1,P15,N1,N2,N3,N4,N5,N6,N7,I1,I2,I3,I4,I5,I6,I7,reduceIte,reduceCtorEq,e,gr,gx0,k0,ks,d,hsl]
  refine hasInt_p T (B.r _ (List.mem_of_getElem? gr)) ?_
  simp only[PP,P1,P2,P3,P4,P5,P6,P7,P8,P9,P10,P11,P12,P13,P14,L1,P15,N1,N2,N3,N4,N5,N6,N7,I1,I2,I3,I4,I5,I6,I7,reduceIte,reduceCtorEq]
  by_cases q:x0∈row
  ·rw[if_neg (fun z=>z.2 q)]at hcl
   simp only[PP,P1,P2,P3,P4,P5,P6,P7,P8,P9,P10,P11,P12,P13,P14,L1,P15,N1,N2,N3,N4,N5,N6,N7,I1,I2,I3,I4,I5,I6,I7,reduceIte,reduceCtorEq,q,hw]
   exact q8 (ih (k+1) ⟨by omega,by rw[hm2];exact hcl⟩ (by omega)) (by simp only[PW])
  ·rw[if_pos ⟨by omega,q⟩]at hcl
   rw[←hcl]at hk
   simp only[PP,P1,P2,P3,P4,P5,P6,P7,P8,P9,P10,P11,P12,P13,P14,L1,P15,N1,N2,N3,N4,N5,N6,N7,I1,I2,I3,I4,I5,I6,I7,reduceIte,reduceCtorEq,q]
   exact hk
 ·rw[if_neg (fun z=>z.1 (by omega))]at hcl
  simp only[PP,P1,P2,P3,P4,P5,P6,P7,P8,P9,P10,P11,P12,P13,P14,L1,P15,N1,N2,N3,N4,N5,N6,N7,I1,I2,I3,I4,I5,I6,I7,reduceIte,reduceCtorEq,e,hw]
  exact q8 (ih (k+1) ⟨by omega,by rw[hm2];exact hcl⟩ (by omega)) (by simp only[PW])
end
def degC (ow:List Int) (su:List (List Int)) (v:Nat):Nat:=if ow.getD v 0=1 then(su.getD v []).length else 1
def radC (ow:List Int) (su:List (List Int)):Nat→Nat
 | 0=>1
 | v+1=>radC ow su v*degC ow su v
def codC (ow:List Int) (su:List (List Int)) (c:Nat→Nat):Nat→Nat
 | 0=>0
 | v+1=>codC ow su c v+c v*radC ow su v
def ChOk (ow:List Int) (su:List (List Int)) (c:Nat→Nat):Prop:=∀v,v<ow.length→c v<degC ow su v
def mvC (ow:List Int) (su:List (List Int)) (st:List Int) (c:Nat→Nat):List Int:=tabA ow.length fun v=>if ow.getD v 0=1 then(su.getD v []).getD (c v) 0 else st.getD v 0
section
variable {ow pr:List Int} {su:List (List Int)}
theorem codC_lt {c:Nat→Nat} :∀{v:Nat},(∀u,u<v→c u<degC ow su u)→codC ow su c v<radC ow su v
 | 0,_=>Nat.one_pos
 | v+1,h=>by
  have ih:=codC_lt (v:=v) fun u hu=>h u (by omega)
  have h1:=h v (by omega)
  show codC ow su c v+c v*radC ow su v<radC ow su v*degC ow su v
  have:(c v+1)*radC ow su v≤degC ow su v*radC ow su v:=Nat.mul_le_mul_right _ h1
  rw[Nat.add_mul,Nat.one_mul]at this
  rw[Nat.mul_comm (radC ow su v)]
  omega
theorem codC_inj {c c':Nat→Nat} :∀{v:Nat},(∀u,u<v→c u<degC ow su u)→(∀u,u<v→c' u<degC ow su u)→codC ow su c v=codC ow su c' v→∀u,u<v→c u=c' u
 | 0,_,_,_=>fun u hu=>by omega
 | v+1,h,h',e=>by
  have l1:=codC_lt (v:=v) fun u hu=>h u (by omega)
  have l2:=codC_lt (v:=v) fun u hu=>h' u (by omega)
  have e:codC ow su c v+c v*radC ow su v=codC ow su c' v+c' v*radC ow su v:=e
  have hv:c v=c' v:=by
   have h3:(codC ow su c v+c v*radC ow su v) / radC ow su v=c v:=by rw[Nat.add_mul_div_right _ _ (by omega),Nat.div_eq_of_lt l1,Nat.zero_add]
   have h4:(codC ow su c' v+c' v*radC ow su v) / radC ow su v=c' v:=by rw[Nat.add_mul_div_right _ _ (by omega),Nat.div_eq_of_lt l2,Nat.zero_add]
   rw[←h3,e,h4]
  have:=codC_inj (v:=v) (fun u hu=>h u (by omega)) (fun u hu=>h' u (by omega)) (by rw[hv]at e;omega)
  intro u hu
  by_cases q:u=v
  ·rw[q,hv]
  ·exact this u (by omega)
theorem codC_full {c:Nat→Nat} :∀{v:Nat},(∀u,u<v→c u+1=degC ow su u)→codC ow su c v+1=radC ow su v
 | 0,_=>rfl
 | v+1,h=>by
  have ih:=codC_full (v:=v) fun u hu=>h u (by omega)
  have h1:=h v (by omega)
  show codC ow su c v+c v*radC ow su v+1=radC ow su v*degC ow su v
  rw[←h1,Nat.mul_add,Nat.mul_one,Nat.mul_comm (radC ow su v)]
  omega
theorem codC_succ {c c':Nat→Nat} {v:Nat} (h:∀u,u<v→c u+1=degC ow su u) (h0:∀u,u<v→c' u=0) (hv:c' v=c v+1) (hg:∀u,v<u→c' u=c u):∀{n:Nat},v<n→codC ow su c' n=codC ow su c n+1
 | 0,hn=>by omega
 | n+1,hn=>by
  show codC ow su c' n+c' n*_=codC ow su c n+c n*_+1
  by_cases e:n=v
  ·subst e
   have h1:=codC_full h
   have h2:codC ow su c' n=0:=by
    have:∀m,m≤n→codC ow su c' m=0:=by
     intro m
     induction m with
     | zero=>intro _;rfl
     | succ m ih=>intro hm;show codC ow su c' m+c' m*_=0;rw[ih (by omega),h0 m (by omega)];simp
    exact this n (Nat.le_refl _)
   rw[h2,hv,Nat.add_mul,Nat.one_mul];omega
  ·rw[codC_succ h h0 hv hg (n:=n) (by omega),hg n (by omega)];omega
theorem mvC_len {st:List Int} {c:Nat→Nat} :(mvC ow su st c).length=ow.length:=q23 _ _
theorem mvC_at {st:List Int} {c:Nat→Nat} {v:Nat} (hv:v<ow.length):(mvC ow su st c).getD v 0=if ow.getD v 0=1 then(su.getD v []).getD (c v) 0 else st.getD v 0:=by
 unfold mvC
 rw[List.getD,q66 hv];rfl
theorem mvC_same {st:List Int} {c:Nat→Nat} {v:Nat} (hv:v<ow.length) (ho:ow.getD v 0≠1):(mvC ow su st c).getD v 0=(comM ow su st).getD v 0:=by
 rw[mvC_at hv,if_neg ho,comM_same hv ho]
theorem mvC_congr {st:List Int} {c c':Nat→Nat} (h:∀v,v<ow.length→c v=c' v):mvC ow su st c=mvC ow su st c':=q38 fun v hv=>by rw[h v hv]
theorem mvC_ok {st:List Int} (h:comE ow pr su st=0) {c:Nat→Nat} (hc:ChOk ow su c):MvOk su ow.length (mvC ow su st c):=by
 obtain⟨_,_,h2⟩:=comE_ok h
 refine⟨mvC_len,fun v hv=>?_⟩
 rw[mvC_at hv]
 by_cases e:ow.getD v 0=1
 ·rw[if_pos e]
  have:=hc v hv
  unfold degC at this
  rw[if_pos e]at this
  obtain⟨x,hx⟩:=q13 this
  rw[getD_some hx];exact List.mem_of_getElem? hx
 ·rw[if_neg e]
  exact(h2 v hv).resolve_left e
theorem mvC_all {st t:List Int} (h:comE ow pr su st=0) (ht:MvOk su ow.length t) (hs:∀v,v<ow.length→ow.getD v 0≠1→t.getD v 0=(comM ow su st).getD v 0):∃c,ChOk ow su c∧mvC ow su st c=t:=by
 have hx:∀v,∃k,v<ow.length→k<degC ow su v∧(ow.getD v 0=1→(su.getD v [])[k]? =some (t.getD v 0)):=fun v=>by
  by_cases hv:v<ow.length
  ·by_cases e:ow.getD v 0=1
   ·obtain⟨k,hk⟩:=List.getElem?_of_mem (ht.m v hv)
    exact⟨k,fun _=>⟨by unfold degC;rw[if_pos e];exact q12 hk,fun _=>hk⟩⟩
   ·exact⟨0,fun _=>⟨by unfold degC;rw[if_neg e];exact Nat.one_pos,fun q=>absurd q e⟩⟩
  ·exact⟨0,fun q=>absurd q hv⟩
 classical
 refine⟨fun v=>Classical.choose (hx v),fun v hv=>(Classical.choose_spec (hx v) hv).1,?_⟩
 refine(tabA_ext ht.l fun v hv=>?_).symm
 obtain⟨x,gx⟩:=q13 (xs:=t) (k:=v) (by rw[ht.l];exact hv)
 have ex:=getD_some gx
 rw[gx]
 congr 1
 by_cases e:ow.getD v 0=1
 ·rw[if_pos e,getD_some ((Classical.choose_spec (hx v) hv).2 e),ex]
 ·rw[if_neg e,←comM_same (su:=su) hv e,←hs v hv e,ex]
structure Cand (ow pr:List Int) (su:List (List Int)) (st:List Int) (m v:Nat) (x:Vl):Prop where
 ex:∃c,ChOk ow su c∧x=folA ow pr su (mvC ow su st c) v
 le:∀c,ChOk ow su c→codC ow su c ow.length<m→ordI pr x (folA ow pr su (mvC ow su st c) v)≤0
structure LstOk (ow pr:List Int) (su:List (List Int)) (st:List Int) (m:Nat) (L:List Vl):Prop where
 l:L.length=ow.length
 at':∀v,v<ow.length→∃x,L[v]? =some x∧Cand ow pr su st m v x
section
variable {st:List Int} (h:comE ow pr su st=0) {c:Nat→Nat} (hC:ChOk ow su c) {v:Nat} (hv:v<ow.length)
include h hC hv
theorem cand_same {d:Nat→Nat} (hd:ChOk ow su d) (e:codC ow su d ow.length=codC ow su c ow.length):ordI pr (folA ow pr su (mvC ow su st c) v) (folA ow pr su (mvC ow su st d) v)=0:=by
 rw[mvC_congr (c:=d) (c':=c) (codC_inj hd hC e)]
 have hr:=(comE_ok h).1
 have:=self_fol hr (mvC_ok h hC) (u:=v) (by omega) (by omega)
 exact this
theorem Cand.first (hz:codC ow su c ow.length=0):Cand ow pr su st (codC ow su c ow.length+1) v (folA ow pr su (mvC ow su st c) v):=
 ⟨⟨c,hC,rfl⟩,fun d hd hlt=>by rw[cand_same h hC hv hd (by omega)];exact Int.le_refl _⟩
theorem Cand.take {y:Vl} (H:Cand ow pr su st (codC ow su c ow.length) v y) (lt:ordI pr (folA ow pr su (mvC ow su st c) v) y<0):Cand ow pr su st (codC ow su c ow.length+1) v (folA ow pr su (mvC ow su st c) v):=by
 have hr:=(comE_ok h).1
 refine⟨⟨c,hC,rfl⟩,fun d hd hlt=>?_⟩
 by_cases e:codC ow su d ow.length=codC ow su c ow.length
 ·rw[cand_same h hC hv hd e];exact Int.le_refl _
 ·have h1:=H.le d hd (by omega)
  obtain⟨b,hb,rfl⟩:=H.ex
  have a1:=q36 hr (mvC_ok h hC) hv
  have a2:=q36 hr (mvC_ok h hb) hv
  have a3:=q36 hr (mvC_ok h hd) hv
  have o:=ord3_ord fun v=>((q22 hr).prI v).1
  exact o.tr ⟨_,a1.nn⟩ ⟨_,a2.nn⟩ ⟨_,a3.nn⟩ (by simp only;omega) h1
theorem Cand.keep {y:Vl} (H:Cand ow pr su st (codC ow su c ow.length) v y) (ge:¬ordI pr (folA ow pr su (mvC ow su st c) v) y<0):Cand ow pr su st (codC ow su c ow.length+1) v y:=by
 have hr:=(comE_ok h).1
 refine⟨H.ex,fun d hd hlt=>?_⟩
 by_cases e:codC ow su d ow.length=codC ow su c ow.length
 ·have e2:mvC ow su st d=mvC ow su st c:=mvC_congr (codC_inj hd hC e)
  rw[e2]
  obtain⟨b,hb,rfl⟩:=H.ex
  have a1:=q36 hr (mvC_ok h hC) hv
  have a2:=q36 hr (mvC_ok h hb) hv
  have an:=(ord3_ord fun v=>((q22 hr).prI v).1).anti ⟨_,a1.nn⟩ ⟨_,a2.nn⟩
  simp only at an
  omega
 ·exact H.le d hd (by omega)
end
theorem LstOk.fin {st st1:List Int} {L:List Vl} {m:Nat} (h:comE ow pr su st=0) (R:RespOk ow pr su (comM ow su st) st1) (H:LstOk ow pr su st m L) (hm:radC ow su ow.length≤m):L=q19 ow pr su st1:=by
 have hc:=(comE_ok h).1
 have V:=q22 hc
 have hp:=fun v=>(V.prI v).1
 unfold q19
 rw[R.ok.l]
 refine tabA_ext H.l fun v hv=>?_
 obtain⟨x,hx,⟨c,h1,rfl⟩,hle⟩:=H.at' v hv
 obtain⟨d,h3,h4⟩:=mvC_all h R.ok R.same
 have:=hle d h3 (Nat.lt_of_lt_of_le (codC_lt h3) hm)
 rw[h4]at this
 have q:=R.min hc (mvC_ok h h1) (fun v hv ho=>mvC_same hv ho) hv
 rw[hx]
 congr 1
 exact fol_eq hc (s:=1) (.inl rfl) R.ok (mvC_ok h h1) hv (by omega)
end
section
variable {tab:FuncId→Option AF} (T:HasA tab)
include T
set_option maxHeartbeats 1000000 in
theorem rplay_l {o1 o2:PObj} {K:PV→Mem→Prop} {F:GF} {f5 o5:Bool} {ow pr st:List Int} {su:List (List Int)} {from':Int} (B:Bnd ow pr su) (hb:st.length<big)
  (hq1:playE ow pr su st from'≠0→∀x,K (.tuple [.nils,.nils,p64 (playE ow pr su st from')]) [o1,o2,x])
  (hq2:playE ow pr su st from'=0→∀x2 x3,K (.tuple [.ref 4 0 1 0 (q63 st (ow.length+1) from' []).1.length,.ref 5 0 1 0 (q63 st (ow.length+1) from' []).2.length,p64 0]) [o1,o2,x2,x3,.cells 0 0 ((q63 st (ow.length+1) from' []).1.map p64),.cells 0 0 ((q63 st (ow.length+1) from' []).2.map p64)]):
  SemC tab 58 [.agg (gmF F ow pr su),slI f5 o5 .i64 st,p64 from'] [o1,o2] K:=by
 refine q33 T.h58 ?_
 simp only[af58,PP,P1,P2,P3,P4,P5,P6,P7,P8,P9,P10,P11,P12,P13,P14,L1,P15,N1,N2,N3,N4,N5,N6,N7,I1,I2,I3,I4,I5,I6,I7,reduceIte,reduceCtorEq]
 refine refCheck_p T B ?_
 simp only[PP,P1,P2,P3,P4,P5,P6,P7,P8,P9,P10,P11,P12,P13,P14,L1,P15,N1,N2,N3,N4,N5,N6,N7,I1,I2,I3,I4,I5,I6,I7,reduceIte,reduceCtorEq]
 unfold playE at hq1 hq2
 refine QIf.intro (fun c1=>?_) (fun c1=>?_)
 rotate_left
 ·rw[if_neg c1]at hq1
  simp only[PP,P1,P2,P3,P4,P5,P6,P7,P8,P9,P10,P11,P12,P13,P14,L1,P15,N1,N2,N3,N4,N5,N6,N7,I1,I2,I3,I4,I5,I6,I7,reduceIte,reduceCtorEq,c1]
  exact hq1 c1 _
 have V:=q22 c1
 have hs:=V.s
 have n1:=V.n1
 rw[if_pos c1]at hq1 hq2
 simp only[PP,P1,P2,P3,P4,P5,P6,P7,P8,P9,P10,P11,P12,P13,P14,L1,P15,N1,N2,N3,N4,N5,N6,N7,I1,I2,I3,I4,I5,I6,I7,reduceIte,reduceCtorEq,c1]
 refine QIf.intro (fun c2=>?_) (fun c2=>?_)
 ·rw[if_pos c2]at hq1
  simp only[PP,P1,P2,P3,P4,P5,P6,P7,P8,P9,P10,P11,P12,P13,P14,L1,P15,N1,N2,N3,N4,N5,N6,N7,I1,I2,I3,I4,I5,I6,I7,reduceIte,reduceCtorEq,c2]
  exact hq1 (by decide) _
 rw[if_neg c2]at hq1 hq2
 simp only[PP,P1,P2,P3,P4,P5,P6,P7,P8,P9,P10,P11,P12,P13,P14,L1,P15,N1,N2,N3,N4,N5,N6,N7,I1,I2,I3,I4,I5,I6,I7,reduceIte,reduceCtorEq,c2]
 refine QIf.intro (fun c3=>?_) (fun c3=>?_)
 ·rw[if_pos c3]at hq1
  simp only[PP,P1,P2,P3,P4,P5,P6,P7,P8,P9,P10,P11,P12,P13,P14,L1,P15,N1,N2,N3,N4,N5,N6,N7,I1,I2,I3,I4,I5,I6,I7,reduceIte,reduceCtorEq,c3]
  exact hq1 (by decide) _
 rw[if_neg c3]at hq1 hq2
 simp only[PP,P1,P2,P3,P4,P5,P6,P7,P8,P9,P10,P11,P12,P13,P14,L1,P15,N1,N2,N3,N4,N5,N6,N7,I1,I2,I3,I4,I5,I6,I7,reduceIte,reduceCtorEq,c3]
 refine QIf.intro (fun c4=>?_) (fun c4=>?_)
 rotate_left
 ·rw[if_neg c4]at hq1
  simp only[PP,P1,P2,P3,P4,P5,P6,P7,P8,P9,P10,P11,P12,P13,P14,L1,P15,N1,N2,N3,N4,N5,N6,N7,I1,I2,I3,I4,I5,I6,I7,reduceIte,reduceCtorEq,c4]
  exact hq1 (by decide) _
 rw[if_pos c4]at hq1 hq2
 simp only[PP,P1,P2,P3,P4,P5,P6,P7,P8,P9,P10,P11,P12,P13,P14,L1,P15,N1,N2,N3,N4,N5,N6,N7,I1,I2,I3,I4,I5,I6,I7,reduceIte,reduceCtorEq,c4]
 refine loop1 (fun(k:Nat)=>k≤ow.length∧movM su k (st.drop k)=movM su 0 st) (fun k=>[Zj,slI f5 o5 .i64 st,p64 from',.ptr 2 0 0,Zj,Zj,Zj,Zj,Zj,Zj,p64 k,Zj,Zj,Zj,Zj,Zj,Zj,Zj,Zj,Zj,Zj,Zj,Zj,Zj,Zj,Zj,Zj,Zj,Zj,Zj,Zj,Zj,Zj,Zj,Zj,Zj,Zj,Zj,Zj,Zj,Zj,Zj,Zj,Zj,Zj,Zj,Zj,Zj,Zj,Zj,Zj,Zj,Zj,Zj,Zj,Zj,Zj,Zj,Zj,Zj,Zj,Zj,Zj,Zj,Zj,Zj,Zj,Zj,Zj,Zj,Zj,Zj,Zj,Zj,Zj,Zj,Zj,Zj,Zj,Zj]) (fun _=>[o1,o2,.cells 0 0 (gmF F ow pr su)]) (fun k=>ow.length-k) 0 ⟨by omega,rfl⟩ (by simp only[PW]) rfl ?_
 intro k ⟨hle,hmv⟩ ih
 refine q15 (by kernel_rfl) ?_
 simp only[PP,P1,P2,P3,P4,P5,P6,P7,P8,P9,P10,P11,P12,P13,P14,L1,P15,N1,N2,N3,N4,N5,N6,N7,I1,I2,I3,I4,I5,I6,I7,reduceIte,reduceCtorEq]
 refine QIf.intro (fun d=>?_) (fun d=>?_)
 ·have hk:k<ow.length:=by omega
  have hw:=q10 (k:=k) (by show _<1000000000000;omega)
  have k0:(0:Int)≤k:=by omega
  obtain⟨u,g1⟩:=q13 (xs:=st) (k:=k) (by omega)
  obtain⟨row,g2⟩:=q13 (xs:=su) (k:=k) (by omega)
  have ks:(k:Int)<su.length:=by omega
  have e2:su.getD k []=row:=by simp[List.getD,g2]
  rw[drop_some g1,movM,e2]at hmv
  simp only[PP,P1,P2,P3,P4,P5,P6,P7,P8,P9,P10,P11,P12,P13,P14,L1,P15,N1,N2,N3,N4,N5,N6,N7,I1,I2,I3,I4,I5,I6,I7,reduceIte,reduceCtorEq,c4,d,g1,g2,k0,ks]
  refine⟨by omega,hasInt_p T (B.r _ (List.mem_of_getElem? g2)) ?_⟩
  by_cases h1:u∈row
  ·rw[if_pos h1]at hmv
   simp only[PP,P1,P2,P3,P4,P5,P6,P7,P8,P9,P10,P11,P12,P13,P14,L1,P15,N1,N2,N3,N4,N5,N6,N7,I1,I2,I3,I4,I5,I6,I7,reduceIte,reduceCtorEq,h1,hw]
   exact q8 (ih (k+1) ⟨by omega,hmv⟩ (by omega)) (by simp only[PW])
  ·rw[if_neg h1]at hmv
   rw[←hmv]at hq1
   simp only[PP,P1,P2,P3,P4,P5,P6,P7,P8,P9,P10,P11,P12,P13,P14,L1,P15,N1,N2,N3,N4,N5,N6,N7,I1,I2,I3,I4,I5,I6,I7,reduceIte,reduceCtorEq,h1]
   exact hq1 (by decide) _
 have hkn:k=st.length:=by omega
 rw[List.drop_eq_nil_of_le (by omega),movM]at hmv
 rw[←hmv]at hq2
 have hst:∀(k:Nat) (u:Int),st[k]? =some u→0≤u∧u<ow.length:=by
  intro k u hu
  have h1:=movM_get hmv.symm k u hu
  have hks:k<ow.length:=by have:=q12 hu;omega
  rw[Nat.zero_add]at h1
  exact su_range V hks h1
 obtain⟨v0,rfl⟩:∃v0:Nat,from'=v0:=⟨from'.toNat,by omega⟩
 have hq2:=hq2 rfl
 simp only[PP,P1,P2,P3,P4,P5,P6,P7,P8,P9,P10,P11,P12,P13,P14,L1,P15,N1,N2,N3,N4,N5,N6,N7,I1,I2,I3,I4,I5,I6,I7,reduceIte,reduceCtorEq,d]
 refine SemW_re (GStep.nil 11 1 rfl rfl rfl) ?_
 simp only[ptset,List.cons_append,List.nil_append,List.length_cons,List.length_nil,Nat.reduceAdd]
 refine loop3 (fun(v g:Nat) (l:List Nat)=>v<ow.length∧l.Nodup∧(∀x∈l,x<ow.length)∧q63 st (ow.length+1-l.length) v (natI l)=q63 st (ow.length+1) v0 [])
  (fun v g l=>[Zj,slI f5 o5 .i64 st,Zj,Zj,Zj,Zj,Zj,Zj,Zj,Zj,Zj,.ref 3 g 1 0 l.length,p64 v,Zj,Zj,Zj,Zj,Zj,Zj,Zj,Zj,Zj,Zj,Zj,Zj,Zj,Zj,Zj,Zj,Zj,Zj,Zj,Zj,Zj,Zj,Zj,Zj,Zj,Zj,Zj,Zj,Zj,Zj,Zj,Zj,Zj,Zj,Zj,Zj,Zj,Zj,Zj,Zj,Zj,Zj,Zj,Zj,Zj,Zj,Zj,Zj,Zj,Zj,Zj,Zj,Zj,Zj,Zj,Zj,Zj,Zj,Zj,Zj,Zj,Zj,Zj,Zj,Zj,Zj,Zj])
  (fun v g l=>[o1,o2,.cells 0 0 (gmF F ow pr su),.cells g 0 ((natI l).map p64)])
  (fun v g l=>ow.length+1-l.length) v0 0 [] ⟨by omega,List.nodup_nil,by simp,rfl⟩ (by simp only[PW]) rfl ?_
 intro v g l ⟨hv,hnd,hlt,hpl⟩ ih2
 have hll:=nodup_lenN _ l hnd hlt
 have hlb:(natI l).length<big:=by show _<1000000000000;rw[List.length_map];omega
 have ll:(natI l).length=l.length:=List.length_map _
 obtain⟨fu,hfu⟩:∃fu,ow.length+1-l.length=fu+1:=⟨ow.length-l.length,by omega⟩
 rw[hfu,q63]at hpl
 refine q15 (by kernel_rfl) ?_
 simp only[PP,P1,P2,P3,P4,P5,P6,P7,P8,P9,P10,P11,P12,P13,P14,L1,P15,N1,N2,N3,N4,N5,N6,N7,I1,I2,I3,I4,I5,I6,I7,reduceIte,reduceCtorEq]
 refine loop1 (fun(k:Nat)=>k≤l.length∧idxI v k ((natI l).drop k)=idxI v 0 (natI l)) (fun k=>[Zj,slI f5 o5 .i64 st,Zj,Zj,Zj,Zj,Zj,Zj,Zj,Zj,Zj,.ref 3 g 1 0 l.length,p64 v,p64 k,Zj,Zj,Zj,Zj,Zj,Zj,Zj,Zj,Zj,Zj,Zj,Zj,Zj,Zj,Zj,Zj,Zj,Zj,Zj,Zj,Zj,Zj,Zj,Zj,Zj,Zj,Zj,Zj,Zj,Zj,Zj,Zj,Zj,Zj,Zj,Zj,Zj,Zj,Zj,Zj,Zj,Zj,Zj,Zj,Zj,Zj,Zj,Zj,Zj,Zj,Zj,Zj,Zj,Zj,Zj,Zj,Zj,Zj,Zj,Zj,Zj,Zj,Zj,Zj,Zj,Zj]) (fun _=>[o1,o2,.cells 0 0 (gmF F ow pr su),.cells g 0 ((natI l).map p64)]) (fun k=>l.length-k) 0 ⟨by omega,rfl⟩ (by simp only[PW]) rfl ?_
 intro k ⟨hle,hid⟩ ih3
 obtain⟨X,hX⟩:∃X,X=natI l:=⟨_,rfl⟩
 rw[←hX]at ll hid hpl hlb ⊢
 refine q15 (by kernel_rfl) ?_
 simp only[PP,P1,P2,P3,P4,P5,P6,P7,P8,P9,P10,P11,P12,P13,P14,L1,P15,N1,N2,N3,N4,N5,N6,N7,I1,I2,I3,I4,I5,I6,I7,reduceIte,reduceCtorEq]
 refine QIf.intro (fun d2=>?_) (fun d2=>?_)
 ·have hk:k<X.length:=by omega
  obtain⟨u,gu⟩:=q13 hk
  have k0:(0:Int)≤k:=by omega
  have hw:=q10 (k:=k) (by show _<1000000000000;omega)
  rw[drop_some gu,idxI]at hid
  have gm:(X.map p64)[k]? =some (p64 u):=by rw[List.getElem?_map,gu];rfl
  simp only[PP,P1,P2,P3,P4,P5,P6,P7,P8,P9,P10,P11,P12,P13,P14,L1,P15,N1,N2,N3,N4,N5,N6,N7,I1,I2,I3,I4,I5,I6,I7,reduceIte,reduceCtorEq,d2,k0,gu]
  refine QIf.intro (fun e=>?_) (fun e=>?_)
  ·rw[if_pos e.symm]at hid
   rw[←hid,if_pos k0,Int.toNat_natCast]at hpl
   have kl:(k:Int)≤l.length:=by omega
   have e0:((k:Int)-0).toNat=k:=by omega
   have e1:((l.length:Int)-k).toNat=l.length-k:=by omega
   have hp1:psub (X.map p64) 0 k=(X.take k).map p64:=by simp[psub,List.map_take]
   have hp2:psub (X.map p64) k (l.length-k)=(X.drop k).map p64:=by
    simp only[psub,←List.map_drop]
    rw[List.take_of_length_le (by simp;omega)]
   rw[←hpl]at hq2
   have l1:(X.take k).length=k:=by rw[List.length_take];omega
   have l2:(X.drop k).length=l.length-k:=by rw[List.length_drop];omega
   have hq3:=hq2 (.cells 0 0 (gmF F ow pr su)) (.cells g 0 (X.map p64))
   simp only[l1,l2]at hq3
   have kx:k≤X.length:=by omega
   have b2:k*8≤140737488355328∧k≤9223372036854775807:=⟨by omega,by omega⟩
   have b3:(l.length-k)*8≤140737488355328∧l.length-k≤9223372036854775807:=⟨by omega,by omega⟩
   have b4:k+(l.length-k)≤X.length:=by omega
   simp only[PP,P1,P2,P3,P4,P5,P6,P7,P8,P9,P10,P11,P12,P13,P14,L1,P15,N1,N2,N3,N4,N5,N6,N7,I1,I2,I3,I4,I5,I6,I7,reduceIte,reduceCtorEq,e,kl,e0,k0]
   refine q33 T.h13 ?_
   simp only[af13,PP,P1,P2,P3,P4,P5,P6,P7,P8,P9,P10,P11,P12,P13,P14,L1,P15,N1,N2,N3,N4,N5,N6,N7,I1,I2,I3,I4,I5,I6,I7,reduceIte,reduceCtorEq,hp1,kx,b2.1,b2.2,kl,e1,k0]
   refine⟨by omega,q33 T.h13 ?_⟩
   simp only[af13,PP,P1,P2,P3,P4,P5,P6,P7,P8,P9,P10,P11,P12,P13,P14,L1,P15,N1,N2,N3,N4,N5,N6,N7,I1,I2,I3,I4,I5,I6,I7,reduceIte,reduceCtorEq,hp2,b3.1,b3.2,b4]
   exact hq3
  ·rw[if_neg (fun q=>e q.symm)]at hid
   simp only[PP,P1,P2,P3,P4,P5,P6,P7,P8,P9,P10,P11,P12,P13,P14,L1,P15,N1,N2,N3,N4,N5,N6,N7,I1,I2,I3,I4,I5,I6,I7,reduceIte,reduceCtorEq,e,hw]
   refine q20 (ih3 (k+1) ⟨by omega,by rw[←hX];exact hid⟩ (by omega)) (by simp only[PW]) (by rw[hX])
 ·have hk:k=X.length:=by omega
  rw[hk,List.drop_length,idxI]at hid
  rw[←hid,if_neg (by omega)]at hpl
  have hv0:(0:Int)≤v:=by omega
  have hvs:(v:Int)<st.length:=by omega
  obtain⟨u,g1⟩:=q13 (xs:=st) (k:=v) (by omega)
  obtain⟨u0,u1⟩:=hst v u g1
  obtain⟨w,rfl⟩:∃w:Nat,u=w:=⟨u.toNat,by omega⟩
  have e1:st.getD v 0=w:=by simp[List.getD,g1]
  have b1:(l.length+1)*8≤140737488355328:=by omega
  have b2:l.length≤9223372036854775806:=by omega
  have hxl:l.length≤X.length:=by omega
  have hps:psub (X.map p64) 0 l.length=X.map p64:=q53 _ _ (by rw[List.length_map];omega)
  simp only[PP,P1,P2,P3,P4,P5,P6,P7,P8,P9,P10,P11,P12,P13,P14,L1,P15,N1,N2,N3,N4,N5,N6,N7,I1,I2,I3,I4,I5,I6,I7,reduceIte,reduceCtorEq,d2,g1,hv0,hvs,b1,b2,hps,hxl]
  have hni:v∉l:=fun h=>by
   rcases idxI_spec v X 0 with⟨h1,h2⟩ | ⟨i,h1,h2,h3⟩
   ·exact h1 (by rw[hX];exact mem_natI.2 h)
   ·rw[h3]at hid;omega
  have hq3:natI l++[(v:Int)]=natI (l++[v]):=by simp
  refine q20 (ih2 w (g+1) (l++[v]) ⟨by omega,?_,?_,?_⟩ (by rw[List.length_append,List.length_singleton];omega)) (by simp only[PW]) (by rw[←hq3,hX];simp)
  ·rw[List.nodup_append]
   exact⟨hnd,by simp,fun a ha b hb e=>by rw[List.mem_singleton]at hb;subst hb;subst e;exact hni ha⟩
  ·intro x hx
   rcases List.mem_append.1 hx with h | h
   ·exact hlt x h
   ·rw[List.mem_singleton]at h;subst h;exact hv
  ·rw[show ow.length+1-(l++[v]).length=fu by rw[List.length_append,List.length_singleton];omega,←hq3,←hX]
   rw[Int.toNat_natCast,e1]at hpl
   exact hpl
end
end Go.Am.Ar

