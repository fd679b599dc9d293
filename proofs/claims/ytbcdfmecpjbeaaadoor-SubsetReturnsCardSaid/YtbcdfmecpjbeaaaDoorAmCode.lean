/- Regions, code and functions: the abstract machine's run is the machine's. -/
import Derived.Test.YtbcdfmecpjbeaaaDoorAmDraw
set_option linter.unusedVariables false
set_option linter.unusedSimpArgs false
namespace Go.Am
theorem ancs_spec:∀(os:List Oper) (acc:List (List Nat)),(∀j,j<acc.length→(ancs os acc).getD j []=acc.getD j [])∧
  (∀j o,os[j]? =some o→(∀e∈q36 o,e<acc.length+j)→∀i∈(ancs os acc).getD (acc.length+j) [],∃e∈q36 o,i=e∨i∈(ancs os acc).getD e [])
 | [],acc=>⟨fun j h=>rfl,fun j o h=>by simp at h⟩
 | o::os,acc=>by
  obtain⟨h1,h2⟩:=ancs_spec os (acc++[((q36 o).flatMap fun j=>j::acc.getD j []).eraseDups])
  have hstart:∀j,j<acc.length→(ancs (o::os) acc).getD j []=acc.getD j []:=by
   intro j hj
   unfold ancs
   rw[h1 j (by simp;omega)]
   simp[List.getD_eq_getElem?_getD,List.getElem?_append,hj]
  refine⟨hstart,fun j o' ho hlt i hi=>?_⟩
  cases j with
  | zero=>
   simp at ho
   subst ho
   have e0:(ancs (o::os) acc).getD (acc.length+0) []=((q36 o).flatMap fun j=>j::acc.getD j []).eraseDups:=by
    unfold ancs
    rw[h1 _ (by simp)]
    simp[List.getD_eq_getElem?_getD]
   rw[e0,List.mem_eraseDups,List.mem_flatMap]at hi
   obtain⟨e,he,hi⟩:=hi
   refine⟨e,he,?_⟩
   rcases List.mem_cons.1 hi with h | h
   ·exact .inl h
   ·exact .inr (by rw[hstart e (by have:=hlt e he;omega)];exact h)
  | succ j=>
   have hlen:(acc++[((q36 o).flatMap fun j=>j::acc.getD j []).eraseDups]).length+j=acc.length+(j+1):=by simp;omega
   have:=h2 j o' (by simpa using ho) (fun e he=>by have:=hlt e he;omega)
   rw[hlen]at this
   exact this i (by unfold ancs at hi;exact hi)
section
variable {P:Program} {rec:Rec} {m:Nat}
theorem withChk_get {an:List (List Nat)} {aos:List AOper} {i:Nat} {x:AOper} (h:(withChk an aos)[i]? =some x):∃y,aos[i]? =some y∧x={y with chk:=(List.range i).filter fun j=>match aos[j]? with
  | some p=> !ordered an j i&&mayClash p y
  | none=>false} :=by
 unfold withChk at h
 rw[List.getElem?_map,List.getElem?_zipIdx]at h
 cases hy:aos[i]? with
 | none=>simp[hy]at h
 | some y=>simp[hy]at h;exact⟨y,rfl,h.symm⟩
theorem drawStat_of {ops:Array Oper} {aos:List AOper} {mx:Bool} (htr:optAll (trOper P ops) ops.toList=some aos) (hok:drawOk mx ops.toList (ancs ops.toList []) aos=true):
  DrawStat P ops (withChk (ancs ops.toList []) aos) (ancs ops.toList [])∧(mx|| !Region.departs ops)=true:=by
 unfold drawOk at hok
 simp only[Bool.and_eq_true,List.all_eq_true]at hok
 obtain⟨⟨h1,h2⟩,h3⟩:=hok
 have hedge:∀(i:Nat) (o:Oper),ops[i]? =some o→∀j∈q36 o,j<i:=by
  intro i o ho j hj
  have:=h2 (o,i) (by rw[List.mem_zipIdx_iff_getElem?];simpa using ho)
  simpa using this j hj
 have hpair:∀(i j:Nat) (x y:AOper),aos[i]? =some x→aos[j]? =some y→i≠j→(!(x.op.effect&&y.op.effect)||ordered (ancs ops.toList []) i j)=true∧(match x.dst with | some d=> !y.names.contains d||ordered (ancs ops.toList []) i j | none=>true)=true:=by
  intro i j x y hx hy hne
  have:=h3 (x,i) (by rw[List.mem_zipIdx_iff_getElem?];exact hx)
  simp only at this
  have:=this (y,j) (by rw[List.mem_zipIdx_iff_getElem?];exact hy)
  simp only[Bool.or_eq_true,Bool.and_eq_true,beq_iff_eq]at this
  rcases this with h | h
  ·exact absurd h hne
  ·exact⟨by simpa using h.1,h.2⟩
 refine⟨⟨?_,?_,hedge,?_,?_,?_,?_⟩,by simpa only[Array.toArray_toList] using h1⟩
 ·have:=optAll_len htr;unfold withChk;simp[this]
 ·intro i o x ho hx
  obtain⟨y,hy,rfl⟩:=withChk_get hx
  obtain⟨q1,q2,_,q4⟩:=trOper_ok (optAll_get htr i o y (by simpa using ho) hy)
  exact⟨q1,q2,q4⟩
 ·intro j o ho i hi
  have:=(ancs_spec ops.toList []).2 j o (by simpa using ho) (fun e he=>by have:=hedge j o ho e he;simpa using this)
  simp only[List.length_nil,Nat.zero_add]at this
  exact this i hi
 ·intro i j x y hx hy hne hex hey
  obtain⟨x',hx',rfl⟩:=withChk_get hx
  obtain⟨y',hy',rfl⟩:=withChk_get hy
  have:=(hpair i j x' y' hx' hy' hne).1
  simp only at hex hey
  simpa [hex,hey] using this
 ·intro i j x y t hx hy hne hd ht
  obtain⟨x',hx',rfl⟩:=withChk_get hx
  obtain⟨y',hy',rfl⟩:=withChk_get hy
  have:=(hpair i j x' y' hx' hy' hne).2
  simp only at hd
  rw[hd]at this
  have ht':t∈y'.names:=ht
  simpa [ht'] using this
 ·intro i j x y hx hy hji hno hcl
  obtain⟨x',hx',rfl⟩:=withChk_get hx
  obtain⟨y',hy',rfl⟩:=withChk_get hy
  simp only[List.mem_filter,List.mem_range]
  refine⟨hji,?_⟩
  rw[hy']
  simp only[hno,Bool.not_false,Bool.true_and]
  exact hcl
section
variable {ops:Array Oper} {xs:List AOper} {an:List (List Nat)} {a a':List AV} {h h':H} {A:Nat→List AV} {Hh:Nat→H} {V:Nat→AV} {RD:Nat→List Nat} {W:Nat→Bool}
variable {ρ0:Emb} {w0:World}
theorem put_defers (act:Act) (d:Option Nat) (u:Value):(act.put d u).defers=act.defers:=by cases d<;>rfl
theorem sched_run (ok:RecOk P rec m) (S:DrawStat P ops xs an) (T:Trace rec xs a h a' h' A Hh V RD W) (hfr:Fresh ρ0 h h') {ro:Option Nat} {Q:Exit→Act→World→Prop} {dfs:List Deferred}
  (hQ:∀ρ w act D,(∀i,i<ops.size→D i=true)→DS P xs a ρ0 h w0 Hh V D ρ w act→act.defers=dfs→Q .normal act w):
  ∀{l:List Nat} {D:Nat→Bool},Sched ops D l→Closed ops D→∀{ρ w act},DS P xs a ρ0 h w0 Hh V D ρ w act→act.defers=dfs→wpOpsIn (Fn ro) 0 P ops Q l act w:=by
 intro l D hs
 induction hs with
 | nil D hall=>intro hc ρ w act ds hd;exact hQ ρ w act D hall ds hd
 | cons D i o l ho hd he _ ih=>
  intro hc ρ w act ds hdf
  have hi:i<xs.length:=by rw[S.len];exact(Array.getElem?_eq_some_iff.1 ho).1
  have hx:xs[i]? =some xs[i]:=List.getElem?_eq_getElem hi
  obtain⟨q1,q2,q3⟩:=S.tr i o _ ho hx
  have hlen:=trace_len T i (by omega)
  have hguard:Region.wanted o (yielded ops act.tmps)=W i:=by
   refine wanted_ok (a:=A i) (ρ:=ρ) (fun t bb hg=>?_) (by rw[ds.size,hlen]) q3 (T.want i _ hx)
   by_cases hl:t<a.length
   ·rw[←val_ok S T hc ho hx hd he (by unfold AOper.names;rw[hg];simp) hl];exact ds.tmps t hl
   ·rw[tget_eq,List.getElem?_eq_none (by omega)];exact .junk _
  simp only[wpOpsIn,ho,hguard]
  have hc':=closed_add hc ho he
  cases hw:W i with
  | true=>
   simp only[if_true]
   have hk:∀u ρ' w',DS P xs a ρ0 h w0 Hh V (fun j=>j==i||D j) ρ' w' (act.put xs[i].dst u)→wpOpsIn (Fn ro) 0 P ops Q l (act.put xs[i].dst u) w':=
    fun u ρ' w' ds'=>ih hc' ds' (by rw[put_defers];exact hdf)
   cases hq:xs[i].op.effect with
   | false=>exact DS.quiet ok S T hc ho hx hd he hq hw hfr ds T.hn T.h0 hk
   | true=>exact DS.loud ok S T hc ho hx hd he hq hw hfr ds T.hn T.h0 hk
  | false=>
   simp only[Bool.false_eq_true,if_false]
   refine⟨fun _ _=>trivial,?_⟩
   rw[←q2]
   obtain⟨s1,s2⟩:=T.skip i _ hx hw
   have mono:=trace_mono ok T
   --nothing has turned;only where an operation that changes objects is passed over,the place of looking moves on
   have hmove:∀y ρl,ρ y=some ρl→∀ob,(Hh (max (kd xs (fun j=>j==i||D j) xs.length) (bi Hh y xs.length))).get y=some ob→(Hh (max (kd xs D xs.length) (bi Hh y xs.length))).get y=some ob:=by
    intro y ly hy ob hg
    cases hq:xs[i].op.effect with
    | false=>rwa [kd_quiet hx hq]at hg
    | true=>
     have hsz:i<ops.size:=by rw[←S.len];exact hi
     have heffi:effAt xs i=true:=by unfold effAt;rw[hx];exact hq
     have hside:∀j,j<xs.length→j≠i→effAt xs j=true→D j=decide (j<i):=by
      intro j hj hne hej
      have hjx:xs[j]? =some (xs[j]'hj):=List.getElem?_eq_getElem hj
      have hej':(xs[j]'hj).op.effect=true:=by unfold effAt at hej;rw[hjx]at hej;exact hej
      exact S.side hc hsz hd (fun o' ho'=>by rw[ho]at ho';cases ho';exact he) (by rw[←S.len];exact hj) hne (S.effs j i _ _ hjx hx hne hej' hq)
     have hkle:kd xs D xs.length≤i:=by
      rcases kd_hit xs D xs.length with h9 | ⟨j0,e0,l0,d0,ef0⟩
      ·omega
      ·have hne:j0≠i:=fun e=>by subst e;rw[hd]at d0;cases d0
       have:=hside j0 l0 hne ef0
       rw[d0]at this;simp at this;omega
     have hkd':kd xs (fun j=>j==i||D j) xs.length=i+1:=by
      refine kd_unique (by omega) (.inr ⟨i,rfl,by simp,heffi⟩) (fun j h1 h2=>?_)
      cases hej:effAt xs j with
      | false=>simp
      | true=>
       have hne:j≠i:=by omega
       have:=hside j h2 hne hej
       have h9:decide (j<i)=false:=by simp;omega
       rw[h9]at this
       simp[this,hne]
     rw[hkd']at hg
     by_cases hlt:y<(Hh (i+1)).next
     ·rw[s2]at hlt
      have hb:bi Hh y xs.length≤i:=bi_le_of mono (Nat.le_refl _) hlt
      have hln:y<(Hh xs.length).next:=Nat.lt_of_lt_of_le hlt (mono i _ (by omega) (Nat.le_refl _))
      have hbh:y<(Hh (bi Hh y xs.length)).next:=bi_hit hln
      have hyp:y<(Hh (max (kd xs D xs.length) (bi Hh y xs.length))).next:=Nat.lt_of_lt_of_le hbh (mono _ _ (by omega) (by omega))
      have:=trace_same ok T (y:=y) (p:=max (kd xs D xs.length) (bi Hh y xs.length)) (i-max (kd xs D xs.length) (bi Hh y xs.length)) (by omega) hyp (fun j h1 h2 hej hwj=>by
       have h3:=kd_above xs D xs.length j (by omega) (by omega)
       have h4:=hside j (by omega) (by omega) hej
       rw[hej,h4]at h3;simp at h3;omega)
      rw[show max (kd xs D xs.length) (bi Hh y xs.length)+(i-max (kd xs D xs.length) (bi Hh y xs.length))=i from by omega]at this
      rw[←this]
      rw[show max (i+1) (bi Hh y xs.length)=i+1 from by omega,s2]at hg
      exact hg
     ·have hbg:i+1≤bi Hh y xs.length:=by
       rcases bi_or Hh y xs.length with e | e
       ·omega
       ·rcases Nat.lt_or_ge (bi Hh y xs.length) (i+1) with h5 | h5
        ·have:=mono (bi Hh y xs.length) (i+1) (by omega) (by omega);omega
        ·exact h5
      rw[show max (i+1) (bi Hh y xs.length)=bi Hh y xs.length from by omega]at hg
      rw[show max (kd xs D xs.length) (bi Hh y xs.length)=bi Hh y xs.length from by omega]
      exact hg
   refine ih hc' ⟨?_,?_,ds.sub,ds.bound,?_,?_,?_,ds.own,ds.wsize,ds.os,ds.tape,ds.output,ds.frame,ds.glb⟩ (by rw[put_defers];exact hdf)
   ·cases xs[i].dst<;>simpa [Act.put] using ds.size
   ·exact val_new S hc ho hx hd he ds.tmps ds.size (by rw[s1];exact VR.undef)
   ·intro y ly hy
    rcases ds.dom y ly hy with h1 | ⟨k,h1,h2,h3⟩
    ·exact .inl h1
    ·exact .inr ⟨k,h1,by simp[h2],h3⟩
   ·intro y ly ob hy hg;exact ds.obj y ly ob hy (hmove y ly hy ob hg)
   ·intro y z ly lz oy oz hy hz hgy hgz;exact ds.inj y z ly lz oy oz hy hz (hmove y ly hy oy hgy) (hmove z lz hz oz hgz)
theorem sim_draw (ok:RecOk P rec m) (S:DrawStat P ops xs an) (hdep:(P.follows .mixedOrders|| !Region.departs ops)=true) (T:Trace rec xs a h a' h' A Hh V RD W) {ro:Option Nat} {Q:Exit→Act→World→Prop} {id B:Nat} {ρ:Emb} {w:World} {act:Act}
  (ht:TR ρ a act.tmps) (hr:HR P ρ h w) (hfr:Fresh ρ h h') (hmk:MK B ρ w act.defers)
  (hQ:∀ρ' w' act',TR ρ' a' act'.tmps→HR P ρ' h' w'→Stp ρ h w ρ' h' w'→MK B ρ' w' act'.defers→Q .normal act' w'):
  (Code.region id ops true).wpIn (Fn ro) 0 P Q act w:=by
 refine wpIn_region_draw fun t=>?_
 obtain⟨D0,hD0,hsch⟩:=sched_ok ops S.edge (P.follows .mixedOrders) hdep t
 have mono:=trace_mono ok T
 have hsz:act.tmps.size=a.length:=by have:=ht.1;simpa using this
 have hr1:HR P ρ h w.drew:=HR.heap hr rfl
 have hvv:∀D:Nat→Bool,(∀i,i<ops.size→D i=false)→∀t,vv xs a V D t xs.length=tget a t:=fun D hD t=>vv_stop (i:=0) xs.length (by omega) (fun j x _ hj _ _=>hD j (by rw[←S.len];exact hj))
 have hkd0:∀D:Nat→Bool,(∀i,i<ops.size→D i=false)→kd xs D xs.length=0:=fun D hD=>kd_unique (by omega) (.inl rfl) (fun j _ hj=>by rw[hD j (by rw[←S.len];exact hj)];rfl)
 have hcont0:∀y l,ρ y=some l→∀ob,(Hh (max 0 (bi Hh y xs.length))).get y=some ob→h.get y=some ob:=by
  intro y l hy ob hg
  by_cases hlt:y<h.next
  ·have hb:bi Hh y xs.length≤0:=bi_le_of mono (Nat.le_refl _) (by rw[T.h0];exact hlt)
   rw[show max 0 (bi Hh y xs.length)=0 from by omega,T.h0]at hg
   exact hg
  ·have h1:=H.lt_of_get hg
   have h2:=bi_le Hh y xs.length
   have h3:=mono (max 0 (bi Hh y xs.length)) xs.length (by omega) (Nat.le_refl _)
   rw[T.hn]at h3
   have:=hfr y (by omega) (by omega)
   rw[hy]at this;cases this
 refine sched_run (w0:=w) (dfs:=act.defers) ok S T hfr ?_ hsch ?_ (ρ:=ρ) ?_ rfl
 ·intro ρ' w' act' D hall ds hdf
  have hst:Stp ρ h w ρ' h' w':=⟨ds.sub,fun y l hy=>by
    rcases ds.dom y l hy with h1 | ⟨k,h1,h2,h3,h4⟩
    ·exact .inl h1
    ·have m0:=mono 0 k (by omega) (by omega)
     have m1:=mono (k+1) xs.length (by omega) (Nat.le_refl _)
     rw[T.h0]at m0;rw[T.hn]at m1
     exact .inr ⟨by omega,by omega⟩,ds.own,ds.wsize,ds.os,ds.tape,ds.output,ds.frame⟩
  have hfin:∀y,y<h'.next→(Hh (max (kd xs D xs.length) (bi Hh y xs.length))).get y=h'.get y:=by
   intro y hy
   have hln:y<(Hh xs.length).next:=by rw[T.hn];exact hy
   have hbh:=bi_hit hln
   have h2:=bi_le Hh y xs.length
   have h3:=kd_le xs D xs.length
   have hyp:y<(Hh (max (kd xs D xs.length) (bi Hh y xs.length))).next:=Nat.lt_of_lt_of_le hbh (mono _ _ (by omega) (by omega))
   have:=trace_same ok T (y:=y) (p:=max (kd xs D xs.length) (bi Hh y xs.length)) (xs.length-max (kd xs D xs.length) (bi Hh y xs.length)) (by omega) hyp (fun j h1 h2 hej hwj=>by
    have h3:=kd_above xs D xs.length j (by omega) (by omega)
    rw[hej,hall j (by rw[←S.len];omega)]at h3;simp at h3)
   rw[show max (kd xs D xs.length) (bi Hh y xs.length)+(xs.length-max (kd xs D xs.length) (bi Hh y xs.length))=xs.length from by omega,T.hn]at this
   exact this.symm
  refine hQ ρ' w' act' ?_ ?_ hst (by rw[hdf];exact hmk.step hst)
  ·have hlen:=trace_len T xs.length (Nat.le_refl _)
   rw[T.an]at hlen
   refine⟨by have:=ds.size;simp;omega,fun j v u h1 h2=>?_⟩
   have hj:j<a.length:=by have:=(List.getElem?_eq_some_iff.1 h1).1;omega
   have hv:=ds.tmps j hj
   have hval:vv xs a V D j xs.length=tget a' j:=by
    rw[←T.an,(trace_vv T hj xs.length (Nat.le_refl _)).1]
    exact vv_congr _ (fun k x hk hx _=>by rw[hall k (by rw[←S.len];exact hk)])
   rw[hval,tget_eq,h1]at hv
   have:act'.tmps.getD j undef=u:=by
    rw[Array.getElem?_toList]at h2
    simp[Array.getD_eq_getD_getElem?,h2]
   rw[this]at hv
   exact hv
  ·have hev0:Ev h h':=by
    have:=trace_ev ok T (i:=0) xs.length (by omega)
    rw[Nat.zero_add,T.h0,T.hn]at this;exact this
   refine⟨ds.gat,ds.goff hev0 hfr,ds.bound,fun y l ob hy hg=>ds.obj y l ob hy (by rw[hfin y (H.lt_of_get hg)];exact hg),fun y z ly lz oy oz hy hz hgy hgz=>?_⟩
   exact ds.inj y z ly lz oy oz hy hz (by rw[hfin y (H.lt_of_get hgy)];exact hgy) (by rw[hfin z (H.lt_of_get hgz)];exact hgz)
 ·intro j o ho hd
  rw[hD0 j (Array.getElem?_eq_some_iff.1 ho).1]at hd;cases hd
 ·refine⟨hsz,fun t _=>?_,Sub.refl _,hr1.bound,fun y l hy=> .inl hy,?_,?_,fun y l hy=> .inl hy,Nat.le_refl _,rfl,rfl,rfl,fun _ _ _=>rfl,hr1.gat,hr1.goff⟩
  ·rw[hvv D0 hD0 t];exact ht.get t
  ·rw[hkd0 D0 hD0]
   intro y l ob hy hg
   exact hr1.obj y l ob hy (hcont0 y l hy ob hg)
  ·rw[hkd0 D0 hD0]
   intro y z ly lz oy oz hy hz hgy hgz
   exact hr1.inj y z ly lz oy oz hy hz (hcont0 y ly hy oy hgy) (hcont0 z lz hz oz hgz)
end
end
end Go.Am

