/- Plain law: winners of related games, and what goes with it. -/
import Derived.Test.YtgcombgonagkkaaCertifyAcceptsG0
import Derived.Test.YtgcombgonagkkaaPmC
set_option linter.unusedVariables false
namespace Go.Am.Ar
open Go.Am.PV renaming junk→Zj
theorem IsSol.into {n n':Nat} {O O':Nat→Int} {S S':Nat→List Nat} {R R':Nat→Int} {w w':Nat→Int} {s s':Nat→Nat} {ph:Nat→Nat} {p q:Int} (h:IsSol n O S R w s) (h':IsSol n' O' S' R' w' s') (hp:p=0∨p=1) (hq:q=1-p)
    (hR:∀v,v<n'→R' v=R (ph v))
    (hst:∀u,(ph u<n∧w (ph u)=p)→(u<n'∧w' u=q)→∃u',ph u'∈S (ph u)∧u'∈S' u∧ph u'<n∧u'<n'∧(O (ph u)=p→ph u'=s (ph u))∧(O' u=q→u'=s' u)) {v:Nat} (h1:ph v<n) (h2:v<n') (h3:w (ph v)=p):w' v=p:=by
  refine Classical.byContradiction fun hn=>?_
  have h4:w' v=q:=by have:=h'.r01 v h2;omega
  exact no_both (h.of hp) (h'.of (p:=q) (by omega)) (by omega) (n:=n') (fun v h=>h.1) (fun v h=>hR v h.1) hst (v:=v) ⟨h1,h3⟩ ⟨h2,h4⟩
theorem IsSol.more {n:Nat} {O:Nat→Int} {S S':Nat→List Nat} {R:Nat→Int} {w w':Nat→Int} {s s':Nat→Nat} {p:Int} {at':Nat} (hO:∀v,v<n→O v=0∨O v=1) (h:IsSol n O S R w s) (h':IsSol n O S' R w' s') (hp:p=0∨p=1)
    (ha:O at'=p) (hS:∀v,v<n→∀u∈S v,u∈S' v) (hS':∀v,v<n→v≠at'→S' v=S v):∀v,v<n→w v=p→w' v=p:=by
  intro v hv hw
  refine IsSol.into (ph:=id) h h' hp rfl (fun _ _=>rfl) (fun u hu hu'=>?_) hv hv hw
  simp only[id]at hu ⊢
  by_cases ho:O u=p
  · obtain⟨q1,q2⟩:=(h.of hp).own u hu ho
    exact⟨s u,q1,hS u hu.1 _ q1,q2.1,q2.1,fun _=>rfl,fun e=>by omega⟩
  · have hoq:O u=1-p:=by have:=hO u hu.1;omega
    obtain⟨q1,q2⟩:=(h'.of (p:=1-p) (by omega)).own u hu' hoq
    have hua:u≠at':=by rintro rfl;exact ho ha
    exact⟨s' u,by rw[hS' u hu.1 hua]at q1;exact q1,q1,q2.1,q2.1,fun e=>absurd e ho,fun _=>rfl⟩
theorem SolIn.loop {n:Nat} {O:Nat→Int} {S:Nat→List Nat} {R:Nat→Int} {W:Nat→Prop} {s f:Nat→Nat} {p:Int} {v m k:Nat} (a:SolIn O S R (fun v=>v<n) p W s) (hv:W v) (hf:∀u,u<n→f u∈S u∧f u<n) (hs:∀u,W u→O u=p→f u=s u) (hkm:k<m) (hback:itr f v m=itr f v k):
    (∀i,W (itr f v i))∧∃j,(∀i,R (itr f v (k+i))≤R (itr f v (k+j)))∧R (itr f v (k+j)) % 2=p:=by
  have inv:∀i,W (itr f v i):=by
    intro i
    induction i with
    | zero=>exact hv
    | succ i ih=>
      show W (f _)
      have hn:=a.sub _ ih
      by_cases ho:O (itr f v i)=p
      · rw[hs _ ih ho];exact(a.own _ ih ho).2
      · exact a.opp _ ih ho _ (hf _ hn).1 (hf _ hn).2
  have hper:=itr_per (by omega) hback
  exact⟨inv,a.cyc (fun i=>itr f v (k+i)) (m-k) (by omega) hper (fun i=>inv _) (fun i=>(hf _ (a.sub _ (inv _))).1) (fun i ho=>hs _ (inv _) ho)⟩
inductive Rch (E:Nat→Nat→Prop) (Q:Nat→Prop) (v:Nat):Nat→Prop
  | one {u:Nat} :E v u→Q u→Rch E Q v u
  | more {u x:Nat} :Rch E Q v u→E u x→Q x→Rch E Q v x
def Bad (E:Nat→Nat→Prop) (R:Nat→Int) (p:Int) (u:Nat):Prop:=R u % 2≠p∧Rch E (fun x=>R x≤R u) u u
def Lost (E:Nat→Nat→Prop) (R:Nat→Int) (p:Int) (v:Nat):Prop:=Bad E R p v∨∃u,Bad E R p u∧Rch E (fun _=>True) v u
theorem Rch.list {E:Nat→Nat→Prop} {Q:Nat→Prop} {v u:Nat} (h:Rch E Q v u):∃(k:Nat) (c:Nat→Nat),c 0=v∧c (k+1)=u∧∀i,i≤k→E (c i) (c (i+1))∧Q (c (i+1)):=by
  induction h with
  | @one u h1 h2 => exact ⟨0, fun i => if i = 0 then v else u, rfl, rfl, fun i hi => by have : i = 0 := by omega
                                                                                        subst this;exact⟨h1,h2⟩⟩
  | @more u x _ h1 h2 ih=>
    obtain⟨k,c,e1,e2,e3⟩:=ih
    refine⟨k+1,fun i=>if i≤k+1 then c i else x,by simp[e1],by show(if _ then _ else _)=_;rw[if_neg (by omega)],fun i hi=>?_⟩
    by_cases q:i≤k
    · simp only[show i≤k+1 by omega,show i+1≤k+1 by omega,if_true]
      exact e3 i q
    · have:i=k+1:=by omega
      subst this
      simp only[Nat.le_refl,if_true,show ¬k+1+1≤k+1 by omega,if_false,e2]
      exact⟨h1,h2⟩
theorem Rch.mono {E E':Nat→Nat→Prop} {Q Q':Nat→Prop} {v u:Nat} (h:Rch E Q v u) (hE:∀a b,E a b→E' a b) (hQ:∀a,Q a→Q' a):Rch E' Q' v u:=by
  induction h with
  | one h1 h2=>exact .one (hE _ _ h1) (hQ _ h2)
  | more _ h1 h2 ih=>exact .more ih (hE _ _ h1) (hQ _ h2)
theorem Rch.inv {E:Nat→Nat→Prop} {Q P:Nat→Prop} {v u:Nat} (h:Rch E Q v u) (h0:P v) (hP:∀a b,P a→E a b→P b):P u:=by
  induction h with
  | one h1 _=>exact hP _ _ h0 h1
  | more _ h1 _ ih=>exact hP _ _ ih h1
theorem cyc_of {u k:Nat} {c:Nat→Nat} (h1:c (k+1)=c 0) (E:Nat→Nat→Prop) (hE:∀i,i≤k→E (c i) (c (i+1))):∀i,E (c (i % (k+1))) (c ((i+1) % (k+1))):=by
  intro i
  have hi:i % (k+1)<k+1:=Nat.mod_lt _ (by omega)
  by_cases q:i % (k+1)=k
  · have:(i+1) % (k+1)=0:=by
      rw[Nat.add_mod,q]
      by_cases hk:k=0
      · subst hk;rfl
      · rw[Nat.mod_eq_of_lt (a:=1) (by omega)];simp
    rw[this,q,←h1];exact hE k (Nat.le_refl _)
  · have:(i+1) % (k+1)=i % (k+1)+1:=by
      rw[Nat.add_mod]
      by_cases hk:k=0
      · subst hk;omega
      · rw[Nat.mod_eq_of_lt (a:=1) (by omega),Nat.mod_eq_of_lt (by omega)]
    rw[this];exact hE _ (by omega)
theorem SolIn.safe {n:Nat} {O:Nat→Int} {S:Nat→List Nat} {R:Nat→Int} {W:Nat→Prop} {s:Nat→Nat} {p:Int} {E:Nat→Nat→Prop} (a:SolIn O S R (fun v=>v<n) p W s) (hE:∀v u,W v→E v u→u∈S v∧u<n∧(O v=p→u=s v)) {v:Nat} (hv:W v):¬Lost E R p v:=by
  have clo:∀a b,W a→E a b→W b:=fun v u hv he=>by
    obtain⟨h1,h2,h3⟩:=hE v u hv he
    by_cases ho:O v=p
    · rw[h3 ho];exact(a.own v hv ho).2
    · exact a.opp v hv ho u h1 h2
  have nb:∀u,W u→¬Bad E R p u:=by
    rintro u hu ⟨h1,h2⟩
    obtain⟨k,c,e1,e2,e3⟩:=h2.list
    have hW:∀i,i≤k+1→W (c i):=by
      intro i
      induction i with
      | zero=>intro _;rw[e1];exact hu
      | succ i ih=>intro hi;exact clo _ _ (ih (by omega)) (e3 i (by omega)).1
    have hlt:∀i,i % (k+1)≤k:=fun i=>by have:=Nat.mod_lt i (show 0<k+1 by omega);omega
    have hall:=cyc_of (u:=u) (c:=c) (k:=k) (by rw[e1,e2]) E (fun i hi=>(e3 i hi).1)
    obtain⟨j,j1,j2⟩:=a.cyc (fun i=>c (i % (k+1))) (k+1) (by omega) (fun i=>by show c _=c _;rw[Nat.add_mod_right]) (fun i=>hW _ (by have:=hlt i;omega)) (fun i=>(hE _ _ (hW _ (by have:=hlt i;omega)) (hall i)).1)
      (fun i ho=>(hE _ _ (hW _ (by have:=hlt i;omega)) (hall i)).2.2 ho)
    have g1:=j1 0
    have g2:R (c (j % (k+1)))≤R u:=by
      rcases Nat.eq_zero_or_pos (j % (k+1)) with q | q
      · rw[q,e1];exact Int.le_refl _
      · have:=(e3 (j % (k+1)-1) (by have:=hlt j;omega)).2
        rwa [show j % (k+1)-1+1=j % (k+1) by omega]at this
    simp only[Nat.zero_mod,e1]at g1
    apply h1
    rw[show R u=R (c (j % (k+1))) by omega];exact j2
  rintro(h | ⟨u,h1,h2⟩)
  · exact nb v hv h
  · exact nb u (h2.inv hv clo) h1
theorem SolIn.lost {n:Nat} {O:Nat→Int} {S:Nat→List Nat} {R:Nat→Int} {W:Nat→Prop} {s:Nat→Nat} {p q:Int} {E:Nat→Nat→Prop} (a:SolIn O S R (fun v=>v<n) q W s) (hpq:p≠q) {f:Nat→Nat} (hf:∀u,u<n→f u∈S u∧f u<n) (hs:∀u,W u→O u=q→f u=s u) (hE:∀u,W u→E u (f u)) {v:Nat} (hv:W v):Lost E R p v:=by
  obtain⟨m,k,hkm,hback⟩:=orbit (fun v hv=>(hf v hv).2) (a.sub v hv)
  obtain⟨inv,j,j1,j2⟩:=a.loop hv hf hs hkm hback
  have hper:=itr_per (by omega) hback
  have path:∀(Q:Nat→Prop) (i d:Nat),(∀e,Q (itr f v (i+e)))→Rch E Q (itr f v i) (itr f v (i+(d+1))):=by
    intro Q i d hQ
    induction d with
    | zero=>exact .one (hE _ (inv _)) (hQ _)
    | succ d ih=>exact .more ih (hE _ (inv _)) (hQ _)
  have hb:Bad E R p (itr f v (k+j)):=by
    refine⟨by rw[j2];exact fun e=>hpq e.symm,?_⟩
    have h1:=path (fun x=>R x≤R (itr f v (k+j))) (k+j) (m-k-1) (fun e=>by rw[Nat.add_assoc];exact j1 _)
    have h2:itr f v (k+j+(m-k-1+1))=itr f v (k+j):=by
      rw[show k+j+(m-k-1+1)=k+(j+(m-k)) by omega];exact hper j
    rw[h2]at h1;exact h1
  by_cases hz:k+j=0
  · rw[hz]at hb;exact .inl hb
  · refine .inr ⟨_,hb,?_⟩
    have:=path (fun _=>True) 0 (k+j-1) (fun _=>trivial)
    rw[show 0+(k+j-1+1)=k+j by omega]at this
    exact this
def bm (L:List Bool) (v:Nat):Prop:=L[v]? =some true
instance (L:List Bool) (v:Nat):Decidable (bm L v):=by unfold bm;infer_instance
def stN (st:List Int) (v:Nat):Nat:=(st.getD v 0).toNat
theorem bm_lt {L:List Bool} {v:Nat} (h:bm L v):v<L.length:=q10 h
theorem q65 {L:List Bool} {v:Nat} {b:Bool} (h:L[v]? =some b):bm L v↔b=true:=by
  unfold bm;rw[h];simp
theorem q40 {L:List Bool} {v w:Nat} (hv:v<L.length):bm (L.set v true) w↔w=v∨bm L w:=by
  unfold bm
  by_cases e:w=v
  · subst e;simp[hv]
  · rw[List.getElem?_set_ne (by omega)];simp[e]
theorem stN_set {st:List Int} {v w:Nat} {x:Int} (hv:v<st.length):stN (st.set v x) w=if w=v then x.toNat else stN st w:=by
  unfold stN
  rw[List.getD,List.getD]
  by_cases e:w=v
  · subst e;simp[hv]
  · rw[List.getElem?_set_ne (by omega),if_neg e]
theorem count_add {L:List Bool} {v:Nat} (h:L[v]? =some false):(L.set v true).count true=L.count true+1:=by
  have hv:=q10 h
  rw[List.getElem?_eq_getElem hv]at h
  have h:L[v]=false:=by simpa using h
  rw[List.count_set hv,h]
  simp
structure AJ (O:Nat→Int) (S:Nat→List Nat) (D X:Nat→Prop) (p:Int) (s0:Nat→Nat) (n:Nat) (out:List Bool) (st:List Int) (r:Nat→Nat) (c:Nat):Prop where
  lo:out.length=n
  ls:st.length=n
  nn:∀x∈st,0≤x
  sub:∀v,bm out v→D v
  tgt:∀v,X v→bm out v
  own:∀v,bm out v→¬X v→O v=p→stN st v∈S v∧bm out (stN st v)∧r (stN st v)<r v
  opp:∀v,bm out v→¬X v→¬O v=p→∀u∈S v,D u→bm out u∧r u<r v
  same:∀v,¬bm out v∨X v→stN st v=s0 v
  rk:∀v,bm out v→r v<c
def Stab (O:Nat→Int) (S:Nat→List Nat) (D:Nat→Prop) (p:Int) (out:List Bool) (v:Nat):Prop:=
  D v→¬bm out v→(O v=p→∀u∈S v,¬bm out u)∧(¬O v=p→∃u∈S v,D u∧¬bm out u)
section
variable {O:Nat→Int} {S:Nat→List Nat} {D X:Nat→Prop} {p:Int} {s0:Nat→Nat} {n:Nat} {out:List Bool} {st:List Int} {r:Nat→Nat} {c:Nat}
theorem AJ.start {tgt:List Bool} {st:List Int} (h1:tgt.length=n) (h2:st.length=n) (h3:∀x∈st,0≤x) (h4:∀v,bm tgt v→D v):AJ O S D (bm tgt) p (stN st) n tgt st (fun _=>0) 1:=
  ⟨h1,h2,h3,h4,fun v h=>h,fun v h q=>absurd h q,fun v h q=>absurd h q,fun v _=>rfl,fun v _=>by omega⟩
theorem AJ.addOwn (j:AJ O S D X p s0 n out st r c) {v:Nat} {x:Int} (hv:v<n) (hn:¬bm out v) (hd:D v) (ho:O v=p) (hx:0≤x) (h1:x.toNat∈S v) (h2:bm out x.toNat):
    AJ O S D X p s0 n (out.set v true) (st.set v x) (fun w=>if w=v then c else r w) (c+1):=by
  have hvo:v<out.length:=by rw[j.lo];exact hv
  have hvs:v<st.length:=by rw[j.ls];exact hv
  have hxv:x.toNat≠v:=fun e=>hn (e▸h2)
  have hXv:¬X v:=fun h=>hn (j.tgt v h)
  refine⟨by simp[j.lo],by simp[j.ls],fun y hy=>?_,fun w hw=>?_,fun w hw=>(q40 hvo).2 (.inr (j.tgt w hw)),fun w hw hxw how=>?_,fun w hw hxw how u hu hdu=>?_,fun w hw=>?_,fun w hw=>?_⟩
  · rcases List.mem_or_eq_of_mem_set hy with h | h
    · exact j.nn y h
    · subst h;exact hx
  · rcases(q40 hvo).1 hw with h | h
    · subst h;exact hd
    · exact j.sub w h
  · rw[stN_set hvs]
    by_cases e:w=v
    · subst e
      simp only[if_true]
      exact⟨h1,(q40 hvo).2 (.inr h2),by simp only[if_neg hxv];exact j.rk _ h2⟩
    · have hb:=((q40 hvo).1 hw).resolve_left e
      obtain⟨q1,q2,q3⟩:=j.own w hb hxw how
      have e2:stN st w≠v:=fun e=>hn (e▸q2)
      simp only[if_neg e,if_neg e2]
      exact⟨q1,(q40 hvo).2 (.inr q2),q3⟩
  · have e:w≠v:=by rintro rfl;exact how ho
    have hb:=((q40 hvo).1 hw).resolve_left e
    obtain⟨q1,q2⟩:=j.opp w hb hxw how u hu hdu
    have e2:u≠v:=fun e=>hn (e▸q1)
    simp only[if_neg e,if_neg e2]
    exact⟨(q40 hvo).2 (.inr q1),q2⟩
  · have e:w≠v:=by
      rintro rfl
      rcases hw with h | h
      · exact h ((q40 hvo).2 (.inl rfl))
      · exact hXv h
    rw[stN_set hvs,if_neg e]
    exact j.same w (hw.imp (fun h q=>h ((q40 hvo).2 (.inr q))) id)
  · rcases(q40 hvo).1 hw with h | h
    · subst h;simp
    · have:=j.rk w h
      by_cases e:w=v
      · simp[e]
      · simp only[if_neg e];omega
theorem AJ.addOpp (j:AJ O S D X p s0 n out st r c) {v:Nat} (hv:v<n) (hn:¬bm out v) (hd:D v) (ho:¬O v=p) (h1:∀u∈S v,D u→bm out u):
    AJ O S D X p s0 n (out.set v true) st (fun w=>if w=v then c else r w) (c+1):=by
  have hvo:v<out.length:=by rw[j.lo];exact hv
  have hXv:¬X v:=fun h=>hn (j.tgt v h)
  refine⟨by simp[j.lo],j.ls,j.nn,fun w hw=>?_,fun w hw=>(q40 hvo).2 (.inr (j.tgt w hw)),fun w hw hxw how=>?_,fun w hw hxw how u hu hdu=>?_,fun w hw=>?_,fun w hw=>?_⟩
  · rcases(q40 hvo).1 hw with h | h
    · subst h;exact hd
    · exact j.sub w h
  · have e:w≠v:=by rintro rfl;exact ho how
    have hb:=((q40 hvo).1 hw).resolve_left e
    obtain⟨q1,q2,q3⟩:=j.own w hb hxw how
    have e2:stN st w≠v:=fun e=>hn (e▸q2)
    simp only[if_neg e,if_neg e2]
    exact⟨q1,(q40 hvo).2 (.inr q2),q3⟩
  · by_cases e:w=v
    · subst e
      have q1:=h1 u hu hdu
      have e2:u≠w:=fun e=>hn (e▸q1)
      simp only[if_true,if_neg e2]
      exact⟨(q40 hvo).2 (.inr q1),j.rk u q1⟩
    · have hb:=((q40 hvo).1 hw).resolve_left e
      obtain⟨q1,q2⟩:=j.opp w hb hxw how u hu hdu
      have e2:u≠v:=fun e=>hn (e▸q1)
      simp only[if_neg e,if_neg e2]
      exact⟨(q40 hvo).2 (.inr q1),q2⟩
  · exact j.same w (hw.imp (fun h q=>h ((q40 hvo).2 (.inr q))) id)
  · rcases(q40 hvo).1 hw with h | h
    · subst h;simp
    · have:=j.rk w h
      by_cases e:w=v
      · simp[e]
      · simp only[if_neg e];omega
theorem AJ.fin (j:AJ O S D X p s0 n out st r c) (hD:∀v,D v→v<n) (h:∀v,v<n→Stab O S D p out v):AttIn O S D p X (bm out) s0 (stN st) r:=
  ⟨j.sub,j.tgt,j.own,j.opp,j.same,fun v hd hn ho=>(h v (hD v hd) hd hn).1 ho,fun v hd hn ho=>(h v (hD v hd) hd hn).2 ho⟩
end
structure RJ (S:Nat→List Nat) (Q:Nat→Prop) (v n:Nat) (w:List Bool) (q:List Nat) (C:Nat→Prop):Prop where
  lw:w.length=n
  qn:∀x∈q,x<n
  snd:∀u,bm w u→Rch (fun a b=>b∈S a) Q v u
  qr:∀x∈q,x=v∨bm w x
  clo:∀x,x=v∨bm w x→x∈q∨C x∨∀y∈S x,Q y→bm w y
section
variable {S:Nat→List Nat} {Q:Nat→Prop} {v n:Nat} {w:List Bool} {q:List Nat} {C:Nat→Prop} {u x:Nat}
theorem RJ.start (hv:v<n):RJ S Q v n (List.replicate n false) [v] fun _=>False:=by
  have no:∀u,¬bm (List.replicate n false) u:=fun u h=>by
    unfold bm at h
    rw[List.getElem?_replicate]at h
    split at h<;>cases h
  refine⟨by simp,fun x hx=>?_,fun u h=>absurd h (no u),fun x hx=>?_,fun x hx=>?_⟩
  · rw[List.mem_singleton]at hx;subst hx;exact hv
  · exact .inl (List.mem_singleton.1 hx)
  · exact .inl (List.mem_singleton.2 (hx.resolve_right (no x)))
theorem RJ.pop (j:RJ S Q v n w (u::q) fun _=>False):RJ S Q v n w q fun x=>x=u:=
  ⟨j.lw,fun x hx=>j.qn x (List.mem_cons_of_mem _ hx),j.snd,fun x hx=>j.qr x (List.mem_cons_of_mem _ hx),fun x hx=>by
    rcases j.clo x hx with h | h | h
    · rcases List.mem_cons.1 h with e | h
      · exact .inr (.inl e)
      · exact .inl h
    · exact h.elim
    · exact .inr (.inr h)⟩
theorem RJ.push (j:RJ S Q v n w q C) (hu:u=v∨bm w u) (hx:x∈S u) (hq:Q x) (hn:x<n):RJ S Q v n (w.set x true) (q++[x]) C:=by
  have hl:x<w.length:=by rw[j.lw];exact hn
  have up:∀y,bm w y→bm (w.set x true) y:=fun y h=>(q40 hl).2 (.inr h)
  refine⟨by simp[j.lw],fun y hy=>?_,fun y hy=>?_,fun y hy=>?_,fun y hy=>?_⟩
  · rcases List.mem_append.1 hy with h | h
    · exact j.qn y h
    · rw[List.mem_singleton]at h;subst h;exact hn
  · rcases(q40 hl).1 hy with h | h
    · subst h
      rcases hu with h | h
      · subst h;exact .one hx hq
      · exact .more (j.snd _ h) hx hq
    · exact j.snd y h
  · rcases List.mem_append.1 hy with h | h
    · exact(j.qr y h).imp id (up y)
    · rw[List.mem_singleton]at h;subst h;exact .inr ((q40 hl).2 (.inl rfl))
  · have key:y=x∨y=v∨bm w y:=by
      rcases hy with h | h
      · exact .inr (.inl h)
      · exact((q40 hl).1 h).imp id .inr
    rcases key with h | h
    · exact .inl (List.mem_append.2 (.inr (List.mem_singleton.2 h)))
    · rcases j.clo y h with h | h | h
      · exact .inl (List.mem_append.2 (.inl h))
      · exact .inr (.inl h)
      · exact .inr (.inr fun z hz hqz=>up z (h z hz hqz))
theorem RJ.close (j:RJ S Q v n w q fun x=>x=u) (h:∀y∈S u,Q y→bm w y):RJ S Q v n w q fun _=>False:=
  ⟨j.lw,j.qn,j.snd,j.qr,fun x hx=>by
    rcases j.clo x hx with h1 | h1 | h1
    · exact .inl h1
    · subst h1;exact .inr (.inr h)
    · exact .inr (.inr h1)⟩
theorem RJ.fin (j:RJ S Q v n w [] fun _=>False) (u:Nat):bm w u↔Rch (fun a b=>b∈S a) Q v u:=by
  refine⟨j.snd u,fun h=>?_⟩
  have clo:∀x,x=v∨bm w x→∀y∈S x,Q y→bm w y:=fun x hx=>by
    rcases j.clo x hx with h | h | h
    · cases h
    · exact h.elim
    · exact h
  induction h with
  | one h1 h2=>exact clo v (.inl rfl) _ h1 h2
  | more _ h1 h2 ih=>exact clo _ (.inr ih) _ h1 h2
end
set_option linter.unusedSimpArgs false
def nx (p:Bool):Int→Int→List Int→Int
  | least,most,[]=>if p=true then(if least<0 then-1 else least+1) else most+1
  | least,most,r::rs=>if r<0 then(if p=true then nx p least most rs else-1) else nx p (if least<0 then r else if r<least then r else least) (max most r) rs
def rkRow (p:Bool) (S:List Nat) (k:Int) (R:Nat→Int) (v:Nat):Int:=if R v<0 then(if nx p (-1) (-1) (S.map R)=k then k else R v) else R v
def rk (P:Nat→Bool) (S:Nat→List Nat) (Z:Nat→Bool):Nat→Nat→Int
  | 0,v=>if Z v=true then 0 else-1
  | k+1,v=>rkRow (P v) (S v) ((k+1:Nat):Int) (rk P S Z k) v
section
variable {n:Nat} {P:Nat→Bool} {S:Nat→List Nat} {Z:Nat→Bool}
end
set_option maxRecDepth 10000
def Sf (su:List (List Int)) (v:Nat):List Nat:=(su.getD v []).map Int.toNat
theorem row_ok {ow pr:List Int} {su:List (List Int)} (V:Valid ow pr su) {v:Nat} (hv:v<ow.length):su.getD v []≠[]∧(su.getD v []).Pairwise (· < ·)∧∀u∈su.getD v [],0≤u∧u<ow.length:=by
  have hs:=V.s
  have hi:v<su.length:=by omega
  obtain⟨_,_,_,h1,q⟩:=V.row v hi
  have e:su.getD v []=su[v]:=by simp[List.getD,hi]
  obtain⟨q1,q2⟩:=posM_rise q
  rw[e]
  exact⟨fun h=>by rw[h]at h1;simp at h1,q1,fun u hu=>by have:=q2 u hu;omega⟩
theorem Sf_ok {ow pr:List Int} {su:List (List Int)} (V:Valid ow pr su) {v:Nat} (hv:v<ow.length):Sf su v≠[]∧(∀u∈Sf su v,u<ow.length)∧(Sf su v).Nodup:=by
  obtain⟨h1,h2,h3⟩:=row_ok V hv
  refine⟨fun h=>h1 (List.map_eq_nil_iff.1 h),fun u hu=>?_,?_⟩
  · obtain⟨w,hw,rfl⟩:=List.mem_map.1 hu
    have:=h3 w hw;omega
  · unfold Sf
    refine List.pairwise_map.2 (List.Pairwise.imp_of_mem ?_ h2)
    intro a b ha hb hab e
    have:=h3 a ha;have:=h3 b hb;omega
open Go.Am renaming pchk→P1,pold→P2,PKNo→P3,ppack→P4,PObj.under→P5,pput→P6,ptset→P7,q60→P8,pev→P9,ofAV→P10,q30→P11,ppad→P12,pfill→P13,q39→P14,AO.effect→P15
open List renaming replicate→L1
open Nat renaming reduceAdd→N1,reduceSub→N2,reduceMul→N3,reduceLT→N4,reduceLeDiff→N5,reduceEqDiff→N6,reduceBEq→N7
open Int renaming reduceToNat→I1,reduceLT→I2,reduceLE→I3,reduceEq→I4,reduceAdd→I5,reduceSub→I6,reduceNeg→I7
abbrev nI (q:List Nat):List Int:=q.map fun(x:Nat)=>(x:Int)
def RowsIn (su:List (List Int)):Prop:=su.length<1000000000000∧∀row∈su,row.length<1000000000000∧∀x∈row,0≤x∧x<su.length
section
variable {tab:FuncId→Option AF} (T:HasA tab)
include T
end
theorem q20 (n g v:Nat) (cs:List PV):cutOk n (.cells g v cs)=q14 n cs:=rfl
def idxB (v:Bool):Nat→List Bool→Int
  | _,[]=> -1
  | k,x::l=>if v=x then(k:Int) else idxB v (k+1) l
theorem idxB_iff (v:Bool):∀(l:List Bool) (k:Nat),0≤idxB v k l↔v∈l
  | [],k=>by simp[idxB]
  | x::l,k=>by
    unfold idxB
    by_cases h:v=x
    · rw[if_pos h];simp[h]
    · rw[if_neg h,idxB_iff v l (k+1)];simp[h]
def q57 (a b:List Bool) (n:Nat):List Bool:=(List.range n).map fun v=>a.getD v false&& !b.getD v false
theorem minusL_len (a b:List Bool) (n:Nat):(q57 a b n).length=n:=by simp[q57]
theorem bm_minus {a b:List Bool} {n:Nat} (ha:a.length=n) {v:Nat} :bm (q57 a b n) v↔bm a v∧¬bm b v:=by
  unfold bm q57
  rw[List.getElem?_map]
  by_cases h:v<n
  · rw[List.getElem?_range h]
    simp only[Option.map_some,Option.some.injEq,Bool.and_eq_true,List.getD]
    rw[List.getElem?_eq_getElem (by omega:v<a.length)]
    simp only[Option.getD_some,Option.some.injEq]
    cases hb:b[v]? with
    | none=>simp
    | some x=>cases x<;>simp
  · rw[List.getElem?_eq_none (by simp;omega),List.getElem?_eq_none (by omega:a.length≤v)]
    simp
theorem filter_lt {l:List Nat} {p q:Nat→Bool} (h:∀x∈l,p x=true→q x=true) {y:Nat} (hy:y∈l) (h1:q y=true) (h2:p y=false):(l.filter p).length<(l.filter q).length:=by
  have le:∀l:List Nat,(∀x∈l,p x=true→q x=true)→(l.filter p).length≤(l.filter q).length:=by
    intro l
    induction l with
    | nil=>intro _;exact Nat.le_refl _
    | cons x l ih=>
      intro h
      have ih:=ih fun z hz=>h z (by simp[hz])
      by_cases e:p x=true
      · have:=h x (by simp) e
        simp only[List.filter_cons,e,this,if_true,List.length_cons];omega
      · by_cases e2:q x=true
        · simp only[List.filter_cons,e,e2,if_true,List.length_cons];simp only[Bool.false_eq_true,if_false];omega
        · simp only[List.filter_cons,e,e2];simpa using ih
  induction l with
  | nil=>cases hy
  | cons x l ih=>
    have hl:=le l fun z hz=>h z (by simp[hz])
    rcases List.mem_cons.1 hy with rfl | hy
    · simp only[List.filter_cons,h1,h2,if_true,List.length_cons]
      simp only[Bool.false_eq_true,if_false];omega
    · have ih:=ih (fun z hz=>h z (by simp[hz])) hy
      by_cases e:p x=true
      · have:=h x (by simp) e
        simp only[List.filter_cons,e,this,if_true,List.length_cons];omega
      · by_cases e2:q x=true
        · simp only[List.filter_cons,e,e2,if_true,List.length_cons];simp only[Bool.false_eq_true,if_false];omega
        · simp only[List.filter_cons,e,e2];simpa using ih
theorem count_eq {L:List Bool} {n:Nat} (h:L.length=n):L.count true=((List.range n).filter fun v=>decide (bm L v)).length:=by
  have e:L=(List.range n).map fun v=>L.getD v false:=by
    apply List.ext_getElem?
    intro v
    by_cases hv:v<n
    · simp[hv,List.getD,List.getElem?_eq_getElem (h▸hv:v<L.length)]
    · rw[List.getElem?_eq_none (by omega),List.getElem?_eq_none (by simp;omega)]
  have h2:L.count true=((List.range n).map fun v=>L.getD v false).count true:=congrArg _ e
  rw[h2,List.count,List.countP_map,List.countP_eq_length_filter]
  congr 1
  refine List.filter_congr fun v hv=>?_
  have hv:=List.mem_range.1 hv
  show(L.getD v false==true)=decide (bm L v)
  have hg:L[v]? =some L[v]:=List.getElem?_eq_getElem (by omega:v<L.length)
  have hb:=q65 hg
  rw[List.getD,hg]
  cases hL:L[v] with
  | true=>simp[hb,hL]
  | false=>simp[hb,hL]
theorem count_minus {a b:List Bool} {n:Nat} (ha:a.length=n) {v:Nat} (h1:bm a v) (h2:bm b v):(q57 a b n).count true<a.count true:=by
  rw[count_eq (minusL_len a b n),count_eq ha]
  refine filter_lt (fun x _ h=>decide_eq_true ((bm_minus ha).1 (of_decide_eq_true h)).1) (y:=v) (List.mem_range.2 (by have:=bm_lt h1;omega)) (decide_eq_true h1) (decide_eq_false fun h=>((bm_minus ha).1 h).2 h2)
theorem mem_bm {L:List Bool} :true∈L↔∃v,bm L v:=by
  constructor
  · intro h;obtain⟨i,hi⟩:=List.getElem?_of_mem h;exact⟨i,hi⟩
  · rintro⟨v,h⟩;exact List.mem_of_getElem? h
theorem not_mem_bm {L:List Bool} (h:¬true∈L) (v:Nat):¬bm L v:=fun q=>h (mem_bm.2 ⟨v,q⟩)
def SmI (row:List Int) (inL out:List Bool) (i:Nat) (sm:Int) (al:Bool):Prop:=
  ((sm<0∧∀u∈row.take i,¬(bm inL u.toNat∧bm out u.toNat))∨(0≤sm∧sm∈row∧bm out sm.toNat))∧(al=true↔∀u∈row.take i,bm inL u.toNat→bm out u.toNat)
theorem SmI.al {row:List Int} {inL out:List Bool} {i:Nat} {sm:Int} {al:Bool} (h:SmI row inL out i sm al) {u:Int} (g:row[i]? =some u) {x y:Bool} (hx:inL[u.toNat]? =some x) (hy:out[u.toNat]? =some y):(al&&(!x||y))=true↔∀u∈row.take (i+1),bm inL u.toNat→bm out u.toNat:=by
  rw[take_some g]
  have h1:(!x||y)=true↔(bm inL u.toNat→bm out u.toNat):=by
    rw[q65 hx,q65 hy]
    cases x<;>cases y<;>simp
  rw[Bool.and_eq_true,h.2,h1]
  constructor
  · rintro⟨q1,q2⟩ w hw
    rcases List.mem_append.1 hw with q | q
    · exact q1 w q
    · rw[List.mem_singleton]at q;subst q;exact q2
  · intro q
    exact⟨fun w hw=>q w (by simp[hw]),q u (by simp)⟩
theorem SmI.keep {row:List Int} {inL out:List Bool} {i:Nat} {sm:Int} {al:Bool} (h:SmI row inL out i sm al) {u:Int} (g:row[i]? =some u) {x y:Bool} (hx:inL[u.toNat]? =some x) (hy:out[u.toNat]? =some y) (hk:(x&&y)=false∨¬sm<0):SmI row inL out (i+1) sm (al&&(!x||y)):=by
  refine⟨?_,h.al g hx hy⟩
  rcases h.1 with⟨q1,q2⟩ | q
  · refine .inl ⟨q1,fun w hw=>?_⟩
    rw[take_some g]at hw
    rcases List.mem_append.1 hw with q | q
    · exact q2 w q
    · rw[List.mem_singleton]at q;subst q
      rw[q65 hx,q65 hy]
      rcases hk with hk | hk
      · rintro⟨rfl,rfl⟩;cases hk
      · exact absurd q1 hk
  · exact .inr q
theorem SmI.take {row:List Int} {inL out:List Bool} {i:Nat} {sm:Int} {al:Bool} (h:SmI row inL out i sm al) {u:Int} (g:row[i]? =some u) (hu:0≤u) (hx:inL[u.toNat]? =some true) (hy:out[u.toNat]? =some true):SmI row inL out (i+1) u (al&&(!true||true)):=
  ⟨.inr ⟨hu,List.mem_of_getElem? g,(q65 hy).2 rfl⟩,h.al g hx hy⟩
section
variable {tab:FuncId→Option AF} (T:HasA tab)
include T
theorem indexB_p {M:Mem} {K:PV→Mem→Prop} {f o:Bool} {xs:List Bool} {v:Bool} (hm:xs.length<big) (hk:K (p64 (idxB v 0 xs)) M):
    SemC tab 69 [slB f o xs,.bool v] M K:=by
  refine q11 T.h69 (by simp only[PP,P1,P2,P3,P4,P5,P6,P7,P8,P9,P10,P11,P12,P13,P14,L1,P15,N1,N2,N3,N4,N5,N6,N7,I1,I2,I3,I4,I5,I6,I7,reduceIte,reduceCtorEq]) ?_
  simp only[af69,PP,P1,P2,P3,P4,P5,P6,P7,P8,P9,P10,P11,P12,P13,P14,L1,P15,N1,N2,N3,N4,N5,N6,N7,I1,I2,I3,I4,I5,I6,I7,reduceIte,reduceCtorEq]
  refine loop1 (fun(k:Nat)=>k≤xs.length∧K (p64 (idxB v k (xs.drop k))) M) (fun k=>[slB f o xs,.bool v,Zj,Zj,Zj,Zj,Zj,p64 xs.length,p64 k,Zj,Zj,Zj,Zj,Zj,Zj,Zj,Zj,Zj,Zj]) (fun _=>[]) (fun k=>xs.length-k) 0 ⟨by omega,hk⟩ (by simp only[PW]) rfl ?_
  intro k ⟨hle,hq⟩ ih
  refine q15 (by kernel_rfl) ?_
  simp only[PP,P1,P2,P3,P4,P5,P6,P7,P8,P9,P10,P11,P12,P13,P14,L1,P15,N1,N2,N3,N4,N5,N6,N7,I1,I2,I3,I4,I5,I6,I7,reduceIte,reduceCtorEq]
  refine QIf.intro (fun c=>?_) (fun c=>?_)
  · have hk':k<xs.length:=by omega
    obtain⟨x,g⟩:=q9 hk'
    rw[drop_some g,idxB]at hq
    have hw:=q12 (k:=k) (by omega)
    have h0:(0:Int)≤k:=by omega
    by_cases h1:v=x
    · subst h1
      rw[if_pos rfl]at hq
      simp only[PP,P1,P2,P3,P4,P5,P6,P7,P8,P9,P10,P11,P12,P13,P14,L1,P15,N1,N2,N3,N4,N5,N6,N7,I1,I2,I3,I4,I5,I6,I7,reduceIte,reduceCtorEq,c,g,h0]
      exact hq
    · rw[if_neg h1]at hq
      have hb:(v==x)=false:=by simpa using h1
      simp only[PP,P1,P2,P3,P4,P5,P6,P7,P8,P9,P10,P11,P12,P13,P14,L1,P15,N1,N2,N3,N4,N5,N6,N7,I1,I2,I3,I4,I5,I6,I7,reduceIte,reduceCtorEq,c,g,h0,hb,hw]
      exact q8 (ih (k+1) ⟨by omega,hq⟩ (by omega)) (by simp only[PW])
  · rw[List.drop_eq_nil_of_le (by omega)]at hq
    simp only[PP,P1,P2,P3,P4,P5,P6,P7,P8,P9,P10,P11,P12,P13,P14,L1,P15,N1,N2,N3,N4,N5,N6,N7,I1,I2,I3,I4,I5,I6,I7,reduceIte,reduceCtorEq,c]
    exact hq
theorem containsB_p {M:Mem} {K:PV→Mem→Prop} {f o:Bool} {xs:List Bool} {v:Bool} (hm:xs.length<big) (hk:K (.bool (decide (v∈xs))) M):
    SemC tab 61 [slB f o xs,.bool v] M K:=by
  refine q11 T.h61 (by simp only[PP,P1,P2,P3,P4,P5,P6,P7,P8,P9,P10,P11,P12,P13,P14,L1,P15,N1,N2,N3,N4,N5,N6,N7,I1,I2,I3,I4,I5,I6,I7,reduceIte,reduceCtorEq]) ?_
  simp only[af61,PP,P1,P2,P3,P4,P5,P6,P7,P8,P9,P10,P11,P12,P13,P14,L1,P15,N1,N2,N3,N4,N5,N6,N7,I1,I2,I3,I4,I5,I6,I7,reduceIte,reduceCtorEq]
  refine indexB_p T hm ?_
  have e:decide (0≤idxB v 0 xs)=decide (v∈xs):=by simp only[idxB_iff]
  simp only[PP,P1,P2,P3,P4,P5,P6,P7,P8,P9,P10,P11,P12,P13,P14,L1,P15,N1,N2,N3,N4,N5,N6,N7,I1,I2,I3,I4,I5,I6,I7,reduceIte,reduceCtorEq,e]
  exact hk
theorem empty_p {M:Mem} {K:PV→Mem→Prop} {f o:Bool} {xs:List Bool} (hm:xs.length<big) (hk:K (.bool (!decide (true∈xs))) M):
    SemC tab 40 [slB f o xs] M K:=by
  refine q11 T.h40 (by simp only[PP,P1,P2,P3,P4,P5,P6,P7,P8,P9,P10,P11,P12,P13,P14,L1,P15,N1,N2,N3,N4,N5,N6,N7,I1,I2,I3,I4,I5,I6,I7,reduceIte,reduceCtorEq]) ?_
  simp only[af40,PP,P1,P2,P3,P4,P5,P6,P7,P8,P9,P10,P11,P12,P13,P14,L1,P15,N1,N2,N3,N4,N5,N6,N7,I1,I2,I3,I4,I5,I6,I7,reduceIte,reduceCtorEq]
  refine containsB_p T hm ?_
  simp only[PP,P1,P2,P3,P4,P5,P6,P7,P8,P9,P10,P11,P12,P13,P14,L1,P15,N1,N2,N3,N4,N5,N6,N7,I1,I2,I3,I4,I5,I6,I7,reduceIte,reduceCtorEq]
  exact hk
theorem minus_z {M:Mem} {K:PV→Mem→Prop} {f o f' o':Bool} {a b:List Bool} {n:Nat} (ha:a.length=n) (hb:b.length=n) (hm:n<1000000) (hk:K (slB false true (q57 a b n)) M):
    SemC tab 38 [slB f o a,slB f' o' b] M K:=by
  refine q11 T.h38 (by simp only[PP,P1,P2,P3,P4,P5,P6,P7,P8,P9,P10,P11,P12,P13,P14,L1,P15,N1,N2,N3,N4,N5,N6,N7,I1,I2,I3,I4,I5,I6,I7,reduceIte,reduceCtorEq]) ?_
  have b0:(0:Int)≤n:=by omega
  have b1:(n:Int)*1≤140737488355328:=by omega
  have b2:(n:Int)≤9223372036854775807:=by omega
  simp only[af38,PP,P1,P2,P3,P4,P5,P6,P7,P8,P9,P10,P11,P12,P13,P14,L1,P15,N1,N2,N3,N4,N5,N6,N7,I1,I2,I3,I4,I5,I6,I7,reduceIte,reduceCtorEq,ha,b0,b1,b2,Int.le_refl]
  refine loop3 (fun(k ver:Nat) (w:List Bool)=>k≤n∧w.length=n∧∀v,v<k→w[v]? =some (a.getD v false&& !b.getD v false))
    (fun k ver w=>[slB f o a,slB f' o' b,Zj,Zj,Zj,.ref 0 0 1 0 n,Zj,Zj,Zj,Zj,Zj,p64 n,p64 k,Zj,Zj,Zj,Zj,Zj,Zj,Zj,Zj,Zj,Zj,Zj,Zj,Zj,Zj,Zj,Zj,Zj,Zj]) (fun k ver w=>[.cells 0 ver (w.map PV.bool)]) (fun k _ _=>n-k) 0 0 (List.replicate n false) ⟨by omega,by simp,by intro v h;omega⟩ (by simp only[PW]) (by simp only[List.map_replicate]) ?_
  intro k ver w ⟨hle,hw,hget⟩ ih
  refine q15 (by kernel_rfl) ?_
  simp only[PP,P1,P2,P3,P4,P5,P6,P7,P8,P9,P10,P11,P12,P13,P14,L1,P15,N1,N2,N3,N4,N5,N6,N7,I1,I2,I3,I4,I5,I6,I7,reduceIte,reduceCtorEq]
  refine QIf.intro (fun c=>?_) (fun c=>?_)
  · have hk':k<n:=by omega
    obtain⟨x,g1⟩:=q9 (xs:=a) (k:=k) (by omega)
    obtain⟨y,g2⟩:=q9 (xs:=b) (k:=k) (by omega)
    have ea:a.getD k false=x:=by simp[List.getD,g1]
    have eb:b.getD k false=y:=by simp[List.getD,g2]
    have hwk:=q12 (k:=k) (by show _<1000000000000;omega)
    have k0:(0:Int)≤k:=by omega
    have k1:k+1≤w.length:=by omega
    have up:∀z,z=(x&& !y)→k+1≤n∧(w.set k z).length=n∧∀v,v<k+1→(w.set k z)[v]? =some (a.getD v false&& !b.getD v false):=fun z hz=>by
      refine⟨by omega,by simp[hw],fun v hv=>?_⟩
      by_cases e:v=k
      · subst e;rw[List.getElem?_set_self (by omega),ea,eb,hz]
      · rw[List.getElem?_set_ne (by omega)];exact hget v (by omega)
    cases x
    · simp only[PP,P1,P2,P3,P4,P5,P6,P7,P8,P9,P10,P11,P12,P13,P14,L1,P15,N1,N2,N3,N4,N5,N6,N7,I1,I2,I3,I4,I5,I6,I7,reduceIte,reduceCtorEq,c,g1,k0,k1,ha,hb,hwk]
      exact q19 (ih (k+1) (ver+1) (w.set k false) (up _ rfl) (by omega)) (by simp only[PW]) (by simp only[←List.map_set])
    · cases y
      · simp only[PP,P1,P2,P3,P4,P5,P6,P7,P8,P9,P10,P11,P12,P13,P14,L1,P15,N1,N2,N3,N4,N5,N6,N7,I1,I2,I3,I4,I5,I6,I7,reduceIte,reduceCtorEq,c,g1,g2,k0,k1,ha,hb,hwk]
        exact q19 (ih (k+1) (ver+1) (w.set k true) (up _ rfl) (by omega)) (by simp only[PW]) (by simp only[←List.map_set])
      · simp only[PP,P1,P2,P3,P4,P5,P6,P7,P8,P9,P10,P11,P12,P13,P14,L1,P15,N1,N2,N3,N4,N5,N6,N7,I1,I2,I3,I4,I5,I6,I7,reduceIte,reduceCtorEq,c,g1,g2,k0,k1,ha,hb,hwk]
        exact q19 (ih (k+1) (ver+1) (w.set k false) (up _ rfl) (by omega)) (by simp only[PW]) (by simp only[←List.map_set])
  · have hkn:k=n:=by omega
    subst hkn
    have hwm:w=q57 a b k:=by
      apply List.ext_getElem?
      intro v
      by_cases hv:v<k
      · rw[hget v hv];simp[q57,hv]
      · rw[List.getElem?_eq_none (by omega),List.getElem?_eq_none (by rw[minusL_len];omega)]
    subst hwm
    have hfz:frzO (some (PObj.cells 0 ver ((q57 a b k).map PV.bool))) 0 1 0 k=some (slB false true (q57 a b k)):=by
      rw[frzO_cells (by rw[List.length_map,minusL_len];omega) (underL_map _ _ (fun _=>rfl) _),q49 _ _ (by rw[List.length_map,minusL_len];omega)]
      unfold slB
      rw[minusL_len]
    simp only[PP,P1,P2,P3,P4,P5,P6,P7,P8,P9,P10,P11,P12,P13,P14,L1,P15,N1,N2,N3,N4,N5,N6,N7,I1,I2,I3,I4,I5,I6,I7,reduceIte,reduceCtorEq,c,hfz]
    exact hk
end
abbrev zO (ow:List Int) (v:Nat):Int:=ow.getD v 0
abbrev zSol (f1 p1 f2 p2 f3 p3 f4 p4:Bool) (ow pr:List Int) (su:List (List Int)):List PV:=[slI f1 p1 .u8 ow,slI f2 p2 .i64 pr,slR f3 p3 f4 p4 .i64 su,.ref 2 0 1 0 ow.length]
structure ZSt where
  ver:Nat
  ver2:Nat
  st:List Int
  out:List Bool
  r:Nat→Nat
  c:Nat
theorem cnt_le (l:List Bool):l.count true≤l.length:=List.count_le_length
section
variable {tab:FuncId→Option AF} (T:HasA tab)
include T
theorem attract_z {K:PV→Mem→Prop} {o0 o1:PObj} {f1 p1 f2 p2 f3 p3 f4 p4 f5 p5 f6 p6:Bool} {ow pr st0:List Int} {su:List (List Int)} {inL tgt:List Bool} {p:Int} {ver0:Nat} (V:Valid ow pr su) (B:Bnd ow pr su)
    (h0:cutOk 4 o0=true) (h1:cutOk 4 o1=true) (hi:inL.length=ow.length) (ht:tgt.length=ow.length) (hs:st0.length=ow.length) (hs0:∀x∈st0,0≤x) (hti:∀v,bm tgt v→bm inL v)
    (hk:∀ver out st r,out.length=ow.length→st.length=ow.length→(∀x∈st,0≤x)→AttIn (zO ow) (Sf su) (bm inL) p (bm tgt) (bm out) (stN st0) (stN st) r→
      K (slB false true out) [o0,o1,.cells 0 ver (st.map (PV.int .i64)),.cells 0 0 (zSol f1 p1 f2 p2 f3 p3 f4 p4 ow pr su)]):
    SemC tab 39 [.ptr 3 0 0,slB f5 p5 inL,p8 p,slB f6 p6 tgt] [o0,o1,.cells 0 ver0 (st0.map (PV.int .i64)),.cells 0 0 (zSol f1 p1 f2 p2 f3 p3 f4 p4 ow pr su)] K:=by
  refine SemC_gh (q34 T.h39 ?_)
  have n0:=V.n0
  have n1:=V.n1
  have hsl:=V.s
  have b1:ow.length≤140737488355328:=by omega
  have b2:ow.length≤9223372036854775807:=by omega
  have nz:¬ow.length=0:=by omega
  simp only[af39,PP,P1,P2,P3,P4,P5,P6,P7,P8,P9,P10,P11,P12,P13,P14,L1,P15,N1,N2,N3,N4,N5,N6,N7,I1,I2,I3,I4,I5,I6,I7,reduceIte,reduceCtorEq]
  refine q34 T.h43 ?_
  simp only[af43,PP,P1,P2,P3,P4,P5,P6,P7,P8,P9,P10,P11,P12,P13,P14,L1,P15,N1,N2,N3,N4,N5,N6,N7,I1,I2,I3,I4,I5,I6,I7,reduceIte,reduceCtorEq,ht,nz,b1,b2]
  refine loop1 (fun(s:ZSt)=>AJ (zO ow) (Sf su) (bm inL) (bm tgt) p (stN st0) ow.length s.out s.st s.r s.c)
    (fun s=>[.ptr 3 0 0,slB f5 p5 inL,p8 p,Zj,Zj,Zj,Zj,Zj,Zj,.ref 4 0 1 0 ow.length,Zj,Zj,Zj,Zj,Zj,Zj,Zj,Zj,Zj,Zj,Zj,Zj,Zj,Zj,Zj,Zj,Zj,Zj,Zj,Zj,Zj,Zj,Zj,Zj,Zj,Zj,Zj,Zj,Zj,Zj,Zj,Zj,Zj,Zj,Zj,Zj,Zj,Zj,Zj,Zj,Zj,Zj,Zj,Zj,Zj,Zj,Zj,Zj,Zj,Zj,Zj,Zj,Zj,Zj,Zj,Zj,Zj,Zj,Zj,Zj,Zj,Zj,Zj,Zj,Zj,Zj,Zj,Zj,Zj,Zj,Zj,Zj,Zj,Zj,Zj,Zj,Zj,Zj,Zj,Zj,Zj,Zj,Zj,Zj,Zj,Zj,Zj,Zj,Zj,Zj,Zj,Zj,Zj,Zj,Zj,Zj,Zj,Zj,Zj,Zj,Zj,Zj,Zj,Zj,Zj,Zj,Zj,Zj,Zj]) (fun s=>[o0,o1,.cells 0 s.ver (s.st.map (PV.int .i64)),.cells 0 0 (zSol f1 p1 f2 p2 f3 p3 f4 p4 ow pr su),.cells 0 s.ver2 (s.out.map PV.bool)]) (fun s=>ow.length-s.out.count true)
    ⟨ver0,0,st0,tgt,fun _=>0,1⟩ (AJ.start ht hs hs0 hti) (by simp only[PW]) rfl ?_
  intro s0 J0 ih
  refine q15 (by kernel_rfl) ?_
  simp only[PP,P1,P2,P3,P4,P5,P6,P7,P8,P9,P10,P11,P12,P13,P14,L1,P15,N1,N2,N3,N4,N5,N6,N7,I1,I2,I3,I4,I5,I6,I7,reduceIte,reduceCtorEq]
  refine loop3 (fun(s:ZSt) (v:Nat) (ch:Bool)=>v≤ow.length∧AJ (zO ow) (Sf su) (bm inL) (bm tgt) p (stN st0) ow.length s.out s.st s.r s.c∧(ch=true→s0.out.count true<s.out.count true)∧s0.out.count true≤s.out.count true∧(ch=false→∀w,w<v→Stab (zO ow) (Sf su) (bm inL) p s.out w))
    (fun s v ch=>[.ptr 3 0 0,slB f5 p5 inL,p8 p,Zj,Zj,Zj,Zj,Zj,Zj,.ref 4 0 1 0 ow.length,.bool ch,Zj,Zj,Zj,Zj,Zj,Zj,Zj,Zj,Zj,Zj,Zj,Zj,slR f3 p3 f4 p4 .i64 su,p64 su.length,p64 v,Zj,Zj,Zj,Zj,Zj,Zj,Zj,Zj,Zj,Zj,Zj,Zj,Zj,Zj,Zj,Zj,Zj,Zj,Zj,Zj,Zj,Zj,Zj,Zj,Zj,Zj,Zj,Zj,Zj,Zj,Zj,Zj,Zj,Zj,Zj,Zj,Zj,Zj,Zj,Zj,Zj,Zj,Zj,Zj,Zj,Zj,Zj,Zj,Zj,Zj,Zj,Zj,Zj,Zj,Zj,Zj,Zj,Zj,Zj,Zj,Zj,Zj,Zj,Zj,Zj,Zj,Zj,Zj,Zj,Zj,Zj,Zj,Zj,Zj,Zj,Zj,Zj,Zj,Zj,Zj,Zj,Zj,Zj,Zj,Zj,Zj,Zj,Zj,Zj,Zj,Zj,Zj,Zj]) (fun s _ _=>[o0,o1,.cells 0 s.ver (s.st.map (PV.int .i64)),.cells 0 0 (zSol f1 p1 f2 p2 f3 p3 f4 p4 ow pr su),.cells 0 s.ver2 (s.out.map PV.bool)]) (fun _ v _=>ow.length-v)
    s0 0 false ⟨by omega,J0,fun h=>(by cases h),Nat.le_refl _,fun _ w hw=>by omega⟩ (by simp only[PW]) rfl ?_
  intro s v ch ⟨hle,J,hch,hcn,hst⟩ ih2
  have jo:=J.lo
  have js:=J.ls
  refine q15 (by kernel_rfl) ?_
  simp only[PP,P1,P2,P3,P4,P5,P6,P7,P8,P9,P10,P11,P12,P13,P14,L1,P15,N1,N2,N3,N4,N5,N6,N7,I1,I2,I3,I4,I5,I6,I7,reduceIte,reduceCtorEq]
  refine QIf.intro (fun c=>?_) (fun c=>?_)
  · have hv:v<ow.length:=by omega
    have v0:(0:Int)≤v:=by omega
    have hwv:=q12 (k:=v) (by show _<1000000000000;omega)
    obtain⟨row,g1⟩:=q9 (xs:=su) (k:=v) (by omega)
    obtain⟨o,g2⟩:=q9 (xs:=ow) (k:=v) hv
    obtain⟨x,g3⟩:=q9 (xs:=inL) (k:=v) (by omega)
    obtain⟨y,g4⟩:=q9 (xs:=s.out) (k:=v) (by omega)
    have e1:su.getD v []=row:=by simp[List.getD,g1]
    have eo:zO ow v=o:=getD_some g2
    have eS:Sf su v=row.map Int.toNat:=by unfold Sf;rw[e1]
    have hrb:row.length<1000000000000:=B.r _ (List.mem_of_getElem? g1)
    have rr:∀u∈row,0≤u∧u<ow.length:=fun u hu=>q43 V hv (by rw[e1];exact hu)
    have v1:(v:Int)<inL.length:=by omega
    have v2:(v:Int)<ow.length:=by omega
    --nothing is added
    have skip:Stab (zO ow) (Sf su) (bm inL) p s.out v→(v+1≤ow.length∧AJ (zO ow) (Sf su) (bm inL) (bm tgt) p (stN st0) ow.length s.out s.st s.r s.c∧(ch=true→s0.out.count true<s.out.count true)∧s0.out.count true≤s.out.count true∧(ch=false→∀w,w<v+1→Stab (zO ow) (Sf su) (bm inL) p s.out w)):=fun h=>
      ⟨by omega,J,hch,hcn,fun e w hw=>by
        by_cases q:w=v
        · subst q;exact h
        · exact hst e w (by omega)⟩
    simp only[PP,P1,P2,P3,P4,P5,P6,P7,P8,P9,P10,P11,P12,P13,P14,L1,P15,N1,N2,N3,N4,N5,N6,N7,I1,I2,I3,I4,I5,I6,I7,reduceIte,reduceCtorEq,c,g1,g3,v0,v1,hi,v2]
    cases x
    · simp only[PP,P1,P2,P3,P4,P5,P6,P7,P8,P9,P10,P11,P12,P13,P14,L1,P15,N1,N2,N3,N4,N5,N6,N7,I1,I2,I3,I4,I5,I6,I7,reduceIte,reduceCtorEq,hwv]
      exact q8 (ih2 s (v+1) ch (skip fun h=>by rw[q65 g3]at h;cases h) (by omega)) (by simp only[PW])
    simp only[PP,P1,P2,P3,P4,P5,P6,P7,P8,P9,P10,P11,P12,P13,P14,L1,P15,N1,N2,N3,N4,N5,N6,N7,I1,I2,I3,I4,I5,I6,I7,reduceIte,reduceCtorEq,g4,v0,v2,jo]
    cases y
    rotate_left
    · simp only[PP,P1,P2,P3,P4,P5,P6,P7,P8,P9,P10,P11,P12,P13,P14,L1,P15,N1,N2,N3,N4,N5,N6,N7,I1,I2,I3,I4,I5,I6,I7,reduceIte,reduceCtorEq,hwv]
      exact q8 (ih2 s (v+1) ch (skip fun _ h=>absurd ((q65 g4).2 rfl) h) (by omega)) (by simp only[PW])
    simp only[PP,P1,P2,P3,P4,P5,P6,P7,P8,P9,P10,P11,P12,P13,P14,L1,P15,N1,N2,N3,N4,N5,N6,N7,I1,I2,I3,I4,I5,I6,I7,reduceIte,reduceCtorEq]
    have hbi:bm inL v:=(q65 g3).2 rfl
    have hbo:¬bm s.out v:=fun h=>by rw[q65 g4]at h;cases h
    refine loop3 (fun(i:Nat) (sm:Int) (al:Bool)=>i≤row.length∧SmI row inL s.out i sm al)
      (fun i sm al=>[.ptr 3 0 0,slB f5 p5 inL,p8 p,Zj,Zj,Zj,Zj,Zj,Zj,.ref 4 0 1 0 ow.length,.bool ch,p64 v,Zj,p64 sm,.bool al,Zj,Zj,Zj,Zj,Zj,Zj,Zj,Zj,slR f3 p3 f4 p4 .i64 su,p64 su.length,p64 v,Zj,Zj,Zj,Zj,Zj,Zj,Zj,Zj,Zj,Zj,Zj,Zj,Zj,Zj,Zj,slI f4 p4 .i64 row,p64 row.length,p64 i,Zj,Zj,Zj,Zj,Zj,Zj,Zj,Zj,Zj,Zj,Zj,Zj,Zj,Zj,Zj,Zj,Zj,Zj,Zj,Zj,Zj,Zj,Zj,Zj,Zj,Zj,Zj,Zj,Zj,Zj,Zj,Zj,Zj,Zj,Zj,Zj,Zj,Zj,Zj,Zj,Zj,Zj,Zj,Zj,Zj,Zj,Zj,Zj,Zj,Zj,Zj,Zj,Zj,Zj,Zj,Zj,Zj,Zj,Zj,Zj,Zj,Zj,Zj,Zj,Zj,Zj,Zj,Zj,Zj,Zj,Zj,Zj,Zj,Zj,Zj]) (fun _ _ _=>[o0,o1,.cells 0 s.ver (s.st.map (PV.int .i64)),.cells 0 0 (zSol f1 p1 f2 p2 f3 p3 f4 p4 ow pr su),.cells 0 s.ver2 (s.out.map PV.bool)]) (fun i _ _=>row.length-i)
      0 (-1) true ⟨by omega,.inl ⟨by omega,by simp⟩,by simp⟩ (by simp only[PW]) rfl ?_
    intro i sm al ⟨hil,hI⟩ ih3
    refine q15 (by kernel_rfl) ?_
    simp only[PP,P1,P2,P3,P4,P5,P6,P7,P8,P9,P10,P11,P12,P13,P14,L1,P15,N1,N2,N3,N4,N5,N6,N7,I1,I2,I3,I4,I5,I6,I7,reduceIte,reduceCtorEq]
    refine QIf.intro (fun d=>?_) (fun d=>?_)
    · have hi3:i<row.length:=by omega
      have i0:(0:Int)≤i:=by omega
      have hwi:=q12 (k:=i) (by show _<1000000000000;omega)
      obtain⟨u,g5⟩:=q9 hi3
      obtain⟨u0,u1⟩:=rr u (List.mem_of_getElem? g5)
      obtain⟨x,g6⟩:=q9 (xs:=inL) (k:=u.toNat) (by omega)
      obtain⟨y,g7⟩:=q9 (xs:=s.out) (k:=u.toNat) (by omega)
      simp only[PP,P1,P2,P3,P4,P5,P6,P7,P8,P9,P10,P11,P12,P13,P14,L1,P15,N1,N2,N3,N4,N5,N6,N7,I1,I2,I3,I4,I5,I6,I7,reduceIte,reduceCtorEq,d,g5,i0,g6,u0,u1,hi]
      cases x
      · have hn:SmI row inL s.out (i+1) sm al:=by simpa only[Bool.not_false,Bool.true_or,Bool.and_true] using hI.keep g5 g6 g7 (.inl rfl)
        cases al<;>simp only[PP,P1,P2,P3,P4,P5,P6,P7,P8,P9,P10,P11,P12,P13,P14,L1,P15,N1,N2,N3,N4,N5,N6,N7,I1,I2,I3,I4,I5,I6,I7,reduceIte,reduceCtorEq,g6,g7,u0,u1,hi,jo,hwi]<;>exact q8 (ih3 (i+1) sm _ ⟨by omega,hn⟩ (by omega)) (by simp only[PW])
      cases y
      · have hn:SmI row inL s.out (i+1) sm false:=by simpa only[Bool.not_true,Bool.or_false,Bool.and_false] using hI.keep g5 g6 g7 (.inl rfl)
        cases al<;>simp only[PP,P1,P2,P3,P4,P5,P6,P7,P8,P9,P10,P11,P12,P13,P14,L1,P15,N1,N2,N3,N4,N5,N6,N7,I1,I2,I3,I4,I5,I6,I7,reduceIte,reduceCtorEq,g6,g7,u0,u1,hi,jo,hwi]<;>exact q8 (ih3 (i+1) sm _ ⟨by omega,hn⟩ (by omega)) (by simp only[PW])
      simp only[PP,P1,P2,P3,P4,P5,P6,P7,P8,P9,P10,P11,P12,P13,P14,L1,P15,N1,N2,N3,N4,N5,N6,N7,I1,I2,I3,I4,I5,I6,I7,reduceIte,reduceCtorEq,g6,g7,u0,u1,hi,jo]
      refine QIf.intro (fun q=>?_) (fun q=>?_)
      · have hn:SmI row inL s.out (i+1) u al:=by simpa only[Bool.or_true,Bool.and_true] using hI.take g5 u0 g6 g7
        cases al<;>simp only[PP,P1,P2,P3,P4,P5,P6,P7,P8,P9,P10,P11,P12,P13,P14,L1,P15,N1,N2,N3,N4,N5,N6,N7,I1,I2,I3,I4,I5,I6,I7,reduceIte,reduceCtorEq,q,g6,g7,u0,u1,hi,jo,hwi]<;>exact q8 (ih3 (i+1) u _ ⟨by omega,hn⟩ (by omega)) (by simp only[PW])
      · have hn:SmI row inL s.out (i+1) sm al:=by simpa only[Bool.or_true,Bool.and_true] using hI.keep g5 g6 g7 (.inr q)
        cases al<;>simp only[PP,P1,P2,P3,P4,P5,P6,P7,P8,P9,P10,P11,P12,P13,P14,L1,P15,N1,N2,N3,N4,N5,N6,N7,I1,I2,I3,I4,I5,I6,I7,reduceIte,reduceCtorEq,q,g6,g7,u0,u1,hi,jo,hwi]<;>exact q8 (ih3 (i+1) sm _ ⟨by omega,hn⟩ (by omega)) (by simp only[PW])
    · unfold SmI at hI
      rw[List.take_of_length_le (by omega)]at hI
      obtain⟨hsm,hal⟩:=hI
      have st1:v+1≤s.st.length:=by omega
      have st3:v+1≤ow.length:=hv
      have st2:v+1≤s.out.length:=by omega
      have cnt:=count_add g4
      have hmem:∀u∈row,u.toNat∈Sf su v:=fun u hu=>by rw[eS];exact List.mem_map.2 ⟨u,hu,rfl⟩
      simp only[PP,P1,P2,P3,P4,P5,P6,P7,P8,P9,P10,P11,P12,P13,P14,L1,P15,N1,N2,N3,N4,N5,N6,N7,I1,I2,I3,I4,I5,I6,I7,reduceIte,reduceCtorEq,d,g2,v0,v2]
      refine QIf.intro (fun q=>?_) (fun q=>?_)
      · simp only[PP,P1,P2,P3,P4,P5,P6,P7,P8,P9,P10,P11,P12,P13,P14,L1,P15,N1,N2,N3,N4,N5,N6,N7,I1,I2,I3,I4,I5,I6,I7,reduceIte,reduceCtorEq,q]
        refine QIf.intro (fun q2=>?_) (fun q2=>?_)
        · rcases hsm with⟨q3,_⟩ | ⟨q3,q4,q5⟩
          · omega
          have J2:=J.addOwn hv hbo hbi (by rw[eo];exact q) q3 (hmem _ q4) q5
          simp only[PP,P1,P2,P3,P4,P5,P6,P7,P8,P9,P10,P11,P12,P13,P14,L1,P15,N1,N2,N3,N4,N5,N6,N7,I1,I2,I3,I4,I5,I6,I7,reduceIte,reduceCtorEq,q,q2,v0,v2,js,jo,st3,hwv]
          refine q19 (ih2 ⟨s.ver+1,s.ver2+1,s.st.set v sm,s.out.set v true,_,s.c+1⟩ (v+1) true ⟨by omega,J2,fun _=>by show _<(s.out.set v true).count true;omega,by show _≤(s.out.set v true).count true;omega,fun h=>by cases h⟩ (by omega)) (by simp only[PW]) (by simp only[←List.map_set])
        · rcases hsm with⟨q3,q4⟩ | ⟨q3,_⟩
          rotate_left
          · omega
          simp only[PP,P1,P2,P3,P4,P5,P6,P7,P8,P9,P10,P11,P12,P13,P14,L1,P15,N1,N2,N3,N4,N5,N6,N7,I1,I2,I3,I4,I5,I6,I7,reduceIte,reduceCtorEq,q,q2,g2,v0,v2,hwv]
          refine q8 (ih2 s (v+1) ch (skip fun _ _=>⟨fun _ u hu=>?_,fun h=>absurd (by rw[eo];exact q) h⟩) (by omega)) (by simp only[PW])
          rw[eS]at hu
          obtain⟨y,hy,rfl⟩:=List.mem_map.1 hu
          exact fun h=>q4 y hy ⟨J.sub _ h,h⟩
      · simp only[PP,P1,P2,P3,P4,P5,P6,P7,P8,P9,P10,P11,P12,P13,P14,L1,P15,N1,N2,N3,N4,N5,N6,N7,I1,I2,I3,I4,I5,I6,I7,reduceIte,reduceCtorEq,q,g2,v0,v2]
        cases al
        · simp only[PP,P1,P2,P3,P4,P5,P6,P7,P8,P9,P10,P11,P12,P13,P14,L1,P15,N1,N2,N3,N4,N5,N6,N7,I1,I2,I3,I4,I5,I6,I7,reduceIte,reduceCtorEq,hwv]
          refine q8 (ih2 s (v+1) ch (skip fun _ _=>⟨fun h=>absurd (by rw[←eo];exact h) q,fun _=>?_⟩) (by omega)) (by simp only[PW])
          refine Classical.byContradiction fun hn=>?_
          have:=hal.2 fun u hu hin=>Classical.byContradiction fun ho=>hn ⟨u.toNat,hmem u hu,hin,ho⟩
          cases this
        · have J2:=J.addOpp hv hbo hbi (by rw[eo];exact q) fun u hu hin=>by
            rw[eS]at hu
            obtain⟨y,hy,rfl⟩:=List.mem_map.1 hu
            exact hal.1 rfl y hy hin
          simp only[PP,P1,P2,P3,P4,P5,P6,P7,P8,P9,P10,P11,P12,P13,P14,L1,P15,N1,N2,N3,N4,N5,N6,N7,I1,I2,I3,I4,I5,I6,I7,reduceIte,reduceCtorEq,v0,v2,js,jo,st3,hwv]
          refine q19 (ih2 ⟨s.ver,s.ver2+1,s.st,s.out.set v true,_,s.c+1⟩ (v+1) true ⟨by omega,J2,fun _=>by show _<(s.out.set v true).count true;omega,by show _≤(s.out.set v true).count true;omega,fun h=>by cases h⟩ (by omega)) (by simp only[PW]) (by simp only[←List.map_set])
  · have hvn:v=ow.length:=by omega
    simp only[PP,P1,P2,P3,P4,P5,P6,P7,P8,P9,P10,P11,P12,P13,P14,L1,P15,N1,N2,N3,N4,N5,N6,N7,I1,I2,I3,I4,I5,I6,I7,reduceIte,reduceCtorEq,c]
    cases ch
    · have hA:=J.fin (fun v h=>by rw[←hi];exact bm_lt h) (fun w hw=>hst rfl w (by omega))
      simp only[PP,P1,P2,P3,P4,P5,P6,P7,P8,P9,P10,P11,P12,P13,P14,L1,P15,N1,N2,N3,N4,N5,N6,N7,I1,I2,I3,I4,I5,I6,I7,reduceIte,reduceCtorEq]
      exact Gh_retB (M:=[o0,o1,.cells 0 s.ver (s.st.map (PV.int .i64)),.cells 0 0 (zSol f1 p1 f2 p2 f3 p3 f4 p4 ow pr su)]) (by simp only[PP,P1,P2,P3,P4,P5,P6,P7,P8,P9,P10,P11,P12,P13,P14,L1,P15,N1,N2,N3,N4,N5,N6,N7,I1,I2,I3,I4,I5,I6,I7,reduceIte,reduceCtorEq,q20,h0,h1,q16]) jo (hk s.ver s.out s.st s.r jo js J.nn hA)
    · have:=cnt_le s.out
      have:=hch rfl
      simp only[PP,P1,P2,P3,P4,P5,P6,P7,P8,P9,P10,P11,P12,P13,P14,L1,P15,N1,N2,N3,N4,N5,N6,N7,I1,I2,I3,I4,I5,I6,I7,reduceIte,reduceCtorEq]
      exact q8 (ih s J (by omega)) (by simp only[PW])
end
def idxFrom (p:Int→Bool):Nat→List Int→Int
  | _,[]=> -1
  | k,x::l=>if p x=true then k else idxFrom p (k+1) l
section
variable {tab:FuncId→Option AF} (T:HasA tab)
include T
theorem indexFunc_p {M:Mem} {K:PV→Mem→Prop} {f o:Bool} {row:List Int} {fn:FuncId} {cap:List PV} (p:Int→Bool) (hb:row.length<big)
    (hf:∀x∈row,∀K':PV→Mem→Prop,K' (.bool (p x)) M→SemC tab fn (p64 x::cap) M K') (hk:K (p64 (idxFrom p 0 row)) M):
    SemC tab 41 [slI f o .i64 row,.func (.func fn) [] cap] M K:=by
  refine q34 T.h41 ?_
  simp only[af41,PP,P1,P2,P3,P4,P5,P6,P7,P8,P9,P10,P11,P12,P13,P14,L1,P15,N1,N2,N3,N4,N5,N6,N7,I1,I2,I3,I4,I5,I6,I7,reduceIte,reduceCtorEq]
  refine loop1 (fun(k:Nat)=>k≤row.length∧K (p64 (idxFrom p k (row.drop k))) M) (fun k=>[slI f o .i64 row,.func (.func fn) [] cap,Zj,Zj,Zj,Zj,Zj,p64 row.length,p64 k,Zj,Zj,Zj,Zj,Zj,Zj,Zj,Zj,Zj,Zj]) (fun k=>M) (fun k=>row.length-k) 0 ⟨by omega,hk⟩ (by simp only[PW]) rfl ?_
  intro k ⟨hle,hq⟩ ih
  refine q15 (by kernel_rfl) ?_
  simp only[PP,P1,P2,P3,P4,P5,P6,P7,P8,P9,P10,P11,P12,P13,P14,L1,P15,N1,N2,N3,N4,N5,N6,N7,I1,I2,I3,I4,I5,I6,I7,reduceIte,reduceCtorEq]
  refine QIf.intro (fun c=>?_) (fun c=>?_)
  · have hk':k<row.length:=by omega
    have h0:(0:Int)≤k:=by omega
    have hw:=q12 (k:=k) (by show _<1000000000000;have:row.length<1000000000000:=hb;omega)
    obtain⟨x,e⟩:=q9 hk'
    rw[drop_some e]at hq
    unfold idxFrom at hq
    simp only[PP,P1,P2,P3,P4,P5,P6,P7,P8,P9,P10,P11,P12,P13,P14,L1,P15,N1,N2,N3,N4,N5,N6,N7,I1,I2,I3,I4,I5,I6,I7,reduceIte,reduceCtorEq,c,h0,e]
    refine hf x (List.mem_of_getElem? e) _ ?_
    cases hp:p x with
    | true=>
      rw[if_pos hp]at hq
      simp only[PP,P1,P2,P3,P4,P5,P6,P7,P8,P9,P10,P11,P12,P13,P14,L1,P15,N1,N2,N3,N4,N5,N6,N7,I1,I2,I3,I4,I5,I6,I7,reduceIte,reduceCtorEq]
      exact hq
    | false=>
      rw[if_neg (by rw[hp];exact Bool.false_ne_true)]at hq
      simp only[PP,P1,P2,P3,P4,P5,P6,P7,P8,P9,P10,P11,P12,P13,P14,L1,P15,N1,N2,N3,N4,N5,N6,N7,I1,I2,I3,I4,I5,I6,I7,reduceIte,reduceCtorEq,hw]
      exact q8 (ih (k+1) ⟨by omega,hq⟩ (by omega)) (by simp only[PW])
  · rw[List.drop_eq_nil_of_le (by omega)]at hq
    unfold idxFrom at hq
    simp only[PP,P1,P2,P3,P4,P5,P6,P7,P8,P9,P10,P11,P12,P13,P14,L1,P15,N1,N2,N3,N4,N5,N6,N7,I1,I2,I3,I4,I5,I6,I7,reduceIte,reduceCtorEq,c]
    exact hq
end
end Go.Am.Ar

