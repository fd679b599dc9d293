/- Plain law: progress measures as numbers, and the least one, and what goes with it. -/
import Derived.Test.YtgcombgonagkkaaCertifyAcceptsG0
import Derived.Test.YtgcombgonagkkaaCertifyAcceptsG2
import Derived.Test.YtgcombgonagkkaaCertifyAcceptsG1
import Derived.Test.YtgcombgonagkkaaPmC
set_option linter.unusedVariables false
namespace Go.Am.Ar
open Go.Am.PV renaming junk→Zj
section
variable {ns:List Nat}
end
section
variable {ns:List Nat}
end
section
variable {n T:Nat} {L:(Nat→Nat)→Nat→Nat} {m:Nat→Nat}
end
section
variable {ow pr ws ss st:List Int} {su:List (List Int)} {p:Int}
theorem sf_tab {n v:Nat} {F:Nat→List Int} (hv:v<n):Sf (tabA n F) v=(F v).map Int.toNat:=by
 unfold Sf;rw[List.getD,q38 hv];rfl
theorem mem_sf (V:Valid ow pr su) {v:Nat} (hv:v<ow.length) {x:Int} (h:x∈su.getD v []):x.toNat∈Sf su v:=List.mem_map.2 ⟨x,h,rfl⟩
theorem sf_mem (V:Valid ow pr su) {v:Nat} (hv:v<ow.length) {x:Int} (h0:0≤x) (h:x.toNat∈Sf su v):x∈su.getD v []:=by
 obtain⟨y,hy,e⟩:=List.mem_map.1 h
 have:=q43 V hv hy
 rw[show x=y by omega];exact hy
theorem stN_eq (v:Nat):stN ss v=(ss.getD v 0).toNat:=rfl
theorem SolL.corr (V:Valid ow pr su) (hc:q37 ow pr su=0) (ho:∀x∈ow,0≤x) (L:SolL ow pr su ws ss):CorrP ow pr su ws ss:=by
 have mem:∀p:Int,p=0∨p=1→∀v,v<ow.length→ws.getD v 0=p→ow.getD v 0=p→ss.getD v 0∈su.getD v []∧0≤ss.getD v 0:=fun p hp v hv hw hov=>by
  have h0:=L.own v hv (by rw[hw,hov])
  exact⟨sf_mem V hv h0 ((L.sol.of hp).own v ⟨hv,hw⟩ hov).1,h0⟩
 refine⟨hc,L.lw,L.ls,fun v hv=>⟨?_,fun h=>?_,fun h=>L.opp v hv h⟩,fun p hp v hv hw=>?_⟩
 ·have:=L.sol.r01 v hv
  intro h;omega
 ·have h01:=L.sol.r01 v hv
  exact(mem (ws.getD v 0) h01 v hv rfl h.symm).1
 ·refine(L.sol.of hp).safe (fun a b ha hab=>?_) (v:=v) ⟨hv,hw⟩
  have hab:b∈Sf (tabA ow.length (movF ow su p (tabA ow.length (ownF ow ws ss p)))) a:=hab
  rw[sf_tab ha.1]at hab
  have hown:ow.getD a 0=p→(tabA ow.length (ownF ow ws ss p)).getD a 0=ss.getD a 0:=fun h=>by
   rw[List.getD,q38 ha.1]
   show ownF ow ws ss p a=_
   unfold ownF;rw[if_pos ⟨h,ha.2⟩]
  unfold movF at hab
  by_cases q:ow.getD a 0=p
  ·obtain⟨m1,m2⟩:=mem p hp a ha.1 ha.2 q
   rw[hown q,if_pos ⟨q,m1⟩]at hab
   simp only[List.map_cons,List.map_nil,List.mem_singleton]at hab
   subst hab
   have:=q43 V ha.1 m1
   exact⟨mem_sf V ha.1 m1,by omega,fun _=>rfl⟩
  ·rw[if_neg (fun h=>q h.1)]at hab
   have hS:b∈Sf su a:=hab
   exact⟨hS,(valid_S V a ha.1).2 b hS,fun h=>absurd h q⟩
end
section
variable {ow pr ws ss:List Int} {su:List (List Int)}
end
def mkB (n:Nat) (mp:List (Nat×Nat)):List Bool:=tabA n fun u=>(mlook u mp).isSome
theorem mlook_app (u x y:Nat):∀mp:List (Nat×Nat),mlook u (mp++[(x,y)])=match mlook u mp with | some v=>some v | none=>if u=x then some y else none
 | []=>rfl
 | p::mp=>by
  rw[List.cons_append]
  unfold mlook
  by_cases e:u=p.1
  ·rw[if_pos e,if_pos e]
  ·rw[if_neg e,if_neg e];exact mlook_app u x y mp
theorem bm_mkB {n:Nat} {mp:List (Nat×Nat)} {u:Nat} :bm (mkB n mp) u↔u<n∧∃v,mlook u mp=some v:=by
 unfold bm mkB
 by_cases h:u<n
 ·rw[q38 h]
  simp[h,Option.isSome_iff_exists]
 ·rw[tabA_none (by omega)];simp[h]
theorem mkB_push {n x y:Nat} {mp:List (Nat×Nat)} (hx:x<n):(mkB n mp).set x true=mkB n (mp++[(x,y)]):=by
 unfold mkB
 rw[tabA_set _ hx]
 refine tabA_congr fun v hv=>?_
 rw[mlook_app]
 by_cases e:v=x
 ·subst e;rw[if_pos rfl];cases mlook v mp<;>simp
 ·rw[if_neg e,if_neg e];cases mlook v mp<;>rfl
theorem mkB_len (n:Nat) (mp:List (Nat×Nat)):(mkB n mp).length=n:=q27 _ _
theorem mkB_nil (n:Nat):mkB n []=List.replicate n false:=(tabA_rep n false).symm
theorem mlook_mem {u v:Nat} :∀{mp:List (Nat×Nat)},mlook u mp=some v→∃j:Nat,mp[j]? =some (u,v)
 | p::mp,h=>by
  unfold mlook at h
  by_cases e:u=p.1
  ·rw[if_pos e]at h;cases h;exact⟨0,by rw[e];rfl⟩
  ·rw[if_neg e]at h
   obtain⟨j,hj⟩:=mlook_mem h
   exact⟨j+1,by simpa using hj⟩
theorem mlook_at {v w:Nat} :∀{mp:List (Nat×Nat)} {j:Nat},(mp.map (·.1)).Nodup→mp[j]? =some (v,w)→mlook v mp=some w
 | [],j,_,h=>by simp at h
 | p::mp,0,_,h=>by simp at h;subst h;unfold mlook;rw[if_pos rfl]
 | p::mp,j+1,hd,h=>by
  have h:mp[j]? =some (v,w):=by simpa using h
  rw[List.map_cons,List.nodup_cons]at hd
  unfold mlook
  rw[if_neg,mlook_at hd.2 h]
  intro e
  exact hd.1 (List.mem_map.2 ⟨(v,w),List.mem_of_getElem? h,e⟩)
theorem mlook_none {u:Nat} :∀{mp:List (Nat×Nat)},mlook u mp=none→u∉mp.map (·.1)
 | [],_,h=>by cases h
 | p::mp,h,hm=>by
  unfold mlook at h
  by_cases e:u=p.1
  ·rw[if_pos e]at h;cases h
  ·rw[if_neg e]at h
   rcases List.mem_cons.1 hm with q | q
   ·exact e q
   ·exact mlook_none h q
def Ch (S:Nat→List Nat) (A:Nat→Prop) (u:Nat):List Nat→Prop
 | []=>True
 | [x]=>u∈S x
 | x::y::c=>y∈S x∧A y∧Ch S A u (y::c)
structure MpOk (S:Nat→List Nat) (A:Nat→Prop) (f n:Nat) (mp:List (Nat×Nat)):Prop where
 nd:(mp.map (·.1)).Nodup
 lt:∀p∈mp,p.1<n
 ed:∀(i u v:Nat),mp[i]? =some (u,v)→u∈S v∧A u∧(v=f∨∃j w,j<i∧mp[j]? =some (v,w))
section
variable {S:Nat→List Nat} {A:Nat→Prop} {f n:Nat} {mp:List (Nat×Nat)}
theorem MpOk.nil:MpOk S A f n []:=⟨.nil,fun p h=>(by cases h),fun i u v h=>(by simp at h)⟩
theorem MpOk.len (h:MpOk S A f n mp):mp.length≤n:=by
 have:=nodup_lenN n (mp.map (·.1)) h.nd (fun x hx=>by
  obtain⟨p,hp,rfl⟩:=List.mem_map.1 hx
  exact h.lt p hp)
 simpa using this
theorem MpOk.push (h:MpOk S A f n mp) {u v:Nat} (hu:u<n) (hn:mlook u mp=none) (he:u∈S v) (ha:A u) (hv:v=f∨∃w,mlook v mp=some w):MpOk S A f n (mp++[(u,v)]):=by
 refine⟨?_,fun p hp=>?_,fun i x y hi=>?_⟩
 ·rw[List.map_append]
  refine List.nodup_append.2 ⟨h.nd,by simp,fun a ha' b hb=>?_⟩
  rw[List.map_cons,List.map_nil,List.mem_singleton]at hb
  subst hb
  rintro rfl
  exact mlook_none hn ha'
 ·rcases List.mem_append.1 hp with q | q
  ·exact h.lt p q
  ·rw[List.mem_singleton]at q;subst q;exact hu
 ·by_cases hl:i<mp.length
  ·rw[List.getElem?_append_left hl]at hi
   obtain⟨q1,q2,q3⟩:=h.ed i x y hi
   refine⟨q1,q2,q3.imp id fun⟨j,w,hj,e⟩=>⟨j,w,hj,by rw[List.getElem?_append_left (by omega)];exact e⟩⟩
  ·rw[List.getElem?_append_right (by omega)]at hi
   have e:i-mp.length=0:=by
    have:=(List.getElem?_eq_some_iff.1 hi).1
    simp at this;omega
   rw[e]at hi
   cases hi
   refine⟨he,ha,hv.imp id fun⟨w,hw⟩=>?_⟩
   obtain⟨j,hj⟩:=mlook_mem hw
   have hjl:=(List.getElem?_eq_some_iff.1 hj).1
   exact⟨j,w,by omega,by rw[List.getElem?_append_left hjl];exact hj⟩
structure BackI (S:Nat→List Nat) (A:Nat→Prop) (f u0:Nat) (mp:List (Nat×Nat)) (v:Nat) (l:List Nat) (j:Nat):Prop where
 ch:Ch S A u0 (v::l.reverse)
 at':v=f∨∃w,mp[j]? =some (v,w)
 ln:v≠f→l.length+j+2≤mp.length
 ln0:l.length+1≤mp.length
theorem BackI.start (h:MpOk S A f n mp) {u0 v:Nat} {i:Nat} (hi:mp[i]? =some (u0,v)):∃j,BackI S A f u0 mp v [] j:=by
 have hil:=(List.getElem?_eq_some_iff.1 hi).1
 obtain⟨q1,q2,q3⟩:=h.ed i u0 v hi
 rcases q3 with e | ⟨j,w,hj,e⟩
 ·exact⟨0,q1,.inl e,fun q=>absurd e q,by simp;omega⟩
 ·exact⟨j,q1,.inr ⟨w,e⟩,fun _=>by simp;omega,by simp;omega⟩
theorem BackI.step (h:MpOk S A f n mp) {u0 v:Nat} {l:List Nat} {j:Nat} (b:BackI S A f u0 mp v l j) (hv:v≠f):∃w,mlook v mp=some w∧∃j',BackI S A f u0 mp w (l++[v]) j'∧(w=f∨j'<j):=by
 obtain⟨w,hw⟩:=b.at'.resolve_left hv
 have h2:=b.ln hv
 refine⟨w,mlook_at h.nd hw,?_⟩
 obtain⟨q1,q2,q3⟩:=h.ed j v w hw
 have hc:Ch S A u0 (w::(l++[v]).reverse):=by
  rw[List.reverse_append]
  exact⟨q1,q2,b.ch⟩
 rcases q3 with e | ⟨j',x,hj,e⟩
 ·exact⟨0,⟨hc,.inl e,fun q=>absurd e q,by simp;omega⟩,.inl e⟩
 ·exact⟨j',⟨hc,.inr ⟨x,e⟩,fun _=>by simp;omega,by simp;omega⟩,.inr hj⟩
theorem Ch.rch {u:Nat} (hu:A u):∀{c:List Nat} {x:Nat},Ch S A u (x::c)→Rch (fun a b=>b∈S a) A x u
 | [],x,h=> .one h hu
 | y::c,x,⟨h1,h2,h3⟩=>by
  have ih:=Ch.rch hu h3
  have front:∀{z:Nat},Rch (fun a b=>b∈S a) A y z→Rch (fun a b=>b∈S a) A x z:=by
   intro z hz
   induction hz with
   | one a b=>exact .more (.one h1 h2) a b
   | more _ a b ih=>exact .more ih a b
  exact front ih
end
def movC (ow ws ss:List Int) (su:List (List Int)) (p:Int) (v:Nat):List Int:=if ow.getD v 0=p∧ws.getD v 0=p then [ss.getD v 0] else su.getD v []
abbrev cerE (ow ws ss:List Int) (su:List (List Int)) (p:Int) (a b:Nat):Prop:=b∈Sf (tabA ow.length (movC ow ws ss su p)) a
structure FormP (ow pr:List Int) (su:List (List Int)) (ws ss:List Int):Prop where
 c:q37 ow pr su=0
 lw:ws.length=ow.length
 ls:ss.length=ow.length
 form:∀v,v<ow.length→FormAt ow su ws ss v
section
variable {ow pr ws ss:List Int} {su:List (List Int)} {p:Int}
theorem mov_eq (F:FormP ow pr su ws ss) {v:Nat} (hv:v<ow.length):movF ow su p (tabA ow.length (ownF ow ws ss p)) v=movC ow ws ss su p v:=by
 have V:=q25 F.c
 have e:(tabA ow.length (ownF ow ws ss p)).getD v 0=ownF ow ws ss p v:=by rw[List.getD,q38 hv];rfl
 unfold movF movC
 rw[e]
 by_cases h1:ow.getD v 0=p
 ·by_cases h2:ws.getD v 0=p
  ·have e2:ownF ow ws ss p v=ss.getD v 0:=if_pos ⟨h1,h2⟩
   rw[e2,if_pos ⟨h1,(F.form v hv).own (by rw[h1,h2])⟩,if_pos ⟨h1,h2⟩]
  ·have e2:ownF ow ws ss p v= -1:=if_neg fun q=>h2 q.2
   rw[e2,if_neg (fun q=>by have:=q43 V hv q.2;omega),if_neg (fun q=>h2 q.2)]
 ·rw[if_neg (fun q=>h1 q.1),if_neg (fun q=>h1 q.1)]
theorem solE_eq (F:FormP ow pr su ws ss):solE ow su ws ss p=cerE ow ws ss su p:=by
 have:tabA ow.length (movF ow su p (tabA ow.length (ownF ow ws ss p)))=tabA ow.length (movC ow ws ss su p):=tabA_congr fun v hv=>mov_eq F hv
 unfold solE cerE
 rw[this]
theorem CorrP.formP (h:CorrP ow pr su ws ss):FormP ow pr su ws ss:=⟨h.c,h.lw,h.ls,h.form⟩
theorem cer_tgt (V:Valid ow pr su) (F:FormP ow pr su ws ss) {a b:Nat} (h:cerE ow ws ss su p a b):a<ow.length∧b<ow.length∧b∈Sf su a∧(ow.getD a 0=p→ws.getD a 0=p→ss.getD a 0=b):=by
 have ha:a<ow.length:=by
  apply Classical.byContradiction
  intro q
  have h:b∈Sf (tabA ow.length (movC ow ws ss su p)) a:=h
  unfold Sf at h
  rw[List.getD,tabA_none (by omega)]at h
  cases h
 have h:b∈Sf (tabA ow.length (movC ow ws ss su p)) a:=h
 rw[sf_tab ha]at h
 unfold movC at h
 by_cases q:ow.getD a 0=p∧ws.getD a 0=p
 ·rw[if_pos q]at h
  simp only[List.map_cons,List.map_nil,List.mem_singleton]at h
  have hm:=(F.form a ha).own (by rw[q.1,q.2])
  have hr:=q43 V ha hm
  subst h
  exact⟨ha,by omega,mem_sf V ha hm,fun _ _=>by omega⟩
 ·rw[if_neg q]at h
  exact⟨ha,(valid_S V a ha).2 b h,h,fun h1 h2=>absurd ⟨h1,h2⟩ q⟩
def NearP (ow ws ss:List Int) (su:List (List Int)) (p:Int) (w:Nat):Prop:=∃v,v<ow.length∧ws.getD v 0=p∧(w=v∨Rch (cerE ow ws ss su p) (fun _=>True) v w)
def RefP (ow pr ws ss:List Int) (su:List (List Int)) (p:Int):Prop:=∃w,w<ow.length∧NearP ow ws ss su p w∧Bad (cerE ow ws ss su p) (zP pr) p w
theorem ref_lost (F:FormP ow pr su ws ss):RefP ow pr ws ss su p↔∃v,v<ow.length∧ws.getD v 0=p∧Lost (cerE ow ws ss su p) (zP pr) p v:=by
 have V:=q25 F.c
 constructor
 ·rintro⟨w,hw,⟨v,hv,hwv,e⟩,hb⟩
  refine⟨v,hv,hwv,?_⟩
  rcases e with rfl | e
  ·exact .inl hb
  ·exact .inr ⟨w,hb,e⟩
 ·rintro⟨v,hv,hwv,h⟩
  rcases h with h | ⟨u,hb,hr⟩
  ·exact⟨v,hv,⟨v,hv,hwv,.inl rfl⟩,h⟩
  ·obtain⟨a,ha⟩:=hr.tgt
   exact⟨u,(cer_tgt V F ha).2.1,⟨v,hv,hwv,.inr hr⟩,hb⟩
theorem corr_iff (F:FormP ow pr su ws ss):CorrP ow pr su ws ss↔¬RefP ow pr ws ss su 0∧¬RefP ow pr ws ss su 1:=by
 constructor
 ·intro h
  have key:∀p:Int,p=0∨p=1→¬RefP ow pr ws ss su p:=fun p hp q=>by
   obtain⟨v,hv,hw,hl⟩:=(ref_lost F).1 q
   refine h.win p hp v hv hw ?_
   rw[solE_eq F];exact hl
  exact⟨key 0 (.inl rfl),key 1 (.inr rfl)⟩
 ·rintro⟨h0,h1⟩
  refine⟨F.c,F.lw,F.ls,F.form,fun p hp v hv hw hl=>?_⟩
  rw[solE_eq F]at hl
  have:=(ref_lost F).2 ⟨v,hv,hw,hl⟩
  rcases hp with rfl | rfl
  ·exact h0 this
  ·exact h1 this
def FormE (ow pr:List Int) (su:List (List Int)) (ws ss:List Int) (e:Int):Prop:=
 (¬q37 ow pr su=0∧e=q37 ow pr su)∨(q37 ow pr su=0∧¬(ws.length=ow.length∧ss.length=ow.length)∧e=2)∨
 (q37 ow pr su=0∧(ws.length=ow.length∧ss.length=ow.length)∧∃v,v<ow.length∧(∀u,u<v→FormAt ow su ws ss u)∧((1<ws.getD v 0∧e=6)∨(¬1<ws.getD v 0∧¬FormAt ow su ws ss v∧e=13)))∨
 (FormP ow pr su ws ss∧e=0)
theorem FormE.zero {e:Int} (h:FormE ow pr su ws ss e):e=0↔FormP ow pr su ws ss:=by
 rcases h with⟨h1,rfl⟩ | ⟨h1,h2,rfl⟩ | ⟨h1,h2,v,hv,h3,h4⟩ | ⟨h1,rfl⟩
 ·exact⟨fun q=>absurd q h1,fun q=>absurd q.c h1⟩
 ·exact⟨fun q=>absurd q (by decide),fun q=>absurd ⟨q.lw,q.ls⟩ h2⟩
 ·rcases h4 with⟨h5,rfl⟩ | ⟨h5,h6,rfl⟩
  ·exact⟨fun q=>absurd q (by decide),fun q=>absurd h5 (q.form v hv).k⟩
  ·exact⟨fun q=>absurd q (by decide),fun q=>absurd (q.form v hv) h6⟩
 ·exact⟨fun _=>h1,fun _=>rfl⟩
theorem FormE.eq {e e':Int} (h:FormE ow pr su ws ss e) (h':FormE ow pr su ws ss e'):e=e':=by
 by_cases z:FormP ow pr su ws ss
 ·rw[h.zero.2 z,h'.zero.2 z]
 rcases h with⟨h1,rfl⟩ | ⟨h1,h2,rfl⟩ | ⟨h1,h2,v,hv,h3,h4⟩ | ⟨h1,_⟩
 ·rcases h' with⟨_,rfl⟩ | ⟨g1,_⟩ | ⟨g1,_⟩ | ⟨g1,_⟩
  ·rfl
  ·exact absurd g1 h1
  ·exact absurd g1 h1
  ·exact absurd g1 z
 ·rcases h' with⟨g1,_⟩ | ⟨_,_,rfl⟩ | ⟨_,g2,_⟩ | ⟨g1,_⟩
  ·exact absurd h1 g1
  ·rfl
  ·exact absurd g2 h2
  ·exact absurd g1 z
 ·rcases h' with⟨g1,_⟩ | ⟨_,g2,_⟩ | ⟨_,g2,v',hv',g3,g4⟩ | ⟨g1,_⟩
  ·exact absurd h1 g1
  ·exact absurd h2 g2
  ·have b1:¬FormAt ow su ws ss v:=by
    rcases h4 with⟨q,_⟩ | ⟨_,q,_⟩
    ·exact fun f=>f.k q
    ·exact q
   have b2:¬FormAt ow su ws ss v':=by
    rcases g4 with⟨q,_⟩ | ⟨_,q,_⟩
    ·exact fun f=>f.k q
    ·exact q
   have:v=v':=by
    rcases Nat.lt_trichotomy v v' with q | q | q
    ·exact absurd (g3 v q) b1
    ·exact q
    ·exact absurd (h3 v' q) b2
   subst this
   rcases h4 with⟨q,rfl⟩ | ⟨q,_,rfl⟩
   ·rcases g4 with⟨_,rfl⟩ | ⟨r,_⟩
    ·rfl
    ·exact absurd q r
   ·rcases g4 with⟨r,_⟩ | ⟨_,_,rfl⟩
    ·exact absurd r q
    ·rfl
  ·exact absurd g1 z
 ·exact absurd h1 z
def ClosP (ow ws ss:List Int) (su:List (List Int)):Prop:=∀v,v<ow.length→∀u∈su.getD v [],(¬ws.getD v 0=ow.getD v 0∨ss.getD v 0=u)→ws.getD u.toNat 0=ws.getD v 0
end
section
variable {E:Nat→Nat→Prop} {n v:Nat} {w w' w1:List Bool}
structure VisR (E:Nat→Nat→Prop) (n v:Nat) (w w':List Bool):Prop where
 l:w'.length=n
 up:∀x,bm w x→bm w' x
 me:bm w' v
 snd:∀x,bm w' x→bm w x∨x=v∨Rch E (fun _=>True) v x
 clo:∀x,bm w' x→¬bm w x→∀y,E x y→bm w' y
structure MidR (E:Nat→Nat→Prop) (n v:Nat) (w1 w':List Bool):Prop where
 l:w'.length=n
 up:∀x,bm w1 x→bm w' x
 snd:∀x,bm w' x→bm w1 x∨Rch E (fun _=>True) v x
 clo:∀x,bm w' x→¬bm w1 x→∀y,E x y→bm w' y
theorem VisR.same (h:bm w v) (hl:w.length=n):VisR E n v w w:=⟨hl,fun _ h=>h,h,fun _ h=> .inl h,fun x h q=>absurd h q⟩
theorem MidR.start (hl:w1.length=n):MidR E n v w1 w1:=⟨hl,fun _ h=>h,fun _ h=> .inl h,fun x h q=>absurd h q⟩
theorem Rch.hd {Q:Nat→Prop} {u x:Nat} (h:Rch E Q u x) (he:E v u) (hq:Q u):Rch E Q v x:=by
 induction h with
 | one a b=>exact .more (.one he hq) a b
 | more _ a b ih=>exact .more ih a b
theorem MidR.step {u:Nat} {w2:List Bool} (h:MidR E n v w1 w') (he:E v u) (r:VisR E n u w' w2):MidR E n v w1 w2:=
 ⟨r.l,fun x q=>r.up x (h.up x q),fun x q=>by
  rcases r.snd x q with q | q | q
  ·exact h.snd x q
  ·subst q;exact .inr (.one he trivial)
  ·exact .inr (q.hd he trivial),fun x q1 q2 y hy=>by
  by_cases q3:bm w' x
  ·exact r.up y (h.clo x q3 q2 y hy)
  ·exact r.clo x q1 q3 y hy⟩
theorem MidR.fin (h:MidR E n v (w.set v true) w') (hl:w.length=n) (hv:v<n) (hs:∀y,E v y→bm w' y):VisR E n v w w':=
 ⟨h.l,fun x q=>h.up x ((q40 (by omega)).2 (.inr q)),h.up v ((q40 (by omega)).2 (.inl rfl)),fun x q=>by
  rcases h.snd x q with q | q
  ·rcases(q40 (by omega)).1 q with q | q
   ·exact .inr (.inl q)
   ·exact .inl q
  ·exact .inr (.inr q),fun x q1 q2 y hy=>by
  by_cases e:x=v
  ·subst e;exact hs y hy
  ·exact h.clo x q1 (fun q=>by
    rcases(q40 (by omega)).1 q with q | q
    ·exact e q
    ·exact q2 q) y hy⟩
structure TopR (E:Nat→Nat→Prop) (F:Nat→Prop) (n k:Nat) (w:List Bool):Prop where
 l:w.length=n
 snd:∀x,bm w x→∃v,v<n∧F v∧(x=v∨Rch E (fun _=>True) v x)
 cpl:∀v,v<k→F v→bm w v
 clo:∀x,bm w x→∀y,E x y→bm w y
theorem TopR.start {F:Nat→Prop} :TopR E F n 0 (List.replicate n false):=
 ⟨by simp,fun x h=>absurd h (no_bm x),fun v h=>by omega,fun x h=>absurd h (no_bm x)⟩
theorem TopR.skip {F:Nat→Prop} {k:Nat} (h:TopR E F n k w) (hf:¬F k):TopR E F n (k+1) w:=
 ⟨h.l,h.snd,fun v hv q=>h.cpl v (by
  have:v≠k:=fun e=>hf (e▸q)
  omega) q,h.clo⟩
theorem TopR.step {F:Nat→Prop} {k:Nat} (h:TopR E F n k w) (hk:k<n) (hf:F k) (r:VisR E n k w w'):TopR E F n (k+1) w':=
 ⟨r.l,fun x q=>by
  rcases r.snd x q with q | q | q
  ·exact h.snd x q
  ·exact⟨k,hk,hf,.inl q⟩
  ·exact⟨k,hk,hf,.inr q⟩,fun v hv q=>by
  by_cases e:v=k
  ·subst e;exact r.me
  ·exact r.up v (h.cpl v (by omega) q),fun x q y hy=>by
  by_cases q3:bm w x
  ·exact r.up y (h.clo x q3 y hy)
  ·exact r.clo x q q3 y hy⟩
theorem TopR.fin {F:Nat→Prop} (h:TopR E F n n w) (x:Nat):bm w x↔∃v,v<n∧F v∧(x=v∨Rch E (fun _=>True) v x):=by
 refine⟨h.snd x,fun⟨v,hv,hf,q⟩=>?_⟩
 have h0:=h.cpl v hv hf
 rcases q with q | q
 ·subst q;exact h0
 ·exact q.inv h0 fun a b ha hab=>h.clo a ha b hab
end
set_option linter.unusedSimpArgs false
set_option maxRecDepth 10000
open Go.Am renaming pchk→P1,pold→P2,PKNo→P3,ppack→P4,PObj.under→P5,pput→P6,ptset→P7,q60→P8,pev→P9,ofAV→P10,q30→P11,ppad→P12,pfill→P13,q39→P14,AO.effect→P15
open List renaming replicate→L1
open Nat renaming reduceAdd→N1,reduceSub→N2,reduceMul→N3,reduceLT→N4,reduceLeDiff→N5,reduceEqDiff→N6,reduceBEq→N7
open Int renaming reduceToNat→I1,reduceLT→I2,reduceLE→I3,reduceEq→I4,reduceAdd→I5,reduceSub→I6,reduceNeg→I7
abbrev sC (f5 o5 f6 o6:Bool) (ws ss:List Int):List PV:=[slI f5 o5 .u8 ws,slI f6 o6 .i64 ss]
def atB (ow:List Int) (su:List (List Int)) (ws ss:List Int) (v:Nat):Bool:=if ws.getD v 0=ow.getD v 0 then decide (ss.getD v 0∈su.getD v []) else decide (ss.getD v 0= -1)
theorem formAt_iff {ow ws ss:List Int} {su:List (List Int)} {v:Nat} :FormAt ow su ws ss v↔ws.getD v 0≤1∧atB ow su ws ss v=true:=by
 unfold atB
 constructor
 ·intro h
  refine⟨by have:=h.k;omega,?_⟩
  split
  ·rename_i e;exact decide_eq_true (h.own e)
  ·rename_i e;exact decide_eq_true (h.opp e)
 ·rintro⟨h1,h2⟩
  refine⟨by omega,fun e=>?_,fun e=>?_⟩
  ·rw[if_pos e]at h2;exact of_decide_eq_true h2
  ·rw[if_neg e]at h2;exact of_decide_eq_true h2
section
variable {tab:FuncId→Option AF} (T:HasA tab)
include T
set_option maxHeartbeats 1000000 in
theorem form33_p {M:Mem} {K:PV→Mem→Prop} {f1 o1 f2 o2 f3 o3 f4 o4 f5 o5 f6 o6:Bool} {ow pr ws ss:List Int} {su:List (List Int)} (B:Bnd ow pr su)
  (hk:∀e:Int,FormE ow pr su ws ss e→K (p64 e) M):
  SemC tab 17 [gmP f1 o1 f2 o2 f3 o3 f4 o4 ow pr su,.agg (sC f5 o5 f6 o6 ws ss)] M K:=by
 refine SemC_pureS T.h17 (by simp only[PP,P1,P2,P3,P4,P5,P6,P7,P8,P9,P10,P11,P12,P13,P14,L1,P15,N1,N2,N3,N4,N5,N6,N7,I1,I2,I3,I4,I5,I6,I7,reduceIte,reduceCtorEq,PV.under]) ?_
 simp only[af17]
 refine q23 (q24 ?_)
 simp only[PP,P1,P2,P3,P4,P5,P6,P7,P8,P9,P10,P11,P12,P13,P14,L1,P15,N1,N2,N3,N4,N5,N6,N7,I1,I2,I3,I4,I5,I6,I7,reduceIte,reduceCtorEq]
 refine q41 (GStep.freezeP (b:=[Zj,Zj,.cp (gC f1 o1 f2 o2 f3 o3 f4 o4 ow pr su) 0,.ptr 1 0 0,p64 0,Zj,Zj,Zj,Zj,Zj,Zj,Zj,Zj,Zj,Zj,Zj,Zj,Zj,Zj,Zj,Zj,Zj,Zj,Zj,Zj,Zj,Zj,Zj,Zj,Zj,Zj,Zj,Zj,Zj,Zj,Zj]) 0 (Nat.zero_le _) rfl (by simp only[q67,q55,q54,q66]) rfl) ?_
 refine q41 (GStep.freezeP (b:=[Zj,Zj,.cp (gC f1 o1 f2 o2 f3 o3 f4 o4 ow pr su) 0,.cp (sC f5 o5 f6 o6 ws ss) 0,p64 0,Zj,Zj,Zj,Zj,Zj,Zj,Zj,Zj,Zj,Zj,Zj,Zj,Zj,Zj,Zj,Zj,Zj,Zj,Zj,Zj,Zj,Zj,Zj,Zj,Zj,Zj,Zj,Zj,Zj,Zj,Zj]) 1 (Nat.zero_le _) rfl (by simp only[q67,q55,q54,q66]) rfl) ?_
 refine q24 ?_
 simp only[PP,P1,P2,P3,P4,P5,P6,P7,P8,P9,P10,P11,P12,P13,P14,L1,P15,N1,N2,N3,N4,N5,N6,N7,I1,I2,I3,I4,I5,I6,I7,reduceIte,reduceCtorEq]
 refine valid33_p T B ?_
 simp only[PP,P1,P2,P3,P4,P5,P6,P7,P8,P9,P10,P11,P12,P13,P14,L1,P15,N1,N2,N3,N4,N5,N6,N7,I1,I2,I3,I4,I5,I6,I7,reduceIte,reduceCtorEq]
 refine QIf.intro (fun c1=>?_) (fun c1=>?_)
 rotate_left
 ·simp only[PP,P1,P2,P3,P4,P5,P6,P7,P8,P9,P10,P11,P12,P13,P14,L1,P15,N1,N2,N3,N4,N5,N6,N7,I1,I2,I3,I4,I5,I6,I7,reduceIte,reduceCtorEq,c1]
  exact hk _ (.inl ⟨c1,rfl⟩)
 have V:=q25 c1
 have n0:=V.n0
 have n1:=V.n1
 have hs:=V.s
 simp only[PP,P1,P2,P3,P4,P5,P6,P7,P8,P9,P10,P11,P12,P13,P14,L1,P15,N1,N2,N3,N4,N5,N6,N7,I1,I2,I3,I4,I5,I6,I7,reduceIte,reduceCtorEq,c1]
 refine QIf.intro (fun c2=>?_) (fun c2=>?_)
 rotate_left
 ·simp only[PP,P1,P2,P3,P4,P5,P6,P7,P8,P9,P10,P11,P12,P13,P14,L1,P15,N1,N2,N3,N4,N5,N6,N7,I1,I2,I3,I4,I5,I6,I7,reduceIte,reduceCtorEq,c2]
  exact hk _ (.inr (.inl ⟨c1,fun h=>c2 (by have:=h.1;omega),rfl⟩))
 simp only[PP,P1,P2,P3,P4,P5,P6,P7,P8,P9,P10,P11,P12,P13,P14,L1,P15,N1,N2,N3,N4,N5,N6,N7,I1,I2,I3,I4,I5,I6,I7,reduceIte,reduceCtorEq,c2]
 refine QIf.intro (fun c3=>?_) (fun c3=>?_)
 rotate_left
 ·simp only[PP,P1,P2,P3,P4,P5,P6,P7,P8,P9,P10,P11,P12,P13,P14,L1,P15,N1,N2,N3,N4,N5,N6,N7,I1,I2,I3,I4,I5,I6,I7,reduceIte,reduceCtorEq,c3]
  exact hk _ (.inr (.inl ⟨c1,fun h=>c3 (by have:=h.2;omega),rfl⟩))
 have lw:ws.length=ow.length:=by omega
 have ls:ss.length=ow.length:=by omega
 simp only[PP,P1,P2,P3,P4,P5,P6,P7,P8,P9,P10,P11,P12,P13,P14,L1,P15,N1,N2,N3,N4,N5,N6,N7,I1,I2,I3,I4,I5,I6,I7,reduceIte,reduceCtorEq,c3]
 let l:List Ck:=[⟨36,[.cp (sC f5 o5 f6 o6 ws ss) 0],6,fun v=>decide (ws.getD v 0≤1)⟩,⟨34,[.cp (sC f5 o5 f6 o6 ws ss) 0,.cp (gC f1 o1 f2 o2 f3 o3 f4 o4 ow pr su) 0],13,fun v=>atB ow su ws ss v⟩]
 have cz:∀v,(∀c∈l,c.P v=true)→FormAt ow su ws ss v:=fun v h=>by
  have h1:=of_decide_eq_true (h ⟨36,_,6,_⟩ (List.mem_cons_self ..))
  have h2:=h ⟨34,_,13,_⟩ (List.mem_cons_of_mem _ (List.mem_cons_self ..))
  exact formAt_iff.2 ⟨h1,h2⟩
 refine all_p T (l:=l) (by omega) (by show 2<_;omega) (by show q14 0 (ckC l)=true;simp only[l,ckC,List.flatMap_cons,List.flatMap_nil,List.append_nil,List.cons_append,List.nil_append,PP,P1,P2,P3,P4,P5,P6,P7,P8,P9,P10,P11,P12,P13,P14,L1,P15,N1,N2,N3,N4,N5,N6,N7,I1,I2,I3,I4,I5,I6,I7,reduceIte,reduceCtorEq,PV.under]) (fun c hc v hv M' K' hK'=>?_) (fun h=>?_) (fun v j c hv hb hj hi hP=>?_)
 ·obtain⟨row,g⟩:=q9 (xs:=su) (k:=v) (by omega)
  obtain⟨o,g1⟩:=q9 (xs:=ow) (k:=v) (by omega)
  obtain⟨w,g2⟩:=q9 (xs:=ws) (k:=v) (by omega)
  obtain⟨s,g3⟩:=q9 (xs:=ss) (k:=v) (by omega)
  have v0:(0:Int)≤v:=by omega
  have vn:(v:Int)<ow.length:=by omega
  have e1:ow.getD v 0=o:=getD_some g1
  have e2:ws.getD v 0=w:=getD_some g2
  have e3:ss.getD v 0=s:=getD_some g3
  have e4:su.getD v []=row:=by simp[List.getD,g]
  simp only[l,List.mem_cons,List.not_mem_nil,or_false]at hc
  rcases hc with rfl | rfl
  ·refine q11 T.h36 (by simp only[PP,P1,P2,P3,P4,P5,P6,P7,P8,P9,P10,P11,P12,P13,P14,L1,P15,N1,N2,N3,N4,N5,N6,N7,I1,I2,I3,I4,I5,I6,I7,reduceIte,reduceCtorEq,PV.under]) ?_
   simp only[af36,PP,P1,P2,P3,P4,P5,P6,P7,P8,P9,P10,P11,P12,P13,P14,L1,P15,N1,N2,N3,N4,N5,N6,N7,I1,I2,I3,I4,I5,I6,I7,reduceIte,reduceCtorEq,v0,vn,g2,lw]
   rw[←e2];exact hK'
  ·have hK':K' (.bool (atB ow su ws ss v)) M':=hK'
   unfold atB at hK'
   rw[e1,e2,e3,e4]at hK'
   refine q11 T.h34 (by simp only[PP,P1,P2,P3,P4,P5,P6,P7,P8,P9,P10,P11,P12,P13,P14,L1,P15,N1,N2,N3,N4,N5,N6,N7,I1,I2,I3,I4,I5,I6,I7,reduceIte,reduceCtorEq,PV.under]) ?_
   simp only[af34,PP,P1,P2,P3,P4,P5,P6,P7,P8,P9,P10,P11,P12,P13,P14,L1,P15,N1,N2,N3,N4,N5,N6,N7,I1,I2,I3,I4,I5,I6,I7,reduceIte,reduceCtorEq,v0,vn,g1,g2,lw]
   refine QIf.intro (fun d=>?_) (fun d=>?_)
   ·rw[if_pos d]at hK'
    simp only[PP,P1,P2,P3,P4,P5,P6,P7,P8,P9,P10,P11,P12,P13,P14,L1,P15,N1,N2,N3,N4,N5,N6,N7,I1,I2,I3,I4,I5,I6,I7,reduceIte,reduceCtorEq,d,v0,vn,g,g3,hs,ls]
    refine contains_p T (B.r row (List.mem_of_getElem? g)) ?_
    simp only[PP,P1,P2,P3,P4,P5,P6,P7,P8,P9,P10,P11,P12,P13,P14,L1,P15,N1,N2,N3,N4,N5,N6,N7,I1,I2,I3,I4,I5,I6,I7,reduceIte,reduceCtorEq]
    exact hK'
   ·rw[if_neg d]at hK'
    simp only[PP,P1,P2,P3,P4,P5,P6,P7,P8,P9,P10,P11,P12,P13,P14,L1,P15,N1,N2,N3,N4,N5,N6,N7,I1,I2,I3,I4,I5,I6,I7,reduceIte,reduceCtorEq,d,v0,vn,g,g3,hs,ls]
    exact hK'
 ·simp only[PP,P1,P2,P3,P4,P5,P6,P7,P8,P9,P10,P11,P12,P13,P14,L1,P15,N1,N2,N3,N4,N5,N6,N7,I1,I2,I3,I4,I5,I6,I7,reduceIte,reduceCtorEq]
  exact hk _ (.inr (.inr (.inr ⟨⟨c1,lw,ls,fun v hv=>cz v (h v hv)⟩,rfl⟩)))
 ·simp only[PP,P1,P2,P3,P4,P5,P6,P7,P8,P9,P10,P11,P12,P13,P14,L1,P15,N1,N2,N3,N4,N5,N6,N7,I1,I2,I3,I4,I5,I6,I7,reduceIte,reduceCtorEq]
  refine hk _ (.inr (.inr (.inl ⟨c1,⟨lw,ls⟩,v,hv,fun u hu=>cz u (hb u hu),?_⟩)))
  match j,hj with
  | 0,hj=>
   cases hj
   have h1:=of_decide_eq_false hP
   exact .inl ⟨by omega,rfl⟩
  | 1,hj=>
   cases hj
   have h1:=of_decide_eq_true (hi 0 _ (by omega) rfl)
   have h2:atB ow su ws ss v=false:=hP
   exact .inr ⟨by omega,(fun q=>by have:=(formAt_iff.1 q).2;rw[h2]at this;cases this),rfl⟩
  | j+2,hj=>simp[l]at hj
end
theorem RwWk.snoc_set {cs:List PV} {x:PV} :∀{j:Nat},(cs++List.replicate (j+1) PV.nils).set cs.length x=(cs++[x])++List.replicate j PV.nils:=by
 intro j
 rw[List.set_append_right _ _ (Nat.le_refl _),Nat.sub_self,List.replicate_succ,List.set_cons_zero,List.append_assoc];rfl
theorem snoc_set2 {cs:List PV} {x y:PV} {j:Nat} :(cs++[y]++List.replicate j PV.nils).set cs.length x=(cs++[x])++List.replicate j PV.nils:=by
 rw[List.append_assoc,List.set_append_right _ _ (Nat.le_refl _),Nat.sub_self,List.append_assoc];rfl
section
variable {tab:FuncId→Option AF} (T:HasA tab)
include T
theorem moves33_p {M:Mem} {K:PV→Mem→Prop} {f1 o1 f2 o2 f3 o3 f4 o4 f5 o5 f6 o6:Bool} {ow pr ws ss:List Int} {su:List (List Int)} {p:Int} (B:Bnd ow pr su) (hs:su.length=ow.length) (lw:ws.length=ow.length) (ls:ss.length=ow.length)
  (hk:K (slR false true true false .i64 (tabA ow.length (movC ow ws ss su p))) M):
  SemC tab 28 [gmP f1 o1 f2 o2 f3 o3 f4 o4 ow pr su,.agg [slI f5 o5 .u8 ws,slI f6 o6 .i64 ss],p8 p] M K:=by
 refine SemC_wk ?_
 refine q11 T.h28 (by simp only[PP,P1,P2,P3,P4,P5,P6,P7,P8,P9,P10,P11,P12,P13,P14,L1,P15,N1,N2,N3,N4,N5,N6,N7,I1,I2,I3,I4,I5,I6,I7,reduceIte,reduceCtorEq]) ?_
 have hn:ow.length<1000000000000:=B.o
 have b0:(0:Int)≤ow.length:=by omega
 have b1:(ow.length:Int)*24≤140737488355328:=by omega
 have b2:(ow.length:Int)≤9223372036854775807:=by omega
 simp only[af28,PP,P1,P2,P3,P4,P5,P6,P7,P8,P9,P10,P11,P12,P13,P14,L1,P15,N1,N2,N3,N4,N5,N6,N7,I1,I2,I3,I4,I5,I6,I7,reduceIte,reduceCtorEq,b0,b1,b2,Int.le_refl,hs]
 refine loop3 (fun(k v:Nat) (cs:List PV)=>k≤ow.length∧RwWk cs (tabA k (movC ow ws ss su p)))
  (fun k v cs=>[Zj,Zj,p8 p,.ptr 0 0 0,.ptr 1 0 0,Zj,Zj,.ref 2 0 1 0 ow.length,Zj,Zj,Zj,Zj,Zj,Zj,Zj,slR f3 o3 f4 o4 .i64 su,p64 ow.length,p64 k,Zj,Zj,Zj,Zj,Zj,Zj,Zj,Zj,Zj,Zj,Zj,Zj,Zj,Zj,Zj,Zj,Zj,Zj,Zj,Zj,Zj,Zj,Zj,Zj,Zj,Zj,Zj,Zj,Zj,Zj,Zj,Zj,Zj,Zj,Zj])
  (fun k v cs=>[.cells 0 0 [slI f1 o1 .u8 ow,slI f2 o2 .i64 pr,slR f3 o3 f4 o4 .i64 su],.cells 0 0 [slI f5 o5 .u8 ws,slI f6 o6 .i64 ss],.cells 0 v (cs++List.replicate (ow.length-k) PV.nils)])
  (fun k _ _=>ow.length-k) 0 0 [] ⟨by omega,trivial⟩ (by simp only[PW]) rfl ?_
 intro k v cs ⟨hle,hc⟩ ih
 have lc:cs.length=k:=by rw[hc.len,q27]
 refine q15 (by kernel_rfl) ?_
 simp only[PP,P1,P2,P3,P4,P5,P6,P7,P8,P9,P10,P11,P12,P13,P14,L1,P15,N1,N2,N3,N4,N5,N6,N7,I1,I2,I3,I4,I5,I6,I7,reduceIte,reduceCtorEq]
 refine QIf.intro (fun c=>?_) (fun c=>?_)
 ·have hk':k<ow.length:=by omega
  have k0:(0:Int)≤k:=by omega
  have kn:(k:Int)<ow.length:=by omega
  have hwk:=q12 (k:=k) (by show _<1000000000000;omega)
  obtain⟨o,g1⟩:=q9 (xs:=ow) (k:=k) hk'
  obtain⟨w,g2⟩:=q9 (xs:=ws) (k:=k) (by omega)
  obtain⟨s,g3⟩:=q9 (xs:=ss) (k:=k) (by omega)
  obtain⟨r,g4⟩:=q9 (xs:=su) (k:=k) (by omega)
  have e1:ow.getD k 0=o:=getD_some g1
  have e2:ws.getD k 0=w:=getD_some g2
  have e3:ss.getD k 0=s:=getD_some g3
  have e4:su.getD k []=r:=by simp[List.getD,g4]
  have ef:movC ow ws ss su p k=if o=p∧w=p then [s] else r:=by unfold movC;rw[e1,e2,e3,e4]
  have er:ow.length-k=(ow.length-(k+1))+1:=by omega
  have st1:∀x:PV,(cs++List.replicate (ow.length-k) PV.nils).set k x=(cs++[x])++List.replicate (ow.length-(k+1)) PV.nils:=fun x=>by rw[er,←lc];exact RwWk.snoc_set
  have st2:∀x y:PV,((cs++[y])++List.replicate (ow.length-(k+1)) PV.nils).set k x=(cs++[x])++List.replicate (ow.length-(k+1)) PV.nils:=fun x y=>by rw[←lc];exact snoc_set2
  have step:∀(f o':Bool) (y:List Int),movC ow ws ss su p k=y→RwWk (cs++[slI f o' .i64 y]) (tabA (k+1) (movC ow ws ss su p)):=fun f o' y hy=>by
   rw[tabA_succ,hy];exact hc.app f o' y
  have hcl:k+1≤cs.length+(ow.length-k):=by omega
  have hcl2:k+1≤cs.length+1+(ow.length-(k+1)):=by omega
  simp only[PP,P1,P2,P3,P4,P5,P6,P7,P8,P9,P10,P11,P12,P13,P14,L1,P15,N1,N2,N3,N4,N5,N6,N7,I1,I2,I3,I4,I5,I6,I7,reduceIte,reduceCtorEq,c,k0,kn,g1,g4,hs,st1,hcl]
  refine QIf.intro (fun d=>?_) (fun d=>?_)
  ·simp only[PP,P1,P2,P3,P4,P5,P6,P7,P8,P9,P10,P11,P12,P13,P14,L1,P15,N1,N2,N3,N4,N5,N6,N7,I1,I2,I3,I4,I5,I6,I7,reduceIte,reduceCtorEq,d,k0,kn,g2,lw]
   refine QIf.intro (fun e=>?_) (fun e=>?_)
   ·rw[if_pos ⟨d,e⟩]at ef
    simp only[PP,P1,P2,P3,P4,P5,P6,P7,P8,P9,P10,P11,P12,P13,P14,L1,P15,N1,N2,N3,N4,N5,N6,N7,I1,I2,I3,I4,I5,I6,I7,reduceIte,reduceCtorEq,e,k0,kn,g3,ls,st2,hcl2,hwk]
    exact q19 (ih (k+1) (v+1+1) (cs++[slI true true .i64 [s]]) ⟨by omega,step true true [s] ef⟩ (by omega)) (by simp only[PW]) rfl
   ·rw[if_neg (fun h=>e h.2)]at ef
    simp only[PP,P1,P2,P3,P4,P5,P6,P7,P8,P9,P10,P11,P12,P13,P14,L1,P15,N1,N2,N3,N4,N5,N6,N7,I1,I2,I3,I4,I5,I6,I7,reduceIte,reduceCtorEq,e,hwk]
    exact q19 (ih (k+1) (v+1) (cs++[slI f4 o4 .i64 r]) ⟨by omega,step f4 o4 r ef⟩ (by omega)) (by simp only[PW]) rfl
  ·rw[if_neg (fun h=>d h.1)]at ef
   simp only[PP,P1,P2,P3,P4,P5,P6,P7,P8,P9,P10,P11,P12,P13,P14,L1,P15,N1,N2,N3,N4,N5,N6,N7,I1,I2,I3,I4,I5,I6,I7,reduceIte,reduceCtorEq,d,hwk]
   exact q19 (ih (k+1) (v+1) (cs++[slI f4 o4 .i64 r]) ⟨by omega,step f4 o4 r ef⟩ (by omega)) (by simp only[PW]) rfl
 ·have hkn:k=ow.length:=by omega
  subst hkn
  have hps:psub cs 0 ow.length=cs:=q49 _ _ (by omega)
  simp only[PP,P1,P2,P3,P4,P5,P6,P7,P8,P9,P10,P11,P12,P13,P14,L1,P15,N1,N2,N3,N4,N5,N6,N7,I1,I2,I3,I4,I5,I6,I7,reduceIte,reduceCtorEq,c]
  rw[Nat.sub_self,List.replicate_zero,List.append_nil,frzO_cells (by omega) (hc.und 0),Nat.mul_one,hps]
  simp only[PP,P1,P2,P3,P4,P5,P6,P7,P8,P9,P10,P11,P12,P13,P14,L1,P15,N1,N2,N3,N4,N5,N6,N7,I1,I2,I3,I4,I5,I6,I7,reduceIte,reduceCtorEq]
  refine⟨_,?_,hk⟩
  have:=PvWk.cells (f:=false) (o:=true) (sz:=1) (n:=ow.length) (cs:=cs) (cs':=(tabA ow.length (movC ow ws ss su p)).map (slI true false .i64)) (by simp[lc,q27]) hc.get
  simp only[slR,q27]
  exact this
end
abbrev mS (f1 o1 f2 o2:Bool) (su:List (List Int)) (ver:Nat) (w:List Bool):Mem:=[.cells 0 0 [slR f1 o1 f2 o2 .i64 su],.cells 0 ver (w.map PV.bool),.cells 0 1 [.ref 1 0 1 0 su.length],.cells 0 1 [.func (.func 67) [] [.ptr 2 0 0,.ptr 0 0 0,.ptr 3 0 0]]]
section
variable {tab:FuncId→Option AF} (T:HasA tab)
include T
theorem visit_p {f1 o1 f2 o2:Bool} {su:List (List Int)} (R:RowsIn su):∀(d:Nat) (w:List Bool) (ver v:Nat) (K:PV→Mem→Prop),su.length-w.count true<d→w.length=su.length→v<su.length→
  (∀ver' w',VisR (fun a b=>b∈Sf su a) su.length v w w'→w.count true≤w'.count true→K (.tuple []) (mS f1 o1 f2 o2 su ver' w'))→
  SemC tab 67 [p64 v,.ptr 2 0 0,.ptr 0 0 0,.ptr 3 0 0] (mS f1 o1 f2 o2 su ver w) K:=by
 obtain⟨hn,hr⟩:=R
 have row:∀u,u<su.length→∃r,su[u]? =some r∧Sf su u=r.map Int.toNat∧r.length<1000000000000∧∀x∈r,0≤x∧x<su.length:=fun u hu=>by
  obtain⟨r,g⟩:=q9 hu
  refine⟨r,g,?_,hr r (List.mem_of_getElem? g)⟩
  unfold Sf;rw[List.getD,g];rfl
 intro d
 induction d with
 | zero=>intro w ver v K h;omega
 | succ d ih=>
 intro w ver v K hd lw hv hk
 refine q34 T.h67 ?_
 have v0:(0:Int)≤v:=by omega
 have v1:(v:Int)<su.length:=by omega
 obtain⟨r,gr,er,hrl,hrx⟩:=row v hv
 obtain⟨z,gz⟩:=q9 (xs:=w) (k:=v) (by omega)
 simp only[af67,mS,PP,P1,P2,P3,P4,P5,P6,P7,P8,P9,P10,P11,P12,P13,P14,L1,P15,N1,N2,N3,N4,N5,N6,N7,I1,I2,I3,I4,I5,I6,I7,reduceIte,reduceCtorEq,v0,v1,gz,lw]
 cases z with
 | true=>
  simp only[PP,P1,P2,P3,P4,P5,P6,P7,P8,P9,P10,P11,P12,P13,P14,L1,P15,N1,N2,N3,N4,N5,N6,N7,I1,I2,I3,I4,I5,I6,I7,reduceIte,reduceCtorEq]
  exact hk _ _ (VisR.same gz lw) (Nat.le_refl _)
 | false=>
  have hc1:=count_add gz
  simp only[PP,P1,P2,P3,P4,P5,P6,P7,P8,P9,P10,P11,P12,P13,P14,L1,P15,N1,N2,N3,N4,N5,N6,N7,I1,I2,I3,I4,I5,I6,I7,reduceIte,reduceCtorEq,v0,v1,gr,lw]
  refine⟨by omega,?_⟩
  refine loop3 (fun(i ver':Nat) (w':List Bool)=>i≤r.length∧MidR (fun a b=>b∈Sf su a) su.length v (w.set v true) w'∧w.count true+1≤w'.count true∧(∀k,k<i→∀x,r[k]? =some x→bm w' x.toNat))
   (fun i ver' w'=>[Zj,Zj,Zj,.ptr 3 0 0,Zj,Zj,Zj,Zj,Zj,Zj,Zj,Zj,Zj,Zj,Zj,Zj,Zj,slI f2 o2 .i64 r,p64 r.length,p64 i,Zj,Zj,Zj,Zj,Zj,Zj,Zj])
   (fun i ver' w'=>mS f1 o1 f2 o2 su ver' w')
   (fun i ver' w'=>r.length-i) 0 (ver+1) (w.set v true) ⟨by omega,MidR.start (by simp[lw]),by omega,(fun k h=>by omega)⟩ (by simp only[PW]) (by simp[List.map_set]) ?_
  intro i ver' w' ⟨hi,hm,hct,hdone⟩ ih2
  refine q15 (by kernel_rfl) ?_
  simp only[mS,PP,P1,P2,P3,P4,P5,P6,P7,P8,P9,P10,P11,P12,P13,P14,L1,P15,N1,N2,N3,N4,N5,N6,N7,I1,I2,I3,I4,I5,I6,I7,reduceIte,reduceCtorEq]
  refine QIf.intro (fun c=>?_) (fun c=>?_)
  ·have hi':i<r.length:=by omega
   have i0:(0:Int)≤i:=by omega
   have hwk:=q12 (k:=i) (by show _<1000000000000;omega)
   obtain⟨x,gx⟩:=q9 (xs:=r) (k:=i) hi'
   have hx:=hrx x (List.mem_of_getElem? gx)
   obtain⟨a,rfl⟩:∃a:Nat,x=a:=⟨x.toNat,by omega⟩
   have ha:a<su.length:=by omega
   have hS:a∈Sf su v:=by rw[er];exact List.mem_map.2 ⟨_,List.mem_of_getElem? gx,by simp⟩
   simp only[PP,P1,P2,P3,P4,P5,P6,P7,P8,P9,P10,P11,P12,P13,P14,L1,P15,N1,N2,N3,N4,N5,N6,N7,I1,I2,I3,I4,I5,I6,I7,reduceIte,reduceCtorEq,c,i0,gx]
   have hcw:w'.count true≤w'.length:=List.count_le_length
   have lw':=hm.l
   refine ih w' ver' a _ (by omega) lw' ha fun ver2 w2 hV hct2=>?_
   simp only[PP,P1,P2,P3,P4,P5,P6,P7,P8,P9,P10,P11,P12,P13,P14,L1,P15,N1,N2,N3,N4,N5,N6,N7,I1,I2,I3,I4,I5,I6,I7,reduceIte,reduceCtorEq,hwk]
   refine q8 (ih2 (i+1) ver2 w2 ⟨by omega,hm.step hS hV,by omega,fun k hk x hx=>?_⟩ (by omega)) (by simp only[PW])
   by_cases e:k=i
   ·subst e;rw[gx]at hx;cases hx;exact hV.me
   ·exact hV.up _ (hdone k (by omega) x hx)
  ·simp only[PP,P1,P2,P3,P4,P5,P6,P7,P8,P9,P10,P11,P12,P13,P14,L1,P15,N1,N2,N3,N4,N5,N6,N7,I1,I2,I3,I4,I5,I6,I7,reduceIte,reduceCtorEq,c]
   have hir:i=r.length:=by omega
   subst hir
   refine hk _ _ (hm.fin lw hv fun y hy=>?_) (by omega)
   have hy:y∈Sf su v:=hy
   rw[er]at hy
   obtain⟨x,hx,rfl⟩:=List.mem_map.1 hy
   obtain⟨k,hk',e⟩:=List.mem_iff_getElem.1 hx
   exact hdone k hk' x (by rw[List.getElem?_eq_getElem hk',e])
theorem reach33_p {M:Mem} {K:PV→Mem→Prop} {f1 o1 f2 o2:Bool} {su:List (List Int)} {g:FuncId} {cap:List PV} {F:Nat→Bool} (R:RowsIn su) (hu:q14 0 cap=true)
  (hf:∀v,v<su.length→∀(M':Mem) (K':PV→Mem→Prop),K' (.bool (F v)) M'→SemC tab g (p64 v::cap) M' K')
  (hk:∀w,w.length=su.length→(∀x,bm w x↔∃v,v<su.length∧F v=true∧(x=v∨Rch (fun a b=>b∈Sf su a) (fun _=>True) v x))→K (slB false true w) M):
  SemC tab 55 [slR f1 o1 f2 o2 .i64 su,.func (.func g) [] cap] M K:=by
 have hn:=R.1
 have b0:(0:Int)≤su.length:=by omega
 have b1:(su.length:Int)*1≤140737488355328:=by omega
 have b2:(su.length:Int)≤9223372036854775807:=by omega
 refine q11 T.h55 (by simp only[PP,P1,P2,P3,P4,P5,P6,P7,P8,P9,P10,P11,P12,P13,P14,L1,P15,N1,N2,N3,N4,N5,N6,N7,I1,I2,I3,I4,I5,I6,I7,reduceIte,reduceCtorEq,PV.under,hu]) ?_
 simp only[af55,PP,P1,P2,P3,P4,P5,P6,P7,P8,P9,P10,P11,P12,P13,P14,L1,P15,N1,N2,N3,N4,N5,N6,N7,I1,I2,I3,I4,I5,I6,I7,reduceIte,reduceCtorEq,b0,b1,b2,Int.le_refl]
 refine loop3 (fun(k ver:Nat) (w:List Bool)=>k≤su.length∧TopR (fun a b=>b∈Sf su a) (fun v=>F v=true) su.length k w)
  (fun k ver w=>[Zj,.func (.func g) [] cap,Zj,Zj,Zj,.ptr 2 0 0,.ptr 3 0 0,Zj,Zj,Zj,Zj,Zj,Zj,p64 su.length,p64 k,Zj,Zj,Zj,Zj,Zj,Zj,Zj,Zj,Zj,Zj])
  (fun k ver w=>mS f1 o1 f2 o2 su ver w)
  (fun k ver w=>su.length-k) 0 0 (List.replicate su.length false) ⟨by omega,TopR.start⟩ (by simp only[PW]) (by simp only[mS,List.map_replicate]) ?_
 intro k ver w ⟨hle,j⟩ ih
 have lw:=j.l
 refine q15 (by kernel_rfl) ?_
 simp only[mS,PP,P1,P2,P3,P4,P5,P6,P7,P8,P9,P10,P11,P12,P13,P14,L1,P15,N1,N2,N3,N4,N5,N6,N7,I1,I2,I3,I4,I5,I6,I7,reduceIte,reduceCtorEq]
 refine QIf.intro (fun c=>?_) (fun c=>?_)
 ·have hk':k<su.length:=by omega
  have hwk:=q12 (k:=k) (by show _<1000000000000;omega)
  simp only[PP,P1,P2,P3,P4,P5,P6,P7,P8,P9,P10,P11,P12,P13,P14,L1,P15,N1,N2,N3,N4,N5,N6,N7,I1,I2,I3,I4,I5,I6,I7,reduceIte,reduceCtorEq,c]
  refine hf k hk' _ _ ?_
  cases hF:F k with
  | false=>
   simp only[PP,P1,P2,P3,P4,P5,P6,P7,P8,P9,P10,P11,P12,P13,P14,L1,P15,N1,N2,N3,N4,N5,N6,N7,I1,I2,I3,I4,I5,I6,I7,reduceIte,reduceCtorEq,hwk]
   exact q8 (ih (k+1) ver w ⟨by omega,j.skip (by rw[hF];decide)⟩ (by omega)) (by simp only[PW])
  | true=>
   simp only[PP,P1,P2,P3,P4,P5,P6,P7,P8,P9,P10,P11,P12,P13,P14,L1,P15,N1,N2,N3,N4,N5,N6,N7,I1,I2,I3,I4,I5,I6,I7,reduceIte,reduceCtorEq]
   refine visit_p T R (su.length-w.count true+1) w ver k _ (by omega) lw hk' fun ver' w' hV hct=>?_
   simp only[PP,P1,P2,P3,P4,P5,P6,P7,P8,P9,P10,P11,P12,P13,P14,L1,P15,N1,N2,N3,N4,N5,N6,N7,I1,I2,I3,I4,I5,I6,I7,reduceIte,reduceCtorEq,hwk]
   exact q8 (ih (k+1) ver' w' ⟨by omega,j.step hk' hF hV⟩ (by omega)) (by simp only[PW])
 ·have hkn:k=su.length:=by omega
  subst hkn
  simp only[PP,P1,P2,P3,P4,P5,P6,P7,P8,P9,P10,P11,P12,P13,P14,L1,P15,N1,N2,N3,N4,N5,N6,N7,I1,I2,I3,I4,I5,I6,I7,reduceIte,reduceCtorEq,c,←lw]
  exact hk w lw fun x=>j.fin x
end
def RevI (xs ys:List Int) (i:Nat):Prop:=ys.length=xs.length∧∀k,k<xs.length→ys[k]? =if k<i∨xs.length-1-i<k then xs[xs.length-1-k]? else xs[k]?
theorem RevI.start (xs:List Int):RevI xs xs 0:=⟨rfl,fun k hk=>by
 rw[if_neg (by omega)]⟩
theorem RevI.step {xs ys:List Int} {i:Nat} {a b:Int} (h:RevI xs ys i) (hi:i<xs.length-1-i) (ga:ys[xs.length-1-i]? =some a) (gb:ys[i]? =some b):RevI xs ((ys.set i a).set (xs.length-1-i) b) (i+1):=by
 obtain⟨hl,h⟩:=h
 refine⟨by simp[hl],fun k hk=>?_⟩
 have h1:=h i (by omega)
 have h2:=h (xs.length-1-i) (by omega)
 rw[if_neg (by omega),gb]at h1
 rw[if_neg (by omega),ga]at h2
 rw[List.getElem?_set,List.getElem?_set]
 by_cases e1:xs.length-1-i=k
 ·subst e1
  rw[if_pos rfl,if_pos (by simp[hl];omega),if_pos (by omega),show xs.length-1-(xs.length-1-i)=i by omega]
  exact h1
 ·rw[if_neg e1]
  by_cases e2:i=k
  ·subst e2
   rw[if_pos rfl,if_pos (by omega),if_pos (by omega)]
   exact h2
  ·rw[if_neg e2,h k hk]
   by_cases e3:k<i∨xs.length-1-i<k
   ·rw[if_pos e3,if_pos (by omega)]
   ·rw[if_neg e3,if_neg (by omega)]
theorem RevI.fin {xs ys:List Int} {i:Nat} (h:RevI xs ys i) (hi:xs.length-1-i≤i):ys=xs.reverse:=by
 obtain⟨hl,h⟩:=h
 apply List.ext_getElem?
 intro k
 by_cases hk:k<xs.length
 ·rw[h k hk,List.getElem?_reverse hk]
  by_cases e3:k<i∨xs.length-1-i<k
  ·rw[if_pos e3]
  ·rw[if_neg e3,show xs.length-1-k=k by omega]
 ·rw[List.getElem?_eq_none (by omega),List.getElem?_eq_none (by simp;omega)]
section
variable {tab:FuncId→Option AF} (T:HasA tab)
include T
theorem reverse_p {K:PV→Mem→Prop} {x0 x1:PObj} {g v:Nat} {xs:List Int} (hn:xs.length<1000000000000)
  (hk:∀v',K (.tuple []) [x0,x1,.cells g v' (xs.reverse.map (PV.int .i64))]):
  SemC tab 68 [.ref 2 g 1 0 xs.length] [x0,x1,.cells g v (xs.map (PV.int .i64))] K:=by
 refine q34 T.h68 ?_
 have hw0:IntKind.i64.wrap ((xs.length:Int)-1)=(xs.length:Int)-1:=q52 (by omega) (by omega)
 simp only[af68,PP,P1,P2,P3,P4,P5,P6,P7,P8,P9,P10,P11,P12,P13,P14,L1,P15,N1,N2,N3,N4,N5,N6,N7,I1,I2,I3,I4,I5,I6,I7,reduceIte,reduceCtorEq,hw0]
 refine loop3 (fun(i ver:Nat) (ys:List Int)=>i≤xs.length∧RevI xs ys i)
  (fun i ver ys=>[.ref 2 g 1 0 xs.length,Zj,p64 i,p64 ((xs.length:Int)-1-i),Zj,Zj,Zj,Zj,Zj,Zj,Zj,Zj,Zj,Zj,Zj,Zj,Zj,Zj,Zj,Zj,Zj,Zj,Zj,Zj,Zj,Zj,Zj,Zj])
  (fun i ver ys=>[x0,x1,.cells g ver (ys.map (PV.int .i64))])
  (fun i ver ys=>xs.length-i) 0 v xs ⟨by omega,RevI.start xs⟩ (by simp only[PP,P1,P2,P3,P4,P5,P6,P7,P8,P9,P10,P11,P12,P13,P14,L1,P15,N1,N2,N3,N4,N5,N6,N7,I1,I2,I3,I4,I5,I6,I7,reduceIte,reduceCtorEq,PW,Int.cast_ofNat_Int,Int.sub_zero]) rfl ?_
 intro i ver ys ⟨hle,hr⟩ ih
 refine q15 (by kernel_rfl) ?_
 simp only[PP,P1,P2,P3,P4,P5,P6,P7,P8,P9,P10,P11,P12,P13,P14,L1,P15,N1,N2,N3,N4,N5,N6,N7,I1,I2,I3,I4,I5,I6,I7,reduceIte,reduceCtorEq]
 refine QIf.intro (fun c=>?_) (fun c=>?_)
 ·have e0:(xs.length:Int)-1-i=((xs.length-1-i:Nat):Int):=by omega
  have hlt:i<xs.length-1-i:=by omega
  have lq:=hr.1
  obtain⟨a,ga⟩:=q9 (xs:=ys) (k:=xs.length-1-i) (by omega)
  obtain⟨b,gb⟩:=q9 (xs:=ys) (k:=i) (by omega)
  have i0:(0:Int)≤i:=by omega
  have i1:(i:Int)<xs.length:=by omega
  have j0:(0:Int)≤((xs.length-1-i:Nat):Int):=by omega
  have j1:((xs.length-1-i:Nat):Int)<xs.length:=by omega
  have hwk:=q12 (k:=i) (by show _<1000000000000;omega)
  have hwj:IntKind.i64.wrap (((xs.length-1-i:Nat):Int)-1)=(xs.length:Int)-1-((i+1:Nat):Int):=by rw[q52 (by omega) (by omega)];omega
  have s1:i+1≤ys.length:=by omega
  have s2:xs.length-1-i+1≤ys.length:=by omega
  simp only[PP,P1,P2,P3,P4,P5,P6,P7,P8,P9,P10,P11,P12,P13,P14,L1,P15,N1,N2,N3,N4,N5,N6,N7,I1,I2,I3,I4,I5,I6,I7,reduceIte,reduceCtorEq,c]
  simp only[PP,P1,P2,P3,P4,P5,P6,P7,P8,P9,P10,P11,P12,P13,P14,L1,P15,N1,N2,N3,N4,N5,N6,N7,I1,I2,I3,I4,I5,I6,I7,reduceIte,reduceCtorEq,e0,ga,gb,i0,i1,j0,j1,hwk,hwj,s1,s2]
  exact q19 (ih (i+1) (ver+1+1) _ ⟨by omega,hr.step hlt ga gb⟩ (by omega)) (by simp only[PW]) (by simp[List.map_set])
 ·simp only[PP,P1,P2,P3,P4,P5,P6,P7,P8,P9,P10,P11,P12,P13,P14,L1,P15,N1,N2,N3,N4,N5,N6,N7,I1,I2,I3,I4,I5,I6,I7,reduceIte,reduceCtorEq,c]
  have:=hr.fin (by omega)
  subst this
  exact hk _
set_option maxHeartbeats 2000000 in
theorem path_p {M:Mem} {K:PV→Mem→Prop} {f1 o1 f2 o2:Bool} {su:List (List Int)} {f:Nat} {ga gt:FuncId} {ca ct:List PV} {al to:Nat→Bool} (R:RowsIn su) (hf:f<su.length) (ua:q14 0 ca=true) (ut:q14 0 ct=true)
  (ha:∀v,v<su.length→∀(M':Mem) (K':PV→Mem→Prop),K' (.bool (al v)) M'→SemC tab ga (p64 v::ca) M' K')
  (ht:∀v,v<su.length→∀(M':Mem) (K':PV→Mem→Prop),K' (.bool (to v)) M'→SemC tab gt (p64 v::ct) M' K')
  (hk1:(∀x,x<su.length→to x=true→¬Rch (fun a b=>b∈Sf su a) (fun v=>al v=true) f x)→K .nils M)
  (hk2:∀(c:List Nat) (x:Nat),x<su.length→to x=true→al x=true→Ch (Sf su) (fun v=>al v=true) x (f::c)→c.length+1≤su.length→K (slI false true .i64 (nI (f::c))) M):
  SemC tab 58 [slR f1 o1 f2 o2 .i64 su,p64 f,.func (.func ga) [] ca,.func (.func gt) [] ct] M K:=by
 obtain⟨hn,hr⟩:=R
 refine SemC_pureS T.h58 (by simp only[PP,P1,P2,P3,P4,P5,P6,P7,P8,P9,P10,P11,P12,P13,P14,L1,P15,N1,N2,N3,N4,N5,N6,N7,I1,I2,I3,I4,I5,I6,I7,reduceIte,reduceCtorEq,PV.under,ua,ut]) ?_
 simp only[af58]
 refine q23 (q24 ?_)
 simp only[PP,P1,P2,P3,P4,P5,P6,P7,P8,P9,P10,P11,P12,P13,P14,L1,P15,N1,N2,N3,N4,N5,N6,N7,I1,I2,I3,I4,I5,I6,I7,reduceIte,reduceCtorEq]
 refine q23 (q24 ?_)
 simp only[PP,P1,P2,P3,P4,P5,P6,P7,P8,P9,P10,P11,P12,P13,P14,L1,P15,N1,N2,N3,N4,N5,N6,N7,I1,I2,I3,I4,I5,I6,I7,reduceIte,reduceCtorEq,PS_makeMap,PS_lookup,q46,ZMp_map,ZLook_map,ZMapU_map,plook_st,plook_sf,plook_nt,plook_nf,mpE_find]
 refine q23 (q23 (SemW_lit ?_))
 simp only[PP,P1,P2,P3,P4,P5,P6,P7,P8,P9,P10,P11,P12,P13,P14,L1,P15,N1,N2,N3,N4,N5,N6,N7,I1,I2,I3,I4,I5,I6,I7,reduceIte,reduceCtorEq]
 refine⟨_,rfl,?_⟩
 have row:∀u,u<su.length→∃r,su[u]? =some r∧Sf su u=r.map Int.toNat∧r.length<1000000000000∧∀x∈r,0≤x∧x<su.length:=fun u hu=>by
  obtain⟨r,g⟩:=q9 hu
  refine⟨r,g,?_,hr r (List.mem_of_getElem? g)⟩
  unfold Sf;rw[List.getD,g];rfl
 refine q24 ?_
 simp only[PP,P1,P2,P3,P4,P5,P6,P7,P8,P9,P10,P11,P12,P13,P14,L1,P15,N1,N2,N3,N4,N5,N6,N7,I1,I2,I3,I4,I5,I6,I7,reduceIte,reduceCtorEq]
 refine loop6 (fun(g v2 off:Nat) (cs:List Nat) (ver:Nat) (mp:List (Nat×Nat))=>off≤cs.length∧(cs.drop off).length≤mp.length+1∧RJ (Sf su) (fun v=>al v=true) f su.length (mkB su.length mp) (cs.drop off) (fun _=>False)∧MpOk (Sf su) (fun v=>al v=true) f su.length mp∧∀x y,mlook x mp=some y→to x=false)
  (fun g v2 off cs ver mp=>[slR f1 o1 f2 o2 .i64 su,p64 f,.func (.func ga) [] ca,.func (.func gt) [] ct,Zj,Zj,Zj,Zj,Zj,.map 0,.ref 1 g 1 off (cs.length-off),Zj,Zj,Zj,Zj,Zj,Zj,Zj,Zj,Zj,Zj,Zj,Zj,Zj,Zj,Zj,Zj,Zj,Zj,Zj,Zj,Zj,Zj,Zj,Zj,Zj,Zj,Zj,Zj,Zj,Zj,Zj,Zj,Zj,Zj,Zj,Zj,Zj,Zj,Zj,Zj,Zj,Zj,Zj,Zj,Zj,Zj,Zj,Zj,Zj,Zj,Zj,Zj,Zj,Zj,Zj,Zj,Zj,Zj,Zj,Zj,Zj,Zj,Zj,Zj,Zj,Zj,Zj,Zj])
  (fun g v2 off cs ver mp=>[.map ver (mpE mp),.cells g v2 ((nI cs).map (PV.int .i64))])
  (fun g v2 off cs ver mp=>(su.length-mp.length)+(cs.length-off)) 0 0 0 [f] 0 [] ⟨by simp,by simp,by rw[mkB_nil];exact RJ.start hf,.nil,(fun x y h=>by cases h)⟩ (by simp only[PW]) rfl ?_
 intro g v2 off cs ver mp ⟨hle,hql,j,hm,hto⟩ ih
 refine q15 (by kernel_rfl) ?_
 simp only[PP,P1,P2,P3,P4,P5,P6,P7,P8,P9,P10,P11,P12,P13,P14,L1,P15,N1,N2,N3,N4,N5,N6,N7,I1,I2,I3,I4,I5,I6,I7,reduceIte,reduceCtorEq]
 refine QIf.intro (fun c=>?_) (fun c=>?_)
 ·have hlt:off<cs.length:=by omega
  obtain⟨u,gu⟩:=q9 (xs:=cs) (k:=off) hlt
  have hd:cs.drop off=u::cs.drop (off+1):=by
   rw[List.drop_eq_getElem_cons hlt];rw[List.getElem?_eq_getElem hlt]at gu;cases gu;rfl
  rw[hd]at j hql
  have hu:u<su.length:=j.qn u (List.mem_cons_self ..)
  have hum:=j.qr u (List.mem_cons_self ..)
  rw[bm_mkB]at hum
  obtain⟨r,gr,er,hrl,hrx⟩:=row u hu
  have u0:(0:Int)≤u:=by omega
  have u1:(u:Int)<su.length:=by omega
  have k1:(0:Int)<((cs.length-off:Nat):Int):=by omega
  simp only[PP,P1,P2,P3,P4,P5,P6,P7,P8,P9,P10,P11,P12,P13,P14,L1,P15,N1,N2,N3,N4,N5,N6,N7,I1,I2,I3,I4,I5,I6,I7,reduceIte,reduceCtorEq,c,gu,k1,u0,u1,gr,Int.le_refl]
  refine loop7 (fun(g' v2' off':Nat) (cs':List Nat) (ver':Nat) (mp':List (Nat×Nat)) (i:Nat)=>off'<cs'.length∧cs'[off']? =some u∧(cs'.drop (off'+1)).length≤mp'.length∧RJ (Sf su) (fun v=>al v=true) f su.length (mkB su.length mp') (cs'.drop (off'+1)) (fun x=>x=u)∧MpOk (Sf su) (fun v=>al v=true) f su.length mp'∧(∀x y,mlook x mp'=some y→to x=false)∧(u=f∨∃w,mlook u mp'=some w)∧i≤r.length∧(∀k,k<i→∀x,r[k]? =some x→al x.toNat=true→bm (mkB su.length mp') x.toNat)∧(su.length-mp'.length)+(cs'.length-off')≤(su.length-mp.length)+(cs.length-off))
   (fun g' v2' off' cs' ver' mp' i=>[slR f1 o1 f2 o2 .i64 su,p64 f,.func (.func ga) [] ca,.func (.func gt) [] ct,Zj,Zj,Zj,Zj,Zj,.map 0,.ref 1 g' 1 off' (cs'.length-off'),Zj,Zj,Zj,Zj,Zj,Zj,Zj,Zj,Zj,Zj,Zj,Zj,Zj,Zj,Zj,Zj,Zj,Zj,Zj,slI f2 o2 .i64 r,p64 r.length,p64 i,Zj,Zj,Zj,Zj,Zj,Zj,Zj,Zj,Zj,Zj,Zj,Zj,Zj,Zj,Zj,Zj,Zj,Zj,Zj,Zj,Zj,Zj,Zj,Zj,Zj,Zj,Zj,Zj,Zj,Zj,Zj,Zj,Zj,Zj,Zj,Zj,Zj,Zj,Zj,Zj,Zj,Zj,Zj,Zj,Zj,Zj])
   (fun g' v2' off' cs' ver' mp' i=>[.map ver' (mpE mp'),.cells g' v2' ((nI cs').map (PV.int .i64))])
   (fun g' v2' off' cs' ver' mp' i=>r.length-i) g v2 off cs ver mp 0 ⟨hlt,gu,by simpa using hql,j.pop,hm,hto,hum.imp id (fun h=>h.2),by omega,(fun k hk=>by omega),Nat.le_refl _⟩ (by simp only[PW]) rfl ?_
  intro g' v2' off' cs' ver' mp' i ⟨hle',gu',hql',j',hm',hto',hum',hi,hdone,hmea⟩ ih2
  refine q15 (by kernel_rfl) ?_
  simp only[PP,P1,P2,P3,P4,P5,P6,P7,P8,P9,P10,P11,P12,P13,P14,L1,P15,N1,N2,N3,N4,N5,N6,N7,I1,I2,I3,I4,I5,I6,I7,reduceIte,reduceCtorEq]
  have k1':(0:Int)<((cs'.length-off':Nat):Int):=by omega
  refine QIf.intro (fun d=>?_) (fun d=>?_)
  ·have hi':i<r.length:=by omega
   obtain⟨x,gx⟩:=q9 (xs:=r) (k:=i) hi'
   have hx:=hrx x (List.mem_of_getElem? gx)
   obtain⟨a,rfl⟩:∃a:Nat,x=a:=⟨x.toNat,by omega⟩
   have hal:a<su.length:=by omega
   have i0:(0:Int)≤i:=by omega
   have hwk:=q12 (k:=i) (by show _<1000000000000;omega)
   have hS:a∈Sf su u:=by rw[er];exact List.mem_map.2 ⟨_,List.mem_of_getElem? gx,by simp⟩
   have stay:(al a=true→bm (mkB su.length mp') a)→∀k,k<i+1→∀x,r[k]? =some x→al x.toNat=true→bm (mkB su.length mp') x.toNat:=fun h k hk x hx hb=>by
    by_cases e:k=i
    ·subst e;rw[gx]at hx;cases hx;exact h hb
    ·exact hdone k (by omega) x hx hb
   simp only[PP,P1,P2,P3,P4,P5,P6,P7,P8,P9,P10,P11,P12,P13,P14,L1,P15,N1,N2,N3,N4,N5,N6,N7,I1,I2,I3,I4,I5,I6,I7,reduceIte,reduceCtorEq,PS_makeMap,PS_lookup,q46,ZMp_map,ZLook_map,ZMapU_map,plook_st,plook_sf,plook_nt,plook_nf,mpE_find,d,i0,gx]
   cases hml:mlook a mp' with
   | some w=>
    simp only[PP,P1,P2,P3,P4,P5,P6,P7,P8,P9,P10,P11,P12,P13,P14,L1,P15,N1,N2,N3,N4,N5,N6,N7,I1,I2,I3,I4,I5,I6,I7,reduceIte,reduceCtorEq,PS_makeMap,PS_lookup,q46,ZMp_map,ZLook_map,ZMapU_map,plook_st,plook_sf,plook_nt,plook_nf,mpE_find,hml,hwk]
    exact q8 (ih2 g' v2' off' cs' ver' mp' (i+1) ⟨hle',gu',hql',j',hm',hto',hum',hi',stay (fun h=>bm_mkB.2 ⟨hal,w,hml⟩),hmea⟩ (by omega)) (by simp only[PW])
   | none=>
    simp only[PP,P1,P2,P3,P4,P5,P6,P7,P8,P9,P10,P11,P12,P13,P14,L1,P15,N1,N2,N3,N4,N5,N6,N7,I1,I2,I3,I4,I5,I6,I7,reduceIte,reduceCtorEq,PS_makeMap,PS_lookup,q46,ZMp_map,ZLook_map,ZMapU_map,plook_st,plook_sf,plook_nt,plook_nf,mpE_find,hml]
    refine ha a hal _ _ ?_
    cases hA:al a with
    | false=>
     simp only[PP,P1,P2,P3,P4,P5,P6,P7,P8,P9,P10,P11,P12,P13,P14,L1,P15,N1,N2,N3,N4,N5,N6,N7,I1,I2,I3,I4,I5,I6,I7,reduceIte,reduceCtorEq,hwk]
     exact q8 (ih2 g' v2' off' cs' ver' mp' (i+1) ⟨hle',gu',hql',j',hm',hto',hum',hi',stay (fun h=>by rw[hA]at h;cases h),hmea⟩ (by omega)) (by simp only[PW])
    | true=>
     have hput:=mpE_put a u mp' hml
     have hm2:=hm'.push hal hml hS hA hum'
     have hl2:=hm2.len
     rw[List.length_append,List.length_singleton]at hl2
     rw[List.length_drop]at hql'
     have hpc:psub ((nI cs').map (PV.int .i64)) off' (cs'.length-off')++[PV.int .i64 a]=(nI (cs'.drop off'++[a])).map (PV.int .i64):=by simp[psub,List.map_drop,List.take_of_length_le]
     have hd':cs'.drop off'=u::cs'.drop (off'+1):=by
      rw[List.drop_eq_getElem_cons hle'];rw[List.getElem?_eq_getElem hle']at gu';cases gu';rfl
     have hj2:=j'.push (hum'.imp id fun h=>bm_mkB.2 ⟨hu,h⟩) hS hA hal
     rw[mkB_push hal]at hj2
     have hup:∀y,bm (mkB su.length mp') y→bm (mkB su.length (mp'++[(a,u)])) y:=fun y h=>by
      rw[←mkB_push hal];exact(q40 (by rw[mkB_len];exact hal)).2 (.inr h)
     have hme:bm (mkB su.length (mp'++[(a,u)])) a:=by
      rw[←mkB_push hal];exact(q40 (by rw[mkB_len];exact hal)).2 (.inl rfl)
     have hlen:cs'.length-off'+1=(cs'.drop off'++[a]).length-0:=by simp
     simp only[PP,P1,P2,P3,P4,P5,P6,P7,P8,P9,P10,P11,P12,P13,P14,L1,P15,N1,N2,N3,N4,N5,N6,N7,I1,I2,I3,I4,I5,I6,I7,reduceIte,reduceCtorEq,PS_makeMap,PS_lookup,q46,ZMp_map,ZLook_map,ZMapU_map,plook_st,plook_sf,plook_nt,plook_nf,mpE_find,hml,k1',gu',hput,hpc]
     refine⟨⟨by omega,by omega,by omega⟩,ht a hal _ _ ?_⟩
     cases hT:to a with
     | false=>
      simp only[PP,P1,P2,P3,P4,P5,P6,P7,P8,P9,P10,P11,P12,P13,P14,L1,P15,N1,N2,N3,N4,N5,N6,N7,I1,I2,I3,I4,I5,I6,I7,reduceIte,reduceCtorEq,hwk]
      rw[hlen]
      refine q19 (ih2 (g'+1) 0 0 (cs'.drop off'++[a]) (ver'+1) (mp'++[(a,u)]) (i+1) ⟨by simp,by rw[hd'];rfl,by simp;omega,by rw[hd'];exact hj2,hm2,fun x y hxy=>?_,?_,hi',fun k hk x hx hb=>?_,by simp;omega⟩ (by omega)) (by simp only[PW]) (by simp only[nI,List.map_append,List.map_cons,List.map_nil])
      ·rw[mlook_app]at hxy
       cases hq:mlook x mp' with
       | some z=>exact hto' x z hq
       | none=>
        rw[hq]at hxy
        by_cases e:x=a
        ·subst e;exact hT
        ·simp[e]at hxy
      ·refine hum'.imp id fun⟨w,hw⟩=>⟨w,by rw[mlook_app,hw]⟩
      ·by_cases e:k=i
       ·subst e;rw[gx]at hx;cases hx;exact hme
       ·exact hup _ (hdone k (by omega) x hx hb)
     | true=>
      have hl9:mlook a (mp'++[(a,u)])=some u:=by rw[mlook_app,hml];simp
      have hix:(mp'++[(a,u)])[mp'.length]? =some (a,u):=by simp
      have hl3:=hm2.len
      simp only[PP,P1,P2,P3,P4,P5,P6,P7,P8,P9,P10,P11,P12,P13,P14,L1,P15,N1,N2,N3,N4,N5,N6,N7,I1,I2,I3,I4,I5,I6,I7,reduceIte,reduceCtorEq,PS_makeMap,PS_lookup,q46,ZMp_map,ZLook_map,ZMapU_map,plook_st,plook_sf,plook_nt,plook_nf,mpE_find,hl9]
      revert hix hm2 hl3
      generalize mp'++[(a,u)]=mp2
      intro hm2 hix hl3
      obtain⟨jb,hb⟩:=BackI.start hm2 hix
      refine q41 (GStep.nil 15 1 rfl rfl rfl) ?_
      refine loop5 (fun(gg vv:Nat) (l:List Nat) (v j:Nat)=>BackI (Sf su) (fun v=>al v=true) f a mp2 v l j)
       (fun gg vv l v j=>[Zj,p64 f,Zj,Zj,Zj,Zj,Zj,Zj,Zj,.map 0,Zj,Zj,Zj,Zj,Zj,.ref 2 gg 1 0 l.length,p64 v,Zj,Zj,Zj,Zj,Zj,Zj,Zj,Zj,Zj,Zj,Zj,Zj,Zj,Zj,Zj,Zj,Zj,Zj,Zj,Zj,Zj,Zj,Zj,Zj,Zj,Zj,Zj,Zj,Zj,Zj,Zj,Zj,Zj,Zj,Zj,Zj,Zj,Zj,Zj,Zj,Zj,Zj,Zj,Zj,Zj,Zj,Zj,Zj,Zj,Zj,Zj,Zj,Zj,Zj,Zj,Zj,Zj,Zj,Zj,Zj,Zj,Zj])
       (fun gg vv l v j=>[.map (ver'+1) (mpE mp2),.cells (g'+1) 0 ((nI (cs'.drop off')).map (PV.int .i64)++[PV.int .i64 (a:Int)]),.cells gg vv ((nI l).map (PV.int .i64))])
       (fun gg vv l v j=>if v=f then 0 else j+1) 0 0 [] u jb hb (by simp only[PP,P1,P2,P3,P4,P5,P6,P7,P8,P9,P10,P11,P12,P13,P14,L1,P15,N1,N2,N3,N4,N5,N6,N7,I1,I2,I3,I4,I5,I6,I7,reduceIte,reduceCtorEq,PW,Int.cast_ofNat_Int]) (by simp only[PP,P1,P2,P3,P4,P5,P6,P7,P8,P9,P10,P11,P12,P13,P14,L1,P15,N1,N2,N3,N4,N5,N6,N7,I1,I2,I3,I4,I5,I6,I7,reduceIte,reduceCtorEq]) ?_
      intro gg vv l v jj hbk ih3
      refine q15 (by kernel_rfl) ?_
      have hln:=hbk.ln0
      have hps:psub ((nI l).map (PV.int .i64)) 0 l.length=(nI l).map (PV.int .i64):=q49 _ _ (by simp)
      have c8:(l.length+1)*8≤140737488355328:=by omega
      have c1:l.length+1≤9223372036854775807:=by omega
      simp only[PP,P1,P2,P3,P4,P5,P6,P7,P8,P9,P10,P11,P12,P13,P14,L1,P15,N1,N2,N3,N4,N5,N6,N7,I1,I2,I3,I4,I5,I6,I7,reduceIte,reduceCtorEq,PS_makeMap,PS_lookup,q46,ZMp_map,ZLook_map,ZMapU_map,plook_st,plook_sf,plook_nt,plook_nf,mpE_find,hps,c8,c1]
      have hcat:(nI l).map (PV.int .i64)++[PV.int .i64 (v:Int)]=(nI (l++[v])).map (PV.int .i64):=by simp[nI]
      have hcl:l.length+1=(nI (l++[v])).length:=by simp
      refine QIf.intro (fun e=>?_) (fun e=>?_)
      ·have e:v=f:=by omega
       rw[e]at hcat hcl
       simp only[PP,P1,P2,P3,P4,P5,P6,P7,P8,P9,P10,P11,P12,P13,P14,L1,P15,N1,N2,N3,N4,N5,N6,N7,I1,I2,I3,I4,I5,I6,I7,reduceIte,reduceCtorEq,PS_makeMap,PS_lookup,q46,ZMp_map,ZLook_map,ZMapU_map,plook_st,plook_sf,plook_nt,plook_nf,mpE_find,e]
       rw[hcat,hcl]
       refine reverse_p T (by simp;omega) fun v'=>?_
       have hfin:=hk2 l.reverse a hal hT hA (by rw[←e];exact hbk.ch) (by simp;omega)
       rw[show(nI (l++[f])).reverse=nI (f::l.reverse) by simp[nI]]
       simp only[PP,P1,P2,P3,P4,P5,P6,P7,P8,P9,P10,P11,P12,P13,P14,L1,P15,N1,N2,N3,N4,N5,N6,N7,I1,I2,I3,I4,I5,I6,I7,reduceIte,reduceCtorEq,PS_makeMap,PS_lookup,q46,ZMp_map,ZLook_map,ZMapU_map,plook_st,plook_sf,plook_nt,plook_nf,mpE_find]
       rw[frzO_cells (by simp) (by rw[←List.map_cons];exact q16 _ _ _),Nat.mul_one,q49 _ _ (by simp)]
       simp only[PP,P1,P2,P3,P4,P5,P6,P7,P8,P9,P10,P11,P12,P13,P14,L1,P15,N1,N2,N3,N4,N5,N6,N7,I1,I2,I3,I4,I5,I6,I7,reduceIte,reduceCtorEq]
       simpa [slI,nI] using hfin
      ·have e':v≠f:=by omega
       obtain⟨w,hw,j2,hb2,hj2⟩:=hbk.step hm2 e'
       simp only[PP,P1,P2,P3,P4,P5,P6,P7,P8,P9,P10,P11,P12,P13,P14,L1,P15,N1,N2,N3,N4,N5,N6,N7,I1,I2,I3,I4,I5,I6,I7,reduceIte,reduceCtorEq,PS_makeMap,PS_lookup,q46,ZMp_map,ZLook_map,ZMapU_map,plook_st,plook_sf,plook_nt,plook_nf,mpE_find,e,hw]
       rw[hcat,show l.length+1=(l++[v]).length by simp]
       exact q19 (ih3 (gg+1) 0 (l++[v]) w j2 hb2 (by rw[if_neg e'];split<;>omega)) (by simp only[PW]) rfl
  ·have hir:i=r.length:=by omega
   have k2:(1:Int)≤((cs'.length-off':Nat):Int):=by omega
   have k3:(((cs'.length-off':Nat):Int)-1).toNat=cs'.length-(off'+1):=by omega
   simp only[PP,P1,P2,P3,P4,P5,P6,P7,P8,P9,P10,P11,P12,P13,P14,L1,P15,N1,N2,N3,N4,N5,N6,N7,I1,I2,I3,I4,I5,I6,I7,reduceIte,reduceCtorEq,d,k2,k3,Int.le_refl]
   refine q8 (ih g' v2' (off'+1) cs' ver' mp' ⟨by omega,by omega,j'.close fun y hy hq=>?_,hm',hto'⟩ (by omega)) (by simp only[PW])
   rw[er]at hy
   obtain⟨x,hx,rfl⟩:=List.mem_map.1 hy
   obtain⟨k,hk,e⟩:=List.mem_iff_getElem.1 hx
   exact hdone k (by omega) x (by rw[List.getElem?_eq_getElem hk,e]) hq
 ·have hd:cs.drop off=[]:=List.drop_eq_nil_of_le (by omega)
  rw[hd]at j
  simp only[PP,P1,P2,P3,P4,P5,P6,P7,P8,P9,P10,P11,P12,P13,P14,L1,P15,N1,N2,N3,N4,N5,N6,N7,I1,I2,I3,I4,I5,I6,I7,reduceIte,reduceCtorEq,c]
  refine q24 ?_
  simp only[PP,P1,P2,P3,P4,P5,P6,P7,P8,P9,P10,P11,P12,P13,P14,L1,P15,N1,N2,N3,N4,N5,N6,N7,I1,I2,I3,I4,I5,I6,I7,reduceIte,reduceCtorEq]
  refine hk1 fun x hx h1 h2=>?_
  obtain⟨_,y,hy⟩:=bm_mkB.1 ((j.fin x).2 h2)
  rw[hto x y hy]at h1;cases h1
end
end Go.Am.Ar

