/- Plain: values of plays and their order, and what goes with it. -/
import Derived.Test.YtgapkfaikhlipaaPmR
import Derived.Test.YtgapkfaikhlipaaImproveValuationMatchesCode
set_option linter.unusedVariables false
set_option linter.unusedSimpArgs false
namespace Go.Am.Ar
open Go.Am.PV renaming junk→Zj
def cmp3 (a b:Int):Int:=if a<b then-1 else if b<a then 1 else 0
theorem cmp3_lt {a b:Int} (h:a<b):cmp3 a b= -1:=if_pos h
theorem cmp3_gt {a b:Int} (h:b<a):cmp3 a b=1:=by unfold cmp3;rw[if_neg (by omega),if_pos h]
theorem cmp3_eq {a b:Int} (h:a=b):cmp3 a b=0:=by unfold cmp3;rw[if_neg (by omega),if_neg (by omega)]
theorem q45 (a b:Int):(a<b∧cmp3 a b= -1)∨(a=b∧cmp3 a b=0)∨(b<a∧cmp3 a b=1):=by
 rcases Int.lt_trichotomy a b with h | h | h
 ·exact .inl ⟨h,cmp3_lt h⟩
 ·exact .inr (.inl ⟨h,cmp3_eq h⟩)
 ·exact .inr (.inr ⟨h,cmp3_gt h⟩)
structure Ord3 {α:Type} (f:α→α→Int):Prop where
 rng:∀a b,f a b= -1∨f a b=0∨f a b=1
 anti:∀a b,f b a= -f a b
 tr:∀a b c,f a b≤0→f b c≤0→f a c≤0
theorem Ord3.self {α:Type} {f:α→α→Int} (h:Ord3 f) (a:α):f a a=0:=by have:=h.anti a a;omega
theorem Ord3.zeroL {α:Type} {f:α→α→Int} (h:Ord3 f) {a b:α} (e:f a b=0) (c:α):f a c=f b c:=by
 have e':=h.anti a b
 have r1:=h.rng a c;have r2:=h.rng b c
 have t1:=h.tr a b c (by omega);have t2:=h.tr b a c (by omega)
 have a1:=h.anti a c;have a2:=h.anti b c
 have t3:=h.tr c a b;have t4:=h.tr c b a
 omega
theorem Ord3.zeroR {α:Type} {f:α→α→Int} (h:Ord3 f) {a b:α} (e:f a b=0) (c:α):f c a=f c b:=by
 rw[h.anti a c,h.anti b c,h.zeroL e c]
theorem Ord3.same {α:Type} {f:α→α→Int} (h:Ord3 f) {a b c:α} (e:f a b=f b c):f a c=f a b:=by
 have r1:=h.rng a b;have r2:=h.rng a c
 have t1:=h.tr a b c;have t2:=h.tr c b a
 have a1:=h.anti a b;have a2:=h.anti b c;have a3:=h.anti a c
 have t3:=h.tr c a b;have t4:=h.tr b c a;have t5:=h.tr b a c;have t6:=h.tr a c b
 omega
def lex3 {α:Type} (f g:α→α→Int) (a b:α):Int:=if f a b≠0 then f a b else g a b
theorem Ord3.lex {α:Type} {f g:α→α→Int} (h:Ord3 f) (rng:∀a b,g a b= -1∨g a b=0∨g a b=1) (anti:∀a b,f a b=0→g b a= -g a b)
  (tr:∀a b c,f a b=0→f b c=0→g a b≤0→g b c≤0→g a c≤0):Ord3 (lex3 f g):=by
 refine⟨fun a b=>?_,fun a b=>?_,fun a b c=>?_⟩
 ·unfold lex3;split
  ·exact h.rng a b
  ·exact rng a b
 ·have e:=h.anti a b
  unfold lex3
  by_cases h0:f a b=0
  ·rw[if_neg (by omega),if_neg (by omega),anti a b h0]
  ·rw[if_pos (by omega),if_pos h0,e]
 ·unfold lex3
  intro h1 h2
  by_cases z1:f a b=0
  ·rw[if_neg (by omega)]at h1
   have e1:=h.zeroL z1 c
   by_cases z2:f b c=0
   ·rw[if_neg (by omega)]at h2
    rw[if_neg (by omega)]
    exact tr a b c z1 z2 h1 h2
   ·rw[if_pos z2]at h2
    rw[if_pos (by omega)];omega
  ·rw[if_pos z1]at h1
   by_cases z2:f b c=0
   ·rw[if_neg (by omega)]at h2
    have e1:=h.zeroR z2 a
    rw[if_pos (by omega)];omega
   ·rw[if_pos z2]at h2
    have t1:=h.tr a b c h1 h2
    have t2:=h.tr b c a h2
    have a1:=h.anti a c;have a2:=h.anti a b
    rw[if_pos (by intro e;omega)];exact t1
theorem ord3_cmp:Ord3 cmp3:=by
 refine⟨fun a b=>?_,fun a b=>?_,fun a b c=>?_⟩
 ·rcases q45 a b with⟨_,h⟩ | ⟨_,h⟩ | ⟨_,h⟩<;>omega
 ·rcases q45 a b with⟨h0,h⟩ | ⟨h0,h⟩ | ⟨h0,h⟩
  ·rw[h,cmp3_gt h0];rfl
  ·rw[h,cmp3_eq h0.symm];rfl
  ·rw[h,cmp3_lt h0]
 ·rcases q45 a b with⟨h0,h⟩ | ⟨h0,h⟩ | ⟨h0,h⟩<;>rcases q45 b c with⟨h2,h3⟩ | ⟨h2,h3⟩ | ⟨h2,h3⟩<;>rcases q45 a c with⟨h4,h5⟩ | ⟨h4,h5⟩ | ⟨h4,h5⟩<;>omega
theorem Ord3.comap {α β:Type} {f:α→α→Int} (h:Ord3 f) (k:β→α):Ord3 (fun a b=>f (k a) (k b)):=⟨fun a b=>h.rng _ _,fun a b=>h.anti _ _,fun a b c=>h.tr _ _ _⟩
def prI (pr:List Int) (v:Int):Int:=pr.getD v.toNat 0
def relI (pr:List Int) (u v:Int):Int:=lex3 (fun a b=>cmp3 (prI pr a) (prI pr b)) cmp3 u v
theorem q18 (pr:List Int):Ord3 (relI pr):=
 (ord3_cmp.comap (prI pr)).lex (ord3_cmp.rng) (fun a b _=>ord3_cmp.anti a b) (fun a b c _ _=>ord3_cmp.tr a b c)
theorem relI_zero {pr:List Int} {u v:Int} :relI pr u v=0↔u=v:=by
 constructor
 ·intro h
  unfold relI lex3 at h
  split at h
  ·rename_i h1;exact absurd h h1
  ·rcases q45 u v with⟨_,e⟩ | ⟨e,_⟩ | ⟨_,e⟩<;>omega
 ·rintro rfl;exact(q18 pr).self u
def sgI (pr:List Int) (v:Int):Int:=1-(prI pr v).tmod 2*2
theorem sgI_cases {pr:List Int} {v:Int} (h:0≤prI pr v):(sgI pr v=1∧(prI pr v) % 2=0)∨(sgI pr v= -1∧(prI pr v) % 2=1):=by
 unfold sgI
 rw[Int.tmod_eq_emod_of_nonneg h]
 omega
structure Vl where
 cy:Int
 se:List Int
 st:Int
def cycI (pr:List Int) (a b:Vl):Int:=if sgI pr a.cy≠sgI pr b.cy then sgI pr a.cy else sgI pr a.cy*relI pr a.cy b.cy
def seenF (pr:List Int) (other:List Int) (s:Int):Int×Int→List Int→Int×Int
 | acc,[]=>acc
 | acc,v::l=>seenF pr other s (if v∉other∧(acc.1<0∨0<relI pr v acc.1) then(v,s) else acc) l
def seenX (pr:List Int) (a b:List Int):Int×Int:=seenF pr a (-1) (seenF pr b 1 (-1,0) a) b
def seenI (pr:List Int) (a b:List Int):Int:=if(seenX pr a b).1<0 then 0 else(seenX pr a b).2*sgI pr (seenX pr a b).1
def stepI (pr:List Int) (a b:Vl):Int:=sgI pr a.cy*cmp3 b.st a.st
def ordI (pr:List Int) (a b:Vl):Int:=lex3 (cycI pr) (lex3 (fun a b=>seenI pr a.se b.se) (stepI pr)) a b
def SeenS (pr:List Int) (a b:List Int) (r:Int):Prop:=
 ((∀v,v∈a↔v∈b)∧r=0)∨∃x,((x∈a∧x∉b∧r=sgI pr x)∨(x∈b∧x∉a∧r= -sgI pr x))∧∀v,(v∈a∧v∉b)∨(v∈b∧v∉a)→relI pr v x≤0
def SeenM (pr:List Int) (A B:Int→Prop) (acc:Int×Int):Prop:=
 (acc.1<0∧(∀v,¬A v)∧∀v,¬B v)∨(0≤acc.1∧((A acc.1∧acc.2=1)∨(B acc.1∧acc.2= -1))∧∀v,A v∨B v→relI pr v acc.1≤0)
theorem seenM_a {pr other:List Int} {B:Int→Prop} :∀(l done:List Int) (acc:Int×Int),(∀v∈l,0≤v)→SeenM pr (fun v=>v∈done∧v∉other) B acc→SeenM pr (fun v=>v∈done++l∧v∉other) B (seenF pr other 1 acc l)
 | [],done,acc,_,h=>by simpa [seenF] using h
 | v::l,done,acc,hp,h=>by
  unfold seenF
  have:=seenM_a (pr:=pr) (other:=other) (B:=B) l (done++[v]) (if v∉other∧(acc.1<0∨0<relI pr v acc.1) then(v,1) else acc) (fun x hx=>hp x (List.mem_cons_of_mem _ hx)) ?_
  ·simpa [List.append_assoc] using this
  have hv:=hp v (List.mem_cons_self ..)
  split
  ·rename_i c
   obtain⟨c1,c2⟩:=c
   refine .inr ⟨hv,.inl ⟨⟨by simp,c1⟩,rfl⟩,fun u hu=>?_⟩
   rcases h with⟨h1,h2,h3⟩ | ⟨h1,h2,h3⟩
   ·rcases hu with⟨hu,hn⟩ | hu
    ·simp only[List.mem_append,List.mem_singleton]at hu
     rcases hu with hu | rfl
     ·exact absurd ⟨hu,hn⟩ (h2 u)
     ·rw[(q18 pr).self];exact Int.le_refl _
    ·exact absurd hu (h3 u)
   ·have c2:0<relI pr v acc.1:=by rcases c2 with c2 | c2;omega;exact c2
    have hle:∀u,relI pr u acc.1≤0→relI pr u v≤0:=fun u hu=>(q18 pr).tr u acc.1 v hu (by have:=(q18 pr).anti v acc.1;omega)
    rcases hu with⟨hu,hn⟩ | hu
    ·simp only[List.mem_append,List.mem_singleton]at hu
     rcases hu with hu | rfl
     ·exact hle u (h3 u (.inl ⟨hu,hn⟩))
     ·rw[(q18 pr).self];exact Int.le_refl _
    ·exact hle u (h3 u (.inr hu))
  ·rename_i c
   rcases h with⟨h1,h2,h3⟩ | ⟨h1,h2,h3⟩
   ·refine .inl ⟨h1,fun u ⟨hu,hn⟩=>?_,h3⟩
    simp only[List.mem_append,List.mem_singleton]at hu
    rcases hu with hu | rfl
    ·exact h2 u ⟨hu,hn⟩
    ·exact c ⟨hn,.inl h1⟩
   ·refine .inr ⟨h1,?_,fun u hu=>?_⟩
    ·rcases h2 with⟨⟨g1,g2⟩,g3⟩ | g
     ·exact .inl ⟨⟨by simp[g1],g2⟩,g3⟩
     ·exact .inr g
    ·rcases hu with⟨hu,hn⟩ | hu
     ·simp only[List.mem_append,List.mem_singleton]at hu
      rcases hu with hu | rfl
      ·exact h3 u (.inl ⟨hu,hn⟩)
      ·exact Int.not_lt.1 fun hh=>c ⟨hn,.inr hh⟩
     ·exact h3 u (.inr hu)
theorem SeenM.swap {pr:List Int} {A B:Int→Prop} {x s:Int} (h:SeenM pr A B (x,s)):SeenM pr B A (x,-s):=by
 rcases h with⟨h1,h2,h3⟩ | ⟨h1,h2,h3⟩
 ·exact .inl ⟨h1,h3,h2⟩
 ·refine .inr ⟨h1,?_,fun v hv=>h3 v hv.symm⟩
  rcases h2 with⟨g1,g2⟩ | ⟨g1,g2⟩
  ·exact .inr ⟨g1,by simp only at g2 ⊢;omega⟩
  ·exact .inl ⟨g1,by simp only at g2 ⊢;omega⟩
theorem seenF_neg {pr other:List Int} {s:Int} :∀(l:List Int) (x q:Int),seenF pr other s (x,q) l=((seenF pr other (-s) (x,-q) l).1,-(seenF pr other (-s) (x,-q) l).2)
 | [],x,q=>by simp[seenF]
 | v::l,x,q=>by
  unfold seenF
  simp only
  by_cases c:v∉other∧(x<0∨0<relI pr v x)
  ·rw[if_pos c,if_pos c];exact seenF_neg l v s
  ·rw[if_neg c,if_neg c];exact seenF_neg l x q
theorem q51 {pr a b:List Int} (ha:∀v∈a,0≤v) (hb:∀v∈b,0≤v):SeenS pr a b (seenI pr a b):=by
 have h1:SeenM pr (fun v=>v∈a∧v∉b) (fun _=>False) (seenF pr b 1 (-1,0) a):=by
  have:=seenM_a (pr:=pr) (other:=b) (B:=fun _=>False) a [] (-1,0) ha (.inl ⟨by decide,fun v h=>by simp at h,fun v h=>h⟩)
  simpa using this
 have h2:SeenM pr (fun v=>v∈a∧v∉b) (fun v=>v∈b∧v∉a) (seenX pr a b):=by
  unfold seenX
  generalize seenF pr b 1 (-1,0) a=acc at h1 ⊢
  obtain⟨x,q⟩:=acc
  rw[seenF_neg]
  refine SeenM.swap ?_
  have h0:SeenM pr (fun v=>v∈([]:List Int)∧v∉a) (fun v=>v∈a∧v∉b) (x,-q):=by
   have:=h1.swap
   rcases this with⟨g1,g2,g3⟩ | ⟨g1,g2,g3⟩
   ·exact .inl ⟨g1,fun v h=>by simp at h,g3⟩
   ·refine .inr ⟨g1,?_,fun v hv=>g3 v ?_⟩
    ·rcases g2 with⟨g,_⟩ | g
     ·exact g.elim
     ·exact .inr g
    ·rcases hv with⟨h,_⟩ | h
     ·simp at h
     ·exact .inr h
  have:=seenM_a b [] (x,-q) hb h0
  simpa using this
 unfold seenI
 rcases h2 with⟨g1,g2,g3⟩ | ⟨g1,g2,g3⟩
 ·rw[if_pos g1]
  refine .inl ⟨fun v=>⟨fun h=>?_,fun h=>?_⟩,rfl⟩
  ·exact Classical.byContradiction fun hn=>g2 v ⟨h,hn⟩
  ·exact Classical.byContradiction fun hn=>g3 v ⟨h,hn⟩
 ·rw[if_neg (by omega)]
  refine .inr ⟨(seenX pr a b).1,?_,g3⟩
  rcases g2 with⟨⟨p1,p2⟩,p3⟩ | ⟨⟨p1,p2⟩,p3⟩
  ·exact .inl ⟨p1,p2,by rw[p3];omega⟩
  ·exact .inr ⟨p1,p2,by rw[p3];omega⟩
theorem SeenS.fun {pr a b:List Int} {r q:Int} (h1:SeenS pr a b r) (h2:SeenS pr a b q):r=q:=by
 rcases h1 with⟨e1,rfl⟩ | ⟨x,hx,mx⟩
 ·rcases h2 with⟨e2,rfl⟩ | ⟨y,hy,my⟩
  ·rfl
  ·rcases hy with⟨p,q,_⟩ | ⟨p,q,_⟩
   ·exact absurd ((e1 y).1 p) q
   ·exact absurd ((e1 y).2 p) q
 ·rcases h2 with⟨e2,rfl⟩ | ⟨y,hy,my⟩
  ·rcases hx with⟨p,q,_⟩ | ⟨p,q,_⟩
   ·exact absurd ((e2 x).1 p) q
   ·exact absurd ((e2 x).2 p) q
  ·have e:x=y:=by
    have a1:=my x (by rcases hx with⟨p,q,_⟩ | ⟨p,q,_⟩;exact .inl ⟨p,q⟩;exact .inr ⟨p,q⟩)
    have a2:=mx y (by rcases hy with⟨p,q,_⟩ | ⟨p,q,_⟩;exact .inl ⟨p,q⟩;exact .inr ⟨p,q⟩)
    have a3:=(q18 pr).anti x y
    exact(relI_zero (pr:=pr)).1 (by omega)
   subst e
   rcases hx with⟨p,q,e1⟩ | ⟨p,q,e1⟩<;>rcases hy with⟨p2,q2,e2⟩ | ⟨p2,q2,e2⟩
   ·rw[e1,e2]
   ·exact absurd p q2
   ·exact absurd p q2
   ·rw[e1,e2]
theorem SeenS.swap {pr a b:List Int} {r:Int} (h:SeenS pr a b r):SeenS pr b a (-r):=by
 rcases h with⟨e,rfl⟩ | ⟨x,hx,mx⟩
 ·exact .inl ⟨fun v=>(e v).symm,rfl⟩
 ·refine .inr ⟨x,?_,fun v hv=>mx v hv.symm⟩
  rcases hx with⟨p,q,e⟩ | ⟨p,q,e⟩
  ·exact .inr ⟨p,q,by omega⟩
  ·exact .inl ⟨p,q,by omega⟩
theorem q29 {pr:List Int} (hp:∀v,0≤prI pr v) (v:Int):sgI pr v=1∨sgI pr v= -1:=by
 rcases sgI_cases (hp v) with⟨h,_⟩ | ⟨h,_⟩
 ·exact .inl h
 ·exact .inr h
theorem ord3_cyc {pr:List Int} (hp:∀v,0≤prI pr v):Ord3 (cycI pr):=by
 refine⟨fun a b=>?_,fun a b=>?_,fun a b c=>?_⟩
 ·have r:=(q18 pr).rng a.cy b.cy
  unfold cycI
  rcases q29 hp a.cy with h1 | h1<;>rcases q29 hp b.cy with h2 | h2<;>rw[h1,h2]<;>simp<;>omega
 ·have r:=(q18 pr).anti a.cy b.cy
  unfold cycI
  rcases q29 hp a.cy with h1 | h1<;>rcases q29 hp b.cy with h2 | h2<;>rw[h1,h2]<;>simp<;>omega
 ·have t:=(q18 pr).tr a.cy b.cy c.cy
  have t2:=(q18 pr).tr c.cy b.cy a.cy
  have a1:=(q18 pr).anti a.cy b.cy
  have a2:=(q18 pr).anti b.cy c.cy
  have a3:=(q18 pr).anti a.cy c.cy
  unfold cycI
  rcases q29 hp a.cy with h1 | h1<;>rcases q29 hp b.cy with h2 | h2<;>rcases q29 hp c.cy with h3 | h3<;>rw[h1,h2,h3]<;>simp<;>omega
theorem cycI_zero {pr:List Int} (hp:∀v,0≤prI pr v) {a b:Vl} :cycI pr a b=0↔a.cy=b.cy:=by
 constructor
 ·intro h
  unfold cycI at h
  apply(relI_zero (pr:=pr)).1
  rcases q29 hp a.cy with h1 | h1<;>rcases q29 hp b.cy with h2 | h2<;>rw[h1,h2]at h<;>simp at h<;>omega
 ·intro h
  unfold cycI
  rw[h,(q18 pr).self];simp
abbrev Nn (l:List Int):Prop:=∀v∈l,(0:Int)≤v
theorem SeenS.congr {pr a b a' b':List Int} {r:Int} (ha:∀v,v∈a↔v∈a') (hb:∀v,v∈b↔v∈b') (h:SeenS pr a b r):SeenS pr a' b' r:=by
 unfold SeenS at*
 simpa only[ha,hb] using h
theorem SeenS.rng {pr a b:List Int} {r:Int} (hp:∀v,0≤prI pr v) (h:SeenS pr a b r):r= -1∨r=0∨r=1:=by
 rcases h with⟨_,rfl⟩ | ⟨x,hx,_⟩
 ·exact .inr (.inl rfl)
 ·rcases q29 hp x with e | e<;>rcases hx with⟨_,_,h⟩ | ⟨_,_,h⟩<;>omega
theorem SeenS.tr {pr a b c:List Int} {r q:Int} (hp:∀v,0≤prI pr v) (h1:SeenS pr a b r) (h2:SeenS pr b c q) (hr:r≤0) (hq:q≤0):∃s,SeenS pr a c s∧s≤0:=by
 by_cases z1:∀v,v∈a↔v∈b
 ·exact⟨q,h2.congr (fun v=>(z1 v).symm) (fun _=>Iff.rfl),hq⟩
 by_cases z2:∀v,v∈b↔v∈c
 ·exact⟨r,h1.congr (fun _=>Iff.rfl) z2,hr⟩
 rcases h1 with⟨e,_⟩ | ⟨x,hx,mx⟩
 ·exact absurd e z1
 rcases h2 with⟨e,_⟩ | ⟨y,hy,my⟩
 ·exact absurd e z2
 have hsx:=q29 hp x
 have hsy:=q29 hp y
 have split:∀v,(v∈a∧v∉c)∨(v∈c∧v∉a)→((v∈a∧v∉b)∨(v∈b∧v∉a))∨((v∈b∧v∉c)∨(v∈c∧v∉b)):=fun v hv=>by
  by_cases hb:v∈b<;>rcases hv with⟨h1,h2⟩ | ⟨h1,h2⟩<;>simp[h1,h2,hb]
 have an:=(q18 pr).anti x y
 rcases(q18 pr).rng x y with e | e | e
 ·--y is the more relevant
  have hya:y∈a↔y∈b:=by
   by_cases h1:y∈a<;>by_cases h2:y∈b<;>simp only[h1,h2]
   ·have:=mx y (.inl ⟨h1,h2⟩);omega
   ·have:=mx y (.inr ⟨h2,h1⟩);omega
  refine⟨q,.inr ⟨y,?_,fun v hv=>?_⟩,hq⟩
  ·rw[hya];exact hy
  ·rcases split v hv with h | h
   ·exact(q18 pr).tr v x y (mx v h) (by omega)
   ·exact my v h
 ·have e:=relI_zero.1 e
  subst e
  rcases hx with⟨p1,p2,p3⟩ | ⟨p1,p2,p3⟩<;>rcases hy with⟨q1,q2,q3⟩ | ⟨q1,q2,q3⟩
  ·exact absurd q1 p2
  ·omega
  ·omega
  ·exact absurd p1 q2
 ·have hxc:x∈c↔x∈b:=by
   by_cases h1:x∈c<;>by_cases h2:x∈b<;>simp only[h1,h2]
   ·have:=my x (.inr ⟨h1,h2⟩);omega
   ·have:=my x (.inl ⟨h2,h1⟩);omega
  refine⟨r,.inr ⟨x,?_,fun v hv=>?_⟩,hr⟩
  ·rw[hxc];exact hx
  ·rcases split v hv with h | h
   ·exact mx v h
   ·exact(q18 pr).tr v y x (my v h) (by omega)
abbrev Vn:Type:={x:Vl // Nn x.se}
theorem ord3_ord {pr:List Int} (hp:∀v,0≤prI pr v):Ord3 (fun a b:Vn=>ordI pr a.1 b.1):=by
 have hs:Ord3 (fun a b:Vn=>seenI pr a.1.se b.1.se):=by
  refine⟨fun a b=>(q51 a.2 b.2).rng hp,fun a b=>(q51 b.2 a.2).fun (q51 a.2 b.2).swap,fun a b c h1 h2=>?_⟩
  obtain⟨s,g1,g2⟩:=(q51 (pr:=pr) a.2 b.2).tr hp (q51 b.2 c.2) h1 h2
  rw[(q51 a.2 c.2).fun g1];exact g2
 have hin:∀(f:Vn→Vn→Int),True:=fun _=>trivial
 have hst:∀a b:Vn,stepI pr a.1 b.1= -1∨stepI pr a.1 b.1=0∨stepI pr a.1 b.1=1:=fun a b=>by
  unfold stepI
  rcases q29 hp a.1.cy with h | h<;>rw[h]<;>have:=ord3_cmp.rng b.1.st a.1.st<;>omega
 have hl:∀a b:Vn,lex3 (fun a b:Vl=>seenI pr a.se b.se) (stepI pr) a.1 b.1=lex3 (fun a b:Vn=>seenI pr a.1.se b.1.se) (fun a b=>stepI pr a.1 b.1) a b:=fun a b=>rfl
 have hsub:∀a b:Vn,ordI pr a.1 b.1=lex3 (fun a b:Vn=>cycI pr a.1 b.1) (lex3 (fun a b:Vn=>seenI pr a.1.se b.1.se) (fun a b=>stepI pr a.1 b.1)) a b:=fun a b=>rfl
 have hcy:=(ord3_cyc hp).comap (fun a:Vn=>a.1)
 have hstA:∀a b:Vn,a.1.cy=b.1.cy→stepI pr b.1 a.1= -stepI pr a.1 b.1:=fun a b e=>by
  unfold stepI
  rw[←e]
  have:=ord3_cmp.anti b.1.st a.1.st
  rcases q29 hp a.1.cy with h | h<;>rw[h]<;>omega
 have hstT:∀a b c:Vn,a.1.cy=b.1.cy→b.1.cy=c.1.cy→stepI pr a.1 b.1≤0→stepI pr b.1 c.1≤0→stepI pr a.1 c.1≤0:=fun a b c e1 e2=>by
  unfold stepI
  rw[←e1]
  have t1:=ord3_cmp.tr c.1.st b.1.st a.1.st
  have t2:=ord3_cmp.tr a.1.st b.1.st c.1.st
  have a1:=ord3_cmp.anti b.1.st a.1.st
  have a2:=ord3_cmp.anti c.1.st b.1.st
  have a3:=ord3_cmp.anti c.1.st a.1.st
  rcases q29 hp a.1.cy with h | h<;>rw[h]<;>omega
 have key:Ord3 (lex3 (fun a b:Vn=>cycI pr a.1 b.1) (lex3 (fun a b:Vn=>seenI pr a.1.se b.1.se) (fun a b=>stepI pr a.1 b.1))):=by
  refine hcy.lex (fun a b=>?_) (fun a b e=>?_) (fun a b c e1 e2=>?_)
  ·unfold lex3;split
   ·exact hs.rng a b
   ·exact hst a b
  ·have e:=(cycI_zero hp).1 e
   have h1:=hs.anti a b
   have h2:=hstA a b e
   unfold lex3
   simp only at*
   split<;>split<;>omega
  ·have e1:=(cycI_zero hp).1 e1
   have e2:=(cycI_zero hp).1 e2
   have t0:=hstT a b c e1 e2
   have t1:=hs.tr a b c;have t2:=hs.tr b c a;have t3:=hs.tr c a b
   have a1:=hs.anti a b;have a2:=hs.anti b c;have a3:=hs.anti a c
   have t4:=hs.tr b a c;have t5:=hs.tr a c b;have t6:=hs.tr c b a
   unfold lex3
   simp only at*
   intro h1 h2
   split at h1<;>split at h2<;>split<;>omega
 refine⟨fun a b=>?_,fun a b=>?_,fun a b c=>?_⟩
 ·rw[hsub];exact key.rng a b
 ·rw[hsub,hsub];exact key.anti a b
 ·rw[hsub,hsub,hsub];exact key.tr a b c
def Rise:Int→List Int→Prop
 | _,[]=>True
 | k,v::l=>k<v∧Rise v l
theorem Rise.lt:∀{l:List Int} {k v:Int},Rise k l→v∈l→k<v
 | x::l,k,v,h,hv=>by
  rcases List.mem_cons.1 hv with rfl | hv
  ·exact h.1
  ·have:=Rise.lt h.2 hv;have:=h.1;omega
theorem Rise.ext:∀{a b:List Int} {k:Int},Rise k a→Rise k b→(∀v,v∈a↔v∈b)→a=b
 | [],[],_,_,_,_=>rfl
 | [],y::b,_,_,_,h=>absurd ((h y).2 (List.mem_cons_self ..)) (by simp)
 | x::a,[],_,_,_,h=>absurd ((h x).1 (List.mem_cons_self ..)) (by simp)
 | x::a,y::b,k,ha,hb,h=>by
  have h1:=(h x).1 (List.mem_cons_self ..)
  have h2:=(h y).2 (List.mem_cons_self ..)
  have e:x=y:=by
   rcases List.mem_cons.1 h1 with e | e
   ·exact e
   ·rcases List.mem_cons.1 h2 with e' | e'
    ·exact e'.symm
    ·have:=ha.2.lt e';have:=hb.2.lt e;omega
  subst e
  congr 1
  refine Rise.ext ha.2 hb.2 fun v=>?_
  have:=h v
  simp only[List.mem_cons]at this
  constructor<;>intro hv
  ·rcases this.1 (.inr hv) with rfl | g
   ·have:=ha.2.lt hv;omega
   ·exact g
  ·rcases this.2 (.inr hv) with rfl | g
   ·have:=hb.2.lt hv;omega
   ·exact g
theorem ordI_zero {pr:List Int} (hp:∀v,0≤prI pr v) {a b:Vl} (ra:Rise (-1) a.se) (rb:Rise (-1) b.se):ordI pr a b=0↔a=b:=by
 have na:Nn a.se:=fun v hv=>by have:=ra.lt hv;omega
 have nb:Nn b.se:=fun v hv=>by have:=rb.lt hv;omega
 constructor
 ·intro h
  unfold ordI lex3 at h
  simp only at h
  split at h
  ·rename_i c;exact absurd h c
  ·rename_i c
   have e1:=(cycI_zero hp).1 (by simpa using c)
   split at h
   ·rename_i c2;exact absurd h c2
   ·rename_i c2
    have c2:seenI pr a.se b.se=0:=by simpa using c2
    have e2:a.se=b.se:=by
     have sp:=q51 (pr:=pr) na nb
     rw[c2]at sp
     rcases sp with⟨e,_⟩ | ⟨x,hx,_⟩
     ·exact Rise.ext ra rb e
     ·rcases q29 hp x with g | g<;>rcases hx with⟨_,_,q⟩ | ⟨_,_,q⟩<;>omega
    have e3:a.st=b.st:=by
     unfold stepI at h
     rcases q45 b.st a.st with⟨q,e⟩ | ⟨q,e⟩ | ⟨q,e⟩
     ·rw[e]at h;rcases q29 hp a.cy with g | g<;>rw[g]at h<;>omega
     ·exact q.symm
     ·rw[e]at h;rcases q29 hp a.cy with g | g<;>rw[g]at h<;>omega
    cases a;cases b;simp_all
 ·rintro rfl
  exact(ord3_ord hp).self ⟨a,na⟩
def sumI (g:Nat→Int):Nat→Int
 | 0=>0
 | n+1=>sumI g n+g n
theorem q60 {g h:Nat→Int} :∀{n:Nat},(∀i,i<n→g i=h i)→sumI g n=sumI h n
 | 0,_=>rfl
 | n+1,e=>by rw[sumI,sumI,q60 fun i hi=>e i (by omega),e n (by omega)]
theorem sumI_le {g h:Nat→Int} :∀{n:Nat},(∀i,i<n→g i≤h i)→sumI g n≤sumI h n
 | 0,_=>Int.le_refl _
 | n+1,e=>by
  have:=sumI_le (n:=n) fun i hi=>e i (by omega)
  have:=e n (by omega)
  rw[sumI,sumI];omega
theorem sumI_add (g h:Nat→Int):∀n:Nat,sumI (fun i=>g i+h i) n=sumI g n+sumI h n
 | 0=>rfl
 | n+1=>by rw[sumI,sumI,sumI,sumI_add g h n];omega
theorem sumI_sub (g h:Nat→Int):∀n:Nat,sumI (fun i=>g i-h i) n=sumI g n-sumI h n
 | 0=>rfl
 | n+1=>by rw[sumI,sumI,sumI,sumI_sub g h n];omega
theorem sumI_mul (c:Int) (g:Nat→Int):∀n:Nat,sumI (fun i=>c*g i) n=c*sumI g n
 | 0=>by simp[sumI]
 | n+1=>by rw[sumI,sumI,sumI_mul c g n,Int.mul_add]
theorem sumI_const (c:Int):∀n:Nat,sumI (fun _=>c) n=c*n
 | 0=>by simp[sumI]
 | n+1=>by rw[sumI,sumI_const c n];rw[show((n+1:Nat):Int)=n+1 by omega,Int.mul_add,Int.mul_one]
theorem sumI_zero {g:Nat→Int} {n:Nat} (h:∀i,i<n→g i=0):sumI g n=0:=by
 rw[q60 h,sumI_const];simp
theorem sumI_tele (g:Nat→Int):∀n:Nat,sumI (fun i=>g (i+1)-g i) n=g n-g 0
 | 0=>by simp[sumI]
 | n+1=>by rw[sumI,sumI_tele g n];omega
theorem sumI_one {g:Nat→Int} {n x:Nat} (hx:x<n):sumI g n=g x+sumI (fun i=>if i=x then 0 else g i) n:=by
 have:∀n,sumI g n=sumI (fun i=>if i=x then g x else 0) n+sumI (fun i=>if i=x then 0 else g i) n:=fun n=>by
  rw[←sumI_add]
  refine q60 fun i _=>?_
  by_cases h:i=x
  ·subst h;simp
  ·simp[h]
 have one:∀n,sumI (fun i=>if i=x then g x else 0) n=if x<n then g x else 0:=by
  intro n
  induction n with
  | zero=>simp[sumI]
  | succ n ih=>
   rw[sumI,ih]
   by_cases h1:x<n
   ·rw[if_pos h1,if_neg (by omega),if_pos (by omega)];omega
   ·by_cases h2:n=x
    ·subst h2;rw[if_neg (by omega),if_pos rfl,if_pos (by omega)];omega
    ·rw[if_neg h1,if_neg h2,if_neg (by omega)];omega
 rw[this n,one n,if_pos hx]
theorem two_pos (k:Nat):(1:Int)≤2^k:=by
 induction k with
 | zero=>simp
 | succ k ih=>rw[Int.pow_succ];omega
theorem sumI_pow {E:Nat→Nat} {n:Nat} (hE:∀i j,i<n→j<n→E i=E j→i=j):∀b:Nat,sumI (fun i=>if E i<b then(2:Int)^E i else 0) n≤2^b-1
 | 0=>by rw[sumI_zero fun i _=>by rw[if_neg (by omega)]];simp
 | b+1=>by
  have ih:=sumI_pow hE b
  by_cases h:∃x,x<n∧E x=b
  ·obtain⟨x,hx,he⟩:=h
   have e:sumI (fun i=>if E i<b+1 then(2:Int)^E i else 0) n=2^b+sumI (fun i=>if E i<b then(2:Int)^E i else 0) n:=by
    rw[sumI_one hx,he,if_pos (by omega)]
    congr 1
    refine q60 fun i hi=>?_
    by_cases e:i=x
    ·subst e;rw[if_pos rfl,if_neg (by omega)]
    ·rw[if_neg e]
     have:E i≠b:=fun q=>e (hE i x hi hx (q.trans he.symm))
     by_cases q:E i<b
     ·rw[if_pos q,if_pos (by omega)]
     ·rw[if_neg q,if_neg (by omega)]
   rw[e,Int.pow_succ];omega
  ·have e:sumI (fun i=>if E i<b+1 then(2:Int)^E i else 0) n=sumI (fun i=>if E i<b then(2:Int)^E i else 0) n:=by
    refine q60 fun i hi=>?_
    have:E i≠b:=fun q=>h ⟨i,hi,q⟩
    by_cases q:E i<b
    ·rw[if_pos q,if_pos (by omega)]
    ·rw[if_neg q,if_neg (by omega)]
   rw[e,Int.pow_succ]
   have:=two_pos b
   omega
theorem lead {E:Nat→Nat} {d:Nat→Int} {n x:Nat} (hE:∀i j,i<n→j<n→E i=E j→i=j) (hx:x<n) (hd:∀i,i<n→d i= -1∨d i=0∨d i=1) (h1:d x=1) (hlt:∀i,i<n→i≠x→d i≠0→E i<E x):
  0<sumI (fun i=>d i*2^E i) n:=by
 rw[sumI_one hx,h1,Int.one_mul]
 have h2:sumI (fun i=> -(if E i<E x then(2:Int)^E i else 0)) n≤sumI (fun i=>if i=x then 0 else d i*2^E i) n:=by
  refine sumI_le fun i hi=>?_
  have hp:=two_pos (E i)
  by_cases e:i=x
  ·subst e;rw[if_pos rfl,if_neg (by omega)];omega
  ·rw[if_neg e]
   rcases hd i hi with h | h | h
   ·rw[if_pos (hlt i hi e (by omega)),h];omega
   ·rw[h];split<;>omega
   ·rw[h];split<;>omega
 have h3:sumI (fun i=> -(if E i<E x then(2:Int)^E i else 0)) n= -sumI (fun i=>if E i<E x then(2:Int)^E i else 0) n:=by
  have:=sumI_mul (-1) (fun i=>if E i<E x then(2:Int)^E i else 0) n
  simp only[Int.neg_mul,Int.one_mul]at this
  exact this
 have h4:=sumI_pow hE (E x)
 omega
theorem lead_neg {E:Nat→Nat} {d:Nat→Int} {n x:Nat} (hE:∀i j,i<n→j<n→E i=E j→i=j) (hx:x<n) (hd:∀i,i<n→d i= -1∨d i=0∨d i=1) (h1:d x= -1) (hlt:∀i,i<n→i≠x→d i≠0→E i<E x):
  sumI (fun i=>d i*2^E i) n<0:=by
 have:=lead (d:=fun i=> -d i) hE hx (fun i hi=>by have:=hd i hi;omega) (by omega) (fun i hi he hn=>hlt i hi he (by omega))
 have h2:=sumI_mul (-1) (fun i=>d i*2^E i) n
 have h3:sumI (fun i=> -d i*2^E i) n=sumI (fun i=> -1*(d i*2^E i)) n:=q60 fun i _=>by rw[Int.neg_mul,Int.neg_mul,Int.one_mul]
 rw[h3,h2]at this
 omega
set_option maxRecDepth 10000
open Go.Am renaming pchk→P1,pold→P2,PKNo→P3,ppack→P4,PObj.under→P5,pput→P6,ptset→P7,q55→P8,pev→P9,ofAV→P10,q31→P11,ppad→P12,pfill→P13,q30→P14,AO.effect→P15
open List renaming replicate→L1
open Nat renaming reduceAdd→N1,reduceSub→N2,reduceMul→N3,reduceLT→N4,reduceLeDiff→N5,reduceEqDiff→N6,reduceBEq→N7
open Int renaming reduceToNat→I1,reduceLT→I2,reduceLE→I3,reduceEq→I4,reduceAdd→I5,reduceSub→I6,reduceNeg→I7
abbrev big:Nat:=1000000000000
theorem q10 {k:Nat} (h:k<big):IntKind.i64.wrap ((k:Int)+1)=((k+1:Nat):Int):=by
 have h:k<1000000000000:=h
 rw[q57 (by omega) (by omega)];omega
theorem q50 {α:Type} {xs:List α} {k:Nat} (h:k<xs.length):xs.drop k=xs[k]::xs.drop (k+1):=List.drop_eq_getElem_cons h
theorem q13 {α:Type} {xs:List α} {k:Nat} (h:k<xs.length):∃x,xs[k]? =some x:=⟨xs[k],List.getElem?_eq_getElem h⟩
theorem drop_some {α:Type} {xs:List α} {k:Nat} {x:α} (h:xs[k]? =some x):xs.drop k=x::xs.drop (k+1):=by
 have hk:=q12 h
 rw[List.drop_eq_getElem_cons hk]
 rw[List.getElem?_eq_getElem hk]at h
 cases h;rfl
theorem take_some {α:Type} {xs:List α} {k:Nat} {x:α} (h:xs[k]? =some x):xs.take (k+1)=xs.take k++[x]:=by simp[List.take_add_one,h]
theorem getD_some {xs:List Int} {k:Nat} {x:Int} (h:xs[k]? =some x):xs.getD k 0=x:=by simp[List.getD,h]
def posM (n:Int):Int→List Int→Bool
 | _,[]=>true
 | last,v::l=>if v≤last then false else if n≤v then false else posM n v l
section
variable {tab:FuncId→Option AF} (T:HasA tab)
include T
theorem positions_p {M:Mem} {K:PV→Mem→Prop} {f o:Bool} {xs:List Int} {n:Int} (hm:xs.length<big) (hk:K (.bool (posM n (-1) xs)) M):
  SemC tab 79 [slI f o .i64 xs,p64 n] M K:=by
 refine q11 T.h79 (by simp only[PP,P1,P2,P3,P4,P5,P6,P7,P8,P9,P10,P11,P12,P13,P14,L1,P15,N1,N2,N3,N4,N5,N6,N7,I1,I2,I3,I4,I5,I6,I7,reduceIte,reduceCtorEq]) ?_
 simp only[af79,PP,P1,P2,P3,P4,P5,P6,P7,P8,P9,P10,P11,P12,P13,P14,L1,P15,N1,N2,N3,N4,N5,N6,N7,I1,I2,I3,I4,I5,I6,I7,reduceIte,reduceCtorEq]
 refine loop2 (fun(k:Nat) (last:Int)=>k≤xs.length∧K (.bool (posM n last (xs.drop k))) M) (fun k last=>[Zj,p64 n,Zj,Zj,Zj,p64 last,Zj,Zj,slI f o .i64 xs,p64 xs.length,p64 k,Zj,Zj,Zj,Zj,Zj,Zj,Zj,Zj,Zj,Zj,Zj,Zj,Zj]) (fun _ _=>[]) (fun k _=>xs.length-k) 0 (-1) ⟨by omega,hk⟩ (by simp only[PW]) rfl ?_
 intro k last ⟨hk,hq⟩ ih
 refine q15 (by kernel_rfl) ?_
 simp only[PP,P1,P2,P3,P4,P5,P6,P7,P8,P9,P10,P11,P12,P13,P14,L1,P15,N1,N2,N3,N4,N5,N6,N7,I1,I2,I3,I4,I5,I6,I7,reduceIte,reduceCtorEq]
 refine QIf.intro (fun c=>?_) (fun c=>?_)
 ·have hk':k<xs.length:=by omega
  rw[q50 hk']at hq
  have hw:=q10 (k:=k) (by omega)
  have hg:xs[k]? =some xs[k]:=List.getElem?_eq_getElem hk'
  have h0:(0:Int)≤k:=by omega
  simp only[PP,P1,P2,P3,P4,P5,P6,P7,P8,P9,P10,P11,P12,P13,P14,L1,P15,N1,N2,N3,N4,N5,N6,N7,I1,I2,I3,I4,I5,I6,I7,reduceIte,reduceCtorEq,posM,c,hg,hw,h0]at hq ⊢
  refine QIf.intro (fun h1=>?_) (fun h1=>?_)
  ·simp only[PP,P1,P2,P3,P4,P5,P6,P7,P8,P9,P10,P11,P12,P13,P14,L1,P15,N1,N2,N3,N4,N5,N6,N7,I1,I2,I3,I4,I5,I6,I7,reduceIte,reduceCtorEq,h1]at hq ⊢
   exact hq
  ·simp only[PP,P1,P2,P3,P4,P5,P6,P7,P8,P9,P10,P11,P12,P13,P14,L1,P15,N1,N2,N3,N4,N5,N6,N7,I1,I2,I3,I4,I5,I6,I7,reduceIte,reduceCtorEq,h1]at hq ⊢
   refine QIf.intro (fun h2=>?_) (fun h2=>?_)
   ·simp only[PP,P1,P2,P3,P4,P5,P6,P7,P8,P9,P10,P11,P12,P13,P14,L1,P15,N1,N2,N3,N4,N5,N6,N7,I1,I2,I3,I4,I5,I6,I7,reduceIte,reduceCtorEq,h2]at hq ⊢
    exact hq
   ·simp only[PP,P1,P2,P3,P4,P5,P6,P7,P8,P9,P10,P11,P12,P13,P14,L1,P15,N1,N2,N3,N4,N5,N6,N7,I1,I2,I3,I4,I5,I6,I7,reduceIte,reduceCtorEq,h2,hw]at hq ⊢
    exact q8 (ih (k+1) _ ⟨by omega,hq⟩ (by omega)) (by simp only[PW])
 ·simp only[PP,P1,P2,P3,P4,P5,P6,P7,P8,P9,P10,P11,P12,P13,P14,L1,P15,N1,N2,N3,N4,N5,N6,N7,I1,I2,I3,I4,I5,I6,I7,reduceIte,reduceCtorEq,c]
  rw[List.drop_eq_nil_of_le (by omega)]at hq
  exact hq
abbrev gmP (f1 o1 f2 o2 f3 o3 f4 o4:Bool) (ow pr:List Int) (su:List (List Int)):PV:= .agg [slI f1 o1 .u8 ow,slI f2 o2 .i64 pr,slR f3 o3 f4 o4 .i64 su]
structure Bnd (ow pr:List Int) (su:List (List Int)):Prop where
 o:ow.length<big
 p:pr.length<big
 s:su.length<big
 r:∀row∈su,row.length<big
def checkLoop (ow pr:List Int):Nat→List (List Int)→Int
 | _,[]=>0
 | k,row::rest=>if 1<ow.getD k 0 then 6 else if pr.getD k 0<0 then 1 else if 16<pr.getD k 0 then 1 else if(row.length:Int)=0 then 13 else if posM ow.length (-1) row=false then 8 else checkLoop ow pr (k+1) rest
def checkM (ow pr:List Int) (su:List (List Int)):Int:=
 if(ow.length:Int)=0 then 3 else if 4096<(ow.length:Int) then 10 else if(pr.length:Int)=ow.length then(if(su.length:Int)=ow.length then checkLoop ow pr 0 su else 2) else 2
omit T in
theorem checkM_len {ow pr:List Int} {su:List (List Int)} (h:checkM ow pr su=0):0<ow.length∧ow.length≤4096∧pr.length=ow.length∧su.length=ow.length∧checkLoop ow pr 0 su=0:=by
 unfold checkM at h
 split at h
 ·simp at h
 ·split at h
  ·simp at h
  ·split at h
   ·split at h
    ·exact⟨by omega,by omega,by omega,by omega,h⟩
    ·simp at h
   ·simp at h
theorem check_p {M:Mem} {K:PV→Mem→Prop} {f1 o1 f2 o2 f3 o3 f4 o4:Bool} {ow pr:List Int} {su:List (List Int)} (B:Bnd ow pr su) (hq:K (p64 (checkM ow pr su)) M):
  SemC tab 50 [gmP f1 o1 f2 o2 f3 o3 f4 o4 ow pr su] M K:=by
 refine q11 T.h50 (by simp only[PP,P1,P2,P3,P4,P5,P6,P7,P8,P9,P10,P11,P12,P13,P14,L1,P15,N1,N2,N3,N4,N5,N6,N7,I1,I2,I3,I4,I5,I6,I7,reduceIte,reduceCtorEq]) ?_
 simp only[af50,PP,P1,P2,P3,P4,P5,P6,P7,P8,P9,P10,P11,P12,P13,P14,L1,P15,N1,N2,N3,N4,N5,N6,N7,I1,I2,I3,I4,I5,I6,I7,reduceIte,reduceCtorEq,checkM]at hq ⊢
 refine QIf.intro (fun c1=>?_) (fun c1=>?_)
 ·simp only[PP,P1,P2,P3,P4,P5,P6,P7,P8,P9,P10,P11,P12,P13,P14,L1,P15,N1,N2,N3,N4,N5,N6,N7,I1,I2,I3,I4,I5,I6,I7,reduceIte,reduceCtorEq,c1]at hq ⊢
  exact hq
 simp only[PP,P1,P2,P3,P4,P5,P6,P7,P8,P9,P10,P11,P12,P13,P14,L1,P15,N1,N2,N3,N4,N5,N6,N7,I1,I2,I3,I4,I5,I6,I7,reduceIte,reduceCtorEq,c1]at hq ⊢
 refine QIf.intro (fun c2=>?_) (fun c2=>?_)
 ·simp only[PP,P1,P2,P3,P4,P5,P6,P7,P8,P9,P10,P11,P12,P13,P14,L1,P15,N1,N2,N3,N4,N5,N6,N7,I1,I2,I3,I4,I5,I6,I7,reduceIte,reduceCtorEq,c2]at hq ⊢
  exact hq
 simp only[PP,P1,P2,P3,P4,P5,P6,P7,P8,P9,P10,P11,P12,P13,P14,L1,P15,N1,N2,N3,N4,N5,N6,N7,I1,I2,I3,I4,I5,I6,I7,reduceIte,reduceCtorEq,c2]at hq ⊢
 refine QIf.intro (fun c3=>?_) (fun c3=>?_)
 rotate_left
 ·simp only[PP,P1,P2,P3,P4,P5,P6,P7,P8,P9,P10,P11,P12,P13,P14,L1,P15,N1,N2,N3,N4,N5,N6,N7,I1,I2,I3,I4,I5,I6,I7,reduceIte,reduceCtorEq,c3]at hq ⊢
  exact hq
 simp only[PP,P1,P2,P3,P4,P5,P6,P7,P8,P9,P10,P11,P12,P13,P14,L1,P15,N1,N2,N3,N4,N5,N6,N7,I1,I2,I3,I4,I5,I6,I7,reduceIte,reduceCtorEq,c3]at hq ⊢
 refine QIf.intro (fun c4=>?_) (fun c4=>?_)
 rotate_left
 ·simp only[PP,P1,P2,P3,P4,P5,P6,P7,P8,P9,P10,P11,P12,P13,P14,L1,P15,N1,N2,N3,N4,N5,N6,N7,I1,I2,I3,I4,I5,I6,I7,reduceIte,reduceCtorEq,c4]at hq ⊢
  exact hq
 simp only[PP,P1,P2,P3,P4,P5,P6,P7,P8,P9,P10,P11,P12,P13,P14,L1,P15,N1,N2,N3,N4,N5,N6,N7,I1,I2,I3,I4,I5,I6,I7,reduceIte,reduceCtorEq,c4]at hq ⊢
 have d4:su.length=ow.length:=by omega
 refine loop1 (fun(k:Nat)=>k≤su.length∧K (p64 (checkLoop ow pr k (su.drop k))) M) (fun k=>[Zj,.ptr 0 0 0,Zj,p64 ow.length,Zj,Zj,Zj,Zj,Zj,Zj,Zj,Zj,Zj,Zj,Zj,Zj,Zj,Zj,Zj,Zj,Zj,Zj,Zj,Zj,Zj,Zj,Zj,Zj,Zj,slR f3 o3 f4 o4 .i64 su,p64 ow.length,p64 k,Zj,Zj,Zj,Zj,Zj,Zj,Zj,Zj,Zj,Zj,Zj,Zj,Zj,Zj,Zj,Zj,Zj,Zj,Zj,Zj,Zj,Zj,Zj,Zj,Zj,Zj,Zj,Zj,Zj,Zj,Zj,Zj,Zj,Zj,Zj,Zj]) (fun _=>[.cells 0 0 [slI f1 o1 .u8 ow,slI f2 o2 .i64 pr,slR f3 o3 f4 o4 .i64 su]]) (fun k=>su.length-k) 0 ⟨by omega,hq⟩ (by simp only[PW,Int.cast_ofNat_Int,d4]) rfl ?_
 intro k ⟨hle,hq⟩ ih
 refine q15 (by kernel_rfl) ?_
 simp only[PP,P1,P2,P3,P4,P5,P6,P7,P8,P9,P10,P11,P12,P13,P14,L1,P15,N1,N2,N3,N4,N5,N6,N7,I1,I2,I3,I4,I5,I6,I7,reduceIte,reduceCtorEq]
 refine QIf.intro (fun c=>?_) (fun c=>?_)
 ·have hk':k<su.length:=by omega
  have g1:su[k]? =some su[k]:=List.getElem?_eq_getElem hk'
  have g2:ow[k]? =some ow[k]:=List.getElem?_eq_getElem (by omega)
  have g3:pr[k]? =some pr[k]:=List.getElem?_eq_getElem (by omega)
  have h0:(0:Int)≤k:=by omega
  have hw:=q10 (k:=k) (by have:=B.s;omega)
  have e2:ow.getD k 0=ow[k]:=by simp[List.getD,g2]
  have e3:pr.getD k 0=pr[k]:=by simp[List.getD,g3]
  rw[q50 hk']at hq
  have hks:(k:Int)<su.length:=by omega
  have hkp:(k:Int)<pr.length:=by omega
  simp only[PP,P1,P2,P3,P4,P5,P6,P7,P8,P9,P10,P11,P12,P13,P14,L1,P15,N1,N2,N3,N4,N5,N6,N7,I1,I2,I3,I4,I5,I6,I7,reduceIte,reduceCtorEq,checkLoop,c,g1,g2,g3,h0,e2,e3,hks,hkp]at hq ⊢
  refine QIf.intro (fun h1=>?_) (fun h1=>?_)
  ·simp only[PP,P1,P2,P3,P4,P5,P6,P7,P8,P9,P10,P11,P12,P13,P14,L1,P15,N1,N2,N3,N4,N5,N6,N7,I1,I2,I3,I4,I5,I6,I7,reduceIte,reduceCtorEq,h1]at hq ⊢
   exact hq
  simp only[PP,P1,P2,P3,P4,P5,P6,P7,P8,P9,P10,P11,P12,P13,P14,L1,P15,N1,N2,N3,N4,N5,N6,N7,I1,I2,I3,I4,I5,I6,I7,reduceIte,reduceCtorEq,h1,g3,hkp,h0]at hq ⊢
  refine QIf.intro (fun h2=>?_) (fun h2=>?_)
  ·simp only[PP,P1,P2,P3,P4,P5,P6,P7,P8,P9,P10,P11,P12,P13,P14,L1,P15,N1,N2,N3,N4,N5,N6,N7,I1,I2,I3,I4,I5,I6,I7,reduceIte,reduceCtorEq,h2]at hq ⊢
   exact hq
  simp only[PP,P1,P2,P3,P4,P5,P6,P7,P8,P9,P10,P11,P12,P13,P14,L1,P15,N1,N2,N3,N4,N5,N6,N7,I1,I2,I3,I4,I5,I6,I7,reduceIte,reduceCtorEq,h2,g3,hkp,h0]at hq ⊢
  refine QIf.intro (fun h3=>?_) (fun h3=>?_)
  ·simp only[PP,P1,P2,P3,P4,P5,P6,P7,P8,P9,P10,P11,P12,P13,P14,L1,P15,N1,N2,N3,N4,N5,N6,N7,I1,I2,I3,I4,I5,I6,I7,reduceIte,reduceCtorEq,h3]at hq ⊢
   exact hq
  simp only[PP,P1,P2,P3,P4,P5,P6,P7,P8,P9,P10,P11,P12,P13,P14,L1,P15,N1,N2,N3,N4,N5,N6,N7,I1,I2,I3,I4,I5,I6,I7,reduceIte,reduceCtorEq,h3]at hq ⊢
  refine QIf.intro (fun h4=>?_) (fun h4=>?_)
  ·simp only[PP,P1,P2,P3,P4,P5,P6,P7,P8,P9,P10,P11,P12,P13,P14,L1,P15,N1,N2,N3,N4,N5,N6,N7,I1,I2,I3,I4,I5,I6,I7,reduceIte,reduceCtorEq,h4]at hq ⊢
   exact hq
  simp only[PP,P1,P2,P3,P4,P5,P6,P7,P8,P9,P10,P11,P12,P13,P14,L1,P15,N1,N2,N3,N4,N5,N6,N7,I1,I2,I3,I4,I5,I6,I7,reduceIte,reduceCtorEq,h4]at hq ⊢
  refine positions_p T (B.r _ (List.getElem_mem hk')) ?_
  simp only[PP,P1,P2,P3,P4,P5,P6,P7,P8,P9,P10,P11,P12,P13,P14,L1,P15,N1,N2,N3,N4,N5,N6,N7,I1,I2,I3,I4,I5,I6,I7,reduceIte,reduceCtorEq]
  by_cases h5:posM ow.length (-1) su[k]=true
  ·simp only[PP,P1,P2,P3,P4,P5,P6,P7,P8,P9,P10,P11,P12,P13,P14,L1,P15,N1,N2,N3,N4,N5,N6,N7,I1,I2,I3,I4,I5,I6,I7,reduceIte,reduceCtorEq,h5,hw]at hq ⊢
   exact q8 (ih (k+1) ⟨by omega,hq⟩ (by omega)) (by simp only[PW])
  ·simp only[PP,P1,P2,P3,P4,P5,P6,P7,P8,P9,P10,P11,P12,P13,P14,L1,P15,N1,N2,N3,N4,N5,N6,N7,I1,I2,I3,I4,I5,I6,I7,reduceIte,reduceCtorEq,h5]at hq ⊢
   exact hq
 ·simp only[PP,P1,P2,P3,P4,P5,P6,P7,P8,P9,P10,P11,P12,P13,P14,L1,P15,N1,N2,N3,N4,N5,N6,N7,I1,I2,I3,I4,I5,I6,I7,reduceIte,reduceCtorEq,c]
  rw[List.drop_eq_nil_of_le (by omega)]at hq
  exact hq
end
section
variable {tab:FuncId→Option AF} (T:HasA tab)
include T
theorem equalInts_p {M:Mem} {K:PV→Mem→Prop} {f o f' o':Bool} {xs ys:List Int} (hm:xs.length<big) (hk:K (.bool (decide (xs=ys))) M):
  SemC tab 18 [slI f o .i64 xs,slI f' o' .i64 ys] M K:=by
 refine q11 T.h18 (by simp only[PP,P1,P2,P3,P4,P5,P6,P7,P8,P9,P10,P11,P12,P13,P14,L1,P15,N1,N2,N3,N4,N5,N6,N7,I1,I2,I3,I4,I5,I6,I7,reduceIte,reduceCtorEq]) ?_
 simp only[af18,PP,P1,P2,P3,P4,P5,P6,P7,P8,P9,P10,P11,P12,P13,P14,L1,P15,N1,N2,N3,N4,N5,N6,N7,I1,I2,I3,I4,I5,I6,I7,reduceIte,reduceCtorEq]
 refine QIf.intro (fun c1=>?_) (fun c1=>?_)
 ·simp only[PP,P1,P2,P3,P4,P5,P6,P7,P8,P9,P10,P11,P12,P13,P14,L1,P15,N1,N2,N3,N4,N5,N6,N7,I1,I2,I3,I4,I5,I6,I7,reduceIte,reduceCtorEq,c1]
  have hl:xs.length=ys.length:=by omega
  refine loop1 (fun(k:Nat)=>k≤xs.length∧K (.bool (decide (xs.drop k=ys.drop k))) M) (fun k=>[slI f o .i64 xs,slI f' o' .i64 ys,Zj,Zj,Zj,p64 k,Zj,Zj,Zj,Zj,Zj,Zj,Zj,Zj,Zj,Zj,Zj,Zj,Zj,Zj,Zj,Zj,Zj,Zj,Zj,Zj]) (fun _=>[]) (fun k=>xs.length-k) 0 ⟨by omega,hk⟩ (by simp only[PW]) rfl ?_
  intro k ⟨hle,hq⟩ ih
  refine q15 (by kernel_rfl) ?_
  simp only[PP,P1,P2,P3,P4,P5,P6,P7,P8,P9,P10,P11,P12,P13,P14,L1,P15,N1,N2,N3,N4,N5,N6,N7,I1,I2,I3,I4,I5,I6,I7,reduceIte,reduceCtorEq]
  refine QIf.intro (fun c=>?_) (fun c=>?_)
  ·have hk':k<xs.length:=by omega
   have hk2:k<ys.length:=by omega
   rw[q50 hk',q50 hk2]at hq
   have hw:=q10 (k:=k) (by omega)
   have g1:xs[k]? =some xs[k]:=List.getElem?_eq_getElem hk'
   have g2:ys[k]? =some ys[k]:=List.getElem?_eq_getElem hk2
   have h0:(0:Int)≤k:=by omega
   have cy:(k:Int)<ys.length:=by omega
   simp only[PP,P1,P2,P3,P4,P5,P6,P7,P8,P9,P10,P11,P12,P13,P14,L1,P15,N1,N2,N3,N4,N5,N6,N7,I1,I2,I3,I4,I5,I6,I7,reduceIte,reduceCtorEq,c,g1,g2,hw,h0,cy]at hq ⊢
   refine QIf.intro (fun h1=>?_) (fun h1=>?_)
   ·simp only[PP,P1,P2,P3,P4,P5,P6,P7,P8,P9,P10,P11,P12,P13,P14,L1,P15,N1,N2,N3,N4,N5,N6,N7,I1,I2,I3,I4,I5,I6,I7,reduceIte,reduceCtorEq,h1,hw,List.cons.injEq]at hq ⊢
    exact q8 (ih (k+1) ⟨by omega,hq⟩ (by omega)) (by simp only[PW])
   ·simp only[PP,P1,P2,P3,P4,P5,P6,P7,P8,P9,P10,P11,P12,P13,P14,L1,P15,N1,N2,N3,N4,N5,N6,N7,I1,I2,I3,I4,I5,I6,I7,reduceIte,reduceCtorEq,h1,List.cons.injEq]at hq ⊢
    exact hq
  ·simp only[PP,P1,P2,P3,P4,P5,P6,P7,P8,P9,P10,P11,P12,P13,P14,L1,P15,N1,N2,N3,N4,N5,N6,N7,I1,I2,I3,I4,I5,I6,I7,reduceIte,reduceCtorEq,c]
   rw[List.drop_eq_nil_of_le (by omega),List.drop_eq_nil_of_le (by omega)]at hq
   simp only[PP,P1,P2,P3,P4,P5,P6,P7,P8,P9,P10,P11,P12,P13,P14,L1,P15,N1,N2,N3,N4,N5,N6,N7,I1,I2,I3,I4,I5,I6,I7,reduceIte,reduceCtorEq]at hq
   exact hq
 ·simp only[PP,P1,P2,P3,P4,P5,P6,P7,P8,P9,P10,P11,P12,P13,P14,L1,P15,N1,N2,N3,N4,N5,N6,N7,I1,I2,I3,I4,I5,I6,I7,reduceIte,reduceCtorEq,c1]
  have hne:¬xs=ys:=by rintro rfl;exact c1 rfl
  simp only[PP,P1,P2,P3,P4,P5,P6,P7,P8,P9,P10,P11,P12,P13,P14,L1,P15,N1,N2,N3,N4,N5,N6,N7,I1,I2,I3,I4,I5,I6,I7,reduceIte,reduceCtorEq,hne]at hk
  exact hk
theorem equalBytes_p {M:Mem} {K:PV→Mem→Prop} {f o f' o':Bool} {xs ys:List Int} (hm:xs.length<big) (hk:K (.bool (decide (xs=ys))) M):
  SemC tab 36 [slI f o .u8 xs,slI f' o' .u8 ys] M K:=by
 refine q11 T.h36 (by simp only[PP,P1,P2,P3,P4,P5,P6,P7,P8,P9,P10,P11,P12,P13,P14,L1,P15,N1,N2,N3,N4,N5,N6,N7,I1,I2,I3,I4,I5,I6,I7,reduceIte,reduceCtorEq]) ?_
 simp only[af36,PP,P1,P2,P3,P4,P5,P6,P7,P8,P9,P10,P11,P12,P13,P14,L1,P15,N1,N2,N3,N4,N5,N6,N7,I1,I2,I3,I4,I5,I6,I7,reduceIte,reduceCtorEq]
 refine QIf.intro (fun c1=>?_) (fun c1=>?_)
 ·simp only[PP,P1,P2,P3,P4,P5,P6,P7,P8,P9,P10,P11,P12,P13,P14,L1,P15,N1,N2,N3,N4,N5,N6,N7,I1,I2,I3,I4,I5,I6,I7,reduceIte,reduceCtorEq,c1]
  have hl:xs.length=ys.length:=by omega
  refine loop1 (fun(k:Nat)=>k≤xs.length∧K (.bool (decide (xs.drop k=ys.drop k))) M) (fun k=>[slI f o .u8 xs,slI f' o' .u8 ys,Zj,Zj,Zj,p64 k,Zj,Zj,Zj,Zj,Zj,Zj,Zj,Zj,Zj,Zj,Zj,Zj,Zj,Zj,Zj,Zj,Zj,Zj,Zj,Zj]) (fun _=>[]) (fun k=>xs.length-k) 0 ⟨by omega,hk⟩ (by simp only[PW]) rfl ?_
  intro k ⟨hle,hq⟩ ih
  refine q15 (by kernel_rfl) ?_
  simp only[PP,P1,P2,P3,P4,P5,P6,P7,P8,P9,P10,P11,P12,P13,P14,L1,P15,N1,N2,N3,N4,N5,N6,N7,I1,I2,I3,I4,I5,I6,I7,reduceIte,reduceCtorEq]
  refine QIf.intro (fun c=>?_) (fun c=>?_)
  ·have hk':k<xs.length:=by omega
   have hk2:k<ys.length:=by omega
   rw[q50 hk',q50 hk2]at hq
   have hw:=q10 (k:=k) (by omega)
   have g1:xs[k]? =some xs[k]:=List.getElem?_eq_getElem hk'
   have g2:ys[k]? =some ys[k]:=List.getElem?_eq_getElem hk2
   have h0:(0:Int)≤k:=by omega
   have cy:(k:Int)<ys.length:=by omega
   simp only[PP,P1,P2,P3,P4,P5,P6,P7,P8,P9,P10,P11,P12,P13,P14,L1,P15,N1,N2,N3,N4,N5,N6,N7,I1,I2,I3,I4,I5,I6,I7,reduceIte,reduceCtorEq,c,g1,g2,hw,h0,cy]at hq ⊢
   refine QIf.intro (fun h1=>?_) (fun h1=>?_)
   ·simp only[PP,P1,P2,P3,P4,P5,P6,P7,P8,P9,P10,P11,P12,P13,P14,L1,P15,N1,N2,N3,N4,N5,N6,N7,I1,I2,I3,I4,I5,I6,I7,reduceIte,reduceCtorEq,h1,hw,List.cons.injEq]at hq ⊢
    exact q8 (ih (k+1) ⟨by omega,hq⟩ (by omega)) (by simp only[PW])
   ·simp only[PP,P1,P2,P3,P4,P5,P6,P7,P8,P9,P10,P11,P12,P13,P14,L1,P15,N1,N2,N3,N4,N5,N6,N7,I1,I2,I3,I4,I5,I6,I7,reduceIte,reduceCtorEq,h1,List.cons.injEq]at hq ⊢
    exact hq
  ·simp only[PP,P1,P2,P3,P4,P5,P6,P7,P8,P9,P10,P11,P12,P13,P14,L1,P15,N1,N2,N3,N4,N5,N6,N7,I1,I2,I3,I4,I5,I6,I7,reduceIte,reduceCtorEq,c]
   rw[List.drop_eq_nil_of_le (by omega),List.drop_eq_nil_of_le (by omega)]at hq
   simp only[PP,P1,P2,P3,P4,P5,P6,P7,P8,P9,P10,P11,P12,P13,P14,L1,P15,N1,N2,N3,N4,N5,N6,N7,I1,I2,I3,I4,I5,I6,I7,reduceIte,reduceCtorEq]at hq
   exact hq
 ·simp only[PP,P1,P2,P3,P4,P5,P6,P7,P8,P9,P10,P11,P12,P13,P14,L1,P15,N1,N2,N3,N4,N5,N6,N7,I1,I2,I3,I4,I5,I6,I7,reduceIte,reduceCtorEq,c1]
  have hne:¬xs=ys:=by rintro rfl;exact c1 rfl
  simp only[PP,P1,P2,P3,P4,P5,P6,P7,P8,P9,P10,P11,P12,P13,P14,L1,P15,N1,N2,N3,N4,N5,N6,N7,I1,I2,I3,I4,I5,I6,I7,reduceIte,reduceCtorEq,hne]at hk
  exact hk
theorem hasInt_p {M:Mem} {K:PV→Mem→Prop} {f o:Bool} {xs:List Int} {v:Int} (hm:xs.length<big) (hk:K (.bool (decide (v∈xs))) M):
  SemC tab 47 [slI f o .i64 xs,p64 v] M K:=by
 refine q11 T.h47 (by simp only[PP,P1,P2,P3,P4,P5,P6,P7,P8,P9,P10,P11,P12,P13,P14,L1,P15,N1,N2,N3,N4,N5,N6,N7,I1,I2,I3,I4,I5,I6,I7,reduceIte,reduceCtorEq]) ?_
 simp only[af47,PP,P1,P2,P3,P4,P5,P6,P7,P8,P9,P10,P11,P12,P13,P14,L1,P15,N1,N2,N3,N4,N5,N6,N7,I1,I2,I3,I4,I5,I6,I7,reduceIte,reduceCtorEq]
 refine loop1 (fun(k:Nat)=>k≤xs.length∧K (.bool (decide (v∈xs.drop k))) M) (fun k=>[slI f o .i64 xs,p64 v,Zj,Zj,Zj,p64 k,Zj,Zj,Zj,Zj,Zj,Zj,Zj,Zj,Zj,Zj,Zj,Zj]) (fun _=>[]) (fun k=>xs.length-k) 0 ⟨by omega,hk⟩ (by simp only[PW]) rfl ?_
 intro k ⟨hle,hq⟩ ih
 refine q15 (by kernel_rfl) ?_
 simp only[PP,P1,P2,P3,P4,P5,P6,P7,P8,P9,P10,P11,P12,P13,P14,L1,P15,N1,N2,N3,N4,N5,N6,N7,I1,I2,I3,I4,I5,I6,I7,reduceIte,reduceCtorEq]
 refine QIf.intro (fun c=>?_) (fun c=>?_)
 ·have hk':k<xs.length:=by omega
  rw[q50 hk']at hq
  have hw:=q10 (k:=k) (by omega)
  have g1:xs[k]? =some xs[k]:=List.getElem?_eq_getElem hk'
  have h0:(0:Int)≤k:=by omega
  simp only[PP,P1,P2,P3,P4,P5,P6,P7,P8,P9,P10,P11,P12,P13,P14,L1,P15,N1,N2,N3,N4,N5,N6,N7,I1,I2,I3,I4,I5,I6,I7,reduceIte,reduceCtorEq,c,g1,hw,h0,List.mem_cons]at hq ⊢
  refine QIf.intro (fun h1=>?_) (fun h1=>?_)
  ·simp only[PP,P1,P2,P3,P4,P5,P6,P7,P8,P9,P10,P11,P12,P13,P14,L1,P15,N1,N2,N3,N4,N5,N6,N7,I1,I2,I3,I4,I5,I6,I7,reduceIte,reduceCtorEq,h1]at hq ⊢
   exact hq
  ·have h1':¬v=xs[k]:=fun e=>h1 e.symm
   simp only[PP,P1,P2,P3,P4,P5,P6,P7,P8,P9,P10,P11,P12,P13,P14,L1,P15,N1,N2,N3,N4,N5,N6,N7,I1,I2,I3,I4,I5,I6,I7,reduceIte,reduceCtorEq,h1,h1',hw]at hq ⊢
   exact q8 (ih (k+1) ⟨by omega,hq⟩ (by omega)) (by simp only[PW])
 ·simp only[PP,P1,P2,P3,P4,P5,P6,P7,P8,P9,P10,P11,P12,P13,P14,L1,P15,N1,N2,N3,N4,N5,N6,N7,I1,I2,I3,I4,I5,I6,I7,reduceIte,reduceCtorEq,c]
  rw[List.drop_eq_nil_of_le (by omega)]at hq
  simp only[PP,P1,P2,P3,P4,P5,P6,P7,P8,P9,P10,P11,P12,P13,P14,L1,P15,N1,N2,N3,N4,N5,N6,N7,I1,I2,I3,I4,I5,I6,I7,reduceIte,reduceCtorEq,List.not_mem_nil]at hq
  exact hq
theorem copyInts_p {M:Mem} {K:PV→Mem→Prop} {f o:Bool} {xs:List Int} (hm:xs.length<big) (hk:K (slI false true .i64 xs) M):
  SemC tab 13 [slI f o .i64 xs] M K:=by
 refine q11 T.h13 (by simp only[PP,P1,P2,P3,P4,P5,P6,P7,P8,P9,P10,P11,P12,P13,P14,L1,P15,N1,N2,N3,N4,N5,N6,N7,I1,I2,I3,I4,I5,I6,I7,reduceIte,reduceCtorEq]) ?_
 have hb:xs.length<1000000000000:=hm
 have b1:xs.length*8≤140737488355328:=by omega
 have b2:xs.length≤9223372036854775807:=by omega
 simp only[af13,PP,P1,P2,P3,P4,P5,P6,P7,P8,P9,P10,P11,P12,P13,P14,L1,P15,N1,N2,N3,N4,N5,N6,N7,I1,I2,I3,I4,I5,I6,I7,reduceIte,reduceCtorEq,b1,b2]
 exact hk
theorem copyBytes_p {M:Mem} {K:PV→Mem→Prop} {f o:Bool} {xs:List Int} (hm:xs.length<big) (hk:K (slI false true .u8 xs) M):
  SemC tab 41 [slI f o .u8 xs] M K:=by
 refine q11 T.h41 (by simp only[PP,P1,P2,P3,P4,P5,P6,P7,P8,P9,P10,P11,P12,P13,P14,L1,P15,N1,N2,N3,N4,N5,N6,N7,I1,I2,I3,I4,I5,I6,I7,reduceIte,reduceCtorEq]) ?_
 have hb:xs.length<1000000000000:=hm
 have b1:xs.length≤140737488355328:=by omega
 have b2:xs.length≤9223372036854775807:=by omega
 simp only[af41,PP,P1,P2,P3,P4,P5,P6,P7,P8,P9,P10,P11,P12,P13,P14,L1,P15,N1,N2,N3,N4,N5,N6,N7,I1,I2,I3,I4,I5,I6,I7,reduceIte,reduceCtorEq,b1,b2]
 exact hk
theorem equalRows_p {M:Mem} {K:PV→Mem→Prop} {f o f' o' g1 g2 g3 g4:Bool} {xs ys:List (List Int)} (hm:xs.length<big) (hr:∀r∈xs,r.length<big) (hk:K (.bool (decide (xs=ys))) M):
  SemC tab 48 [slR f o g1 g2 .i64 xs,slR f' o' g3 g4 .i64 ys] M K:=by
 refine q11 T.h48 (by simp only[PP,P1,P2,P3,P4,P5,P6,P7,P8,P9,P10,P11,P12,P13,P14,L1,P15,N1,N2,N3,N4,N5,N6,N7,I1,I2,I3,I4,I5,I6,I7,reduceIte,reduceCtorEq]) ?_
 simp only[af48,PP,P1,P2,P3,P4,P5,P6,P7,P8,P9,P10,P11,P12,P13,P14,L1,P15,N1,N2,N3,N4,N5,N6,N7,I1,I2,I3,I4,I5,I6,I7,reduceIte,reduceCtorEq]
 refine QIf.intro (fun c1=>?_) (fun c1=>?_)
 ·simp only[PP,P1,P2,P3,P4,P5,P6,P7,P8,P9,P10,P11,P12,P13,P14,L1,P15,N1,N2,N3,N4,N5,N6,N7,I1,I2,I3,I4,I5,I6,I7,reduceIte,reduceCtorEq,c1]
  have hl:xs.length=ys.length:=by omega
  refine loop1 (fun(k:Nat)=>k≤xs.length∧K (.bool (decide (xs.drop k=ys.drop k))) M) (fun k=>[slR f o g1 g2 .i64 xs,slR f' o' g3 g4 .i64 ys,Zj,Zj,Zj,p64 k,Zj,Zj,Zj,Zj,Zj,Zj,Zj,Zj,Zj,Zj,Zj,Zj,Zj,Zj,Zj,Zj,Zj,Zj,Zj,Zj,Zj]) (fun _=>[]) (fun k=>xs.length-k) 0 ⟨by omega,hk⟩ (by simp only[PW]) rfl ?_
  intro k ⟨hle,hq⟩ ih
  refine q15 (by kernel_rfl) ?_
  simp only[PP,P1,P2,P3,P4,P5,P6,P7,P8,P9,P10,P11,P12,P13,P14,L1,P15,N1,N2,N3,N4,N5,N6,N7,I1,I2,I3,I4,I5,I6,I7,reduceIte,reduceCtorEq]
  refine QIf.intro (fun c=>?_) (fun c=>?_)
  ·have hk':k<xs.length:=by omega
   have hk2:k<ys.length:=by omega
   rw[q50 hk',q50 hk2]at hq
   have hw:=q10 (k:=k) (by omega)
   have q1:xs[k]? =some xs[k]:=List.getElem?_eq_getElem hk'
   have q2:ys[k]? =some ys[k]:=List.getElem?_eq_getElem hk2
   have h0:(0:Int)≤k:=by omega
   have cy:(k:Int)<ys.length:=by omega
   simp only[PP,P1,P2,P3,P4,P5,P6,P7,P8,P9,P10,P11,P12,P13,P14,L1,P15,N1,N2,N3,N4,N5,N6,N7,I1,I2,I3,I4,I5,I6,I7,reduceIte,reduceCtorEq,c,q1,q2,hw,h0,cy]at hq ⊢
   refine equalInts_p T (hr _ (List.getElem_mem hk')) ?_
   by_cases h1:xs[k]=ys[k]
   ·simp only[PP,P1,P2,P3,P4,P5,P6,P7,P8,P9,P10,P11,P12,P13,P14,L1,P15,N1,N2,N3,N4,N5,N6,N7,I1,I2,I3,I4,I5,I6,I7,reduceIte,reduceCtorEq,h1,hw,List.cons.injEq]at hq ⊢
    exact q8 (ih (k+1) ⟨by omega,hq⟩ (by omega)) (by simp only[PW])
   ·simp only[PP,P1,P2,P3,P4,P5,P6,P7,P8,P9,P10,P11,P12,P13,P14,L1,P15,N1,N2,N3,N4,N5,N6,N7,I1,I2,I3,I4,I5,I6,I7,reduceIte,reduceCtorEq,h1,List.cons.injEq]at hq ⊢
    exact hq
  ·simp only[PP,P1,P2,P3,P4,P5,P6,P7,P8,P9,P10,P11,P12,P13,P14,L1,P15,N1,N2,N3,N4,N5,N6,N7,I1,I2,I3,I4,I5,I6,I7,reduceIte,reduceCtorEq,c]
   rw[List.drop_eq_nil_of_le (by omega),List.drop_eq_nil_of_le (by omega)]at hq
   simp only[PP,P1,P2,P3,P4,P5,P6,P7,P8,P9,P10,P11,P12,P13,P14,L1,P15,N1,N2,N3,N4,N5,N6,N7,I1,I2,I3,I4,I5,I6,I7,reduceIte,reduceCtorEq]at hq
   exact hq
 ·simp only[PP,P1,P2,P3,P4,P5,P6,P7,P8,P9,P10,P11,P12,P13,P14,L1,P15,N1,N2,N3,N4,N5,N6,N7,I1,I2,I3,I4,I5,I6,I7,reduceIte,reduceCtorEq,c1]
  have hne:¬xs=ys:=by rintro rfl;exact c1 rfl
  simp only[PP,P1,P2,P3,P4,P5,P6,P7,P8,P9,P10,P11,P12,P13,P14,L1,P15,N1,N2,N3,N4,N5,N6,N7,I1,I2,I3,I4,I5,I6,I7,reduceIte,reduceCtorEq,hne]at hk
  exact hk
theorem copyRows_p {M:Mem} {K:PV→Mem→Prop} {f o g1 g2:Bool} {su:List (List Int)} (hm:su.length<big) (hr:∀r∈su,r.length<big) (hk:K (slR false true false true .i64 su) M):
  SemC tab 42 [slR f o g1 g2 .i64 su] M K:=by
 refine q11 T.h42 (by simp only[PP,P1,P2,P3,P4,P5,P6,P7,P8,P9,P10,P11,P12,P13,P14,L1,P15,N1,N2,N3,N4,N5,N6,N7,I1,I2,I3,I4,I5,I6,I7,reduceIte,reduceCtorEq]) ?_
 simp only[af42,PP,P1,P2,P3,P4,P5,P6,P7,P8,P9,P10,P11,P12,P13,P14,L1,P15,N1,N2,N3,N4,N5,N6,N7,I1,I2,I3,I4,I5,I6,I7,reduceIte,reduceCtorEq]
 refine SemW_re (GStep.nil 3 1 rfl rfl rfl) ?_
 refine loop3 (fun(k g:Nat) (acc:List (List Int))=>k≤su.length∧acc=su.take k) (fun k g acc=>[slR f o g1 g2 .i64 su,Zj,Zj,.ref 0 g 1 0 acc.length,p64 k,Zj,Zj,Zj,Zj,Zj,Zj,Zj,Zj,Zj,Zj,Zj,Zj,Zj,Zj,Zj]) (fun k g acc=>[.cells g 0 (acc.map (slI false true .i64))]) (fun k _ _=>su.length-k) 0 0 [] ⟨by omega,by simp⟩ (by simp only[ptset,PP,P1,P2,P3,P4,P5,P6,P7,P8,P9,P10,P11,P12,P13,P14,L1,P15,N1,N2,N3,N4,N5,N6,N7,I1,I2,I3,I4,I5,I6,I7,reduceIte,reduceCtorEq,PW]) rfl ?_
 intro k g acc ⟨hle,hacc⟩ ih
 refine q15 (by kernel_rfl) ?_
 simp only[PP,P1,P2,P3,P4,P5,P6,P7,P8,P9,P10,P11,P12,P13,P14,L1,P15,N1,N2,N3,N4,N5,N6,N7,I1,I2,I3,I4,I5,I6,I7,reduceIte,reduceCtorEq]
 refine QIf.intro (fun c=>?_) (fun c=>?_)
 ·have hk':k<su.length:=by omega
  have hw:=q10 (k:=k) (by omega)
  have q1:su[k]? =some su[k]:=List.getElem?_eq_getElem hk'
  have h0:(0:Int)≤k:=by omega
  simp only[PP,P1,P2,P3,P4,P5,P6,P7,P8,P9,P10,P11,P12,P13,P14,L1,P15,N1,N2,N3,N4,N5,N6,N7,I1,I2,I3,I4,I5,I6,I7,reduceIte,reduceCtorEq,c,q1,h0]
  refine copyInts_p T (hr _ (List.getElem_mem hk')) ?_
  have hl:acc.length=k:=by rw[hacc];simp;omega
  have hb:su.length<1000000000000:=hm
  have b1:(acc.length+1)*24≤140737488355328:=by omega
  have b2:acc.length+1≤9223372036854775807:=by omega
  simp only[PP,P1,P2,P3,P4,P5,P6,P7,P8,P9,P10,P11,P12,P13,P14,L1,P15,N1,N2,N3,N4,N5,N6,N7,I1,I2,I3,I4,I5,I6,I7,reduceIte,reduceCtorEq,b1,b2,hw]
  refine q20 (ih (k+1) (g+1) (acc++[su[k]]) ⟨by omega,?_⟩ (by omega)) (by simp only[PW]) (by simp only[List.map_append,List.map_cons,List.map_nil])
  rw[hacc,List.take_add_one];simp[hk']
 ·have:acc=su:=by rw[hacc];exact List.take_of_length_le (by omega)
  subst this
  simp only[PP,P1,P2,P3,P4,P5,P6,P7,P8,P9,P10,P11,P12,P13,P14,L1,P15,N1,N2,N3,N4,N5,N6,N7,I1,I2,I3,I4,I5,I6,I7,reduceIte,reduceCtorEq,c]
  exact hk
end
section
variable {tab:FuncId→Option AF} (T:HasA tab)
include T
theorem copyGame_p {M:Mem} {K:PV→Mem→Prop} {f1 o1 f2 o2 f3 o3 f4 o4:Bool} {ow pr:List Int} {su:List (List Int)} (B:Bnd ow pr su) (hk:K (gmP false true false true false true false true ow pr su) M):
  SemC tab 12 [gmP f1 o1 f2 o2 f3 o3 f4 o4 ow pr su] M K:=by
 refine q11 T.h12 (by simp only[PP,P1,P2,P3,P4,P5,P6,P7,P8,P9,P10,P11,P12,P13,P14,L1,P15,N1,N2,N3,N4,N5,N6,N7,I1,I2,I3,I4,I5,I6,I7,reduceIte,reduceCtorEq]) ?_
 simp only[af12,PP,P1,P2,P3,P4,P5,P6,P7,P8,P9,P10,P11,P12,P13,P14,L1,P15,N1,N2,N3,N4,N5,N6,N7,I1,I2,I3,I4,I5,I6,I7,reduceIte,reduceCtorEq]
 refine copyBytes_p T B.o ?_
 simp only[PP,P1,P2,P3,P4,P5,P6,P7,P8,P9,P10,P11,P12,P13,P14,L1,P15,N1,N2,N3,N4,N5,N6,N7,I1,I2,I3,I4,I5,I6,I7,reduceIte,reduceCtorEq]
 refine copyInts_p T B.p ?_
 simp only[PP,P1,P2,P3,P4,P5,P6,P7,P8,P9,P10,P11,P12,P13,P14,L1,P15,N1,N2,N3,N4,N5,N6,N7,I1,I2,I3,I4,I5,I6,I7,reduceIte,reduceCtorEq]
 refine copyRows_p T B.s B.r ?_
 simp only[PP,P1,P2,P3,P4,P5,P6,P7,P8,P9,P10,P11,P12,P13,P14,L1,P15,N1,N2,N3,N4,N5,N6,N7,I1,I2,I3,I4,I5,I6,I7,reduceIte,reduceCtorEq]
 exact hk
theorem equalGame_p {M:Mem} {K:PV→Mem→Prop} {f1 o1 f2 o2 f3 o3 f4 o4 e1 p1 e2 p2 e3 p3 e4 p4:Bool} {ow pr ow' pr':List Int} {su su':List (List Int)} (B:Bnd ow pr su) (hk:K (.bool (decide (ow=ow'∧pr=pr'∧su=su'))) M):
  SemC tab 17 [gmP f1 o1 f2 o2 f3 o3 f4 o4 ow pr su,gmP e1 p1 e2 p2 e3 p3 e4 p4 ow' pr' su'] M K:=by
 refine q11 T.h17 (by simp only[PP,P1,P2,P3,P4,P5,P6,P7,P8,P9,P10,P11,P12,P13,P14,L1,P15,N1,N2,N3,N4,N5,N6,N7,I1,I2,I3,I4,I5,I6,I7,reduceIte,reduceCtorEq]) ?_
 simp only[af17,PP,P1,P2,P3,P4,P5,P6,P7,P8,P9,P10,P11,P12,P13,P14,L1,P15,N1,N2,N3,N4,N5,N6,N7,I1,I2,I3,I4,I5,I6,I7,reduceIte,reduceCtorEq]
 refine equalBytes_p T B.o ?_
 by_cases h1:ow=ow'
 ·simp only[PP,P1,P2,P3,P4,P5,P6,P7,P8,P9,P10,P11,P12,P13,P14,L1,P15,N1,N2,N3,N4,N5,N6,N7,I1,I2,I3,I4,I5,I6,I7,reduceIte,reduceCtorEq,h1]at hk ⊢
  refine equalInts_p T B.p ?_
  by_cases h2:pr=pr'
  ·simp only[PP,P1,P2,P3,P4,P5,P6,P7,P8,P9,P10,P11,P12,P13,P14,L1,P15,N1,N2,N3,N4,N5,N6,N7,I1,I2,I3,I4,I5,I6,I7,reduceIte,reduceCtorEq,h2]at hk ⊢
   refine equalRows_p T B.s B.r ?_
   simp only[PP,P1,P2,P3,P4,P5,P6,P7,P8,P9,P10,P11,P12,P13,P14,L1,P15,N1,N2,N3,N4,N5,N6,N7,I1,I2,I3,I4,I5,I6,I7,reduceIte,reduceCtorEq]
   exact hk
  ·simp only[PP,P1,P2,P3,P4,P5,P6,P7,P8,P9,P10,P11,P12,P13,P14,L1,P15,N1,N2,N3,N4,N5,N6,N7,I1,I2,I3,I4,I5,I6,I7,reduceIte,reduceCtorEq,h2]at hk ⊢
   exact hk
 ·simp only[PP,P1,P2,P3,P4,P5,P6,P7,P8,P9,P10,P11,P12,P13,P14,L1,P15,N1,N2,N3,N4,N5,N6,N7,I1,I2,I3,I4,I5,I6,I7,reduceIte,reduceCtorEq,h1]at hk ⊢
  exact hk
end
def anyLong:List (List Int)→Bool
 | []=>false
 | r::l=>if 40<(r.length:Int) then true else anyLong l
def longM (ow pr:List Int) (su ls:List (List Int)):Bool:=
 if 30<(ow.length:Int) then true else if 40<(pr.length:Int) then true else if 40<(su.length:Int) then true else if anyLong su=true then true else anyLong ls
theorem anyLong_false:∀{l:List (List Int)},anyLong l=false→∀r∈l,r.length≤40
 | [],h,r,hr=>by cases hr
 | x::l,h,r,hr=>by
  unfold anyLong at h
  split at h
  ·cases h
  ·rcases List.mem_cons.1 hr with rfl | hr
   ·omega
   ·exact anyLong_false h r hr
structure Short (ow pr:List Int) (su ls:List (List Int)):Prop where
 o:ow.length≤30
 p:pr.length≤40
 s:su.length≤40
 r:∀row∈su,row.length≤40
 l:∀row∈ls,row.length≤40
theorem longM_false {ow pr:List Int} {su ls:List (List Int)} (h:longM ow pr su ls=false):Short ow pr su ls:=by
 unfold longM at h
 split at h
 ·cases h
 ·split at h
  ·cases h
  ·split at h
   ·cases h
   ·split at h
    ·cases h
    ·rename_i h4
     exact⟨by omega,by omega,by omega,anyLong_false (by simpa using h4),anyLong_false h⟩
theorem Short.bnd {ow pr:List Int} {su ls:List (List Int)} (h:Short ow pr su ls):Bnd ow pr su:=by
 obtain⟨h1,h2,h3,h4,h5⟩:=h
 exact⟨by show _<1000000000000;omega,by show _<1000000000000;omega,by show _<1000000000000;omega,fun r hr=>by show _<1000000000000;have:=h4 r hr;omega⟩
section
variable {tab:FuncId→Option AF} (T:HasA tab)
include T
theorem rises_p {M:Mem} {K:PV→Mem→Prop} {f o:Bool} {xs:List Int} {n:Int} (hm:xs.length<big) (hk:K (.bool (posM n (-1) xs)) M):
  SemC tab 63 [slI f o .i64 xs,p64 n] M K:=by
 refine q11 T.h63 (by simp only[PP,P1,P2,P3,P4,P5,P6,P7,P8,P9,P10,P11,P12,P13,P14,L1,P15,N1,N2,N3,N4,N5,N6,N7,I1,I2,I3,I4,I5,I6,I7,reduceIte,reduceCtorEq]) ?_
 simp only[af63,PP,P1,P2,P3,P4,P5,P6,P7,P8,P9,P10,P11,P12,P13,P14,L1,P15,N1,N2,N3,N4,N5,N6,N7,I1,I2,I3,I4,I5,I6,I7,reduceIte,reduceCtorEq]
 refine loop2 (fun(k:Nat) (last:Int)=>k≤xs.length∧-1≤last∧((k=0∧last= -1)∨(0<k∧xs[k-1]? =some last))∧K (.bool (posM n last (xs.drop k))) M) (fun k last=>[slI f o .i64 xs,p64 n,Zj,Zj,Zj,p64 k,Zj,Zj,Zj,Zj,Zj,Zj,Zj,Zj,Zj,Zj,Zj,Zj,Zj,Zj,Zj,Zj,Zj,Zj,Zj,Zj,Zj,Zj,Zj,Zj,Zj,Zj,Zj,Zj,Zj,Zj,Zj,Zj,Zj,Zj,Zj]) (fun _ _=>[]) (fun k _=>xs.length-k) 0 (-1) ⟨by omega,by omega,.inl ⟨rfl,rfl⟩,hk⟩ (by simp only[PW]) rfl ?_
 intro k last ⟨hle,hl1,hi,hq⟩ ih
 refine q15 (by kernel_rfl) ?_
 simp only[PP,P1,P2,P3,P4,P5,P6,P7,P8,P9,P10,P11,P12,P13,P14,L1,P15,N1,N2,N3,N4,N5,N6,N7,I1,I2,I3,I4,I5,I6,I7,reduceIte,reduceCtorEq]
 refine QIf.intro (fun c=>?_) (fun c=>?_)
 ·have hk':k<xs.length:=by omega
  rw[q50 hk']at hq
  have hw:=q10 (k:=k) (by omega)
  have g1:xs[k]? =some xs[k]:=List.getElem?_eq_getElem hk'
  have h0:(0:Int)≤k:=by omega
  simp only[PP,P1,P2,P3,P4,P5,P6,P7,P8,P9,P10,P11,P12,P13,P14,L1,P15,N1,N2,N3,N4,N5,N6,N7,I1,I2,I3,I4,I5,I6,I7,reduceIte,reduceCtorEq,c,g1,hw,h0,posM]at hq ⊢
  refine QIf.intro (fun h1=>?_) (fun h1=>?_)
  ·have:xs[k]≤last:=by omega
   simp only[PP,P1,P2,P3,P4,P5,P6,P7,P8,P9,P10,P11,P12,P13,P14,L1,P15,N1,N2,N3,N4,N5,N6,N7,I1,I2,I3,I4,I5,I6,I7,reduceIte,reduceCtorEq,h1,this]at hq ⊢
   exact hq
  simp only[PP,P1,P2,P3,P4,P5,P6,P7,P8,P9,P10,P11,P12,P13,P14,L1,P15,N1,N2,N3,N4,N5,N6,N7,I1,I2,I3,I4,I5,I6,I7,reduceIte,reduceCtorEq,h1,g1,c,h0]at hq ⊢
  refine QIf.intro (fun h2=>?_) (fun h2=>?_)
  ·by_cases h3:xs[k]≤last
   ·simp only[PP,P1,P2,P3,P4,P5,P6,P7,P8,P9,P10,P11,P12,P13,P14,L1,P15,N1,N2,N3,N4,N5,N6,N7,I1,I2,I3,I4,I5,I6,I7,reduceIte,reduceCtorEq,h2,h3]at hq ⊢
    exact hq
   ·simp only[PP,P1,P2,P3,P4,P5,P6,P7,P8,P9,P10,P11,P12,P13,P14,L1,P15,N1,N2,N3,N4,N5,N6,N7,I1,I2,I3,I4,I5,I6,I7,reduceIte,reduceCtorEq,h2,h3]at hq ⊢
    exact hq
  simp only[PP,P1,P2,P3,P4,P5,P6,P7,P8,P9,P10,P11,P12,P13,P14,L1,P15,N1,N2,N3,N4,N5,N6,N7,I1,I2,I3,I4,I5,I6,I7,reduceIte,reduceCtorEq,h2,g1,c,h0]at hq ⊢
  rcases hi with⟨rfl,rfl⟩ | ⟨hk0,hlast⟩
  ·have h3:¬xs[0]≤-1:=by omega
   have hw1:IntKind.i64.wrap 1=1:=by decide
   simp only[PP,P1,P2,P3,P4,P5,P6,P7,P8,P9,P10,P11,P12,P13,P14,L1,P15,N1,N2,N3,N4,N5,N6,N7,I1,I2,I3,I4,I5,I6,I7,reduceIte,reduceCtorEq,h3,hw1,Int.lt_irrefl,Nat.lt_irrefl]at hq ⊢
   exact q8 (ih 1 xs[0] ⟨by omega,by omega,.inr ⟨by omega,by simp⟩,hq⟩ (by omega)) (by simp only[PW])
  ·have h4:(0:Int)<k:=by omega
   have hw2:IntKind.i64.wrap ((k:Int)-1)=((k-1:Nat):Int):=by
    have:k<1000000000000:=by have:xs.length<1000000000000:=hm;omega
    rw[q57 (by omega) (by omega)];omega
   have c2:((k-1:Nat):Int)<xs.length:=by omega
   have c3:(0:Int)≤((k-1:Nat):Int):=by omega
   simp only[PP,P1,P2,P3,P4,P5,P6,P7,P8,P9,P10,P11,P12,P13,P14,L1,P15,N1,N2,N3,N4,N5,N6,N7,I1,I2,I3,I4,I5,I6,I7,reduceIte,reduceCtorEq,h4,g1,c,h0,hw2,c2,c3,hlast]at hq ⊢
   by_cases h3:xs[k]≤last
   ·simp only[PP,P1,P2,P3,P4,P5,P6,P7,P8,P9,P10,P11,P12,P13,P14,L1,P15,N1,N2,N3,N4,N5,N6,N7,I1,I2,I3,I4,I5,I6,I7,reduceIte,reduceCtorEq,h3]at hq ⊢
    exact hq
   ·simp only[PP,P1,P2,P3,P4,P5,P6,P7,P8,P9,P10,P11,P12,P13,P14,L1,P15,N1,N2,N3,N4,N5,N6,N7,I1,I2,I3,I4,I5,I6,I7,reduceIte,reduceCtorEq,h3,hw]at hq ⊢
    exact q8 (ih (k+1) xs[k] ⟨by omega,by omega,.inr ⟨by omega,by simp[hk']⟩,hq⟩ (by omega)) (by simp only[PW])
 ·simp only[PP,P1,P2,P3,P4,P5,P6,P7,P8,P9,P10,P11,P12,P13,P14,L1,P15,N1,N2,N3,N4,N5,N6,N7,I1,I2,I3,I4,I5,I6,I7,reduceIte,reduceCtorEq,c]
  rw[List.drop_eq_nil_of_le (by omega)]at hq
  exact hq
theorem refCheck_p {M:Mem} {K:PV→Mem→Prop} {f1 o1 f2 o2 f3 o3 f4 o4:Bool} {ow pr:List Int} {su:List (List Int)} (B:Bnd ow pr su) (hq:K (p64 (checkM ow pr su)) M):
  SemC tab 35 [gmP f1 o1 f2 o2 f3 o3 f4 o4 ow pr su] M K:=by
 refine q11 T.h35 (by simp only[PP,P1,P2,P3,P4,P5,P6,P7,P8,P9,P10,P11,P12,P13,P14,L1,P15,N1,N2,N3,N4,N5,N6,N7,I1,I2,I3,I4,I5,I6,I7,reduceIte,reduceCtorEq]) ?_
 simp only[af35,PP,P1,P2,P3,P4,P5,P6,P7,P8,P9,P10,P11,P12,P13,P14,L1,P15,N1,N2,N3,N4,N5,N6,N7,I1,I2,I3,I4,I5,I6,I7,reduceIte,reduceCtorEq,checkM]at hq ⊢
 refine QIf.intro (fun c1=>?_) (fun c1=>?_)
 ·simp only[PP,P1,P2,P3,P4,P5,P6,P7,P8,P9,P10,P11,P12,P13,P14,L1,P15,N1,N2,N3,N4,N5,N6,N7,I1,I2,I3,I4,I5,I6,I7,reduceIte,reduceCtorEq,c1]at hq ⊢
  exact hq
 simp only[PP,P1,P2,P3,P4,P5,P6,P7,P8,P9,P10,P11,P12,P13,P14,L1,P15,N1,N2,N3,N4,N5,N6,N7,I1,I2,I3,I4,I5,I6,I7,reduceIte,reduceCtorEq,c1]at hq ⊢
 refine QIf.intro (fun c2=>?_) (fun c2=>?_)
 ·simp only[PP,P1,P2,P3,P4,P5,P6,P7,P8,P9,P10,P11,P12,P13,P14,L1,P15,N1,N2,N3,N4,N5,N6,N7,I1,I2,I3,I4,I5,I6,I7,reduceIte,reduceCtorEq,c2]at hq ⊢
  exact hq
 simp only[PP,P1,P2,P3,P4,P5,P6,P7,P8,P9,P10,P11,P12,P13,P14,L1,P15,N1,N2,N3,N4,N5,N6,N7,I1,I2,I3,I4,I5,I6,I7,reduceIte,reduceCtorEq,c2]at hq ⊢
 refine QIf.intro (fun c3=>?_) (fun c3=>?_)
 rotate_left
 ·simp only[PP,P1,P2,P3,P4,P5,P6,P7,P8,P9,P10,P11,P12,P13,P14,L1,P15,N1,N2,N3,N4,N5,N6,N7,I1,I2,I3,I4,I5,I6,I7,reduceIte,reduceCtorEq,c3]at hq ⊢
  exact hq
 simp only[PP,P1,P2,P3,P4,P5,P6,P7,P8,P9,P10,P11,P12,P13,P14,L1,P15,N1,N2,N3,N4,N5,N6,N7,I1,I2,I3,I4,I5,I6,I7,reduceIte,reduceCtorEq,c3]at hq ⊢
 refine QIf.intro (fun c4=>?_) (fun c4=>?_)
 rotate_left
 ·simp only[PP,P1,P2,P3,P4,P5,P6,P7,P8,P9,P10,P11,P12,P13,P14,L1,P15,N1,N2,N3,N4,N5,N6,N7,I1,I2,I3,I4,I5,I6,I7,reduceIte,reduceCtorEq,c4]at hq ⊢
  exact hq
 simp only[PP,P1,P2,P3,P4,P5,P6,P7,P8,P9,P10,P11,P12,P13,P14,L1,P15,N1,N2,N3,N4,N5,N6,N7,I1,I2,I3,I4,I5,I6,I7,reduceIte,reduceCtorEq,c4]at hq ⊢
 have d4:su.length=ow.length:=by omega
 refine loop1 (fun(k:Nat)=>k≤su.length∧K (p64 (checkLoop ow pr k (su.drop k))) M) (fun k=>[Zj,.ptr 0 0 0,Zj,p64 ow.length,p64 k,Zj,Zj,Zj,Zj,Zj,Zj,Zj,Zj,Zj,Zj,Zj,Zj,Zj,Zj,Zj,Zj,Zj,Zj,Zj,Zj,Zj,Zj,Zj,Zj,Zj,Zj,Zj,Zj,Zj,Zj,Zj,Zj,Zj,Zj,Zj,Zj,Zj,Zj,Zj,Zj,Zj,Zj,Zj,Zj,Zj,Zj,Zj,Zj,Zj,Zj,Zj,Zj,Zj,Zj,Zj,Zj,Zj,Zj,Zj]) (fun _=>[.cells 0 0 [slI f1 o1 .u8 ow,slI f2 o2 .i64 pr,slR f3 o3 f4 o4 .i64 su]]) (fun k=>su.length-k) 0 ⟨by omega,hq⟩ (by simp only[PW,Int.cast_ofNat_Int,d4]) rfl ?_
 intro k ⟨hle,hq⟩ ih
 refine q15 (by kernel_rfl) ?_
 simp only[PP,P1,P2,P3,P4,P5,P6,P7,P8,P9,P10,P11,P12,P13,P14,L1,P15,N1,N2,N3,N4,N5,N6,N7,I1,I2,I3,I4,I5,I6,I7,reduceIte,reduceCtorEq]
 refine QIf.intro (fun c=>?_) (fun c=>?_)
 ·have hk':k<su.length:=by omega
  have g1:su[k]? =some su[k]:=List.getElem?_eq_getElem hk'
  have g2:ow[k]? =some ow[k]:=List.getElem?_eq_getElem (by omega)
  have g3:pr[k]? =some pr[k]:=List.getElem?_eq_getElem (by omega)
  have h0:(0:Int)≤k:=by omega
  have hw:=q10 (k:=k) (by have:=B.s;omega)
  have e2:ow.getD k 0=ow[k]:=by simp[List.getD,g2]
  have e3:pr.getD k 0=pr[k]:=by simp[List.getD,g3]
  rw[q50 hk']at hq
  have hks:(k:Int)<su.length:=by omega
  have hkp:(k:Int)<pr.length:=by omega
  simp only[PP,P1,P2,P3,P4,P5,P6,P7,P8,P9,P10,P11,P12,P13,P14,L1,P15,N1,N2,N3,N4,N5,N6,N7,I1,I2,I3,I4,I5,I6,I7,reduceIte,reduceCtorEq,checkLoop,c,g1,g2,g3,h0,e2,e3,hks,hkp]at hq ⊢
  refine QIf.intro (fun h1=>?_) (fun h1=>?_)
  ·simp only[PP,P1,P2,P3,P4,P5,P6,P7,P8,P9,P10,P11,P12,P13,P14,L1,P15,N1,N2,N3,N4,N5,N6,N7,I1,I2,I3,I4,I5,I6,I7,reduceIte,reduceCtorEq,h1]at hq ⊢
   exact hq
  simp only[PP,P1,P2,P3,P4,P5,P6,P7,P8,P9,P10,P11,P12,P13,P14,L1,P15,N1,N2,N3,N4,N5,N6,N7,I1,I2,I3,I4,I5,I6,I7,reduceIte,reduceCtorEq,h1,g3,hkp,h0]at hq ⊢
  refine QIf.intro (fun h2=>?_) (fun h2=>?_)
  ·simp only[PP,P1,P2,P3,P4,P5,P6,P7,P8,P9,P10,P11,P12,P13,P14,L1,P15,N1,N2,N3,N4,N5,N6,N7,I1,I2,I3,I4,I5,I6,I7,reduceIte,reduceCtorEq,h2]at hq ⊢
   exact hq
  simp only[PP,P1,P2,P3,P4,P5,P6,P7,P8,P9,P10,P11,P12,P13,P14,L1,P15,N1,N2,N3,N4,N5,N6,N7,I1,I2,I3,I4,I5,I6,I7,reduceIte,reduceCtorEq,h2,g3,hkp,h0]at hq ⊢
  refine QIf.intro (fun h3=>?_) (fun h3=>?_)
  ·simp only[PP,P1,P2,P3,P4,P5,P6,P7,P8,P9,P10,P11,P12,P13,P14,L1,P15,N1,N2,N3,N4,N5,N6,N7,I1,I2,I3,I4,I5,I6,I7,reduceIte,reduceCtorEq,h3]at hq ⊢
   exact hq
  simp only[PP,P1,P2,P3,P4,P5,P6,P7,P8,P9,P10,P11,P12,P13,P14,L1,P15,N1,N2,N3,N4,N5,N6,N7,I1,I2,I3,I4,I5,I6,I7,reduceIte,reduceCtorEq,h3,g1,hks,h0]at hq ⊢
  refine QIf.intro (fun h4=>?_) (fun h4=>?_)
  ·simp only[PP,P1,P2,P3,P4,P5,P6,P7,P8,P9,P10,P11,P12,P13,P14,L1,P15,N1,N2,N3,N4,N5,N6,N7,I1,I2,I3,I4,I5,I6,I7,reduceIte,reduceCtorEq,h4]at hq ⊢
   exact hq
  simp only[PP,P1,P2,P3,P4,P5,P6,P7,P8,P9,P10,P11,P12,P13,P14,L1,P15,N1,N2,N3,N4,N5,N6,N7,I1,I2,I3,I4,I5,I6,I7,reduceIte,reduceCtorEq,h4,g1,hks,h0]at hq ⊢
  refine rises_p T (B.r _ (List.getElem_mem hk')) ?_
  simp only[PP,P1,P2,P3,P4,P5,P6,P7,P8,P9,P10,P11,P12,P13,P14,L1,P15,N1,N2,N3,N4,N5,N6,N7,I1,I2,I3,I4,I5,I6,I7,reduceIte,reduceCtorEq]
  by_cases h5:posM ow.length (-1) su[k]=true
  ·simp only[PP,P1,P2,P3,P4,P5,P6,P7,P8,P9,P10,P11,P12,P13,P14,L1,P15,N1,N2,N3,N4,N5,N6,N7,I1,I2,I3,I4,I5,I6,I7,reduceIte,reduceCtorEq,h5,hw]at hq ⊢
   exact q8 (ih (k+1) ⟨by omega,hq⟩ (by omega)) (by simp only[PW])
  ·simp only[PP,P1,P2,P3,P4,P5,P6,P7,P8,P9,P10,P11,P12,P13,P14,L1,P15,N1,N2,N3,N4,N5,N6,N7,I1,I2,I3,I4,I5,I6,I7,reduceIte,reduceCtorEq,h5]at hq ⊢
   exact hq
 ·simp only[PP,P1,P2,P3,P4,P5,P6,P7,P8,P9,P10,P11,P12,P13,P14,L1,P15,N1,N2,N3,N4,N5,N6,N7,I1,I2,I3,I4,I5,I6,I7,reduceIte,reduceCtorEq,c]
  rw[List.drop_eq_nil_of_le (by omega)]at hq
  exact hq
theorem long_p {M:Mem} {K:PV→Mem→Prop} {f1 o1 f2 o2 f3 o3 f4 o4 f5 o5 f6 o6:Bool} {ow pr:List Int} {su ls:List (List Int)} (hl:ls.length<big) (hq:K (.bool (longM ow pr su ls)) M):
  SemC tab 40 [gmP f1 o1 f2 o2 f3 o3 f4 o4 ow pr su,slR f5 o5 f6 o6 .i64 ls] M K:=by
 refine q11 T.h40 (by simp only[PP,P1,P2,P3,P4,P5,P6,P7,P8,P9,P10,P11,P12,P13,P14,L1,P15,N1,N2,N3,N4,N5,N6,N7,I1,I2,I3,I4,I5,I6,I7,reduceIte,reduceCtorEq]) ?_
 simp only[af40,PP,P1,P2,P3,P4,P5,P6,P7,P8,P9,P10,P11,P12,P13,P14,L1,P15,N1,N2,N3,N4,N5,N6,N7,I1,I2,I3,I4,I5,I6,I7,reduceIte,reduceCtorEq,longM]at hq ⊢
 refine QIf.intro (fun c1=>?_) (fun c1=>?_)
 ·simp only[PP,P1,P2,P3,P4,P5,P6,P7,P8,P9,P10,P11,P12,P13,P14,L1,P15,N1,N2,N3,N4,N5,N6,N7,I1,I2,I3,I4,I5,I6,I7,reduceIte,reduceCtorEq,c1]at hq ⊢
  exact hq
 simp only[PP,P1,P2,P3,P4,P5,P6,P7,P8,P9,P10,P11,P12,P13,P14,L1,P15,N1,N2,N3,N4,N5,N6,N7,I1,I2,I3,I4,I5,I6,I7,reduceIte,reduceCtorEq,c1]at hq ⊢
 refine QIf.intro (fun c2=>?_) (fun c2=>?_)
 ·simp only[PP,P1,P2,P3,P4,P5,P6,P7,P8,P9,P10,P11,P12,P13,P14,L1,P15,N1,N2,N3,N4,N5,N6,N7,I1,I2,I3,I4,I5,I6,I7,reduceIte,reduceCtorEq,c2]at hq ⊢
  exact hq
 simp only[PP,P1,P2,P3,P4,P5,P6,P7,P8,P9,P10,P11,P12,P13,P14,L1,P15,N1,N2,N3,N4,N5,N6,N7,I1,I2,I3,I4,I5,I6,I7,reduceIte,reduceCtorEq,c2]at hq ⊢
 refine QIf.intro (fun c3=>?_) (fun c3=>?_)
 ·simp only[PP,P1,P2,P3,P4,P5,P6,P7,P8,P9,P10,P11,P12,P13,P14,L1,P15,N1,N2,N3,N4,N5,N6,N7,I1,I2,I3,I4,I5,I6,I7,reduceIte,reduceCtorEq,c3]at hq ⊢
  exact hq
 simp only[PP,P1,P2,P3,P4,P5,P6,P7,P8,P9,P10,P11,P12,P13,P14,L1,P15,N1,N2,N3,N4,N5,N6,N7,I1,I2,I3,I4,I5,I6,I7,reduceIte,reduceCtorEq,c3]at hq ⊢
 refine loop1 (fun(k:Nat)=>k≤su.length∧K (.bool (if anyLong (su.drop k)=true then true else anyLong ls)) M) (fun k=>[Zj,slR f5 o5 f6 o6 .i64 ls,.ptr 0 0 0,Zj,Zj,p64 k,Zj,Zj,Zj,Zj,Zj,Zj,Zj,Zj,Zj,Zj,Zj,Zj,Zj,Zj,Zj,Zj,Zj,Zj,Zj,Zj,Zj,Zj,Zj,Zj,Zj,Zj,Zj,Zj,Zj,Zj,Zj,Zj,Zj,Zj,Zj,Zj,Zj,Zj,Zj,Zj,Zj,Zj,Zj]) (fun _=>[.cells 0 0 [slI f1 o1 .u8 ow,slI f2 o2 .i64 pr,slR f3 o3 f4 o4 .i64 su]]) (fun k=>su.length-k) 0 ⟨by omega,hq⟩ (by simp only[PW]) rfl ?_
 intro k ⟨hle,hq⟩ ih
 refine q15 (by kernel_rfl) ?_
 simp only[PP,P1,P2,P3,P4,P5,P6,P7,P8,P9,P10,P11,P12,P13,P14,L1,P15,N1,N2,N3,N4,N5,N6,N7,I1,I2,I3,I4,I5,I6,I7,reduceIte,reduceCtorEq]
 refine QIf.intro (fun c=>?_) (fun c=>?_)
 ·have hk':k<su.length:=by omega
  have g1:su[k]? =some su[k]:=List.getElem?_eq_getElem hk'
  have h0:(0:Int)≤k:=by omega
  have hw:=q10 (k:=k) (by show k<1000000000000;omega)
  rw[q50 hk']at hq
  simp only[PP,P1,P2,P3,P4,P5,P6,P7,P8,P9,P10,P11,P12,P13,P14,L1,P15,N1,N2,N3,N4,N5,N6,N7,I1,I2,I3,I4,I5,I6,I7,reduceIte,reduceCtorEq,c,g1,h0,anyLong]at hq ⊢
  refine QIf.intro (fun h1=>?_) (fun h1=>?_)
  ·simp only[PP,P1,P2,P3,P4,P5,P6,P7,P8,P9,P10,P11,P12,P13,P14,L1,P15,N1,N2,N3,N4,N5,N6,N7,I1,I2,I3,I4,I5,I6,I7,reduceIte,reduceCtorEq,h1]at hq ⊢
   exact hq
  simp only[PP,P1,P2,P3,P4,P5,P6,P7,P8,P9,P10,P11,P12,P13,P14,L1,P15,N1,N2,N3,N4,N5,N6,N7,I1,I2,I3,I4,I5,I6,I7,reduceIte,reduceCtorEq,h1,hw]at hq ⊢
  exact q8 (ih (k+1) ⟨by omega,hq⟩ (by omega)) (by simp only[PW])
 ·rw[List.drop_eq_nil_of_le (by omega)]at hq
  simp only[PP,P1,P2,P3,P4,P5,P6,P7,P8,P9,P10,P11,P12,P13,P14,L1,P15,N1,N2,N3,N4,N5,N6,N7,I1,I2,I3,I4,I5,I6,I7,reduceIte,reduceCtorEq,c,anyLong]at hq ⊢
  refine loop1 (fun(k:Nat)=>k≤ls.length∧K (.bool (anyLong (ls.drop k))) M) (fun k=>[Zj,slR f5 o5 f6 o6 .i64 ls,Zj,Zj,Zj,Zj,p64 k,Zj,Zj,Zj,Zj,Zj,Zj,Zj,Zj,Zj,Zj,Zj,Zj,Zj,Zj,Zj,Zj,Zj,Zj,Zj,Zj,Zj,Zj,Zj,Zj,Zj,Zj,Zj,Zj,Zj,Zj,Zj,Zj,Zj,Zj,Zj,Zj,Zj,Zj,Zj,Zj,Zj,Zj]) (fun _=>[.cells 0 0 [slI f1 o1 .u8 ow,slI f2 o2 .i64 pr,slR f3 o3 f4 o4 .i64 su]]) (fun k=>ls.length-k) 0 ⟨by omega,hq⟩ (by simp only[PW]) rfl ?_
  intro k ⟨hle,hq⟩ ih
  refine q15 (by kernel_rfl) ?_
  simp only[PP,P1,P2,P3,P4,P5,P6,P7,P8,P9,P10,P11,P12,P13,P14,L1,P15,N1,N2,N3,N4,N5,N6,N7,I1,I2,I3,I4,I5,I6,I7,reduceIte,reduceCtorEq]
  refine QIf.intro (fun c=>?_) (fun c=>?_)
  ·have hk':k<ls.length:=by omega
   have g1:ls[k]? =some ls[k]:=List.getElem?_eq_getElem hk'
   have h0:(0:Int)≤k:=by omega
   have hw:=q10 (k:=k) (by omega)
   rw[q50 hk']at hq
   simp only[PP,P1,P2,P3,P4,P5,P6,P7,P8,P9,P10,P11,P12,P13,P14,L1,P15,N1,N2,N3,N4,N5,N6,N7,I1,I2,I3,I4,I5,I6,I7,reduceIte,reduceCtorEq,c,g1,h0,anyLong]at hq ⊢
   refine QIf.intro (fun h1=>?_) (fun h1=>?_)
   ·simp only[PP,P1,P2,P3,P4,P5,P6,P7,P8,P9,P10,P11,P12,P13,P14,L1,P15,N1,N2,N3,N4,N5,N6,N7,I1,I2,I3,I4,I5,I6,I7,reduceIte,reduceCtorEq,h1]at hq ⊢
    exact hq
   simp only[PP,P1,P2,P3,P4,P5,P6,P7,P8,P9,P10,P11,P12,P13,P14,L1,P15,N1,N2,N3,N4,N5,N6,N7,I1,I2,I3,I4,I5,I6,I7,reduceIte,reduceCtorEq,h1,hw]at hq ⊢
   exact q8 (ih (k+1) ⟨by omega,hq⟩ (by omega)) (by simp only[PW])
  ·rw[List.drop_eq_nil_of_le (by omega)]at hq
   simp only[PP,P1,P2,P3,P4,P5,P6,P7,P8,P9,P10,P11,P12,P13,P14,L1,P15,N1,N2,N3,N4,N5,N6,N7,I1,I2,I3,I4,I5,I6,I7,reduceIte,reduceCtorEq,c,anyLong]at hq ⊢
   exact hq
end
abbrev gz:PV:= .agg [.nils,.nils,.nils]
theorem checkLoop_row {ow pr:List Int} :∀{su:List (List Int)} {k:Nat},checkLoop ow pr k su=0→∀(i:Nat) (hi:i<su.length),0≤pr.getD (k+i) 0∧pr.getD (k+i) 0≤16∧ow.getD (k+i) 0≤1∧0<su[i].length∧posM ow.length (-1) su[i]=true
 | [],k,h,i,hi=>by simp at hi
 | row::su,k,h,i,hi=>by
  unfold checkLoop at h
  split at h
  ·simp at h
  ·split at h
   ·simp at h
   ·split at h
    ·simp at h
    ·split at h
     ·simp at h
     ·split at h
      ·simp at h
      ·rename_i h1 h2 h3 h4 h5
       cases i with
       | zero=>exact⟨by simpa using h2,by simpa using h3,by simpa using h1,by simp only[List.getElem_cons_zero];omega,by simpa using h5⟩
       | succ i=>
        have:=checkLoop_row h i (by simpa using hi)
        simpa [Nat.add_assoc,Nat.add_comm 1 i] using this
structure Valid (ow pr:List Int) (su:List (List Int)):Prop where
 n0:0<ow.length
 n1:ow.length≤4096
 p:pr.length=ow.length
 s:su.length=ow.length
 row:∀(i:Nat) (hi:i<su.length),0≤pr.getD i 0∧pr.getD i 0≤16∧ow.getD i 0≤1∧0<su[i].length∧posM ow.length (-1) su[i]=true
theorem q22 {ow pr:List Int} {su:List (List Int)} (h:checkM ow pr su=0):Valid ow pr su:=by
 obtain⟨h1,h2,h3,h4,h5⟩:=checkM_len h
 exact⟨h1,h2,h3,h4,fun i hi=>by simpa using checkLoop_row h5 i hi⟩
theorem wk_attr (e:Int):PvWk (.tuple [.nils,.nils,p64 e]) (.tuple [slI false true .i64 [],slI false true .i64 [],p64 e]):=by
 refine PvWk.tuple rfl fun i y z h1 h2=>?_
 match i with
 | 0=>cases h1;cases h2;exact PvWk.nils _ _ _
 | 1=>cases h1;cases h2;exact PvWk.nils _ _ _
 | 2=>cases h1;cases h2;exact PvWk.refl _
 | i+3=>simp at h1
theorem nodup_lenN:∀(n:Nat) (l:List Nat),l.Nodup→(∀x∈l,x<n)→l.length≤n
 | 0,l,_,h=>by
  cases l with
  | nil=>simp
  | cons x l=>have:=h x (by simp);omega
 | n+1,l,hd,h=>by
  have:=nodup_lenN n (l.filter fun x=>x !=n) (hd.filter _) (fun x hx=>by
   rw[List.mem_filter]at hx
   have:=h x hx.1
   have:x≠n:=by simpa using hx.2
   omega)
  have h2:l.length≤(l.filter fun x=>x !=n).length+1:=by
   clear this h
   induction l with
   | nil=>simp
   | cons x l ih=>
    rw[List.nodup_cons]at hd
    by_cases e:x=n
    ·subst e
     have:l.filter (fun y=>y !=x)=l:=by
      rw[List.filter_eq_self]
      intro y hy
      have:y≠x:=fun q=>hd.1 (q▸hy)
      simpa using this
     simp[this]
    ·have:=ih hd.2
     have hx:(x !=n)=true:=by simpa using e
     simp only[List.filter_cons,hx,if_true,List.length_cons]
     omega
  omega
theorem prem {k:IntKind} {x y:Int} (h:y≠0):pbin .rem (.int k x) (.int k y)=some (.int k (x.tmod y)):=by
 simp[pbin,q65,abin,q31,h,q54,binInt]
abbrev natI (l:List Nat):List Int:=l.map fun(v:Nat)=>(v:Int)
theorem mem_natI {l:List Nat} {v:Nat} :(v:Int)∈natI l↔v∈l:=by
 rw[List.mem_map]
 exact⟨fun⟨a,h1,h2⟩=>by rw[show v=a by omega];exact h1,fun h=>⟨v,h,rfl⟩⟩
theorem posM_rise {n:Int} :∀{l:List Int} {last:Int},posM n last l=true→l.Pairwise (· < ·)∧∀x∈l,last<x∧x<n
 | [],_,_=>⟨.nil,fun x hx=>by cases hx⟩
 | v::l,last,h=>by
  unfold posM at h
  split at h
  ·simp at h
  ·split at h
   ·simp at h
   ·obtain⟨h1,h2⟩:=posM_rise h
    refine⟨.cons (fun x hx=>(h2 x hx).1) h1,fun x hx=>?_⟩
    rcases List.mem_cons.1 hx with rfl | hx
    ·omega
    ·have:=h2 x hx;omega
theorem su_range {ow pr:List Int} {su:List (List Int)} (V:Valid ow pr su) {v:Nat} {u:Int} (hv:v<ow.length) (h:u∈su.getD v []):0≤u∧u<ow.length:=by
 have hvs:v<su.length:=by have:=V.s;omega
 obtain⟨_,_,_,_,hp⟩:=V.row v hvs
 rw[List.getD,List.getElem?_eq_getElem hvs]at h
 have:=(posM_rise hp).2 u h
 omega
theorem SemC_true {tab:FuncId→Option AF} {g:FuncId} (hg:tab g=some (.prim primTrue)) {M:Mem} {K:PV→Mem→Prop} (hk:K (.bool true) M):SemC tab g [] M K:=by
 intro w h args' h0 s ha
 have:args'=[]:=List.length_eq_zero_iff.1 (by simpa using ha.len.symm)
 subst this
 unfold C
 refine⟨.bool true,h,?_,w,.bool true,M,PStp.refl (Nat.le_refl _) w h,s,.bool true,hk⟩
 rw[lim_call]
 simp only[acallF,hg,primTrue]
theorem QIf_both {p A B G:Prop} {t:QTag A B} (h1:p→G→A) (h2:¬p→G→B) (g:G):QIf p A B t:=QIf.intro (fun c=>h1 c g) (fun c=>h2 c g)
section
variable {tab:FuncId→Option AF} (T:HasA tab)
include T
end
end Go.Am.Ar

