/- The abstract machine without fuel: the limit of its runs, and what goes with it. -/
import Derived.Test.YtapbgleednkimaaGreatDoorAmBase
set_option linter.unusedVariables false
set_option linter.unusedSimpArgs false
namespace Go.Am
def Evt(p:Nat->Prop):Prop:=∃n,∀m,n<=m->p m
theorem Evt.mono{p q:Nat->Prop}(h:Evt p)(k:∀m,p m->q m):Evt q:=let ⟨n,hn⟩:=h;⟨n,fun m hm=>k m (hn m hm)⟩
theorem Evt.and{p q:Nat->Prop}(h:Evt p)(k:Evt q):Evt fun m=>p m/\q m:=let ⟨n,hn⟩:=h;let ⟨l,hl⟩:=k;⟨max n l,fun m hm=>⟨hn m (by omega),hl m (by omega)⟩⟩
theorem Evt.all{p:Nat->Prop}(h:∀m,p m):Evt p:=⟨0,fun m _=>h m⟩
structure Tends (R:Nat->Rec) (L:Rec):Prop where
 code:∀c a h x,L.code c a h=some x->Evt fun m=>(R m).code c a h=some x
 call:∀g args h x,L.call g args h=some x->Evt fun m=>(R m).call g args h=some x
section
variable {R:Nat->Rec} {L:Rec}
theorem NT(ok:Tends R L){f:AV}{args:List AV}{h:H}{x:AV×H}(hx:cZ L f args h=some x):Evt fun m=>cZ (R m) f args h=some x:=by
 unfold cZ at hx;split at hx
 ·exact(ok.call _ _ _ _ hx).mono fun m hm=>by simp only[cZ];exact hm
 ·rename_i l first cap
  split at hx
  ·rename_i ver r0 hg;split at hx
   ·rename_i hl;split at hx
    ·rename_i a1 h1 hasg;have e1:=ok.code _ _ _ _ hasg;split at hx
     ·rename_i v1 lr1 hg1;split at hx
      ·rename_i hst;split at hx
       ·rename_i e x3 h3 hbody;have e2:=ok.code _ _ _ _ hbody;refine(e1.and e2).mono fun m hm=>?_;simp only[cZ,hg,if_pos hl,hm.1,hg1,if_pos hst,hm.2];exact hx
       ·cases hx
      ·cases hx
     ·cases hx
    ·cases hx
   ·cases hx
  ·cases hx
 ·split at hx
  ·rename_i hmt;exact(ok.call _ _ _ _ hx).mono fun m hm=>by simp only[cZ,hmt];exact hm
  ·cases hx
 ·cases hx
theorem CW(ok:Tends R L){o:AO}{a:List AV}{h:H}{x:AV×H×List Nat}(hx:eW L o a h=some x):Evt fun m=>eW (R m) o a h=some x:=by
 cases o with
 | call f args=>
  simp only[eW]at hx;split at hx
  ·rename_i v h' hc;refine(NT ok hc).mono fun m hm=>?_;simp only[eW,hm];exact hx
  ·cases hx
 | _=>exact Evt.all fun m=>hx
theorem zC(ok:Tends R L):∀{os:List AOper} {a:List AV} {h:H} {x:List AV×H},f8 L os a h=some x->Evt fun m=>f8 (R m) os a h=some x
 | [],a,h,x,hx=>Evt.all fun m=>hx
 | o::os,a,h,x,hx=>by
  unfold f8 at hx;split at hx
  ·rename_i hw;split at hx
   ·rename_i v h1 rd hs;refine((CW ok hs).and (zC ok hx)).mono fun m hm=>?_;unfold f8;simp only[hw,hm.1];exact hm.2
   ·cases hx
  ·rename_i hw;refine(zC ok hx).mono fun m hm=>?_;unfold f8;simp only[hw];exact hm
  ·cases hx
theorem tV(ok:Tends R L):∀{os:List AOper} {i:Nat} {a:List AV} {h:H} {log:List LogE} {x:List AV×H},dU L os i a h log=some x->Evt fun m=>dU (R m) os i a h log=some x
 | [],i,a,h,log,x,hx=>Evt.all fun m=>hx
 | o::os,i,a,h,log,x,hx=>by
  unfold dU at hx;split at hx
  ·rename_i hw;split at hx
   ·rename_i v h1 rd hs;split at hx
    ·rename_i hc;refine((CW ok hs).and (tV ok hx)).mono fun m hm=>?_;unfold dU;simp only[hw,hm.1,if_pos hc];exact hm.2
    ·cases hx
   ·cases hx
  ·rename_i hw;refine(tV ok hx).mono fun m hm=>?_;unfold dU;simp only[hw];exact hm
  ·cases hx
theorem cO(ok:Tends R L):∀{c:AC} {a:List AV} {h:H} {x:Ex×List AV×H},aJ L c a h=some x->Evt fun m=>aJ (R m) c a h=some x
 | .skip,a,h,x,hx=>Evt.all fun m=>hx
 | .ret,a,h,x,hx=>Evt.all fun m=>hx
 | .exit id,a,h,x,hx=>Evt.all fun m=>hx
 | .region ops,a,h,x,hx=>by
  simp only[aJ]at hx;split at hx
  ·rename_i a1 h1 ho;exact(zC ok ho).mono fun m hm=>by simp only[aJ,hm];exact hx
  ·cases hx
 | .regionD ops,a,h,x,hx=>by
  simp only[aJ]at hx;split at hx
  ·rename_i a1 h1 ho;exact(tV ok ho).mono fun m hm=>by simp only[aJ,hm];exact hx
  ·cases hx
 | .seq c d,a,h,x,hx=>by
  simp only[aJ]at hx;split at hx
  ·rename_i a1 h1 hc;exact((cO ok hc).and (cO ok hx)).mono fun m hm=>by simp only[aJ,hm.1];exact hm.2
  ·rename_i hne;refine(cO ok hx).mono fun m hm=>?_;obtain⟨e,a1,h1⟩:=x;simp only[aJ,hm]
   cases e with
   | normal=>exact absurd hx (hne _ _)
   | _=>rfl
 | .cond c y z,a,h,x,hx=>by
  simp only[aJ]at hx;split at hx
  ·rename_i hc;exact(cO ok hx).mono fun m hm=>by simp only[aJ,hc];exact hm
  ·rename_i hc;exact(cO ok hx).mono fun m hm=>by simp only[aJ,hc];exact hm
  ·cases hx
 | .block id y,a,h,x,hx=>by
  simp only[aJ]at hx;split at hx
  ·rename_i i a1 h1 hc;exact(cO ok hc).mono fun m hm=>by simp only[aJ,hm];exact hx
  ·rename_i hne;refine(cO ok hx).mono fun m hm=>?_;obtain⟨e,a1,h1⟩:=x;simp only[aJ,hm]
   cases e with
   | exit i=>exact absurd hx (hne _ _ _)
   | _=>rfl
 | .loop sc y,a,h,x,hx=>by
  simp only[aJ]at hx;split at hx
  ·rename_i a1 h1 hc;exact((cO ok hc).and (ok.code _ _ _ _ hx)).mono fun m hm=>by simp only[aJ,hm.1];exact hm.2
  ·rename_i hne;refine(cO ok hx).mono fun m hm=>?_;obtain⟨e,a1,h1⟩:=x;simp only[aJ,hm]
   cases e with
   | normal=>exact absurd hx (hne _ _)
   | _=>rfl
 | .rangeFunc f ps asg body,a,h,x,hx=>by
  simp only[aJ]at hx;split at hx
  ·rename_i g first cap he
   split at hx
   ·rename_i v h1 hc;split at hx
    ·rename_i ver r hg;refine(ok.call _ _ _ _ hc).mono fun m hm=>?_;simp only[aJ,he,hm,hg];exact hx
    ·cases hx
   ·cases hx
  ·cases hx
theorem qC(ok:Tends R L){tab:FuncId->Option AF}{g:FuncId}{args:List AV}{h:H}{x:AV×H}(hx:dA L tab g args h=some x):Evt fun m=>dA (R m) tab g args h=some x:=by
 unfold dA at hx;split at hx
 ·rename_i f hf;exact Evt.all fun m=>by simp only[dA,hf];exact hx
 ·rename_i F hF;split at hx
  ·rename_i a1 h1 hc;refine(cO ok hc).mono fun m hm=>?_;simp only[dA,hF,hm];exact hx
  ·rename_i a1 h1 hc;refine(cO ok hc).mono fun m hm=>?_;simp only[dA,hF,hm];exact hx
  ·cases hx
 ·cases hx
end
theorem rB(tab:FuncId->Option AF):∀n,Tends (fun _=>run tab (n+1)) (run tab n)
 | 0=>⟨fun _ _ _ _ h=>by(cases h),fun _ _ _ _ h=>by(cases h)⟩
 | n+1=>⟨fun c a h x hx=>Evt.all fun _=>by
   obtain⟨k,hk⟩:=cO (rB tab n) (show aJ (run tab n) c a h=some x from hx);exact hk k (Nat.le_refl _),fun g args h x hx=>Evt.all fun _=>by
   obtain⟨k,hk⟩:=qC (rB tab n) (show dA (run tab n) tab g args h=some x from hx);exact hk k (Nat.le_refl _)⟩
theorem kN(tab:FuncId->Option AF){n m:Nat}(h:n<=m){c:AC}{a:List AV}{w:H}{x:Ex×List AV×H}(hx:(run tab n).code c a w=some x):(run tab m).code c a w=some x:=by
 induction h with
 | refl=>exact hx
 | step _ ih=>obtain⟨k,hk⟩:=(rB tab _).code _ _ _ _ ih;exact hk k (Nat.le_refl _)
theorem kO(tab:FuncId->Option AF){n m:Nat}(h:n<=m){g:FuncId}{a:List AV}{w:H}{x:AV×H}(hx:(run tab n).call g a w=some x):(run tab m).call g a w=some x:=by
 induction h with
 | refl=>exact hx
 | step _ ih=>obtain⟨k,hk⟩:=(rB tab _).call _ _ _ _ ih;exact hk k (Nat.le_refl _)
open Classical in
noncomputable def lim(tab:FuncId->Option AF):Rec where
 code c a h:=if hx:∃x n,(run tab n).code c a h=some x then some hx.choose else none
 call g args h:=if hx:∃x n,(run tab n).call g args h=some x then some hx.choose else none
section
variable (tab:FuncId->Option AF)
theorem jE{c:AC}{a:List AV}{h:H}{x:Ex×List AV×H} :(lim tab).code c a h=some x↔∃n,(run tab n).code c a h=some x:=by
 constructor
 ·intro hx;unfold lim at hx;simp only at hx;split at hx
  ·rename_i hy;cases hx;exact hy.choose_spec
  ·cases hx
 ·rintro⟨n,hn⟩;unfold lim;simp only;have hy:∃x n,(run tab n).code c a h=some x:=⟨x,n,hn⟩;rw[dif_pos hy];obtain⟨m,hm⟩:=hy.choose_spec;have h1:=kN tab (Nat.le_max_left n m) hn;have h2:=kN tab (Nat.le_max_right n m) hm;rw[h1]at h2;exact h2.symm
theorem e9{g:FuncId}{a:List AV}{h:H}{x:AV×H} :(lim tab).call g a h=some x↔∃n,(run tab n).call g a h=some x:=by
 constructor
 ·intro hx;unfold lim at hx;simp only at hx;split at hx
  ·rename_i hy;cases hx;exact hy.choose_spec
  ·cases hx
 ·rintro⟨n,hn⟩;unfold lim;simp only;have hy:∃x n,(run tab n).call g a h=some x:=⟨x,n,hn⟩;rw[dif_pos hy];obtain⟨m,hm⟩:=hy.choose_spec;have h1:=kO tab (Nat.le_max_left n m) hn;have h2:=kO tab (Nat.le_max_right n m) hm;rw[h1]at h2;exact h2.symm
theorem BG:Tends (run tab) (lim tab) where
 code c a h x hx:=let ⟨n,hn⟩:=(jE tab).1 hx;⟨n,fun m hm=>kN tab hm hn⟩
 call g a h x hx:=let ⟨n,hn⟩:=(e9 tab).1 hx;⟨n,fun m hm=>kO tab hm hn⟩
theorem BF(n:Nat):Tends (fun _=>lim tab) (run tab n) where
 code c a h x hx:=Evt.all fun _=>(jE tab).2 ⟨n,hx⟩
 call g a h x hx:=Evt.all fun _=>(e9 tab).2 ⟨n,hx⟩
theorem rJ(c:AC)(a:List AV)(h:H):(lim tab).code c a h=aJ (lim tab) c a h:=by
 apply Option.ext;intro x;constructor
 ·intro hx;obtain⟨n,hn⟩:=(jE tab).1 hx
  cases n with
  | zero=>cases hn
  | succ n=>obtain⟨k,hk⟩:=cO (BF tab n) (show aJ (run tab n) c a h=some x from hn);exact hk k (Nat.le_refl _)
 ·intro hx;obtain⟨n,hn⟩:=cO (BG tab) hx;exact(jE tab).2 ⟨n+1,hn n (Nat.le_refl _)⟩
theorem rK(g:FuncId)(a:List AV)(h:H):(lim tab).call g a h=dA (lim tab) tab g a h:=by
 apply Option.ext;intro x;constructor
 ·intro hx;obtain⟨n,hn⟩:=(e9 tab).1 hx
  cases n with
  | zero=>cases hn
  | succ n=>obtain⟨k,hk⟩:=qC (BF tab n) (show dA (run tab n) tab g a h=some x from hn);exact hk k (Nat.le_refl _)
 ·intro hx;obtain⟨n,hn⟩:=qC (BG tab) hx;exact(e9 tab).2 ⟨n+1,hn n (Nat.le_refl _)⟩
end
section
variable (L:Rec)
def W(c:AC)(a:List AV)(h:H)(Qn Qr:List AV->H->Prop)(Qe:Nat->List AV->H->Prop):Prop:=
 ∃e a' h',aJ L c a h=some (e,a',h')/\match e with
  | .normal=>Qn a' h'
  | .ret=>Qr a' h'
  | .exit i=>Qe i a' h'
def WO(os:List AOper)(a:List AV)(h:H)(Q:List AV->H->Prop):Prop:=∃a' h',f8 L os a h=some (a',h')/\Q a' h'
def aGt(y:AC)(Qn Qr:List AV->H->Prop)(Qe:Nat->List AV->H->Prop)(a:List AV)(h:H):Prop:=W L y a h Qn Qr Qe
def t7(id:Nat)(Qn:List AV->H->Prop)(Qe:Nat->List AV->H->Prop)(i:Nat)(a:List AV)(h:H):Prop:=if i=id then Qn a h else Qe i a h
def WL(sc:List Nat)(x:AC)(Qn Qr:List AV->H->Prop)(Qe:Nat->List AV->H->Prop)(a:List AV)(h:H):Prop:=W L (.loop sc x) a h Qn Qr Qe
theorem aF9(a:List AV)(h:H)(Qn Qr:List AV->H->Prop)(Qe:Nat->List AV->H->Prop):W L .skip a h Qn Qr Qe=Qn a h:=by
 apply propext;constructor
 ·rintro⟨e,a',h',he,hq⟩;simp only[aJ]at he;cases he;exact hq
 ·intro hq;exact⟨.normal,a,h,rfl,hq⟩
theorem aHr(a:List AV)(h:H)(Qn Qr:List AV->H->Prop)(Qe:Nat->List AV->H->Prop):W L .ret a h Qn Qr Qe=Qr a h:=by
 apply propext;constructor
 ·rintro⟨e,a',h',he,hq⟩;simp only[aJ]at he;cases he;exact hq
 ·intro hq;exact⟨.ret,a,h,rfl,hq⟩
theorem aGa(i:Nat)(a:List AV)(h:H)(Qn Qr:List AV->H->Prop)(Qe:Nat->List AV->H->Prop):W L (.exit i) a h Qn Qr Qe=Qe i a h:=by
 apply propext;constructor
 ·rintro⟨e,a',h',he,hq⟩;simp only[aJ]at he;cases he;exact hq
 ·intro hq;exact⟨.exit i,a,h,rfl,hq⟩
theorem zJ(os:List AOper)(a:List AV)(h:H)(Qn Qr:List AV->H->Prop)(Qe:Nat->List AV->H->Prop):W L (.region os) a h Qn Qr Qe=WO L os a h Qn:=by
 apply propext;constructor
 ·rintro⟨e,a',h',he,hq⟩;simp only[aJ]at he;split at he
  ·rename_i a1 h1 ho;injection he with he;injection he with e1 e2;injection e2 with e2 e3;subst e1;subst e2;subst e3;exact⟨_,_,ho,hq⟩
  ·cases he
 ·rintro⟨a',h',he,hq⟩;exact⟨.normal,a',h',by simp only[aJ,he],hq⟩
theorem aED(x y:AC)(a:List AV)(h:H)(Qn Qr:List AV->H->Prop)(Qe:Nat->List AV->H->Prop):W L (.seq x y) a h Qn Qr Qe=W L x a h (aGt L y Qn Qr Qe) Qr Qe:=by
 apply propext;constructor
 ·rintro⟨e,a',h',he,hq⟩;simp only[aJ]at he;split at he
  ·rename_i a1 h1 ho;exact⟨.normal,a1,h1,ho,⟨e,a',h',he,hq⟩⟩
  ·rename_i hne;refine⟨e,a',h',he,?_⟩
   cases e with
   | normal=>exact absurd he (hne _ _)
   | _=>exact hq
 ·rintro⟨e,a',h',he,hq⟩
  cases e with
  | normal=>obtain⟨e,a2,h2,h3,hq⟩:=hq;exact⟨e,a2,h2,by simp only[aJ,he,h3],hq⟩
  | ret=>exact⟨.ret,a',h',by simp only[aJ,he],hq⟩
  | exit i=>exact⟨.exit i,a',h',by simp only[aJ,he],hq⟩
theorem R2(y:AC)(Qn Qr:List AV->H->Prop)(Qe:Nat->List AV->H->Prop)(a:List AV)(h:H):aGt L y Qn Qr Qe a h=W L y a h Qn Qr Qe:=rfl
theorem lT(id:Nat)(Qn:List AV->H->Prop)(Qe:Nat->List AV->H->Prop)(i:Nat)(a:List AV)(h:H):t7 id Qn Qe i a h=if i=id then Qn a h else Qe i a h:=rfl
theorem RT(id:Nat)(x:AC)(a:List AV)(h:H)(Qn Qr:List AV->H->Prop)(Qe:Nat->List AV->H->Prop):W L (.block id x) a h Qn Qr Qe=W L x a h Qn Qr (t7 id Qn Qe):=by
 apply propext;constructor
 ·rintro⟨e,a',h',he,hq⟩;simp only[aJ]at he;split at he
  ·rename_i i a1 h1 ho;refine⟨.exit i,a1,h1,ho,?_⟩;split at he
   ·rename_i hi;cases he;show t7 _ _ _ _ _ _;rw[lT,if_pos hi];exact hq
   ·rename_i hi;cases he;show t7 _ _ _ _ _ _;rw[lT,if_neg hi];exact hq
  ·rename_i hne;refine⟨e,a',h',he,?_⟩
   cases e with
   | exit i=>exact absurd he (hne _ _ _)
   | _=>exact hq
 ·rintro⟨e,a',h',he,hq⟩
  cases e with
  | normal=>exact⟨.normal,a',h',by simp only[aJ,he],hq⟩
  | ret=>exact⟨.ret,a',h',by simp only[aJ,he],hq⟩
  | exit i=>
   have hq:t7 _ _ _ _ _ _:=hq;rw[lT]at hq;by_cases hi:i=id
   ·rw[if_pos hi]at hq;exact⟨.normal,a',h',by simp only[aJ,he];rw[if_pos hi],hq⟩
   ·rw[if_neg hi]at hq;exact⟨.exit i,a',h',by simp only[aJ,he];rw[if_neg hi],hq⟩
theorem FD(c:AR)(x y:AC)(a:List AV)(h:H)(Qn Qr:List AV->H->Prop)(Qe:Nat->List AV->H->Prop):
  W L (.cond c x y) a h Qn Qr Qe=∃b,ev a c= .bool b/\(if b=true then W L x a h Qn Qr Qe else W L y a h Qn Qr Qe):=by
 apply propext;constructor
 ·rintro⟨e,a',h',he,hq⟩;simp only[aJ]at he;split at he
  ·rename_i hc;exact⟨true,hc,by rw[if_pos rfl];exact⟨e,a',h',he,hq⟩⟩
  ·rename_i hc;exact⟨false,hc,by rw[if_neg (by simp)];exact⟨e,a',h',he,hq⟩⟩
  ·cases he
 ·rintro⟨b,hb,hq⟩
  cases b with
  | true=>rw[if_pos rfl]at hq;obtain⟨e,a',h',he,hq⟩:=hq;exact⟨e,a',h',by simp only[aJ,hb];exact he,hq⟩
  | false=>rw[if_neg (by simp)]at hq;obtain⟨e,a',h',he,hq⟩:=hq;exact⟨e,a',h',by simp only[aJ,hb];exact he,hq⟩
def WD(os:List AOper)(i:Nat)(a:List AV)(h:H)(log:List LogE)(Q:List AV->H->Prop):Prop:=∃a' h',dU L os i a h log=some (a',h')/\Q a' h'
theorem C2(os:List AOper)(a:List AV)(h:H)(Qn Qr:List AV->H->Prop)(Qe:Nat->List AV->H->Prop):W L (.regionD os) a h Qn Qr Qe=WD L os 0 a h [] Qn:=by
 apply propext;constructor
 ·rintro⟨e,a',h',he,hq⟩;simp only[aJ]at he;split at he
  ·rename_i a1 h1 ho;injection he with he;injection he with e1 e2;injection e2 with e2 e3;subst e1;subst e2;subst e3;exact⟨_,_,ho,hq⟩
  ·cases he
 ·rintro⟨a',h',he,hq⟩;exact⟨.normal,a',h',by simp only[aJ,he],hq⟩
theorem aBv(sc:List Nat)(x:AC)(a:List AV)(h:H)(Qn Qr:List AV->H->Prop)(Qe:Nat->List AV->H->Prop)(hL:∀c a h,L.code c a h=aJ L c a h):
  W L (.loop sc x) a h Qn Qr Qe=W L x (scrub a sc) h (WL L sc x Qn Qr Qe) Qr Qe:=by
 apply propext;constructor
 ·rintro⟨e,a',h',he,hq⟩;simp only[aJ]at he;split at he
  ·rename_i a1 h1 ho;refine⟨.normal,a1,h1,ho,?_⟩;rw[hL]at he;exact⟨e,a',h',he,hq⟩
  ·rename_i hne;refine⟨e,a',h',he,?_⟩
   cases e with
   | normal=>exact absurd he (hne _ _)
   | _=>exact hq
 ·rintro⟨e,a',h',he,hq⟩
  cases e with
  | normal=>obtain⟨e,a2,h2,h3,hq⟩:=hq;exact⟨e,a2,h2,by simp only[aJ,he];rw[hL];exact h3,hq⟩
  | ret=>exact⟨.ret,a',h',by simp only[aJ,he],hq⟩
  | exit i=>exact⟨.exit i,a',h',by simp only[aJ,he],hq⟩
theorem aEE(sc:List Nat)(x:AC)(Qn Qr:List AV->H->Prop)(Qe:Nat->List AV->H->Prop)(a:List AV)(h:H):WL L sc x Qn Qr Qe a h=W L (.loop sc x) a h Qn Qr Qe:=rfl
end
attribute [irreducible] W WO aGt t7 WL WD
def RU{α:Type}(o:Option α)(k:α->Prop):Prop:=∃x,o=some x/\k x
@[congr] theorem aEH{α:Type}{o o':Option α}{k:α->Prop}(e:o=o'):RU o k=RU o' k:=by rw[e]
def C(L:Rec)(g:FuncId)(args:List AV)(h:H)(K:AV->H->Prop):Prop:=∃v h',L.call g args h=some (v,h')/\K v h'
def RZ(L:Rec)(f:AV)(args:List AV)(h:H)(K:AV->H->Prop):Prop:=∃v h',cZ L f args h=some (v,h')/\K v h'
section
variable (L:Rec) (a:List AV) (h:H) (K:AV->H->List Nat->Prop)
def aFm(x:AV)(xs:List AV):Option AV:=kE zE x xs
theorem Y1(k:IntKind)(x y:Int):aFm (.int k x) [.int k y]=some (.int k (max x y)):=by
 simp only[aFm,kE,zE];by_cases h:y>x
 ·rw[if_pos h];congr 2;omega
 ·rw[if_neg h];congr 2;omega
end
theorem aA9(k:IntKind)(x y:Int):eB .add (.int k x) (.int k y)=some (.int k (k.wrap (x+y))):=by simp[eB,bF,cB]
theorem aA1(k:IntKind)(x y:Int):eB .sub (.int k x) (.int k y)=some (.int k (k.wrap (x-y))):=by simp[eB,bF,cB]
theorem aA3(k:IntKind)(x y:Int):eB .mul (.int k x) (.int k y)=some (.int k (k.wrap (x*y))):=by simp[eB,bF,cB]
theorem aA8(k:IntKind)(x y:Int):eB .eql (.int k x) (.int k y)=some (.bool (decide (x=y))):=by simp[eB,bF,cB];rfl
theorem aA2(k:IntKind)(x y:Int):eB .neq (.int k x) (.int k y)=some (.bool (decide (x≠y))):=by simp only[eB,bF,cB,Bool.false_eq_true,if_false,if_true,ite_true];by_cases e:x=y<;>simp[e]
theorem aA4(k:IntKind)(x y:Int):eB .lss (.int k x) (.int k y)=some (.bool (decide (x<y))):=by simp[eB,bF,cB]
theorem aA5(k:IntKind)(x y:Int):eB .leq (.int k x) (.int k y)=some (.bool (decide (x<=y))):=by simp[eB,bF,cB]
theorem aA6(k:IntKind)(x y:Int):eB .gtr (.int k x) (.int k y)=some (.bool (decide (y<x))):=by simp[eB,bF,cB]
theorem aA7(k:IntKind)(x y:Int):eB .geq (.int k x) (.int k y)=some (.bool (decide (y<=x))):=by simp[eB,bF,cB]
theorem wrap64{x:Int}(h1: -9223372036854775808<=x)(h2:x<=9223372036854775807):IntKind.i64.wrap x=x:=by simp only[IntKind.wrap,IntKind.bits,IntKind.signed];simp;omega
theorem OZ{x:Int}(h1:0<=x)(h2:x<=255):IntKind.u8.wrap x=x:=by simp only[IntKind.wrap,IntKind.bits,IntKind.signed];simp;omega
def V7(res:List ARes)(Q:AV->H->Prop)(a:List AV)(h:H):Prop:=RU (cW a h res) fun vs=>Q (gI vs) h
theorem aEh(res:List ARes)(Q:AV->H->Prop)(a:List AV)(h:H):V7 res Q a h=RU (cW a h res) fun vs=>Q (gI vs) h:=rfl
def aGv(i:Nat)(a:List AV)(h:H):Prop:=False
theorem aHB{tab:FuncId->Option AF}{g:FuncId}{F:AFn}(hg:tab g=some (.fn F))(args:List AV)(h:H)(Q:AV->H->Prop):
  C (lim tab) g args h Q=W (lim tab) F.body (pD args F.ntmps) h (V7 F.results Q) (V7 F.results Q) aGv:=by
 apply propext;unfold C W V7;rw[rK];simp only[dA,hg];constructor
 ·rintro⟨v,h',he,hk⟩;split at he
  ·rename_i a1 h1 hc;split at he
   ·rename_i vs hvs;cases he;exact⟨.normal,a1,_,hc,vs,hvs,hk⟩
   ·cases he
  ·rename_i a1 h1 hc;split at he
   ·rename_i vs hvs;cases he;exact⟨.ret,a1,_,hc,vs,hvs,hk⟩
   ·cases he
  ·cases he
 ·rintro⟨e,a1,h1,hc,hk⟩
  cases e with
  | normal=>obtain⟨vs,hvs,hk⟩:=hk;exact⟨gI vs,h1,by simp only[hc,hvs],hk⟩
  | ret=>obtain⟨vs,hvs,hk⟩:=hk;exact⟨gI vs,h1,by simp only[hc,hvs],hk⟩
  | exit i=>exact hk.elim
attribute [irreducible] C RZ V7
end Go.Am

