/- A calculus for runs of the abstract machine: code as a transformer of conditions, in the form of equations for the simplifier. -/
import Derived.Test.YtbcdfmecpjbeaaaDoorAmLim
set_option linter.unusedVariables false
set_option linter.unusedSimpArgs false
namespace Go.Am
section
variable (L:Rec)
def W (c:AC) (a:List AV) (h:H) (Qn Qr:List AV→H→Prop) (Qe:Nat→List AV→H→Prop):Prop:=
 ∃e a' h',q8 L c a h=some (e,a',h')∧match e with
  | .normal=>Qn a' h'
  | .ret=>Qr a' h'
  | .exit i=>Qe i a' h'
def WO (os:List AOper) (a:List AV) (h:H) (Q:List AV→H→Prop):Prop:=∃a' h',aops L os a h=some (a',h')∧Q a' h'
def KSeq (y:AC) (Qn Qr:List AV→H→Prop) (Qe:Nat→List AV→H→Prop) (a:List AV) (h:H):Prop:=W L y a h Qn Qr Qe
def KBlock (id:Nat) (Qn:List AV→H→Prop) (Qe:Nat→List AV→H→Prop) (i:Nat) (a:List AV) (h:H):Prop:=if i=id then Qn a h else Qe i a h
def WL (sc:List Nat) (x:AC) (Qn Qr:List AV→H→Prop) (Qe:Nat→List AV→H→Prop) (a:List AV) (h:H):Prop:=W L (.loop sc x) a h Qn Qr Qe
theorem W_skip (a:List AV) (h:H) (Qn Qr:List AV→H→Prop) (Qe:Nat→List AV→H→Prop):W L .skip a h Qn Qr Qe=Qn a h:=by
 apply propext
 constructor
 ·rintro⟨e,a',h',he,hq⟩;simp only[q8]at he;cases he;exact hq
 ·intro hq;exact⟨.normal,a,h,rfl,hq⟩
theorem W_ret (a:List AV) (h:H) (Qn Qr:List AV→H→Prop) (Qe:Nat→List AV→H→Prop):W L .ret a h Qn Qr Qe=Qr a h:=by
 apply propext
 constructor
 ·rintro⟨e,a',h',he,hq⟩;simp only[q8]at he;cases he;exact hq
 ·intro hq;exact⟨.ret,a,h,rfl,hq⟩
theorem W_exit (i:Nat) (a:List AV) (h:H) (Qn Qr:List AV→H→Prop) (Qe:Nat→List AV→H→Prop):W L (.exit i) a h Qn Qr Qe=Qe i a h:=by
 apply propext
 constructor
 ·rintro⟨e,a',h',he,hq⟩;simp only[q8]at he;cases he;exact hq
 ·intro hq;exact⟨.exit i,a,h,rfl,hq⟩
theorem W_region (os:List AOper) (a:List AV) (h:H) (Qn Qr:List AV→H→Prop) (Qe:Nat→List AV→H→Prop):W L (.region os) a h Qn Qr Qe=WO L os a h Qn:=by
 apply propext
 constructor
 ·rintro⟨e,a',h',he,hq⟩
  simp only[q8]at he
  split at he
  ·rename_i a1 h1 ho
   injection he with he;injection he with e1 e2;injection e2 with e2 e3
   subst e1;subst e2;subst e3
   exact⟨_,_,ho,hq⟩
  ·cases he
 ·rintro⟨a',h',he,hq⟩
  exact⟨.normal,a',h',by simp only[q8,he],hq⟩
theorem W_seq (x y:AC) (a:List AV) (h:H) (Qn Qr:List AV→H→Prop) (Qe:Nat→List AV→H→Prop):W L (.seq x y) a h Qn Qr Qe=W L x a h (KSeq L y Qn Qr Qe) Qr Qe:=by
 apply propext
 constructor
 ·rintro⟨e,a',h',he,hq⟩
  simp only[q8]at he
  split at he
  ·rename_i a1 h1 ho
   exact⟨.normal,a1,h1,ho,⟨e,a',h',he,hq⟩⟩
  ·rename_i hne
   refine⟨e,a',h',he,?_⟩
   cases e with
   | normal=>exact absurd he (hne _ _)
   | _=>exact hq
 ·rintro⟨e,a',h',he,hq⟩
  cases e with
  | normal=>
   obtain⟨e,a2,h2,h3,hq⟩:=hq
   exact⟨e,a2,h2,by simp only[q8,he,h3],hq⟩
  | ret=>exact⟨.ret,a',h',by simp only[q8,he],hq⟩
  | exit i=>exact⟨.exit i,a',h',by simp only[q8,he],hq⟩
theorem KSeq_eq (y:AC) (Qn Qr:List AV→H→Prop) (Qe:Nat→List AV→H→Prop) (a:List AV) (h:H):KSeq L y Qn Qr Qe a h=W L y a h Qn Qr Qe:=rfl
theorem KBlock_eq (id:Nat) (Qn:List AV→H→Prop) (Qe:Nat→List AV→H→Prop) (i:Nat) (a:List AV) (h:H):KBlock id Qn Qe i a h=if i=id then Qn a h else Qe i a h:=rfl
theorem W_block (id:Nat) (x:AC) (a:List AV) (h:H) (Qn Qr:List AV→H→Prop) (Qe:Nat→List AV→H→Prop):W L (.block id x) a h Qn Qr Qe=W L x a h Qn Qr (KBlock id Qn Qe):=by
 apply propext
 constructor
 ·rintro⟨e,a',h',he,hq⟩
  simp only[q8]at he
  split at he
  ·rename_i i a1 h1 ho
   refine⟨.exit i,a1,h1,ho,?_⟩
   split at he
   ·rename_i hi;cases he;show KBlock _ _ _ _ _ _;rw[KBlock_eq,if_pos hi];exact hq
   ·rename_i hi;cases he;show KBlock _ _ _ _ _ _;rw[KBlock_eq,if_neg hi];exact hq
  ·rename_i hne
   refine⟨e,a',h',he,?_⟩
   cases e with
   | exit i=>exact absurd he (hne _ _ _)
   | _=>exact hq
 ·rintro⟨e,a',h',he,hq⟩
  cases e with
  | normal=>exact⟨.normal,a',h',by simp only[q8,he],hq⟩
  | ret=>exact⟨.ret,a',h',by simp only[q8,he],hq⟩
  | exit i=>
   have hq:KBlock _ _ _ _ _ _:=hq
   rw[KBlock_eq]at hq
   by_cases hi:i=id
   ·rw[if_pos hi]at hq;exact⟨.normal,a',h',by simp only[q8,he];rw[if_pos hi],hq⟩
   ·rw[if_neg hi]at hq;exact⟨.exit i,a',h',by simp only[q8,he];rw[if_neg hi],hq⟩
theorem W_cond0 (c:AR) (x y:AC) (a:List AV) (h:H) (Qn Qr:List AV→H→Prop) (Qe:Nat→List AV→H→Prop):
  W L (.cond c x y) a h Qn Qr Qe=∃b,ev a c= .bool b∧(if b=true then W L x a h Qn Qr Qe else W L y a h Qn Qr Qe):=by
 apply propext
 constructor
 ·rintro⟨e,a',h',he,hq⟩
  simp only[q8]at he
  split at he
  ·rename_i hc;exact⟨true,hc,by rw[if_pos rfl];exact⟨e,a',h',he,hq⟩⟩
  ·rename_i hc;exact⟨false,hc,by rw[if_neg (by simp)];exact⟨e,a',h',he,hq⟩⟩
  ·cases he
 ·rintro⟨b,hb,hq⟩
  cases b with
  | true=>rw[if_pos rfl]at hq;obtain⟨e,a',h',he,hq⟩:=hq;exact⟨e,a',h',by simp only[q8,hb];exact he,hq⟩
  | false=>rw[if_neg (by simp)]at hq;obtain⟨e,a',h',he,hq⟩:=hq;exact⟨e,a',h',by simp only[q8,hb];exact he,hq⟩
def WD (os:List AOper) (i:Nat) (a:List AV) (h:H) (log:List LogE) (Q:List AV→H→Prop):Prop:=∃a' h',aopsD L os i a h log=some (a',h')∧Q a' h'
theorem W_regionD (os:List AOper) (a:List AV) (h:H) (Qn Qr:List AV→H→Prop) (Qe:Nat→List AV→H→Prop):W L (.regionD os) a h Qn Qr Qe=WD L os 0 a h [] Qn:=by
 apply propext
 constructor
 ·rintro⟨e,a',h',he,hq⟩
  simp only[q8]at he
  split at he
  ·rename_i a1 h1 ho
   injection he with he;injection he with e1 e2;injection e2 with e2 e3
   subst e1;subst e2;subst e3
   exact⟨_,_,ho,hq⟩
  ·cases he
 ·rintro⟨a',h',he,hq⟩
  exact⟨.normal,a',h',by simp only[q8,he],hq⟩
theorem W_loop (sc:List Nat) (x:AC) (a:List AV) (h:H) (Qn Qr:List AV→H→Prop) (Qe:Nat→List AV→H→Prop) (hL:∀c a h,L.code c a h=q8 L c a h):
  W L (.loop sc x) a h Qn Qr Qe=W L x (scrub a sc) h (WL L sc x Qn Qr Qe) Qr Qe:=by
 apply propext
 constructor
 ·rintro⟨e,a',h',he,hq⟩
  simp only[q8]at he
  split at he
  ·rename_i a1 h1 ho
   refine⟨.normal,a1,h1,ho,?_⟩
   rw[hL]at he
   exact⟨e,a',h',he,hq⟩
  ·rename_i hne
   refine⟨e,a',h',he,?_⟩
   cases e with
   | normal=>exact absurd he (hne _ _)
   | _=>exact hq
 ·rintro⟨e,a',h',he,hq⟩
  cases e with
  | normal=>
   obtain⟨e,a2,h2,h3,hq⟩:=hq
   exact⟨e,a2,h2,by simp only[q8,he];rw[hL];exact h3,hq⟩
  | ret=>exact⟨.ret,a',h',by simp only[q8,he],hq⟩
  | exit i=>exact⟨.exit i,a',h',by simp only[q8,he],hq⟩
theorem WL_eq (sc:List Nat) (x:AC) (Qn Qr:List AV→H→Prop) (Qe:Nat→List AV→H→Prop) (a:List AV) (h:H):WL L sc x Qn Qr Qe a h=W L (.loop sc x) a h Qn Qr Qe:=rfl
end
attribute [irreducible] W WO KSeq KBlock WL WD
end Go.Am

