/- A calculus for runs of the abstract machine: code as a transformer of conditions, in the form of equations for the simplifier. -/
import Derived.Test.YtbcdfmecpjbeaaaDoorAmLim
set_option linter.unusedVariables false
set_option linter.unusedSimpArgs false
namespace Go.Am
section
variable (L:Rec)
def W (c:AC) (a:List AV) (h:H) (Qn Qr:List AV→H→Prop) (Qe:Nat→List AV→H→Prop):Prop:=
 ∃e a' h',q10 L c a h=some (e,a',h')∧match e with
  | .normal=>Qn a' h'
  | .ret=>Qr a' h'
  | .exit i=>Qe i a' h'
def WO (os:List AOper) (a:List AV) (h:H) (Q:List AV→H→Prop):Prop:=∃a' h',aops L os a h=some (a',h')∧Q a' h'
def KSeq (y:AC) (Qn Qr:List AV→H→Prop) (Qe:Nat→List AV→H→Prop) (a:List AV) (h:H):Prop:=W L y a h Qn Qr Qe
def KBlock (id:Nat) (Qn:List AV→H→Prop) (Qe:Nat→List AV→H→Prop) (i:Nat) (a:List AV) (h:H):Prop:=if i=id then Qn a h else Qe i a h
def WL (sc:List Nat) (x:AC) (Qn Qr:List AV→H→Prop) (Qe:Nat→List AV→H→Prop) (a:List AV) (h:H):Prop:=W L (.loop sc x) a h Qn Qr Qe
theorem W_skip (a:List AV) (h:H) (Qn Qr:List AV→H→Prop) (Qe:Nat→List AV→H→Prop):W L .skip a h Qn Qr Qe=Qn a h:=by
 apply propext
 constructor
 ·rintro⟨e,a',h',he,hq⟩;simp only[q10]at he;cases he;exact hq
 ·intro hq;exact⟨.normal,a,h,rfl,hq⟩
theorem W_ret (a:List AV) (h:H) (Qn Qr:List AV→H→Prop) (Qe:Nat→List AV→H→Prop):W L .ret a h Qn Qr Qe=Qr a h:=by
 apply propext
 constructor
 ·rintro⟨e,a',h',he,hq⟩;simp only[q10]at he;cases he;exact hq
 ·intro hq;exact⟨.ret,a,h,rfl,hq⟩
theorem W_exit (i:Nat) (a:List AV) (h:H) (Qn Qr:List AV→H→Prop) (Qe:Nat→List AV→H→Prop):W L (.exit i) a h Qn Qr Qe=Qe i a h:=by
 apply propext
 constructor
 ·rintro⟨e,a',h',he,hq⟩;simp only[q10]at he;cases he;exact hq
 ·intro hq;exact⟨.exit i,a,h,rfl,hq⟩
theorem W_region (os:List AOper) (a:List AV) (h:H) (Qn Qr:List AV→H→Prop) (Qe:Nat→List AV→H→Prop):W L (.region os) a h Qn Qr Qe=WO L os a h Qn:=by
 apply propext
 constructor
 ·rintro⟨e,a',h',he,hq⟩
  simp only[q10]at he
  split at he
  ·rename_i a1 h1 ho
   injection he with he;injection he with e1 e2;injection e2 with e2 e3
   subst e1;subst e2;subst e3
   exact⟨_,_,ho,hq⟩
  ·cases he
 ·rintro⟨a',h',he,hq⟩
  exact⟨.normal,a',h',by simp only[q10,he],hq⟩
theorem W_seq (x y:AC) (a:List AV) (h:H) (Qn Qr:List AV→H→Prop) (Qe:Nat→List AV→H→Prop):W L (.seq x y) a h Qn Qr Qe=W L x a h (KSeq L y Qn Qr Qe) Qr Qe:=by
 apply propext
 constructor
 ·rintro⟨e,a',h',he,hq⟩
  simp only[q10]at he
  split at he
  ·rename_i a1 h1 ho
   exact⟨.normal,a1,h1,ho,⟨e,a',h',he,hq⟩⟩
  ·rename_i hne
   refine⟨e,a',h',he,?_⟩
   cases e with
   | normal=>exact absurd he (hne _ _)
   | _=>exact hq
 ·rintro⟨e,a',h',he,hq⟩
  cases e with
  | normal=>
   obtain⟨e,a2,h2,h3,hq⟩:=hq
   exact⟨e,a2,h2,by simp only[q10,he,h3],hq⟩
  | ret=>exact⟨.ret,a',h',by simp only[q10,he],hq⟩
  | exit i=>exact⟨.exit i,a',h',by simp only[q10,he],hq⟩
theorem KSeq_eq (y:AC) (Qn Qr:List AV→H→Prop) (Qe:Nat→List AV→H→Prop) (a:List AV) (h:H):KSeq L y Qn Qr Qe a h=W L y a h Qn Qr Qe:=rfl
theorem q59 (id:Nat) (Qn:List AV→H→Prop) (Qe:Nat→List AV→H→Prop) (i:Nat) (a:List AV) (h:H):KBlock id Qn Qe i a h=if i=id then Qn a h else Qe i a h:=rfl
theorem W_block (id:Nat) (x:AC) (a:List AV) (h:H) (Qn Qr:List AV→H→Prop) (Qe:Nat→List AV→H→Prop):W L (.block id x) a h Qn Qr Qe=W L x a h Qn Qr (KBlock id Qn Qe):=by
 apply propext
 constructor
 ·rintro⟨e,a',h',he,hq⟩
  simp only[q10]at he
  split at he
  ·rename_i i a1 h1 ho
   refine⟨.exit i,a1,h1,ho,?_⟩
   split at he
   ·rename_i hi;cases he;show KBlock _ _ _ _ _ _;rw[q59,if_pos hi];exact hq
   ·rename_i hi;cases he;show KBlock _ _ _ _ _ _;rw[q59,if_neg hi];exact hq
  ·rename_i hne
   refine⟨e,a',h',he,?_⟩
   cases e with
   | exit i=>exact absurd he (hne _ _ _)
   | _=>exact hq
 ·rintro⟨e,a',h',he,hq⟩
  cases e with
  | normal=>exact⟨.normal,a',h',by simp only[q10,he],hq⟩
  | ret=>exact⟨.ret,a',h',by simp only[q10,he],hq⟩
  | exit i=>
   have hq:KBlock _ _ _ _ _ _:=hq
   rw[q59]at hq
   by_cases hi:i=id
   ·rw[if_pos hi]at hq;exact⟨.normal,a',h',by simp only[q10,he];rw[if_pos hi],hq⟩
   ·rw[if_neg hi]at hq;exact⟨.exit i,a',h',by simp only[q10,he];rw[if_neg hi],hq⟩
theorem W_cond0 (c:AR) (x y:AC) (a:List AV) (h:H) (Qn Qr:List AV→H→Prop) (Qe:Nat→List AV→H→Prop):
  W L (.cond c x y) a h Qn Qr Qe=∃b,ev a c= .bool b∧(if b=true then W L x a h Qn Qr Qe else W L y a h Qn Qr Qe):=by
 apply propext
 constructor
 ·rintro⟨e,a',h',he,hq⟩
  simp only[q10]at he
  split at he
  ·rename_i hc;exact⟨true,hc,by rw[if_pos rfl];exact⟨e,a',h',he,hq⟩⟩
  ·rename_i hc;exact⟨false,hc,by rw[if_neg (by simp)];exact⟨e,a',h',he,hq⟩⟩
  ·cases he
 ·rintro⟨b,hb,hq⟩
  cases b with
  | true=>rw[if_pos rfl]at hq;obtain⟨e,a',h',he,hq⟩:=hq;exact⟨e,a',h',by simp only[q10,hb];exact he,hq⟩
  | false=>rw[if_neg (by simp)]at hq;obtain⟨e,a',h',he,hq⟩:=hq;exact⟨e,a',h',by simp only[q10,hb];exact he,hq⟩
def PCondW (v:AV) (x y:AC) (a:List AV) (h:H) (Qn Qr:List AV→H→Prop) (Qe:Nat→List AV→H→Prop):Prop:=∃b,v= .bool b∧(if b=true then W L x a h Qn Qr Qe else W L y a h Qn Qr Qe)
theorem W_cond (c:AR) (x y:AC) (a:List AV) (h:H) (Qn Qr:List AV→H→Prop) (Qe:Nat→List AV→H→Prop):W L (.cond c x y) a h Qn Qr Qe=PCondW L (ev a c) x y a h Qn Qr Qe:=W_cond0 L c x y a h Qn Qr Qe
theorem q62 (x y:AC) (a:List AV) (h:H) (Qn Qr:List AV→H→Prop) (Qe:Nat→List AV→H→Prop):PCondW L (.bool true) x y a h Qn Qr Qe=W L x a h Qn Qr Qe:=by simp[PCondW]
theorem q52 (x y:AC) (a:List AV) (h:H) (Qn Qr:List AV→H→Prop) (Qe:Nat→List AV→H→Prop):PCondW L (.bool false) x y a h Qn Qr Qe=W L y a h Qn Qr Qe:=by simp[PCondW]
theorem PCondW_dec (p:Prop) [Decidable p] (x y:AC) (a:List AV) (h:H) (Qn Qr:List AV→H→Prop) (Qe:Nat→List AV→H→Prop):PCondW L (.bool (decide p)) x y a h Qn Qr Qe=if p then W L x a h Qn Qr Qe else W L y a h Qn Qr Qe:=by
 by_cases hp:p<;>simp[PCondW,hp]
theorem WO_nil (a:List AV) (h:H) (Q:List AV→H→Prop):WO L [] a h Q=Q a h:=by
 apply propext
 constructor
 ·rintro⟨a',h',he,hq⟩;cases he;exact hq
 ·intro hq;exact⟨a,h,rfl,hq⟩
def WS (o:AO) (a:List AV) (h:H) (K:AV→H→List Nat→Prop):Prop:=∃v h' rd,astep L o a h=some (v,h',rd)∧K v h' rd
def KPut (d:Option Nat) (os:List AOper) (a:List AV) (Q:List AV→H→Prop) (v:AV) (h:H) (rd:List Nat):Prop:=WO L os (put a d v) h Q
theorem KPut_eq (d:Option Nat) (os:List AOper) (a:List AV) (Q:List AV→H→Prop) (v:AV) (h:H) (rd:List Nat):KPut L d os a Q v h rd=WO L os (put a d v) h Q:=rfl
theorem WO_none (d:Option Nat) (o:AO) (chk:List Nat) (os:List AOper) (a:List AV) (h:H) (Q:List AV→H→Prop):
  WO L (⟨d,o,none,chk⟩::os) a h Q=WS L o a h (KPut L d os a Q):=by
 apply propext
 constructor
 ·rintro⟨a',h',he,hq⟩
  unfold aops at he
  simp only[q58]at he
  split at he
  ·rename_i v h1 rd hs;exact⟨v,h1,rd,hs,a',h',he,hq⟩
  ·cases he
 ·rintro⟨v,h1,rd,hs,a',h',he,hq⟩
  refine⟨a',h',?_,hq⟩
  unfold aops
  simp only[q58,hs]
  exact he
theorem WO_some0 (d:Option Nat) (o:AO) (t:Nat) (want:Bool) (chk:List Nat) (os:List AOper) (a:List AV) (h:H) (Q:List AV→H→Prop):
  WO L (⟨d,o,some (t,want),chk⟩::os) a h Q=∃b,q58 a (some (t,want))=some b∧(if b=true then WS L o a h (KPut L d os a Q) else WO L os (put a d (.tuple [])) h Q):=by
 apply propext
 constructor
 ·rintro⟨a',h',he,hq⟩
  unfold aops at he
  split at he
  ·rename_i hw
   split at he
   ·rename_i v h1 rd hs;exact⟨true,hw,by rw[if_pos rfl];exact⟨v,h1,rd,hs,a',h',he,hq⟩⟩
   ·cases he
  ·rename_i hw
   exact⟨false,hw,by rw[if_neg (by simp)];exact⟨a',h',he,hq⟩⟩
  ·cases he
 ·rintro⟨b,hb,hq⟩
  cases b with
  | true=>
   rw[if_pos rfl]at hq
   obtain⟨v,h1,rd,hs,a',h',he,hq⟩:=hq
   refine⟨a',h',?_,hq⟩
   unfold aops
   simp only[hb,hs]
   exact he
  | false=>
   rw[if_neg (by simp)]at hq
   obtain⟨a',h',he,hq⟩:=hq
   refine⟨a',h',?_,hq⟩
   unfold aops
   simp only[hb]
   exact he
def PGuardW (v:AV) (want:Bool) (d:Option Nat) (o:AO) (os:List AOper) (a:List AV) (h:H) (Q:List AV→H→Prop):Prop:=
 (∃b,v= .bool b∧(if b=want then WS L o a h (KPut L d os a Q) else WO L os (put a d (.tuple [])) h Q))∨(∃l,v= .tuple l∧WO L os (put a d (.tuple [])) h Q)
theorem WO_some (d:Option Nat) (o:AO) (t:Nat) (want:Bool) (chk:List Nat) (os:List AOper) (a:List AV) (h:H) (Q:List AV→H→Prop):
  WO L (⟨d,o,some (t,want),chk⟩::os) a h Q=PGuardW L (tget a t) want d o os a h Q:=by
 rw[WO_some0]
 apply propext
 unfold PGuardW
 simp only[q58]
 generalize tget a t=v
 cases v with
 | bool b=>
  constructor
  ·rintro⟨c,hc,hq⟩
   cases hc
   refine .inl ⟨b,rfl,?_⟩
   by_cases e:b=want
   ·subst e;simpa using hq
   ·rw[if_neg e];simpa [e] using hq
  ·rintro(⟨c,hc,hq⟩ | ⟨l,hl,_⟩)
   ·cases hc
    refine⟨_,rfl,?_⟩
    by_cases e:b=want
    ·subst e;simpa using hq
    ·rw[if_neg e]at hq;simpa [e] using hq
   ·cases hl
 | tuple l=>
  constructor
  ·rintro⟨c,hc,hq⟩
   cases hc
   exact .inr ⟨l,rfl,by simpa using hq⟩
  ·rintro(⟨c,hc,_⟩ | ⟨m,hm,hq⟩)
   ·cases hc
   ·exact⟨false,rfl,by simpa using hq⟩
 | _=>
  constructor
  ·rintro⟨c,hc,_⟩;cases hc
  ·rintro(⟨c,hc,_⟩ | ⟨m,hm,_⟩)
   ·cases hc
   ·cases hm
theorem PGuardW_tt (d:Option Nat) (o:AO) (os:List AOper) (a:List AV) (h:H) (Q:List AV→H→Prop):PGuardW L (.bool true) true d o os a h Q=WS L o a h (KPut L d os a Q):=by simp[PGuardW]
theorem PGuardW_ff (d:Option Nat) (o:AO) (os:List AOper) (a:List AV) (h:H) (Q:List AV→H→Prop):PGuardW L (.bool false) false d o os a h Q=WS L o a h (KPut L d os a Q):=by simp[PGuardW]
theorem PGuardW_tf (d:Option Nat) (o:AO) (os:List AOper) (a:List AV) (h:H) (Q:List AV→H→Prop):PGuardW L (.bool true) false d o os a h Q=WO L os (put a d (.tuple [])) h Q:=by simp[PGuardW]
theorem PGuardW_ft (d:Option Nat) (o:AO) (os:List AOper) (a:List AV) (h:H) (Q:List AV→H→Prop):PGuardW L (.bool false) true d o os a h Q=WO L os (put a d (.tuple [])) h Q:=by simp[PGuardW]
theorem q37 (l:List AV) (want:Bool) (d:Option Nat) (o:AO) (os:List AOper) (a:List AV) (h:H) (Q:List AV→H→Prop):PGuardW L (.tuple l) want d o os a h Q=WO L os (put a d (.tuple [])) h Q:=by simp[PGuardW]
theorem q38 (p:Prop) [Decidable p] (d:Option Nat) (o:AO) (os:List AOper) (a:List AV) (h:H) (Q:List AV→H→Prop):PGuardW L (.bool (decide p)) true d o os a h Q=if p then WS L o a h (KPut L d os a Q) else WO L os (put a d (.tuple [])) h Q:=by
 by_cases hp:p<;>simp[PGuardW,hp]
theorem q39 (p:Prop) [Decidable p] (d:Option Nat) (o:AO) (os:List AOper) (a:List AV) (h:H) (Q:List AV→H→Prop):PGuardW L (.bool (decide p)) false d o os a h Q=if p then WO L os (put a d (.tuple [])) h Q else WS L o a h (KPut L d os a Q):=by
 by_cases hp:p<;>simp[PGuardW,hp]
def WD (os:List AOper) (i:Nat) (a:List AV) (h:H) (log:List LogE) (Q:List AV→H→Prop):Prop:=∃a' h',aopsD L os i a h log=some (a',h')∧Q a' h'
def KPutD (d:Option Nat) (os:List AOper) (i:Nat) (a:List AV) (h0:H) (eff:Bool) (log:List LogE) (chk:List Nat) (Q:List AV→H→Prop) (v:AV) (h:H) (rd:List Nat):Prop:=
 chkOk eff (rdx h0 h rd) h0 h log chk=true∧WD L os (i+1) (put a d v) h (⟨i,rdx h0 h rd,h0,h⟩::log) Q
theorem KPutD_eq (d:Option Nat) (os:List AOper) (i:Nat) (a:List AV) (h0:H) (eff:Bool) (log:List LogE) (chk:List Nat) (Q:List AV→H→Prop) (v:AV) (h:H) (rd:List Nat):
  KPutD L d os i a h0 eff log chk Q v h rd=(chkOk eff (rdx h0 h rd) h0 h log chk=true∧WD L os (i+1) (put a d v) h (⟨i,rdx h0 h rd,h0,h⟩::log) Q):=rfl
theorem W_regionD (os:List AOper) (a:List AV) (h:H) (Qn Qr:List AV→H→Prop) (Qe:Nat→List AV→H→Prop):W L (.regionD os) a h Qn Qr Qe=WD L os 0 a h [] Qn:=by
 apply propext
 constructor
 ·rintro⟨e,a',h',he,hq⟩
  simp only[q10]at he
  split at he
  ·rename_i a1 h1 ho
   injection he with he;injection he with e1 e2;injection e2 with e2 e3
   subst e1;subst e2;subst e3
   exact⟨_,_,ho,hq⟩
  ·cases he
 ·rintro⟨a',h',he,hq⟩
  exact⟨.normal,a',h',by simp only[q10,he],hq⟩
theorem WD_nil (i:Nat) (a:List AV) (h:H) (log:List LogE) (Q:List AV→H→Prop):WD L [] i a h log Q=Q a h:=by
 apply propext
 constructor
 ·rintro⟨a',h',he,hq⟩;cases he;exact hq
 ·intro hq;exact⟨a,h,rfl,hq⟩
theorem WD_none (d:Option Nat) (o:AO) (chk:List Nat) (os:List AOper) (i:Nat) (a:List AV) (h:H) (log:List LogE) (Q:List AV→H→Prop):
  WD L (⟨d,o,none,chk⟩::os) i a h log Q=WS L o a h (KPutD L d os i a h o.effect log chk Q):=by
 apply propext
 constructor
 ·rintro⟨a',h',he,hq⟩
  unfold aopsD at he
  simp only[q58]at he
  split at he
  ·rename_i v h1 rd hs
   split at he
   ·rename_i hc;exact⟨v,h1,rd,hs,hc,a',h',he,hq⟩
   ·cases he
  ·cases he
 ·rintro⟨v,h1,rd,hs,hc,a',h',he,hq⟩
  refine⟨a',h',?_,hq⟩
  unfold aopsD
  simp only[q58,hs]
  rw[if_pos hc]
  exact he
theorem chkOk_nil (eff:Bool) (rd:List Nat) (hb ha:H) (log:List LogE):chkOk eff rd hb ha log []=true:=by simp[chkOk]
theorem W_loop (sc:List Nat) (x:AC) (a:List AV) (h:H) (Qn Qr:List AV→H→Prop) (Qe:Nat→List AV→H→Prop) (hL:∀c a h,L.code c a h=q10 L c a h):
  W L (.loop sc x) a h Qn Qr Qe=W L x (scrub a sc) h (WL L sc x Qn Qr Qe) Qr Qe:=by
 apply propext
 constructor
 ·rintro⟨e,a',h',he,hq⟩
  simp only[q10]at he
  split at he
  ·rename_i a1 h1 ho
   refine⟨.normal,a1,h1,ho,?_⟩
   rw[hL]at he
   exact⟨e,a',h',he,hq⟩
  ·rename_i hne
   refine⟨e,a',h',he,?_⟩
   cases e with
   | normal=>exact absurd he (hne _ _)
   | _=>exact hq
 ·rintro⟨e,a',h',he,hq⟩
  cases e with
  | normal=>
   obtain⟨e,a2,h2,h3,hq⟩:=hq
   exact⟨e,a2,h2,by simp only[q10,he];rw[hL];exact h3,hq⟩
  | ret=>exact⟨.ret,a',h',by simp only[q10,he],hq⟩
  | exit i=>exact⟨.exit i,a',h',by simp only[q10,he],hq⟩
theorem WL_eq (sc:List Nat) (x:AC) (Qn Qr:List AV→H→Prop) (Qe:Nat→List AV→H→Prop) (a:List AV) (h:H):WL L sc x Qn Qr Qe a h=W L (.loop sc x) a h Qn Qr Qe:=rfl
end
attribute [irreducible] W WO WS KSeq KBlock WL KPut PCondW PGuardW WD KPutD
end Go.Am

