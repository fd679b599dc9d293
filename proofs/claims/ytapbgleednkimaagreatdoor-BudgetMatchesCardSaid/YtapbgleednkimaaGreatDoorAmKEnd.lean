/- A region whose order the machine draws: whatever the order, it comes to what the text's order comes to, and what goes with it. -/
import Derived.Test.YtapbgleednkimaaGreatDoorAmTrace
import Derived.ProofKit
import Derived.OpenShut
import Derived.Below
import Derived.Carry
import Derived.ChangeArms
import Derived.WideKeyArgs
import Derived.Shelf.Strconv.Itoa3
import Derived.Shelf.Strconv.AtoiAll
import Derived.Shelf.Strings.Split
import Derived.Shelf.Strings.OnBuilder
import Derived.Lib.AppendIntMem
set_option linter.all false
open Nat renaming le_refl->Ab,le_trans->As,lt_or_ge->Bi,lt_of_lt_of_le->Bk,strongRecOn->Ib,lt_trichotomy->Fk,zero_add->Bg,lt_succ_self->Gu,succ_mul->Ec,zero_mul->Ei,zero_le->Au,eq_zero_or_pos->Du,mul_comm->Cz,div_add_mod->Ih,le_max_left->Ii,le_max_right->Ij
open List renaming getElem?_eq_getElem->Ad,all_eq_true->Cb,getElem?_eq_none->Bu,mem_cons_of_mem->Cy,range->Ba,getElem?_map->Ap,mem_zipIdx_iff_getElem?->Ic,mem_range->Et,mem_of_getElem?->Af,getElem_of_mem->Dx,drop_length->Gv,drop_drop->Ej,take_append_drop->Cu,mem_map->Ew,length_map->Ag,flatten_cons->Fi,map_map->Cs
open Array renaming getElem?_eq_getElem->Eu,getD_eq_getD_getElem?->Ga,getElem?_toList->Cj,ext'->Cw,replicate->Fj
open Bool renaming or_eq_true->El,false_eq_true->Aq,and_eq_true->Aw,true->Jr,false->Js
open Option renaming map_eq_some_iff->Ci,isSome_none->Hy,bind_some->Fh,some->Jp,none->Jq
namespace Go.Am
section
variable {P:Program} {rec:Rec} {m:Nat}
def ZG{a:List AV}{h y:H}{B:AO}{v:AV}{rd:List Nat}(he:B.effect=Js)(u:aop a h B=Jp (v,y,rd)):y=h\/∃E,y=h.alloc E:=by cases B<;>simp[AO.effect]at he<;>simp only[aop]at u;all_goals grind
def qL{a:List AV}{h B:H}{y:AO}{v:AV}{rd:List Nat}(he:y.effect=Js)(u:j6 rec y a h=Jp (v,B,rd)):aop a h y=Jp (v,B,rd):=by cases y<;>first | (simp[AO.effect]at he;done) | (simpa only[j6]using u)
def GB{a:List AV}{h B:H}{y:AO}{v:AV}{rd:List Nat}(he:y.effect=Js)(u:aop a h y=Jp (v,B,rd)){x:Nat}(E:x∈rdx h B rd):y.reads=Jr:=by
  cases y<;>simp[AO.effect]at he<;>first | rfl | skip
  all_goals (simp only[aop]at u)
  all_goals (repeat' split at u)
  all_goals (first | (cases u;simp[rdx]at E;done) | (exact absurd u (by simp)))
def iO(u:List aw)(i:Nat):Bool:=match u[i]? with | some x=>x.op.effect | none=>Js
def kd(u:List aw)(D:Nat->Bool):Nat->Nat
  | 0=>0
  | k+1=>if D k&&iO u k then k+1 else kd u D k
def bi(u:Nat->H)(y:Nat):Nat->Nat
  | 0=>0
  | k+1=>if y<(u (bi u y k)).next then bi u y k else k+1
def VG(u:List aw)(D:Nat->Bool):∀k,kd u D k<=k
  | 0=>Ab _
  | k+1=>by unfold kd;split;exact Ab _;exact As (VG u D k) (Nat.le_succ _)
def pR(u:List aw)(D:Nat->Bool):∀k j,kd u D k<=j->j<k->(D j&&iO u j)=Js
  | 0,j,_,h=>by omega
  | k+1,j,h1,h2=>by
    unfold kd at h1;split at h1
    · omega
    · rename_i y;rcases Bi j k with h | h
      · exact pR u D k j h1 h
      grind
def yJ(u:List aw)(D:Nat->Bool):∀k,kd u D k=0\/∃j,kd u D k=j+1/\j<k/\D j=Jr/\iO u j=Jr
  | 0=> .inl rfl
  | k+1=>by
    unfold kd;split
    · grind
    · rcases yJ u D k with h | ⟨j,h1,h2,h3,y⟩
      · exact .inl h
      grind
def yI{u:List aw}{D:Nat->Bool}{n c:Nat}(B:c<=n)(h1:c=0\/∃j,c=j+1/\D j=Jr/\iO u j=Jr)(h2:∀j,c<=j->j<n->(D j&&iO u j)=Js):kd u D n=c:=by
  rcases Bi (kd u D n) c with h | h
  · rcases h1 with rfl | ⟨j,rfl,hd,he⟩
    · omega
    · have:=pR u D n j (by omega) (by omega);simp[hd,he]at this
  · rcases Bi c (kd u D n)with y | y
    · rcases yJ u D n with h0 | ⟨j,E,G,I,J⟩
      · omega
      grind
    · omega
def aCZ(u:Nat->H)(y:Nat):∀k,bi u y k<=k
  | 0=>Ab _
  | k+1=>by unfold bi;split;exact As (aCZ u y k) (Nat.le_succ _);exact Ab _
def V4(u:Nat->H)(y:Nat):∀k,bi u y k=k\/y<(u (bi u y k)).next
  | 0=> .inl rfl
  | k+1=>by
    unfold bi
    grind
def aCY{u:Nat->H}{y N:Nat}(mono:∀i j,i<=j->j<=N->(u i).next<=(u j).next):∀k j,k<=N->j<bi u y k->(u j).next<=y
  | 0,j,_,h=>by simp[bi]at h
  | k+1,j,B,h=>by
    unfold bi at h;split at h
    · exact aCY mono k j (by omega) h
    · rename_i E;rcases V4 u y k with e | e
      · grind
      grind
def D5{u:Nat->H}{y k:Nat}(h:y<(u k).next):y<(u (bi u y k)).next:=by
  rcases V4 u y k with e | e
  · grind
  · exact e
def p9{u:Nat->H}{y N:Nat}(mono:∀i j,i<=j->j<=N->(u i).next<=(u j).next){k j:Nat}(E:k<=N)(h:y<(u j).next):bi u y k<=j:=by
  rcases Bi j (bi u y k)with B | B
  · have:=aCY mono k j E B;omega
  · exact B
def vv(u:List aw)(a:List AV)(V:Nat->AV)(D:Nat->Bool)(t:Nat):Nat->AV
  | 0=>bu a t
  | k+1=>if D k&&(match u[k]? with | some x=>x.dst==Jp t | none=>Js)then V k else vv u a V D t k
def vH{u:List aw}{a:List AV}{V:Nat->AV}{D y:Nat->Bool}{t:Nat} :∀k,(∀j x,j<k->u[j]? =Jp x->x.dst=Jp t->D j=y j)->vv u a V D t k=vv u a V y t k
  | 0,_=>rfl
  | k+1,h=>by
    unfold vv;rw[vH k (fun j x B=>h j x (by omega))]
    grind
def A8{u:List aw}{a:List AV}{V:Nat->AV}{D:Nat->Bool}{t i:Nat} :∀k,i<=k->(∀j x,i<=j->j<k->u[j]? =Jp x->x.dst=Jp t->D j=Js)->vv u a V D t k=vv u a V D t i
  | 0, h, _ => by have : i = 0 := by omega
                  subst this;rfl
  | k+1,h,hd=>by
    rcases Bi k i with y | y
    · grind
    · rw[<-A8 k y (fun j x h1 h2=>hd j x h1 (by omega))]
      conv=>lhs;unfold vv
      grind
def W3(a:List AV)(t d:Nat)(v:AV)(ht:t<a.length):bu (cr a d v) t=if d=t then v else bu a t:=by
  rw[kI,BA,kI,List.getElem?_set]
  grind
def B7{u:List aw}{a B:List AV}{h E:H}{A:Nat->List AV}{G:Nat->H}{V:Nat->AV}{RD:Nat->List Nat}{W:Nat->Bool}(T:Trace rec u a h B E A G V RD W){t:Nat}(ht:t<a.length):
    ∀k,k<=u.length->bu (A k) t=vv u a V (fun _=>Jr) t k/\(A k).length=a.length
  | 0,_=>by rw[T.a0];exact⟨rfl,rfl⟩
  | k+1,J=>by
    obtain⟨h1,h2⟩:=B7 T ht k (by omega);have y:u[k]? =Jp (u[k]'(by omega)):=Ad (by omega);have I:=T.put k _ y;rw[I];refine⟨?_,by rw[DC];exact h2⟩;unfold vv;rw[y]
    cases hd:(u[k]'(by omega)).dst with
    | none=>simp[put,h1,hd]
    | some d=>
      simp only[put];rw[W3 _ _ _ _ (by omega)]
      grind
section
variable {xs:List aw} {a a':List AV} {h h':H} {A:Nat->List AV} {Hh:Nat->H} {V:Nat->AV} {RD:Nat->List Nat} {W:Nat->Bool}
def xJ(y:fe P rec m)(T:Trace rec xs a h a' h' A Hh V RD W){i:Nat}(B:i<xs.length):Ev (Hh i) (Hh (i+1)):=by
  have u:xs[i]? =Jp xs[i]:=Ad B
  cases hw:W i with
  | true=>exact BD y (T.run i _ u hw)
  | false=>rw[(T.skip i _ u hw).2];exact Ev.refl _
def nZ(u:fe P rec m)(T:Trace rec xs a h a' h' A Hh V RD W):∀{i:Nat} (d:Nat),i+d<=xs.length->Ev (Hh i) (Hh (i+d))
  | i,0,_=>Ev.refl _
  | i,d+1,hd=>(nZ u T d (by omega)).trans (xJ u T (by omega))
def lH(E:fe P rec m)(T:Trace rec xs a h a' h' A Hh V RD W){y:Nat} :∀{p:Nat} (d:Nat),p+d<=xs.length->y<(Hh p).next->
    (∀j,p<=j->j<p+d->iO xs j=Jr->W j=Jr->kH (Hh j) (Hh (j+1)) y=Jr)->(Hh (p+d)).get y=(Hh p).get y
  | p,0,_,_,_=>rfl
  | p,d+1,hd,I,hs=>by
    rw[<-lH E T d (by omega) I (fun j h1 h2=>hs j h1 (by omega))];have J:p+d<xs.length:=by omega
    have G:xs[p+d]? =Jp xs[p+d]:=Ad J;have hlt:y<(Hh (p+d)).next:=Bk I (nZ E T d (by omega)).next;show(Hh (p+d+1)).get y=_
    cases hw:W (p+d)with
    | false=>rw[(T.skip _ _ G hw).2]
    | true=>
      have u:=T.run _ _ G hw
      cases he:iO xs (p+d)with
      | true=>exact(xJ E T J).same (hs _ (by omega) (by omega) he hw) hlt
      | false=>
        have B:(xs[p+d]).op.effect=Js:=by unfold iO at he;rw[G]at he;exact he
        rcases ZG B (qL B u)with e | ⟨K,e⟩
        · rw[e]
        · rw[e,H.ay,if_neg (by omega)]
structure cw (P:Program) (ops:Array Oper) (xs:List aw) (an:List (List Nat)):Prop where
  len:xs.length=ops.size
  tr:∀(i:Nat) (o:Oper) (x:aw),ops[i]? =Jp o->xs[i]? =Jp x->B8 P o=Jp x.op/\x.dst=o.dst/\(match o.guard with | none=>x.guard=Jq | some (j,want)=>∃d,(ops[j]?).bind (·.dst)=Jp d/\x.guard=Jp (d,want))
  oo:∀(i:Nat) (o:Oper),ops[i]? =Jp o->∀j∈dS o,j<i
  anc:∀(j:Nat) (o:Oper),ops[j]? =Jp o->∀i∈an.getD j [],∃e∈dS o,i=e\/i∈an.getD e []
  effs:∀(i j:Nat) (x y:aw),xs[i]? =Jp x->xs[j]? =Jp y->i≠j->x.op.effect=Jr->y.op.effect=Jr->gY an i j=Jr
  tmps:∀(i j:Nat) (x y:aw) (t:Nat),xs[i]? =Jp x->xs[j]? =Jp y->i≠j->x.dst=Jp t->t∈y.names->gY an i j=Jr
  chks:∀(i j:Nat) (x y:aw),xs[i]? =Jp x->xs[j]? =Jp y->j<i->gY an j i=Js->sK y x=Jr->j∈x.chk
def cw.oj{ops:Array Oper}{xs:List aw}{an:List (List Nat)}(S:cw P ops xs an):∀j i,j<ops.size->i∈an.getD j []->i<j:=by
  intro j
  induction j using Ib with
  | _ j G=>
    intro i B E;have u:ops[j]? =Jp ops[j]:=Eu B;obtain⟨e,he,h⟩:=S.anc j _ u i E;have hlt:=S.oo j _ u e he
    grind
def mR(ops:Array Oper)(D:Nat->Bool):Prop:=∀(j:Nat) (o:Oper),ops[j]? =Jp o->D j=Jr->∀e∈dS o,D e=Jr
def cw.ji{ops:Array Oper}{xs:List aw}{an:List (List Nat)}(S:cw P ops xs an){D:Nat->Bool}(J:mR ops D):∀j,j<ops.size->(∀o,ops[j]? =Jp o->∀e∈dS o,D e=Jr)->∀i∈an.getD j [],D i=Jr:=by
  intro j
  induction j using Ib with
  | _ j K=>
    intro L B i M;have E:ops[j]? =Jp ops[j]:=Eu L;obtain⟨e,he,h⟩:=S.anc j _ E i M;have hlt:=S.oo j _ E e he;have u:=B _ E e he;rcases h with rfl | h
    · exact u
    · exact K e hlt (by omega) (fun o G O I=>J e o G u O I) i h
def cw.side{ops:Array Oper}{xs:List aw}{an:List (List Nat)}(S:cw P ops xs an){D:Nat->Bool}(B:mR ops D){i:Nat}(I:i<ops.size)(hd:D i=Js)(E:∀o,ops[i]? =Jp o->∀e∈dS o,D e=Jr)
    {j:Nat} (J:j<ops.size) (K:j≠i) (u:gY an j i=Jr):D j=decide (j<i):=by
  unfold gY at u;simp only[El,List.contains_iff_mem]at u;rcases u with h | h
  · rw[S.ji B i I E j h];have:=S.oj i j I h;simp[this]
  · have hlt:=S.oj j i J h
    cases G:D j with
    | false=>symm;simp;omega
    | true=>
      have:=S.ji B j J (fun o u e he=>B j o u G e he) i h
      grind
structure DS (P:Program) (xs:List aw) (a:List AV) (ρ0:Emb) (h:H) (w0:World) (Hh:Nat->H) (V:Nat->AV) (D:Nat->Bool) (ρ:Emb) (w:World) (act:Act):Prop where
  size:act.tmps.size=a.length
  tmps:∀t,t<a.length->VR ρ (vv xs a V D t xs.length) (act.tmps.getD t undef)
  sub:Sub ρ0 ρ
  fg:∀y l,ρ y=Jp l->l.blk<w.heap.size
  dom:∀y l,ρ y=Jp l->ρ0 y=Jp l\/∃i,i<xs.length/\D i=Jr/\(Hh i).next<=y/\y<(Hh (i+1)).next
  obj:∀(y:Nat) (l:Loc) (o:cq),ρ y=Jp l->(Hh (max (kd xs D xs.length) (bi Hh y xs.length))).get y=Jp o->OR P ρ w l o
  inj:∀(x y:Nat) (lx ly:Loc) (ox oy:cq),ρ x=Jp lx->ρ y=Jp ly->(Hh (max (kd xs D xs.length) (bi Hh x xs.length))).get x=Jp ox->(Hh (max (kd xs D xs.length) (bi Hh y xs.length))).get y=Jp oy->
    ox.cn=Jr->oy.cu=Jr->x≠y->lx.blk≠ly.blk
  own:∀x l,ρ x=Jp l->ρ0 x=Jp l\/w0.heap.size<=l.blk\/(∃y ly oy,ρ0 y=Jp ly/\h.get y=Jp oy/\oy.cn=Jr/\l.blk=ly.blk)
  lm:w0.heap.size<=w.heap.size
  os:w.os=w0.os
  tape:w.tape=w0.tape
  output:w.output=w0.output
  frame:∀b,b<w0.heap.size->(∀x l o,ρ0 x=Jp l->h.get x=Jp o->o.cn=Jr->l.blk≠b)->w.heap[b]? =w0.heap[b]?
  glb:GlbAt P w0/\UA P ρ0 h
def DS.gat{xs:List aw}{a:List AV}{ρ0:Emb}{h:H}{w0:World}{Hh:Nat->H}{V:Nat->AV}{D:Nat->Bool}{ρ:Emb}{w:World}{act:Act}(ds:DS P xs a ρ0 h w0 Hh V D ρ w act):GlbAt P w:=
  ds.glb.1.fc fun b l hb hlt=>ds.frame b hlt fun x lx o h1 h2 h3=>ds.glb.2 b l hb x lx o h1 h2 h3
def DS.mv{xs:List aw}{a:List AV}{ρ0:Emb}{h h1:H}{w0:World}{Hh:Nat->H}{V:Nat->AV}{D:Nat->Bool}{ρ:Emb}{w:World}{act:Act}(ds:DS P xs a ρ0 h w0 Hh V D ρ w act)(ev:Ev h h1)(u:dl ρ0 h h1):UA P ρ h1:=fun b l hb y ly oy G hg B=>by
  rcases ds.own y ly G with E | E | ⟨q,I,J,k1,k2,K,L⟩
  · by_cases hlt:y<h.next
    · obtain⟨M,O,Q⟩:=ev.jr hg hlt B;exact ds.glb.2 b l hb y ly M E O Q
    · have:=u y (by omega) (H.bj hg)
      grind
  · have:=ds.glb.1.lt hb;omega
  · rw[L];exact ds.glb.2 b l hb q I J k1 k2 K
def IQ(u:List (List Nat))(i j:Nat):gY u i j=gY u j i:=by unfold gY;exact Bool.or_comm _ _
def NQ{xs:List aw}{D u:Nat->Bool} :∀k,(∀j,j<k->iO xs j=Jr->D j=u j)->kd xs D k=kd xs u k
  | 0,_=>rfl
  | k+1,h=>by
    unfold kd;rw[NQ k (fun j y=>h j (by omega))]
    grind
section
variable {ops:Array Oper} {xs:List aw} {an:List (List Nat)} {a a':List AV} {h h':H} {A:Nat->List AV} {Hh:Nat->H} {V:Nat->AV} {RD:Nat->List Nat} {W:Nat->Bool}
variable {ρ0:Emb} {w0:World} {D:Nat->Bool} {i:Nat} {o:Oper} {x:aw}
def nY(u:fe P rec m)(T:Trace rec xs a h a' h' A Hh V RD W):∀i j,i<=j->j<=xs.length->(Hh i).next<=(Hh j).next:=fun i j h1 h2=>by
  have:=(nZ u T (i:=i) (j-i) (by omega)).next
  grind
def QM(S:cw P ops xs an)(T:Trace rec xs a h a' h' A Hh V RD W)(Q:mR ops D)(R:ops[i]? =Jp o)(O:xs[i]? =Jp x)(hd:D i=Js)(J:∀e∈dS o,D e=Jr){t:Nat}(ht:t∈x.names)(hl:t<a.length):
    vv xs a V D t xs.length=bu (A i) t:=by
  have U:i<xs.length:=(List.getElem?_eq_some_iff.1 O).1;have K:i<ops.size:=by rw[<-S.len];exact U
  have B:∀L,ops[i]? =Jp L->∀e∈dS L,D e=Jr:=fun L E=>by rw[R]at E;cases E;exact J
  have side:∀j y,xs[j]? =Jp y->y.dst=Jp t->j≠i->D j=decide (j<i):=fun j y G u I=>by have M:j<xs.length:=(List.getElem?_eq_some_iff.1 G).1;exact S.side Q K hd B (by rw[<-S.len];exact M) I (S.tmps j i y x t G O I u ht)
  rw[(B7 T hl i (by omega)).1];rw[A8 (i:=i) xs.length (by omega) (fun j y h1 h2 G u=>by
    grind)]
  exact vH i (fun j y M G u=>by rw[side j y G u (by omega)];simp[M])
def A9(S:cw P ops xs an)(hc:mR ops D)(ho:ops[i]? =Jp o)(Y:xs[i]? =Jp x)(hd:D i=Js)(M:∀e∈dS o,D e=Jr){ρ:Emb}{B:Act}{u:Value}(hl:∀t,t<a.length->VR ρ (vv xs a V D t xs.length) (B.tmps.getD t undef))
    (O:B.tmps.size=a.length) (hv:VR ρ (V i) u):∀t,t<a.length->VR ρ (vv xs a V (fun j=>j==i||D j) t xs.length) ((B.put x.dst u).tmps.getD t undef):=by
  have hi:i<xs.length:=(List.getElem?_eq_some_iff.1 Y).1;have G:i<ops.size:=by rw[<-S.len];exact hi
  have I:∀Q,ops[i]? =Jp Q->∀e∈dS Q,D e=Jr:=fun Q J=>by rw[ho]at J;cases J;exact M
  intro t ht;by_cases e:x.dst=Jp t
  · have E:vv xs a V (fun j=>j==i||D j) t xs.length=V i:=by
      rw[A8 (i:=i+1) xs.length (by omega) (fun j y h1 h2 Z K=>by
        have L:j≠i:=by omega
        have:=S.side hc G hd I (by rw[<-S.len];exact h2) L (S.tmps j i y x t Z Y L K (by unfold aw.names;simp[e]));simp only[this];simp;omega)]
      unfold vv
      grind
    rw[E,e];have:(B.put (Jp t) u).tmps.getD t undef=u:=by simp[Act.put,Ga,O,ht]
    grind
  · have E:vv xs a V (fun j=>j==i||D j) t xs.length=vv xs a V D t xs.length:=vH _ (fun j y hj Z K=>by
      by_cases R:j=i
      · grind
      · simp[R])
    rw[E];have:(B.put x.dst u).tmps.getD t undef=B.tmps.getD t undef:=by
      cases T:x.dst with
      | none=>rfl
      | some d=>have U:d≠t:=fun R=>e (by rw[T,R]);simp[Act.put,Ga,Array.getElem?_setIfInBounds,U]
    grind
def aCQ(S:cw P ops xs an)(T:Trace rec xs a h a' h' A Hh V RD W)(Y:mR ops D)(Z:ops[i]? =Jp o)(J:xs[i]? =Jp x)(hd:D i=Js)(K:∀e∈dS o,D e=Jr)(L:x.op.effect=Js)(hw:W i=Jr)
    {y:Nat} (R:y∈rdx (Hh i) (Hh (i+1)) (RD i)) {j:Nat} (U:j<i) (u:iO xs j=Jr) (M:W j=Jr) (a0:D j=Js):kH (Hh j) (Hh (j+1)) y=Jr:=by
  have hi:i<xs.length:=(List.getElem?_eq_some_iff.1 J).1;have B:xs[j]? =Jp (xs[j]'(by omega)):=Ad (by omega);have O:gY an j i=Js:=by
    cases Q:gY an j i with
    | false=>rfl
    | true=>
      have:=S.side Y (by rw[<-S.len];exact hi) hd (fun o' E=>by rw[Z]at E;cases E;exact K) (by rw[<-S.len];omega) (by omega) Q
      grind
  have G:(xs[j]'(by omega)).op.effect=Jr:=by unfold iO at u;rw[B]at u;exact u
  have hr:=GB L (qL L (T.run i x J hw)) R;have I:=S.chks i j x _ J B U O (by unfold sK;simp[G,hr]);have:=T.chk i j x J U I hw M;rw[L]at this;simp only[Aq,if_false,Cb]at this;exact this y R
def aCP(S:cw P ops xs an)(T:Trace rec xs a h a' h' A Hh V RD W)(Z:mR ops D)(ho:ops[i]? =Jp o)(K:xs[i]? =Jp x)(hd:D i=Js)(L:∀e∈dS o,D e=Jr)(R:x.op.effect=Js)(hw:W i=Jr)
    {y:Nat} (U:y∈rdx (Hh i) (Hh (i+1)) (RD i)) {j:Nat} (Y:i<j) (B:j<xs.length) (E:iO xs j=Jr) (M:W j=Jr) (a0:D j=Jr):kH (Hh j) (Hh (j+1)) y=Jr:=by
  have hi:i<xs.length:=(List.getElem?_eq_some_iff.1 K).1;have G:xs[j]? =Jp (xs[j]'B):=Ad B;have O:gY an i j=Js:=by
    rw[IQ]
    cases Q:gY an j i with
    | false=>rfl
    | true=>
      have:=S.side Z (by rw[<-S.len];exact hi) hd (fun o' I=>by rw[ho]at I;cases I;exact L) (by rw[<-S.len];omega) (by omega) Q
      grind
  have u:(xs[j]'B).op.effect=Jr:=by unfold iO at E;rw[G]at E;exact E
  have hr:=GB R (qL R (T.run i x K hw)) U;have J:=S.chks j i _ x G K Y O (by unfold sK;simp[u,hr]);have:=T.chk j i _ G Y J M hw;rw[u]at this;simp only[if_true,Cb]at this;exact this y U
def OT(S:cw P ops xs an)(M:mR ops D){j k:Nat}(O:j<k)(K:k<xs.length)(u:iO xs j=Jr)(y:iO xs k=Jr)(L:D k=Jr):D j=Jr:=by
  have E:xs[j]? =Jp (xs[j]'(by omega)):=Ad (by omega);have G:xs[k]? =Jp (xs[k]'K):=Ad K;have I:(xs[j]'(by omega)).op.effect=Jr:=by unfold iO at u;rw[E]at u;exact u
  have J:(xs[k]'K).op.effect=Jr:=by unfold iO at y;rw[G]at y;exact y
  have B:=S.effs j k _ _ E G (by omega) I J;unfold gY at B;simp only[El,List.contains_iff_mem]at B;rcases B with h | h
  · exact S.ji M k (by rw[<-S.len];exact K) (fun o Q e he=>M k o Q L e he) j h
  · have:=S.oj j k (by rw[<-S.len];omega) h;omega
def SR(K:fe P rec m)(S:cw P ops xs an)(T:Trace rec xs a h a' h' A Hh V RD W)(L:mR ops D)(Y:ops[i]? =Jp o)(J:xs[i]? =Jp x)(hd:D i=Js)(G:∀e∈dS o,D e=Jr)(M:x.op.effect=Js)(hw:W i=Jr)
    {y:Nat} (Z:y∈rdx (Hh i) (Hh (i+1)) (RD i)) (hlt:y<(Hh i).next):(Hh (max (kd xs D xs.length) (bi Hh y xs.length))).get y=(Hh i).get y:=by
  have hi:i<xs.length:=(List.getElem?_eq_some_iff.1 J).1;have mono:=nY K T;have hb:bi Hh y xs.length<=i:=p9 mono (Ab _) hlt;have O:y<(Hh xs.length).next:=Bk hlt (mono i _ (by omega) (Ab _));have Q:y<(Hh (bi Hh y xs.length)).next:=D5 O;have a0:=VG xs D xs.length;rcases Bi i (kd xs D xs.length)with a1 | a2
  · have I:max (kd xs D xs.length) (bi Hh y xs.length)=kd xs D xs.length:=by omega
    rw[I];have:=lH K T (y:=y) (p:=i) (kd xs D xs.length-i) (by omega) hlt (fun j h1 h2 u B=>by
      rcases yJ xs D xs.length with h0 | ⟨j0,e0,l0,d0,R⟩
      · omega
      · have a3:j≠i:=fun e=>by subst e;unfold iO at u;rw[J]at u;simp only at u;rw[M]at u;cases u
        have E:D j=Jr:=by
          by_cases e:j=j0
          · grind
          · exact OT S L (by omega) l0 u R d0
        exact aCP S T L Y J hd G M hw Z (by omega) (by omega) u B E)
    rw[show i+(kd xs D xs.length-i)=kd xs D xs.length from by omega]at this;exact this
  · have hp:max (kd xs D xs.length) (bi Hh y xs.length)<=i:=by omega
    have U:y<(Hh (max (kd xs D xs.length) (bi Hh y xs.length))).next:=Bk Q (mono _ _ (by omega) (by omega));have:=lH K T (y:=y) (p:=max (kd xs D xs.length) (bi Hh y xs.length)) (i-max (kd xs D xs.length) (bi Hh y xs.length)) (by omega) U (fun j h1 h2 u B=>by
      have E:D j=Js:=by have:=pR xs D xs.length j (by omega) (by omega);simp_all
      exact aCQ S T L Y J hd G M hw Z (by omega) u B E)
    rw[show max (kd xs D xs.length) (bi Hh y xs.length)+(i-max (kd xs D xs.length) (bi Hh y xs.length))=i from by omega]at this;simp_all
def pF(T:Trace rec xs a h a' h' A Hh V RD W):∀k,k<=xs.length->(A k).length=a.length
  | 0,_=>by rw[T.a0]
  | k+1,u=>by rw[T.put k _ (Ad (show k<xs.length by omega)),DC];exact pF T k (by omega)
def SS(u:mR ops D)(I:ops[i]? =Jp o)(y:∀e∈dS o,D e=Jr):mR ops (fun j=>j==i||D j):=by
  intro j B E hd e he;by_cases G:j=i
  · grind
  · have:D j=Jr:=by simpa [G]using hd
    simp[u j B E this e he]
def NP(u:xs[i]? =Jp x)(y:x.op.effect=Js):kd xs (fun j=>j==i||D j) xs.length=kd xs D xs.length:=by
  refine NQ _ fun j B he=>?_;by_cases e:j=i
  · subst e;unfold iO at he;rw[u]at he;simp only at he;rw[y]at he;cases he
  · simp[e]
def MZ{t:Nat}(h:t∈x.op.dv):t∈x.names:=by unfold aw.names;simp[h]
def DS.quiet(ok:fe P rec m)(S:cw P ops xs an)(T:Trace rec xs a h a' h' A Hh V RD W)(Y:mR ops D)(Z:ops[i]? =Jp o)(J:xs[i]? =Jp x)(hd:D i=Js)(E:∀e∈dS o,D e=Jr)(hq:x.op.effect=Js)(hw:W i=Jr)
    (b6:dl ρ0 h h') {ρ:Emb} {w:World} {act:Act} (ds:DS P xs a ρ0 h w0 Hh V D ρ w act) (hs:(Hh xs.length)=h') (h0:Hh 0=h)
    {ro:Option Nat} {next:Act->World->Prop} {Q:Exit->Act->World->Prop}
    (hk:∀u ρ' w',DS P xs a ρ0 h w0 Hh V (fun j=>j==i||D j) ρ' w' (act.put x.dst u)->next (act.put x.dst u) w'):o.wpIn (j7 ro) 0 P act w next Q:=by
  have hi:i<xs.length:=(List.getElem?_eq_some_iff.1 J).1;obtain⟨q1,q2,q3⟩:=S.tr i o x Z J;have a1:=qL hq (T.run i x J hw);have mono:=nY ok T;have L:=NP (D:=D) J hq;have a2:Ops ρ (A i) act x.op.dv:=fun t ht=>by
    by_cases hl:t<a.length
    · rw[<-QM S T Y Z J hd E (MZ ht) hl];exact ds.tmps t hl
    · have c6:=pF T i (by omega);rw[kI,Bu (by omega)];exact .aa _
  have a3:QH P ρ (Hh i) w (RD i):=fun y B l ob hl hg=>by
    have hlt:=H.bj hg;have O:y∈rdx (Hh i) (Hh (i+1)) (RD i):=by unfold rdx;split;exact Cy _ B;exact B
    exact ds.obj y l ob hl (by rw[SR ok S T Y Z J hd E hq hw O hlt];exact hg)
  refine UF q1 ?_;obtain⟨u,⟨e1,e2,hv⟩ | ⟨ob,cb,lc,e1,hb,e2,hv⟩⟩:=aGA q1 hq a1 a2 a3
  · rw[e2];show next (act.put o.dst u) w
    rw[<-q2];refine hk u ρ w ⟨?_,?_,ds.sub,ds.fg,?_,?_,?_,ds.own,ds.lm,ds.os,ds.tape,ds.output,ds.frame,ds.glb⟩
    · cases x.dst<;>simpa [Act.put]using ds.size
    · exact A9 S Y Z J hd E ds.tmps ds.size hv
    · intro y l B;rcases ds.dom y l B with h1 | ⟨k,h1,h2,h3⟩
      · exact .inl h1
      · exact .inr ⟨k,h1,by simp[h2],h3⟩
    · rw[L];exact ds.obj
    · rw[L];exact ds.inj
  · have b5:(Hh (i+1)).next=(Hh i).next+1:=by rw[e1];rfl
    have hn:ρ (Hh i).next=Jq:=by
      cases B:ρ (Hh i).next with
      | none=>rfl
      | some l=>
        rcases ds.dom _ l B with h1 | ⟨k,h1,h2,h3,h4⟩
        · have m0:=mono 0 i (by omega) (by omega);have m1:=mono (i+1) xs.length (by omega) (Ab _);rw[h0]at m0;rw[hs]at m1;rw[b6 (Hh i).next m0 (by omega)]at h1;cases h1
        · rcases Fk k i with h5 | h5 | h5
          · have:=mono (k+1) i (by omega) (by omega);omega
          · subst h5;rw[hd]at h2;cases h2
          · have:=mono (i+1) k (by omega) (by omega);omega
    obtain⟨b7,b8⟩:=hv hn;have G:=lV (l:=lc) hn;have O:(Hh i).next∈rdx (Hh i) (Hh (i+1)) (RD i):=by unfold rdx;rw[if_pos (by omega)];simp
    --the new a4,a0 it is looked at
    have R:∀K,K=kd xs D xs.length->(Hh (max K (bi Hh (Hh i).next xs.length))).get (Hh i).next=Jp ob:=by
      intro K hK;have I:(Hh i).next<(Hh (i+1)).next:=by omega
      have c7:bi Hh (Hh i).next xs.length<=i+1:=p9 mono (Ab _) I;have c0:(Hh i).next<(Hh xs.length).next:=Bk I (mono _ _ (by omega) (Ab _));have c8:=D5 c0;have c1:bi Hh (Hh i).next xs.length=i+1:=by
        grind
      have M:(Hh (i+1)).get (Hh i).next=Jp ob:=by rw[e1];exact H.ah _ _
      rw[c1,hK];have c9:=VG xs D xs.length;rcases Bi (i+1) (kd xs D xs.length)with d4 | d5
      · rw[show max (kd xs D xs.length) (i+1)=kd xs D xs.length from by omega];have:=lH ok T (y:=(Hh i).next) (p:=i+1) (kd xs D xs.length-(i+1)) (by omega) I (fun j h1 h2 a5 c2=>by
          rcases yJ xs D xs.length with h9 | ⟨j0,e0,l0,d0,c3⟩
          · omega
          · have c4:D j=Jr:=by
              by_cases e:j=j0
              · rw[e];exact d0
              · exact OT S Y (by omega) l0 a5 c3 d0
            exact aCP S T Y Z J hd E hq hw O (by omega) (by omega) a5 c2 c4)
        rw[show i+1+(kd xs D xs.length-(i+1))=kd xs D xs.length from by omega]at this;rw[this];exact M
      · rw[show max (kd xs D xs.length) (i+1)=i+1 from by omega];exact M
    have a6:∀b,b<w.heap.size->(w.alloc cb).heap[b]? =w.heap[b]? :=fun b hb=>RowKit.Below.heap_alloc w cb b hb;rw[e2];show next (act.put o.dst u) (w.alloc cb)
    rw[<-q2];refine hk u (upd ρ (Hh i).next lc) (w.alloc cb) ⟨?_,?_,ds.sub.trans G,?_,?_,?_,?_,?_,?_,ds.os,ds.tape,ds.output,?_,ds.glb⟩
    · cases x.dst<;>simpa [Act.put]using ds.size
    · exact A9 S Y Z J hd E (fun t ht=>(ds.tmps t ht).mono G) ds.size b7
    · intro y l B;by_cases e:y=(Hh i).next
      · subst e;rw[dR]at B;cases B;simp;omega
      · rw[fA e]at B;have:=ds.fg y l B;simp;omega
    · intro y l B;by_cases e:y=(Hh i).next
      · exact .inr ⟨i,hi,by simp,by omega,by omega⟩
      · rw[fA e]at B;rcases ds.dom y l B with h1 | ⟨k,h1,h2,h3⟩
        · exact .inl h1
        · exact .inr ⟨k,h1,by simp[h2],h3⟩
    · rw[L];intro y l U B hg;by_cases e:y=(Hh i).next
      · subst e;rw[dR]at B;cases B;rw[R _ rfl]at hg;cases hg;exact b8
      · rw[fA e]at B;have h1:=ds.obj y l U B hg
        cases a7:U.cu with
        | true=>exact h1.mono G (a6 _ (h1.lt a7))
        | false=>cases U<;>first | trivial | (simp[cq.cu]at a7)
    · rw[L];intro y z ly lz oy oz B hz a9 b0 b1 b2 b3;by_cases ey:y=(Hh i).next
      · subst ey;rw[dR]at B;cases B;rw[fA (Ne.symm b3)]at hz;have:=(ds.obj z lz oz hz b0).lt b2;omega
      · rw[fA ey]at B;by_cases ez:z=(Hh i).next
        · subst ez;rw[dR]at hz;cases hz;have:=(ds.obj y ly oy B a9).lt (cq.eu b1);omega
        · rw[fA ez]at hz;exact ds.inj y z ly lz oy oz B hz a9 b0 b1 b2 b3
    · intro y l B;by_cases e:y=(Hh i).next
      · subst e;rw[dR]at B;cases B;exact .inr (.inl (by rw[hb];exact ds.lm))
      · rw[fA e]at B;exact ds.own y l B
    · have:=ds.lm;simp;omega
    · intro b b4 c5;rw[a6 b (Bk b4 ds.lm)];exact ds.frame b b4 c5
def DS.loud(ok:fe P rec m)(S:cw P ops xs an)(T:Trace rec xs a h a' h' A Hh V RD W)(hc:mR ops D)(ho:ops[i]? =Jp o)(hx:xs[i]? =Jp x)(hd:D i=Js)(hed:∀e∈dS o,D e=Jr)(hq:x.op.effect=Jr)(hw:W i=Jr)
    (hfr:dl ρ0 h h') {ρ:Emb} {w:World} {act:Act} (ds:DS P xs a ρ0 h w0 Hh V D ρ w act) (hs:(Hh xs.length)=h') (h0:Hh 0=h)
    {ro:Option Nat} {next:Act->World->Prop} {Q:Exit->Act->World->Prop}
    (hk:∀u ρ' w',DS P xs a ρ0 h w0 Hh V (fun j=>j==i||D j) ρ' w' (act.put x.dst u)->next (act.put x.dst u) w'):o.wpIn (j7 ro) 0 P act w next Q:=by
  have hi:i<xs.length:=(List.getElem?_eq_some_iff.1 hx).1;have hsz:i<ops.size:=by rw[<-S.len];exact hi
  have hed':∀o',ops[i]? =Jp o'->∀e∈dS o',D e=Jr:=fun o' ho'=>by rw[ho]at ho';cases ho';exact hed
  obtain⟨q1,q2,q3⟩:=S.tr i o x ho hx;have hrun:=T.run i x hx hw;have mono:=nY ok T;have heffi:iO xs i=Jr:=by unfold iO;rw[hx];exact hq
  have hev:=xJ ok T hi
  --where the others that change objects stand
  have hside:∀j,j<xs.length->j≠i->iO xs j=Jr->D j=decide (j<i):=by
    intro j hj hne hej;have hjx:xs[j]? =Jp (xs[j]'hj):=Ad hj;have hej':(xs[j]'hj).op.effect=Jr:=by unfold iO at hej;rw[hjx]at hej;exact hej
    exact S.side hc hsz hd hed' (by rw[<-S.len];exact hj) hne (S.effs j i _ _ hjx hx hne hej' hq)
  have hkle:kd xs D xs.length<=i:=by
    rcases yJ xs D xs.length with h9 | ⟨j0,e0,l0,d0,ef0⟩
    · omega
    · have hne:j0≠i:=fun e=>by subst e;rw[hd]at d0;cases d0
      have:=hside j0 l0 hne ef0;rw[d0]at this;simp at this;omega
  have hkd':kd xs (fun j=>j==i||D j) xs.length=i+1:=by
    refine yI (by omega) (.inr ⟨i,rfl,by simp,heffi⟩) fun j h1 h2=>?_
    cases hej:iO xs j with
    | false=>simp
    | true=>
      have hne:j≠i:=by omega
      have:=hside j h2 hne hej;have h9:decide (j<i)=Js:=by simp;omega
      rw[h9]at this;simp[this,hne]
  --what is there lies as it lay in the text's order
  have hcont:∀y,y<(Hh i).next->(Hh (max (kd xs D xs.length) (bi Hh y xs.length))).get y=(Hh i).get y:=by
    intro y hlt;have hb:bi Hh y xs.length<=i:=p9 mono (Ab _) hlt;have hln:y<(Hh xs.length).next:=Bk hlt (mono i _ (by omega) (Ab _));have hbh:y<(Hh (bi Hh y xs.length)).next:=D5 hln;have hyp:y<(Hh (max (kd xs D xs.length) (bi Hh y xs.length))).next:=Bk hbh (mono _ _ (by omega) (by omega));have:=lH ok T (y:=y) (p:=max (kd xs D xs.length) (bi Hh y xs.length)) (i-max (kd xs D xs.length) (bi Hh y xs.length)) (by omega) hyp (fun j h1 h2 hej hwj=>by
      have h3:=pR xs D xs.length j (by omega) (by omega);have h4:=hside j (by omega) (by omega) hej;rw[hej,h4]at h3;simp at h3;omega)
    rw[show max (kd xs D xs.length) (bi Hh y xs.length)+(i-max (kd xs D xs.length) (bi Hh y xs.length))=i from by omega]at this;exact this.symm
  have hhr:HR P ρ (Hh i) w:=by
    have hev0:Ev h (Hh i):=by have:=nZ ok T (i:=0) i (by omega);rw[h0,Bg]at this;exact this
    have hfr0:dl ρ0 h (Hh i):=fun y p q=>by have m1:=mono i xs.length (by omega) (Ab _);rw[hs]at m1;exact hfr y p (by omega)
    refine⟨ds.gat,ds.mv hev0 hfr0,ds.fg,fun y l ob hy hg=>ds.obj y l ob hy (by rw[hcont y (H.bj hg)];exact hg),fun y z ly lz oy oz hy hz hgy hgz=>?_⟩;exact ds.inj y z ly lz oy oz hy hz (by rw[hcont y (H.bj hgy)];exact hgy) (by rw[hcont z (H.bj hgz)];exact hgz)
  have hfresh:dl ρ (Hh i) (Hh (i+1)):=by
    intro y h1 h2
    cases hy:ρ y with
    | none=>rfl
    | some l=>
      rcases ds.dom _ l hy with h3 | ⟨k,h3,h4,h5,h6⟩
      · have m0:=mono 0 i (by omega) (by omega);have m1:=mono (i+1) xs.length (by omega) (Ab _);rw[h0]at m0;rw[hs]at m1;rw[hfr y (by omega) (by omega)]at h3;cases h3
      · rcases Fk k i with h7 | h7 | h7
        · have:=mono (k+1) i (by omega) (by omega);omega
        · subst h7;rw[hd]at h4;cases h4
        · have:=mono (i+1) k (by omega) (by omega);omega
  have hops:Ops ρ (A i) act x.op.dv:=fun t ht=>by
    by_cases hl:t<a.length
    · rw[<-QM S T hc ho hx hd hed (MZ ht) hl];exact ds.tmps t hl
    · have hla:=pF T i (by omega);rw[kI,Bu (by omega)];exact .aa _
  refine LN ok q1 hrun hops hhr hfresh ?_;intro u ρ' w' hv hr' st;rw[<-q2]
  --an object that a later operation of the text has made already
  have hlate:∀y,¬y<(Hh (i+1)).next->(Hh (max (i+1) (bi Hh y xs.length))).get y=(Hh (max (kd xs D xs.length) (bi Hh y xs.length))).get y:=by
    intro y hy;have hbg:i+1<=bi Hh y xs.length:=by
      rcases V4 Hh y xs.length with e | e
      · omega
      · rcases Bi (bi Hh y xs.length) (i+1)with h5 | h5
        · have:=mono (bi Hh y xs.length) (i+1) (by omega) (by omega);omega
        · exact h5
    rw[show max (i+1) (bi Hh y xs.length)=bi Hh y xs.length from by omega,show max (kd xs D xs.length) (bi Hh y xs.length)=bi Hh y xs.length from by omega]
  have hearly:∀y,y<(Hh (i+1)).next->(Hh (max (i+1) (bi Hh y xs.length))).get y=(Hh (i+1)).get y:=by intro y hy;have:=p9 mono (Ab xs.length) hy;rw[show max (i+1) (bi Hh y xs.length)=i+1 from by omega]
  have hbase:∀y l,ρ' y=Jp l->¬y<(Hh (i+1)).next->ρ y=Jp l:=by
    intro y l hy hn;rcases st.dom y l hy with h1 | ⟨_,h1⟩
    · exact h1
    · exact absurd h1 hn
  --whose block is it,seen from before
  have howner:∀y l oy,ρ' y=Jp l->(Hh (i+1)).get y=Jp oy->oy.cu=Jr->(∃oy',ρ y=Jp l/\(Hh i).get y=Jp oy'/\oy'.cu=Jr/\(oy.cn=Jr->oy'.cn=Jr))\/w.heap.size<=l.blk\/(∃z lz oz,ρ z=Jp lz/\(Hh i).get z=Jp oz/\oz.cn=Jr/\l.blk=lz.blk):=by
    intro y l oy hy hg hlv;rcases st.own y l hy with h1 | h1 | h1
    · by_cases hlt:y<(Hh i).next
      · obtain⟨o1,g1,g2⟩:=hev.og hg hlt hlv;refine .inl ⟨o1,h1,g1,g2,fun hrw=>?_⟩;obtain⟨o2,g3,g4⟩:=hev.jr hg hlt hrw;rw[g1]at g3;cases g3;exact g4
      · have:=hfresh y (by omega) (H.bj hg);rw[h1]at this;cases this
    · exact .inr (.inl h1)
    · exact .inr (.inr h1)
  have hlateblk:∀y ly oy,ρ y=Jp ly->¬y<(Hh (i+1)).next->(Hh (max (kd xs D xs.length) (bi Hh y xs.length))).get y=Jp oy->oy.cu=Jr->
      ∀z lz oz,ρ' z=Jp lz->(Hh (i+1)).get z=Jp oz->oz.cu=Jr->(oz.cn=Jr\/oy.cn=Jr)->ly.blk≠lz.blk:=by
    intro y ly oy hy hny hgy hly z lz oz hz hgz hlz hor;have hylt:=(ds.obj y ly oy hy hgy).lt hly;rcases howner z lz oz hz hgz hlz with⟨oz',g1,g2,g3,g4⟩ | g1 | ⟨q,lq,oq,g1,g2,g3,g4⟩
    · have hzlt:=H.bj g2;have hne:y≠z:=by have:=hev.next;omega
      have gz':(Hh (max (kd xs D xs.length) (bi Hh z xs.length))).get z=Jp oz':=by rw[hcont z hzlt];exact g2
      rcases hor with h1 | h1
      · exact fun e=>ds.inj z y lz ly oz' oy g1 hy gz' hgy (g4 h1) hly (Ne.symm hne) e.symm
      · exact ds.inj y z ly lz oy oz' hy g1 hgy gz' h1 g3 hne
    · omega
    · have hqlt:=H.bj g2;have hne:y≠q:=by have:=hev.next;omega
      have gq':(Hh (max (kd xs D xs.length) (bi Hh q xs.length))).get q=Jp oq:=by rw[hcont q hqlt];exact g2
      rw[g4];exact fun e=>ds.inj q y lq ly oq oy g1 hy gq' hgy g3 hly (Ne.symm hne) e.symm
  refine hk u ρ' w' ⟨?_,?_,ds.sub.trans st.sub,hr'.fg,?_,?_,?_,?_,As ds.lm st.size,st.os.trans ds.os,st.tape.trans ds.tape,st.output.trans ds.output,?_,ds.glb⟩
  · cases x.dst<;>simpa [Act.put]using ds.size
  · exact A9 S hc ho hx hd hed (fun t ht=>(ds.tmps t ht).mono st.sub) ds.size hv
  · intro y l hy;rcases st.dom y l hy with h1 | ⟨h1,h2⟩
    · rcases ds.dom y l h1 with h3 | ⟨k,h3,h4,h5⟩
      · exact .inl h3
      · exact .inr ⟨k,h3,by simp[h4],h5⟩
    · exact .inr ⟨i,hi,by simp,h1,h2⟩
  · rw[hkd'];intro y l ob hy hg;by_cases hlt:y<(Hh (i+1)).next
    · rw[hearly y hlt]at hg;exact hr'.obj y l ob hy hg
    · rw[hlate y hlt]at hg;have hyo:=hbase y l hy hlt;have h1:=ds.obj y l ob hyo hg
      cases hlv:ob.cu with
      | false=>cases ob<;>first | trivial | (simp[cq.cu]at hlv)
      | true=>
        refine h1.mono st.sub (st.frame _ (h1.lt hlv) fun z lz oz hz hgz hrz e=>?_);have hzlt:=H.bj hgz;have hne:z≠y:=by have:=hev.next;omega
        exact ds.inj z y lz l oz ob hz hyo (by rw[hcont z hzlt];exact hgz) hg hrz hlv hne e
  · rw[hkd'];intro y z ly lz oy oz hy hz hgy hgz hry hlz hne;by_cases hly:y<(Hh (i+1)).next
    · rw[hearly y hly]at hgy;by_cases hlz':z<(Hh (i+1)).next
      · rw[hearly z hlz']at hgz;exact hr'.inj y z ly lz oy oz hy hz hgy hgz hry hlz hne
      · rw[hlate z hlz']at hgz;exact fun e=>hlateblk z lz oz (hbase z lz hz hlz') hlz' hgz hlz y ly oy hy hgy (cq.eu hry) (.inl hry) e.symm
    · rw[hlate y hly]at hgy;by_cases hlz':z<(Hh (i+1)).next
      · rw[hearly z hlz']at hgz;exact hlateblk y ly oy (hbase y ly hy hly) hly hgy (cq.eu hry) z lz oz hz hgz hlz (.inr hry)
      · rw[hlate z hlz']at hgz;exact ds.inj y z ly lz oy oz (hbase y ly hy hly) (hbase z lz hz hlz') hgy hgz hry hlz hne
  · intro y l hy;rcases st.own y l hy with h1 | h1 | ⟨z,lz,oz,g1,g2,g3,g4⟩
    · exact ds.own y l h1
    · exact .inr (.inl (As ds.lm h1))
    · rcases ds.own z lz g1 with h2 | h2 | ⟨q,lq,oq,k1,k2,k3,k4⟩
      · by_cases hzl:z<h.next
        · have ev0:=nZ ok T (i:=0) i (by omega);rw[h0,Bg]at ev0;obtain⟨o1,g5,g6⟩:=ev0.jr g2 hzl g3;exact .inr (.inr ⟨z,lz,o1,h2,g5,g6,g4⟩)
        · have m1:=mono i xs.length (by omega) (Ab _);rw[hs]at m1;have:=hfr z (by omega) (by have:=H.bj g2;omega);rw[h2]at this;cases this
      · exact .inr (.inl (by rw[g4];exact h2))
      · exact .inr (.inr ⟨q,lq,oq,k1,k2,k3,g4.trans k4⟩)
  · intro b hb hno;rw[<-ds.frame b hb hno];refine st.frame b (Bk hb ds.lm) fun z lz oz g1 g2 g3 e=>?_;rcases ds.own z lz g1 with h2 | h2 | ⟨q,lq,oq,k1,k2,k3,k4⟩
    · by_cases hzl:z<h.next
      · have ev0:=nZ ok T (i:=0) i (by omega);rw[h0,Bg]at ev0;obtain⟨o1,g5,g6⟩:=ev0.jr g2 hzl g3;exact hno z lz o1 h2 g5 g6 e
      · have m1:=mono i xs.length (by omega) (Ab _);rw[hs]at m1;have:=hfr z (by omega) (by have:=H.bj g2;omega);rw[h2]at this;cases this
    · omega
    · exact hno q lq oq k1 k2 k3 (by rw[<-k4];exact e)
end
end
end
def HI:∀(os:List Oper) (u:List (List Nat)),(∀j,j<u.length->(tX os u).getD j []=u.getD j [])/\
    (∀j o,os[j]? =Jp o->(∀e∈dS o,e<u.length+j)->∀i∈(tX os u).getD (u.length+j) [],∃e∈dS o,i=e\/i∈(tX os u).getD e [])
  | [],u=>⟨fun j h=>rfl,fun j o h=>by simp at h⟩
  | o::os,u=>by
    obtain⟨h1,h2⟩:=HI os (u++[((dS o).flatMap fun j=>j::u.getD j []).eraseDups]);have y:∀j,j<u.length->(tX (o::os) u).getD j []=u.getD j []:=by
      intro j J;unfold tX
      grind
    refine⟨y,fun j G E hlt i B=>?_⟩
    cases j with
    | zero=>
      simp at E;subst E;have I:(tX (o::os) u).getD (u.length+0) []=((dS o).flatMap fun j=>j::u.getD j []).eraseDups:=by unfold tX;all_goals grind
      rw[I,List.mem_eraseDups,List.mem_flatMap]at B;obtain⟨e,he,B⟩:=B;refine⟨e,he,?_⟩;rcases List.mem_cons.1 B with h | h
      · exact .inl h
      · grind
    | succ j=>
      have hlen:(u++[((dS o).flatMap fun j=>j::u.getD j []).eraseDups]).length+j=u.length+(j+1):=by simp;omega
      have:=h2 j G (by simpa using E) (fun e he=>by have:=hlt e he;omega);rw[hlen]at this;exact this i (by unfold tX at B;exact B)
section
variable {P:Program} {rec:Rec} {m:Nat}
def jF{B:List (List Nat)}{u:List aw}{i:Nat}{x:aw}(h:(mU B u)[i]? =Jp x):∃y,u[i]? =Jp y/\x={y with chk:=(Ba i).filter fun j=>match u[j]? with
    | some p=> !gY B j i&&sK p y
    | none=>Js} :=by
  unfold mU at h;rw[Ap,List.getElem?_zipIdx]at h
  cases E:u[i]? with
  | none=>simp[E]at h
  | some y=>simp[E]at h;exact⟨y,rfl,h.symm⟩
def OV{ops:Array Oper}{u:List aw}{Z:Bool}(Q:jD (xL P ops) ops.toList=Jp u)(K:SN Z ops.toList (tX ops.toList []) u=Jr):
    cw P ops (mU (tX ops.toList []) u) (tX ops.toList [])/\(Z|| !Region.departs ops)=Jr:=by
  unfold SN at K;simp only[Aw,Cb]at K;obtain⟨⟨h1,h2⟩,h3⟩:=K;have B:∀(i:Nat) (o:Oper),ops[i]? =Jp o->∀j∈dS o,j<i:=by
    intro i o O j hj;have:=h2 (o,i) (by rw[Ic];simpa using O)
    grind
  have L:∀(i j:Nat) (x y:aw),u[i]? =Jp x->u[j]? =Jp y->i≠j->(!(x.op.effect&&y.op.effect)||gY (tX ops.toList []) i j)=Jr/\(match x.dst with | some d=> !y.names.contains d||gY (tX ops.toList []) i j | none=>Jr)=Jr:=by
    intro i j x y E G I;have:=h3 (x,i) (by rw[Ic];exact E);simp only at this;have:=this (y,j) (by rw[Ic];exact G);simp only[El,Aw,beq_iff_eq]at this;rcases this with h | h
    · exact absurd h I
    · exact⟨by simpa using h.1,h.2⟩
  refine⟨⟨?_,?_,B,?_,?_,?_,?_⟩,by simpa only[Array.toArray_toList]using h1⟩
  · have:=iY Q;unfold mU;simp[this]
  · intro i o x O E;obtain⟨y,G,rfl⟩:=jF E;obtain⟨q1,q2,_,q4⟩:=xK (oD Q i o y (by simpa using O) G);exact⟨q1,q2,q4⟩
  · intro j o O i hi;have:=(HI ops.toList []).2 j o (by simpa using O) (fun e he=>by have:=B j o O e he;simpa using this)
    grind
  · intro i j x y E G I a0 a1;obtain⟨S,M,rfl⟩:=jF E;obtain⟨R,J,rfl⟩:=jF G;all_goals grind
  · intro i j x y t E G I hd ht;obtain⟨S,M,rfl⟩:=jF E;obtain⟨R,J,rfl⟩:=jF G;have:=(L i j S R M J I).2;simp only at hd;rw[hd]at this;have T:t∈R.names:=ht;simpa [T]using this
  · intro i j x y E G U V Y;obtain⟨S,M,rfl⟩:=jF E;obtain⟨R,J,rfl⟩:=jF G;simp only[List.mem_filter,Et];refine⟨U,?_⟩;rw[J];simp only[V,Bool.not_false,Bool.true_and];exact Y
section
variable {ops:Array Oper} {xs:List aw} {an:List (List Nat)} {a a':List AV} {h h':H} {A:Nat->List AV} {Hh:Nat->H} {V:Nat->AV} {RD:Nat->List Nat} {W:Nat->Bool}
variable {ρ0:Emb} {w0:World}
def CT(y:Act)(d:Option Nat)(u:Value):(y.put d u).defers=y.defers:=by cases d<;>rfl
def XI(ok:fe P rec m)(S:cw P ops xs an)(T:Trace rec xs a h a' h' A Hh V RD W)(hfr:dl ρ0 h h'){ro:Option Nat}{Q:Exit->Act->World->Prop}{dfs:List Deferred}
    (hQ:∀ρ w act D,(∀i,i<ops.size->D i=Jr)->DS P xs a ρ0 h w0 Hh V D ρ w act->act.defers=dfs->Q .normal act w):
    ∀{l:List Nat} {D:Nat->Bool},oa ops D l->mR ops D->∀{ρ w act},DS P xs a ρ0 h w0 Hh V D ρ w act->act.defers=dfs->wpOpsIn (j7 ro) 0 P ops Q l act w:=by
  intro l D hs
  induction hs with
  | nil D hall=>intro hc ρ w act ds hd;exact hQ ρ w act D hall ds hd
  | cons D i o l ho hd he _ ih=>
    intro hc ρ w act ds hdf;have hi:i<xs.length:=by rw[S.len];exact(Array.getElem?_eq_some_iff.1 ho).1
    have hx:xs[i]? =Jp xs[i]:=Ad hi;obtain⟨q1,q2,q3⟩:=S.tr i o _ ho hx;have hlen:=pF T i (by omega);have hguard:Region.wanted o (yielded ops act.tmps)=W i:=by
      refine xF (a:=A i) (ρ:=ρ) (fun t bb hg=>?_) (by rw[ds.size,hlen]) q3 (T.want i _ hx);by_cases hl:t<a.length
      · rw[<-QM S T hc ho hx hd he (by unfold aw.names;rw[hg];simp) hl];exact ds.tmps t hl
      · rw[kI,Bu (by omega)];exact .aa _
    simp only[wpOpsIn,ho,hguard];have hc':=SS hc ho he
    cases hw:W i with
    | true=>
      simp only[if_true];have hk:∀u ρ' w',DS P xs a ρ0 h w0 Hh V (fun j=>j==i||D j) ρ' w' (act.put xs[i].dst u)->wpOpsIn (j7 ro) 0 P ops Q l (act.put xs[i].dst u) w':=
        fun u ρ' w' ds'=>ih hc' ds' (by rw[CT];exact hdf)
      cases hq:xs[i].op.effect with
      | false=>exact DS.quiet ok S T hc ho hx hd he hq hw hfr ds T.hn T.h0 hk
      | true=>exact DS.loud ok S T hc ho hx hd he hq hw hfr ds T.hn T.h0 hk
    | false=>
      simp only[Aq,if_false];refine⟨fun _ _=>trivial,?_⟩;rw[<-q2];obtain⟨s1,s2⟩:=T.skip i _ hx hw;have mono:=nY ok T
      --nothing has turned;only where an operation that changes objects is passed over,the place of looking moves on
      have hmove:∀y ρl,ρ y=Jp ρl->∀ob,(Hh (max (kd xs (fun j=>j==i||D j) xs.length) (bi Hh y xs.length))).get y=Jp ob->(Hh (max (kd xs D xs.length) (bi Hh y xs.length))).get y=Jp ob:=by
        intro y ly hy ob hg
        cases hq:xs[i].op.effect with
        | false=>rwa [NP hx hq]at hg
        | true=>
          have hsz:i<ops.size:=by rw[<-S.len];exact hi
          have heffi:iO xs i=Jr:=by unfold iO;rw[hx];exact hq
          have hside:∀j,j<xs.length->j≠i->iO xs j=Jr->D j=decide (j<i):=by
            intro j hj hne hej;have hjx:xs[j]? =Jp (xs[j]'hj):=Ad hj;have hej':(xs[j]'hj).op.effect=Jr:=by unfold iO at hej;rw[hjx]at hej;exact hej
            exact S.side hc hsz hd (fun o' ho'=>by rw[ho]at ho';cases ho';exact he) (by rw[<-S.len];exact hj) hne (S.effs j i _ _ hjx hx hne hej' hq)
          have hkle:kd xs D xs.length<=i:=by
            rcases yJ xs D xs.length with h9 | ⟨j0,e0,l0,d0,ef0⟩
            · omega
            · have hne:j0≠i:=fun e=>by subst e;rw[hd]at d0;cases d0
              have:=hside j0 l0 hne ef0;rw[d0]at this;simp at this;omega
          have hkd':kd xs (fun j=>j==i||D j) xs.length=i+1:=by
            refine yI (by omega) (.inr ⟨i,rfl,by simp,heffi⟩) fun j h1 h2=>?_
            cases hej:iO xs j with
            | false=>simp
            | true=>
              have hne:j≠i:=by omega
              have:=hside j h2 hne hej;have h9:decide (j<i)=Js:=by simp;omega
              rw[h9]at this;simp[this,hne]
          rw[hkd']at hg;by_cases hlt:y<(Hh (i+1)).next
          · rw[s2]at hlt;have hb:bi Hh y xs.length<=i:=p9 mono (Ab _) hlt;have hln:y<(Hh xs.length).next:=Bk hlt (mono i _ (by omega) (Ab _));have hbh:y<(Hh (bi Hh y xs.length)).next:=D5 hln;have hyp:y<(Hh (max (kd xs D xs.length) (bi Hh y xs.length))).next:=Bk hbh (mono _ _ (by omega) (by omega));have:=lH ok T (y:=y) (p:=max (kd xs D xs.length) (bi Hh y xs.length)) (i-max (kd xs D xs.length) (bi Hh y xs.length)) (by omega) hyp (fun j h1 h2 hej hwj=>by
              have h3:=pR xs D xs.length j (by omega) (by omega);have h4:=hside j (by omega) (by omega) hej;rw[hej,h4]at h3;simp at h3;omega)
            rw[show max (kd xs D xs.length) (bi Hh y xs.length)+(i-max (kd xs D xs.length) (bi Hh y xs.length))=i from by omega]at this;rw[<-this];rw[show max (i+1) (bi Hh y xs.length)=i+1 from by omega,s2]at hg;exact hg
          · have hbg:i+1<=bi Hh y xs.length:=by
              rcases V4 Hh y xs.length with e | e
              · omega
              · rcases Bi (bi Hh y xs.length) (i+1)with h5 | h5
                · have:=mono (bi Hh y xs.length) (i+1) (by omega) (by omega);omega
                · exact h5
            rw[show max (i+1) (bi Hh y xs.length)=bi Hh y xs.length from by omega]at hg;rw[show max (kd xs D xs.length) (bi Hh y xs.length)=bi Hh y xs.length from by omega];exact hg
      refine ih hc' ⟨?_,?_,ds.sub,ds.fg,?_,?_,?_,ds.own,ds.lm,ds.os,ds.tape,ds.output,ds.frame,ds.glb⟩ (by rw[CT];exact hdf)
      · cases xs[i].dst<;>simpa [Act.put]using ds.size
      · exact A9 S hc ho hx hd he ds.tmps ds.size (by rw[s1];exact VR.undef)
      · intro y ly hy;rcases ds.dom y ly hy with h1 | ⟨k,h1,h2,h3⟩
        · exact .inl h1
        · exact .inr ⟨k,h1,by simp[h2],h3⟩
      · intro y ly ob hy hg;exact ds.obj y ly ob hy (hmove y ly hy ob hg)
      · intro y z ly lz oy oz hy hz hgy hgz;exact ds.inj y z ly lz oy oz hy hz (hmove y ly hy oy hgy) (hmove z lz hz oz hgz)
def aAM(ok:fe P rec m)(S:cw P ops xs an)(a1:(P.follows .mixedOrders|| !Region.departs ops)=Jr)(T:Trace rec xs a h a' h' A Hh V RD W){ro:Option Nat}{Q:Exit->Act->World->Prop}{id B:Nat}{ρ:Emb}{w:World}{J:Act}
    (ht:TR ρ a J.tmps) (hr:HR P ρ h w) (Z:dl ρ h h') (a6:MK B ρ w J.defers)
    (hQ:∀ρ' w' E,TR ρ' a' E.tmps->HR P ρ' h' w'->Stp ρ h w ρ' h' w'->MK B ρ' w' E.defers->Q .normal E w'):
    (Code.region id ops Jr).wpIn (j7 ro) 0 P Q J w:=by
  refine wpIn_region_draw fun t=>?_;obtain⟨D0,a0,a2⟩:=aAR ops S.oo (P.follows .mixedOrders) a1 t;have mono:=nY ok T;have a7:J.tmps.size=a.length:=by have:=ht.1;simpa using this
  have K:HR P ρ h w.drew:=HR.heap hr rfl;have a9:∀D:Nat->Bool,(∀i,i<ops.size->D i=Js)->∀t,vv xs a V D t xs.length=bu a t:=fun D hD t=>A8 (i:=0) xs.length (by omega) (fun j x _ hj _ _=>hD j (by rw[<-S.len];exact hj));have R:∀D:Nat->Bool,(∀i,i<ops.size->D i=Js)->kd xs D xs.length=0:=fun D hD=>yI (by omega) (.inl rfl) (fun j _ hj=>by rw[hD j (by rw[<-S.len];exact hj)];rfl);have G:∀y l,ρ y=Jp l->∀U,(Hh (max 0 (bi Hh y xs.length))).get y=Jp U->h.get y=Jp U:=by
    intro y l I U hg;by_cases hlt:y<h.next
    · have hb:bi Hh y xs.length<=0:=p9 mono (Ab _) (by rw[T.h0];exact hlt);rw[show max 0 (bi Hh y xs.length)=0 from by omega,T.h0]at hg;exact hg
    · have h1:=H.bj hg;have h2:=aCZ Hh y xs.length;have h3:=mono (max 0 (bi Hh y xs.length)) xs.length (by omega) (Ab _);rw[T.hn]at h3;have:=Z y (by omega) (by omega);rw[I]at this;cases this
  refine XI (w0:=w) (dfs:=J.defers) ok S T Z ?_ a2 ?_ (ρ:=ρ) ?_ rfl
  · intro ρ' w' E D Y ds b0;have a5:Stp ρ h w ρ' h' w':=⟨ds.sub,fun y l I=>by
        rcases ds.dom y l I with h1 | ⟨k,h1,h2,h3,h4⟩
        · exact .inl h1
        · have m0:=mono 0 k (by omega) (by omega);have m1:=mono (k+1) xs.length (by omega) (Ab _);rw[T.h0]at m0;rw[T.hn]at m1;exact .inr ⟨by omega,by omega⟩,ds.own,ds.lm,ds.os,ds.tape,ds.output,ds.frame⟩
    have L:∀y,y<h'.next->(Hh (max (kd xs D xs.length) (bi Hh y xs.length))).get y=h'.get y:=by
      intro y I;have b1:y<(Hh xs.length).next:=by rw[T.hn];exact I
      have b2:=D5 b1;have h2:=aCZ Hh y xs.length;have h3:=VG xs D xs.length;have b3:y<(Hh (max (kd xs D xs.length) (bi Hh y xs.length))).next:=Bk b2 (mono _ _ (by omega) (by omega));have:=lH ok T (y:=y) (p:=max (kd xs D xs.length) (bi Hh y xs.length)) (xs.length-max (kd xs D xs.length) (bi Hh y xs.length)) (by omega) b3 (fun j h1 h2 b4 b6=>by
        have h3:=pR xs D xs.length j (by omega) (by omega);rw[b4,Y j (by rw[<-S.len];omega)]at h3;simp at h3)
      rw[show max (kd xs D xs.length) (bi Hh y xs.length)+(xs.length-max (kd xs D xs.length) (bi Hh y xs.length))=xs.length from by omega,T.hn]at this;exact this.symm
    refine hQ ρ' w' E ?_ ?_ a5 (by rw[b0];exact a6.step a5)
    · have hlen:=pF T xs.length (Ab _);rw[T.an]at hlen;refine⟨by have:=ds.size;simp;omega,fun j v u h1 h2=>?_⟩;have hj:j<a.length:=by have:=(List.getElem?_eq_some_iff.1 h1).1;omega
      have hv:=ds.tmps j hj;have a3:vv xs a V D j xs.length=bu a' j:=by rw[<-T.an,(B7 T hj xs.length (Ab _)).1];exact vH _ (fun k x hk hx _=>by rw[Y k (by rw[<-S.len];exact hk)])
      rw[a3,kI,h1]at hv;have:E.tmps.getD j undef=u:=by rw[Cj]at h2;simp[Ga,h2]
      rw[this]at hv;exact hv
    · have a4:Ev h h':=by have:=nZ ok T (i:=0) xs.length (by omega);rw[Bg,T.h0,T.hn]at this;exact this
      refine⟨ds.gat,ds.mv a4 Z,ds.fg,fun y l U I hg=>ds.obj y l U I (by rw[L y (H.bj hg)];exact hg),fun y z ly lz oy oz I hz M O=>?_⟩;exact ds.inj y z ly lz oy oz I hz (by rw[L y (H.bj M)];exact M) (by rw[L z (H.bj O)];exact O)
  · intro j o ho hd
    grind
  · refine⟨a7,fun t _=>?_,Sub.refl _,K.fg,fun y l I=> .inl I,?_,?_,fun y l I=> .inl I,Ab _,rfl,rfl,rfl,fun _ _ _=>rfl,K.gat,K.mv⟩
    · rw[a9 D0 a0 t];exact ht.get t
    · rw[R D0 a0];intro y l U I hg;exact K.obj y l U I (G y l I U hg)
    · rw[R D0 a0];intro y z ly lz oy oz I hz M O;exact K.inj y z ly lz oy oz I hz (G y ly I oy M) (G z lz hz oz O)
end
end
section
variable {P:Program} {rec:Rec} {m:Nat}
def IU(E:fe P rec m):∀{I:List aw} {k:Nat} {a G:List AV} {h B:H} {y:List ku},jL rec I k a h y=Jp (G,B)->Ev h B
  | [],k,a,G,h,B,y,u=>by cases u;exact Ev.refl h
  | x::I,k,a,G,h,B,y,u=>by
    simp only[jL]at u;split at u
    · split at u
      · rename_i hs;split at u
        · exact(BD E hs).trans (IU E u)
        · cases u
      · cases u
    · exact IU E u
    · cases u
def hG(B:fe P rec m):∀{c:AC} {a G:List AV} {h E:H} {e:Ex},bC rec c a h=Jp (e,G,E)->Ev h E
  | .skip,a,G,h,E,e,u=>by simp only[bC]at u;cases u;exact Ev.refl h
  | .ret,a,G,h,E,e,u=>by simp only[bC]at u;cases u;exact Ev.refl h
  | .exit id,a,G,h,E,e,u=>by simp only[bC]at u;cases u;exact Ev.refl h
  | .region ops,a,G,h,E,e,u=>by
    simp only[bC]at u;split at u
    · rename_i J;cases u;exact IR B J
    · cases u
  | .ff ops,a,G,h,E,e,u=>by
    simp only[bC]at u;split at u
    · rename_i J;cases u;exact IU B J
    · cases u
  | .seq x y,a,G,h,E,e,u=>by
    simp only[bC]at u;split at u
    · rename_i I;exact(hG B I).trans (hG B u)
    · exact hG B u
  | .cond c x y,a,G,h,E,e,u=>by
    simp only[bC]at u;split at u
    · exact hG B u
    · exact hG B u
    · cases u
  | .block id x,a,G,h,E,e,u=>by
    simp only[bC]at u;split at u
    · rename_i I;split at u<;>(cases u;exact hG B I)
    · exact hG B u
  | .loop O x,a,G,h,E,e,u=>by
    simp only[bC]at u;split at u
    · rename_i I;exact(hG B I).trans (B.jx _ _ _ _ _ _ u)
    · exact hG B u
  | .rangeFunc f Q K b,a,G,h,E,e,u=>by
    simp only[bC]at u;split at u
    · split at u
      · rename_i L;have M:=B.nu _ _ _ _ _ L;split at u
        · rename_i hg;split at u
          · cases u
          · cases u;exact((Ev.alloc h _).trans M).trans (Ev.set hg (.inr (.inr ⟨_,_,rfl,rfl,Gu _,rfl,rfl,rfl⟩)) rfl)
        · cases u
      · cases u
    · cases u
def zJ{E y:Nat}{ex:List (Nat×Nat)}{G:Nat}{B:AC}{ops:Array Oper}{u:Bool}(h:m7 P ops u=Jp B):(live E B y ex G).2=B:=by
  unfold m7 at h;split at h
  · cases h
  · split at h
    · cases h;rfl
    · simp only at h;split at h
      · split at h<;>(cases h;rfl)
      · cases h
def aBZ(u:List aw):(u.map fun x=>{x with chk:=x.chk.filterMap fun j=>if 0<=j then Jp (j-0)else Jq})=u:=by
  rw[List.map_congr_left (g:=id)]
  · simp
  · intro x _;simp
def QL{B:List (List Nat)}{u:List aw}(h0:∀x∈u,x.chk=[])(h:(mU B u).all (fun o=>o.chk.isEmpty)=Jr):mU B u=u:=by
  apply List.ext_getElem?;intro i
  cases E:(mU B u)[i]? with
  | none=>
    have:u.length<=i:=by have:=List.getElem?_eq_none_iff.1 E;unfold mU at this;simpa using this
    rw[Bu this]
  | some x=>
    obtain⟨y,G,e⟩:=jF E;rw[G];congr 1;have h1:x.chk=[]:=by rw[Cb]at h;simpa using h x (Af E)
    have h2:=h0 y (Af G);cases x;cases y;simp_all
def HR.pz{ρ:Emb}{h:H}{w:World}(B:Obj)(hr:HR P ρ h w):HR P ρ h (w.alloc B)/\Stp ρ h w ρ h (w.alloc B):=by have u:∀b,b<w.heap.size->(w.alloc B).heap[b]? =w.heap[b]? :=fun b hb=>RowKit.Below.heap_alloc w B b hb;refine⟨⟨hr.gat.fc fun b l _ hlt=>u b hlt,hr.mv,fun x l E=>by have:=hr.fg x l E;simp;omega,fun x l o E hg=>(hr.obj x l o E hg).mono (Sub.refl ρ) (u _ (hr.fg x l E)),hr.inj⟩,⟨Sub.refl ρ,fun _ _ h=> .inl h,fun _ _ h=> .inl h,by simp,rfl,rfl,rfl,fun b hb _=>u b hb⟩⟩
def zC{ops:Array Oper} :∀{os:List Oper} {u:List aw},jD (xL P ops) os=Jp u->∀x∈u,x.chk=[]
  | os,u,h,x,y=>by obtain⟨i,B,e⟩:=Dx y;have hl:=iY h;exact(xK (oD h i (os[i]'(by omega)) x (Ad _) (by rw[<-e];exact Ad B))).2.2.1
def H1{ρ:Emb}{a:List AV}{u:Act}{x:Operand}{r:AR}(ht:TR ρ a u.tmps)(h:trR x=Jp r):VR ρ (ev a r) (u.eval x):=cB h fun t _=>ht.get t
def MK.pn{B:Nat}{ρ:Emb}{w:World} :∀{ds:List Deferred},MK B ρ w ds->∀D,w.heap.size<=D->({target:= .collected D,args:= #[]} :Deferred)∉ds
  | [],_,D,_=>by simp
  | d::ds,⟨⟨u,G,h1,h2,h3,I⟩,hr⟩,D,y=>by
    intro hm;rcases List.mem_cons.1 hm with e | e
    · subst h1;have:D=u:=by injection e with E J;injection E
      subst this;have:=(Array.getElem?_eq_some_iff.1 h2).1;omega
    · exact MK.pn hr D y e
def il.trans{B:Nat}{ρ G:Emb}{h h1 y:H}{w I:World}{e:Ex}{J:List AV}{x:Exit}{u:Act}{w':World}(s:Stp ρ h w G h1 I)(K:Ev h h1)(L:Ev h1 y)(E:dl ρ h y)
    (M:il P B G h1 I e J y x u w'):il P B ρ h w e J y x u w':=by
  obtain⟨O,Q,t,r,R,mk⟩:=M;exact⟨O,Q,t,r,s.trans R K L E,mk⟩
def fP{b:Frame}{a:Act}{k:List Item}{cs:List Frame}{w:World}{c:Code} :step P (lone (b.atR a (.code (.scope c)::k)) cs w)= .next (lone (b.atR a (.code c:: .inScope c::k)) cs w):=
  step_lone_go (by simp[stepG,stepG.exec,Frame.atR])
def o8{b:Frame}{a:Act}{k:List Item}{cs:List Frame}{w:World}{c:Code} :step P (lone (b.atR a (.inScope c::k)) cs w)= .next (lone (b.atR a k) cs w):=
  step_lone_go (by simp[stepG,stepG.exec,Frame.atR])
def tW{F:Fence}{n:Nat}{Q:Exit->Act->World->Prop}{a:Act}{w:World}{c:Code}(h:c.wpIn F n P (fun e a w=>match e with | .goto _=>False | e=>Q e a w) a w):(Code.scope c).wpIn F n P Q a w:=by
  intro b k cs I hb hr;have h0:(lone (b.atR a (.code (.scope c)::k)) cs w).fenced P F:=fenced_calm hb hr rfl;obtain⟨e,E,G,B,u⟩:=h b (.inScope c::k) cs I hb hr
  cases e with
  | normal=>exact⟨.normal,E,G,B,.head h0 fP (StepsIn.trans u (.one (fenced_calm hb hr rfl) o8))⟩
  | exit y=>
    have L:exitTo y (.inScope c::k)=exitTo y k:=by simp[exitTo]
    exact⟨.exit y,E,G,B,fun M J=> .head h0 fP (u.1 M (by rw[L];exact J)),
      fun K J=>let ⟨O,h1,h2⟩:=u.2 K (by rw[L];exact J);⟨O,h1,.head h0 fP h2⟩⟩
  | goto l=>exact B.elim
  | ret=>exact⟨_,E,G,B,.of_steps (.one h0 fP) u⟩
  | panic R=>exact⟨_,E,G,B,.of_steps (.one h0 fP) u⟩
  | outgrown=>exact⟨_,E,G,B,.of_steps (.one h0 fP) u⟩
def NI(ok:fe P rec m){x:Code}{ax:AC}(hx:rL P x ax)
    (R:∀{a S:List AV} {h L:H} {e:Ex},bC rec ax a h=Jp (e,S,L)->∀{J:Option Nat} {B:Nat} {ρ:Emb} {w:World} {y:Act},B<=w.heap.size->Ctx J ρ h->TR ρ a y.tmps->HR P ρ h w->dl ρ h L->MK B ρ w y.defers->x.wpIn (j7 J) 0 P (il P B ρ h w e S L) y w)
    {sc:List Nat} {a S:List AV} {h L:H} {e:Ex} (u:bC rec (.loop sc ax) a h=Jp (e,S,L))
    {J:Option Nat} {B:Nat} {ρ:Emb} {w:World} {y:Act} (hB:B<=w.heap.size) (E:Ctx J ρ h) (ht:TR ρ a y.tmps) (hr:HR P ρ h w) (G:dl ρ h L) (T:MK B ρ w y.defers):
    Code.roundsIn (j7 J) 0 P x (il P B ρ h w e S L) (m+1) y w:=by
  simp only[bC]at u;rw[roundsIn_succ];split at u
  · rename_i a1 h1 U;have e1:=hG ok U;have e2:=ok.jx _ _ _ _ _ _ u;refine wpIn_mono (R U hB E (ht.be _) hr (G.first e2) T) ?_;rintro q K w1 ⟨rfl,Y,Z,r1,M,I⟩;simp only[Ex.fx,Exit.then];have hl:=ok.loop _ _ hx _ _ _ _ _ _ u J B Y w1 K (As hB M.size) (E.step M.sub e1) Z r1 (G.rest e1 M) I;have mono:∀(k:Nat) (Q Q':Exit->Act->World->Prop),(∀e a w,Q e a w->Q' e a w)->∀a w,Code.roundsIn (j7 J) 0 P x Q k a w->Code.roundsIn (j7 J) 0 P x Q' k a w:=by
      intro k Q Q' V
      induction k with
      | zero=>intro a w hh;exact hh
      | succ k ih=>
        intro a w hh;rw[roundsIn_succ]at hh ⊢;refine wpIn_mono hh ?_;intro q a1 w1 O
        cases q with
        | normal=>exact ih _ _ O
        | exit id=>exact V _ _ _ O
        | goto l=>exact V _ _ _ O
        | ret=>exact V _ _ _ O
        | panic ch=>exact V _ _ _ O
        | outgrown=>exact V _ _ _ O
    exact mono m _ _ (fun q a2 w2 hc=>hc.trans M e1 e2 G) _ _ hl
  · rename_i a0;refine wpIn_mono (R u hB E (ht.be _) hr G T) ?_;rintro q K w1 ⟨rfl,Y,Z,r1,M,I⟩
    cases e with
    | normal=>exact absurd u (a0 _ _)
    | ret=>exact⟨rfl,Y,Z,r1,M,I⟩
    | exit id=>exact⟨rfl,Y,Z,r1,M,I⟩
def CK(ok:fe P rec m){id:Nat}{ops:Array Oper}{E:Bool}{c0:AC}{nt a2 rt:Nat}{ex:List (Nat×Nat)}(y:m7 P ops E=Jp c0){a M:List AV}{h L:H}{e:Ex}(u:bC rec (live nt c0 a2 ex rt).2 a h=Jp (e,M,L))
    {O:Option Nat} {B:Nat} {ρ:Emb} {w:World} {J:Act} (hB:B<=w.heap.size) (a5:Ctx O ρ h) (ht:TR ρ a J.tmps) (hr:HR P ρ h w) (R:dl ρ h L) (U:MK B ρ w J.defers):
    (Code.region id ops E).wpIn (j7 O) 0 P (il P B ρ h w e M L) J w:=by
  rw[zJ y]at u;unfold m7 at y;split at y
  · cases y
  · rename_i Y G;have hlen:ops.toList.length=ops.size:=by simp
    have I:j4 rec Y a h=Jp (M,L)->e= .normal->E=Js->(Code.region id ops E).wpIn (j7 O) 0 P (il P B ρ h w e M L) J w:=by intro h1 h2 h3;subst h2;subst h3;refine wpIn_region ?_;have:=IG (ro:=O) (Q:=il P B ρ h w .normal M L) ok (ops:=ops) (k:=0) (fun j=>by simp) G h1 ht hr R U fun ρ' w' Z t' r' s' m'=>⟨rfl,ρ',t',r',s',m'⟩;rw[hlen,<-List.range_eq_range']at this;exact this
    split at y
    · rename_i hd;cases y;simp only[bC]at u;split at u
      · rename_i ho;cases u;exact I ho rfl (by simpa using hd)
      · cases u
    · rename_i hd;have a3:E=Jr:=by simpa using hd
      subst a3;simp only at y;split at y
      · rename_i a4;obtain⟨S,a0⟩:=OV G a4;have K:jL rec (mU (tX ops.toList []) Y) 0 a h []=Jp (M,L)->e= .normal->(Code.region id ops Jr).wpIn (j7 O) 0 P (il P B ρ h w e M L) J w:=by intro h1 h2;subst h2;obtain⟨A,Hh,V,RD,W,T,_⟩:=QQ (fun _ _=>trivial) h1;rw[aBZ]at T;exact aAM ok S a0 T ht hr R U fun ρ' w' Z t' r' s' m'=>⟨rfl,ρ',t',r',s',m'⟩
        split at y
        · rename_i a1;cases y;simp only[bC]at u;split at u
          · rename_i ho;cases u;refine K ?_ rfl;have hid:=QL (zC G) a1;rw[hid];exact uU (zC G) ho
          · cases u
        · cases y;simp only[bC]at u;split at u
          · rename_i ho;cases u;exact K ho rfl
          · cases u
      · cases y
def xD{F:Fence}{n:Nat}{Q:Exit->Act->World->Prop}{a:Act}{w:World}{c rest:Code}{l:Nat}(hf:findLabel c l=Jp rest)(hQ:∀M a w,¬Q (.goto M) a w)
    (h:c.wpIn F n P (fun e a w=>match e with | .goto M=>M=l/\∃m,q9 F n P l rest Q m a w | e=>Q e a w) a w):(Code.scope c).wpIn F n P Q a w:=by
  intro b k cs O hb hr;have h0:(lone (b.atR a (.code (.scope c)::k)) cs w).fenced P F:=fenced_calm hb hr rfl;have hg:gotoIn l (.inScope c::k)=Jp (.code rest:: .inScope c::k):=by simp[gotoIn,hf]
  have S:∀id,exitTo id (.inScope c::k)=exitTo id k:=fun id=>by simp[exitTo]
  have T:∀m a w,q9 F n P l rest Q m a w->∃e a' w',Q e a' w'/\ArrivesIn (Machine.fenced P F) P (lone (b.atR a (.code rest:: .inScope c::k)) cs w) b k cs e a' w':=by
    intro m
    induction m with
    | zero=>intro a w R;exact R.elim
    | succ m ih=>
      intro a w R;obtain⟨e,E,G,B,u⟩:=(show Code.wpIn F n P rest _ a w from R) b (.inScope c::k) cs O hb hr
      cases e with
      | normal=>exact⟨.normal,E,G,B,StepsIn.trans u (.one (fenced_calm hb hr rfl) o8)⟩
      | exit I=>exact⟨.exit I,E,G,B,fun U J=>u.1 U (by rw[S];exact J),fun K J=>u.2 K (by rw[S];exact J)⟩
      | goto M=>obtain⟨rfl,V⟩:=B;obtain⟨Y,Z,w₂,L,y⟩:=ih _ _ V;exact⟨Y,Z,w₂,L,.of_steps (u.1 _ hg) y⟩
      | ret=>exact⟨_,E,G,B,u⟩
      | panic ch=>exact⟨_,E,G,B,u⟩
      | outgrown=>exact⟨_,E,G,B,u⟩
  obtain⟨e,E,G,B,u⟩:=h b (.inScope c::k) cs O hb hr
  cases e with
  | normal=>exact⟨.normal,E,G,B,.head h0 fP (StepsIn.trans u (.one (fenced_calm hb hr rfl) o8))⟩
  | exit I=>
    exact⟨.exit I,E,G,B,fun U J=> .head h0 fP (u.1 U (by rw[S];exact J)),
      fun K J=>let ⟨k₁,h1,h2⟩:=u.2 K (by rw[S];exact J);⟨k₁,h1,.head h0 fP h2⟩⟩
  | goto M=>obtain⟨rfl,m,R⟩:=B;obtain⟨Y,Z,w₂,L,y⟩:=T m _ _ R;exact⟨Y,Z,w₂,L,.of_steps (.head h0 fP (u.1 _ hg)) y⟩
  | ret=>exact⟨_,E,G,B,.of_steps (.one h0 fP) u⟩
  | panic ch=>exact⟨_,E,G,B,.of_steps (.one h0 fP) u⟩
  | outgrown=>exact⟨_,E,G,B,.of_steps (.one h0 fP) u⟩
def qZ{F:Fence}{n l:Nat}{c:Code}{Q B:Exit->Act->World->Prop}(y:∀e a w,Q e a w->B e a w):∀m {a:Act} {w:World},q9 F n P l c Q m a w->q9 F n P l c B m a w
  | 0,_,_,h=>h.elim
  | m+1,_,_,h=>wpIn_mono (show Code.wpIn F n P c _ _ _ from h) fun e a w u=>by
    cases e with
    | goto E=>exact⟨u.1,qZ y m u.2⟩
    | normal=>exact y _ _ _ u
    | exit id=>exact y _ _ _ u
    | ret=>exact y _ _ _ u
    | panic G=>exact y _ _ _ u
    | outgrown=>exact y _ _ _ u
def Ex.dy(l:Nat):Ex->Exit
  | .normal=> .normal
  | .ret=> .ret
  | .exit id=>if id=1048576+l then .goto l else .exit id
def nw(P:Program)(l:Nat)(B:Nat)(ρ:Emb)(h:H)(w:World)(e:Ex)(G:List AV)(E:H):Exit->Act->World->Prop:=fun x u w'=>
  x=e.dy l/\∃y,TR y G u.tmps/\HR P y E w'/\Stp ρ h w y E w'/\MK B y w' u.defers
def nw.trans{l B:Nat}{ρ G:Emb}{h h1 y:H}{w I:World}{e:Ex}{J:List AV}{x:Exit}{u:Act}{w':World}(s:Stp ρ h w G h1 I)(K:Ev h h1)(L:Ev h1 y)(E:dl ρ h y)
    (M:nw P l B G h1 I e J y x u w'):nw P l B ρ h w e J y x u w':=by
  obtain⟨O,Q,t,r,R,mk⟩:=M;exact⟨O,Q,t,r,s.trans R K L E,mk⟩
def EV{ops:Array Oper}{B:Bool}{G:AC}{I E J:Nat}{ex:List (Nat×Nat)}(y:m7 P ops B=Jp G){a K:List AV}{h L:H}{e:Ex}(u:bC rec (live I G E ex J).2 a h=Jp (e,K,L)):e= .normal:=by
  rw[zJ y]at u;unfold m7 at y;split at y
  · cases y
  · split at y
    · cases y;simp only[bC]at u;split at u<;>cases u;rfl
    · simp only at y;split at y
      · split at y
        · cases y;simp only[bC]at u;split at u<;>cases u;rfl
        · cases y;simp only[bC]at u;split at u<;>cases u;rfl
      · cases y
def aID(ok:fe P rec m)(l:Nat):∀(c:Code) {ac:AC},aDJ P l c ac->∀{a Y:List AV} {h T:H} {e:Ex},bC rec ac a h=Jp (e,Y,T)->
    (∀id,e= .exit id->id≠2097152+l)/\
    ∀{ro:Option Nat} {B:Nat} {ρ:Emb} {w:World} {a0:Act},B<=w.heap.size->Ctx ro ρ h->TR ρ a a0.tmps->HR P ρ h w->dl ρ h T->MK B ρ w a0.defers->
      c.wpIn (j7 ro) 0 P (nw P l B ρ h w e Y T) a0 w:=by
  intro c
  induction c with
  | skip=>intro ac G a Y h T e u;obtain⟨Q,ex,R,L,E,S,rfl⟩:=G;simp only[trJ]at E;cases E;simp only[live,bC]at u;cases u;exact⟨fun _ h=>(by cases h),fun M I ht hr K J=>wpIn_skip ⟨rfl,_,ht,hr,Stp.refl _ _ _,J⟩⟩
  | label l'=>intro ac G a Y h T e u;obtain⟨Q,ex,R,L,E,S,rfl⟩:=G;simp only[trJ]at E;cases E;simp only[live,bC]at u;cases u;exact⟨fun _ h=>(by cases h),fun M I ht hr K J=>wpIn_label ⟨rfl,_,ht,hr,Stp.refl _ _ _,J⟩⟩
  | ret=>intro ac G a Y h T e u;obtain⟨Q,ex,R,L,E,S,rfl⟩:=G;simp only[trJ]at E;cases E;simp only[live,bC]at u;cases u;exact⟨fun _ h=>(by cases h),fun M I ht hr K J=>wpIn_ret ⟨rfl,_,ht,hr,Stp.refl _ _ _,J⟩⟩
  | exit id=>
    intro ac G a Y h T e u;obtain⟨Q,ex,R,L,E,S,rfl⟩:=G;simp only[trJ]at E;split at E
    · rename_i hid;cases E;simp only[live,bC]at u;cases u;refine⟨fun _ h=>by injection h;omega,fun M I ht hr K J=>wpIn_exit ⟨?_,_,ht,hr,Stp.refl _ _ _,J⟩⟩;simp only[Ex.dy];rw[if_neg (by omega)]
    · cases E
  | goto l'=>
    intro ac G a Y h T e u;obtain⟨Q,ex,R,L,E,S,rfl⟩:=G;simp only[trJ]at E;split at E
    · rename_i hid;subst hid;cases E;simp only[live,bC]at u;cases u;refine⟨fun _ h=>by injection h;omega,fun M I ht hr K J=>wpIn_goto ⟨?_,_,ht,hr,Stp.refl _ _ _,J⟩⟩;simp only[Ex.dy,if_true]
    · cases E
  | region id ops a7=>intro ac G a Y h T e u;obtain⟨Q,ex,R,L,E,S,rfl⟩:=G;simp only[trJ]at E;have he:=EV E u;subst he;exact⟨fun _ h=>(by cases h),fun M I ht hr K J=>CK ok E u M I ht hr K J⟩
  | seq x y O a2=>
    intro ac G a Y h T e u;obtain⟨Q,ex,R,L,E,S,rfl⟩:=G;simp only[trJ]at E;split at E
    · rename_i cx cy hx hy;cases E;simp only[live,bC]at u;split at u
      · rename_i a1 h1 a4;have e1:=hG ok a4;have e2:=hG ok u;have gx:=O ⟨_,_,_,_,hx,_,rfl⟩ a4;have gy:=a2 ⟨_,_,_,_,hy,_,rfl⟩ u;refine⟨gy.1,fun M I ht hr K J=>wpIn_seq ?_⟩;refine wpIn_mono (gx.2 M I ht hr (K.first e2) J) ?_;rintro q a3 w1 ⟨rfl,ρ1,t1,r1,Z,U⟩;simp only[Ex.dy,Exit.then];refine wpIn_mono (gy.2 (As M Z.size) (I.step Z.sub e1) t1 r1 (K.rest e1 Z) U) ?_;intro q a9 w2 hc;exact hc.trans Z e1 e2 K
      · rename_i a6;have gx:=O ⟨_,_,_,_,hx,_,rfl⟩ u;refine⟨gx.1,fun M I ht hr K J=>wpIn_seq ?_⟩;refine wpIn_mono (gx.2 M I ht hr K J) ?_;rintro q a3 w1 ⟨rfl,ρ1,t1,r1,Z,U⟩
        cases e with
        | normal=>exact absurd u (a6 _ _)
        | ret=>exact⟨rfl,ρ1,t1,r1,Z,U⟩
        | exit id=>
          simp only[Ex.dy];split
          · exact⟨by simp[Ex.dy, *],ρ1,t1,r1,Z,U⟩
          · exact⟨by simp[Ex.dy, *],ρ1,t1,r1,Z,U⟩
    · cases E
  | cond c x y O a2=>
    intro ac G a Y h T e u;obtain⟨Q,ex,R,L,E,S,rfl⟩:=G;simp only[trJ]at E;split at E
    · rename_i cc cx cy a5 hx hy;cases E;simp only[live,bC]at u;split at u
      · rename_i hb;have gx:=O ⟨_,_,_,_,hx,_,rfl⟩ u;refine⟨gx.1,fun M I ht hr K J=>?_⟩;have V:=H1 ht a5;rw[hb]at V;exact wpIn_cond_true V.cv (gx.2 M I ht hr K J)
      · rename_i hb;have gy:=a2 ⟨_,_,_,_,hy,_,rfl⟩ u;refine⟨gy.1,fun M I ht hr K J=>?_⟩;have V:=H1 ht a5;rw[hb]at V;exact wpIn_cond_false V.cv (gy.2 M I ht hr K J)
      · cases u
    · cases E
  | block id x O=>intro ac G;obtain⟨Q,ex,R,L,E,S,rfl⟩:=G;simp[trJ]at E
  | loop x O=>intro ac G;obtain⟨Q,ex,R,L,E,S,rfl⟩:=G;simp[trJ]at E
  | rangeFunc f ps b0 b b1 b2=>intro ac G;obtain⟨Q,ex,R,L,E,S,rfl⟩:=G;simp[trJ]at E
  | scope x ih=>intro ac G;obtain⟨Q,ex,R,L,E,S,rfl⟩:=G;simp[trJ]at E
  | refuse s=>intro ac G;obtain⟨Q,ex,R,L,E,S,rfl⟩:=G;simp[trJ]at E
def NT(T:fe P rec m){l:Nat}{c:Code}{ac:AC}(M:aDJ P l c ac){Z:List Nat}{a a':List AV}{h h':H}{e:Ex}(u:bC rec (.loop Z (.block (1048576+l) (.seq ac (.exit (2097152+l))))) a h=Jp (e,a',h'))
    {U:Option Nat} {B:Nat} {ρ:Emb} {w:World} {K:Act} (S:B<=w.heap.size) (y:Ctx U ρ h) (ht:TR ρ a K.tmps) (hr:HR P ρ h w) (I:dl ρ h h') (L:MK B ρ w K.defers):
    q9 (j7 U) 0 P l c (il P B ρ h w (unE l e) a' h') (m+1) K w:=by
  simp only[bC]at u;show c.wpIn (j7 U) 0 P _ K w
  cases V:bC rec ac (be a Z) h with
  | none=>rw[V]at u;cases u
  | some r=>
    obtain⟨q,a1,h1⟩:=r;rw[V]at u;have g:=aID T l c M V;have e1:=hG T V
    cases q with
    | normal=>simp only at u;rw[if_neg (by omega)]at u;cases u;refine wpIn_mono (g.2 S y (ht.be _) hr I L) ?_;rintro q G Y ⟨rfl,O,Q,R,J,E⟩;exact⟨by simp[unE,Ex.fx,Ex.dy],O,Q,R,J,E⟩
    | ret=>simp only at u;cases u;refine wpIn_mono (g.2 S y (ht.be _) hr I L) ?_;rintro q G Y ⟨rfl,O,Q,R,J,E⟩;exact⟨by simp[unE,Ex.fx,Ex.dy],O,Q,R,J,E⟩
    | exit id=>
      simp only at u;by_cases hid:id=1048576+l
      · subst hid;simp only[if_true]at u;have e2:=T.jx _ _ _ _ _ _ u;refine wpIn_mono (g.2 S y (ht.be _) hr (I.first e2) L) ?_;rintro q G Y ⟨rfl,O,Q,R,J,E⟩;simp only[Ex.dy,if_true];refine⟨trivial,?_⟩;exact qZ (fun q a2 w2 hc=>hc.trans J e1 e2 I) _ (T.jump l c ac M Z _ _ _ _ _ u U B O Y G (As S J.size) (y.step J.sub e1) Q R (I.rest e1 J) E)
      · simp only[hid,if_false]at u;cases u;have hE:=g.1 id rfl;refine wpIn_mono (g.2 S y (ht.be _) hr I L) ?_;rintro q G Y ⟨rfl,O,Q,R,J,E⟩;simp only[Ex.dy,hid,if_false];exact⟨by simp[unE,Ex.fx,hE],O,Q,R,J,E⟩
def XG(ok:fe P rec m){c:Code}{c0:AC}(E:HZ P c=Jp c0){nt a3 rt:Nat}{ex:List (Nat×Nat)}{a K:List AV}{h J:H}{e:Ex}(u:bC rec (live nt c0 a3 ex rt).2 a h=Jp (e,K,J))
    {ro:Option Nat} {B:Nat} {ρ:Emb} {w:World} {T:Act} (hB:B<=w.heap.size) (G:Ctx ro ρ h) (ht:TR ρ a T.tmps) (hr:HR P ρ h w) (L:dl ρ h J) (Q:MK B ρ w T.defers):
    (Code.scope c).wpIn (j7 ro) 0 P (il P B ρ h w e K J) T w:=by
  unfold HZ at E;split at E
  · rename_i l hl;split at E
    · rename_i rest hf;split at E
      · rename_i x y hx hy;cases E;obtain⟨X,Y,U,rX,rY,eq⟩:∃X Y U,aDJ P l c X/\aDJ P l rest Y/\(live nt (aCg l x y) a3 ex rt).2= .block (2097152+l) (.seq (.block (1048576+l) (.seq X (.exit (2097152+l)))) (.loop U (.block (1048576+l) (.seq Y (.exit (2097152+l)))))):=
          ⟨_,_,_,⟨_,_,_,_,hx,_,rfl⟩,⟨_,_,_,_,hy,_,rfl⟩,rfl⟩
        rw[eq]at u;have a4:bC rec (.block (2097152+l) (.seq (.block (1048576+l) (.seq X (.exit (2097152+l)))) (.loop U (.block (1048576+l) (.seq Y (.exit (2097152+l))))))) a h=
            (match bC rec (.seq (.block (1048576+l) (.seq X (.exit (2097152+l)))) (.loop U (.block (1048576+l) (.seq Y (.exit (2097152+l)))))) a h with
              | some (.exit i,K,J)=>if i=2097152+l then Jp (.normal,K,J)else Jp (.exit i,K,J)
              | r=>r):=rfl
        rw[a4]at u;clear a4;refine xD hf (fun l' a w hq=>by obtain⟨h1,_⟩:=hq;cases e<;>cases h1) ?_;have R:bC rec (.seq (.block (1048576+l) (.seq X (.exit (2097152+l)))) (.loop U (.block (1048576+l) (.seq Y (.exit (2097152+l)))))) a h=
            (match bC rec (.block (1048576+l) (.seq X (.exit (2097152+l)))) a h with
              | some (.normal,K,J)=>bC rec (.loop U (.block (1048576+l) (.seq Y (.exit (2097152+l))))) K J
              | r=>r):=rfl
        rw[R]at u;clear R;have S:bC rec (.block (1048576+l) (.seq X (.exit (2097152+l)))) a h=
            (match (match bC rec X a h with
              | some (.normal,K,J)=>Jp (Ex.exit (2097152+l),K,J)
              | r=>r)with
              | some (.exit i,K,J)=>if i=1048576+l then Jp (.normal,K,J)else Jp (.exit i,K,J)
              | r=>r):=rfl
        rw[S]at u;clear S
        cases hX:bC rec X a h with
        | none=>rw[hX]at u;cases u
        | some r=>
          obtain⟨q,a1,h1⟩:=r;rw[hX]at u;have g:=aID ok l c rX hX;have e1:=hG ok hX
          cases q with
          | normal=>simp only at u;rw[if_neg (by omega)]at u;simp only[if_true]at u;cases u;refine wpIn_mono (g.2 hB G ht hr L Q) ?_;rintro q M w1 ⟨rfl,ρ1,V,Z,O,I⟩;exact⟨by simp[Ex.fx,Ex.dy],ρ1,V,Z,O,I⟩
          | ret=>simp only at u;cases u;refine wpIn_mono (g.2 hB G ht hr L Q) ?_;rintro q M w1 ⟨rfl,ρ1,V,Z,O,I⟩;exact⟨by simp[Ex.fx,Ex.dy],ρ1,V,Z,O,I⟩
          | exit id=>
            simp only at u;by_cases hid:id=1048576+l
            · subst hid;simp only[if_true]at u
              cases hL:bC rec (.loop U (.block (1048576+l) (.seq Y (.exit (2097152+l))))) a1 h1 with
              | none=>rw[hL]at u;cases u
              | some r=>
                obtain⟨q2,a2,h2⟩:=r;rw[hL]at u;have e2:=hG ok hL;have a0:h2=J/\a2=K/\e=unE l q2:=by
                  cases q2 with
                  | normal=>cases u;exact⟨rfl,rfl,rfl⟩
                  | ret=>cases u;exact⟨rfl,rfl,rfl⟩
                  | exit i=>simp only at u;simp only[unE];split at u<;>rename_i hi<;>cases u<;>simp[hi]
                obtain⟨rfl,rfl,rfl⟩:=a0;refine wpIn_mono (g.2 hB G ht hr (L.first e2) Q) ?_;rintro q M w1 ⟨rfl,ρ1,V,Z,O,I⟩;simp only[Ex.dy,if_true];refine⟨trivial,m+1,?_⟩;exact qZ (fun q a2 w2 hc=>hc.trans O e1 e2 L) _ (NT ok rY hL (As hB O.size) (G.step O.sub e1) V Z (L.rest e1 O) I)
            · simp only[hid,if_false]at u;have hE:=g.1 id rfl;rw[if_neg hE]at u;cases u;refine wpIn_mono (g.2 hB G ht hr L Q) ?_;rintro q M w1 ⟨rfl,ρ1,V,Z,O,I⟩;simp only[Ex.dy,hid,if_false];exact⟨by simp[Ex.fx],ρ1,V,Z,O,I⟩
      · cases E
    · cases E
  · cases E
def CL(ok:fe P rec m):∀(c:Code) {ac:AC},rL P c ac->∀{a a':List AV} {h h':H} {e:Ex},bC rec ac a h=Jp (e,a',h')->
    ∀{ro:Option Nat} {B:Nat} {ρ:Emb} {w:World} {act:Act},B<=w.heap.size->Ctx ro ρ h->TR ρ a act.tmps->HR P ρ h w->dl ρ h h'->MK B ρ w act.defers->
      c.wpIn (j7 ro) 0 P (il P B ρ h w e a' h') act w:=by
  intro c
  induction c with
  | skip=>intro ac I a a' h h' e E ro B ρ w act R J ht hr K L;obtain⟨c0,ex,Y,Q,G,Z,rfl⟩:=I;simp only[tr]at G;cases G;simp only[live,bC]at E;cases E;exact wpIn_skip ⟨rfl,ρ,ht,hr,Stp.refl _ _ _,L⟩
  | ret=>intro ac I a a' h h' e E ro B ρ w act R J ht hr K L;obtain⟨c0,ex,Y,Q,G,Z,rfl⟩:=I;simp only[tr]at G;cases G;simp only[live,bC]at E;cases E;exact wpIn_ret ⟨rfl,ρ,ht,hr,Stp.refl _ _ _,L⟩
  | exit id=>intro ac I a a' h h' e E ro B ρ w act R J ht hr K L;obtain⟨c0,ex,Y,Q,G,Z,rfl⟩:=I;simp only[tr]at G;cases G;simp only[live,bC]at E;cases E;exact wpIn_exit ⟨rfl,ρ,ht,hr,Stp.refl _ _ _,L⟩
  | region id ops g8=>intro ac I a a' h h' e E ro B ρ w act R J ht hr K L;obtain⟨c0,ex,Y,Q,G,Z,rfl⟩:=I;simp only[tr]at G;exact CK ok G E R J ht hr K L
  | seq x y S b1=>
    intro ac I a a' h h' e E ro B ρ w act R J ht hr K L;obtain⟨c0,ex,Y,Q,G,Z,rfl⟩:=I;simp only[tr]at G;split at G
    · rename_i cx cy hx hy;cases G;simp only[live,bC]at E;refine wpIn_seq ?_;split at E
      · rename_i a1 h1 a4;have e1:=hG ok a4;have e2:=hG ok E;refine wpIn_mono (S ⟨_,_,_,_,hx,_,rfl⟩ a4 R J ht hr (K.first e2) L) ?_;rintro q U M ⟨rfl,ρ1,t1,r1,s1,O⟩;simp only[Ex.fx,Exit.then];refine wpIn_mono (b1 ⟨_,_,_,_,hy,_,rfl⟩ E (As R s1.size) (J.step s1.sub e1) t1 r1 (K.rest e1 s1) O) ?_;intro q g9 w2 hc;exact hc.trans s1 e1 e2 K
      · rename_i a5;refine wpIn_mono (S ⟨_,_,_,_,hx,_,rfl⟩ E R J ht hr K L) ?_;rintro q U M ⟨rfl,ρ1,t1,r1,s1,O⟩
        cases e with
        | normal=>exact absurd E (a5 _ _)
        | ret=>exact⟨rfl,ρ1,t1,r1,s1,O⟩
        | exit id=>exact⟨rfl,ρ1,t1,r1,s1,O⟩
    · cases G
  | cond c x y S b1=>
    intro ac I a a' h h' e E ro B ρ w act R J ht hr K L;obtain⟨c0,ex,Y,Q,G,Z,rfl⟩:=I;simp only[tr]at G;split at G
    · rename_i cc cx cy d6 hx hy;cases G;simp only[live,bC]at E;have a9:=H1 ht d6;split at E
      · rename_i hb;rw[hb]at a9;exact wpIn_cond_true a9.cv (S ⟨_,_,_,_,hx,_,rfl⟩ E R J ht hr K L)
      · rename_i hb;rw[hb]at a9;exact wpIn_cond_false a9.cv (b1 ⟨_,_,_,_,hy,_,rfl⟩ E R J ht hr K L)
      · cases E
    · cases G
  | block id x S=>
    intro ac I a a' h h' e E ro B ρ w act R J ht hr K L;obtain⟨c0,ex,Y,Q,G,Z,rfl⟩:=I;simp only[tr,Ci]at G;obtain⟨cx,hx,rfl⟩:=G;simp only[live,bC]at E;refine wpIn_block ?_;split at E
    · rename_i i a1 h1 a4;split at E
      · rename_i hi;cases E;refine wpIn_mono (S ⟨_,_,_,_,hx,_,rfl⟩ a4 R J ht hr K L) ?_;rintro q U M ⟨rfl,ρ1,t1,r1,s1,O⟩;simp only[Ex.fx,Exit.inBlock,hi,if_true];exact⟨rfl,ρ1,t1,r1,s1,O⟩
      · rename_i hi;cases E;refine wpIn_mono (S ⟨_,_,_,_,hx,_,rfl⟩ a4 R J ht hr K L) ?_;rintro q U M ⟨rfl,ρ1,t1,r1,s1,O⟩;simp only[Ex.fx,Exit.inBlock,hi,if_false];exact⟨rfl,ρ1,t1,r1,s1,O⟩
    · rename_i a5;refine wpIn_mono (S ⟨_,_,_,_,hx,_,rfl⟩ E R J ht hr K L) ?_;rintro q U M ⟨rfl,ρ1,t1,r1,s1,O⟩
      cases e with
      | normal=>exact⟨rfl,ρ1,t1,r1,s1,O⟩
      | ret=>exact⟨rfl,ρ1,t1,r1,s1,O⟩
      | exit id=>exact absurd E (a5 _ _ _)
  | loop x S=>intro ac I a a' h h' e E ro B ρ w act R J ht hr K L;obtain⟨c0,ex,Y,Q,G,Z,rfl⟩:=I;simp only[tr,Ci]at G;obtain⟨cx,hx,rfl⟩:=G;simp only[live,bC]at E;exact wpIn_loop_rounds _ (NI ok ⟨_,_,_,_,hx,_,rfl⟩ (S ⟨_,_,_,_,hx,_,rfl⟩) E R J ht hr K L)
  | rangeFunc f ps a2 b h7 h8=>
    intro ac I a a' h h' e E ro B ρ w act R J ht hr K L;obtain⟨c0,ex,Y,Q,G,Z,rfl⟩:=I;simp only[tr]at G;split at G
    · rename_i cf ca cb hf b2 hb;cases G;simp only[live,bC]at E;split at E
      · rename_i g first e3 e4
        split at E
        · rename_i v1 h1 hcall;have e1:=ok.nu _ _ _ _ _ hcall;split at E
          · rename_i ver r hg;split at E
            · cases E
            · rename_i e5;cases E;have c5:=H1 ht hf;rw[e4]at c5
              --the a0 that is laid
              generalize b3:({state:= .ready,pending:=Jq,tmps:=a,params:=ps.toList,assign:=(live Z ca (live Z cb 0 ex Y).1 ex Y).2,body:=(live Z cb 0 ex Y).2} :mh)=V at*;have e0:Ev h (h.alloc (.loop 0 V)):=Ev.alloc h _;have e2:Ev h1 (h1.set h.next (.loop (ver+1) {r with state:= .exhausted})):=Ev.set hg (.inr (.inr ⟨_,_,rfl,rfl,Gu _,rfl,rfl,rfl⟩)) rfl;have h9:h.next+1<=h1.next:=e1.next;have hfn:ρ h.next=Jq:=K h.next (Ab _) (by simp;omega)
              --what h5 on,a3 i0 the a0 i1 laid
              have go:∀(l:Nat) (mark:List Deferred) (M w2:World) (r':Loop),w2=M.alloc (.loop r')->l=M.heap.size->r'.state= .ready->r'.pending=Jq->r'.tmps=act.tmps->r'.params=ps->r'.assign=a2->r'.body=b->
                  HR P ρ h M->Stp ρ h w ρ h M->MK B ρ M (mark++act.defers)->
                  ∃(d:Deferred) (f':FuncId) (args:Array Value),(resolve act.eval (rangeCall f l) 0).run P w2= .ok d w2/\(invoke d.target d.args).run P w2= .ok (.enter f' args) w2/\
                    CallsIn (j7 ro) 0 P f' args w2 (rangePost (j7 ro) 0 P l (il P B ρ h w (r.pending.getD .normal) a (h1.set h.next (.loop (ver+1) {r with state:= .exhausted}))) {act with defers:=mark++act.defers}):=by
                intro l mark M w2 r' e6 hl q1 q2 q3 q4 q5 q6 e7 s1 O;subst e6;subst hl;have I:fw P (upd ρ h.next ⟨M.heap.size,0,0⟩) V r':=by
                  subst b3;refine⟨q1,by rw[q2];rfl,by simp,?_,by rw[q4],?_,?_⟩
                  · rw[q3];exact ht.mono (lV hfn)
                  · rw[q5];exact⟨_,_,_,_,b2,_,rfl⟩
                  · rw[q6];exact⟨_,_,_,_,hb,_,rfl⟩
                obtain⟨e8,s2⟩:=HR.alloc (o:= .loop r') (ao:= .loop 0 V) (l:=⟨M.heap.size,0,0⟩) e7 hfn rfl ⟨r',heap_alloc_new M _,I⟩;have c6:upd ρ h.next ⟨M.heap.size,0,0⟩ h.next=Jp ⟨M.heap.size,0,0⟩:=dR _ _ _;have b4:dl (upd ρ h.next ⟨M.heap.size,0,0⟩) (h.alloc (.loop 0 V)) h1:=by
                  intro y h3 h4;have a5:y≠h.next:=by simp at h3;omega
                  rw[fA a5];exact K y (by simp at h3;omega) (by simpa using h4)
                have a6:=c5.mono (lV (l:=⟨M.heap.size,0,0⟩) hfn);generalize f1:act.eval f=fv at a6
                cases a6 with
                | func _ _ _ f' c' hp f2 f4 g1 g2=>
                  obtain⟨fn,k1,k2,k3⟩:=ok.oi _ _ _ _ _ hcall;have f5:VR (upd ρ h.next ⟨M.heap.size,0,0⟩) (.func (.yield h.next) [] []) (.func (.yield M.heap.size) #[] #[]):= .yield h.next _ c6;have b5:VRs (upd ρ h.next ⟨M.heap.size,0,0⟩) (first++[.func (.yield h.next) [] []]++e3) (f'++[.func (.yield M.heap.size) #[] #[]]++c'):=
                    VRs.append (VRs.append ⟨f2,g1⟩ (.cons f5 (VRs.nil _))) ⟨f4,g2⟩
                  have hc:=ok.call _ _ _ _ _ hcall _ _ _ b5 e8 b4;refine⟨{target:= .fn (.func g) c'.toArray,args:=f'.toArray++ #[Value.func (.yield M.heap.size) #[] #[]]},g,(f'++[Value.func (.yield M.heap.size) #[] #[]]++c').toArray,?_,?_,?_⟩
                  · have ea:(#[Operand.const (Value.func (.yield M.heap.size) #[] #[])]:Array Operand).map act.eval= #[Value.func (.yield M.heap.size) #[] #[]]:=by apply Cw;simp[Act.eval]
                    simp only[resolve,rangeCall,ea,f1,Deferred.ofValue,Sem.run_pure]
                  · have f6:fn.body.isNone=Js:=by cases hb:fn.body<;>simp_all
                    simp only[invoke,callFunc,Sem.run_bind,run_program,Result.andThen_ok,k1];rw[if_neg (by rw[k3];simp),if_neg (by rw[f6];simp)];simp
                  · refine CallsIn.mono (F:=j7 ro) (show CallsIn (j7 ro) 0 P g _ _ _ from hc) ?_;rintro ee w3 ⟨u,ρ3,rfl,_,r3,s3⟩;have c7:=s3.sub _ _ c6;obtain⟨rr,p1,p2⟩:=r3.obj h.next _ _ c7 hg;have b6:M.heap.size<w3.heap.size:=(Array.getElem?_eq_some_iff.1 p1).1;have b7:rr.state≠ .busy:=by rw[p2.state];exact e5
                    have a7:fw P ρ3 {r with state:= .exhausted} {rr with state:= .exhausted} :=⟨rfl,p2.pending,p2.nq,p2.tmps,p2.params,p2.asg,p2.body⟩;obtain⟨r4,s4⟩:=HR.turn (o':= .loop (ver+1) {r with state:= .exhausted}) (w':=w3.putObj M.heap.size (.loop {rr with state:= .exhausted})) r3 c7 hg rfl rfl (by simp) rfl rfl rfl (fun b hb=>World.putObj_heap_other hb) ⟨_,World.putObj_heap_same b6,a7⟩;have f7:dl ρ h h1:=fun y a b=>K y a (by simpa using b);have g0:Stp ρ h w _ (h.alloc (.loop 0 V)) _:=s1.trans s2 (Ev.refl h) e0 (fun y a b=>K y a (by simp at b;simp;omega));have g4:=g0.trans s3 e0 e1 f7;have c8:=g4.trans s4 (e0.trans e1) e2 K;have g5:=((O.step s2).step s3).step s4;refine⟨_,_,run_endLoop p1 b7,?_⟩;have T:∀(q:Exit),q=(r.pending.getD .normal).fx->il P B ρ h w (r.pending.getD .normal) a (h1.set h.next (.loop (ver+1) {r with state:= .exhausted})) q {act with defers:=mark++act.defers} (w3.putObj M.heap.size (.loop {rr with state:= .exhausted})):=
                      fun q hq=>⟨hq,ρ3,ht.mono c8.sub,r4,c8,g5⟩
                    have c9:=p2.nq;have d0:=p2.pending;generalize w3.putObj M.heap.size (.loop {rr with state:= .exhausted})=wE at T ⊢;generalize h1.set h.next (.loop (ver+1) {r with state:= .exhausted})=hE at T ⊢;generalize rr.pending=j at d0 ⊢;subst d0;generalize b0:r.pending.getD .normal=qe at T ⊢
                    cases hp:r.pending with
                    | none=>rw[hp]at b0;subst b0;exact T .normal rfl
                    | some q=>
                      rw[hp]at b0 c9;subst b0
                      cases q with
                      | normal=>exact absurd rfl c9
                      | ret=>exact wpIn_ret (T .ret rfl)
                      | exit id=>exact wpIn_exit (T (.exit id) rfl)
              refine wpIn_rangeFunc fun fn _=>?_
              cases ro with
              | none=>
                obtain⟨g6,d4⟩:=HR.pz (.deferred (Jp [])) hr;have O:MK B ρ (w.alloc (.deferred (Jp []))) ([{target:= .collected w.heap.size,args:= #[]}]++act.defers):=by refine⟨⟨w.heap.size,R,rfl,heap_alloc_new w _,fun x l hx=>by have:=hr.fg x l hx;omega,L.pn _ (Ab _)⟩,L.step d4⟩
                obtain⟨d,f',args,g1,g2,g3⟩:=go (w.alloc (.deferred (Jp []))).heap.size [{target:= .collected w.heap.size,args:= #[]}] (w.alloc (.deferred (Jp []))) _ {state:= .ready,pending:=Jq,fn,tmps:=act.tmps,params:=ps,assign:=a2,body:=b,defers:=w.heap.size} rfl rfl rfl rfl rfl rfl rfl rfl g6 d4 O;refine⟨_,_,_,d,_,f',args,_,run_enterLoop_outer fn act.tmps ps a2 b,by simpa using g1,fun _ _=>trivial,by simpa using g2,fun hh=>by simp[j7,Fence.wide]at hh,by simpa using g3⟩
              | some l0=>
                obtain⟨x0,g7,h6,r0,c1,c2,c3⟩:=J l0 rfl;obtain⟨d5,c4,_⟩:=hr.obj x0 g7 _ c1 c3;rw[c2]at c4;have b8:(Instr.enterLoop fn act.tmps ps a2 b (Jp l0)).run P w= .ok (w.heap.size,[]) (w.alloc (.loop {state:= .ready,pending:=Jq,fn,tmps:=act.tmps,params:=ps,assign:=a2,body:=b,defers:=d5.defers})):=by simp[Instr.enterLoop,run_getLoop c4]
                obtain⟨d,f',args,g1,g2,g3⟩:=go w.heap.size [] w _ {state:= .ready,pending:=Jq,fn,tmps:=act.tmps,params:=ps,assign:=a2,body:=b,defers:=d5.defers} rfl rfl rfl rfl rfl rfl rfl rfl hr (Stp.refl _ _ _) L;exact⟨_,_,_,d,_,f',args,_,b8,g1,fun _ _=>trivial,g2,fun hh=>by simp[j7,Fence.wide]at hh,g3⟩
          · cases E
        · cases E
      · cases E
    · cases G
  | scope x ih=>
    intro ac I a a' h h' e E ro B ρ w act R J ht hr K L;obtain⟨c0,ex,Y,Q,G,Z,rfl⟩:=I;simp only[tr]at G;split at G
    · exact XG ok G E R J ht hr K L
    · refine tW (wpIn_mono (ih ⟨c0,ex,Y,Q,G,Z,rfl⟩ E R J ht hr K L) ?_);rintro q U M hq
      cases q with
      | goto l=>obtain⟨h1,_⟩:=hq;cases e<;>cases h1
      | _=>exact hq
  | label l=>intro ac I a a' h h' e E ro B ρ w act R J ht hr K L;obtain⟨c0,ex,Y,Q,G,Z,rfl⟩:=I;simp only[tr]at G;cases G;simp only[live,bC]at E;cases E;exact wpIn_label ⟨rfl,ρ,ht,hr,Stp.refl _ _ _,L⟩
  | goto l=>intro ac I;obtain⟨c0,ex,Y,Q,G,Z,rfl⟩:=I;simp[tr]at G
  | refuse s=>intro ac I;obtain⟨c0,ex,Y,Q,G,Z,rfl⟩:=I;simp[tr]at G
def NC{B:Nat}{ρ:Emb}{h:H}{w0:World}{fn:Func}{tmps:Array Value}{R:Ending->World->Prop} :
    ∀{ds:List Deferred} {w:World},MK B ρ w ds->HR P ρ h w->
      (∀w',HR P ρ h w'->w'.os=w.os->w'.tape=w.tape->w'.output=w.output->w.heap.size<=w'.heap.size->(∀b,b<B->w'.heap[b]? =w.heap[b]?)->∃v,(results fn tmps).run P w'= .ok v w'/\R (.returned v) w')->
      LeavesInM Fence.wide 0 P fn tmps R ds .returning w
  | [],w,_,hr,u=>by unfold LeavesInM LeavesIn;exact u w hr rfl rfl rfl (Ab _) fun _ _=>rfl
  | d::ds,w,⟨⟨D,hB,h1,h2,h3,S⟩,E⟩,hr,u=>by
    subst h1;unfold LeavesInM;refine⟨by simp,.inl ⟨D,w.putObj D (.deferred Jq),rfl,run_takeDeferred h2,?_⟩⟩;have hlt:D<w.heap.size:=(Array.getElem?_eq_some_iff.1 h2).1;have G:HR P ρ h (w.putObj D (.deferred Jq)):=by
      refine⟨hr.gat.fc fun b l hb hlt=>World.putObj_heap_other fun e=>?_,hr.mv,fun x l y=>by have:=hr.fg x l y;simpa using this,fun x l o y hg=>(hr.obj x l o y hg).mono (Sub.refl ρ) (World.putObj_heap_other (h3 x l y)),hr.inj⟩;obtain⟨cs,e',fz,M,_⟩:=hr.gat b l hb;subst e;rw[h2]at M;cases M
    have I:MK B ρ (w.putObj D (.deferred Jq)) ds:=by
      have J:∀{ds:List Deferred},MK B ρ w ds->({target:= .collected D,args:= #[]} :Deferred)∉ds->MK B ρ (w.putObj D (.deferred Jq)) ds:=by
        intro ds
        induction ds with
        | nil=>intro _ _;trivial
        | cons d ds T=>rintro⟨⟨O,K,k1,k2,U,V⟩,Y⟩ Q;have L:O≠D:=fun e=>Q (by rw[k1,e];simp);exact⟨⟨O,K,k1,by rw[World.putObj_heap_other L];exact k2,U,V⟩,T Y fun hh=>Q (Cy _ hh)⟩
      exact J E S
    refine NC (w0:=w0) I G ?_;intro w' Z q2 q3 q4 q5 q6;exact u w' Z q2 q3 q4 (by simpa using q5) (fun b hb=>by rw[q6 b hb,World.putObj_heap_other (by omega)])
def aHe{ρ:Emb}{h:H}{w:World}{a:List AV}{tmps:Array Value}(ht:TR ρ a tmps)(hr:HR P ρ h w){r:ResultVar}{J:lk}(y:FI P r=Jp J){v:AV}(hv:hH a h J=Jp v):
    ∃u,VR ρ v u/\(match r with | ResultVar.tmp t=>(pure (tmps.getD t undef):Sem Value) | ResultVar.cell a t=>do loadVar t (<-asAddr (tmps.getD a undef))).run P w=Result.ok u w:=by
  cases r with
  | tmp t=>simp only[FI]at y;cases y;simp only[hH]at hv;cases hv;exact⟨_,ht.get t,rfl⟩
  | cell t O=>
    simp only[FI]at y;split at y
    · rename_i n hg hs;cases y;simp only[hH]at hv;split at hv
      · rename_i b i hb
        cases E:dY h b i n with
        | none=>simp[E]at hv
        | some cs=>simp[E]at hv;subst hv;have:=ht.get t;rw[hb]at this;obtain⟨l,hl,G⟩:=this.gi;obtain⟨ver,rw,all,B,L,e⟩:=gN E;obtain⟨K,h1,h2,h3⟩:=(hr.obj b l _ hl B).cells L e;refine⟨.agg K.toArray,h1.qf,?_⟩;have I:(loadCells ⟨l.blk,l.base+i,Jq⟩ n).run P w= .ok K.toArray w:=qO h2 (fun j u M=>by rw[Addr.ik];exact h3 j u M);simp only[G,asAddr,Sem.run_bind,Sem.run_pure,Result.andThen_ok,loadVar,mK hg,if_true,gQ hs,I]
      · cases hv
    · rename_i hg;cases y;simp only[hH]at hv;split at hv
      · rename_i b i hb;have:=ht.get t;rw[hb]at this;obtain⟨l,hl,G⟩:=this.gi;obtain⟨Q,B,_⟩:=zW hv;obtain⟨u,h1,h2⟩:=(hr.obj b l _ hl B).cell B hv;refine⟨u,h2,?_⟩;simp[G,asAddr,loadVar,mK hg,h1]
      · cases hv
    · cases y
def F8{ρ:Emb}{h:H}{w:World}{a:List AV}{tmps:Array Value}(ht:TR ρ a tmps)(hr:HR P ρ h w):∀{J:List ResultVar} {E:List lk},jD (FI P) J=Jp E->∀{G:List AV},cE a h E=Jp G->
    ∃I,VRs ρ G I/\(J.mapM (fun(r:ResultVar)=>match r with | ResultVar.tmp t=>(pure (tmps.getD t undef):Sem Value) | ResultVar.cell a t=>do loadVar t (<-asAddr (tmps.getD a undef)))).run P w=Result.ok I w
  | [],E,B,G,hv=>by cases B;cases hv;exact⟨[],VRs.nil ρ,rfl⟩
  | r::J,E,B,G,hv=>by
    unfold jD at B;split at B
    · rename_i y T L K;cases B;unfold cE at hv;split at hv
      · rename_i v M h1 h2;cases hv;obtain⟨u,O,Q⟩:=aHe ht hr L h1;obtain⟨I,R,S⟩:=F8 ht hr K h2;refine⟨u::I,.cons O R,?_⟩;simp only[List.mapM_cons,Sem.run_bind];rw[Q];simp only[Result.andThen_ok,S,Sem.run_pure]
      · cases hv
    · cases B
def Q6{ρ:Emb}{h:H}{w:World}{a:List AV}{tmps:Array Value}{fn:Func}{y:List lk}(ht:TR ρ a tmps)(hr:HR P ρ h w)(E:jD (FI P) fn.results.toList=Jp y){G:List AV}(hv:cE a h y=Jp G):
    ∃u,VR ρ (dF G) u/\(results fn tmps).run P w= .ok u w:=by
  obtain⟨B,h1,h2⟩:=F8 ht hr E hv;refine⟨if h:B.toArray.size=1 then B.toArray[0]else .tuple B.toArray,?_,?_⟩
  · have hl:=h1.1;unfold dF;split
    · rename_i v;obtain⟨u,J,rfl,K,L⟩:=h1.cons_inv;rw[L.da];simpa using K
    · rename_i I;have:B.toArray.size≠1:=by
        intro e;have M:G.length=1:=by rw[<-hl];simpa using e
        obtain⟨v,rfl⟩:=List.length_eq_one_iff.1 M;exact I v rfl
      rw[dif_neg this];exact h1.ky
  · unfold results;rw[Sem.run_bind,Array.mapM_eq_mapM_toList,Sem.run_map];exact congrArg (fun(z:Result (List Value))=>(z.andThen fun a w'=>Result.ok a.toArray w').andThen fun a w'=>Sem.run P (pure (if h:a.size=1 then a[0]else Value.tuple a)) w') h2
structure PrimOk (P:Program) (g:FuncId) (f:List AV->H->Option (AV×H)):Prop where
  ev:∀args h v h',f args h=Jp (v,h')->Ev h h'
  fn:∃fn,P.funcs[g]? =Jp fn/\fn.body.isSome=Jr/\(fn.name== "runtime.NumGoroutine")=Js
  call:∀args h v h',f args h=Jp (v,h')->∀ρ w us,VRs ρ args us->HR P ρ h w->dl ρ h h'->CallsIn Fence.wide 0 P g us.toArray w (AG P ρ h w v h')
structure ny (P:Program) (tab:FuncId->Option AF):Prop where
  fn:∀g F,tab g=Jp (.fn F)->∃fn,P.funcs[g]? =Jp fn/\trFn P fn=Jp F/\(fn.name== "runtime.NumGoroutine")=Js
  lf:∀g f,tab g=Jp (.lf f)->PrimOk P g f
def aB6{c:Code}{y:AC}{B u E:Nat}{ex:List (Nat×Nat)}(h:tr P c=Jp y):rL P c (live B y u ex E).2:=⟨y,ex,E,u,h,B,rfl⟩
def DY(ok:fe P rec m){S:FuncId->Option AF}(ht:ny P S){g:FuncId}{args:List AV}{h I:H}{v:AV}(y:kV rec S g args h=Jp (v,I)):
    Ev h I/\(∃fn,P.funcs[g]? =Jp fn/\fn.body.isSome=Jr/\(fn.name== "runtime.NumGoroutine")=Js)/\
    ∀ρ w J,VRs ρ args J->HR P ρ h w->dl ρ h I->CallsIn Fence.wide 0 P g J.toArray w (AG P ρ h w v I):=by
  unfold kV at y;split at y
  · rename_i f hf;have hp:=ht.lf g f hf;exact⟨hp.ev _ _ _ _ y,hp.fn,hp.call _ _ _ _ y⟩
  · rename_i F hF;obtain⟨fn,q1,R,q3⟩:=ht.fn g F hF;unfold trFn at R;split at R
    · rename_i b T hb a2;split at R
      · rename_i c0 a3;cases R;have M:∀(e:Ex) (L:List AV),(e= .normal\/e= .ret)->bC rec (live fn.ntmps c0 (BG T) [] (BG T)).2 (fC args fn.ntmps) h=Jp (e,L,I)->cE L I T=Jp (match cE L I T with | some U=>U | none=>[])->v=dF (match cE L I T with | some U=>U | none=>[])->
            Ev h I/\(∃fn,P.funcs[g]? =Jp fn/\fn.body.isSome=Jr/\(fn.name== "runtime.NumGoroutine")=Js)/\
            ∀ρ w J,VRs ρ args J->HR P ρ h w->dl ρ h I->CallsIn Fence.wide 0 P g J.toArray w (AG P ρ h w v I):=by
          intro e L he E V hv;have a4:=hG ok E;refine⟨a4,⟨fn,q1,by rw[hb];rfl,q3⟩,?_⟩;intro ρ w J Y hr a5;refine callsIn_of_wp_marks q1 hb trivial ?_ rfl;have Z:TR ρ (fC args fn.ntmps) (J.toArray++Fj (fn.ntmps-J.toArray.size) undef):=by
            unfold TR fC;have hl:J.toArray.size=args.length:=by simpa using Y.1
            rw[hl];simp only[Array.toList_append,Array.toList_replicate];exact VRs.append Y (VRs.replicate (.aa _) _)
          have hc:=CL ok b (aB6 a3) E (ro:=Jq) (B:=w.heap.size) (act:={tmps:=J.toArray++Fj (fn.ntmps-J.toArray.size) undef,defers:=[]}) (Ab _) (fun l hl=>by cases hl) Z hr a5 trivial;refine wpIn_mono hc ?_;rintro q O w' ⟨rfl,ρ',t',r',Q,mk'⟩;have G:LeavesInM Fence.wide 0 P fn O.tmps (AG P ρ h w v I) O.defers .returning w':=by
            refine NC (w0:=w) mk' r' ?_;intro w2 k1 k2 k3 k4 k5 k6;obtain⟨u,g1,g2⟩:=Q6 t' k1 a2 V;refine⟨u,g2,u,ρ',rfl,by rw[hv];exact g1,k1,⟨Q.sub,Q.dom,Q.own,As Q.size k5,k2.trans Q.os,k3.trans Q.tape,k4.trans Q.output,fun bb a0 a6=>by rw[k6 bb a0];exact Q.frame bb a0 a6⟩⟩
          rcases he with rfl | rfl
          · exact G
          · exact G
        split at y
        · rename_i L h1 E;split at y
          · rename_i U K;cases y;exact M .normal L (.inl rfl) E (by rw[K]) (by rw[K])
          · cases y
        · rename_i L h1 E;split at y
          · rename_i U K;cases y;exact M .ret L (.inr rfl) E (by rw[K]) (by rw[K])
          · cases y
        · cases y
      · cases R
    · cases R
  · cases y
def aAU{O:FuncId->Option AF}(ht:ny P O):∀n,fe P (run O n) n
  | 0=>by
    refine⟨?_,?_,?_,?_,?_,?_,?_⟩
    · intro g args h v E hr;cases hr
    · intro g args h v E hr;cases hr
    · intro g args h v E hr;cases hr
    · intro ac a h e M E hr;cases hr
    · intro c ac _ a h e M E hr;cases hr
    · intro c ac _ S a h e M E hr;cases hr
    · intro l c ac _ S a h e M E hr;cases hr
  | n+1=>by
    have L:=aAU ht n;refine⟨fun g args h v E hr=>(DY L ht hr).1,fun g args h v E hr=>(DY L ht hr).2.1,fun g args h v E hr=>(DY L ht hr).2.2,fun ac a h e M E hr=>hG L hr,?_,?_,?_⟩
    · intro c ac u a h e M E hr T B ρ w Q R y G I J K;exact CL L c u hr R y G I J K
    · intro c ac u S a h e M E hr T B ρ w Q R y G I J K;exact NI L u (CL L c u) hr R y G I J K
    · intro l c ac u S a h e M E hr T B ρ w Q R y G I J K;exact NT L u hr R y G I J K
end
open Go.ChangeShapes Go.WideShapes Go.ChangeAt Go.RowKit
def aGM(P:Program)(g:Nat)(F:AFn):Prop:=∃fn,P.funcs[g]? =Jp fn/\trFn P fn=Jp F/\(fn.name== "runtime.NumGoroutine")=Js
def wV{P:Program}{y:FuncId->Option AF}(ht:ny P y){n:Nat}{g:FuncId}{args:List AV}{h E:H}{v:AV}(B:(run y n).call g args h=Jp (v,E))
    {ρ:Emb} {w:World} {us:List Value} (hv:VRs ρ args us) (hr:HR P ρ h w) (G:dl ρ h E) (I:∀x l o,ρ x=Jp l->h.get x=Jp o->o.cn=Js):
    Calls P g us.toArray w fun e w'=>∃u J,e= .returned u/\VR J v u/\Below w.heap.size w w':=by
  have K:=callsIn_wide.1 ((aAU ht n).call g args h v E B ρ w us hv hr G);refine K.mono ?_;rintro e w' ⟨u,J,rfl,h1,h2,s⟩;refine⟨u,J,rfl,h1,⟨s.os,s.tape,s.output,s.size,fun b hb=>s.frame b hb ?_⟩⟩;intro x l o L hg hl;rw[I x l o L hg]at hl;cases hl
def QP{ρ:Emb}{b:Bool}{u:Value}(h:VR ρ (.bool b) u):u= .bool b:=h.cv
section
variable {H:Type} {enc:TypeId×Value->H} {P:Program}
def post_of_below{f:Func}{s:ChangeSpec}{apart G u I:Bool}{W W':World}{args:Array Value}{v:Value}{ds gs:List (DataW H)}{before pa pv:List MemPlace}
    (hW:DataW.Whole enc P f.params.toList s.vars apart W args.toList ds gs before)
    (E:∀(b:Nat) (sp:Nat->Bool) (hd:Bool),DataW.TrodAll enc P W' b sp hd f.resultTypes.toList (v.resultList f.resultTypes.size) (s.fn H (ds++gs)).results [])
    (y:∀sp:Nat->Bool,(∀p∈before,sp p.block=Jr)->DataW.TrodAll enc P W' 0 sp Jr f.params.toList args.toList (s.fn H (ds++gs)).args pa)
    (B:∀sp:Nat->Bool,(∀p∈before,sp p.block=Jr)->DataW.TrodVars enc P W' sp s.vars (s.fn H (ds++gs)).vars pv)
    (J:before=pa++pv) (O:Below W.heap.size W W')
    (M:∀(j:Nat) (t:TypeId) (r:Value),f.resultTypes[j]? =Jp t->(v.resultList f.resultTypes.size)[j]? =Jp r->Value.okWide P W' .any 0 t r):
    s.post enc P f apart G u I W args v W':=by
  have hold:∀p∈before,(fun b=>decide (b<W.heap.size)) p.block=Jr:=fun p K=>by simpa using hW.lt p K
  refine⟨ds,gs,before,[],pa,pv,hW,E _ _ _,y _ hold,B _ hold,O.frame _,fun _=>?_⟩;have hlt:=hW.lt;obtain⟨_,_,_,_,_,hz,Q⟩:=hW;refine⟨M,_,_,([]++pa)++pv,⟨[]++pa,pv,trodAll_append (y _ fun _ _=>rfl) (E _ _ _),B _ (fun _ _=>rfl),rfl,?_,?_⟩,?_⟩
  · intro b off K;have L:MemPlace.cell b off∈before:=by rw[J];simpa using K
    rw[O.frozen (hlt _ L)];exact hz b off L
  · intro R;have:=Q R;rw[J]at this;simpa using this
  · intro p K _;rw[J];simpa using K
end
open Go.ChangeShapes Go.WideShapes Go.ChangeAt Go.RowKit
def KT.Ok(P:Program):KT->Prop
  | .leaf=>True
  | .node l k f r=>aGM P k f/\l.Ok P/\r.Ok P
  | .tru l k r=>PrimOk P k L8/\l.Ok P/\r.Ok P
  | .tz l k r=>PrimOk P k primTz/\l.Ok P/\r.Ok P
  | .prr l k F r=>PrimOk P k (e9 F)/\l.Ok P/\r.Ok P
  | .prm l k F r=>PrimOk P k (qS F)/\l.Ok P/\r.Ok P
def KT.fk{P:Program} :∀{t:KT} {g:Nat} {F:AFn},t.Ok P->t.find g=Jp (.fn F)->aGM P g F
  | .leaf,_,_,_,h=>by cases h
  | .node l k f r,g,F,u,h=>by
    unfold KT.find at h;split at h
    · rename_i e;cases h;subst e;exact u.1
    · split at h
      · exact KT.fk u.2.1 h
      · exact KT.fk u.2.2 h
  | .tru l k r,g,F,u,h=>by
    unfold KT.find at h;split at h
    · cases h
    · split at h
      · exact KT.fk u.2.1 h
      · exact KT.fk u.2.2 h
  | .tz l k r,g,F,u,h=>by
    unfold KT.find at h;split at h
    · cases h
    · split at h
      · exact KT.fk u.2.1 h
      · exact KT.fk u.2.2 h
  | .prr l k _ r,g,F,u,h=>by
    unfold KT.find at h;split at h
    · cases h
    · split at h
      · exact KT.fk u.2.1 h
      · exact KT.fk u.2.2 h
  | .prm l k _ r,g,F,u,h=>by
    unfold KT.find at h;split at h
    · cases h
    · split at h
      · exact KT.fk u.2.1 h
      · exact KT.fk u.2.2 h
def KT.dt{P:Program} :∀{t:KT} {g:Nat} {f:List AV->H->Option (AV×H)},t.Ok P->t.find g=Jp (.lf f)->PrimOk P g f
  | .leaf,_,_,_,h=>by cases h
  | .node l k f r,g,F,u,h=>by
    unfold KT.find at h;split at h
    · cases h
    · split at h
      · exact KT.dt u.2.1 h
      · exact KT.dt u.2.2 h
  | .tru l k r,g,F,u,h=>by
    unfold KT.find at h;split at h
    · rename_i e;cases h;subst e;exact u.1
    · split at h
      · exact KT.dt u.2.1 h
      · exact KT.dt u.2.2 h
  | .tz l k r,g,F,u,h=>by
    unfold KT.find at h;split at h
    · rename_i e;cases h;subst e;exact u.1
    · split at h
      · exact KT.dt u.2.1 h
      · exact KT.dt u.2.2 h
  | .prr l k _ r,g,F,u,h=>by
    unfold KT.find at h;split at h
    · rename_i e;cases h;subst e;exact u.1
    · split at h
      · exact KT.dt u.2.1 h
      · exact KT.dt u.2.2 h
  | .prm l k _ r,g,F,u,h=>by
    unfold KT.find at h;split at h
    · rename_i e;cases h;subst e;exact u.1
    · split at h
      · exact KT.dt u.2.1 h
      · exact KT.dt u.2.2 h
def KT.tabOk{P:Program}{t:KT}(h:t.Ok P):ny P t.find where
  fn g F hg:=by obtain⟨fn,h1,h2,h3⟩:=KT.fk h hg;exact⟨fn,h1,h2,h3⟩
  lf g f hg:=KT.dt h hg
def WQ(y:Int):0<=IntKind.u64.wrap y/\IntKind.u64.wrap y<18446744073709551616:=by
  have e:IntKind.u64.wrap y=y % 18446744073709551616:=by unfold IntKind.wrap;simp[IntKind.bits,IntKind.signed]
  rw[e];exact⟨Int.emod_nonneg _ (by omega),Int.emod_lt_of_pos _ (by omega)⟩
def WZ(x:Int):0<=tzIdx x/\tzIdx x<64:=by unfold tzIdx;have:=WQ (UR x*285870213051353865);omega
def aAz:tzF 0=64:=by unfold tzF;rw[if_pos rfl]
def WY:tzTab.length=64:=rfl
def aAy:∀y∈tzTab,y<64:=by decide
def aGV{x:Int}(u:¬x=0){n:Nat}(h:tzTab[(tzIdx x).toNat]? =Jp n):tzF x=wrap64 (n:Int):=by have hs:n<64:=aAy _ (Af h);unfold tzF;rw[if_neg u,h];show(n:Int)=_;unfold wrap64;omega
def prim_tz{P:Program}{g:FuncId}{b:Nat}(hfn:∃fn,P.funcs[g]? =Jp fn/\fn.body.isSome=Jr/\(fn.name== "runtime.NumGoroutine")=Js)(hb:gmem P b=Jp (.ints .u8 tzTab))
    (h0:∀w:World,Calls P g #[.int .u64 0] w fun e w'=>e= .returned (.int .i64 64)/\w'=w)
    (h1:∀(w:World) (x v:Int),(x==0)=Js->w.cell? ⟨b,(tzIdx x).toNat,Jq⟩=Jp (.int .u8 v)->tzIdx x<64->0<=tzIdx x->Calls P g #[.int .u64 x] w fun e w'=>e= .returned (.int .i64 (wrap64 v))/\w'=w):PrimOk P g primTz where
  ev args h v h' hr:=by
    unfold primTz at hr;split at hr
    · cases hr;exact Ev.refl h
    · cases hr
  fn:=hfn
  call args h v h' hr ρ w us hv hh hf:=by
    unfold primTz at hr;split at hr
    · rename_i n hn;cases hr;unfold IK at hn;split at hn
      · rename_i x;cases hn;obtain⟨u,us',rfl,hu,hus⟩:=hv.cons_inv;rw[hus.da,hu.bt];have key:Calls P g #[.int .u64 x] w fun e w'=>e= .returned (.int .i64 (tzF x))/\w'=w:=by
          by_cases e:x=0
          · rw[e,aAz];exact h0 w
          · have hi0:=WZ x;obtain⟨cs,ty,fz,g1,g2⟩:=hh.gat b _ hb;obtain⟨n,hn⟩:∃n,tzTab[(tzIdx x).toNat]? =Jp n:=⟨_,Ad (by rw[WY];omega)⟩;have hc:cs.toList[(tzIdx x).toNat]? =Jp (.int .u8 (n:Int)):=by
              rw[show cs.toList=_ from g2,Ap,hn];rfl
            have hcell:w.cell? ⟨b,(tzIdx x).toNat,Jq⟩=Jp (.int .u8 (n:Int)):=by rw[Cj]at hc;generalize (tzIdx x).toNat=k at hc ⊢;simp only[World.cell?,g1,Hy,Aq,if_false];exact hc
            have:=h1 w x _ (by simpa using e) hcell hi0.2 hi0.1;rw[aGV e hn];exact this
        refine callsIn_wide.2 (key.mono ?_);rintro e w' ⟨rfl,rfl⟩;exact⟨_,ρ,rfl,.int _ _,hh,Stp.refl _ _ _⟩
      · cases hn
    · cases hr
open Go.ChangeShapes Go.WideShapes Go.ChangeAt Go.RowKit
inductive Ty where
  | int (k:IntKind)
  | bool
  | str
  | slice (e:Ty)
  | unit
  | pair (a b:Ty)
  deriving Inhabited
def Ty.size:Ty->Nat
  | .unit=>0
  | .pair a b=>a.size+b.size
  | _=>1
def Sh:Ty->List AV->H->Prop
  | .int k,cs,_=>∃n,cs=[.int k n]/\k.min<=n/\n<=k.max
  | .bool,cs,_=>∃b,cs=[.bool b]
  | .str,cs,_=>∃s:ByteArray,cs=[.str s]/\s.size<=maxLen
  | .slice e,cs,h=>cs=[.ag]\/∃b n cells,cs=[.slice Js e.size b 0 n]/\n<=maxLen/\h.get b=Jp (.cells 0 Js cells)/\cells.length=n*e.size/\
      ∀i,i<n->Sh e ((cells.drop (i*e.size)).take e.size) h
  | .unit,cs,_=>cs=[]
  | .pair a b,cs,h=>∃u y,cs=u++y/\Sh a u h/\Sh b y h
structure fq (h h':H):Prop where
  next:h.next<=h'.next
  get:∀x o,h.get x=Jp o->h'.get x=Jp o
def fq.refl(h:H):fq h h:=⟨Ab _,fun _ _ h=>h⟩
def fq.trans{a b c:H}(p:fq a b)(q:fq b c):fq a c:=⟨As p.next q.next,fun x o h=>q.get x o (p.get x o h)⟩
def fq.alloc(h:H)(o:cq):fq h (h.alloc o):=⟨by simp,fun x u hg=>H.fh hg⟩
def Sh.mono{h u:H}(g:fq h u):∀{T:Ty} {cs:List AV},Sh T cs h->Sh T cs u
  | .int k,cs,hs=>hs
  | .bool,cs,hs=>hs
  | .str,cs,hs=>hs
  | .unit,cs,hs=>hs
  | .slice e,cs,hs=>by
    rcases hs with hs | ⟨b,n,cells,h1,h2,h3,y,B⟩
    · exact .inl hs
    · exact .inr ⟨b,n,cells,h1,h2,g.get _ _ h3,y,fun i E=>Sh.mono g (B i E)⟩
  | .pair a b,cs,hs=>by obtain⟨G,I,e,h1,h2⟩:=hs;exact⟨G,I,e,Sh.mono g h1,Sh.mono g h2⟩
def Sh.length{h:H} :∀{T:Ty} {cs:List AV},Sh T cs h->cs.length=T.size
  | .int k,cs,hs=>by obtain⟨n,rfl,_⟩:=hs;rfl
  | .bool,cs,hs=>by obtain⟨n,rfl⟩:=hs;rfl
  | .str,cs,hs=>by obtain⟨n,rfl,_⟩:=hs;rfl
  | .unit,cs,hs=>by have hs:cs=[]:=hs;subst hs;rfl
  | .slice e,cs,hs=>by rcases hs with rfl | ⟨b,n,cells,rfl,_⟩<;>rfl
  | .pair a b,cs,hs=>by obtain⟨u,y,rfl,h1,h2⟩:=hs;simp[Ty.size,Sh.length h1,Sh.length h2]
structure Laid (P:Program) (ρ:Emb) (h:H) (w:World):Prop where
  hr:HR P ρ h w
  dom:∀x,h.next<=x->ρ x=Jq
  ro:∀x o,h.get x=Jp o->o.cn=Js
section
variable {P:Program}
def Laid.empty(w:World)(hg:GlbAt P w):Laid P (fun _=>Jq) H.empty w:=
  ⟨⟨hg,fun _ _ _ _ _ _ h=>by(cases h),fun _ _ h=>by(cases h),fun _ _ _ h=>by(cases h),fun _ _ _ _ _ _ h=>by(cases h)⟩,fun _ _=>rfl,fun x o h=>by have:=H.bj h;exact absurd this (Nat.not_lt_zero _)⟩
def Laid.add{ρ:Emb}{h:H}{w:World}(hl:Laid P ρ h w){cells:List AV}{l:Loc}(hb:l.blk<w.heap.size)(K:OR P ρ w l (.cells 0 Js cells)):
    Laid P (upd ρ h.next l) (h.alloc (.cells 0 Js cells)) w/\Sub ρ (upd ρ h.next l):=by
  have hs:=lV (l:=l) (hl.dom _ (Ab _));refine⟨⟨⟨hl.hr.gat,fun b l _ x I J u hg E=>?_,fun x I u=>?_,fun x I J u hg=>?_,fun x y I Q J R u S B L G M O=>?_⟩,fun x u=>?_,fun x o hg=>?_⟩,hs⟩
  · exfalso;by_cases e:x=h.next
    · subst e;rw[H.ah]at hg;cases hg;cases E
    · rw[H.ay,if_neg e]at hg;rw[hl.ro x J hg]at E;cases E
  · by_cases e:x=h.next
    · subst e;rw[dR]at u;cases u;exact hb
    · rw[fA e]at u;exact hl.hr.fg x I u
  · by_cases e:x=h.next
    · subst e;rw[dR]at u;cases u;rw[H.ah]at hg;cases hg;exact K.mono hs rfl
    · rw[fA e]at u;rw[H.ay,if_neg e]at hg;exact(hl.hr.obj x I J u hg).mono hs rfl
  · exfalso;by_cases e:x=h.next
    · subst e;rw[H.ah]at B;cases B;cases G
    · rw[H.ay,if_neg e]at B;rw[hl.ro x J B]at G;cases G
  · have u:h.next+1<=x:=u;rw[fA (by omega)];exact hl.dom x (by omega)
  · by_cases e:x=h.next
    · subst e;rw[H.ah]at hg;cases hg;rfl
    · rw[H.ay,if_neg e]at hg;exact hl.ro x o hg
def Laid.add0{ρ:Emb}{h:H}{w:World}(hl:Laid P ρ h w)(cells:List AV):Laid P ρ (h.alloc (.cells 0 Js cells)) w:=by
  have J:=hl.dom _ (Ab _);refine⟨⟨hl.hr.gat,fun b l _ x K B u hg E=>?_,hl.hr.fg,fun x K B u hg=>?_,fun x y K Q B R u S G L I M O=>?_⟩,fun x u=>?_,fun x o hg=>?_⟩
  · exfalso;by_cases e:x=h.next
    · subst e;rw[J]at u;cases u
    · rw[H.ay,if_neg e]at hg;rw[hl.ro x B hg]at E;cases E
  · by_cases e:x=h.next
    · subst e;rw[J]at u;cases u
    · rw[H.ay,if_neg e]at hg;exact hl.hr.obj x K B u hg
  · exfalso;by_cases e:x=h.next
    · subst e;rw[J]at u;cases u
    · rw[H.ay,if_neg e]at G;rw[hl.ro x B G]at I;cases I
  · have u:h.next+1<=x:=u;exact hl.dom x (by omega)
  · by_cases e:x=h.next
    · subst e;rw[H.ah]at hg;cases hg;rfl
    · rw[H.ay,if_neg e]at hg;exact hl.ro x o hg
def wQ(P:Program)(f:TypeId->Option Ty):Nat->List Field->Option Ty
  | _,[]=>Jp .unit
  | off,x::u=>match f x.type,wQ P f (x.offset+P.cellsOf x.type) u with
    | some a,Jp b=>if x.offset=off/\a.size=P.cellsOf x.type then Jp (.pair a b)else Jq
    | _,_=>Jq
def H5(a:Ty):Nat->Ty
  | 0=> .unit
  | n+1=> .pair a (H5 a n)
def KX(P:Program):Nat->TypeId->Option Ty
  | 0,_=>Jq
  | m+1,t=>match P.underlying t with
    | some (.int k)=>Jp (.int k)
    | some .bool=>Jp .bool
    | some .string=>Jp .str
    | some (.slice e)=>match KX P m e with
      | some T=>if T.size=P.cellsOf e/\0<T.size then Jp (.slice T)else Jq
      | none=>Jq
    | some (.struct u)=>match wQ P (KX P m) 0 u.toList with
      | some T=>if T.size=P.cellsOf t then Jp T else Jq
      | none=>Jq
    | some (.array n e)=>match KX P m e with
      | some T=>if T.size=P.cellsOf e/\n*T.size=P.cellsOf t then Jp (H5 T n)else Jq
      | none=>Jq
    | _=>Jq
def Got(P:Program)(w:World)(T:Ty)(cs:List Value):Prop:=∀(ρ:Emb) (h:H),Laid P ρ h w->∃y B u,Laid P y B w/\Sub ρ y/\fq h B/\VRs y u cs/\Sh T u B
def Got.pair{w:World}{A B:Ty}{u y:List Value}(K:Got P w A u)(L:Got P w B y):Got P w (.pair A B) (u++y):=by intro ρ h hl;obtain⟨M,h1,E,O,Q,R,S,T⟩:=K ρ h hl;obtain⟨U,h2,G,V,I,J,Y,Z⟩:=L M h1 O;exact⟨U,h2,E++G,V,Q.trans I,R.trans J,(S.mono I).append Y,E,G,rfl,T.mono J,Z⟩
def Got.unit(w:World):Got P w .unit []:=fun ρ h hl=>⟨ρ,h,[],hl,Sub.refl _,fq.refl _,VRs.nil _,rfl⟩
def OB{w:World}{T:Ty} :∀(u:List (List Value)),(∀cs∈u,Got P w T cs)->∀(ρ:Emb) (h:H),Laid P ρ h w->
    ∃B E cells,Laid P B E w/\Sub ρ B/\fq h E/\VRs B cells u.flatten/\cells.length=u.length*T.size/\∀i,i<u.length->Sh T ((cells.drop (i*T.size)).take T.size) E
  | [],_,ρ,h,hl=>⟨ρ,h,[],hl,Sub.refl _,fq.refl _,VRs.nil _,by simp,fun i G=>by simp at G⟩
  | cs::u,hg,ρ,h,hl=>by
    obtain⟨L,h1,y,M,O,Q,R,I⟩:=hg cs (by simp) ρ h hl;obtain⟨S,h2,cells,U,J,K,V,Y,Z⟩:=OB u (fun c hc=>hg c (by simp[hc])) L h1 M;have hlen:=I.length;refine⟨S,h2,y++cells,U,O.trans J,Q.trans K,by simpa using (R.mono J).append V,by simp[hlen,Y,Ec];omega,fun i G=>?_⟩
    cases i with
    | zero=>
      have:((y++cells).drop (0*T.size)).take T.size=y:=by rw[Ei,List.drop_zero,<-hlen,List.take_left]
      rw[this];exact I.mono K
    | succ i=>
      have:(y++cells).drop ((i+1)*T.size)=cells.drop (i*T.size):=by rw[Ec,Nat.add_comm,<-hlen,List.drop_append];simp
      rw[this];exact Z i (by simpa using G)
def cells?_spec{w:World}{a:Addr}{n:Nat}{cs:List Value}(h:w.cells? 0 a n=Jp cs):cs.length=n/\∀i,i<n->w.cell? (a.add i)=cs[i]? :=by unfold World.cells? at h;rw[if_pos (Au _)]at h;exact⟨by simpa using mapM_some_length h,fun i u=>mapM_some_get h i i (by simp[u])⟩
def cell?_spec{w:World}{a:Addr}{v:Value}(h:w.cell? a=Jp v):∃c e f,w.heap[a.block]? =Jp (.cells c e f)/\a.spot=Jq/\c[a.off]? =Jp v:=by
  unfold World.cell? at h;split at h
  · rename_i c e f u;split at h
    · cases h
    · rename_i hs;refine⟨c,e,f,u,?_,h⟩
      cases hsp:a.spot with
      | none=>rfl
      | some x=>rw[hsp]at hs;simp at hs
  · cases h
def tT(a:Addr)(n:Nat):(a.add n).block=a.block:=by unfold Addr.add;split<;>rfl
def V7(a:Addr)(n:Nat):(a.add n).off=a.off+n:=by unfold Addr.add;split<;>simp_all
def uQ{w:World}{a:Addr}{i sz:Nat}{cs:List Value}(h:w.cells? 0 (a.add (i*sz)) sz=Jp cs)(hz:0<sz):
    ∃c e f,w.heap[a.block]? =Jp (.cells c e f)/\(i=0->a.spot=Jq)/\cs.length=sz/\a.off+i*sz+sz<=c.size/\∀j,j<sz->c[a.off+i*sz+j]? =cs[j]? :=by
  obtain⟨h1,h2⟩:=cells?_spec h;have h0:∃v,cs[0]? =Jp v:=by
    cases cs with
    | nil=>simp at h1;omega
    | cons v l=>exact⟨v,rfl⟩
  obtain⟨L,G⟩:=h0;obtain⟨c,e,f,h3,I,M⟩:=cell?_spec ((h2 0 hz).trans G);rw[tT,tT]at h3;have y:∀j,j<sz->c[a.off+i*sz+j]? =cs[j]? :=by intro j J;have u:∃v,cs[j]? =Jp v:=⟨cs[j]'(by omega),by simp[Ad (h1▸J)]⟩;obtain⟨v,hv⟩:=u;obtain⟨O,Q,R,B,_,E⟩:=cell?_spec ((h2 j J).trans hv);rw[tT,tT,h3]at B;cases B;rw[V7,V7]at E;rw[E,hv]
  refine⟨c,e,f,h3,?_,h1,?_,y⟩
  · intro K;subst K;have:((a.add (0*sz)).add 0)=a:=by simp[Addr.add]
    rw[this]at I;exact I
  · have hl:=y (sz-1) (by omega);have u:cs[sz-1]? =Jp (cs[sz-1]'(by omega)):=Ad (by omega);rw[u]at hl;have:=(Array.getElem?_eq_some_iff.1 hl).1;omega
section
variable {H0:Type} {enc:TypeId×Value->H0} {w:World}
def DJ{m:Nat}{n:Nat}(G:∀(t:TypeId) (T:Ty),KX P m t=Jp T->∀(cs:List Value) (x:DataW H0×List MemPlace),DataW.trod enc P w 0 (fun _=>Jr) Jr n t cs=Jp x->Got P w T cs){cs:List Value} :
    ∀(y:List Field) (off:Nat) (T:Ty),wQ P (KX P m) off y=Jp T->off+T.size=cs.length->(∀f∈y,∃x,DataW.trod enc P w 0 (fun _=>Jr) Jr n f.type ((cs.drop f.offset).take (P.cellsOf f.type))=Jp x)->Got P w T (cs.drop off)
  | [],off,T,u,hl,_=>by
    cases u;have:cs.drop off=[]:=by simp[Ty.size]at hl;rw[hl];exact Gv
    rw[this];exact Got.unit w
  | f::y,off,T,u,hl,I=>by
    unfold wQ at u;split at u
    · rename_i A B hA J;split at u
      · rename_i K;cases u;obtain⟨h1,h2⟩:=K;obtain⟨x,E⟩:=I f (by simp);have L:=G _ _ hA _ _ E;simp only[Ty.size]at hl;have M:=DJ G y _ _ J (by omega) (fun f hf=>I f (by simp[hf]));have:=L.pair M;rw[h1]at this;have e:(cs.drop off).take (P.cellsOf f.type)++cs.drop (off+P.cellsOf f.type)=cs.drop off:=by
          rw[<-Ej,Cu]
        rw[e]at this;exact this
      · cases u
    · cases u
def GY{T:Ty}{cs:List Value} :∀(k off:Nat),off*T.size+k*T.size=cs.length->(∀i,off<=i->i<off+k->Got P w T ((cs.drop (i*T.size)).take T.size))->Got P w (H5 T k) (cs.drop (off*T.size))
  | 0,off,hl,_=>by
    have:cs.drop (off*T.size)=[]:=by rw[show off*T.size=cs.length by omega];exact Gv
    rw[this];exact Got.unit w
  | k+1,off,hl,hg=>by
    have u:=hg off (Ab _) (by omega);have y:=GY (T:=T) (cs:=cs) k (off+1) (by rw[Ec]at hl ⊢;omega) (fun i h1 h2=>hg i (by omega) (by omega));have:=u.pair y;have e:(cs.drop (off*T.size)).take T.size++cs.drop ((off+1)*T.size)=cs.drop (off*T.size):=by
      rw[Ec,<-Ej,Cu]
    rw[e]at this;exact this
def wN:∀(m:Nat) (t:TypeId) (T:Ty),KX P m t=Jp T->∀(n:Nat) (cs:List Value) (x:DataW H0×List MemPlace),DataW.trod enc P w 0 (fun _=>Jr) Jr n t cs=Jp x->Got P w T cs
  | 0,t,T,hT,_,_,_,_=>by cases hT
  | m+1,t,T,hT,n,cs,x,hx=>by
    unfold KX at hT;split at hT
    · rename_i k hk;cases hT;obtain⟨z,rfl,_,hw⟩:=DataW.trod_int hk hx;intro ρ h hl;simp only[Lit.wf,Aw,decide_eq_true_eq]at hw;exact⟨ρ,h,[.int k z],hl,Sub.refl _,fq.refl _,.cons (.int _ _) (.nil _),z,rfl,hw.1,hw.2⟩
    · rename_i hk;cases hT;obtain⟨z,rfl,_⟩:=DataW.trod_bool hk hx;intro ρ h hl;exact⟨ρ,h,[.bool z],hl,Sub.refl _,fq.refl _,.cons (.bool _) (.nil _),z,rfl⟩
    · rename_i hk;cases hT;obtain⟨z,rfl,_,hz⟩:=DataW.trod_string hk hx;intro ρ h hl;exact⟨ρ,h,[.str z],hl,Sub.refl _,fq.refl _,.cons (.str _) (.nil _),z,rfl,hz⟩
    · rename_i e hk;split at hT
      · rename_i E hE;split at hT
        · rename_i hsz;cases hT;obtain⟨hsz,hpos⟩:=hsz;rcases DataW.trod_slice hk hx with⟨rfl,_⟩ | ⟨a,len,cap,elems,rest,n',rfl,rfl,_,_,hlc,hcm,hel,hle,hre,_⟩
          · intro ρ h hl;exact⟨ρ,h,[.ag],hl,Sub.refl _,fq.refl _,.cons .ag (.nil _),.inl rfl⟩
          · obtain⟨hrl,hre⟩:=hre rfl;rw[<-hsz]at hle hre
            --the cells of each element,up to the capacity
            have hcell:∀i,i<cap->∃cs y,w.cells? 0 (a.add (i*E.size)) E.size=Jp cs/\DataW.trod enc P w 0 (fun _=>Jr) Jr n' e cs=Jp y:=by
              intro i hi;rcases Bi i len with hi' | hi'
              · have h1:=hle i hi';have h2:elems[i]? =Jp (elems[i]'(by omega)):=Ad (by omega);rw[h2]at h1;simp only[Option.bind_eq_some_iff]at h1;obtain⟨cs,h3,h4⟩:=h1;exact⟨cs,_,h3,h4⟩
              · have h1:=hre (i-len) (by omega);have h2:rest[i-len]? =Jp (rest[i-len]'(by omega)):=Ad (by omega);rw[h2]at h1;simp only[Option.bind_eq_some_iff]at h1;obtain⟨cs,h3,h4⟩:=h1;rw[show len+(i-len)=i by omega]at h3;exact⟨cs,_,h3,h4⟩
            intro ρ h hl
            let get (i:Nat):List Value:=(w.cells? 0 (a.add (i*E.size)) E.size).getD []
            have hgot:∀cs∈(Ba len).map get,Got P w E cs:=by
              intro cs hcs;simp only[Ew,Et]at hcs;obtain⟨i,hi,rfl⟩:=hcs;obtain⟨cs,y,h1,h2⟩:=hcell i (by omega);have:get i=cs:=by simp[get,h1]
              rw[this];exact wN m e E hE _ _ _ h2
            obtain⟨ρ1,h1,cells,l1,s1,w1,v1,e1,q1⟩:=OB _ hgot ρ h hl;simp only[Ag,List.length_range]at e1 q1;rcases Du cap with hc0 | hc0
            · subst hc0;have hl0:len=0:=by omega
              subst hl0;refine⟨ρ1,h1.alloc (.cells 0 Js cells),[.slice Js E.size h1.next 0 0],l1.add0 cells,s1,w1.trans (fq.alloc _ _),.cons (.slice _ _ _ _ _ _ _ (Ab _) hcm (by simp) fun h=>by omega) (.nil _),.inr ⟨_,0,cells,rfl,Au _,H.ah _ _,by simpa using e1,fun i hi=>by omega⟩⟩
            · obtain⟨c0,y0,hc1,_⟩:=hcell 0 hc0;obtain⟨c,el,fz,hb,hsp,_,hbd0,_⟩:=uQ hc1 hpos;have hsp:=hsp rfl;obtain⟨cl,yl,hcl,_⟩:=hcell (cap-1) (by omega);obtain⟨c',el',fz',hb',_,_,hbd,_⟩:=uQ hcl hpos;rw[hb]at hb';cases hb';have hbd:a.off+cap*E.size<=c.size:=by
                have:cap*E.size=(cap-1)*E.size+E.size:=by rw[<-Ec];congr 1;omega
                omega
              have hblk:a.block<w.heap.size:=(Array.getElem?_eq_some_iff.1 hb).1;have hlen:cells.length<=cap*E.size:=by rw[e1];exact Nat.mul_le_mul_right _ hlc
              have hor:OR P ρ1 w ⟨a.block,a.off,c.size⟩ (.cells 0 Js cells):=by
                refine⟨c,fz,el,hb,rfl,(by show a.off+cells.length<=c.size;omega),(fun h=>by cases h),fun i v hv=>?_⟩;obtain⟨u,hu,hvr⟩:=v1.getElem hv;refine⟨u,?_,hvr⟩;show c[a.off+i]? =Jp u
                --where the i-th cell stands
                have hil:i<len*E.size:=by have:=(List.getElem?_eq_some_iff.1 hv).1;omega
                have hq:i / E.size<len:=Nat.div_lt_of_lt_mul (by rw[Cz];exact hil);obtain⟨ci,yi,hci,_⟩:=hcell (i / E.size) (by omega);obtain⟨c',el',fz',hb',_,hcil,_,hcj⟩:=uQ hci hpos;rw[hb]at hb';cases hb';have hm:i % E.size<E.size:=Nat.mod_lt _ hpos;have h3:=hcj (i % E.size) hm;have h4:a.off+i / E.size*E.size+i % E.size=a.off+i:=by
                  have:=Ih i E.size;rw[Cz]at this;omega
                rw[h4]at h3;rw[h3]
                --the flattened list
                have hflat:∀(k:Nat) (css:List (List Value)) (q r:Nat) (hr:r<k),(∀x∈css,x.length=k)->css.flatten[q*k+r]? =(css[q]?).bind (·[r]?):=by
                  intro k css
                  induction css with
                  | nil=>intro q r hr _;simp
                  | cons x css ih=>
                    intro q r hr hx;have hxl:=hx x (by simp)
                    cases q with
                    | zero=>simp only[Fi,Ei,Bg,List.getElem?_cons_zero,Fh];rw[List.getElem?_append_left (by omega)]
                    | succ q=>simp only[Fi,List.getElem?_cons_succ];rw[List.getElem?_append_right (by rw[Ec];omega),<-ih q r hr (fun y hy=>hx y (by simp[hy]))];congr 1;rw[Ec];omega
                have h5:=hflat E.size ((Ba len).map get) (i / E.size) (i % E.size) hm (by
                  intro x hx;simp only[Ew,Et]at hx;obtain⟨j,hj,rfl⟩:=hx;obtain⟨cj,yj,hcj,_⟩:=hcell j (by omega);have:get j=cj:=by simp[get,hcj]
                  rw[this];exact(cells?_spec hcj).1)
                have h6:i / E.size*E.size+i % E.size=i:=by have:=Ih i E.size;rw[Cz]at this;omega
                rw[h6,hu]at h5;have h7:((Ba len).map get)[i / E.size]? =Jp ci:=by simp[hq,get,hci]
                rw[h7]at h5;exact h5.symm
              obtain⟨l2,s2⟩:=l1.add (l:=⟨a.block,a.off,c.size⟩) hblk hor;refine⟨_,_,[.slice Js E.size h1.next 0 len],l2,s1.trans s2,w1.trans (fq.alloc _ _),.cons (.slice _ _ _ _ _ cap a hlc hcm (by simp) fun _=>⟨_,dR _ _ _,?_,?_⟩) (.nil _),.inr ⟨_,len,cells,rfl,As hlc hcm,H.ah _ _,e1,fun i hi=>(q1 i hi).mono (fq.alloc _ _)⟩⟩
              · obtain⟨ab,ao,asp⟩:=a;have hsp:asp=Jq:=hsp;subst hsp;rfl
              · show a.off+0+cap*E.size<=c.size;omega
        · cases hT
      · cases hT
    · rename_i fs hk;split at hT
      · rename_i T' hT';split at hT
        · rename_i hsz;cases hT;obtain⟨xs,n',rfl,_,hcl,hxl,hxs⟩:=DataW.trod_struct hk hx;have:=DJ (enc:=enc) (w:=w) (n:=n') (m:=m) (fun t T hT cs x hx=>wN m t T hT n' cs x hx) (cs:=cs) fs.toList 0 T hT' (by omega) (by
            intro f hf;obtain⟨i,hi,e⟩:=Dx hf;have h1:fs[i]? =Jp f:=by
              have hi':i<fs.size:=by simpa using hi
              simp only[Eu hi',Option.some.injEq];simpa using e
            have h2:=hxs i f h1;have hi2:i<xs.length:=by rw[hxl];simpa using hi
            exact⟨xs[i],by rw[h2];exact Ad hi2⟩)
          simpa using this
        · cases hT
      · cases hT
    · rename_i k e hk;split at hT
      · rename_i E hE;split at hT
        · rename_i hsz;cases hT;obtain⟨xs,n',rfl,_,hcl,hxl,hxs⟩:=DataW.trod_array hk hx;have:=GY (w:=w) (P:=P) (T:=E) (cs:=cs) k 0 (by omega) (fun i _ hi=>by
            have h2:=hxs i (by omega);have hi2:i<xs.length:=by omega
            rw[Ad hi2,<-hsz.1]at h2;exact wN m e E hE n' _ _ h2)
          simpa using this
        · cases hT
      · cases hT
    · cases hT
end
def Ty.isAgg:Ty->Bool
  | .unit | .pair .. =>Jr
  | _=>Js
def ShV(T:Ty)(v:AV)(h:H):Prop:=∃u,Sh T u h/\v=if T.isAgg then .agg u else u.headD .aa
def aDG:List Ty->List AV->H->Prop
  | [],[],_=>True
  | T::u,v::y,h=>ShV T v h/\aDG u y h
  | _,_,_=>False
def JH(P:Program)(t:TypeId):Bool:=match P.underlying t with
  | some (.struct _) | some (.array _ _)=>Jr
  | _=>Js
def tysOf(P:Program)(m:Nat):List TypeId->Option (List Ty)
  | []=>Jp []
  | t::u=>match KX P m t,tysOf P m u with
    | some T,Jp y=>if T.isAgg=JH P t then Jp (T::y)else Jq
    | _,_=>Jq
def ShV.mono{h y:H}(g:fq h y){T:Ty}{v:AV}(hs:ShV T v h):ShV T v y:=let ⟨u,h1,h2⟩:=hs;⟨u,h1.mono g,h2⟩
def HF{H0:Type}{enc:TypeId×Value->H0}{w:World}{r:Reach}{base:Nat}{m:Nat} :∀{O:List TypeId} {Q:List Ty} {I:List Value} {ds:List (DataW H0)} {S:List MemPlace},
    tysOf P m O=Jp Q->DataW.TrodAll enc P w 0 (fun _=>Jr) Jr O I ds S->(∀(j:Nat) t v,O[j]? =Jp t->I[j]? =Jp v->Value.okWide P w r base t v)->
    ∀(ρ:Emb) (h:H),Laid P ρ h w->∃U V args,Laid P U V w/\Sub ρ U/\fq h V/\VRs U args I/\aDG Q args V
  | [],Q,I,ds,S,G,Y,J,ρ,h,hl=>by
    cases G
    cases I with
    | nil=>exact⟨ρ,h,[],hl,Sub.refl _,fq.refl _,VRs.nil _,trivial⟩
    | cons v I=>cases ds<;>exact Y.elim
  | t::O,Q,I,ds,S,G,Y,J,ρ,h,hl=>by
    unfold tysOf at G;split at G
    · rename_i T a6 h1 h2;split at G
      · rename_i B;cases G;obtain⟨v,a7,d,a9,p,q,rfl,rfl,rfl,hv,Z⟩:=trodAll_cons Y;obtain⟨L,hv⟩:=hv;obtain⟨ρ1,w1,E,l1,s1,g1,v1,q1⟩:=wN m t T h1 L _ _ hv ρ h hl;obtain⟨ρ2,w2,args,l2,s2,g2,v2,q2⟩:=HF h2 Z (fun j t v ht hv=>J (j+1) t v ht hv) ρ1 w1 l1;have y:=J 0 t v rfl rfl;refine⟨ρ2,w2,(if T.isAgg then .agg E else E.headD .aa)::args,l2,s1.trans s2,g1.trans g2,.cons ?_ v2,⟨E,q1.mono g2,rfl⟩,q2⟩
        cases K:T.isAgg with
        | true=>
          rw[K]at B;have:∃cs,v= .agg cs:=by
            unfold Value.okWide at y;unfold JH at B;split at B
            · rename_i hu;rw[hu]at y;simp only at y;obtain⟨cs,e,_⟩:=y;exact⟨cs,e⟩
            · rename_i hu;rw[hu]at y;simp only at y;obtain⟨cs,e,_⟩:=y;exact⟨cs,e⟩
            · cases B
          obtain⟨cs,rfl⟩:=this;rw[if_pos rfl];have:=(v1.mono s2).qf;simpa [Value.cells]using this
        | false=>
          rw[if_neg (by simp)];have hlen:=q1.length;have a0:T.size=1:=by cases T<;>first | rfl | cases K
          have b0:=v1.1;obtain⟨R,rfl⟩:∃R,E=[R]:=by
            match E,hlen,a0 with
            | [R],_,_=>exact⟨R,rfl⟩
            | [],h1,h2=>simp[h2]at h1
            | _::_::_,h1,h2=>simp[h2]at h1
          obtain⟨u,b1,e,a1,a2⟩:=v1.cons_inv;rw[a2.da]at e;have:v=u:=by
            have M:∀(cs:Array Value),v≠ .agg cs:=by
              intro cs a3;subst a3;unfold Value.okWide at y;rw[K]at B;unfold JH at B;split at B
              · cases B
              · cases B
              · rename_i a4 a5;split at y
                · rename_i f hf;exact a4 f hf
                · rename_i n' e' hf;exact a5 n' e' hf
                · unfold Cell.okWide at y;split at y;all_goals first
                    | (rename_i hh;cases hh)
                    | skip
                  all_goals first
                    | (rename_i h1 h2;cases h2)
                    | skip
                  unfold Cell.ok at y;split at y;all_goals first
                    | (rename_i h1 h2;cases h2)
                    | exact y.elim
            cases v with
            | agg cs=>exact absurd rfl (M cs)
            | _=>simpa [Value.cells]using e
          subst this;exact a1.mono s2
      · cases G
    · cases G
end
def calls_law{P:Program}{B:FuncId->Option AF}(ht:ny P B){g:FuncId}{m:Nat}{I:List TypeId}{M:List Ty}(R:tysOf P m I=Jp M)
    (E:∀args h,aDG M args h->∃n O,(run B n).call g args h=Jp (.bool Jr,O)) {Q:Type} {enc:TypeId×Value->Q} {w:World} {r:Reach} {base:Nat} {J:List Value} {ds:List (DataW Q)} {S:List MemPlace}
    (T:DataW.TrodAll enc P w 0 (fun _=>Jr) Jr I J ds S) (K:∀(j:Nat) t v,I[j]? =Jp t->J[j]? =Jp v->Value.okWide P w r base t v) (L:GlbAt P w):
    Calls P g J.toArray w fun e w'=>e= .returned (.bool Jr)/\Below w.heap.size w w':=by
  obtain⟨ρ,h,args,hl,_,_,hv,hs⟩:=HF R T K _ _ (Laid.empty w L);obtain⟨n,O,G⟩:=E args h hs;refine(wV ht G hv hl.hr (fun y U _=>hl.dom y U) fun x l o _ hg=>hl.ro x o hg).mono ?_;rintro e w' ⟨u,V,rfl,h1,h2⟩;rw[QP h1];exact⟨rfl,h2⟩
open Go.ChangeShapes Go.WideShapes Go.ChangeAt Go.RowKit
def trodAll_stays{J:Type}{enc:TypeId×Value->J}{P:Program}(hl:laidOutB P=Jr){W W':World}(hb:Below W.heap.size W W'){sp:Nat->Bool} :∀{B:List TypeId} {E:List Value} {ds:List (DataW J)} {y:List MemPlace},
    (B.all fun t=>P.readableRec t&&decide (t<P.types.size))=Jr->DataW.TrodAll enc P W 0 (fun _=>Jr) Jr B E ds y->(∀x∈y,x.block<W.heap.size)->(∀x∈y,sp x.block=Jr)->DataW.TrodAll enc P W' 0 sp Jr B E ds y
  | [],E,ds,y,ht,h,h1,h2=>by obtain⟨rfl,rfl,rfl⟩:=trodAll_nil h;exact trodAll_mk0
  | t::B,E,ds,y,ht,h,h1,h2=>by obtain⟨v,K,d,L,p,q,rfl,rfl,rfl,hv,G⟩:=trodAll_cons h;simp only[List.all_cons,Aw,decide_eq_true_eq]at ht;obtain⟨⟨hr,hs⟩,ht⟩:=ht;have I:=WideElems.Trod_stays hl hr hs hv (fun x u=>hb.same (h1 x (by simp[u]))) (fun x u=>h2 x (by simp[u]));exact⟨p,q,I,trodAll_stays hl hb (by simpa using ht) G (fun x u=>h1 x (by simp[u])) (fun x u=>h2 x (by simp[u])),rfl⟩
def trodAll_len{G:Type}{enc:TypeId×Value->G}{P:Program}{W:World}{b:Nat}{sp:Nat->Bool}{hd:Bool} :∀{u:List TypeId} {y:List Value} {ds:List (DataW G)} {B:List MemPlace},DataW.TrodAll enc P W b sp hd u y ds B->ds.length=u.length
  | [],y,ds,B,h=>by obtain⟨rfl,rfl,rfl⟩:=trodAll_nil h;rfl
  | t::u,y,ds,B,h=>by obtain⟨v,I,d,J,p,q,rfl,rfl,rfl,hv,E⟩:=trodAll_cons h;simp[trodAll_len E]
def Evt(p:Nat->Prop):Prop:=∃n,∀m,n<=m->p m
def Evt.mono{p q:Nat->Prop}(h:Evt p)(k:∀m,p m->q m):Evt q:=let ⟨n,u⟩:=h;⟨n,fun m hm=>k m (u m hm)⟩
def Evt.and{p q:Nat->Prop}(h:Evt p)(k:Evt q):Evt fun m=>p m/\q m:=let ⟨n,u⟩:=h;let ⟨l,hl⟩:=k;⟨max n l,fun m hm=>⟨u m (by omega),hl m (by omega)⟩⟩
def Evt.all{p:Nat->Prop}(h:∀m,p m):Evt p:=⟨0,fun m _=>h m⟩
structure mf (R:Nat->Rec) (L:Rec):Prop where
  code:∀c a h x,L.code c a h=Jp x->Evt fun m=>(R m).code c a h=Jp x
  call:∀g args h x,L.call g args h=Jp x->Evt fun m=>(R m).call g args h=Jp x
section
variable {R:Nat->Rec} {L:Rec}
def S5(E:mf R L){f:AV}{args:List AV}{h:H}{x:AV×H}(u:jQ L f args h=Jp x):Evt fun m=>jQ (R m) f args h=Jp x:=by
  unfold jQ at u;split at u
  · exact(E.call _ _ _ _ u).mono fun m hm=>by simp only[jQ];exact hm
  · rename_i l first K
    split at u
    · rename_i ver S hg;split at u
      · rename_i hl;split at u
        · rename_i T h1 B;have M:=E.code _ _ _ _ B;split at u
          · rename_i U O G;split at u
            · rename_i I;split at u
              · rename_i e V h3 y;have Q:=E.code _ _ _ _ y;refine(M.and Q).mono fun m hm=>?_;simp only[jQ,hg,if_pos hl,hm.1,G,if_pos I,hm.2];exact u
              · cases u
            · cases u
          · cases u
        · cases u
      · cases u
    · cases u
  · split at u
    · rename_i J;exact(E.call _ _ _ _ u).mono fun m hm=>by simp only[jQ,J];exact hm
    · cases u
  · cases u
def HE(y:mf R L){o:AO}{a:List AV}{h:H}{x:AV×H×List Nat}(u:j6 L o a h=Jp x):Evt fun m=>j6 (R m) o a h=Jp x:=by
  cases o with
  | call f args=>
    simp only[j6]at u;split at u
    · rename_i v E B;refine(S5 y B).mono fun m hm=>?_;simp only[j6,hm];exact u
    · cases u
  | _=>exact Evt.all fun m=>u
def D7(y:mf R L):∀{os:List aw} {a:List AV} {h:H} {x:List AV×H},j4 L os a h=Jp x->Evt fun m=>j4 (R m) os a h=Jp x
  | [],a,h,x,u=>Evt.all fun m=>u
  | o::os,a,h,x,u=>by
    unfold j4 at u;split at u
    · rename_i hw;split at u
      · rename_i v h1 rd hs;refine((HE y hs).and (D7 y u)).mono fun m hm=>?_;unfold j4;simp only[hw,hm.1];exact hm.2
      · cases u
    · rename_i hw;refine(D7 y u).mono fun m hm=>?_;unfold j4;simp only[hw];exact hm
    · cases u
def yU(B:mf R L):∀{os:List aw} {i:Nat} {a:List AV} {h:H} {y:List ku} {x:List AV×H},jL L os i a h y=Jp x->Evt fun m=>jL (R m) os i a h y=Jp x
  | [],i,a,h,y,x,u=>Evt.all fun m=>u
  | o::os,i,a,h,y,x,u=>by
    unfold jL at u;split at u
    · rename_i hw;split at u
      · rename_i v h1 rd hs;split at u
        · rename_i E;refine((HE B hs).and (yU B u)).mono fun m hm=>?_;unfold jL;simp only[hw,hm.1,if_pos E];exact hm.2
        · cases u
      · cases u
    · rename_i hw;refine(yU B u).mono fun m hm=>?_;unfold jL;simp only[hw];exact hm
    · cases u
def gR(B:mf R L):∀{c:AC} {a:List AV} {h:H} {x:Ex×List AV×H},bC L c a h=Jp x->Evt fun m=>bC (R m) c a h=Jp x
  | .skip,a,h,x,u=>Evt.all fun m=>u
  | .ret,a,h,x,u=>Evt.all fun m=>u
  | .exit id,a,h,x,u=>Evt.all fun m=>u
  | .region ops,a,h,x,u=>by
    simp only[bC]at u;split at u
    · rename_i I h1 J;exact(D7 B J).mono fun m hm=>by simp only[bC,hm];exact u
    · cases u
  | .ff ops,a,h,x,u=>by
    simp only[bC]at u;split at u
    · rename_i I h1 J;exact(yU B J).mono fun m hm=>by simp only[bC,hm];exact u
    · cases u
  | .seq c d,a,h,x,u=>by
    simp only[bC]at u;split at u
    · rename_i I h1 E;exact((gR B E).and (gR B u)).mono fun m hm=>by simp only[bC,hm.1];exact hm.2
    · rename_i G;refine(gR B u).mono fun m hm=>?_;obtain⟨e,I,h1⟩:=x;simp only[bC,hm]
      cases e with
      | normal=>exact absurd u (G _ _)
      | _=>rfl
  | .cond c y z,a,h,x,u=>by
    simp only[bC]at u;split at u
    · rename_i E;exact(gR B u).mono fun m hm=>by simp only[bC,E];exact hm
    · rename_i E;exact(gR B u).mono fun m hm=>by simp only[bC,E];exact hm
    · cases u
  | .block id y,a,h,x,u=>by
    simp only[bC]at u;split at u
    · rename_i i I h1 E;exact(gR B E).mono fun m hm=>by simp only[bC,hm];exact u
    · rename_i G;refine(gR B u).mono fun m hm=>?_;obtain⟨e,I,h1⟩:=x;simp only[bC,hm]
      cases e with
      | exit i=>exact absurd u (G _ _ _)
      | _=>rfl
  | .loop O y,a,h,x,u=>by
    simp only[bC]at u;split at u
    · rename_i I h1 E;exact((gR B E).and (B.code _ _ _ _ u)).mono fun m hm=>by simp only[bC,hm.1];exact hm.2
    · rename_i G;refine(gR B u).mono fun m hm=>?_;obtain⟨e,I,h1⟩:=x;simp only[bC,hm]
      cases e with
      | normal=>exact absurd u (G _ _)
      | _=>rfl
  | .rangeFunc f Q K body,a,h,x,u=>by
    simp only[bC]at u;split at u
    · rename_i g first M he
      split at u
      · rename_i v h1 E;split at u
        · rename_i ver r hg;refine(B.call _ _ _ _ E).mono fun m hm=>?_;simp only[bC,he,hm,hg];exact u
        · cases u
      · cases u
    · cases u
def uV(E:mf R L){y:FuncId->Option AF}{g:FuncId}{args:List AV}{h:H}{x:AV×H}(u:kV L y g args h=Jp x):Evt fun m=>kV (R m) y g args h=Jp x:=by
  unfold kV at u;split at u
  · rename_i f hf;exact Evt.all fun m=>by simp only[kV,hf];exact u
  · rename_i F G;split at u
    · rename_i I h1 B;refine(gR E B).mono fun m hm=>?_;simp only[kV,G,hm];exact u
    · rename_i I h1 B;refine(gR E B).mono fun m hm=>?_;simp only[kV,G,hm];exact u
    · cases u
  · cases u
end
def vY(u:FuncId->Option AF):∀n,mf (fun _=>run u (n+1)) (run u n)
  | 0=>⟨fun _ _ _ _ h=>by(cases h),fun _ _ _ _ h=>by(cases h)⟩
  | n+1=>⟨fun c a h x y=>Evt.all fun _=>by
      obtain⟨k,B⟩:=gR (vY u n) (show bC (run u n) c a h=Jp x from y);exact B k (Ab _),fun g args h x y=>Evt.all fun _=>by
      obtain⟨k,B⟩:=uV (vY u n) (show kV (run u n) u g args h=Jp x from y);exact B k (Ab _)⟩
def o9(u:FuncId->Option AF){n m:Nat}(h:n<=m){c:AC}{a:List AV}{w:H}{x:Ex×List AV×H}(y:(run u n).code c a w=Jp x):(run u m).code c a w=Jp x:=by
  induction h with
  | refl=>exact y
  | step _ B=>obtain⟨k,E⟩:=(vY u _).code _ _ _ _ B;exact E k (Ab _)
def pA(u:FuncId->Option AF){n m:Nat}(h:n<=m){g:FuncId}{a:List AV}{w:H}{x:AV×H}(y:(run u n).call g a w=Jp x):(run u m).call g a w=Jp x:=by
  induction h with
  | refl=>exact y
  | step _ B=>obtain⟨k,E⟩:=(vY u _).call _ _ _ _ B;exact E k (Ab _)
open Classical in
noncomputable def lim(tab:FuncId->Option AF):Rec where
  code c a h:=if hx:∃x n,(run tab n).code c a h=Jp x then Jp hx.choose else Jq
  call g args h:=if hx:∃x n,(run tab n).call g args h=Jp x then Jp hx.choose else Jq
section
variable (tab:FuncId->Option AF)
def nS{c:AC}{a:List AV}{h:H}{x:Ex×List AV×H} :(lim tab).code c a h=Jp x↔∃n,(run tab n).code c a h=Jp x:=by
  constructor
  · intro u;unfold lim at u;simp only at u;split at u
    · rename_i y;cases u;exact y.choose_spec
    · cases u
  · rintro⟨n,B⟩;unfold lim;simp only;have y:∃x n,(run tab n).code c a h=Jp x:=⟨x,n,B⟩;rw[dif_pos y];obtain⟨m,hm⟩:=y.choose_spec;have h1:=o9 tab (Ii n m) B;have h2:=o9 tab (Ij n m) hm;rw[h1]at h2;exact h2.symm
def kL{g:FuncId}{a:List AV}{h:H}{x:AV×H} :(lim tab).call g a h=Jp x↔∃n,(run tab n).call g a h=Jp x:=by
  constructor
  · intro u;unfold lim at u;simp only at u;split at u
    · rename_i y;cases u;exact y.choose_spec
    · cases u
  · rintro⟨n,B⟩;unfold lim;simp only;have y:∃x n,(run tab n).call g a h=Jp x:=⟨x,n,B⟩;rw[dif_pos y];obtain⟨m,hm⟩:=y.choose_spec;have h1:=pA tab (Ii n m) B;have h2:=pA tab (Ij n m) hm;rw[h1]at h2;exact h2.symm
def FN:mf (run tab) (lim tab) where
  code c a h x hx:=let ⟨n,hn⟩:=(nS tab).1 hx;⟨n,fun m hm=>o9 tab hm hn⟩
  call g a h x hx:=let ⟨n,hn⟩:=(kL tab).1 hx;⟨n,fun m hm=>pA tab hm hn⟩
def FM(n:Nat):mf (fun _=>lim tab) (run tab n) where
  code c a h x hx:=Evt.all fun _=>(nS tab).2 ⟨n,hx⟩
  call g a h x hx:=Evt.all fun _=>(kL tab).2 ⟨n,hx⟩
def oF(c:AC)(a:List AV)(h:H):(lim tab).code c a h=bC (lim tab) c a h:=by
  apply Option.ext;intro x;constructor
  · intro y;obtain⟨n,u⟩:=(nS tab).1 y
    cases n with
    | zero=>cases u
    | succ n=>obtain⟨k,B⟩:=gR (FM tab n) (show bC (run tab n) c a h=Jp x from u);exact B k (Ab _)
  · intro y;obtain⟨n,u⟩:=gR (FN tab) y;exact(nS tab).2 ⟨n+1,u n (Ab _)⟩
def wJ(g:FuncId)(a:List AV)(h:H):(lim tab).call g a h=kV (lim tab) tab g a h:=by
  apply Option.ext;intro x;constructor
  · intro y;obtain⟨n,u⟩:=(kL tab).1 y
    cases n with
    | zero=>cases u
    | succ n=>obtain⟨k,B⟩:=uV (FM tab n) (show kV (run tab n) tab g a h=Jp x from u);exact B k (Ab _)
  · intro y;obtain⟨n,u⟩:=uV (FN tab) y;exact(kL tab).2 ⟨n+1,u n (Ab _)⟩
end
section
variable (L:Rec)
def W(c:AC)(a:List AV)(h:H)(B E:List AV->H->Prop)(G:Nat->List AV->H->Prop):Prop:=
  ∃e u y,bC L c a h=Jp (e,u,y)/\match e with
    | .normal=>B u y
    | .ret=>E u y
    | .exit i=>G i u y
def WO(os:List aw)(a:List AV)(h:H)(Q:List AV->H->Prop):Prop:=∃u y,j4 L os a h=Jp (u,y)/\Q u y
def aIr(y:AC)(u B:List AV->H->Prop)(E:Nat->List AV->H->Prop)(a:List AV)(h:H):Prop:=W L y a h u B E
def y9(id:Nat)(u:List AV->H->Prop)(y:Nat->List AV->H->Prop)(i:Nat)(a:List AV)(h:H):Prop:=if i=id then u a h else y i a h
def WL(u:List Nat)(x:AC)(y B:List AV->H->Prop)(E:Nat->List AV->H->Prop)(a:List AV)(h:H):Prop:=W L (.loop u x) a h y B E
def eG(a:List AV)(h:H)(y B:List AV->H->Prop)(E:Nat->List AV->H->Prop):W L .skip a h y B E=y a h:=by
  apply propext;constructor
  · rintro⟨e,G,I,he,u⟩;simp only[bC]at he;cases he;exact u
  · intro u;exact⟨.normal,a,h,rfl,u⟩
def fU(a:List AV)(h:H)(B y:List AV->H->Prop)(E:Nat->List AV->H->Prop):W L .ret a h B y E=y a h:=by
  apply propext;constructor
  · rintro⟨e,G,I,he,u⟩;simp only[bC]at he;cases he;exact u
  · intro u;exact⟨.ret,a,h,rfl,u⟩
def eH(i:Nat)(a:List AV)(h:H)(B E:List AV->H->Prop)(y:Nat->List AV->H->Prop):W L (.exit i) a h B E y=y i a h:=by
  apply propext;constructor
  · rintro⟨e,G,I,he,u⟩;simp only[bC]at he;cases he;exact u
  · intro u;exact⟨.exit i,a,h,rfl,u⟩
def cJ(os:List aw)(a:List AV)(h:H)(B I:List AV->H->Prop)(J:Nat->List AV->H->Prop):W L (.region os) a h B I J=WO L os a h B:=by
  apply propext;constructor
  · rintro⟨e,E,G,he,u⟩;simp only[bC]at he;split at he
    · rename_i Q h1 K;injection he with he;injection he with M y;injection y with y O;subst M;subst y;subst O;exact⟨_,_,K,u⟩
    · cases he
  · rintro⟨E,G,he,u⟩;exact⟨.normal,E,G,by simp only[bC,he],u⟩
def eX(x y:AC)(a:List AV)(h:H)(K G:List AV->H->Prop)(I:Nat->List AV->H->Prop):W L (.seq x y) a h K G I=W L x a h (aIr L y K G I) G I:=by
  apply propext;constructor
  · rintro⟨e,B,E,he,u⟩;simp only[bC]at he;split at he
    · rename_i M h1 O;exact⟨.normal,M,h1,O,⟨e,B,E,he,u⟩⟩
    · rename_i J;refine⟨e,B,E,he,?_⟩
      cases e with
      | normal=>exact absurd he (J _ _)
      | _=>exact u
  · rintro⟨e,B,E,he,u⟩
    cases e with
    | normal=>obtain⟨e,Q,h2,h3,u⟩:=u;exact⟨e,Q,h2,by simp only[bC,he,h3],u⟩
    | ret=>exact⟨.ret,B,E,by simp only[bC,he],u⟩
    | exit i=>exact⟨.exit i,B,E,by simp only[bC,he],u⟩
def cQ(y:AC)(u B:List AV->H->Prop)(E:Nat->List AV->H->Prop)(a:List AV)(h:H):aIr L y u B E a h=W L y a h u B E:=rfl
def bM(id:Nat)(u:List AV->H->Prop)(y:Nat->List AV->H->Prop)(i:Nat)(a:List AV)(h:H):y9 id u y i a h=if i=id then u a h else y i a h:=rfl
def dT(id:Nat)(x:AC)(a:List AV)(h:H)(G J:List AV->H->Prop)(K:Nat->List AV->H->Prop):W L (.block id x) a h G J K=W L x a h G J (y9 id G K):=by
  apply propext;constructor
  · rintro⟨e,B,E,he,u⟩;simp only[bC]at he;split at he
    · rename_i i M h1 O;refine⟨.exit i,M,h1,O,?_⟩;split at he
      · rename_i y;cases he;show y9 _ _ _ _ _ _;rw[bM,if_pos y];exact u
      · rename_i y;cases he;show y9 _ _ _ _ _ _;rw[bM,if_neg y];exact u
    · rename_i I;refine⟨e,B,E,he,?_⟩
      cases e with
      | exit i=>exact absurd he (I _ _ _)
      | _=>exact u
  · rintro⟨e,B,E,he,u⟩
    cases e with
    | normal=>exact⟨.normal,B,E,by simp only[bC,he],u⟩
    | ret=>exact⟨.ret,B,E,by simp only[bC,he],u⟩
    | exit i=>
      have u:y9 _ _ _ _ _ _:=u;rw[bM]at u;by_cases y:i=id
      · rw[if_pos y]at u;exact⟨.normal,B,E,by simp only[bC,he];rw[if_pos y],u⟩
      · rw[if_neg y]at u;exact⟨.exit i,B,E,by simp only[bC,he];rw[if_neg y],u⟩
def BV(c:AR)(x y:AC)(a:List AV)(h:H)(G I:List AV->H->Prop)(J:Nat->List AV->H->Prop):
    W L (.cond c x y) a h G I J=∃b,ev a c= .bool b/\(if b=Jr then W L x a h G I J else W L y a h G I J):=by
  apply propext;constructor
  · rintro⟨e,B,E,he,u⟩;simp only[bC]at he;split at he
    · rename_i K;exact⟨Jr,K,by rw[if_pos rfl];exact⟨e,B,E,he,u⟩⟩
    · rename_i K;exact⟨Js,K,by rw[if_neg (by simp)];exact⟨e,B,E,he,u⟩⟩
    · cases he
  · rintro⟨b,hb,u⟩
    cases b with
    | true=>rw[if_pos rfl]at u;obtain⟨e,B,E,he,u⟩:=u;exact⟨e,B,E,by simp only[bC,hb];exact he,u⟩
    | false=>rw[if_neg (by simp)]at u;obtain⟨e,B,E,he,u⟩:=u;exact⟨e,B,E,by simp only[bC,hb];exact he,u⟩
def s8(v:AV)(x y:AC)(a:List AV)(h:H)(u B:List AV->H->Prop)(E:Nat->List AV->H->Prop):Prop:=∃b,v= .bool b/\(if b=Jr then W L x a h u B E else W L y a h u B E)
def eL(c:AR)(x y:AC)(a:List AV)(h:H)(u B:List AV->H->Prop)(E:Nat->List AV->H->Prop):W L (.cond c x y) a h u B E=s8 L (ev a c) x y a h u B E:=BV L c x y a h u B E
def bB(x y:AC)(a:List AV)(h:H)(u B:List AV->H->Prop)(E:Nat->List AV->H->Prop):s8 L (.bool Jr) x y a h u B E=W L x a h u B E:=by simp[s8]
def aX(x y:AC)(a:List AV)(h:H)(u B:List AV->H->Prop)(E:Nat->List AV->H->Prop):s8 L (.bool Js) x y a h u B E=W L y a h u B E:=by simp[s8]
def bX(p:Prop) [Decidable p](x y:AC)(a:List AV)(h:H)(u B:List AV->H->Prop)(E:Nat->List AV->H->Prop):s8 L (.bool (decide p)) x y a h u B E=if p then W L x a h u B E else W L y a h u B E:=by by_cases G:p<;>simp[s8,G]
def eI(a:List AV)(h:H)(Q:List AV->H->Prop):WO L [] a h Q=Q a h:=by
  apply propext;constructor
  · rintro⟨y,B,he,u⟩;cases he;exact u
  · intro u;exact⟨a,h,rfl,u⟩
def WS(o:AO)(a:List AV)(h:H)(K:AV->H->List Nat->Prop):Prop:=∃v u rd,j6 L o a h=Jp (v,u,rd)/\K v u rd
def KD(d:Option Nat)(os:List aw)(a:List AV)(Q:List AV->H->Prop)(v:AV)(h:H)(rd:List Nat):Prop:=WO L os (put a d v) h Q
def dV(d:Option Nat)(os:List aw)(a:List AV)(Q:List AV->H->Prop)(v:AV)(h:H)(rd:List Nat):KD L d os a Q v h rd=WO L os (put a d v) h Q:=rfl
def dU(d:Option Nat)(o:AO)(chk:List Nat)(os:List aw)(a:List AV)(h:H)(Q:List AV->H->Prop):
    WO L (⟨d,o,Jq,chk⟩::os) a h Q=WS L o a h (KD L d os a Q):=by
  apply propext;constructor
  · rintro⟨u,y,he,B⟩;unfold j4 at he;simp only[fH]at he;split at he
    · rename_i v h1 rd hs;exact⟨v,h1,rd,hs,u,y,he,B⟩
    · cases he
  · rintro⟨v,h1,rd,hs,u,y,he,B⟩;refine⟨u,y,?_,B⟩;unfold j4;simp only[fH,hs];exact he
def aDB(d:Option Nat)(o:AO)(t:Nat)(y:Bool)(chk:List Nat)(os:List aw)(a:List AV)(h:H)(Q:List AV->H->Prop):
    WO L (⟨d,o,Jp (t,y),chk⟩::os) a h Q=∃b,fH a (Jp (t,y))=Jp b/\(if b=Jr then WS L o a h (KD L d os a Q)else WO L os (put a d (.tuple [])) h Q):=by
  apply propext;constructor
  · rintro⟨B,E,he,u⟩;unfold j4 at he;split at he
    · rename_i hw;split at he
      · rename_i v h1 rd hs;exact⟨Jr,hw,by rw[if_pos rfl];exact⟨v,h1,rd,hs,B,E,he,u⟩⟩
      · cases he
    · rename_i hw;exact⟨Js,hw,by rw[if_neg (by simp)];exact⟨B,E,he,u⟩⟩
    · cases he
  · rintro⟨b,hb,u⟩
    cases b with
    | true=>rw[if_pos rfl]at u;obtain⟨v,h1,rd,hs,B,E,he,u⟩:=u;refine⟨B,E,?_,u⟩;unfold j4;simp only[hb,hs];exact he
    | false=>rw[if_neg (by simp)]at u;obtain⟨B,E,he,u⟩:=u;refine⟨B,E,?_,u⟩;unfold j4;simp only[hb];exact he
def iR(v:AV)(u:Bool)(d:Option Nat)(o:AO)(os:List aw)(a:List AV)(h:H)(Q:List AV->H->Prop):Prop:=
  (∃b,v= .bool b/\(if b=u then WS L o a h (KD L d os a Q)else WO L os (put a d (.tuple [])) h Q))\/(∃l,v= .tuple l/\WO L os (put a d (.tuple [])) h Q)
def eA(d:Option Nat)(o:AO)(t:Nat)(u:Bool)(chk:List Nat)(os:List aw)(a:List AV)(h:H)(Q:List AV->H->Prop):
    WO L (⟨d,o,Jp (t,u),chk⟩::os) a h Q=iR L (bu a t) u d o os a h Q:=by
  rw[aDB];apply propext;unfold iR;simp only[fH];generalize bu a t=v
  cases v with
  | bool b=>
    constructor
    · rintro⟨c,y,B⟩;cases y;refine .inl ⟨b,rfl,?_⟩;by_cases e:b=u
      · subst e;simpa using B
      · rw[if_neg e];simpa [e]using B
    · rintro(⟨c,y,B⟩ | ⟨l,hl,_⟩)
      · cases y;refine⟨_,rfl,?_⟩;by_cases e:b=u
        · subst e;simpa using B
        · rw[if_neg e]at B;simpa [e]using B
      · cases hl
  | tuple l=>
    constructor
    · rintro⟨c,y,B⟩;cases y;exact .inr ⟨l,rfl,by simpa using B⟩
    · rintro(⟨c,y,_⟩ | ⟨m,hm,B⟩)
      · cases y
      · exact⟨Js,rfl,by simpa using B⟩
  | _=>
    constructor
    · rintro⟨c,y,_⟩;cases y
    · rintro(⟨c,y,_⟩ | ⟨m,hm,_⟩)
      · cases y
      · cases hm
def bT(d:Option Nat)(o:AO)(os:List aw)(a:List AV)(h:H)(Q:List AV->H->Prop):iR L (.bool Jr) Jr d o os a h Q=WS L o a h (KD L d os a Q):=by simp[iR]
def bW(d:Option Nat)(o:AO)(os:List aw)(a:List AV)(h:H)(Q:List AV->H->Prop):iR L (.bool Js) Js d o os a h Q=WS L o a h (KD L d os a Q):=by simp[iR]
def bU(d:Option Nat)(o:AO)(os:List aw)(a:List AV)(h:H)(Q:List AV->H->Prop):iR L (.bool Jr) Js d o os a h Q=WO L os (put a d (.tuple [])) h Q:=by simp[iR]
def bV(d:Option Nat)(o:AO)(os:List aw)(a:List AV)(h:H)(Q:List AV->H->Prop):iR L (.bool Js) Jr d o os a h Q=WO L os (put a d (.tuple [])) h Q:=by simp[iR]
def aO(l:List AV)(u:Bool)(d:Option Nat)(o:AO)(os:List aw)(a:List AV)(h:H)(Q:List AV->H->Prop):iR L (.tuple l) u d o os a h Q=WO L os (put a d (.tuple [])) h Q:=by simp[iR]
def aP(p:Prop) [Decidable p](d:Option Nat)(o:AO)(os:List aw)(a:List AV)(h:H)(Q:List AV->H->Prop):iR L (.bool (decide p)) Jr d o os a h Q=if p then WS L o a h (KD L d os a Q)else WO L os (put a d (.tuple [])) h Q:=by by_cases u:p<;>simp[iR,u]
def aQ(p:Prop) [Decidable p](d:Option Nat)(o:AO)(os:List aw)(a:List AV)(h:H)(Q:List AV->H->Prop):iR L (.bool (decide p)) Js d o os a h Q=if p then WO L os (put a d (.tuple [])) h Q else WS L o a h (KD L d os a Q):=by by_cases u:p<;>simp[iR,u]
def WD(os:List aw)(i:Nat)(a:List AV)(h:H)(u:List ku)(Q:List AV->H->Prop):Prop:=∃y B,jL L os i a h u=Jp (y,B)/\Q y B
def aD6(d:Option Nat)(os:List aw)(i:Nat)(a:List AV)(h0:H)(y:Bool)(u:List ku)(chk:List Nat)(Q:List AV->H->Prop)(v:AV)(h:H)(rd:List Nat):Prop:=
  sT y (rdx h0 h rd) h0 h u chk=Jr/\WD L os (i+1) (put a d v) h (⟨i,rdx h0 h rd,h0,h⟩::u) Q
def dO(d:Option Nat)(os:List aw)(i:Nat)(a:List AV)(h0:H)(y:Bool)(u:List ku)(chk:List Nat)(Q:List AV->H->Prop)(v:AV)(h:H)(rd:List Nat):
    aD6 L d os i a h0 y u chk Q v h rd=(sT y (rdx h0 h rd) h0 h u chk=Jr/\WD L os (i+1) (put a d v) h (⟨i,rdx h0 h rd,h0,h⟩::u) Q):=rfl
def cA(os:List aw)(a:List AV)(h:H)(B I:List AV->H->Prop)(J:Nat->List AV->H->Prop):W L (.ff os) a h B I J=WD L os 0 a h [] B:=by
  apply propext;constructor
  · rintro⟨e,E,G,he,u⟩;simp only[bC]at he;split at he
    · rename_i Q h1 K;injection he with he;injection he with M y;injection y with y O;subst M;subst y;subst O;exact⟨_,_,K,u⟩
    · cases he
  · rintro⟨E,G,he,u⟩;exact⟨.normal,E,G,by simp only[bC,he],u⟩
def eV(i:Nat)(a:List AV)(h:H)(u:List ku)(Q:List AV->H->Prop):WD L [] i a h u Q=Q a h:=by
  apply propext;constructor
  · rintro⟨B,E,he,y⟩;cases he;exact y
  · intro y;exact⟨a,h,rfl,y⟩
def eB(d:Option Nat)(o:AO)(chk:List Nat)(os:List aw)(i:Nat)(a:List AV)(h:H)(u:List ku)(Q:List AV->H->Prop):
    WD L (⟨d,o,Jq,chk⟩::os) i a h u Q=WS L o a h (aD6 L d os i a h o.effect u chk Q):=by
  apply propext;constructor
  · rintro⟨y,B,he,E⟩;unfold jL at he;simp only[fH]at he;split at he
    · rename_i v h1 rd hs;split at he
      · rename_i G;exact⟨v,h1,rd,hs,G,y,B,he,E⟩
      · cases he
    · cases he
  · rintro⟨v,h1,rd,hs,G,y,B,he,E⟩;refine⟨y,B,?_,E⟩;unfold jL;simp only[fH,hs];rw[if_pos G];exact he
def cD(u:Bool)(rd:List Nat)(hb B:H)(y:List ku):sT u rd hb B y []=Jr:=by simp[sT]
def EC(E:List Nat)(x:AC)(a:List AV)(h:H)(K G:List AV->H->Prop)(I:Nat->List AV->H->Prop)(hL:∀c a h,L.code c a h=bC L c a h):
    W L (.loop E x) a h K G I=W L x (be a E) h (WL L E x K G I) G I:=by
  apply propext;constructor
  · rintro⟨e,y,B,he,u⟩;simp only[bC]at he;split at he
    · rename_i M h1 O;refine⟨.normal,M,h1,O,?_⟩;rw[hL]at he;exact⟨e,y,B,he,u⟩
    · rename_i J;refine⟨e,y,B,he,?_⟩
      cases e with
      | normal=>exact absurd he (J _ _)
      | _=>exact u
  · rintro⟨e,y,B,he,u⟩
    cases e with
    | normal=>obtain⟨e,Q,h2,h3,u⟩:=u;exact⟨e,Q,h2,by simp only[bC,he];rw[hL];exact h3,u⟩
    | ret=>exact⟨.ret,y,B,by simp only[bC,he],u⟩
    | exit i=>exact⟨.exit i,y,B,by simp only[bC,he],u⟩
def fR(u:List Nat)(x:AC)(y B:List AV->H->Prop)(E:Nat->List AV->H->Prop)(a:List AV)(h:H):WL L u x y B E a h=W L (.loop u x) a h y B E:=rfl
end
attribute [irreducible] W WO WS aIr y9 WL KD s8 iR WD aD6
def fV{α:Type}(o:Option α)(k:α->Prop):Prop:=∃x,o=Jp x/\k x
def bI{α:Type}(x:α)(k:α->Prop):fV (Jp x) k=k x:=by simp[fV,and_assoc]
def w9(v:AV)(k:Nat->Nat->Prop):Prop:=∃b o,v= .ptr b o/\k b o
def cP(b o:Nat)(k:Nat->Nat->Prop):w9 (.ptr b o) k=k b o:=by simp[w9,and_assoc]
def vC(v:AV)(k:IntKind->Int->Prop):Prop:=∃b o,v= .int b o/\k b o
def cO(b:IntKind)(o:Int)(k:IntKind->Int->Prop):vC (.int b o) k=k b o:=by simp[vC,and_assoc]
def xC(v:AV)(k:Bool->Prop):Prop:=∃b,v= .bool b/\k b
def bY(b:Bool)(k:Bool->Prop):xC (.bool b) k=k b:=by simp[xC,and_assoc]
def y8(v:AV)(k:List AV->Prop):Prop:=∃b,v= .agg b/\k b
def dN(b:List AV)(k:List AV->Prop):y8 (.agg b) k=k b:=by simp[y8,and_assoc]
def yZ(v:AV)(k:List AV->Prop):Prop:=∃b,v= .tuple b/\k b
def aW(b:List AV)(k:List AV->Prop):yZ (.tuple b) k=k b:=by simp[yZ,and_assoc]
def vB(v:AV)(u:Prop)(k:Bool->Nat->Nat->Nat->Nat->Prop):Prop:=(v= .ag/\u)\/∃fl sz b o n,v= .slice fl sz b o n/\k fl sz b o n
def bJ(u:Prop)(k:Bool->Nat->Nat->Nat->Nat->Prop):vB .ag u k=u:=by simp[vB]
def aN(fl:Bool)(sz b o n:Nat)(y:Prop)(k:Bool->Nat->Nat->Nat->Nat->Prop):vB (.slice fl sz b o n) y k=k fl sz b o n:=by
  apply propext;constructor
  · rintro(⟨e,_⟩ | ⟨_,_,_,_,_,e,u⟩)
    · cases e
    · cases e;exact u
  · intro u;exact .inr ⟨_,_,_,_,_,rfl,u⟩
def aAe(v:AV)(k:AV->Prop):Prop:=vB v (k (i64 0)) fun _ _ _ _ n=>k (i64 n)
def dD(k:AV->Prop):aAe .ag k=k (i64 0):=bJ _ _
def bK(fl:Bool)(sz b o n:Nat)(k:AV->Prop):aAe (.slice fl sz b o n) k=k (i64 n):=aN _ _ _ _ _ _ _
def FD(size:Nat)(v i:AV)(k:AV->Prop):Prop:=vB v False fun _ sz b o n=>vC i fun _ j=>(sz=size/\0<=j/\j<n)/\k (.ptr b (o+j.toNat*size))
@[congr] theorem aGK{α:Type}{o u:Option α}{k:α->Prop}(e:o=u):fV o k=fV u k:=by rw[e]
@[congr] theorem aIj{v u:AV}{k:Nat->Nat->Prop}(e:v=u):w9 v k=w9 u k:=by rw[e]
@[congr] theorem aIm{v u:AV}{k:IntKind->Int->Prop}(e:v=u):vC v k=vC u k:=by rw[e]
@[congr] theorem aGL{v u:AV}{k:Bool->Prop}(e:v=u):xC v k=xC u k:=by rw[e]
@[congr] theorem aIp{v u:AV}{k:List AV->Prop}(e:v=u):y8 v k=y8 u k:=by rw[e]
@[congr] theorem aGf{v u:AV}{k:List AV->Prop}(e:v=u):yZ v k=yZ u k:=by rw[e]
@[congr] theorem aIl{v u:AV}{k:AV->Prop}(e:v=u):aAe v k=aAe u k:=by rw[e]
@[congr] theorem aIn{size:Nat}{v u i y:AV}{k:AV->Prop}(e:v=u)(B:i=y):FD size v i k=FD size u y k:=by rw[e,B]
def C(L:Rec)(g:FuncId)(args:List AV)(h:H)(K:AV->H->Prop):Prop:=∃v u,L.call g args h=Jp (v,u)/\K v u
def EL(L:Rec)(f:AV)(args:List AV)(h:H)(K:AV->H->Prop):Prop:=∃v u,jQ L f args h=Jp (v,u)/\K v u
def bL(L:Rec)(g:FuncId)(first u args:List AV)(h:H)(K:AV->H->Prop):EL L (.func (.func g) first u) args h K=C L g (first++args++u) h K:=rfl
section
variable (L:Rec) (a:List AV) (h:H) (K:AV->H->List Nat->Prop)
def iQ{o:AO}(P:Prop)(y:∀f args,o≠ .call f args)(B:P↔∃v u rd,aop a h o=Jp (v,u,rd)/\K v u rd):WS L o a h K=P:=by
  apply propext;rw[B];have:j6 L o a h=aop a h o:=by
    cases o with
    | call f args=>exact absurd rfl (y f args)
    | _=>rfl
  unfold WS;rw[this]
def aD7(K:AV->H->List Nat->Prop)(v:AV)(h:H):Prop:=K v h []
def dE(K:AV->H->List Nat->Prop)(v:AV)(h:H):aD7 K v h=K v h []:=rfl
def dX(f:AR)(args:List AR):WS L (.call f args) a h K=EL L (ev a f) (args.map (ev a)) h (aD7 K):=by
  apply propext;unfold WS EL;simp only[j6];constructor
  · rintro⟨v,y,rd,he,u⟩;split at he
    · rename_i E h1 B;cases he;exact⟨_,_,B,u⟩
    · cases he
  · rintro⟨v,y,he,u⟩;exact⟨v,y,[],by rw[he],u⟩
def d8(x:AR):WS L (.move x) a h K=K (ev a x) h []:=by refine iQ L a h K _ (fun _ _ e=>by cases e) ?_;simp[aop,and_assoc]
def MH(b:Bool)(x y:AV):AV:=if b=Jr then x else y
def bO(x y:AV):MH Jr x y=x:=rfl
def a8(x y:AV):MH Js x y=y:=rfl
def cC(p:Prop) [Decidable p](x y:AV):MH (decide p) x y=if p then x else y:=by by_cases u:p<;>simp[MH,u]
def d7(c x y:AR):WS L (.pick c x y) a h K=xC (ev a c) fun b=>K (MH b (ev a x) (ev a y)) h []:=by
  refine iQ L a h K _ (fun _ _ e=>by cases e) ?_;simp only[aop,xC];constructor
  · rintro⟨b,hb,u⟩;rw[hb]
    cases b with
    | true=>exact⟨_,_,_,rfl,u⟩
    | false=>exact⟨_,_,_,rfl,u⟩
  · rintro⟨v,B,rd,he,u⟩;split at he
    · rename_i hb;cases he;exact⟨Jr,hb,u⟩
    · rename_i hb;cases he;exact⟨Js,hb,u⟩
    · cases he
def dM(cs:List AV):WS L (.alloc cs) a h K=K (.ptr h.next 0) (h.alloc (.cells 0 Jr cs)) []:=by refine iQ L a h K _ (fun _ _ e=>by cases e) ?_;simp[aop,and_assoc]
def eT(x:AR):WS L (.box x) a h K=((ev a x).cells.all AV.one=Jr/\K (.ptr h.next 0) (h.alloc (.cells 0 Jr (ev a x).cells)) []):=by
  refine iQ L a h K _ (fun _ _ e=>by cases e) ?_;simp only[aop];constructor
  · rintro⟨h1,h2⟩;exact⟨_,_,_,by rw[if_pos h1],h2⟩
  · rintro⟨v,y,rd,he,u⟩;split at he
    · rename_i h1;cases he;exact⟨h1,u⟩
    · cases he
def dL(z:List AV)(y:List (Nat×Nat×AR)):WS L (.build z y) a h K=fV (uA a z y) fun cs=>K (.agg cs) h []:=by
  refine iQ L a h K _ (fun _ _ e=>by cases e) ?_;simp only[aop,fV];constructor
  · rintro⟨cs,h1,h2⟩;rw[h1];exact⟨_,_,_,rfl,h2⟩
  · rintro⟨v,E,rd,he,B⟩;split at he
    · rename_i cs u;cases he;exact⟨cs,u,B⟩
    · cases he
def aM(size len:Nat)(z:List AV)(y:List (Nat×Nat×AR)):WS L (.buildSlice size len z y) a h K=fV (uA a (kY len z) y) fun cs=>K (.slice Jr size h.next 0 len) (h.alloc (.cells 0 Jr cs)) []:=by
  refine iQ L a h K _ (fun _ _ e=>by cases e) ?_;simp only[aop,fV];constructor
  · rintro⟨cs,h1,h2⟩;rw[h1];exact⟨_,_,_,rfl,h2⟩
  · rintro⟨v,E,rd,he,B⟩;split at he
    · rename_i cs u;cases he;exact⟨cs,u,B⟩
    · cases he
def d9(x:AR):WS L (.load x) a h K=w9 (ev a x) fun b o=>fV (f0 h b o) fun v=>K v h [b]:=by
  refine iQ L a h K _ (fun _ _ e=>by cases e) ?_;simp only[aop,fV,w9];constructor
  · rintro⟨b,o,h1,v,h2,h3⟩;rw[h1];simp only[h2];exact⟨_,_,_,rfl,h3⟩
  · rintro⟨v,y,rd,he,u⟩;split at he
    · rename_i b o hb;split at he
      · rename_i w hw;cases he;exact⟨b,o,hb,_,hw,u⟩
      · cases he
    · cases he
def bH(n:Nat)(x:AR):WS L (.eh n x) a h K=w9 (ev a x) fun b o=>fV (dY h b o n) fun cs=>K (.agg cs) h [b]:=by
  refine iQ L a h K _ (fun _ _ e=>by cases e) ?_;simp only[aop,fV,w9];constructor
  · rintro⟨b,o,h1,v,h2,h3⟩;rw[h1];simp only[h2];exact⟨_,_,_,rfl,h3⟩
  · rintro⟨v,y,rd,he,u⟩;split at he
    · rename_i b o hb;split at he
      · rename_i w hw;cases he;exact⟨b,o,hb,_,hw,u⟩
      · cases he
    · cases he
def dG(n:Nat)(p x:AR):WS L (.store n p x) a h K=w9 (ev a p) fun b o=>(ev a x).cells.length=n/\fV (gV h b o (ev a x).cells) fun u=>K (.tuple []) u []:=by
  refine iQ L a h K _ (fun _ _ e=>by cases e) ?_;simp only[aop,fV,w9];constructor
  · rintro⟨b,o,h1,h0,v,h2,h3⟩;rw[h1];simp only;rw[if_pos h0,h2];exact⟨_,_,_,rfl,h3⟩
  · rintro⟨v,u,rd,he,y⟩;split at he
    · rename_i b o hb;split at he
      · rename_i hl;split at he
        · rename_i w hw;cases he;exact⟨b,o,hb,hl,_,hw,y⟩
        · cases he
      · cases he
    · cases he
def aBF:AV->Bool
  | .ptr .. =>Jr
  | .func (.method _) _ _=>Js
  | .func .. =>Jr
  | .iface .. =>Jr
  | _=>Js
def bA(x:AR):WS L (.nilCheck x) a h K=(aBF (ev a x)=Jr/\K (ev a x) h []):=by
  refine iQ L a h K _ (fun _ _ e=>by cases e) ?_;simp only[aop];generalize ev a x=v
  cases v with
  | func f c d=>cases f<;>simp[aBF,and_assoc]
  | _=>simp[aBF,and_assoc]
def eU(op:BinOp)(x y:AR):WS L (.bin op x y) a h K=fV (i7 op (ev a x) (ev a y)) fun v=>K v h []:=by refine iQ L a h K _ (fun _ _ e=>by cases e) ?_;simp only[aop,fV];cases i7 op (ev a x) (ev a y)<;>simp[and_assoc]
def eQ(neg:Bool)(x y:AR):WS L (.eqB neg x y) a h K=xC (ev a x) fun p=>xC (ev a y) fun q=>K (.bool (if neg=Jr then !(p==q)else p==q)) h []:=by
  refine iQ L a h K _ (fun _ _ e=>by cases e) ?_;simp only[aop,xC];constructor
  · rintro⟨p,u,q,B,E⟩;rw[u,B];exact⟨_,_,_,rfl,E⟩
  · rintro⟨v,G,rd,he,E⟩;split at he
    · rename_i p q u B;cases he;exact⟨p,u,q,B,E⟩
    · cases he
def dI(kd:Nat)(neg:Bool)(x y:AR):WS L (.isNil kd neg x y) a h K=fV (PC kd (ev a x) (ev a y)) fun b=>K (.bool (if neg=Jr then !b else b)) h []:=by refine iQ L a h K _ (fun _ _ e=>by cases e) ?_;simp only[aop,fV];cases PC kd (ev a x) (ev a y)<;>simp[and_assoc]
def bR(neg:Bool)(T:List (Option IntKind))(x y:AR):WS L (.ec neg T x y) a h K=y8 (ev a x) fun p=>y8 (ev a y) fun q=>fV (jE T p q) fun b=>K (.bool (if neg=Jr then !b else b)) h []:=by
  refine iQ L a h K _ (fun _ _ e=>by cases e) ?_;simp only[aop,y8,fV];constructor
  · rintro⟨p,u,q,B,b,hb,E⟩;rw[u,B];simp only[hb];exact⟨_,_,_,rfl,E⟩
  · rintro⟨v,G,rd,he,E⟩;split at he
    · rename_i p q u B;split at he
      · rename_i b hb;cases he;exact⟨p,u,q,B,b,hb,E⟩
      · cases he
    · cases he
def f9(op:UnOp)(x:AR):WS L (.un op x) a h K=fV (aun op (ev a x)) fun v=>K v h []:=by refine iQ L a h K _ (fun _ _ e=>by cases e) ?_;simp only[aop,fV];cases aun op (ev a x)<;>simp[and_assoc]
def bS(k:IntKind)(x:AR):WS L (.du k x) a h K=vC (ev a x) fun _ n=>K (.int k (k.wrap n)) h []:=by refine iQ L a h K _ (fun _ _ e=>by cases e) ?_;simp only[aop,vC];generalize ev a x=v;cases v<;>simp[and_assoc]
def cF(fn:Fn)(f c:List AR):WS L (.ig fn f c) a h K=K (.func fn (f.map (ev a)) (c.map (ev a))) h []:=by refine iQ L a h K _ (fun _ _ e=>by cases e) ?_;simp[aop,and_assoc]
def bP:WS L .makeMap a h K=K (.map h.next) (h.alloc (.map 0 [])) []:=by refine iQ L a h K _ (fun _ _ e=>by cases e) ?_;simp[aop,and_assoc]
def aT(bytes:Nat)(z:List AV)(n c:AR):WS L (.makeSlice bytes z n c) a h K=vC (ev a n) fun y l=>vC (ev a c) fun kw m=>(y= .i64/\kw= .i64)/\(0<=l/\l<=m/\m*bytes<=140737488355328/\m<=j5)/\K (.slice (l==m) z.length h.next 0 l.toNat) (h.alloc (.cells 0 Jr (kY l.toNat z))) []:=by
  refine iQ L a h K _ (fun _ _ e=>by cases e) ?_;simp only[aop,vC];constructor
  · rintro⟨y,l,h1,kw,m,h2,⟨rfl,rfl⟩,h3,u⟩;rw[h1,h2];simp only;rw[if_pos h3];exact⟨_,_,_,rfl,u⟩
  · rintro⟨v,B,rd,he,u⟩;split at he
    · rename_i l m h1 h2;split at he
      · rename_i h3;cases he;exact⟨_,l,h1,_,m,h2,⟨rfl,rfl⟩,h3,u⟩
      · cases he
    · cases he
def dH(size:Nat)(x:AR)(y B E:Option AR):WS L (.slice size x y B E) a h K=fV (bnd a y) fun l=>fV (bnd a B) fun r=>fV (bnd a E) fun m=>fV (jN size (ev a x) l r m) fun v=>K v h []:=by
  refine iQ L a h K _ (fun _ _ e=>by cases e) ?_;simp only[aop,fV];constructor
  · rintro⟨l,h1,r,h2,m,h3,v,G,u⟩;rw[h1,h2,h3];simp only[G];exact⟨_,_,_,rfl,u⟩
  · rintro⟨v,I,rd,he,u⟩;split at he
    · rename_i l r m h1 h2 h3;split at he
      · rename_i w hw;cases he;exact⟨l,h1,r,h2,m,h3,_,hw,u⟩
      · cases he
    · cases he
def aR(off:Nat)(x:AR):WS L (.fieldAddr off x) a h K=w9 (ev a x) fun b o=>K (.ptr b (o+off)) h []:=by refine iQ L a h K _ (fun _ _ e=>by cases e) ?_;simp only[aop,w9];generalize ev a x=v;cases v<;>simp[and_assoc]
def dK(off:Nat)(x:AR):WS L (.field off Jq x) a h K=y8 (ev a x) fun cs=>fV cs[off]? fun v=>K v h []:=by
  refine iQ L a h K _ (fun _ _ e=>by cases e) ?_;simp only[aop,y8,fV];constructor
  · rintro⟨cs,h1,v,h2,u⟩;rw[h1];simp only[h2];exact⟨_,_,_,rfl,u⟩
  · rintro⟨v,B,rd,he,u⟩;split at he
    · rename_i cs y;split at he
      · rename_i w hw;cases he;exact⟨cs,y,_,hw,u⟩
      · cases he
    · cases he
def cG(off n:Nat)(x:AR):WS L (.field off (Jp n) x) a h K=y8 (ev a x) fun cs=>off+n<=cs.length/\K (.agg ((cs.drop off).take n)) h []:=by
  refine iQ L a h K _ (fun _ _ e=>by cases e) ?_;simp only[aop,y8];constructor
  · rintro⟨cs,h1,h2,u⟩;rw[h1];simp only;rw[if_pos h2];exact⟨_,_,_,rfl,u⟩
  · rintro⟨v,B,rd,he,u⟩;split at he
    · rename_i cs y;split at he
      · rename_i hw;cases he;exact⟨cs,y,hw,u⟩
      · cases he
    · cases he
def aU(size:Nat)(x i:AR):WS L (.indexAddr size x i) a h K=FD size (ev a x) (ev a i) fun p=>K p h []:=by
  refine iQ L a h K _ (fun _ _ e=>by cases e) ?_;simp only[aop,FD,vB,vC];constructor
  · rintro(⟨_,hf⟩ | ⟨fl,sz,b,o,n,h1,kd,k,h2,h3,u⟩)
    · exact hf.elim
    · rw[h1,h2];simp only;rw[if_pos h3];exact⟨_,_,_,rfl,u⟩
  · rintro⟨v,y,rd,he,u⟩;split at he
    · rename_i fl sz b o n kd k h1 h2;split at he
      · rename_i h3;cases he;exact .inr ⟨fl,sz,b,o,n,h1,kd,k,h2,h3,u⟩
      · cases he
    · cases he
def aL(len size:Nat)(x i:AR):WS L (.bq len size x i) a h K=w9 (ev a x) fun b o=>vC (ev a i) fun _ k=>(0<=k/\k<len)/\K (.ptr b (o+k.toNat*size)) h []:=by
  refine iQ L a h K _ (fun _ _ e=>by cases e) ?_;simp only[aop,w9,vC];constructor
  · rintro⟨b,o,h1,kd,k,h2,h3,u⟩;rw[h1,h2];simp only;rw[if_pos h3];exact⟨_,_,_,rfl,u⟩
  · rintro⟨v,y,rd,he,u⟩;split at he
    · rename_i b o kd k h1 h2;split at he
      · rename_i h3;cases he;exact⟨b,o,h1,kd,k,h2,h3,u⟩
      · cases he
    · cases he
def dJ(len size:Nat)(x i:AR):WS L (.index len size Js x i) a h K=y8 (ev a x) fun cs=>vC (ev a i) fun _ k=>(0<=k/\k<len)/\fV cs[k.toNat*size]? fun v=>K v h []:=by
  refine iQ L a h K _ (fun _ _ e=>by cases e) ?_;simp only[aop,y8,vC,fV,Aq,if_false];constructor
  · rintro⟨cs,h1,kd,k,h2,h3,v,y,u⟩;rw[h1,h2];simp only;rw[if_pos h3,y];exact⟨_,_,_,rfl,u⟩
  · rintro⟨v,B,rd,he,u⟩;split at he
    · rename_i cs kd k h1 h2;split at he
      · rename_i h3;split at he
        · rename_i w hw;cases he;exact⟨cs,h1,kd,k,h2,h3,_,hw,u⟩
        · cases he
      · cases he
    · cases he
def bQ(x:AR)(i:Nat):WS L (.extract x i) a h K=yZ (ev a x) fun B=>fV B[i]? fun v=>K v h []:=by
  refine iQ L a h K _ (fun _ _ e=>by cases e) ?_;simp only[aop,yZ,fV];constructor
  · rintro⟨cs,h1,v,h2,u⟩;rw[h1];simp only[h2];exact⟨_,_,_,rfl,u⟩
  · rintro⟨v,E,rd,he,u⟩;split at he
    · rename_i cs y;split at he
      · rename_i w hw;cases he;exact⟨cs,y,_,hw,u⟩
      · cases he
    · cases he
def eP(x:AR):WS L (.len x) a h K=aAe (ev a x) fun v=>K v h []:=by
  refine iQ L a h K _ (fun _ _ e=>by cases e) ?_;simp only[aop];generalize ev a x=v
  cases v with
  | ag=>rw[dD];simp[and_assoc]
  | slice fl sz b o n=>rw[bK];simp[and_assoc]
  | _=>simp[aAe,vB]
def aDA(o:AO)(y:∀f args,o≠ .call f args):WS L o a h K=fV (aop a h o) fun r=>K r.1 r.2.1 r.2.2:=by
  refine iQ L a h K _ y ?_;simp only[fV];constructor
  · rintro⟨⟨v,u,rd⟩,h1,h2⟩;exact⟨v,u,rd,h1,h2⟩
  · rintro⟨v,u,rd,h1,h2⟩;exact⟨⟨v,u,rd⟩,h1,h2⟩
def aJl(size bytes:Nat)(s x:AV)(h:H):Option (AV×H×List Nat):=aop [] h (.append size bytes (.const s) (.const x))
def cI(size bytes:Nat)(s x:AR):WS L (.append size bytes s x) a h K=fV (aJl size bytes (ev a s) (ev a x) h) fun r=>K r.1 r.2.1 r.2.2:=aDA L a h K _ (fun _ _ e=>by cases e)
def aBX(x:AV)(u:List AV):Option AV:=oI AD x u
def eM(x:AR)(u:List AR):WS L (.max x u) a h K=fV (aBX (ev a x) (u.map (ev a))) fun v=>K v h []:=by rw[aDA L a h K _ (fun _ _ e=>by cases e)];apply propext;simp only[fV,aop,aBX];cases oI AD (ev a x) (u.map (ev a))<;>simp
def cR(k:IntKind)(x y:Int):aBX (.int k x) [.int k y]=Jp (.int k (max x y)):=by
  simp only[aBX,oI,AD];by_cases h:y>x
  · rw[if_pos h];congr 2;omega
  · rw[if_neg h];congr 2;omega
end
def dC(k:IntKind)(x y:Int):i7 .add (.int k x) (.int k y)=Jp (.int k (k.wrap (x+y))):=by simp[i7,eY,gG]
def cT(k:IntKind)(x y:Int):i7 .sub (.int k x) (.int k y)=Jp (.int k (k.wrap (x-y))):=by simp[i7,eY,gG]
def cV(k:IntKind)(x y:Int):i7 .mul (.int k x) (.int k y)=Jp (.int k (k.wrap (x*y))):=by simp[i7,eY,gG]
def dB(k:IntKind)(x y:Int):i7 .eql (.int k x) (.int k y)=Jp (.bool (decide (x=y))):=by simp[i7,eY,gG];rfl
def cU(k:IntKind)(x y:Int):i7 .neq (.int k x) (.int k y)=Jp (.bool (decide (x≠y))):=by simp only[i7,eY,gG,Aq,if_false,if_true,ite_true];by_cases e:x=y<;>simp[e]
def cW(k:IntKind)(x y:Int):i7 .lss (.int k x) (.int k y)=Jp (.bool (decide (x<y))):=by simp[i7,eY,gG]
def cY(k:IntKind)(x y:Int):i7 .leq (.int k x) (.int k y)=Jp (.bool (decide (x<=y))):=by simp[i7,eY,gG]
def cZ(k:IntKind)(x y:Int):i7 .gtr (.int k x) (.int k y)=Jp (.bool (decide (y<x))):=by simp[i7,eY,gG]
def dA(k:IntKind)(x y:Int):i7 .geq (.int k x) (.int k y)=Jp (.bool (decide (y<=x))):=by simp[i7,eY,gG]
def dZ(b:Bool):aun .not (.bool b)=Jp (.bool (!b)):=rfl
def wrap64{x:Int}(h1: -9223372036854775808<=x)(h2:x<=9223372036854775807):IntKind.i64.wrap x=x:=by simp only[IntKind.wrap,IntKind.bits,IntKind.signed];simp;omega
def UE{x:Int}(h1:0<=x)(h2:x<=255):IntKind.u8.wrap x=x:=by simp only[IntKind.wrap,IntKind.bits,IntKind.signed];simp;omega
def T8(res:List lk)(Q:AV->H->Prop)(a:List AV)(h:H):Prop:=fV (cE a h res) fun u=>Q (dF u) h
def dW(res:List lk)(Q:AV->H->Prop)(a:List AV)(h:H):T8 res Q a h=fV (cE a h res) fun u=>Q (dF u) h:=rfl
def eJ(i:Nat)(a:List AV)(h:H):Prop:=False
def EN{B:FuncId->Option AF}{g:FuncId}{F:AFn}(hg:B g=Jp (.fn F))(args:List AV)(h:H)(Q:AV->H->Prop):
    C (lim B) g args h Q=W (lim B) F.body (fC args F.ntmps) h (T8 F.results Q) (T8 F.results Q) eJ:=by
  apply propext;unfold C W T8;rw[wJ];simp only[kV,hg];constructor
  · rintro⟨v,J,he,y⟩;split at he
    · rename_i I h1 G;split at he
      · rename_i E u;cases he;exact⟨.normal,I,_,G,E,u,y⟩
      · cases he
    · rename_i I h1 G;split at he
      · rename_i E u;cases he;exact⟨.ret,I,_,G,E,u,y⟩
      · cases he
    · cases he
  · rintro⟨e,I,h1,G,y⟩
    cases e with
    | normal=>obtain⟨E,u,y⟩:=y;exact⟨dF E,h1,by simp only[G,u],y⟩
    | ret=>obtain⟨E,u,y⟩:=y;exact⟨dF E,h1,by simp only[G,u],y⟩
    | exit i=>exact y.elim
attribute [irreducible] C EL T8 aD7
def LR(l:List Nat)(a:List AV):be (be a l) l=be a l:=by refine FL _ _ (by rw[vX]) fun i _=>?_;rw[xU l (be a l),xU l a];cases l.contains i<;>simp
def lE(u:FuncId->Option AF)(y:List Nat)(x:AC)(a:List AV)(h:H)(B E:List AV->H->Prop)(G:Nat->List AV->H->Prop):
    W (lim u) (.loop y x) a h B E G=W (lim u) (.loop y x) (be a y) h B E G:=by
  rw[EC _ _ _ _ _ _ _ _ (oF u),EC _ _ _ (be a y) _ _ _ _ (oF u),LR]
def iF(u:FuncId->Option AF)(y:List Nat)(x:AC)(a:List AV)(h:H)(G B:List AV->H->Prop)(E:Nat->List AV->H->Prop):
    W (lim u) (.loop y x) a h G B E=W (lim u) x (be a y) h (WL (lim u) y x G B E) B E:=EC _ _ _ _ _ _ _ _ (oF u)
def AV.blk:AV->Nat
  | .slice _ _ b _ _=>b
  | .ptr b _=>b
  | _=>0
def AV.off:AV->Nat
  | .slice _ _ _ o _=>o
  | .ptr _ o=>o
  | _=>0
open Go.RowKit
def HR.below{P:Program}{ρ:Emb}{h:H}{w w':World}(hr:HR P ρ h w)(hb:Below w.heap.size w w'):HR P ρ h w'/\Stp ρ h w ρ h w':=by
  refine⟨⟨hr.gat.fc fun b l _ hlt=>hb.block b hlt,hr.mv,fun x l u=>?_,fun x l o u hg=>?_,hr.inj⟩,⟨Sub.refl ρ,fun _ _ h=> .inl h,fun _ _ h=> .inl h,hb.size,hb.os,hb.tape,hb.output,fun b B _=>hb.block b B⟩⟩
  · have:=hr.fg x l u;have:=hb.size;omega
  · exact(hr.obj x l o u hg).mono (Sub.refl ρ) (hb.block _ (hr.fg x l u))
def UB(P:Program)(g:FuncId):Prop:=∃fn,P.funcs[g]? =Jp fn/\fn.body.isSome=Jr/\(fn.name== "runtime.NumGoroutine")=Js
def nU{P:Program}{g:FuncId}(hfn:UB P g)(F:List AV->H->Option AV)
    (hc:∀args h v,F args h=Jp v->∀ρ us w,VRs ρ args us->HR P ρ h w->Calls P g us.toArray w fun e w'=>∃u,e= .returned u/\VR ρ v u/\Below w.heap.size w w'):PrimOk P g (e9 F) where
  ev args h v h' hr:=by
    unfold e9 at hr;split at hr
    · cases hr;exact Ev.refl h
    · cases hr
  fn:=hfn
  call args h v h' hr ρ w us hv hh hf:=by
    unfold e9 at hr;split at hr
    · rename_i v0 h0;cases hr;refine callsIn_wide.2 ((hc args h v h0 ρ us w hv hh).mono ?_);rintro e w' ⟨u,rfl,q1,q2⟩;obtain⟨g1,g2⟩:=hh.below q2;exact⟨u,ρ,rfl,q1,g1,g2⟩
    · cases hr
def aEI{P:Program}{g:FuncId}(hfn:UB P g)(F:List AV->H->Option (List AV))
    (hc:∀args h cs,F args h=Jp cs->cs.length<=maxLen/\∀ρ us w,VRs ρ args us->HR P ρ h w->Calls P g us.toArray w fun e w'=>∃(vs:List Value) (ty:TypeId),e= .returned (.slice (Jp ⟨w.heap.size,0,Jq⟩) cs.length cs.length)/\vs.length=cs.length/\(∀ρ',VRs ρ' cs vs)/\w'=w.alloc (.cells vs.toArray ty)):PrimOk P g (qS F) where
  ev args h v h' hr:=by
    unfold qS at hr;split at hr
    · cases hr;exact Ev.alloc h _
    · cases hr
  fn:=hfn
  call args h v h' hr ρ w us hv hh hf:=by
    unfold qS at hr;split at hr
    · rename_i cs h0;cases hr;obtain⟨hml,hc⟩:=hc args h cs h0;refine callsIn_wide.2 ((hc ρ us w hv hh).mono ?_);rintro e w' ⟨vs,ty,rfl,q1,q2,rfl⟩;have hn:=hf h.next (Ab _) (by simp);have hor:OR P (upd ρ h.next ⟨w.heap.size,0,cs.length⟩) (w.alloc (.cells vs.toArray ty)) ⟨w.heap.size,0,cs.length⟩ (.cells 0 Jr cs):=by
        refine⟨vs.toArray,(0,0),ty,heap_alloc_new w _,by simpa using q1,by simpa using Nat.le_of_eq q1.symm,fun _=>rfl,fun i v hv=>?_⟩;have hi:i<vs.length:=by
          rw[q1];rcases Bi i cs.length with h1 | h1
          · exact h1
          · rw[Bu h1]at hv;cases hv
        exact⟨vs[i],by simp[hi],(q2 _).2 i v _ hv (Ad hi)⟩
      obtain⟨g1,g2⟩:=HR.alloc (o:= .cells vs.toArray ty) hh hn rfl hor;exact⟨_,_,rfl,.slice Jr 1 h.next 0 cs.length cs.length _ (Ab _) hml (fun _=>rfl) (fun _=>⟨_,dR _ _ _,rfl,by simp⟩),g1,g2⟩
    · cases hr
open Go.RowKit Go.Proofs Go.Shelf
def dig:Nat->Nat->List UInt8
  | 0,_=>[]
  | k+1,u=>if u<10 then [UInt8.ofNat (48+u)]else dig k (u / 10)++[UInt8.ofNat (48+u % 10)]
def DV:∀(k u:Nat),u<10^k->0<k->dig k u=Lib.decDigits u
  | 0,u,_,h=>absurd h (Nat.lt_irrefl 0)
  | k+1,u,h,_=>by
    rw[Lib.decDigits];unfold dig;by_cases y:u<10
    · rw[if_pos y,dif_pos y]
    · rw[if_neg y,dif_neg y];have B:0<k:=by
        rcases Du k with e | e
        · subst e;simp at h;omega
        · exact e
      rw[DV k (u / 10) (by rw[Nat.pow_succ]at h;omega) B]
def N8(n:Int):List UInt8:=if n<0 then 45::dig 20 n.natAbs else dig 20 n.toNat
def aCp{n:Int}(h0: -9223372036854775808<=n)(h1:n<=9223372036854775807):N8 n=Lib.itoa n:=by unfold N8 Lib.itoa;rw[DV 20 _ (by omega) (by decide),DV 20 _ (by omega) (by decide)]
def np:List Nat:=[1,10,100,1000,10000,100000,1000000,10000000,100000000,1000000000,10000000000,100000000000,1000000000000,10000000000000,100000000000000,1000000000000000,10000000000000000,100000000000000000,1000000000000000000,10000000000000000000]
def GI{P:Program}{w:World}{b:Nat}(u:P.globalNamed "internal/strconv.uint64pow10" =Jp b)(hb:gmem P b=Jp (.ints .u64 np))(h:GlbAt P w):Lib.TabIs P w "internal/strconv.uint64pow10" .u64 Lib.pow10Tab:=by obtain⟨cs,e,y,h1,h2⟩:=h b _ hb;have h2:cs.toList=np.map fun n:Nat=>Value.int .u64 n:=h2;unfold Lib.TabIs World.var?;rw[u,Fh,h1];show Jp cs=_;congr 1;apply Cw;rw[h2];rfl
def itoaF(args:List AV)(_:H):Option AV:=match args with
  | [.int .i64 n]=>if-9223372036854775808<=n/\n<=9223372036854775807 then Jp (.str ⟨(N8 n).toArray⟩)else Jq
  | _=>Jq
def XR{P:Program}{R:Ren}{b:Nat}(hfn:UB P (R.f 171))(L:LaysM.n171 P R)(G:P.globalNamed "internal/strconv.uint64pow10" =Jp b)(hb:gmem P b=Jp (.ints .u64 np)):PrimOk P (R.f 171) (e9 itoaF):=by
  refine nU hfn itoaF fun args h v hv ρ K w E hr=>?_;unfold itoaF at hv;split at hv
  · rename_i n;split at hv
    · rename_i B;cases hv;obtain⟨u,I,rfl,J,y⟩:=E.cons_inv;rw[y.da,J.bt];refine(Any.strconv_Itoa L n B.1 B.2 w (GI G hb hr.gat)).mono ?_;rintro e w' ⟨rfl,k,os,rfl⟩;exact⟨_,rfl,by rw[aCp B.1 B.2];exact .str _,Lib.below_grow _ w (Ab _) k os⟩
    · cases hv
  · cases hv
def atoiF(args:List AV)(_:H):Option AV:=match args with
  | [.str s]=>if s.size<=9223372036854775806 then match Lib.atoiAll s.data.toList with
    | .ok v=>Jp (.tuple [.int .i64 v,.ae])
    | _=>Jq
    else Jq
  | _=>Jq
def XS{P:Program}{R:Ren}(hfn:UB P (R.f 172))(L:LaysC.n172 P R):PrimOk P (R.f 172) (e9 atoiF):=by
  refine nU hfn atoiF fun args h v hv ρ J w B hr=>?_;unfold atoiF at hv;split at hv
  · rename_i s;split at hv
    · rename_i hs;split at hv
      · rename_i n E;cases hv;obtain⟨u,G,rfl,I,y⟩:=B.cons_inv;rw[y.da,I.di];refine(Any.strconv_Atoi_ok L s hs n E w).mono ?_;rintro e w' ⟨rfl,hw⟩;refine⟨_,rfl,VR.pair (.int _ _) .ae,?_⟩;rcases hw with rfl | ⟨t,rfl⟩
        · exact Below.refl _ _
        · exact Lib.bytesWorld_below _ _ _
      · cases hv
    · cases hv
  · cases hv
def VW(b:UInt8):List (List UInt8)->List (List UInt8)
  | []=>[[b]]
  | x::r=>(b::x)::r
def iV(c:UInt8):List UInt8->List (List UInt8)
  | []=>[[]]
  | b::l=>if b=c then []::iV c l else VW b (iV c l)
def GV(c:UInt8):∀l:List UInt8,-1<=Lib.index l [c]
  | []=>by simp[Lib.index]
  | b::l=>by
    have:=GV c l;unfold Lib.index;split
    · omega
    · split<;>omega
def W8{b c:UInt8}(h:¬b=c)(l:List UInt8):∀k,Lib.splitK [c] 0 k (b::l)=VW b (Lib.splitK [c] 0 k l)
  | 0=>rfl
  | k+1=>by
    have u:([c]:List UInt8).isPrefixOf (b::l)=Js:=by simp[List.isPrefixOf];exact fun e=>h e.symm
    have hg:=GV c l;unfold Lib.splitK;rw[show Lib.index (b::l) [c]=if Lib.index l [c]== -1 then-1 else Lib.index l [c]+1 from by rw[Lib.index,u];rfl];by_cases e:Lib.index l [c]= -1
    · simp[e,VW]
    · have y:(Lib.index l [c]== -1)=Js:=by simpa using e
      rw[y];have B:(Lib.index l [c]+1== -1)=Js:=by simp;omega
      simp only[Aq,if_false,B,VW];have E:(Lib.index l [c]+1).toNat=(Lib.index l [c]).toNat+1:=by omega
      rw[E];simp[List.take_succ_cons,Nat.add_right_comm]
def W9(c:UInt8)(l:List UInt8)(k:Nat):Lib.splitK [c] 0 (k+1) (c::l)=[]::Lib.splitK [c] 0 k l:=by
  have u:([c]:List UInt8).isPrefixOf (c::l)=Jr:=by simp[List.isPrefixOf]
  rw[Lib.splitK,show Lib.index (c::l) [c]=0 from by rw[Lib.index,u];rfl];simp
def FW(c:UInt8):∀l:List UInt8,Lib.splitK [c] 0 (Lib.count l [c]) l=iV c l
  | []=>by rw[Lib.count_one];rfl
  | b::l=>by
    have u:=FW c l;rw[Lib.count_one]at u ⊢;unfold iV;by_cases h:b=c
    · subst h;rw[if_pos rfl,List.count_cons_self,W9,u]
    · rw[if_neg h,List.count_cons_of_ne h,W8 h,u]
def splitF(args:List AV)(_:H):Option (List AV):=match args with
  | [.str s,.str ⟨⟨[c]⟩⟩]=>if s.size<4294967281 then Jp ((iV c s.data.toList).map fun l=> .str ⟨l.toArray⟩)else Jq
  | _=>Jq
def QW(s:ByteArray)(c:UInt8):Lib.splitB ⟨#[c]⟩ 0 (Lib.countB s ⟨#[c]⟩) s=(iV c s.data.toList).map fun l=>⟨l.toArray⟩:=by
  have h:=Lib.splitB_data ⟨#[c]⟩ 0 (Lib.countB s ⟨#[c]⟩) s;have h2:Lib.splitK [c] 0 (Lib.countB s ⟨#[c]⟩) s.data.toList=iV c s.data.toList:=FW c _;rw[show(⟨#[c]⟩:ByteArray).data.toList=[c]from rfl,h2]at h;rw[<-h,Cs];have:((fun l:List UInt8=>(⟨l.toArray⟩:ByteArray))∘fun x:ByteArray=>x.data.toList)=id:=by funext x;cases x;simp
  rw[this,List.map_id]
def K9{P:Program}{R:Ren}(L:Lays.n146 P R)(s:ByteArray)(c:UInt8)(w:World){r:Value}{w2:World}
    (c1:Calls P (R.f 221) #[.string s,.string ⟨#[c]⟩,.int .i64 (0:Nat),.int .i64 (-1)] w fun e w'=>e= .returned r/\w'=w2):
    Calls P (R.f 146) #[.string s,.string ⟨#[c]⟩] w fun e w'=>e= .returned r/\w'=w2:=by
  have t3:=L.t3;have t9:=L.t9;have t31:=L.t31;have a3:=L.a3;have a9:=L.a9;have a31:=L.a31;have z3:=L.z3;have v3:=L.v3;have z9:=L.z9;have v9:=L.v9;have z31:=L.z31;have v31:=L.v31;have e221:∀args w,(callFunc (R.f 221) args).run P w= .ok (.enter (R.f 221) args) w:=enters_of L.f221 (by kernel_rfl) rfl
  go_enter L.f146,Body.n146_ntmps R
  go_wp2_with (go_at_fn (R.f 221);refine c1.mono ?_;rintro e w' ⟨rfl,hw⟩;rw[hw])
  go_ret
  exact⟨rfl,rfl⟩
def RE{P:Program}{R:Ren}(hfn:UB P (R.f 146))(L:Lays.n146 P R)(G:(P.info? (R.t 9)).map (fun i=>(i.zero,i.size,i.bytes))=Jp (Jp (.string ByteArray.empty),1,16)):PrimOk P (R.f 146) (qS splitF):=by
  refine aEI hfn splitF fun args h cs hv=>?_;unfold splitF at hv;split at hv
  · rename_i s c;split at hv
    · rename_i hs;cases hv;have hsp:=QW s c;have hlen:=Lib.splitB_all ⟨#[c]⟩ (Ab 1) 0 _ s rfl;have Q:=Lib.countB_le ⟨#[c]⟩ (Ab 1) s.size s (Ab _);have y:(iV c s.data.toList).length=Lib.countB s ⟨#[c]⟩+1:=by rw[<-hlen,hsp,Ag]
      refine⟨by rw[Ag,y];unfold maxLen;omega,fun ρ V w I hr=>?_⟩;obtain⟨u,S,rfl,T,E⟩:=I.cons_inv;obtain⟨Y,M,rfl,J,B⟩:=E.cons_inv;rw[B.da,T.di,J.di];have K:=Any.strings_genSplit_core {L with} G s ⟨#[c]⟩ 0 (-1) (Lib.countB s ⟨#[c]⟩+1) w hs (Ab 1) (Au _)
        (fun x U Z=>by have:=Any.strings_Index_one {L with} x c (w.alloc (.cells U (R.t 9)));rw[<-Lib.index_one]at this;exact this)
        (by have:=Any.strings_Count_one {L with} s c w;rw[show Lib.countByte s.data.toList c=Lib.countB s ⟨#[c]⟩from(Lib.count_one c _).symm]at this;exact this) (by decide) (by decide) (by rw[if_pos (by decide)];omega)
      rw[Nat.add_sub_cancel,hlen]at K;rw[show Lib.cellsOf (Lib.splitB ⟨#[c]⟩ 0 (Lib.countB s ⟨#[c]⟩) s) (Lib.countB s ⟨#[c]⟩+1)=((Lib.splitB ⟨#[c]⟩ 0 (Lib.countB s ⟨#[c]⟩) s).map Value.string).toArray from by rw[<-hlen];exact Lib.cellsOf_full _]at K;refine(K9 L s c w K).mono ?_;rintro e w' ⟨rfl,rfl⟩;refine⟨(Lib.splitB ⟨#[c]⟩ 0 (Lib.countB s ⟨#[c]⟩) s).map Value.string,R.t 9,?_,?_,fun ρ'=>?_,rfl⟩
      · rw[Ag,y]
      · rw[Ag,Ag,hlen,y]
      · rw[hsp,Cs];exact⟨by simp,fun i v u h1 h2=>by
          rw[Ap]at h1 h2
          cases O:(iV c s.data.toList)[i]? with
          | none=>rw[O]at h1;cases h1
          | some q=>rw[O]at h1 h2;cases h1;cases h2;exact .str _⟩
    · cases hv
  · cases hv
def iU:List AV->Option (List ByteArray)
  | []=>Jp []
  | .str s::r=>match iU r with
    | some l=>Jp (s::l)
    | none=>Jq
  | _=>Jq
def FQ{ρ:Emb} :∀{cs:List AV} {y:List Value} {B:List ByteArray},VRs ρ cs y->iU cs=Jp B->y=B.map Value.string
  | [],y,B,h,e=>by cases e;rw[h.da];rfl
  | .str s::r,y,B,h,e=>by
    obtain⟨u,E,rfl,h1,h2⟩:=h.cons_inv;unfold iU at e;split at e
    · rename_i l hl;cases e;rw[h1.di,FQ h2 hl];rfl
    · cases e
  | .aa::r,y,B,h,e=>by simp[iU]at e
  | .bool _::r,y,B,h,e=>by simp[iU]at e
  | .int _ _::r,y,B,h,e=>by simp[iU]at e
  | .aq::r,y,B,h,e=>by simp[iU]at e
  | .ptr _ _::r,y,B,h,e=>by simp[iU]at e
  | .ag::r,y,B,h,e=>by simp[iU]at e
  | .slice .. ::r,y,B,h,e=>by simp[iU]at e
  | .bc::r,y,B,h,e=>by simp[iU]at e
  | .map _::r,y,B,h,e=>by simp[iU]at e
  | .func .. ::r,y,B,h,e=>by simp[iU]at e
  | .al::r,y,B,h,e=>by simp[iU]at e
  | .iface .. ::r,y,B,h,e=>by simp[iU]at e
  | .ae::r,y,B,h,e=>by simp[iU]at e
  | .agg _::r,y,B,h,e=>by simp[iU]at e
  | .tuple _::r,y,B,h,e=>by simp[iU]at e
def joinF(args:List AV)(h:H):Option AV:=match args with
  | [.ag,.str _]=>Jp (.str ⟨#[]⟩)
  | [.slice _ sz b o n,.str u]=>if n=0 then Jp (.str ⟨#[]⟩)else if sz=1 then match dY h b o n with
    | some cs=>match iU cs with
      | some y=>if n<=140737488355328/\(Lib.join (y.map (·.data.toList)) u.data.toList).length<=140737488355328 then Jp (.str ⟨(Lib.join (y.map (·.data.toList)) u.data.toList).toArray⟩)else Jq
      | none=>Jq
    | none=>Jq
    else Jq
  | _=>Jq
def XQ{P:Program}{R:Ren}(hfn:UB P (R.f 156))(L:Lays.n156 P R)(X:Proofs.Builder.Extra P R):PrimOk P (R.f 156) (e9 joinF):=by
  refine nU hfn joinF fun args h v hv ρ us w I hr=>?_;unfold joinF at hv;split at hv
  · rename_i E;cases hv;obtain⟨u,Q,rfl,S,B⟩:=I.cons_inv;obtain⟨Z,J,rfl,G,y⟩:=B.cons_inv;rw[y.da,G.di,show u= .slice Jq 0 0 from by cases S;rfl];refine(Any.strings_Join_none L X Jq 0 E w).mono ?_;rintro e w' ⟨rfl,rfl⟩;exact⟨_,rfl,.str _,Below.refl _ _⟩
  · rename_i fl sz b o n E;obtain⟨u,Q,rfl,S,B⟩:=I.cons_inv;obtain⟨Z,J,rfl,G,y⟩:=B.cons_inv;rw[y.da,G.di];obtain⟨ad,K,rfl,g1,g2,g3,g4⟩:=S.ct;split at hv
    · rename_i h0;subst h0;cases hv;refine(Any.strings_Join_none L X (Jp ad) K E w).mono ?_;rintro e w' ⟨rfl,rfl⟩;exact⟨_,rfl,.str _,Below.refl _ _⟩
    · rename_i h0;split at hv
      · split at hv
        · rename_i cs T;split at hv
          · rename_i V U;split at hv
            · rename_i hc;cases hv;obtain⟨l,hl,rfl,Y⟩:=g4 (by omega);obtain⟨ver,rw,all,hg,hn,e⟩:=gN T;obtain⟨vs,k1,k2,k3⟩:=(hr.obj b l _ hl hg).cells hn e;have M:=FQ k1 U;have hlen:V.length=n:=by rw[<-k2,M,Ag]
              have O:=Any.strings_Join L X l.blk (l.base+o) K V E w (fun j x hx=>by have:=k3 j (.string x) (by rw[M,Ap,hx];rfl);exact this) (hr.fg b l hl) (by omega) (by omega) hc.2;rw[hlen]at O;refine O.mono ?_;rintro e w' ⟨rfl,hb⟩;exact⟨_,rfl,.str _,hb⟩
            · cases hv
          · cases hv
        · cases hv
      · cases hv
  · cases hv
def ON{P:Program}{w:World}{b:Nat}(hb:gmem P b=Jp .err)(h:GlbAt P w):∃u y,w.cell? ⟨b,0,Jq⟩=Jp (.iface u y):=by
  obtain⟨cs,e,B,h1,u,y,h2⟩:=h b _ hb;refine⟨u,y,?_⟩;have h3:cs[0]? =Jp (.iface u y):=by rw[<-Cj,h2];rfl
  simp only[World.cell?,h1,Hy,Aq,if_false];exact h3
def toErrF(u y:TypeId)(args:List AV)(_:H):Option AV:=match args with
  | [.str _,.str s,.int .i64 _,.int .i64 _,.iface t (.int .i64 k)]=>if s.size<=281474976710656/\t=u/\(k=1\/k=2)then Jp (.iface y .aa)else Jq
  | _=>Jq
def RC{P:Program}{R:Ren}(hfn:UB P (R.f 245))(L:LaysC.n245 P R)(J:gmem P (R.g 15)=Jp .err)(K:gmem P (R.g 16)=Jp .err):PrimOk P (R.f 245) (e9 (toErrF (R.t 167) (R.t 168))):=by
  refine nU hfn _ fun args h v hv ρ us w M hr=>?_;unfold toErrF at hv;split at hv
  · rename_i fn s base bits t k;split at hv
    · rename_i hc;obtain⟨Z,rfl,c3⟩:=hc;cases hv;obtain⟨u1,a0,rfl,O,y⟩:=M.cons_inv;obtain⟨u2,a1,rfl,Q,B⟩:=y.cons_inv;obtain⟨u3,a2,rfl,S,E⟩:=B.cons_inv;obtain⟨u4,a3,rfl,T,G⟩:=E.cons_inv;obtain⟨u5,a4,rfl,U,I⟩:=G.cons_inv;obtain⟨x,rfl,hx⟩:∃x,u5= .iface (R.t 167) x/\VR ρ (.int .i64 k) x:=by cases U;exact⟨_,rfl,by assumption⟩
      rw[I.da,O.di,Q.di,S.bt,T.bt,hx.bt];rcases c3 with rfl | rfl
      · obtain⟨V,Y,u⟩:=ON K hr.gat;refine(Any.strconv_toError_range L fn s base bits _ w Z u (.inr ⟨V,Y,rfl⟩)).mono ?_;rintro e w' ⟨N,rfl,_,_,hb⟩;exact⟨_,rfl,.iface _ _ _ (.aa _),hb⟩
      · obtain⟨V,Y,u⟩:=ON J hr.gat;refine(Any.strconv_toError_syntax L fn s base bits _ w Z u (.inr ⟨V,Y,rfl⟩)).mono ?_;rintro e w' ⟨N,rfl,_,_,hb⟩;exact⟨_,rfl,.iface _ _ _ (.aa _),hb⟩
    · cases hv
  · cases hv
end Go.Am

