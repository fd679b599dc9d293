/- A region whose order the machine draws: whatever the order, it comes to what the text's order comes to, and what goes with it. -/
import Derived.Test.YtapbgleednkimaaGreatDoorAmTrace
import Derived.ProofKit
import Derived.OpenShut
import Derived.Below
import Derived.Carry
import Derived.ChangeArms
import Derived.WideKeyArgs
import Derived.Shelf.Strconv.Itoa3
import Derived.Shelf.Strconv.AtoiAll
import Derived.Shelf.Strings.Split
import Derived.Shelf.Strings.OnBuilder
import Derived.Lib.AppendIntMem
set_option linter.all false
open Nat renaming le_refl->Ac,le_trans->Ah,lt_or_ge->Az,lt_of_lt_of_le->Bg,strongRecOn->Fj,lt_trichotomy->Gf,zero_add->Aw,lt_succ_self->Gd,succ_mul->Dn,zero_mul->Dw,zero_le->Af,eq_zero_or_pos->Ej,mul_comm->Co,div_add_mod->Hs,le_max_left->Ht,le_max_right->Hu
open List renaming getElem?_eq_getElem->Ad,all_eq_true->Ch,getElem?_eq_none->Bi,mem_cons_of_mem->Dh,range->Av,getElem?_map->Ap,mem_zipIdx_iff_getElem?->Hp,mem_range->Ek,mem_of_getElem?->Ae,getElem_of_mem->Dt,drop_length->Gg,drop_drop->Ei,take_append_drop->Cm,mem_map->Em,length_map->Al,flatten_cons->Dx,map_map->Dj
open Array renaming getElem?_eq_getElem->El,getD_eq_getD_getElem?->Fi,getElem?_toList->Bu,ext'->Ci,replicate->Ez
open Bool renaming or_eq_true->Dz,false_eq_true->Bs,and_eq_true->Aq,true->Jb,false->Jc
open Option renaming map_eq_some_iff->Bt,isSome_none->Hk,bind_some->Ew,some->Iz,none->Ja
namespace Go.Am
section
variable {P:Program} {rec:Rec} {m:Nat}
def UW{a:List AV}{h y:H}{B:AO}{v:AV}{rd:List Nat}(he:B.effect=Jc)(u:aop a h B=Iz (v,y,rd)):y=h\/∃E,y=h.alloc E:=by cases B<;>simp[AO.effect]at he<;>simp only[aop]at u;all_goals grind
def mS{a:List AV}{h B:H}{y:AO}{v:AV}{rd:List Nat}(he:y.effect=Jc)(u:gJ rec y a h=Iz (v,B,rd)):aop a h y=Iz (v,B,rd):=by cases y<;>first | (simp[AO.effect]at he;done) | (simpa only[gJ]using u)
def CW{a:List AV}{h B:H}{y:AO}{v:AV}{rd:List Nat}(he:y.effect=Jc)(u:aop a h y=Iz (v,B,rd)){x:Nat}(E:x∈rdx h B rd):y.reads=Jb:=by
  cases y<;>simp[AO.effect]at he<;>first | rfl | skip
  all_goals (simp only[aop]at u)
  all_goals (repeat' split at u)
  all_goals (first | (cases u;simp[rdx]at E;done) | (exact absurd u (by simp)))
def dW(u:List aw)(i:Nat):Bool:=match u[i]? with | some x=>x.op.effect | none=>Jc
def kd(u:List aw)(D:Nat->Bool):Nat->Nat
  | 0=>0
  | k+1=>if D k&&dW u k then k+1 else kd u D k
def bi(u:Nat->H)(y:Nat):Nat->Nat
  | 0=>0
  | k+1=>if y<(u (bi u y k)).next then bi u y k else k+1
def QP(u:List aw)(D:Nat->Bool):∀k,kd u D k<=k
  | 0=>Ac _
  | k+1=>by unfold kd;split;exact Ac _;exact Ah (QP u D k) (Nat.le_succ _)
def lY(u:List aw)(D:Nat->Bool):∀k j,kd u D k<=j->j<k->(D j&&dW u j)=Jc
  | 0,j,_,h=>by omega
  | k+1,j,h1,h2=>by
    unfold kd at h1;split at h1
    · omega
    · rename_i y;rcases Az j k with h | h
      · exact lY u D k j h1 h
      grind
def tV(u:List aw)(D:Nat->Bool):∀k,kd u D k=0\/∃j,kd u D k=j+1/\j<k/\D j=Jb/\dW u j=Jb
  | 0=> .inl rfl
  | k+1=>by
    unfold kd;split
    · grind
    · rcases tV u D k with h | ⟨j,h1,h2,h3,y⟩
      · exact .inl h
      grind
def tU{u:List aw}{D:Nat->Bool}{n c:Nat}(B:c<=n)(h1:c=0\/∃j,c=j+1/\D j=Jb/\dW u j=Jb)(h2:∀j,c<=j->j<n->(D j&&dW u j)=Jc):kd u D n=c:=by
  rcases Az (kd u D n) c with h | h
  · rcases h1 with rfl | ⟨j,rfl,hd,he⟩
    · omega
    · have:=lY u D n j (by omega) (by omega);simp[hd,he]at this
  · rcases Az c (kd u D n)with y | y
    · rcases tV u D n with h0 | ⟨j,E,G,I,J⟩
      · omega
      grind
    · omega
def aAm(u:Nat->H)(y:Nat):∀k,bi u y k<=k
  | 0=>Ac _
  | k+1=>by unfold bi;split;exact Ah (aAm u y k) (Nat.le_succ _);exact Ac _
def RH(u:Nat->H)(y:Nat):∀k,bi u y k=k\/y<(u (bi u y k)).next
  | 0=> .inl rfl
  | k+1=>by
    unfold bi
    grind
def aAl{u:Nat->H}{y N:Nat}(mono:∀i j,i<=j->j<=N->(u i).next<=(u j).next):∀k j,k<=N->j<bi u y k->(u j).next<=y
  | 0,j,_,h=>by simp[bi]at h
  | k+1,j,B,h=>by
    unfold bi at h;split at h
    · exact aAl mono k j (by omega) h
    · rename_i E;rcases RH u y k with e | e
      · grind
      grind
def AJ{u:Nat->H}{y k:Nat}(h:y<(u k).next):y<(u (bi u y k)).next:=by
  rcases RH u y k with e | e
  · grind
  · exact e
def mH{u:Nat->H}{y N:Nat}(mono:∀i j,i<=j->j<=N->(u i).next<=(u j).next){k j:Nat}(E:k<=N)(h:y<(u j).next):bi u y k<=j:=by
  rcases Az j (bi u y k)with B | B
  · have:=aAl mono k j E B;omega
  · exact B
def vv(u:List aw)(a:List AV)(V:Nat->AV)(D:Nat->Bool)(t:Nat):Nat->AV
  | 0=>fp a t
  | k+1=>if D k&&(match u[k]? with | some x=>x.dst==Iz t | none=>Jc)then V k else vv u a V D t k
def qY{u:List aw}{a:List AV}{V:Nat->AV}{D y:Nat->Bool}{t:Nat} :∀k,(∀j x,j<k->u[j]? =Iz x->x.dst=Iz t->D j=y j)->vv u a V D t k=vv u a V y t k
  | 0,_=>rfl
  | k+1,h=>by
    unfold vv;rw[qY k (fun j x B=>h j x (by omega))]
    grind
def wF{u:List aw}{a:List AV}{V:Nat->AV}{D:Nat->Bool}{t i:Nat} :∀k,i<=k->(∀j x,i<=j->j<k->u[j]? =Iz x->x.dst=Iz t->D j=Jc)->vv u a V D t k=vv u a V D t i
  | 0, h, _ => by have : i = 0 := by omega
                  subst this;rfl
  | k+1,h,hd=>by
    rcases Az k i with y | y
    · grind
    · rw[<-wF k y (fun j x h1 h2=>hd j x h1 (by omega))]
      conv=>lhs;unfold vv
      grind
def SN(a:List AV)(t d:Nat)(v:AV)(ht:t<a.length):fp (iu a d v) t=if d=t then v else fp a t:=by
  rw[hU,wJ,hU,List.getElem?_set]
  grind
def xK{u:List aw}{a B:List AV}{h E:H}{A:Nat->List AV}{G:Nat->H}{V:Nat->AV}{RD:Nat->List Nat}{W:Nat->Bool}(T:Trace rec u a h B E A G V RD W){t:Nat}(ht:t<a.length):
    ∀k,k<=u.length->fp (A k) t=vv u a V (fun _=>Jb) t k/\(A k).length=a.length
  | 0,_=>by rw[T.a0];exact⟨rfl,rfl⟩
  | k+1,J=>by
    obtain⟨h1,h2⟩:=xK T ht k (by omega);have y:u[k]? =Iz (u[k]'(by omega)):=Ad (by omega);have I:=T.put k _ y;rw[I];refine⟨?_,by rw[zC];exact h2⟩;unfold vv;rw[y]
    cases hd:(u[k]'(by omega)).dst with
    | none=>simp[put,h1,hd]
    | some d=>
      simp only[put];rw[SN _ _ _ _ (by omega)]
      grind
section
variable {xs:List aw} {a a':List AV} {h h':H} {A:Nat->List AV} {Hh:Nat->H} {V:Nat->AV} {RD:Nat->List Nat} {W:Nat->Bool}
def sX(y:eu P rec m)(T:Trace rec xs a h a' h' A Hh V RD W){i:Nat}(B:i<xs.length):Ev (Hh i) (Hh (i+1)):=by
  have u:xs[i]? =Iz xs[i]:=Ad B
  cases hw:W i with
  | true=>exact wK y (T.run i _ u hw)
  | false=>rw[(T.skip i _ u hw).2];exact Ev.refl _
def kD(u:eu P rec m)(T:Trace rec xs a h a' h' A Hh V RD W):∀{i:Nat} (d:Nat),i+d<=xs.length->Ev (Hh i) (Hh (i+d))
  | i,0,_=>Ev.refl _
  | i,d+1,hd=>(kD u T d (by omega)).trans (sX u T (by omega))
def gQ(E:eu P rec m)(T:Trace rec xs a h a' h' A Hh V RD W){y:Nat} :∀{p:Nat} (d:Nat),p+d<=xs.length->y<(Hh p).next->
    (∀j,p<=j->j<p+d->dW xs j=Jb->W j=Jb->fX (Hh j) (Hh (j+1)) y=Jb)->(Hh (p+d)).get y=(Hh p).get y
  | p,0,_,_,_=>rfl
  | p,d+1,hd,I,hs=>by
    rw[<-gQ E T d (by omega) I (fun j h1 h2=>hs j h1 (by omega))];have J:p+d<xs.length:=by omega
    have G:xs[p+d]? =Iz xs[p+d]:=Ad J;have hlt:y<(Hh (p+d)).next:=Bg I (kD E T d (by omega)).next;show(Hh (p+d+1)).get y=_
    cases hw:W (p+d)with
    | false=>rw[(T.skip _ _ G hw).2]
    | true=>
      have u:=T.run _ _ G hw
      cases he:dW xs (p+d)with
      | true=>exact(sX E T J).same (hs _ (by omega) (by omega) he hw) hlt
      | false=>
        have B:(xs[p+d]).op.effect=Jc:=by unfold dW at he;rw[G]at he;exact he
        rcases UW B (mS B u)with e | ⟨K,e⟩
        · rw[e]
        · rw[e,H.au,if_neg (by omega)]
structure cq (P:Program) (ops:Array Oper) (xs:List aw) (an:List (List Nat)):Prop where
  len:xs.length=ops.size
  tr:∀(i:Nat) (o:Oper) (x:aw),ops[i]? =Iz o->xs[i]? =Iz x->xL P o=Iz x.op/\x.dst=o.dst/\(match o.guard with | none=>x.guard=Ja | some (j,want)=>∃d,(ops[j]?).bind (·.dst)=Iz d/\x.guard=Iz (d,want))
  oa:∀(i:Nat) (o:Oper),ops[i]? =Iz o->∀j∈bB o,j<i
  anc:∀(j:Nat) (o:Oper),ops[j]? =Iz o->∀i∈an.getD j [],∃e∈bB o,i=e\/i∈an.getD e []
  effs:∀(i j:Nat) (x y:aw),xs[i]? =Iz x->xs[j]? =Iz y->i≠j->x.op.effect=Jb->y.op.effect=Jb->dL an i j=Jb
  tmps:∀(i j:Nat) (x y:aw) (t:Nat),xs[i]? =Iz x->xs[j]? =Iz y->i≠j->x.dst=Iz t->t∈y.names->dL an i j=Jb
  chks:∀(i j:Nat) (x y:aw),xs[i]? =Iz x->xs[j]? =Iz y->j<i->dL an j i=Jc->oH y x=Jb->j∈x.chk
def cq.nw{ops:Array Oper}{xs:List aw}{an:List (List Nat)}(S:cq P ops xs an):∀j i,j<ops.size->i∈an.getD j []->i<j:=by
  intro j
  induction j using Fj with
  | _ j G=>
    intro i B E;have u:ops[j]? =Iz ops[j]:=El B;obtain⟨e,he,h⟩:=S.anc j _ u i E;have hlt:=S.oa j _ u e he
    grind
def iU(ops:Array Oper)(D:Nat->Bool):Prop:=∀(j:Nat) (o:Oper),ops[j]? =Iz o->D j=Jb->∀e∈bB o,D e=Jb
def cq.jh{ops:Array Oper}{xs:List aw}{an:List (List Nat)}(S:cq P ops xs an){D:Nat->Bool}(J:iU ops D):∀j,j<ops.size->(∀o,ops[j]? =Iz o->∀e∈bB o,D e=Jb)->∀i∈an.getD j [],D i=Jb:=by
  intro j
  induction j using Fj with
  | _ j K=>
    intro L B i M;have E:ops[j]? =Iz ops[j]:=El L;obtain⟨e,he,h⟩:=S.anc j _ E i M;have hlt:=S.oa j _ E e he;have u:=B _ E e he;rcases h with rfl | h
    · exact u
    · exact K e hlt (by omega) (fun o G O I=>J e o G u O I) i h
def cq.side{ops:Array Oper}{xs:List aw}{an:List (List Nat)}(S:cq P ops xs an){D:Nat->Bool}(B:iU ops D){i:Nat}(I:i<ops.size)(hd:D i=Jc)(E:∀o,ops[i]? =Iz o->∀e∈bB o,D e=Jb)
    {j:Nat} (J:j<ops.size) (K:j≠i) (u:dL an j i=Jb):D j=decide (j<i):=by
  unfold dL at u;simp only[Dz,List.contains_iff_mem]at u;rcases u with h | h
  · rw[S.jh B i I E j h];have:=S.nw i j I h;simp[this]
  · have hlt:=S.nw j i J h
    cases G:D j with
    | false=>symm;simp;omega
    | true=>
      have:=S.jh B j J (fun o u e he=>B j o u G e he) i h
      grind
structure DS (P:Program) (xs:List aw) (a:List AV) (ρ0:Emb) (h:H) (w0:World) (Hh:Nat->H) (V:Nat->AV) (D:Nat->Bool) (ρ:Emb) (w:World) (act:Act):Prop where
  size:act.tmps.size=a.length
  tmps:∀t,t<a.length->VR ρ (vv xs a V D t xs.length) (act.tmps.getD t undef)
  sub:Sub ρ0 ρ
  fb:∀y l,ρ y=Iz l->l.blk<w.heap.size
  dom:∀y l,ρ y=Iz l->ρ0 y=Iz l\/∃i,i<xs.length/\D i=Jb/\(Hh i).next<=y/\y<(Hh (i+1)).next
  obj:∀(y:Nat) (l:Loc) (o:bz),ρ y=Iz l->(Hh (max (kd xs D xs.length) (bi Hh y xs.length))).get y=Iz o->OR P ρ w l o
  inj:∀(x y:Nat) (lx ly:Loc) (ox oy:bz),ρ x=Iz lx->ρ y=Iz ly->(Hh (max (kd xs D xs.length) (bi Hh x xs.length))).get x=Iz ox->(Hh (max (kd xs D xs.length) (bi Hh y xs.length))).get y=Iz oy->
    ox.bw=Jb->oy.cg=Jb->x≠y->lx.blk≠ly.blk
  own:∀x l,ρ x=Iz l->ρ0 x=Iz l\/w0.heap.size<=l.blk\/(∃y ly oy,ρ0 y=Iz ly/\h.get y=Iz oy/\oy.bw=Jb/\l.blk=ly.blk)
  kx:w0.heap.size<=w.heap.size
  os:w.os=w0.os
  tape:w.tape=w0.tape
  output:w.output=w0.output
  frame:∀b,b<w0.heap.size->(∀x l o,ρ0 x=Iz l->h.get x=Iz o->o.bw=Jb->l.blk≠b)->w.heap[b]? =w0.heap[b]?
  glb:GlbAt P w0/\O3 P ρ0 h
def DS.gat{xs:List aw}{a:List AV}{ρ0:Emb}{h:H}{w0:World}{Hh:Nat->H}{V:Nat->AV}{D:Nat->Bool}{ρ:Emb}{w:World}{act:Act}(ds:DS P xs a ρ0 h w0 Hh V D ρ w act):GlbAt P w:=
  ds.glb.1.il fun b l hb hlt=>ds.frame b hlt fun x lx o h1 h2 h3=>ds.glb.2 b l hb x lx o h1 h2 h3
def DS.ma{xs:List aw}{a:List AV}{ρ0:Emb}{h h1:H}{w0:World}{Hh:Nat->H}{V:Nat->AV}{D:Nat->Bool}{ρ:Emb}{w:World}{act:Act}(ds:DS P xs a ρ0 h w0 Hh V D ρ w act)(ev:Ev h h1)(u:cz ρ0 h h1):O3 P ρ h1:=fun b l hb y ly oy G hg B=>by
  rcases ds.own y ly G with E | E | ⟨q,I,J,k1,k2,K,L⟩
  · by_cases hlt:y<h.next
    · obtain⟨M,O,Q⟩:=ev.jo hg hlt B;exact ds.glb.2 b l hb y ly M E O Q
    · have:=u y (by omega) (H.be hg)
      grind
  · have:=ds.glb.1.lt hb;omega
  · rw[L];exact ds.glb.2 b l hb q I J k1 k2 K
def E2(u:List (List Nat))(i j:Nat):dL u i j=dL u j i:=by unfold dL;exact Bool.or_comm _ _
def JD{xs:List aw}{D u:Nat->Bool} :∀k,(∀j,j<k->dW xs j=Jb->D j=u j)->kd xs D k=kd xs u k
  | 0,_=>rfl
  | k+1,h=>by
    unfold kd;rw[JD k (fun j y=>h j (by omega))]
    grind
section
variable {ops:Array Oper} {xs:List aw} {an:List (List Nat)} {a a':List AV} {h h':H} {A:Nat->List AV} {Hh:Nat->H} {V:Nat->AV} {RD:Nat->List Nat} {W:Nat->Bool}
variable {ρ0:Emb} {w0:World} {D:Nat->Bool} {i:Nat} {o:Oper} {x:aw}
def kC(u:eu P rec m)(T:Trace rec xs a h a' h' A Hh V RD W):∀i j,i<=j->j<=xs.length->(Hh i).next<=(Hh j).next:=fun i j h1 h2=>by
  have:=(kD u T (i:=i) (j-i) (by omega)).next
  grind
def LC(S:cq P ops xs an)(T:Trace rec xs a h a' h' A Hh V RD W)(Q:iU ops D)(R:ops[i]? =Iz o)(O:xs[i]? =Iz x)(hd:D i=Jc)(J:∀e∈bB o,D e=Jb){t:Nat}(ht:t∈x.names)(hl:t<a.length):
    vv xs a V D t xs.length=fp (A i) t:=by
  have U:i<xs.length:=(List.getElem?_eq_some_iff.1 O).1;have K:i<ops.size:=by rw[<-S.len];exact U
  have B:∀L,ops[i]? =Iz L->∀e∈bB L,D e=Jb:=fun L E=>by rw[R]at E;cases E;exact J
  have side:∀j y,xs[j]? =Iz y->y.dst=Iz t->j≠i->D j=decide (j<i):=fun j y G u I=>by have M:j<xs.length:=(List.getElem?_eq_some_iff.1 G).1;exact S.side Q K hd B (by rw[<-S.len];exact M) I (S.tmps j i y x t G O I u ht)
  rw[(xK T hl i (by omega)).1];rw[wF (i:=i) xs.length (by omega) (fun j y h1 h2 G u=>by
    grind)]
  exact qY i (fun j y M G u=>by rw[side j y G u (by omega)];simp[M])
def wG(S:cq P ops xs an)(hc:iU ops D)(ho:ops[i]? =Iz o)(Y:xs[i]? =Iz x)(hd:D i=Jc)(M:∀e∈bB o,D e=Jb){ρ:Emb}{B:Act}{u:Value}(hl:∀t,t<a.length->VR ρ (vv xs a V D t xs.length) (B.tmps.getD t undef))
    (O:B.tmps.size=a.length) (hv:VR ρ (V i) u):∀t,t<a.length->VR ρ (vv xs a V (fun j=>j==i||D j) t xs.length) ((B.put x.dst u).tmps.getD t undef):=by
  have hi:i<xs.length:=(List.getElem?_eq_some_iff.1 Y).1;have G:i<ops.size:=by rw[<-S.len];exact hi
  have I:∀Q,ops[i]? =Iz Q->∀e∈bB Q,D e=Jb:=fun Q J=>by rw[ho]at J;cases J;exact M
  intro t ht;by_cases e:x.dst=Iz t
  · have E:vv xs a V (fun j=>j==i||D j) t xs.length=V i:=by
      rw[wF (i:=i+1) xs.length (by omega) (fun j y h1 h2 Z K=>by
        have L:j≠i:=by omega
        have:=S.side hc G hd I (by rw[<-S.len];exact h2) L (S.tmps j i y x t Z Y L K (by unfold aw.names;simp[e]));simp only[this];simp;omega)]
      unfold vv
      grind
    rw[E,e];have:(B.put (Iz t) u).tmps.getD t undef=u:=by simp[Act.put,Fi,O,ht]
    grind
  · have E:vv xs a V (fun j=>j==i||D j) t xs.length=vv xs a V D t xs.length:=qY _ (fun j y hj Z K=>by
      by_cases R:j=i
      · grind
      · simp[R])
    rw[E];have:(B.put x.dst u).tmps.getD t undef=B.tmps.getD t undef:=by
      cases T:x.dst with
      | none=>rfl
      | some d=>have U:d≠t:=fun R=>e (by rw[T,R]);simp[Act.put,Fi,Array.getElem?_setIfInBounds,U]
    grind
def aAd(S:cq P ops xs an)(T:Trace rec xs a h a' h' A Hh V RD W)(Y:iU ops D)(Z:ops[i]? =Iz o)(J:xs[i]? =Iz x)(hd:D i=Jc)(K:∀e∈bB o,D e=Jb)(L:x.op.effect=Jc)(hw:W i=Jb)
    {y:Nat} (R:y∈rdx (Hh i) (Hh (i+1)) (RD i)) {j:Nat} (U:j<i) (u:dW xs j=Jb) (M:W j=Jb) (a0:D j=Jc):fX (Hh j) (Hh (j+1)) y=Jb:=by
  have hi:i<xs.length:=(List.getElem?_eq_some_iff.1 J).1;have B:xs[j]? =Iz (xs[j]'(by omega)):=Ad (by omega);have O:dL an j i=Jc:=by
    cases Q:dL an j i with
    | false=>rfl
    | true=>
      have:=S.side Y (by rw[<-S.len];exact hi) hd (fun o' E=>by rw[Z]at E;cases E;exact K) (by rw[<-S.len];omega) (by omega) Q
      grind
  have G:(xs[j]'(by omega)).op.effect=Jb:=by unfold dW at u;rw[B]at u;exact u
  have hr:=CW L (mS L (T.run i x J hw)) R;have I:=S.chks i j x _ J B U O (by unfold oH;simp[G,hr]);have:=T.chk i j x J U I hw M;rw[L]at this;simp only[Bs,if_false,Ch]at this;exact this y R
def aAc(S:cq P ops xs an)(T:Trace rec xs a h a' h' A Hh V RD W)(Z:iU ops D)(ho:ops[i]? =Iz o)(K:xs[i]? =Iz x)(hd:D i=Jc)(L:∀e∈bB o,D e=Jb)(R:x.op.effect=Jc)(hw:W i=Jb)
    {y:Nat} (U:y∈rdx (Hh i) (Hh (i+1)) (RD i)) {j:Nat} (Y:i<j) (B:j<xs.length) (E:dW xs j=Jb) (M:W j=Jb) (a0:D j=Jb):fX (Hh j) (Hh (j+1)) y=Jb:=by
  have hi:i<xs.length:=(List.getElem?_eq_some_iff.1 K).1;have G:xs[j]? =Iz (xs[j]'B):=Ad B;have O:dL an i j=Jc:=by
    rw[E2]
    cases Q:dL an j i with
    | false=>rfl
    | true=>
      have:=S.side Z (by rw[<-S.len];exact hi) hd (fun o' I=>by rw[ho]at I;cases I;exact L) (by rw[<-S.len];omega) (by omega) Q
      grind
  have u:(xs[j]'B).op.effect=Jb:=by unfold dW at E;rw[G]at E;exact E
  have hr:=CW R (mS R (T.run i x K hw)) U;have J:=S.chks j i _ x G K Y O (by unfold oH;simp[u,hr]);have:=T.chk j i _ G Y J M hw;rw[u]at this;simp only[if_true,Ch]at this;exact this y U
def J6(S:cq P ops xs an)(M:iU ops D){j k:Nat}(O:j<k)(K:k<xs.length)(u:dW xs j=Jb)(y:dW xs k=Jb)(L:D k=Jb):D j=Jb:=by
  have E:xs[j]? =Iz (xs[j]'(by omega)):=Ad (by omega);have G:xs[k]? =Iz (xs[k]'K):=Ad K;have I:(xs[j]'(by omega)).op.effect=Jb:=by unfold dW at u;rw[E]at u;exact u
  have J:(xs[k]'K).op.effect=Jb:=by unfold dW at y;rw[G]at y;exact y
  have B:=S.effs j k _ _ E G (by omega) I J;unfold dL at B;simp only[Dz,List.contains_iff_mem]at B;rcases B with h | h
  · exact S.jh M k (by rw[<-S.len];exact K) (fun o Q e he=>M k o Q L e he) j h
  · have:=S.nw j k (by rw[<-S.len];omega) h;omega
def NM(K:eu P rec m)(S:cq P ops xs an)(T:Trace rec xs a h a' h' A Hh V RD W)(L:iU ops D)(Y:ops[i]? =Iz o)(J:xs[i]? =Iz x)(hd:D i=Jc)(G:∀e∈bB o,D e=Jb)(M:x.op.effect=Jc)(hw:W i=Jb)
    {y:Nat} (Z:y∈rdx (Hh i) (Hh (i+1)) (RD i)) (hlt:y<(Hh i).next):(Hh (max (kd xs D xs.length) (bi Hh y xs.length))).get y=(Hh i).get y:=by
  have hi:i<xs.length:=(List.getElem?_eq_some_iff.1 J).1;have mono:=kC K T;have hb:bi Hh y xs.length<=i:=mH mono (Ac _) hlt;have O:y<(Hh xs.length).next:=Bg hlt (mono i _ (by omega) (Ac _));have Q:y<(Hh (bi Hh y xs.length)).next:=AJ O;have a0:=QP xs D xs.length;rcases Az i (kd xs D xs.length)with a1 | a2
  · have I:max (kd xs D xs.length) (bi Hh y xs.length)=kd xs D xs.length:=by omega
    rw[I];have:=gQ K T (y:=y) (p:=i) (kd xs D xs.length-i) (by omega) hlt (fun j h1 h2 u B=>by
      rcases tV xs D xs.length with h0 | ⟨j0,e0,l0,d0,R⟩
      · omega
      · have a3:j≠i:=fun e=>by subst e;unfold dW at u;rw[J]at u;simp only at u;rw[M]at u;cases u
        have E:D j=Jb:=by
          by_cases e:j=j0
          · grind
          · exact J6 S L (by omega) l0 u R d0
        exact aAc S T L Y J hd G M hw Z (by omega) (by omega) u B E)
    rw[show i+(kd xs D xs.length-i)=kd xs D xs.length from by omega]at this;exact this
  · have hp:max (kd xs D xs.length) (bi Hh y xs.length)<=i:=by omega
    have U:y<(Hh (max (kd xs D xs.length) (bi Hh y xs.length))).next:=Bg Q (mono _ _ (by omega) (by omega));have:=gQ K T (y:=y) (p:=max (kd xs D xs.length) (bi Hh y xs.length)) (i-max (kd xs D xs.length) (bi Hh y xs.length)) (by omega) U (fun j h1 h2 u B=>by
      have E:D j=Jc:=by have:=lY xs D xs.length j (by omega) (by omega);simp_all
      exact aAd S T L Y J hd G M hw Z (by omega) u B E)
    rw[show max (kd xs D xs.length) (bi Hh y xs.length)+(i-max (kd xs D xs.length) (bi Hh y xs.length))=i from by omega]at this;simp_all
def lP(T:Trace rec xs a h a' h' A Hh V RD W):∀k,k<=xs.length->(A k).length=a.length
  | 0,_=>by rw[T.a0]
  | k+1,u=>by rw[T.put k _ (Ad (show k<xs.length by omega)),zC];exact lP T k (by omega)
def NN(u:iU ops D)(I:ops[i]? =Iz o)(y:∀e∈bB o,D e=Jb):iU ops (fun j=>j==i||D j):=by
  intro j B E hd e he;by_cases G:j=i
  · grind
  · have:D j=Jb:=by simpa [G]using hd
    simp[u j B E this e he]
def JC(u:xs[i]? =Iz x)(y:x.op.effect=Jc):kd xs (fun j=>j==i||D j) xs.length=kd xs D xs.length:=by
  refine JD _ fun j B he=>?_;by_cases e:j=i
  · subst e;unfold dW at he;rw[u]at he;simp only at he;rw[y]at he;cases he
  · simp[e]
def IU{t:Nat}(h:t∈x.op.dh):t∈x.names:=by unfold aw.names;simp[h]
def DS.quiet(ok:eu P rec m)(S:cq P ops xs an)(T:Trace rec xs a h a' h' A Hh V RD W)(Y:iU ops D)(Z:ops[i]? =Iz o)(J:xs[i]? =Iz x)(hd:D i=Jc)(E:∀e∈bB o,D e=Jb)(hq:x.op.effect=Jc)(hw:W i=Jb)
    (b6:cz ρ0 h h') {ρ:Emb} {w:World} {act:Act} (ds:DS P xs a ρ0 h w0 Hh V D ρ w act) (hs:(Hh xs.length)=h') (h0:Hh 0=h)
    {ro:Option Nat} {next:Act->World->Prop} {Q:Exit->Act->World->Prop}
    (hk:∀u ρ' w',DS P xs a ρ0 h w0 Hh V (fun j=>j==i||D j) ρ' w' (act.put x.dst u)->next (act.put x.dst u) w'):o.wpIn (fO ro) 0 P act w next Q:=by
  have hi:i<xs.length:=(List.getElem?_eq_some_iff.1 J).1;obtain⟨q1,q2,q3⟩:=S.tr i o x Z J;have a1:=mS hq (T.run i x J hw);have mono:=kC ok T;have L:=JC (D:=D) J hq;have a2:Ops ρ (A i) act x.op.dh:=fun t ht=>by
    by_cases hl:t<a.length
    · rw[<-LC S T Y Z J hd E (IU ht) hl];exact ds.tmps t hl
    · have c6:=lP T i (by omega);rw[hU,Bi (by omega)];exact .ae _
  have a3:K7 P ρ (Hh i) w (RD i):=fun y B l ob hl hg=>by
    have hlt:=H.be hg;have O:y∈rdx (Hh i) (Hh (i+1)) (RD i):=by unfold rdx;split;exact Dh _ B;exact B
    exact ds.obj y l ob hl (by rw[NM ok S T Y Z J hd E hq hw O hlt];exact hg)
  refine O6 q1 ?_;obtain⟨u,⟨e1,e2,hv⟩ | ⟨ob,cb,lc,e1,hb,e2,hv⟩⟩:=aDQ q1 hq a1 a2 a3
  · rw[e2];show next (act.put o.dst u) w
    rw[<-q2];refine hk u ρ w ⟨?_,?_,ds.sub,ds.fb,?_,?_,?_,ds.own,ds.kx,ds.os,ds.tape,ds.output,ds.frame,ds.glb⟩
    · cases x.dst<;>simpa [Act.put]using ds.size
    · exact wG S Y Z J hd E ds.tmps ds.size hv
    · intro y l B;rcases ds.dom y l B with h1 | ⟨k,h1,h2,h3⟩
      · exact .inl h1
      · exact .inr ⟨k,h1,by simp[h2],h3⟩
    · rw[L];exact ds.obj
    · rw[L];exact ds.inj
  · have b5:(Hh (i+1)).next=(Hh i).next+1:=by rw[e1];rfl
    have hn:ρ (Hh i).next=Ja:=by
      cases B:ρ (Hh i).next with
      | none=>rfl
      | some l=>
        rcases ds.dom _ l B with h1 | ⟨k,h1,h2,h3,h4⟩
        · have m0:=mono 0 i (by omega) (by omega);have m1:=mono (i+1) xs.length (by omega) (Ac _);rw[h0]at m0;rw[hs]at m1;rw[b6 (Hh i).next m0 (by omega)]at h1;cases h1
        · rcases Gf k i with h5 | h5 | h5
          · have:=mono (k+1) i (by omega) (by omega);omega
          · subst h5;rw[hd]at h2;cases h2
          · have:=mono (i+1) k (by omega) (by omega);omega
    obtain⟨b7,b8⟩:=hv hn;have G:=gM (l:=lc) hn;have O:(Hh i).next∈rdx (Hh i) (Hh (i+1)) (RD i):=by unfold rdx;rw[if_pos (by omega)];simp
    --the new a4,a0 it is looked at
    have R:∀K,K=kd xs D xs.length->(Hh (max K (bi Hh (Hh i).next xs.length))).get (Hh i).next=Iz ob:=by
      intro K hK;have I:(Hh i).next<(Hh (i+1)).next:=by omega
      have c7:bi Hh (Hh i).next xs.length<=i+1:=mH mono (Ac _) I;have c0:(Hh i).next<(Hh xs.length).next:=Bg I (mono _ _ (by omega) (Ac _));have c8:=AJ c0;have c1:bi Hh (Hh i).next xs.length=i+1:=by
        grind
      have M:(Hh (i+1)).get (Hh i).next=Iz ob:=by rw[e1];exact H.aj _ _
      rw[c1,hK];have c9:=QP xs D xs.length;rcases Az (i+1) (kd xs D xs.length)with d4 | d5
      · rw[show max (kd xs D xs.length) (i+1)=kd xs D xs.length from by omega];have:=gQ ok T (y:=(Hh i).next) (p:=i+1) (kd xs D xs.length-(i+1)) (by omega) I (fun j h1 h2 a5 c2=>by
          rcases tV xs D xs.length with h9 | ⟨j0,e0,l0,d0,c3⟩
          · omega
          · have c4:D j=Jb:=by
              by_cases e:j=j0
              · rw[e];exact d0
              · exact J6 S Y (by omega) l0 a5 c3 d0
            exact aAc S T Y Z J hd E hq hw O (by omega) (by omega) a5 c2 c4)
        rw[show i+1+(kd xs D xs.length-(i+1))=kd xs D xs.length from by omega]at this;rw[this];exact M
      · rw[show max (kd xs D xs.length) (i+1)=i+1 from by omega];exact M
    have a6:∀b,b<w.heap.size->(w.alloc cb).heap[b]? =w.heap[b]? :=fun b hb=>RowKit.Below.heap_alloc w cb b hb;rw[e2];show next (act.put o.dst u) (w.alloc cb)
    rw[<-q2];refine hk u (upd ρ (Hh i).next lc) (w.alloc cb) ⟨?_,?_,ds.sub.trans G,?_,?_,?_,?_,?_,?_,ds.os,ds.tape,ds.output,?_,ds.glb⟩
    · cases x.dst<;>simpa [Act.put]using ds.size
    · exact wG S Y Z J hd E (fun t ht=>(ds.tmps t ht).mono G) ds.size b7
    · intro y l B;by_cases e:y=(Hh i).next
      · subst e;rw[bA]at B;cases B;simp;omega
      · rw[bO e]at B;have:=ds.fb y l B;simp;omega
    · intro y l B;by_cases e:y=(Hh i).next
      · exact .inr ⟨i,hi,by simp,by omega,by omega⟩
      · rw[bO e]at B;rcases ds.dom y l B with h1 | ⟨k,h1,h2,h3⟩
        · exact .inl h1
        · exact .inr ⟨k,h1,by simp[h2],h3⟩
    · rw[L];intro y l U B hg;by_cases e:y=(Hh i).next
      · subst e;rw[bA]at B;cases B;rw[R _ rfl]at hg;cases hg;exact b8
      · rw[bO e]at B;have h1:=ds.obj y l U B hg
        cases a7:U.cg with
        | true=>exact h1.mono G (a6 _ (h1.lt a7))
        | false=>cases U<;>first | trivial | (simp[bz.cg]at a7)
    · rw[L];intro y z ly lz oy oz B hz a9 b0 b1 b2 b3;by_cases ey:y=(Hh i).next
      · subst ey;rw[bA]at B;cases B;rw[bO (Ne.symm b3)]at hz;have:=(ds.obj z lz oz hz b0).lt b2;omega
      · rw[bO ey]at B;by_cases ez:z=(Hh i).next
        · subst ez;rw[bA]at hz;cases hz;have:=(ds.obj y ly oy B a9).lt (bz.eh b1);omega
        · rw[bO ez]at hz;exact ds.inj y z ly lz oy oz B hz a9 b0 b1 b2 b3
    · intro y l B;by_cases e:y=(Hh i).next
      · subst e;rw[bA]at B;cases B;exact .inr (.inl (by rw[hb];exact ds.kx))
      · rw[bO e]at B;exact ds.own y l B
    · have:=ds.kx;simp;omega
    · intro b b4 c5;rw[a6 b (Bg b4 ds.kx)];exact ds.frame b b4 c5
def DS.loud(ok:eu P rec m)(S:cq P ops xs an)(T:Trace rec xs a h a' h' A Hh V RD W)(hc:iU ops D)(ho:ops[i]? =Iz o)(hx:xs[i]? =Iz x)(hd:D i=Jc)(hed:∀e∈bB o,D e=Jb)(hq:x.op.effect=Jb)(hw:W i=Jb)
    (hfr:cz ρ0 h h') {ρ:Emb} {w:World} {act:Act} (ds:DS P xs a ρ0 h w0 Hh V D ρ w act) (hs:(Hh xs.length)=h') (h0:Hh 0=h)
    {ro:Option Nat} {next:Act->World->Prop} {Q:Exit->Act->World->Prop}
    (hk:∀u ρ' w',DS P xs a ρ0 h w0 Hh V (fun j=>j==i||D j) ρ' w' (act.put x.dst u)->next (act.put x.dst u) w'):o.wpIn (fO ro) 0 P act w next Q:=by
  have hi:i<xs.length:=(List.getElem?_eq_some_iff.1 hx).1;have hsz:i<ops.size:=by rw[<-S.len];exact hi
  have hed':∀o',ops[i]? =Iz o'->∀e∈bB o',D e=Jb:=fun o' ho'=>by rw[ho]at ho';cases ho';exact hed
  obtain⟨q1,q2,q3⟩:=S.tr i o x ho hx;have hrun:=T.run i x hx hw;have mono:=kC ok T;have heffi:dW xs i=Jb:=by unfold dW;rw[hx];exact hq
  have hev:=sX ok T hi
  --where the others that change objects stand
  have hside:∀j,j<xs.length->j≠i->dW xs j=Jb->D j=decide (j<i):=by
    intro j hj hne hej;have hjx:xs[j]? =Iz (xs[j]'hj):=Ad hj;have hej':(xs[j]'hj).op.effect=Jb:=by unfold dW at hej;rw[hjx]at hej;exact hej
    exact S.side hc hsz hd hed' (by rw[<-S.len];exact hj) hne (S.effs j i _ _ hjx hx hne hej' hq)
  have hkle:kd xs D xs.length<=i:=by
    rcases tV xs D xs.length with h9 | ⟨j0,e0,l0,d0,ef0⟩
    · omega
    · have hne:j0≠i:=fun e=>by subst e;rw[hd]at d0;cases d0
      have:=hside j0 l0 hne ef0;rw[d0]at this;simp at this;omega
  have hkd':kd xs (fun j=>j==i||D j) xs.length=i+1:=by
    refine tU (by omega) (.inr ⟨i,rfl,by simp,heffi⟩) fun j h1 h2=>?_
    cases hej:dW xs j with
    | false=>simp
    | true=>
      have hne:j≠i:=by omega
      have:=hside j h2 hne hej;have h9:decide (j<i)=Jc:=by simp;omega
      rw[h9]at this;simp[this,hne]
  --what is there lies as it lay in the text's order
  have hcont:∀y,y<(Hh i).next->(Hh (max (kd xs D xs.length) (bi Hh y xs.length))).get y=(Hh i).get y:=by
    intro y hlt;have hb:bi Hh y xs.length<=i:=mH mono (Ac _) hlt;have hln:y<(Hh xs.length).next:=Bg hlt (mono i _ (by omega) (Ac _));have hbh:y<(Hh (bi Hh y xs.length)).next:=AJ hln;have hyp:y<(Hh (max (kd xs D xs.length) (bi Hh y xs.length))).next:=Bg hbh (mono _ _ (by omega) (by omega));have:=gQ ok T (y:=y) (p:=max (kd xs D xs.length) (bi Hh y xs.length)) (i-max (kd xs D xs.length) (bi Hh y xs.length)) (by omega) hyp (fun j h1 h2 hej hwj=>by
      have h3:=lY xs D xs.length j (by omega) (by omega);have h4:=hside j (by omega) (by omega) hej;rw[hej,h4]at h3;simp at h3;omega)
    rw[show max (kd xs D xs.length) (bi Hh y xs.length)+(i-max (kd xs D xs.length) (bi Hh y xs.length))=i from by omega]at this;exact this.symm
  have hhr:HR P ρ (Hh i) w:=by
    have hev0:Ev h (Hh i):=by have:=kD ok T (i:=0) i (by omega);rw[h0,Aw]at this;exact this
    have hfr0:cz ρ0 h (Hh i):=fun y p q=>by have m1:=mono i xs.length (by omega) (Ac _);rw[hs]at m1;exact hfr y p (by omega)
    refine⟨ds.gat,ds.ma hev0 hfr0,ds.fb,fun y l ob hy hg=>ds.obj y l ob hy (by rw[hcont y (H.be hg)];exact hg),fun y z ly lz oy oz hy hz hgy hgz=>?_⟩;exact ds.inj y z ly lz oy oz hy hz (by rw[hcont y (H.be hgy)];exact hgy) (by rw[hcont z (H.be hgz)];exact hgz)
  have hfresh:cz ρ (Hh i) (Hh (i+1)):=by
    intro y h1 h2
    cases hy:ρ y with
    | none=>rfl
    | some l=>
      rcases ds.dom _ l hy with h3 | ⟨k,h3,h4,h5,h6⟩
      · have m0:=mono 0 i (by omega) (by omega);have m1:=mono (i+1) xs.length (by omega) (Ac _);rw[h0]at m0;rw[hs]at m1;rw[hfr y (by omega) (by omega)]at h3;cases h3
      · rcases Gf k i with h7 | h7 | h7
        · have:=mono (k+1) i (by omega) (by omega);omega
        · subst h7;rw[hd]at h4;cases h4
        · have:=mono (i+1) k (by omega) (by omega);omega
  have hops:Ops ρ (A i) act x.op.dh:=fun t ht=>by
    by_cases hl:t<a.length
    · rw[<-LC S T hc ho hx hd hed (IU ht) hl];exact ds.tmps t hl
    · have hla:=lP T i (by omega);rw[hU,Bi (by omega)];exact .ae _
  refine HM ok q1 hrun hops hhr hfresh ?_;intro u ρ' w' hv hr' st;rw[<-q2]
  --an object that a later operation of the text has made already
  have hlate:∀y,¬y<(Hh (i+1)).next->(Hh (max (i+1) (bi Hh y xs.length))).get y=(Hh (max (kd xs D xs.length) (bi Hh y xs.length))).get y:=by
    intro y hy;have hbg:i+1<=bi Hh y xs.length:=by
      rcases RH Hh y xs.length with e | e
      · omega
      · rcases Az (bi Hh y xs.length) (i+1)with h5 | h5
        · have:=mono (bi Hh y xs.length) (i+1) (by omega) (by omega);omega
        · exact h5
    rw[show max (i+1) (bi Hh y xs.length)=bi Hh y xs.length from by omega,show max (kd xs D xs.length) (bi Hh y xs.length)=bi Hh y xs.length from by omega]
  have hearly:∀y,y<(Hh (i+1)).next->(Hh (max (i+1) (bi Hh y xs.length))).get y=(Hh (i+1)).get y:=by intro y hy;have:=mH mono (Ac xs.length) hy;rw[show max (i+1) (bi Hh y xs.length)=i+1 from by omega]
  have hbase:∀y l,ρ' y=Iz l->¬y<(Hh (i+1)).next->ρ y=Iz l:=by
    intro y l hy hn;rcases st.dom y l hy with h1 | ⟨_,h1⟩
    · exact h1
    · exact absurd h1 hn
  --whose block is it,seen from before
  have howner:∀y l oy,ρ' y=Iz l->(Hh (i+1)).get y=Iz oy->oy.cg=Jb->(∃oy',ρ y=Iz l/\(Hh i).get y=Iz oy'/\oy'.cg=Jb/\(oy.bw=Jb->oy'.bw=Jb))\/w.heap.size<=l.blk\/(∃z lz oz,ρ z=Iz lz/\(Hh i).get z=Iz oz/\oz.bw=Jb/\l.blk=lz.blk):=by
    intro y l oy hy hg hlv;rcases st.own y l hy with h1 | h1 | h1
    · by_cases hlt:y<(Hh i).next
      · obtain⟨o1,g1,g2⟩:=hev.nr hg hlt hlv;refine .inl ⟨o1,h1,g1,g2,fun hrw=>?_⟩;obtain⟨o2,g3,g4⟩:=hev.jo hg hlt hrw;rw[g1]at g3;cases g3;exact g4
      · have:=hfresh y (by omega) (H.be hg);rw[h1]at this;cases this
    · exact .inr (.inl h1)
    · exact .inr (.inr h1)
  have hlateblk:∀y ly oy,ρ y=Iz ly->¬y<(Hh (i+1)).next->(Hh (max (kd xs D xs.length) (bi Hh y xs.length))).get y=Iz oy->oy.cg=Jb->
      ∀z lz oz,ρ' z=Iz lz->(Hh (i+1)).get z=Iz oz->oz.cg=Jb->(oz.bw=Jb\/oy.bw=Jb)->ly.blk≠lz.blk:=by
    intro y ly oy hy hny hgy hly z lz oz hz hgz hlz hor;have hylt:=(ds.obj y ly oy hy hgy).lt hly;rcases howner z lz oz hz hgz hlz with⟨oz',g1,g2,g3,g4⟩ | g1 | ⟨q,lq,oq,g1,g2,g3,g4⟩
    · have hzlt:=H.be g2;have hne:y≠z:=by have:=hev.next;omega
      have gz':(Hh (max (kd xs D xs.length) (bi Hh z xs.length))).get z=Iz oz':=by rw[hcont z hzlt];exact g2
      rcases hor with h1 | h1
      · exact fun e=>ds.inj z y lz ly oz' oy g1 hy gz' hgy (g4 h1) hly (Ne.symm hne) e.symm
      · exact ds.inj y z ly lz oy oz' hy g1 hgy gz' h1 g3 hne
    · omega
    · have hqlt:=H.be g2;have hne:y≠q:=by have:=hev.next;omega
      have gq':(Hh (max (kd xs D xs.length) (bi Hh q xs.length))).get q=Iz oq:=by rw[hcont q hqlt];exact g2
      rw[g4];exact fun e=>ds.inj q y lq ly oq oy g1 hy gq' hgy g3 hly (Ne.symm hne) e.symm
  refine hk u ρ' w' ⟨?_,?_,ds.sub.trans st.sub,hr'.fb,?_,?_,?_,?_,Ah ds.kx st.size,st.os.trans ds.os,st.tape.trans ds.tape,st.output.trans ds.output,?_,ds.glb⟩
  · cases x.dst<;>simpa [Act.put]using ds.size
  · exact wG S hc ho hx hd hed (fun t ht=>(ds.tmps t ht).mono st.sub) ds.size hv
  · intro y l hy;rcases st.dom y l hy with h1 | ⟨h1,h2⟩
    · rcases ds.dom y l h1 with h3 | ⟨k,h3,h4,h5⟩
      · exact .inl h3
      · exact .inr ⟨k,h3,by simp[h4],h5⟩
    · exact .inr ⟨i,hi,by simp,h1,h2⟩
  · rw[hkd'];intro y l ob hy hg;by_cases hlt:y<(Hh (i+1)).next
    · rw[hearly y hlt]at hg;exact hr'.obj y l ob hy hg
    · rw[hlate y hlt]at hg;have hyo:=hbase y l hy hlt;have h1:=ds.obj y l ob hyo hg
      cases hlv:ob.cg with
      | false=>cases ob<;>first | trivial | (simp[bz.cg]at hlv)
      | true=>
        refine h1.mono st.sub (st.frame _ (h1.lt hlv) fun z lz oz hz hgz hrz e=>?_);have hzlt:=H.be hgz;have hne:z≠y:=by have:=hev.next;omega
        exact ds.inj z y lz l oz ob hz hyo (by rw[hcont z hzlt];exact hgz) hg hrz hlv hne e
  · rw[hkd'];intro y z ly lz oy oz hy hz hgy hgz hry hlz hne;by_cases hly:y<(Hh (i+1)).next
    · rw[hearly y hly]at hgy;by_cases hlz':z<(Hh (i+1)).next
      · rw[hearly z hlz']at hgz;exact hr'.inj y z ly lz oy oz hy hz hgy hgz hry hlz hne
      · rw[hlate z hlz']at hgz;exact fun e=>hlateblk z lz oz (hbase z lz hz hlz') hlz' hgz hlz y ly oy hy hgy (bz.eh hry) (.inl hry) e.symm
    · rw[hlate y hly]at hgy;by_cases hlz':z<(Hh (i+1)).next
      · rw[hearly z hlz']at hgz;exact hlateblk y ly oy (hbase y ly hy hly) hly hgy (bz.eh hry) z lz oz hz hgz hlz (.inr hry)
      · rw[hlate z hlz']at hgz;exact ds.inj y z ly lz oy oz (hbase y ly hy hly) (hbase z lz hz hlz') hgy hgz hry hlz hne
  · intro y l hy;rcases st.own y l hy with h1 | h1 | ⟨z,lz,oz,g1,g2,g3,g4⟩
    · exact ds.own y l h1
    · exact .inr (.inl (Ah ds.kx h1))
    · rcases ds.own z lz g1 with h2 | h2 | ⟨q,lq,oq,k1,k2,k3,k4⟩
      · by_cases hzl:z<h.next
        · have ev0:=kD ok T (i:=0) i (by omega);rw[h0,Aw]at ev0;obtain⟨o1,g5,g6⟩:=ev0.jo g2 hzl g3;exact .inr (.inr ⟨z,lz,o1,h2,g5,g6,g4⟩)
        · have m1:=mono i xs.length (by omega) (Ac _);rw[hs]at m1;have:=hfr z (by omega) (by have:=H.be g2;omega);rw[h2]at this;cases this
      · exact .inr (.inl (by rw[g4];exact h2))
      · exact .inr (.inr ⟨q,lq,oq,k1,k2,k3,g4.trans k4⟩)
  · intro b hb hno;rw[<-ds.frame b hb hno];refine st.frame b (Bg hb ds.kx) fun z lz oz g1 g2 g3 e=>?_;rcases ds.own z lz g1 with h2 | h2 | ⟨q,lq,oq,k1,k2,k3,k4⟩
    · by_cases hzl:z<h.next
      · have ev0:=kD ok T (i:=0) i (by omega);rw[h0,Aw]at ev0;obtain⟨o1,g5,g6⟩:=ev0.jo g2 hzl g3;exact hno z lz o1 h2 g5 g6 e
      · have m1:=mono i xs.length (by omega) (Ac _);rw[hs]at m1;have:=hfr z (by omega) (by have:=H.be g2;omega);rw[h2]at this;cases this
    · omega
    · exact hno q lq oq k1 k2 k3 (by rw[<-k4];exact e)
end
end
end
def DY:∀(os:List Oper) (u:List (List Nat)),(∀j,j<u.length->(pO os u).getD j []=u.getD j [])/\
    (∀j o,os[j]? =Iz o->(∀e∈bB o,e<u.length+j)->∀i∈(pO os u).getD (u.length+j) [],∃e∈bB o,i=e\/i∈(pO os u).getD e [])
  | [],u=>⟨fun j h=>rfl,fun j o h=>by simp at h⟩
  | o::os,u=>by
    obtain⟨h1,h2⟩:=DY os (u++[((bB o).flatMap fun j=>j::u.getD j []).eraseDups]);have y:∀j,j<u.length->(pO (o::os) u).getD j []=u.getD j []:=by
      intro j J;unfold pO
      grind
    refine⟨y,fun j G E hlt i B=>?_⟩
    cases j with
    | zero=>
      simp at E;subst E;have I:(pO (o::os) u).getD (u.length+0) []=((bB o).flatMap fun j=>j::u.getD j []).eraseDups:=by unfold pO;all_goals grind
      rw[I,List.mem_eraseDups,List.mem_flatMap]at B;obtain⟨e,he,B⟩:=B;refine⟨e,he,?_⟩;rcases List.mem_cons.1 B with h | h
      · exact .inl h
      · grind
    | succ j=>
      have hlen:(u++[((bB o).flatMap fun j=>j::u.getD j []).eraseDups]).length+j=u.length+(j+1):=by simp;omega
      have:=h2 j G (by simpa using E) (fun e he=>by have:=hlt e he;omega);rw[hlen]at this;exact this i (by unfold pO at B;exact B)
section
variable {P:Program} {rec:Rec} {m:Nat}
def eK{B:List (List Nat)}{u:List aw}{i:Nat}{x:aw}(h:(iV B u)[i]? =Iz x):∃y,u[i]? =Iz y/\x={y with chk:=(Av i).filter fun j=>match u[j]? with
    | some p=> !dL B j i&&oH p y
    | none=>Jc} :=by
  unfold iV at h;rw[Ap,List.getElem?_zipIdx]at h
  cases E:u[i]? with
  | none=>simp[E]at h
  | some y=>simp[E]at h;exact⟨y,rfl,h.symm⟩
def J7{ops:Array Oper}{u:List aw}{Z:Bool}(Q:eI (sZ P ops) ops.toList=Iz u)(K:NI Z ops.toList (pO ops.toList []) u=Jb):
    cq P ops (iV (pO ops.toList []) u) (pO ops.toList [])/\(Z|| !Region.departs ops)=Jb:=by
  unfold NI at K;simp only[Aq,Ch]at K;obtain⟨⟨h1,h2⟩,h3⟩:=K;have B:∀(i:Nat) (o:Oper),ops[i]? =Iz o->∀j∈bB o,j<i:=by
    intro i o O j hj;have:=h2 (o,i) (by rw[Hp];simpa using O)
    grind
  have L:∀(i j:Nat) (x y:aw),u[i]? =Iz x->u[j]? =Iz y->i≠j->(!(x.op.effect&&y.op.effect)||dL (pO ops.toList []) i j)=Jb/\(match x.dst with | some d=> !y.names.contains d||dL (pO ops.toList []) i j | none=>Jb)=Jb:=by
    intro i j x y E G I;have:=h3 (x,i) (by rw[Hp];exact E);simp only at this;have:=this (y,j) (by rw[Hp];exact G);simp only[Dz,Aq,beq_iff_eq]at this;rcases this with h | h
    · exact absurd h I
    · exact⟨by simpa using h.1,h.2⟩
  refine⟨⟨?_,?_,B,?_,?_,?_,?_⟩,by simpa only[Array.toArray_toList]using h1⟩
  · have:=eC Q;unfold iV;simp[this]
  · intro i o x O E;obtain⟨y,G,rfl⟩:=eK E;obtain⟨q1,q2,_,q4⟩:=sY (kI Q i o y (by simpa using O) G);exact⟨q1,q2,q4⟩
  · intro j o O i hi;have:=(DY ops.toList []).2 j o (by simpa using O) (fun e he=>by have:=B j o O e he;simpa using this)
    grind
  · intro i j x y E G I a0 a1;obtain⟨S,M,rfl⟩:=eK E;obtain⟨R,J,rfl⟩:=eK G;all_goals grind
  · intro i j x y t E G I hd ht;obtain⟨S,M,rfl⟩:=eK E;obtain⟨R,J,rfl⟩:=eK G;have:=(L i j S R M J I).2;simp only at hd;rw[hd]at this;have T:t∈R.names:=ht;simpa [T]using this
  · intro i j x y E G U V Y;obtain⟨S,M,rfl⟩:=eK E;obtain⟨R,J,rfl⟩:=eK G;simp only[List.mem_filter,Ek];refine⟨U,?_⟩;rw[J];simp only[V,Bool.not_false,Bool.true_and];exact Y
section
variable {ops:Array Oper} {xs:List aw} {an:List (List Nat)} {a a':List AV} {h h':H} {A:Nat->List AV} {Hh:Nat->H} {V:Nat->AV} {RD:Nat->List Nat} {W:Nat->Bool}
variable {ρ0:Emb} {w0:World}
def yI(y:Act)(d:Option Nat)(u:Value):(y.put d u).defers=y.defers:=by cases d<;>rfl
def S1(ok:eu P rec m)(S:cq P ops xs an)(T:Trace rec xs a h a' h' A Hh V RD W)(hfr:cz ρ0 h h'){ro:Option Nat}{Q:Exit->Act->World->Prop}{dfs:List Deferred}
    (hQ:∀ρ w act D,(∀i,i<ops.size->D i=Jb)->DS P xs a ρ0 h w0 Hh V D ρ w act->act.defers=dfs->Q .normal act w):
    ∀{l:List Nat} {D:Nat->Bool},nk ops D l->iU ops D->∀{ρ w act},DS P xs a ρ0 h w0 Hh V D ρ w act->act.defers=dfs->wpOpsIn (fO ro) 0 P ops Q l act w:=by
  intro l D hs
  induction hs with
  | nil D hall=>intro hc ρ w act ds hd;exact hQ ρ w act D hall ds hd
  | cons D i o l ho hd he _ ih=>
    intro hc ρ w act ds hdf;have hi:i<xs.length:=by rw[S.len];exact(Array.getElem?_eq_some_iff.1 ho).1
    have hx:xs[i]? =Iz xs[i]:=Ad hi;obtain⟨q1,q2,q3⟩:=S.tr i o _ ho hx;have hlen:=lP T i (by omega);have hguard:Region.wanted o (yielded ops act.tmps)=W i:=by
      refine sS (a:=A i) (ρ:=ρ) (fun t bb hg=>?_) (by rw[ds.size,hlen]) q3 (T.want i _ hx);by_cases hl:t<a.length
      · rw[<-LC S T hc ho hx hd he (by unfold aw.names;rw[hg];simp) hl];exact ds.tmps t hl
      · rw[hU,Bi (by omega)];exact .ae _
    simp only[wpOpsIn,ho,hguard];have hc':=NN hc ho he
    cases hw:W i with
    | true=>
      simp only[if_true];have hk:∀u ρ' w',DS P xs a ρ0 h w0 Hh V (fun j=>j==i||D j) ρ' w' (act.put xs[i].dst u)->wpOpsIn (fO ro) 0 P ops Q l (act.put xs[i].dst u) w':=
        fun u ρ' w' ds'=>ih hc' ds' (by rw[yI];exact hdf)
      cases hq:xs[i].op.effect with
      | false=>exact DS.quiet ok S T hc ho hx hd he hq hw hfr ds T.hn T.h0 hk
      | true=>exact DS.loud ok S T hc ho hx hd he hq hw hfr ds T.hn T.h0 hk
    | false=>
      simp only[Bs,if_false];refine⟨fun _ _=>trivial,?_⟩;rw[<-q2];obtain⟨s1,s2⟩:=T.skip i _ hx hw;have mono:=kC ok T
      --nothing has turned;only where an operation that changes objects is passed over,the place of looking moves on
      have hmove:∀y ρl,ρ y=Iz ρl->∀ob,(Hh (max (kd xs (fun j=>j==i||D j) xs.length) (bi Hh y xs.length))).get y=Iz ob->(Hh (max (kd xs D xs.length) (bi Hh y xs.length))).get y=Iz ob:=by
        intro y ly hy ob hg
        cases hq:xs[i].op.effect with
        | false=>rwa [JC hx hq]at hg
        | true=>
          have hsz:i<ops.size:=by rw[<-S.len];exact hi
          have heffi:dW xs i=Jb:=by unfold dW;rw[hx];exact hq
          have hside:∀j,j<xs.length->j≠i->dW xs j=Jb->D j=decide (j<i):=by
            intro j hj hne hej;have hjx:xs[j]? =Iz (xs[j]'hj):=Ad hj;have hej':(xs[j]'hj).op.effect=Jb:=by unfold dW at hej;rw[hjx]at hej;exact hej
            exact S.side hc hsz hd (fun o' ho'=>by rw[ho]at ho';cases ho';exact he) (by rw[<-S.len];exact hj) hne (S.effs j i _ _ hjx hx hne hej' hq)
          have hkle:kd xs D xs.length<=i:=by
            rcases tV xs D xs.length with h9 | ⟨j0,e0,l0,d0,ef0⟩
            · omega
            · have hne:j0≠i:=fun e=>by subst e;rw[hd]at d0;cases d0
              have:=hside j0 l0 hne ef0;rw[d0]at this;simp at this;omega
          have hkd':kd xs (fun j=>j==i||D j) xs.length=i+1:=by
            refine tU (by omega) (.inr ⟨i,rfl,by simp,heffi⟩) fun j h1 h2=>?_
            cases hej:dW xs j with
            | false=>simp
            | true=>
              have hne:j≠i:=by omega
              have:=hside j h2 hne hej;have h9:decide (j<i)=Jc:=by simp;omega
              rw[h9]at this;simp[this,hne]
          rw[hkd']at hg;by_cases hlt:y<(Hh (i+1)).next
          · rw[s2]at hlt;have hb:bi Hh y xs.length<=i:=mH mono (Ac _) hlt;have hln:y<(Hh xs.length).next:=Bg hlt (mono i _ (by omega) (Ac _));have hbh:y<(Hh (bi Hh y xs.length)).next:=AJ hln;have hyp:y<(Hh (max (kd xs D xs.length) (bi Hh y xs.length))).next:=Bg hbh (mono _ _ (by omega) (by omega));have:=gQ ok T (y:=y) (p:=max (kd xs D xs.length) (bi Hh y xs.length)) (i-max (kd xs D xs.length) (bi Hh y xs.length)) (by omega) hyp (fun j h1 h2 hej hwj=>by
              have h3:=lY xs D xs.length j (by omega) (by omega);have h4:=hside j (by omega) (by omega) hej;rw[hej,h4]at h3;simp at h3;omega)
            rw[show max (kd xs D xs.length) (bi Hh y xs.length)+(i-max (kd xs D xs.length) (bi Hh y xs.length))=i from by omega]at this;rw[<-this];rw[show max (i+1) (bi Hh y xs.length)=i+1 from by omega,s2]at hg;exact hg
          · have hbg:i+1<=bi Hh y xs.length:=by
              rcases RH Hh y xs.length with e | e
              · omega
              · rcases Az (bi Hh y xs.length) (i+1)with h5 | h5
                · have:=mono (bi Hh y xs.length) (i+1) (by omega) (by omega);omega
                · exact h5
            rw[show max (i+1) (bi Hh y xs.length)=bi Hh y xs.length from by omega]at hg;rw[show max (kd xs D xs.length) (bi Hh y xs.length)=bi Hh y xs.length from by omega];exact hg
      refine ih hc' ⟨?_,?_,ds.sub,ds.fb,?_,?_,?_,ds.own,ds.kx,ds.os,ds.tape,ds.output,ds.frame,ds.glb⟩ (by rw[yI];exact hdf)
      · cases xs[i].dst<;>simpa [Act.put]using ds.size
      · exact wG S hc ho hx hd he ds.tmps ds.size (by rw[s1];exact VR.undef)
      · intro y ly hy;rcases ds.dom y ly hy with h1 | ⟨k,h1,h2,h3⟩
        · exact .inl h1
        · exact .inr ⟨k,h1,by simp[h2],h3⟩
      · intro y ly ob hy hg;exact ds.obj y ly ob hy (hmove y ly hy ob hg)
      · intro y z ly lz oy oz hy hz hgy hgz;exact ds.inj y z ly lz oy oz hy hz (hmove y ly hy oy hgy) (hmove z lz hz oz hgz)
def WW(ok:eu P rec m)(S:cq P ops xs an)(a1:(P.follows .mixedOrders|| !Region.departs ops)=Jb)(T:Trace rec xs a h a' h' A Hh V RD W){ro:Option Nat}{Q:Exit->Act->World->Prop}{id B:Nat}{ρ:Emb}{w:World}{J:Act}
    (ht:TR ρ a J.tmps) (hr:HR P ρ h w) (Z:cz ρ h h') (a6:MK B ρ w J.defers)
    (hQ:∀ρ' w' E,TR ρ' a' E.tmps->HR P ρ' h' w'->Stp ρ h w ρ' h' w'->MK B ρ' w' E.defers->Q .normal E w'):
    (Code.region id ops Jb).wpIn (fO ro) 0 P Q J w:=by
  refine wpIn_region_draw fun t=>?_;obtain⟨D0,a0,a2⟩:=WY ops S.oa (P.follows .mixedOrders) a1 t;have mono:=kC ok T;have a7:J.tmps.size=a.length:=by have:=ht.1;simpa using this
  have K:HR P ρ h w.drew:=HR.heap hr rfl;have a9:∀D:Nat->Bool,(∀i,i<ops.size->D i=Jc)->∀t,vv xs a V D t xs.length=fp a t:=fun D hD t=>wF (i:=0) xs.length (by omega) (fun j x _ hj _ _=>hD j (by rw[<-S.len];exact hj));have R:∀D:Nat->Bool,(∀i,i<ops.size->D i=Jc)->kd xs D xs.length=0:=fun D hD=>tU (by omega) (.inl rfl) (fun j _ hj=>by rw[hD j (by rw[<-S.len];exact hj)];rfl);have G:∀y l,ρ y=Iz l->∀U,(Hh (max 0 (bi Hh y xs.length))).get y=Iz U->h.get y=Iz U:=by
    intro y l I U hg;by_cases hlt:y<h.next
    · have hb:bi Hh y xs.length<=0:=mH mono (Ac _) (by rw[T.h0];exact hlt);rw[show max 0 (bi Hh y xs.length)=0 from by omega,T.h0]at hg;exact hg
    · have h1:=H.be hg;have h2:=aAm Hh y xs.length;have h3:=mono (max 0 (bi Hh y xs.length)) xs.length (by omega) (Ac _);rw[T.hn]at h3;have:=Z y (by omega) (by omega);rw[I]at this;cases this
  refine S1 (w0:=w) (dfs:=J.defers) ok S T Z ?_ a2 ?_ (ρ:=ρ) ?_ rfl
  · intro ρ' w' E D Y ds b0;have a5:Stp ρ h w ρ' h' w':=⟨ds.sub,fun y l I=>by
        rcases ds.dom y l I with h1 | ⟨k,h1,h2,h3,h4⟩
        · exact .inl h1
        · have m0:=mono 0 k (by omega) (by omega);have m1:=mono (k+1) xs.length (by omega) (Ac _);rw[T.h0]at m0;rw[T.hn]at m1;exact .inr ⟨by omega,by omega⟩,ds.own,ds.kx,ds.os,ds.tape,ds.output,ds.frame⟩
    have L:∀y,y<h'.next->(Hh (max (kd xs D xs.length) (bi Hh y xs.length))).get y=h'.get y:=by
      intro y I;have b1:y<(Hh xs.length).next:=by rw[T.hn];exact I
      have b2:=AJ b1;have h2:=aAm Hh y xs.length;have h3:=QP xs D xs.length;have b3:y<(Hh (max (kd xs D xs.length) (bi Hh y xs.length))).next:=Bg b2 (mono _ _ (by omega) (by omega));have:=gQ ok T (y:=y) (p:=max (kd xs D xs.length) (bi Hh y xs.length)) (xs.length-max (kd xs D xs.length) (bi Hh y xs.length)) (by omega) b3 (fun j h1 h2 b4 b6=>by
        have h3:=lY xs D xs.length j (by omega) (by omega);rw[b4,Y j (by rw[<-S.len];omega)]at h3;simp at h3)
      rw[show max (kd xs D xs.length) (bi Hh y xs.length)+(xs.length-max (kd xs D xs.length) (bi Hh y xs.length))=xs.length from by omega,T.hn]at this;exact this.symm
    refine hQ ρ' w' E ?_ ?_ a5 (by rw[b0];exact a6.step a5)
    · have hlen:=lP T xs.length (Ac _);rw[T.an]at hlen;refine⟨by have:=ds.size;simp;omega,fun j v u h1 h2=>?_⟩;have hj:j<a.length:=by have:=(List.getElem?_eq_some_iff.1 h1).1;omega
      have hv:=ds.tmps j hj;have a3:vv xs a V D j xs.length=fp a' j:=by rw[<-T.an,(xK T hj xs.length (Ac _)).1];exact qY _ (fun k x hk hx _=>by rw[Y k (by rw[<-S.len];exact hk)])
      rw[a3,hU,h1]at hv;have:E.tmps.getD j undef=u:=by rw[Bu]at h2;simp[Fi,h2]
      rw[this]at hv;exact hv
    · have a4:Ev h h':=by have:=kD ok T (i:=0) xs.length (by omega);rw[Aw,T.h0,T.hn]at this;exact this
      refine⟨ds.gat,ds.ma a4 Z,ds.fb,fun y l U I hg=>ds.obj y l U I (by rw[L y (H.be hg)];exact hg),fun y z ly lz oy oz I hz M O=>?_⟩;exact ds.inj y z ly lz oy oz I hz (by rw[L y (H.be M)];exact M) (by rw[L z (H.be O)];exact O)
  · intro j o ho hd
    grind
  · refine⟨a7,fun t _=>?_,Sub.refl _,K.fb,fun y l I=> .inl I,?_,?_,fun y l I=> .inl I,Ac _,rfl,rfl,rfl,fun _ _ _=>rfl,K.gat,K.ma⟩
    · rw[a9 D0 a0 t];exact ht.get t
    · rw[R D0 a0];intro y l U I hg;exact K.obj y l U I (G y l I U hg)
    · rw[R D0 a0];intro y z ly lz oy oz I hz M O;exact K.inj y z ly lz oy oz I hz (G y ly I oy M) (G z lz hz oz O)
end
end
section
variable {P:Program} {rec:Rec} {m:Nat}
def E4(E:eu P rec m):∀{I:List aw} {k:Nat} {a G:List AV} {h B:H} {y:List mg},fL rec I k a h y=Iz (G,B)->Ev h B
  | [],k,a,G,h,B,y,u=>by cases u;exact Ev.refl h
  | x::I,k,a,G,h,B,y,u=>by
    simp only[fL]at u;split at u
    · split at u
      · rename_i hs;split at u
        · exact(wK E hs).trans (E4 E u)
        · cases u
      · cases u
    · exact E4 E u
    · cases u
def dN(B:eu P rec m):∀{c:AC} {a G:List AV} {h E:H} {e:Ex},aS rec c a h=Iz (e,G,E)->Ev h E
  | .skip,a,G,h,E,e,u=>by simp only[aS]at u;cases u;exact Ev.refl h
  | .ret,a,G,h,E,e,u=>by simp only[aS]at u;cases u;exact Ev.refl h
  | .exit id,a,G,h,E,e,u=>by simp only[aS]at u;cases u;exact Ev.refl h
  | .region ops,a,G,h,E,e,u=>by
    simp only[aS]at u;split at u
    · rename_i J;cases u;exact E3 B J
    · cases u
  | .fe ops,a,G,h,E,e,u=>by
    simp only[aS]at u;split at u
    · rename_i J;cases u;exact E4 B J
    · cases u
  | .seq x y,a,G,h,E,e,u=>by
    simp only[aS]at u;split at u
    · rename_i I;exact(dN B I).trans (dN B u)
    · exact dN B u
  | .cond c x y,a,G,h,E,e,u=>by
    simp only[aS]at u;split at u
    · exact dN B u
    · exact dN B u
    · cases u
  | .block id x,a,G,h,E,e,u=>by
    simp only[aS]at u;split at u
    · rename_i I;split at u<;>(cases u;exact dN B I)
    · exact dN B u
  | .loop O x,a,G,h,E,e,u=>by
    simp only[aS]at u;split at u
    · rename_i I;exact(dN B I).trans (B.jy _ _ _ _ _ _ u)
    · exact dN B u
  | .rangeFunc f Q K b,a,G,h,E,e,u=>by
    simp only[aS]at u;split at u
    · split at u
      · rename_i L;have M:=B.nh _ _ _ _ _ L;split at u
        · rename_i hg;split at u
          · cases u
          · cases u;exact((Ev.alloc h _).trans M).trans (Ev.set hg (.inr (.inr ⟨_,_,rfl,rfl,Gd _,rfl,rfl,rfl⟩)) rfl)
        · cases u
      · cases u
    · cases u
def uV{E y:Nat}{ex:List (Nat×Nat)}{G:Nat}{B:AC}{ops:Array Oper}{u:Bool}(h:iY P ops u=Iz B):(live E B y ex G).2=B:=by
  unfold iY at h;split at h
  · cases h
  · split at h
    · cases h;rfl
    · simp only at h;split at h
      · split at h<;>(cases h;rfl)
      · cases h
def YW(u:List aw):(u.map fun x=>{x with chk:=x.chk.filterMap fun j=>if 0<=j then Iz (j-0)else Ja})=u:=by
  rw[List.map_congr_left (g:=id)]
  · simp
  · intro x _;simp
def LB{B:List (List Nat)}{u:List aw}(h0:∀x∈u,x.chk=[])(h:(iV B u).all (fun o=>o.chk.isEmpty)=Jb):iV B u=u:=by
  apply List.ext_getElem?;intro i
  cases E:(iV B u)[i]? with
  | none=>
    have:u.length<=i:=by have:=List.getElem?_eq_none_iff.1 E;unfold iV at this;simpa using this
    rw[Bi this]
  | some x=>
    obtain⟨y,G,e⟩:=eK E;rw[G];congr 1;have h1:x.chk=[]:=by rw[Ch]at h;simpa using h x (Ae E)
    have h2:=h0 y (Ae G);cases x;cases y;simp_all
def HR.pb{ρ:Emb}{h:H}{w:World}(B:Obj)(hr:HR P ρ h w):HR P ρ h (w.alloc B)/\Stp ρ h w ρ h (w.alloc B):=by have u:∀b,b<w.heap.size->(w.alloc B).heap[b]? =w.heap[b]? :=fun b hb=>RowKit.Below.heap_alloc w B b hb;refine⟨⟨hr.gat.il fun b l _ hlt=>u b hlt,hr.ma,fun x l E=>by have:=hr.fb x l E;simp;omega,fun x l o E hg=>(hr.obj x l o E hg).mono (Sub.refl ρ) (u _ (hr.fb x l E)),hr.inj⟩,⟨Sub.refl ρ,fun _ _ h=> .inl h,fun _ _ h=> .inl h,by simp,rfl,rfl,rfl,fun b hb _=>u b hb⟩⟩
def uP{ops:Array Oper} :∀{os:List Oper} {u:List aw},eI (sZ P ops) os=Iz u->∀x∈u,x.chk=[]
  | os,u,h,x,y=>by obtain⟨i,B,e⟩:=Dt y;have hl:=eC h;exact(sY (kI h i (os[i]'(by omega)) x (Ad _) (by rw[<-e];exact Ad B))).2.2.1
def EC{ρ:Emb}{a:List AV}{u:Act}{x:Operand}{r:AR}(ht:TR ρ a u.tmps)(h:trR x=Iz r):VR ρ (ev a r) (u.eval x):=aX h fun t _=>ht.get t
def MK.om{B:Nat}{ρ:Emb}{w:World} :∀{ds:List Deferred},MK B ρ w ds->∀D,w.heap.size<=D->({target:= .collected D,args:= #[]} :Deferred)∉ds
  | [],_,D,_=>by simp
  | d::ds,⟨⟨u,G,h1,h2,h3,I⟩,hr⟩,D,y=>by
    intro hm;rcases List.mem_cons.1 hm with e | e
    · subst h1;have:D=u:=by injection e with E J;injection E
      subst this;have:=(Array.getElem?_eq_some_iff.1 h2).1;omega
    · exact MK.om hr D y e
def ik.trans{B:Nat}{ρ G:Emb}{h h1 y:H}{w I:World}{e:Ex}{J:List AV}{x:Exit}{u:Act}{w':World}(s:Stp ρ h w G h1 I)(K:Ev h h1)(L:Ev h1 y)(E:cz ρ h y)
    (M:ik P B G h1 I e J y x u w'):ik P B ρ h w e J y x u w':=by
  obtain⟨O,Q,t,r,R,mk⟩:=M;exact⟨O,Q,t,r,s.trans R K L E,mk⟩
def cC{b:Frame}{a:Act}{k:List Item}{cs:List Frame}{w:World}{c:Code} :step P (lone (b.atR a (.code (.scope c)::k)) cs w)= .next (lone (b.atR a (.code c:: .inScope c::k)) cs w):=
  step_lone_go (by simp[stepG,stepG.exec,Frame.atR])
def lH{b:Frame}{a:Act}{k:List Item}{cs:List Frame}{w:World}{c:Code} :step P (lone (b.atR a (.inScope c::k)) cs w)= .next (lone (b.atR a k) cs w):=
  step_lone_go (by simp[stepG,stepG.exec,Frame.atR])
def pM{F:Fence}{n:Nat}{Q:Exit->Act->World->Prop}{a:Act}{w:World}{c:Code}(h:c.wpIn F n P (fun e a w=>match e with | .goto _=>False | e=>Q e a w) a w):(Code.scope c).wpIn F n P Q a w:=by
  intro b k cs I hb hr;have h0:(lone (b.atR a (.code (.scope c)::k)) cs w).fenced P F:=fenced_calm hb hr rfl;obtain⟨e,E,G,B,u⟩:=h b (.inScope c::k) cs I hb hr
  cases e with
  | normal=>exact⟨.normal,E,G,B,.head h0 cC (StepsIn.trans u (.one (fenced_calm hb hr rfl) lH))⟩
  | exit y=>
    have L:exitTo y (.inScope c::k)=exitTo y k:=by simp[exitTo]
    exact⟨.exit y,E,G,B,fun M J=> .head h0 cC (u.1 M (by rw[L];exact J)),
      fun K J=>let ⟨O,h1,h2⟩:=u.2 K (by rw[L];exact J);⟨O,h1,.head h0 cC h2⟩⟩
  | goto l=>exact B.elim
  | ret=>exact⟨_,E,G,B,.of_steps (.one h0 cC) u⟩
  | panic R=>exact⟨_,E,G,B,.of_steps (.one h0 cC) u⟩
  | outgrown=>exact⟨_,E,G,B,.of_steps (.one h0 cC) u⟩
def I5(ok:eu P rec m){x:Code}{ax:AC}(hx:nO P x ax)
    (R:∀{a S:List AV} {h L:H} {e:Ex},aS rec ax a h=Iz (e,S,L)->∀{J:Option Nat} {B:Nat} {ρ:Emb} {w:World} {y:Act},B<=w.heap.size->Ctx J ρ h->TR ρ a y.tmps->HR P ρ h w->cz ρ h L->MK B ρ w y.defers->x.wpIn (fO J) 0 P (ik P B ρ h w e S L) y w)
    {sc:List Nat} {a S:List AV} {h L:H} {e:Ex} (u:aS rec (.loop sc ax) a h=Iz (e,S,L))
    {J:Option Nat} {B:Nat} {ρ:Emb} {w:World} {y:Act} (hB:B<=w.heap.size) (E:Ctx J ρ h) (ht:TR ρ a y.tmps) (hr:HR P ρ h w) (G:cz ρ h L) (T:MK B ρ w y.defers):
    Code.roundsIn (fO J) 0 P x (ik P B ρ h w e S L) (m+1) y w:=by
  simp only[aS]at u;rw[roundsIn_succ];split at u
  · rename_i a1 h1 U;have e1:=dN ok U;have e2:=ok.jy _ _ _ _ _ _ u;refine wpIn_mono (R U hB E (ht.ie _) hr (G.first e2) T) ?_;rintro q K w1 ⟨rfl,Y,Z,r1,M,I⟩;simp only[Ex.gh,Exit.then];have hl:=ok.loop _ _ hx _ _ _ _ _ _ u J B Y w1 K (Ah hB M.size) (E.step M.sub e1) Z r1 (G.rest e1 M) I;have mono:∀(k:Nat) (Q Q':Exit->Act->World->Prop),(∀e a w,Q e a w->Q' e a w)->∀a w,Code.roundsIn (fO J) 0 P x Q k a w->Code.roundsIn (fO J) 0 P x Q' k a w:=by
      intro k Q Q' V
      induction k with
      | zero=>intro a w hh;exact hh
      | succ k ih=>
        intro a w hh;rw[roundsIn_succ]at hh ⊢;refine wpIn_mono hh ?_;intro q a1 w1 O
        cases q with
        | normal=>exact ih _ _ O
        | exit id=>exact V _ _ _ O
        | goto l=>exact V _ _ _ O
        | ret=>exact V _ _ _ O
        | panic ch=>exact V _ _ _ O
        | outgrown=>exact V _ _ _ O
    exact mono m _ _ (fun q a2 w2 hc=>hc.trans M e1 e2 G) _ _ hl
  · rename_i a0;refine wpIn_mono (R u hB E (ht.ie _) hr G T) ?_;rintro q K w1 ⟨rfl,Y,Z,r1,M,I⟩
    cases e with
    | normal=>exact absurd u (a0 _ _)
    | ret=>exact⟨rfl,Y,Z,r1,M,I⟩
    | exit id=>exact⟨rfl,Y,Z,r1,M,I⟩
def yB(ok:eu P rec m){id:Nat}{ops:Array Oper}{E:Bool}{c0:AC}{nt a2 rt:Nat}{ex:List (Nat×Nat)}(y:iY P ops E=Iz c0){a M:List AV}{h L:H}{e:Ex}(u:aS rec (live nt c0 a2 ex rt).2 a h=Iz (e,M,L))
    {O:Option Nat} {B:Nat} {ρ:Emb} {w:World} {J:Act} (hB:B<=w.heap.size) (a5:Ctx O ρ h) (ht:TR ρ a J.tmps) (hr:HR P ρ h w) (R:cz ρ h L) (U:MK B ρ w J.defers):
    (Code.region id ops E).wpIn (fO O) 0 P (ik P B ρ h w e M L) J w:=by
  rw[uV y]at u;unfold iY at y;split at y
  · cases y
  · rename_i Y G;have hlen:ops.toList.length=ops.size:=by simp
    have I:iJ rec Y a h=Iz (M,L)->e= .normal->E=Jc->(Code.region id ops E).wpIn (fO O) 0 P (ik P B ρ h w e M L) J w:=by intro h1 h2 h3;subst h2;subst h3;refine wpIn_region ?_;have:=ES (ro:=O) (Q:=ik P B ρ h w .normal M L) ok (ops:=ops) (k:=0) (fun j=>by simp) G h1 ht hr R U fun ρ' w' Z t' r' s' m'=>⟨rfl,ρ',t',r',s',m'⟩;rw[hlen,<-List.range_eq_range']at this;exact this
    split at y
    · rename_i hd;cases y;simp only[aS]at u;split at u
      · rename_i ho;cases u;exact I ho rfl (by simpa using hd)
      · cases u
    · rename_i hd;have a3:E=Jb:=by simpa using hd
      subst a3;simp only at y;split at y
      · rename_i a4;obtain⟨S,a0⟩:=J7 G a4;have K:fL rec (iV (pO ops.toList []) Y) 0 a h []=Iz (M,L)->e= .normal->(Code.region id ops Jb).wpIn (fO O) 0 P (ik P B ρ h w e M L) J w:=by intro h1 h2;subst h2;obtain⟨A,Hh,V,RD,W,T,_⟩:=LH (fun _ _=>trivial) h1;rw[YW]at T;exact WW ok S a0 T ht hr R U fun ρ' w' Z t' r' s' m'=>⟨rfl,ρ',t',r',s',m'⟩
        split at y
        · rename_i a1;cases y;simp only[aS]at u;split at u
          · rename_i ho;cases u;refine K ?_ rfl;have hid:=LB (uP G) a1;rw[hid];exact qP (uP G) ho
          · cases u
        · cases y;simp only[aS]at u;split at u
          · rename_i ho;cases u;exact K ho rfl
          · cases u
      · cases y
def sR{F:Fence}{n:Nat}{Q:Exit->Act->World->Prop}{a:Act}{w:World}{c rest:Code}{l:Nat}(hf:findLabel c l=Iz rest)(hQ:∀M a w,¬Q (.goto M) a w)
    (h:c.wpIn F n P (fun e a w=>match e with | .goto M=>M=l/\∃m,nE F n P l rest Q m a w | e=>Q e a w) a w):(Code.scope c).wpIn F n P Q a w:=by
  intro b k cs O hb hr;have h0:(lone (b.atR a (.code (.scope c)::k)) cs w).fenced P F:=fenced_calm hb hr rfl;have hg:gotoIn l (.inScope c::k)=Iz (.code rest:: .inScope c::k):=by simp[gotoIn,hf]
  have S:∀id,exitTo id (.inScope c::k)=exitTo id k:=fun id=>by simp[exitTo]
  have T:∀m a w,nE F n P l rest Q m a w->∃e a' w',Q e a' w'/\ArrivesIn (Machine.fenced P F) P (lone (b.atR a (.code rest:: .inScope c::k)) cs w) b k cs e a' w':=by
    intro m
    induction m with
    | zero=>intro a w R;exact R.elim
    | succ m ih=>
      intro a w R;obtain⟨e,E,G,B,u⟩:=(show Code.wpIn F n P rest _ a w from R) b (.inScope c::k) cs O hb hr
      cases e with
      | normal=>exact⟨.normal,E,G,B,StepsIn.trans u (.one (fenced_calm hb hr rfl) lH)⟩
      | exit I=>exact⟨.exit I,E,G,B,fun U J=>u.1 U (by rw[S];exact J),fun K J=>u.2 K (by rw[S];exact J)⟩
      | goto M=>obtain⟨rfl,V⟩:=B;obtain⟨Y,Z,w₂,L,y⟩:=ih _ _ V;exact⟨Y,Z,w₂,L,.of_steps (u.1 _ hg) y⟩
      | ret=>exact⟨_,E,G,B,u⟩
      | panic ch=>exact⟨_,E,G,B,u⟩
      | outgrown=>exact⟨_,E,G,B,u⟩
  obtain⟨e,E,G,B,u⟩:=h b (.inScope c::k) cs O hb hr
  cases e with
  | normal=>exact⟨.normal,E,G,B,.head h0 cC (StepsIn.trans u (.one (fenced_calm hb hr rfl) lH))⟩
  | exit I=>
    exact⟨.exit I,E,G,B,fun U J=> .head h0 cC (u.1 U (by rw[S];exact J)),
      fun K J=>let ⟨k₁,h1,h2⟩:=u.2 K (by rw[S];exact J);⟨k₁,h1,.head h0 cC h2⟩⟩
  | goto M=>obtain⟨rfl,m,R⟩:=B;obtain⟨Y,Z,w₂,L,y⟩:=T m _ _ R;exact⟨Y,Z,w₂,L,.of_steps (.head h0 cC (u.1 _ hg)) y⟩
  | ret=>exact⟨_,E,G,B,.of_steps (.one h0 cC) u⟩
  | panic ch=>exact⟨_,E,G,B,.of_steps (.one h0 cC) u⟩
  | outgrown=>exact⟨_,E,G,B,.of_steps (.one h0 cC) u⟩
def nD{F:Fence}{n l:Nat}{c:Code}{Q B:Exit->Act->World->Prop}(y:∀e a w,Q e a w->B e a w):∀m {a:Act} {w:World},nE F n P l c Q m a w->nE F n P l c B m a w
  | 0,_,_,h=>h.elim
  | m+1,_,_,h=>wpIn_mono (show Code.wpIn F n P c _ _ _ from h) fun e a w u=>by
    cases e with
    | goto E=>exact⟨u.1,nD y m u.2⟩
    | normal=>exact y _ _ _ u
    | exit id=>exact y _ _ _ u
    | ret=>exact y _ _ _ u
    | panic G=>exact y _ _ _ u
    | outgrown=>exact y _ _ _ u
def Ex.dv(l:Nat):Ex->Exit
  | .normal=> .normal
  | .ret=> .ret
  | .exit id=>if id=1048576+l then .goto l else .exit id
def ni(P:Program)(l:Nat)(B:Nat)(ρ:Emb)(h:H)(w:World)(e:Ex)(G:List AV)(E:H):Exit->Act->World->Prop:=fun x u w'=>
  x=e.dv l/\∃y,TR y G u.tmps/\HR P y E w'/\Stp ρ h w y E w'/\MK B y w' u.defers
def ni.trans{l B:Nat}{ρ G:Emb}{h h1 y:H}{w I:World}{e:Ex}{J:List AV}{x:Exit}{u:Act}{w':World}(s:Stp ρ h w G h1 I)(K:Ev h h1)(L:Ev h1 y)(E:cz ρ h y)
    (M:ni P l B G h1 I e J y x u w'):ni P l B ρ h w e J y x u w':=by
  obtain⟨O,Q,t,r,R,mk⟩:=M;exact⟨O,Q,t,r,s.trans R K L E,mk⟩
def BK{ops:Array Oper}{B:Bool}{G:AC}{I E J:Nat}{ex:List (Nat×Nat)}(y:iY P ops B=Iz G){a K:List AV}{h L:H}{e:Ex}(u:aS rec (live I G E ex J).2 a h=Iz (e,K,L)):e= .normal:=by
  rw[uV y]at u;unfold iY at y;split at y
  · cases y
  · split at y
    · cases y;simp only[aS]at u;split at u<;>cases u;rfl
    · simp only at y;split at y
      · split at y
        · cases y;simp only[aS]at u;split at u<;>cases u;rfl
        · cases y;simp only[aS]at u;split at u<;>cases u;rfl
      · cases y
def aFP(ok:eu P rec m)(l:Nat):∀(c:Code) {ac:AC},aA7 P l c ac->∀{a Y:List AV} {h T:H} {e:Ex},aS rec ac a h=Iz (e,Y,T)->
    (∀id,e= .exit id->id≠2097152+l)/\
    ∀{ro:Option Nat} {B:Nat} {ρ:Emb} {w:World} {a0:Act},B<=w.heap.size->Ctx ro ρ h->TR ρ a a0.tmps->HR P ρ h w->cz ρ h T->MK B ρ w a0.defers->
      c.wpIn (fO ro) 0 P (ni P l B ρ h w e Y T) a0 w:=by
  intro c
  induction c with
  | skip=>intro ac G a Y h T e u;obtain⟨Q,ex,R,L,E,S,rfl⟩:=G;simp only[trJ]at E;cases E;simp only[live,aS]at u;cases u;exact⟨fun _ h=>(by cases h),fun M I ht hr K J=>wpIn_skip ⟨rfl,_,ht,hr,Stp.refl _ _ _,J⟩⟩
  | label l'=>intro ac G a Y h T e u;obtain⟨Q,ex,R,L,E,S,rfl⟩:=G;simp only[trJ]at E;cases E;simp only[live,aS]at u;cases u;exact⟨fun _ h=>(by cases h),fun M I ht hr K J=>wpIn_label ⟨rfl,_,ht,hr,Stp.refl _ _ _,J⟩⟩
  | ret=>intro ac G a Y h T e u;obtain⟨Q,ex,R,L,E,S,rfl⟩:=G;simp only[trJ]at E;cases E;simp only[live,aS]at u;cases u;exact⟨fun _ h=>(by cases h),fun M I ht hr K J=>wpIn_ret ⟨rfl,_,ht,hr,Stp.refl _ _ _,J⟩⟩
  | exit id=>
    intro ac G a Y h T e u;obtain⟨Q,ex,R,L,E,S,rfl⟩:=G;simp only[trJ]at E;split at E
    · rename_i hid;cases E;simp only[live,aS]at u;cases u;refine⟨fun _ h=>by injection h;omega,fun M I ht hr K J=>wpIn_exit ⟨?_,_,ht,hr,Stp.refl _ _ _,J⟩⟩;simp only[Ex.dv];rw[if_neg (by omega)]
    · cases E
  | goto l'=>
    intro ac G a Y h T e u;obtain⟨Q,ex,R,L,E,S,rfl⟩:=G;simp only[trJ]at E;split at E
    · rename_i hid;subst hid;cases E;simp only[live,aS]at u;cases u;refine⟨fun _ h=>by injection h;omega,fun M I ht hr K J=>wpIn_goto ⟨?_,_,ht,hr,Stp.refl _ _ _,J⟩⟩;simp only[Ex.dv,if_true]
    · cases E
  | region id ops a7=>intro ac G a Y h T e u;obtain⟨Q,ex,R,L,E,S,rfl⟩:=G;simp only[trJ]at E;have he:=BK E u;subst he;exact⟨fun _ h=>(by cases h),fun M I ht hr K J=>yB ok E u M I ht hr K J⟩
  | seq x y O a2=>
    intro ac G a Y h T e u;obtain⟨Q,ex,R,L,E,S,rfl⟩:=G;simp only[trJ]at E;split at E
    · rename_i cx cy hx hy;cases E;simp only[live,aS]at u;split at u
      · rename_i a1 h1 a4;have e1:=dN ok a4;have e2:=dN ok u;have gx:=O ⟨_,_,_,_,hx,_,rfl⟩ a4;have gy:=a2 ⟨_,_,_,_,hy,_,rfl⟩ u;refine⟨gy.1,fun M I ht hr K J=>wpIn_seq ?_⟩;refine wpIn_mono (gx.2 M I ht hr (K.first e2) J) ?_;rintro q a3 w1 ⟨rfl,ρ1,t1,r1,Z,U⟩;simp only[Ex.dv,Exit.then];refine wpIn_mono (gy.2 (Ah M Z.size) (I.step Z.sub e1) t1 r1 (K.rest e1 Z) U) ?_;intro q a9 w2 hc;exact hc.trans Z e1 e2 K
      · rename_i a6;have gx:=O ⟨_,_,_,_,hx,_,rfl⟩ u;refine⟨gx.1,fun M I ht hr K J=>wpIn_seq ?_⟩;refine wpIn_mono (gx.2 M I ht hr K J) ?_;rintro q a3 w1 ⟨rfl,ρ1,t1,r1,Z,U⟩
        cases e with
        | normal=>exact absurd u (a6 _ _)
        | ret=>exact⟨rfl,ρ1,t1,r1,Z,U⟩
        | exit id=>
          simp only[Ex.dv];split
          · exact⟨by simp[Ex.dv, *],ρ1,t1,r1,Z,U⟩
          · exact⟨by simp[Ex.dv, *],ρ1,t1,r1,Z,U⟩
    · cases E
  | cond c x y O a2=>
    intro ac G a Y h T e u;obtain⟨Q,ex,R,L,E,S,rfl⟩:=G;simp only[trJ]at E;split at E
    · rename_i cc cx cy a5 hx hy;cases E;simp only[live,aS]at u;split at u
      · rename_i hb;have gx:=O ⟨_,_,_,_,hx,_,rfl⟩ u;refine⟨gx.1,fun M I ht hr K J=>?_⟩;have V:=EC ht a5;rw[hb]at V;exact wpIn_cond_true V.cm (gx.2 M I ht hr K J)
      · rename_i hb;have gy:=a2 ⟨_,_,_,_,hy,_,rfl⟩ u;refine⟨gy.1,fun M I ht hr K J=>?_⟩;have V:=EC ht a5;rw[hb]at V;exact wpIn_cond_false V.cm (gy.2 M I ht hr K J)
      · cases u
    · cases E
  | block id x O=>intro ac G;obtain⟨Q,ex,R,L,E,S,rfl⟩:=G;simp[trJ]at E
  | loop x O=>intro ac G;obtain⟨Q,ex,R,L,E,S,rfl⟩:=G;simp[trJ]at E
  | rangeFunc f ps b0 b b1 b2=>intro ac G;obtain⟨Q,ex,R,L,E,S,rfl⟩:=G;simp[trJ]at E
  | scope x ih=>intro ac G;obtain⟨Q,ex,R,L,E,S,rfl⟩:=G;simp[trJ]at E
  | refuse s=>intro ac G;obtain⟨Q,ex,R,L,E,S,rfl⟩:=G;simp[trJ]at E
def JG(T:eu P rec m){l:Nat}{c:Code}{ac:AC}(M:aA7 P l c ac){Z:List Nat}{a a':List AV}{h h':H}{e:Ex}(u:aS rec (.loop Z (.block (1048576+l) (.seq ac (.exit (2097152+l))))) a h=Iz (e,a',h'))
    {U:Option Nat} {B:Nat} {ρ:Emb} {w:World} {K:Act} (S:B<=w.heap.size) (y:Ctx U ρ h) (ht:TR ρ a K.tmps) (hr:HR P ρ h w) (I:cz ρ h h') (L:MK B ρ w K.defers):
    nE (fO U) 0 P l c (ik P B ρ h w (unE l e) a' h') (m+1) K w:=by
  simp only[aS]at u;show c.wpIn (fO U) 0 P _ K w
  cases V:aS rec ac (ie a Z) h with
  | none=>rw[V]at u;cases u
  | some r=>
    obtain⟨q,a1,h1⟩:=r;rw[V]at u;have g:=aFP T l c M V;have e1:=dN T V
    cases q with
    | normal=>simp only at u;rw[if_neg (by omega)]at u;cases u;refine wpIn_mono (g.2 S y (ht.ie _) hr I L) ?_;rintro q G Y ⟨rfl,O,Q,R,J,E⟩;exact⟨by simp[unE,Ex.gh,Ex.dv],O,Q,R,J,E⟩
    | ret=>simp only at u;cases u;refine wpIn_mono (g.2 S y (ht.ie _) hr I L) ?_;rintro q G Y ⟨rfl,O,Q,R,J,E⟩;exact⟨by simp[unE,Ex.gh,Ex.dv],O,Q,R,J,E⟩
    | exit id=>
      simp only at u;by_cases hid:id=1048576+l
      · subst hid;simp only[if_true]at u;have e2:=T.jy _ _ _ _ _ _ u;refine wpIn_mono (g.2 S y (ht.ie _) hr (I.first e2) L) ?_;rintro q G Y ⟨rfl,O,Q,R,J,E⟩;simp only[Ex.dv,if_true];refine⟨trivial,?_⟩;exact nD (fun q a2 w2 hc=>hc.trans J e1 e2 I) _ (T.jump l c ac M Z _ _ _ _ _ u U B O Y G (Ah S J.size) (y.step J.sub e1) Q R (I.rest e1 J) E)
      · simp only[hid,if_false]at u;cases u;have hE:=g.1 id rfl;refine wpIn_mono (g.2 S y (ht.ie _) hr I L) ?_;rintro q G Y ⟨rfl,O,Q,R,J,E⟩;simp only[Ex.dv,hid,if_false];exact⟨by simp[unE,Ex.gh,hE],O,Q,R,J,E⟩
def S0(ok:eu P rec m){c:Code}{c0:AC}(E:EB P c=Iz c0){nt a3 rt:Nat}{ex:List (Nat×Nat)}{a K:List AV}{h J:H}{e:Ex}(u:aS rec (live nt c0 a3 ex rt).2 a h=Iz (e,K,J))
    {ro:Option Nat} {B:Nat} {ρ:Emb} {w:World} {T:Act} (hB:B<=w.heap.size) (G:Ctx ro ρ h) (ht:TR ρ a T.tmps) (hr:HR P ρ h w) (L:cz ρ h J) (Q:MK B ρ w T.defers):
    (Code.scope c).wpIn (fO ro) 0 P (ik P B ρ h w e K J) T w:=by
  unfold EB at E;split at E
  · rename_i l hl;split at E
    · rename_i rest hf;split at E
      · rename_i x y hx hy;cases E;obtain⟨X,Y,U,rX,rY,eq⟩:∃X Y U,aA7 P l c X/\aA7 P l rest Y/\(live nt (ZD l x y) a3 ex rt).2= .block (2097152+l) (.seq (.block (1048576+l) (.seq X (.exit (2097152+l)))) (.loop U (.block (1048576+l) (.seq Y (.exit (2097152+l)))))):=
          ⟨_,_,_,⟨_,_,_,_,hx,_,rfl⟩,⟨_,_,_,_,hy,_,rfl⟩,rfl⟩
        rw[eq]at u;have a4:aS rec (.block (2097152+l) (.seq (.block (1048576+l) (.seq X (.exit (2097152+l)))) (.loop U (.block (1048576+l) (.seq Y (.exit (2097152+l))))))) a h=
            (match aS rec (.seq (.block (1048576+l) (.seq X (.exit (2097152+l)))) (.loop U (.block (1048576+l) (.seq Y (.exit (2097152+l)))))) a h with
              | some (.exit i,K,J)=>if i=2097152+l then Iz (.normal,K,J)else Iz (.exit i,K,J)
              | r=>r):=rfl
        rw[a4]at u;clear a4;refine sR hf (fun l' a w hq=>by obtain⟨h1,_⟩:=hq;cases e<;>cases h1) ?_;have R:aS rec (.seq (.block (1048576+l) (.seq X (.exit (2097152+l)))) (.loop U (.block (1048576+l) (.seq Y (.exit (2097152+l)))))) a h=
            (match aS rec (.block (1048576+l) (.seq X (.exit (2097152+l)))) a h with
              | some (.normal,K,J)=>aS rec (.loop U (.block (1048576+l) (.seq Y (.exit (2097152+l))))) K J
              | r=>r):=rfl
        rw[R]at u;clear R;have S:aS rec (.block (1048576+l) (.seq X (.exit (2097152+l)))) a h=
            (match (match aS rec X a h with
              | some (.normal,K,J)=>Iz (Ex.exit (2097152+l),K,J)
              | r=>r)with
              | some (.exit i,K,J)=>if i=1048576+l then Iz (.normal,K,J)else Iz (.exit i,K,J)
              | r=>r):=rfl
        rw[S]at u;clear S
        cases hX:aS rec X a h with
        | none=>rw[hX]at u;cases u
        | some r=>
          obtain⟨q,a1,h1⟩:=r;rw[hX]at u;have g:=aFP ok l c rX hX;have e1:=dN ok hX
          cases q with
          | normal=>simp only at u;rw[if_neg (by omega)]at u;simp only[if_true]at u;cases u;refine wpIn_mono (g.2 hB G ht hr L Q) ?_;rintro q M w1 ⟨rfl,ρ1,V,Z,O,I⟩;exact⟨by simp[Ex.gh,Ex.dv],ρ1,V,Z,O,I⟩
          | ret=>simp only at u;cases u;refine wpIn_mono (g.2 hB G ht hr L Q) ?_;rintro q M w1 ⟨rfl,ρ1,V,Z,O,I⟩;exact⟨by simp[Ex.gh,Ex.dv],ρ1,V,Z,O,I⟩
          | exit id=>
            simp only at u;by_cases hid:id=1048576+l
            · subst hid;simp only[if_true]at u
              cases hL:aS rec (.loop U (.block (1048576+l) (.seq Y (.exit (2097152+l))))) a1 h1 with
              | none=>rw[hL]at u;cases u
              | some r=>
                obtain⟨q2,a2,h2⟩:=r;rw[hL]at u;have e2:=dN ok hL;have a0:h2=J/\a2=K/\e=unE l q2:=by
                  cases q2 with
                  | normal=>cases u;exact⟨rfl,rfl,rfl⟩
                  | ret=>cases u;exact⟨rfl,rfl,rfl⟩
                  | exit i=>simp only at u;simp only[unE];split at u<;>rename_i hi<;>cases u<;>simp[hi]
                obtain⟨rfl,rfl,rfl⟩:=a0;refine wpIn_mono (g.2 hB G ht hr (L.first e2) Q) ?_;rintro q M w1 ⟨rfl,ρ1,V,Z,O,I⟩;simp only[Ex.dv,if_true];refine⟨trivial,m+1,?_⟩;exact nD (fun q a2 w2 hc=>hc.trans O e1 e2 L) _ (JG ok rY hL (Ah hB O.size) (G.step O.sub e1) V Z (L.rest e1 O) I)
            · simp only[hid,if_false]at u;have hE:=g.1 id rfl;rw[if_neg hE]at u;cases u;refine wpIn_mono (g.2 hB G ht hr L Q) ?_;rintro q M w1 ⟨rfl,ρ1,V,Z,O,I⟩;simp only[Ex.dv,hid,if_false];exact⟨by simp[Ex.gh],ρ1,V,Z,O,I⟩
      · cases E
    · cases E
  · cases E
def yC(ok:eu P rec m):∀(c:Code) {ac:AC},nO P c ac->∀{a a':List AV} {h h':H} {e:Ex},aS rec ac a h=Iz (e,a',h')->
    ∀{ro:Option Nat} {B:Nat} {ρ:Emb} {w:World} {act:Act},B<=w.heap.size->Ctx ro ρ h->TR ρ a act.tmps->HR P ρ h w->cz ρ h h'->MK B ρ w act.defers->
      c.wpIn (fO ro) 0 P (ik P B ρ h w e a' h') act w:=by
  intro c
  induction c with
  | skip=>intro ac I a a' h h' e E ro B ρ w act R J ht hr K L;obtain⟨c0,ex,Y,Q,G,Z,rfl⟩:=I;simp only[tr]at G;cases G;simp only[live,aS]at E;cases E;exact wpIn_skip ⟨rfl,ρ,ht,hr,Stp.refl _ _ _,L⟩
  | ret=>intro ac I a a' h h' e E ro B ρ w act R J ht hr K L;obtain⟨c0,ex,Y,Q,G,Z,rfl⟩:=I;simp only[tr]at G;cases G;simp only[live,aS]at E;cases E;exact wpIn_ret ⟨rfl,ρ,ht,hr,Stp.refl _ _ _,L⟩
  | exit id=>intro ac I a a' h h' e E ro B ρ w act R J ht hr K L;obtain⟨c0,ex,Y,Q,G,Z,rfl⟩:=I;simp only[tr]at G;cases G;simp only[live,aS]at E;cases E;exact wpIn_exit ⟨rfl,ρ,ht,hr,Stp.refl _ _ _,L⟩
  | region id ops h6=>intro ac I a a' h h' e E ro B ρ w act R J ht hr K L;obtain⟨c0,ex,Y,Q,G,Z,rfl⟩:=I;simp only[tr]at G;exact yB ok G E R J ht hr K L
  | seq x y S b1=>
    intro ac I a a' h h' e E ro B ρ w act R J ht hr K L;obtain⟨c0,ex,Y,Q,G,Z,rfl⟩:=I;simp only[tr]at G;split at G
    · rename_i cx cy hx hy;cases G;simp only[live,aS]at E;refine wpIn_seq ?_;split at E
      · rename_i a1 h1 a4;have e1:=dN ok a4;have e2:=dN ok E;refine wpIn_mono (S ⟨_,_,_,_,hx,_,rfl⟩ a4 R J ht hr (K.first e2) L) ?_;rintro q U M ⟨rfl,ρ1,t1,r1,s1,O⟩;simp only[Ex.gh,Exit.then];refine wpIn_mono (b1 ⟨_,_,_,_,hy,_,rfl⟩ E (Ah R s1.size) (J.step s1.sub e1) t1 r1 (K.rest e1 s1) O) ?_;intro q h7 w2 hc;exact hc.trans s1 e1 e2 K
      · rename_i a5;refine wpIn_mono (S ⟨_,_,_,_,hx,_,rfl⟩ E R J ht hr K L) ?_;rintro q U M ⟨rfl,ρ1,t1,r1,s1,O⟩
        cases e with
        | normal=>exact absurd E (a5 _ _)
        | ret=>exact⟨rfl,ρ1,t1,r1,s1,O⟩
        | exit id=>exact⟨rfl,ρ1,t1,r1,s1,O⟩
    · cases G
  | cond c x y S b1=>
    intro ac I a a' h h' e E ro B ρ w act R J ht hr K L;obtain⟨c0,ex,Y,Q,G,Z,rfl⟩:=I;simp only[tr]at G;split at G
    · rename_i cc cx cy d6 hx hy;cases G;simp only[live,aS]at E;have a9:=EC ht d6;split at E
      · rename_i hb;rw[hb]at a9;exact wpIn_cond_true a9.cm (S ⟨_,_,_,_,hx,_,rfl⟩ E R J ht hr K L)
      · rename_i hb;rw[hb]at a9;exact wpIn_cond_false a9.cm (b1 ⟨_,_,_,_,hy,_,rfl⟩ E R J ht hr K L)
      · cases E
    · cases G
  | block id x S=>
    intro ac I a a' h h' e E ro B ρ w act R J ht hr K L;obtain⟨c0,ex,Y,Q,G,Z,rfl⟩:=I;simp only[tr,Bt]at G;obtain⟨cx,hx,rfl⟩:=G;simp only[live,aS]at E;refine wpIn_block ?_;split at E
    · rename_i i a1 h1 a4;split at E
      · rename_i hi;cases E;refine wpIn_mono (S ⟨_,_,_,_,hx,_,rfl⟩ a4 R J ht hr K L) ?_;rintro q U M ⟨rfl,ρ1,t1,r1,s1,O⟩;simp only[Ex.gh,Exit.inBlock,hi,if_true];exact⟨rfl,ρ1,t1,r1,s1,O⟩
      · rename_i hi;cases E;refine wpIn_mono (S ⟨_,_,_,_,hx,_,rfl⟩ a4 R J ht hr K L) ?_;rintro q U M ⟨rfl,ρ1,t1,r1,s1,O⟩;simp only[Ex.gh,Exit.inBlock,hi,if_false];exact⟨rfl,ρ1,t1,r1,s1,O⟩
    · rename_i a5;refine wpIn_mono (S ⟨_,_,_,_,hx,_,rfl⟩ E R J ht hr K L) ?_;rintro q U M ⟨rfl,ρ1,t1,r1,s1,O⟩
      cases e with
      | normal=>exact⟨rfl,ρ1,t1,r1,s1,O⟩
      | ret=>exact⟨rfl,ρ1,t1,r1,s1,O⟩
      | exit id=>exact absurd E (a5 _ _ _)
  | loop x S=>intro ac I a a' h h' e E ro B ρ w act R J ht hr K L;obtain⟨c0,ex,Y,Q,G,Z,rfl⟩:=I;simp only[tr,Bt]at G;obtain⟨cx,hx,rfl⟩:=G;simp only[live,aS]at E;exact wpIn_loop_rounds _ (I5 ok ⟨_,_,_,_,hx,_,rfl⟩ (S ⟨_,_,_,_,hx,_,rfl⟩) E R J ht hr K L)
  | rangeFunc f ps a2 b i0 i1=>
    intro ac I a a' h h' e E ro B ρ w act R J ht hr K L;obtain⟨c0,ex,Y,Q,G,Z,rfl⟩:=I;simp only[tr]at G;split at G
    · rename_i cf ca cb hf b2 hb;cases G;simp only[live,aS]at E;split at E
      · rename_i g first d7 d8
        split at E
        · rename_i v1 h1 hcall;have e1:=ok.nh _ _ _ _ _ hcall;split at E
          · rename_i ver r hg;split at E
            · cases E
            · rename_i d9;cases E;have c5:=EC ht hf;rw[d8]at c5
              --the a0 that is laid
              generalize b3:({state:= .ready,pending:=Ja,tmps:=a,params:=ps.toList,assign:=(live Z ca (live Z cb 0 ex Y).1 ex Y).2,body:=(live Z cb 0 ex Y).2} :lm)=V at*;have e0:Ev h (h.alloc (.loop 0 V)):=Ev.alloc h _;have e2:Ev h1 (h1.set h.next (.loop (ver+1) {r with state:= .exhausted})):=Ev.set hg (.inr (.inr ⟨_,_,rfl,rfl,Gd _,rfl,rfl,rfl⟩)) rfl;have i2:h.next+1<=h1.next:=e1.next;have hfn:ρ h.next=Ja:=K h.next (Ac _) (by simp;omega)
              --what h8 on,a3 i3 the a0 i4 laid
              have go:∀(l:Nat) (mark:List Deferred) (M w2:World) (r':Loop),w2=M.alloc (.loop r')->l=M.heap.size->r'.state= .ready->r'.pending=Ja->r'.tmps=act.tmps->r'.params=ps->r'.assign=a2->r'.body=b->
                  HR P ρ h M->Stp ρ h w ρ h M->MK B ρ M (mark++act.defers)->
                  ∃(d:Deferred) (f':FuncId) (args:Array Value),(resolve act.eval (rangeCall f l) 0).run P w2= .ok d w2/\(invoke d.target d.args).run P w2= .ok (.enter f' args) w2/\
                    CallsIn (fO ro) 0 P f' args w2 (rangePost (fO ro) 0 P l (ik P B ρ h w (r.pending.getD .normal) a (h1.set h.next (.loop (ver+1) {r with state:= .exhausted}))) {act with defers:=mark++act.defers}):=by
                intro l mark M w2 r' e3 hl q1 q2 q3 q4 q5 q6 e4 s1 O;subst e3;subst hl;have I:fy P (upd ρ h.next ⟨M.heap.size,0,0⟩) V r':=by
                  subst b3;refine⟨q1,by rw[q2];rfl,by simp,?_,by rw[q4],?_,?_⟩
                  · rw[q3];exact ht.mono (gM hfn)
                  · rw[q5];exact⟨_,_,_,_,b2,_,rfl⟩
                  · rw[q6];exact⟨_,_,_,_,hb,_,rfl⟩
                obtain⟨e5,s2⟩:=HR.alloc (o:= .loop r') (ao:= .loop 0 V) (l:=⟨M.heap.size,0,0⟩) e4 hfn rfl ⟨r',heap_alloc_new M _,I⟩;have c6:upd ρ h.next ⟨M.heap.size,0,0⟩ h.next=Iz ⟨M.heap.size,0,0⟩:=bA _ _ _;have b4:cz (upd ρ h.next ⟨M.heap.size,0,0⟩) (h.alloc (.loop 0 V)) h1:=by
                  intro y h3 h4;have a5:y≠h.next:=by simp at h3;omega
                  rw[bO a5];exact K y (by simp at h3;omega) (by simpa using h4)
                have a6:=c5.mono (gM (l:=⟨M.heap.size,0,0⟩) hfn);generalize e6:act.eval f=fv at a6
                cases a6 with
                | func _ _ _ f' c' hp e7 f1 g1 g2=>
                  obtain⟨fn,k1,k2,k3⟩:=ok.nv _ _ _ _ _ hcall;have f2:VR (upd ρ h.next ⟨M.heap.size,0,0⟩) (.func (.yield h.next) [] []) (.func (.yield M.heap.size) #[] #[]):= .yield h.next _ c6;have b5:VRs (upd ρ h.next ⟨M.heap.size,0,0⟩) (first++[.func (.yield h.next) [] []]++d7) (f'++[.func (.yield M.heap.size) #[] #[]]++c'):=
                    VRs.append (VRs.append ⟨e7,g1⟩ (.cons f2 (VRs.nil _))) ⟨f1,g2⟩
                  have hc:=ok.call _ _ _ _ _ hcall _ _ _ b5 e5 b4;refine⟨{target:= .fn (.func g) c'.toArray,args:=f'.toArray++ #[Value.func (.yield M.heap.size) #[] #[]]},g,(f'++[Value.func (.yield M.heap.size) #[] #[]]++c').toArray,?_,?_,?_⟩
                  · have ea:(#[Operand.const (Value.func (.yield M.heap.size) #[] #[])]:Array Operand).map act.eval= #[Value.func (.yield M.heap.size) #[] #[]]:=by apply Ci;simp[Act.eval]
                    simp only[resolve,rangeCall,ea,e6,Deferred.ofValue,Sem.run_pure]
                  · have f3:fn.body.isNone=Jc:=by cases hb:fn.body<;>simp_all
                    simp only[invoke,callFunc,Sem.run_bind,run_program,Result.andThen_ok,k1];rw[if_neg (by rw[k3];simp),if_neg (by rw[f3];simp)];simp
                  · refine CallsIn.mono (F:=fO ro) (show CallsIn (fO ro) 0 P g _ _ _ from hc) ?_;rintro ee w3 ⟨u,ρ3,rfl,_,r3,s3⟩;have c7:=s3.sub _ _ c6;obtain⟨rr,p1,p2⟩:=r3.obj h.next _ _ c7 hg;have b6:M.heap.size<w3.heap.size:=(Array.getElem?_eq_some_iff.1 p1).1;have b7:rr.state≠ .busy:=by rw[p2.state];exact d9
                    have a7:fy P ρ3 {r with state:= .exhausted} {rr with state:= .exhausted} :=⟨rfl,p2.pending,p2.nc,p2.tmps,p2.params,p2.asg,p2.body⟩;obtain⟨r4,s4⟩:=HR.turn (o':= .loop (ver+1) {r with state:= .exhausted}) (w':=w3.putObj M.heap.size (.loop {rr with state:= .exhausted})) r3 c7 hg rfl (by simp) rfl rfl rfl (fun b hb=>World.putObj_heap_other hb) ⟨_,World.putObj_heap_same b6,a7⟩;have f4:cz ρ h h1:=fun y a b=>K y a (by simpa using b);have g0:Stp ρ h w _ (h.alloc (.loop 0 V)) _:=s1.trans s2 (Ev.refl h) e0 (fun y a b=>K y a (by simp at b;simp;omega));have g4:=g0.trans s3 e0 e1 f4;have c8:=g4.trans s4 (e0.trans e1) e2 K;have g5:=((O.step s2).step s3).step s4;refine⟨_,_,run_endLoop p1 b7,?_⟩;have T:∀(q:Exit),q=(r.pending.getD .normal).gh->ik P B ρ h w (r.pending.getD .normal) a (h1.set h.next (.loop (ver+1) {r with state:= .exhausted})) q {act with defers:=mark++act.defers} (w3.putObj M.heap.size (.loop {rr with state:= .exhausted})):=
                      fun q hq=>⟨hq,ρ3,ht.mono c8.sub,r4,c8,g5⟩
                    have c9:=p2.nc;have d0:=p2.pending;generalize w3.putObj M.heap.size (.loop {rr with state:= .exhausted})=wE at T ⊢;generalize h1.set h.next (.loop (ver+1) {r with state:= .exhausted})=hE at T ⊢;generalize rr.pending=j at d0 ⊢;subst d0;generalize b0:r.pending.getD .normal=qe at T ⊢
                    cases hp:r.pending with
                    | none=>rw[hp]at b0;subst b0;exact T .normal rfl
                    | some q=>
                      rw[hp]at b0 c9;subst b0
                      cases q with
                      | normal=>exact absurd rfl c9
                      | ret=>exact wpIn_ret (T .ret rfl)
                      | exit id=>exact wpIn_exit (T (.exit id) rfl)
              refine wpIn_rangeFunc fun fn _=>?_
              cases ro with
              | none=>
                obtain⟨g6,d4⟩:=HR.pb (.deferred (Iz [])) hr;have O:MK B ρ (w.alloc (.deferred (Iz []))) ([{target:= .collected w.heap.size,args:= #[]}]++act.defers):=by refine⟨⟨w.heap.size,R,rfl,heap_alloc_new w _,fun x l hx=>by have:=hr.fb x l hx;omega,L.om _ (Ac _)⟩,L.step d4⟩
                obtain⟨d,f',args,g1,g2,g3⟩:=go (w.alloc (.deferred (Iz []))).heap.size [{target:= .collected w.heap.size,args:= #[]}] (w.alloc (.deferred (Iz []))) _ {state:= .ready,pending:=Ja,fn,tmps:=act.tmps,params:=ps,assign:=a2,body:=b,defers:=w.heap.size} rfl rfl rfl rfl rfl rfl rfl rfl g6 d4 O;refine⟨_,_,_,d,_,f',args,_,run_enterLoop_outer fn act.tmps ps a2 b,by simpa using g1,fun _ _=>trivial,by simpa using g2,fun hh=>by simp[fO,Fence.wide]at hh,by simpa using g3⟩
              | some l0=>
                obtain⟨x0,h5,h9,r0,c1,c2,c3⟩:=J l0 rfl;obtain⟨d5,c4,_⟩:=hr.obj x0 h5 _ c1 c3;rw[c2]at c4;have b8:(Instr.enterLoop fn act.tmps ps a2 b (Iz l0)).run P w= .ok (w.heap.size,[]) (w.alloc (.loop {state:= .ready,pending:=Ja,fn,tmps:=act.tmps,params:=ps,assign:=a2,body:=b,defers:=d5.defers})):=by simp[Instr.enterLoop,run_getLoop c4]
                obtain⟨d,f',args,g1,g2,g3⟩:=go w.heap.size [] w _ {state:= .ready,pending:=Ja,fn,tmps:=act.tmps,params:=ps,assign:=a2,body:=b,defers:=d5.defers} rfl rfl rfl rfl rfl rfl rfl rfl hr (Stp.refl _ _ _) L;exact⟨_,_,_,d,_,f',args,_,b8,g1,fun _ _=>trivial,g2,fun hh=>by simp[fO,Fence.wide]at hh,g3⟩
          · cases E
        · cases E
      · cases E
    · cases G
  | scope x ih=>
    intro ac I a a' h h' e E ro B ρ w act R J ht hr K L;obtain⟨c0,ex,Y,Q,G,Z,rfl⟩:=I;simp only[tr]at G;split at G
    · exact S0 ok G E R J ht hr K L
    · refine pM (wpIn_mono (ih ⟨c0,ex,Y,Q,G,Z,rfl⟩ E R J ht hr K L) ?_);rintro q U M hq
      cases q with
      | goto l=>obtain⟨h1,_⟩:=hq;cases e<;>cases h1
      | _=>exact hq
  | label l=>intro ac I a a' h h' e E ro B ρ w act R J ht hr K L;obtain⟨c0,ex,Y,Q,G,Z,rfl⟩:=I;simp only[tr]at G;cases G;simp only[live,aS]at E;cases E;exact wpIn_label ⟨rfl,ρ,ht,hr,Stp.refl _ _ _,L⟩
  | goto l=>intro ac I;obtain⟨c0,ex,Y,Q,G,Z,rfl⟩:=I;simp[tr]at G
  | refuse s=>intro ac I;obtain⟨c0,ex,Y,Q,G,Z,rfl⟩:=I;simp[tr]at G
def I2{B:Nat}{ρ:Emb}{h:H}{w0:World}{fn:Func}{tmps:Array Value}{R:Ending->World->Prop} :
    ∀{ds:List Deferred} {w:World},MK B ρ w ds->HR P ρ h w->
      (∀w',HR P ρ h w'->w'.os=w.os->w'.tape=w.tape->w'.output=w.output->w.heap.size<=w'.heap.size->(∀b,b<B->w'.heap[b]? =w.heap[b]?)->∃v,(results fn tmps).run P w'= .ok v w'/\R (.returned v) w')->
      LeavesInM Fence.wide 0 P fn tmps R ds .returning w
  | [],w,_,hr,u=>by unfold LeavesInM LeavesIn;exact u w hr rfl rfl rfl (Ac _) fun _ _=>rfl
  | d::ds,w,⟨⟨D,hB,h1,h2,h3,S⟩,E⟩,hr,u=>by
    subst h1;unfold LeavesInM;refine⟨by simp,.inl ⟨D,w.putObj D (.deferred Ja),rfl,run_takeDeferred h2,?_⟩⟩;have hlt:D<w.heap.size:=(Array.getElem?_eq_some_iff.1 h2).1;have G:HR P ρ h (w.putObj D (.deferred Ja)):=by
      refine⟨hr.gat.il fun b l hb hlt=>World.putObj_heap_other fun e=>?_,hr.ma,fun x l y=>by have:=hr.fb x l y;simpa using this,fun x l o y hg=>(hr.obj x l o y hg).mono (Sub.refl ρ) (World.putObj_heap_other (h3 x l y)),hr.inj⟩;obtain⟨cs,e',fz,M,_⟩:=hr.gat b l hb;subst e;rw[h2]at M;cases M
    have I:MK B ρ (w.putObj D (.deferred Ja)) ds:=by
      have J:∀{ds:List Deferred},MK B ρ w ds->({target:= .collected D,args:= #[]} :Deferred)∉ds->MK B ρ (w.putObj D (.deferred Ja)) ds:=by
        intro ds
        induction ds with
        | nil=>intro _ _;trivial
        | cons d ds T=>rintro⟨⟨O,K,k1,k2,U,V⟩,Y⟩ Q;have L:O≠D:=fun e=>Q (by rw[k1,e];simp);exact⟨⟨O,K,k1,by rw[World.putObj_heap_other L];exact k2,U,V⟩,T Y fun hh=>Q (Dh _ hh)⟩
      exact J E S
    refine I2 (w0:=w0) I G ?_;intro w' Z q2 q3 q4 q5 q6;exact u w' Z q2 q3 q4 (by simpa using q5) (fun b hb=>by rw[q6 b hb,World.putObj_heap_other (by omega)])
def aEp{ρ:Emb}{h:H}{w:World}{a:List AV}{tmps:Array Value}(ht:TR ρ a tmps)(hr:HR P ρ h w){r:ResultVar}{J:ll}(y:B5 P r=Iz J){v:AV}(hv:BT a h J=Iz v):
    ∃u,VR ρ v u/\(match r with | ResultVar.tmp t=>(pure (tmps.getD t undef):Sem Value) | ResultVar.cell a t=>do loadVar t (<-asAddr (tmps.getD a undef))).run P w=Result.ok u w:=by
  cases r with
  | tmp t=>simp only[B5]at y;cases y;simp only[BT]at hv;cases hv;exact⟨_,ht.get t,rfl⟩
  | cell t O=>
    simp only[B5]at y;split at y
    · rename_i n hg hs;cases y;simp only[BT]at hv;split at hv
      · rename_i b i hb
        cases E:bH h b i n with
        | none=>simp[E]at hv
        | some cs=>simp[E]at hv;subst hv;have:=ht.get t;rw[hb]at this;obtain⟨l,hl,G⟩:=this.gu;obtain⟨ver,rw,all,B,L,e⟩:=cW E;obtain⟨K,h1,h2,h3⟩:=(hr.obj b l _ hl B).cells L e;refine⟨.agg K.toArray,h1.pf,?_⟩;have I:(loadCells ⟨l.blk,l.base+i,Ja⟩ n).run P w= .ok K.toArray w:=mW h2 (fun j u M=>by rw[Addr.ij];exact h3 j u M);simp only[G,asAddr,Sem.run_bind,Sem.run_pure,Result.andThen_ok,loadVar,iO hg,if_true,dC hs,I]
      · cases hv
    · rename_i hg;cases y;simp only[BT]at hv;split at hv
      · rename_i b i hb;have:=ht.get t;rw[hb]at this;obtain⟨l,hl,G⟩:=this.gu;obtain⟨Q,B,_⟩:=vJ hv;obtain⟨u,h1,h2⟩:=(hr.obj b l _ hl B).cell B hv;refine⟨u,h2,?_⟩;simp[G,asAddr,loadVar,iO hg,h1]
      · cases hv
    · cases y
def CT{ρ:Emb}{h:H}{w:World}{a:List AV}{tmps:Array Value}(ht:TR ρ a tmps)(hr:HR P ρ h w):∀{J:List ResultVar} {E:List ll},eI (B5 P) J=Iz E->∀{G:List AV},eD a h E=Iz G->
    ∃I,VRs ρ G I/\(J.mapM (fun(r:ResultVar)=>match r with | ResultVar.tmp t=>(pure (tmps.getD t undef):Sem Value) | ResultVar.cell a t=>do loadVar t (<-asAddr (tmps.getD a undef)))).run P w=Result.ok I w
  | [],E,B,G,hv=>by cases B;cases hv;exact⟨[],VRs.nil ρ,rfl⟩
  | r::J,E,B,G,hv=>by
    unfold eI at B;split at B
    · rename_i y T L K;cases B;unfold eD at hv;split at hv
      · rename_i v M h1 h2;cases hv;obtain⟨u,O,Q⟩:=aEp ht hr L h1;obtain⟨I,R,S⟩:=CT ht hr K h2;refine⟨u::I,.cons O R,?_⟩;simp only[List.mapM_cons,Sem.run_bind];rw[Q];simp only[Result.andThen_ok,S,Sem.run_pure]
      · cases hv
    · cases B
def LZ{ρ:Emb}{h:H}{w:World}{a:List AV}{tmps:Array Value}{fn:Func}{y:List ll}(ht:TR ρ a tmps)(hr:HR P ρ h w)(E:eI (B5 P) fn.results.toList=Iz y){G:List AV}(hv:eD a h y=Iz G):
    ∃u,VR ρ (jR G) u/\(results fn tmps).run P w= .ok u w:=by
  obtain⟨B,h1,h2⟩:=CT ht hr E hv;refine⟨if h:B.toArray.size=1 then B.toArray[0]else .tuple B.toArray,?_,?_⟩
  · have hl:=h1.1;unfold jR;split
    · rename_i v;obtain⟨u,J,rfl,K,L⟩:=h1.cons_inv;rw[L.ct];simpa using K
    · rename_i I;have:B.toArray.size≠1:=by
        intro e;have M:G.length=1:=by rw[<-hl];simpa using e
        obtain⟨v,rfl⟩:=List.length_eq_one_iff.1 M;exact I v rfl
      rw[dif_neg this];exact h1.kj
  · unfold results;rw[Sem.run_bind,Array.mapM_eq_mapM_toList,Sem.run_map];exact congrArg (fun(z:Result (List Value))=>(z.andThen fun a w'=>Result.ok a.toArray w').andThen fun a w'=>Sem.run P (pure (if h:a.size=1 then a[0]else Value.tuple a)) w') h2
structure PrimOk (P:Program) (g:FuncId) (f:List AV->H->Option (AV×H)):Prop where
  ev:∀args h v h',f args h=Iz (v,h')->Ev h h'
  fn:∃fn,P.funcs[g]? =Iz fn/\fn.body.isSome=Jb/\(fn.name== "runtime.NumGoroutine")=Jc
  call:∀args h v h',f args h=Iz (v,h')->∀ρ w us,VRs ρ args us->HR P ρ h w->cz ρ h h'->CallsIn Fence.wide 0 P g us.toArray w (vR P ρ h w v h')
structure nj (P:Program) (tab:FuncId->Option AF):Prop where
  fn:∀g F,tab g=Iz (.fn F)->∃fn,P.funcs[g]? =Iz fn/\trFn P fn=Iz F/\(fn.name== "runtime.NumGoroutine")=Jc
  kq:∀g f,tab g=Iz (.kq f)->PrimOk P g f
def Y4{c:Code}{y:AC}{B u E:Nat}{ex:List (Nat×Nat)}(h:tr P c=Iz y):nO P c (live B y u ex E).2:=⟨y,ex,E,u,h,B,rfl⟩
def AD(ok:eu P rec m){S:FuncId->Option AF}(ht:nj P S){g:FuncId}{args:List AV}{h I:H}{v:AV}(y:gD rec S g args h=Iz (v,I)):
    Ev h I/\(∃fn,P.funcs[g]? =Iz fn/\fn.body.isSome=Jb/\(fn.name== "runtime.NumGoroutine")=Jc)/\
    ∀ρ w J,VRs ρ args J->HR P ρ h w->cz ρ h I->CallsIn Fence.wide 0 P g J.toArray w (vR P ρ h w v I):=by
  unfold gD at y;split at y
  · rename_i f hf;have hp:=ht.kq g f hf;exact⟨hp.ev _ _ _ _ y,hp.fn,hp.call _ _ _ _ y⟩
  · rename_i F hF;obtain⟨fn,q1,R,q3⟩:=ht.fn g F hF;unfold trFn at R;split at R
    · rename_i b T hb a2;split at R
      · rename_i c0 a3;cases R;have M:∀(e:Ex) (L:List AV),(e= .normal\/e= .ret)->aS rec (live fn.ntmps c0 (wP T) [] (wP T)).2 (yT args fn.ntmps) h=Iz (e,L,I)->eD L I T=Iz (match eD L I T with | some U=>U | none=>[])->v=jR (match eD L I T with | some U=>U | none=>[])->
            Ev h I/\(∃fn,P.funcs[g]? =Iz fn/\fn.body.isSome=Jb/\(fn.name== "runtime.NumGoroutine")=Jc)/\
            ∀ρ w J,VRs ρ args J->HR P ρ h w->cz ρ h I->CallsIn Fence.wide 0 P g J.toArray w (vR P ρ h w v I):=by
          intro e L he E V hv;have a4:=dN ok E;refine⟨a4,⟨fn,q1,by rw[hb];rfl,q3⟩,?_⟩;intro ρ w J Y hr a5;refine callsIn_of_wp_marks q1 hb trivial ?_ rfl;have Z:TR ρ (yT args fn.ntmps) (J.toArray++Ez (fn.ntmps-J.toArray.size) undef):=by
            unfold TR yT;have hl:J.toArray.size=args.length:=by simpa using Y.1
            rw[hl];simp only[Array.toList_append,Array.toList_replicate];exact VRs.append Y (VRs.replicate (.ae _) _)
          have hc:=yC ok b (Y4 a3) E (ro:=Ja) (B:=w.heap.size) (act:={tmps:=J.toArray++Ez (fn.ntmps-J.toArray.size) undef,defers:=[]}) (Ac _) (fun l hl=>by cases hl) Z hr a5 trivial;refine wpIn_mono hc ?_;rintro q O w' ⟨rfl,ρ',t',r',Q,mk'⟩;have G:LeavesInM Fence.wide 0 P fn O.tmps (vR P ρ h w v I) O.defers .returning w':=by
            refine I2 (w0:=w) mk' r' ?_;intro w2 k1 k2 k3 k4 k5 k6;obtain⟨u,g1,g2⟩:=LZ t' k1 a2 V;refine⟨u,g2,u,ρ',rfl,by rw[hv];exact g1,k1,⟨Q.sub,Q.dom,Q.own,Ah Q.size k5,k2.trans Q.os,k3.trans Q.tape,k4.trans Q.output,fun bb a0 a6=>by rw[k6 bb a0];exact Q.frame bb a0 a6⟩⟩
          rcases he with rfl | rfl
          · exact G
          · exact G
        split at y
        · rename_i L h1 E;split at y
          · rename_i U K;cases y;exact M .normal L (.inl rfl) E (by rw[K]) (by rw[K])
          · cases y
        · rename_i L h1 E;split at y
          · rename_i U K;cases y;exact M .ret L (.inr rfl) E (by rw[K]) (by rw[K])
          · cases y
        · cases y
      · cases R
    · cases R
  · cases y
def W1{O:FuncId->Option AF}(ht:nj P O):∀n,eu P (run O n) n
  | 0=>by
    refine⟨?_,?_,?_,?_,?_,?_,?_⟩
    · intro g args h v E hr;cases hr
    · intro g args h v E hr;cases hr
    · intro g args h v E hr;cases hr
    · intro ac a h e M E hr;cases hr
    · intro c ac _ a h e M E hr;cases hr
    · intro c ac _ S a h e M E hr;cases hr
    · intro l c ac _ S a h e M E hr;cases hr
  | n+1=>by
    have L:=W1 ht n;refine⟨fun g args h v E hr=>(AD L ht hr).1,fun g args h v E hr=>(AD L ht hr).2.1,fun g args h v E hr=>(AD L ht hr).2.2,fun ac a h e M E hr=>dN L hr,?_,?_,?_⟩
    · intro c ac u a h e M E hr T B ρ w Q R y G I J K;exact yC L c u hr R y G I J K
    · intro c ac u S a h e M E hr T B ρ w Q R y G I J K;exact I5 L u (yC L c u) hr R y G I J K
    · intro l c ac u S a h e M E hr T B ρ w Q R y G I J K;exact JG L u hr R y G I J K
end
open Go.ChangeShapes Go.WideShapes Go.ChangeAt Go.RowKit
def aD2(P:Program)(g:Nat)(F:AFn):Prop:=∃fn,P.funcs[g]? =Iz fn/\trFn P fn=Iz F/\(fn.name== "runtime.NumGoroutine")=Jc
def sK{P:Program}{y:FuncId->Option AF}(ht:nj P y){n:Nat}{g:FuncId}{args:List AV}{h E:H}{v:AV}(B:(run y n).call g args h=Iz (v,E))
    {ρ:Emb} {w:World} {us:List Value} (hv:VRs ρ args us) (hr:HR P ρ h w) (G:cz ρ h E) (I:∀x l o,ρ x=Iz l->h.get x=Iz o->o.bw=Jc):
    Calls P g us.toArray w fun e w'=>∃u J,e= .returned u/\VR J v u/\Below w.heap.size w w':=by
  have K:=callsIn_wide.1 ((W1 ht n).call g args h v E B ρ w us hv hr G);refine K.mono ?_;rintro e w' ⟨u,J,rfl,h1,h2,s⟩;refine⟨u,J,rfl,h1,⟨s.os,s.tape,s.output,s.size,fun b hb=>s.frame b hb ?_⟩⟩;intro x l o L hg hl;rw[I x l o L hg]at hl;cases hl
def LG{ρ:Emb}{b:Bool}{u:Value}(h:VR ρ (.bool b) u):u= .bool b:=h.cm
section
variable {H:Type} {enc:TypeId×Value->H} {P:Program}
def post_of_below{f:Func}{s:ChangeSpec}{apart G u I:Bool}{W W':World}{args:Array Value}{v:Value}{ds gs:List (DataW H)}{before pa pv:List MemPlace}
    (hW:DataW.Whole enc P f.params.toList s.vars apart W args.toList ds gs before)
    (E:∀(b:Nat) (sp:Nat->Bool) (hd:Bool),DataW.TrodAll enc P W' b sp hd f.resultTypes.toList (v.resultList f.resultTypes.size) (s.fn H (ds++gs)).results [])
    (y:∀sp:Nat->Bool,(∀p∈before,sp p.block=Jb)->DataW.TrodAll enc P W' 0 sp Jb f.params.toList args.toList (s.fn H (ds++gs)).args pa)
    (B:∀sp:Nat->Bool,(∀p∈before,sp p.block=Jb)->DataW.TrodVars enc P W' sp s.vars (s.fn H (ds++gs)).vars pv)
    (J:before=pa++pv) (O:Below W.heap.size W W')
    (M:∀(j:Nat) (t:TypeId) (r:Value),f.resultTypes[j]? =Iz t->(v.resultList f.resultTypes.size)[j]? =Iz r->Value.okWide P W' .any 0 t r):
    s.post enc P f apart G u I W args v W':=by
  have hold:∀p∈before,(fun b=>decide (b<W.heap.size)) p.block=Jb:=fun p K=>by simpa using hW.lt p K
  refine⟨ds,gs,before,[],pa,pv,hW,E _ _ _,y _ hold,B _ hold,O.frame _,fun _=>?_⟩;have hlt:=hW.lt;obtain⟨_,_,_,_,_,hz,Q⟩:=hW;refine⟨M,_,_,([]++pa)++pv,⟨[]++pa,pv,trodAll_append (y _ fun _ _=>rfl) (E _ _ _),B _ (fun _ _=>rfl),rfl,?_,?_⟩,?_⟩
  · intro b off K;have L:MemPlace.cell b off∈before:=by rw[J];simpa using K
    rw[O.frozen (hlt _ L)];exact hz b off L
  · intro R;have:=Q R;rw[J]at this;simpa using this
  · intro p K _;rw[J];simpa using K
end
open Go.ChangeShapes Go.WideShapes Go.ChangeAt Go.RowKit
def KT.Ok(P:Program):KT->Prop
  | .leaf=>True
  | .node l k f r=>aD2 P k f/\l.Ok P/\r.Ok P
  | .tru l k r=>PrimOk P k H7/\l.Ok P/\r.Ok P
  | .tz l k r=>PrimOk P k primTz/\l.Ok P/\r.Ok P
  | .prr l k F r=>PrimOk P k (bN F)/\l.Ok P/\r.Ok P
  | .prm l k F r=>PrimOk P k (m8 F)/\l.Ok P/\r.Ok P
def KT.fg{P:Program} :∀{t:KT} {g:Nat} {F:AFn},t.Ok P->t.find g=Iz (.fn F)->aD2 P g F
  | .leaf,_,_,_,h=>by cases h
  | .node l k f r,g,F,u,h=>by
    unfold KT.find at h;split at h
    · rename_i e;cases h;subst e;exact u.1
    · split at h
      · exact KT.fg u.2.1 h
      · exact KT.fg u.2.2 h
  | .tru l k r,g,F,u,h=>by
    unfold KT.find at h;split at h
    · cases h
    · split at h
      · exact KT.fg u.2.1 h
      · exact KT.fg u.2.2 h
  | .tz l k r,g,F,u,h=>by
    unfold KT.find at h;split at h
    · cases h
    · split at h
      · exact KT.fg u.2.1 h
      · exact KT.fg u.2.2 h
  | .prr l k _ r,g,F,u,h=>by
    unfold KT.find at h;split at h
    · cases h
    · split at h
      · exact KT.fg u.2.1 h
      · exact KT.fg u.2.2 h
  | .prm l k _ r,g,F,u,h=>by
    unfold KT.find at h;split at h
    · cases h
    · split at h
      · exact KT.fg u.2.1 h
      · exact KT.fg u.2.2 h
def KT.dj{P:Program} :∀{t:KT} {g:Nat} {f:List AV->H->Option (AV×H)},t.Ok P->t.find g=Iz (.kq f)->PrimOk P g f
  | .leaf,_,_,_,h=>by cases h
  | .node l k f r,g,F,u,h=>by
    unfold KT.find at h;split at h
    · cases h
    · split at h
      · exact KT.dj u.2.1 h
      · exact KT.dj u.2.2 h
  | .tru l k r,g,F,u,h=>by
    unfold KT.find at h;split at h
    · rename_i e;cases h;subst e;exact u.1
    · split at h
      · exact KT.dj u.2.1 h
      · exact KT.dj u.2.2 h
  | .tz l k r,g,F,u,h=>by
    unfold KT.find at h;split at h
    · rename_i e;cases h;subst e;exact u.1
    · split at h
      · exact KT.dj u.2.1 h
      · exact KT.dj u.2.2 h
  | .prr l k _ r,g,F,u,h=>by
    unfold KT.find at h;split at h
    · rename_i e;cases h;subst e;exact u.1
    · split at h
      · exact KT.dj u.2.1 h
      · exact KT.dj u.2.2 h
  | .prm l k _ r,g,F,u,h=>by
    unfold KT.find at h;split at h
    · rename_i e;cases h;subst e;exact u.1
    · split at h
      · exact KT.dj u.2.1 h
      · exact KT.dj u.2.2 h
def KT.tabOk{P:Program}{t:KT}(h:t.Ok P):nj P t.find where
  fn g F hg:=by obtain⟨fn,h1,h2,h3⟩:=KT.fg h hg;exact⟨fn,h1,h2,h3⟩
  kq g f hg:=KT.dj h hg
def SD(y:Int):0<=IntKind.u64.wrap y/\IntKind.u64.wrap y<18446744073709551616:=by
  have e:IntKind.u64.wrap y=y % 18446744073709551616:=by unfold IntKind.wrap;simp[IntKind.bits,IntKind.signed]
  rw[e];exact⟨Int.emod_nonneg _ (by omega),Int.emod_lt_of_pos _ (by omega)⟩
def SL(x:Int):0<=tzIdx x/\tzIdx x<64:=by unfold tzIdx;have:=SD (PK x*285870213051353865);omega
def WG:tzF 0=64:=by unfold tzF;rw[if_pos rfl]
def SK:tzTab.length=64:=rfl
def WF:∀y∈tzTab,y<64:=by decide
def aD6{x:Int}(u:¬x=0){n:Nat}(h:tzTab[(tzIdx x).toNat]? =Iz n):tzF x=wrap64 (n:Int):=by have hs:n<64:=WF _ (Ae h);unfold tzF;rw[if_neg u,h];show(n:Int)=_;unfold wrap64;omega
def prim_tz{P:Program}{g:FuncId}{b:Nat}(hfn:∃fn,P.funcs[g]? =Iz fn/\fn.body.isSome=Jb/\(fn.name== "runtime.NumGoroutine")=Jc)(hb:gmem P b=Iz (.ints .u8 tzTab))
    (h0:∀w:World,Calls P g #[.int .u64 0] w fun e w'=>e= .returned (.int .i64 64)/\w'=w)
    (h1:∀(w:World) (x v:Int),(x==0)=Jc->w.cell? ⟨b,(tzIdx x).toNat,Ja⟩=Iz (.int .u8 v)->tzIdx x<64->0<=tzIdx x->Calls P g #[.int .u64 x] w fun e w'=>e= .returned (.int .i64 (wrap64 v))/\w'=w):PrimOk P g primTz where
  ev args h v h' hr:=by
    unfold primTz at hr;split at hr
    · cases hr;exact Ev.refl h
    · cases hr
  fn:=hfn
  call args h v h' hr ρ w us hv hh hf:=by
    unfold primTz at hr;split at hr
    · rename_i n hn;cases hr;unfold EX at hn;split at hn
      · rename_i x;cases hn;obtain⟨u,us',rfl,hu,hus⟩:=hv.cons_inv;rw[hus.ct,hu.bh];have key:Calls P g #[.int .u64 x] w fun e w'=>e= .returned (.int .i64 (tzF x))/\w'=w:=by
          by_cases e:x=0
          · rw[e,WG];exact h0 w
          · have hi0:=SL x;obtain⟨cs,ty,fz,g1,g2⟩:=hh.gat b _ hb;obtain⟨n,hn⟩:∃n,tzTab[(tzIdx x).toNat]? =Iz n:=⟨_,Ad (by rw[SK];omega)⟩;have hc:cs.toList[(tzIdx x).toNat]? =Iz (.int .u8 (n:Int)):=by
              rw[show cs.toList=_ from g2,Ap,hn];rfl
            have hcell:w.cell? ⟨b,(tzIdx x).toNat,Ja⟩=Iz (.int .u8 (n:Int)):=by rw[Bu]at hc;generalize (tzIdx x).toNat=k at hc ⊢;simp only[World.cell?,g1,Hk,Bs,if_false];exact hc
            have:=h1 w x _ (by simpa using e) hcell hi0.2 hi0.1;rw[aD6 e hn];exact this
        refine callsIn_wide.2 (key.mono ?_);rintro e w' ⟨rfl,rfl⟩;exact⟨_,ρ,rfl,.int _ _,hh,Stp.refl _ _ _⟩
      · cases hn
    · cases hr
open Go.ChangeShapes Go.WideShapes Go.ChangeAt Go.RowKit
inductive Ty where
  | int (k:IntKind)
  | bool
  | str
  | slice (e:Ty)
  | unit
  | pair (a b:Ty)
  deriving Inhabited
def Ty.size:Ty->Nat
  | .unit=>0
  | .pair a b=>a.size+b.size
  | _=>1
def Sh:Ty->List AV->H->Prop
  | .int k,cs,_=>∃n,cs=[.int k n]/\k.min<=n/\n<=k.max
  | .bool,cs,_=>∃b,cs=[.bool b]
  | .str,cs,_=>∃s:ByteArray,cs=[.str s]/\s.size<=maxLen
  | .slice e,cs,h=>cs=[.ah]\/∃b n cells,cs=[.slice Jc e.size b 0 n]/\n<=maxLen/\h.get b=Iz (.cells 0 Jc cells)/\cells.length=n*e.size/\
      ∀i,i<n->Sh e ((cells.drop (i*e.size)).take e.size) h
  | .unit,cs,_=>cs=[]
  | .pair a b,cs,h=>∃u y,cs=u++y/\Sh a u h/\Sh b y h
structure fk (h h':H):Prop where
  next:h.next<=h'.next
  get:∀x o,h.get x=Iz o->h'.get x=Iz o
def fk.refl(h:H):fk h h:=⟨Ac _,fun _ _ h=>h⟩
def fk.trans{a b c:H}(p:fk a b)(q:fk b c):fk a c:=⟨Ah p.next q.next,fun x o h=>q.get x o (p.get x o h)⟩
def fk.alloc(h:H)(o:bz):fk h (h.alloc o):=⟨by simp,fun x u hg=>H.fc hg⟩
def Sh.mono{h u:H}(g:fk h u):∀{T:Ty} {cs:List AV},Sh T cs h->Sh T cs u
  | .int k,cs,hs=>hs
  | .bool,cs,hs=>hs
  | .str,cs,hs=>hs
  | .unit,cs,hs=>hs
  | .slice e,cs,hs=>by
    rcases hs with hs | ⟨b,n,cells,h1,h2,h3,y,B⟩
    · exact .inl hs
    · exact .inr ⟨b,n,cells,h1,h2,g.get _ _ h3,y,fun i E=>Sh.mono g (B i E)⟩
  | .pair a b,cs,hs=>by obtain⟨G,I,e,h1,h2⟩:=hs;exact⟨G,I,e,Sh.mono g h1,Sh.mono g h2⟩
def Sh.length{h:H} :∀{T:Ty} {cs:List AV},Sh T cs h->cs.length=T.size
  | .int k,cs,hs=>by obtain⟨n,rfl,_⟩:=hs;rfl
  | .bool,cs,hs=>by obtain⟨n,rfl⟩:=hs;rfl
  | .str,cs,hs=>by obtain⟨n,rfl,_⟩:=hs;rfl
  | .unit,cs,hs=>by have hs:cs=[]:=hs;subst hs;rfl
  | .slice e,cs,hs=>by rcases hs with rfl | ⟨b,n,cells,rfl,_⟩<;>rfl
  | .pair a b,cs,hs=>by obtain⟨u,y,rfl,h1,h2⟩:=hs;simp[Ty.size,Sh.length h1,Sh.length h2]
structure Laid (P:Program) (ρ:Emb) (h:H) (w:World):Prop where
  hr:HR P ρ h w
  dom:∀x,h.next<=x->ρ x=Ja
  ro:∀x o,h.get x=Iz o->o.bw=Jc
section
variable {P:Program}
def Laid.empty(w:World)(hg:GlbAt P w):Laid P (fun _=>Ja) H.empty w:=
  ⟨⟨hg,fun _ _ _ _ _ _ h=>by(cases h),fun _ _ h=>by(cases h),fun _ _ _ h=>by(cases h),fun _ _ _ _ _ _ h=>by(cases h)⟩,fun _ _=>rfl,fun x o h=>by have:=H.be h;exact absurd this (Nat.not_lt_zero _)⟩
def Laid.add{ρ:Emb}{h:H}{w:World}(hl:Laid P ρ h w){cells:List AV}{l:Loc}(hb:l.blk<w.heap.size)(K:OR P ρ w l (.cells 0 Jc cells)):
    Laid P (upd ρ h.next l) (h.alloc (.cells 0 Jc cells)) w/\Sub ρ (upd ρ h.next l):=by
  have hs:=gM (l:=l) (hl.dom _ (Ac _));refine⟨⟨⟨hl.hr.gat,fun b l _ x I J u hg E=>?_,fun x I u=>?_,fun x I J u hg=>?_,fun x y I Q J R u S B L G M O=>?_⟩,fun x u=>?_,fun x o hg=>?_⟩,hs⟩
  · exfalso;by_cases e:x=h.next
    · subst e;rw[H.aj]at hg;cases hg;cases E
    · rw[H.au,if_neg e]at hg;rw[hl.ro x J hg]at E;cases E
  · by_cases e:x=h.next
    · subst e;rw[bA]at u;cases u;exact hb
    · rw[bO e]at u;exact hl.hr.fb x I u
  · by_cases e:x=h.next
    · subst e;rw[bA]at u;cases u;rw[H.aj]at hg;cases hg;exact K.mono hs rfl
    · rw[bO e]at u;rw[H.au,if_neg e]at hg;exact(hl.hr.obj x I J u hg).mono hs rfl
  · exfalso;by_cases e:x=h.next
    · subst e;rw[H.aj]at B;cases B;cases G
    · rw[H.au,if_neg e]at B;rw[hl.ro x J B]at G;cases G
  · have u:h.next+1<=x:=u;rw[bO (by omega)];exact hl.dom x (by omega)
  · by_cases e:x=h.next
    · subst e;rw[H.aj]at hg;cases hg;rfl
    · rw[H.au,if_neg e]at hg;exact hl.ro x o hg
def Laid.add0{ρ:Emb}{h:H}{w:World}(hl:Laid P ρ h w)(cells:List AV):Laid P ρ (h.alloc (.cells 0 Jc cells)) w:=by
  have J:=hl.dom _ (Ac _);refine⟨⟨hl.hr.gat,fun b l _ x K B u hg E=>?_,hl.hr.fb,fun x K B u hg=>?_,fun x y K Q B R u S G L I M O=>?_⟩,fun x u=>?_,fun x o hg=>?_⟩
  · exfalso;by_cases e:x=h.next
    · subst e;rw[J]at u;cases u
    · rw[H.au,if_neg e]at hg;rw[hl.ro x B hg]at E;cases E
  · by_cases e:x=h.next
    · subst e;rw[J]at u;cases u
    · rw[H.au,if_neg e]at hg;exact hl.hr.obj x K B u hg
  · exfalso;by_cases e:x=h.next
    · subst e;rw[J]at u;cases u
    · rw[H.au,if_neg e]at G;rw[hl.ro x B G]at I;cases I
  · have u:h.next+1<=x:=u;exact hl.dom x (by omega)
  · by_cases e:x=h.next
    · subst e;rw[H.aj]at hg;cases hg;rfl
    · rw[H.au,if_neg e]at hg;exact hl.ro x o hg
def sD(P:Program)(f:TypeId->Option Ty):Nat->List Field->Option Ty
  | _,[]=>Iz .unit
  | off,x::u=>match f x.type,sD P f (x.offset+P.cellsOf x.type) u with
    | some a,Iz b=>if x.offset=off/\a.size=P.cellsOf x.type then Iz (.pair a b)else Ja
    | _,_=>Ja
def EG(a:Ty):Nat->Ty
  | 0=> .unit
  | n+1=> .pair a (EG a n)
def GV(P:Program):Nat->TypeId->Option Ty
  | 0,_=>Ja
  | m+1,t=>match P.underlying t with
    | some (.int k)=>Iz (.int k)
    | some .bool=>Iz .bool
    | some .string=>Iz .str
    | some (.slice e)=>match GV P m e with
      | some T=>if T.size=P.cellsOf e/\0<T.size then Iz (.slice T)else Ja
      | none=>Ja
    | some (.struct u)=>match sD P (GV P m) 0 u.toList with
      | some T=>if T.size=P.cellsOf t then Iz T else Ja
      | none=>Ja
    | some (.array n e)=>match GV P m e with
      | some T=>if T.size=P.cellsOf e/\n*T.size=P.cellsOf t then Iz (EG T n)else Ja
      | none=>Ja
    | _=>Ja
def Got(P:Program)(w:World)(T:Ty)(cs:List Value):Prop:=∀(ρ:Emb) (h:H),Laid P ρ h w->∃y B u,Laid P y B w/\Sub ρ y/\fk h B/\VRs y u cs/\Sh T u B
def Got.pair{w:World}{A B:Ty}{u y:List Value}(K:Got P w A u)(L:Got P w B y):Got P w (.pair A B) (u++y):=by intro ρ h hl;obtain⟨M,h1,E,O,Q,R,S,T⟩:=K ρ h hl;obtain⟨U,h2,G,V,I,J,Y,Z⟩:=L M h1 O;exact⟨U,h2,E++G,V,Q.trans I,R.trans J,(S.mono I).append Y,E,G,rfl,T.mono J,Z⟩
def Got.unit(w:World):Got P w .unit []:=fun ρ h hl=>⟨ρ,h,[],hl,Sub.refl _,fk.refl _,VRs.nil _,rfl⟩
def JQ{w:World}{T:Ty} :∀(u:List (List Value)),(∀cs∈u,Got P w T cs)->∀(ρ:Emb) (h:H),Laid P ρ h w->
    ∃B E cells,Laid P B E w/\Sub ρ B/\fk h E/\VRs B cells u.flatten/\cells.length=u.length*T.size/\∀i,i<u.length->Sh T ((cells.drop (i*T.size)).take T.size) E
  | [],_,ρ,h,hl=>⟨ρ,h,[],hl,Sub.refl _,fk.refl _,VRs.nil _,by simp,fun i G=>by simp at G⟩
  | cs::u,hg,ρ,h,hl=>by
    obtain⟨L,h1,y,M,O,Q,R,I⟩:=hg cs (by simp) ρ h hl;obtain⟨S,h2,cells,U,J,K,V,Y,Z⟩:=JQ u (fun c hc=>hg c (by simp[hc])) L h1 M;have hlen:=I.length;refine⟨S,h2,y++cells,U,O.trans J,Q.trans K,by simpa using (R.mono J).append V,by simp[hlen,Y,Dn];omega,fun i G=>?_⟩
    cases i with
    | zero=>
      have:((y++cells).drop (0*T.size)).take T.size=y:=by rw[Dw,List.drop_zero,<-hlen,List.take_left]
      rw[this];exact I.mono K
    | succ i=>
      have:(y++cells).drop ((i+1)*T.size)=cells.drop (i*T.size):=by rw[Dn,Nat.add_comm,<-hlen,List.drop_append];simp
      rw[this];exact Z i (by simpa using G)
def cells?_spec{w:World}{a:Addr}{n:Nat}{cs:List Value}(h:w.cells? 0 a n=Iz cs):cs.length=n/\∀i,i<n->w.cell? (a.add i)=cs[i]? :=by unfold World.cells? at h;rw[if_pos (Af _)]at h;exact⟨by simpa using mapM_some_length h,fun i u=>mapM_some_get h i i (by simp[u])⟩
def cell?_spec{w:World}{a:Addr}{v:Value}(h:w.cell? a=Iz v):∃c e f,w.heap[a.block]? =Iz (.cells c e f)/\a.spot=Ja/\c[a.off]? =Iz v:=by
  unfold World.cell? at h;split at h
  · rename_i c e f u;split at h
    · cases h
    · rename_i hs;refine⟨c,e,f,u,?_,h⟩
      cases hsp:a.spot with
      | none=>rfl
      | some x=>rw[hsp]at hs;simp at hs
  · cases h
def pK(a:Addr)(n:Nat):(a.add n).block=a.block:=by unfold Addr.add;split<;>rfl
def RJ(a:Addr)(n:Nat):(a.add n).off=a.off+n:=by unfold Addr.add;split<;>simp_all
def qK{w:World}{a:Addr}{i sz:Nat}{cs:List Value}(h:w.cells? 0 (a.add (i*sz)) sz=Iz cs)(hz:0<sz):
    ∃c e f,w.heap[a.block]? =Iz (.cells c e f)/\(i=0->a.spot=Ja)/\cs.length=sz/\a.off+i*sz+sz<=c.size/\∀j,j<sz->c[a.off+i*sz+j]? =cs[j]? :=by
  obtain⟨h1,h2⟩:=cells?_spec h;have h0:∃v,cs[0]? =Iz v:=by
    cases cs with
    | nil=>simp at h1;omega
    | cons v l=>exact⟨v,rfl⟩
  obtain⟨L,G⟩:=h0;obtain⟨c,e,f,h3,I,M⟩:=cell?_spec ((h2 0 hz).trans G);rw[pK,pK]at h3;have y:∀j,j<sz->c[a.off+i*sz+j]? =cs[j]? :=by intro j J;have u:∃v,cs[j]? =Iz v:=⟨cs[j]'(by omega),by simp[Ad (h1▸J)]⟩;obtain⟨v,hv⟩:=u;obtain⟨O,Q,R,B,_,E⟩:=cell?_spec ((h2 j J).trans hv);rw[pK,pK,h3]at B;cases B;rw[RJ,RJ]at E;rw[E,hv]
  refine⟨c,e,f,h3,?_,h1,?_,y⟩
  · intro K;subst K;have:((a.add (0*sz)).add 0)=a:=by simp[Addr.add]
    rw[this]at I;exact I
  · have hl:=y (sz-1) (by omega);have u:cs[sz-1]? =Iz (cs[sz-1]'(by omega)):=Ad (by omega);rw[u]at hl;have:=(Array.getElem?_eq_some_iff.1 hl).1;omega
section
variable {H0:Type} {enc:TypeId×Value->H0} {w:World}
def zH{m:Nat}{n:Nat}(G:∀(t:TypeId) (T:Ty),GV P m t=Iz T->∀(cs:List Value) (x:DataW H0×List MemPlace),DataW.trod enc P w 0 (fun _=>Jb) Jb n t cs=Iz x->Got P w T cs){cs:List Value} :
    ∀(y:List Field) (off:Nat) (T:Ty),sD P (GV P m) off y=Iz T->off+T.size=cs.length->(∀f∈y,∃x,DataW.trod enc P w 0 (fun _=>Jb) Jb n f.type ((cs.drop f.offset).take (P.cellsOf f.type))=Iz x)->Got P w T (cs.drop off)
  | [],off,T,u,hl,_=>by
    cases u;have:cs.drop off=[]:=by simp[Ty.size]at hl;rw[hl];exact Gg
    rw[this];exact Got.unit w
  | f::y,off,T,u,hl,I=>by
    unfold sD at u;split at u
    · rename_i A B hA J;split at u
      · rename_i K;cases u;obtain⟨h1,h2⟩:=K;obtain⟨x,E⟩:=I f (by simp);have L:=G _ _ hA _ _ E;simp only[Ty.size]at hl;have M:=zH G y _ _ J (by omega) (fun f hf=>I f (by simp[hf]));have:=L.pair M;rw[h1]at this;have e:(cs.drop off).take (P.cellsOf f.type)++cs.drop (off+P.cellsOf f.type)=cs.drop off:=by
          rw[<-Ei,Cm]
        rw[e]at this;exact this
      · cases u
    · cases u
def DI{T:Ty}{cs:List Value} :∀(k off:Nat),off*T.size+k*T.size=cs.length->(∀i,off<=i->i<off+k->Got P w T ((cs.drop (i*T.size)).take T.size))->Got P w (EG T k) (cs.drop (off*T.size))
  | 0,off,hl,_=>by
    have:cs.drop (off*T.size)=[]:=by rw[show off*T.size=cs.length by omega];exact Gg
    rw[this];exact Got.unit w
  | k+1,off,hl,hg=>by
    have u:=hg off (Ac _) (by omega);have y:=DI (T:=T) (cs:=cs) k (off+1) (by rw[Dn]at hl ⊢;omega) (fun i h1 h2=>hg i (by omega) (by omega));have:=u.pair y;have e:(cs.drop (off*T.size)).take T.size++cs.drop ((off+1)*T.size)=cs.drop (off*T.size):=by
      rw[Dn,<-Ei,Cm]
    rw[e]at this;exact this
def sA:∀(m:Nat) (t:TypeId) (T:Ty),GV P m t=Iz T->∀(n:Nat) (cs:List Value) (x:DataW H0×List MemPlace),DataW.trod enc P w 0 (fun _=>Jb) Jb n t cs=Iz x->Got P w T cs
  | 0,t,T,hT,_,_,_,_=>by cases hT
  | m+1,t,T,hT,n,cs,x,hx=>by
    unfold GV at hT;split at hT
    · rename_i k hk;cases hT;obtain⟨z,rfl,_,hw⟩:=DataW.trod_int hk hx;intro ρ h hl;simp only[Lit.wf,Aq,decide_eq_true_eq]at hw;exact⟨ρ,h,[.int k z],hl,Sub.refl _,fk.refl _,.cons (.int _ _) (.nil _),z,rfl,hw.1,hw.2⟩
    · rename_i hk;cases hT;obtain⟨z,rfl,_⟩:=DataW.trod_bool hk hx;intro ρ h hl;exact⟨ρ,h,[.bool z],hl,Sub.refl _,fk.refl _,.cons (.bool _) (.nil _),z,rfl⟩
    · rename_i hk;cases hT;obtain⟨z,rfl,_,hz⟩:=DataW.trod_string hk hx;intro ρ h hl;exact⟨ρ,h,[.str z],hl,Sub.refl _,fk.refl _,.cons (.str _) (.nil _),z,rfl,hz⟩
    · rename_i e hk;split at hT
      · rename_i E hE;split at hT
        · rename_i hsz;cases hT;obtain⟨hsz,hpos⟩:=hsz;rcases DataW.trod_slice hk hx with⟨rfl,_⟩ | ⟨a,len,cap,elems,rest,n',rfl,rfl,_,_,hlc,hcm,hel,hle,hre,_⟩
          · intro ρ h hl;exact⟨ρ,h,[.ah],hl,Sub.refl _,fk.refl _,.cons .ah (.nil _),.inl rfl⟩
          · obtain⟨hrl,hre⟩:=hre rfl;rw[<-hsz]at hle hre
            --the cells of each element,up to the capacity
            have hcell:∀i,i<cap->∃cs y,w.cells? 0 (a.add (i*E.size)) E.size=Iz cs/\DataW.trod enc P w 0 (fun _=>Jb) Jb n' e cs=Iz y:=by
              intro i hi;rcases Az i len with hi' | hi'
              · have h1:=hle i hi';have h2:elems[i]? =Iz (elems[i]'(by omega)):=Ad (by omega);rw[h2]at h1;simp only[Option.bind_eq_some_iff]at h1;obtain⟨cs,h3,h4⟩:=h1;exact⟨cs,_,h3,h4⟩
              · have h1:=hre (i-len) (by omega);have h2:rest[i-len]? =Iz (rest[i-len]'(by omega)):=Ad (by omega);rw[h2]at h1;simp only[Option.bind_eq_some_iff]at h1;obtain⟨cs,h3,h4⟩:=h1;rw[show len+(i-len)=i by omega]at h3;exact⟨cs,_,h3,h4⟩
            intro ρ h hl
            let get (i:Nat):List Value:=(w.cells? 0 (a.add (i*E.size)) E.size).getD []
            have hgot:∀cs∈(Av len).map get,Got P w E cs:=by
              intro cs hcs;simp only[Em,Ek]at hcs;obtain⟨i,hi,rfl⟩:=hcs;obtain⟨cs,y,h1,h2⟩:=hcell i (by omega);have:get i=cs:=by simp[get,h1]
              rw[this];exact sA m e E hE _ _ _ h2
            obtain⟨ρ1,h1,cells,l1,s1,w1,v1,e1,q1⟩:=JQ _ hgot ρ h hl;simp only[Al,List.length_range]at e1 q1;rcases Ej cap with hc0 | hc0
            · subst hc0;have hl0:len=0:=by omega
              subst hl0;refine⟨ρ1,h1.alloc (.cells 0 Jc cells),[.slice Jc E.size h1.next 0 0],l1.add0 cells,s1,w1.trans (fk.alloc _ _),.cons (.slice _ _ _ _ _ _ _ (Ac _) hcm (by simp) fun h=>by omega) (.nil _),.inr ⟨_,0,cells,rfl,Af _,H.aj _ _,by simpa using e1,fun i hi=>by omega⟩⟩
            · obtain⟨c0,y0,hc1,_⟩:=hcell 0 hc0;obtain⟨c,el,fz,hb,hsp,_,hbd0,_⟩:=qK hc1 hpos;have hsp:=hsp rfl;obtain⟨cl,yl,hcl,_⟩:=hcell (cap-1) (by omega);obtain⟨c',el',fz',hb',_,_,hbd,_⟩:=qK hcl hpos;rw[hb]at hb';cases hb';have hbd:a.off+cap*E.size<=c.size:=by
                have:cap*E.size=(cap-1)*E.size+E.size:=by rw[<-Dn];congr 1;omega
                omega
              have hblk:a.block<w.heap.size:=(Array.getElem?_eq_some_iff.1 hb).1;have hlen:cells.length<=cap*E.size:=by rw[e1];exact Nat.mul_le_mul_right _ hlc
              have hor:OR P ρ1 w ⟨a.block,a.off,c.size⟩ (.cells 0 Jc cells):=by
                refine⟨c,fz,el,hb,rfl,(by show a.off+cells.length<=c.size;omega),(fun h=>by cases h),fun i v hv=>?_⟩;obtain⟨u,hu,hvr⟩:=v1.getElem hv;refine⟨u,?_,hvr⟩;show c[a.off+i]? =Iz u
                --where the i-th cell stands
                have hil:i<len*E.size:=by have:=(List.getElem?_eq_some_iff.1 hv).1;omega
                have hq:i / E.size<len:=Nat.div_lt_of_lt_mul (by rw[Co];exact hil);obtain⟨ci,yi,hci,_⟩:=hcell (i / E.size) (by omega);obtain⟨c',el',fz',hb',_,hcil,_,hcj⟩:=qK hci hpos;rw[hb]at hb';cases hb';have hm:i % E.size<E.size:=Nat.mod_lt _ hpos;have h3:=hcj (i % E.size) hm;have h4:a.off+i / E.size*E.size+i % E.size=a.off+i:=by
                  have:=Hs i E.size;rw[Co]at this;omega
                rw[h4]at h3;rw[h3]
                --the flattened list
                have hflat:∀(k:Nat) (css:List (List Value)) (q r:Nat) (hr:r<k),(∀x∈css,x.length=k)->css.flatten[q*k+r]? =(css[q]?).bind (·[r]?):=by
                  intro k css
                  induction css with
                  | nil=>intro q r hr _;simp
                  | cons x css ih=>
                    intro q r hr hx;have hxl:=hx x (by simp)
                    cases q with
                    | zero=>simp only[Dx,Dw,Aw,List.getElem?_cons_zero,Ew];rw[List.getElem?_append_left (by omega)]
                    | succ q=>simp only[Dx,List.getElem?_cons_succ];rw[List.getElem?_append_right (by rw[Dn];omega),<-ih q r hr (fun y hy=>hx y (by simp[hy]))];congr 1;rw[Dn];omega
                have h5:=hflat E.size ((Av len).map get) (i / E.size) (i % E.size) hm (by
                  intro x hx;simp only[Em,Ek]at hx;obtain⟨j,hj,rfl⟩:=hx;obtain⟨cj,yj,hcj,_⟩:=hcell j (by omega);have:get j=cj:=by simp[get,hcj]
                  rw[this];exact(cells?_spec hcj).1)
                have h6:i / E.size*E.size+i % E.size=i:=by have:=Hs i E.size;rw[Co]at this;omega
                rw[h6,hu]at h5;have h7:((Av len).map get)[i / E.size]? =Iz ci:=by simp[hq,get,hci]
                rw[h7]at h5;exact h5.symm
              obtain⟨l2,s2⟩:=l1.add (l:=⟨a.block,a.off,c.size⟩) hblk hor;refine⟨_,_,[.slice Jc E.size h1.next 0 len],l2,s1.trans s2,w1.trans (fk.alloc _ _),.cons (.slice _ _ _ _ _ cap a hlc hcm (by simp) fun _=>⟨_,bA _ _ _,?_,?_⟩) (.nil _),.inr ⟨_,len,cells,rfl,Ah hlc hcm,H.aj _ _,e1,fun i hi=>(q1 i hi).mono (fk.alloc _ _)⟩⟩
              · obtain⟨ab,ao,asp⟩:=a;have hsp:asp=Ja:=hsp;subst hsp;rfl
              · show a.off+0+cap*E.size<=c.size;omega
        · cases hT
      · cases hT
    · rename_i fs hk;split at hT
      · rename_i T' hT';split at hT
        · rename_i hsz;cases hT;obtain⟨xs,n',rfl,_,hcl,hxl,hxs⟩:=DataW.trod_struct hk hx;have:=zH (enc:=enc) (w:=w) (n:=n') (m:=m) (fun t T hT cs x hx=>sA m t T hT n' cs x hx) (cs:=cs) fs.toList 0 T hT' (by omega) (by
            intro f hf;obtain⟨i,hi,e⟩:=Dt hf;have h1:fs[i]? =Iz f:=by
              have hi':i<fs.size:=by simpa using hi
              simp only[El hi',Option.some.injEq];simpa using e
            have h2:=hxs i f h1;have hi2:i<xs.length:=by rw[hxl];simpa using hi
            exact⟨xs[i],by rw[h2];exact Ad hi2⟩)
          simpa using this
        · cases hT
      · cases hT
    · rename_i k e hk;split at hT
      · rename_i E hE;split at hT
        · rename_i hsz;cases hT;obtain⟨xs,n',rfl,_,hcl,hxl,hxs⟩:=DataW.trod_array hk hx;have:=DI (w:=w) (P:=P) (T:=E) (cs:=cs) k 0 (by omega) (fun i _ hi=>by
            have h2:=hxs i (by omega);have hi2:i<xs.length:=by omega
            rw[Ad hi2,<-hsz.1]at h2;exact sA m e E hE n' _ _ h2)
          simpa using this
        · cases hT
      · cases hT
    · cases hT
end
def Ty.isAgg:Ty->Bool
  | .unit | .pair .. =>Jb
  | _=>Jc
def ShV(T:Ty)(v:AV)(h:H):Prop:=∃u,Sh T u h/\v=if T.isAgg then .agg u else u.headD .ae
def aDn:List Ty->List AV->H->Prop
  | [],[],_=>True
  | T::u,v::y,h=>ShV T v h/\aDn u y h
  | _,_,_=>False
def FM(P:Program)(t:TypeId):Bool:=match P.underlying t with
  | some (.struct _) | some (.array _ _)=>Jb
  | _=>Jc
def tysOf(P:Program)(m:Nat):List TypeId->Option (List Ty)
  | []=>Iz []
  | t::u=>match GV P m t,tysOf P m u with
    | some T,Iz y=>if T.isAgg=FM P t then Iz (T::y)else Ja
    | _,_=>Ja
def ShV.mono{h y:H}(g:fk h y){T:Ty}{v:AV}(hs:ShV T v h):ShV T v y:=let ⟨u,h1,h2⟩:=hs;⟨u,h1.mono g,h2⟩
def DX{H0:Type}{enc:TypeId×Value->H0}{w:World}{r:Reach}{base:Nat}{m:Nat} :∀{O:List TypeId} {Q:List Ty} {I:List Value} {ds:List (DataW H0)} {S:List MemPlace},
    tysOf P m O=Iz Q->DataW.TrodAll enc P w 0 (fun _=>Jb) Jb O I ds S->(∀(j:Nat) t v,O[j]? =Iz t->I[j]? =Iz v->Value.okWide P w r base t v)->
    ∀(ρ:Emb) (h:H),Laid P ρ h w->∃U V args,Laid P U V w/\Sub ρ U/\fk h V/\VRs U args I/\aDn Q args V
  | [],Q,I,ds,S,G,Y,J,ρ,h,hl=>by
    cases G
    cases I with
    | nil=>exact⟨ρ,h,[],hl,Sub.refl _,fk.refl _,VRs.nil _,trivial⟩
    | cons v I=>cases ds<;>exact Y.elim
  | t::O,Q,I,ds,S,G,Y,J,ρ,h,hl=>by
    unfold tysOf at G;split at G
    · rename_i T a6 h1 h2;split at G
      · rename_i B;cases G;obtain⟨v,a7,d,a9,p,q,rfl,rfl,rfl,hv,Z⟩:=trodAll_cons Y;obtain⟨L,hv⟩:=hv;obtain⟨ρ1,w1,E,l1,s1,g1,v1,q1⟩:=sA m t T h1 L _ _ hv ρ h hl;obtain⟨ρ2,w2,args,l2,s2,g2,v2,q2⟩:=DX h2 Z (fun j t v ht hv=>J (j+1) t v ht hv) ρ1 w1 l1;have y:=J 0 t v rfl rfl;refine⟨ρ2,w2,(if T.isAgg then .agg E else E.headD .ae)::args,l2,s1.trans s2,g1.trans g2,.cons ?_ v2,⟨E,q1.mono g2,rfl⟩,q2⟩
        cases K:T.isAgg with
        | true=>
          rw[K]at B;have:∃cs,v= .agg cs:=by
            unfold Value.okWide at y;unfold FM at B;split at B
            · rename_i hu;rw[hu]at y;simp only at y;obtain⟨cs,e,_⟩:=y;exact⟨cs,e⟩
            · rename_i hu;rw[hu]at y;simp only at y;obtain⟨cs,e,_⟩:=y;exact⟨cs,e⟩
            · cases B
          obtain⟨cs,rfl⟩:=this;rw[if_pos rfl];have:=(v1.mono s2).pf;simpa [Value.cells]using this
        | false=>
          rw[if_neg (by simp)];have hlen:=q1.length;have a0:T.size=1:=by cases T<;>first | rfl | cases K
          have b0:=v1.1;obtain⟨R,rfl⟩:∃R,E=[R]:=by
            match E,hlen,a0 with
            | [R],_,_=>exact⟨R,rfl⟩
            | [],h1,h2=>simp[h2]at h1
            | _::_::_,h1,h2=>simp[h2]at h1
          obtain⟨u,b1,e,a1,a2⟩:=v1.cons_inv;rw[a2.ct]at e;have:v=u:=by
            have M:∀(cs:Array Value),v≠ .agg cs:=by
              intro cs a3;subst a3;unfold Value.okWide at y;rw[K]at B;unfold FM at B;split at B
              · cases B
              · cases B
              · rename_i a4 a5;split at y
                · rename_i f hf;exact a4 f hf
                · rename_i n' e' hf;exact a5 n' e' hf
                · unfold Cell.okWide at y;split at y;all_goals first
                    | (rename_i hh;cases hh)
                    | skip
                  all_goals first
                    | (rename_i h1 h2;cases h2)
                    | skip
                  unfold Cell.ok at y;split at y;all_goals first
                    | (rename_i h1 h2;cases h2)
                    | exact y.elim
            cases v with
            | agg cs=>exact absurd rfl (M cs)
            | _=>simpa [Value.cells]using e
          subst this;exact a1.mono s2
      · cases G
    · cases G
end
def calls_law{P:Program}{B:FuncId->Option AF}(ht:nj P B){g:FuncId}{m:Nat}{I:List TypeId}{M:List Ty}(R:tysOf P m I=Iz M)
    (E:∀args h,aDn M args h->∃n O,(run B n).call g args h=Iz (.bool Jb,O)) {Q:Type} {enc:TypeId×Value->Q} {w:World} {r:Reach} {base:Nat} {J:List Value} {ds:List (DataW Q)} {S:List MemPlace}
    (T:DataW.TrodAll enc P w 0 (fun _=>Jb) Jb I J ds S) (K:∀(j:Nat) t v,I[j]? =Iz t->J[j]? =Iz v->Value.okWide P w r base t v) (L:GlbAt P w):
    Calls P g J.toArray w fun e w'=>e= .returned (.bool Jb)/\Below w.heap.size w w':=by
  obtain⟨ρ,h,args,hl,_,_,hv,hs⟩:=DX R T K _ _ (Laid.empty w L);obtain⟨n,O,G⟩:=E args h hs;refine(sK ht G hv hl.hr (fun y U _=>hl.dom y U) fun x l o _ hg=>hl.ro x o hg).mono ?_;rintro e w' ⟨u,V,rfl,h1,h2⟩;rw[LG h1];exact⟨rfl,h2⟩
open Go.ChangeShapes Go.WideShapes Go.ChangeAt Go.RowKit
def trodAll_stays{J:Type}{enc:TypeId×Value->J}{P:Program}(hl:laidOutB P=Jb){W W':World}(hb:Below W.heap.size W W'){sp:Nat->Bool} :∀{B:List TypeId} {E:List Value} {ds:List (DataW J)} {y:List MemPlace},
    (B.all fun t=>P.readableRec t&&decide (t<P.types.size))=Jb->DataW.TrodAll enc P W 0 (fun _=>Jb) Jb B E ds y->(∀x∈y,x.block<W.heap.size)->(∀x∈y,sp x.block=Jb)->DataW.TrodAll enc P W' 0 sp Jb B E ds y
  | [],E,ds,y,ht,h,h1,h2=>by obtain⟨rfl,rfl,rfl⟩:=trodAll_nil h;exact trodAll_mk0
  | t::B,E,ds,y,ht,h,h1,h2=>by obtain⟨v,K,d,L,p,q,rfl,rfl,rfl,hv,G⟩:=trodAll_cons h;simp only[List.all_cons,Aq,decide_eq_true_eq]at ht;obtain⟨⟨hr,hs⟩,ht⟩:=ht;have I:=WideElems.Trod_stays hl hr hs hv (fun x u=>hb.same (h1 x (by simp[u]))) (fun x u=>h2 x (by simp[u]));exact⟨p,q,I,trodAll_stays hl hb (by simpa using ht) G (fun x u=>h1 x (by simp[u])) (fun x u=>h2 x (by simp[u])),rfl⟩
def trodAll_len{G:Type}{enc:TypeId×Value->G}{P:Program}{W:World}{b:Nat}{sp:Nat->Bool}{hd:Bool} :∀{u:List TypeId} {y:List Value} {ds:List (DataW G)} {B:List MemPlace},DataW.TrodAll enc P W b sp hd u y ds B->ds.length=u.length
  | [],y,ds,B,h=>by obtain⟨rfl,rfl,rfl⟩:=trodAll_nil h;rfl
  | t::u,y,ds,B,h=>by obtain⟨v,I,d,J,p,q,rfl,rfl,rfl,hv,E⟩:=trodAll_cons h;simp[trodAll_len E]
def Evt(p:Nat->Prop):Prop:=∃n,∀m,n<=m->p m
def Evt.mono{p q:Nat->Prop}(h:Evt p)(k:∀m,p m->q m):Evt q:=let ⟨n,u⟩:=h;⟨n,fun m hm=>k m (u m hm)⟩
def Evt.and{p q:Nat->Prop}(h:Evt p)(k:Evt q):Evt fun m=>p m/\q m:=let ⟨n,u⟩:=h;let ⟨l,hl⟩:=k;⟨max n l,fun m hm=>⟨u m (by omega),hl m (by omega)⟩⟩
def Evt.all{p:Nat->Prop}(h:∀m,p m):Evt p:=⟨0,fun m _=>h m⟩
structure lk (R:Nat->Rec) (L:Rec):Prop where
  code:∀c a h x,L.code c a h=Iz x->Evt fun m=>(R m).code c a h=Iz x
  call:∀g args h x,L.call g args h=Iz x->Evt fun m=>(R m).call g args h=Iz x
section
variable {R:Nat->Rec} {L:Rec}
def NZ(E:lk R L){f:AV}{args:List AV}{h:H}{x:AV×H}(u:eX L f args h=Iz x):Evt fun m=>eX (R m) f args h=Iz x:=by
  unfold eX at u;split at u
  · exact(E.call _ _ _ _ u).mono fun m hm=>by simp only[eX];exact hm
  · rename_i l first K
    split at u
    · rename_i ver S hg;split at u
      · rename_i hl;split at u
        · rename_i T h1 B;have M:=E.code _ _ _ _ B;split at u
          · rename_i U O G;split at u
            · rename_i I;split at u
              · rename_i e V h3 y;have Q:=E.code _ _ _ _ y;refine(M.and Q).mono fun m hm=>?_;simp only[eX,hg,if_pos hl,hm.1,G,if_pos I,hm.2];exact u
              · cases u
            · cases u
          · cases u
        · cases u
      · cases u
    · cases u
  · split at u
    · rename_i J;exact(E.call _ _ _ _ u).mono fun m hm=>by simp only[eX,J];exact hm
    · cases u
  · cases u
def DW(y:lk R L){o:AO}{a:List AV}{h:H}{x:AV×H×List Nat}(u:gJ L o a h=Iz x):Evt fun m=>gJ (R m) o a h=Iz x:=by
  cases o with
  | call f args=>
    simp only[gJ]at u;split at u
    · rename_i v E B;refine(NZ y B).mono fun m hm=>?_;simp only[gJ,hm];exact u
    · cases u
  | _=>exact Evt.all fun m=>u
def AM(y:lk R L):∀{os:List aw} {a:List AV} {h:H} {x:List AV×H},iJ L os a h=Iz x->Evt fun m=>iJ (R m) os a h=Iz x
  | [],a,h,x,u=>Evt.all fun m=>u
  | o::os,a,h,x,u=>by
    unfold iJ at u;split at u
    · rename_i hw;split at u
      · rename_i v h1 rd hs;refine((DW y hs).and (AM y u)).mono fun m hm=>?_;unfold iJ;simp only[hw,hm.1];exact hm.2
      · cases u
    · rename_i hw;refine(AM y u).mono fun m hm=>?_;unfold iJ;simp only[hw];exact hm
    · cases u
def uG(B:lk R L):∀{os:List aw} {i:Nat} {a:List AV} {h:H} {y:List mg} {x:List AV×H},fL L os i a h y=Iz x->Evt fun m=>fL (R m) os i a h y=Iz x
  | [],i,a,h,y,x,u=>Evt.all fun m=>u
  | o::os,i,a,h,y,x,u=>by
    unfold fL at u;split at u
    · rename_i hw;split at u
      · rename_i v h1 rd hs;split at u
        · rename_i E;refine((DW B hs).and (uG B u)).mono fun m hm=>?_;unfold fL;simp only[hw,hm.1,if_pos E];exact hm.2
        · cases u
      · cases u
    · rename_i hw;refine(uG B u).mono fun m hm=>?_;unfold fL;simp only[hw];exact hm
    · cases u
def dD(B:lk R L):∀{c:AC} {a:List AV} {h:H} {x:Ex×List AV×H},aS L c a h=Iz x->Evt fun m=>aS (R m) c a h=Iz x
  | .skip,a,h,x,u=>Evt.all fun m=>u
  | .ret,a,h,x,u=>Evt.all fun m=>u
  | .exit id,a,h,x,u=>Evt.all fun m=>u
  | .region ops,a,h,x,u=>by
    simp only[aS]at u;split at u
    · rename_i I h1 J;exact(AM B J).mono fun m hm=>by simp only[aS,hm];exact u
    · cases u
  | .fe ops,a,h,x,u=>by
    simp only[aS]at u;split at u
    · rename_i I h1 J;exact(uG B J).mono fun m hm=>by simp only[aS,hm];exact u
    · cases u
  | .seq c d,a,h,x,u=>by
    simp only[aS]at u;split at u
    · rename_i I h1 E;exact((dD B E).and (dD B u)).mono fun m hm=>by simp only[aS,hm.1];exact hm.2
    · rename_i G;refine(dD B u).mono fun m hm=>?_;obtain⟨e,I,h1⟩:=x;simp only[aS,hm]
      cases e with
      | normal=>exact absurd u (G _ _)
      | _=>rfl
  | .cond c y z,a,h,x,u=>by
    simp only[aS]at u;split at u
    · rename_i E;exact(dD B u).mono fun m hm=>by simp only[aS,E];exact hm
    · rename_i E;exact(dD B u).mono fun m hm=>by simp only[aS,E];exact hm
    · cases u
  | .block id y,a,h,x,u=>by
    simp only[aS]at u;split at u
    · rename_i i I h1 E;exact(dD B E).mono fun m hm=>by simp only[aS,hm];exact u
    · rename_i G;refine(dD B u).mono fun m hm=>?_;obtain⟨e,I,h1⟩:=x;simp only[aS,hm]
      cases e with
      | exit i=>exact absurd u (G _ _ _)
      | _=>rfl
  | .loop O y,a,h,x,u=>by
    simp only[aS]at u;split at u
    · rename_i I h1 E;exact((dD B E).and (B.code _ _ _ _ u)).mono fun m hm=>by simp only[aS,hm.1];exact hm.2
    · rename_i G;refine(dD B u).mono fun m hm=>?_;obtain⟨e,I,h1⟩:=x;simp only[aS,hm]
      cases e with
      | normal=>exact absurd u (G _ _)
      | _=>rfl
  | .rangeFunc f Q K body,a,h,x,u=>by
    simp only[aS]at u;split at u
    · rename_i g first M he
      split at u
      · rename_i v h1 E;split at u
        · rename_i ver r hg;refine(B.call _ _ _ _ E).mono fun m hm=>?_;simp only[aS,he,hm,hg];exact u
        · cases u
      · cases u
    · cases u
def qQ(E:lk R L){y:FuncId->Option AF}{g:FuncId}{args:List AV}{h:H}{x:AV×H}(u:gD L y g args h=Iz x):Evt fun m=>gD (R m) y g args h=Iz x:=by
  unfold gD at u;split at u
  · rename_i f hf;exact Evt.all fun m=>by simp only[gD,hf];exact u
  · rename_i F G;split at u
    · rename_i I h1 B;refine(dD E B).mono fun m hm=>?_;simp only[gD,G,hm];exact u
    · rename_i I h1 B;refine(dD E B).mono fun m hm=>?_;simp only[gD,G,hm];exact u
    · cases u
  · cases u
end
def rL(u:FuncId->Option AF):∀n,lk (fun _=>run u (n+1)) (run u n)
  | 0=>⟨fun _ _ _ _ h=>by(cases h),fun _ _ _ _ h=>by(cases h)⟩
  | n+1=>⟨fun c a h x y=>Evt.all fun _=>by
      obtain⟨k,B⟩:=dD (rL u n) (show aS (run u n) c a h=Iz x from y);exact B k (Ac _),fun g args h x y=>Evt.all fun _=>by
      obtain⟨k,B⟩:=qQ (rL u n) (show gD (run u n) u g args h=Iz x from y);exact B k (Ac _)⟩
def lI(u:FuncId->Option AF){n m:Nat}(h:n<=m){c:AC}{a:List AV}{w:H}{x:Ex×List AV×H}(y:(run u n).code c a w=Iz x):(run u m).code c a w=Iz x:=by
  induction h with
  | refl=>exact y
  | step _ B=>obtain⟨k,E⟩:=(rL u _).code _ _ _ _ B;exact E k (Ac _)
def lJ(u:FuncId->Option AF){n m:Nat}(h:n<=m){g:FuncId}{a:List AV}{w:H}{x:AV×H}(y:(run u n).call g a w=Iz x):(run u m).call g a w=Iz x:=by
  induction h with
  | refl=>exact y
  | step _ B=>obtain⟨k,E⟩:=(rL u _).call _ _ _ _ B;exact E k (Ac _)
open Classical in
noncomputable def lim(tab:FuncId->Option AF):Rec where
  code c a h:=if hx:∃x n,(run tab n).code c a h=Iz x then Iz hx.choose else Ja
  call g args h:=if hx:∃x n,(run tab n).call g args h=Iz x then Iz hx.choose else Ja
section
variable (tab:FuncId->Option AF)
def jW{c:AC}{a:List AV}{h:H}{x:Ex×List AV×H} :(lim tab).code c a h=Iz x↔∃n,(run tab n).code c a h=Iz x:=by
  constructor
  · intro u;unfold lim at u;simp only at u;split at u
    · rename_i y;cases u;exact y.choose_spec
    · cases u
  · rintro⟨n,B⟩;unfold lim;simp only;have y:∃x n,(run tab n).code c a h=Iz x:=⟨x,n,B⟩;rw[dif_pos y];obtain⟨m,hm⟩:=y.choose_spec;have h1:=lI tab (Ht n m) B;have h2:=lI tab (Hu n m) hm;rw[h1]at h2;exact h2.symm
def f6{g:FuncId}{a:List AV}{h:H}{x:AV×H} :(lim tab).call g a h=Iz x↔∃n,(run tab n).call g a h=Iz x:=by
  constructor
  · intro u;unfold lim at u;simp only at u;split at u
    · rename_i y;cases u;exact y.choose_spec
    · cases u
  · rintro⟨n,B⟩;unfold lim;simp only;have y:∃x n,(run tab n).call g a h=Iz x:=⟨x,n,B⟩;rw[dif_pos y];obtain⟨m,hm⟩:=y.choose_spec;have h1:=lJ tab (Ht n m) B;have h2:=lJ tab (Hu n m) hm;rw[h1]at h2;exact h2.symm
def B8:lk (run tab) (lim tab) where
  code c a h x hx:=let ⟨n,hn⟩:=(jW tab).1 hx;⟨n,fun m hm=>lI tab hm hn⟩
  call g a h x hx:=let ⟨n,hn⟩:=(f6 tab).1 hx;⟨n,fun m hm=>lJ tab hm hn⟩
def B7(n:Nat):lk (fun _=>lim tab) (run tab n) where
  code c a h x hx:=Evt.all fun _=>(jW tab).2 ⟨n,hx⟩
  call g a h x hx:=Evt.all fun _=>(f6 tab).2 ⟨n,hx⟩
def rT(c:AC)(a:List AV)(h:H):(lim tab).code c a h=aS (lim tab) c a h:=by
  apply Option.ext;intro x;constructor
  · intro y;obtain⟨n,u⟩:=(jW tab).1 y
    cases n with
    | zero=>cases u
    | succ n=>obtain⟨k,B⟩:=dD (B7 tab n) (show aS (run tab n) c a h=Iz x from u);exact B k (Ac _)
  · intro y;obtain⟨n,u⟩:=dD (B8 tab) y;exact(jW tab).2 ⟨n+1,u n (Ac _)⟩
def rU(g:FuncId)(a:List AV)(h:H):(lim tab).call g a h=gD (lim tab) tab g a h:=by
  apply Option.ext;intro x;constructor
  · intro y;obtain⟨n,u⟩:=(f6 tab).1 y
    cases n with
    | zero=>cases u
    | succ n=>obtain⟨k,B⟩:=qQ (B7 tab n) (show gD (run tab n) tab g a h=Iz x from u);exact B k (Ac _)
  · intro y;obtain⟨n,u⟩:=qQ (B8 tab) y;exact(f6 tab).2 ⟨n+1,u n (Ac _)⟩
end
section
variable (L:Rec)
def W(c:AC)(a:List AV)(h:H)(B E:List AV->H->Prop)(G:Nat->List AV->H->Prop):Prop:=
  ∃e u y,aS L c a h=Iz (e,u,y)/\match e with
    | .normal=>B u y
    | .ret=>E u y
    | .exit i=>G i u y
def WO(os:List aw)(a:List AV)(h:H)(Q:List AV->H->Prop):Prop:=∃u y,iJ L os a h=Iz (u,y)/\Q u y
def aFD(y:AC)(u B:List AV->H->Prop)(E:Nat->List AV->H->Prop)(a:List AV)(h:H):Prop:=W L y a h u B E
def uL(id:Nat)(u:List AV->H->Prop)(y:Nat->List AV->H->Prop)(i:Nat)(a:List AV)(h:H):Prop:=if i=id then u a h else y i a h
def WL(u:List Nat)(x:AC)(y B:List AV->H->Prop)(E:Nat->List AV->H->Prop)(a:List AV)(h:H):Prop:=W L (.loop u x) a h y B E
def aFj(a:List AV)(h:H)(y B:List AV->H->Prop)(E:Nat->List AV->H->Prop):W L .skip a h y B E=y a h:=by
  apply propext;constructor
  · rintro⟨e,G,I,he,u⟩;simp only[aS]at he;cases he;exact u
  · intro u;exact⟨.normal,a,h,rfl,u⟩
def aGi(a:List AV)(h:H)(B y:List AV->H->Prop)(E:Nat->List AV->H->Prop):W L .ret a h B y E=y a h:=by
  apply propext;constructor
  · rintro⟨e,G,I,he,u⟩;simp only[aS]at he;cases he;exact u
  · intro u;exact⟨.ret,a,h,rfl,u⟩
def aFk(i:Nat)(a:List AV)(h:H)(B E:List AV->H->Prop)(y:Nat->List AV->H->Prop):W L (.exit i) a h B E y=y i a h:=by
  apply propext;constructor
  · rintro⟨e,G,I,he,u⟩;simp only[aS]at he;cases he;exact u
  · intro u;exact⟨.exit i,a,h,rfl,u⟩
def AY(os:List aw)(a:List AV)(h:H)(B I:List AV->H->Prop)(J:Nat->List AV->H->Prop):W L (.region os) a h B I J=WO L os a h B:=by
  apply propext;constructor
  · rintro⟨e,E,G,he,u⟩;simp only[aS]at he;split at he
    · rename_i Q h1 K;injection he with he;injection he with M y;injection y with y O;subst M;subst y;subst O;exact⟨_,_,K,u⟩
    · cases he
  · rintro⟨E,G,he,u⟩;exact⟨.normal,E,G,by simp only[aS,he],u⟩
def aDX(x y:AC)(a:List AV)(h:H)(K G:List AV->H->Prop)(I:Nat->List AV->H->Prop):W L (.seq x y) a h K G I=W L x a h (aFD L y K G I) G I:=by
  apply propext;constructor
  · rintro⟨e,B,E,he,u⟩;simp only[aS]at he;split at he
    · rename_i M h1 O;exact⟨.normal,M,h1,O,⟨e,B,E,he,u⟩⟩
    · rename_i J;refine⟨e,B,E,he,?_⟩
      cases e with
      | normal=>exact absurd he (J _ _)
      | _=>exact u
  · rintro⟨e,B,E,he,u⟩
    cases e with
    | normal=>obtain⟨e,Q,h2,h3,u⟩:=u;exact⟨e,Q,h2,by simp only[aS,he,h3],u⟩
    | ret=>exact⟨.ret,B,E,by simp only[aS,he],u⟩
    | exit i=>exact⟨.exit i,B,E,by simp only[aS,he],u⟩
def R9(y:AC)(u B:List AV->H->Prop)(E:Nat->List AV->H->Prop)(a:List AV)(h:H):aFD L y u B E a h=W L y a h u B E:=rfl
def mM(id:Nat)(u:List AV->H->Prop)(y:Nat->List AV->H->Prop)(i:Nat)(a:List AV)(h:H):uL id u y i a h=if i=id then u a h else y i a h:=rfl
def RQ(id:Nat)(x:AC)(a:List AV)(h:H)(G J:List AV->H->Prop)(K:Nat->List AV->H->Prop):W L (.block id x) a h G J K=W L x a h G J (uL id G K):=by
  apply propext;constructor
  · rintro⟨e,B,E,he,u⟩;simp only[aS]at he;split at he
    · rename_i i M h1 O;refine⟨.exit i,M,h1,O,?_⟩;split at he
      · rename_i y;cases he;show uL _ _ _ _ _ _;rw[mM,if_pos y];exact u
      · rename_i y;cases he;show uL _ _ _ _ _ _;rw[mM,if_neg y];exact u
    · rename_i I;refine⟨e,B,E,he,?_⟩
      cases e with
      | exit i=>exact absurd he (I _ _ _)
      | _=>exact u
  · rintro⟨e,B,E,he,u⟩
    cases e with
    | normal=>exact⟨.normal,B,E,by simp only[aS,he],u⟩
    | ret=>exact⟨.ret,B,E,by simp only[aS,he],u⟩
    | exit i=>
      have u:uL _ _ _ _ _ _:=u;rw[mM]at u;by_cases y:i=id
      · rw[if_pos y]at u;exact⟨.normal,B,E,by simp only[aS,he];rw[if_pos y],u⟩
      · rw[if_neg y]at u;exact⟨.exit i,B,E,by simp only[aS,he];rw[if_neg y],u⟩
def F2(c:AR)(x y:AC)(a:List AV)(h:H)(G I:List AV->H->Prop)(J:Nat->List AV->H->Prop):
    W L (.cond c x y) a h G I J=∃b,ev a c= .bool b/\(if b=Jb then W L x a h G I J else W L y a h G I J):=by
  apply propext;constructor
  · rintro⟨e,B,E,he,u⟩;simp only[aS]at he;split at he
    · rename_i K;exact⟨Jb,K,by rw[if_pos rfl];exact⟨e,B,E,he,u⟩⟩
    · rename_i K;exact⟨Jc,K,by rw[if_neg (by simp)];exact⟨e,B,E,he,u⟩⟩
    · cases he
  · rintro⟨b,hb,u⟩
    cases b with
    | true=>rw[if_pos rfl]at u;obtain⟨e,B,E,he,u⟩:=u;exact⟨e,B,E,by simp only[aS,hb];exact he,u⟩
    | false=>rw[if_neg (by simp)]at u;obtain⟨e,B,E,he,u⟩:=u;exact⟨e,B,E,by simp only[aS,hb];exact he,u⟩
def WD(os:List aw)(i:Nat)(a:List AV)(h:H)(u:List mg)(Q:List AV->H->Prop):Prop:=∃y B,fL L os i a h u=Iz (y,B)/\Q y B
def D3(os:List aw)(a:List AV)(h:H)(B I:List AV->H->Prop)(J:Nat->List AV->H->Prop):W L (.fe os) a h B I J=WD L os 0 a h [] B:=by
  apply propext;constructor
  · rintro⟨e,E,G,he,u⟩;simp only[aS]at he;split at he
    · rename_i Q h1 K;injection he with he;injection he with M y;injection y with y O;subst M;subst y;subst O;exact⟨_,_,K,u⟩
    · cases he
  · rintro⟨E,G,he,u⟩;exact⟨.normal,E,G,by simp only[aS,he],u⟩
def aA4(E:List Nat)(x:AC)(a:List AV)(h:H)(K G:List AV->H->Prop)(I:Nat->List AV->H->Prop)(hL:∀c a h,L.code c a h=aS L c a h):
    W L (.loop E x) a h K G I=W L x (ie a E) h (WL L E x K G I) G I:=by
  apply propext;constructor
  · rintro⟨e,y,B,he,u⟩;simp only[aS]at he;split at he
    · rename_i M h1 O;refine⟨.normal,M,h1,O,?_⟩;rw[hL]at he;exact⟨e,y,B,he,u⟩
    · rename_i J;refine⟨e,y,B,he,?_⟩
      cases e with
      | normal=>exact absurd he (J _ _)
      | _=>exact u
  · rintro⟨e,y,B,he,u⟩
    cases e with
    | normal=>obtain⟨e,Q,h2,h3,u⟩:=u;exact⟨e,Q,h2,by simp only[aS,he];rw[hL];exact h3,u⟩
    | ret=>exact⟨.ret,y,B,by simp only[aS,he],u⟩
    | exit i=>exact⟨.exit i,y,B,by simp only[aS,he],u⟩
def aDY(u:List Nat)(x:AC)(y B:List AV->H->Prop)(E:Nat->List AV->H->Prop)(a:List AV)(h:H):WL L u x y B E a h=W L (.loop u x) a h y B E:=rfl
end
attribute [irreducible] W WO aFD uL WL WD
def RU{α:Type}(o:Option α)(k:α->Prop):Prop:=∃x,o=Iz x/\k x
@[congr] theorem aD1{α:Type}{o u:Option α}{k:α->Prop}(e:o=u):RU o k=RU u k:=by rw[e]
def C(L:Rec)(g:FuncId)(args:List AV)(h:H)(K:AV->H->Prop):Prop:=∃v u,L.call g args h=Iz (v,u)/\K v u
def RZ(L:Rec)(f:AV)(args:List AV)(h:H)(K:AV->H->Prop):Prop:=∃v u,eX L f args h=Iz (v,u)/\K v u
section
variable (L:Rec) (a:List AV) (h:H) (K:AV->H->List Nat->Prop)
def aEL(x:AV)(u:List AV):Option AV:=kY AP x u
def YU(k:IntKind)(x y:Int):aEL (.int k x) [.int k y]=Iz (.int k (max x y)):=by
  simp only[aEL,kY,AP];by_cases h:y>x
  · rw[if_pos h];congr 2;omega
  · rw[if_neg h];congr 2;omega
end
def aAI(k:IntKind)(x y:Int):eY .add (.int k x) (.int k y)=Iz (.int k (k.wrap (x+y))):=by simp[eY,bR,dH]
def aAA(k:IntKind)(x y:Int):eY .sub (.int k x) (.int k y)=Iz (.int k (k.wrap (x-y))):=by simp[eY,bR,dH]
def aAC(k:IntKind)(x y:Int):eY .mul (.int k x) (.int k y)=Iz (.int k (k.wrap (x*y))):=by simp[eY,bR,dH]
def aAH(k:IntKind)(x y:Int):eY .eql (.int k x) (.int k y)=Iz (.bool (decide (x=y))):=by simp[eY,bR,dH];rfl
def aAB(k:IntKind)(x y:Int):eY .neq (.int k x) (.int k y)=Iz (.bool (decide (x≠y))):=by simp only[eY,bR,dH,Bs,if_false,if_true,ite_true];by_cases e:x=y<;>simp[e]
def aAD(k:IntKind)(x y:Int):eY .lss (.int k x) (.int k y)=Iz (.bool (decide (x<y))):=by simp[eY,bR,dH]
def aAE(k:IntKind)(x y:Int):eY .leq (.int k x) (.int k y)=Iz (.bool (decide (x<=y))):=by simp[eY,bR,dH]
def aAF(k:IntKind)(x y:Int):eY .gtr (.int k x) (.int k y)=Iz (.bool (decide (y<x))):=by simp[eY,bR,dH]
def aAG(k:IntKind)(x y:Int):eY .geq (.int k x) (.int k y)=Iz (.bool (decide (y<=x))):=by simp[eY,bR,dH]
def wrap64{x:Int}(h1: -9223372036854775808<=x)(h2:x<=9223372036854775807):IntKind.i64.wrap x=x:=by simp only[IntKind.wrap,IntKind.bits,IntKind.signed];simp;omega
def pQ{x:Int}(h1:0<=x)(h2:x<=255):IntKind.u8.wrap x=x:=by simp only[IntKind.wrap,IntKind.bits,IntKind.signed];simp;omega
def V2(u:List ll)(Q:AV->H->Prop)(a:List AV)(h:H):Prop:=RU (eD a h u) fun y=>Q (jR y) h
def aDG(u:List ll)(Q:AV->H->Prop)(a:List AV)(h:H):V2 u Q a h=RU (eD a h u) fun y=>Q (jR y) h:=rfl
def aFF(i:Nat)(a:List AV)(h:H):Prop:=False
def aGr{B:FuncId->Option AF}{g:FuncId}{F:AFn}(hg:B g=Iz (.fn F))(args:List AV)(h:H)(Q:AV->H->Prop):
    C (lim B) g args h Q=W (lim B) F.body (yT args F.ntmps) h (V2 F.results Q) (V2 F.results Q) aFF:=by
  apply propext;unfold C W V2;rw[rU];simp only[gD,hg];constructor
  · rintro⟨v,J,he,y⟩;split at he
    · rename_i I h1 G;split at he
      · rename_i E u;cases he;exact⟨.normal,I,_,G,E,u,y⟩
      · cases he
    · rename_i I h1 G;split at he
      · rename_i E u;cases he;exact⟨.ret,I,_,G,E,u,y⟩
      · cases he
    · cases he
  · rintro⟨e,I,h1,G,y⟩
    cases e with
    | normal=>obtain⟨E,u,y⟩:=y;exact⟨jR E,h1,by simp only[G,u],y⟩
    | ret=>obtain⟨E,u,y⟩:=y;exact⟨jR E,h1,by simp only[G,u],y⟩
    | exit i=>exact y.elim
attribute [irreducible] C RZ V2
def AV.blk:AV->Nat
  | .slice _ _ b _ _=>b
  | .ptr b _=>b
  | _=>0
def AV.off:AV->Nat
  | .slice _ _ _ o _=>o
  | .ptr _ o=>o
  | _=>0
open Go.RowKit
def HR.below{P:Program}{ρ:Emb}{h:H}{w w':World}(hr:HR P ρ h w)(hb:Below w.heap.size w w'):HR P ρ h w'/\Stp ρ h w ρ h w':=by
  refine⟨⟨hr.gat.il fun b l _ hlt=>hb.block b hlt,hr.ma,fun x l u=>?_,fun x l o u hg=>?_,hr.inj⟩,⟨Sub.refl ρ,fun _ _ h=> .inl h,fun _ _ h=> .inl h,hb.size,hb.os,hb.tape,hb.output,fun b B _=>hb.block b B⟩⟩
  · have:=hr.fb x l u;have:=hb.size;omega
  · exact(hr.obj x l o u hg).mono (Sub.refl ρ) (hb.block _ (hr.fb x l u))
def O4(P:Program)(g:FuncId):Prop:=∃fn,P.funcs[g]? =Iz fn/\fn.body.isSome=Jb/\(fn.name== "runtime.NumGoroutine")=Jc
def j6{P:Program}{g:FuncId}(hfn:O4 P g)(F:List AV->H->Option AV)
    (hc:∀args h v,F args h=Iz v->∀ρ us w,VRs ρ args us->HR P ρ h w->Calls P g us.toArray w fun e w'=>∃u,e= .returned u/\VR ρ v u/\Below w.heap.size w w'):PrimOk P g (bN F) where
  ev args h v h' hr:=by
    unfold bN at hr;split at hr
    · cases hr;exact Ev.refl h
    · cases hr
  fn:=hfn
  call args h v h' hr ρ w us hv hh hf:=by
    unfold bN at hr;split at hr
    · rename_i v0 h0;cases hr;refine callsIn_wide.2 ((hc args h v h0 ρ us w hv hh).mono ?_);rintro e w' ⟨u,rfl,q1,q2⟩;obtain⟨g1,g2⟩:=hh.below q2;exact⟨u,ρ,rfl,q1,g1,g2⟩
    · cases hr
def aB2{P:Program}{g:FuncId}(hfn:O4 P g)(F:List AV->H->Option (List AV))
    (hc:∀args h cs,F args h=Iz cs->cs.length<=maxLen/\∀ρ us w,VRs ρ args us->HR P ρ h w->Calls P g us.toArray w fun e w'=>∃(vs:List Value) (ty:TypeId),e= .returned (.slice (Iz ⟨w.heap.size,0,Ja⟩) cs.length cs.length)/\vs.length=cs.length/\(∀ρ',VRs ρ' cs vs)/\w'=w.alloc (.cells vs.toArray ty)):PrimOk P g (m8 F) where
  ev args h v h' hr:=by
    unfold m8 at hr;split at hr
    · cases hr;exact Ev.alloc h _
    · cases hr
  fn:=hfn
  call args h v h' hr ρ w us hv hh hf:=by
    unfold m8 at hr;split at hr
    · rename_i cs h0;cases hr;obtain⟨hml,hc⟩:=hc args h cs h0;refine callsIn_wide.2 ((hc ρ us w hv hh).mono ?_);rintro e w' ⟨vs,ty,rfl,q1,q2,rfl⟩;have hn:=hf h.next (Ac _) (by simp);have hor:OR P (upd ρ h.next ⟨w.heap.size,0,cs.length⟩) (w.alloc (.cells vs.toArray ty)) ⟨w.heap.size,0,cs.length⟩ (.cells 0 Jb cs):=by
        refine⟨vs.toArray,(0,0),ty,heap_alloc_new w _,by simpa using q1,by simpa using Nat.le_of_eq q1.symm,fun _=>rfl,fun i v hv=>?_⟩;have hi:i<vs.length:=by
          rw[q1];rcases Az i cs.length with h1 | h1
          · exact h1
          · rw[Bi h1]at hv;cases hv
        exact⟨vs[i],by simp[hi],(q2 _).2 i v _ hv (Ad hi)⟩
      obtain⟨g1,g2⟩:=HR.alloc (o:= .cells vs.toArray ty) hh hn rfl hor;exact⟨_,_,rfl,.slice Jb 1 h.next 0 cs.length cs.length _ (Ac _) hml (fun _=>rfl) (fun _=>⟨_,bA _ _ _,rfl,by simp⟩),g1,g2⟩
    · cases hr
open Go.RowKit Go.Proofs Go.Shelf
def dig:Nat->Nat->List UInt8
  | 0,_=>[]
  | k+1,u=>if u<10 then [UInt8.ofNat (48+u)]else dig k (u / 10)++[UInt8.ofNat (48+u % 10)]
def zW:∀(k u:Nat),u<10^k->0<k->dig k u=Lib.decDigits u
  | 0,u,_,h=>absurd h (Nat.lt_irrefl 0)
  | k+1,u,h,_=>by
    rw[Lib.decDigits];unfold dig;by_cases y:u<10
    · rw[if_pos y,dif_pos y]
    · rw[if_neg y,dif_neg y];have B:0<k:=by
        rcases Ej k with e | e
        · subst e;simp at h;omega
        · exact e
      rw[zW k (u / 10) (by rw[Nat.pow_succ]at h;omega) B]
def JN(n:Int):List UInt8:=if n<0 then 45::dig 20 n.natAbs else dig 20 n.toNat
def ZN{n:Int}(h0: -9223372036854775808<=n)(h1:n<=9223372036854775807):JN n=Lib.itoa n:=by unfold JN Lib.itoa;rw[zW 20 _ (by omega) (by decide),zW 20 _ (by omega) (by decide)]
def mw:List Nat:=[1,10,100,1000,10000,100000,1000000,10000000,100000000,1000000000,10000000000,100000000000,1000000000000,10000000000000,100000000000000,1000000000000000,10000000000000000,100000000000000000,1000000000000000000,10000000000000000000]
def C2{P:Program}{w:World}{b:Nat}(u:P.globalNamed "internal/strconv.uint64pow10" =Iz b)(hb:gmem P b=Iz (.ints .u64 mw))(h:GlbAt P w):Lib.TabIs P w "internal/strconv.uint64pow10" .u64 Lib.pow10Tab:=by obtain⟨cs,e,y,h1,h2⟩:=h b _ hb;have h2:cs.toList=mw.map fun n:Nat=>Value.int .u64 n:=h2;unfold Lib.TabIs World.var?;rw[u,Ew,h1];show Iz cs=_;congr 1;apply Ci;rw[h2];rfl
def itoaF(args:List AV)(_:H):Option AV:=match args with
  | [.int .i64 n]=>if-9223372036854775808<=n/\n<=9223372036854775807 then Iz (.str ⟨(JN n).toArray⟩)else Ja
  | _=>Ja
def TB{P:Program}{R:Ren}{b:Nat}(hfn:O4 P (R.f 171))(L:LaysM.n171 P R)(G:P.globalNamed "internal/strconv.uint64pow10" =Iz b)(hb:gmem P b=Iz (.ints .u64 mw)):PrimOk P (R.f 171) (bN itoaF):=by
  refine j6 hfn itoaF fun args h v hv ρ K w E hr=>?_;unfold itoaF at hv;split at hv
  · rename_i n;split at hv
    · rename_i B;cases hv;obtain⟨u,I,rfl,J,y⟩:=E.cons_inv;rw[y.ct,J.bh];refine(Any.strconv_Itoa L n B.1 B.2 w (C2 G hb hr.gat)).mono ?_;rintro e w' ⟨rfl,k,os,rfl⟩;exact⟨_,rfl,by rw[ZN B.1 B.2];exact .str _,Lib.below_grow _ w (Ac _) k os⟩
    · cases hv
  · cases hv
def atoiF(args:List AV)(_:H):Option AV:=match args with
  | [.str s]=>if s.size<=9223372036854775806 then match Lib.atoiAll s.data.toList with
    | .ok v=>Iz (.tuple [.int .i64 v,.af])
    | _=>Ja
    else Ja
  | _=>Ja
def TC{P:Program}{R:Ren}(hfn:O4 P (R.f 172))(L:LaysC.n172 P R):PrimOk P (R.f 172) (bN atoiF):=by
  refine j6 hfn atoiF fun args h v hv ρ J w B hr=>?_;unfold atoiF at hv;split at hv
  · rename_i s;split at hv
    · rename_i hs;split at hv
      · rename_i n E;cases hv;obtain⟨u,G,rfl,I,y⟩:=B.cons_inv;rw[y.ct,I.cv];refine(Any.strconv_Atoi_ok L s hs n E w).mono ?_;rintro e w' ⟨rfl,hw⟩;refine⟨_,rfl,VR.pair (.int _ _) .af,?_⟩;rcases hw with rfl | ⟨t,rfl⟩
        · exact Below.refl _ _
        · exact Lib.bytesWorld_below _ _ _
      · cases hv
    · cases hv
  · cases hv
def oR(b:UInt8):List (List UInt8)->List (List UInt8)
  | []=>[[b]]
  | x::r=>(b::x)::r
def bP(c:UInt8):List UInt8->List (List UInt8)
  | []=>[[]]
  | b::l=>if b=c then []::bP c l else oR b (bP c l)
def DE(c:UInt8):∀l:List UInt8,-1<=Lib.index l [c]
  | []=>by simp[Lib.index]
  | b::l=>by
    have:=DE c l;unfold Lib.index;split
    · omega
    · split<;>omega
def SS{b c:UInt8}(h:¬b=c)(l:List UInt8):∀k,Lib.splitK [c] 0 k (b::l)=oR b (Lib.splitK [c] 0 k l)
  | 0=>rfl
  | k+1=>by
    have u:([c]:List UInt8).isPrefixOf (b::l)=Jc:=by simp[List.isPrefixOf];exact fun e=>h e.symm
    have hg:=DE c l;unfold Lib.splitK;rw[show Lib.index (b::l) [c]=if Lib.index l [c]== -1 then-1 else Lib.index l [c]+1 from by rw[Lib.index,u];rfl];by_cases e:Lib.index l [c]= -1
    · simp[e,oR]
    · have y:(Lib.index l [c]== -1)=Jc:=by simpa using e
      rw[y];have B:(Lib.index l [c]+1== -1)=Jc:=by simp;omega
      simp only[Bs,if_false,B,oR];have E:(Lib.index l [c]+1).toNat=(Lib.index l [c]).toNat+1:=by omega
      rw[E];simp[List.take_succ_cons,Nat.add_right_comm]
def ST(c:UInt8)(l:List UInt8)(k:Nat):Lib.splitK [c] 0 (k+1) (c::l)=[]::Lib.splitK [c] 0 k l:=by
  have u:([c]:List UInt8).isPrefixOf (c::l)=Jb:=by simp[List.isPrefixOf]
  rw[Lib.splitK,show Lib.index (c::l) [c]=0 from by rw[Lib.index,u];rfl];simp
def CH(c:UInt8):∀l:List UInt8,Lib.splitK [c] 0 (Lib.count l [c]) l=bP c l
  | []=>by rw[Lib.count_one];rfl
  | b::l=>by
    have u:=CH c l;rw[Lib.count_one]at u ⊢;unfold bP;by_cases h:b=c
    · subst h;rw[if_pos rfl,List.count_cons_self,ST,u]
    · rw[if_neg h,List.count_cons_of_ne h,SS h,u]
def splitF(args:List AV)(_:H):Option (List AV):=match args with
  | [.str s,.str ⟨⟨[c]⟩⟩]=>if s.size<4294967281 then Iz ((bP c s.data.toList).map fun l=> .str ⟨l.toArray⟩)else Ja
  | _=>Ja
def LO(s:ByteArray)(c:UInt8):Lib.splitB ⟨#[c]⟩ 0 (Lib.countB s ⟨#[c]⟩) s=(bP c s.data.toList).map fun l=>⟨l.toArray⟩:=by
  have h:=Lib.splitB_data ⟨#[c]⟩ 0 (Lib.countB s ⟨#[c]⟩) s;have h2:Lib.splitK [c] 0 (Lib.countB s ⟨#[c]⟩) s.data.toList=bP c s.data.toList:=CH c _;rw[show(⟨#[c]⟩:ByteArray).data.toList=[c]from rfl,h2]at h;rw[<-h,Dj];have:((fun l:List UInt8=>(⟨l.toArray⟩:ByteArray))∘fun x:ByteArray=>x.data.toList)=id:=by funext x;cases x;simp
  rw[this,List.map_id]
def G6{P:Program}{R:Ren}(L:Lays.n146 P R)(s:ByteArray)(c:UInt8)(w:World){r:Value}{w2:World}
    (c1:Calls P (R.f 221) #[.string s,.string ⟨#[c]⟩,.int .i64 (0:Nat),.int .i64 (-1)] w fun e w'=>e= .returned r/\w'=w2):
    Calls P (R.f 146) #[.string s,.string ⟨#[c]⟩] w fun e w'=>e= .returned r/\w'=w2:=by
  have t3:=L.t3;have t9:=L.t9;have t31:=L.t31;have a3:=L.a3;have a9:=L.a9;have a31:=L.a31;have z3:=L.z3;have v3:=L.v3;have z9:=L.z9;have v9:=L.v9;have z31:=L.z31;have v31:=L.v31;have e221:∀args w,(callFunc (R.f 221) args).run P w= .ok (.enter (R.f 221) args) w:=enters_of L.f221 (by kernel_rfl) rfl
  go_enter L.f146,Body.n146_ntmps R
  go_wp2_with (go_at_fn (R.f 221);refine c1.mono ?_;rintro e w' ⟨rfl,hw⟩;rw[hw])
  go_ret
  exact⟨rfl,rfl⟩
def L4{P:Program}{R:Ren}(hfn:O4 P (R.f 146))(L:Lays.n146 P R)(G:(P.info? (R.t 9)).map (fun i=>(i.zero,i.size,i.bytes))=Iz (Iz (.string ByteArray.empty),1,16)):PrimOk P (R.f 146) (m8 splitF):=by
  refine aB2 hfn splitF fun args h cs hv=>?_;unfold splitF at hv;split at hv
  · rename_i s c;split at hv
    · rename_i hs;cases hv;have hsp:=LO s c;have hlen:=Lib.splitB_all ⟨#[c]⟩ (Ac 1) 0 _ s rfl;have Q:=Lib.countB_le ⟨#[c]⟩ (Ac 1) s.size s (Ac _);have y:(bP c s.data.toList).length=Lib.countB s ⟨#[c]⟩+1:=by rw[<-hlen,hsp,Al]
      refine⟨by rw[Al,y];unfold maxLen;omega,fun ρ V w I hr=>?_⟩;obtain⟨u,S,rfl,T,E⟩:=I.cons_inv;obtain⟨Y,M,rfl,J,B⟩:=E.cons_inv;rw[B.ct,T.cv,J.cv];have K:=Any.strings_genSplit_core {L with} G s ⟨#[c]⟩ 0 (-1) (Lib.countB s ⟨#[c]⟩+1) w hs (Ac 1) (Af _)
        (fun x U Z=>by have:=Any.strings_Index_one {L with} x c (w.alloc (.cells U (R.t 9)));rw[<-Lib.index_one]at this;exact this)
        (by have:=Any.strings_Count_one {L with} s c w;rw[show Lib.countByte s.data.toList c=Lib.countB s ⟨#[c]⟩from(Lib.count_one c _).symm]at this;exact this) (by decide) (by decide) (by rw[if_pos (by decide)];omega)
      rw[Nat.add_sub_cancel,hlen]at K;rw[show Lib.cellsOf (Lib.splitB ⟨#[c]⟩ 0 (Lib.countB s ⟨#[c]⟩) s) (Lib.countB s ⟨#[c]⟩+1)=((Lib.splitB ⟨#[c]⟩ 0 (Lib.countB s ⟨#[c]⟩) s).map Value.string).toArray from by rw[<-hlen];exact Lib.cellsOf_full _]at K;refine(G6 L s c w K).mono ?_;rintro e w' ⟨rfl,rfl⟩;refine⟨(Lib.splitB ⟨#[c]⟩ 0 (Lib.countB s ⟨#[c]⟩) s).map Value.string,R.t 9,?_,?_,fun ρ'=>?_,rfl⟩
      · rw[Al,y]
      · rw[Al,Al,hlen,y]
      · rw[hsp,Dj];exact⟨by simp,fun i v u h1 h2=>by
          rw[Ap]at h1 h2
          cases O:(bP c s.data.toList)[i]? with
          | none=>rw[O]at h1;cases h1
          | some q=>rw[O]at h1 h2;cases h1;cases h2;exact .str _⟩
    · cases hv
  · cases hv
def dY:List AV->Option (List ByteArray)
  | []=>Iz []
  | .str s::r=>match dY r with
    | some l=>Iz (s::l)
    | none=>Ja
  | _=>Ja
def CB{ρ:Emb} :∀{cs:List AV} {y:List Value} {B:List ByteArray},VRs ρ cs y->dY cs=Iz B->y=B.map Value.string
  | [],y,B,h,e=>by cases e;rw[h.ct];rfl
  | .str s::r,y,B,h,e=>by
    obtain⟨u,E,rfl,h1,h2⟩:=h.cons_inv;unfold dY at e;split at e
    · rename_i l hl;cases e;rw[h1.cv,CB h2 hl];rfl
    · cases e
  | .ae::r,y,B,h,e=>by simp[dY]at e
  | .bool _::r,y,B,h,e=>by simp[dY]at e
  | .int _ _::r,y,B,h,e=>by simp[dY]at e
  | .al::r,y,B,h,e=>by simp[dY]at e
  | .ptr _ _::r,y,B,h,e=>by simp[dY]at e
  | .ah::r,y,B,h,e=>by simp[dY]at e
  | .slice .. ::r,y,B,h,e=>by simp[dY]at e
  | .bd::r,y,B,h,e=>by simp[dY]at e
  | .map _::r,y,B,h,e=>by simp[dY]at e
  | .func .. ::r,y,B,h,e=>by simp[dY]at e
  | .aq::r,y,B,h,e=>by simp[dY]at e
  | .iface .. ::r,y,B,h,e=>by simp[dY]at e
  | .af::r,y,B,h,e=>by simp[dY]at e
  | .agg _::r,y,B,h,e=>by simp[dY]at e
  | .tuple _::r,y,B,h,e=>by simp[dY]at e
def joinF(args:List AV)(h:H):Option AV:=match args with
  | [.ah,.str _]=>Iz (.str ⟨#[]⟩)
  | [.slice _ sz b o n,.str u]=>if n=0 then Iz (.str ⟨#[]⟩)else if sz=1 then match bH h b o n with
    | some cs=>match dY cs with
      | some y=>if n<=140737488355328/\(Lib.join (y.map (·.data.toList)) u.data.toList).length<=140737488355328 then Iz (.str ⟨(Lib.join (y.map (·.data.toList)) u.data.toList).toArray⟩)else Ja
      | none=>Ja
    | none=>Ja
    else Ja
  | _=>Ja
def TA{P:Program}{R:Ren}(hfn:O4 P (R.f 156))(L:Lays.n156 P R)(X:Proofs.Builder.Extra P R):PrimOk P (R.f 156) (bN joinF):=by
  refine j6 hfn joinF fun args h v hv ρ us w I hr=>?_;unfold joinF at hv;split at hv
  · rename_i E;cases hv;obtain⟨u,Q,rfl,S,B⟩:=I.cons_inv;obtain⟨Z,J,rfl,G,y⟩:=B.cons_inv;rw[y.ct,G.cv,show u= .slice Ja 0 0 from by cases S;rfl];refine(Any.strings_Join_none L X Ja 0 E w).mono ?_;rintro e w' ⟨rfl,rfl⟩;exact⟨_,rfl,.str _,Below.refl _ _⟩
  · rename_i fl sz b o n E;obtain⟨u,Q,rfl,S,B⟩:=I.cons_inv;obtain⟨Z,J,rfl,G,y⟩:=B.cons_inv;rw[y.ct,G.cv];obtain⟨ad,K,rfl,g1,g2,g3,g4⟩:=S.bt;split at hv
    · rename_i h0;subst h0;cases hv;refine(Any.strings_Join_none L X (Iz ad) K E w).mono ?_;rintro e w' ⟨rfl,rfl⟩;exact⟨_,rfl,.str _,Below.refl _ _⟩
    · rename_i h0;split at hv
      · split at hv
        · rename_i cs T;split at hv
          · rename_i V U;split at hv
            · rename_i hc;cases hv;obtain⟨l,hl,rfl,Y⟩:=g4 (by omega);obtain⟨ver,rw,all,hg,hn,e⟩:=cW T;obtain⟨vs,k1,k2,k3⟩:=(hr.obj b l _ hl hg).cells hn e;have M:=CB k1 U;have hlen:V.length=n:=by rw[<-k2,M,Al]
              have O:=Any.strings_Join L X l.blk (l.base+o) K V E w (fun j x hx=>by have:=k3 j (.string x) (by rw[M,Ap,hx];rfl);exact this) (hr.fb b l hl) (by omega) (by omega) hc.2;rw[hlen]at O;refine O.mono ?_;rintro e w' ⟨rfl,hb⟩;exact⟨_,rfl,.str _,hb⟩
            · cases hv
          · cases hv
        · cases hv
      · cases hv
  · cases hv
def J2{P:Program}{w:World}{b:Nat}(hb:gmem P b=Iz .err)(h:GlbAt P w):∃u y,w.cell? ⟨b,0,Ja⟩=Iz (.iface u y):=by
  obtain⟨cs,e,B,h1,u,y,h2⟩:=h b _ hb;refine⟨u,y,?_⟩;have h3:cs[0]? =Iz (.iface u y):=by rw[<-Bu,h2];rfl
  simp only[World.cell?,h1,Hk,Bs,if_false];exact h3
def toErrF(u y:TypeId)(args:List AV)(_:H):Option AV:=match args with
  | [.str _,.str s,.int .i64 _,.int .i64 _,.iface t (.int .i64 k)]=>if s.size<=281474976710656/\t=u/\(k=1\/k=2)then Iz (.iface y .ae)else Ja
  | _=>Ja
def L3{P:Program}{R:Ren}(hfn:O4 P (R.f 245))(L:LaysC.n245 P R)(J:gmem P (R.g 15)=Iz .err)(K:gmem P (R.g 16)=Iz .err):PrimOk P (R.f 245) (bN (toErrF (R.t 167) (R.t 168))):=by
  refine j6 hfn _ fun args h v hv ρ us w M hr=>?_;unfold toErrF at hv;split at hv
  · rename_i fn s base bits t k;split at hv
    · rename_i hc;obtain⟨Z,rfl,c3⟩:=hc;cases hv;obtain⟨u1,a0,rfl,O,y⟩:=M.cons_inv;obtain⟨u2,a1,rfl,Q,B⟩:=y.cons_inv;obtain⟨u3,a2,rfl,S,E⟩:=B.cons_inv;obtain⟨u4,a3,rfl,T,G⟩:=E.cons_inv;obtain⟨u5,a4,rfl,U,I⟩:=G.cons_inv;obtain⟨x,rfl,hx⟩:∃x,u5= .iface (R.t 167) x/\VR ρ (.int .i64 k) x:=by cases U;exact⟨_,rfl,by assumption⟩
      rw[I.ct,O.cv,Q.cv,S.bh,T.bh,hx.bh];rcases c3 with rfl | rfl
      · obtain⟨V,Y,u⟩:=J2 K hr.gat;refine(Any.strconv_toError_range L fn s base bits _ w Z u (.inr ⟨V,Y,rfl⟩)).mono ?_;rintro e w' ⟨N,rfl,_,_,hb⟩;exact⟨_,rfl,.iface _ _ _ (.ae _),hb⟩
      · obtain⟨V,Y,u⟩:=J2 J hr.gat;refine(Any.strconv_toError_syntax L fn s base bits _ w Z u (.inr ⟨V,Y,rfl⟩)).mono ?_;rintro e w' ⟨N,rfl,_,_,hb⟩;exact⟨_,rfl,.iface _ _ _ (.ae _),hb⟩
    · cases hv
  · cases hv
end Go.Am

