/- A region whose order the machine draws: whatever the order, it comes to what the text's order comes to, and what goes with it. -/
import Derived.Test.YtapbgleednkimaaGreatDoorAmTrace
set_option linter.unusedVariables false
set_option linter.unusedSimpArgs false
namespace Go.Am
section
variable {P:Program} {rec:Rec} {m:Nat}
theorem U1{a:List AV}{h h':H}{ao:AO}{v:AV}{rd:List Nat}(he:ao.effect=false)(hrun:aop a h ao=some (v,h',rd)):h'=h\/∃ob,h'=h.alloc ob:=by
  cases ao<;>simp[AO.effect]at he<;>simp only[aop]at hrun;all_goals (repeat' split at hrun)
  all_goals (first | (cases hrun;first | exact .inl rfl | exact .inr ⟨_,rfl⟩) | (exact absurd hrun (by simp)))
theorem lY{a:List AV}{h h':H}{ao:AO}{v:AV}{rd:List Nat}(he:ao.effect=false)(hrun:eW rec ao a h=some (v,h',rd)):aop a h ao=some (v,h',rd):=by cases ao<;>first | (simp[AO.effect]at he;done) | (simpa only[eW]using hrun)
theorem BZ{a:List AV}{h h':H}{ao:AO}{v:AV}{rd:List Nat}(he:ao.effect=false)(hrun:aop a h ao=some (v,h',rd)){x:Nat}(hx:x∈rdx h h' rd):ao.reads=true:=by
  cases ao<;>simp[AO.effect]at he<;>first | rfl | skip
  all_goals (simp only[aop]at hrun)
  all_goals (repeat' split at hrun)
  all_goals (first | (cases hrun;simp[rdx]at hx;done) | (exact absurd hrun (by simp)))
def dE(xs:List AOper)(i:Nat):Bool:=match xs[i]? with | some x=>x.op.effect | none=>false
def kd(xs:List AOper)(D:Nat->Bool):Nat->Nat
  | 0=>0
  | k+1=>if D k&&dE xs k then k+1 else kd xs D k
def bi(Hh:Nat->H)(y:Nat):Nat->Nat
  | 0=>0
  | k+1=>if y<(Hh (bi Hh y k)).next then bi Hh y k else k+1
theorem QR(xs:List AOper)(D:Nat->Bool):∀k,kd xs D k<=k
  | 0=>Nat.le_refl _
  | k+1=>by unfold kd;split;exact Nat.le_refl _;exact Nat.le_trans (QR xs D k) (Nat.le_succ _)
theorem lG(xs:List AOper)(D:Nat->Bool):∀k j,kd xs D k<=j->j<k->(D j&&dE xs j)=false
  | 0,j,_,h=>by omega
  | k+1,j,h1,h2=>by
    unfold kd at h1;split at h1
    · omega
    · rename_i hn;rcases Nat.lt_or_ge j k with h | h
      · exact lG xs D k j h1 h
      · have:j=k:=by omega
        subst this;simpa using hn
theorem tH(xs:List AOper)(D:Nat->Bool):∀k,kd xs D k=0\/∃j,kd xs D k=j+1/\j<k/\D j=true/\dE xs j=true
  | 0=> .inl rfl
  | k+1=>by
    unfold kd;split
    · rename_i h;simp at h;exact .inr ⟨k,rfl,Nat.lt_succ_self _,h.1,h.2⟩
    · rcases tH xs D k with h | ⟨j,h1,h2,h3,h4⟩
      · exact .inl h
      · exact .inr ⟨j,h1,by omega,h3,h4⟩
theorem tG{xs:List AOper}{D:Nat->Bool}{n c:Nat}(hc:c<=n)(h1:c=0\/∃j,c=j+1/\D j=true/\dE xs j=true)(h2:∀j,c<=j->j<n->(D j&&dE xs j)=false):kd xs D n=c:=by
  rcases Nat.lt_or_ge (kd xs D n) c with h | h
  · rcases h1 with rfl | ⟨j,rfl,hd,he⟩
    · omega
    · have:=lG xs D n j (by omega) (by omega);simp[hd,he]at this
  · rcases Nat.lt_or_ge c (kd xs D n)with h' | h'
    · rcases tH xs D n with h0 | ⟨j,q1,q2,q3,q4⟩
      · omega
      · have:=h2 j (by omega) q2;simp[q3,q4]at this
    · omega
theorem aAP(Hh:Nat->H)(y:Nat):∀k,bi Hh y k<=k
  | 0=>Nat.le_refl _
  | k+1=>by unfold bi;split;exact Nat.le_trans (aAP Hh y k) (Nat.le_succ _);exact Nat.le_refl _
theorem RJ(Hh:Nat->H)(y:Nat):∀k,bi Hh y k=k\/y<(Hh (bi Hh y k)).next
  | 0=> .inl rfl
  | k+1=>by
    unfold bi;split
    · rename_i h;exact .inr h
    · exact .inl rfl
theorem aAO{Hh:Nat->H}{y N:Nat}(mono:∀i j,i<=j->j<=N->(Hh i).next<=(Hh j).next):∀k j,k<=N->j<bi Hh y k->(Hh j).next<=y
  | 0,j,_,h=>by simp[bi]at h
  | k+1,j,hk,h=>by
    unfold bi at h;split at h
    · exact aAO mono k j (by omega) h
    · rename_i hn;rcases RJ Hh y k with e | e
      · rw[e]at hn;have:=mono j k (by omega) (by omega);omega
      · exact absurd e hn
theorem zA{Hh:Nat->H}{y k:Nat}(h:y<(Hh k).next):y<(Hh (bi Hh y k)).next:=by
  rcases RJ Hh y k with e | e
  · rw[e];exact h
  · exact e
theorem lQ{Hh:Nat->H}{y N:Nat}(mono:∀i j,i<=j->j<=N->(Hh i).next<=(Hh j).next){k j:Nat}(hk:k<=N)(h:y<(Hh j).next):bi Hh y k<=j:=by
  rcases Nat.lt_or_ge j (bi Hh y k)with h' | h'
  · have:=aAO mono k j hk h';omega
  · exact h'
def vv(xs:List AOper)(a:List AV)(V:Nat->AV)(D:Nat->Bool)(t:Nat):Nat->AV
  | 0=>tget a t
  | k+1=>if D k&&(match xs[k]? with | some x=>x.dst==some t | none=>false)then V k else vv xs a V D t k
theorem qL{xs:List AOper}{a:List AV}{V:Nat->AV}{D D':Nat->Bool}{t:Nat} :∀k,(∀j x,j<k->xs[j]? =some x->x.dst=some t->D j=D' j)->vv xs a V D t k=vv xs a V D' t k
  | 0,_=>rfl
  | k+1,h=>by
    unfold vv;rw[qL k (fun j x hj=>h j x (by omega))]
    cases hx:xs[k]? with
    | none=>simp
    | some x=>
      by_cases e:x.dst=some t
      · rw[h k x (by omega) hx e]
      · have e':(x.dst==some t)=false:=by simpa using e
        simp[e']
theorem vI{xs:List AOper}{a:List AV}{V:Nat->AV}{D:Nat->Bool}{t i:Nat} :∀k,i<=k->(∀j x,i<=j->j<k->xs[j]? =some x->x.dst=some t->D j=false)->vv xs a V D t k=vv xs a V D t i
  | 0, h, _ => by have : i = 0 := by omega
                  subst this;rfl
  | k+1,h,hd=>by
    rcases Nat.lt_or_ge k i with h' | h'
    · have:i=k+1:=by omega
      subst this;rfl
    · rw[<-vI k h' (fun j x h1 h2=>hd j x h1 (by omega))]
      conv=>lhs;unfold vv
      cases hx:xs[k]? with
      | none=>simp
      | some x=>
        by_cases e:x.dst=some t
        · simp[hd k x h' (by omega) hx e]
        · have e':(x.dst==some t)=false:=by simpa using e
          simp[e']
theorem SI(a:List AV)(t d:Nat)(v:AV)(ht:t<a.length):tget (tset a d v) t=if d=t then v else tget a t:=by
  rw[iY,vK,iY,List.getElem?_set];by_cases e:d=t
  · subst e;simp[ht]
  · simp[e]
theorem wR{xs:List AOper}{a a':List AV}{h h':H}{A:Nat->List AV}{Hh:Nat->H}{V:Nat->AV}{RD:Nat->List Nat}{W:Nat->Bool}(T:Trace rec xs a h a' h' A Hh V RD W){t:Nat}(ht:t<a.length):
    ∀k,k<=xs.length->tget (A k) t=vv xs a V (fun _=>true) t k/\(A k).length=a.length
  | 0,_=>by rw[T.a0];exact⟨rfl,rfl⟩
  | k+1,hk=>by
    obtain⟨h1,h2⟩:=wR T ht k (by omega);have hx:xs[k]? =some (xs[k]'(by omega)):=List.getElem?_eq_getElem (by omega);have hp:=T.put k _ hx;rw[hp];refine⟨?_,by rw[x8];exact h2⟩;unfold vv;rw[hx]
    cases hd:(xs[k]'(by omega)).dst with
    | none=>simp[put,h1,hd]
    | some d=>
      simp only[put];rw[SI _ _ _ _ (by omega)];by_cases e:d=t
      · subst e;simp[hd]
      · simp[e,h1,hd]
section
variable {xs:List AOper} {a a':List AV} {h h':H} {A:Nat->List AV} {Hh:Nat->H} {V:Nat->AV} {RD:Nat->List Nat} {W:Nat->Bool}
theorem sP(ok:RecOk P rec m)(T:Trace rec xs a h a' h' A Hh V RD W){i:Nat}(hi:i<xs.length):Ev (Hh i) (Hh (i+1)):=by
  have hx:xs[i]? =some xs[i]:=List.getElem?_eq_getElem hi
  cases hw:W i with
  | true=>exact vO ok (T.run i _ hx hw)
  | false=>rw[(T.skip i _ hx hw).2];exact Ev.refl _
theorem jN(ok:RecOk P rec m)(T:Trace rec xs a h a' h' A Hh V RD W):∀{i:Nat} (d:Nat),i+d<=xs.length->Ev (Hh i) (Hh (i+d))
  | i,0,_=>Ev.refl _
  | i,d+1,hd=>(jN ok T d (by omega)).trans (sP ok T (by omega))
theorem fT(ok:RecOk P rec m)(T:Trace rec xs a h a' h' A Hh V RD W){y:Nat} :∀{p:Nat} (d:Nat),p+d<=xs.length->y<(Hh p).next->
    (∀j,p<=j->j<p+d->dE xs j=true->W j=true->eY (Hh j) (Hh (j+1)) y=true)->(Hh (p+d)).get y=(Hh p).get y
  | p,0,_,_,_=>rfl
  | p,d+1,hd,hy,hs=>by
    rw[<-fT ok T d (by omega) hy (fun j h1 h2=>hs j h1 (by omega))];have hi:p+d<xs.length:=by omega
    have hx:xs[p+d]? =some xs[p+d]:=List.getElem?_eq_getElem hi;have hlt:y<(Hh (p+d)).next:=Nat.lt_of_lt_of_le hy (jN ok T d (by omega)).next;show(Hh (p+d+1)).get y=_
    cases hw:W (p+d)with
    | false=>rw[(T.skip _ _ hx hw).2]
    | true=>
      have hrun:=T.run _ _ hx hw
      cases he:dE xs (p+d)with
      | true=>exact(sP ok T hi).same (hs _ (by omega) (by omega) he hw) hlt
      | false=>
        have he':(xs[p+d]).op.effect=false:=by unfold dE at he;rw[hx]at he;exact he
        rcases U1 he' (lY he' hrun)with e | ⟨ob,e⟩
        · rw[e]
        · rw[e,H.get_alloc,if_neg (by omega)]
structure DrawStat (P:Program) (ops:Array Oper) (xs:List AOper) (an:List (List Nat)):Prop where
  len:xs.length=ops.size
  tr:∀(i:Nat) (o:Oper) (x:AOper),ops[i]? =some o->xs[i]? =some x->wS P o=some x.op/\x.dst=o.dst/\(match o.guard with | none=>x.guard=none | some (j,want)=>∃d,(ops[j]?).bind (·.dst)=some d/\x.guard=some (d,want))
  edge:∀(i:Nat) (o:Oper),ops[i]? =some o->∀j∈aW o,j<i
  anc:∀(j:Nat) (o:Oper),ops[j]? =some o->∀i∈an.getD j [],∃e∈aW o,i=e\/i∈an.getD e []
  effs:∀(i j:Nat) (x y:AOper),xs[i]? =some x->xs[j]? =some y->i≠j->x.op.effect=true->y.op.effect=true->cU an i j=true
  tmps:∀(i j:Nat) (x y:AOper) (t:Nat),xs[i]? =some x->xs[j]? =some y->i≠j->x.dst=some t->t∈y.names->cU an i j=true
  chks:∀(i j:Nat) (x y:AOper),xs[i]? =some x->xs[j]? =some y->j<i->cU an j i=false->nS y x=true->j∈x.chk
theorem DrawStat.anc_lt{ops:Array Oper}{xs:List AOper}{an:List (List Nat)}(S:DrawStat P ops xs an):∀j i,j<ops.size->i∈an.getD j []->i<j:=by
  intro j
  induction j using Nat.strongRecOn with
  | _ j ih=>
    intro i hj hi;have ho:ops[j]? =some ops[j]:=Array.getElem?_eq_getElem hj;obtain⟨e,he,h⟩:=S.anc j _ ho i hi;have hlt:=S.edge j _ ho e he;rcases h with rfl | h
    · exact hlt
    · have:=ih e hlt i (by omega) h;omega
def iC(ops:Array Oper)(D:Nat->Bool):Prop:=∀(j:Nat) (o:Oper),ops[j]? =some o->D j=true->∀e∈aW o,D e=true
theorem DrawStat.closed_anc{ops:Array Oper}{xs:List AOper}{an:List (List Nat)}(S:DrawStat P ops xs an){D:Nat->Bool}(hc:iC ops D):∀j,j<ops.size->(∀o,ops[j]? =some o->∀e∈aW o,D e=true)->∀i∈an.getD j [],D i=true:=by
  intro j
  induction j using Nat.strongRecOn with
  | _ j ih=>
    intro hj hed i hi;have ho:ops[j]? =some ops[j]:=Array.getElem?_eq_getElem hj;obtain⟨e,he,h⟩:=S.anc j _ ho i hi;have hlt:=S.edge j _ ho e he;have hde:=hed _ ho e he;rcases h with rfl | h
    · exact hde
    · exact ih e hlt (by omega) (fun o ho' e' he'=>hc e o ho' hde e' he') i h
theorem DrawStat.side{ops:Array Oper}{xs:List AOper}{an:List (List Nat)}(S:DrawStat P ops xs an){D:Nat->Bool}(hc:iC ops D){i:Nat}(hi:i<ops.size)(hd:D i=false)(hed:∀o,ops[i]? =some o->∀e∈aW o,D e=true)
    {j:Nat} (hj:j<ops.size) (hne:j≠i) (ho:cU an j i=true):D j=decide (j<i):=by
  unfold cU at ho;simp only[Bool.or_eq_true,List.contains_iff_mem]at ho;rcases ho with h | h
  · rw[S.closed_anc hc i hi hed j h];have:=S.anc_lt i j hi h;simp[this]
  · have hlt:=S.anc_lt j i hj h
    cases hdj:D j with
    | false=>symm;simp;omega
    | true=>have:=S.closed_anc hc j hj (fun o ho e he=>hc j o ho hdj e he) i h;rw[hd]at this;cases this
structure DS (P:Program) (xs:List AOper) (a:List AV) (ρ0:Emb) (h:H) (w0:World) (Hh:Nat->H) (V:Nat->AV) (D:Nat->Bool) (ρ:Emb) (w:World) (act:Act):Prop where
  size:act.tmps.size=a.length
  tmps:∀t,t<a.length->VR ρ (vv xs a V D t xs.length) (act.tmps.getD t undef)
  sub:Sub ρ0 ρ
  bound:∀y l,ρ y=some l->l.blk<w.heap.size
  dom:∀y l,ρ y=some l->ρ0 y=some l\/∃i,i<xs.length/\D i=true/\(Hh i).next<=y/\y<(Hh (i+1)).next
  obj:∀(y:Nat) (l:Loc) (o:AObj),ρ y=some l->(Hh (max (kd xs D xs.length) (bi Hh y xs.length))).get y=some o->OR P ρ w l o
  inj:∀(x y:Nat) (lx ly:Loc) (ox oy:AObj),ρ x=some lx->ρ y=some ly->(Hh (max (kd xs D xs.length) (bi Hh x xs.length))).get x=some ox->(Hh (max (kd xs D xs.length) (bi Hh y xs.length))).get y=some oy->
    ox.rwlive=true->oy.islive=true->x≠y->lx.blk≠ly.blk
  own:∀x l,ρ x=some l->ρ0 x=some l\/w0.heap.size<=l.blk\/(∃y ly oy,ρ0 y=some ly/\h.get y=some oy/\oy.rwlive=true/\l.blk=ly.blk)
  wsize:w0.heap.size<=w.heap.size
  os:w.os=w0.os
  tape:w.tape=w0.tape
  output:w.output=w0.output
  frame:∀b,b<w0.heap.size->(∀x l o,ρ0 x=some l->h.get x=some o->o.rwlive=true->l.blk≠b)->w.heap[b]? =w0.heap[b]?
  glb:GlbAt P w0/\OU P ρ0 h
theorem DS.gat{xs:List AOper}{a:List AV}{ρ0:Emb}{h:H}{w0:World}{Hh:Nat->H}{V:Nat->AV}{D:Nat->Bool}{ρ:Emb}{w:World}{act:Act}(ds:DS P xs a ρ0 h w0 Hh V D ρ w act):GlbAt P w:=
  ds.glb.1.keep fun b l hb hlt=>ds.frame b hlt fun x lx o h1 h2 h3=>ds.glb.2 b l hb x lx o h1 h2 h3
theorem DS.goff{xs:List AOper}{a:List AV}{ρ0:Emb}{h h1:H}{w0:World}{Hh:Nat->H}{V:Nat->AV}{D:Nat->Bool}{ρ:Emb}{w:World}{act:Act}(ds:DS P xs a ρ0 h w0 Hh V D ρ w act)(ev:Ev h h1)(hfr:Fresh ρ0 h h1):OU P ρ h1:=fun b l hb y ly oy hy hg hrw=>by
  rcases ds.own y ly hy with q1 | q1 | ⟨q,lq,oq,k1,k2,k3,k4⟩
  · by_cases hlt:y<h.next
    · obtain⟨o1,g1,g2⟩:=ev.rw_back hg hlt hrw;exact ds.glb.2 b l hb y ly o1 q1 g1 g2
    · have:=hfr y (by omega) (H.lt_of_get hg);rw[q1]at this;cases this
  · have:=ds.glb.1.lt hb;omega
  · rw[k4];exact ds.glb.2 b l hb q lq oq k1 k2 k3
theorem D3(an:List (List Nat))(i j:Nat):cU an i j=cU an j i:=by unfold cU;exact Bool.or_comm _ _
theorem IH{xs:List AOper}{D D':Nat->Bool} :∀k,(∀j,j<k->dE xs j=true->D j=D' j)->kd xs D k=kd xs D' k
  | 0,_=>rfl
  | k+1,h=>by
    unfold kd;rw[IH k (fun j hj=>h j (by omega))]
    cases he:dE xs k with
    | false=>simp
    | true=>rw[h k (by omega) he]
section
variable {ops:Array Oper} {xs:List AOper} {an:List (List Nat)} {a a':List AV} {h h':H} {A:Nat->List AV} {Hh:Nat->H} {V:Nat->AV} {RD:Nat->List Nat} {W:Nat->Bool}
variable {ρ0:Emb} {w0:World} {D:Nat->Bool} {i:Nat} {o:Oper} {x:AOper}
theorem jM(ok:RecOk P rec m)(T:Trace rec xs a h a' h' A Hh V RD W):∀i j,i<=j->j<=xs.length->(Hh i).next<=(Hh j).next:=fun i j h1 h2=>by have:=(jN ok T (i:=i) (j-i) (by omega)).next;rw[show i+(j-i)=j from by omega]at this;exact this
theorem KH(S:DrawStat P ops xs an)(T:Trace rec xs a h a' h' A Hh V RD W)(hc:iC ops D)(ho:ops[i]? =some o)(hx:xs[i]? =some x)(hd:D i=false)(hed:∀e∈aW o,D e=true){t:Nat}(ht:t∈x.names)(hl:t<a.length):
    vv xs a V D t xs.length=tget (A i) t:=by
  have hi:i<xs.length:=(List.getElem?_eq_some_iff.1 hx).1;have hsz:i<ops.size:=by rw[<-S.len];exact hi
  have hed':∀o',ops[i]? =some o'->∀e∈aW o',D e=true:=fun o' ho'=>by rw[ho]at ho';cases ho';exact hed
  have side:∀j y,xs[j]? =some y->y.dst=some t->j≠i->D j=decide (j<i):=fun j y hy hyd hne=>by have hj:j<xs.length:=(List.getElem?_eq_some_iff.1 hy).1;exact S.side hc hsz hd hed' (by rw[<-S.len];exact hj) hne (S.tmps j i y x t hy hx hne hyd ht)
  rw[(wR T hl i (by omega)).1];rw[vI (i:=i) xs.length (by omega) (fun j y h1 h2 hy hyd=>by
    by_cases e:j=i
    · rw[e];exact hd
    · rw[side j y hy hyd e];simp;omega)]
  exact qL i (fun j y hj hy hyd=>by rw[side j y hy hyd (by omega)];simp[hj])
theorem vJ(S:DrawStat P ops xs an)(hc:iC ops D)(ho:ops[i]? =some o)(hx:xs[i]? =some x)(hd:D i=false)(hed:∀e∈aW o,D e=true){ρ:Emb}{act:Act}{u:Value}(hl:∀t,t<a.length->VR ρ (vv xs a V D t xs.length) (act.tmps.getD t undef))
    (hsz:act.tmps.size=a.length) (hv:VR ρ (V i) u):∀t,t<a.length->VR ρ (vv xs a V (fun j=>j==i||D j) t xs.length) ((act.put x.dst u).tmps.getD t undef):=by
  have hi:i<xs.length:=(List.getElem?_eq_some_iff.1 hx).1;have hszo:i<ops.size:=by rw[<-S.len];exact hi
  have hed':∀o',ops[i]? =some o'->∀e∈aW o',D e=true:=fun o' ho'=>by rw[ho]at ho';cases ho';exact hed
  intro t ht;by_cases e:x.dst=some t
  · have hval:vv xs a V (fun j=>j==i||D j) t xs.length=V i:=by
      rw[vI (i:=i+1) xs.length (by omega) (fun j y h1 h2 hy hyd=>by
        have hne:j≠i:=by omega
        have:=S.side hc hszo hd hed' (by rw[<-S.len];exact h2) hne (S.tmps j i y x t hy hx hne hyd (by unfold AOper.names;simp[e]));simp only[this];simp;omega)]
      unfold vv;rw[hx];simp[e]
    rw[hval,e];have:(act.put (some t) u).tmps.getD t undef=u:=by simp[Act.put,Array.getD_eq_getD_getElem?,hsz,ht]
    rw[this];exact hv
  · have hval:vv xs a V (fun j=>j==i||D j) t xs.length=vv xs a V D t xs.length:=qL _ (fun j y hj hy hyd=>by
      by_cases e':j=i
      · subst e';rw[hx]at hy;cases hy;exact absurd hyd e
      · simp[e'])
    rw[hval];have:(act.put x.dst u).tmps.getD t undef=act.tmps.getD t undef:=by
      cases hxd:x.dst with
      | none=>rfl
      | some d=>have hdt:d≠t:=fun e'=>e (by rw[hxd,e']);simp[Act.put,Array.getD_eq_getD_getElem?,Array.getElem?_setIfInBounds,hdt]
    rw[this];exact hl t ht
theorem aAI(S:DrawStat P ops xs an)(T:Trace rec xs a h a' h' A Hh V RD W)(hc:iC ops D)(ho:ops[i]? =some o)(hx:xs[i]? =some x)(hd:D i=false)(hed:∀e∈aW o,D e=true)(hq:x.op.effect=false)(hw:W i=true)
    {y:Nat} (hy:y∈rdx (Hh i) (Hh (i+1)) (RD i)) {j:Nat} (hj:j<i) (hej:dE xs j=true) (hwj:W j=true) (hdj:D j=false):eY (Hh j) (Hh (j+1)) y=true:=by
  have hi:i<xs.length:=(List.getElem?_eq_some_iff.1 hx).1;have hjx:xs[j]? =some (xs[j]'(by omega)):=List.getElem?_eq_getElem (by omega);have hno:cU an j i=false:=by
    cases hor:cU an j i with
    | false=>rfl
    | true=>have:=S.side hc (by rw[<-S.len];exact hi) hd (fun o' ho'=>by rw[ho]at ho';cases ho';exact hed) (by rw[<-S.len];omega) (by omega) hor;rw[hdj]at this;simp at this;omega
  have hej':(xs[j]'(by omega)).op.effect=true:=by unfold dE at hej;rw[hjx]at hej;exact hej
  have hr:=BZ hq (lY hq (T.run i x hx hw)) hy;have hmem:=S.chks i j x _ hx hjx hj hno (by unfold nS;simp[hej',hr]);have:=T.chk i j x hx hj hmem hw hwj;rw[hq]at this;simp only[Bool.false_eq_true,if_false,List.all_eq_true]at this;exact this y hy
theorem aAH(S:DrawStat P ops xs an)(T:Trace rec xs a h a' h' A Hh V RD W)(hc:iC ops D)(ho:ops[i]? =some o)(hx:xs[i]? =some x)(hd:D i=false)(hed:∀e∈aW o,D e=true)(hq:x.op.effect=false)(hw:W i=true)
    {y:Nat} (hy:y∈rdx (Hh i) (Hh (i+1)) (RD i)) {j:Nat} (hj:i<j) (hjl:j<xs.length) (hej:dE xs j=true) (hwj:W j=true) (hdj:D j=true):eY (Hh j) (Hh (j+1)) y=true:=by
  have hi:i<xs.length:=(List.getElem?_eq_some_iff.1 hx).1;have hjx:xs[j]? =some (xs[j]'hjl):=List.getElem?_eq_getElem hjl;have hno:cU an i j=false:=by
    rw[D3]
    cases hor:cU an j i with
    | false=>rfl
    | true=>have:=S.side hc (by rw[<-S.len];exact hi) hd (fun o' ho'=>by rw[ho]at ho';cases ho';exact hed) (by rw[<-S.len];omega) (by omega) hor;rw[hdj]at this;simp at this;omega
  have hej':(xs[j]'hjl).op.effect=true:=by unfold dE at hej;rw[hjx]at hej;exact hej
  have hr:=BZ hq (lY hq (T.run i x hx hw)) hy;have hmem:=S.chks j i _ x hjx hx hj hno (by unfold nS;simp[hej',hr]);have:=T.chk j i _ hjx hj hmem hwj hw;rw[hej']at this;simp only[if_true,List.all_eq_true]at this;exact this y hy
theorem I9(S:DrawStat P ops xs an)(hc:iC ops D){j k:Nat}(hjk:j<k)(hk:k<xs.length)(hej:dE xs j=true)(hek:dE xs k=true)(hdk:D k=true):D j=true:=by
  have hjx:xs[j]? =some (xs[j]'(by omega)):=List.getElem?_eq_getElem (by omega);have hkx:xs[k]? =some (xs[k]'hk):=List.getElem?_eq_getElem hk;have hej':(xs[j]'(by omega)).op.effect=true:=by unfold dE at hej;rw[hjx]at hej;exact hej
  have hek':(xs[k]'hk).op.effect=true:=by unfold dE at hek;rw[hkx]at hek;exact hek
  have hor:=S.effs j k _ _ hjx hkx (by omega) hej' hek';unfold cU at hor;simp only[Bool.or_eq_true,List.contains_iff_mem]at hor;rcases hor with h | h
  · exact S.closed_anc hc k (by rw[<-S.len];exact hk) (fun o ho e he=>hc k o ho hdk e he) j h
  · have:=S.anc_lt j k (by rw[<-S.len];omega) h;omega
theorem M8(ok:RecOk P rec m)(S:DrawStat P ops xs an)(T:Trace rec xs a h a' h' A Hh V RD W)(hc:iC ops D)(ho:ops[i]? =some o)(hx:xs[i]? =some x)(hd:D i=false)(hed:∀e∈aW o,D e=true)(hq:x.op.effect=false)(hw:W i=true)
    {y:Nat} (hy:y∈rdx (Hh i) (Hh (i+1)) (RD i)) (hlt:y<(Hh i).next):(Hh (max (kd xs D xs.length) (bi Hh y xs.length))).get y=(Hh i).get y:=by
  have hi:i<xs.length:=(List.getElem?_eq_some_iff.1 hx).1;have mono:=jM ok T;have hb:bi Hh y xs.length<=i:=lQ mono (Nat.le_refl _) hlt;have hln:y<(Hh xs.length).next:=Nat.lt_of_lt_of_le hlt (mono i _ (by omega) (Nat.le_refl _));have hbh:y<(Hh (bi Hh y xs.length)).next:=zA hln;have hkn:=QR xs D xs.length;rcases Nat.lt_or_ge i (kd xs D xs.length)with hgt | hle
  · have hmax:max (kd xs D xs.length) (bi Hh y xs.length)=kd xs D xs.length:=by omega
    rw[hmax];have:=fT ok T (y:=y) (p:=i) (kd xs D xs.length-i) (by omega) hlt (fun j h1 h2 hej hwj=>by
      rcases tH xs D xs.length with h0 | ⟨j0,e0,l0,d0,ef0⟩
      · omega
      · have hne:j≠i:=fun e=>by subst e;unfold dE at hej;rw[hx]at hej;simp only at hej;rw[hq]at hej;cases hej
        have hdj:D j=true:=by
          by_cases e:j=j0
          · rw[e];exact d0
          · exact I9 S hc (by omega) l0 hej ef0 d0
        exact aAH S T hc ho hx hd hed hq hw hy (by omega) (by omega) hej hwj hdj)
    rw[show i+(kd xs D xs.length-i)=kd xs D xs.length from by omega]at this;exact this
  · have hp:max (kd xs D xs.length) (bi Hh y xs.length)<=i:=by omega
    have hyp:y<(Hh (max (kd xs D xs.length) (bi Hh y xs.length))).next:=Nat.lt_of_lt_of_le hbh (mono _ _ (by omega) (by omega));have:=fT ok T (y:=y) (p:=max (kd xs D xs.length) (bi Hh y xs.length)) (i-max (kd xs D xs.length) (bi Hh y xs.length)) (by omega) hyp (fun j h1 h2 hej hwj=>by
      have hdj:D j=false:=by have:=lG xs D xs.length j (by omega) (by omega);rw[hej]at this;simpa using this
      exact aAI S T hc ho hx hd hed hq hw hy (by omega) hej hwj hdj)
    rw[show max (kd xs D xs.length) (bi Hh y xs.length)+(i-max (kd xs D xs.length) (bi Hh y xs.length))=i from by omega]at this;exact this.symm
theorem kX(T:Trace rec xs a h a' h' A Hh V RD W):∀k,k<=xs.length->(A k).length=a.length
  | 0,_=>by rw[T.a0]
  | k+1,hk=>by rw[T.put k _ (List.getElem?_eq_getElem (show k<xs.length by omega)),x8];exact kX T k (by omega)
theorem NA(hc:iC ops D)(ho:ops[i]? =some o)(hed:∀e∈aW o,D e=true):iC ops (fun j=>j==i||D j):=by
  intro j o' hj hd e he;by_cases e1:j=i
  · subst e1;rw[ho]at hj;cases hj;simp[hed e he]
  · have:D j=true:=by simpa [e1]using hd
    simp[hc j o' hj this e he]
theorem IG(hx:xs[i]? =some x)(hq:x.op.effect=false):kd xs (fun j=>j==i||D j) xs.length=kd xs D xs.length:=by
  refine IH _ (fun j hj he=>?_);by_cases e:j=i
  · subst e;unfold dE at he;rw[hx]at he;simp only at he;rw[hq]at he;cases he
  · simp[e]
theorem HY{t:Nat}(h:t∈x.op.uses):t∈x.names:=by unfold AOper.names;simp[h]
theorem DS.quiet(ok:RecOk P rec m)(S:DrawStat P ops xs an)(T:Trace rec xs a h a' h' A Hh V RD W)(hc:iC ops D)(ho:ops[i]? =some o)(hx:xs[i]? =some x)(hd:D i=false)(hed:∀e∈aW o,D e=true)(hq:x.op.effect=false)(hw:W i=true)
    (hfr:Fresh ρ0 h h') {ρ:Emb} {w:World} {act:Act} (ds:DS P xs a ρ0 h w0 Hh V D ρ w act) (hs:(Hh xs.length)=h') (h0:Hh 0=h)
    {ro:Option Nat} {next:Act->World->Prop} {Q:Exit->Act->World->Prop}
    (hk:∀u ρ' w',DS P xs a ρ0 h w0 Hh V (fun j=>j==i||D j) ρ' w' (act.put x.dst u)->next (act.put x.dst u) w'):o.wpIn (Fn ro) 0 P act w next Q:=by
  have hi:i<xs.length:=(List.getElem?_eq_some_iff.1 hx).1;obtain⟨q1,q2,q3⟩:=S.tr i o x ho hx;have hrun:=lY hq (T.run i x hx hw);have mono:=jM ok T;have hkq:=IG (D:=D) hx hq;have hops:Ops ρ (A i) act x.op.uses:=fun t ht=>by
    by_cases hl:t<a.length
    · rw[<-KH S T hc ho hx hd hed (HY ht) hl];exact ds.tmps t hl
    · have hla:=kX T i (by omega);rw[iY,List.getElem?_eq_none (by omega)];exact .junk _
  have hobj:KA P ρ (Hh i) w (RD i):=fun y hy l ob hl hg=>by
    have hlt:=H.lt_of_get hg;have hyr:y∈rdx (Hh i) (Hh (i+1)) (RD i):=by unfold rdx;split;exact List.mem_cons_of_mem _ hy;exact hy
    exact ds.obj y l ob hl (by rw[M8 ok S T hc ho hx hd hed hq hw hyr hlt];exact hg)
  refine O0 q1 ?_;obtain⟨u,⟨e1,e2,hv⟩ | ⟨ob,cb,lc,e1,hb,e2,hv⟩⟩:=aEt q1 hq hrun hops hobj
  · rw[e2];show next (act.put o.dst u) w
    rw[<-q2];refine hk u ρ w ⟨?_,?_,ds.sub,ds.bound,?_,?_,?_,ds.own,ds.wsize,ds.os,ds.tape,ds.output,ds.frame,ds.glb⟩
    · cases x.dst<;>simpa [Act.put]using ds.size
    · exact vJ S hc ho hx hd hed ds.tmps ds.size hv
    · intro y l hy;rcases ds.dom y l hy with h1 | ⟨k,h1,h2,h3⟩
      · exact .inl h1
      · exact .inr ⟨k,h1,by simp[h2],h3⟩
    · rw[hkq];exact ds.obj
    · rw[hkq];exact ds.inj
  · have hnext:(Hh (i+1)).next=(Hh i).next+1:=by rw[e1];rfl
    have hn:ρ (Hh i).next=none:=by
      cases hy:ρ (Hh i).next with
      | none=>rfl
      | some l=>
        rcases ds.dom _ l hy with h1 | ⟨k,h1,h2,h3,h4⟩
        · have m0:=mono 0 i (by omega) (by omega);have m1:=mono (i+1) xs.length (by omega) (Nat.le_refl _);rw[h0]at m0;rw[hs]at m1;rw[hfr (Hh i).next m0 (by omega)]at h1;cases h1
        · rcases Nat.lt_trichotomy k i with h5 | h5 | h5
          · have:=mono (k+1) i (by omega) (by omega);omega
          · subst h5;rw[hd]at h2;cases h2
          · have:=mono (i+1) k (by omega) (by omega);omega
    obtain⟨hv1,hv2⟩:=hv hn;have hsub:=gD (l:=lc) hn;have hyr:(Hh i).next∈rdx (Hh i) (Hh (i+1)) (RD i):=by unfold rdx;rw[if_pos (by omega)];simp
    --the new object,wherever it is looked at
    have hcont:∀K,K=kd xs D xs.length->(Hh (max K (bi Hh (Hh i).next xs.length))).get (Hh i).next=some ob:=by
      intro K hK;have hlt1:(Hh i).next<(Hh (i+1)).next:=by omega
      have hb1:bi Hh (Hh i).next xs.length<=i+1:=lQ mono (Nat.le_refl _) hlt1;have hln:(Hh i).next<(Hh xs.length).next:=Nat.lt_of_lt_of_le hlt1 (mono _ _ (by omega) (Nat.le_refl _));have hbh:=zA hln;have hb2:bi Hh (Hh i).next xs.length=i+1:=by
        rcases Nat.lt_or_ge (bi Hh (Hh i).next xs.length) (i+1)with h5 | h5
        · have:=mono _ i (show bi Hh (Hh i).next xs.length<=i by omega) (by omega);omega
        · omega
      have hget:(Hh (i+1)).get (Hh i).next=some ob:=by rw[e1];exact H.get_alloc_new _ _
      rw[hb2,hK];have hkn:=QR xs D xs.length;rcases Nat.lt_or_ge (i+1) (kd xs D xs.length)with hgt | hle
      · rw[show max (kd xs D xs.length) (i+1)=kd xs D xs.length from by omega];have:=fT ok T (y:=(Hh i).next) (p:=i+1) (kd xs D xs.length-(i+1)) (by omega) hlt1 (fun j h1 h2 hej hwj=>by
          rcases tH xs D xs.length with h9 | ⟨j0,e0,l0,d0,ef0⟩
          · omega
          · have hdj:D j=true:=by
              by_cases e:j=j0
              · rw[e];exact d0
              · exact I9 S hc (by omega) l0 hej ef0 d0
            exact aAH S T hc ho hx hd hed hq hw hyr (by omega) (by omega) hej hwj hdj)
        rw[show i+1+(kd xs D xs.length-(i+1))=kd xs D xs.length from by omega]at this;rw[this];exact hget
      · rw[show max (kd xs D xs.length) (i+1)=i+1 from by omega];exact hget
    have old:∀b,b<w.heap.size->(w.alloc cb).heap[b]? =w.heap[b]? :=fun b hb=>RowKit.Below.heap_alloc w cb b hb;rw[e2];show next (act.put o.dst u) (w.alloc cb)
    rw[<-q2];refine hk u (upd ρ (Hh i).next lc) (w.alloc cb) ⟨?_,?_,ds.sub.trans hsub,?_,?_,?_,?_,?_,?_,ds.os,ds.tape,ds.output,?_,ds.glb⟩
    · cases x.dst<;>simpa [Act.put]using ds.size
    · exact vJ S hc ho hx hd hed (fun t ht=>(ds.tmps t ht).mono hsub) ds.size hv1
    · intro y l hy;by_cases e:y=(Hh i).next
      · subst e;rw[aV]at hy;cases hy;simp;omega
      · rw[bJ e]at hy;have:=ds.bound y l hy;simp;omega
    · intro y l hy;by_cases e:y=(Hh i).next
      · exact .inr ⟨i,hi,by simp,by omega,by omega⟩
      · rw[bJ e]at hy;rcases ds.dom y l hy with h1 | ⟨k,h1,h2,h3⟩
        · exact .inl h1
        · exact .inr ⟨k,h1,by simp[h2],h3⟩
    · rw[hkq];intro y l ob' hy hg;by_cases e:y=(Hh i).next
      · subst e;rw[aV]at hy;cases hy;rw[hcont _ rfl]at hg;cases hg;exact hv2
      · rw[bJ e]at hy;have h1:=ds.obj y l ob' hy hg
        cases hlv:ob'.islive with
        | true=>exact h1.mono hsub (old _ (h1.lt hlv))
        | false=>cases ob'<;>first | trivial | (simp[AObj.islive]at hlv)
    · rw[hkq];intro y z ly lz oy oz hy hz hgy hgz hry hlz hne;by_cases ey:y=(Hh i).next
      · subst ey;rw[aV]at hy;cases hy;rw[bJ (Ne.symm hne)]at hz;have:=(ds.obj z lz oz hz hgz).lt hlz;omega
      · rw[bJ ey]at hy;by_cases ez:z=(Hh i).next
        · subst ez;rw[aV]at hz;cases hz;have:=(ds.obj y ly oy hy hgy).lt (AObj.live_of_rw hry);omega
        · rw[bJ ez]at hz;exact ds.inj y z ly lz oy oz hy hz hgy hgz hry hlz hne
    · intro y l hy;by_cases e:y=(Hh i).next
      · subst e;rw[aV]at hy;cases hy;exact .inr (.inl (by rw[hb];exact ds.wsize))
      · rw[bJ e]at hy;exact ds.own y l hy
    · have:=ds.wsize;simp;omega
    · intro b hb' hno;rw[old b (Nat.lt_of_lt_of_le hb' ds.wsize)];exact ds.frame b hb' hno
theorem DS.loud(ok:RecOk P rec m)(S:DrawStat P ops xs an)(T:Trace rec xs a h a' h' A Hh V RD W)(hc:iC ops D)(ho:ops[i]? =some o)(hx:xs[i]? =some x)(hd:D i=false)(hed:∀e∈aW o,D e=true)(hq:x.op.effect=true)(hw:W i=true)
    (hfr:Fresh ρ0 h h') {ρ:Emb} {w:World} {act:Act} (ds:DS P xs a ρ0 h w0 Hh V D ρ w act) (hs:(Hh xs.length)=h') (h0:Hh 0=h)
    {ro:Option Nat} {next:Act->World->Prop} {Q:Exit->Act->World->Prop}
    (hk:∀u ρ' w',DS P xs a ρ0 h w0 Hh V (fun j=>j==i||D j) ρ' w' (act.put x.dst u)->next (act.put x.dst u) w'):o.wpIn (Fn ro) 0 P act w next Q:=by
  have hi:i<xs.length:=(List.getElem?_eq_some_iff.1 hx).1;have hsz:i<ops.size:=by rw[<-S.len];exact hi
  have hed':∀o',ops[i]? =some o'->∀e∈aW o',D e=true:=fun o' ho'=>by rw[ho]at ho';cases ho';exact hed
  obtain⟨q1,q2,q3⟩:=S.tr i o x ho hx;have hrun:=T.run i x hx hw;have mono:=jM ok T;have heffi:dE xs i=true:=by unfold dE;rw[hx];exact hq
  have hev:=sP ok T hi
  --where the others that change objects stand
  have hside:∀j,j<xs.length->j≠i->dE xs j=true->D j=decide (j<i):=by
    intro j hj hne hej;have hjx:xs[j]? =some (xs[j]'hj):=List.getElem?_eq_getElem hj;have hej':(xs[j]'hj).op.effect=true:=by unfold dE at hej;rw[hjx]at hej;exact hej
    exact S.side hc hsz hd hed' (by rw[<-S.len];exact hj) hne (S.effs j i _ _ hjx hx hne hej' hq)
  have hkle:kd xs D xs.length<=i:=by
    rcases tH xs D xs.length with h9 | ⟨j0,e0,l0,d0,ef0⟩
    · omega
    · have hne:j0≠i:=fun e=>by subst e;rw[hd]at d0;cases d0
      have:=hside j0 l0 hne ef0;rw[d0]at this;simp at this;omega
  have hkd':kd xs (fun j=>j==i||D j) xs.length=i+1:=by
    refine tG (by omega) (.inr ⟨i,rfl,by simp,heffi⟩) (fun j h1 h2=>?_)
    cases hej:dE xs j with
    | false=>simp
    | true=>
      have hne:j≠i:=by omega
      have:=hside j h2 hne hej;have h9:decide (j<i)=false:=by simp;omega
      rw[h9]at this;simp[this,hne]
  --what is there lies as it lay in the text's order
  have hcont:∀y,y<(Hh i).next->(Hh (max (kd xs D xs.length) (bi Hh y xs.length))).get y=(Hh i).get y:=by
    intro y hlt;have hb:bi Hh y xs.length<=i:=lQ mono (Nat.le_refl _) hlt;have hln:y<(Hh xs.length).next:=Nat.lt_of_lt_of_le hlt (mono i _ (by omega) (Nat.le_refl _));have hbh:y<(Hh (bi Hh y xs.length)).next:=zA hln;have hyp:y<(Hh (max (kd xs D xs.length) (bi Hh y xs.length))).next:=Nat.lt_of_lt_of_le hbh (mono _ _ (by omega) (by omega));have:=fT ok T (y:=y) (p:=max (kd xs D xs.length) (bi Hh y xs.length)) (i-max (kd xs D xs.length) (bi Hh y xs.length)) (by omega) hyp (fun j h1 h2 hej hwj=>by
      have h3:=lG xs D xs.length j (by omega) (by omega);have h4:=hside j (by omega) (by omega) hej;rw[hej,h4]at h3;simp at h3;omega)
    rw[show max (kd xs D xs.length) (bi Hh y xs.length)+(i-max (kd xs D xs.length) (bi Hh y xs.length))=i from by omega]at this;exact this.symm
  have hhr:HR P ρ (Hh i) w:=by
    have hev0:Ev h (Hh i):=by have:=jN ok T (i:=0) i (by omega);rw[h0,Nat.zero_add]at this;exact this
    have hfr0:Fresh ρ0 h (Hh i):=fun y p q=>by have m1:=mono i xs.length (by omega) (Nat.le_refl _);rw[hs]at m1;exact hfr y p (by omega)
    refine⟨ds.gat,ds.goff hev0 hfr0,ds.bound,fun y l ob hy hg=>ds.obj y l ob hy (by rw[hcont y (H.lt_of_get hg)];exact hg),fun y z ly lz oy oz hy hz hgy hgz=>?_⟩;exact ds.inj y z ly lz oy oz hy hz (by rw[hcont y (H.lt_of_get hgy)];exact hgy) (by rw[hcont z (H.lt_of_get hgz)];exact hgz)
  have hfresh:Fresh ρ (Hh i) (Hh (i+1)):=by
    intro y h1 h2
    cases hy:ρ y with
    | none=>rfl
    | some l=>
      rcases ds.dom _ l hy with h3 | ⟨k,h3,h4,h5,h6⟩
      · have m0:=mono 0 i (by omega) (by omega);have m1:=mono (i+1) xs.length (by omega) (Nat.le_refl _);rw[h0]at m0;rw[hs]at m1;rw[hfr y (by omega) (by omega)]at h3;cases h3
      · rcases Nat.lt_trichotomy k i with h7 | h7 | h7
        · have:=mono (k+1) i (by omega) (by omega);omega
        · subst h7;rw[hd]at h4;cases h4
        · have:=mono (i+1) k (by omega) (by omega);omega
  have hops:Ops ρ (A i) act x.op.uses:=fun t ht=>by
    by_cases hl:t<a.length
    · rw[<-KH S T hc ho hx hd hed (HY ht) hl];exact ds.tmps t hl
    · have hla:=kX T i (by omega);rw[iY,List.getElem?_eq_none (by omega)];exact .junk _
  refine GR ok q1 hrun hops hhr hfresh ?_;intro u ρ' w' hv hr' st;rw[<-q2]
  --an object that a later operation of the text has made already
  have hlate:∀y,¬y<(Hh (i+1)).next->(Hh (max (i+1) (bi Hh y xs.length))).get y=(Hh (max (kd xs D xs.length) (bi Hh y xs.length))).get y:=by
    intro y hy;have hbg:i+1<=bi Hh y xs.length:=by
      rcases RJ Hh y xs.length with e | e
      · omega
      · rcases Nat.lt_or_ge (bi Hh y xs.length) (i+1)with h5 | h5
        · have:=mono (bi Hh y xs.length) (i+1) (by omega) (by omega);omega
        · exact h5
    rw[show max (i+1) (bi Hh y xs.length)=bi Hh y xs.length from by omega,show max (kd xs D xs.length) (bi Hh y xs.length)=bi Hh y xs.length from by omega]
  have hearly:∀y,y<(Hh (i+1)).next->(Hh (max (i+1) (bi Hh y xs.length))).get y=(Hh (i+1)).get y:=by intro y hy;have:=lQ mono (Nat.le_refl xs.length) hy;rw[show max (i+1) (bi Hh y xs.length)=i+1 from by omega]
  have hbase:∀y l,ρ' y=some l->¬y<(Hh (i+1)).next->ρ y=some l:=by
    intro y l hy hn;rcases st.dom y l hy with h1 | ⟨_,h1⟩
    · exact h1
    · exact absurd h1 hn
  --whose block is it,seen from before
  have howner:∀y l oy,ρ' y=some l->(Hh (i+1)).get y=some oy->oy.islive=true->(∃oy',ρ y=some l/\(Hh i).get y=some oy'/\oy'.islive=true/\(oy.rwlive=true->oy'.rwlive=true))\/w.heap.size<=l.blk\/(∃z lz oz,ρ z=some lz/\(Hh i).get z=some oz/\oz.rwlive=true/\l.blk=lz.blk):=by
    intro y l oy hy hg hlv;rcases st.own y l hy with h1 | h1 | h1
    · by_cases hlt:y<(Hh i).next
      · obtain⟨o1,g1,g2⟩:=hev.live_back hg hlt hlv;refine .inl ⟨o1,h1,g1,g2,fun hrw=>?_⟩;obtain⟨o2,g3,g4⟩:=hev.rw_back hg hlt hrw;rw[g1]at g3;cases g3;exact g4
      · have:=hfresh y (by omega) (H.lt_of_get hg);rw[h1]at this;cases this
    · exact .inr (.inl h1)
    · exact .inr (.inr h1)
  have hlateblk:∀y ly oy,ρ y=some ly->¬y<(Hh (i+1)).next->(Hh (max (kd xs D xs.length) (bi Hh y xs.length))).get y=some oy->oy.islive=true->
      ∀z lz oz,ρ' z=some lz->(Hh (i+1)).get z=some oz->oz.islive=true->(oz.rwlive=true\/oy.rwlive=true)->ly.blk≠lz.blk:=by
    intro y ly oy hy hny hgy hly z lz oz hz hgz hlz hor;have hylt:=(ds.obj y ly oy hy hgy).lt hly;rcases howner z lz oz hz hgz hlz with⟨oz',g1,g2,g3,g4⟩ | g1 | ⟨q,lq,oq,g1,g2,g3,g4⟩
    · have hzlt:=H.lt_of_get g2;have hne:y≠z:=by have:=hev.next;omega
      have gz':(Hh (max (kd xs D xs.length) (bi Hh z xs.length))).get z=some oz':=by rw[hcont z hzlt];exact g2
      rcases hor with h1 | h1
      · exact fun e=>ds.inj z y lz ly oz' oy g1 hy gz' hgy (g4 h1) hly (Ne.symm hne) e.symm
      · exact ds.inj y z ly lz oy oz' hy g1 hgy gz' h1 g3 hne
    · omega
    · have hqlt:=H.lt_of_get g2;have hne:y≠q:=by have:=hev.next;omega
      have gq':(Hh (max (kd xs D xs.length) (bi Hh q xs.length))).get q=some oq:=by rw[hcont q hqlt];exact g2
      rw[g4];exact fun e=>ds.inj q y lq ly oq oy g1 hy gq' hgy g3 hly (Ne.symm hne) e.symm
  refine hk u ρ' w' ⟨?_,?_,ds.sub.trans st.sub,hr'.bound,?_,?_,?_,?_,Nat.le_trans ds.wsize st.size,st.os.trans ds.os,st.tape.trans ds.tape,st.output.trans ds.output,?_,ds.glb⟩
  · cases x.dst<;>simpa [Act.put]using ds.size
  · exact vJ S hc ho hx hd hed (fun t ht=>(ds.tmps t ht).mono st.sub) ds.size hv
  · intro y l hy;rcases st.dom y l hy with h1 | ⟨h1,h2⟩
    · rcases ds.dom y l h1 with h3 | ⟨k,h3,h4,h5⟩
      · exact .inl h3
      · exact .inr ⟨k,h3,by simp[h4],h5⟩
    · exact .inr ⟨i,hi,by simp,h1,h2⟩
  · rw[hkd'];intro y l ob hy hg;by_cases hlt:y<(Hh (i+1)).next
    · rw[hearly y hlt]at hg;exact hr'.obj y l ob hy hg
    · rw[hlate y hlt]at hg;have hyo:=hbase y l hy hlt;have h1:=ds.obj y l ob hyo hg
      cases hlv:ob.islive with
      | false=>cases ob<;>first | trivial | (simp[AObj.islive]at hlv)
      | true=>
        refine h1.mono st.sub (st.frame _ (h1.lt hlv) fun z lz oz hz hgz hrz e=>?_);have hzlt:=H.lt_of_get hgz;have hne:z≠y:=by have:=hev.next;omega
        exact ds.inj z y lz l oz ob hz hyo (by rw[hcont z hzlt];exact hgz) hg hrz hlv hne e
  · rw[hkd'];intro y z ly lz oy oz hy hz hgy hgz hry hlz hne;by_cases hly:y<(Hh (i+1)).next
    · rw[hearly y hly]at hgy;by_cases hlz':z<(Hh (i+1)).next
      · rw[hearly z hlz']at hgz;exact hr'.inj y z ly lz oy oz hy hz hgy hgz hry hlz hne
      · rw[hlate z hlz']at hgz;exact fun e=>hlateblk z lz oz (hbase z lz hz hlz') hlz' hgz hlz y ly oy hy hgy (AObj.live_of_rw hry) (.inl hry) e.symm
    · rw[hlate y hly]at hgy;by_cases hlz':z<(Hh (i+1)).next
      · rw[hearly z hlz']at hgz;exact hlateblk y ly oy (hbase y ly hy hly) hly hgy (AObj.live_of_rw hry) z lz oz hz hgz hlz (.inr hry)
      · rw[hlate z hlz']at hgz;exact ds.inj y z ly lz oy oz (hbase y ly hy hly) (hbase z lz hz hlz') hgy hgz hry hlz hne
  · intro y l hy;rcases st.own y l hy with h1 | h1 | ⟨z,lz,oz,g1,g2,g3,g4⟩
    · exact ds.own y l h1
    · exact .inr (.inl (Nat.le_trans ds.wsize h1))
    · rcases ds.own z lz g1 with h2 | h2 | ⟨q,lq,oq,k1,k2,k3,k4⟩
      · by_cases hzl:z<h.next
        · have ev0:=jN ok T (i:=0) i (by omega);rw[h0,Nat.zero_add]at ev0;obtain⟨o1,g5,g6⟩:=ev0.rw_back g2 hzl g3;exact .inr (.inr ⟨z,lz,o1,h2,g5,g6,g4⟩)
        · have m1:=mono i xs.length (by omega) (Nat.le_refl _);rw[hs]at m1;have:=hfr z (by omega) (by have:=H.lt_of_get g2;omega);rw[h2]at this;cases this
      · exact .inr (.inl (by rw[g4];exact h2))
      · exact .inr (.inr ⟨q,lq,oq,k1,k2,k3,g4.trans k4⟩)
  · intro b hb hno;rw[<-ds.frame b hb hno];refine st.frame b (Nat.lt_of_lt_of_le hb ds.wsize) fun z lz oz g1 g2 g3 e=>?_;rcases ds.own z lz g1 with h2 | h2 | ⟨q,lq,oq,k1,k2,k3,k4⟩
    · by_cases hzl:z<h.next
      · have ev0:=jN ok T (i:=0) i (by omega);rw[h0,Nat.zero_add]at ev0;obtain⟨o1,g5,g6⟩:=ev0.rw_back g2 hzl g3;exact hno z lz o1 h2 g5 g6 e
      · have m1:=mono i xs.length (by omega) (Nat.le_refl _);rw[hs]at m1;have:=hfr z (by omega) (by have:=H.lt_of_get g2;omega);rw[h2]at this;cases this
    · omega
    · exact hno q lq oq k1 k2 k3 (by rw[<-k4];exact e)
end
end
end
theorem CY:∀(os:List Oper) (acc:List (List Nat)),(∀j,j<acc.length->(o9 os acc).getD j []=acc.getD j [])/\
    (∀j o,os[j]? =some o->(∀e∈aW o,e<acc.length+j)->∀i∈(o9 os acc).getD (acc.length+j) [],∃e∈aW o,i=e\/i∈(o9 os acc).getD e [])
  | [],acc=>⟨fun j h=>rfl,fun j o h=>by simp at h⟩
  | o::os,acc=>by
    obtain⟨h1,h2⟩:=CY os (acc++[((aW o).flatMap fun j=>j::acc.getD j []).eraseDups]);have hstart:∀j,j<acc.length->(o9 (o::os) acc).getD j []=acc.getD j []:=by intro j hj;unfold o9;rw[h1 j (by simp;omega)];simp[List.getD_eq_getElem?_getD,List.getElem?_append,hj]
    refine⟨hstart,fun j o' ho hlt i hi=>?_⟩
    cases j with
    | zero=>
      simp at ho;subst ho;have e0:(o9 (o::os) acc).getD (acc.length+0) []=((aW o).flatMap fun j=>j::acc.getD j []).eraseDups:=by unfold o9;rw[h1 _ (by simp)];simp[List.getD_eq_getElem?_getD]
      rw[e0,List.mem_eraseDups,List.mem_flatMap]at hi;obtain⟨e,he,hi⟩:=hi;refine⟨e,he,?_⟩;rcases List.mem_cons.1 hi with h | h
      · exact .inl h
      · exact .inr (by rw[hstart e (by have:=hlt e he;omega)];exact h)
    | succ j=>
      have hlen:(acc++[((aW o).flatMap fun j=>j::acc.getD j []).eraseDups]).length+j=acc.length+(j+1):=by simp;omega
      have:=h2 j o' (by simpa using ho) (fun e he=>by have:=hlt e he;omega);rw[hlen]at this;exact this i (by unfold o9 at hi;exact hi)
section
variable {P:Program} {rec:Rec} {m:Nat}
theorem dW{an:List (List Nat)}{aos:List AOper}{i:Nat}{x:AOper}(h:(iE an aos)[i]? =some x):∃y,aos[i]? =some y/\x={y with chk:=(List.range i).filter fun j=>match aos[j]? with
    | some p=> !cU an j i&&nS p y
    | none=>false} :=by
  unfold iE at h;rw[List.getElem?_map,List.getElem?_zipIdx]at h
  cases hy:aos[i]? with
  | none=>simp[hy]at h
  | some y=>simp[hy]at h;exact⟨y,rfl,h.symm⟩
theorem JA{ops:Array Oper}{aos:List AOper}{mx:Bool}(htr:dS (sR P ops) ops.toList=some aos)(hok:M5 mx ops.toList (o9 ops.toList []) aos=true):
    DrawStat P ops (iE (o9 ops.toList []) aos) (o9 ops.toList [])/\(mx|| !Region.departs ops)=true:=by
  unfold M5 at hok;simp only[Bool.and_eq_true,List.all_eq_true]at hok;obtain⟨⟨h1,h2⟩,h3⟩:=hok;have hedge:∀(i:Nat) (o:Oper),ops[i]? =some o->∀j∈aW o,j<i:=by intro i o ho j hj;have:=h2 (o,i) (by rw[List.mem_zipIdx_iff_getElem?];simpa using ho);simpa using this j hj
  have hpair:∀(i j:Nat) (x y:AOper),aos[i]? =some x->aos[j]? =some y->i≠j->(!(x.op.effect&&y.op.effect)||cU (o9 ops.toList []) i j)=true/\(match x.dst with | some d=> !y.names.contains d||cU (o9 ops.toList []) i j | none=>true)=true:=by
    intro i j x y hx hy hne;have:=h3 (x,i) (by rw[List.mem_zipIdx_iff_getElem?];exact hx);simp only at this;have:=this (y,j) (by rw[List.mem_zipIdx_iff_getElem?];exact hy);simp only[Bool.or_eq_true,Bool.and_eq_true,beq_iff_eq]at this;rcases this with h | h
    · exact absurd h hne
    · exact⟨by simpa using h.1,h.2⟩
  refine⟨⟨?_,?_,hedge,?_,?_,?_,?_⟩,by simpa only[Array.toArray_toList]using h1⟩
  · have:=dO htr;unfold iE;simp[this]
  · intro i o x ho hx;obtain⟨y,hy,rfl⟩:=dW hx;obtain⟨q1,q2,_,q4⟩:=sQ (jR htr i o y (by simpa using ho) hy);exact⟨q1,q2,q4⟩
  · intro j o ho i hi;have:=(CY ops.toList []).2 j o (by simpa using ho) (fun e he=>by have:=hedge j o ho e he;simpa using this);simp only[List.length_nil,Nat.zero_add]at this;exact this i hi
  · intro i j x y hx hy hne hex hey;obtain⟨x',hx',rfl⟩:=dW hx;obtain⟨y',hy',rfl⟩:=dW hy;have:=(hpair i j x' y' hx' hy' hne).1;simp only at hex hey;simpa [hex,hey]using this
  · intro i j x y t hx hy hne hd ht;obtain⟨x',hx',rfl⟩:=dW hx;obtain⟨y',hy',rfl⟩:=dW hy;have:=(hpair i j x' y' hx' hy' hne).2;simp only at hd;rw[hd]at this;have ht':t∈y'.names:=ht;simpa [ht']using this
  · intro i j x y hx hy hji hno hcl;obtain⟨x',hx',rfl⟩:=dW hx;obtain⟨y',hy',rfl⟩:=dW hy;simp only[List.mem_filter,List.mem_range];refine⟨hji,?_⟩;rw[hy'];simp only[hno,Bool.not_false,Bool.true_and];exact hcl
section
variable {ops:Array Oper} {xs:List AOper} {an:List (List Nat)} {a a':List AV} {h h':H} {A:Nat->List AV} {Hh:Nat->H} {V:Nat->AV} {RD:Nat->List Nat} {W:Nat->Bool}
variable {ρ0:Emb} {w0:World}
theorem xE(act:Act)(d:Option Nat)(u:Value):(act.put d u).defers=act.defers:=by cases d<;>rfl
theorem SW(ok:RecOk P rec m)(S:DrawStat P ops xs an)(T:Trace rec xs a h a' h' A Hh V RD W)(hfr:Fresh ρ0 h h'){ro:Option Nat}{Q:Exit->Act->World->Prop}{dfs:List Deferred}
    (hQ:∀ρ w act D,(∀i,i<ops.size->D i=true)->DS P xs a ρ0 h w0 Hh V D ρ w act->act.defers=dfs->Q .normal act w):
    ∀{l:List Nat} {D:Nat->Bool},Sched ops D l->iC ops D->∀{ρ w act},DS P xs a ρ0 h w0 Hh V D ρ w act->act.defers=dfs->wpOpsIn (Fn ro) 0 P ops Q l act w:=by
  intro l D hs
  induction hs with
  | nil D hall=>intro hc ρ w act ds hd;exact hQ ρ w act D hall ds hd
  | cons D i o l ho hd he _ ih=>
    intro hc ρ w act ds hdf;have hi:i<xs.length:=by rw[S.len];exact(Array.getElem?_eq_some_iff.1 ho).1
    have hx:xs[i]? =some xs[i]:=List.getElem?_eq_getElem hi;obtain⟨q1,q2,q3⟩:=S.tr i o _ ho hx;have hlen:=kX T i (by omega);have hguard:Region.wanted o (yielded ops act.tmps)=W i:=by
      refine sN (a:=A i) (ρ:=ρ) (fun t bb hg=>?_) (by rw[ds.size,hlen]) q3 (T.want i _ hx);by_cases hl:t<a.length
      · rw[<-KH S T hc ho hx hd he (by unfold AOper.names;rw[hg];simp) hl];exact ds.tmps t hl
      · rw[iY,List.getElem?_eq_none (by omega)];exact .junk _
    simp only[wpOpsIn,ho,hguard];have hc':=NA hc ho he
    cases hw:W i with
    | true=>
      simp only[if_true];have hk:∀u ρ' w',DS P xs a ρ0 h w0 Hh V (fun j=>j==i||D j) ρ' w' (act.put xs[i].dst u)->wpOpsIn (Fn ro) 0 P ops Q l (act.put xs[i].dst u) w':=
        fun u ρ' w' ds'=>ih hc' ds' (by rw[xE];exact hdf)
      cases hq:xs[i].op.effect with
      | false=>exact DS.quiet ok S T hc ho hx hd he hq hw hfr ds T.hn T.h0 hk
      | true=>exact DS.loud ok S T hc ho hx hd he hq hw hfr ds T.hn T.h0 hk
    | false=>
      simp only[Bool.false_eq_true,if_false];refine⟨fun _ _=>trivial,?_⟩;rw[<-q2];obtain⟨s1,s2⟩:=T.skip i _ hx hw;have mono:=jM ok T
      --nothing has turned;only where an operation that changes objects is passed over,the place of looking moves on
      have hmove:∀y ρl,ρ y=some ρl->∀ob,(Hh (max (kd xs (fun j=>j==i||D j) xs.length) (bi Hh y xs.length))).get y=some ob->(Hh (max (kd xs D xs.length) (bi Hh y xs.length))).get y=some ob:=by
        intro y ly hy ob hg
        cases hq:xs[i].op.effect with
        | false=>rwa [IG hx hq]at hg
        | true=>
          have hsz:i<ops.size:=by rw[<-S.len];exact hi
          have heffi:dE xs i=true:=by unfold dE;rw[hx];exact hq
          have hside:∀j,j<xs.length->j≠i->dE xs j=true->D j=decide (j<i):=by
            intro j hj hne hej;have hjx:xs[j]? =some (xs[j]'hj):=List.getElem?_eq_getElem hj;have hej':(xs[j]'hj).op.effect=true:=by unfold dE at hej;rw[hjx]at hej;exact hej
            exact S.side hc hsz hd (fun o' ho'=>by rw[ho]at ho';cases ho';exact he) (by rw[<-S.len];exact hj) hne (S.effs j i _ _ hjx hx hne hej' hq)
          have hkle:kd xs D xs.length<=i:=by
            rcases tH xs D xs.length with h9 | ⟨j0,e0,l0,d0,ef0⟩
            · omega
            · have hne:j0≠i:=fun e=>by subst e;rw[hd]at d0;cases d0
              have:=hside j0 l0 hne ef0;rw[d0]at this;simp at this;omega
          have hkd':kd xs (fun j=>j==i||D j) xs.length=i+1:=by
            refine tG (by omega) (.inr ⟨i,rfl,by simp,heffi⟩) (fun j h1 h2=>?_)
            cases hej:dE xs j with
            | false=>simp
            | true=>
              have hne:j≠i:=by omega
              have:=hside j h2 hne hej;have h9:decide (j<i)=false:=by simp;omega
              rw[h9]at this;simp[this,hne]
          rw[hkd']at hg;by_cases hlt:y<(Hh (i+1)).next
          · rw[s2]at hlt;have hb:bi Hh y xs.length<=i:=lQ mono (Nat.le_refl _) hlt;have hln:y<(Hh xs.length).next:=Nat.lt_of_lt_of_le hlt (mono i _ (by omega) (Nat.le_refl _));have hbh:y<(Hh (bi Hh y xs.length)).next:=zA hln;have hyp:y<(Hh (max (kd xs D xs.length) (bi Hh y xs.length))).next:=Nat.lt_of_lt_of_le hbh (mono _ _ (by omega) (by omega));have:=fT ok T (y:=y) (p:=max (kd xs D xs.length) (bi Hh y xs.length)) (i-max (kd xs D xs.length) (bi Hh y xs.length)) (by omega) hyp (fun j h1 h2 hej hwj=>by
              have h3:=lG xs D xs.length j (by omega) (by omega);have h4:=hside j (by omega) (by omega) hej;rw[hej,h4]at h3;simp at h3;omega)
            rw[show max (kd xs D xs.length) (bi Hh y xs.length)+(i-max (kd xs D xs.length) (bi Hh y xs.length))=i from by omega]at this;rw[<-this];rw[show max (i+1) (bi Hh y xs.length)=i+1 from by omega,s2]at hg;exact hg
          · have hbg:i+1<=bi Hh y xs.length:=by
              rcases RJ Hh y xs.length with e | e
              · omega
              · rcases Nat.lt_or_ge (bi Hh y xs.length) (i+1)with h5 | h5
                · have:=mono (bi Hh y xs.length) (i+1) (by omega) (by omega);omega
                · exact h5
            rw[show max (i+1) (bi Hh y xs.length)=bi Hh y xs.length from by omega]at hg;rw[show max (kd xs D xs.length) (bi Hh y xs.length)=bi Hh y xs.length from by omega];exact hg
      refine ih hc' ⟨?_,?_,ds.sub,ds.bound,?_,?_,?_,ds.own,ds.wsize,ds.os,ds.tape,ds.output,ds.frame,ds.glb⟩ (by rw[xE];exact hdf)
      · cases xs[i].dst<;>simpa [Act.put]using ds.size
      · exact vJ S hc ho hx hd he ds.tmps ds.size (by rw[s1];exact VR.undef)
      · intro y ly hy;rcases ds.dom y ly hy with h1 | ⟨k,h1,h2,h3⟩
        · exact .inl h1
        · exact .inr ⟨k,h1,by simp[h2],h3⟩
      · intro y ly ob hy hg;exact ds.obj y ly ob hy (hmove y ly hy ob hg)
      · intro y z ly lz oy oz hy hz hgy hgz;exact ds.inj y z ly lz oy oz hy hz (hmove y ly hy oy hgy) (hmove z lz hz oz hgz)
theorem W6(ok:RecOk P rec m)(S:DrawStat P ops xs an)(hdep:(P.follows .mixedOrders|| !Region.departs ops)=true)(T:Trace rec xs a h a' h' A Hh V RD W){ro:Option Nat}{Q:Exit->Act->World->Prop}{id B:Nat}{ρ:Emb}{w:World}{act:Act}
    (ht:TR ρ a act.tmps) (hr:HR P ρ h w) (hfr:Fresh ρ h h') (hmk:MK B ρ w act.defers)
    (hQ:∀ρ' w' act',TR ρ' a' act'.tmps->HR P ρ' h' w'->Stp ρ h w ρ' h' w'->MK B ρ' w' act'.defers->Q .normal act' w'):
    (Code.region id ops true).wpIn (Fn ro) 0 P Q act w:=by
  refine wpIn_region_draw fun t=>?_;obtain⟨D0,hD0,hsch⟩:=XB ops S.edge (P.follows .mixedOrders) hdep t;have mono:=jM ok T;have hsz:act.tmps.size=a.length:=by have:=ht.1;simpa using this
  have hr1:HR P ρ h w.drew:=HR.heap hr rfl;have hvv:∀D:Nat->Bool,(∀i,i<ops.size->D i=false)->∀t,vv xs a V D t xs.length=tget a t:=fun D hD t=>vI (i:=0) xs.length (by omega) (fun j x _ hj _ _=>hD j (by rw[<-S.len];exact hj));have hkd0:∀D:Nat->Bool,(∀i,i<ops.size->D i=false)->kd xs D xs.length=0:=fun D hD=>tG (by omega) (.inl rfl) (fun j _ hj=>by rw[hD j (by rw[<-S.len];exact hj)];rfl);have hcont0:∀y l,ρ y=some l->∀ob,(Hh (max 0 (bi Hh y xs.length))).get y=some ob->h.get y=some ob:=by
    intro y l hy ob hg;by_cases hlt:y<h.next
    · have hb:bi Hh y xs.length<=0:=lQ mono (Nat.le_refl _) (by rw[T.h0];exact hlt);rw[show max 0 (bi Hh y xs.length)=0 from by omega,T.h0]at hg;exact hg
    · have h1:=H.lt_of_get hg;have h2:=aAP Hh y xs.length;have h3:=mono (max 0 (bi Hh y xs.length)) xs.length (by omega) (Nat.le_refl _);rw[T.hn]at h3;have:=hfr y (by omega) (by omega);rw[hy]at this;cases this
  refine SW (w0:=w) (dfs:=act.defers) ok S T hfr ?_ hsch ?_ (ρ:=ρ) ?_ rfl
  · intro ρ' w' act' D hall ds hdf;have hst:Stp ρ h w ρ' h' w':=⟨ds.sub,fun y l hy=>by
        rcases ds.dom y l hy with h1 | ⟨k,h1,h2,h3,h4⟩
        · exact .inl h1
        · have m0:=mono 0 k (by omega) (by omega);have m1:=mono (k+1) xs.length (by omega) (Nat.le_refl _);rw[T.h0]at m0;rw[T.hn]at m1;exact .inr ⟨by omega,by omega⟩,ds.own,ds.wsize,ds.os,ds.tape,ds.output,ds.frame⟩
    have hfin:∀y,y<h'.next->(Hh (max (kd xs D xs.length) (bi Hh y xs.length))).get y=h'.get y:=by
      intro y hy;have hln:y<(Hh xs.length).next:=by rw[T.hn];exact hy
      have hbh:=zA hln;have h2:=aAP Hh y xs.length;have h3:=QR xs D xs.length;have hyp:y<(Hh (max (kd xs D xs.length) (bi Hh y xs.length))).next:=Nat.lt_of_lt_of_le hbh (mono _ _ (by omega) (by omega));have:=fT ok T (y:=y) (p:=max (kd xs D xs.length) (bi Hh y xs.length)) (xs.length-max (kd xs D xs.length) (bi Hh y xs.length)) (by omega) hyp (fun j h1 h2 hej hwj=>by
        have h3:=lG xs D xs.length j (by omega) (by omega);rw[hej,hall j (by rw[<-S.len];omega)]at h3;simp at h3)
      rw[show max (kd xs D xs.length) (bi Hh y xs.length)+(xs.length-max (kd xs D xs.length) (bi Hh y xs.length))=xs.length from by omega,T.hn]at this;exact this.symm
    refine hQ ρ' w' act' ?_ ?_ hst (by rw[hdf];exact hmk.step hst)
    · have hlen:=kX T xs.length (Nat.le_refl _);rw[T.an]at hlen;refine⟨by have:=ds.size;simp;omega,fun j v u h1 h2=>?_⟩;have hj:j<a.length:=by have:=(List.getElem?_eq_some_iff.1 h1).1;omega
      have hv:=ds.tmps j hj;have hval:vv xs a V D j xs.length=tget a' j:=by rw[<-T.an,(wR T hj xs.length (Nat.le_refl _)).1];exact qL _ (fun k x hk hx _=>by rw[hall k (by rw[<-S.len];exact hk)])
      rw[hval,iY,h1]at hv;have:act'.tmps.getD j undef=u:=by rw[Array.getElem?_toList]at h2;simp[Array.getD_eq_getD_getElem?,h2]
      rw[this]at hv;exact hv
    · have hev0:Ev h h':=by have:=jN ok T (i:=0) xs.length (by omega);rw[Nat.zero_add,T.h0,T.hn]at this;exact this
      refine⟨ds.gat,ds.goff hev0 hfr,ds.bound,fun y l ob hy hg=>ds.obj y l ob hy (by rw[hfin y (H.lt_of_get hg)];exact hg),fun y z ly lz oy oz hy hz hgy hgz=>?_⟩;exact ds.inj y z ly lz oy oz hy hz (by rw[hfin y (H.lt_of_get hgy)];exact hgy) (by rw[hfin z (H.lt_of_get hgz)];exact hgz)
  · intro j o ho hd;rw[hD0 j (Array.getElem?_eq_some_iff.1 ho).1]at hd;cases hd
  · refine⟨hsz,fun t _=>?_,Sub.refl _,hr1.bound,fun y l hy=> .inl hy,?_,?_,fun y l hy=> .inl hy,Nat.le_refl _,rfl,rfl,rfl,fun _ _ _=>rfl,hr1.gat,hr1.goff⟩
    · rw[hvv D0 hD0 t];exact ht.get t
    · rw[hkd0 D0 hD0];intro y l ob hy hg;exact hr1.obj y l ob hy (hcont0 y l hy ob hg)
    · rw[hkd0 D0 hD0];intro y z ly lz oy oz hy hz hgy hgz;exact hr1.inj y z ly lz oy oz hy hz (hcont0 y ly hy oy hgy) (hcont0 z lz hz oz hgz)
end
end
end Go.Am

