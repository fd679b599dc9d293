/- The operations that change no object that was there: each runs as the abstract machine says, and what goes with it. -/
import Derived.Test.YtapbgleednkimaaGreatDoorAmRel
import Derived.Great.BuildSlice
import Derived.DeepKeys
import Derived.Lib.ConvBytes
import Derived.Lib.AtoiErrMem
import Derived.RangeFuncLeaves
import Derived.LoopNIn
set_option linter.all false
open List renaming getElem?_take->Bp,getElem?_drop->Br,length_cons->Ak,foldl_cons->Fx,flatMap_cons->Cc,getElem?_append->Gq,getElem?_map->Ap,getElem?_eq_getElem->Ad,mapM_cons->Hx,map_cons->Ah,length_nil->An,length_append->Al,drop_drop->Ej,flatten_cons->Fi,take_append_drop->Cu,nil_append->Aj,getElem?_append_left->Bm,size_toArray->Dj,getElem_of_mem->Dx,getElem_mem->Df,getElem?_cons_succ->Bl,mem_filterMap->Fz,range->Ba,mem_filter->Ek,mem_range->Et,all_eq_true->Cb,mem_map->Ew
open Array renaming getElem?_toList->Cj,foldl_toList->Hv,range->Hw,ext'->Cw,length_toList->Gr,getElem?_eq_getElem->Eu,getD_eq_getD_getElem?->Ga,replicate->Fj
open Nat renaming zero_add->Bg,add_zero->Dz,add_mul->Dg,mod_lt->Ea,zero_mul->Ei,le_refl->Ab,zero_le->Au,add_assoc->Cn,mul_le_mul_right->Dt,eq_zero_or_pos->Du,lt_succ_self->Gu
open Bool renaming and_eq_true->Aw,false_eq_true->Aq,true->Jr,false->Js
open Option renaming map_some->Dd,map_eq_some_iff->Ci,getD_some->Di,bind_some->Fh,map_none->Gt,some->Jp,none->Jq
open Prod renaming snd->Bb
namespace Go.Am
section
variable {P:Program} {ρ:Emb} {w:World} {a:List AV} {act:Act} {h:H}
def NE(P:Program)(ρ:Emb)(h:H)(w:World)(r:Result Next)(v:AV)(y:H):Prop:=
 ∃u,(y=h/\r= .ok (.value u) w/\VR ρ v u)\/
  (∃B E l,y=h.alloc B/\l.blk=w.heap.size/\r= .ok (.value u) (w.alloc E)/\(ρ h.next=Jq->VR (upd ρ h.next l) v u/\OR P (upd ρ h.next l) (w.alloc E) l B))
def NE.val{r:Result Next}{v:AV}{u:Value}(hr:r= .ok (.value u) w)(hv:VR ρ v u):NE P ρ h w r v h:=⟨u,.inl ⟨rfl,hr,hv⟩⟩
def NE.new{r:Result Next}{v:AV}{u:Value}{y:cq}{ob:Obj}{l:Loc}(hb:l.blk=w.heap.size)(hr:r= .ok (.value u) (w.alloc ob))
  (hv:ρ h.next=Jq->VR (upd ρ h.next l) v u/\OR P (upd ρ h.next l) (w.alloc ob) l y):NE P ρ h w r v (h.alloc y):=⟨u,.inr ⟨y,ob,l,rfl,hb,hr,hv⟩⟩
def nN{t:TypeId}{i:TypeInfo}(u:P.info? t=Jp i)(w:World):(typeInfo t).run P w= .ok i w:=by simp[typeInfo,u]
def gQ{t:TypeId}{n:Nat}(hs:jH P t=Jp n)(w:World):(sizeOf t).run P w= .ok n w:=by
 unfold jH at hs
 cases u:P.info? t with
 | none=>simp[u]at hs
 | some i=>simp[u]at hs;subst hs;simp[sizeOf,nN u]
def mK{t:TypeId}{b:Bool}(hs:rC P t=Jp b)(w:World):(isAgg t).run P w= .ok b w:=by
 unfold rC at hs
 cases u:P.underlying t with
 | none=>simp[u]at hs
 | some d=>cases d<;>simp[u]at hs<;>subst hs<;>simp[isAgg,run_underlying u]
def lO{t:TypeId}{z:List AV}(hs:rT P t=Jp z):∃u i,P.info? t=Jp i/\i.zero=Jp u/\(∀w,(zeroValue t).run P w= .ok u w)/\jD kW u.cells.toList=Jp z:=by
 unfold rT at hs
 cases y:P.info? t with
 | none=>simp[y]at hs
 | some i=>
  cases hz:i.zero with
  | none=>simp[y,hz]at hs
  | some u=>exact⟨u,i,rfl,hz,fun w=>by simp[zeroValue,nN y,hz],by simpa [y,hz]using hs⟩
def OR.cell{l:Loc}{o:cq}{b i:Nat}{v:AV}(B:OR P ρ w l o)(hg:h.get b=Jp o)(y:f0 h b i=Jp v):
  ∃u,w.cell? ⟨l.blk,l.base+i,Jq⟩=Jp u/\VR ρ v u:=by
 unfold f0 at y;rw[hg]at y;cases o<;>simp at y;rename_i ver rw cs;obtain⟨I,J,e,h1,h2,K,L,E⟩:=B;obtain⟨u,G,hv⟩:=E i v y;exact⟨u,by simp[World.cell?,h1,G],hv⟩
def zW{b i:Nat}{v:AV}(u:f0 h b i=Jp v):∃o,h.get b=Jp o/\o.cu=Jr:=by
 unfold f0 at u
 cases hg:h.get b with
 | none=>simp[hg]at u
 | some o=>exact⟨o,rfl,by cases o<;>simp[hg]at u;rfl⟩
def gN{b i n:Nat}{cs:List AV}(u:dY h b i n=Jp cs):∃ver rw all,h.get b=Jp (.cells ver rw all)/\i+n<=all.length/\cs=(all.drop i).take n:=by
 unfold dY at u
 grind
def OR.cells{l:Loc}{ver:Nat}{rw:Bool}{all cs:List AV}{i n:Nat}(I:OR P ρ w l (.cells ver rw all))(K:i+n<=all.length)(B:cs=(all.drop i).take n):
  ∃E,VRs ρ cs E/\E.length=n/\∀j u,E[j]? =Jp u->w.cell? ⟨l.blk,l.base+i+j,Jq⟩=Jp u:=by
 obtain⟨G,L,e,h1,h2,M,O,Q⟩:=I;subst B;have hlen:((all.drop i).take n).length=n:=by simp;omega
 refine⟨(G.toList.drop (l.base+i)).take n,⟨?_,fun j v u hv y=>?_⟩,?_,fun j u y=>?_⟩
 ·grind
 ·grind
 ·simp;omega
 ·have J:j<n:=by have R:=(List.getElem?_eq_some_iff.1 y).1;have:((G.toList.drop (l.base+i)).take n).length<=n:=List.length_take_le _ _;omega
  rw[Bp,if_pos J,Br,Cj]at y;simp[World.cell?,h1,y]
def Addr.ik(b o i:Nat):(⟨b,o,Jq⟩:Addr).add i=⟨b,o+i,Jq⟩:=by unfold Addr.add;split<;>simp_all
def OR.newRow{l:Loc}{ver:Nat}{rw:Bool}{cs:List AV}{B:Array Value}{e:TypeId}(hb:l.blk=w.heap.size)(y:l.base=0)(E:l.lim=B.size)
  (hlen:cs.length<=B.size) (hv:∀(i:Nat) (v:AV),cs[i]? =Jp v->∃u,B[i]? =Jp u/\VR ρ v u):OR P ρ (w.alloc (.cells B e)) l (.cells ver rw cs):=
 ⟨B,(0,0),e,by rw[hb];exact heap_alloc_new w _,E.symm,by omega,fun _=>rfl,fun i v h=>by rw[y,Bg];exact hv i v h⟩
def zT:∀(cs:List AV) (off:Nat) (new:List AV),off+new.length<=cs.length->(over cs off new).length=cs.length
 | cs,0,new,h=>by simp[over]at h ⊢;omega
 | [],off+1,new,h=>by simp at h
 | c::cs,off+1,new,h=>by simp only[over,Ak];rw[zT cs off new (by simp at h;omega)]
def IP:∀(cs:List AV) (off:Nat) (new:List AV),off+new.length<=cs.length->over cs off new=cs.take off++new++cs.drop (off+new.length)
 | cs,0,new,h=>by simp[over]
 | [],off+1,new,h=>by simp at h
 | c::cs,off+1,new,h=>by
  simp only[over];rw[IP cs off new (by simp at h;omega)]
  grind
def sP(off:Nat):∀(new:List Value) (k:Nat) (cs:Array Value),off+k+new.length<=cs.size->
  ((new.zipIdx k).foldl (fun cs (x:Value×Nat)=>cs.setIfInBounds (off+x.2) x.1) cs)=(cs.toList.take (off+k)++new++cs.toList.drop (off+k+new.length)).toArray
 | [],k,cs,h=>by simp
 | c::new,k,cs,h=>by
  simp only[List.zipIdx_cons,Fx];rw[sP off new (k+1) _ (by simp at h ⊢;omega)];simp only[Array.toList_setIfInBounds];congr 1
  grind [Ak,List.take_add_one,List.take_set_of_le,List.drop_set_of_lt]
def BQ(u:Nat->Option (Nat×Nat)):∀{L:List (Nat×Operand)} {J:List (Nat×Nat×AR)},tE u L=Jp J->
  (∀t∈J.flatMap (fun p=>opR p.2.2),VR ρ (bu a t) (act.tmps.getD t undef))->∀{cs E:List AV} {us:Array Value},VRs ρ cs us.toList->uA a cs J=Jp E->
  ∃G:Array Value,Instr.fill u us (L.map fun p=>(p.1,act.eval p.2))=Jp G/\VRs ρ E G.toList
 | [],J,I,ht,cs,E,us,hv,hf=>by cases I;cases hf;exact⟨us,rfl,hv⟩
 | (i,x)::L,J,I,ht,cs,E,us,hv,hf=>by
  unfold tE at I;split at I
  ·rename_i off size y U R S M;cases I;simp only[Cc,List.mem_append]at ht;have O:=cB S fun t h=>ht t (.inl h);unfold uA at hf;split at hf
   ·rename_i B;simp only[Aw,decide_eq_true_eq]at B;obtain⟨⟨h1,h2⟩,h3⟩:=B;obtain⟨Q,_⟩:=O.cells h3;have hlen:(act.eval x).cells.size=size:=by have:=Q.1;simp at this;omega
    have T:us.size=cs.length:=by have:=hv.1;simpa using this
    have K:VRs ρ (over cs off (ev a y).cells) ((act.eval x).cells.zipIdx.foldl (fun cs (c,j)=>cs.setIfInBounds (off+j) c) us).toList:=by rw[<-Hv,Array.toList_zipIdx];rw[sP off (act.eval x).cells.toList 0 us (by simp;omega)];rw[IP cs off _ (by omega)];simp only[Dz];rw[h1,show(act.eval x).cells.toList.length=size from by simpa using hlen];exact((hv.take off).append Q).append (hv.drop (off+size))
    obtain⟨G,V,hr⟩:=BQ u M (fun t h=>ht t (.inr h)) K hf
    grind [Instr.fill]
   ·cases hf
  ·cases I
def rI{n:Nat}{z:List AV}{y:List Value}(hz:VRs ρ z y)(J:0<z.length):VRs ρ (kY n z) ((Hw (n*y.length)).map (y.toArray[· % y.toArray.size]!)).toList:=by
 have hl:y.length=z.length:=hz.1;have E:∀n:Nat,(kY n z).length=n*z.length:=by
  intro n
  induction n with
  | zero=>simp[kY]
  | succ n G=>simp[kY,G,Dg,Nat.add_comm]
 have I:∀(n i:Nat),i<n*z.length->(kY n z)[i]? =z[i % z.length]? :=by
  intro n
  induction n with
  | zero=>intro i B;simp at B
  | succ n G=>
   intro i B;simp only[kY];rw[Gq];by_cases h1:i<z.length
   ·rw[if_pos h1,Nat.mod_eq_of_lt h1]
   ·rw[if_neg h1,G (i-z.length) (by rw[Dg]at B;omega)];congr 1
    conv=>rhs;rw[show i=(i-z.length)+z.length from by omega,Nat.add_mod_right]
 refine⟨by simp[E,hl],fun i v u h1 h2=>?_⟩;have B:i<n*z.length:=by have:=(List.getElem?_eq_some_iff.1 h1).1;rw[E]at this;exact this
 rw[I n i B]at h1;have hm:i % z.length<y.length:=by rw[hl];exact Ea _ J
 simp only[Array.toList_map,Ap,Array.toList_range,List.getElem?_range (show i<n*y.length from by rw[hl];exact B),Dd]at h2;cases h2;have:y.toArray[i % y.toArray.size]! =y[i % z.length]:=by
  grind
 rw[this];exact hz.2 _ _ _ h1 (Ad hm)
end
section
variable {P:Program} {ρ:Emb} {w:World} {a:List AV} {act:Act} {h h':H} {o:Oper} {ao:AO} {v:AV} {rd:List Nat}
def Ops(ρ:Emb)(a:List AV)(act:Act)(u:List Nat):Prop:=∀t∈u,VR ρ (bu a t) (act.tmps.getD t undef)
def QH(P:Program)(ρ:Emb)(h:H)(w:World)(rd:List Nat):Prop:=∀x∈rd,∀l u,ρ x=Jp l->h.get x=Jp u->OR P ρ w l u
def Ops.left{u y:List Nat}(h:Ops ρ a act (u++y)):Ops ρ a act u:=fun t ht=>h t (List.mem_append.2 (.inl ht))
def Ops.right{y u:List Nat}(h:Ops ρ a act (y++u)):Ops ρ a act u:=fun t ht=>h t (List.mem_append.2 (.inr ht))
def VR.bt{k:IntKind}{n:Int}{u:Value}(h:VR ρ (.int k n) u):u= .int k n:=by cases h;rfl
def VR.cv{b:Bool}{u:Value}(h:VR ρ (.bool b) u):u= .bool b:=by cases h;rfl
def VR.di{s:ByteArray}{u:Value}(h:VR ρ (.str s) u):u= .string s:=by cases h;rfl
def VR.gi{b i:Nat}{u:Value}(h:VR ρ (.ptr b i) u):∃l,ρ b=Jp l/\u= .pointer (Jp ⟨l.blk,l.base+i,Jq⟩):=by cases h with | ptr _ _ l h=>exact⟨l,h,rfl⟩
def VR.nh{r:Nat}{u:Value}(h:VR ρ (.map r) u):∃l,ρ r=Jp l/\u= .map (Jp l.blk):=by cases h with | map _ l h=>exact⟨l,h,rfl⟩
def U5{x:Operand}(u:o.op= .move x\/o.op= .assign x)(B:cL P o=Jp ao)(y:aop a h ao=Jp (v,h',rd))(ht:Ops ρ a act ao.dv):
  NE P ρ h w ((execOp act.eval o).run P w) v h':=by
 have e:(trR x).map AO.move=Jp ao:=by rcases u with u | u<;>simpa [cL,u]using B
 simp only[Ci]at e;obtain⟨r,hr,rfl⟩:=e;simp only[aop,Option.some.injEq,Prod.mk.injEq]at y;obtain⟨rfl,rfl,rfl⟩:=y;exact NE.val (by rcases u with u | u<;>simp[execOp,u]) (cB hr ht)
def aEY{c x y:Operand}(E:o.op= .pick c x y)(B:cL P o=Jp ao)(u:aop a h ao=Jp (v,h',rd))(ht:Ops ρ a act ao.dv):
  NE P ρ h w ((execOp act.eval o).run P w) v h':=by
 simp only[cL,E]at B;split at B
 ·rename_i K L M G I J;cases B;simp only[AO.dv]at ht;have h1:=cB G ht.left.left;have h2:=cB I ht.left.right;have h3:=cB J ht.right;simp only[aop]at u;split at u
  ·rename_i hb;cases u;rw[hb]at h1;exact NE.val (by simp[execOp,E,h1.cv,asBool]) h2
  ·rename_i hb;cases u;rw[hb]at h1;exact NE.val (by simp[execOp,E,h1.cv,asBool]) h3
  grind
 ·cases B
def aBL{e:TypeId}(K:o.op= .alloc e)(E:cL P o=Jp ao)(B:aop a h ao=Jp (v,h',rd)):
  NE P ρ h w ((execOp act.eval o).run P w) v h':=by
 simp only[cL,K,Ci]at E;obtain⟨z,hz,rfl⟩:=E;obtain⟨u,i,O,I,J,G⟩:=lO hz;simp only[aop,Option.some.injEq,Prod.mk.injEq]at B;obtain⟨rfl,rfl,rfl⟩:=B;have hl:=iY G;refine NE.new (u:= .pointer (Jp ⟨w.heap.size,0,Jq⟩)) (ob:= .cells u.cells e) (l:=⟨w.heap.size,0,u.cells.size⟩) rfl ?_ fun L=>⟨?_,?_⟩
 ·simp[execOp,K,Instr.alloc,J,newVar,newRow]
 ·exact .ptr _ 0 ⟨w.heap.size,0,u.cells.size⟩ (dR _ _ _)
 ·exact OR.newRow rfl rfl rfl (by simp at hl;omega) (fun i x M=>by
   obtain⟨y,R,hr⟩:=(jJ (ρ:=upd ρ h.next ⟨w.heap.size,0,u.cells.size⟩) G).1.getElem M
   grind)
def aHy{e:TypeId}{x:Operand}(K:o.op= .box e x)(E:cL P o=Jp ao)(B:aop a h ao=Jp (v,h',rd))(ht:Ops ρ a act ao.dv):
  NE P ρ h w ((execOp act.eval o).run P w) v h':=by
 simp only[cL,K,Ci]at E;obtain⟨Q,M,rfl⟩:=E;have I:=cB M ht;simp only[aop]at B;split at B
 ·rename_i G;simp only[Option.some.injEq,Prod.mk.injEq]at B;obtain⟨rfl,rfl,rfl⟩:=B;obtain⟨L,_⟩:=I.cells G;have hl:=L.1;refine NE.new (u:= .pointer (Jp ⟨w.heap.size,0,Jq⟩)) (ob:= .cells (act.eval x).cells e) (l:=⟨w.heap.size,0,(act.eval x).cells.size⟩) rfl ?_ fun J=>⟨?_,?_⟩
  ·simp[execOp,K,Instr.box,newVar,newRow]
  ·exact .ptr _ 0 ⟨w.heap.size,0,(act.eval x).cells.size⟩ (dR _ _ _)
  ·exact OR.newRow rfl rfl rfl (by simp at hl;omega) (fun i y O=>by
    obtain⟨z,hz,hr⟩:=(L.mono (lV J)).getElem O;exact⟨z,by simpa using hz,hr⟩)
 ·cases B
def zF(w:World):∀(u:List Field),(∀(i:Nat) (f:Field),u[i]? =Jp f->(jH P f.type).isSome=Jr)->
  (u.mapM fun(f:Field)=>do pure (f.offset,<-sizeOf f.type)).run P w= .ok (u.map fun(f:Field)=>(f.offset,(jH P f.type).getD 0)) w
 | [],_=>by simp
 | f::u,h=>by have h0:=h 0 f rfl;obtain⟨n,y⟩:=Option.isSome_iff_exists.1 h0;have B:=zF w u (fun i g hg=>h (i+1) g (by simpa using hg));simp only[bind_pure_comp]at B ⊢;simp only[Hx,Sem.run_bind,Sem.run_map,gQ y,Result.andThen_ok,B,Sem.run_pure,Ah,y,Di]
def aBJ{t:TypeId}{U:Array (Nat×Operand)}(M:o.op= .build t U)(B:cL P o=Jp ao)(y:aop a h ao=Jp (v,h',rd))(ht:Ops ρ a act ao.dv):
  NE P ρ h w ((execOp act.eval o).run P w) v h':=by
 simp only[cL,M]at B;split at B
 ·rename_i z L hz O;split at B
  ·rename_i T;simp only[Ci]at B;obtain⟨V,Q,rfl⟩:=B;obtain⟨u,i,Y,G,I,J⟩:=lO hz;simp only[aop]at y;split at y
   ·rename_i cs hf;simp only[Option.some.injEq,Prod.mk.injEq]at y;obtain⟨rfl,rfl,rfl⟩:=y;obtain⟨K,h1,h2⟩:=BQ (oT P L) Q ht (us:=u.cells) (jJ J).1 hf;refine NE.val (u:= .agg K) ?_ (by have:=h2.qf;simpa using this);have R:(L.mapM fun(f:Field)=>do pure (f.offset,<-sizeOf f.type)).run P w= .ok (L.map fun(f:Field)=>(f.offset,(jH P f.type).getD 0)) w:=by
     have:=zF (P:=P) w L.toList (fun i f hf=>by
      grind)
     rw[Array.mapM_eq_mapM_toList,Sem.run_map,this];simp only[Result.andThen_ok];congr 1;apply Cw;simp
    have S:(fun(i:Nat)=>Option.map (fun(f:Field)=>(f.offset,(jH P f.type).getD 0)) L[i]?)=oT P L:=by funext i;unfold oT;all_goals grind
    have E:=R;simp only[bind_pure_comp]at E;simp[execOp,M,Instr.build,I,run_underlying O,E,S];simp_all
   grind
  ·cases B
 ·rename_i z n e hz O;split at B
  ·rename_i s hs;simp only[Ci]at B;obtain⟨V,Q,rfl⟩:=B;obtain⟨u,i,Y,G,I,J⟩:=lO hz;simp only[aop]at y;split at y
   ·rename_i cs hf;simp only[Option.some.injEq,Prod.mk.injEq]at y;obtain⟨rfl,rfl,rfl⟩:=y;obtain⟨K,h1,h2⟩:=BQ (fun i=>Jp (i*s,s)) Q ht (us:=u.cells) (jJ J).1 hf;refine NE.val (u:= .agg K) ?_ (by have:=h2.qf;simpa using this);simp[execOp,M,Instr.build,I,run_underlying O,gQ hs];rw[h1];rfl
   grind
  ·cases B
 ·cases B
def EY{t:TypeId}{len:Nat}{J:Array (Nat×Operand)}(L:o.op= .buildSlice t len J)(B:cL P o=Jp ao)(E:aop a h ao=Jp (v,h',rd))(ht:Ops ρ a act ao.dv):
  NE P ρ h w ((execOp act.eval o).run P w) v h':=by
 simp only[cL,L]at B;split at B
 ·rename_i e U;split at B
  ·rename_i s z hs hz;split at B
   ·rename_i V;simp only[Aw,decide_eq_true_eq]at V;obtain⟨⟨Z,M⟩,a0⟩:=V;simp only[Ci]at B;obtain⟨qs,hq,rfl⟩:=B;obtain⟨u,i,hi,O,Q,K⟩:=lO hz;simp only[aop]at E;split at E
    ·rename_i cs hf;simp only[Option.some.injEq,Prod.mk.injEq]at E;obtain⟨rfl,rfl,rfl⟩:=E;have a1:=iY K;have R:VRs ρ (kY len z) ((Hw (len*s)).map (u.cells[· % u.cells.size]!)).toList:=by
      have:=rI (ρ:=ρ) (n:=len) (jJ K).1 (by omega)
      grind
     obtain⟨G,h1,h2⟩:=BQ (fun i=>Jp (i*s,s)) hq ht R hf;have hlen:cs.length=G.size:=by have:=h2.1;simp at this;omega
     have a2:G.size=len*s:=by
      have:∀(J:List (Nat×Value)) (x y:Array Value),Instr.fill (fun i=>Jp (i*s,s)) x J=Jp y->y.size=x.size:=by
       intro J
       induction J with
       | nil=>intro x y e;simp[Instr.fill]at e;subst e;rfl
       | cons p J ih=>
        intro x y e;obtain⟨i,q⟩:=p;simp only[Instr.fill]at e;split at e
        ·cases e
        ·rw[ih _ _ e];rw[<-Hv,Array.toList_zipIdx];rename_i I;rw[sP _ _ _ _ (by simp at I ⊢;omega)]
         grind
      grind
     refine NE.new (u:= .slice (Jp ⟨w.heap.size,0,Jq⟩) len len) (ob:= .cells G e) (l:=⟨w.heap.size,0,G.size⟩) rfl ?_ fun S=>⟨?_,?_⟩
     ·by_cases h0:len=0
      ·subst h0;have e0:¬(0*s>2^24):=by omega
       have e1:∀f:Nat->Value,Array.map f (Hw 0)=(#[]:Array Value):=fun f=>by simp[Array.range_zero']
       simp[execOp,L,Instr.buildSlice,run_underlying U,gQ hs,newRow];simp only[Ei,e1]at h1 ⊢;rw[h1];rfl
      ·have T:len*s≠0:=Nat.mul_ne_zero h0 (by omega);have Y:¬(len*s>2^24):=by omega
       simp[execOp,L,Instr.buildSlice,run_underlying U,gQ hs,newRow,T,Q,show ¬(16777216<len*s)from by omega];rw[h1];rfl
     ·refine .slice Jr s h.next 0 len len _ (Ab _) ?_ (fun _=>rfl) fun hp=>⟨_,dR _ _ _,rfl,?_⟩
      ·have:len<=len*s:=Nat.le_mul_of_pos_right _ M;unfold maxLen;omega
      grind
     ·exact OR.newRow rfl rfl rfl (by omega) (fun i y hy=>by
       obtain⟨z,hz,hr⟩:=(h2.mono (lV S)).getElem hy;exact⟨z,by simpa using hz,hr⟩)
    grind
   ·cases B
  ·cases B
 ·cases B
end
def Fit:List (Option IntKind)->List Value->Prop
 | [],[]=>True
 | some k::T,.int y n::u=>y=k/\(Lit.int k n).wf=Jr/\Fit T u
 | none::T,.bool _::u=>Fit T u
 | _,_=>False
def sO:Value->Lit
 | .int k n=> .int k n
 | .bool b=> .bool b
 | _=> .bool Js
def Fit.length:∀{T:List (Option IntKind)} {u:List Value},Fit T u->u.length=T.length
 | [],[],_=>rfl
 | some k::T,.int y n::u,h=>by simp[Fit.length h.2.2]
 | none::T,.bool b::u,h=>by simp[Fit.length (T:=T) h]
def Fit.split:∀{A B:List (Option IntKind)} {us:List Value},Fit (A++B) us->Fit A (us.take A.length)/\Fit B (us.drop A.length)
 | [],B,us,h=>⟨by simp[Fit],by simpa using h⟩
 | some k::A,B,.int u n::us,h=>by obtain⟨h1,h2,h3⟩:=h;obtain⟨p,q⟩:=Fit.split (A:=A) h3;exact⟨⟨h1,h2,p⟩,q⟩
 | none::A,B,.bool b::us,h=>by obtain⟨p,q⟩:=Fit.split (A:=A) (us:=us) h;exact⟨p,q⟩
section
variable {P:Program}
def zR{m:Nat}(G:∀(t:TypeId) (T:List (Option IntKind)),t8 P m t=Jp T->∀us,Fit T us->P.keyLits m t us=Jp (us.map sO)){us:List Value} :
  ∀(y:List Field) (off:Nat) (T:List (Option IntKind)),rD P (t8 P m) off y=Jp T->off<=us.length->Fit T (us.drop off)->
  ∃as,y.mapM (fun f=>P.keyLits m f.type ((us.drop f.offset).take (P.cellsOf f.type)))=Jp as/\as.flatten=(us.drop off).map sO
 | [],off,T,u,hl,hf=>by cases u;have:=hf.length;simp only[An]at this;have e:us.drop off=[]:=List.length_eq_zero_iff.1 this;simp_all
 | f::y,off,T,u,hl,hf=>by
  unfold rD at u;split at u
  ·rename_i A B hA I;split at u
   ·rename_i J;cases u;obtain⟨h1,h2⟩:=J;obtain⟨p,q⟩:=hf.split;have hlen:=hf.length;simp only[Al,List.length_drop]at hlen;have K:=G _ _ hA _ p;rw[Ej]at q;rw[h2]at K q;have E:f.offset+P.cellsOf f.type<=us.length:=by omega
    obtain⟨as,L,M⟩:=zR G y (f.offset+P.cellsOf f.type) B I E (by rw[h1];exact q)
    grind [Option.bind_eq_bind,Fi,Ej,Cu]
   ·cases u
  ·cases u
def C9{m:Nat}{e:TypeId}{E:List (Option IntKind)}(u:∀us,Fit E us->P.keyLits m e us=Jp (us.map sO))(he:E.length=P.cellsOf e){us:List Value} :
  ∀(k off:Nat),off*E.length<=us.length->Fit (xM E k) (us.drop (off*E.length))->
  ∃as,(List.range' off k).mapM (fun i=>P.keyLits m e ((us.drop (i*P.cellsOf e)).take (P.cellsOf e)))=Jp as/\as.flatten=(us.drop (off*E.length)).map sO
 | 0,off,hl,hf=>by have:=hf.length;simp only[xM,An]at this;have e:us.drop (off*E.length)=[]:=List.length_eq_zero_iff.1 this;simp_all
 | k+1,off,hl,hf=>by
  have hlen:=hf.length;simp only[xM,Al,List.length_drop]at hlen;obtain⟨p,q⟩:=hf.split;have B:=u _ p;have G:off*E.length+E.length=(off+1)*E.length:=by rw[Nat.succ_mul]
  rw[Ej,G]at q;obtain⟨as,y,I⟩:=C9 u he k (off+1) (by omega) q;refine⟨_::as,by rw[List.range'_succ];simp only[Hx,<-he,B,Option.bind_eq_bind,Fh];rw[<-he]at y;rw[y];rfl,?_⟩
  grind [Fi,Ej,Cu]
def tM:∀(m:Nat) (t:TypeId) (T:List (Option IntKind)),t8 P m t=Jp T->∀us,Fit T us->P.keyLits m t us=Jp (us.map sO)
 | 0,t,T,u,us,hf=>by cases u
 | m+1,t,T,u,us,hf=>by
  unfold t8 at u;split at u
  ·rename_i k y;cases u
   match us,hf with
   | [.int R n],hf=>obtain⟨rfl,h2,_⟩:=hf;simp[Program.keyLits,y,h2,sO]
  ·rename_i y;cases u
   match us,hf with
   | [.bool b],hf=>simp[Program.keyLits,y,sO]
  ·rename_i M y;split at u
   ·rename_i S I;split at u
    ·rename_i J;cases u;obtain⟨B,K⟩:=J;have hlen:=hf.length;obtain⟨as,L,O⟩:=zR (fun t T h us hf=>tM m t T h us hf) (us:=us) M.toList 0 T I (Au _) (by simpa using hf);have G:us.length=P.cellsOf t:=by omega
     unfold Program.keyLits
     grind
    ·cases u
   ·cases u
  ·rename_i n e y;split at u
   ·rename_i E Q;split at u
    ·rename_i J;cases u;obtain⟨B,K⟩:=J;have hlen:=hf.length;obtain⟨as,L,O⟩:=C9 (fun us hf=>tM m e E Q us hf) B (us:=us) n 0 (by simp) (by simpa using hf);have G:us.length=P.cellsOf t:=by omega
     unfold Program.keyLits;rw[y];simp only;rw[if_pos G,List.range_eq_range',L]
     grind
    ·cases u
   ·cases u
  ·cases u
def FE{k:IntKind}{n:Int}(h:YS k n=Jr):(Lit.int k n).wf=Jr:=by cases k<;>simp[YS]at h<;>simp[Lit.wf,IntKind.min,IntKind.max,IntKind.signed,IntKind.bits]<;>omega
def JL{ρ:Emb} :∀{T:List (Option IntKind)} {B E:List AV} {G I:List Value} {b:Bool},jE T B E=Jp b->VRs ρ B G->VRs ρ E I->Fit T G/\Fit T I/\(b=Jr↔G.map sO=I.map sO):=by
 intro T
 induction T with
 | nil=>
  intro B E G I b h J K
  cases B with
  | cons x B=>cases h
  | nil=>cases E with
   | cons y E=>cases h
   | nil=>cases h;rw[J.da,K.da];simp[Fit]
 | cons o T Y=>
  intro B E G I b h J K
  cases o with
  | some k=>
   cases B with
   | nil=>cases h
   | cons x B=>
    cases E with
    | nil=>cases x<;>cases h
    | cons y E=>
     cases x<;>first | (cases h;done) | skip
     cases y<;>first | (cases h;done) | skip
     rename_i k1 m k2 n;simp only[jE]at h;split at h
     ·rename_i Z;obtain⟨rfl,rfl,hm,hn⟩:=Z;split at h
      ·rename_i b' hb;cases h;obtain⟨u,L,rfl,M,O⟩:=J.cons_inv;obtain⟨v,Q,rfl,R,S⟩:=K.cons_inv;rw[M.bt,R.bt];obtain⟨U,V,f3⟩:=Y hb O S;refine⟨⟨rfl,FE hm,U⟩,⟨rfl,FE hn,V⟩,?_⟩;simp only[Ah,sO,List.cons.injEq,Lit.int.injEq,true_and,Aw,beq_iff_eq,f3]
      ·cases h
     ·cases h
  | none=>
   cases B with
   | nil=>cases h
   | cons x B=>
    cases E with
    | nil=>cases x<;>cases h
    | cons y E=>
     cases x<;>first | (cases h;done) | skip
     cases y<;>first | (cases h;done) | skip
     rename_i p q;simp only[jE]at h;split at h
     ·rename_i b' hb;cases h;obtain⟨u,L,rfl,M,O⟩:=J.cons_inv;obtain⟨v,Q,rfl,R,S⟩:=K.cons_inv;rw[M.cv,R.cv];obtain⟨U,V,f3⟩:=Y hb O S;refine⟨U,V,?_⟩;simp only[Ah,sO,List.cons.injEq,Lit.bool.injEq,Aw,beq_iff_eq,f3]
     ·cases h
def Y1{m:Nat}{t:TypeId}{T:List (Option IntKind)}(B:(∃y,P.underlying t=Jp (.struct y))\/∃n e,P.underlying t=Jp (.array n e))(u:t8 P m t=Jp T):T.length=P.cellsOf t:=by
 cases m with
 | zero=>cases u
 | succ m=>
  unfold t8 at u
  grind
def DR{ρ:Emb}(w:World){t:TypeId}{T:List (Option IntKind)}(Q:(∃R,P.underlying t=Jp (.struct R))\/∃n e,P.underlying t=Jp (.array n e))(B:t8 P 20 t=Jp T)
  (S:P.keyTypeAt 20 t=Jr) (hg:P.eqGuardType P.depth t=Js) {I J:List AV} {u y:List Value} {b:Bool} (h:jE T I J=Jp b) (U:VRs ρ I u) (V:VRs ρ J y):
  (∀(op:BinOp) (X Y:Operand),(eqGuard op t X Y (.agg u.toArray) (.agg y.toArray)).run P w= .ok () w)/\(binOp .eql t (.agg u.toArray) (.agg y.toArray)).run P w= .ok (.bool b) w/\(binOp .neq t (.agg u.toArray) (.agg y.toArray)).run P w= .ok (.bool (!b)) w:=by
 obtain⟨K,L,f3⟩:=JL h U V;have hl:=Y1 Q B;have M:∀{E:List Value},Fit T E->(Value.agg E.toArray).formed P t=Jr:=by
  intro E hz;have:=hz.length;unfold Value.formed
  grind
 obtain⟨r,hr,O⟩:=run_equalIn_deep (P:=P) (10000-20) 20 t S w 20 20 (.agg u.toArray) (.agg y.toArray) _ _ (M K) (M L) (by simpa [Value.cells]using tM 20 t T B u K) (by simpa [Value.cells]using tM 20 t T B y L);have G:r=b:=by
  grind
 subst G;have he:(Op.equal t (.agg u.toArray) (.agg y.toArray)).run P w= .ok r w:=hr;refine⟨fun op X Y=>?_,?_,?_⟩
 ·unfold eqGuard;simp_all
 ·simp[binOp,he]
 ·simp[binOp,he]
end
section
variable {P:Program} {ρ:Emb} {w:World} {a:List AV} {act:Act} {h h':H} {o:Oper} {ao:AO} {v:AV} {rd:List Nat}
def qO{B:Addr}{y:List Value}{n:Nat}(E:y.length=n)(G:∀j u,y[j]? =Jp u->w.cell? (B.add j)=Jp u):
  (loadCells B n).run P w= .ok y.toArray w:=by subst E;exact run_loadCells_list w B y G
def aEZ{t:TypeId}{x:Operand}(K:o.op= .load t x)(E:cL P o=Jp ao)(B:aop a h ao=Jp (v,h',rd))(ht:Ops ρ a act ao.dv)(I:QH P ρ h w rd):
  NE P ρ h w ((execOp act.eval o).run P w) v h':=by
 simp only[cL,K]at E;split at E
 ·rename_i n U J L M;cases E;have G:=cB M ht;simp only[aop]at B;split at B
  ·rename_i b i hb;split at B
   ·rename_i cs O;simp only[Option.some.injEq,Prod.mk.injEq]at B;obtain⟨rfl,rfl,rfl⟩:=B;rw[hb]at G;obtain⟨l,hl,Q⟩:=G.gi;obtain⟨ver,rw,all,hg,V,e⟩:=gN O;obtain⟨S,h1,h2,h3⟩:=(I b (by simp) l _ hl hg).cells V e;refine NE.val (u:= .agg S.toArray) ?_ h1.qf;have R:(loadCells ⟨l.blk,l.base+i,Jq⟩ n).run P w= .ok S.toArray w:=qO h2 (fun j u Y=>by rw[Addr.ik];exact h3 j u Y);simp[execOp,K,Instr.loadAt,Q,Instr.sureAddr,loadVar,mK J,gQ L,R]
   grind
  grind
 ·rename_i U J M;cases E;have G:=cB M ht;simp only[aop]at B;split at B
  ·rename_i b i hb;split at B
   ·rename_i y T;simp only[Option.some.injEq,Prod.mk.injEq]at B;obtain⟨rfl,rfl,rfl⟩:=B;rw[hb]at G;obtain⟨l,hl,Q⟩:=G.gi;obtain⟨Z,hg,_⟩:=zW T;obtain⟨u,h1,h2⟩:=(I b (by simp) l _ hl hg).cell hg T;refine NE.val (u:=u) ?_ h2;simp[execOp,K,Instr.loadAt,Q,Instr.sureAddr,loadVar,mK J,h1]
   grind
  grind
 ·cases E
def MY{x:Operand}(G:o.op= .nilCheck x)(J:cL P o=Jp ao)(B:aop a h ao=Jp (v,h',rd))(ht:Ops ρ a act ao.dv):
  NE P ρ h w ((execOp act.eval o).run P w) v h':=by
 simp only[cL,G,Ci]at J;obtain⟨R,L,rfl⟩:=J;have E:=cB L ht;simp only[aop]at B;split at B
 ·rename_i b i hb;cases B;rw[hb]at E;obtain⟨l,hl,M⟩:=E.gi;exact NE.val (u:=act.eval x) (by simp[execOp,G,M]) E
 ·cases B
 ·rename_i f c d K hb;cases B;rw[hb]at E;refine NE.val (u:=act.eval x) ?_ E;generalize I:act.eval x=y at E
  cases E with
  | func _ _ _ S T O hf U h1 h2=>
   cases f with
   | method Q=>exact absurd rfl (K Q)
   | func g=>simp[execOp,G,I]
   | methodOf t n=>simp[execOp,G,I]
   | via t p f V=>simp[execOp,G,I]
   | yield l=>simp[wD]at O
  | yield r l h=>simp[execOp,G,I]
 ·rename_i t y hb;cases B;rw[hb]at E;refine NE.val (u:=act.eval x) ?_ E;generalize I:act.eval x=z at E
  cases E with
  | iface t v u h=>simp[execOp,G,I]
 ·cases B
def Q4{op:BinOp}{k:IntKind}{x y:Int}{r:AV}(hs:eY op=Js)(h:gG op k x y=Jp r)(t:TypeId):∃u,VR ρ r u/\(binOp op t (.int k x) (.int k y)).run P w= .ok u w:=by
 cases op<;>simp[eY]at hs<;>simp only[gG]at h
 case quo=>
  split at h
  ·cases h
  ·rename_i h0;cases h;exact⟨_,.int _ _,by simp[binOp,Op.intDiv,h0]⟩
 case rem=>
  split at h
  ·cases h
  ·rename_i h0;cases h;exact⟨_,.int _ _,by simp[binOp,Op.intDiv,h0]⟩
 all_goals (cases h;first | exact⟨_,.int _ _,by simp[binOp,Op.intArith,Op.intBits]⟩ | exact⟨_,.bool _,by simp[binOp,Op.intCmp]⟩)
def jO{op:BinOp}{t:TypeId}{x y:Operand}{u B:Value}(h1:∀c,u≠ .agg c)(h2:u≠ .nilIface):(eqGuard op t x y u B).run P w= .ok () w:=by unfold eqGuard;simp_all
def V8{op:BinOp}{x y r:AV}{u B:Value}(h:i7 op x y=Jp r)(I:VR ρ x u)(J:VR ρ y B)(t:TypeId):
  ∃z,VR ρ r z/\(∀X Y:Operand,(eqGuard op t X Y u B).run P w= .ok () w)/\(binOp op t u B).run P w= .ok z w:=by
 unfold i7 at h;split at h
 ·rename_i k a K b;have E:=I.bt;have G:=J.bt;subst E;subst G;have hg:∀X Y:Operand,(eqGuard op t X Y (.int k a) (.int K b)).run P w= .ok () w:=fun X Y=>jO (by simp) (by simp);split at h
  ·rename_i hs;unfold wW at h;split at h
   ·cases h
   ·rename_i h0;cases op<;>simp[eY]at hs
    ·cases h;exact⟨_,.int _ _,hg,by simp[binOp,Op.shift,h0]⟩
    ·cases h;exact⟨_,.int _ _,hg,by simp[binOp,Op.shift,h0]⟩
  ·rename_i hs;split at h
   ·rename_i L;subst L;obtain⟨z,hz,hb⟩:=Q4 (P:=P) (w:=w) (ρ:=ρ) (by simpa using hs) h t
    grind
   ·cases h
 ·rename_i a b;have E:=I.di;have G:=J.di;subst E;subst G;have hg:∀X Y:Operand,(eqGuard op t X Y (.string a) (.string b)).run P w= .ok () w:=fun X Y=>jO (by simp) (by simp);cases op<;>simp only at h
  case add=>
   split at h
   ·cases h
   ·rename_i h0;cases h;have hm:IntKind.i64.max=9223372036854775807:=by decide
    rw[hm]at h0;exact⟨_,.str _,hg,by simp[binOp,Op.stringOp,hm];omega⟩
  case eql=>cases h;exact⟨_,.bool _,hg,by simp[binOp,Op.stringOp]⟩
  case neq=>cases h;exact⟨_,.bool _,hg,by simp[binOp,Op.stringOp]⟩
  all_goals (cases h)
 ·cases h
def XJ{t:TypeId}{d:TypeDesc}{kd:Nat}(G:P.underlying t=Jp d)(hd:I1 d=Jp kd)
  {x y:AV} {b:Bool} {u B:Value} (h:PC kd x y=Jp b) (I:VR ρ x u) (J:VR ρ y B):
  (Op.equal t u B).run P w= .ok b w/\(binOp .eql t u B).run P w= .ok (.bool b) w/\(binOp .neq t u B).run P w= .ok (.bool (!b)) w/\(∀c,u≠ .agg c)/\u≠ .nilIface:=by
 have E:∀{u B:Value} {b:Bool},(Op.equal t u B).run P w= .ok b w->((binOp .eql t u B).run P w=((Op.equal t u B).run P w).andThen fun b w=> .ok (.bool b) w)->((binOp .neq t u B).run P w=((Op.equal t u B).run P w).andThen fun b w=> .ok (.bool (!b)) w)->
   (∀c,u≠ .agg c)->u≠ .nilIface->(Op.equal t u B).run P w= .ok b w/\(binOp .eql t u B).run P w= .ok (.bool b) w/\(binOp .neq t u B).run P w= .ok (.bool (!b)) w/\(∀c,u≠ .agg c)/\u≠ .nilIface:=by
  intro u B b h1 h2 h3 K L;exact⟨h1,by rw[h2,h1];rfl,by rw[h3,h1];rfl,K,L⟩
 unfold PC at h;split at h<;>first | (cases h;done) | skip
 all_goals (cases h;(cases I<;>cases J<;>cases d<;>first | (simp[I1]at hd;done) | skip))
 all_goals (refine E ?_ (by simp[binOp]) (by simp[binOp]) (by simp) (by simp))
 all_goals (unfold Op.equal;show(Op.equalIn (9999+1) t _ _).run P w=_;unfold Op.equalIn;simp[run_underlying G])
def LT{t:TypeId}{K:Array (String×TypeId)}{E G:Operand}(L:P.underlying t=Jp (.interface K))
  {x y:AV} {b:Bool} {u B:Value} (h:PC 4 x y=Jp b) (M:VR ρ x u) (O:VR ρ y B) (Q:(wT E||wT G)=Jr):
  (∀op:BinOp,(eqGuard op t E G u B).run P w= .ok () w)/\(binOp .eql t u B).run P w= .ok (.bool b) w/\(binOp .neq t u B).run P w= .ok (.bool (!b)) w:=by
 have I:(∃v,E= .const v)\/∃v,G= .const v:=by cases E<;>cases G<;>simp[wT]at Q ⊢
 have J:∀{u B:Value} {b:Bool},(Op.equal t u B).run P w= .ok b w->((binOp .eql t u B).run P w=((Op.equal t u B).run P w).andThen fun b w=> .ok (.bool b) w)->((binOp .neq t u B).run P w=((Op.equal t u B).run P w).andThen fun b w=> .ok (.bool (!b)) w)->
   (∀op:BinOp,(eqGuard op t E G u B).run P w= .ok () w)->(∀op:BinOp,(eqGuard op t E G u B).run P w= .ok () w)/\(binOp .eql t u B).run P w= .ok (.bool b) w/\(binOp .neq t u B).run P w= .ok (.bool (!b)) w:=by
  intro u B b h1 h2 h3 R;exact⟨R,by rw[h2,h1];rfl,by rw[h3,h1];rfl⟩
 unfold PC at h;split at h<;>first | (cases h;done) | skip
 all_goals first | (rename_i e;cases e;done) | skip
 all_goals (cases h;cases M;cases O)
 all_goals (refine J ?_ (by simp[binOp]) (by simp[binOp]) ?_)
 all_goals first
  | (unfold Op.equal;show(Op.equalIn (9999+1) t _ _).run P w=_;unfold Op.equalIn;simp[run_underlying L];done)
  | (intro op;unfold eqGuard;rcases I with⟨v,rfl⟩ | ⟨v,rfl⟩<;>cases op<;>simp)
def C3{op:BinOp}{t Z:TypeId}{x y:Operand}{Q R:AR}(ho:o.op= .binOp op t x y Z)(S:(∃fs,P.underlying t=Jp (.struct fs))\/∃n e,P.underlying t=Jp (.array n e))
  (U:trR x=Jp Q) (V:trR y=Jp R) (E:tO P op t Q R=Jp ao) (B:aop a h ao=Jp (v,h',rd)) (ht:Ops ρ a act ao.dv):
  NE P ρ h w ((execOp act.eval o).run P w) v h':=by
 have fin:∀{z:Value},VR ρ v z->(∀X Y:Operand,(eqGuard op t X Y (act.eval x) (act.eval y)).run P w= .ok () w)->(binOp op t (act.eval x) (act.eval y)).run P w= .ok z w->h'=h->
   NE P ρ h w ((execOp act.eval o).run P w) v h':=by
  intro z hz h1 h2 e;subst e;exact NE.val (u:=z) (by simp[execOp,ho,h1,h2]) hz
 unfold tO at E;split at E
 ·rename_i T M;split at E
  ·rename_i J;cases E;simp only[AO.dv]at ht;simp only[aop]at B;split at B<;>first | (cases B;done) | skip
   rename_i xs ys G I;split at B<;>first | (cases B;done) | skip
   rename_i b hb;cases B;have K:=cB U ht.left;have L:=cB V ht.right;rw[G]at K;rw[I]at L;obtain⟨us,h1,h2⟩:=K.jj;obtain⟨vs,h3,O⟩:=L.jj;obtain⟨k1,k2,k3⟩:=DR w S M J.1 J.2 hb h2 O;refine fin (z:= .bool _) (.bool _) (fun X Y=>by rw[h1,h3];exact k1 _ X Y) ?_ rfl
   grind
  ·cases E
 ·rename_i T M;split at E
  ·rename_i J;cases E;simp only[AO.dv]at ht;simp only[aop]at B;split at B<;>first | (cases B;done) | skip
   rename_i xs ys G I;split at B<;>first | (cases B;done) | skip
   rename_i b hb;cases B;have K:=cB U ht.left;have L:=cB V ht.right;rw[G]at K;rw[I]at L;obtain⟨us,h1,h2⟩:=K.jj;obtain⟨vs,h3,O⟩:=L.jj;obtain⟨k1,k2,k3⟩:=DR w S M J.1 J.2 hb h2 O;refine fin (z:= .bool _) (.bool _) (fun X Y=>by rw[h1,h3];exact k1 _ X Y) ?_ rfl
   grind
  ·cases E
 ·cases E
def aBK{op:BinOp}{t S:TypeId}{x y:Operand}(M:o.op= .binOp op t x y S)(E:cL P o=Jp ao)(B:aop a h ao=Jp (v,h',rd))(ht:Ops ρ a act ao.dv):
  NE P ρ h w ((execOp act.eval o).run P w) v h':=by
 have fin:∀{z:Value},VR ρ v z->(∀X Y:Operand,(eqGuard op t X Y (act.eval x) (act.eval y)).run P w= .ok () w)->(binOp op t (act.eval x) (act.eval y)).run P w= .ok z w->h'=h->
   NE P ρ h w ((execOp act.eval o).run P w) v h':=by
  intro z hz h1 h2 e;subst e;exact NE.val (u:=z) (by simp[execOp,M,h1,h2]) hz
 simp only[cL,M]at E;split at E
 ·rename_i K L k G I J;cases E;simp only[AO.dv]at ht;simp only[aop]at B;split at B
  ·rename_i r hr;cases B;obtain⟨z,hz,h1,h2⟩:=V8 (P:=P) (w:=w) hr (cB G ht.left) (cB I ht.right) t;exact fin hz h1 h2 rfl
  ·cases B
 ·rename_i K L G I J;cases E;simp only[AO.dv]at ht;simp only[aop]at B;split at B
  ·rename_i r hr;cases B;obtain⟨z,hz,h1,h2⟩:=V8 (P:=P) (w:=w) hr (cB G ht.left) (cB I ht.right) t;exact fin hz h1 h2 rfl
  ·cases B
 ·rename_i K L G I J;split at E<;>first | (cases E;done) | skip
  all_goals (cases E;simp only[AO.dv]at ht;simp only[aop]at B;split at B<;>first | (cases B;done) | skip)
  all_goals
   rename_i p q T U;cases B;have O:=cB G ht.left;have R:=cB I ht.right;rw[T]at O;rw[U]at R;refine fin (z:= .bool _) (.bool _) (fun X Y=>jO (by simp[O.cv]) (by simp[O.cv])) ?_ rfl;rw[O.cv,R.cv];first | exact run_eql_bool w t p q J | exact run_neq_bool w t p q J
 ·rename_i K L V G I J;exact C3 M (.inl ⟨V,J⟩) G I E B ht
 ·rename_i K L n e G I J;exact C3 M (.inr ⟨n,e,J⟩) G I E B ht
 ·rename_i K L ms G I J;split at E<;>first | (cases E;done) | skip
  rename_i Z;split at E<;>first | (cases E;done) | skip
  all_goals
   cases E;simp only[AO.dv]at ht;simp only[aop]at B;split at B<;>first | (cases B;done) | skip
   rename_i b hb;cases B;obtain⟨h1,h2,h3⟩:=LT (w:=w) J hb (cB G ht.left) (cB I ht.right) Z;exact NE.val (u:= .bool _) (by simp[execOp,M,h1,h2,h3]) (.bool _)
 ·rename_i K L d _ _ _ _ _ _ G I J;split at E<;>first | (cases E;done) | skip
  all_goals (cases E;simp only[AO.dv]at ht;simp only[aop]at B;split at B<;>first | (cases B;done) | skip)
  all_goals
   rename_i kd Q _ b hb;cases B;obtain⟨h1,h2,h3,h4,h5⟩:=XJ (w:=w) J Q hb (cB G ht.left) (cB I ht.right);refine fin (z:= .bool _) (.bool _) (fun X Y=>jO h4 h5) ?_ rfl;first | exact h2 | exact h3
 ·cases E
def aEX{op:UnOp}{t:TypeId}{x:Operand}(G:o.op= .unOp op t x)(E:cL P o=Jp ao)(y:aop a h ao=Jp (v,h',rd))(ht:Ops ρ a act ao.dv):
  NE P ρ h w ((execOp act.eval o).run P w) v h':=by
 simp only[cL,G,Ci]at E;obtain⟨J,I,rfl⟩:=E;have B:=cB I ht;simp only[aop]at y;split at y
 ·rename_i r hr;cases y;unfold aun at hr;split at hr
  ·rename_i k n he;rw[he]at B;have e:=B.bt;split at hr<;>first | (cases hr;done) | skip
   all_goals (cases hr;exact NE.val (u:= .int _ _) (by simp[execOp,G,e,Op.unary,Op.intArith,Op.intBits]) (.int _ _))
  ·rename_i b he;rw[he]at B;have e:=B.cv;split at hr<;>first | (cases hr;done) | skip
   all_goals (cases hr;exact NE.val (u:= .bool _) (by simp[execOp,G,e,Op.unary]) (.bool _))
  ·cases hr
 ·cases y
def yB{t:TypeId}{x:Operand}(I:o.op= .makeInterface t x)(y:cL P o=Jp ao)(B:aop a h ao=Jp (v,h',rd))(ht:Ops ρ a act ao.dv):
  NE P ρ h w ((execOp act.eval o).run P w) v h':=by
 simp only[cL,I]at y;split at y
 ·cases y
 ·rename_i d E J;simp only[Ci]at y;obtain⟨L,K,rfl⟩:=y;have G:=cB K ht;simp only[aop,Option.some.injEq,Prod.mk.injEq]at B;obtain⟨rfl,rfl,rfl⟩:=B;refine NE.val (u:= .iface t (act.eval x)) ?_ (.iface _ _ _ G);cases d<;>first | exact absurd rfl (E _) | simp[execOp,I,Instr.makeInterface,run_underlying J]
 ·cases y
def M5{fn:Fn}{f c:Array Operand}(I:o.op= .makeFunc fn f c)(y:cL P o=Jp ao)(B:aop a h ao=Jp (v,h',rd))(ht:Ops ρ a act ao.dv):
  NE P ρ h w ((execOp act.eval o).run P w) v h':=by
 simp only[cL,I]at y;split at y
 ·cases y
 ·cases y
 ·rename_i J M O E G hf K;cases y;simp only[AO.dv]at ht;have h1:=qI hf ht.left;have h2:=qI K ht.right;simp only[aop,Option.some.injEq,Prod.mk.injEq]at B;obtain⟨rfl,rfl,rfl⟩:=B;have L:∀g:Fn,(∀l,g= .yield l->False)->(∀t n,g= .methodOf t n->False)->wD g=Jr:=fun g hg hm=>by cases g<;>first | rfl | exact absurd rfl (hg _) | exact absurd rfl (hm _ _)
  refine NE.val (u:= .func _ (f.toList.map act.eval).toArray (c.toList.map act.eval).toArray) ?_ (.func _ _ _ _ _ (L _ E G) h1.1 h2.1 h1.2 h2.2);simp[execOp,I,Instr.makeFunc]
  grind
 ·cases y
def R8{t:TypeId}{r:Option Operand}(E:o.op= .makeMap t r)(B:cL P o=Jp ao)(y:aop a h ao=Jp (v,h',rd)):
  NE P ρ h w ((execOp act.eval o).run P w) v h':=by
 cases r with
 | some x=>simp[cL,E]at B
 | none=>
  simp only[cL,E,Option.some.injEq]at B;subst B;simp only[aop,Option.some.injEq,Prod.mk.injEq]at y;obtain⟨rfl,rfl,rfl⟩:=y;refine NE.new (u:= .map (Jp w.heap.size)) (ob:= .map #[] 0) (l:=⟨w.heap.size,0,0⟩) rfl ?_ fun G=>⟨.map h.next ⟨w.heap.size,0,0⟩ (dR _ _ _),?_⟩
  ·simp[execOp,E,Instr.makeMap]
  ·exact⟨#[],0,heap_alloc_new w _,VRs.nil _,VRs.nil _⟩
end
section
variable {P:Program} {ρ:Emb} {w:World} {a:List AV} {act:Act} {h h':H} {o:Oper} {ao:AO} {v:AV} {rd:List Nat}
def VR.ct{fl:Bool}{sz b i n:Nat}{u:Value}(h:VR ρ (.slice fl sz b i n) u):∃ad cap,u= .slice (Jp ad) n cap/\n<=cap/\cap<=maxLen/\(fl=Jr->cap=n)/\(0<cap->∃l,ρ b=Jp l/\ad=⟨l.blk,l.base+i,Jq⟩/\l.base+i+cap*sz<=l.lim):=by
 cases h with
 | slice _ _ _ _ _ cap ad h1 h2 h3 h4=>exact⟨ad,cap,rfl,h1,h2,h3,h4⟩
def F1{f:Value->ByteArray->Sem (ForInStep ByteArray)}(hf:∀(n:Int) (s:ByteArray),f (.int .u8 n) s=pure (ForInStep.yield (s.push (UInt8.ofNat n.toNat)))):∀{cs:List AV} {B:List Value} {bs:List UInt8} (y:ByteArray),VRs ρ cs B->jS cs=Jp bs->
  (forIn B y f).run P w= .ok ⟨(y.data.toList++bs).toArray⟩ w
 | [],B,bs,y,h,hb=>by rw[h.da];cases hb;simp
 | v::cs,B,bs,y,h,hb=>by
  obtain⟨u,E,rfl,hv,hr⟩:=h.cons_inv;unfold jS at hb;split at hb
  ·grind
  ·rename_i n r h0;cases h0;split at hb
   ·rename_i t ht;split at hb
    ·cases hb;rw[hv.bt];simp only[List.forIn_cons,hf,Sem.run_bind,Sem.run_pure,Result.andThen_ok];rw[F1 hf (y.push (UInt8.ofNat n.toNat)) hr ht];simp_all
    ·cases hb
   ·cases hb
  ·cases hb
def SA{s d:TypeId}{x:Operand}(J:o.op= .convert s d x)(B:cL P o=Jp ao)(S:ao.effect=Js)(y:aop a h ao=Jp (v,h',rd))(ht:Ops ρ a act ao.dv)(K:QH P ρ h w rd):
  NE P ρ h w ((execOp act.eval o).run P w) v h':=by
 simp only[cL,J]at B;split at B
 ·rename_i k k' x' hs hd L;cases B;have E:=cB L ht;simp only[aop]at y;split at y
  ·rename_i j n R;cases y;rw[R]at E;exact NE.val (u:= .int _ _) (by simp[execOp,J,E.bt,convert,run_underlying hs,run_underlying hd,Conv.intToInt]) (.int _ _)
  grind
 ·rename_i x' hs hd L;cases B;have E:=cB L ht;simp only[aop]at y;split at y
  ·rename_i s' T;cases y;rw[T]at E;exact NE.val (u:= .string _) (by simp[execOp,J,E.di,convert,run_underlying hs,run_underlying hd]) (.str _)
  grind
 ·rename_i e x' hs hd L;split at B
  ·rename_i he;cases B;have E:=cB L ht;simp only[aop]at y;split at y
   ·rename_i G;cases y;rw[G]at E;have I:act.eval x= .slice Jq 0 0:=by generalize act.eval x=u at E;cases E;rfl
    exact NE.val (u:= .string _) (by simp[execOp,J,I,convert,run_underlying hs,run_underlying hd,run_underlying he,Conv.bytesToString]) (.str _)
   ·rename_i fl sz b i n G;split at y
    ·rename_i cs M;split at y
     ·rename_i bs U;simp only[Option.some.injEq,Prod.mk.injEq]at y;obtain⟨rfl,rfl,rfl⟩:=y;rw[G]at E;obtain⟨ad,a0,I,g1,g2,g3,g4⟩:=E.ct;refine NE.val (u:= .string ⟨bs.toArray⟩) ?_ (.str _);have V:∃O:List Value,(loadCells ad n).run P w= .ok O.toArray w/\VRs ρ cs O:=by
       by_cases h0:n=0
       ·subst h0;have:cs=[]:=by
         obtain⟨ver,rw_,all,hg,R,e⟩:=gN M
         grind
        subst this;exact⟨[],rfl,.nil ρ⟩
       ·obtain⟨l,hl,rfl,_⟩:=g4 (by omega);obtain⟨ver,rw_,all,hg,R,e⟩:=gN M;obtain⟨O,h1,h2,h3⟩:=(K b (by simp) l _ hl hg).cells R e;exact⟨O,qO h2 (fun j u hj=>by rw[Addr.ik];exact h3 j u hj),h1⟩
      obtain⟨O,Y,Z⟩:=V;have Q:=fun f hf=>F1 (P:=P) (w:=w) (f:=f) hf ByteArray.empty Z U;have e0:ByteArray.empty.data.toList=[]:=rfl;simp only[e0,Aj]at Q;simp only[execOp,J,I,convert,Sem.run_bind,run_underlying hs,run_underlying hd,run_underlying he,Result.andThen_ok,Conv.bytesToString,Y];rw[List.forIn_toArray,Q _ fun n s=>rfl];simp_all
     grind
    grind
   grind
  ·cases B
 ·split at B
  ·cases B;simp[AO.effect]at S
  ·cases B
 ·cases B
def I4{t:TypeId}{n c:Operand}(T:o.op= .makeSlice t n c)(E:cL P o=Jp ao)(B:aop a h ao=Jp (v,h',rd))(ht:Ops ρ a act ao.dv):
  NE P ρ h w ((execOp act.eval o).run P w) v h':=by
 simp only[cL,T]at E;split at E
 ·rename_i e Z;split at E
  ·rename_i i z l c' U hz hl hc;split at E
   ·rename_i G;simp only[Aw,decide_eq_true_eq]at G;cases E;simp only[AO.dv]at ht;have h1:=cB hl ht.left;have h2:=cB hc ht.right;simp only[aop]at B;split at B
    ·rename_i m k e1 e2;rw[e1]at h1;rw[e2]at h2;split at B
     ·rename_i hb;obtain⟨b1,b2,b3,b4⟩:=hb;cases B;obtain⟨u,i',K,J,a0,L⟩:=lO hz;rw[U]at K;cases K;have M:=iY L;have V:u.cells.size=z.length:=by simpa using M.symm
      have O:k<=9223372036854775807:=by unfold j5 at b4;omega
      have B:=run_make (P:=P) w t e i u Z U J .i64 .i64 m k b1 b2 (by rw[Int.mul_comm];omega) O;refine NE.new (u:= .slice (Jp ⟨w.heap.size,0,Jq⟩) m.toNat k.toNat) (ob:= .cells (madeCells u.cells (k.toNat*i.size)) e)
       (l:=⟨w.heap.size,0,(madeCells u.cells (k.toNat*i.size)).size⟩) rfl ?_ fun a1=>⟨?_,?_⟩
      ·simp[execOp,T,h1.bt,h2.bt,B]
      ·refine .slice _ z.length h.next 0 m.toNat k.toNat _ (by omega) (by unfold maxLen;omega) (fun he=>?_) fun hp=>⟨_,dR _ _ _,rfl,?_⟩
       ·grind
       ·simp[madeCells,G.1]
      ·have I:∀Q,VRs Q (kY k.toNat z) (madeCells u.cells (k.toNat*i.size)).toList:=fun Q=>by
        have:=rI (n:=k.toNat) (jJ (ρ:=Q) L).1 (by omega);simp only[Array.toArray_toList,Gr]at this;unfold madeCells
        grind
       have R:kY k.toNat z=kY m.toNat z++kY (k.toNat-m.toNat) z:=by
        have:∀p q:Nat,kY (p+q) z=kY p z++kY q z:=by
         intro p q
         induction p with
         | zero=>simp[kY]
         | succ p ih=>rw[Nat.succ_add];simp[kY,ih]
        grind
       refine OR.newRow rfl rfl rfl ?_ fun j y Y=>?_
       ·have:=(I ρ).1
        grind
       ·obtain⟨z',S,hr⟩:=(I _).getElem (i:=j) (v:=y) (by rw[R,Bm (List.getElem?_eq_some_iff.1 Y).1];exact Y);exact⟨z',by simpa using S,hr⟩
     grind
    grind
   ·cases E
  ·cases E
 ·cases E
def vi(p:IntKind×Int):Value:= .int p.1 p.2
def qP{isS:Bool}{len cap:Nat}{l r m:Option (IntKind×Int)}(u:m.isSome=Jr->r.isSome=Jr)(h0:0<=(l.map Bb).getD (0:Int))(h1:(l.map Bb).getD (0:Int)<=(r.map Bb).getD (len:Int))
  (h2:(r.map Bb).getD (len:Int)<=(m.map Bb).getD (cap:Int)) (h3:(m.map Bb).getD (cap:Int)<=cap):
  (Instr.sliceBounds isS len cap (l.map vi) (r.map vi) (m.map vi)).run P w= .ok (((l.map Bb).getD (0:Int)).toNat,((r.map Bb).getD (len:Int)).toNat,((m.map Bb).getD (cap:Int)).toNat) w:=by
 have e:∀x:Int,0<=x->((x.toNat:Nat):Int)=x:=fun x G=>Int.toNat_of_nonneg G
 cases l with
 | none=>
  cases r with
  | none=>
   cases m with
   | none=>simp[Instr.sliceBounds]
   | some m=>simp at u
  | some r=>
   obtain⟨y,r⟩:=r;simp at h0 h1 h2 h3
   cases m with
   | none=>simp at h2 h3;simp[Instr.sliceBounds,vi,run_sliceBound w y r cap _ h1 h2]
   | some m=>obtain⟨B,m⟩:=m;simp at h2 h3;simp[Instr.sliceBounds,vi,run_sliceBound w B m cap _ (by omega) h3,run_sliceBound w y r m.toNat _ h1 (by rw[e m (by omega)];exact h2)]
 | some l=>
  obtain⟨E,l⟩:=l;simp at h0 h1
  cases r with
  | none=>
   cases m with
   | none=>simp at h1;simp[Instr.sliceBounds,vi,run_sliceBound w E l len _ h0 h1]
   | some m=>simp at u
  | some r=>
   obtain⟨y,r⟩:=r;simp at h1 h2 h3
   cases m with
   | none=>simp at h2 h3;simp[Instr.sliceBounds,vi,run_sliceBound w y r cap _ (by omega) h2,run_sliceBound w E l r.toNat _ h0 (by rw[e r (by omega)];exact h1)]
   | some m=>obtain⟨B,m⟩:=m;simp at h2 h3;simp[Instr.sliceBounds,vi,run_sliceBound w B m cap _ (by omega) h3,run_sliceBound w y r m.toNat _ (by omega) (by rw[e m (by omega)];exact h2),run_sliceBound w E l r.toNat _ h0 (by rw[e r (by omega)];exact h1)]
def uT{x:Option Operand}{y:Option AR}{n:Option Int}(u:EP x=Jp y)(ht:Ops ρ a act (MU y))(hb:bnd a y=Jp n):
  ∃p:Option (IntKind×Int),x.map act.eval=p.map vi/\n=p.map Bb:=by
 cases x with
 | none=>simp[EP]at u;subst u;simp[bnd]at hb;subst hb;exact⟨Jq,rfl,rfl⟩
 | some x=>
  simp only[EP,Ci]at u;obtain⟨r,hr,rfl⟩:=u;have hv:=cB hr ht;unfold bnd at hb;split at hb
  ·grind
  ·rename_i B h;cases h;split at hb
   ·rename_i k m he;cases hb;rw[he]at hv;exact⟨Jp (k,m),by simp[vi,hv.bt],rfl⟩
   ·cases hb
def vZ{t e:TypeId}{s len u:Nat}{base:Option Addr}{y B E:Option Value}{l r m:Nat}(G:P.underlying t=Jp (.slice e))(hs:jH P e=Jp s)
  (hb:(Instr.sliceBounds Jr len u y B E).run P w= .ok (l,r,m) w):(Instr.sliceAt t (.slice base len u) y B E).run P w= .ok (.slice (if m=l then base else base.map (·.add (l*s))) (r-l) (m-l)) w:=by
 simp[Instr.sliceAt,run_underlying G,Instr.slice,hb,gQ hs]
def VR.sliced{fl fl':Bool}{sz b i n l r cap' m:Nat}{ad:Addr}(h1:n<=cap')(h2:cap'<=maxLen)(h3:fl=Jr->cap'=n)
  (h4:0<cap'->∃y,ρ b=Jp y/\ad=⟨y.blk,y.base+i,Jq⟩/\y.base+i+cap'*sz<=y.lim) (hl:l<=r) (hr:r<=m) (hm:m<=cap') (hf:fl'=Jr->m=r):
  VR ρ (.slice fl' sz b (i+l*sz) (r-l)) (.slice (if m=l then Jp ad else(Jp ad).map (·.add (l*sz))) (r-l) (m-l)):=by
 by_cases e:m=l
 ·rw[if_pos e];exact .slice fl' sz b _ _ _ ad (by omega) (by omega) (fun B=>by have:=hf B;omega) (fun hp=>by omega)
 ·rw[if_neg e];refine .slice fl' sz b _ _ _ _ (by omega) (by omega) (fun B=>by have:=hf B;omega) fun hp=>?_;obtain⟨y,E,G,I⟩:=h4 (by omega);refine⟨y,E,by rw[G];show(⟨y.blk,y.base+i,Jq⟩:Addr).add (l*sz)=_;rw[Addr.ik,Cn],?_⟩;have:l*sz+(m-l)*sz<=cap'*sz:=by rw[<-Dg];exact Dt _ (by omega)
  omega
def II{t:TypeId}{s:ByteArray}{u y:Option Value}{l r m:Nat}(B:P.underlying t=Jp .string)(hb:(Instr.sliceBounds Js s.size s.size u y Jq).run P w= .ok (l,r,m) w):
  (Instr.sliceAt t (.string s) u y Jq).run P w= .ok (.string (s.extract l r)) w:=by
 simp[Instr.sliceAt,run_underlying B,Instr.slice,hb]
def IJ{t e:TypeId}{s n:Nat}{u:Addr}{y B:Option Value}{l r m:Nat}(E:P.underlying t=Jp (.array n e))(hs:jH P e=Jp s)
  (hb:(Instr.sliceBounds Js n n y B Jq).run P w= .ok (l,r,m) w):(Instr.sliceAt t (.pointer (Jp u)) y B Jq).run P w= .ok (.slice (Jp (if m=l then u else u.add (l*s))) (r-l) (m-l)) w:=by
 simp[Instr.sliceAt,run_underlying E,Instr.sureAddr,hb,gQ hs]
def aBG{t:TypeId}{x:Operand}{lo hi mx:Option Operand}(ho:o.op= .slice t x lo hi mx)(B:cL P o=Jp ao)(y:aop a h ao=Jp (v,h',rd))(ht:Ops ρ a act ao.dv)(a3:QH P ρ h w rd):
  NE P ρ h w ((execOp act.eval o).run P w) v h':=by
 simp only[cL,ho]at B;split at B
 ·rename_i e hu;split at B
  ·rename_i s x' a4 a5 b4 hs hx O Q a7;cases B;simp only[AO.dv]at ht;have E:=cB hx ht.left.left.left;simp only[aop]at y;split at y
   ·rename_i L R M S T a9;obtain⟨G,el,rfl⟩:=uT O ht.left.left.right S;obtain⟨pr,er,rfl⟩:=uT Q ht.left.right T;obtain⟨K,em,rfl⟩:=uT a7 ht.right a9;split at y
    ·rename_i r hr;cases y;unfold jN at hr;split at hr
     ·cases hr
     ·rename_i b5;have a0:K.isSome=Jr->pr.isSome=Jr:=by cases K<;>cases pr<;>simp_all
      split at hr
      ·rename_i I;rw[I]at E;have U:act.eval x= .slice Jq 0 0:=by generalize act.eval x=u at E;cases E;rfl
       split at hr
       ·rename_i hc;cases hr;simp only[Aw,beq_iff_eq]at hc;obtain⟨⟨Y,Z⟩,c3⟩:=hc;have hb:=qP (P:=P) (w:=w) (isS:=true) (len:=0) (cap:=0) a0 (by rw[Y];omega) (by rw[Y];simp[Z]) (by simp[Z,c3]) (by simp[c3]);simp only[Y,Int.ofNat_zero,Int.natCast_zero,Z,c3,Int.toNat_zero]at hb;refine NE.val (u:= .slice Jq 0 0) ?_ .ag;simp[execOp,ho,U,el,er,em,vZ hu hs hb]
       ·cases hr
      ·rename_i fl sz b i n I;rw[I]at E;obtain⟨ad,J,U,g1,g2,g3,g4⟩:=E.ct;split at hr
       ·rename_i hc;cases hr;obtain⟨rfl,Y,Z,c3,c4⟩:=hc;have fin:∀(m:Nat),(m:Int)=(K.map Bb).getD (J:Int)->((pr.map Bb).getD (n:Int)).toNat<=m->m<=J->
          ((if(K.map Bb).isSome then(K.map Bb).getD ((pr.map Bb).getD (n:Int))==(pr.map Bb).getD (n:Int)else fl&&(pr.map Bb).getD (n:Int)==(n:Int))=Jr->m=((pr.map Bb).getD (n:Int)).toNat)->
          NE P ρ h w ((execOp act.eval o).run P w) (.slice (if(K.map Bb).isSome then(K.map Bb).getD ((pr.map Bb).getD (n:Int))==(pr.map Bb).getD (n:Int)else fl&&(pr.map Bb).getD (n:Int)==(n:Int)) sz b (i+((G.map Bb).getD (0:Int)).toNat*sz) ((pr.map Bb).getD (n:Int)-(G.map Bb).getD (0:Int)).toNat) h:=by
         intro m a2 b0 b1 b2;have hb:=qP (P:=P) (w:=w) (isS:=true) (len:=n) (cap:=J) (l:=G) (r:=pr) (m:=K) a0 Y Z (by rw[<-a2];omega) (by rw[<-a2];omega);rw[<-a2,Int.toNat_natCast]at hb;have V:=VR.sliced (ρ:=ρ) (l:=((G.map Bb).getD (0:Int)).toNat) (r:=((pr.map Bb).getD (n:Int)).toNat) (m:=m) g1 g2 g3 g4 (by omega) b0 b1 b2;rw[show((pr.map Bb).getD (n:Int)).toNat-((G.map Bb).getD (0:Int)).toNat=((pr.map Bb).getD (n:Int)-(G.map Bb).getD (0:Int)).toNat from by omega]at V;refine NE.val ?_ V;simp only[execOp,ho,U,el,er,em,Sem.run_bind,vZ hu hs hb,Result.andThen_ok,Sem.run_pure];rw[show((pr.map Bb).getD (n:Int)).toNat-((G.map Bb).getD (0:Int)).toNat=((pr.map Bb).getD (n:Int)-(G.map Bb).getD (0:Int)).toNat from by omega]
        cases K with
        | none=>
         grind
        | some K=>obtain⟨kp,K⟩:=K;simp only[Dd,Di]at c3 c4;refine fin K.toNat (by simp;omega) (by omega) (by omega) fun hh=>?_;simp_all
       ·cases hr
      ·cases hr
    grind
   grind
  ·cases B
 ·rename_i hu;split at B
  ·rename_i x' a4 a5 hx O Q;cases B;simp only[AO.dv]at ht;have E:=cB hx ht.left.left;simp only[aop]at y;split at y
   ·rename_i s L R I S T;obtain⟨G,el,rfl⟩:=uT O ht.left.right S;obtain⟨pr,er,rfl⟩:=uT Q ht.right T;rw[I]at E;split at y
    ·rename_i hc;cases y;obtain⟨Y,Z,c3⟩:=hc;have hb:=qP (P:=P) (w:=w) (isS:=false) (len:=s.size) (cap:=s.size) (l:=G) (r:=pr) (m:=Jq) (by simp) Y Z (by simpa using c3) (by simp);refine NE.val ?_ (.str _);simp only[Gt]at hb;simp only[execOp,ho,E.di,el,er,Gt,Sem.run_bind,II hu hb,Result.andThen_ok,Sem.run_pure]
    grind
   grind
  ·cases B
 ·rename_i n e hu;split at B
  ·rename_i s x' a4 a5 hs hx O Q;split at B
   ·rename_i hn;cases B;simp only[AO.dv]at ht;have E:=cB hx ht.left.left;simp only[aop]at y;split at y
    ·rename_i b i I;rw[I]at E;obtain⟨lc,a6,U⟩:=E.gi;split at y
     ·rename_i L R ver rw_ cs S T hg;obtain⟨G,el,rfl⟩:=uT O ht.left.right S;obtain⟨pr,er,rfl⟩:=uT Q ht.right T;split at y
      ·rename_i hlen;split at y
       ·rename_i r hr;cases y;unfold jN at hr;simp only[Option.isSome_none,Bool.false_and,Aq,if_false,Option.getD_none]at hr;split at hr
        ·rename_i hc;cases hr;obtain⟨-,Y,Z,c3,c4⟩:=hc;obtain⟨cc,fz,et,g1,g2,g3,_⟩:=a3 b (by simp) lc _ a6 hg;have hb:=qP (P:=P) (w:=w) (isS:=false) (len:=n) (cap:=n) (l:=G) (r:=pr) (m:=Jq) (by simp) Y Z (by simpa using c4) (by simp);simp only[Gt,Option.getD_none,Int.toNat_natCast]at hb;have V:=VR.sliced (ρ:=ρ) (fl:=true) (fl':=(pr.map Bb).getD (n:Int)==(n:Int)) (sz:=s) (b:=b) (i:=i) (n:=n) (cap':=n) (l:=((G.map Bb).getD (0:Int)).toNat) (r:=((pr.map Bb).getD (n:Int)).toNat) (m:=n) (Ab _) (by unfold maxLen;omega) (fun _=>rfl) (ad:=⟨lc.blk,lc.base+i,Jq⟩) (fun _=>⟨lc,a6,rfl,by omega⟩) (by omega) (by omega) (Ab _) (fun hh=>by simp at hh;omega);rw[show((pr.map Bb).getD (n:Int)).toNat-((G.map Bb).getD (0:Int)).toNat=((pr.map Bb).getD (n:Int)-(G.map Bb).getD (0:Int)).toNat from by omega]at V;refine NE.val ?_ (by simpa using V);simp only[execOp,ho,U,el,er,Gt,Sem.run_bind,IJ hu hs hb,Result.andThen_ok,Sem.run_pure]
         grind
        ·cases hr
       grind
      grind
     grind
    grind
   ·cases B
  ·cases B
 ·cases B
def I6{t:TypeId}{x:Operand}{i:Nat}(I:o.op= .fieldAddr t x i)(y:cL P o=Jp ao)(B:aop a h ao=Jp (v,h',rd))(ht:Ops ρ a act ao.dv):
  NE P ρ h w ((execOp act.eval o).run P w) v h':=by
 simp only[cL,I]at y;split at y
 ·rename_i L J;split at y
  ·rename_i f hf;split at y
   ·rename_i n M hs K;cases y;have E:=cB K ht;simp only[aop]at B;split at B
    ·rename_i b j hb;cases B;rw[hb]at E;obtain⟨l,hl,G⟩:=E.gi;refine NE.val (u:= .pointer (Jp ⟨l.blk,l.base+(j+f.offset),Jq⟩)) ?_ (.ptr _ _ l hl);simp[execOp,I,G,Instr.fieldAt,run_underlying J,hf,Instr.sureAddr,fieldPlace,gQ hs,Addr.ik,Cn]
    grind
   ·cases y
  ·cases y
 ·cases y
def LS{t:TypeId}{cs:List AV}{y:List Value}{off n:Nat}{g:Bool}(u:rC P t=Jp g)(hs:jH P t=Jp n)(hv:VRs ρ cs y){r:AV}
  (h:(if g then(if off+n<=cs.length then Jp (AV.agg ((cs.drop off).take n))else Jq)else cs[off]?)=Jp r):∃z,VR ρ r z/\(part t y.toArray off).run P w= .ok z w:=by
 cases g with
 | true=>
  simp only[if_true]at h;split at h
  ·rename_i B;cases h;refine⟨.agg ((y.drop off).take n).toArray,((hv.drop off).take n).qf,?_⟩;simp[part,mK u,gQ hs]
  ·cases h
 | false=>simp only[Aq,if_false]at h;obtain⟨z,hz,hr⟩:=hv.getElem h;exact⟨z,hr,by simp[part,mK u,hz]⟩
def aBI{t:TypeId}{x:Operand}{i:Nat}(S:o.op= .field t x i)(E:cL P o=Jp ao)(B:aop a h ao=Jp (v,h',rd))(ht:Ops ρ a act ao.dv):
  NE P ρ h w ((execOp act.eval o).run P w) v h':=by
 have fin:∀{J:Array Field} {f:Field} {cs:List AV} {x':AR} {g:Bool} {n:Nat},P.underlying t=Jp (.struct J)->J[i]? =Jp f->rC P f.type=Jp g->jH P f.type=Jp n->VR ρ (.agg cs) (act.eval x)->
   (if g then(if f.offset+n<=cs.length then Jp (AV.agg ((cs.drop f.offset).take n))else Jq)else cs[f.offset]?)=Jp v->h'=h->NE P ρ h w ((execOp act.eval o).run P w) v h':=by
  intro J f cs x' g n K hf hg L hv I e;subst e;obtain⟨Y,T,M⟩:=hv.jj;obtain⟨z,hz,B⟩:=LS (P:=P) (w:=w) hg L M I;exact NE.val (u:=z) (by simp[execOp,S,T,Instr.field,run_underlying K,hf,asAgg,B]) hz
 simp only[cL,S]at E;split at E
 ·rename_i J K;split at E
  ·rename_i f hf;split at E
   ·rename_i n x' hg hs O;cases E;have G:=cB O ht;simp only[aop]at B;split at B
    ·rename_i cs I;split at B
     ·rename_i Q;cases B;rw[I]at G;exact fin (x':=x') K hf hg hs G (by simp[Q]) rfl
     grind
    grind
   ·rename_i x' hg O;cases E;have G:=cB O ht;simp only[aop]at B;split at B
    ·rename_i cs I;split at B
     ·rename_i y U;cases B;rw[I]at G;have R:∃n,jH P f.type=Jp n:=by
       unfold rC Program.underlying at hg;unfold jH
       cases V:P.info? f.type with
       | none=>simp[V]at hg
       | some i=>exact⟨i.size,rfl⟩
      obtain⟨n,L⟩:=R;exact fin (x':=x') K hf hg L G (by simpa using U) rfl
     grind
    grind
   ·cases E
  ·cases E
 ·cases E
def I5{t:TypeId}{x i:Operand}(I:o.op= .indexAddr t x i)(B:cL P o=Jp ao)(y:aop a h ao=Jp (v,h',rd))(ht:Ops ρ a act ao.dv):
  NE P ρ h w ((execOp act.eval o).run P w) v h':=by
 simp only[cL,I]at B;split at B
 ·rename_i e Q R J K L;split at B
  ·rename_i s hs;cases B;simp only[AO.dv]at ht;have h1:=cB K ht.left;have h2:=cB L ht.right;simp only[aop]at y;split at y
   ·rename_i fl sz b j n k m M O;rw[M]at h1;rw[O]at h2;split at y
    ·rename_i G;obtain⟨rfl,G⟩:=G;cases y;obtain⟨U,S,E,V,Y,Z,T⟩:=h1.ct;obtain⟨l,hl,rfl,_⟩:=T (by omega);refine NE.val (u:= .pointer (Jp ⟨l.blk,l.base+(j+m.toNat*sz),Jq⟩)) ?_ (.ptr _ _ l hl);simp[execOp,I,E,h2.bt,Instr.indexAt,asIntOf,run_underlying J,G,gQ hs,Addr.ik,Cn]
    grind
   grind
  ·cases B
 ·rename_i len e Q R J K L;split at B
  ·rename_i s hs;cases B;simp only[AO.dv]at ht;have h1:=cB K ht.left;have h2:=cB L ht.right;simp only[aop]at y;split at y
   ·rename_i b j k m M O;rw[M]at h1;rw[O]at h2;split at y
    ·rename_i G;cases y;obtain⟨l,hl,E⟩:=h1.gi;refine NE.val (u:= .pointer (Jp ⟨l.blk,l.base+(j+m.toNat*s),Jq⟩)) ?_ (.ptr _ _ l hl);simp[execOp,I,E,h2.bt,Instr.indexAt,asIntOf,run_underlying J,Instr.sureAddr,G,gQ hs,Addr.ik,Cn]
    grind
   grind
  ·cases B
 ·cases B
def aBH{t:TypeId}{x i:Operand}(E:o.op= .index t x i)(B:cL P o=Jp ao)(y:aop a h ao=Jp (v,h',rd))(ht:Ops ρ a act ao.dv):
  NE P ρ h w ((execOp act.eval o).run P w) v h':=by
 simp only[cL,E]at B;split at B
 ·rename_i n e T U G I J;split at B
  ·rename_i s g hs hg;cases B;simp only[AO.dv]at ht;have h1:=cB I ht.left;have h2:=cB J ht.right;simp only[aop]at y;split at y
   ·rename_i cs k m K L;rw[K]at h1;rw[L]at h2;split at y
    ·rename_i M;obtain⟨V,O,Q⟩:=h1.jj;have R:(if g then(if m.toNat*s+s<=cs.length then Jp (AV.agg ((cs.drop (m.toNat*s)).take s))else Jq)else cs[m.toNat*s]?)=Jp v/\h'=h:=by
      grind
     obtain⟨R,rfl⟩:=R;obtain⟨z,hz,hr⟩:=LS (P:=P) (w:=w) hg hs Q R;exact NE.val (u:=z) (by simp[execOp,E,O,h2.bt,Instr.index,asIntOf,run_underlying G,M,gQ hs,hr]) hz
    grind
   grind
  ·cases B
 ·rename_i T U G I J;cases B;simp only[AO.dv]at ht;have h1:=cB I ht.left;have h2:=cB J ht.right;simp only[aop]at y;split at y
  ·rename_i s k m K L;rw[K]at h1;rw[L]at h2;split at y
   ·rename_i M;split at y
    ·rename_i c S;cases y;exact NE.val (u:= .int .u8 c.toNat) (by simp[execOp,E,h1.di,h2.bt,Instr.index,asIntOf,run_underlying G,M,S]) (.int _ _)
    grind
   grind
  grind
 ·cases B
def qY{t:TypeId}{kd:Nat}(u:tN P t=Jp kd):∃d,P.underlying t=Jp d/\((kd=0/\∃q,d= .int q)\/(kd=1/\d= .bool)\/(kd=2/\d= .string)):=by
 unfold tN at u
 grind
def jK{b:Bool}{k:TypeId}{kd:Nat}{u:Value}(y:tN P k=Jp kd):(Instr.checkKey b 10000 k u).run P w= .ok () w:=by obtain⟨d,B,hd⟩:=qY y;show(Instr.checkKey b (9999+1) k u).run P w=_;unfold Instr.checkKey;rcases hd with⟨_,q,rfl⟩ | ⟨_,rfl⟩ | ⟨_,rfl⟩<;>simp[run_underlying B]
def qN{kd:Nat}{d:TypeDesc}{x y:AV}{b:Bool}{u B:Value}(hd:(kd=0/\∃q,d= .int q)\/(kd=1/\d= .bool)\/(kd=2/\d= .string))(h:zU kd x y=Jp b)(E:VR ρ x u)(G:VR ρ y B):
  Instr.sameNow d u B=Jp b/\(b=Jr->Instr.sameBits 10000 B u=Jr):=by
 unfold zU at h;split at h<;>first | (cases h;done) | skip
 ·rename_i k m L n;split at h
  ·rename_i K;subst K;cases h;rcases hd with⟨_,q,rfl⟩ | ⟨hh,_⟩ | ⟨hh,_⟩
   ·rw[E.bt,G.bt];refine⟨by simp[Instr.sameNow],fun hb=>?_⟩;simp at hb;subst hb;simp[Instr.sameBits]
   all_goals grind
  ·cases h
 ·rename_i m n;cases h;rcases hd with⟨hh,_⟩ | ⟨_,rfl⟩ | ⟨hh,_⟩
  ·cases hh
  ·rw[E.cv,G.cv];refine⟨by simp[Instr.sameNow],fun hb=>?_⟩;simp at hb;subst hb;simp[Instr.sameBits]
  ·cases hh
 ·rename_i m n;cases h;rcases hd with⟨hh,_⟩ | ⟨hh,_⟩ | ⟨_,rfl⟩
  ·cases hh
  ·cases hh
  ·rw[E.di,G.di];refine⟨by simp[Instr.sameNow],fun hb=>?_⟩
   cases m with
   | mk I=>
    cases n with
    | mk J=>
     have e:I=J:=eq_of_beq (show(I==J)=Jr from hb)
     grind [Instr.sameBits]
def SK{kd:Nat}{d:TypeDesc}(hd:(kd=0/\∃q,d= .int q)\/(kd=1/\d= .bool)\/(kd=2/\d= .string)){k:AV}{u:Value}(J:VR ρ k u):
  ∀{E:List (AV×AV)} {B:List MapEntry} {r:Option AV} (i:Nat),mW kd k E=Jp r->VRs ρ (E.map (·.1)) (B.map (·.key))->VRs ρ (E.map (·.2)) (B.map (·.val))->
   (r=Jq/\Instr.findNow d u B i=Jp Jq)\/(∃y z j,r=Jp y/\Instr.findNow d u B i=Jp (Jp (i+j,z))/\VR ρ y z/\∃e,B[j]? =Jp e/\Instr.sameBits 10000 e.key u=Jr):=by
 intro E
 induction E with
 | nil=>
  intro B r i hf h1 h2;have:B=[]:=by have:=h1.1;simpa using this
  subst this;cases hf;exact .inl ⟨rfl,rfl⟩
 | cons p E M=>
  intro B r i hf h1 h2;obtain⟨V,y⟩:=p
  cases B with
  | nil=>have:=h1.1;simp at this
  | cons e B=>
   simp only[Ah]at h1 h2;simp only[mW]at hf;split at hf
   ·rename_i G;cases hf;obtain⟨I,O⟩:=qN hd G J h1.head;exact .inr ⟨y,e.val,0,rfl,by simp[Instr.findNow,I],h2.head,e,rfl,O rfl⟩
   ·rename_i G;obtain⟨I,_⟩:=qN hd G J h1.head;rcases M (i+1) hf h1.tail h2.tail with⟨K,L⟩ | ⟨Q,z,j,K,L,R,S,T,U⟩
    ·grind [Instr.findNow]
    ·exact .inr ⟨Q,z,j+1,K,by simp only[Instr.findNow,I,L];congr 3;omega,R,S,by simpa using T,U⟩
   ·cases hf
def F0{t:TypeId}{z:AV}(hs:UC P t=Jp z):∃u,(∀w,(zeroValue t).run P w= .ok u w)/\kW u=Jp z:=by
 unfold UC at hs
 cases y:P.info? t with
 | none=>simp[y]at hs
 | some i=>
  cases hz:i.zero with
  | none=>simp[y,hz]at hs
  | some u=>exact⟨u,fun w=>by simp[zeroValue,nN y,hz],by simpa [y,hz]using hs⟩
def VR.pair{x y:AV}{u B:Value}(E:VR ρ x u)(G:VR ρ y B):VR ρ (.tuple [x,y]) (.tuple #[u,B]):=(VRs.cons E (VRs.cons G (VRs.nil ρ))).ky
def EX{x:Operand}{T t:TypeId}{U:Bool}(K:o.op= .typeAssert x T t U)(B:cL P o=Jp ao)(y:aop a h ao=Jp (v,h',rd))(ht:Ops ρ a act ao.dv):
  NE P ρ h w ((execOp act.eval o).run P w) v h':=by
 simp only[cL,K]at B;split at B
 ·cases B
 ·rename_i d z Z E M hz V;cases B;simp only[AO.dv]at ht;have h1:=cB V ht;obtain⟨O,I,Q⟩:=F0 hz;have J:VR ρ z O:=(lL Q).1;have E:∀m,d≠ .interface m:=fun m e=>by subst e;exact E m rfl
  simp only[aop]at y;split at y
  ·rename_i hm;cases y;rw[hm]at h1;have G:act.eval x= .nilIface:=by generalize act.eval x=u at h1;cases h1;rfl
   refine NE.val (u:= .tuple #[O,.bool Js]) ?_ (VR.pair J (.bool _));cases d<;>first | exact absurd rfl (E _) | simp[execOp,K,G,Instr.typeAssert,run_underlying M,I]
  ·rename_i S Y hm;cases y;rw[hm]at h1;obtain⟨L,G,R⟩:∃L,act.eval x= .iface S L/\VR ρ Y L:=by generalize act.eval x=u at h1;cases h1;exact⟨_,rfl,by assumption⟩
   by_cases e:S=t
   ·rw[if_pos e];refine NE.val (u:= .tuple #[L,.bool Jr]) ?_ (VR.pair R (.bool _));cases d<;>first | exact absurd rfl (E _) | simp[execOp,K,G,Instr.typeAssert,run_underlying M,e]
   ·rw[if_neg e];refine NE.val (u:= .tuple #[O,.bool Js]) ?_ (VR.pair J (.bool _));cases d<;>first | exact absurd rfl (E _) | simp[execOp,K,G,Instr.typeAssert,run_underlying M,e,I]
  grind
 ·cases B
def YI{t:TypeId}{x i:Operand}{Q:Bool}(M:o.op= .lookup t x i Q)(G:cL P o=Jp ao)(E:aop a h ao=Jp (v,h',rd))(ht:Ops ρ a act ao.dv)(S:QH P ρ h w rd):
  NE P ρ h w ((execOp act.eval o).run P w) v h':=by
 simp only[cL,M]at G;split at G
 ·rename_i k e x' i' R hx hi;split at G
  ·rename_i z kd hz O;cases G;simp only[AO.dv]at ht;have h1:=cB hx ht.left;have h2:=cB hi ht.right;obtain⟨T,I,U⟩:=F0 hz;have J:VR ρ z T:=(lL U).1;obtain⟨d,hd,V⟩:=qY O;simp only[aop]at E;split at E
   ·rename_i hm;cases E;rw[hm]at h1;have B:act.eval x= .map Jq:=by generalize act.eval x=u at h1;cases h1;rfl
    cases Q with
    | true=>refine NE.val (u:= .tuple #[T,.bool Js]) ?_ (VR.pair J (.bool _));simp[execOp,M,B,Instr.lookup,run_underlying R,jK O,Instr.findKey,run_underlying hd,Instr.findNow,I]
    | false=>refine NE.val (u:=T) ?_ J;simp[execOp,M,B,Instr.lookup,run_underlying R,jK O,Instr.findKey,run_underlying hd,Instr.findNow,I]
   ·rename_i r hm;rw[hm]at h1;obtain⟨l,hl,B⟩:=h1.nh;split at E
    ·rename_i ver es hg;have fin:∀{res:Option AV},mW kd (ev a i') es=Jp res->rd=[r]->h'=h->(v=match res with | some y=>if Q then .tuple [y,.bool Jr]else y | none=>if Q then .tuple [z,.bool Js]else z)->
       NE P ρ h w ((execOp act.eval o).run P w) v h':=by
      intro res hf hr e K;subst hr;subst e;obtain⟨en,ck,g1,g2,g3⟩:=S r (by simp) l _ hl hg;have L:(getObj l.blk).run P w= .ok (.map en ck) w:=by simp[getObj,Sem.run,g1]
      rcases SK V h2 0 hf g2 g3 with⟨rfl,q⟩ | ⟨y,Y,j,rfl,q,Z,_⟩
      ·simp only at K;subst K
       cases Q with
       | true=>refine NE.val (u:= .tuple #[T,.bool Js]) ?_ (VR.pair J (.bool _));simp[execOp,M,B,Instr.lookup,run_underlying R,L,jK O,Instr.findKey,run_underlying hd,q,I]
       | false=>refine NE.val (u:=T) ?_ J;simp[execOp,M,B,Instr.lookup,run_underlying R,L,jK O,Instr.findKey,run_underlying hd,q,I]
      ·simp only at K;subst K
       cases Q with
       | true=>refine NE.val (u:= .tuple #[Y,.bool Jr]) ?_ (VR.pair Z (.bool _));simp[execOp,M,B,Instr.lookup,run_underlying R,L,jK O,Instr.findKey,run_underlying hd,q]
       | false=>refine NE.val (u:=Y) ?_ Z;simp[execOp,M,B,Instr.lookup,run_underlying R,L,jK O,Instr.findKey,run_underlying hd,q]
     grind
    grind
   grind
  ·cases G
 ·cases G
def R9{x:Operand}{i:Nat}(L:o.op= .extract x i)(E:cL P o=Jp ao)(B:aop a h ao=Jp (v,h',rd))(ht:Ops ρ a act ao.dv):
  NE P ρ h w ((execOp act.eval o).run P w) v h':=by
 simp only[cL,L,Ci]at E;obtain⟨Q,M,rfl⟩:=E;have G:=cB M ht;simp only[aop]at B;split at B
 ·rename_i R I;split at B
  ·rename_i y O;cases B;rw[I]at G;obtain⟨S,J,K⟩:=G.mq;obtain⟨z,hz,hr⟩:=K.getElem O;exact NE.val (u:=z) (by simp[execOp,L,J,Instr.extract,hz]) hr
  grind
 ·cases B
end
section
variable {P:Program} {ρ:Emb} {w:World} {a:List AV} {act:Act} {h h':H} {o:Oper} {ao:AO} {v:AV} {rd:List Nat}
def DO{f:Value->Value->Sem Value}{g:AV->AV->Option AV}(J:∀{x y r:AV} {u G:Value},g x y=Jp r->VR ρ x u->VR ρ y G->∃z,VR ρ r z/\(f u G).run P w= .ok z w):
  ∀{B:List AV} {E:List Value} {x r:AV} {u:Value},oI g x B=Jp r->VR ρ x u->VRs ρ B E->∃z,VR ρ r z/\(E.foldlM f u).run P w= .ok z w:=by
 intro B
 induction B with
 | nil=>intro E x r u hf I hs;simp[oI]at hf;subst hf;rw[hs.da];exact⟨u,I,rfl⟩
 | cons y L M=>
  intro E x r u hf I hs;obtain⟨G,K,rfl,h1,h2⟩:=hs.cons_inv;simp only[oI]at hf
  grind [Sem.run_bind,Result.andThen_ok]
def aE7{x y r:AV}{u B:Value}(h:AD x y=Jp r)(E:VR ρ x u)(G:VR ρ y B):∃z,VR ρ r z/\(Builtin.max2 u B).run P w= .ok z w:=by
 unfold AD at h;split at h
 ·cases h;rw[E.bt,G.bt];exact⟨_,.int _ _,by simp[Builtin.max2]⟩
 ·cases h
def aE6{x y r:AV}{u B:Value}(h:D8 x y=Jp r)(E:VR ρ x u)(G:VR ρ y B):∃z,VR ρ r z/\(Builtin.min2 u B).run P w= .ok z w:=by
 unfold D8 at h;split at h
 ·cases h;rw[E.bt,G.bt];exact⟨_,.int _ _,by simp[Builtin.min2]⟩
 ·cases h
def SB{c:Call}{b:Builtin}(ho:o.op= .call c)(hc:c.callee= .builtin b)(y:cL P o=Jp ao)(O:ao.effect=Js)(B:aop a h ao=Jp (v,h',rd))(ht:Ops ρ a act ao.dv)(U:QH P ρ h w rd):
  NE P ρ h w ((execOp act.eval o).run P w) v h':=by
 have J:∀(u:Value),((builtin b c.argTypes o.type (c.args.map fun | .const _=>Jr | _=>Js) (c.args.map act.eval)).run P w= .ok (.value u) w)->(execOp act.eval o).run P w= .ok (.value u) w:=by intro u M;simp only[execOp,ho,resolve,hc,Sem.run_bind,Sem.run_pure,Result.andThen_ok,invoke];exact M
 simp only[cL,ho,hc]at y;unfold lM at y;split at y
 ·--append
  split at y
  ·split at y
   ·split at y
    ·cases y;simp[AO.effect]at O
    ·cases y
   ·cases y
  ·split at y
   ·split at y
    ·cases y;simp[AO.effect]at O
    ·cases y
   ·cases y
  ·split at y
   ·split at y
    ·cases y;simp[AO.effect]at O
    ·cases y
   ·cases y
  ·cases y
 ·--len
  rename_i t ts x R G;have K:c.argTypes[0]? =Jp t:=by rw[<-Cj,R];rfl
  have L:c.args[0]? =Jp x:=by rw[<-Cj,G];rfl
  have hl:∀{u:Value},(Builtin.len_ c.argTypes o.type (c.args.map act.eval)).run P w= .ok u w->(execOp act.eval o).run P w= .ok (.value u) w:=fun hh=>J _ (by simp[builtin,hh]);split at y
  ·rename_i e V M Q;cases y;have E:=cB Q ht;simp only[aop]at B;split at B
   ·rename_i hm;cases B;rw[hm]at E;have I:act.eval x= .slice Jq 0 0:=by generalize act.eval x=u at E;cases E;rfl
    exact NE.val (hl (by simp[Builtin.len_,K,L,I,run_underlying M];rfl)) (.int _ _)
   ·rename_i fl sz b i n hm;cases B;rw[hm]at E;obtain⟨ad,Y,I,_⟩:=E.ct;exact NE.val (hl (by simp[Builtin.len_,K,L,I,run_underlying M];rfl)) (.int _ _)
   grind
  ·rename_i V M Q;cases y;have E:=cB Q ht;simp only[aop]at B;split at B
   ·rename_i s hm;cases B;rw[hm]at E;exact NE.val (hl (by simp[Builtin.len_,K,L,E.di,run_underlying M];rfl)) (.int _ _)
   grind
  ·rename_i k e V M Q;cases y;have E:=cB Q ht;simp only[aop]at B;split at B
   ·rename_i hm;cases B;rw[hm]at E;have I:act.eval x= .map Jq:=by generalize act.eval x=u at E;cases E;rfl
    exact NE.val (hl (by simp[Builtin.len_,K,L,I,run_underlying M];rfl)) (.int _ _)
   ·rename_i r hm;rw[hm]at E;obtain⟨l,Z,I⟩:=E.nh;split at B
    ·rename_i ver es hg;cases B;obtain⟨en,ck,g1,g2,g3⟩:=U r (by simp) l _ Z hg;have a0:(getObj l.blk).run P w= .ok (.map en ck) w:=by simp[getObj,Sem.run,g1]
     have hlen:en.size=es.length:=by have:=g2.1;simpa using this
     exact NE.val (hl (by simp[Builtin.len_,K,L,I,run_underlying M,a0,hlen];rfl)) (.int _ _)
    grind
   grind
  ·rename_i n e M;cases y;simp only[aop,Option.some.injEq,Prod.mk.injEq]at B;obtain⟨rfl,rfl,rfl⟩:=B;exact NE.val (hl (by simp[Builtin.len_,K,L,run_underlying M];rfl)) (.int _ _)
  ·cases y
 ·--Y
  rename_i t ts x R G;have K:c.argTypes[0]? =Jp t:=by rw[<-Cj,R];rfl
  have L:c.args[0]? =Jp x:=by rw[<-Cj,G];rfl
  have hl:∀{u:Value},(Builtin.cap_ c.argTypes o.type (c.args.map act.eval)).run P w= .ok u w->(execOp act.eval o).run P w= .ok (.value u) w:=fun hh=>J _ (by simp[builtin,hh]);split at y
  ·rename_i e V M Q;cases y;have E:=cB Q ht;simp only[aop]at B;split at B
   ·rename_i hm;cases B;rw[hm]at E;have I:act.eval x= .slice Jq 0 0:=by generalize act.eval x=u at E;cases E;rfl
    exact NE.val (hl (by simp[Builtin.cap_,K,L,I,run_underlying M];rfl)) (.int _ _)
   ·rename_i sz b i n hm;cases B;rw[hm]at E;obtain⟨ad,Y,I,_,_,a1,_⟩:=E.ct;have:=a1 rfl;subst this;exact NE.val (hl (by simp[Builtin.cap_,K,L,I,run_underlying M];rfl)) (.int _ _)
   grind
  ·cases y
 ·--a3
  repeat' split at y
  all_goals (first | (cases y;done) | (cases y;simp[AO.effect]at O))
 ·--clear
  repeat' split at y
  all_goals (first | (cases y;done) | (cases y;simp[AO.effect]at O))
 ·--max
  rename_i x xs G;split at y
  ·rename_i V a2 Q S;cases y;simp only[AO.dv]at ht;have h1:=cB Q ht.left;have h2:=qI S ht.right;simp only[aop]at B;split at B
   ·rename_i r hr;cases B;obtain⟨z,hz,T⟩:=DO (P:=P) (w:=w) (f:=Builtin.max2) (fun hh p q=>aE7 hh p q) hr h1 h2;refine NE.val (J z ?_) hz;have e:(c.args.map act.eval).toList=act.eval x::xs.map act.eval:=by simp[G]
    simp only[builtin,Builtin.max_,e,Sem.run_bind,T,Result.andThen_ok,Sem.run_pure]
   grind
  ·cases y
 ·--min
  rename_i x xs G;split at y
  ·rename_i V a2 Q S;cases y;simp only[AO.dv]at ht;have h1:=cB Q ht.left;have h2:=qI S ht.right;simp only[aop]at B;split at B
   ·rename_i r hr;cases B;obtain⟨z,hz,T⟩:=DO (P:=P) (w:=w) (f:=Builtin.min2) (fun hh p q=>aE6 hh p q) hr h1 h2;refine NE.val (J z ?_) hz;have e:(c.args.map act.eval).toList=act.eval x::xs.map act.eval:=by simp[G]
    simp only[builtin,Builtin.min_,e,Sem.run_bind,T,Result.andThen_ok,Sem.run_pure]
   grind
  ·cases y
 ·cases y
def aHw(u:cL P o=Jp ao)(I:ao.effect=Js)(B:aop a h ao=Jp (v,h',rd))(ht:Ops ρ a act ao.dv)(G:QH P ρ h w rd):
  NE P ρ h w ((execOp act.eval o).run P w) v h':=by
 cases E:o.op with
 | move x=>exact U5 (.inl E) u B ht
 | assign x=>exact U5 (.inr E) u B ht
 | pick c x y=>exact aEY E u B ht
 | alloc e=>exact aBL E u B
 | box e x=>exact aHy E u B ht
 | build t K=>exact aBJ E u B ht
 | buildSlice t len K=>exact EY E u B ht
 | load t x=>exact aEZ E u B ht G
 | nilCheck x=>exact MY E u B ht
 | binOp op t x y M=>exact aBK E u B ht
 | unOp op t x=>exact aEX E u B ht
 | convert s d x=>exact SA E u I B ht G
 | makeInterface t x=>exact yB E u B ht
 | makeFunc fn f c=>exact M5 E u B ht
 | makeMap t r=>exact R8 E u B
 | makeSlice t n c=>exact I4 E u B ht
 | slice t x O Q R=>exact aBG E u B ht G
 | fieldAddr t x i=>exact I6 E u B ht
 | field t x i=>exact aBI E u B ht
 | indexAddr t x i=>exact I5 E u B ht
 | index t x i=>exact aBH E u B ht
 | lookup t x i L=>exact YI E u B ht G
 | extract x i=>exact R9 E u B ht
 | typeAssert x S t L=>exact EX E u B ht
 | panic x=>simp only[cL,E]at u;cases u;simp[aop,ev]at B
 | call c=>
  cases J:c.callee with
  | builtin b=>exact SB E J u I B ht G
  | value f=>
   simp only[cL,E,J]at u;split at u
   ·cases u;simp[AO.effect]at I
   ·cases u
  | invoke r m=>
   simp only[cL,E,J]at u;split at u
   ·cases u;simp[AO.effect]at I
   ·cases u
 | store t p x=>
  simp only[cL,E]at u;split at u
  ·cases u;simp[AO.effect]at I
  ·cases u
 | mapUpdate t m k x=>
  simp only[cL,E]at u;split at u
  ·split at u
   ·cases u;simp[AO.effect]at I
   ·cases u
  ·cases u
 | insert t m k x=>
  simp only[cL,E]at u;split at u
  ·split at u
   ·cases u;simp[AO.effect]at I
   ·cases u
  ·cases u
 | _=>simp[cL,E]at u
def aGA(B:B8 P o=Jp ao)(E:ao.effect=Js)(u:aop a h ao=Jp (v,h',rd))(ht:Ops ρ a act ao.dv)(y:QH P ρ h w rd):
  NE P ρ h w ((execOp act.eval o).run P w) v h':=by
 rcases qJ _ B with h0 | ⟨rfl,_⟩
 ·exact aHw h0 E u ht y
 ·simp[AO.stuck,aop,ev]at u
end
section
variable {P:Program} {ρ:Emb} {w:World} {a:List AV} {act:Act} {h h':H} {o:Oper} {ao:AO} {v:AV} {rd:List Nat}
def HR.heap{w':World}(hr:HR P ρ h w)(hh:w'.heap=w.heap):HR P ρ h w':=
 ⟨hr.gat.fc fun b l _ _=>by rw[hh],hr.mv,fun x l u=>by rw[hh];exact hr.fg x l u,fun x l o u hg=>(hr.obj x l o u hg).mono (Sub.refl ρ) (by rw[hh]),hr.inj⟩
def Stp.heap{w':World}(hh:w'.heap=w.heap)(h1:w'.os=w.os)(h2:w'.tape=w.tape)(h3:w'.output=w.output):Stp ρ h w ρ h w':=
 ⟨Sub.refl ρ,fun _ _ h=> .inl h,fun _ _ h=> .inl h,by rw[hh];exact Ab _,h1,h2,h3,fun _ _ _=>by rw[hh]⟩
def HR.kill{b:Nat}{M:cq}(hr:HR P ρ h w)(hg:h.get b=Jp M):HR P ρ (h.set b .dead) w/\Stp ρ h w ρ (h.set b .dead) w:=by
 refine⟨⟨hr.gat,fun c O Q x l o E u G=>?_,hr.fg,fun x l o E u=>?_,fun x y lx ly ox oy E R u B I J K=>?_⟩,⟨Sub.refl ρ,fun _ _ h=> .inl h,fun _ _ h=> .inl h,Ab _,rfl,rfl,rfl,fun _ _ _=>rfl⟩⟩
 ·by_cases e:x=b
  ·subst e;rw[H.get_set_same hg]at u;cases u;simp[cq.cn]at G
  ·rw[H.bp e]at u;exact hr.mv c O Q x l o E u G
 ·by_cases e:x=b
  ·subst e;rw[H.get_set_same hg]at u;cases u;trivial
  ·rw[H.bp e]at u;exact hr.obj x l o E u
 ·by_cases ex:x=b
  ·subst ex;rw[H.get_set_same hg]at u;cases u;simp[cq.cn]at I
  ·rw[H.bp ex]at u;by_cases L:y=b
   ·subst L;rw[H.get_set_same hg]at B;cases B;simp[cq.cu]at J
   ·rw[H.bp L]at B;exact hr.inj x y lx ly ox oy E R u B I J K
def EF(P:Program)(ρ:Emb)(h:H)(w:World)(r:Result Next)(v:AV)(h':H):Prop:=
 ∃u w' y,(r= .ok (.value u) w'\/(r= .ok .skip w'/\u=undef))/\VR y v u/\HR P y h' w'/\Stp ρ h w y h' w'
def VR.undef:VR ρ (.tuple []) Go.undef:=(VRs.nil ρ).ky
def CE{b i:Nat}{new:List AV}{E:List Value}{l:Loc}(hr:HR P ρ h w)(hl:ρ b=Jp l)(G:gV h b i new=Jp h')(J:VRs ρ new E)(K:∀x∈E,x.oneCell'=Jr):
  ∃w',(storeCells ⟨l.blk,l.base+i,Jq⟩ E).run P w= .ok () w'/\HR P ρ h' w'/\Stp ρ h w ρ h' w':=by
 unfold gV at G;split at G
 ·rename_i ver cs hg;split at G
  ·rename_i O;simp only[Aw,decide_eq_true_eq]at O;cases G;have L:=hr.obj b l _ hl hg;obtain⟨I,fz,e,h1,h2,S,T,h6⟩:=L;have:=T rfl;subst this;have hlen:=J.1;have Q:=run_storeCells_at P l.blk (l.base+i) e E 0 I w h1 (by omega) K;refine⟨_,Q,?_⟩;have M:(I.toList.take (l.base+i+0)++E++I.toList.drop (l.base+i+0+E.length)).length=I.size:=by simp;omega
   refine HR.turn hr hl hg rfl rfl (by simp) rfl rfl rfl (fun k U=>setRow_other w _ _ _ U) ?_;refine⟨_,(0,0),e,setRow_heap w l.blk I _ e (0,0) h1,by rw[Dj,M];exact h2,by rw[Dj,M,zT _ _ _ O.1];exact S,fun _=>rfl,fun j y B=>?_⟩;rw[IP _ _ _ O.1]at B;simp only[Dz,List.getElem?_toArray];rw[Gq]at B ⊢;rw[Gq]at B ⊢;simp only[Al,List.length_take,Gr]at B ⊢;have V:min i cs.length=i:=by omega
   have Y:min (l.base+i) I.size=l.base+i:=by omega
   rw[V]at B;rw[Y];by_cases Z:j<i
   ·grind
   ·by_cases R:j<i+new.length
    ·rw[if_pos R,if_neg Z]at B;rw[if_pos (by omega),if_neg (by omega)];obtain⟨u,hu,hv⟩:=J.getElem B;exact⟨u,by rw[<-hu];congr 1;omega,hv⟩
    ·rw[if_neg R,Br]at B
     grind
  ·cases G
 ·cases G
def Y4{t:TypeId}{p x:Operand}(Q:o.op= .store t p x)(B:cL P o=Jp ao)(u:aop a h ao=Jp (v,h',rd))(ht:Ops ρ a act ao.dv)(hr:HR P ρ h w):
  EF P ρ h w ((execOp act.eval o).run P w) v h':=by
 simp only[cL,Q]at B;split at B
 ·rename_i n V R hs S T;cases B;simp only[AO.dv]at ht;have h1:=cB S ht.left;have h2:=cB T ht.right;simp only[aop]at u;split at u
  ·rename_i b i hb;rw[hb]at h1;obtain⟨l,hl,J⟩:=h1.gi;split at u
   ·rename_i Y;split at u
    ·rename_i U E;cases u;have I:(ev a R).cells.all AV.one=Jr:=by
      unfold gV at E
      grind
     obtain⟨y,G⟩:=h2.cells I;obtain⟨w',K,L,M⟩:=CE hr hl E y G;refine⟨undef,w',ρ,.inr ⟨?_,rfl⟩,VR.undef,L,M⟩;have O:(act.eval x).cells.size=n:=by have:=y.1;simp at this;omega
     simp[execOp,Q,Instr.storeAt,J,Instr.sureAddr,storeVar,gQ hs,O,K]
    grind
   grind
  grind
 ·cases B
def YP{kd:Nat}{d:TypeDesc}(hd:(kd=0/\∃q,d= .int q)\/(kd=1/\d= .bool)\/(kd=2/\d= .string)){k y:AV}{u z:Value}(I:VR ρ k u)(hz:VR ρ y z):
  ∀{E:List (AV×AV)} {B:List MapEntry} {r:Option AV} (i:Nat),mW kd k E=Jp r->VRs ρ (E.map (·.1)) (B.map (·.key))->VRs ρ (E.map (·.2)) (B.map (·.val))->
   (Instr.findNow d u B i=Jp Jq/\∀born,VRs ρ ((kD kd k y E).map (·.1)) ((B++[({key:=u,val:=z,born:=born} :MapEntry)]).map (·.key))/\VRs ρ ((kD kd k y E).map (·.2)) ((B++[({key:=u,val:=z,born:=born} :MapEntry)]).map (·.val)))\/
   (∃j K,Instr.findNow d u B i=Jp (Jp (i+j,K))/\(∃e,B[j]? =Jp e/\Instr.sameBits 10000 e.key u=Jr)/\
    VRs ρ ((kD kd k y E).map (·.1)) ((B.modify j fun(e:MapEntry)=>{e with key:=u,val:=z}).map (·.key))/\VRs ρ ((kD kd k y E).map (·.2)) ((B.modify j fun(e:MapEntry)=>{e with key:=u,val:=z}).map (·.val))):=by
 intro E
 induction E with
 | nil=>
  intro B r i hf h1 h2;have:B=[]:=by have:=h1.1;simpa using this
  subst this;exact .inl ⟨rfl,fun born=>⟨.cons I (VRs.nil ρ),.cons hz (VRs.nil ρ)⟩⟩
 | cons p E O=>
  intro B r i hf h1 h2;obtain⟨Y,Z⟩:=p
  cases B with
  | nil=>have:=h1.1;simp at this
  | cons e B=>
   simp only[Ah]at h1 h2;simp only[mW]at hf;split at hf
   ·rename_i G;cases hf;obtain⟨J,Q⟩:=qN hd G I h1.head;refine .inr ⟨0,e.val,by simp[Instr.findNow,J],⟨e,rfl,Q rfl⟩,?_,?_⟩
    ·simp only[kD,G,Ah,List.modify_zero_cons];exact .cons I h1.tail
    ·simp only[kD,G,Ah,List.modify_zero_cons];exact .cons hz h2.tail
   ·rename_i G;obtain⟨J,_⟩:=qN hd G I h1.head;rcases O (i+1) hf h1.tail h2.tail with⟨L,M⟩ | ⟨j,K,L,⟨R,S,T⟩,U,V⟩
    ·refine .inl ⟨by simp[Instr.findNow,J,L],fun born=>?_⟩;simp only[kD,G,Ah,List.cons_append];exact⟨.cons h1.head (M born).1,.cons h2.head (M born).2⟩
    ·refine .inr ⟨j+1,K,by simp only[Instr.findNow,J,L];congr 3;omega,⟨R,by simpa using S,T⟩,?_,?_⟩
     ·simp only[kD,G,Ah,List.modify_succ_cons];exact .cons h1.head U
     ·simp only[kD,G,Ah,List.modify_succ_cons];exact .cons h2.head V
   ·cases hf
def E3{t:TypeId}{m k x:Operand}(G:o.op= .mapUpdate t m k x\/o.op= .insert t m k x)(M:cL P o=Jp ao)(u:aop a h ao=Jp (v,h',rd))(ht:Ops ρ a act ao.dv)(hr:HR P ρ h w):
  EF P ρ h w ((execOp act.eval o).run P w) v h':=by
 have J:(execOp act.eval o).run P w=((Instr.mapUpdate t (act.eval m) (act.eval k) (act.eval x)).run P w).andThen fun _ w'=> .ok .skip w':=by rcases G with G | G<;>simp[execOp,G]
 have y:(match P.underlying t,trR m,trR k,trR x with
  | some (.map kt _),Jp m,Jp k,Jp v=>match tN P kt with
   | some kd=>Jp (AO.mapUpdate kd m k v)
   | none=>Jq
  | _,_,_,_=>Jq)=Jp ao:=by rcases G with G | G<;>(simp only[cL,G]at M;exact M)
 split at y
 ·rename_i kt et m' R S hu hm hk hx;split at y
  ·rename_i kd K;cases y;simp only[AO.dv]at ht;have h1:=cB hm ht.left.left;have h2:=cB hk ht.left.right;have h3:=cB hx ht.right;obtain⟨d,hd,Y⟩:=qY K;simp only[aop]at u;split at u
   ·rename_i r Z;rw[Z]at h1;obtain⟨l,hl,O⟩:=h1.nh;split at u
    ·rename_i ver T hg;split at u
     ·rename_i hf;cases u;obtain⟨res,hf⟩:=Option.isSome_iff_exists.1 hf;obtain⟨U,ck,g1,g2,g3⟩:=hr.obj r l _ hl hg;have Q:(getObj l.blk).run P w= .ok (.map U ck) w:=by simp[getObj,Sem.run,g1]
      have I:∀ob:Obj,(setObj l.blk ob).run P w= .ok () (w.putObj l.blk ob):=fun ob=>by simp[setObj,Sem.run,g1,World.putObj]
      have hlt:l.blk<w.heap.size:=(Array.getElem?_eq_some_iff.1 g1).1;have fin:∀(B:Array MapEntry) (E:Nat),(Instr.mapUpdate t (act.eval m) (act.eval k) (act.eval x)).run P w= .ok () (w.putObj l.blk (.map B E))->
        VRs ρ ((kD kd (ev a R) (ev a S) T).map (·.1)) (B.toList.map (·.key))->VRs ρ ((kD kd (ev a R) (ev a S) T).map (·.2)) (B.toList.map (·.val))->
        EF P ρ h w ((execOp act.eval o).run P w) (.tuple []) (h.set r (.map (ver+1) (kD kd (ev a R) (ev a S) T))):=by
       intro B E L q1 V;obtain⟨t1,t2⟩:=HR.turn (o':= .map (ver+1) (kD kd (ev a R) (ev a S) T)) (w':=w.putObj l.blk (.map B E)) hr hl hg rfl rfl (by simp) rfl rfl rfl (fun b hb=>World.putObj_heap_other hb) ⟨B,E,World.putObj_heap_same hlt,q1,V⟩;exact⟨undef,_,ρ,.inr ⟨by rw[J,L];rfl,rfl⟩,VR.undef,t1,t2⟩
      rcases YP Y h2 h3 0 hf g2 g3 with⟨q,V⟩ | ⟨j,z',q,⟨e',q3,q4⟩,q5,q6⟩
      ·refine fin (U.push {key:=act.eval k,val:=act.eval x,born:=ck}) (ck+1) ?_ (by have:=(V ck).1;simpa using this) (by have:=(V ck).2;simpa using this);simp[Instr.mapUpdate,run_underlying hu,O,Q,jK K,Instr.findKey,run_underlying hd,q,I]
      ·refine fin (U.modify j fun(e:MapEntry)=>{e with key:=act.eval k,val:=act.eval x}) ck ?_ (by simpa [Array.toList_modify]using q5) (by simpa [Array.toList_modify]using q6);have a0:U[j]? =Jp e':=by rw[<-Cj];exact q3
       rw[Bg]at q;simp[Instr.mapUpdate,run_underlying hu,O,Q,jK K,Instr.findKey,run_underlying hd,q,I,a0,Instr.keyThatStays,q4]
     grind
    grind
   grind
  grind
 ·cases y
def iW{size n:Nat}{ad:Addr}{len cap:Nat}{us:List Value}{w':World}(y:us.length=n*size)(B:∀j u,us[j]? =Jp u->w'.cell? (ad.add j)=Jp u):
  (Builtin.firstCells size n (.slice (Jp ad) len cap)).run P w'= .ok us.toArray w':=run_firstCells_some w' size n ad len cap us y B
def aGY{size n:Nat}{x:AR}{new:List AV}{u:Value}(hs:oP a h size x=Jp (new,n))(E:VR ρ (ev a x) u)(hr:HR P ρ h w):
  ∃G,VRs ρ new G/\(∀w',w'.heap=w.heap->(Builtin.lenOf u).run P w'= .ok n w'/\(Builtin.firstCells size n u).run P w'= .ok G.toArray w'):=by
 unfold oP at hs;split at hs
 ·rename_i he;cases hs;rw[he]at E;have M:u= .slice Jq 0 0:=by cases E;rfl
  subst M;exact⟨[],VRs.nil ρ,fun w' _=>⟨by simp[Builtin.lenOf],by simp[Builtin.firstCells]⟩⟩
 ·rename_i fl sz b i m he;split at hs
  ·rename_i O;subst O;split at hs
   ·rename_i cs Q;cases hs;rw[he]at E;obtain⟨T,I,rfl,Z,g2,g3,U⟩:=E.ct;obtain⟨ver,rw,all,hg,V,e⟩:=gN Q;by_cases h0:n*sz=0
    ·have J:new=[]:=by rw[e,h0];simp
     subst J;refine⟨[],VRs.nil ρ,fun w' _=>⟨by simp[Builtin.lenOf],?_⟩⟩;have:=iW (P:=P) (w':=w') (size:=sz) (n:=n) (ad:=T) (len:=n) (cap:=I) (us:=[]) (by simp[h0]) (fun j u B=>by simp at B)
     grind
    ·have Y:0<n:=by rcases Du n with hz | hz;exact absurd (by rw[hz,Ei]) h0;exact hz
     obtain⟨l,hl,rfl,_⟩:=U (by omega);obtain⟨G,h1,h2,h3⟩:=(hr.obj b l _ hl hg).cells V e;refine⟨G,h1,fun w' R=>⟨by simp[Builtin.lenOf],iW h2 fun j u B=>?_⟩⟩;rw[Addr.ik];have:=h3 j u B;simpa [World.cell?,R]using this
   ·cases hs
  ·cases hs
 ·rename_i K he;split at hs
  ·rename_i h1;subst h1;cases hs;rw[he]at E;rw[E.di];refine⟨K.data.toList.map fun b=> .int .u8 b.toNat,⟨by simp,fun j y u L B=>?_⟩,fun w' _=>⟨by simp[Builtin.lenOf],?_⟩⟩
   ·rw[Ap]at L B
    cases hb:K.data.toList[j]? with
    | none=>rw[hb]at L;cases L
    | some b=>rw[hb]at L B;cases L;cases B;exact .int _ _
   ·have S:K.extract 0 K.size=K:=ByteArray.extract_zero_size;simp only[Builtin.firstCells,S,Sem.run_pure];congr 1;apply Cw;simp
  ·cases hs
 ·cases hs
def pJ{I:Array TypeId}{ty t M e:TypeId}{d2:TypeDesc}{i:TypeInfo}{z:Value}{base:Option Addr}{m cap n:Nat}{J:Value}{olds u:List Value}
  (h0:I[0]? =Jp t) (h1:I[1]? =Jp M) (Q:P.underlying t=Jp (.slice e)) (K:P.underlying M=Jp d2) (L:(∃O,d2= .slice O)\/d2= .string) (R:P.info? e=Jp i) (hz:i.zero=Jp z)
  (hlen:(Builtin.lenOf J).run P w= .ok n w) (y:(Builtin.firstCells i.size n J).run P w.drew= .ok u.toArray w.drew) (hold:(Builtin.firstCells i.size m (.slice base m cap)).run P w.drew= .ok olds.toArray w.drew)
  (hg:cap<m+n) (S:m+n<=9223372036854775807) (B:(m+n)*i.bytes<=140737488355328):
  (Builtin.append_ I ty #[.slice base m cap,J]).run P w=
   .ok (.slice (Jp ⟨w.heap.size,0,Jq⟩) (m+n) (grownCap w (m+n) cap e)) (w.drew.alloc (.cells (olds.toArray++u.toArray++Builtin.zeroCells z.cells (grownCap w (m+n) cap e-(m+n))) e)):=by
 have T:¬(m+n<=cap):=by omega
 have E:¬(9223372036854775807<((m:Int)+(n:Int))):=by omega
 have U:=growslice_fits hg B;have G:¬(281474976710656<Builtin.nextslicecap (m+n) cap*i.bytes):=by omega
 rcases L with⟨O,rfl⟩ | rfl<;>
 ·simp[Builtin.append_,h0,h1,run_underlying Q,run_underlying K,sizeOf,typeInfo,zeroValue,R,hz,hlen,T,E,G,Question.forced,y,hold,newRow,grownCap]
  grind
def nH{I:Array TypeId}{ty t M e:TypeId}{d2:TypeDesc}{i:TypeInfo}{base:Option Addr}{m cap n:Nat}{J:Value}{u:List Value}{w':World}
  (h0:I[0]? =Jp t) (h1:I[1]? =Jp M) (O:P.underlying t=Jp (.slice e)) (B:P.underlying M=Jp d2) (E:(∃K,d2= .slice K)\/d2= .string) (Q:P.info? e=Jp i)
  (hlen:(Builtin.lenOf J).run P w= .ok n w) (y:(Builtin.firstCells i.size n J).run P w= .ok u.toArray w)
  (hg:m+n<=cap) (L:∀G,base=Jp G->(storeCells (G.add (m*i.size)) u).run P w= .ok () w') (hb:base=Jq->w'=w):
  (Builtin.append_ I ty #[.slice base m cap,J]).run P w= .ok (.slice base (m+n) cap) w':=by
 cases base with
 | none=>
  have:=hb rfl;subst this;rcases E with⟨K,rfl⟩ | rfl<;>
  simp[Builtin.append_,h0,h1,run_underlying O,run_underlying B,sizeOf,typeInfo,Q,hlen,hg,y]
 | some G=>
  have hs:=L G rfl;rcases E with⟨K,rfl⟩ | rfl<;>
  simp[Builtin.append_,h0,h1,run_underlying O,run_underlying B,sizeOf,typeInfo,Q,hlen,hg,y,hs]
def lT(z:Array Value)(n:Nat):(Builtin.zeroCells z n).size=n*z.size:=by simp[Builtin.zeroCells]
def DI{B:World}{new:List AV}{us zs:List Value}{e:TypeId}{size n cap':Nat}(hr:HR P ρ h B)(E:ρ h.next=Jq)(hv:VRs ρ new us)(I:us.length=n*size)(hz:zs.length=(cap'-n)*size)
  (J:n<=cap') (hm:cap'<=maxLen):
  ∃G,HR P G (h.alloc (.cells 0 Jr new)) (B.alloc (.cells (us.toArray++zs.toArray) e))/\Stp ρ h B G (h.alloc (.cells 0 Jr new)) (B.alloc (.cells (us.toArray++zs.toArray) e))/\
   VR G (.slice Js size h.next 0 n) (.slice (Jp ⟨B.heap.size,0,Jq⟩) n cap'):=by
 have K:(us.toArray++zs.toArray).size=cap'*size:=by simp only[Array.size_append,Dj,I,hz,<-Dg];congr 1;omega
 let l:Loc:=⟨B.heap.size,0,(us.toArray++zs.toArray).size⟩
 have L:OR P (upd ρ h.next l) (B.alloc (.cells (us.toArray++zs.toArray) e)) l (.cells 0 Jr new):=by
  refine OR.newRow rfl rfl rfl ?_ fun i y M=>?_
  ·rw[Array.size_append,Dj,hv.1];omega
  ·obtain⟨u,Q,O⟩:=(hv.mono (lV (l:=l) E)).getElem M
   grind
 obtain⟨h1,h2⟩:=HR.alloc hr E rfl L;exact⟨_,h1,h2,.slice Js size h.next 0 n cap' _ J hm (fun h=>by cases h) (fun _=>⟨l,dR _ _ _,rfl,by show 0+0+cap'*size<=(us.toArray++zs.toArray).size;omega⟩)⟩
def HR.moved{b:Nat}{l l':Loc}{ver:Nat}{cs new:List AV}{w':World}(hr:HR P ρ h w)(a0:ρ h.next=Jq)(hl:ρ b=Jp l)(hg:h.get b=Jp (.cells ver Jr cs))(hb:l'.blk=l.blk)
  (R:w'.heap.size=w.heap.size) (a1:w'.os=w.os) (a2:w'.tape=w.tape) (a3:w'.output=w.output) (G:∀k,k≠l.blk->w'.heap[k]? =w.heap[k]?) (ho:OR P (upd ρ h.next l') w' l' (.cells 0 Jr new)):
  HR P (upd ρ h.next l') ((h.set b .dead).alloc (.cells 0 Jr new)) w'/\Stp ρ h w (upd ρ h.next l') ((h.set b .dead).alloc (.cells 0 Jr new)) w':=by
 have hs:=lV (l:=l') a0;have a5:b≠h.next:=by have:=H.bj hg;omega
 have I:∀x,x≠h.next->((h.set b .dead).alloc (.cells 0 Jr new)).get x=if x=b then Jp .dead else h.get x:=fun x B=>by
  rw[H.ay,if_neg (by simpa using B)];by_cases e:x=b
  ·subst e;rw[if_pos rfl,H.get_set_same hg]
  ·rw[if_neg e,H.bp e]
 have S:((h.set b .dead).alloc (.cells 0 Jr new)).get h.next=Jp (.cells 0 Jr new):=by rw[H.ay,if_pos (by simp)]
 refine⟨⟨hr.gat.fc fun c Y Z hlt=>G c fun e=>hr.mv c Y Z b l _ hl hg rfl e.symm,fun c Y Z x lx ox B u T=>?_,fun x lx B=>?_,fun x lx ox B u=>?_,fun x y lx ly ox oy B Q u E L K M=>?_⟩,⟨hs,fun x lx B=>?_,fun x lx B=>?_,by omega,a1,a2,a3,fun k hk a4=>G k fun e=>a4 b l _ hl hg rfl e.symm⟩⟩
 ·by_cases e:x=h.next
  ·subst e;rw[dR]at B;cases B;rw[hb];exact hr.mv c Y Z b l _ hl hg rfl
  ·rw[fA e]at B;rw[I x e]at u;by_cases J:x=b
   ·rw[if_pos J]at u;cases u;simp[cq.cn]at T
   ·rw[if_neg J]at u;exact hr.mv c Y Z x lx ox B u T
 ·by_cases e:x=h.next
  ·subst e;rw[dR]at B;cases B;rw[hb,R];exact hr.fg b l hl
  ·rw[fA e]at B;rw[R];exact hr.fg x lx B
 ·by_cases e:x=h.next
  ·subst e;rw[dR]at B;cases B;rw[S]at u;cases u;exact ho
  ·rw[fA e]at B;rw[I x e]at u;by_cases J:x=b
   ·rw[if_pos J]at u;cases u;trivial
   ·rw[if_neg J]at u;have h0:=hr.obj x lx ox B u
    cases U:ox.cu with
    | true=>exact h0.mono hs (G _ fun e'=>hr.inj b x l lx _ ox hl B hg u rfl U (Ne.symm J) e'.symm)
    | false=>cases ox<;>first | trivial | (simp[cq.cu]at U)
 ·by_cases ex:x=h.next
  ·subst ex;rw[dR]at B;cases B;rw[fA (Ne.symm M)]at Q;rw[I y (Ne.symm M)]at E;by_cases J:y=b
   ·rw[if_pos J]at E;cases E;simp[cq.cu]at K
   ·rw[if_neg J]at E;rw[hb];exact hr.inj b y l ly _ oy hl Q hg E rfl K (Ne.symm J)
  ·rw[fA ex]at B;rw[I x ex]at u;by_cases O:x=b
   ·rw[if_pos O]at u;cases u;simp[cq.cn]at L
   ·rw[if_neg O]at u;by_cases ey:y=h.next
    ·subst ey;rw[dR]at Q;cases Q;rw[hb];exact hr.inj x b lx l ox _ B hl u hg L rfl O
    ·rw[fA ey]at Q;rw[I y ey]at E;by_cases V:y=b
     ·rw[if_pos V]at E;cases E;simp[cq.cu]at K
     ·rw[if_neg V]at E;exact hr.inj x y lx ly ox oy B Q u E L K M
 ·by_cases e:x=h.next
  ·simp_all
  ·rw[fA e]at B;exact .inl B
 ·by_cases e:x=h.next
  ·subst e;rw[dR]at B;cases B;exact .inr (.inr ⟨b,l,_,hl,hg,rfl,hb⟩)
  ·rw[fA e]at B;exact .inl B
def Ev.kill{b:Nat}{ver:Nat}{cs:List AV}(hg:h.get b=Jp (.cells ver Jr cs)):Ev h (h.set b .dead):=Ev.set hg (.inr (.inl ⟨rfl,rfl⟩)) rfl
def AP{G:Array TypeId}{ty t K e:TypeId}{kd:IntKind}{i:TypeInfo}{z:Value}{n:Nat}
  (h0:G[0]? =Jp t) (h1:G[1]? =Jp K) (M:P.underlying t=Jp (.slice e)) (I:P.underlying K=Jp (.int kd)) (O:P.info? e=Jp i) (hz:i.zero=Jp z) (hs:0<i.size)
  (L:0<n) (Q:n<=9223372036854775807) (u:n*i.bytes<=140737488355328):
  (Builtin.append_ G ty #[.slice Jq 0 0,.int .i64 n]).run P w=
   .ok (.slice (Jp ⟨w.heap.size,0,Jq⟩) n (grownCap w n 0 e)) (w.drew.alloc (.cells (Builtin.zeroCells z.cells n++Builtin.zeroCells z.cells (grownCap w n 0 e-n)) e)):=by
 have hw:IntKind.i64.wrap (n:Int)=(n:Int):=by
  grind [IntKind.wrap,IntKind.bits,IntKind.signed]
 have y:¬(9223372036854775807<(n:Int)):=by omega
 have B:¬((n:Int)<0):=by omega
 have hb:¬(281474976710656<(n:Int)*(i.bytes:Int)):=by
  grind
 have R:=growslice_fits (show 0<n from L) u;have E:¬(281474976710656<Builtin.nextslicecap n 0*i.bytes):=by omega
 have J:¬(n*i.size=0):=by intro h;rcases Nat.mul_eq_zero.1 h with h | h<;>omega
 simp[Builtin.append_,h0,h1,run_underlying M,run_underlying I,sizeOf,typeInfo,zeroValue,O,hz,hw,asInt,asIntOf,B,hb,L,y,E,J,Question.forced,newRow,grownCap,Builtin.firstCells];omega
def rM{c:Call}(ho:o.op= .call c)(hc:c.callee= .builtin .append){t t2 e:TypeId}{d2:TypeDesc}{ts:List TypeId}{s0 x0:Operand}{s1 x1:AR}{i:TypeInfo}{z:List AV}(d0:c.argTypes.toList=t::t2::ts)(b0:c.args.toList=[s0,x0])
  (hu:P.underlying t=Jp (.slice e)) (U:P.underlying t2=Jp d2) (V:(∃e2,d2= .slice e2)\/d2= .string) (c0:trR s0=Jp s1) (e8:trR x0=Jp x1) (hi:P.info? e=Jp i) (hz:rT P e=Jp z) (e7:i.size=z.length/\0<i.size)
  (B:aop a h (.append i.size i.bytes s1 x1)=Jp (v,h',rd)) (ht:Ops ρ a act (AO.append i.size i.bytes s1 x1).dv) (hr:HR P ρ h w)
  (S:∀y,h.next<=y->y<h'.next->ρ y=Jq):EF P ρ h w ((execOp act.eval o).run P w) v h':=by
 simp only[AO.dv]at ht;have h1:=cB c0 ht.left;have h2:=cB e8 ht.right;obtain⟨zu,i',d4,Y,h8,f1⟩:=lO hz;rw[hi]at d4;cases d4;have d5:zu.cells.size=i.size:=by have:=iY f1;simp at this;omega
 have Z:c.argTypes[0]? =Jp t:=by rw[<-Cj,d0];rfl
 have L:c.argTypes[1]? =Jp t2:=by rw[<-Cj,d0];rfl
 have a4:c.args.map act.eval= #[act.eval s0,act.eval x0]:=by apply Cw;simp[b0]
 have I:∀{u:Value} {w':World},(Builtin.append_ c.argTypes o.type #[act.eval s0,act.eval x0]).run P w= .ok u w'->(execOp act.eval o).run P w= .ok (.value u) w':=by intro u w' a6;simp only[execOp,ho,resolve,hc,Sem.run_bind,Sem.run_pure,Result.andThen_ok,invoke,builtin,a4,a6]
 simp only[aop]at B;split at B
 ·cases B
 ·rename_i new n G;obtain⟨M,K,a0⟩:=aGY G h2 hr;obtain⟨a7,b5⟩:=a0 w rfl;obtain⟨h9,d6⟩:=a0 w.drew rfl;split at B
  ·rename_i c2;rw[c2]at h1;have b6:act.eval s0= .slice Jq 0 0:=by generalize act.eval s0=u at h1;cases h1;rfl
   rw[b6]at I;split at B
   ·rename_i h0;subst h0;cases B;have:=nH (w':=w) (ty:=o.type) (base:=Jq) (m:=0) (cap:=0) Z L hu U V hi a7 b5 (by omega) (fun ad h=>by cases h) fun _=>rfl;exact⟨_,w,ρ,.inl (I this),.ag,hr,Stp.refl _ _ _⟩
   ·rename_i h0;split at B
    ·rename_i hb;obtain⟨b1,b2,b3,b4⟩:=hb;cases B;have hold:(Builtin.firstCells i.size 0 (.slice Jq 0 0)).run P w.drew= .ok ([]:List Value).toArray w.drew:=by simp[Builtin.firstCells]
     have e0:n<=9223372036854775807:=b2;have J:=pJ (ty:=o.type) (base:=Jq) (m:=0) (cap:=0) (olds:=[]) Z L hu U V hi Y a7 d6 hold (by omega) (by omega) (by rw[Bg];exact b1);have b7:=grownCap_ge w (0+n) 0 e;have b8:=grownCap_le_maxLen w (0+n) 0 e (by unfold maxLen;omega);rw[Bg]at J b7 b8;have hd:=HR.heap (w':=w.drew) hr rfl;have c3:=Stp.heap (ρ:=ρ) (h:=h) (w:=w) (w':=w.drew) rfl rfl rfl rfl;obtain⟨ρ',g1,g2,g3⟩:=DI (e:=e) (size:=i.size) (n:=n) (cap':=grownCap w n 0 e) (zs:=(Builtin.zeroCells zu.cells (grownCap w n 0 e-n)).toList) hd (S _ (Ab _) (by simp)) K (by rw[K.1];exact b4) (by simp[lT,d5]) b7 b8;refine⟨_,_,ρ',.inl (I J),g3,?_,?_⟩
     ·simpa using g1
     ·have:=c3.trans g2 (Ev.refl h) (Ev.alloc h _) S;simpa using this
    grind
  ·rename_i fl sz b j m c2;rw[c2]at h1;obtain⟨ad,E,b6,q1,q2,q3,q4⟩:=h1.ct;rw[b6]at I;split at B
   ·rename_i h0;subst h0;cases B;have c6:M=[]:=by
     have:=b5;have f2:M.length=0:=by
      have f4:new.length=0:=by
       unfold oP at G;split at G
       ·cases G;rfl
       ·split at G
        ·split at G
         ·rename_i cs f5;cases G;obtain⟨_,_,_,_,_,e'⟩:=gN f5;rw[e'];simp
         ·cases G
        ·cases G
       ·rename_i s' _;split at G
        ·simp only[Option.some.injEq,Prod.mk.injEq]at G;obtain⟨rfl,h0⟩:=G;rw[List.length_map,Gr];exact h0
        ·cases G
       grind
      rw[K.1];exact f4
     exact List.length_eq_zero_iff.1 f2
    subst c6;have:=nH (w':=w) (ty:=o.type) (base:=Jp ad) (m:=m) (cap:=E) Z L hu U V hi a7 b5 (by omega) (fun f6 h=>by simp[storeCells]) (fun h=>by cases h);exact⟨_,w,ρ,.inl (I this),by rw[b6]at h1;simpa using h1,hr,Stp.refl _ _ _⟩
   ·rename_i h0;split at B
    ·rename_i hb;obtain⟨rfl,b1,b2,b3,b4⟩:=hb;have e0:m+n<=9223372036854775807:=b2;split at B
     ·cases B
     ·rename_i Q hold;obtain⟨ver,rw,all,hg,f7,a2⟩:=gN hold;have a1:Q.length=m*i.size:=by rw[a2];simp;omega
      --the Q cells
      have c7:∃O,VRs ρ Q O/\∀w',w'.heap=w.heap->(Builtin.firstCells i.size m (.slice (Jp ad) m E)).run P w'= .ok O.toArray w':=by
       by_cases e1:m*i.size=0
       ·have:Q=[]:=List.length_eq_zero_iff.1 (by omega);subst this;refine⟨[],VRs.nil ρ,fun w' _=>?_⟩;have:=iW (P:=P) (w':=w') (size:=i.size) (n:=m) (ad:=ad) (len:=m) (cap:=E) (us:=[]) (by simp[e1]) (fun j u hu=>by simp at hu);simpa using this
       ·have a3:0<E:=by rcases Du E with hz | hz;exact absurd (by rw[show m=0 from by omega,Ei]) e1;exact hz
        obtain⟨l,hl,rfl,_⟩:=q4 a3;obtain⟨g0,g1,g2,g3⟩:=(hr.obj b l _ hl hg).cells f7 a2;refine⟨g0,g1,fun w' g7=>iW g2 fun j u hu=>?_⟩;rw[Addr.ik];have:=g3 j u hu;simpa [World.cell?,g7]using this
      obtain⟨O,e3,a5⟩:=c7;have grow:E<m+n->∀(h1:H),HR P ρ h1 w->Stp ρ h w ρ h1 w->Ev h h1->h1.next=h.next->(v= .slice Js i.size h1.next 0 (m+n))->h'=h1.alloc (.cells 0 Jr (Q++new))->EF P ρ h w ((execOp act.eval o).run P w) v h':=by
       intro hlt h1 g8 c0 g9 i0 hv hh;subst hv;subst hh;have J:=pJ (ty:=o.type) (base:=Jp ad) (m:=m) (cap:=E) Z L hu U V hi Y a7 (by exact d6) (a5 w.drew rfl) hlt e0 b1;have b7:=grownCap_ge w (m+n) E e;have b8:=grownCap_le_maxLen w (m+n) E e (by unfold maxLen;omega);have hd:=HR.heap (w':=w.drew) g8 rfl;have c3:=Stp.heap (ρ:=ρ) (h:=h1) (w:=w) (w':=w.drew) rfl rfl rfl rfl;obtain⟨ρ',g1,g2,g3⟩:=DI (e:=e) (size:=i.size) (n:=m+n) (cap':=grownCap w (m+n) E e) (us:=O++M) (zs:=(Builtin.zeroCells zu.cells (grownCap w (m+n) E e-(m+n))).toList) hd (S _ (by omega) (by simp)) (e3.append K)
        (by rw[Al,e3.1,K.1,a1,b4,Dg]) (by simp[lT,d5]) b7 b8
       refine⟨_,_,ρ',.inl (I J),g3,?_,?_⟩
       ·simpa using g1
       ·have t1:=c3.trans g2 (Ev.refl h1) (Ev.alloc h1 _) (fun y i1 h4=>S y (by omega) h4);have:=c0.trans t1 g9 (Ev.alloc h1 _) S;simpa using this
      split at B
      ·rename_i e4;cases B;have:=q3 e4;exact grow (by clear q4 grow;omega) h hr (Stp.refl _ _ _) (Ev.refl h) rfl rfl rfl
      ·rename_i e4;split at B
       ·rename_i h1 hk;cases B;unfold kill at hk;rw[hg]at hk
        cases rw with
        | false=>simp at hk
        | true=>
         simp at hk;subst hk;obtain⟨k1,k2⟩:=HR.kill hr hg;by_cases R:m+n<=E
         ·have a3:0<E:=by clear q4 grow;omega
          obtain⟨l,hl,rfl,h7⟩:=q4 a3;obtain⟨T,fz,ee,g1,g2,g4,g5,g6⟩:=hr.obj b l _ hl hg;have:=g5 rfl;subst this;have c8:M.length=n*i.size:=by rw[K.1];exact b4
          have i2:l.base+j+m*i.size+M.length<=T.size:=by rw[c8,g2,Cn,<-Dg];have:=Dt i.size R;omega
          have c9:∀y∈M,y.oneCell'=Jr:=by
           intro y hy;obtain⟨q,hq,e'⟩:=Dx hy;have e5:q<new.length:=by rw[<-K.1];exact hq
           have:=K.2 q new[q] y (Ad e5) (by rw[<-e'];exact Ad hq);exact this.one (List.all_eq_true.1 b3 _ (Df e5))
          have h5:=run_storeCells_at P l.blk (l.base+j+m*i.size) ee M 0 T w g1 (by omega) c9;have J:=nH (w':=w.setRow l.blk (T.toList.take (l.base+j+m*i.size+0)++M++T.toList.drop (l.base+j+m*i.size+0+M.length)).toArray) (ty:=o.type) (base:=Jp ⟨l.blk,l.base+j,Jq⟩) (m:=m) (cap:=E) Z L hu U V hi a7 b5 R
           (fun f6 e'=>by cases e';rw[Addr.ik];exact h5) (fun h=>by cases h)
          have e6:(T.toList.take (l.base+j+m*i.size+0)++M++T.toList.drop (l.base+j+m*i.size+0+M.length)).length=T.size:=by simp;omega
          have a9:ρ h.next=Jq:=S _ (Ab _) (by simp);have h6:OR P (upd ρ h.next ⟨l.blk,l.base+j,l.lim⟩) (w.setRow l.blk (T.toList.take (l.base+j+m*i.size+0)++M++T.toList.drop (l.base+j+m*i.size+0+M.length)).toArray) ⟨l.blk,l.base+j,l.lim⟩ (.cells 0 Jr (Q++new)):=by
           refine⟨_,(0,0),ee,setRow_heap w l.blk T _ ee (0,0) g1,by rw[Dj,e6];exact g2,?_,fun _=>rfl,fun q y hy=>?_⟩
           ·rw[Dj,e6,Al,a1,b4];simp only;omega
           ·have hs:=lV (l:=⟨l.blk,l.base+j,l.lim⟩) a9;simp only[Dz,List.getElem?_toArray];rw[Gq]at hy;by_cases c1:q<Q.length
            ·rw[if_pos c1]at hy;rw[Bm (by simp;omega),Bm (by simp;omega),Bp,if_pos (by omega),Cj];rw[a2,Bp,if_pos (by omega),Br]at hy;obtain⟨u,a6,c4⟩:=g6 _ y hy;exact⟨u,by rw[<-a6];congr 1;omega,c4.mono hs⟩
            ·rw[if_neg c1]at hy;have hq:q-Q.length<new.length:=(List.getElem?_eq_some_iff.1 hy).1;rw[Bm (by simp;omega),List.getElem?_append_right (by simp;omega)];obtain⟨u,a6,c4⟩:=K.getElem hy;refine⟨u,?_,c4.mono hs⟩;rw[<-a6];congr 1;simp;omega
          obtain⟨m1,m2⟩:=HR.moved (w':=w.setRow l.blk (T.toList.take (l.base+j+m*i.size+0)++M++T.toList.drop (l.base+j+m*i.size+0+M.length)).toArray) hr a9 hl hg (l':=⟨l.blk,l.base+j,l.lim⟩) rfl (by simp) rfl rfl rfl (fun k hk=>setRow_other w _ _ _ hk) h6;refine⟨_,_,_,.inl (I J),?_,m1,m2⟩;refine .slice Js i.size h.next 0 (m+n) E _ R q2 (fun h=>by cases h) fun _=>⟨_,dR _ _ _,rfl,?_⟩;simp only;omega
         ·exact grow (by clear q4 grow;omega) _ k1 k2 (Ev.kill hg) rfl rfl rfl
       ·cases B
    ·cases B
  grind
def SM{c:Call}(O:o.op= .call c)(Q:c.callee= .builtin .append){size bytes:Nat}{s x:AR}(u:cL P o=Jp (.append size bytes s x))(G:aop a h (.append size bytes s x)=Jp (v,h',rd))(ht:Ops ρ a act (AO.append size bytes s x).dv)(hr:HR P ρ h w)
  (L:∀y,h.next<=y->y<h'.next->ρ y=Jq):EF P ρ h w ((execOp act.eval o).run P w) v h':=by
 simp only[cL,O,Q]at u;unfold lM at u;split at u
 ·rename_i t V Y Z x0 _ M E;split at u
  ·rename_i e e2 T U R I J K;split at u
   ·rename_i i z S hz;split at u
    ·rename_i B;simp only[Aw,decide_eq_true_eq]at B;cases u;exact rM O Q M E R I (.inl ⟨_,rfl⟩) J K S hz B G ht hr L
    ·cases u
   ·cases u
  ·rename_i e T U R I J K;split at u
   ·rename_i i z S hz;split at u
    ·rename_i B;simp only[Aw,decide_eq_true_eq]at B;cases u;exact rM O Q M E R I (.inr rfl) J K S hz B G ht hr L
    ·cases u
   ·cases u
  all_goals grind
 all_goals (first | contradiction | (cases u;done) | (split at u<;>first | (cases u;done) | skip))
 all_goals (first | (cases u;done) | skip)
def aCA{c:Call}(ho:o.op= .call c)(hc:c.callee= .builtin .copy){size:Nat}{d x:AR}(G:cL P o=Jp (.iz size d x))(B:aop a h (.iz size d x)=Jp (v,h',rd))(ht:Ops ρ a act (AO.iz size d x).dv)(hr:HR P ρ h w):
  EF P ρ h w ((execOp act.eval o).run P w) v h':=by
 simp only[cL,ho,hc]at G;unfold lM at G;split at G;all_goals (first | contradiction | (cases G;done) | skip)
 all_goals (first | (split at G<;>first | (cases G;done) | skip) | skip)
 all_goals (first | (split at G<;>first | (cases G;done) | skip) | skip)
 rename_i t t2 ts Z x0 _ a5 T _ _ _ _ e e2 d1 x1 O b7 a6 a7 _ i hi;split at G
 ·rename_i a4;cases G;simp only[AO.dv]at ht;have h1:=cB a6 ht.left;have h2:=cB a7 ht.right;have Q:c.argTypes[0]? =Jp t:=by rw[<-Cj,a5];rfl
  have R:c.args.map act.eval= #[act.eval Z,act.eval x0]:=by apply Cw;simp[T]
  have E:∀{u:Value} {w':World},(Builtin.copy_ c.argTypes o.type #[act.eval Z,act.eval x0]).run P w= .ok u w'->(execOp act.eval o).run P w= .ok (.value u) w':=by intro u w' a9;simp only[execOp,ho,resolve,hc,Sem.run_bind,Sem.run_pure,Result.andThen_ok,invoke,builtin,R,a9]
  simp only[aop]at B;split at B
  ·rename_i fl sz b j m b0 b1 b2 j2 n U V;rw[U]at h1;rw[V]at h2;obtain⟨ad,a2,K,q1,q2,q3,q4⟩:=h1.ct;obtain⟨L,I,J,r1,r2,r3,r4⟩:=h2.ct;rw[K,J]at E;split at B
   ·rename_i b3;obtain⟨rfl,rfl⟩:=b3;have M:∀{Y:List Value} {w':World},(Builtin.firstCells i.size (min n m) (.slice (Jp L) n I)).run P w= .ok Y.toArray w->(storeCells ad Y).run P w= .ok () w'->
      (Builtin.copy_ c.argTypes o.type #[.slice (Jp ad) m a2,.slice (Jp L) n I]).run P w= .ok (.int .i64 ((min n m:Nat):Int)) w':=by
     intro Y w' g1 g2;have b4:(Builtin.firstCells i.size (Nat.min n m) (.slice (Jp L) n I)).run P w= .ok Y.toArray w:=g1;simp[Builtin.copy_,Q,run_underlying O,sizeOf,typeInfo,hi,Builtin.lenOf,b4,g2,goInt]
    split at B
    ·rename_i hk;cases B;have hf:(Builtin.firstCells i.size (min n m) (.slice (Jp L) n I)).run P w= .ok ([]:List Value).toArray w:=iW (by simp[hk]) (fun j u O=>by simp at O);have:=M hf (w':=w) (by simp[storeCells]);rw[hk]at this;exact⟨_,w,ρ,.inl (E this),.int _ _,hr,Stp.refl _ _ _⟩
    ·rename_i hk;split at B
     ·rename_i cs b5;split at B
      ·rename_i b8 S;cases B;obtain⟨ver,rw,all,hg,hn,e⟩:=gN b5;obtain⟨l2,b6,rfl,_⟩:=r4 (by omega);obtain⟨l,hl,rfl,_⟩:=q4 (by omega);obtain⟨Y,k1,k2,k3⟩:=(hr.obj b2 l2 _ b6 hg).cells hn e;have hf:(Builtin.firstCells i.size (min n m) (.slice (Jp ⟨l2.blk,l2.base+j2,Jq⟩) n I)).run P w= .ok Y.toArray w:=iW k2 (fun q u O=>by
        rw[Addr.ik];exact k3 q u O)
       have a0:cs.all AV.one=Jr:=by
        unfold gV at S
        grind
       have a1:∀y∈Y,y.oneCell'=Jr:=by
        intro y hy;obtain⟨q,hq,e'⟩:=Dx hy;have a3:q<cs.length:=by rw[<-k1.1];exact hq
        have:=k1.2 q cs[q] y (Ad a3) (by rw[<-e'];exact Ad hq);exact this.one (List.all_eq_true.1 a0 _ (Df a3))
       obtain⟨w',s1,s2,s3⟩:=CE hr hl S k1 a1;exact⟨_,w',ρ,.inl (E (M hf s1)),.int _ _,s2,s3⟩
      ·cases B
     ·cases B
   grind
  ·rename_i U V;cases B;rw[U]at h1;rw[V]at h2;have K:act.eval Z= .slice Jq 0 0:=by generalize act.eval Z=u at h1;cases h1;rfl
   have J:act.eval x0= .slice Jq 0 0:=by generalize act.eval x0=u at h2;cases h2;rfl
   rw[K,J]at E;exact⟨_,w,ρ,.inl (E (u:= .int .i64 0) (by simp[Builtin.copy_,Q,run_underlying O,sizeOf,typeInfo,hi,Builtin.lenOf,Builtin.firstCells,goInt])),.int _ _,hr,Stp.refl _ _ _⟩
  ·rename_i b0 b1 b2 j2 n U V;cases B;rw[U]at h1;rw[V]at h2;have K:act.eval Z= .slice Jq 0 0:=by generalize act.eval Z=u at h1;cases h1;rfl
   obtain⟨L,I,J,r1,r2,r3,r4⟩:=h2.ct;rw[K,J]at E;have hf:(Builtin.firstCells i.size 0 (.slice (Jp L) n I)).run P w= .ok ([]:List Value).toArray w:=iW (by simp) (fun j u O=>by simp at O);exact⟨_,w,ρ,.inl (E (u:= .int .i64 0) (by simp[Builtin.copy_,Q,run_underlying O,sizeOf,typeInfo,hi,Builtin.lenOf,hf,goInt])),.int _ _,hr,Stp.refl _ _ _⟩
  ·rename_i fl sz b j m U V;cases B;rw[U]at h1;rw[V]at h2;obtain⟨ad,a2,K,q1,q2,q3,q4⟩:=h1.ct;have J:act.eval x0= .slice Jq 0 0:=by generalize act.eval x0=u at h2;cases h2;rfl
   rw[K,J]at E;exact⟨_,w,ρ,.inl (E (u:= .int .i64 0) (by simp[Builtin.copy_,Q,run_underlying O,sizeOf,typeInfo,hi,Builtin.lenOf,Builtin.firstCells,storeCells,goInt])),.int _ _,hr,Stp.refl _ _ _⟩
  grind
 ·cases G
def Y5{c:Call}(ho:o.op= .call c)(hc:c.callee= .builtin .clear){z:List AV}{x:AR}(E:cL P o=Jp (.fp z x))(B:aop a h (.fp z x)=Jp (v,h',rd))(ht:Ops ρ a act (AO.fp z x).dv)(hr:HR P ρ h w):
  EF P ρ h w ((execOp act.eval o).run P w) v h':=by
 simp only[cL,ho,hc]at E;unfold lM at E;split at E;all_goals (first | contradiction | (cases E;done) | skip)
 all_goals (first | (split at E<;>first | (cases E;done) | skip) | skip)
 all_goals (first | (split at E<;>first | (cases E;done) | skip) | skip)
 rename_i t ts Y _ Z L _ _ e x1 hu a1 _ _ i z0 hi hz;split at E
 ·rename_i M;simp only[Aw,decide_eq_true_eq]at M;cases E;simp only[AO.dv]at ht;have h1:=cB a1 ht;obtain⟨zu,i',R,a0,a2,S⟩:=lO hz;rw[hi]at R;cases R;have a4:zu.cells.size=i.size:=by have:=iY S;simp at this;omega
  have O:c.argTypes[0]? =Jp t:=by rw[<-Cj,Z];rfl
  have J:c.args.map act.eval= #[act.eval Y]:=by apply Cw;simp[L]
  have G:∀{u:Value} {w':World},(Builtin.clear_ c.argTypes o.type #[act.eval Y]).run P w= .ok u w'->(execOp act.eval o).run P w= .ok (.value u) w':=by intro u w' a3;simp only[execOp,ho,resolve,hc,Sem.run_bind,Sem.run_pure,Result.andThen_ok,invoke,builtin,J,a3]
  simp only[aop]at B;split at B
  ·rename_i he;cases B;rw[he]at h1;have Q:act.eval Y= .slice Jq 0 0:=by generalize act.eval Y=u at h1;cases h1;rfl
   rw[Q]at G;exact⟨_,w,ρ,.inl (G (by simp[Builtin.clear_,O,run_underlying hu])),(VRs.nil ρ).ky,hr,Stp.refl _ _ _⟩
  ·rename_i fl sz b j n he;rw[he]at h1;obtain⟨ad,a5,Q,q1,q2,q3,q4⟩:=h1.ct;rw[Q]at G;split at B
   ·rename_i a6;split at B
    ·rename_i hn;subst hn;cases B;exact⟨_,w,ρ,.inl (G (by simp[Builtin.clear_,O,run_underlying hu])),(VRs.nil ρ).ky,hr,Stp.refl _ _ _⟩
    ·rename_i hn;split at B
     ·rename_i a7 K;cases B;obtain⟨l,hl,rfl,_⟩:=q4 (by omega);have I:VRs ρ (kY n z) (Builtin.zeroCells zu.cells n).toList:=by
       have:=rI (n:=n) (jJ (ρ:=ρ) S).1 (by omega)
       grind [Builtin.zeroCells]
      have T:(kY n z).all AV.one=Jr:=by
       unfold gV at K
       grind
      have U:∀y∈(Builtin.zeroCells zu.cells n).toList,y.oneCell'=Jr:=by
       intro y hy;obtain⟨q,hq,e'⟩:=Dx hy;have V:q<(kY n z).length:=by rw[<-I.1];exact hq
       have:=I.2 q (kY n z)[q] y (Ad V) (by rw[<-e'];exact Ad hq);exact this.one (List.all_eq_true.1 T _ (Df V))
      obtain⟨w',s1,s2,s3⟩:=CE hr hl K I U;refine⟨_,w',ρ,.inl (G ?_),(VRs.nil ρ).ky,s2,s3⟩;obtain⟨n',rfl⟩:∃n',n=n'+1:=⟨n-1,by omega⟩;simp[Builtin.clear_,O,run_underlying hu,a2,s1]
     ·cases B
   ·cases B
  ·cases B
 ·cases E
def sB{b i:Nat}{new:List AV}(u:gV h b i new=Jp h'):Ev h h':=by
 unfold gV at u;split at u
 ·rename_i ver cs hg;split at u
  ·cases u;exact Ev.set hg (.inr (.inr ⟨ver,ver+1,rfl,rfl,by omega,rfl,rfl,rfl⟩)) rfl
  ·cases u
 ·cases u
def aFb{b:Nat}(u:kill h b=Jp h'):Ev h h':=by
 unfold kill at u;split at u
 ·rename_i ver cs hg;cases u;exact Ev.kill hg
 ·cases u
def aHZ(u:aop a h ao=Jp (v,h',rd)):Ev h h':=by
 cases ao<;>simp only[aop]at u
 case append=>
  split at u
  ·cases u
  ·split at u
   ·split at u
    ·cases u;exact Ev.refl h
    ·split at u
     ·cases u;exact Ev.alloc h _
     ·cases u
   ·split at u
    ·cases u;exact Ev.refl h
    ·split at u
     ·split at u
      ·cases u
      ·split at u
       ·cases u;exact Ev.alloc h _
       ·split at u
        ·rename_i B;cases u;exact(aFb B).trans (Ev.alloc _ _)
        ·cases u
     ·cases u
   ·cases u
 case store=>
  split at u
  ·split at u
   ·split at u
    ·rename_i y;cases u;exact sB y
    grind
   ·cases u
  grind
 case mapUpdate=>
  split at u
  ·split at u
   ·rename_i hg;split at u
    ·cases u;exact Ev.set hg (.inr (.inr ⟨_,_,rfl,rfl,Gu _,rfl,rfl,rfl⟩)) rfl
    ·cases u
   ·cases u
  grind
 case iz=>
  repeat' split at u
  all_goals (first | (cases u;done) | (cases u;first | exact Ev.refl h | (rename_i y;exact sB y)))
 case fp=>
  repeat' split at u
  all_goals (first | (cases u;done) | (cases u;first | exact Ev.refl h | (rename_i y;exact sB y)))
 all_goals (repeat' split at u)
 all_goals (first | (cases u;first | exact Ev.refl h | exact Ev.alloc h _) | (exact absurd u (by simp)))
def KZ(u:cL P o=Jp ao)(y:ao.effect=Jr):(∃t p x,o.op= .store t p x)\/(∃t m k x,o.op= .mapUpdate t m k x\/o.op= .insert t m k x)\/(∃c,o.op= .call c)\/∃s d x,o.op= .convert s d x:=by
 cases B:o.op with
 | convert s d x=>exact .inr (.inr (.inr ⟨s,d,x,rfl⟩))
 | store t p x=>exact .inl ⟨t,p,x,rfl⟩
 | mapUpdate t m k x=>exact .inr (.inl ⟨t,m,k,x,.inl rfl⟩)
 | insert t m k x=>exact .inr (.inl ⟨t,m,k,x,.inr rfl⟩)
 | call c=>exact .inr (.inr (.inl ⟨c,rfl⟩))
 | makeMap t r=>
  cases r with
  | none=>simp only[cL,B]at u;cases u;simp[AO.effect]at y
  | some r=>simp[cL,B]at u
 | _=>
  exfalso;simp only[cL,B,Ci]at u;all_goals (repeat' split at u)
  all_goals (try unfold tO at u)
  all_goals (repeat' split at u)
  all_goals (first | (cases u;done) | (cases u;simp[AO.effect]at y;done) | (simp only[Ci]at u;obtain⟨_,_,rfl⟩:=u;simp[AO.effect]at y;done) | (obtain⟨_,_,rfl⟩:=u;simp[AO.effect]at y;done))
def DU{c:Call}(ho:o.op= .call c)(hc:c.callee= .builtin .append){bytes:Nat}{z:List AV}{s x:AR}(B:cL P o=Jp (.bz bytes z s x))(E:aop a h (.bz bytes z s x)=Jp (v,h',rd))(ht:Ops ρ a act (AO.bz bytes z s x).dv)(hr:HR P ρ h w)
  (Q:∀y,h.next<=y->y<h'.next->ρ y=Jq):EF P ρ h w ((execOp act.eval o).run P w) v h':=by
 simp only[cL,ho,hc]at B;unfold lM at B;split at B
 ·rename_i t t2 ts s0 x0 _ R L;split at B
  ·all_goals grind
  ·grind
  ·rename_i e kd s1 x1 hu S a0 a1;split at B
   ·rename_i i z' hi hz;split at B
    ·rename_i G;simp only[Aw,decide_eq_true_eq]at G;cases B;simp only[AO.dv]at ht;have h1:=cB a0 ht.left;have h2:=cB a1 ht.right;obtain⟨zu,i',T,M,b6,U⟩:=lO hz;rw[hi]at T;cases T;have V:zu.cells.size=i.size:=by have:=iY U;simp at this;omega
     have Y:c.argTypes[0]? =Jp t:=by rw[<-Cj,R];rfl
     have K:c.argTypes[1]? =Jp t2:=by rw[<-Cj,R];rfl
     have J:c.args.map act.eval= #[act.eval s0,act.eval x0]:=by apply Cw;simp[L]
     have I:∀{u:Value} {w':World},(Builtin.append_ c.argTypes o.type #[act.eval s0,act.eval x0]).run P w= .ok u w'->(execOp act.eval o).run P w= .ok (.value u) w':=by intro u w' a2;simp only[execOp,ho,resolve,hc,Sem.run_bind,Sem.run_pure,Result.andThen_ok,invoke,builtin,J,a2]
     simp only[aop]at E;split at E
     ·rename_i n e1 e2;rw[e1]at h1;rw[e2]at h2;have a3:act.eval s0= .slice Jq 0 0:=by generalize act.eval s0=u at h1;cases h1;rfl
      rw[a3,h2.bt]at I;split at E
      ·rename_i h0;subst h0;cases E;refine⟨_,w,ρ,.inl (I (u:= .slice Jq 0 0) (w':=w) ?_),.ag,hr,Stp.refl _ _ _⟩;have a4:IntKind.i64.wrap 0=0:=by decide
       simp[Builtin.append_,Y,K,run_underlying hu,run_underlying S,sizeOf,typeInfo,hi,asInt,asIntOf,a4]
      ·rename_i h0;split at E
       ·rename_i hb;obtain⟨b1,b2,b3⟩:=hb;cases E;obtain⟨n,rfl⟩:=Int.eq_ofNat_of_zero_le b1;have a5:n*i.bytes<=140737488355328:=by
         have:((n*i.bytes:Nat):Int)<=140737488355328:=by rw[Int.natCast_mul];exact b2
         omega
        have a6:n<=9223372036854775807:=by unfold j5 at b3;omega
        have O:=AP (w:=w) (ty:=o.type) Y K hu S hi M G.2 (by omega) a6 a5;have a7:=grownCap_ge w n 0 e;have a9:=grownCap_le_maxLen w n 0 e (by unfold maxLen;omega);have hd:=HR.heap (w':=w.drew) hr rfl;have b0:=Stp.heap (ρ:=ρ) (h:=h) (w:=w) (w':=w.drew) rfl rfl rfl rfl;have Z:VRs ρ (kY n z) (Builtin.zeroCells zu.cells n).toList:=by
         have:=rI (n:=n) (jJ (ρ:=ρ) U).1 (by omega);simpa [Builtin.zeroCells]using this
        obtain⟨ρ',g1,g2,g3⟩:=DI (e:=e) (size:=i.size) (n:=n) (cap':=grownCap w n 0 e) (zs:=(Builtin.zeroCells zu.cells (grownCap w n 0 e-n)).toList) hd (Q _ (Ab _) (by simp)) Z (by simp[lT,V]) (by simp[lT,V]) a7 a9;have b4:z.length=i.size:=G.1.symm;refine⟨_,_,ρ',.inl (I O),?_,?_,?_⟩
        ·simpa [b4]using g3
        ·simpa using g1
        ·have:=b0.trans g2 (Ev.refl h) (Ev.alloc h _) Q;simpa using this
       grind
     grind
    ·cases B
   ·cases B
  ·cases B
 all_goals (repeat' split at B)
 all_goals (first | (cases B;done) | (simp at B;done))
def tY{b:Builtin}{B:List TypeId}{args:List Operand}(u:lM P b B args=Jp ao)(y:ao.effect=Jr):
  (b= .append/\∃size bytes s x,ao= .append size bytes s x)\/(b= .append/\∃bytes z s x,ao= .bz bytes z s x)\/(b= .copy/\∃size d x,ao= .iz size d x)\/(b= .clear/\∃z x,ao= .fp z x):=by
 unfold lM at u;split at u
 ·grind
 all_goals (repeat' split at u)
 all_goals (first | (cases u;done) | (cases u;exact .inr (.inr (.inl ⟨rfl,_,_,_,rfl⟩))) | (cases u;exact .inr (.inr (.inr ⟨rfl,_,_,rfl⟩))) | (cases u;simp[AO.effect]at y))
def HR.add{w':World}{ob:cq}{l:Loc}(hr:HR P ρ h w)(O:ρ h.next=Jq)(hb:RowKit.Below w.heap.size w w')(hl:w.heap.size<=l.blk)(hlt:l.blk<w'.heap.size)
  (T:OR P (upd ρ h.next l) w' l ob):HR P (upd ρ h.next l) (h.alloc ob) w'/\Stp ρ h w (upd ρ h.next l) (h.alloc ob) w':=by
 have E:∀b,b<w.heap.size->w'.heap[b]? =w.heap[b]? :=fun b Q=>hb.block b Q;have hs:=lV (l:=l) O;refine⟨⟨hr.gat.fc fun b l hb hlt=>E b hlt,fun b U K x lx ox u hg R=>?_,fun x lx u=>?_,fun x lx ox u hg=>?_,fun x y lx ly ox oy u J G B L M I=>?_⟩,⟨hs,fun x lx u=>?_,fun x lx u=>?_,hb.size,hb.os,hb.tape,hb.output,fun b hb _=>E b hb⟩⟩
 ·by_cases e:x=h.next
  ·subst e;rw[dR]at u;cases u;have:=hr.gat.lt K;omega
  ·rw[fA e]at u;rw[H.ay,if_neg e]at hg;exact hr.mv b U K x lx ox u hg R
 ·by_cases e:x=h.next
  ·subst e;rw[dR]at u;cases u;exact hlt
  ·rw[fA e]at u;have:=hr.fg x lx u;have:=hb.size;omega
 ·by_cases e:x=h.next
  ·subst e;rw[dR]at u;cases u;rw[H.ah]at hg;cases hg;exact T
  ·rw[fA e]at u;rw[H.ay,if_neg e]at hg;have h0:=hr.obj x lx ox u hg
   cases hl:ox.cu with
   | true=>exact h0.mono hs (E _ (h0.lt hl))
   | false=>cases ox<;>first | trivial | (simp[cq.cu]at hl)
 ·by_cases ex:x=h.next
  ·subst ex;rw[dR]at u;cases u;rw[fA (Ne.symm I)]at J;rw[H.ay,if_neg (Ne.symm I)]at B;have:=(hr.obj y ly oy J B).lt M;omega
  ·rw[fA ex]at u;rw[H.ay,if_neg ex]at G;by_cases S:y=h.next
   ·subst S;rw[dR]at J;cases J;have:=(hr.obj x lx ox u G).lt (cq.eu L);omega
   ·rw[fA S]at J;rw[H.ay,if_neg S]at B;exact hr.inj x y lx ly ox oy u J G B L M I
 ·by_cases e:x=h.next
  ·simp_all
  ·rw[fA e]at u;exact .inl u
 ·by_cases e:x=h.next
  ·subst e;rw[dR]at u;cases u;exact .inr (.inl hl)
  ·rw[fA e]at u;exact .inl u
def DT{s d:TypeId}{U:Operand}(S:o.op= .convert s d U)(u:cL P o=Jp ao)(G:ao.effect=Jr)(E:aop a h ao=Jp (v,h',rd))(ht:Ops ρ a act ao.dv)(hr:HR P ρ h w)
  (L:∀y,h.next<=y->y<h'.next->ρ y=Jq):EF P ρ h w ((execOp act.eval o).run P w) v h':=by
 simp only[cL,S]at u;split at u
 ·cases u;simp[AO.effect]at G
 ·cases u;simp[AO.effect]at G
 ·split at u
  ·cases u;simp[AO.effect]at G
  ·cases u
 ·rename_i e x' hs hd V;split at u
  ·rename_i he;cases u;simp only[AO.dv]at ht;have J:=cB V ht;simp only[aop]at E;split at E
   ·rename_i B M;split at E
    ·rename_i Y;cases E;rw[M]at J;have K:B.size<=maxLen:=by unfold maxLen;omega
     have O:=grownCap_ge w B.size 0 e;have Q:=grownCap_le_maxLen w B.size 0 e K;have I:(execOp act.eval o).run P w= .ok (.value (.slice (Jp ⟨w.heap.size,0,Jq⟩) B.size (grownCap w B.size 0 e))) (Lib.bytesWorld w e B):=by simp only[execOp,S,J.di,Sem.run_bind,Lib.run_convert_string_bytes w s d e B hs hd he,Result.andThen_ok,Sem.run_pure]
     have R:(Lib.bytesCells w e B).size=grownCap w B.size 0 e:=by
      have:B.data.size=B.size:=rfl
      grind [Lib.bytesCells]
     have Z:=L h.next (Ab _) (by simp);obtain⟨g1,g2⟩:=HR.add (w':=Lib.bytesWorld w e B) (ob:= .cells 0 Js (B.data.toList.map fun b=> .int .u8 b.toNat)) (l:=⟨w.heap.size,0,(Lib.bytesCells w e B).size⟩) hr Z
      (Lib.bytesWorld_below w e B) (Ab _) (by rw[Lib.bytesWorld_size];exact Gu _)
      ⟨_,_,_,Lib.bytesWorld_at_new w e B,rfl,by
       have:B.data.size=B.size:=rfl;simp[R,this];omega,(fun h=>by cases h),fun i v hv=>by
        rw[Ap]at hv
        cases hb:B.data.toList[i]? with
        | none=>rw[hb]at hv;cases hv
        | some b=>
         rw[hb]at hv;cases hv;refine⟨.int .u8 b.toNat,?_,.int _ _⟩;have T:i<B.data.size:=by rw[Cj]at hb;exact(Array.getElem?_eq_some_iff.1 hb).1
         rw[Cj]at hb;simp[Lib.bytesCells,Array.getElem?_append,T];rw[if_pos (show i<B.size from T),hb];rfl⟩
     refine⟨_,_,_,.inl I,.slice Js 1 h.next 0 B.size _ _ O Q (fun h=>by cases h) (fun _=>⟨_,dR _ _ _,rfl,?_⟩),g1,g2⟩
     grind
    grind
   grind
  ·cases u
 ·cases u
def aFi(u:cL P o=Jp ao)(G:ao.effect=Jr)(L:∀f args,ao≠ .call f args)(B:aop a h ao=Jp (v,h',rd))(ht:Ops ρ a act ao.dv)(hr:HR P ρ h w)
  (J:∀y,h.next<=y->y<h'.next->ρ y=Jq):EF P ρ h w ((execOp act.eval o).run P w) v h':=by
 rcases KZ u G with⟨t,p,x,E⟩ | ⟨t,m,k,x,E⟩ | ⟨c,E⟩ | ⟨s,d,x,E⟩
 rotate_right
 ·exact DT E u G B ht hr J
 ·exact Y4 E u B ht hr
 ·exact E3 E u B ht hr
 ·cases K:c.callee with
  | builtin b=>
   have I:=u;simp only[cL,E,K]at I;rcases tY I G with⟨rfl,size,bytes,s,x,rfl⟩ | ⟨rfl,bytes,z,s,x,rfl⟩ | ⟨rfl,size,d,x,rfl⟩ | ⟨rfl,z,x,rfl⟩
   ·exact SM E K u B ht hr J
   ·exact DU E K u B ht hr J
   ·exact aCA E K u B ht hr
   ·exact Y5 E K u B ht hr
  | value f=>
   simp only[cL,E,K]at u
   grind
  | invoke r m=>
   simp only[cL,E,K]at u
   grind
def aHN(E:B8 P o=Jp ao)(u:ao.effect=Jr)(G:∀f args,ao≠ .call f args)(B:aop a h ao=Jp (v,h',rd))(ht:Ops ρ a act ao.dv)(hr:HR P ρ h w)
  (I:∀y,h.next<=y->y<h'.next->ρ y=Jq):EF P ρ h w ((execOp act.eval o).run P w) v h':=by
 rcases qJ _ E with h0 | ⟨rfl,_⟩
 ·exact aFi h0 u G B ht hr I
 ·simp[AO.stuck,AO.effect]at u
end
def j7(u:Option Nat):Fence:={Fence.wide with round:=u}
def dl(ρ:Emb)(h u:H):Prop:=∀y,h.next<=y->y<u.next->ρ y=Jq
def dl.first{ρ:Emb}{h h1 h2:H}(hf:dl ρ h h2)(e:Ev h1 h2):dl ρ h h1:=fun y a b=>hf y a (Nat.lt_of_lt_of_le b e.next)
def dl.rest{ρ u:Emb}{h h1 h2:H}{w B:World}(hf:dl ρ h h2)(e:Ev h h1)(s:Stp ρ h w u h1 B):dl u h1 h2:=fun y a b=>by
 cases E:u y with
 | none=>rfl
 | some l=>
  rcases s.dom y l E with h0 | ⟨_,h0⟩
  ·rw[hf y (Nat.le_trans e.next a) b]at h0;cases h0
  ·omega
def MK(B:Nat)(ρ:Emb)(w:World):List Deferred->Prop
 | []=>True
 | d::ds=>(∃D,B<=D/\d={target:= .collected D,args:= #[]}/\w.heap[D]? =Jp (.deferred (Jp []))/\(∀x l,ρ x=Jp l->l.blk≠D)/\({target:= .collected D,args:= #[]} :Deferred)∉ds)/\MK B ρ w ds
def MK.step{B:Nat}{ρ E:Emb}{h G:H}{w w':World}(s:Stp ρ h w E G w'):∀{ds:List Deferred},MK B ρ w ds->MK B E w' ds
 | [],_=>trivial
 | d::ds,⟨⟨D,I,h1,h2,h3,J⟩,hr⟩=>by
  have hlt:D<w.heap.size:=(Array.getElem?_eq_some_iff.1 h2).1;refine⟨⟨D,I,h1,?_,fun x l u=>?_,J⟩,MK.step s hr⟩
  ·rw[s.frame D hlt fun x l o u _ _=>h3 x l u];exact h2
  ·rcases s.own x l u with h0 | h0 | ⟨y,K,L,M,_,_,e⟩;all_goals grind
def Ctx(y:Option Nat)(ρ:Emb)(h:H):Prop:=∀l,y=Jp l->∃x u ver r,ρ x=Jp u/\u.blk=l/\h.get x=Jp (.loop ver r)
def Ctx.step{u:Option Nat}{ρ y:Emb}{h B:H}(E:Ctx u ρ h)(hs:Sub ρ y)(e:Ev h B):Ctx u y B:=fun l hl=>by obtain⟨x,G,ver,r,h1,h2,h3⟩:=E l hl;obtain⟨I,J,K⟩:=e.qx h3;exact⟨x,G,I,J,hs _ _ h1,h2,K⟩
def AG(P:Program)(ρ:Emb)(h:H)(w:World)(v:AV)(B:H):Ending->World->Prop:=fun e w'=>∃u y,e= .returned u/\VR y v u/\HR P y B w'/\Stp ρ h w y B w'
def Ex.fx:Ex->Exit
 | .normal=> .normal
 | .ret=> .ret
 | .exit id=> .exit id
def il(P:Program)(B:Nat)(ρ:Emb)(h:H)(w:World)(e:Ex)(G:List AV)(E:H):Exit->Act->World->Prop:=fun x u w'=>
 x=e.fx/\∃y,TR y G u.tmps/\HR P y E w'/\Stp ρ h w y E w'/\MK B y w' u.defers
def q9(F:Fence)(n:Nat)(P:Program)(l:Nat)(c:Code)(Q:Exit->Act->World->Prop):Nat->Act->World->Prop
 | 0,_,_=>False
 | m+1,a,w=>c.wpIn F n P (fun e a w=>match e with | .goto u=>u=l/\q9 F n P l c Q m a w | e=>Q e a w) a w
def unE(l:Nat):Ex->Ex
 | .exit id=>if id=2097152+l then .normal else .exit id
 | e=>e
structure fe (P:Program) (rec:Rec) (m:Nat):Prop where
 nu:∀g args h v h',rec.call g args h=Jp (v,h')->Ev h h'
 oi:∀g args h v h',rec.call g args h=Jp (v,h')->∃fn,P.funcs[g]? =Jp fn/\fn.body.isSome=Jr/\(fn.name== "runtime.NumGoroutine")=Js
 call:∀g args h v h',rec.call g args h=Jp (v,h')->∀ρ w us,VRs ρ args us->HR P ρ h w->dl ρ h h'->CallsIn Fence.wide 0 P g us.toArray w (AG P ρ h w v h')
 jx:∀ac a h e a' h',rec.code ac a h=Jp (e,a',h')->Ev h h'
 code:∀c ac,rL P c ac->∀a h e a' h',rec.code ac a h=Jp (e,a',h')->∀ro B ρ w act,B<=w.heap.size->Ctx ro ρ h->TR ρ a act.tmps->HR P ρ h w->dl ρ h h'->MK B ρ w act.defers->
  c.wpIn (j7 ro) 0 P (il P B ρ h w e a' h') act w
 loop:∀c ac,rL P c ac->∀sc a h e a' h',rec.code (.loop sc ac) a h=Jp (e,a',h')->∀ro B ρ w act,B<=w.heap.size->Ctx ro ρ h->TR ρ a act.tmps->HR P ρ h w->dl ρ h h'->MK B ρ w act.defers->
  Code.roundsIn (j7 ro) 0 P c (il P B ρ h w e a' h') m act w
 jump:∀l c ac,aDJ P l c ac->∀sc a h e a' h',rec.code (.loop sc (.block (1048576+l) (.seq ac (.exit (2097152+l))))) a h=Jp (e,a',h')->∀ro B ρ w act,B<=w.heap.size->Ctx ro ρ h->TR ρ a act.tmps->HR P ρ h w->dl ρ h h'->MK B ρ w act.defers->
  q9 (j7 ro) 0 P l c (il P B ρ h w (unE l e) a' h') m act w
section
variable {P:Program} {ρ:Emb} {w:World} {a:List AV} {act:Act} {h h':H} {o:Oper} {ao:AO} {v:AV} {rd:List Nat} {rec:Rec} {m:Nat}
def FX:∀{ps:List Nat} {args:List AV} {y:List Value} {b:List AV} {tmps:Array Value},TR ρ b tmps->VRs ρ args y->TR ρ (ft b ps args) ((ps.zip y).foldl (fun tmps (x:Nat×Value)=>tmps.setIfInBounds x.1 x.2) tmps)
 | [],args,y,b,tmps,hb,hv=>by cases args<;>simpa [ft]using hb
 | p::ps,[],y,b,tmps,hb,hv=>by rw[hv.da];simpa [ft]using hb
 | p::ps,x::args,y,b,tmps,hb,hv=>by obtain⟨u,B,rfl,h1,h2⟩:=hv.cons_inv;simp only[ft,List.zip_cons_cons,Fx];exact FX (hb.set p h1) h2
def fw.busy{r:mh}{r':Loop}(hl:fw P ρ r r'):fw P ρ {r with state:= .busy} {r' with state:= .busy} :=⟨rfl,hl.pending,hl.nq,hl.tmps,hl.params,hl.asg,hl.body⟩
inductive rc (P:Program) (ρ:Emb) (h:H) (w:World) (v:AV) (h':H):Result Next->Prop
 | enter (g:FuncId) (args:Array Value) (hc:CallsIn Fence.wide 0 P g args w (AG P ρ h w v h')):rc P ρ h w v h' (.ok (.enter g args) w)
 | round (l:Nat) (f:FuncId) (tmps:Array Value) (asg body:Code) (hc:RoundIn Fence.wide 0 P l f tmps asg body w (AG P ρ h w v h')):rc P ρ h w v h' (.ok (.round l f tmps asg body) w)
def O4(E:fe P rec m){f:AV}{args:List AV}(u:jQ rec f args h=Jp (v,h')):Ev h h':=by
 unfold jQ at u;split at u
 ·exact E.nu _ _ _ _ _ u
 ·rename_i l first L
  split at u
  ·rename_i ver r hg;split at u
   ·split at u
    ·rename_i S h1 B;have M:=E.jx _ _ _ _ _ _ B;split at u
     ·rename_i G O I;split at u
      ·split at u
       ·rename_i e T h3 y;have Q:=E.jx _ _ _ _ _ _ y;have R:Ev h1 (h1.set l (.loop (G+1) {O with state:= .busy})):=Ev.set I (.inr (.inr ⟨G,G+1,rfl,rfl,by omega,rfl,rfl,rfl⟩)) rfl;split at u
        ·rename_i K U J;split at u<;>cases u;all_goals exact((M.trans R).trans Q).trans (Ev.set J (.inr (.inr ⟨K,K+1,rfl,rfl,by omega,rfl,rfl,rfl⟩)) rfl)
        grind
       grind
      grind
     grind
    grind
   grind
  grind
 ·split at u
  ·exact E.nu _ _ _ _ _ u
  grind
 grind
def qV{P:Program}{m:String}{t:TypeId}{g:FuncId} :∀{l:List Nat},nB (oS P m l) t=Jp g->JB P m t=Jp g
 | [],hf=>by simp[oS,nB]at hf
 | x::r,hf=>by
  unfold oS at hf
  cases u:JB P m x with
  | none=>rw[u]at hf;exact qV hf
  | some f=>
   rw[u]at hf;simp only[nB]at hf;split at hf
   ·rename_i e;have:x=t:=Int.ofNat_inj.1 e;simp_all
   ·exact qV hf
def aCU(R:fe P rec m){n:String}{l:List Nat}{args:List AV}{us:List Value}(u:jQ rec (.func (.methodOf 0 n) (oS P n l) []) args h=Jp (v,h'))(E:VRs ρ args us)(hr:HR P ρ h w)(I:dl ρ h h'):
  rc P ρ h w v h' ((invoke (.fn (.method n) #[]) us.toArray:Sem Next).run P w):=by
 simp only[jQ]at u;split at u
 ·rename_i g la ht;unfold uL at ht;split at ht
  ·rename_i t x rest;split at ht
   ·rename_i g' hg;cases ht;have hm:=qV hg;obtain⟨S,y,rfl,T,J⟩:=E.cons_inv;obtain⟨B,rfl,K⟩:∃B,S= .iface t B/\VR ρ x B:=by cases T;exact⟨_,rfl,by assumption⟩
    unfold JB at hm;split at hm
    ·rename_i i e U V;split at hm
     ·rename_i mm G;split at hm
      ·rename_i f Y hf;cases hm;obtain⟨fn,Z,q2,q3⟩:=R.oi _ _ _ _ _ u;have hc:=R.call _ _ _ _ _ u ρ w _ (VRs.cons K J) hr I;have e:(invoke (.fn (.method n) #[]) (Value.iface t B::y).toArray:Sem Next).run P w= .ok (.enter g (B::y).toArray) w:=by
        have hb:fn.body.isNone=Js:=by cases hb:fn.body<;>simp_all
        have L:∀k,(method (k+1) t B n).run P w= .ok (g,B) w:=by intro k;unfold method;simp only[Sem.run_bind,nN U,Result.andThen_ok,G,Y,follow,Sem.run_pure,hf,receiverAt,run_underlying V,Place.get]
        have M:∃k,P.types.size+Made.depth=k+1:=⟨P.types.size+Made.depth-1,by unfold Made.depth;omega⟩;obtain⟨k,hk⟩:=M;have O:∀as,(callFunc g as).run P w= .ok (.enter g as) w:=by
         intro as;simp only[callFunc,Sem.run_bind,run_program,Result.andThen_ok,Z];rw[if_neg (by rw[q3];simp),if_neg (by rw[hb];simp)];simp
        have Q:(callMethod (.iface t B) n y.toArray).run P w= .ok (.enter g (B::y).toArray) w:=by simp only[callMethod,Sem.run_bind,run_program,Result.andThen_ok,hk,L,O];simp_all
        rw[<-Q];simp[invoke]
       rw[e];exact .enter _ _ hc
      ·cases hm
     ·cases hm
    ·cases hm
   ·cases ht
  ·cases ht
 ·cases u
def aCT(ok:fe P rec m){f:AV}{args:List AV}{fv:Value}{R:List Value}(B:jQ rec f args h=Jp (v,h'))(hf:VR ρ f fv)(E:VRs ρ args R)(hr:HR P ρ h w)(I:dl ρ h h'):
  rc P ρ h w v h' ((do let d <-Deferred.ofValue fv R.toArray;invoke d.target d.args:Sem Next).run P w):=by
 have a3:=B;unfold jQ at B;split at B
 ·rename_i g first b7
  cases hf with
  | func _ _ _ f' c' hp a6 a7 h1 h2=>
   obtain⟨fn,q1,q2,q3⟩:=ok.oi _ _ _ _ _ B;have b2:VRs ρ (first++args++b7) (f'++R++c'):=(VRs.append (VRs.append ⟨a6,h1⟩ E) ⟨a7,h2⟩);have hc:=ok.call _ _ _ _ _ B ρ w _ b2 hr I;have e:(do let d <-Deferred.ofValue (.func (.func g) f'.toArray c'.toArray) R.toArray;invoke d.target d.args:Sem Next).run P w= .ok (.enter g (f'++R++c').toArray) w:=by
    have hb:fn.body.isNone=Js:=by cases hb:fn.body<;>simp_all
    simp only[Deferred.ofValue,Sem.run_bind,Sem.run_pure,Result.andThen_ok,invoke,callFunc,run_program,q1];rw[if_neg (by rw[q3];simp),if_neg (by rw[hb];simp)];simp
   rw[e];exact .enter _ _ hc
 ·rename_i l first b7
  cases hf with
  | func _ _ _ f' c' hp a6 a7 h1 h2=>simp[wD]at hp
  | yield r G a9=>
   split at B
   ·rename_i ver rr hg;split at B
    ·rename_i hlen;obtain⟨S,c3,K⟩:=hr.obj l G _ a9 hg;simp only[Aj]at hlen B;have c4:R.toArray.size=S.params.size:=by
      have h1:=E.1;have h2:S.params.toList.length=rr.params.length:=by rw[K.params]
      simp_all
     have e:(do let d <-Deferred.ofValue (.func (.yield G.blk) #[] #[]) R.toArray;invoke d.target d.args:Sem Next).run P w=
       .ok (.round G.blk S.fn ((S.params.zip R.toArray).foldl (fun tmps (t,a)=>tmps.setIfInBounds t a) S.tmps) S.assign S.body) w:=by
      simp only[Deferred.ofValue,Sem.run_bind,Sem.run_pure,Result.andThen_ok,invoke];rw[Array.empty_append];exact run_yield c3 c4
     rw[e];refine .round _ _ _ _ _ ?_;have ht:TR ρ (ft rr.tmps rr.params args) ((S.params.zip R.toArray).foldl (fun tmps (t,a)=>tmps.setIfInBounds t a) S.tmps):=by have:=FX (ps:=rr.params) K.tmps E;rw[<-K.params]at this ⊢;rw[<-Hv];simp_all
     refine roundIn_of_wpIn (F:=Fence.wide) trivial ?_;have V:Ctx (Jp G.blk) ρ h:=fun l' L=>by cases L;exact⟨l,G,ver,rr,a9,rfl,hg⟩
     split at B
     ·rename_i a1 h1 Y;have M:=ok.jx _ _ _ _ _ _ Y;have e5:=O4 ok a3;split at B
      ·rename_i v1 r1 b0;split at B
       ·rename_i T;split at B
        ·rename_i ee a2 h3 O;have J:Ev h1 (h1.set l (.loop (v1+1) {r1 with state:= .busy})):=Ev.set b0 (.inr (.inr ⟨v1,v1+1,rfl,rfl,by omega,rfl,rfl,rfl⟩)) rfl;have U:=ok.jx _ _ _ _ _ _ O;split at B
         ·rename_i v3 r3 b1;have a4:h'.next=h3.next:=by split at B<;>cases B<;>rfl
          have b8:Ev h3 h':=by split at B<;>cases B;all_goals exact Ev.set b1 (.inr (.inr ⟨v3,v3+1,rfl,rfl,by omega,rfl,rfl,rfl⟩)) rfl
          have c5:dl ρ h h1:=fun y p q=>I y p (by have:=J.next;have:=U.next;omega);have c6:=ok.code _ _ K.asg _ _ _ _ _ Y (Jp G.blk) 0 ρ w {tmps:=_,defers:=[]} (Au _) V ht hr c5 trivial;refine wpIn_mono c6 ?_;rintro x b3 w1 ⟨rfl,ρ1,t1,Z,s1,c7⟩;simp only[Ex.fx,Exit.then];have Q:=s1.sub _ _ a9;obtain⟨c0,q1,q2⟩:=Z.obj l G _ Q b0;have c8:c0.state= .ready:=by rw[q2.state];exact T
          have b4:G.blk<w1.heap.size:=(Array.getElem?_eq_some_iff.1 q1).1;refine⟨_,run_beginRound q1 c8,?_⟩;obtain⟨c9,sb⟩:=HR.turn (o':= .loop (v1+1) {r1 with state:= .busy}) (w':=w1.putObj G.blk (.loop {c0 with state:= .busy})) Z Q b0 rfl rfl (by simp) rfl rfl rfl (fun b hb=>World.putObj_heap_other hb) ⟨_,World.putObj_heap_same b4,q2.busy⟩;have d0:dl ρ1 (h1.set l (.loop (v1+1) {r1 with state:= .busy})) h3:=(I.rest M s1).first b8;have a5:Ctx (Jp G.blk) ρ1 (h1.set l (.loop (v1+1) {r1 with state:= .busy})):=(V.step s1.sub M).step (Sub.refl _) J;have d4:=ok.code _ _ K.body _ _ _ _ _ O (Jp G.blk) 0 ρ1 _ b3 (Au _) a5 t1 c9 d0 (c7.step sb);refine wpIn_mono d4 ?_;rintro x e4 w3 ⟨rfl,ρ3,t3,c1,s3,_⟩;have a0:=s3.sub _ _ Q;obtain⟨c2,p1,p2⟩:=c1.obj l G _ a0 b1;have b5:G.blk<w3.heap.size:=(Array.getElem?_eq_some_iff.1 p1).1;have fin:∀(jump:Option Code) (L:Option Ex),(L=Jq\/∃q,L=Jp q/\q≠ .normal)->jump=L.bind Ex.jump->jump.isNone=L.isNone->v= .bool jump.isNone->
            h'=h3.set l (.loop (v3+1) {r3 with state:=if jump.isNone then .ready else .done,pending:=L})->
            ∃u w',(Instr.endRound G.blk jump).run P w3= .ok u w'/\AG P ρ h w v h' (.returned u) w':=by
           intro jump L d5 d6 e6 hv hh;refine⟨_,_,run_endRound jump p1,.bool jump.isNone,ρ3,rfl,by rw[hv];exact .bool _,?_⟩;have b6:fw P ρ3 {r3 with state:=if jump.isNone then .ready else .done,pending:=L} {c2 with state:=if jump.isNone then .ready else .done,pending:=jump} :=
            ⟨rfl,d6,by rcases d5 with rfl | ⟨q,rfl,hq⟩;simp;simpa using hq,p2.tmps,p2.params,p2.asg,p2.body⟩
           obtain⟨e0,sf⟩:=HR.turn (o':= .loop (v3+1) {r3 with state:=if jump.isNone then .ready else .done,pending:=L}) (w':=w3.putObj G.blk (.loop {c2 with state:=if jump.isNone then .ready else .done,pending:=jump})) c1 a0 b1 rfl rfl (by simp) rfl rfl rfl (fun b hb=>World.putObj_heap_other hb) ⟨_,World.putObj_heap_same b5,b6⟩;rw[hh];refine⟨e0,?_⟩;have e1:Ev h3 (h3.set l (.loop (v3+1) {r3 with state:=if jump.isNone then .ready else .done,pending:=L})):=by rw[<-hh];exact b8
           have f1:∀y,h.next<=y->y<h3.next->ρ y=Jq:=fun y a b=>I y a (by omega);have e2:=s1.trans sb M J (fun y a b=>I y a (by have:=U.next;simp at b;have:=J.next;omega));have e3:=e2.trans s3 (M.trans J) U f1;exact e3.trans sf ((M.trans J).trans U) e1 (fun y a b=>I y a (by rw[a4];simpa using b))
          split at B
          ·rename_i hn;subst hn;cases B;obtain⟨u,w',g1,g2⟩:=fin Jq Jq (.inl rfl) rfl rfl rfl rfl;exact⟨u,w',g1,g2⟩
          ·rename_i hn;cases B
           cases ee with
           | normal=>exact absurd rfl hn
           | ret=>exact fin (Jp .ret) (Jp .ret) (.inr ⟨_,rfl,hn⟩) rfl rfl rfl rfl
           | exit id=>exact fin (Jp (.exit id)) (Jp (.exit id)) (.inr ⟨_,rfl,hn⟩) rfl rfl rfl rfl
         ·cases B
        ·cases B
       ·cases B
      ·cases B
     ·cases B
    ·cases B
   grind
 ·cases hf with
  | func _ _ _ f' c' hp a6 a7 h1 h2=>simp[wD]at hp
 ·cases B
end
section
variable {P:Program} {ρ:Emb} {w:World} {a:List AV} {act:Act} {h h':H} {o:Oper} {ao:AO} {v:AV} {rd:List Nat} {rec:Rec} {m:Nat}
def H2(u:B8 P o=Jp ao):∀c,o.op≠ .defer c:=by
 intro c e;rcases qJ _ u with h0 | ⟨_,h0⟩
 ·simp[cL,e]at h0
 ·rw[e]at h0;cases h0
def UF{y:Option Nat}{next:Act->World->Prop}{Q:Exit->Act->World->Prop}(u:B8 P o=Jp ao)(B:o.uponIn (j7 y) 0 P act next Q ((execOp act.eval o).run P w)):o.wpIn (j7 y) 0 P act w next Q:=
 ⟨fun _ _=>trivial,by rw[Oper.semAt_eq _ _ _ (H2 u)];exact B⟩
def W0{f:AR}{args:List AR}(u:B8 P o=Jp (.call f args)):(∃c B,o.op= .call c/\c.callee= .value B/\trR B=Jp f/\EO c.args.toList=Jp args)\/
  ∃c G n x I l,o.op= .call c/\c.callee= .invoke G n/\f= .const (.func (.methodOf 0 n) (oS P n l) [])/\trR G=Jp x/\EO c.args.toList=Jp I/\args=x::I:=by
 have u:cL P o=Jp (.call f args):=(qJ _ u).resolve_right fun q=>by cases q.1
 rcases KZ u rfl with⟨t,p,x,y⟩ | ⟨t,m,k,x,y⟩ | ⟨c,y⟩ | ⟨s,d,x,y⟩
 rotate_right
 ·simp only[cL,y]at u
  grind
 ·simp only[cL,y]at u;split at u<;>cases u
 ·rcases y with y | y;all_goals (simp only[cL,y]at u;repeat' split at u)
  all_goals cases u
 ·cases E:c.callee with
  | builtin b=>simp only[cL,y,E]at u;rcases tY u rfl with⟨_,_,_,_,_,e⟩ | ⟨_,_,_,_,_,e⟩ | ⟨_,_,_,_,e⟩ | ⟨_,_,_,e⟩<;>cases e
  | value B=>
   simp only[cL,y,E]at u
   grind
  | invoke r m=>
   simp only[cL,y,E]at u
   grind
def BD(y:fe P rec m)(u:j6 rec ao a h=Jp (v,h',rd)):Ev h h':=by
 cases ao with
 | call f args=>
  simp only[j6]at u;split at u
  ·rename_i hv;cases u;exact O4 y hv
  grind
 | _=>simp only[j6]at u;exact aHZ u
def LN(ok:fe P rec m)(G:B8 P o=Jp ao)(y:j6 rec ao a h=Jp (v,h',rd)){E:Option Nat}{next:Act->World->Prop}{Q:Exit->Act->World->Prop}(ht:Ops ρ a act ao.dv)(hr:HR P ρ h w)(I:dl ρ h h')
  (S:∀u K w',VR K v u->HR P K h' w'->Stp ρ h w K h' w'->next (act.put o.dst u) w'):o.wpIn (j7 E) 0 P act w next Q:=by
 refine UF G ?_;by_cases T:∃f args,ao= .call f args
 ·obtain⟨f,args,rfl⟩:=T;simp only[AO.dv]at ht;simp only[j6]at y;split at y
  ·rename_i hv;cases y;have hw:rc P ρ h w v h' ((execOp act.eval o).run P w):=by
    rcases W0 G with⟨c,fo,U,L,h1,h2⟩ | ⟨c,E,n,x,xs,l,U,L,rfl,h1,h2,rfl⟩
    ·have hf:=cB h1 ht.left;have V:=qI h2 ht.right;have hw:=aCT ok hv hf V hr I;have e:(execOp act.eval o).run P w=(do let d <-Deferred.ofValue (act.eval fo) (c.args.toList.map act.eval).toArray;invoke d.target d.args:Sem Next).run P w:=by
      have Y:(c.args.map act.eval)=(c.args.toList.map act.eval).toArray:=by apply Cw;simp
      simp only[execOp,U,resolve,L,Y]
     rw[e];exact hw
    ·have M:=ht.right;simp only[Cc]at M;have hx:=cB h1 M.left;have V:=qI h2 M.right;have hw:=aCU ok (us:=act.eval E::c.args.toList.map act.eval) hv (VRs.cons hx V) hr I;have e:(execOp act.eval o).run P w=(invoke (.fn (.method n) #[]) (act.eval E::c.args.toList.map act.eval).toArray:Sem Next).run P w:=by
      have Y: #[act.eval E]++c.args.map act.eval=(act.eval E::c.args.toList.map act.eval).toArray:=by apply Cw;simp
      simp only[execOp,U,resolve,L,Y,Sem.run_bind,Sem.run_pure,Result.andThen_ok]
     rw[e];exact hw
   generalize (Sem.run P (execOp act.eval o) w)=R at hw
   cases hw with
   | enter g as hcall=>
    rw[Oper.uponIn_enter];refine⟨fun hh=>by simp[j7,Fence.wide]at hh,CallsIn.mono (F:=j7 E) (show CallsIn (j7 E) 0 P g as w _ from hcall) ?_⟩;rintro e w' ⟨u,K,rfl,q1,q2,q3⟩
    grind
   | round l f O Z body J=>
    rw[Oper.uponIn_round];refine⟨fun hh=>by simp[j7,Fence.wide]at hh,RoundIn.mono (F:=j7 E) (show RoundIn (j7 E) 0 P l f O Z body w _ from J) ?_⟩;rintro e w' ⟨u,K,rfl,q1,q2,q3⟩
    grind
  grind
 ·have B:aop a h ao=Jp (v,h',rd):=by cases ao<;>first | exact y | exact absurd ⟨_,_,rfl⟩ T
  cases he:ao.effect with
  | false=>
   obtain⟨u,⟨rfl,e,hv⟩ | ⟨ob,cb,l,rfl,hb,e,hv⟩⟩:=aGA G he B ht fun x hx l ob hl hg=>hr.obj x l ob hl hg
   ·rw[e];exact S u ρ w hv hr (Stp.refl _ _ _)
   ·have hn:=I h.next (Ab _) (by simp);obtain⟨h1,h2⟩:=hv hn;obtain⟨g1,g2⟩:=HR.alloc hr hn hb h2;rw[e];exact S u _ _ h1 g1 g2
  | true=>
   obtain⟨u,w',K,e | ⟨e,rfl⟩,h1,h2,h3⟩:=aHN G he (fun f args e=>T ⟨f,args,e⟩) B ht hr I
   ·rw[e];exact S u K w' h1 h2 h3
   ·rw[e];exact S _ K w' h1 h2 h3
def TR.ops{u:List Nat}(ht:TR ρ a act.tmps):Ops ρ a act u:=fun t _=>ht.get t
def xF{ops:Array Oper}{g:Option (Nat×Bool)}{b:Bool}(ht:∀t G,g=Jp (t,G)->VR ρ (bu a t) (act.tmps.getD t undef))(I:act.tmps.size=a.length)
  (hg:match o.guard with | none=>g=Jq | some (j,u)=>∃d,(ops[j]?).bind (·.dst)=Jp d/\g=Jp (d,u)):
  fH a g=Jp b->Region.wanted o (yielded ops act.tmps)=b:=by
 intro hw;unfold Region.wanted
 cases y:o.guard with
 | none=>rw[y]at hg;subst hg;simpa [fH]using hw
 | some p=>
  obtain⟨j,u⟩:=p;rw[y]at hg;obtain⟨d,hd,rfl⟩:=hg;have hv:=ht d u rfl;have hlt:d<act.tmps.size:=by
   rcases Nat.lt_or_ge d act.tmps.size with h0 | h0
   ·exact h0
   ·have J:bu a d= .aa:=by rw[kI,List.getElem?_eq_none (by omega)];rfl
    simp[fH,J]at hw
  have B:act.tmps[d]? =Jp (act.tmps.getD d undef):=by simp_all
  simp only[fH]at hw;simp only[yielded,hd,Fh,B];split at hw
  ·rename_i c E;rw[E]at hv;rw[hv.cv];cases hw
   grind
  ·rename_i K E;rw[E]at hv;obtain⟨L,e,_⟩:=hv.mq
   grind
  grind
def xK{ops:Array Oper}{x:aw}(u:xL P ops o=Jp x):B8 P o=Jp x.op/\x.dst=o.dst/\x.chk=[]/\
  (match o.guard with | none=>x.guard=Jq | some (j,y)=>∃d,(ops[j]?).bind (·.dst)=Jp d/\x.guard=Jp (d,y)):=by
 unfold xL at u;split at u
 ·grind
 ·cases u
def DC(a:List AV)(d:Option Nat)(v:AV):(put a d v).length=a.length:=by cases d<;>simp[put,zS]
def IR(y:fe P rec m):∀{E:List aw} {a B:List AV} {h h':H},j4 rec E a h=Jp (B,h')->Ev h h'
 | [],a,B,h,h',u=>by cases u;exact Ev.refl h
 | x::E,a,B,h,h',u=>by
  simp only[j4]at u;split at u
  ·split at u
   ·rename_i hs;exact(BD y hs).trans (IR y u)
   grind
  ·exact IR y u
  grind
def IG(O:fe P rec m){ops:Array Oper}{ro:Option Nat}{Q:Exit->Act->World->Prop} :∀{T:List aw} {os:List Oper} {k:Nat} {a U:List AV} {h h':H} {B:Nat} {ρ:Emb} {w:World} {act:Act},
  (∀j,os[j]? =ops[k+j]?)->jD (xL P ops) os=Jp T->j4 rec T a h=Jp (U,h')->TR ρ a act.tmps->HR P ρ h w->dl ρ h h'->MK B ρ w act.defers->
  (∀M w' E,TR M U E.tmps->HR P M h' w'->Stp ρ h w M h' w'->MK B M w' E.defers->Q .normal E w')->
  wpOpsIn (j7 ro) 0 P ops Q (List.range' k os.length) act w
 | T,[],k,a,U,h,h',B,ρ,w,act,L,G,y,ht,hr,I,J,V=>by cases G;cases y;exact V ρ w act ht hr (Stp.refl _ _ _) J
 | T,o::os,k,a,U,h,h',B,ρ,w,act,L,G,y,ht,hr,I,J,V=>by
  have h0:ops[k]? =Jp o:=by simpa using (L 0).symm
  unfold jD at G;split at G
  ·rename_i x a0 hx R;cases G;obtain⟨q1,q2,q3,q4⟩:=xK hx;have K:∀j,os[j]? =ops[k+1+j]? :=fun j=>by
    have:=L (j+1)
    grind
   have S:act.tmps.size=a.length:=by have:=ht.1;simpa using this
   simp only[Ak,List.range'_succ,wpOpsIn,h0];simp only[j4]at y;split at y
   ·rename_i hw;split at y
    ·rename_i v h1 rd hs;have e1:=BD O hs;have e2:=IR O y;rw[xF (fun t bb _=>ht.get t) S q4 hw];simp only[if_true];refine LN O q1 hs ht.ops hr (I.first e2) ?_;intro u ρ1 w1 hv Z Y;rw[<-q2];exact IG O K R y ((ht.mono Y.sub).put x.dst hv) Z (I.rest e1 Y) (by cases x.dst<;>exact J.step Y)
      (fun M w' E t' r' s' m'=>V M w' E t' r' (Y.trans s' e1 e2 I) m')
    grind
   ·rename_i hw;rw[xF (fun t bb _=>ht.get t) S q4 hw];simp only[Aq,if_false];refine⟨fun _ _=>trivial,?_⟩;rw[<-q2];exact IG O K R y (ht.put x.dst VR.undef) hr I (by cases x.dst<;>exact J) V
   grind
  grind
end
structure Trace (rec:Rec) (xs:List aw) (a:List AV) (h:H) (a':List AV) (h':H) (A:Nat->List AV) (Hh:Nat->H) (V:Nat->AV) (RD:Nat->List Nat) (W:Nat->Bool):Prop where
 a0:A 0=a
 h0:Hh 0=h
 an:A xs.length=a'
 hn:Hh xs.length=h'
 put:∀i x,xs[i]? =Jp x->A (i+1)=put (A i) x.dst (V i)
 want:∀i x,xs[i]? =Jp x->fH (A i) x.guard=Jp (W i)
 run:∀i x,xs[i]? =Jp x->W i=Jr->j6 rec x.op (A i) (Hh i)=Jp (V i,Hh (i+1),RD i)
 skip:∀i x,xs[i]? =Jp x->W i=Js->V i= .tuple []/\Hh (i+1)=Hh i
 chk:∀i j x,xs[i]? =Jp x->j<i->j∈x.chk->W i=Jr->W j=Jr->
  (if x.op.effect then(rdx (Hh j) (Hh (j+1)) (RD j)).all (kH (Hh i) (Hh (i+1)))else(rdx (Hh i) (Hh (i+1)) (RD i)).all (kH (Hh j) (Hh (j+1))))=Jr
def VD(x:aw)(rd:List Nat)(hb y:H)(u:List ku):Prop:=
 ∀e∈u,e.idx∈x.chk->(if x.op.effect then e.rd.all (kH hb y)else rd.all (kH e.hb e.ha))=Jr
def ST{x:aw}{rd:List Nat}{hb y:H}{u:List ku}(h:sT x.op.effect rd hb y u x.chk=Jr):VD x rd hb y u:=by
 intro e he B;unfold sT at h
 grind
def gM{α:Type}(x:α)(f:Nat->α):Nat->α
 | 0=>x
 | n+1=>f n
section
variable {rec:Rec}
def QQ:∀{I:List aw} {k:Nat} {a Q:List AV} {h R:H} {K:List ku},(∀x∈I,True)->jL rec I k a h K=Jp (Q,R)->
  ∃A M V RD W,Trace rec (I.map fun x=>{x with chk:=x.chk.filterMap fun j=>if k<=j then Jp (j-k)else Jq}) a h Q R A M V RD W/\
   (∀i x,I[i]? =Jp x->W i=Jr->VD x (rdx (M i) (M (i+1)) (RD i)) (M i) (M (i+1)) K)
 | [],k,a,Q,h,R,K,_,E=>by cases E;exact⟨fun _=>a,fun _=>h,fun _=> .aa,fun _=>[],fun _=>Js,⟨rfl,rfl,rfl,rfl,by simp,by simp,by simp,by simp,by simp⟩,by simp⟩
 | x::I,k,a,Q,h,R,K,_,E=>by
  simp only[jL]at E;split at E
  ·rename_i hw;split at E
   ·rename_i v h1 rd hs;split at E
    ·rename_i hc;obtain⟨A,M,V,RD,W,T,L⟩:=QQ (fun _ _=>trivial) E;have hg:=ST hc;refine⟨gM a A,gM h M,gM v V,gM rd RD,gM Jr W,⟨rfl,rfl,by simpa [gM]using T.an,by simpa [gM]using T.hn,?_,?_,?_,?_,?_⟩,?_⟩
     ·intro i y u
      cases i with
      | zero=>simp at u;subst u;exact T.a0
      | succ i=>
       have:=T.put i;simp only[Ah,Bl,Ap]at u this
       cases hz:I[i]? with
       | none=>simp[hz]at u
       | some z=>simp[hz]at u this;subst u;exact this
     ·intro i y u
      cases i with
      | zero=>simp at u;subst u;exact hw
      | succ i=>
       have:=T.want i;simp only[Ah,Bl,Ap]at u this
       cases hz:I[i]? with
       | none=>simp[hz]at u
       | some z=>simp[hz]at u this;subst u;exact this
     ·intro i y u B
      cases i with
      | zero=>simp at u;subst u;simp only[gM];rw[T.h0];exact hs
      | succ i=>
       have:=T.run i;simp only[Ah,Bl,Ap]at u this
       cases hz:I[i]? with
       | none=>simp[hz]at u
       | some z=>simp[hz]at u this;subst u;exact this B
     ·intro i y u B
      cases i with
      | zero=>simp[gM]at B
      | succ i=>
       have:=T.skip i;simp only[Ah,Bl,Ap]at u this
       cases hz:I[i]? with
       | none=>simp[hz]at u
       | some z=>simp[hz]at u this;subst u;exact this B
     ·intro i j y u U G B O
      cases i with
      | zero=>omega
      | succ i=>
       simp only[Ah,Bl,Ap]at u
       cases hz:I[i]? with
       | none=>simp[hz]at u
       | some z=>
        simp[hz]at u;subst u;simp only[Fz]at G;obtain⟨q,S,J⟩:=G;split at J
        ·rename_i Y;simp at J
         cases j with
         | zero=>
          have Z:q=k:=by omega
          subst Z;have:=L i z hz B ⟨q,rdx h h1 rd,h,h1⟩ (by simp) S;simp only[gM]at this ⊢;rw[T.h0];exact this
         | succ j=>
          have a1:=T.chk i j {z with chk:=z.chk.filterMap fun j=>if k+1<=j then Jp (j-(k+1))else Jq} (by simp[hz]) (by omega)
           (by simp only[Fz];exact⟨q,S,by rw[if_pos (by omega)];simp;omega⟩) B O
          exact a1
        ·cases J
     ·intro i y u B
      cases i with
      | zero=>simp at u;subst u;simp only[gM];rw[T.h0];exact hg
      | succ i=>intro e he hm;exact L i y (by simpa using u) B e (List.mem_cons_of_mem _ he) hm
    grind
   grind
  ·rename_i hw;obtain⟨A,M,V,RD,W,T,L⟩:=QQ (fun _ _=>trivial) E;refine⟨gM a A,gM h M,gM (.tuple []) V,gM [] RD,gM Js W,⟨rfl,rfl,by simpa [gM]using T.an,by simpa [gM]using T.hn,?_,?_,?_,?_,?_⟩,?_⟩
   ·intro i y u
    cases i with
    | zero=>simp at u;subst u;exact T.a0
    | succ i=>
     have:=T.put i;simp only[Ah,Bl,Ap]at u this
     cases hz:I[i]? with
     | none=>simp[hz]at u
     | some z=>simp[hz]at u this;subst u;exact this
   ·intro i y u
    cases i with
    | zero=>simp at u;subst u;exact hw
    | succ i=>
     have:=T.want i;simp only[Ah,Bl,Ap]at u this
     cases hz:I[i]? with
     | none=>simp[hz]at u
     | some z=>simp[hz]at u this;subst u;exact this
   ·intro i y u B
    cases i with
    | zero=>simp[gM]at B
    | succ i=>
     have:=T.run i;simp only[Ah,Bl,Ap]at u this
     cases hz:I[i]? with
     | none=>simp[hz]at u
     | some z=>simp[hz]at u this;subst u;exact this B
   ·intro i y u B
    cases i with
    | zero=>exact⟨rfl,T.h0⟩
    | succ i=>
     have:=T.skip i;simp only[Ah,Bl,Ap]at u this
     cases hz:I[i]? with
     | none=>simp[hz]at u
     | some z=>simp[hz]at u this;subst u;exact this B
   ·intro i j y u U G B O
    cases i with
    | zero=>omega
    | succ i=>
     simp only[Ah,Bl,Ap]at u
     cases hz:I[i]? with
     | none=>simp[hz]at u
     | some z=>
      simp[hz]at u;subst u;simp only[Fz]at G;obtain⟨q,S,J⟩:=G;split at J
      ·rename_i Y;simp at J
       cases j with
       | zero=>simp[gM]at O
       | succ j=>
        exact T.chk i j {z with chk:=z.chk.filterMap fun j=>if k+1<=j then Jp (j-(k+1))else Jq} (by simp[hz]) (by omega)
         (by simp only[Fz];exact⟨q,S,by rw[if_pos (by omega)];simp;omega⟩) B O
      ·cases J
   ·intro i y u B
    cases i with
    | zero=>simp[gM]at B
    | succ i=>exact L i y (by simpa using u) B
  ·cases E
def uU:∀{E:List aw} {k:Nat} {a G:List AV} {h I:H} {B:List ku},(∀x∈E,x.chk=[])->j4 rec E a h=Jp (G,I)->jL rec E k a h B=Jp (G,I)
 | [],k,a,G,h,I,B,_,u=>u
 | x::E,k,a,G,h,I,B,J,u=>by
  simp only[j4]at u;simp only[jL];split at u
  ·rename_i hw;split at u
   ·rename_i v h1 rd hs;have K:∀(e:Bool) (rd:List Nat) (hb M:H),sT e rd hb M B x.chk=Jr:=fun e rd hb M=>by rw[J x (by simp)];simp[sT]
    rw[if_pos (K _ _ _ _)];exact uU (fun y L=>J y (by simp[L])) u
   ·cases u
  ·rename_i hw;exact uU (fun y L=>J y (by simp[L])) u
  grind
end
inductive oa (ops:Array Oper):(Nat->Bool)->List Nat->Prop
 | nil (D:Nat->Bool) (h:∀i,i<ops.size->D i=Jr):oa ops D []
 | cons (D:Nat->Bool) (i:Nat) (o:Oper) (l:List Nat) (ho:ops[i]? =Jp o) (hd:D i=Js) (he:∀j∈dS o,D j=Jr) (h:oa ops (fun j=>j==i||D j) l):oa ops D (i::l)
def SQ{l:List Nat}(hnd:l.Nodup){p:Nat->Bool}{i:Nat}(u:i∈l)(y:p i=Jr):l.countP (fun j=>p j&& !(j==i))+1=l.countP p:=by
 induction l with
 | nil=>cases u
 | cons x l B=>
  simp only[List.nodup_cons]at hnd;by_cases e:x=i
  ·grind [List.countP_congr]
  grind
def aAS(ops:Array Oper)(I:∀i o,ops[i]? =Jp o->∀j∈dS o,j<i):∀(u t:Nat) (listed:Array Bool) (y:List Nat),listed.size=ops.size->
  (Ba ops.size).countP (fun i=> !(listed.getD i Jr))=u->
  ∃l,Region.linearise.go .any ops u t listed y=y.reverse++l/\oa ops (fun i=>listed.getD i Jr) l:=by
 intro u
 induction u with
 | zero=>intro t listed y hs hc;refine⟨[],by simp[Region.linearise.go],.nil _ fun i L=>?_⟩;simp_all
 | succ u ih=>
  intro t listed y hs hc;have U:∃i,i<ops.size/\listed.getD i Jr=Js/\∀j,j<i->listed.getD j Jr=Jr:=by
   have E:0<(Ba ops.size).countP (fun i=> !(listed.getD i Jr)):=by omega
   rw[List.countP_pos_iff]at E;obtain⟨S,V,Y⟩:=E;have G:listed.getD S Jr=Js:=by simpa using Y
   have:∃i,listed.getD i Jr=Js:=⟨S,G⟩;have Z:∀n,∀i,i<n->i<ops.size->listed.getD i Jr=Js->∃i,i<ops.size/\listed.getD i Jr=Js/\∀j,j<i->listed.getD j Jr=Jr:=by
    intro n
    induction n with
    | zero=>intro i L;omega
    | succ n a7=>
     grind
   exact Z (S+1) S (by omega) (List.mem_range.1 V) G
  obtain⟨i,L,a0,a5⟩:=U
  let B:=(Ba ops.size).filter fun i=> !listed.getD i Jr&&((ops[i]?).map (·.after.all fun e=> !Region.binds .any e||listed.getD e.on Js)).getD Js
  have a1:∀k∈B,∃o,ops[k]? =Jp o/\k<ops.size/\listed.getD k Jr=Js/\∀j∈dS o,listed.getD j Jr=Jr:=by
   intro k T;simp only[B,Ek,Et,Aw]at T;obtain⟨J,a2,K⟩:=T;refine⟨ops[k],Eu J,J,by simpa using a2,fun j hj=>?_⟩;rw[Eu J]at K;simp only[Dd,Di]at K;rw[<-Array.all_toList,Cb]at K;simp only[dS,Ew,Ek]at hj
   grind
  have M:i∈B:=by
   simp only[B,Ek,Et,Aw];refine⟨L,by simp[a0],?_⟩;rw[Eu L];simp only[Dd,Di];rw[<-Array.all_toList,Cb];intro e he
   cases hb:Region.binds .any e with
   | false=>rfl
   | true=>
    simp only[Bool.not_true,Bool.false_or];have hlt:=I i ops[i] (Eu L) e.on (by simp only[dS,Ew,Ek];exact⟨e,⟨he,hb⟩,rfl⟩)
    grind
  have hlen:0<B.length:=List.length_pos_of_mem M;have O:∃k,B[t % B.length]? =Jp k:=⟨B[t % B.length]'(Ea _ hlen),Ad _⟩;obtain⟨k,T⟩:=O;obtain⟨o,ho,a3,Q,a4⟩:=a1 k (List.mem_of_getElem? T);have a6:∀j,(listed.setIfInBounds k Jr).getD j Jr=(j==k||listed.getD j Jr):=by
   intro j;simp only[Ga,Array.getElem?_setIfInBounds]
   grind
  have R:(Ba ops.size).countP (fun i=> !((listed.setIfInBounds k Jr).getD i Jr))=u:=by
   have h1:=SQ (l:=Ba ops.size) List.nodup_range (p:=fun i=> !(listed.getD i Jr)) (i:=k) (List.mem_range.2 a3) (by simp[Q])
   grind
  obtain⟨l,a9,b0⟩:=ih (t / B.length) (listed.setIfInBounds k Jr) (k::y) (by simpa using hs) R;refine⟨k::l,?_,?_⟩
  ·grind [Region.linearise.go,List.reverse_cons,List.append_assoc]
  ·refine .cons _ k o l ho Q a4 ?_;simp_all
def aAR(ops:Array Oper)(y:∀i o,ops[i]? =Jp o->∀j∈dS o,j<i)(u:Bool)(B:(u|| !Region.departs ops)=Jr)(t:Nat):
  ∃D,(∀i,i<ops.size->D i=Js)/\oa ops D (Region.schedule u ops t):=by
 have h0:∀i,i<ops.size->(Fj ops.size Js).getD i Jr=Js:=fun i E=>by simp[Ga,E]
 obtain⟨l,h1,h2⟩:=aAS ops y ops.size t (Fj ops.size Js) [] (by simp) (by
  rw[List.countP_eq_length.2]
  ·simp
  grind)
 refine⟨_,h0,?_⟩;have:Region.schedule u ops t=l:=by
  unfold Region.schedule;rw[if_pos B];unfold Region.linearise
  grind
 rw[this];exact h2
end Go.Am

