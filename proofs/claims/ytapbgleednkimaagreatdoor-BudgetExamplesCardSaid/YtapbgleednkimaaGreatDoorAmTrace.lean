/- The operations that change no object that was there: each runs as the abstract machine says, and what goes with it. -/
import Derived.Test.YtapbgleednkimaaGreatDoorAmRel
import Derived.Great.BuildSlice
import Derived.DeepKeys
import Derived.Lib.ConvBytes
import Derived.Lib.AtoiErrMem
import Derived.RangeFuncLeaves
import Derived.LoopNIn
set_option linter.all false
open List renaming getElem?_take->Bc,getElem?_drop->Bf,length_cons->Ao,foldl_cons->Du,flatMap_cons->Br,getElem?_append->Fz,getElem?_map->Ap,getElem?_eq_getElem->Ad,mapM_cons->Hi,map_cons->Ai,length_nil->Bb,length_append->Aj,length_drop->Ga,drop_drop->Ei,flatten_cons->Dx,take_append_drop->Cm,nil_append->An,getElem?_append_left->Bh,size_toArray->Ey,getElem_of_mem->Dt,getElem_mem->Cw,getElem?_cons_succ->Bv,mem_filterMap->Ge,range->Av,mem_filter->Dy,mem_range->Ek,all_eq_true->Ch,mem_map->Em
open Array renaming getElem?_toList->Bu,foldl_toList->Hf,range->Hg,ext'->Ci,length_toList->Gb,getElem?_eq_getElem->El,getD_eq_getD_getElem?->Fi,replicate->Ez
open Nat renaming zero_add->Aw,add_zero->Dk,add_mul->Cx,mod_lt->Dl,zero_mul->Dw,le_refl->Ac,zero_le->Af,add_assoc->Cf,mul_le_mul_right->Dg,eq_zero_or_pos->Ej,lt_succ_self->Gd
open Bool renaming and_eq_true->Aq,false_eq_true->Bs,true->Jb,false->Jc
open Option renaming map_some->Cr,map_eq_some_iff->Bt,getD_some->Cz,bind_some->Ew,map_none->Gc,some->Iz,none->Ja
open Prod renaming snd->As
namespace Go.Am
section
variable {P:Program} {ρ:Emb} {w:World} {a:List AV} {act:Act} {h:H}
def NE(P:Program)(ρ:Emb)(h:H)(w:World)(r:Result Next)(v:AV)(y:H):Prop:=
 ∃u,(y=h/\r= .ok (.value u) w/\VR ρ v u)\/
  (∃B E l,y=h.alloc B/\l.blk=w.heap.size/\r= .ok (.value u) (w.alloc E)/\(ρ h.next=Ja->VR (upd ρ h.next l) v u/\OR P (upd ρ h.next l) (w.alloc E) l B))
def NE.val{r:Result Next}{v:AV}{u:Value}(hr:r= .ok (.value u) w)(hv:VR ρ v u):NE P ρ h w r v h:=⟨u,.inl ⟨rfl,hr,hv⟩⟩
def NE.new{r:Result Next}{v:AV}{u:Value}{y:bz}{ob:Obj}{l:Loc}(hb:l.blk=w.heap.size)(hr:r= .ok (.value u) (w.alloc ob))
  (hv:ρ h.next=Ja->VR (upd ρ h.next l) v u/\OR P (upd ρ h.next l) (w.alloc ob) l y):NE P ρ h w r v (h.alloc y):=⟨u,.inr ⟨y,ob,l,rfl,hb,hr,hv⟩⟩
def jP{t:TypeId}{i:TypeInfo}(u:P.info? t=Iz i)(w:World):(typeInfo t).run P w= .ok i w:=by simp[typeInfo,u]
def dC{t:TypeId}{n:Nat}(hs:eM P t=Iz n)(w:World):(sizeOf t).run P w= .ok n w:=by
 unfold eM at hs
 cases u:P.info? t with
 | none=>simp[u]at hs
 | some i=>simp[u]at hs;subst hs;simp[sizeOf,jP u]
def iO{t:TypeId}{b:Bool}(hs:nF P t=Iz b)(w:World):(isAgg t).run P w= .ok b w:=by
 unfold nF at hs
 cases u:P.underlying t with
 | none=>simp[u]at hs
 | some d=>cases d<;>simp[u]at hs<;>subst hs<;>simp[isAgg,run_underlying u]
def gX{t:TypeId}{z:List AV}(hs:nT P t=Iz z):∃u i,P.info? t=Iz i/\i.zero=Iz u/\(∀w,(zeroValue t).run P w= .ok u w)/\eI gG u.cells.toList=Iz z:=by
 unfold nT at hs
 cases y:P.info? t with
 | none=>simp[y]at hs
 | some i=>
  cases hz:i.zero with
  | none=>simp[y,hz]at hs
  | some u=>exact⟨u,i,rfl,hz,fun w=>by simp[zeroValue,jP y,hz],by simpa [y,hz]using hs⟩
def OR.cell{l:Loc}{o:bz}{b i:Nat}{v:AV}(B:OR P ρ w l o)(hg:h.get b=Iz o)(y:iX h b i=Iz v):
  ∃u,w.cell? ⟨l.blk,l.base+i,Ja⟩=Iz u/\VR ρ v u:=by
 unfold iX at y;rw[hg]at y;cases o<;>simp at y;rename_i ver rw cs;obtain⟨I,J,e,h1,h2,K,L,E⟩:=B;obtain⟨u,G,hv⟩:=E i v y;exact⟨u,by simp[World.cell?,h1,G],hv⟩
def vJ{b i:Nat}{v:AV}(u:iX h b i=Iz v):∃o,h.get b=Iz o/\o.cg=Jb:=by
 unfold iX at u
 cases hg:h.get b with
 | none=>simp[hg]at u
 | some o=>exact⟨o,rfl,by cases o<;>simp[hg]at u;rfl⟩
def cW{b i n:Nat}{cs:List AV}(u:bH h b i n=Iz cs):∃ver rw all,h.get b=Iz (.cells ver rw all)/\i+n<=all.length/\cs=(all.drop i).take n:=by
 unfold bH at u
 grind
def OR.cells{l:Loc}{ver:Nat}{rw:Bool}{all cs:List AV}{i n:Nat}(I:OR P ρ w l (.cells ver rw all))(K:i+n<=all.length)(B:cs=(all.drop i).take n):
  ∃E,VRs ρ cs E/\E.length=n/\∀j u,E[j]? =Iz u->w.cell? ⟨l.blk,l.base+i+j,Ja⟩=Iz u:=by
 obtain⟨G,L,e,h1,h2,M,O,Q⟩:=I;subst B;have hlen:((all.drop i).take n).length=n:=by simp;omega
 refine⟨(G.toList.drop (l.base+i)).take n,⟨?_,fun j v u hv y=>?_⟩,?_,fun j u y=>?_⟩
 ·grind
 ·grind
 ·simp;omega
 ·have J:j<n:=by have R:=(List.getElem?_eq_some_iff.1 y).1;have:((G.toList.drop (l.base+i)).take n).length<=n:=List.length_take_le _ _;omega
  rw[Bc,if_pos J,Bf,Bu]at y;simp[World.cell?,h1,y]
def Addr.ij(b o i:Nat):(⟨b,o,Ja⟩:Addr).add i=⟨b,o+i,Ja⟩:=by unfold Addr.add;split<;>simp_all
def OR.newRow{l:Loc}{ver:Nat}{rw:Bool}{cs:List AV}{B:Array Value}{e:TypeId}(hb:l.blk=w.heap.size)(y:l.base=0)(E:l.lim=B.size)
  (hlen:cs.length<=B.size) (hv:∀(i:Nat) (v:AV),cs[i]? =Iz v->∃u,B[i]? =Iz u/\VR ρ v u):OR P ρ (w.alloc (.cells B e)) l (.cells ver rw cs):=
 ⟨B,(0,0),e,by rw[hb];exact heap_alloc_new w _,E.symm,by omega,fun _=>rfl,fun i v h=>by rw[y,Aw];exact hv i v h⟩
def vG:∀(cs:List AV) (off:Nat) (new:List AV),off+new.length<=cs.length->(over cs off new).length=cs.length
 | cs,0,new,h=>by simp[over]at h ⊢;omega
 | [],off+1,new,h=>by simp at h
 | c::cs,off+1,new,h=>by simp only[over,Ao];rw[vG cs off new (by simp at h;omega)]
def E1:∀(cs:List AV) (off:Nat) (new:List AV),off+new.length<=cs.length->over cs off new=cs.take off++new++cs.drop (off+new.length)
 | cs,0,new,h=>by simp[over]
 | [],off+1,new,h=>by simp at h
 | c::cs,off+1,new,h=>by
  simp only[over];rw[E1 cs off new (by simp at h;omega)]
  grind
def oM(off:Nat):∀(new:List Value) (k:Nat) (cs:Array Value),off+k+new.length<=cs.size->
  ((new.zipIdx k).foldl (fun cs (x:Value×Nat)=>cs.setIfInBounds (off+x.2) x.1) cs)=(cs.toList.take (off+k)++new++cs.toList.drop (off+k+new.length)).toArray
 | [],k,cs,h=>by simp
 | c::new,k,cs,h=>by
  simp only[List.zipIdx_cons,Du];rw[oM off new (k+1) _ (by simp at h ⊢;omega)];simp only[Array.toList_setIfInBounds];congr 1
  grind [Ao,List.take_add_one,List.take_set_of_le,List.drop_set_of_lt]
def wZ(u:Nat->Option (Nat×Nat)):∀{L:List (Nat×Operand)} {J:List (Nat×Nat×AR)},oY u L=Iz J->
  (∀t∈J.flatMap (fun p=>opR p.2.2),VR ρ (fp a t) (act.tmps.getD t undef))->∀{cs E:List AV} {us:Array Value},VRs ρ cs us.toList->zQ a cs J=Iz E->
  ∃G:Array Value,Instr.fill u us (L.map fun p=>(p.1,act.eval p.2))=Iz G/\VRs ρ E G.toList
 | [],J,I,ht,cs,E,us,hv,hf=>by cases I;cases hf;exact⟨us,rfl,hv⟩
 | (i,x)::L,J,I,ht,cs,E,us,hv,hf=>by
  unfold oY at I;split at I
  ·rename_i off size y U R S M;cases I;simp only[Br,List.mem_append]at ht;have O:=aX S fun t h=>ht t (.inl h);unfold zQ at hf;split at hf
   ·rename_i B;simp only[Aq,decide_eq_true_eq]at B;obtain⟨⟨h1,h2⟩,h3⟩:=B;obtain⟨Q,_⟩:=O.cells h3;have hlen:(act.eval x).cells.size=size:=by have:=Q.1;simp at this;omega
    have T:us.size=cs.length:=by have:=hv.1;simpa using this
    have K:VRs ρ (over cs off (ev a y).cells) ((act.eval x).cells.zipIdx.foldl (fun cs (c,j)=>cs.setIfInBounds (off+j) c) us).toList:=by rw[<-Hf,Array.toList_zipIdx];rw[oM off (act.eval x).cells.toList 0 us (by simp;omega)];rw[E1 cs off _ (by omega)];simp only[Dk];rw[h1,show(act.eval x).cells.toList.length=size from by simpa using hlen];exact((hv.take off).append Q).append (hv.drop (off+size))
    obtain⟨G,V,hr⟩:=wZ u M (fun t h=>ht t (.inr h)) K hf
    grind [Instr.fill]
   ·cases hf
  ·cases I
def nK{n:Nat}{z:List AV}{y:List Value}(hz:VRs ρ z y)(J:0<z.length):VRs ρ (g8 n z) ((Hg (n*y.length)).map (y.toArray[· % y.toArray.size]!)).toList:=by
 have hl:y.length=z.length:=hz.1;have E:∀n:Nat,(g8 n z).length=n*z.length:=by
  intro n
  induction n with
  | zero=>simp[g8]
  | succ n G=>simp[g8,G,Cx,Nat.add_comm]
 have I:∀(n i:Nat),i<n*z.length->(g8 n z)[i]? =z[i % z.length]? :=by
  intro n
  induction n with
  | zero=>intro i B;simp at B
  | succ n G=>
   intro i B;simp only[g8];rw[Fz];by_cases h1:i<z.length
   ·rw[if_pos h1,Nat.mod_eq_of_lt h1]
   ·rw[if_neg h1,G (i-z.length) (by rw[Cx]at B;omega)];congr 1
    conv=>rhs;rw[show i=(i-z.length)+z.length from by omega,Nat.add_mod_right]
 refine⟨by simp[E,hl],fun i v u h1 h2=>?_⟩;have B:i<n*z.length:=by have:=(List.getElem?_eq_some_iff.1 h1).1;rw[E]at this;exact this
 rw[I n i B]at h1;have hm:i % z.length<y.length:=by rw[hl];exact Dl _ J
 simp only[Array.toList_map,Ap,Array.toList_range,List.getElem?_range (show i<n*y.length from by rw[hl];exact B),Cr]at h2;cases h2;have:y.toArray[i % y.toArray.size]! =y[i % z.length]:=by
  grind
 rw[this];exact hz.2 _ _ _ h1 (Ad hm)
end
section
variable {P:Program} {ρ:Emb} {w:World} {a:List AV} {act:Act} {h h':H} {o:Oper} {ao:AO} {v:AV} {rd:List Nat}
def Ops(ρ:Emb)(a:List AV)(act:Act)(u:List Nat):Prop:=∀t∈u,VR ρ (fp a t) (act.tmps.getD t undef)
def K7(P:Program)(ρ:Emb)(h:H)(w:World)(rd:List Nat):Prop:=∀x∈rd,∀l u,ρ x=Iz l->h.get x=Iz u->OR P ρ w l u
def Ops.left{u y:List Nat}(h:Ops ρ a act (u++y)):Ops ρ a act u:=fun t ht=>h t (List.mem_append.2 (.inl ht))
def Ops.right{y u:List Nat}(h:Ops ρ a act (y++u)):Ops ρ a act u:=fun t ht=>h t (List.mem_append.2 (.inr ht))
def VR.bh{k:IntKind}{n:Int}{u:Value}(h:VR ρ (.int k n) u):u= .int k n:=by cases h;rfl
def VR.cm{b:Bool}{u:Value}(h:VR ρ (.bool b) u):u= .bool b:=by cases h;rfl
def VR.cv{s:ByteArray}{u:Value}(h:VR ρ (.str s) u):u= .string s:=by cases h;rfl
def VR.gu{b i:Nat}{u:Value}(h:VR ρ (.ptr b i) u):∃l,ρ b=Iz l/\u= .pointer (Iz ⟨l.blk,l.base+i,Ja⟩):=by cases h with | ptr _ _ l h=>exact⟨l,h,rfl⟩
def VR.mq{r:Nat}{u:Value}(h:VR ρ (.map r) u):∃l,ρ r=Iz l/\u= .map (Iz l.blk):=by cases h with | map _ l h=>exact⟨l,h,rfl⟩
def QE{x:Operand}(u:o.op= .move x\/o.op= .assign x)(B:aY P o=Iz ao)(y:aop a h ao=Iz (v,h',rd))(ht:Ops ρ a act ao.dh):
  NE P ρ h w ((execOp act.eval o).run P w) v h':=by
 have e:(trR x).map AO.move=Iz ao:=by rcases u with u | u<;>simpa [aY,u]using B
 simp only[Bt]at e;obtain⟨r,hr,rfl⟩:=e;simp only[aop,Option.some.injEq,Prod.mk.injEq]at y;obtain⟨rfl,rfl,rfl⟩:=y;exact NE.val (by rcases u with u | u<;>simp[execOp,u]) (aX hr ht)
def aCj{c x y:Operand}(E:o.op= .pick c x y)(B:aY P o=Iz ao)(u:aop a h ao=Iz (v,h',rd))(ht:Ops ρ a act ao.dh):
  NE P ρ h w ((execOp act.eval o).run P w) v h':=by
 simp only[aY,E]at B;split at B
 ·rename_i K L M G I J;cases B;simp only[AO.dh]at ht;have h1:=aX G ht.left.left;have h2:=aX I ht.left.right;have h3:=aX J ht.right;simp only[aop]at u;split at u
  ·rename_i hb;cases u;rw[hb]at h1;exact NE.val (by simp[execOp,E,h1.cm,asBool]) h2
  ·rename_i hb;cases u;rw[hb]at h1;exact NE.val (by simp[execOp,E,h1.cm,asBool]) h3
  grind
 ·cases B
def YK{e:TypeId}(K:o.op= .alloc e)(E:aY P o=Iz ao)(B:aop a h ao=Iz (v,h',rd)):
  NE P ρ h w ((execOp act.eval o).run P w) v h':=by
 simp only[aY,K,Bt]at E;obtain⟨z,hz,rfl⟩:=E;obtain⟨u,i,O,I,J,G⟩:=gX hz;simp only[aop,Option.some.injEq,Prod.mk.injEq]at B;obtain⟨rfl,rfl,rfl⟩:=B;have hl:=eC G;refine NE.new (u:= .pointer (Iz ⟨w.heap.size,0,Ja⟩)) (ob:= .cells u.cells e) (l:=⟨w.heap.size,0,u.cells.size⟩) rfl ?_ fun L=>⟨?_,?_⟩
 ·simp[execOp,K,Instr.alloc,J,newVar,newRow]
 ·exact .ptr _ 0 ⟨w.heap.size,0,u.cells.size⟩ (bA _ _ _)
 ·exact OR.newRow rfl rfl rfl (by simp at hl;omega) (fun i x M=>by
   obtain⟨y,R,hr⟩:=(eP (ρ:=upd ρ h.next ⟨w.heap.size,0,u.cells.size⟩) G).1.getElem M
   grind)
def aEI{e:TypeId}{x:Operand}(K:o.op= .box e x)(E:aY P o=Iz ao)(B:aop a h ao=Iz (v,h',rd))(ht:Ops ρ a act ao.dh):
  NE P ρ h w ((execOp act.eval o).run P w) v h':=by
 simp only[aY,K,Bt]at E;obtain⟨Q,M,rfl⟩:=E;have I:=aX M ht;simp only[aop]at B;split at B
 ·rename_i G;simp only[Option.some.injEq,Prod.mk.injEq]at B;obtain⟨rfl,rfl,rfl⟩:=B;obtain⟨L,_⟩:=I.cells G;have hl:=L.1;refine NE.new (u:= .pointer (Iz ⟨w.heap.size,0,Ja⟩)) (ob:= .cells (act.eval x).cells e) (l:=⟨w.heap.size,0,(act.eval x).cells.size⟩) rfl ?_ fun J=>⟨?_,?_⟩
  ·simp[execOp,K,Instr.box,newVar,newRow]
  ·exact .ptr _ 0 ⟨w.heap.size,0,(act.eval x).cells.size⟩ (bA _ _ _)
  ·exact OR.newRow rfl rfl rfl (by simp at hl;omega) (fun i y O=>by
    obtain⟨z,hz,hr⟩:=(L.mono (gM J)).getElem O;exact⟨z,by simpa using hz,hr⟩)
 ·cases B
def uR(w:World):∀(u:List Field),(∀(i:Nat) (f:Field),u[i]? =Iz f->(eM P f.type).isSome=Jb)->
  (u.mapM fun(f:Field)=>do pure (f.offset,<-sizeOf f.type)).run P w= .ok (u.map fun(f:Field)=>(f.offset,(eM P f.type).getD 0)) w
 | [],_=>by simp
 | f::u,h=>by have h0:=h 0 f rfl;obtain⟨n,y⟩:=Option.isSome_iff_exists.1 h0;have B:=uR w u (fun i g hg=>h (i+1) g (by simpa using hg));simp only[bind_pure_comp]at B ⊢;simp only[Hi,Sem.run_bind,Sem.run_map,dC y,Result.andThen_ok,B,Sem.run_pure,Ai,y,Cz]
def YI{t:TypeId}{U:Array (Nat×Operand)}(M:o.op= .build t U)(B:aY P o=Iz ao)(y:aop a h ao=Iz (v,h',rd))(ht:Ops ρ a act ao.dh):
  NE P ρ h w ((execOp act.eval o).run P w) v h':=by
 simp only[aY,M]at B;split at B
 ·rename_i z L hz O;split at B
  ·rename_i T;simp only[Bt]at B;obtain⟨V,Q,rfl⟩:=B;obtain⟨u,i,Y,G,I,J⟩:=gX hz;simp only[aop]at y;split at y
   ·rename_i cs hf;simp only[Option.some.injEq,Prod.mk.injEq]at y;obtain⟨rfl,rfl,rfl⟩:=y;obtain⟨K,h1,h2⟩:=wZ (kZ P L) Q ht (us:=u.cells) (eP J).1 hf;refine NE.val (u:= .agg K) ?_ (by have:=h2.pf;simpa using this);have R:(L.mapM fun(f:Field)=>do pure (f.offset,<-sizeOf f.type)).run P w= .ok (L.map fun(f:Field)=>(f.offset,(eM P f.type).getD 0)) w:=by
     have:=uR (P:=P) w L.toList (fun i f hf=>by
      grind)
     rw[Array.mapM_eq_mapM_toList,Sem.run_map,this];simp only[Result.andThen_ok];congr 1;apply Ci;simp
    have S:(fun(i:Nat)=>Option.map (fun(f:Field)=>(f.offset,(eM P f.type).getD 0)) L[i]?)=kZ P L:=by funext i;unfold kZ;all_goals grind
    have E:=R;simp only[bind_pure_comp]at E;simp[execOp,M,Instr.build,I,run_underlying O,E,S];simp_all
   grind
  ·cases B
 ·rename_i z n e hz O;split at B
  ·rename_i s hs;simp only[Bt]at B;obtain⟨V,Q,rfl⟩:=B;obtain⟨u,i,Y,G,I,J⟩:=gX hz;simp only[aop]at y;split at y
   ·rename_i cs hf;simp only[Option.some.injEq,Prod.mk.injEq]at y;obtain⟨rfl,rfl,rfl⟩:=y;obtain⟨K,h1,h2⟩:=wZ (fun i=>Iz (i*s,s)) Q ht (us:=u.cells) (eP J).1 hf;refine NE.val (u:= .agg K) ?_ (by have:=h2.pf;simpa using this);simp[execOp,M,Instr.build,I,run_underlying O,dC hs];rw[h1];rfl
   grind
  ·cases B
 ·cases B
def BN{t:TypeId}{len:Nat}{J:Array (Nat×Operand)}(L:o.op= .buildSlice t len J)(B:aY P o=Iz ao)(E:aop a h ao=Iz (v,h',rd))(ht:Ops ρ a act ao.dh):
  NE P ρ h w ((execOp act.eval o).run P w) v h':=by
 simp only[aY,L]at B;split at B
 ·rename_i e U;split at B
  ·rename_i s z hs hz;split at B
   ·rename_i V;simp only[Aq,decide_eq_true_eq]at V;obtain⟨⟨Z,M⟩,a0⟩:=V;simp only[Bt]at B;obtain⟨qs,hq,rfl⟩:=B;obtain⟨u,i,hi,O,Q,K⟩:=gX hz;simp only[aop]at E;split at E
    ·rename_i cs hf;simp only[Option.some.injEq,Prod.mk.injEq]at E;obtain⟨rfl,rfl,rfl⟩:=E;have a1:=eC K;have R:VRs ρ (g8 len z) ((Hg (len*s)).map (u.cells[· % u.cells.size]!)).toList:=by
      have:=nK (ρ:=ρ) (n:=len) (eP K).1 (by omega)
      grind
     obtain⟨G,h1,h2⟩:=wZ (fun i=>Iz (i*s,s)) hq ht R hf;have hlen:cs.length=G.size:=by have:=h2.1;simp at this;omega
     have a2:G.size=len*s:=by
      have:∀(J:List (Nat×Value)) (x y:Array Value),Instr.fill (fun i=>Iz (i*s,s)) x J=Iz y->y.size=x.size:=by
       intro J
       induction J with
       | nil=>intro x y e;simp[Instr.fill]at e;subst e;rfl
       | cons p J ih=>
        intro x y e;obtain⟨i,q⟩:=p;simp only[Instr.fill]at e;split at e
        ·cases e
        ·rw[ih _ _ e];rw[<-Hf,Array.toList_zipIdx];rename_i I;rw[oM _ _ _ _ (by simp at I ⊢;omega)]
         grind
      grind
     refine NE.new (u:= .slice (Iz ⟨w.heap.size,0,Ja⟩) len len) (ob:= .cells G e) (l:=⟨w.heap.size,0,G.size⟩) rfl ?_ fun S=>⟨?_,?_⟩
     ·by_cases h0:len=0
      ·subst h0;have e0:¬(0*s>2^24):=by omega
       have e1:∀f:Nat->Value,Array.map f (Hg 0)=(#[]:Array Value):=fun f=>by simp[Array.range_zero']
       simp[execOp,L,Instr.buildSlice,run_underlying U,dC hs,newRow];simp only[Dw,e1]at h1 ⊢;rw[h1];rfl
      ·have T:len*s≠0:=Nat.mul_ne_zero h0 (by omega);have Y:¬(len*s>2^24):=by omega
       simp[execOp,L,Instr.buildSlice,run_underlying U,dC hs,newRow,T,Q,show ¬(16777216<len*s)from by omega];rw[h1];rfl
     ·refine .slice Jb s h.next 0 len len _ (Ac _) ?_ (fun _=>rfl) fun hp=>⟨_,bA _ _ _,rfl,?_⟩
      ·have:len<=len*s:=Nat.le_mul_of_pos_right _ M;unfold maxLen;omega
      grind
     ·exact OR.newRow rfl rfl rfl (by omega) (fun i y hy=>by
       obtain⟨z,hz,hr⟩:=(h2.mono (gM S)).getElem hy;exact⟨z,by simpa using hz,hr⟩)
    grind
   ·cases B
  ·cases B
 ·cases B
end
def Fit:List (Option IntKind)->List Value->Prop
 | [],[]=>True
 | some k::T,.int y n::u=>y=k/\(Lit.int k n).wf=Jb/\Fit T u
 | none::T,.bool _::u=>Fit T u
 | _,_=>False
def oL:Value->Lit
 | .int k n=> .int k n
 | .bool b=> .bool b
 | _=> .bool Jc
def Fit.length:∀{T:List (Option IntKind)} {u:List Value},Fit T u->u.length=T.length
 | [],[],_=>rfl
 | some k::T,.int y n::u,h=>by simp[Fit.length h.2.2]
 | none::T,.bool b::u,h=>by simp[Fit.length (T:=T) h]
def Fit.split:∀{A B:List (Option IntKind)} {us:List Value},Fit (A++B) us->Fit A (us.take A.length)/\Fit B (us.drop A.length)
 | [],B,us,h=>⟨by simp[Fit],by simpa using h⟩
 | some k::A,B,.int u n::us,h=>by obtain⟨h1,h2,h3⟩:=h;obtain⟨p,q⟩:=Fit.split (A:=A) h3;exact⟨⟨h1,h2,p⟩,q⟩
 | none::A,B,.bool b::us,h=>by obtain⟨p,q⟩:=Fit.split (A:=A) (us:=us) h;exact⟨p,q⟩
section
variable {P:Program}
def vE{m:Nat}(G:∀(t:TypeId) (T:List (Option IntKind)),pT P m t=Iz T->∀us,Fit T us->P.keyLits m t us=Iz (us.map oL)){us:List Value} :
  ∀(y:List Field) (off:Nat) (T:List (Option IntKind)),nG P (pT P m) off y=Iz T->off<=us.length->Fit T (us.drop off)->
  ∃as,y.mapM (fun f=>P.keyLits m f.type ((us.drop f.offset).take (P.cellsOf f.type)))=Iz as/\as.flatten=(us.drop off).map oL
 | [],off,T,u,hl,hf=>by cases u;have:=hf.length;simp only[Bb]at this;have e:us.drop off=[]:=List.length_eq_zero_iff.1 this;simp_all
 | f::y,off,T,u,hl,hf=>by
  unfold nG at u;split at u
  ·rename_i A B hA I;split at u
   ·rename_i J;cases u;obtain⟨h1,h2⟩:=J;obtain⟨p,q⟩:=hf.split;have hlen:=hf.length;simp only[Aj,Ga]at hlen;have K:=G _ _ hA _ p;rw[Ei]at q;rw[h2]at K q;have E:f.offset+P.cellsOf f.type<=us.length:=by omega
    obtain⟨as,L,M⟩:=vE G y (f.offset+P.cellsOf f.type) B I E (by rw[h1];exact q)
    grind [Option.bind_eq_bind,Dx,Ei,Cm]
   ·cases u
  ·cases u
def y9{m:Nat}{e:TypeId}{E:List (Option IntKind)}(u:∀us,Fit E us->P.keyLits m e us=Iz (us.map oL))(he:E.length=P.cellsOf e){us:List Value} :
  ∀(k off:Nat),off*E.length<=us.length->Fit (s8 E k) (us.drop (off*E.length))->
  ∃as,(List.range' off k).mapM (fun i=>P.keyLits m e ((us.drop (i*P.cellsOf e)).take (P.cellsOf e)))=Iz as/\as.flatten=(us.drop (off*E.length)).map oL
 | 0,off,hl,hf=>by have:=hf.length;simp only[s8,Bb]at this;have e:us.drop (off*E.length)=[]:=List.length_eq_zero_iff.1 this;simp_all
 | k+1,off,hl,hf=>by
  have hlen:=hf.length;simp only[s8,Aj,Ga]at hlen;obtain⟨p,q⟩:=hf.split;have B:=u _ p;have G:off*E.length+E.length=(off+1)*E.length:=by rw[Nat.succ_mul]
  rw[Ei,G]at q;obtain⟨as,y,I⟩:=y9 u he k (off+1) (by omega) q;refine⟨_::as,by rw[List.range'_succ];simp only[Hi,<-he,B,Option.bind_eq_bind,Ew];rw[<-he]at y;rw[y];rfl,?_⟩
  grind [Dx,Ei,Cm]
def pC:∀(m:Nat) (t:TypeId) (T:List (Option IntKind)),pT P m t=Iz T->∀us,Fit T us->P.keyLits m t us=Iz (us.map oL)
 | 0,t,T,u,us,hf=>by cases u
 | m+1,t,T,u,us,hf=>by
  unfold pT at u;split at u
  ·rename_i k y;cases u
   match us,hf with
   | [.int R n],hf=>obtain⟨rfl,h2,_⟩:=hf;simp[Program.keyLits,y,h2,oL]
  ·rename_i y;cases u
   match us,hf with
   | [.bool b],hf=>simp[Program.keyLits,y,oL]
  ·rename_i M y;split at u
   ·rename_i S I;split at u
    ·rename_i J;cases u;obtain⟨B,K⟩:=J;have hlen:=hf.length;obtain⟨as,L,O⟩:=vE (fun t T h us hf=>pC m t T h us hf) (us:=us) M.toList 0 T I (Af _) (by simpa using hf);have G:us.length=P.cellsOf t:=by omega
     unfold Program.keyLits
     grind
    ·cases u
   ·cases u
  ·rename_i n e y;split at u
   ·rename_i E Q;split at u
    ·rename_i J;cases u;obtain⟨B,K⟩:=J;have hlen:=hf.length;obtain⟨as,L,O⟩:=y9 (fun us hf=>pC m e E Q us hf) B (us:=us) n 0 (by simp) (by simpa using hf);have G:us.length=P.cellsOf t:=by omega
     unfold Program.keyLits;rw[y];simp only;rw[if_pos G,List.range_eq_range',L]
     grind
    ·cases u
   ·cases u
  ·cases u
def B1{k:IntKind}{n:Int}(h:T6 k n=Jb):(Lit.int k n).wf=Jb:=by cases k<;>simp[T6]at h<;>simp[Lit.wf,IntKind.min,IntKind.max,IntKind.signed,IntKind.bits]<;>omega
def FQ{ρ:Emb} :∀{T:List (Option IntKind)} {B E:List AV} {G I:List Value} {b:Bool},fB T B E=Iz b->VRs ρ B G->VRs ρ E I->Fit T G/\Fit T I/\(b=Jb↔G.map oL=I.map oL):=by
 intro T
 induction T with
 | nil=>
  intro B E G I b h J K
  cases B with
  | cons x B=>cases h
  | nil=>cases E with
   | cons y E=>cases h
   | nil=>cases h;rw[J.ct,K.ct];simp[Fit]
 | cons o T Z=>
  intro B E G I b h J K
  cases o with
  | some k=>
   cases B with
   | nil=>cases h
   | cons x B=>
    cases E with
    | nil=>cases x<;>cases h
    | cons y E=>
     cases x<;>first | (cases h;done) | skip
     cases y<;>first | (cases h;done) | skip
     rename_i k1 m k2 n;simp only[fB]at h;split at h
     ·rename_i hc;obtain⟨rfl,rfl,hm,hn⟩:=hc;split at h
      ·rename_i b' hb;cases h;obtain⟨u,L,rfl,M,O⟩:=J.cons_inv;obtain⟨v,Q,rfl,R,S⟩:=K.cons_inv;rw[M.bh,R.bh];obtain⟨U,V,Y⟩:=Z hb O S;refine⟨⟨rfl,B1 hm,U⟩,⟨rfl,B1 hn,V⟩,?_⟩;simp only[Ai,oL,List.cons.injEq,Lit.int.injEq,true_and,Aq,beq_iff_eq,Y]
      ·cases h
     ·cases h
  | none=>
   cases B with
   | nil=>cases h
   | cons x B=>
    cases E with
    | nil=>cases x<;>cases h
    | cons y E=>
     cases x<;>first | (cases h;done) | skip
     cases y<;>first | (cases h;done) | skip
     rename_i p q;simp only[fB]at h;split at h
     ·rename_i b' hb;cases h;obtain⟨u,L,rfl,M,O⟩:=J.cons_inv;obtain⟨v,Q,rfl,R,S⟩:=K.cons_inv;rw[M.cm,R.cm];obtain⟨U,V,Y⟩:=Z hb O S;refine⟨U,V,?_⟩;simp only[Ai,oL,List.cons.injEq,Lit.bool.injEq,Aq,beq_iff_eq,Y]
     ·cases h
def UH{m:Nat}{t:TypeId}{T:List (Option IntKind)}(B:(∃y,P.underlying t=Iz (.struct y))\/∃n e,P.underlying t=Iz (.array n e))(u:pT P m t=Iz T):T.length=P.cellsOf t:=by
 cases m with
 | zero=>cases u
 | succ m=>
  unfold pT at u
  grind
def zS{ρ:Emb}(w:World){t:TypeId}{T:List (Option IntKind)}(Q:(∃R,P.underlying t=Iz (.struct R))\/∃n e,P.underlying t=Iz (.array n e))(B:pT P 20 t=Iz T)
  (S:P.keyTypeAt 20 t=Jb) (hg:P.eqGuardType P.depth t=Jc) {I J:List AV} {u y:List Value} {b:Bool} (h:fB T I J=Iz b) (U:VRs ρ I u) (V:VRs ρ J y):
  (∀(op:BinOp) (X Y:Operand),(eqGuard op t X Y (.agg u.toArray) (.agg y.toArray)).run P w= .ok () w)/\(binOp .eql t (.agg u.toArray) (.agg y.toArray)).run P w= .ok (.bool b) w/\(binOp .neq t (.agg u.toArray) (.agg y.toArray)).run P w= .ok (.bool (!b)) w:=by
 obtain⟨K,L,Z⟩:=FQ h U V;have hl:=UH Q B;have M:∀{E:List Value},Fit T E->(Value.agg E.toArray).formed P t=Jb:=by
  intro E hz;have:=hz.length;unfold Value.formed
  grind
 obtain⟨r,hr,O⟩:=run_equalIn_deep (P:=P) (10000-20) 20 t S w 20 20 (.agg u.toArray) (.agg y.toArray) _ _ (M K) (M L) (by simpa [Value.cells]using pC 20 t T B u K) (by simpa [Value.cells]using pC 20 t T B y L);have G:r=b:=by
  grind
 subst G;have he:(Op.equal t (.agg u.toArray) (.agg y.toArray)).run P w= .ok r w:=hr;refine⟨fun op X Y=>?_,?_,?_⟩
 ·unfold eqGuard;simp_all
 ·simp[binOp,he]
 ·simp[binOp,he]
end
section
variable {P:Program} {ρ:Emb} {w:World} {a:List AV} {act:Act} {h h':H} {o:Oper} {ao:AO} {v:AV} {rd:List Nat}
def mW{B:Addr}{y:List Value}{n:Nat}(E:y.length=n)(G:∀j u,y[j]? =Iz u->w.cell? (B.add j)=Iz u):
  (loadCells B n).run P w= .ok y.toArray w:=by subst E;exact run_loadCells_list w B y G
def aCk{t:TypeId}{x:Operand}(K:o.op= .load t x)(E:aY P o=Iz ao)(B:aop a h ao=Iz (v,h',rd))(ht:Ops ρ a act ao.dh)(I:K7 P ρ h w rd):
  NE P ρ h w ((execOp act.eval o).run P w) v h':=by
 simp only[aY,K]at E;split at E
 ·rename_i n U J L M;cases E;have G:=aX M ht;simp only[aop]at B;split at B
  ·rename_i b i hb;split at B
   ·rename_i cs O;simp only[Option.some.injEq,Prod.mk.injEq]at B;obtain⟨rfl,rfl,rfl⟩:=B;rw[hb]at G;obtain⟨l,hl,Q⟩:=G.gu;obtain⟨ver,rw,all,hg,V,e⟩:=cW O;obtain⟨S,h1,h2,h3⟩:=(I b (by simp) l _ hl hg).cells V e;refine NE.val (u:= .agg S.toArray) ?_ h1.pf;have R:(loadCells ⟨l.blk,l.base+i,Ja⟩ n).run P w= .ok S.toArray w:=mW h2 (fun j u Y=>by rw[Addr.ij];exact h3 j u Y);simp[execOp,K,Instr.loadAt,Q,Instr.sureAddr,loadVar,iO J,dC L,R]
   grind
  grind
 ·rename_i U J M;cases E;have G:=aX M ht;simp only[aop]at B;split at B
  ·rename_i b i hb;split at B
   ·rename_i y T;simp only[Option.some.injEq,Prod.mk.injEq]at B;obtain⟨rfl,rfl,rfl⟩:=B;rw[hb]at G;obtain⟨l,hl,Q⟩:=G.gu;obtain⟨Z,hg,_⟩:=vJ T;obtain⟨u,h1,h2⟩:=(I b (by simp) l _ hl hg).cell hg T;refine NE.val (u:=u) ?_ h2;simp[execOp,K,Instr.loadAt,Q,Instr.sureAddr,loadVar,iO J,h1]
   grind
  grind
 ·cases E
def IR{x:Operand}(G:o.op= .nilCheck x)(J:aY P o=Iz ao)(B:aop a h ao=Iz (v,h',rd))(ht:Ops ρ a act ao.dh):
  NE P ρ h w ((execOp act.eval o).run P w) v h':=by
 simp only[aY,G,Bt]at J;obtain⟨R,L,rfl⟩:=J;have E:=aX L ht;simp only[aop]at B;split at B
 ·rename_i b i hb;cases B;rw[hb]at E;obtain⟨l,hl,M⟩:=E.gu;exact NE.val (u:=act.eval x) (by simp[execOp,G,M]) E
 ·cases B
 ·rename_i f c d K hb;cases B;rw[hb]at E;refine NE.val (u:=act.eval x) ?_ E;generalize I:act.eval x=y at E
  cases E with
  | func _ _ _ S T O hf U h1 h2=>
   cases f with
   | method Q=>exact absurd rfl (K Q)
   | func g=>simp[execOp,G,I]
   | methodOf t n=>simp[execOp,G,I]
   | via t p f V=>simp[execOp,G,I]
   | yield l=>simp[rR]at O
  | yield r l h=>simp[execOp,G,I]
 ·rename_i t y hb;cases B;rw[hb]at E;refine NE.val (u:=act.eval x) ?_ E;generalize I:act.eval x=z at E
  cases E with
  | iface t v u h=>simp[execOp,G,I]
 ·cases B
def LX{op:BinOp}{k:IntKind}{x y:Int}{r:AV}(hs:bR op=Jc)(h:dH op k x y=Iz r)(t:TypeId):∃u,VR ρ r u/\(binOp op t (.int k x) (.int k y)).run P w= .ok u w:=by
 cases op<;>simp[bR]at hs<;>simp only[dH]at h
 case quo=>
  split at h
  ·cases h
  ·rename_i h0;cases h;exact⟨_,.int _ _,by simp[binOp,Op.intDiv,h0]⟩
 case rem=>
  split at h
  ·cases h
  ·rename_i h0;cases h;exact⟨_,.int _ _,by simp[binOp,Op.intDiv,h0]⟩
 all_goals (cases h;first | exact⟨_,.int _ _,by simp[binOp,Op.intArith,Op.intBits]⟩ | exact⟨_,.bool _,by simp[binOp,Op.intCmp]⟩)
def eU{op:BinOp}{t:TypeId}{x y:Operand}{u B:Value}(h1:∀c,u≠ .agg c)(h2:u≠ .nilIface):(eqGuard op t x y u B).run P w= .ok () w:=by unfold eqGuard;simp_all
def RK{op:BinOp}{x y r:AV}{u B:Value}(h:eY op x y=Iz r)(I:VR ρ x u)(J:VR ρ y B)(t:TypeId):
  ∃z,VR ρ r z/\(∀X Y:Operand,(eqGuard op t X Y u B).run P w= .ok () w)/\(binOp op t u B).run P w= .ok z w:=by
 unfold eY at h;split at h
 ·rename_i k a K b;have E:=I.bh;have G:=J.bh;subst E;subst G;have hg:∀X Y:Operand,(eqGuard op t X Y (.int k a) (.int K b)).run P w= .ok () w:=fun X Y=>eU (by simp) (by simp);split at h
  ·rename_i hs;unfold sL at h;split at h
   ·cases h
   ·rename_i h0;cases op<;>simp[bR]at hs
    ·cases h;exact⟨_,.int _ _,hg,by simp[binOp,Op.shift,h0]⟩
    ·cases h;exact⟨_,.int _ _,hg,by simp[binOp,Op.shift,h0]⟩
  ·rename_i hs;split at h
   ·rename_i L;subst L;obtain⟨z,hz,hb⟩:=LX (P:=P) (w:=w) (ρ:=ρ) (by simpa using hs) h t
    grind
   ·cases h
 ·rename_i a b;have E:=I.cv;have G:=J.cv;subst E;subst G;have hg:∀X Y:Operand,(eqGuard op t X Y (.string a) (.string b)).run P w= .ok () w:=fun X Y=>eU (by simp) (by simp);cases op<;>simp only at h
  case add=>
   split at h
   ·cases h
   ·rename_i h0;cases h;have hm:IntKind.i64.max=9223372036854775807:=by decide
    rw[hm]at h0;exact⟨_,.str _,hg,by simp[binOp,Op.stringOp,hm];omega⟩
  case eql=>cases h;exact⟨_,.bool _,hg,by simp[binOp,Op.stringOp]⟩
  case neq=>cases h;exact⟨_,.bool _,hg,by simp[binOp,Op.stringOp]⟩
  all_goals (cases h)
 ·cases h
def S2{t:TypeId}{d:TypeDesc}{kd:Nat}(G:P.underlying t=Iz d)(hd:E8 d=Iz kd)
  {x y:AV} {b:Bool} {u B:Value} (h:UY kd x y=Iz b) (I:VR ρ x u) (J:VR ρ y B):
  (Op.equal t u B).run P w= .ok b w/\(binOp .eql t u B).run P w= .ok (.bool b) w/\(binOp .neq t u B).run P w= .ok (.bool (!b)) w/\(∀c,u≠ .agg c)/\u≠ .nilIface:=by
 have E:∀{u B:Value} {b:Bool},(Op.equal t u B).run P w= .ok b w->((binOp .eql t u B).run P w=((Op.equal t u B).run P w).andThen fun b w=> .ok (.bool b) w)->((binOp .neq t u B).run P w=((Op.equal t u B).run P w).andThen fun b w=> .ok (.bool (!b)) w)->
   (∀c,u≠ .agg c)->u≠ .nilIface->(Op.equal t u B).run P w= .ok b w/\(binOp .eql t u B).run P w= .ok (.bool b) w/\(binOp .neq t u B).run P w= .ok (.bool (!b)) w/\(∀c,u≠ .agg c)/\u≠ .nilIface:=by
  intro u B b h1 h2 h3 K L;exact⟨h1,by rw[h2,h1];rfl,by rw[h3,h1];rfl,K,L⟩
 unfold UY at h;split at h<;>first | (cases h;done) | skip
 all_goals (cases h;(cases I<;>cases J<;>cases d<;>first | (simp[E8]at hd;done) | skip))
 all_goals (refine E ?_ (by simp[binOp]) (by simp[binOp]) (by simp) (by simp))
 all_goals (unfold Op.equal;show(Op.equalIn (9999+1) t _ _).run P w=_;unfold Op.equalIn;simp[run_underlying G])
def HQ{t:TypeId}{K:Array (String×TypeId)}{E G:Operand}(L:P.underlying t=Iz (.interface K))
  {x y:AV} {b:Bool} {u B:Value} (h:UY 4 x y=Iz b) (M:VR ρ x u) (O:VR ρ y B) (Q:(sI E||sI G)=Jb):
  (∀op:BinOp,(eqGuard op t E G u B).run P w= .ok () w)/\(binOp .eql t u B).run P w= .ok (.bool b) w/\(binOp .neq t u B).run P w= .ok (.bool (!b)) w:=by
 have I:(∃v,E= .const v)\/∃v,G= .const v:=by cases E<;>cases G<;>simp[sI]at Q ⊢
 have J:∀{u B:Value} {b:Bool},(Op.equal t u B).run P w= .ok b w->((binOp .eql t u B).run P w=((Op.equal t u B).run P w).andThen fun b w=> .ok (.bool b) w)->((binOp .neq t u B).run P w=((Op.equal t u B).run P w).andThen fun b w=> .ok (.bool (!b)) w)->
   (∀op:BinOp,(eqGuard op t E G u B).run P w= .ok () w)->(∀op:BinOp,(eqGuard op t E G u B).run P w= .ok () w)/\(binOp .eql t u B).run P w= .ok (.bool b) w/\(binOp .neq t u B).run P w= .ok (.bool (!b)) w:=by
  intro u B b h1 h2 h3 R;exact⟨R,by rw[h2,h1];rfl,by rw[h3,h1];rfl⟩
 unfold UY at h;split at h<;>first | (cases h;done) | skip
 all_goals first | (rename_i e;cases e;done) | skip
 all_goals (cases h;cases M;cases O)
 all_goals (refine J ?_ (by simp[binOp]) (by simp[binOp]) ?_)
 all_goals first
  | (unfold Op.equal;show(Op.equalIn (9999+1) t _ _).run P w=_;unfold Op.equalIn;simp[run_underlying L];done)
  | (intro op;unfold eqGuard;rcases I with⟨v,rfl⟩ | ⟨v,rfl⟩<;>cases op<;>simp)
def yX{op:BinOp}{t Z:TypeId}{x y:Operand}{Q R:AR}(ho:o.op= .binOp op t x y Z)(S:(∃fs,P.underlying t=Iz (.struct fs))\/∃n e,P.underlying t=Iz (.array n e))
  (U:trR x=Iz Q) (V:trR y=Iz R) (E:pG P op t Q R=Iz ao) (B:aop a h ao=Iz (v,h',rd)) (ht:Ops ρ a act ao.dh):
  NE P ρ h w ((execOp act.eval o).run P w) v h':=by
 have fin:∀{z:Value},VR ρ v z->(∀X Y:Operand,(eqGuard op t X Y (act.eval x) (act.eval y)).run P w= .ok () w)->(binOp op t (act.eval x) (act.eval y)).run P w= .ok z w->h'=h->
   NE P ρ h w ((execOp act.eval o).run P w) v h':=by
  intro z hz h1 h2 e;subst e;exact NE.val (u:=z) (by simp[execOp,ho,h1,h2]) hz
 unfold pG at E;split at E
 ·rename_i T M;split at E
  ·rename_i J;cases E;simp only[AO.dh]at ht;simp only[aop]at B;split at B<;>first | (cases B;done) | skip
   rename_i xs ys G I;split at B<;>first | (cases B;done) | skip
   rename_i b hb;cases B;have K:=aX U ht.left;have L:=aX V ht.right;rw[G]at K;rw[I]at L;obtain⟨us,h1,h2⟩:=K.ji;obtain⟨vs,h3,O⟩:=L.ji;obtain⟨k1,k2,k3⟩:=zS w S M J.1 J.2 hb h2 O;refine fin (z:= .bool _) (.bool _) (fun X Y=>by rw[h1,h3];exact k1 _ X Y) ?_ rfl
   grind
  ·cases E
 ·rename_i T M;split at E
  ·rename_i J;cases E;simp only[AO.dh]at ht;simp only[aop]at B;split at B<;>first | (cases B;done) | skip
   rename_i xs ys G I;split at B<;>first | (cases B;done) | skip
   rename_i b hb;cases B;have K:=aX U ht.left;have L:=aX V ht.right;rw[G]at K;rw[I]at L;obtain⟨us,h1,h2⟩:=K.ji;obtain⟨vs,h3,O⟩:=L.ji;obtain⟨k1,k2,k3⟩:=zS w S M J.1 J.2 hb h2 O;refine fin (z:= .bool _) (.bool _) (fun X Y=>by rw[h1,h3];exact k1 _ X Y) ?_ rfl
   grind
  ·cases E
 ·cases E
def YJ{op:BinOp}{t S:TypeId}{x y:Operand}(M:o.op= .binOp op t x y S)(E:aY P o=Iz ao)(B:aop a h ao=Iz (v,h',rd))(ht:Ops ρ a act ao.dh):
  NE P ρ h w ((execOp act.eval o).run P w) v h':=by
 have fin:∀{z:Value},VR ρ v z->(∀X Y:Operand,(eqGuard op t X Y (act.eval x) (act.eval y)).run P w= .ok () w)->(binOp op t (act.eval x) (act.eval y)).run P w= .ok z w->h'=h->
   NE P ρ h w ((execOp act.eval o).run P w) v h':=by
  intro z hz h1 h2 e;subst e;exact NE.val (u:=z) (by simp[execOp,M,h1,h2]) hz
 simp only[aY,M]at E;split at E
 ·rename_i K L k G I J;cases E;simp only[AO.dh]at ht;simp only[aop]at B;split at B
  ·rename_i r hr;cases B;obtain⟨z,hz,h1,h2⟩:=RK (P:=P) (w:=w) hr (aX G ht.left) (aX I ht.right) t;exact fin hz h1 h2 rfl
  ·cases B
 ·rename_i K L G I J;cases E;simp only[AO.dh]at ht;simp only[aop]at B;split at B
  ·rename_i r hr;cases B;obtain⟨z,hz,h1,h2⟩:=RK (P:=P) (w:=w) hr (aX G ht.left) (aX I ht.right) t;exact fin hz h1 h2 rfl
  ·cases B
 ·rename_i K L G I J;split at E<;>first | (cases E;done) | skip
  all_goals (cases E;simp only[AO.dh]at ht;simp only[aop]at B;split at B<;>first | (cases B;done) | skip)
  all_goals
   rename_i p q T U;cases B;have O:=aX G ht.left;have R:=aX I ht.right;rw[T]at O;rw[U]at R;refine fin (z:= .bool _) (.bool _) (fun X Y=>eU (by simp[O.cm]) (by simp[O.cm])) ?_ rfl;rw[O.cm,R.cm];first | exact run_eql_bool w t p q J | exact run_neq_bool w t p q J
 ·rename_i K L V G I J;exact yX M (.inl ⟨V,J⟩) G I E B ht
 ·rename_i K L n e G I J;exact yX M (.inr ⟨n,e,J⟩) G I E B ht
 ·rename_i K L ms G I J;split at E<;>first | (cases E;done) | skip
  rename_i Z;split at E<;>first | (cases E;done) | skip
  all_goals
   cases E;simp only[AO.dh]at ht;simp only[aop]at B;split at B<;>first | (cases B;done) | skip
   rename_i b hb;cases B;obtain⟨h1,h2,h3⟩:=HQ (w:=w) J hb (aX G ht.left) (aX I ht.right) Z;exact NE.val (u:= .bool _) (by simp[execOp,M,h1,h2,h3]) (.bool _)
 ·rename_i K L d _ _ _ _ _ _ G I J;split at E<;>first | (cases E;done) | skip
  all_goals (cases E;simp only[AO.dh]at ht;simp only[aop]at B;split at B<;>first | (cases B;done) | skip)
  all_goals
   rename_i kd Q _ b hb;cases B;obtain⟨h1,h2,h3,h4,h5⟩:=S2 (w:=w) J Q hb (aX G ht.left) (aX I ht.right);refine fin (z:= .bool _) (.bool _) (fun X Y=>eU h4 h5) ?_ rfl;first | exact h2 | exact h3
 ·cases E
def aCi{op:UnOp}{t:TypeId}{x:Operand}(G:o.op= .unOp op t x)(E:aY P o=Iz ao)(y:aop a h ao=Iz (v,h',rd))(ht:Ops ρ a act ao.dh):
  NE P ρ h w ((execOp act.eval o).run P w) v h':=by
 simp only[aY,G,Bt]at E;obtain⟨J,I,rfl⟩:=E;have B:=aX I ht;simp only[aop]at y;split at y
 ·rename_i r hr;cases y;unfold aun at hr;split at hr
  ·rename_i k n he;rw[he]at B;have e:=B.bh;split at hr<;>first | (cases hr;done) | skip
   all_goals (cases hr;exact NE.val (u:= .int _ _) (by simp[execOp,G,e,Op.unary,Op.intArith,Op.intBits]) (.int _ _))
  ·rename_i b he;rw[he]at B;have e:=B.cm;split at hr<;>first | (cases hr;done) | skip
   all_goals (cases hr;exact NE.val (u:= .bool _) (by simp[execOp,G,e,Op.unary]) (.bool _))
  ·cases hr
 ·cases y
def tP{t:TypeId}{x:Operand}(I:o.op= .makeInterface t x)(y:aY P o=Iz ao)(B:aop a h ao=Iz (v,h',rd))(ht:Ops ρ a act ao.dh):
  NE P ρ h w ((execOp act.eval o).run P w) v h':=by
 simp only[aY,I]at y;split at y
 ·cases y
 ·rename_i d E J;simp only[Bt]at y;obtain⟨L,K,rfl⟩:=y;have G:=aX K ht;simp only[aop,Option.some.injEq,Prod.mk.injEq]at B;obtain⟨rfl,rfl,rfl⟩:=B;refine NE.val (u:= .iface t (act.eval x)) ?_ (.iface _ _ _ G);cases d<;>first | exact absurd rfl (E _) | simp[execOp,I,Instr.makeInterface,run_underlying J]
 ·cases y
def IV{fn:Fn}{f c:Array Operand}(I:o.op= .makeFunc fn f c)(y:aY P o=Iz ao)(B:aop a h ao=Iz (v,h',rd))(ht:Ops ρ a act ao.dh):
  NE P ρ h w ((execOp act.eval o).run P w) v h':=by
 simp only[aY,I]at y;split at y
 ·cases y
 ·cases y
 ·rename_i J M O E G hf K;cases y;simp only[AO.dh]at ht;have h1:=mP hf ht.left;have h2:=mP K ht.right;simp only[aop,Option.some.injEq,Prod.mk.injEq]at B;obtain⟨rfl,rfl,rfl⟩:=B;have L:∀g:Fn,(∀l,g= .yield l->False)->(∀t n,g= .methodOf t n->False)->rR g=Jb:=fun g hg hm=>by cases g<;>first | rfl | exact absurd rfl (hg _) | exact absurd rfl (hm _ _)
  refine NE.val (u:= .func _ (f.toList.map act.eval).toArray (c.toList.map act.eval).toArray) ?_ (.func _ _ _ _ _ (L _ E G) h1.1 h2.1 h1.2 h2.2);simp[execOp,I,Instr.makeFunc]
  grind
 ·cases y
def MV{t:TypeId}{r:Option Operand}(E:o.op= .makeMap t r)(B:aY P o=Iz ao)(y:aop a h ao=Iz (v,h',rd)):
  NE P ρ h w ((execOp act.eval o).run P w) v h':=by
 cases r with
 | some x=>simp[aY,E]at B
 | none=>
  simp only[aY,E,Option.some.injEq]at B;subst B;simp only[aop,Option.some.injEq,Prod.mk.injEq]at y;obtain⟨rfl,rfl,rfl⟩:=y;refine NE.new (u:= .map (Iz w.heap.size)) (ob:= .map #[] 0) (l:=⟨w.heap.size,0,0⟩) rfl ?_ fun G=>⟨.map h.next ⟨w.heap.size,0,0⟩ (bA _ _ _),?_⟩
  ·simp[execOp,E,Instr.makeMap]
  ·exact⟨#[],0,heap_alloc_new w _,VRs.nil _,VRs.nil _⟩
end
section
variable {P:Program} {ρ:Emb} {w:World} {a:List AV} {act:Act} {h h':H} {o:Oper} {ao:AO} {v:AV} {rd:List Nat}
def VR.bt{fl:Bool}{sz b i n:Nat}{u:Value}(h:VR ρ (.slice fl sz b i n) u):∃ad cap,u= .slice (Iz ad) n cap/\n<=cap/\cap<=maxLen/\(fl=Jb->cap=n)/\(0<cap->∃l,ρ b=Iz l/\ad=⟨l.blk,l.base+i,Ja⟩/\l.base+i+cap*sz<=l.lim):=by
 cases h with
 | slice _ _ _ _ _ cap ad h1 h2 h3 h4=>exact⟨ad,cap,rfl,h1,h2,h3,h4⟩
def CM{f:Value->ByteArray->Sem (ForInStep ByteArray)}(hf:∀(n:Int) (s:ByteArray),f (.int .u8 n) s=pure (ForInStep.yield (s.push (UInt8.ofNat n.toNat)))):∀{cs:List AV} {B:List Value} {bs:List UInt8} (y:ByteArray),VRs ρ cs B->eG cs=Iz bs->
  (forIn B y f).run P w= .ok ⟨(y.data.toList++bs).toArray⟩ w
 | [],B,bs,y,h,hb=>by rw[h.ct];cases hb;simp
 | v::cs,B,bs,y,h,hb=>by
  obtain⟨u,E,rfl,hv,hr⟩:=h.cons_inv;unfold eG at hb;split at hb
  ·grind
  ·rename_i n r h0;cases h0;split at hb
   ·rename_i t ht;split at hb
    ·cases hb;rw[hv.bh];simp only[List.forIn_cons,hf,Sem.run_bind,Sem.run_pure,Result.andThen_ok];rw[CM hf (y.push (UInt8.ofNat n.toNat)) hr ht];simp_all
    ·cases hb
   ·cases hb
  ·cases hb
def MX{s d:TypeId}{x:Operand}(J:o.op= .convert s d x)(B:aY P o=Iz ao)(K:ao.effect=Jc)(y:aop a h ao=Iz (v,h',rd))(ht:Ops ρ a act ao.dh)(L:K7 P ρ h w rd):
  NE P ρ h w ((execOp act.eval o).run P w) v h':=by
 simp only[aY,J]at B;split at B
 ·rename_i k k' x' hs hd M;cases B;have E:=aX M ht;simp only[aop]at y;split at y
  ·rename_i j n S;cases y;rw[S]at E;exact NE.val (u:= .int _ _) (by simp[execOp,J,E.bh,convert,run_underlying hs,run_underlying hd,Conv.intToInt]) (.int _ _)
  grind
 ·rename_i x' hs hd M;cases B;have E:=aX M ht;simp only[aop]at y;split at y
  ·rename_i s' T;cases y;rw[T]at E;exact NE.val (u:= .string _) (by simp[execOp,J,E.cv,convert,run_underlying hs,run_underlying hd]) (.str _)
  grind
 ·rename_i e x' hs hd M;split at B
  ·rename_i he;cases B;have E:=aX M ht;simp only[aop]at y;split at y
   ·rename_i G;cases y;rw[G]at E;have I:act.eval x= .slice Ja 0 0:=by generalize act.eval x=u at E;cases E;rfl
    exact NE.val (u:= .string _) (by simp[execOp,J,I,convert,run_underlying hs,run_underlying hd,run_underlying he,Conv.bytesToString]) (.str _)
   ·rename_i fl sz b i n G;split at y
    ·rename_i cs O;split at y
     ·rename_i bs U;simp only[Option.some.injEq,Prod.mk.injEq]at y;obtain⟨rfl,rfl,rfl⟩:=y;rw[G]at E;obtain⟨ad,a0,I,g1,g2,g3,g4⟩:=E.bt;refine NE.val (u:= .string ⟨bs.toArray⟩) ?_ (.str _);have V:∃Q:List Value,(loadCells ad n).run P w= .ok Q.toArray w/\VRs ρ cs Q:=by
       by_cases h0:n=0
       ·subst h0;have:cs=[]:=by
         obtain⟨ver,rw_,all,hg,S,e⟩:=cW O
         grind
        subst this;exact⟨[],rfl,.nil ρ⟩
       ·obtain⟨l,hl,rfl,_⟩:=g4 (by omega);obtain⟨ver,rw_,all,hg,S,e⟩:=cW O;obtain⟨Q,h1,h2,h3⟩:=(L b (by simp) l _ hl hg).cells S e;exact⟨Q,mW h2 (fun j u hj=>by rw[Addr.ij];exact h3 j u hj),h1⟩
      obtain⟨Q,Y,Z⟩:=V;have R:=fun f hf=>CM (P:=P) (w:=w) (f:=f) hf ByteArray.empty Z U;have e0:ByteArray.empty.data.toList=[]:=rfl;simp only[e0,An]at R;simp only[execOp,J,I,convert,Sem.run_bind,run_underlying hs,run_underlying hd,run_underlying he,Result.andThen_ok,Conv.bytesToString,Y];rw[List.forIn_toArray,R _ fun n s=>rfl];simp_all
     grind
    grind
   grind
  ·cases B
 ·split at B
  ·cases B;simp[AO.effect]at K
  ·cases B
 ·split at B
  ·split at B
   ·cases B;simp[AO.effect]at K
   ·cases B
  ·cases B
 ·cases B
def E9{t:TypeId}{n c:Operand}(T:o.op= .makeSlice t n c)(E:aY P o=Iz ao)(B:aop a h ao=Iz (v,h',rd))(ht:Ops ρ a act ao.dh):
  NE P ρ h w ((execOp act.eval o).run P w) v h':=by
 simp only[aY,T]at E;split at E
 ·rename_i e Z;split at E
  ·rename_i i z l c' U hz hl hc;split at E
   ·rename_i G;simp only[Aq,decide_eq_true_eq]at G;cases E;simp only[AO.dh]at ht;have h1:=aX hl ht.left;have h2:=aX hc ht.right;simp only[aop]at B;split at B
    ·rename_i m k e1 e2;rw[e1]at h1;rw[e2]at h2;split at B
     ·rename_i hb;obtain⟨b1,b2,b3,b4⟩:=hb;cases B;obtain⟨u,i',K,J,a0,L⟩:=gX hz;rw[U]at K;cases K;have M:=eC L;have V:u.cells.size=z.length:=by simpa using M.symm
      have O:k<=9223372036854775807:=by unfold f0 at b4;omega
      have B:=run_make (P:=P) w t e i u Z U J .i64 .i64 m k b1 b2 (by rw[Int.mul_comm];omega) O;refine NE.new (u:= .slice (Iz ⟨w.heap.size,0,Ja⟩) m.toNat k.toNat) (ob:= .cells (madeCells u.cells (k.toNat*i.size)) e)
       (l:=⟨w.heap.size,0,(madeCells u.cells (k.toNat*i.size)).size⟩) rfl ?_ fun a1=>⟨?_,?_⟩
      ·simp[execOp,T,h1.bh,h2.bh,B]
      ·refine .slice _ z.length h.next 0 m.toNat k.toNat _ (by omega) (by unfold maxLen;omega) (fun he=>?_) fun hp=>⟨_,bA _ _ _,rfl,?_⟩
       ·grind
       ·simp[madeCells,G.1]
      ·have I:∀Q,VRs Q (g8 k.toNat z) (madeCells u.cells (k.toNat*i.size)).toList:=fun Q=>by
        have:=nK (n:=k.toNat) (eP (ρ:=Q) L).1 (by omega);simp only[Array.toArray_toList,Gb]at this;unfold madeCells
        grind
       have R:g8 k.toNat z=g8 m.toNat z++g8 (k.toNat-m.toNat) z:=by
        have:∀p q:Nat,g8 (p+q) z=g8 p z++g8 q z:=by
         intro p q
         induction p with
         | zero=>simp[g8]
         | succ p ih=>rw[Nat.succ_add];simp[g8,ih]
        grind
       refine OR.newRow rfl rfl rfl ?_ fun j y Y=>?_
       ·have:=(I ρ).1
        grind
       ·obtain⟨z',S,hr⟩:=(I _).getElem (i:=j) (v:=y) (by rw[R,Bh (List.getElem?_eq_some_iff.1 Y).1];exact Y);exact⟨z',by simpa using S,hr⟩
     grind
    grind
   ·cases E
  ·cases E
 ·cases E
def vi(p:IntKind×Int):Value:= .int p.1 p.2
def mX{isS:Bool}{len cap:Nat}{l r m:Option (IntKind×Int)}(u:m.isSome=Jb->r.isSome=Jb)(h0:0<=(l.map As).getD (0:Int))(h1:(l.map As).getD (0:Int)<=(r.map As).getD (len:Int))
  (h2:(r.map As).getD (len:Int)<=(m.map As).getD (cap:Int)) (h3:(m.map As).getD (cap:Int)<=cap):
  (Instr.sliceBounds isS len cap (l.map vi) (r.map vi) (m.map vi)).run P w= .ok (((l.map As).getD (0:Int)).toNat,((r.map As).getD (len:Int)).toNat,((m.map As).getD (cap:Int)).toNat) w:=by
 have e:∀x:Int,0<=x->((x.toNat:Nat):Int)=x:=fun x G=>Int.toNat_of_nonneg G
 cases l with
 | none=>
  cases r with
  | none=>
   cases m with
   | none=>simp[Instr.sliceBounds]
   | some m=>simp at u
  | some r=>
   obtain⟨y,r⟩:=r;simp at h0 h1 h2 h3
   cases m with
   | none=>simp at h2 h3;simp[Instr.sliceBounds,vi,run_sliceBound w y r cap _ h1 h2]
   | some m=>obtain⟨B,m⟩:=m;simp at h2 h3;simp[Instr.sliceBounds,vi,run_sliceBound w B m cap _ (by omega) h3,run_sliceBound w y r m.toNat _ h1 (by rw[e m (by omega)];exact h2)]
 | some l=>
  obtain⟨E,l⟩:=l;simp at h0 h1
  cases r with
  | none=>
   cases m with
   | none=>simp at h1;simp[Instr.sliceBounds,vi,run_sliceBound w E l len _ h0 h1]
   | some m=>simp at u
  | some r=>
   obtain⟨y,r⟩:=r;simp at h1 h2 h3
   cases m with
   | none=>simp at h2 h3;simp[Instr.sliceBounds,vi,run_sliceBound w y r cap _ (by omega) h2,run_sliceBound w E l r.toNat _ h0 (by rw[e r (by omega)];exact h1)]
   | some m=>obtain⟨B,m⟩:=m;simp at h2 h3;simp[Instr.sliceBounds,vi,run_sliceBound w B m cap _ (by omega) h3,run_sliceBound w y r m.toNat _ (by omega) (by rw[e m (by omega)];exact h2),run_sliceBound w E l r.toNat _ h0 (by rw[e r (by omega)];exact h1)]
def qO{x:Option Operand}{y:Option AR}{n:Option Int}(u:BE x=Iz y)(ht:Ops ρ a act (IM y))(hb:bnd a y=Iz n):
  ∃p:Option (IntKind×Int),x.map act.eval=p.map vi/\n=p.map As:=by
 cases x with
 | none=>simp[BE]at u;subst u;simp[bnd]at hb;subst hb;exact⟨Ja,rfl,rfl⟩
 | some x=>
  simp only[BE,Bt]at u;obtain⟨r,hr,rfl⟩:=u;have hv:=aX hr ht;unfold bnd at hb;split at hb
  ·grind
  ·rename_i B h;cases h;split at hb
   ·rename_i k m he;cases hb;rw[he]at hv;exact⟨Iz (k,m),by simp[vi,hv.bh],rfl⟩
   ·cases hb
def rM{t e:TypeId}{s len u:Nat}{base:Option Addr}{y B E:Option Value}{l r m:Nat}(G:P.underlying t=Iz (.slice e))(hs:eM P e=Iz s)
  (hb:(Instr.sliceBounds Jb len u y B E).run P w= .ok (l,r,m) w):(Instr.sliceAt t (.slice base len u) y B E).run P w= .ok (.slice (if m=l then base else base.map (·.add (l*s))) (r-l) (m-l)) w:=by
 simp[Instr.sliceAt,run_underlying G,Instr.slice,hb,dC hs]
def VR.sliced{fl fl':Bool}{sz b i n l r cap' m:Nat}{ad:Addr}(h1:n<=cap')(h2:cap'<=maxLen)(h3:fl=Jb->cap'=n)
  (h4:0<cap'->∃y,ρ b=Iz y/\ad=⟨y.blk,y.base+i,Ja⟩/\y.base+i+cap'*sz<=y.lim) (hl:l<=r) (hr:r<=m) (hm:m<=cap') (hf:fl'=Jb->m=r):
  VR ρ (.slice fl' sz b (i+l*sz) (r-l)) (.slice (if m=l then Iz ad else(Iz ad).map (·.add (l*sz))) (r-l) (m-l)):=by
 by_cases e:m=l
 ·rw[if_pos e];exact .slice fl' sz b _ _ _ ad (by omega) (by omega) (fun B=>by have:=hf B;omega) (fun hp=>by omega)
 ·rw[if_neg e];refine .slice fl' sz b _ _ _ _ (by omega) (by omega) (fun B=>by have:=hf B;omega) fun hp=>?_;obtain⟨y,E,G,I⟩:=h4 (by omega);refine⟨y,E,by rw[G];show(⟨y.blk,y.base+i,Ja⟩:Addr).add (l*sz)=_;rw[Addr.ij,Cf],?_⟩;have:l*sz+(m-l)*sz<=cap'*sz:=by rw[<-Cx];exact Dg _ (by omega)
  omega
def EU{t:TypeId}{s:ByteArray}{u y:Option Value}{l r m:Nat}(B:P.underlying t=Iz .string)(hb:(Instr.sliceBounds Jc s.size s.size u y Ja).run P w= .ok (l,r,m) w):
  (Instr.sliceAt t (.string s) u y Ja).run P w= .ok (.string (s.extract l r)) w:=by
 simp[Instr.sliceAt,run_underlying B,Instr.slice,hb]
def EV{t e:TypeId}{s n:Nat}{u:Addr}{y B:Option Value}{l r m:Nat}(E:P.underlying t=Iz (.array n e))(hs:eM P e=Iz s)
  (hb:(Instr.sliceBounds Jc n n y B Ja).run P w= .ok (l,r,m) w):(Instr.sliceAt t (.pointer (Iz u)) y B Ja).run P w= .ok (.slice (Iz (if m=l then u else u.add (l*s))) (r-l) (m-l)) w:=by
 simp[Instr.sliceAt,run_underlying E,Instr.sureAddr,hb,dC hs]
def YF{t:TypeId}{x:Operand}{lo hi mx:Option Operand}(ho:o.op= .slice t x lo hi mx)(B:aY P o=Iz ao)(y:aop a h ao=Iz (v,h',rd))(ht:Ops ρ a act ao.dh)(a3:K7 P ρ h w rd):
  NE P ρ h w ((execOp act.eval o).run P w) v h':=by
 simp only[aY,ho]at B;split at B
 ·rename_i e hu;split at B
  ·rename_i s x' a4 a5 b4 hs hx O Q a7;cases B;simp only[AO.dh]at ht;have E:=aX hx ht.left.left.left;simp only[aop]at y;split at y
   ·rename_i L R M S T a9;obtain⟨G,el,rfl⟩:=qO O ht.left.left.right S;obtain⟨pr,er,rfl⟩:=qO Q ht.left.right T;obtain⟨K,em,rfl⟩:=qO a7 ht.right a9;split at y
    ·rename_i r hr;cases y;unfold fJ at hr;split at hr
     ·cases hr
     ·rename_i b5;have a0:K.isSome=Jb->pr.isSome=Jb:=by cases K<;>cases pr<;>simp_all
      split at hr
      ·rename_i I;rw[I]at E;have U:act.eval x= .slice Ja 0 0:=by generalize act.eval x=u at E;cases E;rfl
       split at hr
       ·rename_i hc;cases hr;simp only[Aq,beq_iff_eq]at hc;obtain⟨⟨Y,Z⟩,c3⟩:=hc;have hb:=mX (P:=P) (w:=w) (isS:=true) (len:=0) (cap:=0) a0 (by rw[Y];omega) (by rw[Y];simp[Z]) (by simp[Z,c3]) (by simp[c3]);simp only[Y,Int.ofNat_zero,Int.natCast_zero,Z,c3,Int.toNat_zero]at hb;refine NE.val (u:= .slice Ja 0 0) ?_ .ah;simp[execOp,ho,U,el,er,em,rM hu hs hb]
       ·cases hr
      ·rename_i fl sz b i n I;rw[I]at E;obtain⟨ad,J,U,g1,g2,g3,g4⟩:=E.bt;split at hr
       ·rename_i hc;cases hr;obtain⟨rfl,Y,Z,c3,c4⟩:=hc;have fin:∀(m:Nat),(m:Int)=(K.map As).getD (J:Int)->((pr.map As).getD (n:Int)).toNat<=m->m<=J->
          ((if(K.map As).isSome then(K.map As).getD ((pr.map As).getD (n:Int))==(pr.map As).getD (n:Int)else fl&&(pr.map As).getD (n:Int)==(n:Int))=Jb->m=((pr.map As).getD (n:Int)).toNat)->
          NE P ρ h w ((execOp act.eval o).run P w) (.slice (if(K.map As).isSome then(K.map As).getD ((pr.map As).getD (n:Int))==(pr.map As).getD (n:Int)else fl&&(pr.map As).getD (n:Int)==(n:Int)) sz b (i+((G.map As).getD (0:Int)).toNat*sz) ((pr.map As).getD (n:Int)-(G.map As).getD (0:Int)).toNat) h:=by
         intro m a2 b0 b1 b2;have hb:=mX (P:=P) (w:=w) (isS:=true) (len:=n) (cap:=J) (l:=G) (r:=pr) (m:=K) a0 Y Z (by rw[<-a2];omega) (by rw[<-a2];omega);rw[<-a2,Int.toNat_natCast]at hb;have V:=VR.sliced (ρ:=ρ) (l:=((G.map As).getD (0:Int)).toNat) (r:=((pr.map As).getD (n:Int)).toNat) (m:=m) g1 g2 g3 g4 (by omega) b0 b1 b2;rw[show((pr.map As).getD (n:Int)).toNat-((G.map As).getD (0:Int)).toNat=((pr.map As).getD (n:Int)-(G.map As).getD (0:Int)).toNat from by omega]at V;refine NE.val ?_ V;simp only[execOp,ho,U,el,er,em,Sem.run_bind,rM hu hs hb,Result.andThen_ok,Sem.run_pure];rw[show((pr.map As).getD (n:Int)).toNat-((G.map As).getD (0:Int)).toNat=((pr.map As).getD (n:Int)-(G.map As).getD (0:Int)).toNat from by omega]
        cases K with
        | none=>
         grind
        | some K=>obtain⟨kp,K⟩:=K;simp only[Cr,Cz]at c3 c4;refine fin K.toNat (by simp;omega) (by omega) (by omega) fun hh=>?_;simp_all
       ·cases hr
      ·cases hr
    grind
   grind
  ·cases B
 ·rename_i hu;split at B
  ·rename_i x' a4 a5 hx O Q;cases B;simp only[AO.dh]at ht;have E:=aX hx ht.left.left;simp only[aop]at y;split at y
   ·rename_i s L R I S T;obtain⟨G,el,rfl⟩:=qO O ht.left.right S;obtain⟨pr,er,rfl⟩:=qO Q ht.right T;rw[I]at E;split at y
    ·rename_i hc;cases y;obtain⟨Y,Z,c3⟩:=hc;have hb:=mX (P:=P) (w:=w) (isS:=false) (len:=s.size) (cap:=s.size) (l:=G) (r:=pr) (m:=Ja) (by simp) Y Z (by simpa using c3) (by simp);refine NE.val ?_ (.str _);simp only[Gc]at hb;simp only[execOp,ho,E.cv,el,er,Gc,Sem.run_bind,EU hu hb,Result.andThen_ok,Sem.run_pure]
    grind
   grind
  ·cases B
 ·rename_i n e hu;split at B
  ·rename_i s x' a4 a5 hs hx O Q;split at B
   ·rename_i hn;cases B;simp only[AO.dh]at ht;have E:=aX hx ht.left.left;simp only[aop]at y;split at y
    ·rename_i b i I;rw[I]at E;obtain⟨lc,a6,U⟩:=E.gu;split at y
     ·rename_i L R ver rw_ cs S T hg;obtain⟨G,el,rfl⟩:=qO O ht.left.right S;obtain⟨pr,er,rfl⟩:=qO Q ht.right T;split at y
      ·rename_i hlen;split at y
       ·rename_i r hr;cases y;unfold fJ at hr;simp only[Option.isSome_none,Bool.false_and,Bs,if_false,Option.getD_none]at hr;split at hr
        ·rename_i hc;cases hr;obtain⟨-,Y,Z,c3,c4⟩:=hc;obtain⟨cc,fz,et,g1,g2,g3,_⟩:=a3 b (by simp) lc _ a6 hg;have hb:=mX (P:=P) (w:=w) (isS:=false) (len:=n) (cap:=n) (l:=G) (r:=pr) (m:=Ja) (by simp) Y Z (by simpa using c4) (by simp);simp only[Gc,Option.getD_none,Int.toNat_natCast]at hb;have V:=VR.sliced (ρ:=ρ) (fl:=true) (fl':=(pr.map As).getD (n:Int)==(n:Int)) (sz:=s) (b:=b) (i:=i) (n:=n) (cap':=n) (l:=((G.map As).getD (0:Int)).toNat) (r:=((pr.map As).getD (n:Int)).toNat) (m:=n) (Ac _) (by unfold maxLen;omega) (fun _=>rfl) (ad:=⟨lc.blk,lc.base+i,Ja⟩) (fun _=>⟨lc,a6,rfl,by omega⟩) (by omega) (by omega) (Ac _) (fun hh=>by simp at hh;omega);rw[show((pr.map As).getD (n:Int)).toNat-((G.map As).getD (0:Int)).toNat=((pr.map As).getD (n:Int)-(G.map As).getD (0:Int)).toNat from by omega]at V;refine NE.val ?_ (by simpa using V);simp only[execOp,ho,U,el,er,Gc,Sem.run_bind,EV hu hs hb,Result.andThen_ok,Sem.run_pure]
         grind
        ·cases hr
       grind
      grind
     grind
    grind
   ·cases B
  ·cases B
 ·cases B
def FB{t:TypeId}{x:Operand}{i:Nat}(I:o.op= .fieldAddr t x i)(y:aY P o=Iz ao)(B:aop a h ao=Iz (v,h',rd))(ht:Ops ρ a act ao.dh):
  NE P ρ h w ((execOp act.eval o).run P w) v h':=by
 simp only[aY,I]at y;split at y
 ·rename_i L J;split at y
  ·rename_i f hf;split at y
   ·rename_i n M hs K;cases y;have E:=aX K ht;simp only[aop]at B;split at B
    ·rename_i b j hb;cases B;rw[hb]at E;obtain⟨l,hl,G⟩:=E.gu;refine NE.val (u:= .pointer (Iz ⟨l.blk,l.base+(j+f.offset),Ja⟩)) ?_ (.ptr _ _ l hl);simp[execOp,I,G,Instr.fieldAt,run_underlying J,hf,Instr.sureAddr,fieldPlace,dC hs,Addr.ij,Cf]
    grind
   ·cases y
  ·cases y
 ·cases y
def HP{t:TypeId}{cs:List AV}{y:List Value}{off n:Nat}{g:Bool}(u:nF P t=Iz g)(hs:eM P t=Iz n)(hv:VRs ρ cs y){r:AV}
  (h:(if g then(if off+n<=cs.length then Iz (AV.agg ((cs.drop off).take n))else Ja)else cs[off]?)=Iz r):∃z,VR ρ r z/\(part t y.toArray off).run P w= .ok z w:=by
 cases g with
 | true=>
  simp only[if_true]at h;split at h
  ·rename_i B;cases h;refine⟨.agg ((y.drop off).take n).toArray,((hv.drop off).take n).pf,?_⟩;simp[part,iO u,dC hs]
  ·cases h
 | false=>simp only[Bs,if_false]at h;obtain⟨z,hz,hr⟩:=hv.getElem h;exact⟨z,hr,by simp[part,iO u,hz]⟩
def YH{t:TypeId}{x:Operand}{i:Nat}(S:o.op= .field t x i)(E:aY P o=Iz ao)(B:aop a h ao=Iz (v,h',rd))(ht:Ops ρ a act ao.dh):
  NE P ρ h w ((execOp act.eval o).run P w) v h':=by
 have fin:∀{J:Array Field} {f:Field} {cs:List AV} {x':AR} {g:Bool} {n:Nat},P.underlying t=Iz (.struct J)->J[i]? =Iz f->nF P f.type=Iz g->eM P f.type=Iz n->VR ρ (.agg cs) (act.eval x)->
   (if g then(if f.offset+n<=cs.length then Iz (AV.agg ((cs.drop f.offset).take n))else Ja)else cs[f.offset]?)=Iz v->h'=h->NE P ρ h w ((execOp act.eval o).run P w) v h':=by
  intro J f cs x' g n K hf hg L hv I e;subst e;obtain⟨Y,T,M⟩:=hv.ji;obtain⟨z,hz,B⟩:=HP (P:=P) (w:=w) hg L M I;exact NE.val (u:=z) (by simp[execOp,S,T,Instr.field,run_underlying K,hf,asAgg,B]) hz
 simp only[aY,S]at E;split at E
 ·rename_i J K;split at E
  ·rename_i f hf;split at E
   ·rename_i n x' hg hs O;cases E;have G:=aX O ht;simp only[aop]at B;split at B
    ·rename_i cs I;split at B
     ·rename_i Q;cases B;rw[I]at G;exact fin (x':=x') K hf hg hs G (by simp[Q]) rfl
     grind
    grind
   ·rename_i x' hg O;cases E;have G:=aX O ht;simp only[aop]at B;split at B
    ·rename_i cs I;split at B
     ·rename_i y U;cases B;rw[I]at G;have R:∃n,eM P f.type=Iz n:=by
       unfold nF Program.underlying at hg;unfold eM
       cases V:P.info? f.type with
       | none=>simp[V]at hg
       | some i=>exact⟨i.size,rfl⟩
      obtain⟨n,L⟩:=R;exact fin (x':=x') K hf hg L G (by simpa using U) rfl
     grind
    grind
   ·cases E
  ·cases E
 ·cases E
def FA{t:TypeId}{x i:Operand}(I:o.op= .indexAddr t x i)(B:aY P o=Iz ao)(y:aop a h ao=Iz (v,h',rd))(ht:Ops ρ a act ao.dh):
  NE P ρ h w ((execOp act.eval o).run P w) v h':=by
 simp only[aY,I]at B;split at B
 ·rename_i e Q R J K L;split at B
  ·rename_i s hs;cases B;simp only[AO.dh]at ht;have h1:=aX K ht.left;have h2:=aX L ht.right;simp only[aop]at y;split at y
   ·rename_i U sz b j n k m M O;rw[M]at h1;rw[O]at h2;split at y
    ·rename_i G;obtain⟨rfl,G⟩:=G;cases y;obtain⟨V,S,E,Y,Z,g3,T⟩:=h1.bt;obtain⟨l,hl,rfl,_⟩:=T (by omega);refine NE.val (u:= .pointer (Iz ⟨l.blk,l.base+(j+m.toNat*sz),Ja⟩)) ?_ (.ptr _ _ l hl);simp[execOp,I,E,h2.bh,Instr.indexAt,asIntOf,run_underlying J,G,dC hs,Addr.ij,Cf]
    grind
   grind
  ·cases B
 ·rename_i len e Q R J K L;split at B
  ·rename_i s hs;cases B;simp only[AO.dh]at ht;have h1:=aX K ht.left;have h2:=aX L ht.right;simp only[aop]at y;split at y
   ·rename_i b j k m M O;rw[M]at h1;rw[O]at h2;split at y
    ·rename_i G;cases y;obtain⟨l,hl,E⟩:=h1.gu;refine NE.val (u:= .pointer (Iz ⟨l.blk,l.base+(j+m.toNat*s),Ja⟩)) ?_ (.ptr _ _ l hl);simp[execOp,I,E,h2.bh,Instr.indexAt,asIntOf,run_underlying J,Instr.sureAddr,G,dC hs,Addr.ij,Cf]
    grind
   grind
  ·cases B
 ·cases B
def YG{t:TypeId}{x i:Operand}(E:o.op= .index t x i)(B:aY P o=Iz ao)(y:aop a h ao=Iz (v,h',rd))(ht:Ops ρ a act ao.dh):
  NE P ρ h w ((execOp act.eval o).run P w) v h':=by
 simp only[aY,E]at B;split at B
 ·rename_i n e T U G I J;split at B
  ·rename_i s g hs hg;cases B;simp only[AO.dh]at ht;have h1:=aX I ht.left;have h2:=aX J ht.right;simp only[aop]at y;split at y
   ·rename_i cs k m K L;rw[K]at h1;rw[L]at h2;split at y
    ·rename_i M;obtain⟨V,O,Q⟩:=h1.ji;have R:(if g then(if m.toNat*s+s<=cs.length then Iz (AV.agg ((cs.drop (m.toNat*s)).take s))else Ja)else cs[m.toNat*s]?)=Iz v/\h'=h:=by
      grind
     obtain⟨R,rfl⟩:=R;obtain⟨z,hz,hr⟩:=HP (P:=P) (w:=w) hg hs Q R;exact NE.val (u:=z) (by simp[execOp,E,O,h2.bh,Instr.index,asIntOf,run_underlying G,M,dC hs,hr]) hz
    grind
   grind
  ·cases B
 ·rename_i T U G I J;cases B;simp only[AO.dh]at ht;have h1:=aX I ht.left;have h2:=aX J ht.right;simp only[aop]at y;split at y
  ·rename_i s k m K L;rw[K]at h1;rw[L]at h2;split at y
   ·rename_i M;split at y
    ·rename_i c S;cases y;exact NE.val (u:= .int .u8 c.toNat) (by simp[execOp,E,h1.cv,h2.bh,Instr.index,asIntOf,run_underlying G,M,S]) (.int _ _)
    grind
   grind
  grind
 ·cases B
def nC{t:TypeId}{kd:Nat}(u:pD P t=Iz kd):∃d,P.underlying t=Iz d/\((kd=0/\∃q,d= .int q)\/(kd=1/\d= .bool)\/(kd=2/\d= .string)):=by
 unfold pD at u
 grind
def eT{b:Bool}{k:TypeId}{kd:Nat}{u:Value}(y:pD P k=Iz kd):(Instr.checkKey b 10000 k u).run P w= .ok () w:=by obtain⟨d,B,hd⟩:=nC y;show(Instr.checkKey b (9999+1) k u).run P w=_;unfold Instr.checkKey;rcases hd with⟨_,q,rfl⟩ | ⟨_,rfl⟩ | ⟨_,rfl⟩<;>simp[run_underlying B]
def mV{kd:Nat}{d:TypeDesc}{x y:AV}{b:Bool}{u B:Value}(hd:(kd=0/\∃q,d= .int q)\/(kd=1/\d= .bool)\/(kd=2/\d= .string))(h:vH kd x y=Iz b)(E:VR ρ x u)(G:VR ρ y B):
  Instr.sameNow d u B=Iz b/\(b=Jb->Instr.sameBits 10000 B u=Jb):=by
 unfold vH at h;split at h<;>first | (cases h;done) | skip
 ·rename_i k m L n;split at h
  ·rename_i K;subst K;cases h;rcases hd with⟨_,q,rfl⟩ | ⟨hh,_⟩ | ⟨hh,_⟩
   ·rw[E.bh,G.bh];refine⟨by simp[Instr.sameNow],fun hb=>?_⟩;simp at hb;subst hb;simp[Instr.sameBits]
   all_goals grind
  ·cases h
 ·rename_i m n;cases h;rcases hd with⟨hh,_⟩ | ⟨_,rfl⟩ | ⟨hh,_⟩
  ·cases hh
  ·rw[E.cm,G.cm];refine⟨by simp[Instr.sameNow],fun hb=>?_⟩;simp at hb;subst hb;simp[Instr.sameBits]
  ·cases hh
 ·rename_i m n;cases h;rcases hd with⟨hh,_⟩ | ⟨hh,_⟩ | ⟨_,rfl⟩
  ·cases hh
  ·cases hh
  ·rw[E.cv,G.cv];refine⟨by simp[Instr.sameNow],fun hb=>?_⟩
   cases m with
   | mk I=>
    cases n with
    | mk J=>
     have e:I=J:=eq_of_beq (show(I==J)=Jb from hb)
     grind [Instr.sameBits]
def ND{kd:Nat}{d:TypeDesc}(hd:(kd=0/\∃q,d= .int q)\/(kd=1/\d= .bool)\/(kd=2/\d= .string)){k:AV}{u:Value}(J:VR ρ k u):
  ∀{E:List (AV×AV)} {B:List MapEntry} {r:Option AV} (i:Nat),iW kd k E=Iz r->VRs ρ (E.map (·.1)) (B.map (·.key))->VRs ρ (E.map (·.2)) (B.map (·.val))->
   (r=Ja/\Instr.findNow d u B i=Iz Ja)\/(∃y z j,r=Iz y/\Instr.findNow d u B i=Iz (Iz (i+j,z))/\VR ρ y z/\∃e,B[j]? =Iz e/\Instr.sameBits 10000 e.key u=Jb):=by
 intro E
 induction E with
 | nil=>
  intro B r i hf h1 h2;have:B=[]:=by have:=h1.1;simpa using this
  subst this;cases hf;exact .inl ⟨rfl,rfl⟩
 | cons p E M=>
  intro B r i hf h1 h2;obtain⟨V,y⟩:=p
  cases B with
  | nil=>have:=h1.1;simp at this
  | cons e B=>
   simp only[Ai]at h1 h2;simp only[iW]at hf;split at hf
   ·rename_i G;cases hf;obtain⟨I,O⟩:=mV hd G J h1.head;exact .inr ⟨y,e.val,0,rfl,by simp[Instr.findNow,I],h2.head,e,rfl,O rfl⟩
   ·rename_i G;obtain⟨I,_⟩:=mV hd G J h1.head;rcases M (i+1) hf h1.tail h2.tail with⟨K,L⟩ | ⟨Q,z,j,K,L,R,S,T,U⟩
    ·grind [Instr.findNow]
    ·exact .inr ⟨Q,z,j+1,K,by simp only[Instr.findNow,I,L];congr 3;omega,R,S,by simpa using T,U⟩
   ·cases hf
def CL{t:TypeId}{z:AV}(hs:O5 P t=Iz z):∃u,(∀w,(zeroValue t).run P w= .ok u w)/\gG u=Iz z:=by
 unfold O5 at hs
 cases y:P.info? t with
 | none=>simp[y]at hs
 | some i=>
  cases hz:i.zero with
  | none=>simp[y,hz]at hs
  | some u=>exact⟨u,fun w=>by simp[zeroValue,jP y,hz],by simpa [y,hz]using hs⟩
def VR.pair{x y:AV}{u B:Value}(E:VR ρ x u)(G:VR ρ y B):VR ρ (.tuple [x,y]) (.tuple #[u,B]):=(VRs.cons E (VRs.cons G (VRs.nil ρ))).kj
def BM{x:Operand}{T t:TypeId}{U:Bool}(K:o.op= .typeAssert x T t U)(B:aY P o=Iz ao)(y:aop a h ao=Iz (v,h',rd))(ht:Ops ρ a act ao.dh):
  NE P ρ h w ((execOp act.eval o).run P w) v h':=by
 simp only[aY,K]at B;split at B
 ·cases B
 ·rename_i d z Z E M hz V;cases B;simp only[AO.dh]at ht;have h1:=aX V ht;obtain⟨O,I,Q⟩:=CL hz;have J:VR ρ z O:=(gV Q).1;have E:∀m,d≠ .interface m:=fun m e=>by subst e;exact E m rfl
  simp only[aop]at y;split at y
  ·rename_i hm;cases y;rw[hm]at h1;have G:act.eval x= .nilIface:=by generalize act.eval x=u at h1;cases h1;rfl
   refine NE.val (u:= .tuple #[O,.bool Jc]) ?_ (VR.pair J (.bool _));cases d<;>first | exact absurd rfl (E _) | simp[execOp,K,G,Instr.typeAssert,run_underlying M,I]
  ·rename_i S Y hm;cases y;rw[hm]at h1;obtain⟨L,G,R⟩:∃L,act.eval x= .iface S L/\VR ρ Y L:=by generalize act.eval x=u at h1;cases h1;exact⟨_,rfl,by assumption⟩
   by_cases e:S=t
   ·rw[if_pos e];refine NE.val (u:= .tuple #[L,.bool Jb]) ?_ (VR.pair R (.bool _));cases d<;>first | exact absurd rfl (E _) | simp[execOp,K,G,Instr.typeAssert,run_underlying M,e]
   ·rw[if_neg e];refine NE.val (u:= .tuple #[O,.bool Jc]) ?_ (VR.pair J (.bool _));cases d<;>first | exact absurd rfl (E _) | simp[execOp,K,G,Instr.typeAssert,run_underlying M,e,I]
  grind
 ·cases B
def T0{t:TypeId}{x i:Operand}{R:Bool}(M:o.op= .lookup t x i R)(G:aY P o=Iz ao)(E:aop a h ao=Iz (v,h',rd))(ht:Ops ρ a act ao.dh)(T:K7 P ρ h w rd):
  NE P ρ h w ((execOp act.eval o).run P w) v h':=by
 simp only[aY,M]at G;split at G
 ·rename_i k e x' i' S hx hi;split at G
  ·rename_i z kd hz O;cases G;simp only[AO.dh]at ht;have h1:=aX hx ht.left;have h2:=aX hi ht.right;obtain⟨U,I,V⟩:=CL hz;have J:VR ρ z U:=(gV V).1;obtain⟨d,hd,Y⟩:=nC O;simp only[aop]at E;split at E
   ·rename_i hm;cases E;rw[hm]at h1;have B:act.eval x= .map Ja:=by generalize act.eval x=u at h1;cases h1;rfl
    cases R with
    | true=>refine NE.val (u:= .tuple #[U,.bool Jc]) ?_ (VR.pair J (.bool _));simp[execOp,M,B,Instr.lookup,run_underlying S,eT O,Instr.findKey,run_underlying hd,Instr.findNow,I]
    | false=>refine NE.val (u:=U) ?_ J;simp[execOp,M,B,Instr.lookup,run_underlying S,eT O,Instr.findKey,run_underlying hd,Instr.findNow,I]
   ·rename_i r hm;rw[hm]at h1;obtain⟨l,hl,B⟩:=h1.mq;split at E
    ·rename_i ver es hg;have fin:∀{Q:Option AV},iW kd (ev a i') es=Iz Q->rd=[r]->h'=h->(v=match Q with | some y=>if R then .tuple [y,.bool Jb]else y | none=>if R then .tuple [z,.bool Jc]else z)->
       NE P ρ h w ((execOp act.eval o).run P w) v h':=by
      intro Q hf hr e K;subst hr;subst e;obtain⟨en,ck,g1,g2,g3⟩:=T r (by simp) l _ hl hg;have L:(getObj l.blk).run P w= .ok (.map en ck) w:=by simp[getObj,Sem.run,g1]
      rcases ND Y h2 0 hf g2 g3 with⟨rfl,q⟩ | ⟨y,Z,j,rfl,q,q2,_⟩
      ·simp only at K;subst K
       cases R with
       | true=>refine NE.val (u:= .tuple #[U,.bool Jc]) ?_ (VR.pair J (.bool _));simp[execOp,M,B,Instr.lookup,run_underlying S,L,eT O,Instr.findKey,run_underlying hd,q,I]
       | false=>refine NE.val (u:=U) ?_ J;simp[execOp,M,B,Instr.lookup,run_underlying S,L,eT O,Instr.findKey,run_underlying hd,q,I]
      ·simp only at K;subst K
       cases R with
       | true=>refine NE.val (u:= .tuple #[Z,.bool Jb]) ?_ (VR.pair q2 (.bool _));simp[execOp,M,B,Instr.lookup,run_underlying S,L,eT O,Instr.findKey,run_underlying hd,q]
       | false=>refine NE.val (u:=Z) ?_ q2;simp[execOp,M,B,Instr.lookup,run_underlying S,L,eT O,Instr.findKey,run_underlying hd,q]
     grind
    grind
   grind
  ·cases G
 ·cases G
def MW{x:Operand}{i:Nat}(L:o.op= .extract x i)(E:aY P o=Iz ao)(B:aop a h ao=Iz (v,h',rd))(ht:Ops ρ a act ao.dh):
  NE P ρ h w ((execOp act.eval o).run P w) v h':=by
 simp only[aY,L,Bt]at E;obtain⟨Q,M,rfl⟩:=E;have G:=aX M ht;simp only[aop]at B;split at B
 ·rename_i R I;split at B
  ·rename_i y O;cases B;rw[I]at G;obtain⟨S,J,K⟩:=G.lu;obtain⟨z,hz,hr⟩:=K.getElem O;exact NE.val (u:=z) (by simp[execOp,L,J,Instr.extract,hz]) hr
  grind
 ·cases B
end
section
variable {P:Program} {ρ:Emb} {w:World} {a:List AV} {act:Act} {h h':H} {o:Oper} {ao:AO} {v:AV} {rd:List Nat}
def zO{f:Value->Value->Sem Value}{g:AV->AV->Option AV}(J:∀{x y r:AV} {u G:Value},g x y=Iz r->VR ρ x u->VR ρ y G->∃z,VR ρ r z/\(f u G).run P w= .ok z w):
  ∀{B:List AV} {E:List Value} {x r:AV} {u:Value},kY g x B=Iz r->VR ρ x u->VRs ρ B E->∃z,VR ρ r z/\(E.foldlM f u).run P w= .ok z w:=by
 intro B
 induction B with
 | nil=>intro E x r u hf I hs;simp[kY]at hf;subst hf;rw[hs.ct];exact⟨u,I,rfl⟩
 | cons y L M=>
  intro E x r u hf I hs;obtain⟨G,K,rfl,h1,h2⟩:=hs.cons_inv;simp only[kY]at hf
  grind [Sem.run_bind,Result.andThen_ok]
def aCr{x y r:AV}{u B:Value}(h:AP x y=Iz r)(E:VR ρ x u)(G:VR ρ y B):∃z,VR ρ r z/\(Builtin.max2 u B).run P w= .ok z w:=by
 unfold AP at h;split at h
 ·cases h;rw[E.bh,G.bh];exact⟨_,.int _ _,by simp[Builtin.max2]⟩
 ·cases h
def aCq{x y r:AV}{u B:Value}(h:AN x y=Iz r)(E:VR ρ x u)(G:VR ρ y B):∃z,VR ρ r z/\(Builtin.min2 u B).run P w= .ok z w:=by
 unfold AN at h;split at h
 ·cases h;rw[E.bh,G.bh];exact⟨_,.int _ _,by simp[Builtin.min2]⟩
 ·cases h
def MY{c:Call}{b:Builtin}(ho:o.op= .call c)(hc:c.callee= .builtin b)(y:aY P o=Iz ao)(O:ao.effect=Jc)(B:aop a h ao=Iz (v,h',rd))(ht:Ops ρ a act ao.dh)(U:K7 P ρ h w rd):
  NE P ρ h w ((execOp act.eval o).run P w) v h':=by
 have J:∀(u:Value),((builtin b c.argTypes o.type (c.args.map fun | .const _=>Jb | _=>Jc) (c.args.map act.eval)).run P w= .ok (.value u) w)->(execOp act.eval o).run P w= .ok (.value u) w:=by intro u M;simp only[execOp,ho,resolve,hc,Sem.run_bind,Sem.run_pure,Result.andThen_ok,invoke];exact M
 simp only[aY,ho,hc]at y;unfold gW at y;split at y
 ·--append
  split at y
  ·split at y
   ·split at y
    ·cases y;simp[AO.effect]at O
    ·cases y
   ·cases y
  ·split at y
   ·split at y
    ·cases y;simp[AO.effect]at O
    ·cases y
   ·cases y
  ·split at y
   ·split at y
    ·cases y;simp[AO.effect]at O
    ·cases y
   ·cases y
  ·cases y
 ·--len
  rename_i t ts x R G;have K:c.argTypes[0]? =Iz t:=by rw[<-Bu,R];rfl
  have L:c.args[0]? =Iz x:=by rw[<-Bu,G];rfl
  have hl:∀{u:Value},(Builtin.len_ c.argTypes o.type (c.args.map act.eval)).run P w= .ok u w->(execOp act.eval o).run P w= .ok (.value u) w:=fun hh=>J _ (by simp[builtin,hh]);split at y
  ·rename_i e V M Q;cases y;have E:=aX Q ht;simp only[aop]at B;split at B
   ·rename_i hm;cases B;rw[hm]at E;have I:act.eval x= .slice Ja 0 0:=by generalize act.eval x=u at E;cases E;rfl
    exact NE.val (hl (by simp[Builtin.len_,K,L,I,run_underlying M];rfl)) (.int _ _)
   ·rename_i fl sz b i n hm;cases B;rw[hm]at E;obtain⟨ad,Y,I,_⟩:=E.bt;exact NE.val (hl (by simp[Builtin.len_,K,L,I,run_underlying M];rfl)) (.int _ _)
   grind
  ·rename_i V M Q;cases y;have E:=aX Q ht;simp only[aop]at B;split at B
   ·rename_i s hm;cases B;rw[hm]at E;exact NE.val (hl (by simp[Builtin.len_,K,L,E.cv,run_underlying M];rfl)) (.int _ _)
   grind
  ·rename_i k e V M Q;cases y;have E:=aX Q ht;simp only[aop]at B;split at B
   ·rename_i hm;cases B;rw[hm]at E;have I:act.eval x= .map Ja:=by generalize act.eval x=u at E;cases E;rfl
    exact NE.val (hl (by simp[Builtin.len_,K,L,I,run_underlying M];rfl)) (.int _ _)
   ·rename_i r hm;rw[hm]at E;obtain⟨l,Z,I⟩:=E.mq;split at B
    ·rename_i ver es hg;cases B;obtain⟨en,ck,g1,g2,g3⟩:=U r (by simp) l _ Z hg;have a0:(getObj l.blk).run P w= .ok (.map en ck) w:=by simp[getObj,Sem.run,g1]
     have hlen:en.size=es.length:=by have:=g2.1;simpa using this
     exact NE.val (hl (by simp[Builtin.len_,K,L,I,run_underlying M,a0,hlen];rfl)) (.int _ _)
    grind
   grind
  ·rename_i n e M;cases y;simp only[aop,Option.some.injEq,Prod.mk.injEq]at B;obtain⟨rfl,rfl,rfl⟩:=B;exact NE.val (hl (by simp[Builtin.len_,K,L,run_underlying M];rfl)) (.int _ _)
  ·cases y
 ·--Y
  rename_i t ts x R G;have K:c.argTypes[0]? =Iz t:=by rw[<-Bu,R];rfl
  have L:c.args[0]? =Iz x:=by rw[<-Bu,G];rfl
  have hl:∀{u:Value},(Builtin.cap_ c.argTypes o.type (c.args.map act.eval)).run P w= .ok u w->(execOp act.eval o).run P w= .ok (.value u) w:=fun hh=>J _ (by simp[builtin,hh]);split at y
  ·rename_i e V M Q;cases y;have E:=aX Q ht;simp only[aop]at B;split at B
   ·rename_i hm;cases B;rw[hm]at E;have I:act.eval x= .slice Ja 0 0:=by generalize act.eval x=u at E;cases E;rfl
    exact NE.val (hl (by simp[Builtin.cap_,K,L,I,run_underlying M];rfl)) (.int _ _)
   ·rename_i sz b i n hm;cases B;rw[hm]at E;obtain⟨ad,Y,I,_,_,a1,_⟩:=E.bt;have:=a1 rfl;subst this;exact NE.val (hl (by simp[Builtin.cap_,K,L,I,run_underlying M];rfl)) (.int _ _)
   grind
  ·cases y
 ·--a3
  repeat' split at y
  all_goals (first | (cases y;done) | (cases y;simp[AO.effect]at O))
 ·--clear
  repeat' split at y
  all_goals (first | (cases y;done) | (cases y;simp[AO.effect]at O))
 ·--max
  rename_i x xs G;split at y
  ·rename_i V a2 Q S;cases y;simp only[AO.dh]at ht;have h1:=aX Q ht.left;have h2:=mP S ht.right;simp only[aop]at B;split at B
   ·rename_i r hr;cases B;obtain⟨z,hz,T⟩:=zO (P:=P) (w:=w) (f:=Builtin.max2) (fun hh p q=>aCr hh p q) hr h1 h2;refine NE.val (J z ?_) hz;have e:(c.args.map act.eval).toList=act.eval x::xs.map act.eval:=by simp[G]
    simp only[builtin,Builtin.max_,e,Sem.run_bind,T,Result.andThen_ok,Sem.run_pure]
   grind
  ·cases y
 ·--min
  rename_i x xs G;split at y
  ·rename_i V a2 Q S;cases y;simp only[AO.dh]at ht;have h1:=aX Q ht.left;have h2:=mP S ht.right;simp only[aop]at B;split at B
   ·rename_i r hr;cases B;obtain⟨z,hz,T⟩:=zO (P:=P) (w:=w) (f:=Builtin.min2) (fun hh p q=>aCq hh p q) hr h1 h2;refine NE.val (J z ?_) hz;have e:(c.args.map act.eval).toList=act.eval x::xs.map act.eval:=by simp[G]
    simp only[builtin,Builtin.min_,e,Sem.run_bind,T,Result.andThen_ok,Sem.run_pure]
   grind
  ·cases y
 ·cases y
def aEG(u:aY P o=Iz ao)(I:ao.effect=Jc)(B:aop a h ao=Iz (v,h',rd))(ht:Ops ρ a act ao.dh)(G:K7 P ρ h w rd):
  NE P ρ h w ((execOp act.eval o).run P w) v h':=by
 cases E:o.op with
 | move x=>exact QE (.inl E) u B ht
 | assign x=>exact QE (.inr E) u B ht
 | pick c x y=>exact aCj E u B ht
 | alloc e=>exact YK E u B
 | box e x=>exact aEI E u B ht
 | build t K=>exact YI E u B ht
 | buildSlice t len K=>exact BN E u B ht
 | load t x=>exact aCk E u B ht G
 | nilCheck x=>exact IR E u B ht
 | binOp op t x y M=>exact YJ E u B ht
 | unOp op t x=>exact aCi E u B ht
 | convert s d x=>exact MX E u I B ht G
 | makeInterface t x=>exact tP E u B ht
 | makeFunc fn f c=>exact IV E u B ht
 | makeMap t r=>exact MV E u B
 | makeSlice t n c=>exact E9 E u B ht
 | slice t x O Q R=>exact YF E u B ht G
 | fieldAddr t x i=>exact FB E u B ht
 | field t x i=>exact YH E u B ht
 | indexAddr t x i=>exact FA E u B ht
 | index t x i=>exact YG E u B ht
 | lookup t x i L=>exact T0 E u B ht G
 | extract x i=>exact MW E u B ht
 | typeAssert x S t L=>exact BM E u B ht
 | panic x=>simp only[aY,E]at u;cases u;simp[aop,ev]at B
 | call c=>
  cases J:c.callee with
  | builtin b=>exact MY E J u I B ht G
  | value f=>
   simp only[aY,E,J]at u;split at u
   ·cases u;simp[AO.effect]at I
   ·cases u
  | invoke r m=>
   simp only[aY,E,J]at u;split at u
   ·cases u;simp[AO.effect]at I
   ·cases u
 | store t p x=>
  simp only[aY,E]at u;split at u
  ·cases u;simp[AO.effect]at I
  ·cases u
 | mapUpdate t m k x=>
  simp only[aY,E]at u;split at u
  ·split at u
   ·cases u;simp[AO.effect]at I
   ·cases u
  ·cases u
 | insert t m k x=>
  simp only[aY,E]at u;split at u
  ·split at u
   ·cases u;simp[AO.effect]at I
   ·cases u
  ·cases u
 | _=>simp[aY,E]at u
def aDQ(B:xL P o=Iz ao)(E:ao.effect=Jc)(u:aop a h ao=Iz (v,h',rd))(ht:Ops ρ a act ao.dh)(y:K7 P ρ h w rd):
  NE P ρ h w ((execOp act.eval o).run P w) v h':=by
 rcases mQ _ B with h0 | ⟨rfl,_⟩
 ·exact aEG h0 E u ht y
 ·simp[AO.stuck,aop,ev]at u
end
section
variable {P:Program} {ρ:Emb} {w:World} {a:List AV} {act:Act} {h h':H} {o:Oper} {ao:AO} {v:AV} {rd:List Nat}
def HR.heap{w':World}(hr:HR P ρ h w)(hh:w'.heap=w.heap):HR P ρ h w':=
 ⟨hr.gat.il fun b l _ _=>by rw[hh],hr.ma,fun x l u=>by rw[hh];exact hr.fb x l u,fun x l o u hg=>(hr.obj x l o u hg).mono (Sub.refl ρ) (by rw[hh]),hr.inj⟩
def Stp.heap{w':World}(hh:w'.heap=w.heap)(h1:w'.os=w.os)(h2:w'.tape=w.tape)(h3:w'.output=w.output):Stp ρ h w ρ h w':=
 ⟨Sub.refl ρ,fun _ _ h=> .inl h,fun _ _ h=> .inl h,by rw[hh];exact Ac _,h1,h2,h3,fun _ _ _=>by rw[hh]⟩
def HR.kill{b:Nat}{M:bz}(hr:HR P ρ h w)(hg:h.get b=Iz M):HR P ρ (h.set b .dead) w/\Stp ρ h w ρ (h.set b .dead) w:=by
 refine⟨⟨hr.gat,fun c O Q x l o E u G=>?_,hr.fb,fun x l o E u=>?_,fun x y lx ly ox oy E R u B I J K=>?_⟩,⟨Sub.refl ρ,fun _ _ h=> .inl h,fun _ _ h=> .inl h,Ac _,rfl,rfl,rfl,fun _ _ _=>rfl⟩⟩
 ·by_cases e:x=b
  ·subst e;rw[H.get_set_same hg]at u;cases u;simp[bz.bw]at G
  ·rw[H.bf e]at u;exact hr.ma c O Q x l o E u G
 ·by_cases e:x=b
  ·subst e;rw[H.get_set_same hg]at u;cases u;trivial
  ·rw[H.bf e]at u;exact hr.obj x l o E u
 ·by_cases ex:x=b
  ·subst ex;rw[H.get_set_same hg]at u;cases u;simp[bz.bw]at I
  ·rw[H.bf ex]at u;by_cases L:y=b
   ·subst L;rw[H.get_set_same hg]at B;cases B;simp[bz.cg]at J
   ·rw[H.bf L]at B;exact hr.inj x y lx ly ox oy E R u B I J K
def EF(P:Program)(ρ:Emb)(h:H)(w:World)(r:Result Next)(v:AV)(h':H):Prop:=
 ∃u w' y,(r= .ok (.value u) w'\/(r= .ok .skip w'/\u=undef))/\VR y v u/\HR P y h' w'/\Stp ρ h w y h' w'
def VR.undef:VR ρ (.tuple []) Go.undef:=(VRs.nil ρ).kj
def xV{b i:Nat}{new:List AV}{E:List Value}{l:Loc}(hr:HR P ρ h w)(hl:ρ b=Iz l)(G:eH h b i new=Iz h')(J:VRs ρ new E)(K:∀x∈E,x.oneCell'=Jb):
  ∃w',(storeCells ⟨l.blk,l.base+i,Ja⟩ E).run P w= .ok () w'/\HR P ρ h' w'/\Stp ρ h w ρ h' w':=by
 unfold eH at G;split at G
 ·rename_i ver cs hg;split at G
  ·rename_i O;simp only[Aq,decide_eq_true_eq]at O;cases G;have L:=hr.obj b l _ hl hg;obtain⟨I,fz,e,h1,h2,S,T,h6⟩:=L;have:=T rfl;subst this;have hlen:=J.1;have Q:=run_storeCells_at P l.blk (l.base+i) e E 0 I w h1 (by omega) K;refine⟨_,Q,?_⟩;have M:(I.toList.take (l.base+i+0)++E++I.toList.drop (l.base+i+0+E.length)).length=I.size:=by simp;omega
   refine HR.turn hr hl hg rfl (by simp) rfl rfl rfl (fun k U=>setRow_other w _ _ _ U) ?_;refine⟨_,(0,0),e,setRow_heap w l.blk I _ e (0,0) h1,by rw[Ey,M];exact h2,by rw[Ey,M,vG _ _ _ O.1];exact S,fun _=>rfl,fun j y B=>?_⟩;rw[E1 _ _ _ O.1]at B;simp only[Dk,List.getElem?_toArray];rw[Fz]at B ⊢;rw[Fz]at B ⊢;simp only[Aj,List.length_take,Gb]at B ⊢;have V:min i cs.length=i:=by omega
   have Y:min (l.base+i) I.size=l.base+i:=by omega
   rw[V]at B;rw[Y];by_cases Z:j<i
   ·grind
   ·by_cases R:j<i+new.length
    ·rw[if_pos R,if_neg Z]at B;rw[if_pos (by omega),if_neg (by omega)];obtain⟨u,hu,hv⟩:=J.getElem B;exact⟨u,by rw[<-hu];congr 1;omega,hv⟩
    ·rw[if_neg R,Bf]at B
     grind
  ·cases G
 ·cases G
def UJ{t:TypeId}{p x:Operand}(Q:o.op= .store t p x)(B:aY P o=Iz ao)(u:aop a h ao=Iz (v,h',rd))(ht:Ops ρ a act ao.dh)(hr:HR P ρ h w):
  EF P ρ h w ((execOp act.eval o).run P w) v h':=by
 simp only[aY,Q]at B;split at B
 ·rename_i n V R hs S T;cases B;simp only[AO.dh]at ht;have h1:=aX S ht.left;have h2:=aX T ht.right;simp only[aop]at u;split at u
  ·rename_i b i hb;rw[hb]at h1;obtain⟨l,hl,J⟩:=h1.gu;split at u
   ·rename_i Y;split at u
    ·rename_i U E;cases u;have I:(ev a R).cells.all AV.one=Jb:=by
      unfold eH at E
      grind
     obtain⟨y,G⟩:=h2.cells I;obtain⟨w',K,L,M⟩:=xV hr hl E y G;refine⟨undef,w',ρ,.inr ⟨?_,rfl⟩,VR.undef,L,M⟩;have O:(act.eval x).cells.size=n:=by have:=y.1;simp at this;omega
     simp[execOp,Q,Instr.storeAt,J,Instr.sureAddr,storeVar,dC hs,O,K]
    grind
   grind
  grind
 ·cases B
def T4{kd:Nat}{d:TypeDesc}(hd:(kd=0/\∃q,d= .int q)\/(kd=1/\d= .bool)\/(kd=2/\d= .string)){k y:AV}{u z:Value}(I:VR ρ k u)(hz:VR ρ y z):
  ∀{E:List (AV×AV)} {B:List MapEntry} {r:Option AV} (i:Nat),iW kd k E=Iz r->VRs ρ (E.map (·.1)) (B.map (·.key))->VRs ρ (E.map (·.2)) (B.map (·.val))->
   (Instr.findNow d u B i=Iz Ja/\∀born,VRs ρ ((fS kd k y E).map (·.1)) ((B++[({key:=u,val:=z,born:=born} :MapEntry)]).map (·.key))/\VRs ρ ((fS kd k y E).map (·.2)) ((B++[({key:=u,val:=z,born:=born} :MapEntry)]).map (·.val)))\/
   (∃j K,Instr.findNow d u B i=Iz (Iz (i+j,K))/\(∃e,B[j]? =Iz e/\Instr.sameBits 10000 e.key u=Jb)/\
    VRs ρ ((fS kd k y E).map (·.1)) ((B.modify j fun(e:MapEntry)=>{e with key:=u,val:=z}).map (·.key))/\VRs ρ ((fS kd k y E).map (·.2)) ((B.modify j fun(e:MapEntry)=>{e with key:=u,val:=z}).map (·.val))):=by
 intro E
 induction E with
 | nil=>
  intro B r i hf h1 h2;have:B=[]:=by have:=h1.1;simpa using this
  subst this;exact .inl ⟨rfl,fun born=>⟨.cons I (VRs.nil ρ),.cons hz (VRs.nil ρ)⟩⟩
 | cons p E O=>
  intro B r i hf h1 h2;obtain⟨Y,Z⟩:=p
  cases B with
  | nil=>have:=h1.1;simp at this
  | cons e B=>
   simp only[Ai]at h1 h2;simp only[iW]at hf;split at hf
   ·rename_i G;cases hf;obtain⟨J,Q⟩:=mV hd G I h1.head;refine .inr ⟨0,e.val,by simp[Instr.findNow,J],⟨e,rfl,Q rfl⟩,?_,?_⟩
    ·simp only[fS,G,Ai,List.modify_zero_cons];exact .cons I h1.tail
    ·simp only[fS,G,Ai,List.modify_zero_cons];exact .cons hz h2.tail
   ·rename_i G;obtain⟨J,_⟩:=mV hd G I h1.head;rcases O (i+1) hf h1.tail h2.tail with⟨L,M⟩ | ⟨j,K,L,⟨R,S,T⟩,U,V⟩
    ·refine .inl ⟨by simp[Instr.findNow,J,L],fun born=>?_⟩;simp only[fS,G,Ai,List.cons_append];exact⟨.cons h1.head (M born).1,.cons h2.head (M born).2⟩
    ·refine .inr ⟨j+1,K,by simp only[Instr.findNow,J,L];congr 3;omega,⟨R,by simpa using S,T⟩,?_,?_⟩
     ·simp only[fS,G,Ai,List.modify_succ_cons];exact .cons h1.head U
     ·simp only[fS,G,Ai,List.modify_succ_cons];exact .cons h2.head V
   ·cases hf
def BR{t:TypeId}{m k x:Operand}(G:o.op= .mapUpdate t m k x\/o.op= .insert t m k x)(M:aY P o=Iz ao)(u:aop a h ao=Iz (v,h',rd))(ht:Ops ρ a act ao.dh)(hr:HR P ρ h w):
  EF P ρ h w ((execOp act.eval o).run P w) v h':=by
 have J:(execOp act.eval o).run P w=((Instr.mapUpdate t (act.eval m) (act.eval k) (act.eval x)).run P w).andThen fun _ w'=> .ok .skip w':=by rcases G with G | G<;>simp[execOp,G]
 have y:(match P.underlying t,trR m,trR k,trR x with
  | some (.map kt _),Iz m,Iz k,Iz v=>match pD P kt with
   | some kd=>Iz (AO.mapUpdate kd m k v)
   | none=>Ja
  | _,_,_,_=>Ja)=Iz ao:=by rcases G with G | G<;>(simp only[aY,G]at M;exact M)
 split at y
 ·rename_i kt et m' R S hu hm hk hx;split at y
  ·rename_i kd K;cases y;simp only[AO.dh]at ht;have h1:=aX hm ht.left.left;have h2:=aX hk ht.left.right;have h3:=aX hx ht.right;obtain⟨d,hd,Y⟩:=nC K;simp only[aop]at u;split at u
   ·rename_i r Z;rw[Z]at h1;obtain⟨l,hl,O⟩:=h1.mq;split at u
    ·rename_i ver T hg;split at u
     ·rename_i hf;cases u;obtain⟨a1,hf⟩:=Option.isSome_iff_exists.1 hf;obtain⟨U,ck,g1,g2,g3⟩:=hr.obj r l _ hl hg;have Q:(getObj l.blk).run P w= .ok (.map U ck) w:=by simp[getObj,Sem.run,g1]
      have I:∀ob:Obj,(setObj l.blk ob).run P w= .ok () (w.putObj l.blk ob):=fun ob=>by simp[setObj,Sem.run,g1,World.putObj]
      have hlt:l.blk<w.heap.size:=(Array.getElem?_eq_some_iff.1 g1).1;have fin:∀(B:Array MapEntry) (E:Nat),(Instr.mapUpdate t (act.eval m) (act.eval k) (act.eval x)).run P w= .ok () (w.putObj l.blk (.map B E))->
        VRs ρ ((fS kd (ev a R) (ev a S) T).map (·.1)) (B.toList.map (·.key))->VRs ρ ((fS kd (ev a R) (ev a S) T).map (·.2)) (B.toList.map (·.val))->
        EF P ρ h w ((execOp act.eval o).run P w) (.tuple []) (h.set r (.map (ver+1) (fS kd (ev a R) (ev a S) T))):=by
       intro B E L q1 V;obtain⟨t1,t2⟩:=HR.turn (o':= .map (ver+1) (fS kd (ev a R) (ev a S) T)) (w':=w.putObj l.blk (.map B E)) hr hl hg rfl (by simp) rfl rfl rfl (fun b hb=>World.putObj_heap_other hb) ⟨B,E,World.putObj_heap_same hlt,q1,V⟩;exact⟨undef,_,ρ,.inr ⟨by rw[J,L];rfl,rfl⟩,VR.undef,t1,t2⟩
      rcases T4 Y h2 h3 0 hf g2 g3 with⟨q,V⟩ | ⟨j,z',q,⟨e',q3,q4⟩,q5,q6⟩
      ·refine fin (U.push {key:=act.eval k,val:=act.eval x,born:=ck}) (ck+1) ?_ (by have:=(V ck).1;simpa using this) (by have:=(V ck).2;simpa using this);simp[Instr.mapUpdate,run_underlying hu,O,Q,eT K,Instr.findKey,run_underlying hd,q,I]
      ·refine fin (U.modify j fun(e:MapEntry)=>{e with key:=act.eval k,val:=act.eval x}) ck ?_ (by simpa [Array.toList_modify]using q5) (by simpa [Array.toList_modify]using q6);have a0:U[j]? =Iz e':=by rw[<-Bu];exact q3
       rw[Aw]at q;simp[Instr.mapUpdate,run_underlying hu,O,Q,eT K,Instr.findKey,run_underlying hd,q,I,a0,Instr.keyThatStays,q4]
     grind
    grind
   grind
  grind
 ·cases y
def dZ{size n:Nat}{ad:Addr}{len cap:Nat}{us:List Value}{w':World}(y:us.length=n*size)(B:∀j u,us[j]? =Iz u->w'.cell? (ad.add j)=Iz u):
  (Builtin.firstCells size n (.slice (Iz ad) len cap)).run P w'= .ok us.toArray w':=run_firstCells_some w' size n ad len cap us y B
def aEb{size n:Nat}{x:AR}{new:List AV}{u:Value}(hs:kU a h size x=Iz (new,n))(E:VR ρ (ev a x) u)(hr:HR P ρ h w):
  ∃G,VRs ρ new G/\(∀w',w'.heap=w.heap->(Builtin.lenOf u).run P w'= .ok n w'/\(Builtin.firstCells size n u).run P w'= .ok G.toArray w'):=by
 unfold kU at hs;split at hs
 ·rename_i he;cases hs;rw[he]at E;have M:u= .slice Ja 0 0:=by cases E;rfl
  subst M;exact⟨[],VRs.nil ρ,fun w' _=>⟨by simp[Builtin.lenOf],by simp[Builtin.firstCells]⟩⟩
 ·rename_i Z sz b i m he;split at hs
  ·rename_i O;subst O;split at hs
   ·rename_i cs Q;cases hs;rw[he]at E;obtain⟨T,I,rfl,g1,g2,g3,U⟩:=E.bt;obtain⟨ver,rw,all,hg,V,e⟩:=cW Q;by_cases h0:n*sz=0
    ·have J:new=[]:=by rw[e,h0];simp
     subst J;refine⟨[],VRs.nil ρ,fun w' _=>⟨by simp[Builtin.lenOf],?_⟩⟩;have:=dZ (P:=P) (w':=w') (size:=sz) (n:=n) (ad:=T) (len:=n) (cap:=I) (us:=[]) (by simp[h0]) (fun j u B=>by simp at B)
     grind
    ·have Y:0<n:=by rcases Ej n with hz | hz;exact absurd (by rw[hz,Dw]) h0;exact hz
     obtain⟨l,hl,rfl,_⟩:=U (by omega);obtain⟨G,h1,h2,h3⟩:=(hr.obj b l _ hl hg).cells V e;refine⟨G,h1,fun w' R=>⟨by simp[Builtin.lenOf],dZ h2 fun j u B=>?_⟩⟩;rw[Addr.ij];have:=h3 j u B;simpa [World.cell?,R]using this
   ·cases hs
  ·cases hs
 ·rename_i K he;split at hs
  ·rename_i h1;subst h1;cases hs;rw[he]at E;rw[E.cv];refine⟨K.data.toList.map fun b=> .int .u8 b.toNat,⟨by simp,fun j y u L B=>?_⟩,fun w' _=>⟨by simp[Builtin.lenOf],?_⟩⟩
   ·rw[Ap]at L B
    cases hb:K.data.toList[j]? with
    | none=>rw[hb]at L;cases L
    | some b=>rw[hb]at L B;cases L;cases B;exact .int _ _
   ·have S:K.extract 0 K.size=K:=ByteArray.extract_zero_size;simp only[Builtin.firstCells,S,Sem.run_pure];congr 1;apply Ci;simp
  ·cases hs
 ·cases hs
def lS{I:Array TypeId}{ty t M e:TypeId}{d2:TypeDesc}{i:TypeInfo}{z:Value}{base:Option Addr}{m cap n:Nat}{J:Value}{olds u:List Value}
  (h0:I[0]? =Iz t) (h1:I[1]? =Iz M) (Q:P.underlying t=Iz (.slice e)) (K:P.underlying M=Iz d2) (L:(∃O,d2= .slice O)\/d2= .string) (R:P.info? e=Iz i) (hz:i.zero=Iz z)
  (hlen:(Builtin.lenOf J).run P w= .ok n w) (y:(Builtin.firstCells i.size n J).run P w.drew= .ok u.toArray w.drew) (hold:(Builtin.firstCells i.size m (.slice base m cap)).run P w.drew= .ok olds.toArray w.drew)
  (hg:cap<m+n) (S:m+n<=9223372036854775807) (B:(m+n)*i.bytes<=140737488355328):
  (Builtin.append_ I ty #[.slice base m cap,J]).run P w=
   .ok (.slice (Iz ⟨w.heap.size,0,Ja⟩) (m+n) (grownCap w (m+n) cap e)) (w.drew.alloc (.cells (olds.toArray++u.toArray++Builtin.zeroCells z.cells (grownCap w (m+n) cap e-(m+n))) e)):=by
 have T:¬(m+n<=cap):=by omega
 have E:¬(9223372036854775807<((m:Int)+(n:Int))):=by omega
 have U:=growslice_fits hg B;have G:¬(281474976710656<Builtin.nextslicecap (m+n) cap*i.bytes):=by omega
 rcases L with⟨O,rfl⟩ | rfl<;>
 ·simp[Builtin.append_,h0,h1,run_underlying Q,run_underlying K,sizeOf,typeInfo,zeroValue,R,hz,hlen,T,E,G,Question.forced,y,hold,newRow,grownCap]
  grind
def jJ{I:Array TypeId}{ty t M e:TypeId}{d2:TypeDesc}{i:TypeInfo}{base:Option Addr}{m cap n:Nat}{J:Value}{u:List Value}{w':World}
  (h0:I[0]? =Iz t) (h1:I[1]? =Iz M) (O:P.underlying t=Iz (.slice e)) (B:P.underlying M=Iz d2) (E:(∃K,d2= .slice K)\/d2= .string) (Q:P.info? e=Iz i)
  (hlen:(Builtin.lenOf J).run P w= .ok n w) (y:(Builtin.firstCells i.size n J).run P w= .ok u.toArray w)
  (hg:m+n<=cap) (L:∀G,base=Iz G->(storeCells (G.add (m*i.size)) u).run P w= .ok () w') (hb:base=Ja->w'=w):
  (Builtin.append_ I ty #[.slice base m cap,J]).run P w= .ok (.slice base (m+n) cap) w':=by
 cases base with
 | none=>
  have:=hb rfl;subst this;rcases E with⟨K,rfl⟩ | rfl<;>
  simp[Builtin.append_,h0,h1,run_underlying O,run_underlying B,sizeOf,typeInfo,Q,hlen,hg,y]
 | some G=>
  have hs:=L G rfl;rcases E with⟨K,rfl⟩ | rfl<;>
  simp[Builtin.append_,h0,h1,run_underlying O,run_underlying B,sizeOf,typeInfo,Q,hlen,hg,y,hs]
def g9(z:Array Value)(n:Nat):(Builtin.zeroCells z n).size=n*z.size:=by simp[Builtin.zeroCells]
def zG{B:World}{new:List AV}{us zs:List Value}{e:TypeId}{size n cap':Nat}(hr:HR P ρ h B)(E:ρ h.next=Ja)(hv:VRs ρ new us)(I:us.length=n*size)(hz:zs.length=(cap'-n)*size)
  (J:n<=cap') (hm:cap'<=maxLen):
  ∃G,HR P G (h.alloc (.cells 0 Jb new)) (B.alloc (.cells (us.toArray++zs.toArray) e))/\Stp ρ h B G (h.alloc (.cells 0 Jb new)) (B.alloc (.cells (us.toArray++zs.toArray) e))/\
   VR G (.slice Jc size h.next 0 n) (.slice (Iz ⟨B.heap.size,0,Ja⟩) n cap'):=by
 have K:(us.toArray++zs.toArray).size=cap'*size:=by simp only[Array.size_append,Ey,I,hz,<-Cx];congr 1;omega
 let l:Loc:=⟨B.heap.size,0,(us.toArray++zs.toArray).size⟩
 have L:OR P (upd ρ h.next l) (B.alloc (.cells (us.toArray++zs.toArray) e)) l (.cells 0 Jb new):=by
  refine OR.newRow rfl rfl rfl ?_ fun i y M=>?_
  ·rw[Array.size_append,Ey,hv.1];omega
  ·obtain⟨u,Q,O⟩:=(hv.mono (gM (l:=l) E)).getElem M
   grind
 obtain⟨h1,h2⟩:=HR.alloc hr E rfl L;exact⟨_,h1,h2,.slice Jc size h.next 0 n cap' _ J hm (fun h=>by cases h) (fun _=>⟨l,bA _ _ _,rfl,by show 0+0+cap'*size<=(us.toArray++zs.toArray).size;omega⟩)⟩
def HR.px{b:Nat}{l l':Loc}{ver:Nat}{J:Bool}{cs new:List AV}{w':World}(hr:HR P ρ h w)(a0:ρ h.next=Ja)(hl:ρ b=Iz l)(hg:h.get b=Iz (.cells ver Jb cs))(hb:l'.blk=l.blk)
  (S:w'.heap.size=w.heap.size) (a1:w'.os=w.os) (a2:w'.tape=w.tape) (a3:w'.output=w.output) (G:∀k,k≠l.blk->w'.heap[k]? =w.heap[k]?) (ho:OR P (upd ρ h.next l') w' l' (.cells 0 J new)):
  HR P (upd ρ h.next l') ((h.set b .dead).alloc (.cells 0 J new)) w'/\Stp ρ h w (upd ρ h.next l') ((h.set b .dead).alloc (.cells 0 J new)) w':=by
 have hs:=gM (l:=l') a0;have a5:b≠h.next:=by have:=H.be hg;omega
 have I:∀x,x≠h.next->((h.set b .dead).alloc (.cells 0 J new)).get x=if x=b then Iz .dead else h.get x:=fun x B=>by
  rw[H.au,if_neg (by simpa using B)];by_cases e:x=b
  ·subst e;rw[if_pos rfl,H.get_set_same hg]
  ·rw[if_neg e,H.bf e]
 have T:((h.set b .dead).alloc (.cells 0 J new)).get h.next=Iz (.cells 0 J new):=by rw[H.au,if_pos (by simp)]
 refine⟨⟨hr.gat.il fun c Z hc hlt=>G c fun e=>hr.ma c Z hc b l _ hl hg rfl e.symm,fun c Z hc x lx ox B u U=>?_,fun x lx B=>?_,fun x lx ox B u=>?_,fun x y lx ly ox oy B R u E M L O=>?_⟩,⟨hs,fun x lx B=>?_,fun x lx B=>?_,by omega,a1,a2,a3,fun k hk a4=>G k fun e=>a4 b l _ hl hg rfl e.symm⟩⟩
 ·by_cases e:x=h.next
  ·subst e;rw[bA]at B;cases B;rw[hb];exact hr.ma c Z hc b l _ hl hg rfl
  ·rw[bO e]at B;rw[I x e]at u;by_cases K:x=b
   ·rw[if_pos K]at u;cases u;simp[bz.bw]at U
   ·rw[if_neg K]at u;exact hr.ma c Z hc x lx ox B u U
 ·by_cases e:x=h.next
  ·subst e;rw[bA]at B;cases B;rw[hb,S];exact hr.fb b l hl
  ·rw[bO e]at B;rw[S];exact hr.fb x lx B
 ·by_cases e:x=h.next
  ·subst e;rw[bA]at B;cases B;rw[T]at u;cases u;exact ho
  ·rw[bO e]at B;rw[I x e]at u;by_cases K:x=b
   ·rw[if_pos K]at u;cases u;trivial
   ·rw[if_neg K]at u;have h0:=hr.obj x lx ox B u
    cases V:ox.cg with
    | true=>exact h0.mono hs (G _ fun e'=>hr.inj b x l lx _ ox hl B hg u rfl V (Ne.symm K) e'.symm)
    | false=>cases ox<;>first | trivial | (simp[bz.cg]at V)
 ·by_cases ex:x=h.next
  ·subst ex;rw[bA]at B;cases B;rw[bO (Ne.symm O)]at R;rw[I y (Ne.symm O)]at E;by_cases K:y=b
   ·rw[if_pos K]at E;cases E;simp[bz.cg]at L
   ·rw[if_neg K]at E;rw[hb];exact hr.inj b y l ly _ oy hl R hg E rfl L (Ne.symm K)
  ·rw[bO ex]at B;rw[I x ex]at u;by_cases Q:x=b
   ·rw[if_pos Q]at u;cases u;simp[bz.bw]at M
   ·rw[if_neg Q]at u;by_cases ey:y=h.next
    ·subst ey;rw[bA]at R;cases R;rw[hb];exact hr.inj x b lx l ox _ B hl u hg M rfl Q
    ·rw[bO ey]at R;rw[I y ey]at E;by_cases Y:y=b
     ·rw[if_pos Y]at E;cases E;simp[bz.cg]at L
     ·rw[if_neg Y]at E;exact hr.inj x y lx ly ox oy B R u E M L O
 ·by_cases e:x=h.next
  ·simp_all
  ·rw[bO e]at B;exact .inl B
 ·by_cases e:x=h.next
  ·subst e;rw[bA]at B;cases B;exact .inr (.inr ⟨b,l,_,hl,hg,rfl,hb⟩)
  ·rw[bO e]at B;exact .inl B
def Ev.kill{b:Nat}{ver:Nat}{cs:List AV}(hg:h.get b=Iz (.cells ver Jb cs)):Ev h (h.set b .dead):=Ev.set hg (.inr (.inl ⟨rfl,rfl⟩)) rfl
def vX{G:Array TypeId}{ty t K e:TypeId}{kd:IntKind}{i:TypeInfo}{z:Value}{n:Nat}
  (h0:G[0]? =Iz t) (h1:G[1]? =Iz K) (M:P.underlying t=Iz (.slice e)) (I:P.underlying K=Iz (.int kd)) (O:P.info? e=Iz i) (hz:i.zero=Iz z) (hs:0<i.size)
  (L:0<n) (Q:n<=9223372036854775807) (u:n*i.bytes<=140737488355328):
  (Builtin.append_ G ty #[.slice Ja 0 0,.int .i64 n]).run P w=
   .ok (.slice (Iz ⟨w.heap.size,0,Ja⟩) n (grownCap w n 0 e)) (w.drew.alloc (.cells (Builtin.zeroCells z.cells n++Builtin.zeroCells z.cells (grownCap w n 0 e-n)) e)):=by
 have hw:IntKind.i64.wrap (n:Int)=(n:Int):=by
  grind [IntKind.wrap,IntKind.bits,IntKind.signed]
 have y:¬(9223372036854775807<(n:Int)):=by omega
 have B:¬((n:Int)<0):=by omega
 have hb:¬(281474976710656<(n:Int)*(i.bytes:Int)):=by
  grind
 have R:=growslice_fits (show 0<n from L) u;have E:¬(281474976710656<Builtin.nextslicecap n 0*i.bytes):=by omega
 have J:¬(n*i.size=0):=by intro h;rcases Nat.mul_eq_zero.1 h with h | h<;>omega
 simp[Builtin.append_,h0,h1,run_underlying M,run_underlying I,sizeOf,typeInfo,zeroValue,O,hz,hw,asInt,asIntOf,B,hb,L,y,E,J,Question.forced,newRow,grownCap,Builtin.firstCells];omega
def nP{c:Call}(ho:o.op= .call c)(hc:c.callee= .builtin .append){t t2 e:TypeId}{d2:TypeDesc}{ts:List TypeId}{s0 x0:Operand}{s1 x1:AR}{i:TypeInfo}{z:List AV}(d0:c.argTypes.toList=t::t2::ts)(b0:c.args.toList=[s0,x0])
  (hu:P.underlying t=Iz (.slice e)) (U:P.underlying t2=Iz d2) (V:(∃e2,d2= .slice e2)\/d2= .string) (c0:trR s0=Iz s1) (e5:trR x0=Iz x1) (hi:P.info? e=Iz i) (hz:nT P e=Iz z) (e4:i.size=z.length/\0<i.size)
  (B:aop a h (.append i.size i.bytes s1 x1)=Iz (v,h',rd)) (ht:Ops ρ a act (AO.append i.size i.bytes s1 x1).dh) (hr:HR P ρ h w)
  (S:∀y,h.next<=y->y<h'.next->ρ y=Ja):EF P ρ h w ((execOp act.eval o).run P w) v h':=by
 simp only[AO.dh]at ht;have h1:=aX c0 ht.left;have h2:=aX e5 ht.right;obtain⟨zu,i',d4,Y,i1,e6⟩:=gX hz;rw[hi]at d4;cases d4;have d5:zu.cells.size=i.size:=by have:=eC e6;simp at this;omega
 have Z:c.argTypes[0]? =Iz t:=by rw[<-Bu,d0];rfl
 have L:c.argTypes[1]? =Iz t2:=by rw[<-Bu,d0];rfl
 have a4:c.args.map act.eval= #[act.eval s0,act.eval x0]:=by apply Ci;simp[b0]
 have I:∀{u:Value} {w':World},(Builtin.append_ c.argTypes o.type #[act.eval s0,act.eval x0]).run P w= .ok u w'->(execOp act.eval o).run P w= .ok (.value u) w':=by intro u w' a6;simp only[execOp,ho,resolve,hc,Sem.run_bind,Sem.run_pure,Result.andThen_ok,invoke,builtin,a4,a6]
 simp only[aop]at B;split at B
 ·cases B
 ·rename_i new n G;obtain⟨M,K,a0⟩:=aEb G h2 hr;obtain⟨a7,b5⟩:=a0 w rfl;obtain⟨i2,d6⟩:=a0 w.drew rfl;split at B
  ·rename_i c2;rw[c2]at h1;have b6:act.eval s0= .slice Ja 0 0:=by generalize act.eval s0=u at h1;cases h1;rfl
   rw[b6]at I;split at B
   ·rename_i h0;subst h0;cases B;have:=jJ (w':=w) (ty:=o.type) (base:=Ja) (m:=0) (cap:=0) Z L hu U V hi a7 b5 (by omega) (fun ad h=>by cases h) fun _=>rfl;exact⟨_,w,ρ,.inl (I this),.ah,hr,Stp.refl _ _ _⟩
   ·rename_i h0;split at B
    ·rename_i hb;obtain⟨b1,b2,b3,b4⟩:=hb;cases B;have hold:(Builtin.firstCells i.size 0 (.slice Ja 0 0)).run P w.drew= .ok ([]:List Value).toArray w.drew:=by simp[Builtin.firstCells]
     have d7:n<=9223372036854775807:=b2;have J:=lS (ty:=o.type) (base:=Ja) (m:=0) (cap:=0) (olds:=[]) Z L hu U V hi Y a7 d6 hold (by omega) (by omega) (by rw[Aw];exact b1);have b7:=grownCap_ge w (0+n) 0 e;have b8:=grownCap_le_maxLen w (0+n) 0 e (by unfold maxLen;omega);rw[Aw]at J b7 b8;have hd:=HR.heap (w':=w.drew) hr rfl;have c3:=Stp.heap (ρ:=ρ) (h:=h) (w:=w) (w':=w.drew) rfl rfl rfl rfl;obtain⟨ρ',g1,g2,g3⟩:=zG (e:=e) (size:=i.size) (n:=n) (cap':=grownCap w n 0 e) (zs:=(Builtin.zeroCells zu.cells (grownCap w n 0 e-n)).toList) hd (S _ (Ac _) (by simp)) K (by rw[K.1];exact b4) (by simp[g9,d5]) b7 b8;refine⟨_,_,ρ',.inl (I J),g3,?_,?_⟩
     ·simpa using g1
     ·have:=c3.trans g2 (Ev.refl h) (Ev.alloc h _) S;simpa using this
    grind
  ·rename_i fl sz b j m c2;rw[c2]at h1;obtain⟨ad,E,b6,q1,q2,q3,q4⟩:=h1.bt;rw[b6]at I;split at B
   ·rename_i h0;subst h0;cases B;have c6:M=[]:=by
     have:=b5;have e7:M.length=0:=by
      have f1:new.length=0:=by
       unfold kU at G;split at G
       ·cases G;rfl
       ·split at G
        ·split at G
         ·rename_i cs f2;cases G;obtain⟨_,_,_,_,_,e'⟩:=cW f2;rw[e'];simp
         ·cases G
        ·cases G
       ·rename_i s' _;split at G
        ·simp only[Option.some.injEq,Prod.mk.injEq]at G;obtain⟨rfl,h0⟩:=G;rw[List.length_map,Gb];exact h0
        ·cases G
       grind
      rw[K.1];exact f1
     exact List.length_eq_zero_iff.1 e7
    subst c6;have:=jJ (w':=w) (ty:=o.type) (base:=Iz ad) (m:=m) (cap:=E) Z L hu U V hi a7 b5 (by omega) (fun f3 h=>by simp[storeCells]) (fun h=>by cases h);exact⟨_,w,ρ,.inl (I this),by rw[b6]at h1;simpa using h1,hr,Stp.refl _ _ _⟩
   ·rename_i h0;split at B
    ·rename_i hb;obtain⟨rfl,b1,b2,b3,b4⟩:=hb;have d7:m+n<=9223372036854775807:=b2;split at B
     ·cases B
     ·rename_i Q hold;obtain⟨ver,rw,all,hg,f4,a2⟩:=cW hold;have a1:Q.length=m*i.size:=by rw[a2];simp;omega
      --the Q cells
      have c7:∃O,VRs ρ Q O/\∀w',w'.heap=w.heap->(Builtin.firstCells i.size m (.slice (Iz ad) m E)).run P w'= .ok O.toArray w':=by
       by_cases d8:m*i.size=0
       ·have:Q=[]:=List.length_eq_zero_iff.1 (by omega);subst this;refine⟨[],VRs.nil ρ,fun w' _=>?_⟩;have:=dZ (P:=P) (w':=w') (size:=i.size) (n:=m) (ad:=ad) (len:=m) (cap:=E) (us:=[]) (by simp[d8]) (fun j u hu=>by simp at hu);simpa using this
       ·have a3:0<E:=by rcases Ej E with hz | hz;exact absurd (by rw[show m=0 from by omega,Dw]) d8;exact hz
        obtain⟨l,hl,rfl,_⟩:=q4 a3;obtain⟨g0,g1,g2,g3⟩:=(hr.obj b l _ hl hg).cells f4 a2;refine⟨g0,g1,fun w' h4=>dZ g2 fun j u hu=>?_⟩;rw[Addr.ij];have:=g3 j u hu;simpa [World.cell?,h4]using this
      obtain⟨O,d9,a5⟩:=c7;have grow:E<m+n->∀(h1:H),HR P ρ h1 w->Stp ρ h w ρ h1 w->Ev h h1->h1.next=h.next->(v= .slice Jc i.size h1.next 0 (m+n))->h'=h1.alloc (.cells 0 Jb (Q++new))->EF P ρ h w ((execOp act.eval o).run P w) v h':=by
       intro hlt h1 h5 c0 h6 i3 hv hh;subst hv;subst hh;have J:=lS (ty:=o.type) (base:=Iz ad) (m:=m) (cap:=E) Z L hu U V hi Y a7 (by exact d6) (a5 w.drew rfl) hlt d7 b1;have b7:=grownCap_ge w (m+n) E e;have b8:=grownCap_le_maxLen w (m+n) E e (by unfold maxLen;omega);have hd:=HR.heap (w':=w.drew) h5 rfl;have c3:=Stp.heap (ρ:=ρ) (h:=h1) (w:=w) (w':=w.drew) rfl rfl rfl rfl;obtain⟨ρ',g1,g2,g3⟩:=zG (e:=e) (size:=i.size) (n:=m+n) (cap':=grownCap w (m+n) E e) (us:=O++M) (zs:=(Builtin.zeroCells zu.cells (grownCap w (m+n) E e-(m+n))).toList) hd (S _ (by omega) (by simp)) (d9.append K)
        (by rw[Aj,d9.1,K.1,a1,b4,Cx]) (by simp[g9,d5]) b7 b8
       refine⟨_,_,ρ',.inl (I J),g3,?_,?_⟩
       ·simpa using g1
       ·have t1:=c3.trans g2 (Ev.refl h1) (Ev.alloc h1 _) (fun y i4 h7=>S y (by omega) h7);have:=c0.trans t1 h6 (Ev.alloc h1 _) S;simpa using this
      split at B
      ·rename_i e0;cases B;have:=q3 e0;exact grow (by clear q4 grow;omega) h hr (Stp.refl _ _ _) (Ev.refl h) rfl rfl rfl
      ·rename_i e0;split at B
       ·rename_i h1 hk;cases B;unfold kill at hk;rw[hg]at hk
        cases rw with
        | false=>simp at hk
        | true=>
         simp at hk;subst hk;obtain⟨k1,k2⟩:=HR.kill hr hg;by_cases R:m+n<=E
         ·have a3:0<E:=by clear q4 grow;omega
          obtain⟨l,hl,rfl,i0⟩:=q4 a3;obtain⟨T,fz,ee,g1,g2,g4,g5,g6⟩:=hr.obj b l _ hl hg;have:=g5 rfl;subst this;have c8:M.length=n*i.size:=by rw[K.1];exact b4
          have i5:l.base+j+m*i.size+M.length<=T.size:=by rw[c8,g2,Cf,<-Cx];have:=Dg i.size R;omega
          have c9:∀y∈M,y.oneCell'=Jb:=by
           intro y hy;obtain⟨q,hq,e'⟩:=Dt hy;have e1:q<new.length:=by rw[<-K.1];exact hq
           have:=K.2 q new[q] y (Ad e1) (by rw[<-e'];exact Ad hq);exact this.one (List.all_eq_true.1 b3 _ (Cw e1))
          have h8:=run_storeCells_at P l.blk (l.base+j+m*i.size) ee M 0 T w g1 (by omega) c9;have J:=jJ (w':=w.setRow l.blk (T.toList.take (l.base+j+m*i.size+0)++M++T.toList.drop (l.base+j+m*i.size+0+M.length)).toArray) (ty:=o.type) (base:=Iz ⟨l.blk,l.base+j,Ja⟩) (m:=m) (cap:=E) Z L hu U V hi a7 b5 R
           (fun f3 e'=>by cases e';rw[Addr.ij];exact h8) (fun h=>by cases h)
          have e3:(T.toList.take (l.base+j+m*i.size+0)++M++T.toList.drop (l.base+j+m*i.size+0+M.length)).length=T.size:=by simp;omega
          have a9:ρ h.next=Ja:=S _ (Ac _) (by simp);have h9:OR P (upd ρ h.next ⟨l.blk,l.base+j,l.lim⟩) (w.setRow l.blk (T.toList.take (l.base+j+m*i.size+0)++M++T.toList.drop (l.base+j+m*i.size+0+M.length)).toArray) ⟨l.blk,l.base+j,l.lim⟩ (.cells 0 Jb (Q++new)):=by
           refine⟨_,(0,0),ee,setRow_heap w l.blk T _ ee (0,0) g1,by rw[Ey,e3];exact g2,?_,fun _=>rfl,fun q y hy=>?_⟩
           ·rw[Ey,e3,Aj,a1,b4];simp only;omega
           ·have hs:=gM (l:=⟨l.blk,l.base+j,l.lim⟩) a9;simp only[Dk,List.getElem?_toArray];rw[Fz]at hy;by_cases c1:q<Q.length
            ·rw[if_pos c1]at hy;rw[Bh (by simp;omega),Bh (by simp;omega),Bc,if_pos (by omega),Bu];rw[a2,Bc,if_pos (by omega),Bf]at hy;obtain⟨u,a6,c4⟩:=g6 _ y hy;exact⟨u,by rw[<-a6];congr 1;omega,c4.mono hs⟩
            ·rw[if_neg c1]at hy;have hq:q-Q.length<new.length:=(List.getElem?_eq_some_iff.1 hy).1;rw[Bh (by simp;omega),List.getElem?_append_right (by simp;omega)];obtain⟨u,a6,c4⟩:=K.getElem hy;refine⟨u,?_,c4.mono hs⟩;rw[<-a6];congr 1;simp;omega
          obtain⟨m1,m2⟩:=HR.px (w':=w.setRow l.blk (T.toList.take (l.base+j+m*i.size+0)++M++T.toList.drop (l.base+j+m*i.size+0+M.length)).toArray) hr a9 hl hg (l':=⟨l.blk,l.base+j,l.lim⟩) rfl (by simp) rfl rfl rfl (fun k hk=>setRow_other w _ _ _ hk) h9;refine⟨_,_,_,.inl (I J),?_,m1,m2⟩;refine .slice Jc i.size h.next 0 (m+n) E _ R q2 (fun h=>by cases h) fun _=>⟨_,bA _ _ _,rfl,?_⟩;simp only;omega
         ·exact grow (by clear q4 grow;omega) _ k1 k2 (Ev.kill hg) rfl rfl rfl
       ·cases B
    ·cases B
  grind
def NH{c:Call}(O:o.op= .call c)(Q:c.callee= .builtin .append){size bytes:Nat}{s x:AR}(u:aY P o=Iz (.append size bytes s x))(G:aop a h (.append size bytes s x)=Iz (v,h',rd))(ht:Ops ρ a act (AO.append size bytes s x).dh)(hr:HR P ρ h w)
  (L:∀y,h.next<=y->y<h'.next->ρ y=Ja):EF P ρ h w ((execOp act.eval o).run P w) v h':=by
 simp only[aY,O,Q]at u;unfold gW at u;split at u
 ·rename_i t V Y Z x0 _ M E;split at u
  ·rename_i e e2 T U R I J K;split at u
   ·rename_i i z S hz;split at u
    ·rename_i B;simp only[Aq,decide_eq_true_eq]at B;cases u;exact nP O Q M E R I (.inl ⟨_,rfl⟩) J K S hz B G ht hr L
    ·cases u
   ·cases u
  ·rename_i e T U R I J K;split at u
   ·rename_i i z S hz;split at u
    ·rename_i B;simp only[Aq,decide_eq_true_eq]at B;cases u;exact nP O Q M E R I (.inr rfl) J K S hz B G ht hr L
    ·cases u
   ·cases u
  all_goals grind
 all_goals (first | contradiction | (cases u;done) | (split at u<;>first | (cases u;done) | skip))
 all_goals (first | (cases u;done) | skip)
def ZY{c:Call}(ho:o.op= .call c)(hc:c.callee= .builtin .copy){size:Nat}{d x:AR}(G:aY P o=Iz (.ja size d x))(B:aop a h (.ja size d x)=Iz (v,h',rd))(ht:Ops ρ a act (AO.ja size d x).dh)(hr:HR P ρ h w):
  EF P ρ h w ((execOp act.eval o).run P w) v h':=by
 simp only[aY,ho,hc]at G;unfold gW at G;split at G;all_goals (first | contradiction | (cases G;done) | skip)
 all_goals (first | (split at G<;>first | (cases G;done) | skip) | skip)
 all_goals (first | (split at G<;>first | (cases G;done) | skip) | skip)
 rename_i t t2 ts Z x0 _ a5 T _ _ _ _ e e2 d1 x1 O b7 a6 a7 _ i hi;split at G
 ·rename_i a4;cases G;simp only[AO.dh]at ht;have h1:=aX a6 ht.left;have h2:=aX a7 ht.right;have Q:c.argTypes[0]? =Iz t:=by rw[<-Bu,a5];rfl
  have R:c.args.map act.eval= #[act.eval Z,act.eval x0]:=by apply Ci;simp[T]
  have E:∀{u:Value} {w':World},(Builtin.copy_ c.argTypes o.type #[act.eval Z,act.eval x0]).run P w= .ok u w'->(execOp act.eval o).run P w= .ok (.value u) w':=by intro u w' a9;simp only[execOp,ho,resolve,hc,Sem.run_bind,Sem.run_pure,Result.andThen_ok,invoke,builtin,R,a9]
  simp only[aop]at B;split at B
  ·rename_i fl sz b j m b0 b1 b2 j2 n U V;rw[U]at h1;rw[V]at h2;obtain⟨ad,a2,K,q1,q2,q3,q4⟩:=h1.bt;obtain⟨L,I,J,r1,r2,r3,r4⟩:=h2.bt;rw[K,J]at E;split at B
   ·rename_i b3;obtain⟨rfl,rfl⟩:=b3;have M:∀{Y:List Value} {w':World},(Builtin.firstCells i.size (min n m) (.slice (Iz L) n I)).run P w= .ok Y.toArray w->(storeCells ad Y).run P w= .ok () w'->
      (Builtin.copy_ c.argTypes o.type #[.slice (Iz ad) m a2,.slice (Iz L) n I]).run P w= .ok (.int .i64 ((min n m:Nat):Int)) w':=by
     intro Y w' g1 g2;have b4:(Builtin.firstCells i.size (Nat.min n m) (.slice (Iz L) n I)).run P w= .ok Y.toArray w:=g1;simp[Builtin.copy_,Q,run_underlying O,sizeOf,typeInfo,hi,Builtin.lenOf,b4,g2,goInt]
    split at B
    ·rename_i hk;cases B;have hf:(Builtin.firstCells i.size (min n m) (.slice (Iz L) n I)).run P w= .ok ([]:List Value).toArray w:=dZ (by simp[hk]) (fun j u O=>by simp at O);have:=M hf (w':=w) (by simp[storeCells]);rw[hk]at this;exact⟨_,w,ρ,.inl (E this),.int _ _,hr,Stp.refl _ _ _⟩
    ·rename_i hk;split at B
     ·rename_i cs b5;split at B
      ·rename_i b8 S;cases B;obtain⟨ver,rw,all,hg,hn,e⟩:=cW b5;obtain⟨l2,b6,rfl,_⟩:=r4 (by omega);obtain⟨l,hl,rfl,_⟩:=q4 (by omega);obtain⟨Y,k1,k2,k3⟩:=(hr.obj b2 l2 _ b6 hg).cells hn e;have hf:(Builtin.firstCells i.size (min n m) (.slice (Iz ⟨l2.blk,l2.base+j2,Ja⟩) n I)).run P w= .ok Y.toArray w:=dZ k2 (fun q u O=>by
        rw[Addr.ij];exact k3 q u O)
       have a0:cs.all AV.one=Jb:=by
        unfold eH at S
        grind
       have a1:∀y∈Y,y.oneCell'=Jb:=by
        intro y hy;obtain⟨q,hq,e'⟩:=Dt hy;have a3:q<cs.length:=by rw[<-k1.1];exact hq
        have:=k1.2 q cs[q] y (Ad a3) (by rw[<-e'];exact Ad hq);exact this.one (List.all_eq_true.1 a0 _ (Cw a3))
       obtain⟨w',s1,s2,s3⟩:=xV hr hl S k1 a1;exact⟨_,w',ρ,.inl (E (M hf s1)),.int _ _,s2,s3⟩
      ·cases B
     ·cases B
   grind
  ·rename_i U V;cases B;rw[U]at h1;rw[V]at h2;have K:act.eval Z= .slice Ja 0 0:=by generalize act.eval Z=u at h1;cases h1;rfl
   have J:act.eval x0= .slice Ja 0 0:=by generalize act.eval x0=u at h2;cases h2;rfl
   rw[K,J]at E;exact⟨_,w,ρ,.inl (E (u:= .int .i64 0) (by simp[Builtin.copy_,Q,run_underlying O,sizeOf,typeInfo,hi,Builtin.lenOf,Builtin.firstCells,goInt])),.int _ _,hr,Stp.refl _ _ _⟩
  ·rename_i b0 b1 b2 j2 n U V;cases B;rw[U]at h1;rw[V]at h2;have K:act.eval Z= .slice Ja 0 0:=by generalize act.eval Z=u at h1;cases h1;rfl
   obtain⟨L,I,J,r1,r2,r3,r4⟩:=h2.bt;rw[K,J]at E;have hf:(Builtin.firstCells i.size 0 (.slice (Iz L) n I)).run P w= .ok ([]:List Value).toArray w:=dZ (by simp) (fun j u O=>by simp at O);exact⟨_,w,ρ,.inl (E (u:= .int .i64 0) (by simp[Builtin.copy_,Q,run_underlying O,sizeOf,typeInfo,hi,Builtin.lenOf,hf,goInt])),.int _ _,hr,Stp.refl _ _ _⟩
  ·rename_i fl sz b j m U V;cases B;rw[U]at h1;rw[V]at h2;obtain⟨ad,a2,K,q1,q2,q3,q4⟩:=h1.bt;have J:act.eval x0= .slice Ja 0 0:=by generalize act.eval x0=u at h2;cases h2;rfl
   rw[K,J]at E;exact⟨_,w,ρ,.inl (E (u:= .int .i64 0) (by simp[Builtin.copy_,Q,run_underlying O,sizeOf,typeInfo,hi,Builtin.lenOf,Builtin.firstCells,storeCells,goInt])),.int _ _,hr,Stp.refl _ _ _⟩
  grind
 ·cases G
def UK{c:Call}(ho:o.op= .call c)(hc:c.callee= .builtin .clear){z:List AV}{x:AR}(E:aY P o=Iz (.fj z x))(B:aop a h (.fj z x)=Iz (v,h',rd))(ht:Ops ρ a act (AO.fj z x).dh)(hr:HR P ρ h w):
  EF P ρ h w ((execOp act.eval o).run P w) v h':=by
 simp only[aY,ho,hc]at E;unfold gW at E;split at E;all_goals (first | contradiction | (cases E;done) | skip)
 all_goals (first | (split at E<;>first | (cases E;done) | skip) | skip)
 all_goals (first | (split at E<;>first | (cases E;done) | skip) | skip)
 rename_i t ts Y _ Z L _ _ e x1 hu a1 _ _ i z0 hi hz;split at E
 ·rename_i M;simp only[Aq,decide_eq_true_eq]at M;cases E;simp only[AO.dh]at ht;have h1:=aX a1 ht;obtain⟨zu,i',R,a0,a2,S⟩:=gX hz;rw[hi]at R;cases R;have a4:zu.cells.size=i.size:=by have:=eC S;simp at this;omega
  have O:c.argTypes[0]? =Iz t:=by rw[<-Bu,Z];rfl
  have J:c.args.map act.eval= #[act.eval Y]:=by apply Ci;simp[L]
  have G:∀{u:Value} {w':World},(Builtin.clear_ c.argTypes o.type #[act.eval Y]).run P w= .ok u w'->(execOp act.eval o).run P w= .ok (.value u) w':=by intro u w' a3;simp only[execOp,ho,resolve,hc,Sem.run_bind,Sem.run_pure,Result.andThen_ok,invoke,builtin,J,a3]
  simp only[aop]at B;split at B
  ·rename_i he;cases B;rw[he]at h1;have Q:act.eval Y= .slice Ja 0 0:=by generalize act.eval Y=u at h1;cases h1;rfl
   rw[Q]at G;exact⟨_,w,ρ,.inl (G (by simp[Builtin.clear_,O,run_underlying hu])),(VRs.nil ρ).kj,hr,Stp.refl _ _ _⟩
  ·rename_i fl sz b j n he;rw[he]at h1;obtain⟨ad,a5,Q,q1,q2,q3,q4⟩:=h1.bt;rw[Q]at G;split at B
   ·rename_i a6;split at B
    ·rename_i hn;subst hn;cases B;exact⟨_,w,ρ,.inl (G (by simp[Builtin.clear_,O,run_underlying hu])),(VRs.nil ρ).kj,hr,Stp.refl _ _ _⟩
    ·rename_i hn;split at B
     ·rename_i a7 K;cases B;obtain⟨l,hl,rfl,_⟩:=q4 (by omega);have I:VRs ρ (g8 n z) (Builtin.zeroCells zu.cells n).toList:=by
       have:=nK (n:=n) (eP (ρ:=ρ) S).1 (by omega)
       grind [Builtin.zeroCells]
      have T:(g8 n z).all AV.one=Jb:=by
       unfold eH at K
       grind
      have U:∀y∈(Builtin.zeroCells zu.cells n).toList,y.oneCell'=Jb:=by
       intro y hy;obtain⟨q,hq,e'⟩:=Dt hy;have V:q<(g8 n z).length:=by rw[<-I.1];exact hq
       have:=I.2 q (g8 n z)[q] y (Ad V) (by rw[<-e'];exact Ad hq);exact this.one (List.all_eq_true.1 T _ (Cw V))
      obtain⟨w',s1,s2,s3⟩:=xV hr hl K I U;refine⟨_,w',ρ,.inl (G ?_),(VRs.nil ρ).kj,s2,s3⟩;obtain⟨n',rfl⟩:∃n',n=n'+1:=⟨n-1,by omega⟩;simp[Builtin.clear_,O,run_underlying hu,a2,s1]
     ·cases B
   ·cases B
  ·cases B
 ·cases E
def n7{b i:Nat}{new:List AV}(u:eH h b i new=Iz h'):Ev h h':=by
 unfold eH at u;split at u
 ·rename_i ver cs hg;split at u
  ·cases u;exact Ev.set hg (.inr (.inr ⟨ver,ver+1,rfl,rfl,by omega,rfl,rfl,rfl⟩)) rfl
  ·cases u
 ·cases u
def aCv{b:Nat}(u:kill h b=Iz h'):Ev h h':=by
 unfold kill at u;split at u
 ·rename_i ver cs hg;cases u;exact Ev.kill hg
 ·cases u
def aFf(u:aop a h ao=Iz (v,h',rd)):Ev h h':=by
 cases ao<;>simp only[aop]at u
 case append=>
  split at u
  ·cases u
  ·split at u
   ·split at u
    ·cases u;exact Ev.refl h
    ·split at u
     ·cases u;exact Ev.alloc h _
     ·cases u
   ·split at u
    ·cases u;exact Ev.refl h
    ·split at u
     ·split at u
      ·cases u
      ·split at u
       ·cases u;exact Ev.alloc h _
       ·split at u
        ·rename_i B;cases u;exact(aCv B).trans (Ev.alloc _ _)
        ·cases u
     ·cases u
   ·cases u
 case store=>
  split at u
  ·split at u
   ·split at u
    ·rename_i y;cases u;exact n7 y
    grind
   ·cases u
  grind
 case mapUpdate=>
  split at u
  ·split at u
   ·rename_i hg;split at u
    ·cases u;exact Ev.set hg (.inr (.inr ⟨_,_,rfl,rfl,Gd _,rfl,rfl,rfl⟩)) rfl
    ·cases u
   ·cases u
  grind
 case ja=>
  repeat' split at u
  all_goals (first | (cases u;done) | (cases u;first | exact Ev.refl h | (rename_i y;exact n7 y)))
 case fj=>
  repeat' split at u
  all_goals (first | (cases u;done) | (cases u;first | exact Ev.refl h | (rename_i y;exact n7 y)))
 case jk=>
  split at u
  ·split at u
   ·rename_i hg;split at u
    ·cases u;exact(Ev.kill hg).trans (Ev.alloc _ _)
    ·cases u
   ·cases u
  ·cases u
 all_goals (repeat' split at u)
 all_goals (first | (cases u;first | exact Ev.refl h | exact Ev.alloc h _) | (exact absurd u (by simp)))
def GW(u:aY P o=Iz ao)(y:ao.effect=Jb):(∃t p x,o.op= .store t p x)\/(∃t m k x,o.op= .mapUpdate t m k x\/o.op= .insert t m k x)\/(∃c,o.op= .call c)\/∃s d x,o.op= .convert s d x:=by
 cases B:o.op with
 | convert s d x=>exact .inr (.inr (.inr ⟨s,d,x,rfl⟩))
 | store t p x=>exact .inl ⟨t,p,x,rfl⟩
 | mapUpdate t m k x=>exact .inr (.inl ⟨t,m,k,x,.inl rfl⟩)
 | insert t m k x=>exact .inr (.inl ⟨t,m,k,x,.inr rfl⟩)
 | call c=>exact .inr (.inr (.inl ⟨c,rfl⟩))
 | makeMap t r=>
  cases r with
  | none=>simp only[aY,B]at u;cases u;simp[AO.effect]at y
  | some r=>simp[aY,B]at u
 | _=>
  exfalso;simp only[aY,B,Bt]at u;all_goals (repeat' split at u)
  all_goals (try unfold pG at u)
  all_goals (repeat' split at u)
  all_goals (first | (cases u;done) | (cases u;simp[AO.effect]at y;done) | (simp only[Bt]at u;obtain⟨_,_,rfl⟩:=u;simp[AO.effect]at y;done) | (obtain⟨_,_,rfl⟩:=u;simp[AO.effect]at y;done))
def zU{c:Call}(ho:o.op= .call c)(hc:c.callee= .builtin .append){bytes:Nat}{z:List AV}{s x:AR}(B:aY P o=Iz (.bq bytes z s x))(E:aop a h (.bq bytes z s x)=Iz (v,h',rd))(ht:Ops ρ a act (AO.bq bytes z s x).dh)(hr:HR P ρ h w)
  (Q:∀y,h.next<=y->y<h'.next->ρ y=Ja):EF P ρ h w ((execOp act.eval o).run P w) v h':=by
 simp only[aY,ho,hc]at B;unfold gW at B;split at B
 ·rename_i t t2 ts s0 x0 _ R L;split at B
  ·all_goals grind
  ·grind
  ·rename_i e kd s1 x1 hu S a0 a1;split at B
   ·rename_i i z' hi hz;split at B
    ·rename_i G;simp only[Aq,decide_eq_true_eq]at G;cases B;simp only[AO.dh]at ht;have h1:=aX a0 ht.left;have h2:=aX a1 ht.right;obtain⟨zu,i',T,M,b6,U⟩:=gX hz;rw[hi]at T;cases T;have V:zu.cells.size=i.size:=by have:=eC U;simp at this;omega
     have Y:c.argTypes[0]? =Iz t:=by rw[<-Bu,R];rfl
     have K:c.argTypes[1]? =Iz t2:=by rw[<-Bu,R];rfl
     have J:c.args.map act.eval= #[act.eval s0,act.eval x0]:=by apply Ci;simp[L]
     have I:∀{u:Value} {w':World},(Builtin.append_ c.argTypes o.type #[act.eval s0,act.eval x0]).run P w= .ok u w'->(execOp act.eval o).run P w= .ok (.value u) w':=by intro u w' a2;simp only[execOp,ho,resolve,hc,Sem.run_bind,Sem.run_pure,Result.andThen_ok,invoke,builtin,J,a2]
     simp only[aop]at E;split at E
     ·rename_i n e1 e2;rw[e1]at h1;rw[e2]at h2;have a3:act.eval s0= .slice Ja 0 0:=by generalize act.eval s0=u at h1;cases h1;rfl
      rw[a3,h2.bh]at I;split at E
      ·rename_i h0;subst h0;cases E;refine⟨_,w,ρ,.inl (I (u:= .slice Ja 0 0) (w':=w) ?_),.ah,hr,Stp.refl _ _ _⟩;have a4:IntKind.i64.wrap 0=0:=by decide
       simp[Builtin.append_,Y,K,run_underlying hu,run_underlying S,sizeOf,typeInfo,hi,asInt,asIntOf,a4]
      ·rename_i h0;split at E
       ·rename_i hb;obtain⟨b1,b2,b3⟩:=hb;cases E;obtain⟨n,rfl⟩:=Int.eq_ofNat_of_zero_le b1;have a5:n*i.bytes<=140737488355328:=by
         have:((n*i.bytes:Nat):Int)<=140737488355328:=by rw[Int.natCast_mul];exact b2
         omega
        have a6:n<=9223372036854775807:=by unfold f0 at b3;omega
        have O:=vX (w:=w) (ty:=o.type) Y K hu S hi M G.2 (by omega) a6 a5;have a7:=grownCap_ge w n 0 e;have a9:=grownCap_le_maxLen w n 0 e (by unfold maxLen;omega);have hd:=HR.heap (w':=w.drew) hr rfl;have b0:=Stp.heap (ρ:=ρ) (h:=h) (w:=w) (w':=w.drew) rfl rfl rfl rfl;have Z:VRs ρ (g8 n z) (Builtin.zeroCells zu.cells n).toList:=by
         have:=nK (n:=n) (eP (ρ:=ρ) U).1 (by omega);simpa [Builtin.zeroCells]using this
        obtain⟨ρ',g1,g2,g3⟩:=zG (e:=e) (size:=i.size) (n:=n) (cap':=grownCap w n 0 e) (zs:=(Builtin.zeroCells zu.cells (grownCap w n 0 e-n)).toList) hd (Q _ (Ac _) (by simp)) Z (by simp[g9,V]) (by simp[g9,V]) a7 a9;have b4:z.length=i.size:=G.1.symm;refine⟨_,_,ρ',.inl (I O),?_,?_,?_⟩
        ·simpa [b4]using g3
        ·simpa using g1
        ·have:=b0.trans g2 (Ev.refl h) (Ev.alloc h _) Q;simpa using this
       grind
     grind
    ·cases B
   ·cases B
  ·cases B
 all_goals (repeat' split at B)
 all_goals (first | (cases B;done) | (simp at B;done))
def pR{b:Builtin}{B:List TypeId}{args:List Operand}(u:gW P b B args=Iz ao)(y:ao.effect=Jb):
  (b= .append/\∃size bytes s x,ao= .append size bytes s x)\/(b= .append/\∃bytes z s x,ao= .bq bytes z s x)\/(b= .copy/\∃size d x,ao= .ja size d x)\/(b= .clear/\∃z x,ao= .fj z x):=by
 unfold gW at u;split at u
 ·grind
 all_goals (repeat' split at u)
 all_goals (first | (cases u;done) | (cases u;exact .inr (.inr (.inl ⟨rfl,_,_,_,rfl⟩))) | (cases u;exact .inr (.inr (.inr ⟨rfl,_,_,rfl⟩))) | (cases u;simp[AO.effect]at y))
def HR.add{w':World}{ob:bz}{l:Loc}(hr:HR P ρ h w)(O:ρ h.next=Ja)(hb:RowKit.Below w.heap.size w w')(hl:w.heap.size<=l.blk)(hlt:l.blk<w'.heap.size)
  (T:OR P (upd ρ h.next l) w' l ob):HR P (upd ρ h.next l) (h.alloc ob) w'/\Stp ρ h w (upd ρ h.next l) (h.alloc ob) w':=by
 have E:∀b,b<w.heap.size->w'.heap[b]? =w.heap[b]? :=fun b Q=>hb.block b Q;have hs:=gM (l:=l) O;refine⟨⟨hr.gat.il fun b l hb hlt=>E b hlt,fun b U K x lx ox u hg R=>?_,fun x lx u=>?_,fun x lx ox u hg=>?_,fun x y lx ly ox oy u J G B L M I=>?_⟩,⟨hs,fun x lx u=>?_,fun x lx u=>?_,hb.size,hb.os,hb.tape,hb.output,fun b hb _=>E b hb⟩⟩
 ·by_cases e:x=h.next
  ·subst e;rw[bA]at u;cases u;have:=hr.gat.lt K;omega
  ·rw[bO e]at u;rw[H.au,if_neg e]at hg;exact hr.ma b U K x lx ox u hg R
 ·by_cases e:x=h.next
  ·subst e;rw[bA]at u;cases u;exact hlt
  ·rw[bO e]at u;have:=hr.fb x lx u;have:=hb.size;omega
 ·by_cases e:x=h.next
  ·subst e;rw[bA]at u;cases u;rw[H.aj]at hg;cases hg;exact T
  ·rw[bO e]at u;rw[H.au,if_neg e]at hg;have h0:=hr.obj x lx ox u hg
   cases hl:ox.cg with
   | true=>exact h0.mono hs (E _ (h0.lt hl))
   | false=>cases ox<;>first | trivial | (simp[bz.cg]at hl)
 ·by_cases ex:x=h.next
  ·subst ex;rw[bA]at u;cases u;rw[bO (Ne.symm I)]at J;rw[H.au,if_neg (Ne.symm I)]at B;have:=(hr.obj y ly oy J B).lt M;omega
  ·rw[bO ex]at u;rw[H.au,if_neg ex]at G;by_cases S:y=h.next
   ·subst S;rw[bA]at J;cases J;have:=(hr.obj x lx ox u G).lt (bz.eh L);omega
   ·rw[bO S]at J;rw[H.au,if_neg S]at B;exact hr.inj x y lx ly ox oy u J G B L M I
 ·by_cases e:x=h.next
  ·simp_all
  ·rw[bO e]at u;exact .inl u
 ·by_cases e:x=h.next
  ·subst e;rw[bA]at u;cases u;exact .inr (.inl hl)
  ·rw[bO e]at u;exact .inl u
def zT{s d:TypeId}{x0:Operand}(S:o.op= .convert s d x0)(E:aY P o=Iz ao)(J:ao.effect=Jb)(B:aop a h ao=Iz (v,h',rd))(ht:Ops ρ a act ao.dh)(hr:HR P ρ h w)
  (O:∀y,h.next<=y->y<h'.next->ρ y=Ja):EF P ρ h w ((execOp act.eval o).run P w) v h':=by
 simp only[aY,S]at E;split at E
 ·cases E;simp[AO.effect]at J
 ·cases E;simp[AO.effect]at J
 ·split at E
  ·cases E;simp[AO.effect]at J
  ·cases E
 ·rename_i e x' hs hd T;split at E
  ·rename_i he;cases E;simp only[AO.dh]at ht;have K:=aX T ht;simp only[aop]at B;split at B
   ·rename_i G M;split at B
    ·rename_i a6;cases B;rw[M]at K;have Q:G.size<=maxLen:=by unfold maxLen;omega
     have U:=grownCap_ge w G.size 0 e;have V:=grownCap_le_maxLen w G.size 0 e Q;have I:(execOp act.eval o).run P w= .ok (.value (.slice (Iz ⟨w.heap.size,0,Ja⟩) G.size (grownCap w G.size 0 e))) (Lib.bytesWorld w e G):=by simp only[execOp,S,K.cv,Sem.run_bind,Lib.run_convert_string_bytes w s d e G hs hd he,Result.andThen_ok,Sem.run_pure]
     have Y:(Lib.bytesCells w e G).size=grownCap w G.size 0 e:=by
      have:G.data.size=G.size:=rfl
      grind [Lib.bytesCells]
     have R:=O h.next (Ac _) (by simp);obtain⟨Z,g2⟩:=HR.add (w':=Lib.bytesWorld w e G) (ob:= .cells 0 Jc (G.data.toList.map fun b=> .int .u8 b.toNat)) (l:=⟨w.heap.size,0,(Lib.bytesCells w e G).size⟩) hr R
      (Lib.bytesWorld_below w e G) (Ac _) (by rw[Lib.bytesWorld_size];exact Gd _)
      ⟨_,_,_,Lib.bytesWorld_at_new w e G,rfl,by
       have:G.data.size=G.size:=rfl;simp[Y,this];omega,(fun h=>by cases h),fun i v hv=>by
        rw[Ap]at hv
        cases hb:G.data.toList[i]? with
        | none=>rw[hb]at hv;cases hv
        | some b=>
         rw[hb]at hv;cases hv;refine⟨.int .u8 b.toNat,?_,.int _ _⟩;have hi:i<G.data.size:=by rw[Bu]at hb;exact(Array.getElem?_eq_some_iff.1 hb).1
         rw[Bu]at hb;simp[Lib.bytesCells,Array.getElem?_append,hi];rw[if_pos (show i<G.size from hi),hb];rfl⟩
     refine⟨_,_,_,.inl I,.slice Jc 1 h.next 0 G.size _ _ U V (fun h=>by cases h) (fun _=>⟨_,bA _ _ _,rfl,?_⟩),Z,g2⟩
     grind
    grind
   grind
  ·cases E
 ·rename_i e0 e x' hs hd T;split at E
  ·rename_i a0;subst a0;split at E
   ·rename_i he;cases E;simp only[AO.dh]at ht;have K:=aX T ht;simp only[aop]at B;split at B
    ·rename_i fl sz b i n M;split at B
     ·rename_i ver cs hg;split at B
      ·rename_i h0;cases B;rw[M]at K;obtain⟨ad,a1,a2,Z,g2,g3,g4⟩:=K.bt;obtain⟨l,hl,rfl,g5⟩:=g4 (by omega);obtain⟨L,fz,e',k1,k2,k4,k5,k6⟩:=hr.obj b l _ hl hg;have:=k5 rfl;subst this;have hlt:=(Array.getElem?_eq_some_iff.1 k1).1;have hw:∀k,(w.freeze ⟨l.blk,L.size,Ja⟩ 1).heap[k]? =if k=l.blk then Iz (.cells L e' (L.size,L.size+1))else w.heap[k]? :=fun k=>by
        unfold World.freeze;rw[if_neg (by decide)];simp only[Array.getElem?_modify];by_cases q:l.blk=k
        ·subst q;rw[if_pos rfl,if_pos rfl,k1];rfl
        ·rw[if_neg q,if_neg fun h=>q h.symm]
       have a3:e0=e:=by rw[hs]at hd;cases hd;rfl
       subst a3;have a4:w.shape? l.blk=Iz (e',L.size):=by unfold World.shape?;rw[k1]
       have I:(execOp act.eval o).run P w= .ok (.value (.slice (Iz ⟨l.blk,l.base+i,Ja⟩) n a1)) (w.freeze ⟨l.blk,L.size,Ja⟩ 1):=by simp[execOp,S,a2,convert,run_underlying hs,run_underlying he,markStringish,a4]
       have R:=O h.next (Ac _) (by simp);have a5:OR P (upd ρ h.next l) (w.freeze ⟨l.blk,L.size,Ja⟩ 1) l (.cells 0 Jc cs):=⟨L,_,e',by rw[hw,if_pos rfl],k2,k4,(fun h=>by cases h),fun i v hv=>by
        obtain⟨u,p,q⟩:=k6 i v hv;exact⟨u,p,q.mono (gM R)⟩⟩
       obtain⟨t1,t2⟩:=HR.px (w':=w.freeze ⟨l.blk,L.size,Ja⟩ 1) hr R hl hg rfl (by unfold World.freeze;rw[if_neg (by decide)];simp) (by unfold World.freeze;rw[if_neg (by decide)]) (by unfold World.freeze;rw[if_neg (by decide)]) (by unfold World.freeze;rw[if_neg (by decide)]) (fun k hk=>by rw[hw k,if_neg hk]) a5;exact⟨_,_,_,.inl I,.slice _ _ _ _ _ _ _ Z g2 g3 fun _=>⟨l,bA _ _ _,rfl,g5⟩,t1,t2⟩
      ·cases B
     ·cases B
    ·cases B
   ·cases E
  ·cases E
 ·cases E
def aCF(u:aY P o=Iz ao)(G:ao.effect=Jb)(L:∀f args,ao≠ .call f args)(B:aop a h ao=Iz (v,h',rd))(ht:Ops ρ a act ao.dh)(hr:HR P ρ h w)
  (J:∀y,h.next<=y->y<h'.next->ρ y=Ja):EF P ρ h w ((execOp act.eval o).run P w) v h':=by
 rcases GW u G with⟨t,p,x,E⟩ | ⟨t,m,k,x,E⟩ | ⟨c,E⟩ | ⟨s,d,x,E⟩
 rotate_right
 ·exact zT E u G B ht hr J
 ·exact UJ E u B ht hr
 ·exact BR E u B ht hr
 ·cases K:c.callee with
  | builtin b=>
   have I:=u;simp only[aY,E,K]at I;rcases pR I G with⟨rfl,size,bytes,s,x,rfl⟩ | ⟨rfl,bytes,z,s,x,rfl⟩ | ⟨rfl,size,d,x,rfl⟩ | ⟨rfl,z,x,rfl⟩
   ·exact NH E K u B ht hr J
   ·exact zU E K u B ht hr J
   ·exact ZY E K u B ht hr
   ·exact UK E K u B ht hr
  | value f=>
   simp only[aY,E,K]at u
   grind
  | invoke r m=>
   simp only[aY,E,K]at u
   grind
def aE4(E:xL P o=Iz ao)(u:ao.effect=Jb)(G:∀f args,ao≠ .call f args)(B:aop a h ao=Iz (v,h',rd))(ht:Ops ρ a act ao.dh)(hr:HR P ρ h w)
  (I:∀y,h.next<=y->y<h'.next->ρ y=Ja):EF P ρ h w ((execOp act.eval o).run P w) v h':=by
 rcases mQ _ E with h0 | ⟨rfl,_⟩
 ·exact aCF h0 u G B ht hr I
 ·simp[AO.stuck,AO.effect]at u
end
def fO(u:Option Nat):Fence:={Fence.wide with round:=u}
def cz(ρ:Emb)(h u:H):Prop:=∀y,h.next<=y->y<u.next->ρ y=Ja
def cz.first{ρ:Emb}{h h1 h2:H}(hf:cz ρ h h2)(e:Ev h1 h2):cz ρ h h1:=fun y a b=>hf y a (Nat.lt_of_lt_of_le b e.next)
def cz.rest{ρ u:Emb}{h h1 h2:H}{w B:World}(hf:cz ρ h h2)(e:Ev h h1)(s:Stp ρ h w u h1 B):cz u h1 h2:=fun y a b=>by
 cases E:u y with
 | none=>rfl
 | some l=>
  rcases s.dom y l E with h0 | ⟨_,h0⟩
  ·rw[hf y (Nat.le_trans e.next a) b]at h0;cases h0
  ·omega
def MK(B:Nat)(ρ:Emb)(w:World):List Deferred->Prop
 | []=>True
 | d::ds=>(∃D,B<=D/\d={target:= .collected D,args:= #[]}/\w.heap[D]? =Iz (.deferred (Iz []))/\(∀x l,ρ x=Iz l->l.blk≠D)/\({target:= .collected D,args:= #[]} :Deferred)∉ds)/\MK B ρ w ds
def MK.step{B:Nat}{ρ E:Emb}{h G:H}{w w':World}(s:Stp ρ h w E G w'):∀{ds:List Deferred},MK B ρ w ds->MK B E w' ds
 | [],_=>trivial
 | d::ds,⟨⟨D,I,h1,h2,h3,J⟩,hr⟩=>by
  have hlt:D<w.heap.size:=(Array.getElem?_eq_some_iff.1 h2).1;refine⟨⟨D,I,h1,?_,fun x l u=>?_,J⟩,MK.step s hr⟩
  ·rw[s.frame D hlt fun x l o u _ _=>h3 x l u];exact h2
  ·rcases s.own x l u with h0 | h0 | ⟨y,K,L,M,_,_,e⟩;all_goals grind
def Ctx(y:Option Nat)(ρ:Emb)(h:H):Prop:=∀l,y=Iz l->∃x u ver r,ρ x=Iz u/\u.blk=l/\h.get x=Iz (.loop ver r)
def Ctx.step{u:Option Nat}{ρ y:Emb}{h B:H}(E:Ctx u ρ h)(hs:Sub ρ y)(e:Ev h B):Ctx u y B:=fun l hl=>by obtain⟨x,G,ver,r,h1,h2,h3⟩:=E l hl;obtain⟨I,J,K⟩:=e.pz h3;exact⟨x,G,I,J,hs _ _ h1,h2,K⟩
def vR(P:Program)(ρ:Emb)(h:H)(w:World)(v:AV)(B:H):Ending->World->Prop:=fun e w'=>∃u y,e= .returned u/\VR y v u/\HR P y B w'/\Stp ρ h w y B w'
def Ex.gh:Ex->Exit
 | .normal=> .normal
 | .ret=> .ret
 | .exit id=> .exit id
def ik(P:Program)(B:Nat)(ρ:Emb)(h:H)(w:World)(e:Ex)(G:List AV)(E:H):Exit->Act->World->Prop:=fun x u w'=>
 x=e.gh/\∃y,TR y G u.tmps/\HR P y E w'/\Stp ρ h w y E w'/\MK B y w' u.defers
def nE(F:Fence)(n:Nat)(P:Program)(l:Nat)(c:Code)(Q:Exit->Act->World->Prop):Nat->Act->World->Prop
 | 0,_,_=>False
 | m+1,a,w=>c.wpIn F n P (fun e a w=>match e with | .goto u=>u=l/\nE F n P l c Q m a w | e=>Q e a w) a w
def unE(l:Nat):Ex->Ex
 | .exit id=>if id=2097152+l then .normal else .exit id
 | e=>e
structure eu (P:Program) (rec:Rec) (m:Nat):Prop where
 nh:∀g args h v h',rec.call g args h=Iz (v,h')->Ev h h'
 nv:∀g args h v h',rec.call g args h=Iz (v,h')->∃fn,P.funcs[g]? =Iz fn/\fn.body.isSome=Jb/\(fn.name== "runtime.NumGoroutine")=Jc
 call:∀g args h v h',rec.call g args h=Iz (v,h')->∀ρ w us,VRs ρ args us->HR P ρ h w->cz ρ h h'->CallsIn Fence.wide 0 P g us.toArray w (vR P ρ h w v h')
 jy:∀ac a h e a' h',rec.code ac a h=Iz (e,a',h')->Ev h h'
 code:∀c ac,nO P c ac->∀a h e a' h',rec.code ac a h=Iz (e,a',h')->∀ro B ρ w act,B<=w.heap.size->Ctx ro ρ h->TR ρ a act.tmps->HR P ρ h w->cz ρ h h'->MK B ρ w act.defers->
  c.wpIn (fO ro) 0 P (ik P B ρ h w e a' h') act w
 loop:∀c ac,nO P c ac->∀sc a h e a' h',rec.code (.loop sc ac) a h=Iz (e,a',h')->∀ro B ρ w act,B<=w.heap.size->Ctx ro ρ h->TR ρ a act.tmps->HR P ρ h w->cz ρ h h'->MK B ρ w act.defers->
  Code.roundsIn (fO ro) 0 P c (ik P B ρ h w e a' h') m act w
 jump:∀l c ac,aA7 P l c ac->∀sc a h e a' h',rec.code (.loop sc (.block (1048576+l) (.seq ac (.exit (2097152+l))))) a h=Iz (e,a',h')->∀ro B ρ w act,B<=w.heap.size->Ctx ro ρ h->TR ρ a act.tmps->HR P ρ h w->cz ρ h h'->MK B ρ w act.defers->
  nE (fO ro) 0 P l c (ik P B ρ h w (unE l e) a' h') m act w
section
variable {P:Program} {ρ:Emb} {w:World} {a:List AV} {act:Act} {h h':H} {o:Oper} {ao:AO} {v:AV} {rd:List Nat} {rec:Rec} {m:Nat}
def CI:∀{ps:List Nat} {args:List AV} {y:List Value} {b:List AV} {tmps:Array Value},TR ρ b tmps->VRs ρ args y->TR ρ (fq b ps args) ((ps.zip y).foldl (fun tmps (x:Nat×Value)=>tmps.setIfInBounds x.1 x.2) tmps)
 | [],args,y,b,tmps,hb,hv=>by cases args<;>simpa [fq]using hb
 | p::ps,[],y,b,tmps,hb,hv=>by rw[hv.ct];simpa [fq]using hb
 | p::ps,x::args,y,b,tmps,hb,hv=>by obtain⟨u,B,rfl,h1,h2⟩:=hv.cons_inv;simp only[fq,List.zip_cons_cons,Du];exact CI (hb.set p h1) h2
def fy.busy{r:lm}{r':Loop}(hl:fy P ρ r r'):fy P ρ {r with state:= .busy} {r' with state:= .busy} :=⟨rfl,hl.pending,hl.nc,hl.tmps,hl.params,hl.asg,hl.body⟩
inductive qc (P:Program) (ρ:Emb) (h:H) (w:World) (v:AV) (h':H):Result Next->Prop
 | enter (g:FuncId) (args:Array Value) (hc:CallsIn Fence.wide 0 P g args w (vR P ρ h w v h')):qc P ρ h w v h' (.ok (.enter g args) w)
 | round (l:Nat) (f:FuncId) (tmps:Array Value) (asg body:Code) (hc:RoundIn Fence.wide 0 P l f tmps asg body w (vR P ρ h w v h')):qc P ρ h w v h' (.ok (.round l f tmps asg body) w)
def KD(E:eu P rec m){f:AV}{args:List AV}(u:eX rec f args h=Iz (v,h')):Ev h h':=by
 unfold eX at u;split at u
 ·exact E.nh _ _ _ _ _ u
 ·rename_i l first L
  split at u
  ·rename_i ver r hg;split at u
   ·split at u
    ·rename_i S h1 B;have M:=E.jy _ _ _ _ _ _ B;split at u
     ·rename_i G O I;split at u
      ·split at u
       ·rename_i e T h3 y;have Q:=E.jy _ _ _ _ _ _ y;have R:Ev h1 (h1.set l (.loop (G+1) {O with state:= .busy})):=Ev.set I (.inr (.inr ⟨G,G+1,rfl,rfl,by omega,rfl,rfl,rfl⟩)) rfl;split at u
        ·rename_i K U J;split at u<;>cases u;all_goals exact((M.trans R).trans Q).trans (Ev.set J (.inr (.inr ⟨K,K+1,rfl,rfl,by omega,rfl,rfl,rfl⟩)) rfl)
        grind
       grind
      grind
     grind
    grind
   grind
  grind
 ·split at u
  ·exact E.nh _ _ _ _ _ u
  grind
 grind
def nA{P:Program}{m:String}{t:TypeId}{g:FuncId} :∀{l:List Nat},jD (kX P m l) t=Iz g->FE P m t=Iz g
 | [],hf=>by simp[kX,jD]at hf
 | x::r,hf=>by
  unfold kX at hf
  cases u:FE P m x with
  | none=>rw[u]at hf;exact nA hf
  | some f=>
   rw[u]at hf;simp only[jD]at hf;split at hf
   ·rename_i e;have:x=t:=Int.ofNat_inj.1 e;simp_all
   ·exact nA hf
def aAh(R:eu P rec m){n:String}{l:List Nat}{args:List AV}{us:List Value}(u:eX rec (.func (.methodOf 0 n) (kX P n l) []) args h=Iz (v,h'))(E:VRs ρ args us)(hr:HR P ρ h w)(I:cz ρ h h'):
  qc P ρ h w v h' ((invoke (.fn (.method n) #[]) us.toArray:Sem Next).run P w):=by
 simp only[eX]at u;split at u
 ·rename_i g la ht;unfold qE at ht;split at ht
  ·rename_i t x rest;split at ht
   ·rename_i g' hg;cases ht;have hm:=nA hg;obtain⟨S,y,rfl,T,J⟩:=E.cons_inv;obtain⟨B,rfl,K⟩:∃B,S= .iface t B/\VR ρ x B:=by cases T;exact⟨_,rfl,by assumption⟩
    unfold FE at hm;split at hm
    ·rename_i i e U V;split at hm
     ·rename_i mm G;split at hm
      ·rename_i f Y hf;cases hm;obtain⟨fn,Z,q2,q3⟩:=R.nv _ _ _ _ _ u;have hc:=R.call _ _ _ _ _ u ρ w _ (VRs.cons K J) hr I;have e:(invoke (.fn (.method n) #[]) (Value.iface t B::y).toArray:Sem Next).run P w= .ok (.enter g (B::y).toArray) w:=by
        have hb:fn.body.isNone=Jc:=by cases hb:fn.body<;>simp_all
        have L:∀k,(method (k+1) t B n).run P w= .ok (g,B) w:=by intro k;unfold method;simp only[Sem.run_bind,jP U,Result.andThen_ok,G,Y,follow,Sem.run_pure,hf,receiverAt,run_underlying V,Place.get]
        have M:∃k,P.types.size+Made.depth=k+1:=⟨P.types.size+Made.depth-1,by unfold Made.depth;omega⟩;obtain⟨k,hk⟩:=M;have O:∀as,(callFunc g as).run P w= .ok (.enter g as) w:=by
         intro as;simp only[callFunc,Sem.run_bind,run_program,Result.andThen_ok,Z];rw[if_neg (by rw[q3];simp),if_neg (by rw[hb];simp)];simp
        have Q:(callMethod (.iface t B) n y.toArray).run P w= .ok (.enter g (B::y).toArray) w:=by simp only[callMethod,Sem.run_bind,run_program,Result.andThen_ok,hk,L,O];simp_all
        rw[<-Q];simp[invoke]
       rw[e];exact .enter _ _ hc
      ·cases hm
     ·cases hm
    ·cases hm
   ·cases ht
  ·cases ht
 ·cases u
def aAg(ok:eu P rec m){f:AV}{args:List AV}{fv:Value}{R:List Value}(B:eX rec f args h=Iz (v,h'))(hf:VR ρ f fv)(E:VRs ρ args R)(hr:HR P ρ h w)(I:cz ρ h h'):
  qc P ρ h w v h' ((do let d <-Deferred.ofValue fv R.toArray;invoke d.target d.args:Sem Next).run P w):=by
 have a3:=B;unfold eX at B;split at B
 ·rename_i g first b7
  cases hf with
  | func _ _ _ f' c' hp a6 a7 h1 h2=>
   obtain⟨fn,q1,q2,q3⟩:=ok.nv _ _ _ _ _ B;have b2:VRs ρ (first++args++b7) (f'++R++c'):=(VRs.append (VRs.append ⟨a6,h1⟩ E) ⟨a7,h2⟩);have hc:=ok.call _ _ _ _ _ B ρ w _ b2 hr I;have e:(do let d <-Deferred.ofValue (.func (.func g) f'.toArray c'.toArray) R.toArray;invoke d.target d.args:Sem Next).run P w= .ok (.enter g (f'++R++c').toArray) w:=by
    have hb:fn.body.isNone=Jc:=by cases hb:fn.body<;>simp_all
    simp only[Deferred.ofValue,Sem.run_bind,Sem.run_pure,Result.andThen_ok,invoke,callFunc,run_program,q1];rw[if_neg (by rw[q3];simp),if_neg (by rw[hb];simp)];simp
   rw[e];exact .enter _ _ hc
 ·rename_i l first b7
  cases hf with
  | func _ _ _ f' c' hp a6 a7 h1 h2=>simp[rR]at hp
  | yield r G a9=>
   split at B
   ·rename_i ver rr hg;split at B
    ·rename_i hlen;obtain⟨S,c3,K⟩:=hr.obj l G _ a9 hg;simp only[An]at hlen B;have c4:R.toArray.size=S.params.size:=by
      have h1:=E.1;have h2:S.params.toList.length=rr.params.length:=by rw[K.params]
      simp_all
     have e:(do let d <-Deferred.ofValue (.func (.yield G.blk) #[] #[]) R.toArray;invoke d.target d.args:Sem Next).run P w=
       .ok (.round G.blk S.fn ((S.params.zip R.toArray).foldl (fun tmps (t,a)=>tmps.setIfInBounds t a) S.tmps) S.assign S.body) w:=by
      simp only[Deferred.ofValue,Sem.run_bind,Sem.run_pure,Result.andThen_ok,invoke];rw[Array.empty_append];exact run_yield c3 c4
     rw[e];refine .round _ _ _ _ _ ?_;have ht:TR ρ (fq rr.tmps rr.params args) ((S.params.zip R.toArray).foldl (fun tmps (t,a)=>tmps.setIfInBounds t a) S.tmps):=by have:=CI (ps:=rr.params) K.tmps E;rw[<-K.params]at this ⊢;rw[<-Hf];simp_all
     refine roundIn_of_wpIn (F:=Fence.wide) trivial ?_;have V:Ctx (Iz G.blk) ρ h:=fun l' L=>by cases L;exact⟨l,G,ver,rr,a9,rfl,hg⟩
     split at B
     ·rename_i a1 h1 Y;have M:=ok.jy _ _ _ _ _ _ Y;have e2:=KD ok a3;split at B
      ·rename_i v1 r1 b0;split at B
       ·rename_i T;split at B
        ·rename_i ee a2 h3 O;have J:Ev h1 (h1.set l (.loop (v1+1) {r1 with state:= .busy})):=Ev.set b0 (.inr (.inr ⟨v1,v1+1,rfl,rfl,by omega,rfl,rfl,rfl⟩)) rfl;have U:=ok.jy _ _ _ _ _ _ O;split at B
         ·rename_i v3 r3 b1;have a4:h'.next=h3.next:=by split at B<;>cases B<;>rfl
          have b8:Ev h3 h':=by split at B<;>cases B;all_goals exact Ev.set b1 (.inr (.inr ⟨v3,v3+1,rfl,rfl,by omega,rfl,rfl,rfl⟩)) rfl
          have c5:cz ρ h h1:=fun y p q=>I y p (by have:=J.next;have:=U.next;omega);have c6:=ok.code _ _ K.asg _ _ _ _ _ Y (Iz G.blk) 0 ρ w {tmps:=_,defers:=[]} (Af _) V ht hr c5 trivial;refine wpIn_mono c6 ?_;rintro x b3 w1 ⟨rfl,ρ1,t1,Z,s1,c7⟩;simp only[Ex.gh,Exit.then];have Q:=s1.sub _ _ a9;obtain⟨c0,q1,q2⟩:=Z.obj l G _ Q b0;have c8:c0.state= .ready:=by rw[q2.state];exact T
          have b4:G.blk<w1.heap.size:=(Array.getElem?_eq_some_iff.1 q1).1;refine⟨_,run_beginRound q1 c8,?_⟩;obtain⟨c9,sb⟩:=HR.turn (o':= .loop (v1+1) {r1 with state:= .busy}) (w':=w1.putObj G.blk (.loop {c0 with state:= .busy})) Z Q b0 rfl (by simp) rfl rfl rfl (fun b hb=>World.putObj_heap_other hb) ⟨_,World.putObj_heap_same b4,q2.busy⟩;have d0:cz ρ1 (h1.set l (.loop (v1+1) {r1 with state:= .busy})) h3:=(I.rest M s1).first b8;have a5:Ctx (Iz G.blk) ρ1 (h1.set l (.loop (v1+1) {r1 with state:= .busy})):=(V.step s1.sub M).step (Sub.refl _) J;have d4:=ok.code _ _ K.body _ _ _ _ _ O (Iz G.blk) 0 ρ1 _ b3 (Af _) a5 t1 c9 d0 (c7.step sb);refine wpIn_mono d4 ?_;rintro x e1 w3 ⟨rfl,ρ3,t3,c1,s3,_⟩;have a0:=s3.sub _ _ Q;obtain⟨c2,p1,p2⟩:=c1.obj l G _ a0 b1;have b5:G.blk<w3.heap.size:=(Array.getElem?_eq_some_iff.1 p1).1;have fin:∀(jump:Option Code) (L:Option Ex),(L=Ja\/∃q,L=Iz q/\q≠ .normal)->jump=L.bind Ex.jump->jump.isNone=L.isNone->v= .bool jump.isNone->
            h'=h3.set l (.loop (v3+1) {r3 with state:=if jump.isNone then .ready else .done,pending:=L})->
            ∃u w',(Instr.endRound G.blk jump).run P w3= .ok u w'/\vR P ρ h w v h' (.returned u) w':=by
           intro jump L d5 d6 e3 hv hh;refine⟨_,_,run_endRound jump p1,.bool jump.isNone,ρ3,rfl,by rw[hv];exact .bool _,?_⟩;have b6:fy P ρ3 {r3 with state:=if jump.isNone then .ready else .done,pending:=L} {c2 with state:=if jump.isNone then .ready else .done,pending:=jump} :=
            ⟨rfl,d6,by rcases d5 with rfl | ⟨q,rfl,hq⟩;simp;simpa using hq,p2.tmps,p2.params,p2.asg,p2.body⟩
           obtain⟨d7,sf⟩:=HR.turn (o':= .loop (v3+1) {r3 with state:=if jump.isNone then .ready else .done,pending:=L}) (w':=w3.putObj G.blk (.loop {c2 with state:=if jump.isNone then .ready else .done,pending:=jump})) c1 a0 b1 rfl (by simp) rfl rfl rfl (fun b hb=>World.putObj_heap_other hb) ⟨_,World.putObj_heap_same b5,b6⟩;rw[hh];refine⟨d7,?_⟩;have d8:Ev h3 (h3.set l (.loop (v3+1) {r3 with state:=if jump.isNone then .ready else .done,pending:=L})):=by rw[<-hh];exact b8
           have f1:∀y,h.next<=y->y<h3.next->ρ y=Ja:=fun y a b=>I y a (by omega);have d9:=s1.trans sb M J (fun y a b=>I y a (by have:=U.next;simp at b;have:=J.next;omega));have e0:=d9.trans s3 (M.trans J) U f1;exact e0.trans sf ((M.trans J).trans U) d8 (fun y a b=>I y a (by rw[a4];simpa using b))
          split at B
          ·rename_i hn;subst hn;cases B;obtain⟨u,w',g1,g2⟩:=fin Ja Ja (.inl rfl) rfl rfl rfl rfl;exact⟨u,w',g1,g2⟩
          ·rename_i hn;cases B
           cases ee with
           | normal=>exact absurd rfl hn
           | ret=>exact fin (Iz .ret) (Iz .ret) (.inr ⟨_,rfl,hn⟩) rfl rfl rfl rfl
           | exit id=>exact fin (Iz (.exit id)) (Iz (.exit id)) (.inr ⟨_,rfl,hn⟩) rfl rfl rfl rfl
         ·cases B
        ·cases B
       ·cases B
      ·cases B
     ·cases B
    ·cases B
   grind
 ·cases hf with
  | func _ _ _ f' c' hp a6 a7 h1 h2=>simp[rR]at hp
 ·cases B
end
section
variable {P:Program} {ρ:Emb} {w:World} {a:List AV} {act:Act} {h h':H} {o:Oper} {ao:AO} {v:AV} {rd:List Nat} {rec:Rec} {m:Nat}
def ED(u:xL P o=Iz ao):∀c,o.op≠ .defer c:=by
 intro c e;rcases mQ _ u with h0 | ⟨_,h0⟩
 ·simp[aY,e]at h0
 ·rw[e]at h0;cases h0
def O6{y:Option Nat}{next:Act->World->Prop}{Q:Exit->Act->World->Prop}(u:xL P o=Iz ao)(B:o.uponIn (fO y) 0 P act next Q ((execOp act.eval o).run P w)):o.wpIn (fO y) 0 P act w next Q:=
 ⟨fun _ _=>trivial,by rw[Oper.semAt_eq _ _ _ (ED u)];exact B⟩
def SM{f:AR}{args:List AR}(u:xL P o=Iz (.call f args)):(∃c B,o.op= .call c/\c.callee= .value B/\trR B=Iz f/\BD c.args.toList=Iz args)\/
  ∃c G n x I l,o.op= .call c/\c.callee= .invoke G n/\f= .const (.func (.methodOf 0 n) (kX P n l) [])/\trR G=Iz x/\BD c.args.toList=Iz I/\args=x::I:=by
 have u:aY P o=Iz (.call f args):=(mQ _ u).resolve_right fun q=>by cases q.1
 rcases GW u rfl with⟨t,p,x,y⟩ | ⟨t,m,k,x,y⟩ | ⟨c,y⟩ | ⟨s,d,x,y⟩
 rotate_right
 ·simp only[aY,y]at u
  grind
 ·simp only[aY,y]at u;split at u<;>cases u
 ·rcases y with y | y;all_goals (simp only[aY,y]at u;repeat' split at u)
  all_goals cases u
 ·cases E:c.callee with
  | builtin b=>simp only[aY,y,E]at u;rcases pR u rfl with⟨_,_,_,_,_,e⟩ | ⟨_,_,_,_,_,e⟩ | ⟨_,_,_,_,e⟩ | ⟨_,_,_,e⟩<;>cases e
  | value B=>
   simp only[aY,y,E]at u
   grind
  | invoke r m=>
   simp only[aY,y,E]at u
   grind
def wK(y:eu P rec m)(u:gJ rec ao a h=Iz (v,h',rd)):Ev h h':=by
 cases ao with
 | call f args=>
  simp only[gJ]at u;split at u
  ·rename_i hv;cases u;exact KD y hv
  grind
 | _=>simp only[gJ]at u;exact aFf u
def HM(ok:eu P rec m)(G:xL P o=Iz ao)(y:gJ rec ao a h=Iz (v,h',rd)){E:Option Nat}{next:Act->World->Prop}{Q:Exit->Act->World->Prop}(ht:Ops ρ a act ao.dh)(hr:HR P ρ h w)(I:cz ρ h h')
  (S:∀u K w',VR K v u->HR P K h' w'->Stp ρ h w K h' w'->next (act.put o.dst u) w'):o.wpIn (fO E) 0 P act w next Q:=by
 refine O6 G ?_;by_cases T:∃f args,ao= .call f args
 ·obtain⟨f,args,rfl⟩:=T;simp only[AO.dh]at ht;simp only[gJ]at y;split at y
  ·rename_i hv;cases y;have hw:qc P ρ h w v h' ((execOp act.eval o).run P w):=by
    rcases SM G with⟨c,fo,U,L,h1,h2⟩ | ⟨c,E,n,x,xs,l,U,L,rfl,h1,h2,rfl⟩
    ·have hf:=aX h1 ht.left;have V:=mP h2 ht.right;have hw:=aAg ok hv hf V hr I;have e:(execOp act.eval o).run P w=(do let d <-Deferred.ofValue (act.eval fo) (c.args.toList.map act.eval).toArray;invoke d.target d.args:Sem Next).run P w:=by
      have Y:(c.args.map act.eval)=(c.args.toList.map act.eval).toArray:=by apply Ci;simp
      simp only[execOp,U,resolve,L,Y]
     rw[e];exact hw
    ·have M:=ht.right;simp only[Br]at M;have hx:=aX h1 M.left;have V:=mP h2 M.right;have hw:=aAh ok (us:=act.eval E::c.args.toList.map act.eval) hv (VRs.cons hx V) hr I;have e:(execOp act.eval o).run P w=(invoke (.fn (.method n) #[]) (act.eval E::c.args.toList.map act.eval).toArray:Sem Next).run P w:=by
      have Y: #[act.eval E]++c.args.map act.eval=(act.eval E::c.args.toList.map act.eval).toArray:=by apply Ci;simp
      simp only[execOp,U,resolve,L,Y,Sem.run_bind,Sem.run_pure,Result.andThen_ok]
     rw[e];exact hw
   generalize (Sem.run P (execOp act.eval o) w)=R at hw
   cases hw with
   | enter g as hcall=>
    rw[Oper.uponIn_enter];refine⟨fun hh=>by simp[fO,Fence.wide]at hh,CallsIn.mono (F:=fO E) (show CallsIn (fO E) 0 P g as w _ from hcall) ?_⟩;rintro e w' ⟨u,K,rfl,q1,q2,q3⟩
    grind
   | round l f O Z body J=>
    rw[Oper.uponIn_round];refine⟨fun hh=>by simp[fO,Fence.wide]at hh,RoundIn.mono (F:=fO E) (show RoundIn (fO E) 0 P l f O Z body w _ from J) ?_⟩;rintro e w' ⟨u,K,rfl,q1,q2,q3⟩
    grind
  grind
 ·have B:aop a h ao=Iz (v,h',rd):=by cases ao<;>first | exact y | exact absurd ⟨_,_,rfl⟩ T
  cases he:ao.effect with
  | false=>
   obtain⟨u,⟨rfl,e,hv⟩ | ⟨ob,cb,l,rfl,hb,e,hv⟩⟩:=aDQ G he B ht fun x hx l ob hl hg=>hr.obj x l ob hl hg
   ·rw[e];exact S u ρ w hv hr (Stp.refl _ _ _)
   ·have hn:=I h.next (Ac _) (by simp);obtain⟨h1,h2⟩:=hv hn;obtain⟨g1,g2⟩:=HR.alloc hr hn hb h2;rw[e];exact S u _ _ h1 g1 g2
  | true=>
   obtain⟨u,w',K,e | ⟨e,rfl⟩,h1,h2,h3⟩:=aE4 G he (fun f args e=>T ⟨f,args,e⟩) B ht hr I
   ·rw[e];exact S u K w' h1 h2 h3
   ·rw[e];exact S _ K w' h1 h2 h3
def TR.ops{u:List Nat}(ht:TR ρ a act.tmps):Ops ρ a act u:=fun t _=>ht.get t
def sS{ops:Array Oper}{g:Option (Nat×Bool)}{b:Bool}(ht:∀t G,g=Iz (t,G)->VR ρ (fp a t) (act.tmps.getD t undef))(I:act.tmps.size=a.length)
  (hg:match o.guard with | none=>g=Ja | some (j,u)=>∃d,(ops[j]?).bind (·.dst)=Iz d/\g=Iz (d,u)):
  dB a g=Iz b->Region.wanted o (yielded ops act.tmps)=b:=by
 intro hw;unfold Region.wanted
 cases y:o.guard with
 | none=>rw[y]at hg;subst hg;simpa [dB]using hw
 | some p=>
  obtain⟨j,u⟩:=p;rw[y]at hg;obtain⟨d,hd,rfl⟩:=hg;have hv:=ht d u rfl;have hlt:d<act.tmps.size:=by
   rcases Nat.lt_or_ge d act.tmps.size with h0 | h0
   ·exact h0
   ·have J:fp a d= .ae:=by rw[hU,List.getElem?_eq_none (by omega)];rfl
    simp[dB,J]at hw
  have B:act.tmps[d]? =Iz (act.tmps.getD d undef):=by simp_all
  simp only[dB]at hw;simp only[yielded,hd,Ew,B];split at hw
  ·rename_i c E;rw[E]at hv;rw[hv.cm];cases hw
   grind
  ·rename_i K E;rw[E]at hv;obtain⟨L,e,_⟩:=hv.lu
   grind
  grind
def sY{ops:Array Oper}{x:aw}(u:sZ P ops o=Iz x):xL P o=Iz x.op/\x.dst=o.dst/\x.chk=[]/\
  (match o.guard with | none=>x.guard=Ja | some (j,y)=>∃d,(ops[j]?).bind (·.dst)=Iz d/\x.guard=Iz (d,y)):=by
 unfold sZ at u;split at u
 ·grind
 ·cases u
def zC(a:List AV)(d:Option Nat)(v:AV):(put a d v).length=a.length:=by cases d<;>simp[put,vF]
def E3(y:eu P rec m):∀{E:List aw} {a B:List AV} {h h':H},iJ rec E a h=Iz (B,h')->Ev h h'
 | [],a,B,h,h',u=>by cases u;exact Ev.refl h
 | x::E,a,B,h,h',u=>by
  simp only[iJ]at u;split at u
  ·split at u
   ·rename_i hs;exact(wK y hs).trans (E3 y u)
   grind
  ·exact E3 y u
  grind
def ES(O:eu P rec m){ops:Array Oper}{ro:Option Nat}{Q:Exit->Act->World->Prop} :∀{T:List aw} {os:List Oper} {k:Nat} {a U:List AV} {h h':H} {B:Nat} {ρ:Emb} {w:World} {act:Act},
  (∀j,os[j]? =ops[k+j]?)->eI (sZ P ops) os=Iz T->iJ rec T a h=Iz (U,h')->TR ρ a act.tmps->HR P ρ h w->cz ρ h h'->MK B ρ w act.defers->
  (∀M w' E,TR M U E.tmps->HR P M h' w'->Stp ρ h w M h' w'->MK B M w' E.defers->Q .normal E w')->
  wpOpsIn (fO ro) 0 P ops Q (List.range' k os.length) act w
 | T,[],k,a,U,h,h',B,ρ,w,act,L,G,y,ht,hr,I,J,V=>by cases G;cases y;exact V ρ w act ht hr (Stp.refl _ _ _) J
 | T,o::os,k,a,U,h,h',B,ρ,w,act,L,G,y,ht,hr,I,J,V=>by
  have h0:ops[k]? =Iz o:=by simpa using (L 0).symm
  unfold eI at G;split at G
  ·rename_i x a0 hx R;cases G;obtain⟨q1,q2,q3,q4⟩:=sY hx;have K:∀j,os[j]? =ops[k+1+j]? :=fun j=>by
    have:=L (j+1)
    grind
   have S:act.tmps.size=a.length:=by have:=ht.1;simpa using this
   simp only[Ao,List.range'_succ,wpOpsIn,h0];simp only[iJ]at y;split at y
   ·rename_i hw;split at y
    ·rename_i v h1 rd hs;have e1:=wK O hs;have e2:=E3 O y;rw[sS (fun t bb _=>ht.get t) S q4 hw];simp only[if_true];refine HM O q1 hs ht.ops hr (I.first e2) ?_;intro u ρ1 w1 hv Z Y;rw[<-q2];exact ES O K R y ((ht.mono Y.sub).put x.dst hv) Z (I.rest e1 Y) (by cases x.dst<;>exact J.step Y)
      (fun M w' E t' r' s' m'=>V M w' E t' r' (Y.trans s' e1 e2 I) m')
    grind
   ·rename_i hw;rw[sS (fun t bb _=>ht.get t) S q4 hw];simp only[Bs,if_false];refine⟨fun _ _=>trivial,?_⟩;rw[<-q2];exact ES O K R y (ht.put x.dst VR.undef) hr I (by cases x.dst<;>exact J) V
   grind
  grind
end
structure Trace (rec:Rec) (xs:List aw) (a:List AV) (h:H) (a':List AV) (h':H) (A:Nat->List AV) (Hh:Nat->H) (V:Nat->AV) (RD:Nat->List Nat) (W:Nat->Bool):Prop where
 a0:A 0=a
 h0:Hh 0=h
 an:A xs.length=a'
 hn:Hh xs.length=h'
 put:∀i x,xs[i]? =Iz x->A (i+1)=put (A i) x.dst (V i)
 want:∀i x,xs[i]? =Iz x->dB (A i) x.guard=Iz (W i)
 run:∀i x,xs[i]? =Iz x->W i=Jb->gJ rec x.op (A i) (Hh i)=Iz (V i,Hh (i+1),RD i)
 skip:∀i x,xs[i]? =Iz x->W i=Jc->V i= .tuple []/\Hh (i+1)=Hh i
 chk:∀i j x,xs[i]? =Iz x->j<i->j∈x.chk->W i=Jb->W j=Jb->
  (if x.op.effect then(rdx (Hh j) (Hh (j+1)) (RD j)).all (fX (Hh i) (Hh (i+1)))else(rdx (Hh i) (Hh (i+1)) (RD i)).all (fX (Hh j) (Hh (j+1))))=Jb
def QL(x:aw)(rd:List Nat)(hb y:H)(u:List mg):Prop:=
 ∀e∈u,e.idx∈x.chk->(if x.op.effect then e.rd.all (fX hb y)else rd.all (fX e.hb e.ha))=Jb
def NO{x:aw}{rd:List Nat}{hb y:H}{u:List mg}(h:AA x.op.effect rd hb y u x.chk=Jb):QL x rd hb y u:=by
 intro e he B;unfold AA at h
 grind
def cV{α:Type}(x:α)(f:Nat->α):Nat->α
 | 0=>x
 | n+1=>f n
section
variable {rec:Rec}
def LH:∀{I:List aw} {k:Nat} {a Q:List AV} {h R:H} {K:List mg},(∀x∈I,True)->fL rec I k a h K=Iz (Q,R)->
  ∃A M V RD W,Trace rec (I.map fun x=>{x with chk:=x.chk.filterMap fun j=>if k<=j then Iz (j-k)else Ja}) a h Q R A M V RD W/\
   (∀i x,I[i]? =Iz x->W i=Jb->QL x (rdx (M i) (M (i+1)) (RD i)) (M i) (M (i+1)) K)
 | [],k,a,Q,h,R,K,_,E=>by cases E;exact⟨fun _=>a,fun _=>h,fun _=> .ae,fun _=>[],fun _=>Jc,⟨rfl,rfl,rfl,rfl,by simp,by simp,by simp,by simp,by simp⟩,by simp⟩
 | x::I,k,a,Q,h,R,K,_,E=>by
  simp only[fL]at E;split at E
  ·rename_i hw;split at E
   ·rename_i v h1 rd hs;split at E
    ·rename_i hc;obtain⟨A,M,V,RD,W,T,L⟩:=LH (fun _ _=>trivial) E;have hg:=NO hc;refine⟨cV a A,cV h M,cV v V,cV rd RD,cV Jb W,⟨rfl,rfl,by simpa [cV]using T.an,by simpa [cV]using T.hn,?_,?_,?_,?_,?_⟩,?_⟩
     ·intro i y u
      cases i with
      | zero=>simp at u;subst u;exact T.a0
      | succ i=>
       have:=T.put i;simp only[Ai,Bv,Ap]at u this
       cases hz:I[i]? with
       | none=>simp[hz]at u
       | some z=>simp[hz]at u this;subst u;exact this
     ·intro i y u
      cases i with
      | zero=>simp at u;subst u;exact hw
      | succ i=>
       have:=T.want i;simp only[Ai,Bv,Ap]at u this
       cases hz:I[i]? with
       | none=>simp[hz]at u
       | some z=>simp[hz]at u this;subst u;exact this
     ·intro i y u B
      cases i with
      | zero=>simp at u;subst u;simp only[cV];rw[T.h0];exact hs
      | succ i=>
       have:=T.run i;simp only[Ai,Bv,Ap]at u this
       cases hz:I[i]? with
       | none=>simp[hz]at u
       | some z=>simp[hz]at u this;subst u;exact this B
     ·intro i y u B
      cases i with
      | zero=>simp[cV]at B
      | succ i=>
       have:=T.skip i;simp only[Ai,Bv,Ap]at u this
       cases hz:I[i]? with
       | none=>simp[hz]at u
       | some z=>simp[hz]at u this;subst u;exact this B
     ·intro i j y u U G B O
      cases i with
      | zero=>omega
      | succ i=>
       simp only[Ai,Bv,Ap]at u
       cases hz:I[i]? with
       | none=>simp[hz]at u
       | some z=>
        simp[hz]at u;subst u;simp only[Ge]at G;obtain⟨q,S,J⟩:=G;split at J
        ·rename_i Y;simp at J
         cases j with
         | zero=>
          have Z:q=k:=by omega
          subst Z;have:=L i z hz B ⟨q,rdx h h1 rd,h,h1⟩ (by simp) S;simp only[cV]at this ⊢;rw[T.h0];exact this
         | succ j=>
          have a1:=T.chk i j {z with chk:=z.chk.filterMap fun j=>if k+1<=j then Iz (j-(k+1))else Ja} (by simp[hz]) (by omega)
           (by simp only[Ge];exact⟨q,S,by rw[if_pos (by omega)];simp;omega⟩) B O
          exact a1
        ·cases J
     ·intro i y u B
      cases i with
      | zero=>simp at u;subst u;simp only[cV];rw[T.h0];exact hg
      | succ i=>intro e he hm;exact L i y (by simpa using u) B e (List.mem_cons_of_mem _ he) hm
    grind
   grind
  ·rename_i hw;obtain⟨A,M,V,RD,W,T,L⟩:=LH (fun _ _=>trivial) E;refine⟨cV a A,cV h M,cV (.tuple []) V,cV [] RD,cV Jc W,⟨rfl,rfl,by simpa [cV]using T.an,by simpa [cV]using T.hn,?_,?_,?_,?_,?_⟩,?_⟩
   ·intro i y u
    cases i with
    | zero=>simp at u;subst u;exact T.a0
    | succ i=>
     have:=T.put i;simp only[Ai,Bv,Ap]at u this
     cases hz:I[i]? with
     | none=>simp[hz]at u
     | some z=>simp[hz]at u this;subst u;exact this
   ·intro i y u
    cases i with
    | zero=>simp at u;subst u;exact hw
    | succ i=>
     have:=T.want i;simp only[Ai,Bv,Ap]at u this
     cases hz:I[i]? with
     | none=>simp[hz]at u
     | some z=>simp[hz]at u this;subst u;exact this
   ·intro i y u B
    cases i with
    | zero=>simp[cV]at B
    | succ i=>
     have:=T.run i;simp only[Ai,Bv,Ap]at u this
     cases hz:I[i]? with
     | none=>simp[hz]at u
     | some z=>simp[hz]at u this;subst u;exact this B
   ·intro i y u B
    cases i with
    | zero=>exact⟨rfl,T.h0⟩
    | succ i=>
     have:=T.skip i;simp only[Ai,Bv,Ap]at u this
     cases hz:I[i]? with
     | none=>simp[hz]at u
     | some z=>simp[hz]at u this;subst u;exact this B
   ·intro i j y u U G B O
    cases i with
    | zero=>omega
    | succ i=>
     simp only[Ai,Bv,Ap]at u
     cases hz:I[i]? with
     | none=>simp[hz]at u
     | some z=>
      simp[hz]at u;subst u;simp only[Ge]at G;obtain⟨q,S,J⟩:=G;split at J
      ·rename_i Y;simp at J
       cases j with
       | zero=>simp[cV]at O
       | succ j=>
        exact T.chk i j {z with chk:=z.chk.filterMap fun j=>if k+1<=j then Iz (j-(k+1))else Ja} (by simp[hz]) (by omega)
         (by simp only[Ge];exact⟨q,S,by rw[if_pos (by omega)];simp;omega⟩) B O
      ·cases J
   ·intro i y u B
    cases i with
    | zero=>simp[cV]at B
    | succ i=>exact L i y (by simpa using u) B
  ·cases E
def qP:∀{E:List aw} {k:Nat} {a G:List AV} {h I:H} {B:List mg},(∀x∈E,x.chk=[])->iJ rec E a h=Iz (G,I)->fL rec E k a h B=Iz (G,I)
 | [],k,a,G,h,I,B,_,u=>u
 | x::E,k,a,G,h,I,B,J,u=>by
  simp only[iJ]at u;simp only[fL];split at u
  ·rename_i hw;split at u
   ·rename_i v h1 rd hs;have K:∀(e:Bool) (rd:List Nat) (hb M:H),AA e rd hb M B x.chk=Jb:=fun e rd hb M=>by rw[J x (by simp)];simp[AA]
    rw[if_pos (K _ _ _ _)];exact qP (fun y L=>J y (by simp[L])) u
   ·cases u
  ·rename_i hw;exact qP (fun y L=>J y (by simp[L])) u
  grind
end
inductive nk (ops:Array Oper):(Nat->Bool)->List Nat->Prop
 | nil (D:Nat->Bool) (h:∀i,i<ops.size->D i=Jb):nk ops D []
 | cons (D:Nat->Bool) (i:Nat) (o:Oper) (l:List Nat) (ho:ops[i]? =Iz o) (hd:D i=Jc) (he:∀j∈bB o,D j=Jb) (h:nk ops (fun j=>j==i||D j) l):nk ops D (i::l)
def NL{l:List Nat}(hnd:l.Nodup){p:Nat->Bool}{i:Nat}(u:i∈l)(y:p i=Jb):l.countP (fun j=>p j&& !(j==i))+1=l.countP p:=by
 induction l with
 | nil=>cases u
 | cons x l B=>
  simp only[List.nodup_cons]at hnd;by_cases e:x=i
  ·grind [List.countP_congr]
  grind
def WZ(ops:Array Oper)(I:∀i o,ops[i]? =Iz o->∀j∈bB o,j<i):∀(u t:Nat) (listed:Array Bool) (y:List Nat),listed.size=ops.size->
  (Av ops.size).countP (fun i=> !(listed.getD i Jb))=u->
  ∃l,Region.linearise.go .any ops u t listed y=y.reverse++l/\nk ops (fun i=>listed.getD i Jb) l:=by
 intro u
 induction u with
 | zero=>intro t listed y hs hc;refine⟨[],by simp[Region.linearise.go],.nil _ fun i L=>?_⟩;simp_all
 | succ u ih=>
  intro t listed y hs hc;have U:∃i,i<ops.size/\listed.getD i Jb=Jc/\∀j,j<i->listed.getD j Jb=Jb:=by
   have E:0<(Av ops.size).countP (fun i=> !(listed.getD i Jb)):=by omega
   rw[List.countP_pos_iff]at E;obtain⟨S,V,Y⟩:=E;have G:listed.getD S Jb=Jc:=by simpa using Y
   have:∃i,listed.getD i Jb=Jc:=⟨S,G⟩;have Z:∀n,∀i,i<n->i<ops.size->listed.getD i Jb=Jc->∃i,i<ops.size/\listed.getD i Jb=Jc/\∀j,j<i->listed.getD j Jb=Jb:=by
    intro n
    induction n with
    | zero=>intro i L;omega
    | succ n a7=>
     grind
   exact Z (S+1) S (by omega) (List.mem_range.1 V) G
  obtain⟨i,L,a0,a5⟩:=U
  let B:=(Av ops.size).filter fun i=> !listed.getD i Jb&&((ops[i]?).map (·.after.all fun e=> !Region.binds .any e||listed.getD e.on Jc)).getD Jc
  have a1:∀k∈B,∃o,ops[k]? =Iz o/\k<ops.size/\listed.getD k Jb=Jc/\∀j∈bB o,listed.getD j Jb=Jb:=by
   intro k T;simp only[B,Dy,Ek,Aq]at T;obtain⟨J,a2,K⟩:=T;refine⟨ops[k],El J,J,by simpa using a2,fun j hj=>?_⟩;rw[El J]at K;simp only[Cr,Cz]at K;rw[<-Array.all_toList,Ch]at K;simp only[bB,Em,Dy]at hj
   grind
  have M:i∈B:=by
   simp only[B,Dy,Ek,Aq];refine⟨L,by simp[a0],?_⟩;rw[El L];simp only[Cr,Cz];rw[<-Array.all_toList,Ch];intro e he
   cases hb:Region.binds .any e with
   | false=>rfl
   | true=>
    simp only[Bool.not_true,Bool.false_or];have hlt:=I i ops[i] (El L) e.on (by simp only[bB,Em,Dy];exact⟨e,⟨he,hb⟩,rfl⟩)
    grind
  have hlen:0<B.length:=List.length_pos_of_mem M;have O:∃k,B[t % B.length]? =Iz k:=⟨B[t % B.length]'(Dl _ hlen),Ad _⟩;obtain⟨k,T⟩:=O;obtain⟨o,ho,a3,Q,a4⟩:=a1 k (List.mem_of_getElem? T);have a6:∀j,(listed.setIfInBounds k Jb).getD j Jb=(j==k||listed.getD j Jb):=by
   intro j;simp only[Fi,Array.getElem?_setIfInBounds]
   grind
  have R:(Av ops.size).countP (fun i=> !((listed.setIfInBounds k Jb).getD i Jb))=u:=by
   have h1:=NL (l:=Av ops.size) List.nodup_range (p:=fun i=> !(listed.getD i Jb)) (i:=k) (List.mem_range.2 a3) (by simp[Q])
   grind
  obtain⟨l,a9,b0⟩:=ih (t / B.length) (listed.setIfInBounds k Jb) (k::y) (by simpa using hs) R;refine⟨k::l,?_,?_⟩
  ·grind [Region.linearise.go,List.reverse_cons,List.append_assoc]
  ·refine .cons _ k o l ho Q a4 ?_;simp_all
def WY(ops:Array Oper)(y:∀i o,ops[i]? =Iz o->∀j∈bB o,j<i)(u:Bool)(B:(u|| !Region.departs ops)=Jb)(t:Nat):
  ∃D,(∀i,i<ops.size->D i=Jc)/\nk ops D (Region.schedule u ops t):=by
 have h0:∀i,i<ops.size->(Ez ops.size Jc).getD i Jb=Jc:=fun i E=>by simp[Fi,E]
 obtain⟨l,h1,h2⟩:=WZ ops y ops.size t (Ez ops.size Jc) [] (by simp) (by
  rw[List.countP_eq_length.2]
  ·simp
  grind)
 refine⟨_,h0,?_⟩;have:Region.schedule u ops t=l:=by
  unfold Region.schedule;rw[if_pos B];unfold Region.linearise
  grind
 rw[this];exact h2
end Go.Am

