/- The operations that change no object that was there: each runs as the abstract machine says, and what goes with it. -/
import Derived.Test.YtapbgleednkimaaGreatDoorAmRel
import Derived.Great.BuildSlice
import Derived.DeepKeys
import Derived.Lib.ConvBytes
import Derived.Lib.AtoiErrMem
import Derived.RangeFuncLeaves
import Derived.LoopNIn
set_option linter.all false
open List renaming getElem?_take->Bc,getElem?_drop->Bg,length_cons->As,foldl_cons->Ed,flatMap_cons->Cd,map_cons->Ak,getElem?_append->Fw,getElem?_map->Av,size_toArray->Ez,getElem?_eq_getElem->Ad,mapM_cons->Gq,all_eq_true->Cf,mem_of_getElem?->Af,length_nil->Bl,length_append->An,length_drop->Er,drop_drop->Fa,flatten_cons->Ef,map_append->Ay,take_append_drop->Cy,drop_zero->Fy,nil_append->Aq,getElem?_append_left->Bj,cons_append->Al,append_assoc->Ab,getElem_of_mem->Ec,getElem_mem->Df,getElem?_cons_succ->Cl,mem_filterMap->Gu,range->Aw,mem_filter->Eh,mem_range->Fc,mem_map->Fe
open Array renaming getElem?_toList->Bm,foldl_toList->Hy,range->Hz,ext'->Ch,toArray_toList->Ia,length_toList->Fp,getElem?_eq_getElem->Di,getD_eq_getD_getElem?->Dq,replicate->Fq
open Nat renaming add_assoc->Cs,zero_add->Az,add_zero->Dw,add_mul->Dg,mod_lt->Dx,zero_mul->Dy,le_refl->Ac,zero_le->Ai,mul_le_mul_right->Dr,eq_zero_or_pos->Fb,lt_succ_self->Eb
open Bool renaming and_eq_true->Au,false_eq_true->Bf,not_true->Ie,false_or->Gv,true->Jo,false->Jp
open Option renaming map_some->Cr,map_eq_some_iff->Cg,getD_some->Cx,bind_some->Ey,map_none->Fz,getD_none->Gt,some->Jm,none->Jn
open Prod renaming snd->At
open Int renaming toNat_natCast->Ck,natCast_mul->Hu
namespace Go.Am
section
variable {P:Program} {ρ:Emb} {w:World} {a:List AV} {act:Act} {h:H}
def NE(P:Program)(ρ:Emb)(h:H)(w:World)(r:Result Next)(v:AV)(y:H):Prop:=
 ∃u,(y=h/\r= .ok (.value u) w/\VR ρ v u)\/
  (∃B E l,y=h.alloc B/\l.blk=w.heap.size/\r= .ok (.value u) (w.alloc E)/\(ρ h.next=Jn->VR (upd ρ h.next l) v u/\OR P (upd ρ h.next l) (w.alloc E) l B))
def NE.val{r:Result Next}{v:AV}{u:Value}(hr:r= .ok (.value u) w)(hv:VR ρ v u):NE P ρ h w r v h:=⟨u,.inl ⟨rfl,hr,hv⟩⟩
def NE.new{r:Result Next}{v:AV}{u:Value}{y:bq}{ob:Obj}{l:Loc}(hb:l.blk=w.heap.size)(hr:r= .ok (.value u) (w.alloc ob))
  (hv:ρ h.next=Jn->VR (upd ρ h.next l) v u/\OR P (upd ρ h.next l) (w.alloc ob) l y):NE P ρ h w r v (h.alloc y):=⟨u,.inr ⟨y,ob,l,rfl,hb,hr,hv⟩⟩
def jT{t:TypeId}{i:TypeInfo}(u:P.info? t=Jm i)(w:World):(typeInfo t).run P w= .ok i w:=by simp[typeInfo,u]
def cV{t:TypeId}{n:Nat}(hs:eK P t=Jm n)(w:World):(sizeOf t).run P w= .ok n w:=by
 unfold eK at hs
 cases u:P.info? t with
 | none=>simp[u]at hs
 | some i=>simp[u]at hs;subst hs;simp[sizeOf,jT u]
def iS{t:TypeId}{b:Bool}(hs:nM P t=Jm b)(w:World):(isAgg t).run P w= .ok b w:=by
 unfold nM at hs
 cases u:P.underlying t with
 | none=>simp[u]at hs
 | some d=>cases d<;>simp[u]at hs<;>subst hs<;>simp[isAgg,run_underlying u]
def g7{t:TypeId}{z:List AV}(hs:nZ P t=Jm z):∃u i,P.info? t=Jm i/\i.zero=Jm u/\(∀w,(zeroValue t).run P w= .ok u w)/\eF gJ u.cells.toList=Jm z:=by
 unfold nZ at hs
 cases y:P.info? t with
 | none=>simp[y]at hs
 | some i=>
  cases hz:i.zero with
  | none=>simp[y,hz]at hs
  | some u=>exact⟨u,i,rfl,hz,fun w=>by simp[zeroValue,jT y,hz],by simpa [y,hz]using hs⟩
def OR.cell{l:Loc}{o:bq}{b i:Nat}{v:AV}(B:OR P ρ w l o)(hg:h.get b=Jm o)(y:gQ h b i=Jm v):
  ∃u,w.cell? ⟨l.blk,l.base+i,Jn⟩=Jm u/\VR ρ v u:=by
 unfold gQ at y;rw[hg]at y;cases o<;>simp at y;rename_i ver rw cs;obtain⟨I,J,e,h1,h2,K,L,E⟩:=B;obtain⟨u,G,hv⟩:=E i v y;exact⟨u,by simp[World.cell?,h1,G],hv⟩
def wJ{b i:Nat}{v:AV}(u:gQ h b i=Jm v):∃o,h.get b=Jm o/\o.bz=Jo:=by
 unfold gQ at u
 cases hg:h.get b with
 | none=>simp[hg]at u
 | some o=>exact⟨o,rfl,by cases o<;>simp[hg]at u;rfl⟩
def cT{b i n:Nat}{cs:List AV}(u:bB h b i n=Jm cs):∃ver rw all,h.get b=Jm (.cells ver rw all)/\i+n<=all.length/\cs=(all.drop i).take n:=by
 unfold bB at u
 cases hg:h.get b with
 | none=>simp[hg]at u
 | some o=>cases o<;>simp[hg]at u;exact⟨_,_,_,rfl,u.1,u.2.symm⟩
def OR.cells{l:Loc}{ver:Nat}{rw:Bool}{all cs:List AV}{i n:Nat}(L:OR P ρ w l (.cells ver rw all))(O:i+n<=all.length)(B:cs=(all.drop i).take n):
  ∃E,VRs ρ cs E/\E.length=n/\∀j u,E[j]? =Jm u->w.cell? ⟨l.blk,l.base+i+j,Jn⟩=Jm u:=by
 obtain⟨K,Q,e,h1,h2,R,S,M⟩:=L;subst B;have hlen:((all.drop i).take n).length=n:=by simp;omega
 refine⟨(K.toList.drop (l.base+i)).take n,⟨?_,fun j v u hv y=>?_⟩,?_,fun j u y=>?_⟩
 ·rw[hlen];simp;omega
 ·have G:j<n:=by have:=(List.getElem?_eq_some_iff.1 hv).1;omega
  rw[Bc,if_pos G,Bg]at hv y;obtain⟨T,I,J⟩:=M (i+j) v hv;rw[Bm,Cs,I]at y;cases y;exact J
 ·simp;omega
 ·have G:j<n:=by have U:=(List.getElem?_eq_some_iff.1 y).1;have:((K.toList.drop (l.base+i)).take n).length<=n:=List.length_take_le _ _;omega
  rw[Bc,if_pos G,Bg,Bm]at y;simp[World.cell?,h1,y]
def Addr.iw(b o i:Nat):(⟨b,o,Jn⟩:Addr).add i=⟨b,o+i,Jn⟩:=by unfold Addr.add;split<;>simp_all
def OR.newRow{l:Loc}{ver:Nat}{rw:Bool}{cs:List AV}{B:Array Value}{e:TypeId}(hb:l.blk=w.heap.size)(y:l.base=0)(E:l.lim=B.size)
  (hlen:cs.length<=B.size) (hv:∀(i:Nat) (v:AV),cs[i]? =Jm v->∃u,B[i]? =Jm u/\VR ρ v u):OR P ρ (w.alloc (.cells B e)) l (.cells ver rw cs):=
 ⟨B,(0,0),e,by rw[hb];exact heap_alloc_new w _,E.symm,by omega,fun _=>rfl,fun i v h=>by rw[y,Az];exact hv i v h⟩
def wD:∀(cs:List AV) (off:Nat) (new:List AV),off+new.length<=cs.length->(over cs off new).length=cs.length
 | cs,0,new,h=>by simp[over]at h ⊢;omega
 | [],off+1,new,h=>by simp at h
 | c::cs,off+1,new,h=>by simp only[over,As];rw[wD cs off new (by simp at h;omega)]
def GF:∀(cs:List AV) (off:Nat) (new:List AV),off+new.length<=cs.length->over cs off new=cs.take off++new++cs.drop (off+new.length)
 | cs,0,new,h=>by simp[over]
 | [],off+1,new,h=>by simp at h
 | c::cs,off+1,new,h=>by simp only[over];rw[GF cs off new (by simp at h;omega)];simp[Nat.add_right_comm]
def oW(off:Nat):∀(new:List Value) (k:Nat) (cs:Array Value),off+k+new.length<=cs.size->
  ((new.zipIdx k).foldl (fun cs (x:Value×Nat)=>cs.setIfInBounds (off+x.2) x.1) cs)=(cs.toList.take (off+k)++new++cs.toList.drop (off+k+new.length)).toArray
 | [],k,cs,h=>by simp
 | c::new,k,cs,h=>by
  simp only[List.zipIdx_cons,Ed];rw[oW off new (k+1) _ (by simp at h ⊢;omega)];simp only[Array.toList_setIfInBounds];congr 1;simp only[As]at h;have hs:off+k<cs.toList.length:=by simp;omega
  have u:(cs.toList.set (off+k) c).take (off+(k+1))=cs.toList.take (off+k)++[c]:=by rw[show off+(k+1)=off+k+1 from rfl,List.take_add_one,List.take_set_of_le (by omega),List.getElem?_set_self hs];rfl
  have y:(cs.toList.set (off+k) c).drop (off+(k+1)+new.length)=cs.toList.drop (off+k+(new.length+1)):=by rw[List.drop_set_of_lt (by omega)];congr 1;omega
  rw[u,y];simp
def xY(u:Nat->Option (Nat×Nat)):∀{L:List (Nat×Operand)} {J:List (Nat×Nat×AR)},pD u L=Jm J->
  (∀t∈J.flatMap (fun p=>opR p.2.2),VR ρ (dl a t) (act.tmps.getD t undef))->∀{cs E:List AV} {us:Array Value},VRs ρ cs us.toList->qH a cs J=Jm E->
  ∃G:Array Value,Instr.fill u us (L.map fun p=>(p.1,act.eval p.2))=Jm G/\VRs ρ E G.toList
 | [],J,I,ht,cs,E,us,hv,hf=>by cases I;cases hf;exact⟨us,rfl,hv⟩
 | (i,x)::L,J,I,ht,cs,E,us,hv,hf=>by
  unfold pD at I;split at I
  ·rename_i off size y V M T O;cases I;simp only[Cd,List.mem_append]at ht;have Q:=aV T fun t h=>ht t (.inl h);unfold qH at hf;split at hf
   ·rename_i B;simp only[Au,decide_eq_true_eq]at B;obtain⟨⟨h1,h2⟩,h3⟩:=B;obtain⟨S,_⟩:=Q.cells h3;have hlen:(act.eval x).cells.size=size:=by have:=S.1;simp at this;omega
    have R:us.size=cs.length:=by have:=hv.1;simpa using this
    have K:VRs ρ (over cs off (ev a y).cells) ((act.eval x).cells.zipIdx.foldl (fun cs (c,j)=>cs.setIfInBounds (off+j) c) us).toList:=by rw[<-Hy,Array.toList_zipIdx];rw[oW off (act.eval x).cells.toList 0 us (by simp;omega)];rw[GF cs off _ (by omega)];simp only[Dw];rw[h1,show(act.eval x).cells.toList.length=size from by simpa using hlen];exact((hv.take off).append S).append (hv.drop (off+size))
    obtain⟨G,U,hr⟩:=xY u O (fun t h=>ht t (.inr h)) K hf;refine⟨G,?_,hr⟩;rw[Ak];unfold Instr.fill;simp only[M];rw[if_neg (by simp[hlen,R];omega)];exact U
   ·cases hf
  ·cases I
def nQ{n:Nat}{z:List AV}{y:List Value}(hz:VRs ρ z y)(J:0<z.length):VRs ρ (gH n z) ((Hz (n*y.length)).map (y.toArray[· % y.toArray.size]!)).toList:=by
 have hl:y.length=z.length:=hz.1;have E:∀n:Nat,(gH n z).length=n*z.length:=by
  intro n
  induction n with
  | zero=>simp[gH]
  | succ n G=>simp[gH,G,Dg,Nat.add_comm]
 have I:∀(n i:Nat),i<n*z.length->(gH n z)[i]? =z[i % z.length]? :=by
  intro n
  induction n with
  | zero=>intro i B;simp at B
  | succ n G=>
   intro i B;simp only[gH];rw[Fw];by_cases h1:i<z.length
   ·rw[if_pos h1,Nat.mod_eq_of_lt h1]
   ·rw[if_neg h1,G (i-z.length) (by rw[Dg]at B;omega)];congr 1
    conv=>rhs;rw[show i=(i-z.length)+z.length from by omega,Nat.add_mod_right]
 refine⟨by simp[E,hl],fun i v u h1 h2=>?_⟩;have B:i<n*z.length:=by have:=(List.getElem?_eq_some_iff.1 h1).1;rw[E]at this;exact this
 rw[I n i B]at h1;have hm:i % z.length<y.length:=by rw[hl];exact Dx _ J
 simp only[Array.toList_map,Av,Array.toList_range,List.getElem?_range (show i<n*y.length from by rw[hl];exact B),Cr]at h2;cases h2;have:y.toArray[i % y.toArray.size]! =y[i % z.length]:=by
  simp only[Ez,hl];rw[List.getElem!_toArray,getElem!_pos y (i % z.length) hm]
 rw[this];exact hz.2 _ _ _ h1 (Ad hm)
end
section
variable {P:Program} {ρ:Emb} {w:World} {a:List AV} {act:Act} {h h':H} {o:Oper} {ao:AO} {v:AV} {rd:List Nat}
def Ops(ρ:Emb)(a:List AV)(act:Act)(u:List Nat):Prop:=∀t∈u,VR ρ (dl a t) (act.tmps.getD t undef)
def MZ(P:Program)(ρ:Emb)(h:H)(w:World)(rd:List Nat):Prop:=∀x∈rd,∀l u,ρ x=Jm l->h.get x=Jm u->OR P ρ w l u
def Ops.left{u y:List Nat}(h:Ops ρ a act (u++y)):Ops ρ a act u:=fun t ht=>h t (List.mem_append.2 (.inl ht))
def Ops.right{y u:List Nat}(h:Ops ρ a act (y++u)):Ops ρ a act u:=fun t ht=>h t (List.mem_append.2 (.inr ht))
def VR.bh{k:IntKind}{n:Int}{u:Value}(h:VR ρ (.int k n) u):u= .int k n:=by cases h;rfl
def VR.cg{b:Bool}{u:Value}(h:VR ρ (.bool b) u):u= .bool b:=by cases h;rfl
def VR.cw{s:ByteArray}{u:Value}(h:VR ρ (.str s) u):u= .string s:=by cases h;rfl
def VR.gp{b i:Nat}{u:Value}(h:VR ρ (.ptr b i) u):∃l,ρ b=Jm l/\u= .pointer (Jm ⟨l.blk,l.base+i,Jn⟩):=by cases h with | ptr _ _ l h=>exact⟨l,h,rfl⟩
def VR.np{r:Nat}{u:Value}(h:VR ρ (.map r) u):∃l,ρ r=Jm l/\u= .map (Jm l.blk):=by cases h with | map _ l h=>exact⟨l,h,rfl⟩
def SX{x:Operand}(u:o.op= .move x\/o.op= .assign x)(B:aX P o=Jm ao)(y:aop a h ao=Jm (v,h',rd))(ht:Ops ρ a act ao.di):
  NE P ρ h w ((execOp act.eval o).run P w) v h':=by
 have e:(trR x).map AO.move=Jm ao:=by rcases u with u | u<;>simpa [aX,u]using B
 simp only[Cg]at e;obtain⟨r,hr,rfl⟩:=e;simp only[aop,Option.some.injEq,Prod.mk.injEq]at y;obtain⟨rfl,rfl,rfl⟩:=y;exact NE.val (by rcases u with u | u<;>simp[execOp,u]) (aV hr ht)
def aD9{c x y:Operand}(E:o.op= .pick c x y)(B:aX P o=Jm ao)(u:aop a h ao=Jm (v,h',rd))(ht:Ops ρ a act ao.di):
  NE P ρ h w ((execOp act.eval o).run P w) v h':=by
 simp only[aX,E]at B;split at B
 ·rename_i K L M G I J;cases B;simp only[AO.di]at ht;have h1:=aV G ht.left.left;have h2:=aV I ht.left.right;have h3:=aV J ht.right;simp only[aop]at u;split at u
  ·rename_i hb;cases u;rw[hb]at h1;exact NE.val (by simp[execOp,E,h1.cg,asBool]) h2
  ·rename_i hb;cases u;rw[hb]at h1;exact NE.val (by simp[execOp,E,h1.cg,asBool]) h3
  ·cases u
 ·cases B
def aAD{e:TypeId}(K:o.op= .alloc e)(E:aX P o=Jm ao)(B:aop a h ao=Jm (v,h',rd)):
  NE P ρ h w ((execOp act.eval o).run P w) v h':=by
 simp only[aX,K,Cg]at E;obtain⟨z,hz,rfl⟩:=E;obtain⟨u,i,Q,I,J,G⟩:=g7 hz;simp only[aop,Option.some.injEq,Prod.mk.injEq]at B;obtain⟨rfl,rfl,rfl⟩:=B;have hl:=eA G;refine NE.new (u:= .pointer (Jm ⟨w.heap.size,0,Jn⟩)) (ob:= .cells u.cells e) (l:=⟨w.heap.size,0,u.cells.size⟩) rfl ?_ fun L=>⟨?_,?_⟩
 ·simp[execOp,K,Instr.alloc,J,newVar,newRow]
 ·exact .ptr _ 0 ⟨w.heap.size,0,u.cells.size⟩ (a8 _ _ _)
 ·exact OR.newRow rfl rfl rfl (by simp at hl;omega) (fun i x M=>by
   obtain⟨y,O,hr⟩:=(eL (ρ:=upd ρ h.next ⟨w.heap.size,0,u.cells.size⟩) G).1.getElem M;exact⟨y,by simpa using O,hr⟩)
def aGY{e:TypeId}{x:Operand}(K:o.op= .box e x)(E:aX P o=Jm ao)(B:aop a h ao=Jm (v,h',rd))(ht:Ops ρ a act ao.di):
  NE P ρ h w ((execOp act.eval o).run P w) v h':=by
 simp only[aX,K,Cg]at E;obtain⟨Q,M,rfl⟩:=E;have I:=aV M ht;simp only[aop]at B;split at B
 ·rename_i G;simp only[Option.some.injEq,Prod.mk.injEq]at B;obtain⟨rfl,rfl,rfl⟩:=B;obtain⟨L,_⟩:=I.cells G;have hl:=L.1;refine NE.new (u:= .pointer (Jm ⟨w.heap.size,0,Jn⟩)) (ob:= .cells (act.eval x).cells e) (l:=⟨w.heap.size,0,(act.eval x).cells.size⟩) rfl ?_ fun J=>⟨?_,?_⟩
  ·simp[execOp,K,Instr.box,newVar,newRow]
  ·exact .ptr _ 0 ⟨w.heap.size,0,(act.eval x).cells.size⟩ (a8 _ _ _)
  ·exact OR.newRow rfl rfl rfl (by simp at hl;omega) (fun i y O=>by
    obtain⟨z,hz,hr⟩:=(L.mono (iC J)).getElem O;exact⟨z,by simpa using hz,hr⟩)
 ·cases B
def vO(w:World):∀(u:List Field),(∀(i:Nat) (f:Field),u[i]? =Jm f->(eK P f.type).isSome=Jo)->
  (u.mapM fun(f:Field)=>do pure (f.offset,<-sizeOf f.type)).run P w= .ok (u.map fun(f:Field)=>(f.offset,(eK P f.type).getD 0)) w
 | [],_=>by simp
 | f::u,h=>by have h0:=h 0 f rfl;obtain⟨n,y⟩:=Option.isSome_iff_exists.1 h0;have B:=vO w u (fun i g hg=>h (i+1) g (by simpa using hg));simp only[bind_pure_comp]at B ⊢;simp only[Gq,Sem.run_bind,Sem.run_map,cV y,Result.andThen_ok,B,Sem.run_pure,Ak,y,Cx]
def aAB{t:TypeId}{O:Array (Nat×Operand)}(Q:o.op= .build t O)(B:aX P o=Jm ao)(y:aop a h ao=Jm (v,h',rd))(ht:Ops ρ a act ao.di):
  NE P ρ h w ((execOp act.eval o).run P w) v h':=by
 simp only[aX,Q]at B;split at B
 ·rename_i z G hz R;split at B
  ·rename_i E;simp only[Cg]at B;obtain⟨Y,S,rfl⟩:=B;obtain⟨u,i,Z,J,K,L⟩:=g7 hz;simp only[aop]at y;split at y
   ·rename_i cs hf;simp only[Option.some.injEq,Prod.mk.injEq]at y;obtain⟨rfl,rfl,rfl⟩:=y;obtain⟨M,h1,h2⟩:=xY (lG P G) S ht (us:=u.cells) (eL L).1 hf;refine NE.val (u:= .agg M) ?_ (by have:=h2.qu;simpa using this);have T:(G.mapM fun(f:Field)=>do pure (f.offset,<-sizeOf f.type)).run P w= .ok (G.map fun(f:Field)=>(f.offset,(eK P f.type).getD 0)) w:=by
     have:=vO (P:=P) w G.toList (fun i f hf=>by rw[Cf]at E;exact E f (Af hf));rw[Array.mapM_eq_mapM_toList,Sem.run_map,this];simp only[Result.andThen_ok];congr 1;apply Ch;simp
    have U:(fun(i:Nat)=>Option.map (fun(f:Field)=>(f.offset,(eK P f.type).getD 0)) G[i]?)=lG P G:=by
     funext i;unfold lG
     cases V:G[i]? with
     | none=>rfl
     | some f=>rw[Cf]at E;have hm:f∈G.toList:=Af (by rw[Bm];exact V);obtain⟨n,hn⟩:=Option.isSome_iff_exists.1 (E f hm);simp[hn]
    have I:=T;simp only[bind_pure_comp]at I;simp[execOp,Q,Instr.build,K,run_underlying R,I,U];have e2:(List.map (fun(x:Nat×Operand)=>(x.1,act.eval x.2)) O.toList)=O.toList.map (fun p=>(p.1,act.eval p.2)):=rfl;rw[h1];rfl
   ·cases y
  ·cases B
 ·rename_i z n e hz R;split at B
  ·rename_i s hs;simp only[Cg]at B;obtain⟨Y,S,rfl⟩:=B;obtain⟨u,i,Z,J,K,L⟩:=g7 hz;simp only[aop]at y;split at y
   ·rename_i cs hf;simp only[Option.some.injEq,Prod.mk.injEq]at y;obtain⟨rfl,rfl,rfl⟩:=y;obtain⟨M,h1,h2⟩:=xY (fun i=>Jm (i*s,s)) S ht (us:=u.cells) (eL L).1 hf;refine NE.val (u:= .agg M) ?_ (by have:=h2.qu;simpa using this);simp[execOp,Q,Instr.build,K,run_underlying R,cV hs];rw[h1];rfl
   ·cases y
  ·cases B
 ·cases B
def CU{t:TypeId}{len:Nat}{J:Array (Nat×Operand)}(L:o.op= .buildSlice t len J)(B:aX P o=Jm ao)(E:aop a h ao=Jm (v,h',rd))(ht:Ops ρ a act ao.di):
  NE P ρ h w ((execOp act.eval o).run P w) v h':=by
 simp only[aX,L]at B;split at B
 ·rename_i e Z;split at B
  ·rename_i s z hs hz;split at B
   ·rename_i hc;simp only[Au,decide_eq_true_eq]at hc;obtain⟨⟨M,O⟩,a1⟩:=hc;simp only[Cg]at B;obtain⟨qs,hq,rfl⟩:=B;obtain⟨u,i,hi,Q,R,K⟩:=g7 hz;simp only[aop]at E;split at E
    ·rename_i cs hf;simp only[Option.some.injEq,Prod.mk.injEq]at E;obtain⟨rfl,rfl,rfl⟩:=E;have S:=eA K;have T:VRs ρ (gH len z) ((Hz (len*s)).map (u.cells[· % u.cells.size]!)).toList:=by have:=nQ (ρ:=ρ) (n:=len) (eL K).1 (by omega);simp only[Ia,Fp]at this;rw[M,show z.length=u.cells.size from by simpa using S];exact this
     obtain⟨I,h1,h2⟩:=xY (fun i=>Jm (i*s,s)) hq ht T hf;have hlen:cs.length=I.size:=by have:=h2.1;simp at this;omega
     have U:I.size=len*s:=by
      have:∀(J:List (Nat×Value)) (x y:Array Value),Instr.fill (fun i=>Jm (i*s,s)) x J=Jm y->y.size=x.size:=by
       intro J
       induction J with
       | nil=>intro x y e;simp[Instr.fill]at e;subst e;rfl
       | cons p J ih=>
        intro x y e;obtain⟨i,q⟩:=p;simp only[Instr.fill]at e;split at e
        ·cases e
        ·rw[ih _ _ e];rw[<-Hy,Array.toList_zipIdx];rename_i G;rw[oW _ _ _ _ (by simp at G ⊢;omega)];simp at G ⊢;omega
      have:=this _ _ _ h1;simpa using this
     refine NE.new (u:= .slice (Jm ⟨w.heap.size,0,Jn⟩) len len) (ob:= .cells I e) (l:=⟨w.heap.size,0,I.size⟩) rfl ?_ fun V=>⟨?_,?_⟩
     ·by_cases h0:len=0
      ·subst h0;have e0:¬(0*s>2^24):=by omega
       have e1:∀f:Nat->Value,Array.map f (Hz 0)=(#[]:Array Value):=fun f=>by simp[Array.range_zero']
       simp[execOp,L,Instr.buildSlice,run_underlying Z,cV hs,newRow];simp only[Dy,e1]at h1 ⊢;rw[h1];rfl
      ·have Y:len*s≠0:=Nat.mul_ne_zero h0 (by omega);have a0:¬(len*s>2^24):=by omega
       simp[execOp,L,Instr.buildSlice,run_underlying Z,cV hs,newRow,Y,R,show ¬(16777216<len*s)from by omega];rw[h1];rfl
     ·refine .slice Jo s h.next 0 len len _ (Ac _) ?_ (fun _=>rfl) fun hp=>⟨_,a8 _ _ _,rfl,?_⟩
      ·have:len<=len*s:=Nat.le_mul_of_pos_right _ O;unfold maxLen;omega
      ·simp[U]
     ·exact OR.newRow rfl rfl rfl (by omega) (fun i y hy=>by
       obtain⟨z,hz,hr⟩:=(h2.mono (iC V)).getElem hy;exact⟨z,by simpa using hz,hr⟩)
    ·cases E
   ·cases B
  ·cases B
 ·cases B
end
def Fit:List (Option IntKind)->List Value->Prop
 | [],[]=>True
 | some k::T,.int y n::u=>y=k/\(Lit.int k n).wf=Jo/\Fit T u
 | none::T,.bool _::u=>Fit T u
 | _,_=>False
def oT:Value->Lit
 | .int k n=> .int k n
 | .bool b=> .bool b
 | _=> .bool Jp
def Fit.length:∀{T:List (Option IntKind)} {u:List Value},Fit T u->u.length=T.length
 | [],[],_=>rfl
 | some k::T,.int y n::u,h=>by simp[Fit.length h.2.2]
 | none::T,.bool b::u,h=>by simp[Fit.length (T:=T) h]
def Fit.split:∀{A B:List (Option IntKind)} {us:List Value},Fit (A++B) us->Fit A (us.take A.length)/\Fit B (us.drop A.length)
 | [],B,us,h=>⟨by simp[Fit],by simpa using h⟩
 | some k::A,B,.int u n::us,h=>by obtain⟨h1,h2,h3⟩:=h;obtain⟨p,q⟩:=Fit.split (A:=A) h3;exact⟨⟨h1,h2,p⟩,q⟩
 | none::A,B,.bool b::us,h=>by obtain⟨p,q⟩:=Fit.split (A:=A) (us:=us) h;exact⟨p,q⟩
section
variable {P:Program}
def wB{m:Nat}(G:∀(t:TypeId) (T:List (Option IntKind)),qG P m t=Jm T->∀us,Fit T us->P.keyLits m t us=Jm (us.map oT)){us:List Value} :
  ∀(y:List Field) (off:Nat) (T:List (Option IntKind)),nN P (qG P m) off y=Jm T->off<=us.length->Fit T (us.drop off)->
  ∃as,y.mapM (fun f=>P.keyLits m f.type ((us.drop f.offset).take (P.cellsOf f.type)))=Jm as/\as.flatten=(us.drop off).map oT
 | [],off,T,u,hl,hf=>by cases u;have:=hf.length;simp only[Bl]at this;have e:us.drop off=[]:=List.length_eq_zero_iff.1 this;exact⟨[],rfl,by rw[e];rfl⟩
 | f::y,off,T,u,hl,hf=>by
  unfold nN at u;split at u
  ·rename_i A B hA J;split at u
   ·rename_i K;cases u;obtain⟨h1,h2⟩:=K;obtain⟨p,q⟩:=hf.split;have hlen:=hf.length;simp only[An,Er]at hlen;have I:=G _ _ hA _ p;rw[Fa]at q;rw[h2]at I q;have E:f.offset+P.cellsOf f.type<=us.length:=by omega
    obtain⟨as,L,M⟩:=wB G y (f.offset+P.cellsOf f.type) B J E (by rw[h1];exact q);refine⟨_::as,by simp only[Gq,h1,I,Option.bind_eq_bind,Ey];rw[L];rfl,?_⟩;rw[Ef,M,h1,<-Ay,<-Fa,Cy]
   ·cases u
  ·cases u
def AE{m:Nat}{e:TypeId}{E:List (Option IntKind)}(u:∀us,Fit E us->P.keyLits m e us=Jm (us.map oT))(he:E.length=P.cellsOf e){us:List Value} :
  ∀(k off:Nat),off*E.length<=us.length->Fit (tT E k) (us.drop (off*E.length))->
  ∃as,(List.range' off k).mapM (fun i=>P.keyLits m e ((us.drop (i*P.cellsOf e)).take (P.cellsOf e)))=Jm as/\as.flatten=(us.drop (off*E.length)).map oT
 | 0,off,hl,hf=>by have:=hf.length;simp only[tT,Bl]at this;have e:us.drop (off*E.length)=[]:=List.length_eq_zero_iff.1 this;exact⟨[],rfl,by rw[e];rfl⟩
 | k+1,off,hl,hf=>by
  have hlen:=hf.length;simp only[tT,An,Er]at hlen;obtain⟨p,q⟩:=hf.split;have G:=u _ p;have y:off*E.length+E.length=(off+1)*E.length:=by rw[Nat.succ_mul]
  rw[Fa,y]at q;obtain⟨as,B,I⟩:=AE u he k (off+1) (by omega) q;refine⟨_::as,by rw[List.range'_succ];simp only[Gq,<-he,G,Option.bind_eq_bind,Ey];rw[<-he]at B;rw[B];rfl,?_⟩;rw[Ef,I,<-y,<-Ay,<-Fa,Cy]
def pN:∀(m:Nat) (t:TypeId) (T:List (Option IntKind)),qG P m t=Jm T->∀us,Fit T us->P.keyLits m t us=Jm (us.map oT)
 | 0,t,T,u,us,hf=>by cases u
 | m+1,t,T,u,us,hf=>by
  unfold qG at u;split at u
  ·rename_i k y;cases u
   match us,hf with
   | [.int R n],hf=>obtain⟨rfl,h2,_⟩:=hf;simp[Program.keyLits,y,h2,oT]
  ·rename_i y;cases u
   match us,hf with
   | [.bool b],hf=>simp[Program.keyLits,y,oT]
  ·rename_i O y;split at u
   ·rename_i S J;split at u
    ·rename_i K;cases u;obtain⟨G,I⟩:=K;have hlen:=hf.length;obtain⟨as,L,M⟩:=wB (fun t T h us hf=>pN m t T h us hf) (us:=us) O.toList 0 T J (Ai _) (by simpa using hf);have B:us.length=P.cellsOf t:=by omega
     unfold Program.keyLits;rw[y];simp only;rw[if_pos ⟨B,I⟩,L];simp only[Cr,M,Fy]
    ·cases u
   ·cases u
  ·rename_i n e y;split at u
   ·rename_i E Q;split at u
    ·rename_i K;cases u;obtain⟨G,I⟩:=K;have hlen:=hf.length;obtain⟨as,L,M⟩:=AE (fun us hf=>pN m e E Q us hf) G (us:=us) n 0 (by simp) (by simpa using hf);have B:us.length=P.cellsOf t:=by omega
     unfold Program.keyLits;rw[y];simp only;rw[if_pos B,List.range_eq_range',L];simp only[Cr,M,Dy,Fy]
    ·cases u
   ·cases u
  ·cases u
def C8{k:IntKind}{n:Int}(h:WT k n=Jo):(Lit.int k n).wf=Jo:=by cases k<;>simp[WT]at h<;>simp[Lit.wf,IntKind.min,IntKind.max,IntKind.signed,IntKind.bits]<;>omega
def HI{ρ:Emb} :∀{T:List (Option IntKind)} {B E:List AV} {G I:List Value} {b:Bool},eZ T B E=Jm b->VRs ρ B G->VRs ρ E I->Fit T G/\Fit T I/\(b=Jo↔G.map oT=I.map oT):=by
 intro T
 induction T with
 | nil=>
  intro B E G I b h J K
  cases B with
  | cons x B=>cases h
  | nil=>cases E with
   | cons y E=>cases h
   | nil=>cases h;rw[J.cr,K.cr];simp[Fit]
 | cons o T Z=>
  intro B E G I b h J K
  cases o with
  | some k=>
   cases B with
   | nil=>cases h
   | cons x B=>
    cases E with
    | nil=>cases x<;>cases h
    | cons y E=>
     cases x<;>first | (cases h;done) | skip
     cases y<;>first | (cases h;done) | skip
     rename_i k1 m k2 n;simp only[eZ]at h;split at h
     ·rename_i hc;obtain⟨rfl,rfl,hm,hn⟩:=hc;split at h
      ·rename_i b' hb;cases h;obtain⟨u,L,rfl,M,O⟩:=J.cons_inv;obtain⟨v,Q,rfl,R,S⟩:=K.cons_inv;rw[M.bh,R.bh];obtain⟨U,V,Y⟩:=Z hb O S;refine⟨⟨rfl,C8 hm,U⟩,⟨rfl,C8 hn,V⟩,?_⟩;simp only[Ak,oT,List.cons.injEq,Lit.int.injEq,true_and,Au,beq_iff_eq,Y]
      ·cases h
     ·cases h
  | none=>
   cases B with
   | nil=>cases h
   | cons x B=>
    cases E with
    | nil=>cases x<;>cases h
    | cons y E=>
     cases x<;>first | (cases h;done) | skip
     cases y<;>first | (cases h;done) | skip
     rename_i p q;simp only[eZ]at h;split at h
     ·rename_i b' hb;cases h;obtain⟨u,L,rfl,M,O⟩:=J.cons_inv;obtain⟨v,Q,rfl,R,S⟩:=K.cons_inv;rw[M.cg,R.cg];obtain⟨U,V,Y⟩:=Z hb O S;refine⟨U,V,?_⟩;simp only[Ak,oT,List.cons.injEq,Lit.bool.injEq,Au,beq_iff_eq,Y]
     ·cases h
def W7{m:Nat}{t:TypeId}{T:List (Option IntKind)}(y:(∃E,P.underlying t=Jm (.struct E))\/∃n e,P.underlying t=Jm (.array n e))(u:qG P m t=Jm T):T.length=P.cellsOf t:=by
 cases m with
 | zero=>cases u
 | succ m=>
  unfold qG at u;rcases y with⟨E,y⟩ | ⟨n,e,y⟩
  ·rw[y]at u;simp only at u;split at u
   ·split at u
    ·rename_i B;cases u;exact B.1
    ·cases u
   ·cases u
  ·rw[y]at u;simp only at u;split at u
   ·split at u
    ·rename_i B;cases u;exact B.2
    ·cases u
   ·cases u
def BM{ρ:Emb}(w:World){t:TypeId}{T:List (Option IntKind)}(B:(∃J,P.underlying t=Jm (.struct J))\/∃n e,P.underlying t=Jm (.array n e))(E:qG P 20 t=Jm T)
  (S:P.keyTypeAt 20 t=Jo) (hg:P.eqGuardType P.depth t=Jp) {K L:List AV} {u y:List Value} {b:Bool} (h:eZ T K L=Jm b) (U:VRs ρ K u) (V:VRs ρ L y):
  (∀(op:BinOp) (X Y:Operand),(eqGuard op t X Y (.agg u.toArray) (.agg y.toArray)).run P w= .ok () w)/\(binOp .eql t (.agg u.toArray) (.agg y.toArray)).run P w= .ok (.bool b) w/\(binOp .neq t (.agg u.toArray) (.agg y.toArray)).run P w= .ok (.bool (!b)) w:=by
 obtain⟨M,O,Z⟩:=HI h U V;have hl:=W7 B E;have Q:∀{G:List Value},Fit T G->(Value.agg G.toArray).formed P t=Jo:=by intro G hz;have:=hz.length;unfold Value.formed;rcases B with⟨J,B⟩ | ⟨n,e,B⟩<;>(rw[B];simp;omega)
 obtain⟨r,hr,R⟩:=run_equalIn_deep (P:=P) (10000-20) 20 t S w 20 20 (.agg u.toArray) (.agg y.toArray) _ _ (Q M) (Q O) (by simpa [Value.cells]using pN 20 t T E u M) (by simpa [Value.cells]using pN 20 t T E y O);have I:r=b:=by
  cases r<;>cases b<;>simp_all
 subst I;have he:(Op.equal t (.agg u.toArray) (.agg y.toArray)).run P w= .ok r w:=hr;refine⟨fun op X Y=>?_,?_,?_⟩
 ·unfold eqGuard;cases op<;>simp[hg]
 ·simp[binOp,he]
 ·simp[binOp,he]
end
section
variable {P:Program} {ρ:Emb} {w:World} {a:List AV} {act:Act} {h h':H} {o:Oper} {ao:AO} {v:AV} {rd:List Nat}
def m9{B:Addr}{y:List Value}{n:Nat}(E:y.length=n)(G:∀j u,y[j]? =Jm u->w.cell? (B.add j)=Jm u):
  (loadCells B n).run P w= .ok y.toArray w:=by subst E;exact run_loadCells_list w B y G
def aEa{t:TypeId}{x:Operand}(K:o.op= .load t x)(E:aX P o=Jm ao)(B:aop a h ao=Jm (v,h',rd))(ht:Ops ρ a act ao.di)(I:MZ P ρ h w rd):
  NE P ρ h w ((execOp act.eval o).run P w) v h':=by
 simp only[aX,K]at E;split at E
 ·rename_i n U J L M;cases E;have G:=aV M ht;simp only[aop]at B;split at B
  ·rename_i b i hb;split at B
   ·rename_i cs O;simp only[Option.some.injEq,Prod.mk.injEq]at B;obtain⟨rfl,rfl,rfl⟩:=B;rw[hb]at G;obtain⟨l,hl,Q⟩:=G.gp;obtain⟨ver,rw,all,hg,V,e⟩:=cT O;obtain⟨S,h1,h2,h3⟩:=(I b (by simp) l _ hl hg).cells V e;refine NE.val (u:= .agg S.toArray) ?_ h1.qu;have R:(loadCells ⟨l.blk,l.base+i,Jn⟩ n).run P w= .ok S.toArray w:=m9 h2 (fun j u Y=>by rw[Addr.iw];exact h3 j u Y);simp[execOp,K,Instr.loadAt,Q,Instr.sureAddr,loadVar,iS J,cV L,R]
   ·cases B
  ·cases B
 ·rename_i U J M;cases E;have G:=aV M ht;simp only[aop]at B;split at B
  ·rename_i b i hb;split at B
   ·rename_i y T;simp only[Option.some.injEq,Prod.mk.injEq]at B;obtain⟨rfl,rfl,rfl⟩:=B;rw[hb]at G;obtain⟨l,hl,Q⟩:=G.gp;obtain⟨Z,hg,_⟩:=wJ T;obtain⟨u,h1,h2⟩:=(I b (by simp) l _ hl hg).cell hg T;refine NE.val (u:=u) ?_ h2;simp[execOp,K,Instr.loadAt,Q,Instr.sureAddr,loadVar,iS J,h1]
   ·cases B
  ·cases B
 ·cases E
def KH{x:Operand}(G:o.op= .nilCheck x)(J:aX P o=Jm ao)(B:aop a h ao=Jm (v,h',rd))(ht:Ops ρ a act ao.di):
  NE P ρ h w ((execOp act.eval o).run P w) v h':=by
 simp only[aX,G,Cg]at J;obtain⟨R,L,rfl⟩:=J;have E:=aV L ht;simp only[aop]at B;split at B
 ·rename_i b i hb;cases B;rw[hb]at E;obtain⟨l,hl,M⟩:=E.gp;exact NE.val (u:=act.eval x) (by simp[execOp,G,M]) E
 ·cases B
 ·rename_i f c d K hb;cases B;rw[hb]at E;refine NE.val (u:=act.eval x) ?_ E;generalize I:act.eval x=y at E
  cases E with
  | func _ _ _ S T O hf U h1 h2=>
   cases f with
   | method Q=>exact absurd rfl (K Q)
   | func g=>simp[execOp,G,I]
   | methodOf t n=>simp[execOp,G,I]
   | via t p f V=>simp[execOp,G,I]
   | yield l=>simp[sN]at O
  | yield r l h=>simp[execOp,G,I]
 ·rename_i t y hb;cases B;rw[hb]at E;refine NE.val (u:=act.eval x) ?_ E;generalize I:act.eval x=z at E
  cases E with
  | iface t v u h=>simp[execOp,G,I]
 ·cases B
def NS{op:BinOp}{k:IntKind}{x y:Int}{r:AV}(hs:bW op=Jp)(h:dS op k x y=Jm r)(t:TypeId):∃u,VR ρ r u/\(binOp op t (.int k x) (.int k y)).run P w= .ok u w:=by
 cases op<;>simp[bW]at hs<;>simp only[dS]at h
 case quo=>
  split at h
  ·cases h
  ·rename_i h0;cases h;exact⟨_,.int _ _,by simp[binOp,Op.intDiv,h0]⟩
 case rem=>
  split at h
  ·cases h
  ·rename_i h0;cases h;exact⟨_,.int _ _,by simp[binOp,Op.intDiv,h0]⟩
 all_goals (cases h;first | exact⟨_,.int _ _,by simp[binOp,Op.intArith,Op.intBits]⟩ | exact⟨_,.bool _,by simp[binOp,Op.intCmp]⟩)
def eQ{op:BinOp}{t:TypeId}{x y:Operand}{u B:Value}(h1:∀c,u≠ .agg c)(h2:u≠ .nilIface):(eqGuard op t x y u B).run P w= .ok () w:=by
 unfold eqGuard;cases op<;>first | rfl | skip
 all_goals (cases u<;>first | rfl | exact absurd rfl h2 | exact absurd rfl (h1 _))
def T8{op:BinOp}{x y r:AV}{u B:Value}(h:gI op x y=Jm r)(I:VR ρ x u)(J:VR ρ y B)(t:TypeId):
  ∃z,VR ρ r z/\(∀X Y:Operand,(eqGuard op t X Y u B).run P w= .ok () w)/\(binOp op t u B).run P w= .ok z w:=by
 unfold gI at h;split at h
 ·rename_i k a K b;have E:=I.bh;have G:=J.bh;subst E;subst G;have hg:∀X Y:Operand,(eqGuard op t X Y (.int k a) (.int K b)).run P w= .ok () w:=fun X Y=>eQ (by simp) (by simp);split at h
  ·rename_i hs;unfold tD at h;split at h
   ·cases h
   ·rename_i h0;cases op<;>simp[bW]at hs
    ·cases h;exact⟨_,.int _ _,hg,by simp[binOp,Op.shift,h0]⟩
    ·cases h;exact⟨_,.int _ _,hg,by simp[binOp,Op.shift,h0]⟩
  ·rename_i hs;split at h
   ·rename_i L;subst L;obtain⟨z,hz,hb⟩:=NS (P:=P) (w:=w) (ρ:=ρ) (by simpa using hs) h t;exact⟨z,hz,hg,hb⟩
   ·cases h
 ·rename_i a b;have E:=I.cw;have G:=J.cw;subst E;subst G;have hg:∀X Y:Operand,(eqGuard op t X Y (.string a) (.string b)).run P w= .ok () w:=fun X Y=>eQ (by simp) (by simp);cases op<;>simp only at h
  case add=>
   split at h
   ·cases h
   ·rename_i h0;cases h;have hm:IntKind.i64.max=9223372036854775807:=by decide
    rw[hm]at h0;exact⟨_,.str _,hg,by simp[binOp,Op.stringOp,hm];omega⟩
  case eql=>cases h;exact⟨_,.bool _,hg,by simp[binOp,Op.stringOp]⟩
  case neq=>cases h;exact⟨_,.bool _,hg,by simp[binOp,Op.stringOp]⟩
  all_goals (cases h)
 ·cases h
def VE{t:TypeId}{d:TypeDesc}{kd:Nat}(G:P.underlying t=Jm d)(hd:GO d=Jm kd)
  {x y:AV} {b:Bool} {u B:Value} (h:XO kd x y=Jm b) (I:VR ρ x u) (J:VR ρ y B):
  (Op.equal t u B).run P w= .ok b w/\(binOp .eql t u B).run P w= .ok (.bool b) w/\(binOp .neq t u B).run P w= .ok (.bool (!b)) w/\(∀c,u≠ .agg c)/\u≠ .nilIface:=by
 have E:∀{u B:Value} {b:Bool},(Op.equal t u B).run P w= .ok b w->((binOp .eql t u B).run P w=((Op.equal t u B).run P w).andThen fun b w=> .ok (.bool b) w)->((binOp .neq t u B).run P w=((Op.equal t u B).run P w).andThen fun b w=> .ok (.bool (!b)) w)->
   (∀c,u≠ .agg c)->u≠ .nilIface->(Op.equal t u B).run P w= .ok b w/\(binOp .eql t u B).run P w= .ok (.bool b) w/\(binOp .neq t u B).run P w= .ok (.bool (!b)) w/\(∀c,u≠ .agg c)/\u≠ .nilIface:=by
  intro u B b h1 h2 h3 K L;exact⟨h1,by rw[h2,h1];rfl,by rw[h3,h1];rfl,K,L⟩
 unfold XO at h;split at h<;>first | (cases h;done) | skip
 all_goals (cases h;(cases I<;>cases J<;>cases d<;>first | (simp[GO]at hd;done) | skip))
 all_goals (refine E ?_ (by simp[binOp]) (by simp[binOp]) (by simp) (by simp))
 all_goals (unfold Op.equal;show(Op.equalIn (9999+1) t _ _).run P w=_;unfold Op.equalIn;simp[run_underlying G])
def JJ{t:TypeId}{K:Array (String×TypeId)}{E G:Operand}(L:P.underlying t=Jm (.interface K))
  {x y:AV} {b:Bool} {u B:Value} (h:XO 4 x y=Jm b) (M:VR ρ x u) (O:VR ρ y B) (Q:(tB E||tB G)=Jo):
  (∀op:BinOp,(eqGuard op t E G u B).run P w= .ok () w)/\(binOp .eql t u B).run P w= .ok (.bool b) w/\(binOp .neq t u B).run P w= .ok (.bool (!b)) w:=by
 have I:(∃v,E= .const v)\/∃v,G= .const v:=by cases E<;>cases G<;>simp[tB]at Q ⊢
 have J:∀{u B:Value} {b:Bool},(Op.equal t u B).run P w= .ok b w->((binOp .eql t u B).run P w=((Op.equal t u B).run P w).andThen fun b w=> .ok (.bool b) w)->((binOp .neq t u B).run P w=((Op.equal t u B).run P w).andThen fun b w=> .ok (.bool (!b)) w)->
   (∀op:BinOp,(eqGuard op t E G u B).run P w= .ok () w)->(∀op:BinOp,(eqGuard op t E G u B).run P w= .ok () w)/\(binOp .eql t u B).run P w= .ok (.bool b) w/\(binOp .neq t u B).run P w= .ok (.bool (!b)) w:=by
  intro u B b h1 h2 h3 R;exact⟨R,by rw[h2,h1];rfl,by rw[h3,h1];rfl⟩
 unfold XO at h;split at h<;>first | (cases h;done) | skip
 all_goals first | (rename_i e;cases e;done) | skip
 all_goals (cases h;cases M;cases O)
 all_goals (refine J ?_ (by simp[binOp]) (by simp[binOp]) ?_)
 all_goals first
  | (unfold Op.equal;show(Op.equalIn (9999+1) t _ _).run P w=_;unfold Op.equalIn;simp[run_underlying L];done)
  | (intro op;unfold eqGuard;rcases I with⟨v,rfl⟩ | ⟨v,rfl⟩<;>cases op<;>simp)
def zZ{op:BinOp}{t t2:TypeId}{x y:Operand}{Q R:AR}(ho:o.op= .binOp op t x y t2)(S:(∃fs,P.underlying t=Jm (.struct fs))\/∃n e,P.underlying t=Jm (.array n e))
  (U:trR x=Jm Q) (V:trR y=Jm R) (E:pQ P op t Q R=Jm ao) (B:aop a h ao=Jm (v,h',rd)) (ht:Ops ρ a act ao.di):
  NE P ρ h w ((execOp act.eval o).run P w) v h':=by
 have fin:∀{z:Value},VR ρ v z->(∀X Y:Operand,(eqGuard op t X Y (act.eval x) (act.eval y)).run P w= .ok () w)->(binOp op t (act.eval x) (act.eval y)).run P w= .ok z w->h'=h->
   NE P ρ h w ((execOp act.eval o).run P w) v h':=by
  intro z hz h1 h2 e;subst e;exact NE.val (u:=z) (by simp[execOp,ho,h1,h2]) hz
 unfold pQ at E;split at E
 ·rename_i T M;split at E
  ·rename_i J;cases E;simp only[AO.di]at ht;simp only[aop]at B;split at B<;>first | (cases B;done) | skip
   rename_i xs ys G I;split at B<;>first | (cases B;done) | skip
   rename_i b hb;cases B;have K:=aV U ht.left;have L:=aV V ht.right;rw[G]at K;rw[I]at L;obtain⟨us,h1,h2⟩:=K.jq;obtain⟨vs,h3,O⟩:=L.jq;obtain⟨k1,k2,Z⟩:=BM w S M J.1 J.2 hb h2 O;refine fin (z:= .bool _) (.bool _) (fun X Y=>by rw[h1,h3];exact k1 _ X Y) ?_ rfl;rw[h1,h3];exact k2
  ·cases E
 ·rename_i T M;split at E
  ·rename_i J;cases E;simp only[AO.di]at ht;simp only[aop]at B;split at B<;>first | (cases B;done) | skip
   rename_i xs ys G I;split at B<;>first | (cases B;done) | skip
   rename_i b hb;cases B;have K:=aV U ht.left;have L:=aV V ht.right;rw[G]at K;rw[I]at L;obtain⟨us,h1,h2⟩:=K.jq;obtain⟨vs,h3,O⟩:=L.jq;obtain⟨k1,k2,Z⟩:=BM w S M J.1 J.2 hb h2 O;refine fin (z:= .bool _) (.bool _) (fun X Y=>by rw[h1,h3];exact k1 _ X Y) ?_ rfl;rw[h1,h3];exact Z
  ·cases E
 ·cases E
def aAC{op:BinOp}{t S:TypeId}{x y:Operand}(M:o.op= .binOp op t x y S)(E:aX P o=Jm ao)(B:aop a h ao=Jm (v,h',rd))(ht:Ops ρ a act ao.di):
  NE P ρ h w ((execOp act.eval o).run P w) v h':=by
 have fin:∀{z:Value},VR ρ v z->(∀X Y:Operand,(eqGuard op t X Y (act.eval x) (act.eval y)).run P w= .ok () w)->(binOp op t (act.eval x) (act.eval y)).run P w= .ok z w->h'=h->
   NE P ρ h w ((execOp act.eval o).run P w) v h':=by
  intro z hz h1 h2 e;subst e;exact NE.val (u:=z) (by simp[execOp,M,h1,h2]) hz
 simp only[aX,M]at E;split at E
 ·rename_i K L k G I J;cases E;simp only[AO.di]at ht;simp only[aop]at B;split at B
  ·rename_i r hr;cases B;obtain⟨z,hz,h1,h2⟩:=T8 (P:=P) (w:=w) hr (aV G ht.left) (aV I ht.right) t;exact fin hz h1 h2 rfl
  ·cases B
 ·rename_i K L G I J;cases E;simp only[AO.di]at ht;simp only[aop]at B;split at B
  ·rename_i r hr;cases B;obtain⟨z,hz,h1,h2⟩:=T8 (P:=P) (w:=w) hr (aV G ht.left) (aV I ht.right) t;exact fin hz h1 h2 rfl
  ·cases B
 ·rename_i K L G I J;split at E<;>first | (cases E;done) | skip
  all_goals (cases E;simp only[AO.di]at ht;simp only[aop]at B;split at B<;>first | (cases B;done) | skip)
  all_goals
   rename_i p q T U;cases B;have O:=aV G ht.left;have R:=aV I ht.right;rw[T]at O;rw[U]at R;refine fin (z:= .bool _) (.bool _) (fun X Y=>eQ (by simp[O.cg]) (by simp[O.cg])) ?_ rfl;rw[O.cg,R.cg];first | exact run_eql_bool w t p q J | exact run_neq_bool w t p q J
 ·rename_i K L V G I J;exact zZ M (.inl ⟨V,J⟩) G I E B ht
 ·rename_i K L n e G I J;exact zZ M (.inr ⟨n,e,J⟩) G I E B ht
 ·rename_i K L ms G I J;split at E<;>first | (cases E;done) | skip
  rename_i Z;split at E<;>first | (cases E;done) | skip
  all_goals
   cases E;simp only[AO.di]at ht;simp only[aop]at B;split at B<;>first | (cases B;done) | skip
   rename_i b hb;cases B;obtain⟨h1,h2,h3⟩:=JJ (w:=w) J hb (aV G ht.left) (aV I ht.right) Z;exact NE.val (u:= .bool _) (by simp[execOp,M,h1,h2,h3]) (.bool _)
 ·rename_i K L d _ _ _ _ _ _ G I J;split at E<;>first | (cases E;done) | skip
  all_goals (cases E;simp only[AO.di]at ht;simp only[aop]at B;split at B<;>first | (cases B;done) | skip)
  all_goals
   rename_i kd Q _ b hb;cases B;obtain⟨h1,h2,h3,h4,h5⟩:=VE (w:=w) J Q hb (aV G ht.left) (aV I ht.right);refine fin (z:= .bool _) (.bool _) (fun X Y=>eQ h4 h5) ?_ rfl;first | exact h2 | exact h3
 ·cases E
def aD8{op:UnOp}{t:TypeId}{x:Operand}(G:o.op= .unOp op t x)(E:aX P o=Jm ao)(y:aop a h ao=Jm (v,h',rd))(ht:Ops ρ a act ao.di):
  NE P ρ h w ((execOp act.eval o).run P w) v h':=by
 simp only[aX,G,Cg]at E;obtain⟨J,I,rfl⟩:=E;have B:=aV I ht;simp only[aop]at y;split at y
 ·rename_i r hr;cases y;unfold aun at hr;split at hr
  ·rename_i k n he;rw[he]at B;have e:=B.bh;split at hr<;>first | (cases hr;done) | skip
   all_goals (cases hr;exact NE.val (u:= .int _ _) (by simp[execOp,G,e,Op.unary,Op.intArith,Op.intBits]) (.int _ _))
  ·rename_i b he;rw[he]at B;have e:=B.cg;split at hr<;>first | (cases hr;done) | skip
   all_goals (cases hr;exact NE.val (u:= .bool _) (by simp[execOp,G,e,Op.unary]) (.bool _))
  ·cases hr
 ·cases y
def uI{t:TypeId}{x:Operand}(I:o.op= .makeInterface t x)(y:aX P o=Jm ao)(B:aop a h ao=Jm (v,h',rd))(ht:Ops ρ a act ao.di):
  NE P ρ h w ((execOp act.eval o).run P w) v h':=by
 simp only[aX,I]at y;split at y
 ·cases y
 ·rename_i d E J;simp only[Cg]at y;obtain⟨L,K,rfl⟩:=y;have G:=aV K ht;simp only[aop,Option.some.injEq,Prod.mk.injEq]at B;obtain⟨rfl,rfl,rfl⟩:=B;refine NE.val (u:= .iface t (act.eval x)) ?_ (.iface _ _ _ G);cases d<;>first | exact absurd rfl (E _) | simp[execOp,I,Instr.makeInterface,run_underlying J]
 ·cases y
def KJ{fn:Fn}{f c:Array Operand}(I:o.op= .makeFunc fn f c)(y:aX P o=Jm ao)(B:aop a h ao=Jm (v,h',rd))(ht:Ops ρ a act ao.di):
  NE P ρ h w ((execOp act.eval o).run P w) v h':=by
 simp only[aX,I]at y;split at y
 ·cases y
 ·cases y
 ·rename_i J M O E G hf K;cases y;simp only[AO.di]at ht;have h1:=mY hf ht.left;have h2:=mY K ht.right;simp only[aop,Option.some.injEq,Prod.mk.injEq]at B;obtain⟨rfl,rfl,rfl⟩:=B;have L:∀g:Fn,(∀l,g= .yield l->False)->(∀t n,g= .methodOf t n->False)->sN g=Jo:=fun g hg hm=>by cases g<;>first | rfl | exact absurd rfl (hg _) | exact absurd rfl (hm _ _)
  refine NE.val (u:= .func _ (f.toList.map act.eval).toArray (c.toList.map act.eval).toArray) ?_ (.func _ _ _ _ _ (L _ E G) h1.1 h2.1 h1.2 h2.2);simp[execOp,I,Instr.makeFunc];exact⟨by apply Ch;simp,by apply Ch;simp⟩
 ·cases y
def OU{t:TypeId}{r:Option Operand}(E:o.op= .makeMap t r)(B:aX P o=Jm ao)(y:aop a h ao=Jm (v,h',rd)):
  NE P ρ h w ((execOp act.eval o).run P w) v h':=by
 cases r with
 | some x=>simp[aX,E]at B
 | none=>
  simp only[aX,E,Option.some.injEq]at B;subst B;simp only[aop,Option.some.injEq,Prod.mk.injEq]at y;obtain⟨rfl,rfl,rfl⟩:=y;refine NE.new (u:= .map (Jm w.heap.size)) (ob:= .map #[] 0) (l:=⟨w.heap.size,0,0⟩) rfl ?_ fun G=>⟨.map h.next ⟨w.heap.size,0,0⟩ (a8 _ _ _),?_⟩
  ·simp[execOp,E,Instr.makeMap]
  ·exact⟨#[],0,heap_alloc_new w _,VRs.nil _,VRs.nil _⟩
end
section
variable {P:Program} {ρ:Emb} {w:World} {a:List AV} {act:Act} {h h':H} {o:Oper} {ao:AO} {v:AV} {rd:List Nat}
def VR.bx{fl:Bool}{sz b i n:Nat}{u:Value}(h:VR ρ (.slice fl sz b i n) u):∃ad cap,u= .slice (Jm ad) n cap/\n<=cap/\cap<=maxLen/\(fl=Jo->cap=n)/\(0<cap->∃l,ρ b=Jm l/\ad=⟨l.blk,l.base+i,Jn⟩/\l.base+i+cap*sz<=l.lim):=by
 cases h with
 | slice _ _ _ _ _ cap ad h1 h2 h3 h4=>exact⟨ad,cap,rfl,h1,h2,h3,h4⟩
def DX{f:Value->ByteArray->Sem (ForInStep ByteArray)}(hf:∀(n:Int) (s:ByteArray),f (.int .u8 n) s=pure (ForInStep.yield (s.push (UInt8.ofNat n.toNat)))):∀{cs:List AV} {B:List Value} {bs:List UInt8} (y:ByteArray),VRs ρ cs B->eW cs=Jm bs->
  (forIn B y f).run P w= .ok ⟨(y.data.toList++bs).toArray⟩ w
 | [],B,bs,y,h,hb=>by rw[h.cr];cases hb;simp
 | v::cs,B,bs,y,h,hb=>by
  obtain⟨u,E,rfl,hv,hr⟩:=h.cons_inv;unfold eW at hb;split at hb
  ·rename_i h0;cases h0
  ·rename_i n r h0;cases h0;split at hb
   ·rename_i t ht;split at hb
    ·cases hb;rw[hv.bh];simp only[List.forIn_cons,hf,Sem.run_bind,Sem.run_pure,Result.andThen_ok];rw[DX hf (y.push (UInt8.ofNat n.toNat)) hr ht];congr 2;simp[ByteArray.push]
    ·cases hb
   ·cases hb
  ·cases hb
def OW{s d:TypeId}{x:Operand}(J:o.op= .convert s d x)(B:aX P o=Jm ao)(S:ao.effect=Jp)(y:aop a h ao=Jm (v,h',rd))(ht:Ops ρ a act ao.di)(K:MZ P ρ h w rd):
  NE P ρ h w ((execOp act.eval o).run P w) v h':=by
 simp only[aX,J]at B;split at B
 ·rename_i k k' x' hs hd L;cases B;have E:=aV L ht;simp only[aop]at y;split at y
  ·rename_i j n R;cases y;rw[R]at E;exact NE.val (u:= .int _ _) (by simp[execOp,J,E.bh,convert,run_underlying hs,run_underlying hd,Conv.intToInt]) (.int _ _)
  ·cases y
 ·rename_i x' hs hd L;cases B;have E:=aV L ht;simp only[aop]at y;split at y
  ·rename_i s' T;cases y;rw[T]at E;exact NE.val (u:= .string _) (by simp[execOp,J,E.cw,convert,run_underlying hs,run_underlying hd]) (.str _)
  ·cases y
 ·rename_i e x' hs hd L;split at B
  ·rename_i he;cases B;have E:=aV L ht;simp only[aop]at y;split at y
   ·rename_i G;cases y;rw[G]at E;have I:act.eval x= .slice Jn 0 0:=by generalize act.eval x=u at E;cases E;rfl
    exact NE.val (u:= .string _) (by simp[execOp,J,I,convert,run_underlying hs,run_underlying hd,run_underlying he,Conv.bytesToString]) (.str _)
   ·rename_i fl sz b i n G;split at y
    ·rename_i cs M;split at y
     ·rename_i bs U;simp only[Option.some.injEq,Prod.mk.injEq]at y;obtain⟨rfl,rfl,rfl⟩:=y;rw[G]at E;obtain⟨ad,a0,I,g1,g2,g3,g4⟩:=E.bx;refine NE.val (u:= .string ⟨bs.toArray⟩) ?_ (.str _);have V:∃O:List Value,(loadCells ad n).run P w= .ok O.toArray w/\VRs ρ cs O:=by
       by_cases h0:n=0
       ·subst h0;have:cs=[]:=by obtain⟨ver,rw_,all,hg,R,e⟩:=cT M;subst e;simp
        subst this;exact⟨[],rfl,.nil ρ⟩
       ·obtain⟨l,hl,rfl,_⟩:=g4 (by omega);obtain⟨ver,rw_,all,hg,R,e⟩:=cT M;obtain⟨O,h1,h2,h3⟩:=(K b (by simp) l _ hl hg).cells R e;exact⟨O,m9 h2 (fun j u hj=>by rw[Addr.iw];exact h3 j u hj),h1⟩
      obtain⟨O,Y,Z⟩:=V;have Q:=fun f hf=>DX (P:=P) (w:=w) (f:=f) hf ByteArray.empty Z U;have e0:ByteArray.empty.data.toList=[]:=rfl;simp only[e0,Aq]at Q;simp only[execOp,J,I,convert,Sem.run_bind,run_underlying hs,run_underlying hd,run_underlying he,Result.andThen_ok,Conv.bytesToString,Y];rw[List.forIn_toArray,Q _ fun n s=>rfl];simp only[Result.andThen_ok,Sem.run_pure]
     ·cases y
    ·cases y
   ·cases y
  ·cases B
 ·split at B
  ·cases B;simp[AO.effect]at S
  ·cases B
 ·cases B
def GP{t:TypeId}{n c:Operand}(U:o.op= .makeSlice t n c)(E:aX P o=Jm ao)(B:aop a h ao=Jm (v,h',rd))(ht:Ops ρ a act ao.di):
  NE P ρ h w ((execOp act.eval o).run P w) v h':=by
 simp only[aX,U]at E;split at E
 ·rename_i e Z;split at E
  ·rename_i i z l c' V hz hl hc;split at E
   ·rename_i G;simp only[Au,decide_eq_true_eq]at G;cases E;simp only[AO.di]at ht;have h1:=aV hl ht.left;have h2:=aV hc ht.right;simp only[aop]at B;split at B
    ·rename_i m k e1 e2;rw[e1]at h1;rw[e2]at h2;split at B
     ·rename_i hb;obtain⟨b1,b2,b3,b4⟩:=hb;cases B;obtain⟨u,i',K,J,a0,L⟩:=g7 hz;rw[V]at K;cases K;have Q:=eA L;have M:u.cells.size=z.length:=by simpa using Q.symm
      have R:k<=9223372036854775807:=by unfold fK at b4;omega
      have B:=run_make (P:=P) w t e i u Z V J .i64 .i64 m k b1 b2 (by rw[Int.mul_comm];omega) R;refine NE.new (u:= .slice (Jm ⟨w.heap.size,0,Jn⟩) m.toNat k.toNat) (ob:= .cells (madeCells u.cells (k.toNat*i.size)) e)
       (l:=⟨w.heap.size,0,(madeCells u.cells (k.toNat*i.size)).size⟩) rfl ?_ fun a1=>⟨?_,?_⟩
      ·simp[execOp,U,h1.bh,h2.bh,B]
      ·refine .slice _ z.length h.next 0 m.toNat k.toNat _ (by omega) (by unfold maxLen;omega) (fun he=>?_) fun hp=>⟨_,a8 _ _ _,rfl,?_⟩
       ·simp at he;omega
       ·simp[madeCells,G.1]
      ·have I:∀S,VRs S (gH k.toNat z) (madeCells u.cells (k.toNat*i.size)).toList:=fun S=>by have:=nQ (n:=k.toNat) (eL (ρ:=S) L).1 (by omega);simp only[Ia,Fp]at this;unfold madeCells;rw[G.1,<-M];exact this
       have O:gH k.toNat z=gH m.toNat z++gH (k.toNat-m.toNat) z:=by
        have:∀p q:Nat,gH (p+q) z=gH p z++gH q z:=by
         intro p q
         induction p with
         | zero=>simp[gH]
         | succ p ih=>rw[Nat.succ_add];simp[gH,ih]
        rw[<-this];congr 1;omega
       refine OR.newRow rfl rfl rfl ?_ fun j y Y=>?_
       ·have:=(I ρ).1;rw[O]at this;simp only[An,Fp]at this;omega
       ·obtain⟨z',T,hr⟩:=(I _).getElem (i:=j) (v:=y) (by rw[O,Bj (List.getElem?_eq_some_iff.1 Y).1];exact Y);exact⟨z',by simpa using T,hr⟩
     ·cases B
    ·cases B
   ·cases E
  ·cases E
 ·cases E
def vi(p:IntKind×Int):Value:= .int p.1 p.2
def nA{isS:Bool}{len cap:Nat}{l r m:Option (IntKind×Int)}(u:m.isSome=Jo->r.isSome=Jo)(h0:0<=(l.map At).getD (0:Int))(h1:(l.map At).getD (0:Int)<=(r.map At).getD (len:Int))
  (h2:(r.map At).getD (len:Int)<=(m.map At).getD (cap:Int)) (h3:(m.map At).getD (cap:Int)<=cap):
  (Instr.sliceBounds isS len cap (l.map vi) (r.map vi) (m.map vi)).run P w= .ok (((l.map At).getD (0:Int)).toNat,((r.map At).getD (len:Int)).toNat,((m.map At).getD (cap:Int)).toNat) w:=by
 have e:∀x:Int,0<=x->((x.toNat:Nat):Int)=x:=fun x G=>Int.toNat_of_nonneg G
 cases l with
 | none=>
  cases r with
  | none=>
   cases m with
   | none=>simp[Instr.sliceBounds]
   | some m=>simp at u
  | some r=>
   obtain⟨y,r⟩:=r;simp at h0 h1 h2 h3
   cases m with
   | none=>simp at h2 h3;simp[Instr.sliceBounds,vi,run_sliceBound w y r cap _ h1 h2]
   | some m=>obtain⟨B,m⟩:=m;simp at h2 h3;simp[Instr.sliceBounds,vi,run_sliceBound w B m cap _ (by omega) h3,run_sliceBound w y r m.toNat _ h1 (by rw[e m (by omega)];exact h2)]
 | some l=>
  obtain⟨E,l⟩:=l;simp at h0 h1
  cases r with
  | none=>
   cases m with
   | none=>simp at h1;simp[Instr.sliceBounds,vi,run_sliceBound w E l len _ h0 h1]
   | some m=>simp at u
  | some r=>
   obtain⟨y,r⟩:=r;simp at h1 h2 h3
   cases m with
   | none=>simp at h2 h3;simp[Instr.sliceBounds,vi,run_sliceBound w y r cap _ (by omega) h2,run_sliceBound w E l r.toNat _ h0 (by rw[e r (by omega)];exact h1)]
   | some m=>obtain⟨B,m⟩:=m;simp at h2 h3;simp[Instr.sliceBounds,vi,run_sliceBound w B m cap _ (by omega) h3,run_sliceBound w y r m.toNat _ (by omega) (by rw[e m (by omega)];exact h2),run_sliceBound w E l r.toNat _ h0 (by rw[e r (by omega)];exact h1)]
def rF{x:Option Operand}{y:Option AR}{n:Option Int}(u:CL x=Jm y)(ht:Ops ρ a act (KC y))(hb:bnd a y=Jm n):
  ∃p:Option (IntKind×Int),x.map act.eval=p.map vi/\n=p.map At:=by
 cases x with
 | none=>simp[CL]at u;subst u;simp[bnd]at hb;subst hb;exact⟨Jn,rfl,rfl⟩
 | some x=>
  simp only[CL,Cg]at u;obtain⟨r,hr,rfl⟩:=u;have hv:=aV hr ht;unfold bnd at hb;split at hb
  ·rename_i h;cases h
  ·rename_i B h;cases h;split at hb
   ·rename_i k m he;cases hb;rw[he]at hv;exact⟨Jm (k,m),by simp[vi,hv.bh],rfl⟩
   ·cases hb
def sH{t e:TypeId}{s len u:Nat}{base:Option Addr}{y B E:Option Value}{l r m:Nat}(G:P.underlying t=Jm (.slice e))(hs:eK P e=Jm s)
  (hb:(Instr.sliceBounds Jo len u y B E).run P w= .ok (l,r,m) w):(Instr.sliceAt t (.slice base len u) y B E).run P w= .ok (.slice (if m=l then base else base.map (·.add (l*s))) (r-l) (m-l)) w:=by
 simp[Instr.sliceAt,run_underlying G,Instr.slice,hb,cV hs]
def VR.sliced{fl fl':Bool}{sz b i n l r cap' m:Nat}{ad:Addr}(h1:n<=cap')(h2:cap'<=maxLen)(h3:fl=Jo->cap'=n)
  (h4:0<cap'->∃y,ρ b=Jm y/\ad=⟨y.blk,y.base+i,Jn⟩/\y.base+i+cap'*sz<=y.lim) (hl:l<=r) (hr:r<=m) (hm:m<=cap') (hf:fl'=Jo->m=r):
  VR ρ (.slice fl' sz b (i+l*sz) (r-l)) (.slice (if m=l then Jm ad else(Jm ad).map (·.add (l*sz))) (r-l) (m-l)):=by
 by_cases e:m=l
 ·rw[if_pos e];exact .slice fl' sz b _ _ _ ad (by omega) (by omega) (fun B=>by have:=hf B;omega) (fun hp=>by omega)
 ·rw[if_neg e];refine .slice fl' sz b _ _ _ _ (by omega) (by omega) (fun B=>by have:=hf B;omega) fun hp=>?_;obtain⟨y,E,G,I⟩:=h4 (by omega);refine⟨y,E,by rw[G];show(⟨y.blk,y.base+i,Jn⟩:Addr).add (l*sz)=_;rw[Addr.iw,Cs],?_⟩;have:l*sz+(m-l)*sz<=cap'*sz:=by rw[<-Dg];exact Dr _ (by omega)
  omega
def F8{t:TypeId}{s:ByteArray}{u y:Option Value}{l r m:Nat}(B:P.underlying t=Jm .string)(hb:(Instr.sliceBounds Jp s.size s.size u y Jn).run P w= .ok (l,r,m) w):
  (Instr.sliceAt t (.string s) u y Jn).run P w= .ok (.string (s.extract l r)) w:=by
 simp[Instr.sliceAt,run_underlying B,Instr.slice,hb]
def F9{t e:TypeId}{s n:Nat}{u:Addr}{y B:Option Value}{l r m:Nat}(E:P.underlying t=Jm (.array n e))(hs:eK P e=Jm s)
  (hb:(Instr.sliceBounds Jp n n y B Jn).run P w= .ok (l,r,m) w):(Instr.sliceAt t (.pointer (Jm u)) y B Jn).run P w= .ok (.slice (Jm (if m=l then u else u.add (l*s))) (r-l) (m-l)) w:=by
 simp[Instr.sliceAt,run_underlying E,Instr.sureAddr,hb,cV hs]
def aAy{t:TypeId}{x:Operand}{lo hi mx:Option Operand}(ho:o.op= .slice t x lo hi mx)(B:aX P o=Jm ao)(y:aop a h ao=Jm (v,h',rd))(ht:Ops ρ a act ao.di)(a3:MZ P ρ h w rd):
  NE P ρ h w ((execOp act.eval o).run P w) v h':=by
 simp only[aX,ho]at B;split at B
 ·rename_i e hu;split at B
  ·rename_i s x' a4 a5 b4 hs hx O Q a7;cases B;simp only[AO.di]at ht;have E:=aV hx ht.left.left.left;simp only[aop]at y;split at y
   ·rename_i L R M S T a9;obtain⟨G,el,rfl⟩:=rF O ht.left.left.right S;obtain⟨pr,er,rfl⟩:=rF Q ht.left.right T;obtain⟨K,em,rfl⟩:=rF a7 ht.right a9;split at y
    ·rename_i r hr;cases y;unfold fG at hr;split at hr
     ·cases hr
     ·rename_i b5;have a0:K.isSome=Jo->pr.isSome=Jo:=by cases K<;>cases pr<;>simp_all
      split at hr
      ·rename_i J;rw[J]at E;have U:act.eval x= .slice Jn 0 0:=by generalize act.eval x=u at E;cases E;rfl
       split at hr
       ·rename_i hc;cases hr;simp only[Au,beq_iff_eq]at hc;obtain⟨⟨Y,Z⟩,c3⟩:=hc;have hb:=nA (P:=P) (w:=w) (isS:=true) (len:=0) (cap:=0) a0 (by rw[Y];omega) (by rw[Y];simp[Z]) (by simp[Z,c3]) (by simp[c3]);simp only[Y,Int.ofNat_zero,Int.natCast_zero,Z,c3,Int.toNat_zero]at hb;refine NE.val (u:= .slice Jn 0 0) ?_ .ag;simp[execOp,ho,U,el,er,em,sH hu hs hb]
       ·cases hr
      ·rename_i fl sz b i n J;rw[J]at E;obtain⟨ad,I,U,g1,g2,g3,g4⟩:=E.bx;split at hr
       ·rename_i hc;cases hr;obtain⟨rfl,Y,Z,c3,c4⟩:=hc;have fin:∀(m:Nat),(m:Int)=(K.map At).getD (I:Int)->((pr.map At).getD (n:Int)).toNat<=m->m<=I->
          ((if(K.map At).isSome then(K.map At).getD ((pr.map At).getD (n:Int))==(pr.map At).getD (n:Int)else fl&&(pr.map At).getD (n:Int)==(n:Int))=Jo->m=((pr.map At).getD (n:Int)).toNat)->
          NE P ρ h w ((execOp act.eval o).run P w) (.slice (if(K.map At).isSome then(K.map At).getD ((pr.map At).getD (n:Int))==(pr.map At).getD (n:Int)else fl&&(pr.map At).getD (n:Int)==(n:Int)) sz b (i+((G.map At).getD (0:Int)).toNat*sz) ((pr.map At).getD (n:Int)-(G.map At).getD (0:Int)).toNat) h:=by
         intro m a2 b0 b1 b2;have hb:=nA (P:=P) (w:=w) (isS:=true) (len:=n) (cap:=I) (l:=G) (r:=pr) (m:=K) a0 Y Z (by rw[<-a2];omega) (by rw[<-a2];omega);rw[<-a2,Ck]at hb;have V:=VR.sliced (ρ:=ρ) (l:=((G.map At).getD (0:Int)).toNat) (r:=((pr.map At).getD (n:Int)).toNat) (m:=m) g1 g2 g3 g4 (by omega) b0 b1 b2;rw[show((pr.map At).getD (n:Int)).toNat-((G.map At).getD (0:Int)).toNat=((pr.map At).getD (n:Int)-(G.map At).getD (0:Int)).toNat from by omega]at V;refine NE.val ?_ V;simp only[execOp,ho,U,el,er,em,Sem.run_bind,sH hu hs hb,Result.andThen_ok,Sem.run_pure];rw[show((pr.map At).getD (n:Int)).toNat-((G.map At).getD (0:Int)).toNat=((pr.map At).getD (n:Int)-(G.map At).getD (0:Int)).toNat from by omega]
        cases K with
        | none=>simp only[Fz,Gt]at c3 c4;refine fin I rfl (by omega) (Ac _) fun hh=>?_;simp at hh;have:=g3 hh.1;omega
        | some K=>obtain⟨kp,K⟩:=K;simp only[Cr,Cx]at c3 c4;refine fin K.toNat (by simp;omega) (by omega) (by omega) fun hh=>?_;simp at hh;omega
       ·cases hr
      ·cases hr
    ·cases y
   ·cases y
  ·cases B
 ·rename_i hu;split at B
  ·rename_i x' a4 a5 hx O Q;cases B;simp only[AO.di]at ht;have E:=aV hx ht.left.left;simp only[aop]at y;split at y
   ·rename_i s L R J S T;obtain⟨G,el,rfl⟩:=rF O ht.left.right S;obtain⟨pr,er,rfl⟩:=rF Q ht.right T;rw[J]at E;split at y
    ·rename_i hc;cases y;obtain⟨Y,Z,c3⟩:=hc;have hb:=nA (P:=P) (w:=w) (isS:=false) (len:=s.size) (cap:=s.size) (l:=G) (r:=pr) (m:=Jn) (by simp) Y Z (by simpa using c3) (by simp);refine NE.val ?_ (.str _);simp only[Fz]at hb;simp only[execOp,ho,E.cw,el,er,Fz,Sem.run_bind,F8 hu hb,Result.andThen_ok,Sem.run_pure]
    ·cases y
   ·cases y
  ·cases B
 ·rename_i n e hu;split at B
  ·rename_i s x' a4 a5 hs hx O Q;split at B
   ·rename_i hn;cases B;simp only[AO.di]at ht;have E:=aV hx ht.left.left;simp only[aop]at y;split at y
    ·rename_i b i J;rw[J]at E;obtain⟨lc,a6,U⟩:=E.gp;split at y
     ·rename_i L R ver rw_ cs S T hg;obtain⟨G,el,rfl⟩:=rF O ht.left.right S;obtain⟨pr,er,rfl⟩:=rF Q ht.right T;split at y
      ·rename_i hlen;split at y
       ·rename_i r hr;cases y;unfold fG at hr;simp only[Option.isSome_none,Bool.false_and,Bf,if_false,Gt]at hr;split at hr
        ·rename_i hc;cases hr;obtain⟨-,Y,Z,c3,c4⟩:=hc;obtain⟨cc,fz,et,g1,g2,g3,_⟩:=a3 b (by simp) lc _ a6 hg;have hb:=nA (P:=P) (w:=w) (isS:=false) (len:=n) (cap:=n) (l:=G) (r:=pr) (m:=Jn) (by simp) Y Z (by simpa using c4) (by simp);simp only[Fz,Gt,Ck]at hb;have V:=VR.sliced (ρ:=ρ) (fl:=true) (fl':=(pr.map At).getD (n:Int)==(n:Int)) (sz:=s) (b:=b) (i:=i) (n:=n) (cap':=n) (l:=((G.map At).getD (0:Int)).toNat) (r:=((pr.map At).getD (n:Int)).toNat) (m:=n) (Ac _) (by unfold maxLen;omega) (fun _=>rfl) (ad:=⟨lc.blk,lc.base+i,Jn⟩) (fun _=>⟨lc,a6,rfl,by omega⟩) (by omega) (by omega) (Ac _) (fun hh=>by simp at hh;omega);rw[show((pr.map At).getD (n:Int)).toNat-((G.map At).getD (0:Int)).toNat=((pr.map At).getD (n:Int)-(G.map At).getD (0:Int)).toNat from by omega]at V;refine NE.val ?_ (by simpa using V);simp only[execOp,ho,U,el,er,Fz,Sem.run_bind,F9 hu hs hb,Result.andThen_ok,Sem.run_pure];rw[show((pr.map At).getD (n:Int)).toNat-((G.map At).getD (0:Int)).toNat=((pr.map At).getD (n:Int)-(G.map At).getD (0:Int)).toNat from by omega];by_cases e:n=((G.map At).getD (0:Int)).toNat
         ·rw[if_pos e,if_pos e]
         ·rw[if_neg e,if_neg e]
        ·cases hr
       ·cases y
      ·cases y
     ·cases y
    ·cases y
   ·cases B
  ·cases B
 ·cases B
def GS{t:TypeId}{x:Operand}{i:Nat}(I:o.op= .fieldAddr t x i)(y:aX P o=Jm ao)(B:aop a h ao=Jm (v,h',rd))(ht:Ops ρ a act ao.di):
  NE P ρ h w ((execOp act.eval o).run P w) v h':=by
 simp only[aX,I]at y;split at y
 ·rename_i L J;split at y
  ·rename_i f hf;split at y
   ·rename_i n M hs K;cases y;have E:=aV K ht;simp only[aop]at B;split at B
    ·rename_i b j hb;cases B;rw[hb]at E;obtain⟨l,hl,G⟩:=E.gp;refine NE.val (u:= .pointer (Jm ⟨l.blk,l.base+(j+f.offset),Jn⟩)) ?_ (.ptr _ _ l hl);simp[execOp,I,G,Instr.fieldAt,run_underlying J,hf,Instr.sureAddr,fieldPlace,cV hs,Addr.iw,Cs]
    ·cases B
   ·cases y
  ·cases y
 ·cases y
def JI{t:TypeId}{cs:List AV}{y:List Value}{off n:Nat}{g:Bool}(u:nM P t=Jm g)(hs:eK P t=Jm n)(hv:VRs ρ cs y){r:AV}
  (h:(if g then(if off+n<=cs.length then Jm (AV.agg ((cs.drop off).take n))else Jn)else cs[off]?)=Jm r):∃z,VR ρ r z/\(part t y.toArray off).run P w= .ok z w:=by
 cases g with
 | true=>
  simp only[if_true]at h;split at h
  ·rename_i B;cases h;refine⟨.agg ((y.drop off).take n).toArray,((hv.drop off).take n).qu,?_⟩;simp[part,iS u,cV hs]
  ·cases h
 | false=>simp only[Bf,if_false]at h;obtain⟨z,hz,hr⟩:=hv.getElem h;exact⟨z,hr,by simp[part,iS u,hz]⟩
def aAA{t:TypeId}{x:Operand}{i:Nat}(S:o.op= .field t x i)(E:aX P o=Jm ao)(B:aop a h ao=Jm (v,h',rd))(ht:Ops ρ a act ao.di):
  NE P ρ h w ((execOp act.eval o).run P w) v h':=by
 have fin:∀{J:Array Field} {f:Field} {cs:List AV} {x':AR} {g:Bool} {n:Nat},P.underlying t=Jm (.struct J)->J[i]? =Jm f->nM P f.type=Jm g->eK P f.type=Jm n->VR ρ (.agg cs) (act.eval x)->
   (if g then(if f.offset+n<=cs.length then Jm (AV.agg ((cs.drop f.offset).take n))else Jn)else cs[f.offset]?)=Jm v->h'=h->NE P ρ h w ((execOp act.eval o).run P w) v h':=by
  intro J f cs x' g n K hf hg L hv I e;subst e;obtain⟨Y,T,M⟩:=hv.jq;obtain⟨z,hz,B⟩:=JI (P:=P) (w:=w) hg L M I;exact NE.val (u:=z) (by simp[execOp,S,T,Instr.field,run_underlying K,hf,asAgg,B]) hz
 simp only[aX,S]at E;split at E
 ·rename_i J K;split at E
  ·rename_i f hf;split at E
   ·rename_i n x' hg hs O;cases E;have G:=aV O ht;simp only[aop]at B;split at B
    ·rename_i cs I;split at B
     ·rename_i Q;cases B;rw[I]at G;exact fin (x':=x') K hf hg hs G (by simp[Q]) rfl
     ·cases B
    ·cases B
   ·rename_i x' hg O;cases E;have G:=aV O ht;simp only[aop]at B;split at B
    ·rename_i cs I;split at B
     ·rename_i y U;cases B;rw[I]at G;have R:∃n,eK P f.type=Jm n:=by
       unfold nM Program.underlying at hg;unfold eK
       cases V:P.info? f.type with
       | none=>simp[V]at hg
       | some i=>exact⟨i.size,rfl⟩
      obtain⟨n,L⟩:=R;exact fin (x':=x') K hf hg L G (by simpa using U) rfl
     ·cases B
    ·cases B
   ·cases E
  ·cases E
 ·cases E
def GQ{t:TypeId}{x i:Operand}(I:o.op= .indexAddr t x i)(B:aX P o=Jm ao)(y:aop a h ao=Jm (v,h',rd))(ht:Ops ρ a act ao.di):
  NE P ρ h w ((execOp act.eval o).run P w) v h':=by
 simp only[aX,I]at B;split at B
 ·rename_i e Q R J K L;split at B
  ·rename_i s hs;cases B;simp only[AO.di]at ht;have h1:=aV K ht.left;have h2:=aV L ht.right;simp only[aop]at y;split at y
   ·rename_i U sz b j n k m M O;rw[M]at h1;rw[O]at h2;split at y
    ·rename_i G;obtain⟨rfl,G⟩:=G;cases y;obtain⟨V,S,E,Y,Z,g3,T⟩:=h1.bx;obtain⟨l,hl,rfl,_⟩:=T (by omega);refine NE.val (u:= .pointer (Jm ⟨l.blk,l.base+(j+m.toNat*sz),Jn⟩)) ?_ (.ptr _ _ l hl);simp[execOp,I,E,h2.bh,Instr.indexAt,asIntOf,run_underlying J,G,cV hs,Addr.iw,Cs]
    ·cases y
   ·cases y
  ·cases B
 ·rename_i len e Q R J K L;split at B
  ·rename_i s hs;cases B;simp only[AO.di]at ht;have h1:=aV K ht.left;have h2:=aV L ht.right;simp only[aop]at y;split at y
   ·rename_i b j k m M O;rw[M]at h1;rw[O]at h2;split at y
    ·rename_i G;cases y;obtain⟨l,hl,E⟩:=h1.gp;refine NE.val (u:= .pointer (Jm ⟨l.blk,l.base+(j+m.toNat*s),Jn⟩)) ?_ (.ptr _ _ l hl);simp[execOp,I,E,h2.bh,Instr.indexAt,asIntOf,run_underlying J,Instr.sureAddr,G,cV hs,Addr.iw,Cs]
    ·cases y
   ·cases y
  ·cases B
 ·cases B
def aAz{t:TypeId}{x i:Operand}(G:o.op= .index t x i)(E:aX P o=Jm ao)(B:aop a h ao=Jm (v,h',rd))(ht:Ops ρ a act ao.di):
  NE P ρ h w ((execOp act.eval o).run P w) v h':=by
 simp only[aX,G]at E;split at E
 ·rename_i n e V Y I J K;split at E
  ·rename_i s g hs hg;cases E;simp only[AO.di]at ht;have h1:=aV J ht.left;have h2:=aV K ht.right;simp only[aop]at B;split at B
   ·rename_i cs k m L M;rw[L]at h1;rw[M]at h2;split at B
    ·rename_i O;obtain⟨us,Q,R⟩:=h1.jq;have S:(if g then(if m.toNat*s+s<=cs.length then Jm (AV.agg ((cs.drop (m.toNat*s)).take s))else Jn)else cs[m.toNat*s]?)=Jm v/\h'=h:=by
      cases g with
      | true=>
       simp only[if_true]at B ⊢;split at B
       ·rename_i T;cases B;exact⟨by rw[if_pos T],rfl⟩
       ·cases B
      | false=>
       simp only[Bf,if_false]at B ⊢;split at B
       ·rename_i y Z;cases B;exact⟨Z,rfl⟩
       ·cases B
     obtain⟨S,rfl⟩:=S;obtain⟨z,hz,hr⟩:=JI (P:=P) (w:=w) hg hs R S;exact NE.val (u:=z) (by simp[execOp,G,Q,h2.bh,Instr.index,asIntOf,run_underlying I,O,cV hs,hr]) hz
    ·cases B
   ·cases B
  ·cases E
 ·rename_i V Y I J K;cases E;simp only[AO.di]at ht;have h1:=aV J ht.left;have h2:=aV K ht.right;simp only[aop]at B;split at B
  ·rename_i s k m L M;rw[L]at h1;rw[M]at h2;split at B
   ·rename_i O;split at B
    ·rename_i c U;cases B;exact NE.val (u:= .int .u8 c.toNat) (by simp[execOp,G,h1.cw,h2.bh,Instr.index,asIntOf,run_underlying I,O,U]) (.int _ _)
    ·cases B
   ·cases B
  ·cases B
 ·cases E
def nJ{t:TypeId}{kd:Nat}(u:pO P t=Jm kd):∃d,P.underlying t=Jm d/\((kd=0/\∃q,d= .int q)\/(kd=1/\d= .bool)\/(kd=2/\d= .string)):=by
 unfold pO at u;split at u<;>first | (cases u;done) | skip
 ·rename_i q y;cases u;exact⟨_,y,.inl ⟨rfl,q,rfl⟩⟩
 ·rename_i y;cases u;exact⟨_,y,.inr (.inl ⟨rfl,rfl⟩)⟩
 ·rename_i y;cases u;exact⟨_,y,.inr (.inr ⟨rfl,rfl⟩)⟩
def eP{b:Bool}{k:TypeId}{kd:Nat}{u:Value}(y:pO P k=Jm kd):(Instr.checkKey b 10000 k u).run P w= .ok () w:=by obtain⟨d,B,hd⟩:=nJ y;show(Instr.checkKey b (9999+1) k u).run P w=_;unfold Instr.checkKey;rcases hd with⟨_,q,rfl⟩ | ⟨_,rfl⟩ | ⟨_,rfl⟩<;>simp[run_underlying B]
def m8{kd:Nat}{d:TypeDesc}{x y:AV}{b:Bool}{u B:Value}(hd:(kd=0/\∃q,d= .int q)\/(kd=1/\d= .bool)\/(kd=2/\d= .string))(h:wF kd x y=Jm b)(E:VR ρ x u)(G:VR ρ y B):
  Instr.sameNow d u B=Jm b/\(b=Jo->Instr.sameBits 10000 B u=Jo):=by
 unfold wF at h;split at h<;>first | (cases h;done) | skip
 ·rename_i k m L n;split at h
  ·rename_i K;subst K;cases h;rcases hd with⟨_,q,rfl⟩ | ⟨hh,_⟩ | ⟨hh,_⟩
   ·rw[E.bh,G.bh];refine⟨by simp[Instr.sameNow],fun hb=>?_⟩;simp at hb;subst hb;simp[Instr.sameBits]
   ·cases hh
   ·cases hh
  ·cases h
 ·rename_i m n;cases h;rcases hd with⟨hh,_⟩ | ⟨_,rfl⟩ | ⟨hh,_⟩
  ·cases hh
  ·rw[E.cg,G.cg];refine⟨by simp[Instr.sameNow],fun hb=>?_⟩;simp at hb;subst hb;simp[Instr.sameBits]
  ·cases hh
 ·rename_i m n;cases h;rcases hd with⟨hh,_⟩ | ⟨hh,_⟩ | ⟨_,rfl⟩
  ·cases hh
  ·cases hh
  ·rw[E.cw,G.cw];refine⟨by simp[Instr.sameNow],fun hb=>?_⟩
   cases m with
   | mk I=>
    cases n with
    | mk J=>have e:I=J:=eq_of_beq (show(I==J)=Jo from hb);subst e;simp only[Instr.sameBits];exact hb
def PK{kd:Nat}{d:TypeDesc}(hd:(kd=0/\∃q,d= .int q)\/(kd=1/\d= .bool)\/(kd=2/\d= .string)){k:AV}{u:Value}(L:VR ρ k u):
  ∀{E:List (AV×AV)} {B:List MapEntry} {r:Option AV} (i:Nat),iZ kd k E=Jm r->VRs ρ (E.map (·.1)) (B.map (·.key))->VRs ρ (E.map (·.2)) (B.map (·.val))->
   (r=Jn/\Instr.findNow d u B i=Jm Jn)\/(∃y z j,r=Jm y/\Instr.findNow d u B i=Jm (Jm (i+j,z))/\VR ρ y z/\∃e,B[j]? =Jm e/\Instr.sameBits 10000 e.key u=Jo):=by
 intro E
 induction E with
 | nil=>
  intro B r i hf h1 h2;have:B=[]:=by have:=h1.1;simpa using this
  subst this;cases hf;exact .inl ⟨rfl,rfl⟩
 | cons p E M=>
  intro B r i hf h1 h2;obtain⟨V,y⟩:=p
  cases B with
  | nil=>have:=h1.1;simp at this
  | cons e B=>
   simp only[Ak]at h1 h2;simp only[iZ]at hf;split at hf
   ·rename_i I;cases hf;obtain⟨G,O⟩:=m8 hd I L h1.head;exact .inr ⟨y,e.val,0,rfl,by simp[Instr.findNow,G],h2.head,e,rfl,O rfl⟩
   ·rename_i I;obtain⟨G,_⟩:=m8 hd I L h1.head;rcases M (i+1) hf h1.tail h2.tail with⟨J,K⟩ | ⟨Q,z,j,J,K,R,S,T,U⟩
    ·exact .inl ⟨J,by simp[Instr.findNow,G,K]⟩
    ·exact .inr ⟨Q,z,j+1,J,by simp only[Instr.findNow,G,K];congr 3;omega,R,S,by simpa using T,U⟩
   ·cases hf
def DW{t:TypeId}{z:AV}(hs:RW P t=Jm z):∃u,(∀w,(zeroValue t).run P w= .ok u w)/\gJ u=Jm z:=by
 unfold RW at hs
 cases y:P.info? t with
 | none=>simp[y]at hs
 | some i=>
  cases hz:i.zero with
  | none=>simp[y,hz]at hs
  | some u=>exact⟨u,fun w=>by simp[zeroValue,jT y,hz],by simpa [y,hz]using hs⟩
def VR.pair{x y:AV}{u B:Value}(E:VR ρ x u)(G:VR ρ y B):VR ρ (.tuple [x,y]) (.tuple #[u,B]):=(VRs.cons E (VRs.cons G (VRs.nil ρ))).lm
def CT{x:Operand}{T t:TypeId}{U:Bool}(K:o.op= .typeAssert x T t U)(B:aX P o=Jm ao)(y:aop a h ao=Jm (v,h',rd))(ht:Ops ρ a act ao.di):
  NE P ρ h w ((execOp act.eval o).run P w) v h':=by
 simp only[aX,K]at B;split at B
 ·cases B
 ·rename_i d z Z E M hz V;cases B;simp only[AO.di]at ht;have h1:=aV V ht;obtain⟨O,I,Q⟩:=DW hz;have J:VR ρ z O:=(gX Q).1;have E:∀m,d≠ .interface m:=fun m e=>by subst e;exact E m rfl
  simp only[aop]at y;split at y
  ·rename_i hm;cases y;rw[hm]at h1;have G:act.eval x= .nilIface:=by generalize act.eval x=u at h1;cases h1;rfl
   refine NE.val (u:= .tuple #[O,.bool Jp]) ?_ (VR.pair J (.bool _));cases d<;>first | exact absurd rfl (E _) | simp[execOp,K,G,Instr.typeAssert,run_underlying M,I]
  ·rename_i S Y hm;cases y;rw[hm]at h1;obtain⟨L,G,R⟩:∃L,act.eval x= .iface S L/\VR ρ Y L:=by generalize act.eval x=u at h1;cases h1;exact⟨_,rfl,by assumption⟩
   by_cases e:S=t
   ·rw[if_pos e];refine NE.val (u:= .tuple #[L,.bool Jo]) ?_ (VR.pair R (.bool _));cases d<;>first | exact absurd rfl (E _) | simp[execOp,K,G,Instr.typeAssert,run_underlying M,e]
   ·rw[if_neg e];refine NE.val (u:= .tuple #[O,.bool Jp]) ?_ (VR.pair J (.bool _));cases d<;>first | exact absurd rfl (E _) | simp[execOp,K,G,Instr.typeAssert,run_underlying M,e,I]
  ·cases y
 ·cases B
def WB{t:TypeId}{x i:Operand}{R:Bool}(M:o.op= .lookup t x i R)(G:aX P o=Jm ao)(B:aop a h ao=Jm (v,h',rd))(ht:Ops ρ a act ao.di)(T:MZ P ρ h w rd):
  NE P ρ h w ((execOp act.eval o).run P w) v h':=by
 simp only[aX,M]at G;split at G
 ·rename_i k e x' i' S hx hi;split at G
  ·rename_i z kd hz O;cases G;simp only[AO.di]at ht;have h1:=aV hx ht.left;have h2:=aV hi ht.right;obtain⟨U,I,V⟩:=DW hz;have J:VR ρ z U:=(gX V).1;obtain⟨d,hd,Y⟩:=nJ O;simp only[aop]at B;split at B
   ·rename_i hm;cases B;rw[hm]at h1;have E:act.eval x= .map Jn:=by generalize act.eval x=u at h1;cases h1;rfl
    cases R with
    | true=>refine NE.val (u:= .tuple #[U,.bool Jp]) ?_ (VR.pair J (.bool _));simp[execOp,M,E,Instr.lookup,run_underlying S,eP O,Instr.findKey,run_underlying hd,Instr.findNow,I]
    | false=>refine NE.val (u:=U) ?_ J;simp[execOp,M,E,Instr.lookup,run_underlying S,eP O,Instr.findKey,run_underlying hd,Instr.findNow,I]
   ·rename_i r hm;rw[hm]at h1;obtain⟨l,hl,E⟩:=h1.np;split at B
    ·rename_i ver es hg;have fin:∀{Q:Option AV},iZ kd (ev a i') es=Jm Q->rd=[r]->h'=h->(v=match Q with | some y=>if R then .tuple [y,.bool Jo]else y | none=>if R then .tuple [z,.bool Jp]else z)->
       NE P ρ h w ((execOp act.eval o).run P w) v h':=by
      intro Q hf hr e K;subst hr;subst e;obtain⟨en,ck,g1,g2,g3⟩:=T r (by simp) l _ hl hg;have L:(getObj l.blk).run P w= .ok (.map en ck) w:=by simp[getObj,Sem.run,g1]
      rcases PK Y h2 0 hf g2 g3 with⟨rfl,q⟩ | ⟨y,Z,j,rfl,q,q2,_⟩
      ·simp only at K;subst K
       cases R with
       | true=>refine NE.val (u:= .tuple #[U,.bool Jp]) ?_ (VR.pair J (.bool _));simp[execOp,M,E,Instr.lookup,run_underlying S,L,eP O,Instr.findKey,run_underlying hd,q,I]
       | false=>refine NE.val (u:=U) ?_ J;simp[execOp,M,E,Instr.lookup,run_underlying S,L,eP O,Instr.findKey,run_underlying hd,q,I]
      ·simp only at K;subst K
       cases R with
       | true=>refine NE.val (u:= .tuple #[Z,.bool Jo]) ?_ (VR.pair q2 (.bool _));simp[execOp,M,E,Instr.lookup,run_underlying S,L,eP O,Instr.findKey,run_underlying hd,q]
       | false=>refine NE.val (u:=Z) ?_ q2;simp[execOp,M,E,Instr.lookup,run_underlying S,L,eP O,Instr.findKey,run_underlying hd,q]
     split at B
     ·rename_i y hf;cases B;exact fin hf rfl rfl rfl
     ·rename_i hf;cases B;exact fin hf rfl rfl rfl
     ·cases B
    ·cases B
   ·cases B
  ·cases G
 ·cases G
def OV{x:Operand}{i:Nat}(L:o.op= .extract x i)(E:aX P o=Jm ao)(B:aop a h ao=Jm (v,h',rd))(ht:Ops ρ a act ao.di):
  NE P ρ h w ((execOp act.eval o).run P w) v h':=by
 simp only[aX,L,Cg]at E;obtain⟨Q,M,rfl⟩:=E;have G:=aV M ht;simp only[aop]at B;split at B
 ·rename_i R I;split at B
  ·rename_i y O;cases B;rw[I]at G;obtain⟨S,J,K⟩:=G.mv;obtain⟨z,hz,hr⟩:=K.getElem O;exact NE.val (u:=z) (by simp[execOp,L,J,Instr.extract,hz]) hr
  ·cases B
 ·cases B
end
section
variable {P:Program} {ρ:Emb} {w:World} {a:List AV} {act:Act} {h h':H} {o:Oper} {ao:AO} {v:AV} {rd:List Nat}
def BJ{f:Value->Value->Sem Value}{g:AV->AV->Option AV}(G:∀{x y r:AV} {u I:Value},g x y=Jm r->VR ρ x u->VR ρ y I->∃z,VR ρ r z/\(f u I).run P w= .ok z w):
  ∀{B:List AV} {E:List Value} {x r:AV} {u:Value},lF g x B=Jm r->VR ρ x u->VRs ρ B E->∃z,VR ρ r z/\(E.foldlM f u).run P w= .ok z w:=by
 intro B
 induction B with
 | nil=>intro E x r u hf J hs;simp[lF]at hf;subst hf;rw[hs.cr];exact⟨u,J,rfl⟩
 | cons y S M=>
  intro E x r u hf J hs;obtain⟨I,O,rfl,h1,h2⟩:=hs.cons_inv;simp only[lF]at hf;split at hf
  ·rename_i q Q;obtain⟨z,hz,hr⟩:=G Q J h1;obtain⟨R,K,L⟩:=M hf hz h2;exact⟨R,K,by simp only[List.foldlM_cons,Sem.run_bind,hr,Result.andThen_ok,L]⟩
  ·cases hf
def aEh{x y r:AV}{u B:Value}(h:B6 x y=Jm r)(E:VR ρ x u)(G:VR ρ y B):∃z,VR ρ r z/\(Builtin.max2 u B).run P w= .ok z w:=by
 unfold B6 at h;split at h
 ·cases h;rw[E.bh,G.bh];exact⟨_,.int _ _,by simp[Builtin.max2]⟩
 ·cases h
def aEg{x y r:AV}{u B:Value}(h:B5 x y=Jm r)(E:VR ρ x u)(G:VR ρ y B):∃z,VR ρ r z/\(Builtin.min2 u B).run P w= .ok z w:=by
 unfold B5 at h;split at h
 ·cases h;rw[E.bh,G.bh];exact⟨_,.int _ _,by simp[Builtin.min2]⟩
 ·cases h
def OX{c:Call}{b:Builtin}(ho:o.op= .call c)(hc:c.callee= .builtin b)(B:aX P o=Jm ao)(O:ao.effect=Jp)(y:aop a h ao=Jm (v,h',rd))(ht:Ops ρ a act ao.di)(U:MZ P ρ h w rd):
  NE P ρ h w ((execOp act.eval o).run P w) v h':=by
 have J:∀(u:Value),((builtin b c.argTypes o.type (c.args.map fun | .const _=>Jo | _=>Jp) (c.args.map act.eval)).run P w= .ok (.value u) w)->(execOp act.eval o).run P w= .ok (.value u) w:=by intro u M;simp only[execOp,ho,resolve,hc,Sem.run_bind,Sem.run_pure,Result.andThen_ok,invoke];exact M
 simp only[aX,ho,hc]at B;unfold gY at B;split at B
 ·--append
  split at B
  ·split at B
   ·split at B
    ·cases B;simp[AO.effect]at O
    ·cases B
   ·cases B
  ·split at B
   ·split at B
    ·cases B;simp[AO.effect]at O
    ·cases B
   ·cases B
  ·split at B
   ·split at B
    ·cases B;simp[AO.effect]at O
    ·cases B
   ·cases B
  ·cases B
 ·--len
  rename_i t ts x R G;have K:c.argTypes[0]? =Jm t:=by rw[<-Bm,R];rfl
  have L:c.args[0]? =Jm x:=by rw[<-Bm,G];rfl
  have hl:∀{u:Value},(Builtin.len_ c.argTypes o.type (c.args.map act.eval)).run P w= .ok u w->(execOp act.eval o).run P w= .ok (.value u) w:=fun hh=>J _ (by simp[builtin,hh]);split at B
  ·rename_i e V M Q;cases B;have E:=aV Q ht;simp only[aop]at y;split at y
   ·rename_i hm;cases y;rw[hm]at E;have I:act.eval x= .slice Jn 0 0:=by generalize act.eval x=u at E;cases E;rfl
    exact NE.val (hl (by simp[Builtin.len_,K,L,I,run_underlying M];rfl)) (.int _ _)
   ·rename_i fl sz b i n hm;cases y;rw[hm]at E;obtain⟨ad,Y,I,_⟩:=E.bx;exact NE.val (hl (by simp[Builtin.len_,K,L,I,run_underlying M];rfl)) (.int _ _)
   ·cases y
  ·rename_i V M Q;cases B;have E:=aV Q ht;simp only[aop]at y;split at y
   ·rename_i s hm;cases y;rw[hm]at E;exact NE.val (hl (by simp[Builtin.len_,K,L,E.cw,run_underlying M];rfl)) (.int _ _)
   ·cases y
  ·rename_i k e V M Q;cases B;have E:=aV Q ht;simp only[aop]at y;split at y
   ·rename_i hm;cases y;rw[hm]at E;have I:act.eval x= .map Jn:=by generalize act.eval x=u at E;cases E;rfl
    exact NE.val (hl (by simp[Builtin.len_,K,L,I,run_underlying M];rfl)) (.int _ _)
   ·rename_i r hm;rw[hm]at E;obtain⟨l,Z,I⟩:=E.np;split at y
    ·rename_i ver es hg;cases y;obtain⟨en,ck,g1,g2,g3⟩:=U r (by simp) l _ Z hg;have a0:(getObj l.blk).run P w= .ok (.map en ck) w:=by simp[getObj,Sem.run,g1]
     have hlen:en.size=es.length:=by have:=g2.1;simpa using this
     exact NE.val (hl (by simp[Builtin.len_,K,L,I,run_underlying M,a0,hlen];rfl)) (.int _ _)
    ·cases y
   ·cases y
  ·rename_i n e M;cases B;simp only[aop,Option.some.injEq,Prod.mk.injEq]at y;obtain⟨rfl,rfl,rfl⟩:=y;exact NE.val (hl (by simp[Builtin.len_,K,L,run_underlying M];rfl)) (.int _ _)
  ·cases B
 ·--Y
  rename_i t ts x R G;have K:c.argTypes[0]? =Jm t:=by rw[<-Bm,R];rfl
  have L:c.args[0]? =Jm x:=by rw[<-Bm,G];rfl
  have hl:∀{u:Value},(Builtin.cap_ c.argTypes o.type (c.args.map act.eval)).run P w= .ok u w->(execOp act.eval o).run P w= .ok (.value u) w:=fun hh=>J _ (by simp[builtin,hh]);split at B
  ·rename_i e V M Q;cases B;have E:=aV Q ht;simp only[aop]at y;split at y
   ·rename_i hm;cases y;rw[hm]at E;have I:act.eval x= .slice Jn 0 0:=by generalize act.eval x=u at E;cases E;rfl
    exact NE.val (hl (by simp[Builtin.cap_,K,L,I,run_underlying M];rfl)) (.int _ _)
   ·rename_i sz b i n hm;cases y;rw[hm]at E;obtain⟨ad,Y,I,_,_,a1,_⟩:=E.bx;have:=a1 rfl;subst this;exact NE.val (hl (by simp[Builtin.cap_,K,L,I,run_underlying M];rfl)) (.int _ _)
   ·cases y
  ·cases B
 ·--a3
  repeat' split at B
  all_goals (first | (cases B;done) | (cases B;simp[AO.effect]at O))
 ·--clear
  repeat' split at B
  all_goals (first | (cases B;done) | (cases B;simp[AO.effect]at O))
 ·--max
  rename_i x xs G;split at B
  ·rename_i V a2 Q S;cases B;simp only[AO.di]at ht;have h1:=aV Q ht.left;have h2:=mY S ht.right;simp only[aop]at y;split at y
   ·rename_i r hr;cases y;obtain⟨z,hz,T⟩:=BJ (P:=P) (w:=w) (f:=Builtin.max2) (fun hh p q=>aEh hh p q) hr h1 h2;refine NE.val (J z ?_) hz;have e:(c.args.map act.eval).toList=act.eval x::xs.map act.eval:=by simp[G]
    simp only[builtin,Builtin.max_,e,Sem.run_bind,T,Result.andThen_ok,Sem.run_pure]
   ·cases y
  ·cases B
 ·--min
  rename_i x xs G;split at B
  ·rename_i V a2 Q S;cases B;simp only[AO.di]at ht;have h1:=aV Q ht.left;have h2:=mY S ht.right;simp only[aop]at y;split at y
   ·rename_i r hr;cases y;obtain⟨z,hz,T⟩:=BJ (P:=P) (w:=w) (f:=Builtin.min2) (fun hh p q=>aEg hh p q) hr h1 h2;refine NE.val (J z ?_) hz;have e:(c.args.map act.eval).toList=act.eval x::xs.map act.eval:=by simp[G]
    simp only[builtin,Builtin.min_,e,Sem.run_bind,T,Result.andThen_ok,Sem.run_pure]
   ·cases y
  ·cases B
 ·cases B
def aGW(u:aX P o=Jm ao)(I:ao.effect=Jp)(B:aop a h ao=Jm (v,h',rd))(ht:Ops ρ a act ao.di)(G:MZ P ρ h w rd):
  NE P ρ h w ((execOp act.eval o).run P w) v h':=by
 cases E:o.op with
 | move x=>exact SX (.inl E) u B ht
 | assign x=>exact SX (.inr E) u B ht
 | pick c x y=>exact aD9 E u B ht
 | alloc e=>exact aAD E u B
 | box e x=>exact aGY E u B ht
 | build t K=>exact aAB E u B ht
 | buildSlice t len K=>exact CU E u B ht
 | load t x=>exact aEa E u B ht G
 | nilCheck x=>exact KH E u B ht
 | binOp op t x y M=>exact aAC E u B ht
 | unOp op t x=>exact aD8 E u B ht
 | convert s d x=>exact OW E u I B ht G
 | makeInterface t x=>exact uI E u B ht
 | makeFunc fn f c=>exact KJ E u B ht
 | makeMap t r=>exact OU E u B
 | makeSlice t n c=>exact GP E u B ht
 | slice t x O Q R=>exact aAy E u B ht G
 | fieldAddr t x i=>exact GS E u B ht
 | field t x i=>exact aAA E u B ht
 | indexAddr t x i=>exact GQ E u B ht
 | index t x i=>exact aAz E u B ht
 | lookup t x i L=>exact WB E u B ht G
 | extract x i=>exact OV E u B ht
 | typeAssert x S t L=>exact CT E u B ht
 | panic x=>simp only[aX,E]at u;cases u;simp[aop,ev]at B
 | call c=>
  cases J:c.callee with
  | builtin b=>exact OX E J u I B ht G
  | value f=>
   simp only[aX,E,J]at u;split at u
   ·cases u;simp[AO.effect]at I
   ·cases u
  | invoke r m=>
   simp only[aX,E,J]at u;split at u
   ·cases u;simp[AO.effect]at I
   ·cases u
 | store t p x=>
  simp only[aX,E]at u;split at u
  ·cases u;simp[AO.effect]at I
  ·cases u
 | mapUpdate t m k x=>
  simp only[aX,E]at u;split at u
  ·split at u
   ·cases u;simp[AO.effect]at I
   ·cases u
  ·cases u
 | insert t m k x=>
  simp only[aX,E]at u;split at u
  ·split at u
   ·cases u;simp[AO.effect]at I
   ·cases u
  ·cases u
 | _=>simp[aX,E]at u
def aF3(B:yL P o=Jm ao)(E:ao.effect=Jp)(u:aop a h ao=Jm (v,h',rd))(ht:Ops ρ a act ao.di)(y:MZ P ρ h w rd):
  NE P ρ h w ((execOp act.eval o).run P w) v h':=by
 rcases mZ _ B with h0 | ⟨rfl,_⟩
 ·exact aGW h0 E u ht y
 ·simp[AO.stuck,aop,ev]at u
end
section
variable {P:Program} {ρ:Emb} {w:World} {a:List AV} {act:Act} {h h':H} {o:Oper} {ao:AO} {v:AV} {rd:List Nat}
def HR.heap{w':World}(hr:HR P ρ h w)(hh:w'.heap=w.heap):HR P ρ h w':=
 ⟨hr.gat.dx fun b l _ _=>by rw[hh],hr.mq,fun x l u=>by rw[hh];exact hr.eh x l u,fun x l o u hg=>(hr.obj x l o u hg).mono (Sub.refl ρ) (by rw[hh]),hr.inj⟩
def Stp.heap{w':World}(hh:w'.heap=w.heap)(h1:w'.os=w.os)(h2:w'.tape=w.tape)(h3:w'.output=w.output):Stp ρ h w ρ h w':=
 ⟨Sub.refl ρ,fun _ _ h=> .inl h,fun _ _ h=> .inl h,by rw[hh];exact Ac _,h1,h2,h3,fun _ _ _=>by rw[hh]⟩
def HR.kill{b:Nat}{M:bq}(hr:HR P ρ h w)(hg:h.get b=Jm M):HR P ρ (h.set b .dead) w/\Stp ρ h w ρ (h.set b .dead) w:=by
 refine⟨⟨hr.gat,fun c O Q x l o E u G=>?_,hr.eh,fun x l o E u=>?_,fun x y lx ly ox oy E R u B I J K=>?_⟩,⟨Sub.refl ρ,fun _ _ h=> .inl h,fun _ _ h=> .inl h,Ac _,rfl,rfl,rfl,fun _ _ _=>rfl⟩⟩
 ·by_cases e:x=b
  ·subst e;rw[H.get_set_same hg]at u;cases u;simp[bq.bt]at G
  ·rw[H.bj e]at u;exact hr.mq c O Q x l o E u G
 ·by_cases e:x=b
  ·subst e;rw[H.get_set_same hg]at u;cases u;trivial
  ·rw[H.bj e]at u;exact hr.obj x l o E u
 ·by_cases ex:x=b
  ·subst ex;rw[H.get_set_same hg]at u;cases u;simp[bq.bt]at I
  ·rw[H.bj ex]at u;by_cases L:y=b
   ·subst L;rw[H.get_set_same hg]at B;cases B;simp[bq.bz]at J
   ·rw[H.bj L]at B;exact hr.inj x y lx ly ox oy E R u B I J K
def EF(P:Program)(ρ:Emb)(h:H)(w:World)(r:Result Next)(v:AV)(h':H):Prop:=
 ∃u w' y,(r= .ok (.value u) w'\/(r= .ok .skip w'/\u=undef))/\VR y v u/\HR P y h' w'/\Stp ρ h w y h' w'
def VR.undef:VR ρ (.tuple []) Go.undef:=(VRs.nil ρ).lm
def yU{b i:Nat}{new:List AV}{E:List Value}{l:Loc}(hr:HR P ρ h w)(hl:ρ b=Jm l)(G:dV h b i new=Jm h')(J:VRs ρ new E)(K:∀x∈E,x.oneCell'=Jo):
  ∃w',(storeCells ⟨l.blk,l.base+i,Jn⟩ E).run P w= .ok () w'/\HR P ρ h' w'/\Stp ρ h w ρ h' w':=by
 unfold dV at G;split at G
 ·rename_i ver cs hg;split at G
  ·rename_i O;simp only[Au,decide_eq_true_eq]at O;cases G;have L:=hr.obj b l _ hl hg;obtain⟨I,fz,e,h1,h2,V,Y,T⟩:=L;have:=Y rfl;subst this;have hlen:=J.1;have Q:=run_storeCells_at P l.blk (l.base+i) e E 0 I w h1 (by omega) K;refine⟨_,Q,?_⟩;have M:(I.toList.take (l.base+i+0)++E++I.toList.drop (l.base+i+0+E.length)).length=I.size:=by simp;omega
   refine HR.turn hr hl hg rfl rfl (by simp) rfl rfl rfl (fun k Z=>setRow_other w _ _ _ Z) ?_;refine⟨_,(0,0),e,setRow_heap w l.blk I _ e (0,0) h1,by rw[Ez,M];exact h2,by rw[Ez,M,wD _ _ _ O.1];exact V,fun _=>rfl,fun j y B=>?_⟩;rw[GF _ _ _ O.1]at B;simp only[Dw,List.getElem?_toArray];rw[Fw]at B ⊢;rw[Fw]at B ⊢;simp only[An,List.length_take,Fp]at B ⊢;have m1:min i cs.length=i:=by omega
   have m2:min (l.base+i) I.size=l.base+i:=by omega
   rw[m1]at B;rw[m2];by_cases R:j<i
   ·rw[if_pos (by omega),if_pos R]at B;rw[if_pos (by omega),if_pos (by omega),Bc,if_pos (by omega),Bm];rw[Bc,if_pos R]at B;exact T j y B
   ·by_cases U:j<i+new.length
    ·rw[if_pos U,if_neg R]at B;rw[if_pos (by omega),if_neg (by omega)];obtain⟨u,S,hv⟩:=J.getElem B;exact⟨u,by rw[<-S];congr 1;omega,hv⟩
    ·rw[if_neg U,Bg]at B;rw[if_neg (by omega),Bg,Bm];obtain⟨u,S,hv⟩:=T _ y B;exact⟨u,by rw[<-S];congr 1;omega,hv⟩
  ·cases G
 ·cases G
def W9{t:TypeId}{p x:Operand}(Q:o.op= .store t p x)(E:aX P o=Jm ao)(u:aop a h ao=Jm (v,h',rd))(ht:Ops ρ a act ao.di)(hr:HR P ρ h w):
  EF P ρ h w ((execOp act.eval o).run P w) v h':=by
 simp only[aX,Q]at E;split at E
 ·rename_i n Y S hs T U;cases E;simp only[AO.di]at ht;have h1:=aV T ht.left;have h2:=aV U ht.right;simp only[aop]at u;split at u
  ·rename_i b i hb;rw[hb]at h1;obtain⟨l,hl,J⟩:=h1.gp;split at u
   ·rename_i Z;split at u
    ·rename_i V y;cases u;have I:(ev a S).cells.all AV.one=Jo:=by
      unfold dV at y;split at y
      ·split at y
       ·rename_i R;simp only[Au]at R;exact R.2
       ·cases y
      ·cases y
     obtain⟨B,G⟩:=h2.cells I;obtain⟨w',K,L,M⟩:=yU hr hl y B G;refine⟨undef,w',ρ,.inr ⟨?_,rfl⟩,VR.undef,L,M⟩;have O:(act.eval x).cells.size=n:=by have:=B.1;simp at this;omega
     simp[execOp,Q,Instr.storeAt,J,Instr.sureAddr,storeVar,cV hs,O,K]
    ·cases u
   ·cases u
  ·cases u
 ·cases E
def WG{kd:Nat}{d:TypeDesc}(hd:(kd=0/\∃q,d= .int q)\/(kd=1/\d= .bool)\/(kd=2/\d= .string)){k y:AV}{u z:Value}(I:VR ρ k u)(hz:VR ρ y z):
  ∀{E:List (AV×AV)} {B:List MapEntry} {r:Option AV} (i:Nat),iZ kd k E=Jm r->VRs ρ (E.map (·.1)) (B.map (·.key))->VRs ρ (E.map (·.2)) (B.map (·.val))->
   (Instr.findNow d u B i=Jm Jn/\∀born,VRs ρ ((fW kd k y E).map (·.1)) ((B++[({key:=u,val:=z,born:=born} :MapEntry)]).map (·.key))/\VRs ρ ((fW kd k y E).map (·.2)) ((B++[({key:=u,val:=z,born:=born} :MapEntry)]).map (·.val)))\/
   (∃j K,Instr.findNow d u B i=Jm (Jm (i+j,K))/\(∃e,B[j]? =Jm e/\Instr.sameBits 10000 e.key u=Jo)/\
    VRs ρ ((fW kd k y E).map (·.1)) ((B.modify j fun(e:MapEntry)=>{e with key:=u,val:=z}).map (·.key))/\VRs ρ ((fW kd k y E).map (·.2)) ((B.modify j fun(e:MapEntry)=>{e with key:=u,val:=z}).map (·.val))):=by
 intro E
 induction E with
 | nil=>
  intro B r i hf h1 h2;have:B=[]:=by have:=h1.1;simpa using this
  subst this;exact .inl ⟨rfl,fun born=>⟨.cons I (VRs.nil ρ),.cons hz (VRs.nil ρ)⟩⟩
 | cons p E O=>
  intro B r i hf h1 h2;obtain⟨Y,Z⟩:=p
  cases B with
  | nil=>have:=h1.1;simp at this
  | cons e B=>
   simp only[Ak]at h1 h2;simp only[iZ]at hf;split at hf
   ·rename_i G;cases hf;obtain⟨J,Q⟩:=m8 hd G I h1.head;refine .inr ⟨0,e.val,by simp[Instr.findNow,J],⟨e,rfl,Q rfl⟩,?_,?_⟩
    ·simp only[fW,G,Ak,List.modify_zero_cons];exact .cons I h1.tail
    ·simp only[fW,G,Ak,List.modify_zero_cons];exact .cons hz h2.tail
   ·rename_i G;obtain⟨J,_⟩:=m8 hd G I h1.head;rcases O (i+1) hf h1.tail h2.tail with⟨L,M⟩ | ⟨j,K,L,⟨R,S,T⟩,U,V⟩
    ·refine .inl ⟨by simp[Instr.findNow,J,L],fun born=>?_⟩;simp only[fW,G,Ak,Al];exact⟨.cons h1.head (M born).1,.cons h2.head (M born).2⟩
    ·refine .inr ⟨j+1,K,by simp only[Instr.findNow,J,L];congr 3;omega,⟨R,by simpa using S,T⟩,?_,?_⟩
     ·simp only[fW,G,Ak,List.modify_succ_cons];exact .cons h1.head U
     ·simp only[fW,G,Ak,List.modify_succ_cons];exact .cons h2.head V
   ·cases hf
def C0{t:TypeId}{m k x:Operand}(G:o.op= .mapUpdate t m k x\/o.op= .insert t m k x)(M:aX P o=Jm ao)(u:aop a h ao=Jm (v,h',rd))(ht:Ops ρ a act ao.di)(hr:HR P ρ h w):
  EF P ρ h w ((execOp act.eval o).run P w) v h':=by
 have J:(execOp act.eval o).run P w=((Instr.mapUpdate t (act.eval m) (act.eval k) (act.eval x)).run P w).andThen fun _ w'=> .ok .skip w':=by rcases G with G | G<;>simp[execOp,G]
 have y:(match P.underlying t,trR m,trR k,trR x with
  | some (.map kt _),Jm m,Jm k,Jm v=>match pO P kt with
   | some kd=>Jm (AO.mapUpdate kd m k v)
   | none=>Jn
  | _,_,_,_=>Jn)=Jm ao:=by rcases G with G | G<;>(simp only[aX,G]at M;exact M)
 split at y
 ·rename_i kt et m' R S hu hm hk hx;split at y
  ·rename_i kd K;cases y;simp only[AO.di]at ht;have h1:=aV hm ht.left.left;have h2:=aV hk ht.left.right;have h3:=aV hx ht.right;obtain⟨d,hd,Y⟩:=nJ K;simp only[aop]at u;split at u
   ·rename_i r Z;rw[Z]at h1;obtain⟨l,hl,O⟩:=h1.np;split at u
    ·rename_i ver T hg;split at u
     ·rename_i hf;cases u;obtain⟨a1,hf⟩:=Option.isSome_iff_exists.1 hf;obtain⟨U,ck,g1,g2,g3⟩:=hr.obj r l _ hl hg;have Q:(getObj l.blk).run P w= .ok (.map U ck) w:=by simp[getObj,Sem.run,g1]
      have I:∀ob:Obj,(setObj l.blk ob).run P w= .ok () (w.putObj l.blk ob):=fun ob=>by simp[setObj,Sem.run,g1,World.putObj]
      have hlt:l.blk<w.heap.size:=(Array.getElem?_eq_some_iff.1 g1).1;have fin:∀(B:Array MapEntry) (E:Nat),(Instr.mapUpdate t (act.eval m) (act.eval k) (act.eval x)).run P w= .ok () (w.putObj l.blk (.map B E))->
        VRs ρ ((fW kd (ev a R) (ev a S) T).map (·.1)) (B.toList.map (·.key))->VRs ρ ((fW kd (ev a R) (ev a S) T).map (·.2)) (B.toList.map (·.val))->
        EF P ρ h w ((execOp act.eval o).run P w) (.tuple []) (h.set r (.map (ver+1) (fW kd (ev a R) (ev a S) T))):=by
       intro B E L q1 V;obtain⟨t1,t2⟩:=HR.turn (o':= .map (ver+1) (fW kd (ev a R) (ev a S) T)) (w':=w.putObj l.blk (.map B E)) hr hl hg rfl rfl (by simp) rfl rfl rfl (fun b hb=>World.putObj_heap_other hb) ⟨B,E,World.putObj_heap_same hlt,q1,V⟩;exact⟨undef,_,ρ,.inr ⟨by rw[J,L];rfl,rfl⟩,VR.undef,t1,t2⟩
      rcases WG Y h2 h3 0 hf g2 g3 with⟨q,V⟩ | ⟨j,z',q,⟨e',q3,q4⟩,q5,q6⟩
      ·refine fin (U.push {key:=act.eval k,val:=act.eval x,born:=ck}) (ck+1) ?_ (by have:=(V ck).1;simpa using this) (by have:=(V ck).2;simpa using this);simp[Instr.mapUpdate,run_underlying hu,O,Q,eP K,Instr.findKey,run_underlying hd,q,I]
      ·refine fin (U.modify j fun(e:MapEntry)=>{e with key:=act.eval k,val:=act.eval x}) ck ?_ (by simpa [Array.toList_modify]using q5) (by simpa [Array.toList_modify]using q6);have a0:U[j]? =Jm e':=by rw[<-Bm];exact q3
       rw[Az]at q;simp[Instr.mapUpdate,run_underlying hu,O,Q,eP K,Instr.findKey,run_underlying hd,q,I,a0,Instr.keyThatStays,q4]
     ·cases u
    ·cases u
   ·cases u
  ·cases y
 ·cases y
def dY{size n:Nat}{ad:Addr}{len cap:Nat}{us:List Value}{w':World}(y:us.length=n*size)(B:∀j u,us[j]? =Jm u->w'.cell? (ad.add j)=Jm u):
  (Builtin.firstCells size n (.slice (Jm ad) len cap)).run P w'= .ok us.toArray w':=run_firstCells_some w' size n ad len cap us y B
def aGp{size n:Nat}{x:AR}{new:List AV}{u:Value}(hs:gZ a h size x=Jm (new,n))(E:VR ρ (ev a x) u)(hr:HR P ρ h w):
  ∃G,VRs ρ new G/\(∀w',w'.heap=w.heap->(Builtin.lenOf u).run P w'= .ok n w'/\(Builtin.firstCells size n u).run P w'= .ok G.toArray w'):=by
 unfold gZ at hs;split at hs
 ·rename_i he;cases hs;rw[he]at E;have M:u= .slice Jn 0 0:=by cases E;rfl
  subst M;exact⟨[],VRs.nil ρ,fun w' _=>⟨by simp[Builtin.lenOf],by simp[Builtin.firstCells]⟩⟩
 ·rename_i Z sz b i m he;split at hs
  ·rename_i O;subst O;split at hs
   ·rename_i cs Q;cases hs;rw[he]at E;obtain⟨T,I,rfl,g1,g2,g3,U⟩:=E.bx;obtain⟨ver,rw,all,hg,V,e⟩:=cT Q;by_cases h0:n*sz=0
    ·have J:new=[]:=by rw[e,h0];simp
     subst J;refine⟨[],VRs.nil ρ,fun w' _=>⟨by simp[Builtin.lenOf],?_⟩⟩;have:=dY (P:=P) (w':=w') (size:=sz) (n:=n) (ad:=T) (len:=n) (cap:=I) (us:=[]) (by simp[h0]) (fun j u B=>by simp at B);simpa using this
    ·have Y:0<n:=by rcases Fb n with hz | hz;exact absurd (by rw[hz,Dy]) h0;exact hz
     obtain⟨l,hl,rfl,_⟩:=U (by omega);obtain⟨G,h1,h2,h3⟩:=(hr.obj b l _ hl hg).cells V e;refine⟨G,h1,fun w' R=>⟨by simp[Builtin.lenOf],dY h2 fun j u B=>?_⟩⟩;rw[Addr.iw];have:=h3 j u B;simpa [World.cell?,R]using this
   ·cases hs
  ·cases hs
 ·rename_i K he;split at hs
  ·rename_i h1;subst h1;cases hs;rw[he]at E;rw[E.cw];refine⟨K.data.toList.map fun b=> .int .u8 b.toNat,⟨by simp,fun j y u L B=>?_⟩,fun w' _=>⟨by simp[Builtin.lenOf],?_⟩⟩
   ·rw[Av]at L B
    cases hb:K.data.toList[j]? with
    | none=>rw[hb]at L;cases L
    | some b=>rw[hb]at L B;cases L;cases B;exact .int _ _
   ·have S:K.extract 0 K.size=K:=ByteArray.extract_zero_size;simp only[Builtin.firstCells,S,Sem.run_pure];congr 1;apply Ch;simp
  ·cases hs
 ·cases hs
def mA{I:Array TypeId}{ty t M e:TypeId}{d2:TypeDesc}{i:TypeInfo}{z:Value}{base:Option Addr}{m cap n:Nat}{J:Value}{olds u:List Value}
  (h0:I[0]? =Jm t) (h1:I[1]? =Jm M) (Q:P.underlying t=Jm (.slice e)) (K:P.underlying M=Jm d2) (L:(∃O,d2= .slice O)\/d2= .string) (R:P.info? e=Jm i) (hz:i.zero=Jm z)
  (hlen:(Builtin.lenOf J).run P w= .ok n w) (y:(Builtin.firstCells i.size n J).run P w.drew= .ok u.toArray w.drew) (hold:(Builtin.firstCells i.size m (.slice base m cap)).run P w.drew= .ok olds.toArray w.drew)
  (hg:cap<m+n) (S:m+n<=9223372036854775807) (B:(m+n)*i.bytes<=140737488355328):
  (Builtin.append_ I ty #[.slice base m cap,J]).run P w=
   .ok (.slice (Jm ⟨w.heap.size,0,Jn⟩) (m+n) (grownCap w (m+n) cap e)) (w.drew.alloc (.cells (olds.toArray++u.toArray++Builtin.zeroCells z.cells (grownCap w (m+n) cap e-(m+n))) e)):=by
 have T:¬(m+n<=cap):=by omega
 have E:¬(9223372036854775807<((m:Int)+(n:Int))):=by omega
 have U:=growslice_fits hg B;have G:¬(281474976710656<Builtin.nextslicecap (m+n) cap*i.bytes):=by omega
 rcases L with⟨O,rfl⟩ | rfl<;>
 ·simp[Builtin.append_,h0,h1,run_underlying Q,run_underlying K,sizeOf,typeInfo,zeroValue,R,hz,hlen,T,E,G,Question.forced,y,hold,newRow,grownCap];congr 2;apply Ch;simp[Ab]
def jK{I:Array TypeId}{ty t M e:TypeId}{d2:TypeDesc}{i:TypeInfo}{base:Option Addr}{m cap n:Nat}{J:Value}{u:List Value}{w':World}
  (h0:I[0]? =Jm t) (h1:I[1]? =Jm M) (O:P.underlying t=Jm (.slice e)) (B:P.underlying M=Jm d2) (E:(∃K,d2= .slice K)\/d2= .string) (Q:P.info? e=Jm i)
  (hlen:(Builtin.lenOf J).run P w= .ok n w) (y:(Builtin.firstCells i.size n J).run P w= .ok u.toArray w)
  (hg:m+n<=cap) (L:∀G,base=Jm G->(storeCells (G.add (m*i.size)) u).run P w= .ok () w') (hb:base=Jn->w'=w):
  (Builtin.append_ I ty #[.slice base m cap,J]).run P w= .ok (.slice base (m+n) cap) w':=by
 cases base with
 | none=>
  have:=hb rfl;subst this;rcases E with⟨K,rfl⟩ | rfl<;>
  simp[Builtin.append_,h0,h1,run_underlying O,run_underlying B,sizeOf,typeInfo,Q,hlen,hg,y]
 | some G=>
  have hs:=L G rfl;rcases E with⟨K,rfl⟩ | rfl<;>
  simp[Builtin.append_,h0,h1,run_underlying O,run_underlying B,sizeOf,typeInfo,Q,hlen,hg,y,hs]
def iA(z:Array Value)(n:Nat):(Builtin.zeroCells z n).size=n*z.size:=by simp[Builtin.zeroCells]
def BB{B:World}{new:List AV}{us zs:List Value}{e:TypeId}{size n cap':Nat}(hr:HR P ρ h B)(E:ρ h.next=Jn)(hv:VRs ρ new us)(K:us.length=n*size)(hz:zs.length=(cap'-n)*size)
  (L:n<=cap') (hm:cap'<=maxLen):
  ∃G,HR P G (h.alloc (.cells 0 Jo new)) (B.alloc (.cells (us.toArray++zs.toArray) e))/\Stp ρ h B G (h.alloc (.cells 0 Jo new)) (B.alloc (.cells (us.toArray++zs.toArray) e))/\
   VR G (.slice Jp size h.next 0 n) (.slice (Jm ⟨B.heap.size,0,Jn⟩) n cap'):=by
 have M:(us.toArray++zs.toArray).size=cap'*size:=by simp only[Array.size_append,Ez,K,hz,<-Dg];congr 1;omega
 let l:Loc:=⟨B.heap.size,0,(us.toArray++zs.toArray).size⟩
 have O:OR P (upd ρ h.next l) (B.alloc (.cells (us.toArray++zs.toArray) e)) l (.cells 0 Jo new):=by
  refine OR.newRow rfl rfl rfl ?_ fun i y Q=>?_
  ·rw[Array.size_append,Ez,hv.1];omega
  ·obtain⟨u,J,I⟩:=(hv.mono (iC (l:=l) E)).getElem Q;refine⟨u,?_,I⟩;have R:i<us.length:=(List.getElem?_eq_some_iff.1 J).1;rw[Array.getElem?_append,if_pos (by simpa using R)];simpa using J
 obtain⟨h1,h2⟩:=HR.alloc hr E rfl O;exact⟨_,h1,h2,.slice Jp size h.next 0 n cap' _ L hm (fun h=>by cases h) (fun _=>⟨l,a8 _ _ _,rfl,by show 0+0+cap'*size<=(us.toArray++zs.toArray).size;omega⟩)⟩
def HR.moved{b:Nat}{l l':Loc}{ver:Nat}{cs new:List AV}{w':World}(hr:HR P ρ h w)(a0:ρ h.next=Jn)(hl:ρ b=Jm l)(hg:h.get b=Jm (.cells ver Jo cs))(hb:l'.blk=l.blk)
  (R:w'.heap.size=w.heap.size) (a1:w'.os=w.os) (a2:w'.tape=w.tape) (a3:w'.output=w.output) (G:∀k,k≠l.blk->w'.heap[k]? =w.heap[k]?) (ho:OR P (upd ρ h.next l') w' l' (.cells 0 Jo new)):
  HR P (upd ρ h.next l') ((h.set b .dead).alloc (.cells 0 Jo new)) w'/\Stp ρ h w (upd ρ h.next l') ((h.set b .dead).alloc (.cells 0 Jo new)) w':=by
 have hs:=iC (l:=l') a0;have a5:b≠h.next:=by have:=H.bf hg;omega
 have I:∀x,x≠h.next->((h.set b .dead).alloc (.cells 0 Jo new)).get x=if x=b then Jm .dead else h.get x:=fun x B=>by
  rw[H.ay,if_neg (by simpa using B)];by_cases e:x=b
  ·subst e;rw[if_pos rfl,H.get_set_same hg]
  ·rw[if_neg e,H.bj e]
 have S:((h.set b .dead).alloc (.cells 0 Jo new)).get h.next=Jm (.cells 0 Jo new):=by rw[H.ay,if_pos (by simp)]
 refine⟨⟨hr.gat.dx fun c Y Z hlt=>G c fun e=>hr.mq c Y Z b l _ hl hg rfl e.symm,fun c Y Z x lx ox B u T=>?_,fun x lx B=>?_,fun x lx ox B u=>?_,fun x y lx ly ox oy B Q u E L K M=>?_⟩,⟨hs,fun x lx B=>?_,fun x lx B=>?_,by omega,a1,a2,a3,fun k hk a4=>G k fun e=>a4 b l _ hl hg rfl e.symm⟩⟩
 ·by_cases e:x=h.next
  ·subst e;rw[a8]at B;cases B;rw[hb];exact hr.mq c Y Z b l _ hl hg rfl
  ·rw[bK e]at B;rw[I x e]at u;by_cases J:x=b
   ·rw[if_pos J]at u;cases u;simp[bq.bt]at T
   ·rw[if_neg J]at u;exact hr.mq c Y Z x lx ox B u T
 ·by_cases e:x=h.next
  ·subst e;rw[a8]at B;cases B;rw[hb,R];exact hr.eh b l hl
  ·rw[bK e]at B;rw[R];exact hr.eh x lx B
 ·by_cases e:x=h.next
  ·subst e;rw[a8]at B;cases B;rw[S]at u;cases u;exact ho
  ·rw[bK e]at B;rw[I x e]at u;by_cases J:x=b
   ·rw[if_pos J]at u;cases u;trivial
   ·rw[if_neg J]at u;have h0:=hr.obj x lx ox B u
    cases U:ox.bz with
    | true=>exact h0.mono hs (G _ fun e'=>hr.inj b x l lx _ ox hl B hg u rfl U (Ne.symm J) e'.symm)
    | false=>cases ox<;>first | trivial | (simp[bq.bz]at U)
 ·by_cases ex:x=h.next
  ·subst ex;rw[a8]at B;cases B;rw[bK (Ne.symm M)]at Q;rw[I y (Ne.symm M)]at E;by_cases J:y=b
   ·rw[if_pos J]at E;cases E;simp[bq.bz]at K
   ·rw[if_neg J]at E;rw[hb];exact hr.inj b y l ly _ oy hl Q hg E rfl K (Ne.symm J)
  ·rw[bK ex]at B;rw[I x ex]at u;by_cases O:x=b
   ·rw[if_pos O]at u;cases u;simp[bq.bt]at L
   ·rw[if_neg O]at u;by_cases ey:y=h.next
    ·subst ey;rw[a8]at Q;cases Q;rw[hb];exact hr.inj x b lx l ox _ B hl u hg L rfl O
    ·rw[bK ey]at Q;rw[I y ey]at E;by_cases V:y=b
     ·rw[if_pos V]at E;cases E;simp[bq.bz]at K
     ·rw[if_neg V]at E;exact hr.inj x y lx ly ox oy B Q u E L K M
 ·by_cases e:x=h.next
  ·subst e;exact .inr ⟨Ac _,by simp⟩
  ·rw[bK e]at B;exact .inl B
 ·by_cases e:x=h.next
  ·subst e;rw[a8]at B;cases B;exact .inr (.inr ⟨b,l,_,hl,hg,rfl,hb⟩)
  ·rw[bK e]at B;exact .inl B
def Ev.kill{b:Nat}{ver:Nat}{cs:List AV}(hg:h.get b=Jm (.cells ver Jo cs)):Ev h (h.set b .dead):=Ev.set hg (.inr (.inl ⟨rfl,rfl⟩)) rfl
def wX{G:Array TypeId}{ty t K e:TypeId}{kd:IntKind}{i:TypeInfo}{z:Value}{n:Nat}
  (h0:G[0]? =Jm t) (h1:G[1]? =Jm K) (M:P.underlying t=Jm (.slice e)) (I:P.underlying K=Jm (.int kd)) (O:P.info? e=Jm i) (hz:i.zero=Jm z) (hs:0<i.size)
  (L:0<n) (Q:n<=9223372036854775807) (u:n*i.bytes<=140737488355328):
  (Builtin.append_ G ty #[.slice Jn 0 0,.int .i64 n]).run P w=
   .ok (.slice (Jm ⟨w.heap.size,0,Jn⟩) n (grownCap w n 0 e)) (w.drew.alloc (.cells (Builtin.zeroCells z.cells n++Builtin.zeroCells z.cells (grownCap w n 0 e-n)) e)):=by
 have hw:IntKind.i64.wrap (n:Int)=(n:Int):=by simp only[IntKind.wrap,IntKind.bits,IntKind.signed];simp;omega
 have y:¬(9223372036854775807<(n:Int)):=by omega
 have B:¬((n:Int)<0):=by omega
 have hb:¬(281474976710656<(n:Int)*(i.bytes:Int)):=by
  have:((n*i.bytes:Nat):Int)<=140737488355328:=by omega
  rw[Hu]at this;omega
 have R:=growslice_fits (show 0<n from L) u;have E:¬(281474976710656<Builtin.nextslicecap n 0*i.bytes):=by omega
 have J:¬(n*i.size=0):=by intro h;rcases Nat.mul_eq_zero.1 h with h | h<;>omega
 simp[Builtin.append_,h0,h1,run_underlying M,run_underlying I,sizeOf,typeInfo,zeroValue,O,hz,hw,asInt,asIntOf,B,hb,L,y,E,J,Question.forced,newRow,grownCap,Builtin.firstCells];omega
def nV{c:Call}(ho:o.op= .call c)(hc:c.callee= .builtin .append){t t2 e:TypeId}{d2:TypeDesc}{ts:List TypeId}{s0 x0:Operand}{s1 x1:AR}{i:TypeInfo}{z:List AV}(d4:c.argTypes.toList=t::t2::ts)(b0:c.args.toList=[s0,x0])
  (hu:P.underlying t=Jm (.slice e)) (U:P.underlying t2=Jm d2) (V:(∃e2,d2= .slice e2)\/d2= .string) (c2:trR s0=Jm s1) (e6:trR x0=Jm x1) (hi:P.info? e=Jm i) (hz:nZ P e=Jm z) (e5:i.size=z.length/\0<i.size)
  (B:aop a h (.append i.size i.bytes s1 x1)=Jm (v,h',rd)) (ht:Ops ρ a act (AO.append i.size i.bytes s1 x1).di) (hr:HR P ρ h w)
  (S:∀y,h.next<=y->y<h'.next->ρ y=Jn):EF P ρ h w ((execOp act.eval o).run P w) v h':=by
 simp only[AO.di]at ht;have h1:=aV c2 ht.left;have h2:=aV e6 ht.right;obtain⟨zu,i',d5,Y,i2,e7⟩:=g7 hz;rw[hi]at d5;cases d5;have d6:zu.cells.size=i.size:=by have:=eA e7;simp at this;omega
 have Z:c.argTypes[0]? =Jm t:=by rw[<-Bm,d4];rfl
 have L:c.argTypes[1]? =Jm t2:=by rw[<-Bm,d4];rfl
 have a4:c.args.map act.eval= #[act.eval s0,act.eval x0]:=by apply Ch;simp[b0]
 have I:∀{u:Value} {w':World},(Builtin.append_ c.argTypes o.type #[act.eval s0,act.eval x0]).run P w= .ok u w'->(execOp act.eval o).run P w= .ok (.value u) w':=by intro u w' a6;simp only[execOp,ho,resolve,hc,Sem.run_bind,Sem.run_pure,Result.andThen_ok,invoke,builtin,a4,a6]
 simp only[aop]at B;split at B
 ·cases B
 ·rename_i new n E;obtain⟨M,K,a0⟩:=aGp E h2 hr;obtain⟨a7,b5⟩:=a0 w rfl;obtain⟨i3,d7⟩:=a0 w.drew rfl;split at B
  ·rename_i c3;rw[c3]at h1;have b6:act.eval s0= .slice Jn 0 0:=by generalize act.eval s0=u at h1;cases h1;rfl
   rw[b6]at I;split at B
   ·rename_i h0;subst h0;cases B;have:=jK (w':=w) (ty:=o.type) (base:=Jn) (m:=0) (cap:=0) Z L hu U V hi a7 b5 (by omega) (fun ad h=>by cases h) fun _=>rfl;exact⟨_,w,ρ,.inl (I this),.ag,hr,Stp.refl _ _ _⟩
   ·rename_i h0;split at B
    ·rename_i hb;obtain⟨b1,b2,b3,b4⟩:=hb;cases B;have hold:(Builtin.firstCells i.size 0 (.slice Jn 0 0)).run P w.drew= .ok ([]:List Value).toArray w.drew:=by simp[Builtin.firstCells]
     have d8:n<=9223372036854775807:=b2;have J:=mA (ty:=o.type) (base:=Jn) (m:=0) (cap:=0) (olds:=[]) Z L hu U V hi Y a7 d7 hold (by omega) (by omega) (by rw[Az];exact b1);have b7:=grownCap_ge w (0+n) 0 e;have c0:=grownCap_le_maxLen w (0+n) 0 e (by unfold maxLen;omega);rw[Az]at J b7 c0;have hd:=HR.heap (w':=w.drew) hr rfl;have c4:=Stp.heap (ρ:=ρ) (h:=h) (w:=w) (w':=w.drew) rfl rfl rfl rfl;obtain⟨ρ',g1,g2,g3⟩:=BB (e:=e) (size:=i.size) (n:=n) (cap':=grownCap w n 0 e) (zs:=(Builtin.zeroCells zu.cells (grownCap w n 0 e-n)).toList) hd (S _ (Ac _) (by simp)) K (by rw[K.1];exact b4) (by simp[iA,d6]) b7 c0;refine⟨_,_,ρ',.inl (I J),g3,?_,?_⟩
     ·simpa using g1
     ·have:=c4.trans g2 (Ev.refl h) (Ev.alloc h _) S;simpa using this
    ·cases B
  ·rename_i fl sz b j m c3;rw[c3]at h1;obtain⟨ad,G,b6,q1,q2,q3,q4⟩:=h1.bx;rw[b6]at I;split at B
   ·rename_i h0;subst h0;cases B;have c7:M=[]:=by
     have:=b5;have f1:M.length=0:=by
      have f2:new.length=0:=by
       unfold gZ at E;split at E
       ·cases E;rfl
       ·split at E
        ·split at E
         ·rename_i cs f3;cases E;obtain⟨_,_,_,_,_,e'⟩:=cT f3;rw[e'];simp
         ·cases E
        ·cases E
       ·rename_i s' _;split at E
        ·simp only[Option.some.injEq,Prod.mk.injEq]at E;obtain⟨rfl,h0⟩:=E;rw[List.length_map,Fp];exact h0
        ·cases E
       ·cases E
      rw[K.1];exact f2
     exact List.length_eq_zero_iff.1 f1
    subst c7;have:=jK (w':=w) (ty:=o.type) (base:=Jm ad) (m:=m) (cap:=G) Z L hu U V hi a7 b5 (by omega) (fun f8 h=>by simp[storeCells]) (fun h=>by cases h);exact⟨_,w,ρ,.inl (I this),by rw[b6]at h1;simpa using h1,hr,Stp.refl _ _ _⟩
   ·rename_i h0;split at B
    ·rename_i hb;obtain⟨rfl,b1,b2,b3,b4⟩:=hb;have d8:m+n<=9223372036854775807:=b2;split at B
     ·cases B
     ·rename_i Q hold;obtain⟨ver,rw,all,hg,g0,a2⟩:=cT hold;have a1:Q.length=m*i.size:=by rw[a2];simp;omega
      --the Q cells
      have c8:∃O,VRs ρ Q O/\∀w',w'.heap=w.heap->(Builtin.firstCells i.size m (.slice (Jm ad) m G)).run P w'= .ok O.toArray w':=by
       by_cases d9:m*i.size=0
       ·have:Q=[]:=List.length_eq_zero_iff.1 (by omega);subst this;refine⟨[],VRs.nil ρ,fun w' _=>?_⟩;have:=dY (P:=P) (w':=w') (size:=i.size) (n:=m) (ad:=ad) (len:=m) (cap:=G) (us:=[]) (by simp[d9]) (fun j u hu=>by simp at hu);simpa using this
       ·have a3:0<G:=by rcases Fb G with hz | hz;exact absurd (by rw[show m=0 from by omega,Dy]) d9;exact hz
        obtain⟨l,hl,rfl,_⟩:=q4 a3;obtain⟨h4,g1,g2,g3⟩:=(hr.obj b l _ hl hg).cells g0 a2;refine⟨h4,g1,fun w' h5=>dY g2 fun j u hu=>?_⟩;rw[Addr.iw];have:=g3 j u hu;simpa [World.cell?,h5]using this
      obtain⟨O,e0,a5⟩:=c8;have grow:G<m+n->∀(h1:H),HR P ρ h1 w->Stp ρ h w ρ h1 w->Ev h h1->h1.next=h.next->(v= .slice Jp i.size h1.next 0 (m+n))->h'=h1.alloc (.cells 0 Jo (Q++new))->EF P ρ h w ((execOp act.eval o).run P w) v h':=by
       intro hlt h1 h6 c2 h7 i4 hv hh;subst hv;subst hh;have J:=mA (ty:=o.type) (base:=Jm ad) (m:=m) (cap:=G) Z L hu U V hi Y a7 (by exact d7) (a5 w.drew rfl) hlt d8 b1;have b7:=grownCap_ge w (m+n) G e;have c0:=grownCap_le_maxLen w (m+n) G e (by unfold maxLen;omega);have hd:=HR.heap (w':=w.drew) h6 rfl;have c4:=Stp.heap (ρ:=ρ) (h:=h1) (w:=w) (w':=w.drew) rfl rfl rfl rfl;obtain⟨ρ',g1,g2,g3⟩:=BB (e:=e) (size:=i.size) (n:=m+n) (cap':=grownCap w (m+n) G e) (us:=O++M) (zs:=(Builtin.zeroCells zu.cells (grownCap w (m+n) G e-(m+n))).toList) hd (S _ (by omega) (by simp)) (e0.append K)
        (by rw[An,e0.1,K.1,a1,b4,Dg]) (by simp[iA,d6]) b7 c0
       refine⟨_,_,ρ',.inl (I J),g3,?_,?_⟩
       ·simpa using g1
       ·have t1:=c4.trans g2 (Ev.refl h1) (Ev.alloc h1 _) (fun y i5 h8=>S y (by omega) h8);have:=c2.trans t1 h7 (Ev.alloc h1 _) S;simpa using this
      split at B
      ·rename_i e1;cases B;have:=q3 e1;exact grow (by clear q4 grow;omega) h hr (Stp.refl _ _ _) (Ev.refl h) rfl rfl rfl
      ·rename_i e1;split at B
       ·rename_i h1 hk;cases B;unfold kill at hk;rw[hg]at hk
        cases rw with
        | false=>simp at hk
        | true=>
         simp at hk;subst hk;obtain⟨k1,k2⟩:=HR.kill hr hg;by_cases R:m+n<=G
         ·have a3:0<G:=by clear q4 grow;omega
          obtain⟨l,hl,rfl,i1⟩:=q4 a3;obtain⟨T,fz,ee,g1,g2,g4,g5,g6⟩:=hr.obj b l _ hl hg;have:=g5 rfl;subst this;have c9:M.length=n*i.size:=by rw[K.1];exact b4
          have i6:l.base+j+m*i.size+M.length<=T.size:=by rw[c9,g2,Cs,<-Dg];have:=Dr i.size R;omega
          have d0:∀y∈M,y.oneCell'=Jo:=by
           intro y hy;obtain⟨q,hq,e'⟩:=Ec hy;have e3:q<new.length:=by rw[<-K.1];exact hq
           have:=K.2 q new[q] y (Ad e3) (by rw[<-e'];exact Ad hq);exact this.one (List.all_eq_true.1 b3 _ (Df e3))
          have h9:=run_storeCells_at P l.blk (l.base+j+m*i.size) ee M 0 T w g1 (by omega) d0;have J:=jK (w':=w.setRow l.blk (T.toList.take (l.base+j+m*i.size+0)++M++T.toList.drop (l.base+j+m*i.size+0+M.length)).toArray) (ty:=o.type) (base:=Jm ⟨l.blk,l.base+j,Jn⟩) (m:=m) (cap:=G) Z L hu U V hi a7 b5 R
           (fun f8 e'=>by cases e';rw[Addr.iw];exact h9) (fun h=>by cases h)
          have e4:(T.toList.take (l.base+j+m*i.size+0)++M++T.toList.drop (l.base+j+m*i.size+0+M.length)).length=T.size:=by simp;omega
          have a9:ρ h.next=Jn:=S _ (Ac _) (by simp);have i0:OR P (upd ρ h.next ⟨l.blk,l.base+j,l.lim⟩) (w.setRow l.blk (T.toList.take (l.base+j+m*i.size+0)++M++T.toList.drop (l.base+j+m*i.size+0+M.length)).toArray) ⟨l.blk,l.base+j,l.lim⟩ (.cells 0 Jo (Q++new)):=by
           refine⟨_,(0,0),ee,setRow_heap w l.blk T _ ee (0,0) g1,by rw[Ez,e4];exact g2,?_,fun _=>rfl,fun q y hy=>?_⟩
           ·rw[Ez,e4,An,a1,b4];simp only;omega
           ·have hs:=iC (l:=⟨l.blk,l.base+j,l.lim⟩) a9;simp only[Dw,List.getElem?_toArray];rw[Fw]at hy;by_cases c1:q<Q.length
            ·rw[if_pos c1]at hy;rw[Bj (by simp;omega),Bj (by simp;omega),Bc,if_pos (by omega),Bm];rw[a2,Bc,if_pos (by omega),Bg]at hy;obtain⟨u,a6,c5⟩:=g6 _ y hy;exact⟨u,by rw[<-a6];congr 1;omega,c5.mono hs⟩
            ·rw[if_neg c1]at hy;have hq:q-Q.length<new.length:=(List.getElem?_eq_some_iff.1 hy).1;rw[Bj (by simp;omega),List.getElem?_append_right (by simp;omega)];obtain⟨u,a6,c5⟩:=K.getElem hy;refine⟨u,?_,c5.mono hs⟩;rw[<-a6];congr 1;simp;omega
          obtain⟨m1,m2⟩:=HR.moved (w':=w.setRow l.blk (T.toList.take (l.base+j+m*i.size+0)++M++T.toList.drop (l.base+j+m*i.size+0+M.length)).toArray) hr a9 hl hg (l':=⟨l.blk,l.base+j,l.lim⟩) rfl (by simp) rfl rfl rfl (fun k hk=>setRow_other w _ _ _ hk) i0;refine⟨_,_,_,.inl (I J),?_,m1,m2⟩;refine .slice Jp i.size h.next 0 (m+n) G _ R q2 (fun h=>by cases h) fun _=>⟨_,a8 _ _ _,rfl,?_⟩;simp only;omega
         ·exact grow (by clear q4 grow;omega) _ k1 k2 (Ev.kill hg) rfl rfl rfl
       ·cases B
    ·cases B
  ·cases B
def PL{c:Call}(O:o.op= .call c)(Q:c.callee= .builtin .append){size bytes:Nat}{s x:AR}(u:aX P o=Jm (.append size bytes s x))(G:aop a h (.append size bytes s x)=Jm (v,h',rd))(ht:Ops ρ a act (AO.append size bytes s x).di)(hr:HR P ρ h w)
  (L:∀y,h.next<=y->y<h'.next->ρ y=Jn):EF P ρ h w ((execOp act.eval o).run P w) v h':=by
 simp only[aX,O,Q]at u;unfold gY at u;split at u
 ·rename_i t V Y Z x0 _ M E;split at u
  ·rename_i e e2 T U R I J K;split at u
   ·rename_i i z S hz;split at u
    ·rename_i B;simp only[Au,decide_eq_true_eq]at B;cases u;exact nV O Q M E R I (.inl ⟨_,rfl⟩) J K S hz B G ht hr L
    ·cases u
   ·cases u
  ·rename_i e T U R I J K;split at u
   ·rename_i i z S hz;split at u
    ·rename_i B;simp only[Au,decide_eq_true_eq]at B;cases u;exact nV O Q M E R I (.inr rfl) J K S hz B G ht hr L
    ·cases u
   ·cases u
  ·split at u
   ·split at u<;>cases u
   ·cases u
  ·cases u
 all_goals (first | contradiction | (cases u;done) | (split at u<;>first | (cases u;done) | skip))
 all_goals (first | (cases u;done) | skip)
def aBP{c:Call}(ho:o.op= .call c)(hc:c.callee= .builtin .copy){size:Nat}{d x:AR}(G:aX P o=Jm (.jf size d x))(B:aop a h (.jf size d x)=Jm (v,h',rd))(ht:Ops ρ a act (AO.jf size d x).di)(hr:HR P ρ h w):
  EF P ρ h w ((execOp act.eval o).run P w) v h':=by
 simp only[aX,ho,hc]at G;unfold gY at G;split at G;all_goals (first | contradiction | (cases G;done) | skip)
 all_goals (first | (split at G<;>first | (cases G;done) | skip) | skip)
 all_goals (first | (split at G<;>first | (cases G;done) | skip) | skip)
 rename_i t t2 ts Z x0 _ a5 T _ _ _ _ e e2 d1 x1 Q b7 a6 a7 _ i hi;split at G
 ·rename_i a4;cases G;simp only[AO.di]at ht;have h1:=aV a6 ht.left;have h2:=aV a7 ht.right;have R:c.argTypes[0]? =Jm t:=by rw[<-Bm,a5];rfl
  have S:c.args.map act.eval= #[act.eval Z,act.eval x0]:=by apply Ch;simp[T]
  have E:∀{u:Value} {w':World},(Builtin.copy_ c.argTypes o.type #[act.eval Z,act.eval x0]).run P w= .ok u w'->(execOp act.eval o).run P w= .ok (.value u) w':=by intro u w' a9;simp only[execOp,ho,resolve,hc,Sem.run_bind,Sem.run_pure,Result.andThen_ok,invoke,builtin,S,a9]
  simp only[aop]at B;split at B
  ·rename_i fl sz b j m b0 b1 b2 j2 n U V;rw[U]at h1;rw[V]at h2;obtain⟨ad,a2,L,q1,q2,q3,q4⟩:=h1.bx;obtain⟨M,I,J,r1,r2,r3,r4⟩:=h2.bx;rw[L,J]at E;split at B
   ·rename_i b3;obtain⟨rfl,rfl⟩:=b3;have O:∀{Y:List Value} {w':World},(Builtin.firstCells i.size (min n m) (.slice (Jm M) n I)).run P w= .ok Y.toArray w->(storeCells ad Y).run P w= .ok () w'->
      (Builtin.copy_ c.argTypes o.type #[.slice (Jm ad) m a2,.slice (Jm M) n I]).run P w= .ok (.int .i64 ((min n m:Nat):Int)) w':=by
     intro Y w' g1 g2;have b4:(Builtin.firstCells i.size (Nat.min n m) (.slice (Jm M) n I)).run P w= .ok Y.toArray w:=g1;simp[Builtin.copy_,R,run_underlying Q,sizeOf,typeInfo,hi,Builtin.lenOf,b4,g2,goInt]
    split at B
    ·rename_i hk;cases B;have hf:(Builtin.firstCells i.size (min n m) (.slice (Jm M) n I)).run P w= .ok ([]:List Value).toArray w:=dY (by simp[hk]) (fun j u Q=>by simp at Q);have:=O hf (w':=w) (by simp[storeCells]);rw[hk]at this;exact⟨_,w,ρ,.inl (E this),.int _ _,hr,Stp.refl _ _ _⟩
    ·rename_i hk;split at B
     ·rename_i cs b5;split at B
      ·rename_i c0 K;cases B;obtain⟨ver,rw,all,hg,hn,e⟩:=cT b5;obtain⟨l2,b6,rfl,_⟩:=r4 (by omega);obtain⟨l,hl,rfl,_⟩:=q4 (by omega);obtain⟨Y,k1,k2,k3⟩:=(hr.obj b2 l2 _ b6 hg).cells hn e;have hf:(Builtin.firstCells i.size (min n m) (.slice (Jm ⟨l2.blk,l2.base+j2,Jn⟩) n I)).run P w= .ok Y.toArray w:=dY k2 (fun q u Q=>by
        rw[Addr.iw];exact k3 q u Q)
       have a0:cs.all AV.one=Jo:=by
        unfold dV at K;split at K
        ·split at K
         ·rename_i hc;simp only[Au]at hc;exact hc.2
         ·cases K
        ·cases K
       have a1:∀y∈Y,y.oneCell'=Jo:=by
        intro y hy;obtain⟨q,hq,e'⟩:=Ec hy;have a3:q<cs.length:=by rw[<-k1.1];exact hq
        have:=k1.2 q cs[q] y (Ad a3) (by rw[<-e'];exact Ad hq);exact this.one (List.all_eq_true.1 a0 _ (Df a3))
       obtain⟨w',s1,s2,s3⟩:=yU hr hl K k1 a1;exact⟨_,w',ρ,.inl (E (O hf s1)),.int _ _,s2,s3⟩
      ·cases B
     ·cases B
   ·cases B
  ·rename_i U V;cases B;rw[U]at h1;rw[V]at h2;have L:act.eval Z= .slice Jn 0 0:=by generalize act.eval Z=u at h1;cases h1;rfl
   have J:act.eval x0= .slice Jn 0 0:=by generalize act.eval x0=u at h2;cases h2;rfl
   rw[L,J]at E;exact⟨_,w,ρ,.inl (E (u:= .int .i64 0) (by simp[Builtin.copy_,R,run_underlying Q,sizeOf,typeInfo,hi,Builtin.lenOf,Builtin.firstCells,goInt])),.int _ _,hr,Stp.refl _ _ _⟩
  ·rename_i b0 b1 b2 j2 n U V;cases B;rw[U]at h1;rw[V]at h2;have L:act.eval Z= .slice Jn 0 0:=by generalize act.eval Z=u at h1;cases h1;rfl
   obtain⟨M,I,J,r1,r2,r3,r4⟩:=h2.bx;rw[L,J]at E;have hf:(Builtin.firstCells i.size 0 (.slice (Jm M) n I)).run P w= .ok ([]:List Value).toArray w:=dY (by simp) (fun j u Q=>by simp at Q);exact⟨_,w,ρ,.inl (E (u:= .int .i64 0) (by simp[Builtin.copy_,R,run_underlying Q,sizeOf,typeInfo,hi,Builtin.lenOf,hf,goInt])),.int _ _,hr,Stp.refl _ _ _⟩
  ·rename_i fl sz b j m U V;cases B;rw[U]at h1;rw[V]at h2;obtain⟨ad,a2,L,q1,q2,q3,q4⟩:=h1.bx;have J:act.eval x0= .slice Jn 0 0:=by generalize act.eval x0=u at h2;cases h2;rfl
   rw[L,J]at E;exact⟨_,w,ρ,.inl (E (u:= .int .i64 0) (by simp[Builtin.copy_,R,run_underlying Q,sizeOf,typeInfo,hi,Builtin.lenOf,Builtin.firstCells,storeCells,goInt])),.int _ _,hr,Stp.refl _ _ _⟩
  ·cases B
 ·cases G
def XA{c:Call}(ho:o.op= .call c)(R:c.callee= .builtin .clear){z:List AV}{x:AR}(E:aX P o=Jm (.fq z x))(B:aop a h (.fq z x)=Jm (v,h',rd))(ht:Ops ρ a act (AO.fq z x).di)(hr:HR P ρ h w):
  EF P ρ h w ((execOp act.eval o).run P w) v h':=by
 simp only[aX,ho,R]at E;unfold gY at E;split at E;all_goals (first | contradiction | (cases E;done) | skip)
 all_goals (first | (split at E<;>first | (cases E;done) | skip) | skip)
 all_goals (first | (split at E<;>first | (cases E;done) | skip) | skip)
 rename_i t ts Z _ a1 L _ _ e x1 hu a2 _ _ i z0 hi hz;split at E
 ·rename_i M;simp only[Au,decide_eq_true_eq]at M;cases E;simp only[AO.di]at ht;have h1:=aV a2 ht;obtain⟨zu,i',S,a0,a3,T⟩:=g7 hz;rw[hi]at S;cases S;have a5:zu.cells.size=i.size:=by have:=eA T;simp at this;omega
  have O:c.argTypes[0]? =Jm t:=by rw[<-Bm,a1];rfl
  have K:c.args.map act.eval= #[act.eval Z]:=by apply Ch;simp[L]
  have G:∀{u:Value} {w':World},(Builtin.clear_ c.argTypes o.type #[act.eval Z]).run P w= .ok u w'->(execOp act.eval o).run P w= .ok (.value u) w':=by intro u w' a4;simp only[execOp,ho,resolve,R,Sem.run_bind,Sem.run_pure,Result.andThen_ok,invoke,builtin,K,a4]
  simp only[aop]at B;split at B
  ·rename_i he;cases B;rw[he]at h1;have Q:act.eval Z= .slice Jn 0 0:=by generalize act.eval Z=u at h1;cases h1;rfl
   rw[Q]at G;exact⟨_,w,ρ,.inl (G (by simp[Builtin.clear_,O,run_underlying hu])),(VRs.nil ρ).lm,hr,Stp.refl _ _ _⟩
  ·rename_i fl sz b j n he;rw[he]at h1;obtain⟨ad,a6,Q,q1,q2,q3,q4⟩:=h1.bx;rw[Q]at G;split at B
   ·rename_i a7;split at B
    ·rename_i hn;subst hn;cases B;exact⟨_,w,ρ,.inl (G (by simp[Builtin.clear_,O,run_underlying hu])),(VRs.nil ρ).lm,hr,Stp.refl _ _ _⟩
    ·rename_i hn;split at B
     ·rename_i a9 I;cases B;obtain⟨l,hl,rfl,_⟩:=q4 (by omega);have J:VRs ρ (gH n z) (Builtin.zeroCells zu.cells n).toList:=by
       have:=nQ (n:=n) (eL (ρ:=ρ) T).1 (by omega);simpa [Builtin.zeroCells]using this
      have U:(gH n z).all AV.one=Jo:=by
       unfold dV at I;split at I
       ·split at I
        ·rename_i R;simp only[Au]at R;exact R.2
        ·cases I
       ·cases I
      have V:∀y∈(Builtin.zeroCells zu.cells n).toList,y.oneCell'=Jo:=by
       intro y hy;obtain⟨q,hq,e'⟩:=Ec hy;have Y:q<(gH n z).length:=by rw[<-J.1];exact hq
       have:=J.2 q (gH n z)[q] y (Ad Y) (by rw[<-e'];exact Ad hq);exact this.one (List.all_eq_true.1 U _ (Df Y))
      obtain⟨w',s1,s2,s3⟩:=yU hr hl I J V;refine⟨_,w',ρ,.inl (G ?_),(VRs.nil ρ).lm,s2,s3⟩;obtain⟨n',rfl⟩:∃n',n=n'+1:=⟨n-1,by omega⟩;simp[Builtin.clear_,O,run_underlying hu,a3,s1]
     ·cases B
   ·cases B
  ·cases B
 ·cases E
def oG{b i:Nat}{new:List AV}(u:dV h b i new=Jm h'):Ev h h':=by
 unfold dV at u;split at u
 ·rename_i ver cs hg;split at u
  ·cases u;exact Ev.set hg (.inr (.inr ⟨ver,ver+1,rfl,rfl,by omega,rfl,rfl,rfl⟩)) rfl
  ·cases u
 ·cases u
def aEp{b:Nat}(u:kill h b=Jm h'):Ev h h':=by
 unfold kill at u;split at u
 ·rename_i ver cs hg;cases u;exact Ev.kill hg
 ·cases u
def aHJ(u:aop a h ao=Jm (v,h',rd)):Ev h h':=by
 cases ao<;>simp only[aop]at u
 case append=>
  split at u
  ·cases u
  ·split at u
   ·split at u
    ·cases u;exact Ev.refl h
    ·split at u
     ·cases u;exact Ev.alloc h _
     ·cases u
   ·split at u
    ·cases u;exact Ev.refl h
    ·split at u
     ·split at u
      ·cases u
      ·split at u
       ·cases u;exact Ev.alloc h _
       ·split at u
        ·rename_i B;cases u;exact(aEp B).trans (Ev.alloc _ _)
        ·cases u
     ·cases u
   ·cases u
 case store=>
  split at u
  ·split at u
   ·split at u
    ·rename_i y;cases u;exact oG y
    ·cases u
   ·cases u
  ·cases u
 case mapUpdate=>
  split at u
  ·split at u
   ·rename_i hg;split at u
    ·cases u;exact Ev.set hg (.inr (.inr ⟨_,_,rfl,rfl,Eb _,rfl,rfl,rfl⟩)) rfl
    ·cases u
   ·cases u
  ·cases u
 case jf=>
  repeat' split at u
  all_goals (first | (cases u;done) | (cases u;first | exact Ev.refl h | (rename_i y;exact oG y)))
 case fq=>
  repeat' split at u
  all_goals (first | (cases u;done) | (cases u;first | exact Ev.refl h | (rename_i y;exact oG y)))
 all_goals (repeat' split at u)
 all_goals (first | (cases u;first | exact Ev.refl h | exact Ev.alloc h _) | (exact absurd u (by simp)))
def IU(u:aX P o=Jm ao)(y:ao.effect=Jo):(∃t p x,o.op= .store t p x)\/(∃t m k x,o.op= .mapUpdate t m k x\/o.op= .insert t m k x)\/(∃c,o.op= .call c)\/∃s d x,o.op= .convert s d x:=by
 cases B:o.op with
 | convert s d x=>exact .inr (.inr (.inr ⟨s,d,x,rfl⟩))
 | store t p x=>exact .inl ⟨t,p,x,rfl⟩
 | mapUpdate t m k x=>exact .inr (.inl ⟨t,m,k,x,.inl rfl⟩)
 | insert t m k x=>exact .inr (.inl ⟨t,m,k,x,.inr rfl⟩)
 | call c=>exact .inr (.inr (.inl ⟨c,rfl⟩))
 | makeMap t r=>
  cases r with
  | none=>simp only[aX,B]at u;cases u;simp[AO.effect]at y
  | some r=>simp[aX,B]at u
 | _=>
  exfalso;simp only[aX,B,Cg]at u;all_goals (repeat' split at u)
  all_goals (try unfold pQ at u)
  all_goals (repeat' split at u)
  all_goals (first | (cases u;done) | (cases u;simp[AO.effect]at y;done) | (simp only[Cg]at u;obtain⟨_,_,rfl⟩:=u;simp[AO.effect]at y;done) | (obtain⟨_,_,rfl⟩:=u;simp[AO.effect]at y;done))
def BO{c:Call}(ho:o.op= .call c)(hc:c.callee= .builtin .append){bytes:Nat}{z:List AV}{s x:AR}(B:aX P o=Jm (.br bytes z s x))(E:aop a h (.br bytes z s x)=Jm (v,h',rd))(ht:Ops ρ a act (AO.br bytes z s x).di)(hr:HR P ρ h w)
  (Q:∀y,h.next<=y->y<h'.next->ρ y=Jn):EF P ρ h w ((execOp act.eval o).run P w) v h':=by
 simp only[aX,ho,hc]at B;unfold gY at B;split at B
 ·rename_i t t2 ts s0 x0 _ R L;split at B
  ·split at B
   ·split at B<;>cases B
   ·cases B
  ·split at B
   ·split at B<;>cases B
   ·cases B
  ·rename_i e kd s1 x1 hu S a0 a1;split at B
   ·rename_i i z' hi hz;split at B
    ·rename_i G;simp only[Au,decide_eq_true_eq]at G;cases B;simp only[AO.di]at ht;have h1:=aV a0 ht.left;have h2:=aV a1 ht.right;obtain⟨zu,i',T,M,b6,U⟩:=g7 hz;rw[hi]at T;cases T;have V:zu.cells.size=i.size:=by have:=eA U;simp at this;omega
     have Y:c.argTypes[0]? =Jm t:=by rw[<-Bm,R];rfl
     have K:c.argTypes[1]? =Jm t2:=by rw[<-Bm,R];rfl
     have J:c.args.map act.eval= #[act.eval s0,act.eval x0]:=by apply Ch;simp[L]
     have I:∀{u:Value} {w':World},(Builtin.append_ c.argTypes o.type #[act.eval s0,act.eval x0]).run P w= .ok u w'->(execOp act.eval o).run P w= .ok (.value u) w':=by intro u w' a2;simp only[execOp,ho,resolve,hc,Sem.run_bind,Sem.run_pure,Result.andThen_ok,invoke,builtin,J,a2]
     simp only[aop]at E;split at E
     ·rename_i n e1 e2;rw[e1]at h1;rw[e2]at h2;have a3:act.eval s0= .slice Jn 0 0:=by generalize act.eval s0=u at h1;cases h1;rfl
      rw[a3,h2.bh]at I;split at E
      ·rename_i h0;subst h0;cases E;refine⟨_,w,ρ,.inl (I (u:= .slice Jn 0 0) (w':=w) ?_),.ag,hr,Stp.refl _ _ _⟩;have a4:IntKind.i64.wrap 0=0:=by decide
       simp[Builtin.append_,Y,K,run_underlying hu,run_underlying S,sizeOf,typeInfo,hi,asInt,asIntOf,a4]
      ·rename_i h0;split at E
       ·rename_i hb;obtain⟨b1,b2,b3⟩:=hb;cases E;obtain⟨n,rfl⟩:=Int.eq_ofNat_of_zero_le b1;have a5:n*i.bytes<=140737488355328:=by
         have:((n*i.bytes:Nat):Int)<=140737488355328:=by rw[Hu];exact b2
         omega
        have a6:n<=9223372036854775807:=by unfold fK at b3;omega
        have O:=wX (w:=w) (ty:=o.type) Y K hu S hi M G.2 (by omega) a6 a5;have a7:=grownCap_ge w n 0 e;have a9:=grownCap_le_maxLen w n 0 e (by unfold maxLen;omega);have hd:=HR.heap (w':=w.drew) hr rfl;have b0:=Stp.heap (ρ:=ρ) (h:=h) (w:=w) (w':=w.drew) rfl rfl rfl rfl;have Z:VRs ρ (gH n z) (Builtin.zeroCells zu.cells n).toList:=by
         have:=nQ (n:=n) (eL (ρ:=ρ) U).1 (by omega);simpa [Builtin.zeroCells]using this
        obtain⟨ρ',g1,g2,g3⟩:=BB (e:=e) (size:=i.size) (n:=n) (cap':=grownCap w n 0 e) (zs:=(Builtin.zeroCells zu.cells (grownCap w n 0 e-n)).toList) hd (Q _ (Ac _) (by simp)) Z (by simp[iA,V]) (by simp[iA,V]) a7 a9;have b4:z.length=i.size:=G.1.symm;refine⟨_,_,ρ',.inl (I O),?_,?_,?_⟩
        ·simpa [b4]using g3
        ·simpa using g1
        ·have:=b0.trans g2 (Ev.refl h) (Ev.alloc h _) Q;simpa using this
       ·cases E
     ·cases E
    ·cases B
   ·cases B
  ·cases B
 all_goals (repeat' split at B)
 all_goals (first | (cases B;done) | (simp at B;done))
def qA{b:Builtin}{B:List TypeId}{args:List Operand}(u:gY P b B args=Jm ao)(y:ao.effect=Jo):
  (b= .append/\∃size bytes s x,ao= .append size bytes s x)\/(b= .append/\∃bytes z s x,ao= .br bytes z s x)\/(b= .copy/\∃size d x,ao= .jf size d x)\/(b= .clear/\∃z x,ao= .fq z x):=by
 unfold gY at u;split at u
 ·repeat' split at u
  all_goals (first | (cases u;done) | (cases u;exact .inl ⟨rfl,_,_,_,_,rfl⟩) | (cases u;exact .inr (.inl ⟨rfl,_,_,_,_,rfl⟩)))
 all_goals (repeat' split at u)
 all_goals (first | (cases u;done) | (cases u;exact .inr (.inr (.inl ⟨rfl,_,_,_,rfl⟩))) | (cases u;exact .inr (.inr (.inr ⟨rfl,_,_,rfl⟩))) | (cases u;simp[AO.effect]at y))
def HR.add{w':World}{ob:bq}{l:Loc}(hr:HR P ρ h w)(O:ρ h.next=Jn)(hb:RowKit.Below w.heap.size w w')(hl:w.heap.size<=l.blk)(hlt:l.blk<w'.heap.size)
  (T:OR P (upd ρ h.next l) w' l ob):HR P (upd ρ h.next l) (h.alloc ob) w'/\Stp ρ h w (upd ρ h.next l) (h.alloc ob) w':=by
 have E:∀b,b<w.heap.size->w'.heap[b]? =w.heap[b]? :=fun b Q=>hb.block b Q;have hs:=iC (l:=l) O;refine⟨⟨hr.gat.dx fun b l hb hlt=>E b hlt,fun b U K x lx ox u hg R=>?_,fun x lx u=>?_,fun x lx ox u hg=>?_,fun x y lx ly ox oy u J G B L M I=>?_⟩,⟨hs,fun x lx u=>?_,fun x lx u=>?_,hb.size,hb.os,hb.tape,hb.output,fun b hb _=>E b hb⟩⟩
 ·by_cases e:x=h.next
  ·subst e;rw[a8]at u;cases u;have:=hr.gat.lt K;omega
  ·rw[bK e]at u;rw[H.ay,if_neg e]at hg;exact hr.mq b U K x lx ox u hg R
 ·by_cases e:x=h.next
  ·subst e;rw[a8]at u;cases u;exact hlt
  ·rw[bK e]at u;have:=hr.eh x lx u;have:=hb.size;omega
 ·by_cases e:x=h.next
  ·subst e;rw[a8]at u;cases u;rw[H.ai]at hg;cases hg;exact T
  ·rw[bK e]at u;rw[H.ay,if_neg e]at hg;have h0:=hr.obj x lx ox u hg
   cases hl:ox.bz with
   | true=>exact h0.mono hs (E _ (h0.lt hl))
   | false=>cases ox<;>first | trivial | (simp[bq.bz]at hl)
 ·by_cases ex:x=h.next
  ·subst ex;rw[a8]at u;cases u;rw[bK (Ne.symm I)]at J;rw[H.ay,if_neg (Ne.symm I)]at B;have:=(hr.obj y ly oy J B).lt M;omega
  ·rw[bK ex]at u;rw[H.ay,if_neg ex]at G;by_cases S:y=h.next
   ·subst S;rw[a8]at J;cases J;have:=(hr.obj x lx ox u G).lt (bq.eg L);omega
   ·rw[bK S]at J;rw[H.ay,if_neg S]at B;exact hr.inj x y lx ly ox oy u J G B L M I
 ·by_cases e:x=h.next
  ·subst e;exact .inr ⟨Ac _,by simp⟩
  ·rw[bK e]at u;exact .inl u
 ·by_cases e:x=h.next
  ·subst e;rw[a8]at u;cases u;exact .inr (.inl hl)
  ·rw[bK e]at u;exact .inl u
def BN{s d:TypeId}{U:Operand}(S:o.op= .convert s d U)(u:aX P o=Jm ao)(G:ao.effect=Jo)(E:aop a h ao=Jm (v,h',rd))(ht:Ops ρ a act ao.di)(hr:HR P ρ h w)
  (M:∀y,h.next<=y->y<h'.next->ρ y=Jn):EF P ρ h w ((execOp act.eval o).run P w) v h':=by
 simp only[aX,S]at u;split at u
 ·cases u;simp[AO.effect]at G
 ·cases u;simp[AO.effect]at G
 ·split at u
  ·cases u;simp[AO.effect]at G
  ·cases u
 ·rename_i e x' hs hd V;split at u
  ·rename_i he;cases u;simp only[AO.di]at ht;have J:=aV V ht;simp only[aop]at E;split at E
   ·rename_i B O;split at E
    ·rename_i Y;cases E;rw[O]at J;have K:B.size<=maxLen:=by unfold maxLen;omega
     have Q:=grownCap_ge w B.size 0 e;have R:=grownCap_le_maxLen w B.size 0 e K;have I:(execOp act.eval o).run P w= .ok (.value (.slice (Jm ⟨w.heap.size,0,Jn⟩) B.size (grownCap w B.size 0 e))) (Lib.bytesWorld w e B):=by simp only[execOp,S,J.cw,Sem.run_bind,Lib.run_convert_string_bytes w s d e B hs hd he,Result.andThen_ok,Sem.run_pure]
     have L:(Lib.bytesCells w e B).size=grownCap w B.size 0 e:=by have:B.data.size=B.size:=rfl;simp[Lib.bytesCells,this];omega
     have Z:=M h.next (Ac _) (by simp);obtain⟨g1,g2⟩:=HR.add (w':=Lib.bytesWorld w e B) (ob:= .cells 0 Jp (B.data.toList.map fun b=> .int .u8 b.toNat)) (l:=⟨w.heap.size,0,(Lib.bytesCells w e B).size⟩) hr Z
      (Lib.bytesWorld_below w e B) (Ac _) (by rw[Lib.bytesWorld_size];exact Eb _)
      ⟨_,_,_,Lib.bytesWorld_at_new w e B,rfl,by
       have:B.data.size=B.size:=rfl;simp[L,this];omega,(fun h=>by cases h),fun i v hv=>by
        rw[Av]at hv
        cases hb:B.data.toList[i]? with
        | none=>rw[hb]at hv;cases hv
        | some b=>
         rw[hb]at hv;cases hv;refine⟨.int .u8 b.toNat,?_,.int _ _⟩;have T:i<B.data.size:=by rw[Bm]at hb;exact(Array.getElem?_eq_some_iff.1 hb).1
         rw[Bm]at hb;simp[Lib.bytesCells,Array.getElem?_append,T];rw[if_pos (show i<B.size from T),hb];rfl⟩
     refine⟨_,_,_,.inl I,.slice Jp 1 h.next 0 B.size _ _ Q R (fun h=>by cases h) (fun _=>⟨_,a8 _ _ _,rfl,?_⟩),g1,g2⟩;simp only[L];omega
    ·cases E
   ·cases E
  ·cases u
 ·cases u
def aES(u:aX P o=Jm ao)(G:ao.effect=Jo)(L:∀f args,ao≠ .call f args)(B:aop a h ao=Jm (v,h',rd))(ht:Ops ρ a act ao.di)(hr:HR P ρ h w)
  (J:∀y,h.next<=y->y<h'.next->ρ y=Jn):EF P ρ h w ((execOp act.eval o).run P w) v h':=by
 rcases IU u G with⟨t,p,x,E⟩ | ⟨t,m,k,x,E⟩ | ⟨c,E⟩ | ⟨s,d,x,E⟩
 rotate_right
 ·exact BN E u G B ht hr J
 ·exact W9 E u B ht hr
 ·exact C0 E u B ht hr
 ·cases K:c.callee with
  | builtin b=>
   have I:=u;simp only[aX,E,K]at I;rcases qA I G with⟨rfl,size,bytes,s,x,rfl⟩ | ⟨rfl,bytes,z,s,x,rfl⟩ | ⟨rfl,size,d,x,rfl⟩ | ⟨rfl,z,x,rfl⟩
   ·exact PL E K u B ht hr J
   ·exact BO E K u B ht hr J
   ·exact aBP E K u B ht hr
   ·exact XA E K u B ht hr
  | value f=>
   simp only[aX,E,K]at u;split at u
   ·cases u;exact absurd rfl (L _ _)
   ·cases u
  | invoke r m=>
   simp only[aX,E,K]at u;split at u
   ·cases u;exact absurd rfl (L _ _)
   ·cases u
def aHz(E:yL P o=Jm ao)(u:ao.effect=Jo)(G:∀f args,ao≠ .call f args)(B:aop a h ao=Jm (v,h',rd))(ht:Ops ρ a act ao.di)(hr:HR P ρ h w)
  (I:∀y,h.next<=y->y<h'.next->ρ y=Jn):EF P ρ h w ((execOp act.eval o).run P w) v h':=by
 rcases mZ _ E with h0 | ⟨rfl,_⟩
 ·exact aES h0 u G B ht hr I
 ·simp[AO.stuck,AO.effect]at u
end
def fR(u:Option Nat):Fence:={Fence.wide with round:=u}
def db(ρ:Emb)(h u:H):Prop:=∀y,h.next<=y->y<u.next->ρ y=Jn
def db.first{ρ:Emb}{h h1 h2:H}(hf:db ρ h h2)(e:Ev h1 h2):db ρ h h1:=fun y a b=>hf y a (Nat.lt_of_lt_of_le b e.next)
def db.rest{ρ u:Emb}{h h1 h2:H}{w B:World}(hf:db ρ h h2)(e:Ev h h1)(s:Stp ρ h w u h1 B):db u h1 h2:=fun y a b=>by
 cases E:u y with
 | none=>rfl
 | some l=>
  rcases s.dom y l E with h0 | ⟨_,h0⟩
  ·rw[hf y (Nat.le_trans e.next a) b]at h0;cases h0
  ·omega
def MK(B:Nat)(ρ:Emb)(w:World):List Deferred->Prop
 | []=>True
 | d::ds=>(∃D,B<=D/\d={target:= .collected D,args:= #[]}/\w.heap[D]? =Jm (.deferred (Jm []))/\(∀x l,ρ x=Jm l->l.blk≠D)/\({target:= .collected D,args:= #[]} :Deferred)∉ds)/\MK B ρ w ds
def MK.step{B:Nat}{ρ E:Emb}{h G:H}{w w':World}(s:Stp ρ h w E G w'):∀{ds:List Deferred},MK B ρ w ds->MK B E w' ds
 | [],_=>trivial
 | d::ds,⟨⟨D,I,h1,h2,h3,J⟩,hr⟩=>by
  have hlt:D<w.heap.size:=(Array.getElem?_eq_some_iff.1 h2).1;refine⟨⟨D,I,h1,?_,fun x l u=>?_,J⟩,MK.step s hr⟩
  ·rw[s.frame D hlt fun x l o u _ _=>h3 x l u];exact h2
  ·rcases s.own x l u with h0 | h0 | ⟨y,K,M,L,_,_,e⟩
   ·exact h3 x l h0
   ·omega
   ·rw[e];exact h3 y K L
def Ctx(y:Option Nat)(ρ:Emb)(h:H):Prop:=∀l,y=Jm l->∃x u ver r,ρ x=Jm u/\u.blk=l/\h.get x=Jm (.loop ver r)
def Ctx.step{u:Option Nat}{ρ y:Emb}{h B:H}(E:Ctx u ρ h)(hs:Sub ρ y)(e:Ev h B):Ctx u y B:=fun l hl=>by obtain⟨x,G,ver,r,h1,h2,h3⟩:=E l hl;obtain⟨I,J,K⟩:=e.rk h3;exact⟨x,G,I,J,hs _ _ h1,h2,K⟩
def wR(P:Program)(ρ:Emb)(h:H)(w:World)(v:AV)(B:H):Ending->World->Prop:=fun e w'=>∃u y,e= .returned u/\VR y v u/\HR P y B w'/\Stp ρ h w y B w'
def Ex.gh:Ex->Exit
 | .normal=> .normal
 | .ret=> .ret
 | .exit id=> .exit id
def iy(P:Program)(B:Nat)(ρ:Emb)(h:H)(w:World)(e:Ex)(G:List AV)(E:H):Exit->Act->World->Prop:=fun x u w'=>
 x=e.gh/\∃y,TR y G u.tmps/\HR P y E w'/\Stp ρ h w y E w'/\MK B y w' u.defers
def nL(F:Fence)(n:Nat)(P:Program)(l:Nat)(c:Code)(Q:Exit->Act->World->Prop):Nat->Act->World->Prop
 | 0,_,_=>False
 | m+1,a,w=>c.wpIn F n P (fun e a w=>match e with | .goto u=>u=l/\nL F n P l c Q m a w | e=>Q e a w) a w
def unE(l:Nat):Ex->Ex
 | .exit id=>if id=2097152+l then .normal else .exit id
 | e=>e
structure fb (P:Program) (rec:Rec) (m:Nat):Prop where
 oh:∀g args h v h',rec.call g args h=Jm (v,h')->Ev h h'
 ph:∀g args h v h',rec.call g args h=Jm (v,h')->∃fn,P.funcs[g]? =Jm fn/\fn.body.isSome=Jo/\(fn.name== "runtime.NumGoroutine")=Jp
 call:∀g args h v h',rec.call g args h=Jm (v,h')->∀ρ w us,VRs ρ args us->HR P ρ h w->db ρ h h'->CallsIn Fence.wide 0 P g us.toArray w (wR P ρ h w v h')
 ku:∀ac a h e a' h',rec.code ac a h=Jm (e,a',h')->Ev h h'
 code:∀c ac,nU P c ac->∀a h e a' h',rec.code ac a h=Jm (e,a',h')->∀ro B ρ w act,B<=w.heap.size->Ctx ro ρ h->TR ρ a act.tmps->HR P ρ h w->db ρ h h'->MK B ρ w act.defers->
  c.wpIn (fR ro) 0 P (iy P B ρ h w e a' h') act w
 loop:∀c ac,nU P c ac->∀sc a h e a' h',rec.code (.loop sc ac) a h=Jm (e,a',h')->∀ro B ρ w act,B<=w.heap.size->Ctx ro ρ h->TR ρ a act.tmps->HR P ρ h w->db ρ h h'->MK B ρ w act.defers->
  Code.roundsIn (fR ro) 0 P c (iy P B ρ h w e a' h') m act w
 jump:∀l c ac,aCY P l c ac->∀sc a h e a' h',rec.code (.loop sc (.block (1048576+l) (.seq ac (.exit (2097152+l))))) a h=Jm (e,a',h')->∀ro B ρ w act,B<=w.heap.size->Ctx ro ρ h->TR ρ a act.tmps->HR P ρ h w->db ρ h h'->MK B ρ w act.defers->
  nL (fR ro) 0 P l c (iy P B ρ h w (unE l e) a' h') m act w
section
variable {P:Program} {ρ:Emb} {w:World} {a:List AV} {act:Act} {h h':H} {o:Oper} {ao:AO} {v:AV} {rd:List Nat} {rec:Rec} {m:Nat}
def DR:∀{ps:List Nat} {args:List AV} {y:List Value} {b:List AV} {tmps:Array Value},TR ρ b tmps->VRs ρ args y->TR ρ (eu b ps args) ((ps.zip y).foldl (fun tmps (x:Nat×Value)=>tmps.setIfInBounds x.1 x.2) tmps)
 | [],args,y,b,tmps,hb,hv=>by cases args<;>simpa [eu]using hb
 | p::ps,[],y,b,tmps,hb,hv=>by rw[hv.cr];simpa [eu]using hb
 | p::ps,x::args,y,b,tmps,hb,hv=>by obtain⟨u,B,rfl,h1,h2⟩:=hv.cons_inv;simp only[eu,List.zip_cons_cons,Ed];exact DR (hb.set p h1) h2
def fy.busy{r:jy}{r':Loop}(hl:fy P ρ r r'):fy P ρ {r with state:= .busy} {r' with state:= .busy} :=⟨rfl,hl.pending,hl.nz,hl.tmps,hl.params,hl.asg,hl.body⟩
inductive ru (P:Program) (ρ:Emb) (h:H) (w:World) (v:AV) (h':H):Result Next->Prop
 | enter (g:FuncId) (args:Array Value) (hc:CallsIn Fence.wide 0 P g args w (wR P ρ h w v h')):ru P ρ h w v h' (.ok (.enter g args) w)
 | round (l:Nat) (f:FuncId) (tmps:Array Value) (asg body:Code) (hc:RoundIn Fence.wide 0 P l f tmps asg body w (wR P ρ h w v h')):ru P ρ h w v h' (.ok (.round l f tmps asg body) w)
def L7(E:fb P rec m){f:AV}{args:List AV}(u:dP rec f args h=Jm (v,h')):Ev h h':=by
 unfold dP at u;split at u
 ·exact E.oh _ _ _ _ _ u
 ·rename_i l first L
  split at u
  ·rename_i ver r hg;split at u
   ·split at u
    ·rename_i S h1 B;have M:=E.ku _ _ _ _ _ _ B;split at u
     ·rename_i G O I;split at u
      ·split at u
       ·rename_i e T h3 y;have Q:=E.ku _ _ _ _ _ _ y;have R:Ev h1 (h1.set l (.loop (G+1) {O with state:= .busy})):=Ev.set I (.inr (.inr ⟨G,G+1,rfl,rfl,by omega,rfl,rfl,rfl⟩)) rfl;split at u
        ·rename_i K U J;split at u<;>cases u;all_goals exact((M.trans R).trans Q).trans (Ev.set J (.inr (.inr ⟨K,K+1,rfl,rfl,by omega,rfl,rfl,rfl⟩)) rfl)
        ·cases u
       ·cases u
      ·cases u
     ·cases u
    ·cases u
   ·cases u
  ·cases u
 ·split at u
  ·exact E.oh _ _ _ _ _ u
  ·cases u
 ·cases u
def nG{P:Program}{m:String}{t:TypeId}{g:FuncId} :∀{l:List Nat},jF (lE P m l) t=Jm g->GV P m t=Jm g
 | [],hf=>by simp[lE,jF]at hf
 | x::r,hf=>by
  unfold lE at hf
  cases u:GV P m x with
  | none=>rw[u]at hf;exact nG hf
  | some f=>
   rw[u]at hf;simp only[jF]at hf;split at hf
   ·rename_i e;have:x=t:=Int.ofNat_inj.1 e;subst this;have:f=g:=by simpa using hf
    rw[u,this]
   ·exact nG hf
def aB8(R:fb P rec m){n:String}{l:List Nat}{args:List AV}{us:List Value}(u:dP rec (.func (.methodOf 0 n) (lE P n l) []) args h=Jm (v,h'))(E:VRs ρ args us)(hr:HR P ρ h w)(I:db ρ h h'):
  ru P ρ h w v h' ((invoke (.fn (.method n) #[]) us.toArray:Sem Next).run P w):=by
 simp only[dP]at u;split at u
 ·rename_i g la ht;unfold kT at ht;split at ht
  ·rename_i t x rest;split at ht
   ·rename_i g' hg;cases ht;have hm:=nG hg;obtain⟨S,y,rfl,T,J⟩:=E.cons_inv;obtain⟨B,rfl,K⟩:∃B,S= .iface t B/\VR ρ x B:=by cases T;exact⟨_,rfl,by assumption⟩
    unfold GV at hm;split at hm
    ·rename_i i e U V;split at hm
     ·rename_i mm G;split at hm
      ·rename_i f Y hf;cases hm;obtain⟨fn,Z,q2,q3⟩:=R.ph _ _ _ _ _ u;have hc:=R.call _ _ _ _ _ u ρ w _ (VRs.cons K J) hr I;have e:(invoke (.fn (.method n) #[]) (Value.iface t B::y).toArray:Sem Next).run P w= .ok (.enter g (B::y).toArray) w:=by
        have hb:fn.body.isNone=Jp:=by cases hb:fn.body<;>simp_all
        have L:∀k,(method (k+1) t B n).run P w= .ok (g,B) w:=by intro k;unfold method;simp only[Sem.run_bind,jT U,Result.andThen_ok,G,Y,follow,Sem.run_pure,hf,receiverAt,run_underlying V,Place.get]
        have M:∃k,P.types.size+Made.depth=k+1:=⟨P.types.size+Made.depth-1,by unfold Made.depth;omega⟩;obtain⟨k,hk⟩:=M;have O:∀as,(callFunc g as).run P w= .ok (.enter g as) w:=by
         intro as;simp only[callFunc,Sem.run_bind,run_program,Result.andThen_ok,Z];rw[if_neg (by rw[q3];simp),if_neg (by rw[hb];simp)];simp
        have Q:(callMethod (.iface t B) n y.toArray).run P w= .ok (.enter g (B::y).toArray) w:=by simp only[callMethod,Sem.run_bind,run_program,Result.andThen_ok,hk,L,O];congr 2;apply Ch;simp
        rw[<-Q];simp[invoke]
       rw[e];exact .enter _ _ hc
      ·cases hm
     ·cases hm
    ·cases hm
   ·cases ht
  ·cases ht
 ·cases u
def aB7(ok:fb P rec m){f:AV}{args:List AV}{fv:Value}{R:List Value}(B:dP rec f args h=Jm (v,h'))(hf:VR ρ f fv)(E:VRs ρ args R)(hr:HR P ρ h w)(I:db ρ h h'):
  ru P ρ h w v h' ((do let d <-Deferred.ofValue fv R.toArray;invoke d.target d.args:Sem Next).run P w):=by
 have a3:=B;unfold dP at B;split at B
 ·rename_i g first b7
  cases hf with
  | func _ _ _ f' c' hp a6 a7 h1 h2=>
   obtain⟨fn,q1,q2,q3⟩:=ok.ph _ _ _ _ _ B;have b2:VRs ρ (first++args++b7) (f'++R++c'):=(VRs.append (VRs.append ⟨a6,h1⟩ E) ⟨a7,h2⟩);have hc:=ok.call _ _ _ _ _ B ρ w _ b2 hr I;have e:(do let d <-Deferred.ofValue (.func (.func g) f'.toArray c'.toArray) R.toArray;invoke d.target d.args:Sem Next).run P w= .ok (.enter g (f'++R++c').toArray) w:=by
    have hb:fn.body.isNone=Jp:=by cases hb:fn.body<;>simp_all
    simp only[Deferred.ofValue,Sem.run_bind,Sem.run_pure,Result.andThen_ok,invoke,callFunc,run_program,q1];rw[if_neg (by rw[q3];simp),if_neg (by rw[hb];simp)];simp
   rw[e];exact .enter _ _ hc
 ·rename_i l first b7
  cases hf with
  | func _ _ _ f' c' hp a6 a7 h1 h2=>simp[sN]at hp
  | yield r G a9=>
   split at B
   ·rename_i ver rr hg;split at B
    ·rename_i hlen;obtain⟨S,c4,K⟩:=hr.obj l G _ a9 hg;simp only[Aq]at hlen B;have c5:R.toArray.size=S.params.size:=by
      have h1:=E.1;have h2:S.params.toList.length=rr.params.length:=by rw[K.params]
      simp at h2 ⊢;omega
     have e:(do let d <-Deferred.ofValue (.func (.yield G.blk) #[] #[]) R.toArray;invoke d.target d.args:Sem Next).run P w=
       .ok (.round G.blk S.fn ((S.params.zip R.toArray).foldl (fun tmps (t,a)=>tmps.setIfInBounds t a) S.tmps) S.assign S.body) w:=by
      simp only[Deferred.ofValue,Sem.run_bind,Sem.run_pure,Result.andThen_ok,invoke];rw[Array.empty_append];exact run_yield c4 c5
     rw[e];refine .round _ _ _ _ _ ?_;have ht:TR ρ (eu rr.tmps rr.params args) ((S.params.zip R.toArray).foldl (fun tmps (t,a)=>tmps.setIfInBounds t a) S.tmps):=by have:=DR (ps:=rr.params) K.tmps E;rw[<-K.params]at this ⊢;rw[<-Hy];simpa using this
     refine roundIn_of_wpIn (F:=Fence.wide) trivial ?_;have V:Ctx (Jm G.blk) ρ h:=fun l' L=>by cases L;exact⟨l,G,ver,rr,a9,rfl,hg⟩
     split at B
     ·rename_i a1 h1 Y;have M:=ok.ku _ _ _ _ _ _ Y;have e3:=L7 ok a3;split at B
      ·rename_i v1 r1 b0;split at B
       ·rename_i T;split at B
        ·rename_i ee a2 h3 O;have J:Ev h1 (h1.set l (.loop (v1+1) {r1 with state:= .busy})):=Ev.set b0 (.inr (.inr ⟨v1,v1+1,rfl,rfl,by omega,rfl,rfl,rfl⟩)) rfl;have U:=ok.ku _ _ _ _ _ _ O;split at B
         ·rename_i v3 r3 b1;have a4:h'.next=h3.next:=by split at B<;>cases B<;>rfl
          have c0:Ev h3 h':=by split at B<;>cases B;all_goals exact Ev.set b1 (.inr (.inr ⟨v3,v3+1,rfl,rfl,by omega,rfl,rfl,rfl⟩)) rfl
          have c6:db ρ h h1:=fun y p q=>I y p (by have:=J.next;have:=U.next;omega);have c7:=ok.code _ _ K.asg _ _ _ _ _ Y (Jm G.blk) 0 ρ w {tmps:=_,defers:=[]} (Ai _) V ht hr c6 trivial;refine wpIn_mono c7 ?_;rintro x b3 w1 ⟨rfl,ρ1,t1,Z,s1,c8⟩;simp only[Ex.gh,Exit.then];have Q:=s1.sub _ _ a9;obtain⟨c1,q1,q2⟩:=Z.obj l G _ Q b0;have c9:c1.state= .ready:=by rw[q2.state];exact T
          have b4:G.blk<w1.heap.size:=(Array.getElem?_eq_some_iff.1 q1).1;refine⟨_,run_beginRound q1 c9,?_⟩;obtain⟨d0,sb⟩:=HR.turn (o':= .loop (v1+1) {r1 with state:= .busy}) (w':=w1.putObj G.blk (.loop {c1 with state:= .busy})) Z Q b0 rfl rfl (by simp) rfl rfl rfl (fun b hb=>World.putObj_heap_other hb) ⟨_,World.putObj_heap_same b4,q2.busy⟩;have d4:db ρ1 (h1.set l (.loop (v1+1) {r1 with state:= .busy})) h3:=(I.rest M s1).first c0;have a5:Ctx (Jm G.blk) ρ1 (h1.set l (.loop (v1+1) {r1 with state:= .busy})):=(V.step s1.sub M).step (Sub.refl _) J;have d5:=ok.code _ _ K.body _ _ _ _ _ O (Jm G.blk) 0 ρ1 _ b3 (Ai _) a5 t1 d0 d4 (c8.step sb);refine wpIn_mono d5 ?_;rintro x e2 w3 ⟨rfl,ρ3,t3,c2,s3,_⟩;have a0:=s3.sub _ _ Q;obtain⟨c3,p1,p2⟩:=c2.obj l G _ a0 b1;have b5:G.blk<w3.heap.size:=(Array.getElem?_eq_some_iff.1 p1).1;have fin:∀(jump:Option Code) (L:Option Ex),(L=Jn\/∃q,L=Jm q/\q≠ .normal)->jump=L.bind Ex.jump->jump.isNone=L.isNone->v= .bool jump.isNone->
            h'=h3.set l (.loop (v3+1) {r3 with state:=if jump.isNone then .ready else .done,pending:=L})->
            ∃u w',(Instr.endRound G.blk jump).run P w3= .ok u w'/\wR P ρ h w v h' (.returned u) w':=by
           intro jump L d6 d7 e4 hv hh;refine⟨_,_,run_endRound jump p1,.bool jump.isNone,ρ3,rfl,by rw[hv];exact .bool _,?_⟩;have b6:fy P ρ3 {r3 with state:=if jump.isNone then .ready else .done,pending:=L} {c3 with state:=if jump.isNone then .ready else .done,pending:=jump} :=
            ⟨rfl,d7,by rcases d6 with rfl | ⟨q,rfl,hq⟩;simp;simpa using hq,p2.tmps,p2.params,p2.asg,p2.body⟩
           obtain⟨d8,sf⟩:=HR.turn (o':= .loop (v3+1) {r3 with state:=if jump.isNone then .ready else .done,pending:=L}) (w':=w3.putObj G.blk (.loop {c3 with state:=if jump.isNone then .ready else .done,pending:=jump})) c2 a0 b1 rfl rfl (by simp) rfl rfl rfl (fun b hb=>World.putObj_heap_other hb) ⟨_,World.putObj_heap_same b5,b6⟩;rw[hh];refine⟨d8,?_⟩;have d9:Ev h3 (h3.set l (.loop (v3+1) {r3 with state:=if jump.isNone then .ready else .done,pending:=L})):=by rw[<-hh];exact c0
           have f1:∀y,h.next<=y->y<h3.next->ρ y=Jn:=fun y a b=>I y a (by omega);have e0:=s1.trans sb M J (fun y a b=>I y a (by have:=U.next;simp at b;have:=J.next;omega));have e1:=e0.trans s3 (M.trans J) U f1;exact e1.trans sf ((M.trans J).trans U) d9 (fun y a b=>I y a (by rw[a4];simpa using b))
          split at B
          ·rename_i hn;subst hn;cases B;obtain⟨u,w',g1,g2⟩:=fin Jn Jn (.inl rfl) rfl rfl rfl rfl;exact⟨u,w',g1,g2⟩
          ·rename_i hn;cases B
           cases ee with
           | normal=>exact absurd rfl hn
           | ret=>exact fin (Jm .ret) (Jm .ret) (.inr ⟨_,rfl,hn⟩) rfl rfl rfl rfl
           | exit id=>exact fin (Jm (.exit id)) (Jm (.exit id)) (.inr ⟨_,rfl,hn⟩) rfl rfl rfl rfl
         ·cases B
        ·cases B
       ·cases B
      ·cases B
     ·cases B
    ·cases B
   ·cases B
 ·cases hf with
  | func _ _ _ f' c' hp a6 a7 h1 h2=>simp[sN]at hp
 ·cases B
end
section
variable {P:Program} {ρ:Emb} {w:World} {a:List AV} {act:Act} {h h':H} {o:Oper} {ao:AO} {v:AV} {rd:List Nat} {rec:Rec} {m:Nat}
def FR(u:yL P o=Jm ao):∀c,o.op≠ .defer c:=by
 intro c e;rcases mZ _ u with h0 | ⟨_,h0⟩
 ·simp[aX,e]at h0
 ·rw[e]at h0;cases h0
def RY{y:Option Nat}{next:Act->World->Prop}{Q:Exit->Act->World->Prop}(u:yL P o=Jm ao)(B:o.uponIn (fR y) 0 P act next Q ((execOp act.eval o).run P w)):o.wpIn (fR y) 0 P act w next Q:=
 ⟨fun _ _=>trivial,by rw[Oper.semAt_eq _ _ _ (FR u)];exact B⟩
def UZ{f:AR}{args:List AR}(u:yL P o=Jm (.call f args)):(∃c E,o.op= .call c/\c.callee= .value E/\trR E=Jm f/\CK c.args.toList=Jm args)\/
  ∃c G n x I l,o.op= .call c/\c.callee= .invoke G n/\f= .const (.func (.methodOf 0 n) (lE P n l) [])/\trR G=Jm x/\CK c.args.toList=Jm I/\args=x::I:=by
 have u:aX P o=Jm (.call f args):=(mZ _ u).resolve_right fun q=>by cases q.1
 rcases IU u rfl with⟨t,p,x,y⟩ | ⟨t,m,k,x,y⟩ | ⟨c,y⟩ | ⟨s,d,x,y⟩
 rotate_right
 ·simp only[aX,y]at u;repeat' split at u
  all_goals cases u
 ·simp only[aX,y]at u;split at u<;>cases u
 ·rcases y with y | y;all_goals (simp only[aX,y]at u;repeat' split at u)
  all_goals cases u
 ·cases B:c.callee with
  | builtin b=>simp only[aX,y,B]at u;rcases qA u rfl with⟨_,_,_,_,_,e⟩ | ⟨_,_,_,_,_,e⟩ | ⟨_,_,_,_,e⟩ | ⟨_,_,_,e⟩<;>cases e
  | value E=>
   simp only[aX,y,B]at u;split at u
   ·rename_i h1 h2;cases u;exact .inl ⟨c,E,y,B,h1,h2⟩
   ·cases u
  | invoke r m=>
   simp only[aX,y,B]at u;split at u
   ·rename_i h1 h2;cases u;exact .inr ⟨c,r,m,_,_,_,y,B,rfl,h1,h2,rfl⟩
   ·cases u
def xH(y:fb P rec m)(u:fY rec ao a h=Jm (v,h',rd)):Ev h h':=by
 cases ao with
 | call f args=>
  simp only[fY]at u;split at u
  ·rename_i hv;cases u;exact L7 y hv
  ·cases u
 | _=>simp only[fY]at u;exact aHJ u
def JF(ok:fb P rec m)(I:yL P o=Jm ao)(y:fY rec ao a h=Jm (v,h',rd)){E:Option Nat}{next:Act->World->Prop}{Q:Exit->Act->World->Prop}(ht:Ops ρ a act ao.di)(hr:HR P ρ h w)(J:db ρ h h')
  (O:∀u G w',VR G v u->HR P G h' w'->Stp ρ h w G h' w'->next (act.put o.dst u) w'):o.wpIn (fR E) 0 P act w next Q:=by
 refine RY I ?_;by_cases T:∃f args,ao= .call f args
 ·obtain⟨f,args,rfl⟩:=T;simp only[AO.di]at ht;simp only[fY]at y;split at y
  ·rename_i hv;cases y;have hw:ru P ρ h w v h' ((execOp act.eval o).run P w):=by
    rcases UZ I with⟨c,fo,U,L,h1,h2⟩ | ⟨c,E,n,x,xs,l,U,L,rfl,h1,h2,rfl⟩
    ·have hf:=aV h1 ht.left;have V:=mY h2 ht.right;have hw:=aB7 ok hv hf V hr J;have e:(execOp act.eval o).run P w=(do let d <-Deferred.ofValue (act.eval fo) (c.args.toList.map act.eval).toArray;invoke d.target d.args:Sem Next).run P w:=by
      have Y:(c.args.map act.eval)=(c.args.toList.map act.eval).toArray:=by apply Ch;simp
      simp only[execOp,U,resolve,L,Y]
     rw[e];exact hw
    ·have M:=ht.right;simp only[Cd]at M;have hx:=aV h1 M.left;have V:=mY h2 M.right;have hw:=aB8 ok (us:=act.eval E::c.args.toList.map act.eval) hv (VRs.cons hx V) hr J;have e:(execOp act.eval o).run P w=(invoke (.fn (.method n) #[]) (act.eval E::c.args.toList.map act.eval).toArray:Sem Next).run P w:=by
      have Y: #[act.eval E]++c.args.map act.eval=(act.eval E::c.args.toList.map act.eval).toArray:=by apply Ch;simp
      simp only[execOp,U,resolve,L,Y,Sem.run_bind,Sem.run_pure,Result.andThen_ok]
     rw[e];exact hw
   generalize (Sem.run P (execOp act.eval o) w)=R at hw
   cases hw with
   | enter g as hcall=>rw[Oper.uponIn_enter];refine⟨fun hh=>by simp[fR,Fence.wide]at hh,CallsIn.mono (F:=fR E) (show CallsIn (fR E) 0 P g as w _ from hcall) ?_⟩;rintro e w' ⟨u,G,rfl,Z,q2,q3⟩;exact O u G w' Z q2 q3
   | round l f S a0 body K=>rw[Oper.uponIn_round];refine⟨fun hh=>by simp[fR,Fence.wide]at hh,RoundIn.mono (F:=fR E) (show RoundIn (fR E) 0 P l f S a0 body w _ from K) ?_⟩;rintro e w' ⟨u,G,rfl,Z,q2,q3⟩;exact O u G w' Z q2 q3
  ·cases y
 ·have B:aop a h ao=Jm (v,h',rd):=by cases ao<;>first | exact y | exact absurd ⟨_,_,rfl⟩ T
  cases he:ao.effect with
  | false=>
   obtain⟨u,⟨rfl,e,hv⟩ | ⟨ob,cb,l,rfl,hb,e,hv⟩⟩:=aF3 I he B ht fun x hx l ob hl hg=>hr.obj x l ob hl hg
   ·rw[e];exact O u ρ w hv hr (Stp.refl _ _ _)
   ·have hn:=J h.next (Ac _) (by simp);obtain⟨h1,h2⟩:=hv hn;obtain⟨g1,g2⟩:=HR.alloc hr hn hb h2;rw[e];exact O u _ _ h1 g1 g2
  | true=>
   obtain⟨u,w',G,e | ⟨e,rfl⟩,h1,h2,h3⟩:=aHz I he (fun f args e=>T ⟨f,args,e⟩) B ht hr J
   ·rw[e];exact O u G w' h1 h2 h3
   ·rw[e];exact O _ G w' h1 h2 h3
def TR.ops{u:List Nat}(ht:TR ρ a act.tmps):Ops ρ a act u:=fun t _=>ht.get t
def tJ{ops:Array Oper}{g:Option (Nat×Bool)}{b:Bool}(ht:∀t G,g=Jm (t,G)->VR ρ (dl a t) (act.tmps.getD t undef))(I:act.tmps.size=a.length)
  (hg:match o.guard with | none=>g=Jn | some (j,u)=>∃d,(ops[j]?).bind (·.dst)=Jm d/\g=Jm (d,u)):
  bR a g=Jm b->Region.wanted o (yielded ops act.tmps)=b:=by
 intro hw;unfold Region.wanted
 cases y:o.guard with
 | none=>rw[y]at hg;subst hg;simpa [bR]using hw
 | some p=>
  obtain⟨j,u⟩:=p;rw[y]at hg;obtain⟨d,hd,rfl⟩:=hg;have hv:=ht d u rfl;have hlt:d<act.tmps.size:=by
   rcases Nat.lt_or_ge d act.tmps.size with h0 | h0
   ·exact h0
   ·have J:dl a d= .aa:=by rw[jR,List.getElem?_eq_none (by omega)];rfl
    simp[bR,J]at hw
  have B:act.tmps[d]? =Jm (act.tmps.getD d undef):=by rw[Di hlt,Dq,Di hlt];rfl
  simp only[bR]at hw;simp only[yielded,hd,Ey,B];split at hw
  ·rename_i c E;rw[E]at hv;rw[hv.cg];cases hw;cases c<;>cases u<;>rfl
  ·rename_i K E;rw[E]at hv;obtain⟨L,e,_⟩:=hv.mv;rw[e];cases hw;rfl
  ·cases hw
def tQ{ops:Array Oper}{x:aw}(u:tS P ops o=Jm x):yL P o=Jm x.op/\x.dst=o.dst/\x.chk=[]/\
  (match o.guard with | none=>x.guard=Jn | some (j,y)=>∃d,(ops[j]?).bind (·.dst)=Jm d/\x.guard=Jm (d,y)):=by
 unfold tS at u;split at u
 ·rename_i ao B;split at u
  ·rename_i hg;cases u;exact⟨B,rfl,rfl,by rw[hg]⟩
  ·rename_i j y hg;split at u
   ·rename_i d hd;cases u;exact⟨B,rfl,rfl,by rw[hg];exact⟨d,hd,rfl⟩⟩
   ·cases u
 ·cases u
def AK(a:List AV)(d:Option Nat)(v:AV):(put a d v).length=a.length:=by cases d<;>simp[put,wC]
def GH(y:fb P rec m):∀{E:List aw} {a B:List AV} {h h':H},hO rec E a h=Jm (B,h')->Ev h h'
 | [],a,B,h,h',u=>by cases u;exact Ev.refl h
 | x::E,a,B,h,h',u=>by
  simp only[hO]at u;split at u
  ·split at u
   ·rename_i hs;exact(xH y hs).trans (GH y u)
   ·cases u
  ·exact GH y u
  ·cases u
def F6(O:fb P rec m){ops:Array Oper}{ro:Option Nat}{Q:Exit->Act->World->Prop} :∀{T:List aw} {os:List Oper} {k:Nat} {a U:List AV} {h h':H} {B:Nat} {ρ:Emb} {w:World} {act:Act},
  (∀j,os[j]? =ops[k+j]?)->eF (tS P ops) os=Jm T->hO rec T a h=Jm (U,h')->TR ρ a act.tmps->HR P ρ h w->db ρ h h'->MK B ρ w act.defers->
  (∀M w' E,TR M U E.tmps->HR P M h' w'->Stp ρ h w M h' w'->MK B M w' E.defers->Q .normal E w')->
  wpOpsIn (fR ro) 0 P ops Q (List.range' k os.length) act w
 | T,[],k,a,U,h,h',B,ρ,w,act,L,G,y,ht,hr,I,J,V=>by cases G;cases y;exact V ρ w act ht hr (Stp.refl _ _ _) J
 | T,o::os,k,a,U,h,h',B,ρ,w,act,L,G,y,ht,hr,I,J,V=>by
  have h0:ops[k]? =Jm o:=by simpa using (L 0).symm
  unfold eF at G;split at G
  ·rename_i x a0 hx R;cases G;obtain⟨q1,q2,q3,q4⟩:=tQ hx;have K:∀j,os[j]? =ops[k+1+j]? :=fun j=>by have:=L (j+1);rw[show k+1+j=k+(j+1)from by omega,<-this];simp
   have S:act.tmps.size=a.length:=by have:=ht.1;simpa using this
   simp only[As,List.range'_succ,wpOpsIn,h0];simp only[hO]at y;split at y
   ·rename_i hw;split at y
    ·rename_i v h1 rd hs;have e1:=xH O hs;have e2:=GH O y;rw[tJ (fun t bb _=>ht.get t) S q4 hw];simp only[if_true];refine JF O q1 hs ht.ops hr (I.first e2) ?_;intro u ρ1 w1 hv Z Y;rw[<-q2];exact F6 O K R y ((ht.mono Y.sub).put x.dst hv) Z (I.rest e1 Y) (by cases x.dst<;>exact J.step Y)
      (fun M w' E t' r' s' m'=>V M w' E t' r' (Y.trans s' e1 e2 I) m')
    ·cases y
   ·rename_i hw;rw[tJ (fun t bb _=>ht.get t) S q4 hw];simp only[Bf,if_false];refine⟨fun _ _=>trivial,?_⟩;rw[<-q2];exact F6 O K R y (ht.put x.dst VR.undef) hr I (by cases x.dst<;>exact J) V
   ·cases y
  ·cases G
end
structure Trace (rec:Rec) (xs:List aw) (a:List AV) (h:H) (a':List AV) (h':H) (A:Nat->List AV) (Hh:Nat->H) (V:Nat->AV) (RD:Nat->List Nat) (W:Nat->Bool):Prop where
 a0:A 0=a
 h0:Hh 0=h
 an:A xs.length=a'
 hn:Hh xs.length=h'
 put:∀i x,xs[i]? =Jm x->A (i+1)=put (A i) x.dst (V i)
 want:∀i x,xs[i]? =Jm x->bR (A i) x.guard=Jm (W i)
 run:∀i x,xs[i]? =Jm x->W i=Jo->fY rec x.op (A i) (Hh i)=Jm (V i,Hh (i+1),RD i)
 skip:∀i x,xs[i]? =Jm x->W i=Jp->V i= .tuple []/\Hh (i+1)=Hh i
 chk:∀i j x,xs[i]? =Jm x->j<i->j∈x.chk->W i=Jo->W j=Jo->
  (if x.op.effect then(rdx (Hh j) (Hh (j+1)) (RD j)).all (f5 (Hh i) (Hh (i+1)))else(rdx (Hh i) (Hh (i+1)) (RD i)).all (f5 (Hh j) (Hh (j+1))))=Jo
def S4(x:aw)(rd:List Nat)(hb y:H)(u:List jz):Prop:=
 ∀e∈u,e.idx∈x.chk->(if x.op.effect then e.rd.all (f5 hb y)else rd.all (f5 e.hb e.ha))=Jo
def QA{x:aw}{rd:List Nat}{hb y:H}{u:List jz}(h:qJ x.op.effect rd hb y u x.chk=Jo):S4 x rd hb y u:=by intro e he B;unfold qJ at h;rw[Cf]at h;have:=h e he;rw[if_pos (by simpa using B)]at this;exact this
def cR{α:Type}(x:α)(f:Nat->α):Nat->α
 | 0=>x
 | n+1=>f n
section
variable {rec:Rec}
def ND:∀{I:List aw} {k:Nat} {a Q:List AV} {h R:H} {K:List jz},(∀x∈I,True)->eH rec I k a h K=Jm (Q,R)->
  ∃A M V RD W,Trace rec (I.map fun x=>{x with chk:=x.chk.filterMap fun j=>if k<=j then Jm (j-k)else Jn}) a h Q R A M V RD W/\
   (∀i x,I[i]? =Jm x->W i=Jo->S4 x (rdx (M i) (M (i+1)) (RD i)) (M i) (M (i+1)) K)
 | [],k,a,Q,h,R,K,_,E=>by cases E;exact⟨fun _=>a,fun _=>h,fun _=> .aa,fun _=>[],fun _=>Jp,⟨rfl,rfl,rfl,rfl,by simp,by simp,by simp,by simp,by simp⟩,by simp⟩
 | x::I,k,a,Q,h,R,K,_,E=>by
  simp only[eH]at E;split at E
  ·rename_i hw;split at E
   ·rename_i v h1 rd hs;split at E
    ·rename_i hc;obtain⟨A,M,V,RD,W,T,L⟩:=ND (fun _ _=>trivial) E;have hg:=QA hc;refine⟨cR a A,cR h M,cR v V,cR rd RD,cR Jo W,⟨rfl,rfl,by simpa [cR]using T.an,by simpa [cR]using T.hn,?_,?_,?_,?_,?_⟩,?_⟩
     ·intro i y u
      cases i with
      | zero=>simp at u;subst u;exact T.a0
      | succ i=>
       have:=T.put i;simp only[Ak,Cl,Av]at u this
       cases hz:I[i]? with
       | none=>simp[hz]at u
       | some z=>simp[hz]at u this;subst u;exact this
     ·intro i y u
      cases i with
      | zero=>simp at u;subst u;exact hw
      | succ i=>
       have:=T.want i;simp only[Ak,Cl,Av]at u this
       cases hz:I[i]? with
       | none=>simp[hz]at u
       | some z=>simp[hz]at u this;subst u;exact this
     ·intro i y u B
      cases i with
      | zero=>simp at u;subst u;simp only[cR];rw[T.h0];exact hs
      | succ i=>
       have:=T.run i;simp only[Ak,Cl,Av]at u this
       cases hz:I[i]? with
       | none=>simp[hz]at u
       | some z=>simp[hz]at u this;subst u;exact this B
     ·intro i y u B
      cases i with
      | zero=>simp[cR]at B
      | succ i=>
       have:=T.skip i;simp only[Ak,Cl,Av]at u this
       cases hz:I[i]? with
       | none=>simp[hz]at u
       | some z=>simp[hz]at u this;subst u;exact this B
     ·intro i j y u U G B O
      cases i with
      | zero=>omega
      | succ i=>
       simp only[Ak,Cl,Av]at u
       cases hz:I[i]? with
       | none=>simp[hz]at u
       | some z=>
        simp[hz]at u;subst u;simp only[Gu]at G;obtain⟨q,S,J⟩:=G;split at J
        ·rename_i Y;simp at J
         cases j with
         | zero=>
          have Z:q=k:=by omega
          subst Z;have:=L i z hz B ⟨q,rdx h h1 rd,h,h1⟩ (by simp) S;simp only[cR]at this ⊢;rw[T.h0];exact this
         | succ j=>
          have a1:=T.chk i j {z with chk:=z.chk.filterMap fun j=>if k+1<=j then Jm (j-(k+1))else Jn} (by simp[hz]) (by omega)
           (by simp only[Gu];exact⟨q,S,by rw[if_pos (by omega)];simp;omega⟩) B O
          exact a1
        ·cases J
     ·intro i y u B
      cases i with
      | zero=>simp at u;subst u;simp only[cR];rw[T.h0];exact hg
      | succ i=>intro e he hm;exact L i y (by simpa using u) B e (List.mem_cons_of_mem _ he) hm
    ·cases E
   ·cases E
  ·rename_i hw;obtain⟨A,M,V,RD,W,T,L⟩:=ND (fun _ _=>trivial) E;refine⟨cR a A,cR h M,cR (.tuple []) V,cR [] RD,cR Jp W,⟨rfl,rfl,by simpa [cR]using T.an,by simpa [cR]using T.hn,?_,?_,?_,?_,?_⟩,?_⟩
   ·intro i y u
    cases i with
    | zero=>simp at u;subst u;exact T.a0
    | succ i=>
     have:=T.put i;simp only[Ak,Cl,Av]at u this
     cases hz:I[i]? with
     | none=>simp[hz]at u
     | some z=>simp[hz]at u this;subst u;exact this
   ·intro i y u
    cases i with
    | zero=>simp at u;subst u;exact hw
    | succ i=>
     have:=T.want i;simp only[Ak,Cl,Av]at u this
     cases hz:I[i]? with
     | none=>simp[hz]at u
     | some z=>simp[hz]at u this;subst u;exact this
   ·intro i y u B
    cases i with
    | zero=>simp[cR]at B
    | succ i=>
     have:=T.run i;simp only[Ak,Cl,Av]at u this
     cases hz:I[i]? with
     | none=>simp[hz]at u
     | some z=>simp[hz]at u this;subst u;exact this B
   ·intro i y u B
    cases i with
    | zero=>exact⟨rfl,T.h0⟩
    | succ i=>
     have:=T.skip i;simp only[Ak,Cl,Av]at u this
     cases hz:I[i]? with
     | none=>simp[hz]at u
     | some z=>simp[hz]at u this;subst u;exact this B
   ·intro i j y u U G B O
    cases i with
    | zero=>omega
    | succ i=>
     simp only[Ak,Cl,Av]at u
     cases hz:I[i]? with
     | none=>simp[hz]at u
     | some z=>
      simp[hz]at u;subst u;simp only[Gu]at G;obtain⟨q,S,J⟩:=G;split at J
      ·rename_i Y;simp at J
       cases j with
       | zero=>simp[cR]at O
       | succ j=>
        exact T.chk i j {z with chk:=z.chk.filterMap fun j=>if k+1<=j then Jm (j-(k+1))else Jn} (by simp[hz]) (by omega)
         (by simp only[Gu];exact⟨q,S,by rw[if_pos (by omega)];simp;omega⟩) B O
      ·cases J
   ·intro i y u B
    cases i with
    | zero=>simp[cR]at B
    | succ i=>exact L i y (by simpa using u) B
  ·cases E
def rG:∀{E:List aw} {k:Nat} {a G:List AV} {h I:H} {B:List jz},(∀x∈E,x.chk=[])->hO rec E a h=Jm (G,I)->eH rec E k a h B=Jm (G,I)
 | [],k,a,G,h,I,B,_,u=>u
 | x::E,k,a,G,h,I,B,J,u=>by
  simp only[hO]at u;simp only[eH];split at u
  ·rename_i hw;split at u
   ·rename_i v h1 rd hs;have K:∀(e:Bool) (rd:List Nat) (hb M:H),qJ e rd hb M B x.chk=Jo:=fun e rd hb M=>by rw[J x (by simp)];simp[qJ]
    rw[if_pos (K _ _ _ _)];exact rG (fun y L=>J y (by simp[L])) u
   ·cases u
  ·rename_i hw;exact rG (fun y L=>J y (by simp[L])) u
  ·cases u
end
inductive oo (ops:Array Oper):(Nat->Bool)->List Nat->Prop
 | nil (D:Nat->Bool) (h:∀i,i<ops.size->D i=Jo):oo ops D []
 | cons (D:Nat->Bool) (i:Nat) (o:Oper) (l:List Nat) (ho:ops[i]? =Jm o) (hd:D i=Jp) (he:∀j∈bA o,D j=Jo) (h:oo ops (fun j=>j==i||D j) l):oo ops D (i::l)
def PY{l:List Nat}(hnd:l.Nodup){p:Nat->Bool}{i:Nat}(B:i∈l)(E:p i=Jo):l.countP (fun j=>p j&& !(j==i))+1=l.countP p:=by
 induction l with
 | nil=>cases B
 | cons x l G=>
  simp only[List.nodup_cons]at hnd;by_cases e:x=i
  ·subst e;have:l.countP (fun j=>p j&& !(j==x))=l.countP p:=by apply List.countP_congr;intro y I;have:y≠x:=fun e=>hnd.1 (e▸I);simp[this]
   simp[List.countP_cons,E,this]
  ·have u:i∈l:=by rcases List.mem_cons.1 B with h | h;exact absurd h.symm e;exact h
   have:=G hnd.2 u;simp only[List.countP_cons];have J:(p x&& !(x==i))=p x:=by simp[e]
   rw[J];omega
def ZM(ops:Array Oper)(M:∀i o,ops[i]? =Jm o->∀j∈bA o,j<i):∀(u t:Nat) (listed:Array Bool) (B:List Nat),listed.size=ops.size->
  (Aw ops.size).countP (fun i=> !(listed.getD i Jo))=u->
  ∃l,Region.linearise.go .any ops u t listed B=B.reverse++l/\oo ops (fun i=>listed.getD i Jo) l:=by
 intro u
 induction u with
 | zero=>intro t listed B hs hc;refine⟨[],by simp[Region.linearise.go],.nil _ fun i O=>?_⟩;rw[List.countP_eq_zero]at hc;have:=hc i (List.mem_range.2 O);simpa using this
 | succ u ih=>
  intro t listed B hs hc;have a0:∃i,i<ops.size/\listed.getD i Jo=Jp/\∀j,j<i->listed.getD j Jo=Jo:=by
   have I:0<(Aw ops.size).countP (fun i=> !(listed.getD i Jo)):=by omega
   rw[List.countP_pos_iff]at I;obtain⟨i0,a1,a2⟩:=I;have J:listed.getD i0 Jo=Jp:=by simpa using a2
   have:∃i,listed.getD i Jo=Jp:=⟨i0,J⟩;have a3:∀n,∀i,i<n->i<ops.size->listed.getD i Jo=Jp->∃i,i<ops.size/\listed.getD i Jo=Jp/\∀j,j<i->listed.getD j Jo=Jo:=by
    intro n
    induction n with
    | zero=>intro i O;omega
    | succ n a4=>
     intro i O a5 hf;by_cases K:∀j,j<i->listed.getD j Jo=Jo
     ·exact⟨i,a5,hf,K⟩
     ·have:∃j,j<i/\listed.getD j Jo=Jp:=by
       by_cases h9:∃j,j<i/\listed.getD j Jo=Jp
       ·exact h9
       ·exfalso;apply K;intro j R
        cases hv:listed.getD j Jo with
        | true=>rfl
        | false=>exact absurd ⟨j,R,hv⟩ h9
      obtain⟨j,R,a6⟩:=this;exact a4 j (by omega) (by omega) a6
   exact a3 (i0+1) i0 (by omega) (List.mem_range.1 a1) J
  obtain⟨i,O,a7,S⟩:=a0
  let E:=(Aw ops.size).filter fun i=> !listed.getD i Jo&&((ops[i]?).map (·.after.all fun e=> !Region.binds .any e||listed.getD e.on Jp)).getD Jp
  have a9:∀k∈E,∃o,ops[k]? =Jm o/\k<ops.size/\listed.getD k Jo=Jp/\∀j∈bA o,listed.getD j Jo=Jo:=by
   intro k T;simp only[E,Eh,Fc,Au]at T;obtain⟨Q,b0,G⟩:=T;refine⟨ops[k],Di Q,Q,by simpa using b0,fun j R=>?_⟩;rw[Di Q]at G;simp only[Cr,Cx]at G;rw[<-Array.all_toList,Cf]at G;simp only[bA,Fe,Eh]at R;obtain⟨e,⟨b1,b2⟩,rfl⟩:=R;have h3:=G e b1;rw[b2]at h3;simp only[Ie,Gv]at h3;by_cases hlt:e.on<listed.size
   ·simp only[Dq,Di hlt,Cx]at h3 ⊢;exact h3
   ·simp only[Dq,Array.getElem?_eq_none (Nat.le_of_not_lt hlt),Gt]at h3 ⊢
  have U:i∈E:=by
   simp only[E,Eh,Fc,Au];refine⟨O,by simp[a7],?_⟩;rw[Di O];simp only[Cr,Cx];rw[<-Array.all_toList,Cf];intro e he
   cases hb:Region.binds .any e with
   | false=>rfl
   | true=>
    simp only[Ie,Gv];have hlt:=M i ops[i] (Di O) e.on (by simp only[bA,Fe,Eh];exact⟨e,⟨he,hb⟩,rfl⟩);have h1:=S e.on hlt;have h2:e.on<listed.size:=by omega
    simp only[Dq,Di h2,Cx]at h1 ⊢;exact h1
  have hlen:0<E.length:=List.length_pos_of_mem U;have V:∃k,E[t % E.length]? =Jm k:=⟨E[t % E.length]'(Dx _ hlen),Ad _⟩;obtain⟨k,T⟩:=V;obtain⟨o,ho,b3,Y,b4⟩:=a9 k (Af T);have L:∀j,(listed.setIfInBounds k Jo).getD j Jo=(j==k||listed.getD j Jo):=by
   intro j;simp only[Dq,Array.getElem?_setIfInBounds];by_cases e:k=j
   ·subst e;rw[if_pos rfl];simp;split<;>rfl
   ·rw[if_neg e];simp[Ne.symm e]
  have Z:(Aw ops.size).countP (fun i=> !((listed.setIfInBounds k Jo).getD i Jo))=u:=by
   have h1:=PY (l:=Aw ops.size) List.nodup_range (p:=fun i=> !(listed.getD i Jo)) (i:=k) (List.mem_range.2 b3) (by simp[Y]);have h2:(Aw ops.size).countP (fun i=> !((listed.setIfInBounds k Jo).getD i Jo))=(Aw ops.size).countP (fun j=> !(listed.getD j Jo)&& !(j==k)):=by
    apply List.countP_congr;intro y _;show(!((listed.setIfInBounds k Jo).getD y Jo))=Jo↔(!(listed.getD y Jo)&& !(y==k))=Jo;rw[L y];generalize (y==k)=p;generalize listed.getD y Jo=q;cases p<;>cases q<;>simp
   omega
  obtain⟨l,b5,b6⟩:=ih (t / E.length) (listed.setIfInBounds k Jo) (k::B) (by simpa using hs) Z;refine⟨k::l,?_,?_⟩
  ·have b7:Region.linearise.go .any ops (u+1) t listed B=(match E[t % E.length]? with
    | some i=>Region.linearise.go .any ops u (t / E.length) (listed.setIfInBounds i Jo) (i::B)
    | none=>B.reverse):=rfl
   rw[b7,T];simp only[b5,List.reverse_cons,Ab,Al,Aq]
  ·refine .cons _ k o l ho Y b4 ?_;have:(fun i=>(listed.setIfInBounds k Jo).getD i Jo)=(fun j=>j==k||listed.getD j Jo):=funext L;rw[<-this];exact b6
def ZL(ops:Array Oper)(y:∀i o,ops[i]? =Jm o->∀j∈bA o,j<i)(u:Bool)(B:(u|| !Region.departs ops)=Jo)(t:Nat):
  ∃D,(∀i,i<ops.size->D i=Jp)/\oo ops D (Region.schedule u ops t):=by
 have h0:∀i,i<ops.size->(Fq ops.size Jp).getD i Jo=Jp:=fun i E=>by simp[Dq,E]
 obtain⟨l,h1,h2⟩:=ZM ops y ops.size t (Fq ops.size Jp) [] (by simp) (by
  rw[List.countP_eq_length.2]
  ·simp
  ·intro i E;rw[h0 i (List.mem_range.1 E)];rfl)
 refine⟨_,h0,?_⟩;have:Region.schedule u ops t=l:=by unfold Region.schedule;rw[if_pos B];unfold Region.linearise;simpa using h1
 rw[this];exact h2
end Go.Am

