/- The operations that change no object that was there: each runs as the abstract machine says, and what goes with it. -/
import Derived.Test.YtapbgleednkimaaGreatDoorAmRel
import Derived.Great.BuildSlice
import Derived.DeepKeys
set_option linter.unusedVariables false
set_option linter.unusedSimpArgs false
namespace Go.Am
section
variable {P:Program} {ρ:Emb} {w:World} {a:List AV} {act:Act} {h:H}
def NE(P:Program)(ρ:Emb)(h:H)(w:World)(r:Result Next)(v:AV)(h':H):Prop:=
 ∃u,(h'=h/\r= .ok (.value u) w/\VR ρ v u)\/
  (∃ao ob l,h'=h.alloc ao/\l.blk=w.heap.size/\r= .ok (.value u) (w.alloc ob)/\(ρ h.next=none->VR (upd ρ h.next l) v u/\OR P (upd ρ h.next l) (w.alloc ob) l ao))
theorem NE.val{r:Result Next}{v:AV}{u:Value}(hr:r= .ok (.value u) w)(hv:VR ρ v u):NE P ρ h w r v h:=⟨u,.inl ⟨rfl,hr,hv⟩⟩
theorem NE.new{r:Result Next}{v:AV}{u:Value}{ao:AObj}{ob:Obj}{l:Loc}(hb:l.blk=w.heap.size)(hr:r= .ok (.value u) (w.alloc ob))
  (hv:ρ h.next=none->VR (upd ρ h.next l) v u/\OR P (upd ρ h.next l) (w.alloc ob) l ao):NE P ρ h w r v (h.alloc ao):=⟨u,.inr ⟨ao,ob,l,rfl,hb,hr,hv⟩⟩
theorem iZ{t:TypeId}{i:TypeInfo}(hi:P.info? t=some i)(w:World):(typeInfo t).run P w= .ok i w:=by simp[typeInfo,hi]
theorem cL{t:TypeId}{n:Nat}(hs:dY P t=some n)(w:World):(sizeOf t).run P w= .ok n w:=by
 unfold dY at hs
 cases hi:P.info? t with
 | none=>simp[hi]at hs
 | some i=>simp[hi]at hs;subst hs;simp[sizeOf,iZ hi]
theorem gX{t:TypeId}{b:Bool}(hs:mK P t=some b)(w:World):(isAgg t).run P w= .ok b w:=by
 unfold mK at hs
 cases hu:P.underlying t with
 | none=>simp[hu]at hs
 | some d=>cases d<;>simp[hu]at hs<;>subst hs<;>simp[isAgg,run_underlying hu]
theorem fZ{t:TypeId}{z:List AV}(hs:m9 P t=some z):∃u i,P.info? t=some i/\i.zero=some u/\(∀w,(zeroValue t).run P w= .ok u w)/\dS fJ u.cells.toList=some z:=by
 unfold m9 at hs
 cases hi:P.info? t with
 | none=>simp[hi]at hs
 | some i=>
  cases hz:i.zero with
  | none=>simp[hi,hz]at hs
  | some u=>exact⟨u,i,rfl,hz,fun w=>by simp[zeroValue,iZ hi,hz],by simpa [hi,hz]using hs⟩
theorem OR.cell{l:Loc}{o:AObj}{b i:Nat}{v:AV}(ho:OR P ρ w l o)(hg:h.get b=some o)(hc:fQ h b i=some v):
  ∃u,w.cell? ⟨l.blk,l.base+i,none⟩=some u/\VR ρ v u:=by
 unfold fQ at hc;rw[hg]at hc;cases o<;>simp at hc;rename_i ver rw cs;obtain⟨cc,fz,e,h1,h2,h4,h5,h6⟩:=ho;obtain⟨u,hu,hv⟩:=h6 i v hc;exact⟨u,by simp[World.cell?,h1,hu],hv⟩
theorem uS{b i:Nat}{v:AV}(hc:fQ h b i=some v):∃o,h.get b=some o/\o.islive=true:=by
 unfold fQ at hc
 cases hg:h.get b with
 | none=>simp[hg]at hc
 | some o=>exact⟨o,rfl,by cases o<;>simp[hg]at hc;rfl⟩
theorem cJ{b i n:Nat}{cs:List AV}(hc:aZ h b i n=some cs):∃ver rw all,h.get b=some (.cells ver rw all)/\i+n<=all.length/\cs=(all.drop i).take n:=by
 unfold aZ at hc
 cases hg:h.get b with
 | none=>simp[hg]at hc
 | some o=>cases o<;>simp[hg]at hc;exact⟨_,_,_,rfl,hc.1,hc.2.symm⟩
theorem OR.cells{l:Loc}{ver:Nat}{rw:Bool}{all cs:List AV}{i n:Nat}(ho:OR P ρ w l (.cells ver rw all))(hn:i+n<=all.length)(hcs:cs=(all.drop i).take n):
  ∃us,VRs ρ cs us/\us.length=n/\∀j u,us[j]? =some u->w.cell? ⟨l.blk,l.base+i+j,none⟩=some u:=by
 obtain⟨cc,fz,e,h1,h2,h4,h5,h6⟩:=ho;subst hcs;have hlen:((all.drop i).take n).length=n:=by simp;omega
 refine⟨(cc.toList.drop (l.base+i)).take n,⟨?_,fun j v u hv hu=>?_⟩,?_,fun j u hu=>?_⟩
 ·rw[hlen];simp;omega
 ·have hj:j<n:=by have:=(List.getElem?_eq_some_iff.1 hv).1;omega
  rw[List.getElem?_take,if_pos hj,List.getElem?_drop]at hv hu;obtain⟨u',hu',hv'⟩:=h6 (i+j) v hv;rw[Array.getElem?_toList,Nat.add_assoc,hu']at hu;cases hu;exact hv'
 ·simp;omega
 ·have hj:j<n:=by have h9:=(List.getElem?_eq_some_iff.1 hu).1;have:((cc.toList.drop (l.base+i)).take n).length<=n:=List.length_take_le _ _;omega
  rw[List.getElem?_take,if_pos hj,List.getElem?_drop,Array.getElem?_toList]at hu;simp[World.cell?,h1,hu]
theorem Addr.add_mk(b o i:Nat):(⟨b,o,none⟩:Addr).add i=⟨b,o+i,none⟩:=by unfold Addr.add;split<;>simp_all
theorem OR.newRow{l:Loc}{ver:Nat}{rw:Bool}{cs:List AV}{cc:Array Value}{e:TypeId}(hb:l.blk=w.heap.size)(hbase:l.base=0)(hlim:l.lim=cc.size)
  (hlen:cs.length<=cc.size) (hv:∀(i:Nat) (v:AV),cs[i]? =some v->∃u,cc[i]? =some u/\VR ρ v u):OR P ρ (w.alloc (.cells cc e)) l (.cells ver rw cs):=
 ⟨cc,(0,0),e,by rw[hb];exact heap_alloc_new w _,hlim.symm,by omega,fun _=>rfl,fun i v h=>by rw[hbase,Nat.zero_add];exact hv i v h⟩
theorem uP:∀(cs:List AV) (off:Nat) (new:List AV),off+new.length<=cs.length->(over cs off new).length=cs.length
 | cs,0,new,h=>by simp[over]at h ⊢;omega
 | [],off+1,new,h=>by simp at h
 | c::cs,off+1,new,h=>by simp only[over,List.length_cons];rw[uP cs off new (by simp at h;omega)]
theorem D2:∀(cs:List AV) (off:Nat) (new:List AV),off+new.length<=cs.length->over cs off new=cs.take off++new++cs.drop (off+new.length)
 | cs,0,new,h=>by simp[over]
 | [],off+1,new,h=>by simp at h
 | c::cs,off+1,new,h=>by simp only[over];rw[D2 cs off new (by simp at h;omega)];simp[Nat.add_right_comm]
theorem nY(off:Nat):∀(new:List Value) (k:Nat) (cs:Array Value),off+k+new.length<=cs.size->
  ((new.zipIdx k).foldl (fun cs (x:Value×Nat)=>cs.setIfInBounds (off+x.2) x.1) cs)=(cs.toList.take (off+k)++new++cs.toList.drop (off+k+new.length)).toArray
 | [],k,cs,h=>by simp
 | c::new,k,cs,h=>by
  simp only[List.zipIdx_cons,List.foldl_cons];rw[nY off new (k+1) _ (by simp at h ⊢;omega)];simp only[Array.toList_setIfInBounds];congr 1;simp only[List.length_cons]at h;have hs:off+k<cs.toList.length:=by simp;omega
  have e1:(cs.toList.set (off+k) c).take (off+(k+1))=cs.toList.take (off+k)++[c]:=by rw[show off+(k+1)=off+k+1 from rfl,List.take_add_one,List.take_set_of_le (by omega),List.getElem?_set_self hs];rfl
  have e2:(cs.toList.set (off+k) c).drop (off+(k+1)+new.length)=cs.toList.drop (off+k+(new.length+1)):=by rw[List.drop_set_of_lt (by omega)];congr 1;omega
  rw[e1,e2];simp
theorem vZ(place:Nat->Option (Nat×Nat)):∀{ps:List (Nat×Operand)} {qs:List (Nat×Nat×AR)},oE place ps=some qs->
  (∀t∈qs.flatMap (fun p=>opR p.2.2),VR ρ (tget a t) (act.tmps.getD t undef))->∀{cs cs':List AV} {us:Array Value},VRs ρ cs us.toList->pH a cs qs=some cs'->
  ∃us':Array Value,Instr.fill place us (ps.map fun p=>(p.1,act.eval p.2))=some us'/\VRs ρ cs' us'.toList
 | [],qs,hp,ht,cs,cs',us,hv,hf=>by cases hp;cases hf;exact⟨us,rfl,hv⟩
 | (i,x)::ps,qs,hp,ht,cs,cs',us,hv,hf=>by
  unfold oE at hp;split at hp
  ·rename_i off size y ys hpl hx hys;cases hp;simp only[List.flatMap_cons,List.mem_append]at ht;have hxv:=aN hx (fun t h=>ht t (.inl h));unfold pH at hf;split at hf
   ·rename_i hcond;simp only[Bool.and_eq_true,decide_eq_true_eq]at hcond;obtain⟨⟨h1,h2⟩,h3⟩:=hcond;obtain⟨hc,_⟩:=hxv.cells h3;have hlen:(act.eval x).cells.size=size:=by have:=hc.1;simp at this;omega
    have hsz:us.size=cs.length:=by have:=hv.1;simpa using this
    have hnew:VRs ρ (over cs off (ev a y).cells) ((act.eval x).cells.zipIdx.foldl (fun cs (c,j)=>cs.setIfInBounds (off+j) c) us).toList:=by rw[<-Array.foldl_toList,Array.toList_zipIdx];rw[nY off (act.eval x).cells.toList 0 us (by simp;omega)];rw[D2 cs off _ (by omega)];simp only[Nat.add_zero];rw[h1,show(act.eval x).cells.toList.length=size from by simpa using hlen];exact((hv.take off).append hc).append (hv.drop (off+size))
    obtain⟨us',hu,hr⟩:=vZ place hys (fun t h=>ht t (.inr h)) hnew hf;refine⟨us',?_,hr⟩;rw[List.map_cons];unfold Instr.fill;simp only[hpl];rw[if_neg (by simp[hlen,hsz];omega)];exact hu
   ·cases hf
  ·cases hp
theorem mO{n:Nat}{z:List AV}{us:List Value}(hz:VRs ρ z us)(hp:0<z.length):VRs ρ (fE n z) ((Array.range (n*us.length)).map (us.toArray[· % us.toArray.size]!)).toList:=by
 have hl:us.length=z.length:=hz.1;have hlr:∀n:Nat,(fE n z).length=n*z.length:=by
  intro n
  induction n with
  | zero=>simp[fE]
  | succ n ih=>simp[fE,ih,Nat.add_mul,Nat.add_comm]
 have hgr:∀(n i:Nat),i<n*z.length->(fE n z)[i]? =z[i % z.length]? :=by
  intro n
  induction n with
  | zero=>intro i hi;simp at hi
  | succ n ih=>
   intro i hi;simp only[fE];rw[List.getElem?_append];by_cases h1:i<z.length
   ·rw[if_pos h1,Nat.mod_eq_of_lt h1]
   ·rw[if_neg h1,ih (i-z.length) (by rw[Nat.add_mul]at hi;omega)];congr 1
    conv=>rhs;rw[show i=(i-z.length)+z.length from by omega,Nat.add_mod_right]
 refine⟨by simp[hlr,hl],fun i v u h1 h2=>?_⟩;have hi:i<n*z.length:=by have:=(List.getElem?_eq_some_iff.1 h1).1;rw[hlr]at this;exact this
 rw[hgr n i hi]at h1;have hm:i % z.length<us.length:=by rw[hl];exact Nat.mod_lt _ hp
 simp only[Array.toList_map,List.getElem?_map,Array.toList_range,List.getElem?_range (show i<n*us.length from by rw[hl];exact hi),Option.map_some]at h2;cases h2;have:us.toArray[i % us.toArray.size]! =us[i % z.length]:=by
  simp only[List.size_toArray,hl];rw[List.getElem!_toArray,getElem!_pos us (i % z.length) hm]
 rw[this];exact hz.2 _ _ _ h1 (List.getElem?_eq_getElem hm)
end
section
variable {P:Program} {ρ:Emb} {w:World} {a:List AV} {act:Act} {h h':H} {o:Oper} {ao:AO} {v:AV} {rd:List Nat}
def Ops(ρ:Emb)(a:List AV)(act:Act)(ts:List Nat):Prop:=∀t∈ts,VR ρ (tget a t) (act.tmps.getD t undef)
def KA(P:Program)(ρ:Emb)(h:H)(w:World)(rd:List Nat):Prop:=∀x∈rd,∀l ob,ρ x=some l->h.get x=some ob->OR P ρ w l ob
theorem Ops.left{xs ys:List Nat}(h:Ops ρ a act (xs++ys)):Ops ρ a act xs:=fun t ht=>h t (List.mem_append.2 (.inl ht))
theorem Ops.right{xs ys:List Nat}(h:Ops ρ a act (xs++ys)):Ops ρ a act ys:=fun t ht=>h t (List.mem_append.2 (.inr ht))
theorem VR.int_inv{k:IntKind}{n:Int}{u:Value}(h:VR ρ (.int k n) u):u= .int k n:=by cases h;rfl
theorem VR.bool_inv{b:Bool}{u:Value}(h:VR ρ (.bool b) u):u= .bool b:=by cases h;rfl
theorem VR.str_inv{s:ByteArray}{u:Value}(h:VR ρ (.str s) u):u= .string s:=by cases h;rfl
theorem VR.ptr_inv{b i:Nat}{u:Value}(h:VR ρ (.ptr b i) u):∃l,ρ b=some l/\u= .pointer (some ⟨l.blk,l.base+i,none⟩):=by cases h with | ptr _ _ l h=>exact⟨l,h,rfl⟩
theorem VR.map_inv{r:Nat}{u:Value}(h:VR ρ (.map r) u):∃l,ρ r=some l/\u= .map (some l.blk):=by cases h with | map _ l h=>exact⟨l,h,rfl⟩
theorem QA{x:Operand}(ho:o.op= .move x\/o.op= .assign x)(htr:aS P o=some ao)(hrun:aop a h ao=some (v,h',rd))(ht:Ops ρ a act ao.uses):
  NE P ρ h w ((execOp act.eval o).run P w) v h':=by
 have e:(trR x).map AO.move=some ao:=by rcases ho with ho | ho<;>simpa [aS,ho]using htr
 simp only[Option.map_eq_some_iff]at e;obtain⟨r,hr,rfl⟩:=e;simp only[aop,Option.some.injEq,Prod.mk.injEq]at hrun;obtain⟨rfl,rfl,rfl⟩:=hrun;exact NE.val (by rcases ho with ho | ho<;>simp[execOp,ho]) (aN hr ht)
theorem aCC{c x y:Operand}(ho:o.op= .pick c x y)(htr:aS P o=some ao)(hrun:aop a h ao=some (v,h',rd))(ht:Ops ρ a act ao.uses):
  NE P ρ h w ((execOp act.eval o).run P w) v h':=by
 simp only[aS,ho]at htr;split at htr
 ·rename_i c' x' y' hc hx hy;cases htr;simp only[AO.uses]at ht;have h1:=aN hc ht.left.left;have h2:=aN hx ht.left.right;have h3:=aN hy ht.right;simp only[aop]at hrun;split at hrun
  ·rename_i hb;cases hrun;rw[hb]at h1;exact NE.val (by simp[execOp,ho,h1.bool_inv,asBool]) h2
  ·rename_i hb;cases hrun;rw[hb]at h1;exact NE.val (by simp[execOp,ho,h1.bool_inv,asBool]) h3
  ·cases hrun
 ·cases htr
theorem YS{e:TypeId}(ho:o.op= .alloc e)(htr:aS P o=some ao)(hrun:aop a h ao=some (v,h',rd)):
  NE P ρ h w ((execOp act.eval o).run P w) v h':=by
 simp only[aS,ho,Option.map_eq_some_iff]at htr;obtain⟨z,hz,rfl⟩:=htr;obtain⟨u,i,hi,hzero,hrz,hop⟩:=fZ hz;simp only[aop,Option.some.injEq,Prod.mk.injEq]at hrun;obtain⟨rfl,rfl,rfl⟩:=hrun;have hl:=dO hop;refine NE.new (u:= .pointer (some ⟨w.heap.size,0,none⟩)) (ob:= .cells u.cells e) (l:=⟨w.heap.size,0,u.cells.size⟩) rfl ?_ fun hfr=>⟨?_,?_⟩
 ·simp[execOp,ho,Instr.alloc,hrz,newVar,newRow]
 ·exact .ptr _ 0 ⟨w.heap.size,0,u.cells.size⟩ (aV _ _ _)
 ·exact OR.newRow rfl rfl rfl (by simp at hl;omega) (fun i x hx=>by
   obtain⟨y,hy,hr⟩:=(d7 (ρ:=upd ρ h.next ⟨w.heap.size,0,u.cells.size⟩) hop).1.getElem hx;exact⟨y,by simpa using hy,hr⟩)
theorem aFk{e:TypeId}{x:Operand}(ho:o.op= .box e x)(htr:aS P o=some ao)(hrun:aop a h ao=some (v,h',rd))(ht:Ops ρ a act ao.uses):
  NE P ρ h w ((execOp act.eval o).run P w) v h':=by
 simp only[aS,ho,Option.map_eq_some_iff]at htr;obtain⟨x',hx,rfl⟩:=htr;have hxv:=aN hx ht;simp only[aop]at hrun;split at hrun
 ·rename_i hone;simp only[Option.some.injEq,Prod.mk.injEq]at hrun;obtain⟨rfl,rfl,rfl⟩:=hrun;obtain⟨hc,_⟩:=hxv.cells hone;have hl:=hc.1;refine NE.new (u:= .pointer (some ⟨w.heap.size,0,none⟩)) (ob:= .cells (act.eval x).cells e) (l:=⟨w.heap.size,0,(act.eval x).cells.size⟩) rfl ?_ fun hfr=>⟨?_,?_⟩
  ·simp[execOp,ho,Instr.box,newVar,newRow]
  ·exact .ptr _ 0 ⟨w.heap.size,0,(act.eval x).cells.size⟩ (aV _ _ _)
  ·exact OR.newRow rfl rfl rfl (by simp at hl;omega) (fun i y hy=>by
    obtain⟨z,hz,hr⟩:=(hc.mono (gD hfr)).getElem hy;exact⟨z,by simpa using hz,hr⟩)
 ·cases hrun
theorem uD(w:World):∀(fs:List Field),(∀(i:Nat) (f:Field),fs[i]? =some f->(dY P f.type).isSome=true)->
  (fs.mapM fun(f:Field)=>do pure (f.offset,<-sizeOf f.type)).run P w= .ok (fs.map fun(f:Field)=>(f.offset,(dY P f.type).getD 0)) w
 | [],_=>by simp
 | f::fs,h=>by have h0:=h 0 f rfl;obtain⟨n,hn⟩:=Option.isSome_iff_exists.1 h0;have ih:=uD w fs (fun i g hg=>h (i+1) g (by simpa using hg));simp only[bind_pure_comp]at ih ⊢;simp only[List.mapM_cons,Sem.run_bind,Sem.run_map,cL hn,Result.andThen_ok,ih,Sem.run_pure,List.map_cons,hn,Option.getD_some]
theorem YQ{t:TypeId}{ps:Array (Nat×Operand)}(ho:o.op= .build t ps)(htr:aS P o=some ao)(hrun:aop a h ao=some (v,h',rd))(ht:Ops ρ a act ao.uses):
  NE P ρ h w ((execOp act.eval o).run P w) v h':=by
 simp only[aS,ho]at htr;split at htr
 ·rename_i z fs hz hu;split at htr
  ·rename_i hall;simp only[Option.map_eq_some_iff]at htr;obtain⟨qs,hq,rfl⟩:=htr;obtain⟨u,i,hi,hzero,hrz,hop⟩:=fZ hz;simp only[aop]at hrun;split at hrun
   ·rename_i cs hf;simp only[Option.some.injEq,Prod.mk.injEq]at hrun;obtain⟨rfl,rfl,rfl⟩:=hrun;obtain⟨us',h1,h2⟩:=vZ (kF P fs) hq ht (us:=u.cells) (d7 hop).1 hf;refine NE.val (u:= .agg us') ?_ (by have:=h2.aggv;simpa using this);have hpl:(fs.mapM fun(f:Field)=>do pure (f.offset,<-sizeOf f.type)).run P w= .ok (fs.map fun(f:Field)=>(f.offset,(dY P f.type).getD 0)) w:=by
     have:=uD (P:=P) w fs.toList (fun i f hf=>by rw[List.all_eq_true]at hall;exact hall f (List.mem_of_getElem? hf));rw[Array.mapM_eq_mapM_toList,Sem.run_map,this];simp only[Result.andThen_ok];congr 1;apply Array.ext';simp
    have hfp:(fun(i:Nat)=>Option.map (fun(f:Field)=>(f.offset,(dY P f.type).getD 0)) fs[i]?)=kF P fs:=by
     funext i;unfold kF
     cases hfi:fs[i]? with
     | none=>rfl
     | some f=>rw[List.all_eq_true]at hall;have hm:f∈fs.toList:=List.mem_of_getElem? (by rw[Array.getElem?_toList];exact hfi);obtain⟨n,hn⟩:=Option.isSome_iff_exists.1 (hall f hm);simp[hn]
    have hpl':=hpl;simp only[bind_pure_comp]at hpl';simp[execOp,ho,Instr.build,hrz,run_underlying hu,hpl',hfp];have e2:(List.map (fun(x:Nat×Operand)=>(x.1,act.eval x.2)) ps.toList)=ps.toList.map (fun p=>(p.1,act.eval p.2)):=rfl;rw[h1];rfl
   ·cases hrun
  ·cases htr
 ·rename_i z n e hz hu;split at htr
  ·rename_i s hs;simp only[Option.map_eq_some_iff]at htr;obtain⟨qs,hq,rfl⟩:=htr;obtain⟨u,i,hi,hzero,hrz,hop⟩:=fZ hz;simp only[aop]at hrun;split at hrun
   ·rename_i cs hf;simp only[Option.some.injEq,Prod.mk.injEq]at hrun;obtain⟨rfl,rfl,rfl⟩:=hrun;obtain⟨us',h1,h2⟩:=vZ (fun i=>some (i*s,s)) hq ht (us:=u.cells) (d7 hop).1 hf;refine NE.val (u:= .agg us') ?_ (by have:=h2.aggv;simpa using this);simp[execOp,ho,Instr.build,hrz,run_underlying hu,cL hs];rw[h1];rfl
   ·cases hrun
  ·cases htr
 ·cases htr
theorem AA{t:TypeId}{len:Nat}{ps:Array (Nat×Operand)}(ho:o.op= .buildSlice t len ps)(htr:aS P o=some ao)(hrun:aop a h ao=some (v,h',rd))(ht:Ops ρ a act ao.uses):
  NE P ρ h w ((execOp act.eval o).run P w) v h':=by
 simp only[aS,ho]at htr;split at htr
 ·rename_i e hu;split at htr
  ·rename_i s z hs hz;split at htr
   ·rename_i hc;simp only[Bool.and_eq_true,decide_eq_true_eq]at hc;obtain⟨⟨hc1,hc2⟩,hc3⟩:=hc;simp only[Option.map_eq_some_iff]at htr;obtain⟨qs,hq,rfl⟩:=htr;obtain⟨u,i,hi,hzero,hrz,hop⟩:=fZ hz;simp only[aop]at hrun;split at hrun
    ·rename_i cs hf;simp only[Option.some.injEq,Prod.mk.injEq]at hrun;obtain⟨rfl,rfl,rfl⟩:=hrun;have hlu:=dO hop;have hzc:VRs ρ (fE len z) ((Array.range (len*s)).map (u.cells[· % u.cells.size]!)).toList:=by have:=mO (ρ:=ρ) (n:=len) (d7 hop).1 (by omega);simp only[Array.toArray_toList,Array.length_toList]at this;rw[hc1,show z.length=u.cells.size from by simpa using hlu];exact this
     obtain⟨us',h1,h2⟩:=vZ (fun i=>some (i*s,s)) hq ht hzc hf;have hlen:cs.length=us'.size:=by have:=h2.1;simp at this;omega
     have hfl:us'.size=len*s:=by
      have:∀(ps:List (Nat×Value)) (x y:Array Value),Instr.fill (fun i=>some (i*s,s)) x ps=some y->y.size=x.size:=by
       intro ps
       induction ps with
       | nil=>intro x y e;simp[Instr.fill]at e;subst e;rfl
       | cons p ps ih=>
        intro x y e;obtain⟨i,q⟩:=p;simp only[Instr.fill]at e;split at e
        ·cases e
        ·rw[ih _ _ e];rw[<-Array.foldl_toList,Array.toList_zipIdx];rename_i hcond;rw[nY _ _ _ _ (by simp at hcond ⊢;omega)];simp at hcond ⊢;omega
      have:=this _ _ _ h1;simpa using this
     refine NE.new (u:= .slice (some ⟨w.heap.size,0,none⟩) len len) (ob:= .cells us' e) (l:=⟨w.heap.size,0,us'.size⟩) rfl ?_ fun hfr=>⟨?_,?_⟩
     ·by_cases h0:len=0
      ·subst h0;have e0:¬(0*s>2^24):=by omega
       have e1:∀f:Nat->Value,Array.map f (Array.range 0)=(#[]:Array Value):=fun f=>by simp[Array.range_zero']
       simp[execOp,ho,Instr.buildSlice,run_underlying hu,cL hs,newRow];simp only[Nat.zero_mul,e1]at h1 ⊢;rw[h1];rfl
      ·have hne:len*s≠0:=Nat.mul_ne_zero h0 (by omega);have hbig:¬(len*s>2^24):=by omega
       simp[execOp,ho,Instr.buildSlice,run_underlying hu,cL hs,newRow,hne,hrz,show ¬(16777216<len*s)from by omega];rw[h1];rfl
     ·refine .slice true s h.next 0 len len _ (Nat.le_refl _) ?_ (fun _=>rfl) (fun hp=>⟨_,aV _ _ _,rfl,?_⟩)
      ·have:len<=len*s:=Nat.le_mul_of_pos_right _ hc2;unfold maxLen;omega
      ·simp[hfl]
     ·exact OR.newRow rfl rfl rfl (by omega) (fun i y hy=>by
       obtain⟨z,hz,hr⟩:=(h2.mono (gD hfr)).getElem hy;exact⟨z,by simpa using hz,hr⟩)
    ·cases hrun
   ·cases htr
  ·cases htr
 ·cases htr
end
def Fit:List (Option IntKind)->List Value->Prop
 | [],[]=>True
 | some k::T,.int k' n::us=>k'=k/\(Lit.int k n).wf=true/\Fit T us
 | none::T,.bool _::us=>Fit T us
 | _,_=>False
def nW:Value->Lit
 | .int k n=> .int k n
 | .bool b=> .bool b
 | _=> .bool false
theorem Fit.length:∀{T:List (Option IntKind)} {us:List Value},Fit T us->us.length=T.length
 | [],[],_=>rfl
 | some k::T,.int k' n::us,h=>by simp[Fit.length h.2.2]
 | none::T,.bool b::us,h=>by simp[Fit.length (T:=T) h]
theorem Fit.split:∀{A B:List (Option IntKind)} {us:List Value},Fit (A++B) us->Fit A (us.take A.length)/\Fit B (us.drop A.length)
 | [],B,us,h=>⟨by simp[Fit],by simpa using h⟩
 | some k::A,B,.int k' n::us,h=>by obtain⟨h1,h2,h3⟩:=h;obtain⟨p,q⟩:=Fit.split (A:=A) h3;exact⟨⟨h1,h2,p⟩,q⟩
 | none::A,B,.bool b::us,h=>by obtain⟨p,q⟩:=Fit.split (A:=A) (us:=us) h;exact⟨p,q⟩
section
variable {P:Program}
theorem uN{m:Nat}(ih:∀(t:TypeId) (T:List (Option IntKind)),pG P m t=some T->∀us,Fit T us->P.keyLits m t us=some (us.map nW)){us:List Value} :
  ∀(fs:List Field) (off:Nat) (T:List (Option IntKind)),mL P (pG P m) off fs=some T->off<=us.length->Fit T (us.drop off)->
  ∃as,fs.mapM (fun f=>P.keyLits m f.type ((us.drop f.offset).take (P.cellsOf f.type)))=some as/\as.flatten=(us.drop off).map nW
 | [],off,T,hT,hl,hf=>by cases hT;have:=hf.length;simp only[List.length_nil]at this;have e:us.drop off=[]:=List.length_eq_zero_iff.1 this;exact⟨[],rfl,by rw[e];rfl⟩
 | f::fs,off,T,hT,hl,hf=>by
  unfold mL at hT;split at hT
  ·rename_i A B hA hB;split at hT
   ·rename_i hc;cases hT;obtain⟨h1,h2⟩:=hc;obtain⟨p,q⟩:=hf.split;have hlen:=hf.length;simp only[List.length_append,List.length_drop]at hlen;have e1:=ih _ _ hA _ p;rw[List.drop_drop]at q;rw[h2]at e1 q;have hle:f.offset+P.cellsOf f.type<=us.length:=by omega
    obtain⟨as,e2,e3⟩:=uN ih fs (f.offset+P.cellsOf f.type) B hB hle (by rw[h1];exact q);refine⟨_::as,by simp only[List.mapM_cons,h1,e1,Option.bind_eq_bind,Option.bind_some];rw[e2];rfl,?_⟩;rw[List.flatten_cons,e3,h1,<-List.map_append,<-List.drop_drop,List.take_append_drop]
   ·cases hT
  ·cases hT
theorem xY{m:Nat}{e:TypeId}{E:List (Option IntKind)}(ih:∀us,Fit E us->P.keyLits m e us=some (us.map nW))(he:E.length=P.cellsOf e){us:List Value} :
  ∀(k off:Nat),off*E.length<=us.length->Fit (sS E k) (us.drop (off*E.length))->
  ∃as,(List.range' off k).mapM (fun i=>P.keyLits m e ((us.drop (i*P.cellsOf e)).take (P.cellsOf e)))=some as/\as.flatten=(us.drop (off*E.length)).map nW
 | 0,off,hl,hf=>by have:=hf.length;simp only[sS,List.length_nil]at this;have e:us.drop (off*E.length)=[]:=List.length_eq_zero_iff.1 this;exact⟨[],rfl,by rw[e];rfl⟩
 | k+1,off,hl,hf=>by
  have hlen:=hf.length;simp only[sS,List.length_append,List.length_drop]at hlen;obtain⟨p,q⟩:=hf.split;have e1:=ih _ p;have e0:off*E.length+E.length=(off+1)*E.length:=by rw[Nat.succ_mul]
  rw[List.drop_drop,e0]at q;obtain⟨as,e2,e3⟩:=xY ih he k (off+1) (by omega) q;refine⟨_::as,by rw[List.range'_succ];simp only[List.mapM_cons,<-he,e1,Option.bind_eq_bind,Option.bind_some];rw[<-he]at e2;rw[e2];rfl,?_⟩;rw[List.flatten_cons,e3,<-e0,<-List.map_append,<-List.drop_drop,List.take_append_drop]
theorem oP:∀(m:Nat) (t:TypeId) (T:List (Option IntKind)),pG P m t=some T->∀us,Fit T us->P.keyLits m t us=some (us.map nW)
 | 0,t,T,hT,us,hf=>by cases hT
 | m+1,t,T,hT,us,hf=>by
  unfold pG at hT;split at hT
  ·rename_i k hk;cases hT
   match us,hf with
   | [.int k' n],hf=>obtain⟨rfl,h2,_⟩:=hf;simp[Program.keyLits,hk,h2,nW]
  ·rename_i hk;cases hT
   match us,hf with
   | [.bool b],hf=>simp[Program.keyLits,hk,nW]
  ·rename_i fs hk;split at hT
   ·rename_i T' hT';split at hT
    ·rename_i hc;cases hT;obtain⟨hc1,hc2⟩:=hc;have hlen:=hf.length;obtain⟨as,e1,e2⟩:=uN (fun t T h us hf=>oP m t T h us hf) (us:=us) fs.toList 0 T hT' (Nat.zero_le _) (by simpa using hf);have hcl:us.length=P.cellsOf t:=by omega
     unfold Program.keyLits;rw[hk];simp only;rw[if_pos ⟨hcl,hc2⟩,e1];simp only[Option.map_some,e2,List.drop_zero]
    ·cases hT
   ·cases hT
  ·rename_i n e hk;split at hT
   ·rename_i E hE;split at hT
    ·rename_i hc;cases hT;obtain⟨hc1,hc2⟩:=hc;have hlen:=hf.length;obtain⟨as,e1,e2⟩:=xY (fun us hf=>oP m e E hE us hf) hc1 (us:=us) n 0 (by simp) (by simpa using hf);have hcl:us.length=P.cellsOf t:=by omega
     unfold Program.keyLits;rw[hk];simp only;rw[if_pos hcl,List.range_eq_range',e1];simp only[Option.map_some,e2,Nat.zero_mul,List.drop_zero]
    ·cases hT
   ·cases hT
  ·cases hT
theorem AZ{k:IntKind}{n:Int}(h:T7 k n=true):(Lit.int k n).wf=true:=by cases k<;>simp[T7]at h<;>simp[Lit.wf,IntKind.min,IntKind.max,IntKind.signed,IntKind.bits]<;>omega
theorem E0{ρ:Emb} :∀{T:List (Option IntKind)} {xs ys:List AV} {us vs:List Value} {b:Bool},eE T xs ys=some b->VRs ρ xs us->VRs ρ ys vs->Fit T us/\Fit T vs/\(b=true↔us.map nW=vs.map nW):=by
 intro T
 induction T with
 | nil=>
  intro xs ys us vs b h hx hy
  cases xs with
  | cons x xs=>cases h
  | nil=>cases ys with
   | cons y ys=>cases h
   | nil=>cases h;rw[hx.nil_inv,hy.nil_inv];simp[Fit]
 | cons o T ih=>
  intro xs ys us vs b h hx hy
  cases o with
  | some k=>
   cases xs with
   | nil=>cases h
   | cons x xs=>
    cases ys with
    | nil=>cases x<;>cases h
    | cons y ys=>
     cases x<;>first | (cases h;done) | skip
     cases y<;>first | (cases h;done) | skip
     rename_i k1 m k2 n;simp only[eE]at h;split at h
     ·rename_i hc;obtain⟨rfl,rfl,hm,hn⟩:=hc;split at h
      ·rename_i b' hb;cases h;obtain⟨u,us',rfl,r1,r2⟩:=hx.cons_inv;obtain⟨v,vs',rfl,r3,r4⟩:=hy.cons_inv;rw[r1.int_inv,r3.int_inv];obtain⟨f1,f2,f3⟩:=ih hb r2 r4;refine⟨⟨rfl,AZ hm,f1⟩,⟨rfl,AZ hn,f2⟩,?_⟩;simp only[List.map_cons,nW,List.cons.injEq,Lit.int.injEq,true_and,Bool.and_eq_true,beq_iff_eq,f3]
      ·cases h
     ·cases h
  | none=>
   cases xs with
   | nil=>cases h
   | cons x xs=>
    cases ys with
    | nil=>cases x<;>cases h
    | cons y ys=>
     cases x<;>first | (cases h;done) | skip
     cases y<;>first | (cases h;done) | skip
     rename_i p q;simp only[eE]at h;split at h
     ·rename_i b' hb;cases h;obtain⟨u,us',rfl,r1,r2⟩:=hx.cons_inv;obtain⟨v,vs',rfl,r3,r4⟩:=hy.cons_inv;rw[r1.bool_inv,r3.bool_inv];obtain⟨f1,f2,f3⟩:=ih hb r2 r4;refine⟨f1,f2,?_⟩;simp only[List.map_cons,nW,List.cons.injEq,Lit.bool.injEq,Bool.and_eq_true,beq_iff_eq,f3]
     ·cases h
theorem UH{m:Nat}{t:TypeId}{T:List (Option IntKind)}(hu:(∃fs,P.underlying t=some (.struct fs))\/∃n e,P.underlying t=some (.array n e))(hT:pG P m t=some T):T.length=P.cellsOf t:=by
 cases m with
 | zero=>cases hT
 | succ m=>
  unfold pG at hT;rcases hu with⟨fs,hu⟩ | ⟨n,e,hu⟩
  ·rw[hu]at hT;simp only at hT;split at hT
   ·split at hT
    ·rename_i hc;cases hT;exact hc.1
    ·cases hT
   ·cases hT
  ·rw[hu]at hT;simp only at hT;split at hT
   ·split at hT
    ·rename_i hc;cases hT;exact hc.2
    ·cases hT
   ·cases hT
theorem yT{ρ:Emb}(w:World){t:TypeId}{T:List (Option IntKind)}(hu:(∃fs,P.underlying t=some (.struct fs))\/∃n e,P.underlying t=some (.array n e))(hT:pG P 20 t=some T)
  (hk:P.keyTypeAt 20 t=true) (hg:P.eqGuardType P.depth t=false) {xs ys:List AV} {us vs:List Value} {b:Bool} (h:eE T xs ys=some b) (hx:VRs ρ xs us) (hy:VRs ρ ys vs):
  (∀(op:BinOp) (X Y:Operand),(eqGuard op t X Y (.agg us.toArray) (.agg vs.toArray)).run P w= .ok () w)/\(binOp .eql t (.agg us.toArray) (.agg vs.toArray)).run P w= .ok (.bool b) w/\(binOp .neq t (.agg us.toArray) (.agg vs.toArray)).run P w= .ok (.bool (!b)) w:=by
 obtain⟨f1,f2,f3⟩:=E0 h hx hy;have hl:=UH hu hT;have fm:∀{zs:List Value},Fit T zs->(Value.agg zs.toArray).formed P t=true:=by intro zs hz;have:=hz.length;unfold Value.formed;rcases hu with⟨fs,hu⟩ | ⟨n,e,hu⟩<;>(rw[hu];simp;omega)
 obtain⟨r,hr,hiff⟩:=run_equalIn_deep (P:=P) (10000-20) 20 t hk w 20 20 (.agg us.toArray) (.agg vs.toArray) _ _ (fm f1) (fm f2) (by simpa [Value.cells]using oP 20 t T hT us f1) (by simpa [Value.cells]using oP 20 t T hT vs f2);have hrb:r=b:=by
  cases r<;>cases b<;>simp_all
 subst hrb;have he:(Op.equal t (.agg us.toArray) (.agg vs.toArray)).run P w= .ok r w:=hr;refine⟨fun op X Y=>?_,?_,?_⟩
 ·unfold eqGuard;cases op<;>simp[hg]
 ·simp[binOp,he]
 ·simp[binOp,he]
end
section
variable {P:Program} {ρ:Emb} {w:World} {a:List AV} {act:Act} {h h':H} {o:Oper} {ao:AO} {v:AV} {rd:List Nat}
theorem l7{ad:Addr}{us:List Value}{n:Nat}(hn:us.length=n)(hc:∀j u,us[j]? =some u->w.cell? (ad.add j)=some u):
  (loadCells ad n).run P w= .ok us.toArray w:=by subst hn;exact run_loadCells_list w ad us hc
theorem aCD{t:TypeId}{x:Operand}(ho:o.op= .load t x)(htr:aS P o=some ao)(hrun:aop a h ao=some (v,h',rd))(ht:Ops ρ a act ao.uses)(hobj:KA P ρ h w rd):
  NE P ρ h w ((execOp act.eval o).run P w) v h':=by
 simp only[aS,ho]at htr;split at htr
 ·rename_i n x' hag hsz hx;cases htr;have hxv:=aN hx ht;simp only[aop]at hrun;split at hrun
  ·rename_i b i hb;split at hrun
   ·rename_i cs hcs;simp only[Option.some.injEq,Prod.mk.injEq]at hrun;obtain⟨rfl,rfl,rfl⟩:=hrun;rw[hb]at hxv;obtain⟨l,hl,hu⟩:=hxv.ptr_inv;obtain⟨ver,rw,all,hg,hn,e⟩:=cJ hcs;obtain⟨us,h1,h2,h3⟩:=(hobj b (by simp) l _ hl hg).cells hn e;refine NE.val (u:= .agg us.toArray) ?_ h1.aggv;have hrl:(loadCells ⟨l.blk,l.base+i,none⟩ n).run P w= .ok us.toArray w:=l7 h2 (fun j u hj=>by rw[Addr.add_mk];exact h3 j u hj);simp[execOp,ho,Instr.loadAt,hu,Instr.sureAddr,loadVar,gX hag,cL hsz,hrl]
   ·cases hrun
  ·cases hrun
 ·rename_i x' hag hx;cases htr;have hxv:=aN hx ht;simp only[aop]at hrun;split at hrun
  ·rename_i b i hb;split at hrun
   ·rename_i y hy;simp only[Option.some.injEq,Prod.mk.injEq]at hrun;obtain⟨rfl,rfl,rfl⟩:=hrun;rw[hb]at hxv;obtain⟨l,hl,hu⟩:=hxv.ptr_inv;obtain⟨ob,hg,_⟩:=uS hy;obtain⟨u,h1,h2⟩:=(hobj b (by simp) l _ hl hg).cell hg hy;refine NE.val (u:=u) ?_ h2;simp[execOp,ho,Instr.loadAt,hu,Instr.sureAddr,loadVar,gX hag,h1]
   ·cases hrun
  ·cases hrun
 ·cases htr
theorem HV{x:Operand}(ho:o.op= .nilCheck x)(htr:aS P o=some ao)(hrun:aop a h ao=some (v,h',rd))(ht:Ops ρ a act ao.uses):
  NE P ρ h w ((execOp act.eval o).run P w) v h':=by
 simp only[aS,ho,Option.map_eq_some_iff]at htr;obtain⟨x',hx,rfl⟩:=htr;have hxv:=aN hx ht;simp only[aop]at hrun;split at hrun
 ·rename_i b i hb;cases hrun;rw[hb]at hxv;obtain⟨l,hl,hu⟩:=hxv.ptr_inv;exact NE.val (u:=act.eval x) (by simp[execOp,ho,hu]) hxv
 ·cases hrun
 ·rename_i f c d hne hb;cases hrun;rw[hb]at hxv;refine NE.val (u:=act.eval x) ?_ hxv;generalize hy:act.eval x=y at hxv
  cases hxv with
  | func _ _ _ f' c' hp hf hc h1 h2=>
   cases f with
   | method nm=>exact absurd rfl (hne nm)
   | func g=>simp[execOp,ho,hy]
   | methodOf t n=>simp[execOp,ho,hy]
   | via t p f p'=>simp[execOp,ho,hy]
   | yield l=>simp[rG]at hp
  | yield r l h=>simp[execOp,ho,hy]
 ·rename_i t y hb;cases hrun;rw[hb]at hxv;refine NE.val (u:=act.eval x) ?_ hxv;generalize hy:act.eval x=z at hxv
  cases hxv with
  | iface t v u h=>simp[execOp,ho,hy]
 ·cases hrun
theorem K2{op:BinOp}{k:IntKind}{x y:Int}{r:AV}(hs:bF op=false)(h:cB op k x y=some r)(t:TypeId):∃u,VR ρ r u/\(binOp op t (.int k x) (.int k y)).run P w= .ok u w:=by
 cases op<;>simp[bF]at hs<;>simp only[cB]at h
 case quo=>
  split at h
  ·cases h
  ·rename_i h0;cases h;exact⟨_,.int _ _,by simp[binOp,Op.intDiv,h0]⟩
 case rem=>
  split at h
  ·cases h
  ·rename_i h0;cases h;exact⟨_,.int _ _,by simp[binOp,Op.intDiv,h0]⟩
 all_goals (cases h;first | exact⟨_,.int _ _,by simp[binOp,Op.intArith,Op.intBits]⟩ | exact⟨_,.bool _,by simp[binOp,Op.intCmp]⟩)
theorem d9{op:BinOp}{t:TypeId}{x y:Operand}{u u':Value}(h1:∀c,u≠ .agg c)(h2:u≠ .nilIface):(eqGuard op t x y u u').run P w= .ok () w:=by
 unfold eqGuard;cases op<;>first | rfl | skip
 all_goals (cases u<;>first | rfl | exact absurd rfl h2 | exact absurd rfl (h1 _))
theorem RM{op:BinOp}{x y r:AV}{u u':Value}(h:eB op x y=some r)(hx:VR ρ x u)(hy:VR ρ y u')(t:TypeId):
  ∃z,VR ρ r z/\(∀X Y:Operand,(eqGuard op t X Y u u').run P w= .ok () w)/\(binOp op t u u').run P w= .ok z w:=by
 unfold eB at h;split at h
 ·rename_i k a k' b;have e1:=hx.int_inv;have e2:=hy.int_inv;subst e1;subst e2;have hg:∀X Y:Operand,(eqGuard op t X Y (.int k a) (.int k' b)).run P w= .ok () w:=fun X Y=>d9 (by simp) (by simp);split at h
  ·rename_i hs;unfold sC at h;split at h
   ·cases h
   ·rename_i h0;cases op<;>simp[bF]at hs
    ·cases h;exact⟨_,.int _ _,hg,by simp[binOp,Op.shift,h0]⟩
    ·cases h;exact⟨_,.int _ _,hg,by simp[binOp,Op.shift,h0]⟩
  ·rename_i hs;split at h
   ·rename_i hk;subst hk;obtain⟨z,hz,hb⟩:=K2 (P:=P) (w:=w) (ρ:=ρ) (by simpa using hs) h t;exact⟨z,hz,hg,hb⟩
   ·cases h
 ·rename_i a b;have e1:=hx.str_inv;have e2:=hy.str_inv;subst e1;subst e2;have hg:∀X Y:Operand,(eqGuard op t X Y (.string a) (.string b)).run P w= .ok () w:=fun X Y=>d9 (by simp) (by simp);cases op<;>simp only at h
  case add=>
   split at h
   ·cases h
   ·rename_i h0;cases h;have hm:IntKind.i64.max=9223372036854775807:=by decide
    rw[hm]at h0;exact⟨_,.str _,hg,by simp[binOp,Op.stringOp,hm];omega⟩
  case eql=>cases h;exact⟨_,.bool _,hg,by simp[binOp,Op.stringOp]⟩
  case neq=>cases h;exact⟨_,.bool _,hg,by simp[binOp,Op.stringOp]⟩
  all_goals (cases h)
 ·cases h
theorem SX{t:TypeId}{d:TypeDesc}{kd:Nat}(hu:P.underlying t=some d)(hd:EB d=some kd)
  {x y:AV} {b:Bool} {u u':Value} (h:U2 kd x y=some b) (hx:VR ρ x u) (hy:VR ρ y u'):
  (Op.equal t u u').run P w= .ok b w/\(binOp .eql t u u').run P w= .ok (.bool b) w/\(binOp .neq t u u').run P w= .ok (.bool (!b)) w/\(∀c,u≠ .agg c)/\u≠ .nilIface:=by
 have key:∀{u u':Value} {b:Bool},(Op.equal t u u').run P w= .ok b w->((binOp .eql t u u').run P w=((Op.equal t u u').run P w).andThen fun b w=> .ok (.bool b) w)->((binOp .neq t u u').run P w=((Op.equal t u u').run P w).andThen fun b w=> .ok (.bool (!b)) w)->
   (∀c,u≠ .agg c)->u≠ .nilIface->(Op.equal t u u').run P w= .ok b w/\(binOp .eql t u u').run P w= .ok (.bool b) w/\(binOp .neq t u u').run P w= .ok (.bool (!b)) w/\(∀c,u≠ .agg c)/\u≠ .nilIface:=by
  intro u u' b h1 h2 h3 h4 h5;exact⟨h1,by rw[h2,h1];rfl,by rw[h3,h1];rfl,h4,h5⟩
 unfold U2 at h;split at h<;>first | (cases h;done) | skip
 all_goals (cases h;(cases hx<;>cases hy<;>cases d<;>first | (simp[EB]at hd;done) | skip))
 all_goals (refine key ?_ (by simp[binOp]) (by simp[binOp]) (by simp) (by simp))
 all_goals (unfold Op.equal;show(Op.equalIn (9999+1) t _ _).run P w=_;unfold Op.equalIn;simp[run_underlying hu])
theorem GX{t:TypeId}{ms:Array (String×TypeId)}{xo yo:Operand}(hu:P.underlying t=some (.interface ms))
  {x y:AV} {b:Bool} {u u':Value} (h:U2 4 x y=some b) (hx:VR ρ x u) (hy:VR ρ y u') (hc:(sB xo||sB yo)=true):
  (∀op:BinOp,(eqGuard op t xo yo u u').run P w= .ok () w)/\(binOp .eql t u u').run P w= .ok (.bool b) w/\(binOp .neq t u u').run P w= .ok (.bool (!b)) w:=by
 have hcc:(∃v,xo= .const v)\/∃v,yo= .const v:=by cases xo<;>cases yo<;>simp[sB]at hc ⊢
 have key:∀{u u':Value} {b:Bool},(Op.equal t u u').run P w= .ok b w->((binOp .eql t u u').run P w=((Op.equal t u u').run P w).andThen fun b w=> .ok (.bool b) w)->((binOp .neq t u u').run P w=((Op.equal t u u').run P w).andThen fun b w=> .ok (.bool (!b)) w)->
   (∀op:BinOp,(eqGuard op t xo yo u u').run P w= .ok () w)->(∀op:BinOp,(eqGuard op t xo yo u u').run P w= .ok () w)/\(binOp .eql t u u').run P w= .ok (.bool b) w/\(binOp .neq t u u').run P w= .ok (.bool (!b)) w:=by
  intro u u' b h1 h2 h3 h4;exact⟨h4,by rw[h2,h1];rfl,by rw[h3,h1];rfl⟩
 unfold U2 at h;split at h<;>first | (cases h;done) | skip
 all_goals first | (rename_i e;cases e;done) | skip
 all_goals (cases h;cases hx;cases hy)
 all_goals (refine key ?_ (by simp[binOp]) (by simp[binOp]) ?_)
 all_goals first
  | (unfold Op.equal;show(Op.equalIn (9999+1) t _ _).run P w=_;unfold Op.equalIn;simp[run_underlying hu];done)
  | (intro op;unfold eqGuard;rcases hcc with⟨v,rfl⟩ | ⟨v,rfl⟩<;>cases op<;>simp)
theorem xT{op:BinOp}{t t2:TypeId}{x y:Operand}{x' y':AR}(ho:o.op= .binOp op t x y t2)(hu:(∃fs,P.underlying t=some (.struct fs))\/∃n e,P.underlying t=some (.array n e))
  (hx:trR x=some x') (hy:trR y=some y') (htr:oS P op t x' y'=some ao) (hrun:aop a h ao=some (v,h',rd)) (ht:Ops ρ a act ao.uses):
  NE P ρ h w ((execOp act.eval o).run P w) v h':=by
 have fin:∀{z:Value},VR ρ v z->(∀X Y:Operand,(eqGuard op t X Y (act.eval x) (act.eval y)).run P w= .ok () w)->(binOp op t (act.eval x) (act.eval y)).run P w= .ok z w->h'=h->
   NE P ρ h w ((execOp act.eval o).run P w) v h':=by
  intro z hz h1 h2 e;subst e;exact NE.val (u:=z) (by simp[execOp,ho,h1,h2]) hz
 unfold oS at htr;split at htr
 ·rename_i T hT;split at htr
  ·rename_i hc;cases htr;simp only[AO.uses]at ht;simp only[aop]at hrun;split at hrun<;>first | (cases hrun;done) | skip
   rename_i xs ys hxs hys;split at hrun<;>first | (cases hrun;done) | skip
   rename_i b hb;cases hrun;have e1:=aN hx ht.left;have e2:=aN hy ht.right;rw[hxs]at e1;rw[hys]at e2;obtain⟨us,h1,h2⟩:=e1.agg_inv;obtain⟨vs,h3,h4⟩:=e2.agg_inv;obtain⟨k1,k2,k3⟩:=yT w hu hT hc.1 hc.2 hb h2 h4;refine fin (z:= .bool _) (.bool _) (fun X Y=>by rw[h1,h3];exact k1 _ X Y) ?_ rfl;rw[h1,h3];exact k2
  ·cases htr
 ·rename_i T hT;split at htr
  ·rename_i hc;cases htr;simp only[AO.uses]at ht;simp only[aop]at hrun;split at hrun<;>first | (cases hrun;done) | skip
   rename_i xs ys hxs hys;split at hrun<;>first | (cases hrun;done) | skip
   rename_i b hb;cases hrun;have e1:=aN hx ht.left;have e2:=aN hy ht.right;rw[hxs]at e1;rw[hys]at e2;obtain⟨us,h1,h2⟩:=e1.agg_inv;obtain⟨vs,h3,h4⟩:=e2.agg_inv;obtain⟨k1,k2,k3⟩:=yT w hu hT hc.1 hc.2 hb h2 h4;refine fin (z:= .bool _) (.bool _) (fun X Y=>by rw[h1,h3];exact k1 _ X Y) ?_ rfl;rw[h1,h3];exact k3
  ·cases htr
 ·cases htr
theorem YR{op:BinOp}{t t2:TypeId}{x y:Operand}(ho:o.op= .binOp op t x y t2)(htr:aS P o=some ao)(hrun:aop a h ao=some (v,h',rd))(ht:Ops ρ a act ao.uses):
  NE P ρ h w ((execOp act.eval o).run P w) v h':=by
 have fin:∀{z:Value},VR ρ v z->(∀X Y:Operand,(eqGuard op t X Y (act.eval x) (act.eval y)).run P w= .ok () w)->(binOp op t (act.eval x) (act.eval y)).run P w= .ok z w->h'=h->
   NE P ρ h w ((execOp act.eval o).run P w) v h':=by
  intro z hz h1 h2 e;subst e;exact NE.val (u:=z) (by simp[execOp,ho,h1,h2]) hz
 simp only[aS,ho]at htr;split at htr
 ·rename_i x' y' k hx hy hu;cases htr;simp only[AO.uses]at ht;simp only[aop]at hrun;split at hrun
  ·rename_i r hr;cases hrun;obtain⟨z,hz,h1,h2⟩:=RM (P:=P) (w:=w) hr (aN hx ht.left) (aN hy ht.right) t;exact fin hz h1 h2 rfl
  ·cases hrun
 ·rename_i x' y' hx hy hu;cases htr;simp only[AO.uses]at ht;simp only[aop]at hrun;split at hrun
  ·rename_i r hr;cases hrun;obtain⟨z,hz,h1,h2⟩:=RM (P:=P) (w:=w) hr (aN hx ht.left) (aN hy ht.right) t;exact fin hz h1 h2 rfl
  ·cases hrun
 ·rename_i x' y' hx hy hu;split at htr<;>first | (cases htr;done) | skip
  all_goals (cases htr;simp only[AO.uses]at ht;simp only[aop]at hrun;split at hrun<;>first | (cases hrun;done) | skip)
  all_goals
   rename_i p q hp hq;cases hrun;have e1:=aN hx ht.left;have e2:=aN hy ht.right;rw[hp]at e1;rw[hq]at e2;refine fin (z:= .bool _) (.bool _) (fun X Y=>d9 (by simp[e1.bool_inv]) (by simp[e1.bool_inv])) ?_ rfl;rw[e1.bool_inv,e2.bool_inv];first | exact run_eql_bool w t p q hu | exact run_neq_bool w t p q hu
 ·rename_i x' y' fs hx hy hu;exact xT ho (.inl ⟨fs,hu⟩) hx hy htr hrun ht
 ·rename_i x' y' n e hx hy hu;exact xT ho (.inr ⟨n,e,hu⟩) hx hy htr hrun ht
 ·rename_i x' y' ms hx hy hu;split at htr<;>first | (cases htr;done) | skip
  rename_i hc;split at htr<;>first | (cases htr;done) | skip
  all_goals
   cases htr;simp only[AO.uses]at ht;simp only[aop]at hrun;split at hrun<;>first | (cases hrun;done) | skip
   rename_i b hb;cases hrun;obtain⟨h1,h2,h3⟩:=GX (w:=w) hu hb (aN hx ht.left) (aN hy ht.right) hc;exact NE.val (u:= .bool _) (by simp[execOp,ho,h1,h2,h3]) (.bool _)
 ·rename_i x' y' d _ _ _ _ _ _ hx hy hu;split at htr<;>first | (cases htr;done) | skip
  all_goals (cases htr;simp only[AO.uses]at ht;simp only[aop]at hrun;split at hrun<;>first | (cases hrun;done) | skip)
  all_goals
   rename_i kd hkd _ b hb;cases hrun;obtain⟨h1,h2,h3,h4,h5⟩:=SX (w:=w) hu hkd hb (aN hx ht.left) (aN hy ht.right);refine fin (z:= .bool _) (.bool _) (fun X Y=>d9 h4 h5) ?_ rfl;first | exact h2 | exact h3
 ·cases htr
theorem aCB{op:UnOp}{t:TypeId}{x:Operand}(ho:o.op= .unOp op t x)(htr:aS P o=some ao)(hrun:aop a h ao=some (v,h',rd))(ht:Ops ρ a act ao.uses):
  NE P ρ h w ((execOp act.eval o).run P w) v h':=by
 simp only[aS,ho,Option.map_eq_some_iff]at htr;obtain⟨x',hx,rfl⟩:=htr;have hxv:=aN hx ht;simp only[aop]at hrun;split at hrun
 ·rename_i r hr;cases hrun;unfold aun at hr;split at hr
  ·rename_i k n he;rw[he]at hxv;have e:=hxv.int_inv;split at hr<;>first | (cases hr;done) | skip
   all_goals (cases hr;exact NE.val (u:= .int _ _) (by simp[execOp,ho,e,Op.unary,Op.intArith,Op.intBits]) (.int _ _))
  ·rename_i b he;rw[he]at hxv;have e:=hxv.bool_inv;split at hr<;>first | (cases hr;done) | skip
   all_goals (cases hr;exact NE.val (u:= .bool _) (by simp[execOp,ho,e,Op.unary]) (.bool _))
  ·cases hr
 ·cases hrun
theorem tD{t:TypeId}{x:Operand}(ho:o.op= .makeInterface t x)(htr:aS P o=some ao)(hrun:aop a h ao=some (v,h',rd))(ht:Ops ρ a act ao.uses):
  NE P ρ h w ((execOp act.eval o).run P w) v h':=by
 simp only[aS,ho]at htr;split at htr
 ·cases htr
 ·rename_i d hni hu;simp only[Option.map_eq_some_iff]at htr;obtain⟨x',hx,rfl⟩:=htr;have hxv:=aN hx ht;simp only[aop,Option.some.injEq,Prod.mk.injEq]at hrun;obtain⟨rfl,rfl,rfl⟩:=hrun;refine NE.val (u:= .iface t (act.eval x)) ?_ (.iface _ _ _ hxv);cases d<;>first | exact absurd rfl (hni _) | simp[execOp,ho,Instr.makeInterface,run_underlying hu]
 ·cases htr
theorem HZ{fn:Fn}{f c:Array Operand}(ho:o.op= .makeFunc fn f c)(htr:aS P o=some ao)(hrun:aop a h ao=some (v,h',rd))(ht:Ops ρ a act ao.uses):
  NE P ρ h w ((execOp act.eval o).run P w) v h':=by
 simp only[aS,ho]at htr;split at htr
 ·cases htr
 ·cases htr
 ·rename_i fn' f' c' hny hnm hf hc;cases htr;simp only[AO.uses]at ht;have h1:=lW hf ht.left;have h2:=lW hc ht.right;simp only[aop,Option.some.injEq,Prod.mk.injEq]at hrun;obtain⟨rfl,rfl,rfl⟩:=hrun;have hp:∀g:Fn,(∀l,g= .yield l->False)->(∀t n,g= .methodOf t n->False)->rG g=true:=fun g hg hm=>by cases g<;>first | rfl | exact absurd rfl (hg _) | exact absurd rfl (hm _ _)
  refine NE.val (u:= .func _ (f.toList.map act.eval).toArray (c.toList.map act.eval).toArray) ?_ (.func _ _ _ _ _ (hp _ hny hnm) h1.1 h2.1 h1.2 h2.2);simp[execOp,ho,Instr.makeFunc];exact⟨by apply Array.ext';simp,by apply Array.ext';simp⟩
 ·cases htr
theorem L0{t:TypeId}{r:Option Operand}(ho:o.op= .makeMap t r)(htr:aS P o=some ao)(hrun:aop a h ao=some (v,h',rd)):
  NE P ρ h w ((execOp act.eval o).run P w) v h':=by
 cases r with
 | some x=>simp[aS,ho]at htr
 | none=>
  simp only[aS,ho,Option.some.injEq]at htr;subst htr;simp only[aop,Option.some.injEq,Prod.mk.injEq]at hrun;obtain⟨rfl,rfl,rfl⟩:=hrun;refine NE.new (u:= .map (some w.heap.size)) (ob:= .map #[] 0) (l:=⟨w.heap.size,0,0⟩) rfl ?_ fun hfr=>⟨.map h.next ⟨w.heap.size,0,0⟩ (aV _ _ _),?_⟩
  ·simp[execOp,ho,Instr.makeMap]
  ·exact⟨#[],0,heap_alloc_new w _,VRs.nil _,VRs.nil _⟩
end
end Go.Am

