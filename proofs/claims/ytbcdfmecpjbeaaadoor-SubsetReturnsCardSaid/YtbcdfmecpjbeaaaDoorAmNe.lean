/- The operations that change no object that was there: each runs as the abstract machine says. -/
import Derived.Test.YtbcdfmecpjbeaaaDoorAmRel
import Derived.Great.BuildSlice
set_option linter.unusedVariables false
set_option linter.unusedSimpArgs false
namespace Go.Am
section
variable {P:Program} {ρ:Emb} {w:World} {a:List AV} {act:Act} {h:H}
def NE (P:Program) (ρ:Emb) (h:H) (w:World) (r:Result Next) (v:AV) (h':H):Prop:=
 ∃u,(h'=h∧r= .ok (.value u) w∧VR ρ v u)∨
  (∃ao ob l,h'=h.alloc ao∧l.blk=w.heap.size∧r= .ok (.value u) (w.alloc ob)∧(ρ h.next=none→VR (upd ρ h.next l) v u∧OR P (upd ρ h.next l) (w.alloc ob) l ao))
theorem NE.val {r:Result Next} {v:AV} {u:Value} (hr:r= .ok (.value u) w) (hv:VR ρ v u):NE P ρ h w r v h:=⟨u,.inl ⟨rfl,hr,hv⟩⟩
theorem NE.new {r:Result Next} {v:AV} {u:Value} {ao:AObj} {ob:Obj} {l:Loc} (hb:l.blk=w.heap.size) (hr:r= .ok (.value u) (w.alloc ob))
  (hv:ρ h.next=none→VR (upd ρ h.next l) v u∧OR P (upd ρ h.next l) (w.alloc ob) l ao):NE P ρ h w r v (h.alloc ao):=⟨u,.inr ⟨ao,ob,l,rfl,hb,hr,hv⟩⟩
theorem run_typeInfo {t:TypeId} {i:TypeInfo} (hi:P.info? t=some i) (w:World):(typeInfo t).run P w= .ok i w:=by simp[typeInfo,hi]
theorem run_sizeA {t:TypeId} {n:Nat} (hs:sizeA P t=some n) (w:World):(sizeOf t).run P w= .ok n w:=by
 unfold sizeA at hs
 cases hi:P.info? t with
 | none=>simp[hi]at hs
 | some i=>simp[hi]at hs;subst hs;simp[sizeOf,run_typeInfo hi]
theorem run_isAggA {t:TypeId} {b:Bool} (hs:isAggA P t=some b) (w:World):(isAgg t).run P w= .ok b w:=by
 unfold isAggA at hs
 cases hu:P.underlying t with
 | none=>simp[hu]at hs
 | some d=>cases d<;>simp[hu]at hs<;>subst hs<;>simp[isAgg,run_underlying hu]
theorem run_zeroA {t:TypeId} {z:List AV} (hs:zeroA P t=some z):∃u i,P.info? t=some i∧i.zero=some u∧(∀w,(zeroValue t).run P w= .ok u w)∧optAll trConst1 u.cells.toList=some z:=by
 unfold zeroA at hs
 cases hi:P.info? t with
 | none=>simp[hi]at hs
 | some i=>
  cases hz:i.zero with
  | none=>simp[hi,hz]at hs
  | some u=>exact⟨u,i,rfl,hz,fun w=>by simp[zeroValue,run_typeInfo hi,hz],by simpa [hi,hz] using hs⟩
theorem OR.cell {l:Loc} {o:AObj} {b i:Nat} {v:AV} (ho:OR P ρ w l o) (hg:h.get b=some o) (hc:getCell h b i=some v):
  ∃u,w.cell? ⟨l.blk,l.base+i,none⟩=some u∧VR ρ v u:=by
 unfold getCell at hc
 rw[hg]at hc
 cases o<;>simp at hc
 rename_i ver rw cs
 obtain⟨cc,fz,e,h1,h2,h4,h5,h6⟩:=ho
 obtain⟨u,hu,hv⟩:=h6 i v hc
 exact⟨u,by simp[World.cell?,h1,hu],hv⟩
theorem getCell_obj {b i:Nat} {v:AV} (hc:getCell h b i=some v):∃o,h.get b=some o∧o.islive=true:=by
 unfold getCell at hc
 cases hg:h.get b with
 | none=>simp[hg]at hc
 | some o=>exact⟨o,rfl,by cases o<;>simp[hg]at hc;rfl⟩
theorem getCells_obj {b i n:Nat} {cs:List AV} (hc:q56 h b i n=some cs):∃ver rw all,h.get b=some (.cells ver rw all)∧i+n≤all.length∧cs=(all.drop i).take n:=by
 unfold q56 at hc
 cases hg:h.get b with
 | none=>simp[hg]at hc
 | some o=>
  cases o<;>simp[hg]at hc
  exact⟨_,_,_,rfl,hc.1,hc.2.symm⟩
theorem OR.cells {l:Loc} {ver:Nat} {rw:Bool} {all cs:List AV} {i n:Nat} (ho:OR P ρ w l (.cells ver rw all)) (hn:i+n≤all.length) (hcs:cs=(all.drop i).take n):
  ∃us,VRs ρ cs us∧us.length=n∧∀j u,us[j]? =some u→w.cell? ⟨l.blk,l.base+i+j,none⟩=some u:=by
 obtain⟨cc,fz,e,h1,h2,h4,h5,h6⟩:=ho
 subst hcs
 have hlen:((all.drop i).take n).length=n:=by simp;omega
 refine⟨(cc.toList.drop (l.base+i)).take n,⟨?_,fun j v u hv hu=>?_⟩,?_,fun j u hu=>?_⟩
 ·rw[hlen];simp;omega
 ·have hj:j<n:=by have:=(List.getElem?_eq_some_iff.1 hv).1;omega
  rw[List.getElem?_take,if_pos hj,List.getElem?_drop]at hv hu
  obtain⟨u',hu',hv'⟩:=h6 (i+j) v hv
  rw[Array.getElem?_toList,Nat.add_assoc,hu']at hu
  cases hu;exact hv'
 ·simp;omega
 ·have hj:j<n:=by have h9:=(List.getElem?_eq_some_iff.1 hu).1;have:((cc.toList.drop (l.base+i)).take n).length≤n:=List.length_take_le _ _;omega
  rw[List.getElem?_take,if_pos hj,List.getElem?_drop,Array.getElem?_toList]at hu
  simp[World.cell?,h1,hu]
theorem Addr.add_mk (b o i:Nat):(⟨b,o,none⟩:Addr).add i=⟨b,o+i,none⟩:=by unfold Addr.add;split<;>simp_all
theorem OR.newRow {l:Loc} {ver:Nat} {rw:Bool} {cs:List AV} {cc:Array Value} {e:TypeId} (hb:l.blk=w.heap.size) (hbase:l.base=0) (hlim:l.lim=cc.size)
  (hlen:cs.length≤cc.size) (hv:∀(i:Nat) (v:AV),cs[i]? =some v→∃u,cc[i]? =some u∧VR ρ v u):OR P ρ (w.alloc (.cells cc e)) l (.cells ver rw cs):=
 ⟨cc,(0,0),e,by rw[hb];exact heap_alloc_new w _,hlim.symm,by omega,fun _=>rfl,fun i v h=>by rw[hbase,Nat.zero_add];exact hv i v h⟩
theorem length_over:∀(cs:List AV) (off:Nat) (new:List AV),off+new.length≤cs.length→(over cs off new).length=cs.length
 | cs,0,new,h=>by simp[over]at h ⊢;omega
 | [],off+1,new,h=>by simp at h
 | c::cs,off+1,new,h=>by simp only[over,List.length_cons];rw[length_over cs off new (by simp at h;omega)]
theorem over_eq:∀(cs:List AV) (off:Nat) (new:List AV),off+new.length≤cs.length→over cs off new=cs.take off++new++cs.drop (off+new.length)
 | cs,0,new,h=>by simp[over]
 | [],off+1,new,h=>by simp at h
 | c::cs,off+1,new,h=>by
  simp only[over]
  rw[over_eq cs off new (by simp at h;omega)]
  simp[Nat.add_right_comm]
theorem foldl_cells (off:Nat):∀(new:List Value) (k:Nat) (cs:Array Value),off+k+new.length≤cs.size→
  ((new.zipIdx k).foldl (fun cs (x:Value×Nat)=>cs.setIfInBounds (off+x.2) x.1) cs)=(cs.toList.take (off+k)++new++cs.toList.drop (off+k+new.length)).toArray
 | [],k,cs,h=>by simp
 | c::new,k,cs,h=>by
  simp only[List.zipIdx_cons,List.foldl_cons]
  rw[foldl_cells off new (k+1) _ (by simp at h ⊢;omega)]
  simp only[Array.toList_setIfInBounds]
  congr 1
  simp only[List.length_cons]at h
  have hs:off+k<cs.toList.length:=by simp;omega
  have e1:(cs.toList.set (off+k) c).take (off+(k+1))=cs.toList.take (off+k)++[c]:=by
   rw[show off+(k+1)=off+k+1 from rfl,List.take_add_one,List.take_set_of_le (by omega),List.getElem?_set_self hs];rfl
  have e2:(cs.toList.set (off+k) c).drop (off+(k+1)+new.length)=cs.toList.drop (off+k+(new.length+1)):=by
   rw[List.drop_set_of_lt (by omega)];congr 1;omega
  rw[e1,e2]
  simp
theorem fill_ok (place:Nat→Option (Nat×Nat)):∀{ps:List (Nat×Operand)} {qs:List (Nat×Nat×AR)},trParts place ps=some qs→
  (∀t∈qs.flatMap (fun p=>opR p.2.2),VR ρ (tget a t) (act.tmps.getD t undef))→∀{cs cs':List AV} {us:Array Value},VRs ρ cs us.toList→fillA a cs qs=some cs'→
  ∃us':Array Value,Instr.fill place us (ps.map fun p=>(p.1,act.eval p.2))=some us'∧VRs ρ cs' us'.toList
 | [],qs,hp,ht,cs,cs',us,hv,hf=>by cases hp;cases hf;exact⟨us,rfl,hv⟩
 | (i,x)::ps,qs,hp,ht,cs,cs',us,hv,hf=>by
  unfold trParts at hp
  split at hp
  ·rename_i off size y ys hpl hx hys
   cases hp
   simp only[List.flatMap_cons,List.mem_append]at ht
   have hxv:=q21 hx (fun t h=>ht t (.inl h))
   unfold fillA at hf
   split at hf
   ·rename_i hcond
    simp only[Bool.and_eq_true,decide_eq_true_eq]at hcond
    obtain⟨⟨h1,h2⟩,h3⟩:=hcond
    obtain⟨hc,_⟩:=hxv.cells h3
    have hlen:(act.eval x).cells.size=size:=by have:=hc.1;simp at this;omega
    have hsz:us.size=cs.length:=by have:=hv.1;simpa using this
    have hnew:VRs ρ (over cs off (ev a y).cells) ((act.eval x).cells.zipIdx.foldl (fun cs (c,j)=>cs.setIfInBounds (off+j) c) us).toList:=by
     rw[←Array.foldl_toList,Array.toList_zipIdx]
     rw[foldl_cells off (act.eval x).cells.toList 0 us (by simp;omega)]
     rw[over_eq cs off _ (by omega)]
     simp only[Nat.add_zero]
     rw[h1,show(act.eval x).cells.toList.length=size from by simpa using hlen]
     exact((hv.take off).append hc).append (hv.drop (off+size))
    obtain⟨us',hu,hr⟩:=fill_ok place hys (fun t h=>ht t (.inr h)) hnew hf
    refine⟨us',?_,hr⟩
    rw[List.map_cons]
    unfold Instr.fill
    simp only[hpl]
    rw[if_neg (by simp[hlen,hsz];omega)]
    exact hu
   ·cases hf
  ·cases hp
theorem cells_repl {n:Nat} {z:List AV} {us:List Value} (hz:VRs ρ z us) (hp:0<z.length):VRs ρ (repl n z) ((Array.range (n*us.length)).map (us.toArray[· % us.toArray.size]!)).toList:=by
 have hl:us.length=z.length:=hz.1
 have hlr:∀n:Nat,(repl n z).length=n*z.length:=by
  intro n
  induction n with
  | zero=>simp[repl]
  | succ n ih=>simp[repl,ih,Nat.add_mul,Nat.add_comm]
 have hgr:∀(n i:Nat),i<n*z.length→(repl n z)[i]? =z[i % z.length]? :=by
  intro n
  induction n with
  | zero=>intro i hi;simp at hi
  | succ n ih=>
   intro i hi
   simp only[repl]
   rw[List.getElem?_append]
   by_cases h1:i<z.length
   ·rw[if_pos h1,Nat.mod_eq_of_lt h1]
   ·rw[if_neg h1,ih (i-z.length) (by rw[Nat.add_mul]at hi;omega)]
    congr 1
    conv=>rhs;rw[show i=(i-z.length)+z.length from by omega,Nat.add_mod_right]
 refine⟨by simp[hlr,hl],fun i v u h1 h2=>?_⟩
 have hi:i<n*z.length:=by have:=(List.getElem?_eq_some_iff.1 h1).1;rw[hlr]at this;exact this
 rw[hgr n i hi]at h1
 have hm:i % z.length<us.length:=by rw[hl];exact Nat.mod_lt _ hp
 simp only[Array.toList_map,List.getElem?_map,Array.toList_range,List.getElem?_range (show i<n*us.length from by rw[hl];exact hi),Option.map_some]at h2
 cases h2
 have:us.toArray[i % us.toArray.size]! =us[i % z.length]:=by
  simp only[List.size_toArray,hl]
  rw[List.getElem!_toArray,getElem!_pos us (i % z.length) hm]
 rw[this]
 exact hz.2 _ _ _ h1 (List.getElem?_eq_getElem hm)
end
end Go.Am

