/- The operations that change no object that was there, one by one. -/
import Derived.Test.YtbcdfmecpjbeaaaDoorAmNe
set_option linter.unusedVariables false
set_option linter.unusedSimpArgs false
namespace Go.Am
section
variable {P:Program} {ρ:Emb} {w:World} {a:List AV} {act:Act} {h h':H} {o:Oper} {ao:AO} {v:AV} {rd:List Nat}
def Ops (ρ:Emb) (a:List AV) (act:Act) (ts:List Nat):Prop:=∀t∈ts,VR ρ (tget a t) (act.tmps.getD t undef)
def Objs (P:Program) (ρ:Emb) (h:H) (w:World) (rd:List Nat):Prop:=∀x∈rd,∀l ob,ρ x=some l→h.get x=some ob→OR P ρ w l ob
theorem Ops.left {xs ys:List Nat} (h:Ops ρ a act (xs++ys)):Ops ρ a act xs:=fun t ht=>h t (List.mem_append.2 (.inl ht))
theorem Ops.right {xs ys:List Nat} (h:Ops ρ a act (xs++ys)):Ops ρ a act ys:=fun t ht=>h t (List.mem_append.2 (.inr ht))
theorem VR.int_inv {k:IntKind} {n:Int} {u:Value} (h:VR ρ (.int k n) u):u= .int k n:=by cases h;rfl
theorem VR.bool_inv {b:Bool} {u:Value} (h:VR ρ (.bool b) u):u= .bool b:=by cases h;rfl
theorem VR.str_inv {s:ByteArray} {u:Value} (h:VR ρ (.str s) u):u= .string s:=by cases h;rfl
theorem VR.ptr_inv {b i:Nat} {u:Value} (h:VR ρ (.ptr b i) u):∃l,ρ b=some l∧u= .pointer (some ⟨l.blk,l.base+i,none⟩):=by cases h with | ptr _ _ l h=>exact⟨l,h,rfl⟩
theorem VR.map_inv {r:Nat} {u:Value} (h:VR ρ (.map r) u):∃l,ρ r=some l∧u= .map (some l.blk):=by cases h with | map _ l h=>exact⟨l,h,rfl⟩
theorem ne_move {x:Operand} (ho:o.op= .move x∨o.op= .assign x) (htr:q29 P o=some ao) (hrun:aop a h ao=some (v,h',rd)) (ht:Ops ρ a act ao.uses):
  NE P ρ h w ((execOp act.eval o).run P w) v h':=by
 have e:(trR x).map AO.move=some ao:=by rcases ho with ho | ho<;>simpa [q29,ho] using htr
 simp only[Option.map_eq_some_iff]at e
 obtain⟨r,hr,rfl⟩:=e
 simp only[aop,Option.some.injEq,Prod.mk.injEq]at hrun
 obtain⟨rfl,rfl,rfl⟩:=hrun
 exact NE.val (by rcases ho with ho | ho<;>simp[execOp,ho]) (q21 hr ht)
theorem ne_pick {c x y:Operand} (ho:o.op= .pick c x y) (htr:q29 P o=some ao) (hrun:aop a h ao=some (v,h',rd)) (ht:Ops ρ a act ao.uses):
  NE P ρ h w ((execOp act.eval o).run P w) v h':=by
 simp only[q29,ho]at htr
 split at htr
 ·rename_i c' x' y' hc hx hy
  cases htr
  simp only[AO.uses]at ht
  have h1:=q21 hc ht.left.left
  have h2:=q21 hx ht.left.right
  have h3:=q21 hy ht.right
  simp only[aop]at hrun
  split at hrun
  ·rename_i hb;cases hrun;rw[hb]at h1
   exact NE.val (by simp[execOp,ho,h1.bool_inv,asBool]) h2
  ·rename_i hb;cases hrun;rw[hb]at h1
   exact NE.val (by simp[execOp,ho,h1.bool_inv,asBool]) h3
  ·cases hrun
 ·cases htr
theorem ne_alloc {e:TypeId} (ho:o.op= .alloc e) (htr:q29 P o=some ao) (hrun:aop a h ao=some (v,h',rd)):
  NE P ρ h w ((execOp act.eval o).run P w) v h':=by
 simp only[q29,ho,Option.map_eq_some_iff]at htr
 obtain⟨z,hz,rfl⟩:=htr
 obtain⟨u,i,hi,hzero,hrz,hop⟩:=run_zeroA hz
 simp only[aop,Option.some.injEq,Prod.mk.injEq]at hrun
 obtain⟨rfl,rfl,rfl⟩:=hrun
 have hl:=optAll_len hop
 refine NE.new (u:= .pointer (some ⟨w.heap.size,0,none⟩)) (ob:= .cells u.cells e) (l:=⟨w.heap.size,0,u.cells.size⟩) rfl ?_ fun hfr=>⟨?_,?_⟩
 ·simp[execOp,ho,Instr.alloc,hrz,newVar,newRow]
 ·exact .ptr _ 0 ⟨w.heap.size,0,u.cells.size⟩ (q50 _ _ _)
 ·exact OR.newRow rfl rfl rfl (by simp at hl;omega) (fun i x hx=>by
   obtain⟨y,hy,hr⟩:=(optConst_ok (ρ:=upd ρ h.next ⟨w.heap.size,0,u.cells.size⟩) hop).1.getElem hx
   exact⟨y,by simpa using hy,hr⟩)
theorem ne_box {e:TypeId} {x:Operand} (ho:o.op= .box e x) (htr:q29 P o=some ao) (hrun:aop a h ao=some (v,h',rd)) (ht:Ops ρ a act ao.uses):
  NE P ρ h w ((execOp act.eval o).run P w) v h':=by
 simp only[q29,ho,Option.map_eq_some_iff]at htr
 obtain⟨x',hx,rfl⟩:=htr
 have hxv:=q21 hx ht
 simp only[aop]at hrun
 split at hrun
 ·rename_i hone
  simp only[Option.some.injEq,Prod.mk.injEq]at hrun
  obtain⟨rfl,rfl,rfl⟩:=hrun
  obtain⟨hc,_⟩:=hxv.cells hone
  have hl:=hc.1
  refine NE.new (u:= .pointer (some ⟨w.heap.size,0,none⟩)) (ob:= .cells (act.eval x).cells e) (l:=⟨w.heap.size,0,(act.eval x).cells.size⟩) rfl ?_ fun hfr=>⟨?_,?_⟩
  ·simp[execOp,ho,Instr.box,newVar,newRow]
  ·exact .ptr _ 0 ⟨w.heap.size,0,(act.eval x).cells.size⟩ (q50 _ _ _)
  ·exact OR.newRow rfl rfl rfl (by simp at hl;omega) (fun i y hy=>by
    obtain⟨z,hz,hr⟩:=(hc.mono (upd_sub hfr)).getElem hy
    exact⟨z,by simpa using hz,hr⟩)
 ·cases hrun
theorem run_placesA (w:World):∀(fs:List Field),(∀(i:Nat) (f:Field),fs[i]? =some f→(sizeA P f.type).isSome=true)→
  (fs.mapM fun(f:Field)=>do pure (f.offset,←sizeOf f.type)).run P w= .ok (fs.map fun(f:Field)=>(f.offset,(sizeA P f.type).getD 0)) w
 | [],_=>by simp
 | f::fs,h=>by
  have h0:=h 0 f rfl
  obtain⟨n,hn⟩:=Option.isSome_iff_exists.1 h0
  have ih:=run_placesA w fs (fun i g hg=>h (i+1) g (by simpa using hg))
  simp only[bind_pure_comp]at ih ⊢
  simp only[List.mapM_cons,Sem.run_bind,Sem.run_map,run_sizeA hn,Result.andThen_ok,ih,Sem.run_pure,List.map_cons,hn,Option.getD_some]
theorem ne_build {t:TypeId} {ps:Array (Nat×Operand)} (ho:o.op= .build t ps) (htr:q29 P o=some ao) (hrun:aop a h ao=some (v,h',rd)) (ht:Ops ρ a act ao.uses):
  NE P ρ h w ((execOp act.eval o).run P w) v h':=by
 simp only[q29,ho]at htr
 split at htr
 ·rename_i z fs hz hu
  split at htr
  ·rename_i hall
   simp only[Option.map_eq_some_iff]at htr
   obtain⟨qs,hq,rfl⟩:=htr
   obtain⟨u,i,hi,hzero,hrz,hop⟩:=run_zeroA hz
   simp only[aop]at hrun
   split at hrun
   ·rename_i cs hf
    simp only[Option.some.injEq,Prod.mk.injEq]at hrun
    obtain⟨rfl,rfl,rfl⟩:=hrun
    obtain⟨us',h1,h2⟩:=fill_ok (fieldPlaces P fs) hq ht (us:=u.cells) (optConst_ok hop).1 hf
    refine NE.val (u:= .agg us') ?_ (by have:=h2.aggv;simpa using this)
    have hpl:(fs.mapM fun(f:Field)=>do pure (f.offset,←sizeOf f.type)).run P w= .ok (fs.map fun(f:Field)=>(f.offset,(sizeA P f.type).getD 0)) w:=by
     have:=run_placesA (P:=P) w fs.toList (fun i f hf=>by
      rw[List.all_eq_true]at hall
      exact hall f (List.mem_of_getElem? hf))
     rw[Array.mapM_eq_mapM_toList,Sem.run_map,this]
     simp only[Result.andThen_ok]
     congr 1
     apply Array.ext'
     simp
    have hfp:(fun(i:Nat)=>Option.map (fun(f:Field)=>(f.offset,(sizeA P f.type).getD 0)) fs[i]?)=fieldPlaces P fs:=by
     funext i
     unfold fieldPlaces
     cases hfi:fs[i]? with
     | none=>rfl
     | some f=>
      rw[List.all_eq_true]at hall
      have hm:f∈fs.toList:=List.mem_of_getElem? (by rw[Array.getElem?_toList];exact hfi)
      obtain⟨n,hn⟩:=Option.isSome_iff_exists.1 (hall f hm)
      simp[hn]
    have hpl':=hpl
    simp only[bind_pure_comp]at hpl'
    simp[execOp,ho,Instr.build,hrz,run_underlying hu,hpl',hfp]
    have e2:(List.map (fun(x:Nat×Operand)=>(x.1,act.eval x.2)) ps.toList)=ps.toList.map (fun p=>(p.1,act.eval p.2)):=rfl
    rw[h1]
    rfl
   ·cases hrun
  ·cases htr
 ·rename_i z n e hz hu
  split at htr
  ·rename_i s hs
   simp only[Option.map_eq_some_iff]at htr
   obtain⟨qs,hq,rfl⟩:=htr
   obtain⟨u,i,hi,hzero,hrz,hop⟩:=run_zeroA hz
   simp only[aop]at hrun
   split at hrun
   ·rename_i cs hf
    simp only[Option.some.injEq,Prod.mk.injEq]at hrun
    obtain⟨rfl,rfl,rfl⟩:=hrun
    obtain⟨us',h1,h2⟩:=fill_ok (fun i=>some (i*s,s)) hq ht (us:=u.cells) (optConst_ok hop).1 hf
    refine NE.val (u:= .agg us') ?_ (by have:=h2.aggv;simpa using this)
    simp[execOp,ho,Instr.build,hrz,run_underlying hu,run_sizeA hs]
    rw[h1]
    rfl
   ·cases hrun
  ·cases htr
 ·cases htr
theorem ne_buildSlice {t:TypeId} {len:Nat} {ps:Array (Nat×Operand)} (ho:o.op= .buildSlice t len ps) (htr:q29 P o=some ao) (hrun:aop a h ao=some (v,h',rd)) (ht:Ops ρ a act ao.uses):
  NE P ρ h w ((execOp act.eval o).run P w) v h':=by
 simp only[q29,ho]at htr
 split at htr
 ·rename_i e hu
  split at htr
  ·rename_i s z hs hz
   split at htr
   ·rename_i hc
    simp only[Bool.and_eq_true,decide_eq_true_eq]at hc
    obtain⟨⟨hc1,hc2⟩,hc3⟩:=hc
    simp only[Option.map_eq_some_iff]at htr
    obtain⟨qs,hq,rfl⟩:=htr
    obtain⟨u,i,hi,hzero,hrz,hop⟩:=run_zeroA hz
    simp only[aop]at hrun
    split at hrun
    ·rename_i cs hf
     simp only[Option.some.injEq,Prod.mk.injEq]at hrun
     obtain⟨rfl,rfl,rfl⟩:=hrun
     have hlu:=optAll_len hop
     have hzc:VRs ρ (repl len z) ((Array.range (len*s)).map (u.cells[· % u.cells.size]!)).toList:=by
      have:=cells_repl (ρ:=ρ) (n:=len) (optConst_ok hop).1 (by omega)
      simp only[Array.toArray_toList,Array.length_toList]at this
      rw[hc1,show z.length=u.cells.size from by simpa using hlu]
      exact this
     obtain⟨us',h1,h2⟩:=fill_ok (fun i=>some (i*s,s)) hq ht hzc hf
     have hlen:cs.length=us'.size:=by have:=h2.1;simp at this;omega
     have hfl:us'.size=len*s:=by
      have:∀(ps:List (Nat×Value)) (x y:Array Value),Instr.fill (fun i=>some (i*s,s)) x ps=some y→y.size=x.size:=by
       intro ps
       induction ps with
       | nil=>intro x y e;simp[Instr.fill]at e;subst e;rfl
       | cons p ps ih=>
        intro x y e
        obtain⟨i,q⟩:=p
        simp only[Instr.fill]at e
        split at e
        ·cases e
        ·rw[ih _ _ e]
         rw[←Array.foldl_toList,Array.toList_zipIdx]
         rename_i hcond
         rw[foldl_cells _ _ _ _ (by simp at hcond ⊢;omega)]
         simp at hcond ⊢;omega
      have:=this _ _ _ h1
      simpa using this
     refine NE.new (u:= .slice (some ⟨w.heap.size,0,none⟩) len len) (ob:= .cells us' e) (l:=⟨w.heap.size,0,us'.size⟩) rfl ?_ fun hfr=>⟨?_,?_⟩
     ·by_cases h0:len=0
      ·subst h0
       have e0:¬(0*s>2^24):=by omega
       have e1:∀f:Nat→Value,Array.map f (Array.range 0)=(#[]:Array Value):=fun f=>by simp[Array.range_zero']
       simp[execOp,ho,Instr.buildSlice,run_underlying hu,run_sizeA hs,newRow]
       simp only[Nat.zero_mul,e1]at h1 ⊢
       rw[h1]
       rfl
      ·have hne:len*s≠0:=Nat.mul_ne_zero h0 (by omega)
       have hbig:¬(len*s>2^24):=by omega
       simp[execOp,ho,Instr.buildSlice,run_underlying hu,run_sizeA hs,newRow,hne,hrz,show ¬(16777216<len*s) from by omega]
       rw[h1]
       rfl
     ·refine .slice true s h.next 0 len len _ (Nat.le_refl _) ?_ (fun _=>rfl) (fun hp=>⟨_,q50 _ _ _,rfl,?_⟩)
      ·have:len≤len*s:=Nat.le_mul_of_pos_right _ hc2
       unfold maxLen;omega
      ·simp[hfl]
     ·exact OR.newRow rfl rfl rfl (by omega) (fun i y hy=>by
       obtain⟨z,hz,hr⟩:=(h2.mono (upd_sub hfr)).getElem hy
       exact⟨z,by simpa using hz,hr⟩)
    ·cases hrun
   ·cases htr
  ·cases htr
 ·cases htr
end
end Go.Am

