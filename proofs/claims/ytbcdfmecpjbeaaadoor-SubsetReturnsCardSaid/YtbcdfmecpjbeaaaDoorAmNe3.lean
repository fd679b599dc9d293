/- The operations that change no object that was there, one by one: the second part. -/
import Derived.Test.YtbcdfmecpjbeaaaDoorAmNe2
import Derived.Test.YtbcdfmecpjbeaaaDoorAmFlat
set_option linter.unusedVariables false
set_option linter.unusedSimpArgs false
namespace Go.Am
section
variable {P:Program} {ρ:Emb} {w:World} {a:List AV} {act:Act} {h h':H} {o:Oper} {ao:AO} {v:AV} {rd:List Nat}
theorem run_loadList {ad:Addr} {us:List Value} {n:Nat} (hn:us.length=n) (hc:∀j u,us[j]? =some u→w.cell? (ad.add j)=some u):
  (loadCells ad n).run P w= .ok us.toArray w:=by subst hn;exact run_loadCells_list w ad us hc
theorem ne_load {t:TypeId} {x:Operand} (ho:o.op= .load t x) (htr:q29 P o=some ao) (hrun:aop a h ao=some (v,h',rd)) (ht:Ops ρ a act ao.uses) (hobj:Objs P ρ h w rd):
  NE P ρ h w ((execOp act.eval o).run P w) v h':=by
 simp only[q29,ho]at htr
 split at htr
 ·rename_i n x' hag hsz hx
  cases htr
  have hxv:=q21 hx ht
  simp only[aop]at hrun
  split at hrun
  ·rename_i b i hb
   split at hrun
   ·rename_i cs hcs
    simp only[Option.some.injEq,Prod.mk.injEq]at hrun
    obtain⟨rfl,rfl,rfl⟩:=hrun
    rw[hb]at hxv
    obtain⟨l,hl,hu⟩:=hxv.ptr_inv
    obtain⟨ver,rw,all,hg,hn,e⟩:=getCells_obj hcs
    obtain⟨us,h1,h2,h3⟩:=(hobj b (by simp) l _ hl hg).cells hn e
    refine NE.val (u:= .agg us.toArray) ?_ h1.aggv
    have hrl:(loadCells ⟨l.blk,l.base+i,none⟩ n).run P w= .ok us.toArray w:=run_loadList h2 (fun j u hj=>by rw[Addr.add_mk];exact h3 j u hj)
    simp[execOp,ho,Instr.loadAt,hu,Instr.sureAddr,loadVar,run_isAggA hag,run_sizeA hsz,hrl]
   ·cases hrun
  ·cases hrun
 ·rename_i x' hag hx
  cases htr
  have hxv:=q21 hx ht
  simp only[aop]at hrun
  split at hrun
  ·rename_i b i hb
   split at hrun
   ·rename_i y hy
    simp only[Option.some.injEq,Prod.mk.injEq]at hrun
    obtain⟨rfl,rfl,rfl⟩:=hrun
    rw[hb]at hxv
    obtain⟨l,hl,hu⟩:=hxv.ptr_inv
    obtain⟨ob,hg,_⟩:=getCell_obj hy
    obtain⟨u,h1,h2⟩:=(hobj b (by simp) l _ hl hg).cell hg hy
    refine NE.val (u:=u) ?_ h2
    simp[execOp,ho,Instr.loadAt,hu,Instr.sureAddr,loadVar,run_isAggA hag,h1]
   ·cases hrun
  ·cases hrun
 ·cases htr
theorem ne_nilCheck {x:Operand} (ho:o.op= .nilCheck x) (htr:q29 P o=some ao) (hrun:aop a h ao=some (v,h',rd)) (ht:Ops ρ a act ao.uses):
  NE P ρ h w ((execOp act.eval o).run P w) v h':=by
 simp only[q29,ho,Option.map_eq_some_iff]at htr
 obtain⟨x',hx,rfl⟩:=htr
 have hxv:=q21 hx ht
 simp only[aop]at hrun
 split at hrun
 ·rename_i b i hb;cases hrun;rw[hb]at hxv
  obtain⟨l,hl,hu⟩:=hxv.ptr_inv
  exact NE.val (u:=act.eval x) (by simp[execOp,ho,hu]) hxv
 ·cases hrun
 ·rename_i f c d hne hb;cases hrun;rw[hb]at hxv
  refine NE.val (u:=act.eval x) ?_ hxv
  generalize hy:act.eval x=y at hxv
  cases hxv with
  | func _ _ _ f' c' hp hf hc h1 h2=>
   cases f with
   | method nm=>exact absurd rfl (hne nm)
   | func g=>simp[execOp,ho,hy]
   | methodOf t n=>simp[execOp,ho,hy]
   | via t p f p'=>simp[execOp,ho,hy]
   | yield l=>simp[plainFn]at hp
  | yield r l h=>simp[execOp,ho,hy]
 ·rename_i t y hb;cases hrun;rw[hb]at hxv
  refine NE.val (u:=act.eval x) ?_ hxv
  generalize hy:act.eval x=z at hxv
  cases hxv with
  | iface t v u h=>simp[execOp,ho,hy]
 ·cases hrun
theorem run_intBin {op:BinOp} {k:IntKind} {x y:Int} {r:AV} (hs:q64 op=false) (h:binInt op k x y=some r) (t:TypeId):∃u,VR ρ r u∧(binOp op t (.int k x) (.int k y)).run P w= .ok u w:=by
 cases op<;>simp[q64]at hs<;>simp only[binInt]at h
 case quo=>
  split at h
  ·cases h
  ·rename_i h0;cases h;exact⟨_,.int _ _,by simp[binOp,Op.intDiv,h0]⟩
 case rem=>
  split at h
  ·cases h
  ·rename_i h0;cases h;exact⟨_,.int _ _,by simp[binOp,Op.intDiv,h0]⟩
 all_goals (cases h;first | exact⟨_,.int _ _,by simp[binOp,Op.intArith,Op.intBits]⟩ | exact⟨_,.bool _,by simp[binOp,Op.intCmp]⟩)
theorem run_eqGuard_scalar {op:BinOp} {t:TypeId} {x y:Operand} {u u':Value} (h1:∀c,u≠ .agg c) (h2:u≠ .nilIface):(eqGuard op t x y u u').run P w= .ok () w:=by
 unfold eqGuard
 cases op<;>first | rfl | skip
 all_goals (cases u<;>first | rfl | exact absurd rfl h2 | exact absurd rfl (h1 _))
theorem abin_ok {op:BinOp} {x y r:AV} {u u':Value} (h:abin op x y=some r) (hx:VR ρ x u) (hy:VR ρ y u') (t:TypeId):
  ∃z,VR ρ r z∧(∀X Y:Operand,(eqGuard op t X Y u u').run P w= .ok () w)∧(binOp op t u u').run P w= .ok z w:=by
 unfold abin at h
 split at h
 ·rename_i k a k' b
  have e1:=hx.int_inv;have e2:=hy.int_inv
  subst e1;subst e2
  have hg:∀X Y:Operand,(eqGuard op t X Y (.int k a) (.int k' b)).run P w= .ok () w:=fun X Y=>run_eqGuard_scalar (by simp) (by simp)
  split at h
  ·rename_i hs
   unfold binShift at h
   split at h
   ·cases h
   ·rename_i h0
    cases op<;>simp[q64]at hs
    ·cases h
     exact⟨_,.int _ _,hg,by simp[binOp,Op.shift,h0]⟩
    ·cases h
     exact⟨_,.int _ _,hg,by simp[binOp,Op.shift,h0]⟩
  ·rename_i hs
   split at h
   ·rename_i hk;subst hk
    obtain⟨z,hz,hb⟩:=run_intBin (P:=P) (w:=w) (ρ:=ρ) (by simpa using hs) h t
    exact⟨z,hz,hg,hb⟩
   ·cases h
 ·rename_i a b
  have e1:=hx.str_inv;have e2:=hy.str_inv
  subst e1;subst e2
  have hg:∀X Y:Operand,(eqGuard op t X Y (.string a) (.string b)).run P w= .ok () w:=fun X Y=>run_eqGuard_scalar (by simp) (by simp)
  cases op<;>simp only at h
  case add=>
   split at h
   ·cases h
   ·rename_i h0;cases h
    have hm:IntKind.i64.max=9223372036854775807:=by decide
    rw[hm]at h0
    exact⟨_,.str _,hg,by simp[binOp,Op.stringOp,hm];omega⟩
  case eql=>cases h;exact⟨_,.bool _,hg,by simp[binOp,Op.stringOp]⟩
  case neq=>cases h;exact⟨_,.bool _,hg,by simp[binOp,Op.stringOp]⟩
  all_goals (cases h)
 ·cases h
theorem run_eqNil {t:TypeId} {d:TypeDesc} {kd:Nat} (hu:P.underlying t=some d) (hd:nilKind d=some kd)
  {x y:AV} {b:Bool} {u u':Value} (h:aNil kd x y=some b) (hx:VR ρ x u) (hy:VR ρ y u'):
  (Op.equal t u u').run P w= .ok b w∧(binOp .eql t u u').run P w= .ok (.bool b) w∧(binOp .neq t u u').run P w= .ok (.bool (!b)) w∧(∀c,u≠ .agg c)∧u≠ .nilIface:=by
 have key:∀{u u':Value} {b:Bool},(Op.equal t u u').run P w= .ok b w→((binOp .eql t u u').run P w=((Op.equal t u u').run P w).andThen fun b w=> .ok (.bool b) w)→((binOp .neq t u u').run P w=((Op.equal t u u').run P w).andThen fun b w=> .ok (.bool (!b)) w)→
   (∀c,u≠ .agg c)→u≠ .nilIface→(Op.equal t u u').run P w= .ok b w∧(binOp .eql t u u').run P w= .ok (.bool b) w∧(binOp .neq t u u').run P w= .ok (.bool (!b)) w∧(∀c,u≠ .agg c)∧u≠ .nilIface:=by
  intro u u' b h1 h2 h3 h4 h5
  exact⟨h1,by rw[h2,h1];rfl,by rw[h3,h1];rfl,h4,h5⟩
 unfold aNil at h
 split at h<;>first | (cases h;done) | skip
 all_goals (cases h;(cases hx<;>cases hy<;>cases d<;>first | (simp[nilKind]at hd;done) | skip))
 all_goals (refine key ?_ (by simp[binOp]) (by simp[binOp]) (by simp) (by simp))
 all_goals (unfold Op.equal;show(Op.equalIn (9999+1) t _ _).run P w=_;unfold Op.equalIn;simp[run_underlying hu])
theorem ne_eqCells {op:BinOp} {t t2:TypeId} {x y:Operand} {x' y':AR} (ho:o.op= .binOp op t x y t2) (hu:(∃fs,P.underlying t=some (.struct fs))∨∃n e,P.underlying t=some (.array n e))
  (hx:trR x=some x') (hy:trR y=some y') (htr:eqCellsOp P op t x' y'=some ao) (hrun:aop a h ao=some (v,h',rd)) (ht:Ops ρ a act ao.uses):
  NE P ρ h w ((execOp act.eval o).run P w) v h':=by
 have fin:∀{z:Value},VR ρ v z→(∀X Y:Operand,(eqGuard op t X Y (act.eval x) (act.eval y)).run P w= .ok () w)→(binOp op t (act.eval x) (act.eval y)).run P w= .ok z w→h'=h→
   NE P ρ h w ((execOp act.eval o).run P w) v h':=by
  intro z hz h1 h2 e
  subst e
  exact NE.val (u:=z) (by simp[execOp,ho,h1,h2]) hz
 unfold eqCellsOp at htr
 split at htr
 ·rename_i T hT
  split at htr
  ·rename_i hc
   cases htr
   simp only[AO.uses]at ht
   simp only[aop]at hrun
   split at hrun<;>first | (cases hrun;done) | skip
   rename_i xs ys hxs hys
   split at hrun<;>first | (cases hrun;done) | skip
   rename_i b hb
   cases hrun
   have e1:=q21 hx ht.left
   have e2:=q21 hy ht.right
   rw[hxs]at e1;rw[hys]at e2
   obtain⟨us,h1,h2⟩:=e1.agg_inv
   obtain⟨vs,h3,h4⟩:=e2.agg_inv
   obtain⟨k1,k2,k3⟩:=eqCells_ok w hu hT hc.1 hc.2 hb h2 h4
   refine fin (z:= .bool _) (.bool _) (fun X Y=>by rw[h1,h3];exact k1 _ X Y) ?_ rfl
   rw[h1,h3];exact k2
  ·cases htr
 ·rename_i T hT
  split at htr
  ·rename_i hc
   cases htr
   simp only[AO.uses]at ht
   simp only[aop]at hrun
   split at hrun<;>first | (cases hrun;done) | skip
   rename_i xs ys hxs hys
   split at hrun<;>first | (cases hrun;done) | skip
   rename_i b hb
   cases hrun
   have e1:=q21 hx ht.left
   have e2:=q21 hy ht.right
   rw[hxs]at e1;rw[hys]at e2
   obtain⟨us,h1,h2⟩:=e1.agg_inv
   obtain⟨vs,h3,h4⟩:=e2.agg_inv
   obtain⟨k1,k2,k3⟩:=eqCells_ok w hu hT hc.1 hc.2 hb h2 h4
   refine fin (z:= .bool _) (.bool _) (fun X Y=>by rw[h1,h3];exact k1 _ X Y) ?_ rfl
   rw[h1,h3];exact k3
  ·cases htr
 ·cases htr
theorem ne_binOp {op:BinOp} {t t2:TypeId} {x y:Operand} (ho:o.op= .binOp op t x y t2) (htr:q29 P o=some ao) (hrun:aop a h ao=some (v,h',rd)) (ht:Ops ρ a act ao.uses):
  NE P ρ h w ((execOp act.eval o).run P w) v h':=by
 have fin:∀{z:Value},VR ρ v z→(∀X Y:Operand,(eqGuard op t X Y (act.eval x) (act.eval y)).run P w= .ok () w)→(binOp op t (act.eval x) (act.eval y)).run P w= .ok z w→h'=h→
   NE P ρ h w ((execOp act.eval o).run P w) v h':=by
  intro z hz h1 h2 e
  subst e
  exact NE.val (u:=z) (by simp[execOp,ho,h1,h2]) hz
 simp only[q29,ho]at htr
 split at htr
 ·rename_i x' y' k hx hy hu
  cases htr
  simp only[AO.uses]at ht
  simp only[aop]at hrun
  split at hrun
  ·rename_i r hr;cases hrun
   obtain⟨z,hz,h1,h2⟩:=abin_ok (P:=P) (w:=w) hr (q21 hx ht.left) (q21 hy ht.right) t
   exact fin hz h1 h2 rfl
  ·cases hrun
 ·rename_i x' y' hx hy hu
  cases htr
  simp only[AO.uses]at ht
  simp only[aop]at hrun
  split at hrun
  ·rename_i r hr;cases hrun
   obtain⟨z,hz,h1,h2⟩:=abin_ok (P:=P) (w:=w) hr (q21 hx ht.left) (q21 hy ht.right) t
   exact fin hz h1 h2 rfl
  ·cases hrun
 ·rename_i x' y' hx hy hu
  split at htr<;>first | (cases htr;done) | skip
  all_goals (cases htr;simp only[AO.uses]at ht;simp only[aop]at hrun;split at hrun<;>first | (cases hrun;done) | skip)
  all_goals
   rename_i p q hp hq
   cases hrun
   have e1:=q21 hx ht.left
   have e2:=q21 hy ht.right
   rw[hp]at e1;rw[hq]at e2
   refine fin (z:= .bool _) (.bool _) (fun X Y=>run_eqGuard_scalar (by simp[e1.bool_inv]) (by simp[e1.bool_inv])) ?_ rfl
   rw[e1.bool_inv,e2.bool_inv]
   first | exact run_eql_bool w t p q hu | exact run_neq_bool w t p q hu
 ·rename_i x' y' fs hx hy hu
  exact ne_eqCells ho (.inl ⟨fs,hu⟩) hx hy htr hrun ht
 ·rename_i x' y' n e hx hy hu
  exact ne_eqCells ho (.inr ⟨n,e,hu⟩) hx hy htr hrun ht
 ·rename_i x' y' d _ _ _ _ _ hx hy hu
  split at htr<;>first | (cases htr;done) | skip
  all_goals (cases htr;simp only[AO.uses]at ht;simp only[aop]at hrun;split at hrun<;>first | (cases hrun;done) | skip)
  all_goals
   rename_i kd hkd _ b hb
   cases hrun
   obtain⟨h1,h2,h3,h4,h5⟩:=run_eqNil (w:=w) hu hkd hb (q21 hx ht.left) (q21 hy ht.right)
   refine fin (z:= .bool _) (.bool _) (fun X Y=>run_eqGuard_scalar h4 h5) ?_ rfl
   first | exact h2 | exact h3
 ·cases htr
theorem ne_unOp {op:UnOp} {t:TypeId} {x:Operand} (ho:o.op= .unOp op t x) (htr:q29 P o=some ao) (hrun:aop a h ao=some (v,h',rd)) (ht:Ops ρ a act ao.uses):
  NE P ρ h w ((execOp act.eval o).run P w) v h':=by
 simp only[q29,ho,Option.map_eq_some_iff]at htr
 obtain⟨x',hx,rfl⟩:=htr
 have hxv:=q21 hx ht
 simp only[aop]at hrun
 split at hrun
 ·rename_i r hr;cases hrun
  unfold aun at hr
  split at hr
  ·rename_i k n he
   rw[he]at hxv
   have e:=hxv.int_inv
   split at hr<;>first | (cases hr;done) | skip
   all_goals (cases hr;exact NE.val (u:= .int _ _) (by simp[execOp,ho,e,Op.unary,Op.intArith,Op.intBits]) (.int _ _))
  ·rename_i b he
   rw[he]at hxv
   have e:=hxv.bool_inv
   split at hr<;>first | (cases hr;done) | skip
   all_goals (cases hr;exact NE.val (u:= .bool _) (by simp[execOp,ho,e,Op.unary]) (.bool _))
  ·cases hr
 ·cases hrun
theorem ne_makeInterface {t:TypeId} {x:Operand} (ho:o.op= .makeInterface t x) (htr:q29 P o=some ao) (hrun:aop a h ao=some (v,h',rd)) (ht:Ops ρ a act ao.uses):
  NE P ρ h w ((execOp act.eval o).run P w) v h':=by
 simp only[q29,ho]at htr
 split at htr
 ·cases htr
 ·rename_i d hni hu
  simp only[Option.map_eq_some_iff]at htr
  obtain⟨x',hx,rfl⟩:=htr
  have hxv:=q21 hx ht
  simp only[aop,Option.some.injEq,Prod.mk.injEq]at hrun
  obtain⟨rfl,rfl,rfl⟩:=hrun
  refine NE.val (u:= .iface t (act.eval x)) ?_ (.iface _ _ _ hxv)
  cases d<;>first | exact absurd rfl (hni _) | simp[execOp,ho,Instr.makeInterface,run_underlying hu]
 ·cases htr
theorem ne_makeFunc {fn:Fn} {f c:Array Operand} (ho:o.op= .makeFunc fn f c) (htr:q29 P o=some ao) (hrun:aop a h ao=some (v,h',rd)) (ht:Ops ρ a act ao.uses):
  NE P ρ h w ((execOp act.eval o).run P w) v h':=by
 simp only[q29,ho]at htr
 split at htr
 ·cases htr
 ·rename_i fn' f' c' hny hf hc
  cases htr
  simp only[AO.uses]at ht
  have h1:=trRs_ok hf ht.left
  have h2:=trRs_ok hc ht.right
  simp only[aop,Option.some.injEq,Prod.mk.injEq]at hrun
  obtain⟨rfl,rfl,rfl⟩:=hrun
  have hp:∀g:Fn,(∀l,g= .yield l→False)→plainFn g=true:=fun g hg=>by cases g<;>first | rfl | exact absurd rfl (hg _)
  refine NE.val (u:= .func _ (f.toList.map act.eval).toArray (c.toList.map act.eval).toArray) ?_ (.func _ _ _ _ _ (hp _ hny) h1.1 h2.1 h1.2 h2.2)
  simp[execOp,ho,Instr.makeFunc]
  exact⟨by apply Array.ext';simp,by apply Array.ext';simp⟩
 ·cases htr
theorem ne_makeMap {t:TypeId} {r:Option Operand} (ho:o.op= .makeMap t r) (htr:q29 P o=some ao) (hrun:aop a h ao=some (v,h',rd)):
  NE P ρ h w ((execOp act.eval o).run P w) v h':=by
 cases r with
 | some x=>simp[q29,ho]at htr
 | none=>
  simp only[q29,ho,Option.some.injEq]at htr
  subst htr
  simp only[aop,Option.some.injEq,Prod.mk.injEq]at hrun
  obtain⟨rfl,rfl,rfl⟩:=hrun
  refine NE.new (u:= .map (some w.heap.size)) (ob:= .map #[] 0) (l:=⟨w.heap.size,0,0⟩) rfl ?_ fun hfr=>⟨.map h.next ⟨w.heap.size,0,0⟩ (q50 _ _ _),?_⟩
  ·simp[execOp,ho,Instr.makeMap]
  ·exact⟨#[],0,heap_alloc_new w _,VRs.nil _,VRs.nil _⟩
end
end Go.Am

