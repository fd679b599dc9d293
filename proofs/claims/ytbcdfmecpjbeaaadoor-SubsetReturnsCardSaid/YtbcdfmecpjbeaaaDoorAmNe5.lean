/- The operations that change no object that was there: the builtins, and all of them in one. -/
import Derived.Test.YtbcdfmecpjbeaaaDoorAmNe4
set_option linter.unusedVariables false
set_option linter.unusedSimpArgs false
namespace Go.Am
section
variable {P:Program} {ρ:Emb} {w:World} {a:List AV} {act:Act} {h h':H} {o:Oper} {ao:AO} {v:AV} {rd:List Nat}
theorem foldMax_ok {f:Value→Value→Sem Value} {g:AV→AV→Option AV} (hfg:∀{x y r:AV} {u u':Value},g x y=some r→VR ρ x u→VR ρ y u'→∃z,VR ρ r z∧(f u u').run P w= .ok z w):
  ∀{xs:List AV} {us:List Value} {x r:AV} {u:Value},foldO g x xs=some r→VR ρ x u→VRs ρ xs us→∃z,VR ρ r z∧(us.foldlM f u).run P w= .ok z w:=by
 intro xs
 induction xs with
 | nil=>intro us x r u hf hx hs;simp[foldO]at hf;subst hf;rw[hs.nil_inv];exact⟨u,hx,rfl⟩
 | cons y ys ih=>
  intro us x r u hf hx hs
  obtain⟨u',us',rfl,h1,h2⟩:=hs.cons_inv
  simp only[foldO]at hf
  split at hf
  ·rename_i q hq
   obtain⟨z,hz,hr⟩:=hfg hq hx h1
   obtain⟨z2,hz2,hr2⟩:=ih hf hz h2
   exact⟨z2,hz2,by simp only[List.foldlM_cons,Sem.run_bind,hr,Result.andThen_ok,hr2]⟩
  ·cases hf
theorem max2_ok {x y r:AV} {u u':Value} (h:amax2 x y=some r) (hx:VR ρ x u) (hy:VR ρ y u'):∃z,VR ρ r z∧(Builtin.max2 u u').run P w= .ok z w:=by
 unfold amax2 at h
 split at h
 ·cases h;rw[hx.int_inv,hy.int_inv];exact⟨_,.int _ _,by simp[Builtin.max2]⟩
 ·cases h
theorem min2_ok {x y r:AV} {u u':Value} (h:amin2 x y=some r) (hx:VR ρ x u) (hy:VR ρ y u'):∃z,VR ρ r z∧(Builtin.min2 u u').run P w= .ok z w:=by
 unfold amin2 at h
 split at h
 ·cases h;rw[hx.int_inv,hy.int_inv];exact⟨_,.int _ _,by simp[Builtin.min2]⟩
 ·cases h
theorem ne_builtin {c:Call} {b:Builtin} (ho:o.op= .call c) (hc:c.callee= .builtin b) (htr:q29 P o=some ao) (hne:ao.effect=false) (hrun:aop a h ao=some (v,h',rd)) (ht:Ops ρ a act ao.uses) (hobj:Objs P ρ h w rd):
  NE P ρ h w ((execOp act.eval o).run P w) v h':=by
 have hexec:∀(u:Value),((builtin b c.argTypes o.type (c.args.map fun | .const _=>true | _=>false) (c.args.map act.eval)).run P w= .ok (.value u) w)→(execOp act.eval o).run P w= .ok (.value u) w:=by
  intro u hu
  simp only[execOp,ho,resolve,hc,Sem.run_bind,Sem.run_pure,Result.andThen_ok,invoke]
  exact hu
 simp only[q29,ho,hc]at htr
 unfold trBuiltin at htr
 split at htr
 ·--append
  split at htr
  ·split at htr
   ·split at htr
    ·cases htr;simp[AO.effect]at hne
    ·cases htr
   ·cases htr
  ·split at htr
   ·split at htr
    ·cases htr;simp[AO.effect]at hne
    ·cases htr
   ·cases htr
  ·cases htr
 ·--len
  rename_i t ts x hts hargs
  have hat:c.argTypes[0]? =some t:=by rw[←Array.getElem?_toList,hts];rfl
  have hag:c.args[0]? =some x:=by rw[←Array.getElem?_toList,hargs];rfl
  have hl:∀{u:Value},(Builtin.len_ c.argTypes o.type (c.args.map act.eval)).run P w= .ok u w→(execOp act.eval o).run P w= .ok (.value u) w:=fun hh=>hexec _ (by simp[builtin,hh])
  split at htr
  ·rename_i e x' hu hx;cases htr
   have hxv:=q21 hx ht
   simp only[aop]at hrun
   split at hrun
   ·rename_i hm;cases hrun;rw[hm]at hxv
    have hxe:act.eval x= .slice none 0 0:=by generalize act.eval x=u at hxv;cases hxv;rfl
    exact NE.val (hl (by simp[Builtin.len_,hat,hag,hxe,run_underlying hu];rfl)) (.int _ _)
   ·rename_i fl sz b i n hm;cases hrun;rw[hm]at hxv
    obtain⟨ad,cap,hxe,_⟩:=hxv.slice_inv
    exact NE.val (hl (by simp[Builtin.len_,hat,hag,hxe,run_underlying hu];rfl)) (.int _ _)
   ·cases hrun
  ·rename_i x' hu hx;cases htr
   have hxv:=q21 hx ht
   simp only[aop]at hrun
   split at hrun
   ·rename_i s hm;cases hrun;rw[hm]at hxv
    exact NE.val (hl (by simp[Builtin.len_,hat,hag,hxv.str_inv,run_underlying hu];rfl)) (.int _ _)
   ·cases hrun
  ·rename_i k e x' hu hx;cases htr
   have hxv:=q21 hx ht
   simp only[aop]at hrun
   split at hrun
   ·rename_i hm;cases hrun;rw[hm]at hxv
    have hxe:act.eval x= .map none:=by generalize act.eval x=u at hxv;cases hxv;rfl
    exact NE.val (hl (by simp[Builtin.len_,hat,hag,hxe,run_underlying hu];rfl)) (.int _ _)
   ·rename_i r hm
    rw[hm]at hxv
    obtain⟨l,hlr,hxe⟩:=hxv.map_inv
    split at hrun
    ·rename_i ver es hg;cases hrun
     obtain⟨en,ck,g1,g2,g3⟩:=hobj r (by simp) l _ hlr hg
     have hgo:(getObj l.blk).run P w= .ok (.map en ck) w:=by simp[getObj,Sem.run,g1]
     have hlen:en.size=es.length:=by have:=g2.1;simpa using this
     exact NE.val (hl (by simp[Builtin.len_,hat,hag,hxe,run_underlying hu,hgo,hlen];rfl)) (.int _ _)
    ·cases hrun
   ·cases hrun
  ·rename_i n e hu;cases htr
   simp only[aop,Option.some.injEq,Prod.mk.injEq]at hrun
   obtain⟨rfl,rfl,rfl⟩:=hrun
   exact NE.val (hl (by simp[Builtin.len_,hat,hag,run_underlying hu];rfl)) (.int _ _)
  ·cases htr
 ·--cap
  rename_i t ts x hts hargs
  have hat:c.argTypes[0]? =some t:=by rw[←Array.getElem?_toList,hts];rfl
  have hag:c.args[0]? =some x:=by rw[←Array.getElem?_toList,hargs];rfl
  have hl:∀{u:Value},(Builtin.cap_ c.argTypes o.type (c.args.map act.eval)).run P w= .ok u w→(execOp act.eval o).run P w= .ok (.value u) w:=fun hh=>hexec _ (by simp[builtin,hh])
  split at htr
  ·rename_i e x' hu hx;cases htr
   have hxv:=q21 hx ht
   simp only[aop]at hrun
   split at hrun
   ·rename_i hm;cases hrun;rw[hm]at hxv
    have hxe:act.eval x= .slice none 0 0:=by generalize act.eval x=u at hxv;cases hxv;rfl
    exact NE.val (hl (by simp[Builtin.cap_,hat,hag,hxe,run_underlying hu];rfl)) (.int _ _)
   ·rename_i sz b i n hm;cases hrun;rw[hm]at hxv
    obtain⟨ad,cap,hxe,_,_,hfl,_⟩:=hxv.slice_inv
    have:=hfl rfl
    subst this
    exact NE.val (hl (by simp[Builtin.cap_,hat,hag,hxe,run_underlying hu];rfl)) (.int _ _)
   ·cases hrun
  ·cases htr
 ·--copy
  repeat' split at htr
  all_goals (first | (cases htr;done) | (cases htr;simp[AO.effect]at hne))
 ·--clear
  repeat' split at htr
  all_goals (first | (cases htr;done) | (cases htr;simp[AO.effect]at hne))
 ·--max
  rename_i x xs hargs
  split at htr
  ·rename_i x' xs' hx hxs;cases htr
   simp only[AO.uses]at ht
   have h1:=q21 hx ht.left
   have h2:=trRs_ok hxs ht.right
   simp only[aop]at hrun
   split at hrun
   ·rename_i r hr;cases hrun
    obtain⟨z,hz,hrz⟩:=foldMax_ok (P:=P) (w:=w) (f:=Builtin.max2) (fun hh p q=>max2_ok hh p q) hr h1 h2
    refine NE.val (hexec z ?_) hz
    have e:(c.args.map act.eval).toList=act.eval x::xs.map act.eval:=by simp[hargs]
    simp only[builtin,Builtin.max_,e,Sem.run_bind,hrz,Result.andThen_ok,Sem.run_pure]
   ·cases hrun
  ·cases htr
 ·--min
  rename_i x xs hargs
  split at htr
  ·rename_i x' xs' hx hxs;cases htr
   simp only[AO.uses]at ht
   have h1:=q21 hx ht.left
   have h2:=trRs_ok hxs ht.right
   simp only[aop]at hrun
   split at hrun
   ·rename_i r hr;cases hrun
    obtain⟨z,hz,hrz⟩:=foldMax_ok (P:=P) (w:=w) (f:=Builtin.min2) (fun hh p q=>min2_ok hh p q) hr h1 h2
    refine NE.val (hexec z ?_) hz
    have e:(c.args.map act.eval).toList=act.eval x::xs.map act.eval:=by simp[hargs]
    simp only[builtin,Builtin.min_,e,Sem.run_bind,hrz,Result.andThen_ok,Sem.run_pure]
   ·cases hrun
  ·cases htr
 ·cases htr
theorem ne_ok0 (htr:q29 P o=some ao) (hne:ao.effect=false) (hrun:aop a h ao=some (v,h',rd)) (ht:Ops ρ a act ao.uses) (hobj:Objs P ρ h w rd):
  NE P ρ h w ((execOp act.eval o).run P w) v h':=by
 cases ho:o.op with
 | move x=>exact ne_move (.inl ho) htr hrun ht
 | assign x=>exact ne_move (.inr ho) htr hrun ht
 | pick c x y=>exact ne_pick ho htr hrun ht
 | alloc e=>exact ne_alloc ho htr hrun
 | box e x=>exact ne_box ho htr hrun ht
 | build t ps=>exact ne_build ho htr hrun ht
 | buildSlice t len ps=>exact ne_buildSlice ho htr hrun ht
 | load t x=>exact ne_load ho htr hrun ht hobj
 | nilCheck x=>exact ne_nilCheck ho htr hrun ht
 | binOp op t x y t2=>
  exact ne_binOp ho htr hrun ht
 | unOp op t x=>exact ne_unOp ho htr hrun ht
 | convert s d x=>exact ne_convert ho htr hrun ht hobj
 | makeInterface t x=>exact ne_makeInterface ho htr hrun ht
 | makeFunc fn f c=>exact ne_makeFunc ho htr hrun ht
 | makeMap t r=>exact ne_makeMap ho htr hrun
 | makeSlice t n c=>exact ne_makeSlice ho htr hrun ht
 | slice t x lo hi mx=>exact ne_slice ho htr hrun ht hobj
 | fieldAddr t x i=>exact ne_fieldAddr ho htr hrun ht
 | field t x i=>exact ne_field ho htr hrun ht
 | indexAddr t x i=>exact ne_indexAddr ho htr hrun ht
 | index t x i=>exact ne_index ho htr hrun ht
 | lookup t x i ok=>exact ne_lookup ho htr hrun ht hobj
 | extract x i=>exact ne_extract ho htr hrun ht
 | panic x=>
  simp only[q29,ho]at htr;cases htr
  simp[aop,ev]at hrun
 | call c=>
  cases hc:c.callee with
  | builtin b=>exact ne_builtin ho hc htr hne hrun ht hobj
  | value f=>
   simp only[q29,ho,hc]at htr
   split at htr
   ·cases htr;simp[AO.effect]at hne
   ·cases htr
  | invoke r m=>simp[q29,ho,hc]at htr
 | store t p x=>
  simp only[q29,ho]at htr
  split at htr
  ·cases htr;simp[AO.effect]at hne
  ·cases htr
 | mapUpdate t m k x=>
  simp only[q29,ho]at htr
  split at htr
  ·split at htr
   ·cases htr;simp[AO.effect]at hne
   ·cases htr
  ·cases htr
 | insert t m k x=>
  simp only[q29,ho]at htr
  split at htr
  ·split at htr
   ·cases htr;simp[AO.effect]at hne
   ·cases htr
  ·cases htr
 | _=>simp[q29,ho]at htr
theorem ne_ok (htr:trOp P o=some ao) (hne:ao.effect=false) (hrun:aop a h ao=some (v,h',rd)) (ht:Ops ρ a act ao.uses) (hobj:Objs P ρ h w rd):
  NE P ρ h w ((execOp act.eval o).run P w) v h':=by
 rcases trOp_cases _ htr with h0 | ⟨rfl,_⟩
 ·exact ne_ok0 h0 hne hrun ht hobj
 ·simp[AO.stuck,aop,ev]at hrun
end
end Go.Am

