/- The end of a row's proof, with the third evaluator: tables, closed laws, functions that are known to return true. -/
import Derived.Test.YtbcdfmecpjbeaaaDoorAmK4
import Derived.Test.YtbcdfmecpjbeaaaDoorAmEnd
set_option linter.unusedVariables false
set_option linter.unusedSimpArgs false
namespace Go.Am
open Go.ChangeShapes Go.WideShapes Go.ChangeAt Go.RowKit
def KT.Ok (P:Program):KT→Prop
 | .leaf=>True
 | .node l k f r=>EntOk P k f∧l.Ok P∧r.Ok P
 | .tru l k r=>PrimOk P k primTrue∧l.Ok P∧r.Ok P
 | .tz l k r=>PrimOk P k primTz∧l.Ok P∧r.Ok P
theorem KT.find_fn {P:Program} :∀{t:KT} {g:Nat} {F:AFn},t.Ok P→t.find g=some (.fn F)→EntOk P g F
 | .leaf,_,_,_,h=>by cases h
 | .node l k f r,g,F,hok,h=>by
  unfold KT.find at h
  split at h
  ·rename_i e;cases h;subst e;exact hok.1
  ·split at h
   ·exact KT.find_fn hok.2.1 h
   ·exact KT.find_fn hok.2.2 h
 | .tru l k r,g,F,hok,h=>by
  unfold KT.find at h
  split at h
  ·cases h
  ·split at h
   ·exact KT.find_fn hok.2.1 h
   ·exact KT.find_fn hok.2.2 h
 | .tz l k r,g,F,hok,h=>by
  unfold KT.find at h
  split at h
  ·cases h
  ·split at h
   ·exact KT.find_fn hok.2.1 h
   ·exact KT.find_fn hok.2.2 h
theorem KT.find_prim {P:Program} :∀{t:KT} {g:Nat} {f:List AV→H→Option (AV×H)},t.Ok P→t.find g=some (.prim f)→PrimOk P g f
 | .leaf,_,_,_,h=>by cases h
 | .node l k f r,g,F,hok,h=>by
  unfold KT.find at h
  split at h
  ·cases h
  ·split at h
   ·exact KT.find_prim hok.2.1 h
   ·exact KT.find_prim hok.2.2 h
 | .tru l k r,g,F,hok,h=>by
  unfold KT.find at h
  split at h
  ·rename_i e;cases h;subst e;exact hok.1
  ·split at h
   ·exact KT.find_prim hok.2.1 h
   ·exact KT.find_prim hok.2.2 h
 | .tz l k r,g,F,hok,h=>by
  unfold KT.find at h
  split at h
  ·rename_i e;cases h;subst e;exact hok.1
  ·split at h
   ·exact KT.find_prim hok.2.1 h
   ·exact KT.find_prim hok.2.2 h
theorem KT.tabOk {P:Program} {t:KT} (h:t.Ok P):TabOk P t.find where
 fn g F hg:=by
  obtain⟨fn,h1,h2,h3⟩:=KT.find_fn h hg
  exact⟨fn,h1,h2,h3⟩
 prim g f hg:=KT.find_prim h hg
theorem calls_true {P:Program} {T:KT} (ht:T.Ok P) {n:Nat} {g:FuncId} (hrun:kclosed T n g=true) (w:World) (hgl:GlbAt P w):
  Calls P g #[] w fun e w'=>e= .returned (.bool true)∧Below w.heap.size w w':=by
 obtain⟨h',hr⟩:=kclosed_ok hrun
 exact calls_closed (KT.tabOk ht) (by rw[hr]) w hgl
theorem prim_true {P:Program} {g:FuncId} (hfn:∃fn,P.funcs[g]? =some fn∧fn.body.isSome=true∧(fn.name== "runtime.NumGoroutine")=false)
  (hc:∀w:World,GlbAt P w→Calls P g #[] w fun e w'=>e= .returned (.bool true)∧Below w.heap.size w w'):PrimOk P g primTrue where
 ev args h v h' hr:=by
  cases args with
  | nil=>cases hr;exact Ev.refl h
  | cons x l=>cases hr
 fn:=hfn
 call args h v h' hr ρ w us hv hh hf:=by
  cases args with
  | cons x l=>cases hr
  | nil=>
   cases hr
   rw[hv.nil_inv]
   refine callsIn_wide.2 ((hc w hh.gat).mono ?_)
   rintro e w' ⟨rfl,hb⟩
   refine⟨_,ρ,rfl,.bool true,⟨hh.gat.keep fun b l _ hlt=>hb.block b hlt,hh.goff,fun x l hx=>?_,fun x l o hx hg=>?_,hh.inj⟩,⟨Sub.refl ρ,fun _ _ h=> .inl h,fun _ _ h=> .inl h,hb.size,hb.os,hb.tape,hb.output,fun b hbb _=>hb.block b hbb⟩⟩
   ·have:=hh.bound x l hx;have:=hb.size;omega
   ·exact(hh.obj x l o hx hg).mono (Sub.refl ρ) (hb.block _ (hh.bound x l hx))
theorem wrapU_rng (y:Int):0≤IntKind.u64.wrap y∧IntKind.u64.wrap y<18446744073709551616:=by
 have e:IntKind.u64.wrap y=y % 18446744073709551616:=by
  unfold IntKind.wrap
  simp[IntKind.bits,IntKind.signed]
 rw[e]
 exact⟨Int.emod_nonneg _ (by omega),Int.emod_lt_of_pos _ (by omega)⟩
theorem tzIdx_rng (x:Int):0≤tzIdx x∧tzIdx x<64:=by
 unfold tzIdx
 have:=wrapU_rng (tzAnd x*285870213051353865)
 omega
theorem tzF_zero:tzF 0=64:=by unfold tzF;rw[if_pos rfl]
theorem tzTab_len:tzTab.length=64:=rfl
theorem tzTab_lt:∀y∈tzTab,y<64:=by decide
theorem tzF_at {x:Int} (hx:¬x=0) {n:Nat} (h:tzTab[(tzIdx x).toNat]? =some n):tzF x=wrap64 (n:Int):=by
 have hs:n<64:=tzTab_lt _ (List.mem_of_getElem? h)
 unfold tzF
 rw[if_neg hx,h]
 show(n:Int)=_
 unfold wrap64
 omega
theorem prim_tz {P:Program} {g:FuncId} {b:Nat} (hfn:∃fn,P.funcs[g]? =some fn∧fn.body.isSome=true∧(fn.name== "runtime.NumGoroutine")=false) (hb:gmem P b=some tzTab)
  (h0:∀w:World,Calls P g #[.int .u64 0] w fun e w'=>e= .returned (.int .i64 64)∧w'=w)
  (h1:∀(w:World) (x v:Int),(x==0)=false→w.cell? ⟨b,(tzIdx x).toNat,none⟩=some (.int .u8 v)→tzIdx x<64→0≤tzIdx x→Calls P g #[.int .u64 x] w fun e w'=>e= .returned (.int .i64 (wrap64 v))∧w'=w):PrimOk P g primTz where
 ev args h v h' hr:=by
  unfold primTz at hr
  split at hr
  ·cases hr;exact Ev.refl h
  ·cases hr
 fn:=hfn
 call args h v h' hr ρ w us hv hh hf:=by
  unfold primTz at hr
  split at hr
  ·rename_i n hn
   cases hr
   unfold primTzV at hn
   split at hn
   ·rename_i x
    cases hn
    obtain⟨u,us',rfl,hu,hus⟩:=hv.cons_inv
    rw[hus.nil_inv,hu.int_inv]
    have key:Calls P g #[.int .u64 x] w fun e w'=>e= .returned (.int .i64 (tzF x))∧w'=w:=by
     by_cases e:x=0
     ·rw[e,tzF_zero];exact h0 w
     ·have hi0:=tzIdx_rng x
      obtain⟨cs,ty,fz,g1,g2⟩:=hh.gat b _ hb
      obtain⟨n,hn⟩:∃n,tzTab[(tzIdx x).toNat]? =some n:=⟨_,List.getElem?_eq_getElem (by rw[tzTab_len];omega)⟩
      have hc:cs.toList[(tzIdx x).toNat]? =some (.int .u8 (n:Int)):=by
       rw[g2,List.getElem?_map,hn];rfl
      have hcell:w.cell? ⟨b,(tzIdx x).toNat,none⟩=some (.int .u8 (n:Int)):=by
       rw[Array.getElem?_toList]at hc
       generalize (tzIdx x).toNat=k at hc ⊢
       simp only[World.cell?,g1,Option.isSome_none,Bool.false_eq_true,if_false]
       exact hc
      have:=h1 w x _ (by simpa using e) hcell hi0.2 hi0.1
      rw[tzF_at e hn];exact this
    refine callsIn_wide.2 (key.mono ?_)
    rintro e w' ⟨rfl,rfl⟩
    exact⟨_,ρ,rfl,.int _ _,hh,Stp.refl _ _ _⟩
   ·cases hn
  ·cases hr
end Go.Am

