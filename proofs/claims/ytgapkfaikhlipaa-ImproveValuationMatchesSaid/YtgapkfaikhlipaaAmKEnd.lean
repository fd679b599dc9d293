/- The end of a row's proof, with the third evaluator: tables, closed laws, functions that are known to return true. -/
import Derived.Test.YtgapkfaikhlipaaAmK4
import Derived.Test.YtgapkfaikhlipaaAmEnd
set_option linter.unusedVariables false
set_option linter.unusedSimpArgs false
namespace Go.Am
open Go.ChangeShapes Go.WideShapes Go.ChangeAt Go.RowKit
def KT.Ok (P:Program):KT→Prop
 | .leaf=>True
 | .node l k f r=>EntOk P k f∧l.Ok P∧r.Ok P
 | .tru l k r=>PrimOk P k primTrue∧l.Ok P∧r.Ok P
theorem KT.find_fn {P:Program} :∀{t:KT} {g:Nat} {F:AFn},t.Ok P→t.find g=some (.fn F)→EntOk P g F
 | .leaf,_,_,_,h=>by cases h
 | .node l k f r,g,F,hok,h=>by
  unfold KT.find at h
  split at h
  ·rename_i e;cases h;subst e;exact hok.1
  ·split at h
   ·exact KT.find_fn hok.2.1 h
   ·exact KT.find_fn hok.2.2 h
 | .tru l k r,g,F,hok,h=>by
  unfold KT.find at h
  split at h
  ·cases h
  ·split at h
   ·exact KT.find_fn hok.2.1 h
   ·exact KT.find_fn hok.2.2 h
theorem KT.find_prim {P:Program} :∀{t:KT} {g:Nat} {f:List AV→H→Option (AV×H)},t.Ok P→t.find g=some (.prim f)→PrimOk P g f
 | .leaf,_,_,_,h=>by cases h
 | .node l k f r,g,F,hok,h=>by
  unfold KT.find at h
  split at h
  ·cases h
  ·split at h
   ·exact KT.find_prim hok.2.1 h
   ·exact KT.find_prim hok.2.2 h
 | .tru l k r,g,F,hok,h=>by
  unfold KT.find at h
  split at h
  ·rename_i e;cases h;subst e;exact hok.1
  ·split at h
   ·exact KT.find_prim hok.2.1 h
   ·exact KT.find_prim hok.2.2 h
theorem KT.tabOk {P:Program} {t:KT} (h:t.Ok P):TabOk P t.find where
 fn g F hg:=by
  obtain⟨fn,h1,h2,h3⟩:=KT.find_fn h hg
  exact⟨fn,h1,h2,h3⟩
 prim g f hg:=KT.find_prim h hg
theorem calls_true {P:Program} {T:KT} (ht:T.Ok P) {n:Nat} {g:FuncId} (hrun:kclosed T n g=true) (w:World):
  Calls P g #[] w fun e w'=>e= .returned (.bool true)∧Below w.heap.size w w':=by
 obtain⟨h',hr⟩:=kclosed_ok hrun
 exact calls_closed (KT.tabOk ht) (by rw[hr]) w
theorem prim_true {P:Program} {g:FuncId} (hfn:∃fn,P.funcs[g]? =some fn∧fn.body.isSome=true∧(fn.name== "runtime.NumGoroutine")=false)
  (hc:∀w:World,Calls P g #[] w fun e w'=>e= .returned (.bool true)∧Below w.heap.size w w'):PrimOk P g primTrue where
 ev args h v h' hr:=by
  cases args with
  | nil=>cases hr;exact Ev.refl h
  | cons x l=>cases hr
 fn:=hfn
 call args h v h' hr ρ w us hv hh hf:=by
  cases args with
  | cons x l=>cases hr
  | nil=>
   cases hr
   rw[hv.nil_inv]
   refine callsIn_wide.2 ((hc w).mono ?_)
   rintro e w' ⟨rfl,hb⟩
   refine⟨_,ρ,rfl,.bool true,⟨fun x l hx=>?_,fun x l o hx hg=>?_,hh.inj⟩,⟨Sub.refl ρ,fun _ _ h=> .inl h,fun _ _ h=> .inl h,hb.size,hb.os,hb.tape,hb.output,fun b hbb _=>hb.block b hbb⟩⟩
   ·have:=hh.bound x l hx;have:=hb.size;omega
   ·exact(hh.obj x l o hx hg).mono (Sub.refl ρ) (hb.block _ (hh.bound x l hx))
end Go.Am

