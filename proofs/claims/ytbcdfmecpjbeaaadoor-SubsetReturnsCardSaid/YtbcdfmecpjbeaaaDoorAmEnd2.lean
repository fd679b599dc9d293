/- The end of the proof of a law with arguments: its arguments read as they did. -/
import Derived.Test.YtbcdfmecpjbeaaaDoorAmKEnd
import Derived.Test.YtbcdfmecpjbeaaaDoorAmArgs
import Derived.Carry
import Derived.WideKeyArgs
set_option linter.unusedVariables false
set_option linter.unusedSimpArgs false
namespace Go.Am
open Go.ChangeShapes Go.WideShapes Go.ChangeAt Go.RowKit
theorem trodAll_stays {H0:Type} {enc:TypeId×Value→H0} {P:Program} (hl:laidOutB P=true) {W W':World} (hb:Below W.heap.size W W') {sp:Nat→Bool} :∀{ts:List TypeId} {vs:List Value} {ds:List (DataW H0)} {ps:List MemPlace},
  (ts.all fun t=>P.readableRec t&&decide (t<P.types.size))=true→DataW.TrodAll enc P W 0 (fun _=>true) true ts vs ds ps→(∀x∈ps,x.block<W.heap.size)→(∀x∈ps,sp x.block=true)→DataW.TrodAll enc P W' 0 sp true ts vs ds ps
 | [],vs,ds,ps,ht,h,h1,h2=>by
  obtain⟨rfl,rfl,rfl⟩:=trodAll_nil h
  exact trodAll_mk0
 | t::ts,vs,ds,ps,ht,h,h1,h2=>by
  obtain⟨v,vs',d,ds',p,q,rfl,rfl,rfl,hv,hvs⟩:=trodAll_cons h
  simp only[List.all_cons,Bool.and_eq_true,decide_eq_true_eq]at ht
  obtain⟨⟨hr,hs⟩,ht⟩:=ht
  have hv':=WideElems.Trod_stays hl hr hs hv (fun x hx=>hb.same (h1 x (by simp[hx]))) (fun x hx=>h2 x (by simp[hx]))
  exact⟨p,q,hv',trodAll_stays hl hb (by simpa using ht) hvs (fun x hx=>h1 x (by simp[hx])) (fun x hx=>h2 x (by simp[hx])),rfl⟩
theorem trodAll_len {H0:Type} {enc:TypeId×Value→H0} {P:Program} {W:World} {b:Nat} {sp:Nat→Bool} {hd:Bool} :∀{ts:List TypeId} {vs:List Value} {ds:List (DataW H0)} {ps:List MemPlace},DataW.TrodAll enc P W b sp hd ts vs ds ps→ds.length=ts.length
 | [],vs,ds,ps,h=>by obtain⟨rfl,rfl,rfl⟩:=trodAll_nil h;rfl
 | t::ts,vs,ds,ps,h=>by
  obtain⟨v,vs',d,ds',p,q,rfl,rfl,rfl,hv,hvs⟩:=trodAll_cons h
  simp[trodAll_len hvs]
end Go.Am

