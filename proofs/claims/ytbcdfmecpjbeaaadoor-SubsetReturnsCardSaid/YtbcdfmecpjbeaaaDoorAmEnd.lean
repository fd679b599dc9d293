/- From the abstract machine's run to a contract of the program's function, and to what a row asks. -/
import Derived.Test.YtbcdfmecpjbeaaaDoorAmMain
import Derived.WalkKit
import Derived.ProofKit
import Derived.OpenShut
import Derived.Below
import Derived.Carry
set_option linter.unusedVariables false
set_option linter.unusedSimpArgs false
namespace Go.Am
open Go.ChangeShapes Go.WideShapes Go.ChangeAt Go.RowKit
def EntOk (P:Program) (g:Nat) (F:AFn):Prop:=∃fn,P.funcs[g]? =some fn∧trFn P fn=some F∧(fn.name== "runtime.NumGoroutine")=false
theorem calls_of_run {P:Program} {tab:FuncId→Option AF} (ht:TabOk P tab) {n:Nat} {g:FuncId} {args:List AV} {h h':H} {v:AV} (hrun:(run tab n).call g args h=some (v,h'))
  {ρ:Emb} {w:World} {us:List Value} (hv:VRs ρ args us) (hr:HR P ρ h w) (hfr:Fresh ρ h h') (hro:∀x l o,ρ x=some l→h.get x=some o→o.rwlive=false):
  Calls P g us.toArray w fun e w'=>∃u ρ',e= .returned u∧VR ρ' v u∧Below w.heap.size w w':=by
 have hc:=callsIn_wide.1 ((run_ok ht n).call g args h v h' hrun ρ w us hv hr hfr)
 refine hc.mono ?_
 rintro e w' ⟨u,ρ',rfl,h1,h2,s⟩
 refine⟨u,ρ',rfl,h1,⟨s.os,s.tape,s.output,s.size,fun b hb=>s.frame b hb ?_⟩⟩
 intro x l o hx hg hl
 rw[hro x l o hx hg]at hl
 cases hl
theorem true_of_VR {ρ:Emb} {b:Bool} {u:Value} (h:VR ρ (.bool b) u):u= .bool b:=h.bool_inv
theorem calls_closed {P:Program} {tab:FuncId→Option AF} (ht:TabOk P tab) {n:Nat} {g:FuncId} (hrun:(match (run tab n).call g [] H.empty with | some (.bool b,_)=>b | _=>false)=true) (w:World) (hgl:GlbAt P w):
  Calls P g #[] w fun e w'=>e= .returned (.bool true)∧Below w.heap.size w w':=by
 split at hrun
 ·rename_i b h' hr
  subst hrun
  refine(calls_of_run ht hr (ρ:=fun _=>none) (us:=[]) (VRs.nil _) ⟨hgl,fun _ _ _ _ _ _ h=>by(cases h),fun _ _ h=>by(cases h),fun _ _ _ h=>by(cases h),fun _ _ _ _ _ _ h=>by(cases h)⟩ (fun _ _ _=>rfl) (fun _ _ _ h=>by cases h)).mono ?_
  rintro e w' ⟨u,ρ',rfl,h1,h2⟩
  rw[true_of_VR h1]
  exact⟨rfl,h2⟩
 ·cases hrun
section
variable {H:Type} {enc:TypeId×Value→H} {P:Program}
theorem post_of_below {f:Func} {s:ChangeSpec} {apart fresh handsOn again:Bool} {W W':World} {args:Array Value} {v:Value} {ds gs:List (DataW H)} {before pa pv:List MemPlace}
  (hW:DataW.Whole enc P f.params.toList s.vars apart W args.toList ds gs before)
  (hres:∀(b:Nat) (sp:Nat→Bool) (hd:Bool),DataW.TrodAll enc P W' b sp hd f.resultTypes.toList (v.resultList f.resultTypes.size) (s.fn H (ds++gs)).results [])
  (hargs:∀sp:Nat→Bool,(∀p∈before,sp p.block=true)→DataW.TrodAll enc P W' 0 sp true f.params.toList args.toList (s.fn H (ds++gs)).args pa)
  (hvars:∀sp:Nat→Bool,(∀p∈before,sp p.block=true)→DataW.TrodVars enc P W' sp s.vars (s.fn H (ds++gs)).vars pv)
  (hps:before=pa++pv) (hB:Below W.heap.size W W')
  (hok:∀(j:Nat) (t:TypeId) (r:Value),f.resultTypes[j]? =some t→(v.resultList f.resultTypes.size)[j]? =some r→Value.okWide P W' .any 0 t r):
  s.post enc P f apart fresh handsOn again W args v W':=by
 have hold:∀p∈before,(fun b=>decide (b<W.heap.size)) p.block=true:=fun p hp=>by simpa using hW.lt p hp
 refine⟨ds,gs,before,[],pa,pv,hW,hres _ _ _,hargs _ hold,hvars _ hold,hB.frame _,fun _=>?_⟩
 have hlt:=hW.lt
 obtain⟨_,_,_,_,_,hz,hn⟩:=hW
 refine⟨hok,_,_,([]++pa)++pv,⟨[]++pa,pv,trodAll_append (hargs _ (fun _ _=>rfl)) (hres _ _ _),hvars _ (fun _ _=>rfl),rfl,?_,?_⟩,?_⟩
 ·intro b off hp
  have hp':MemPlace.cell b off∈before:=by rw[hps];simpa using hp
  rw[hB.frozen (hlt _ hp')]
  exact hz b off hp'
 ·intro ha
  have:=hn ha
  rw[hps]at this
  simpa using this
 ·intro p hp _
  rw[hps]
  simpa using hp
end
end Go.Am

