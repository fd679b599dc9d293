/- Rows that list package variables: the tables of the library are as the text lays them. -/
import Derived.Test.YtapbgleednkimaaGreatDoorAmKEnd
import Derived.OpenShut
import Derived.LaidLaws
import Derived.FnData
set_option linter.unusedVariables false
set_option linter.unusedSimpArgs false
namespace Go.Am
open Go.ChangeShapes Go.WideShapes Go.ChangeAt Go.RowKit
theorem F6{H:Type}{enc:TypeId×Value->H}{P:Program}{w:World}{sp:Nat->Bool}{held:Bool}{base fuel:Nat}{t e:TypeId}{k:IntKind}{N:Nat}(ht:P.underlying t=some (.array N e))(he:P.underlying e=some (.int k))(hc:P.cellsOf e=1)(hct:P.cellsOf t=N)
  {T:List Nat} (hT:T.length=N) {cs:List Value} {p:List MemPlace} (h:DataW.trod enc P w base sp held fuel t cs=some (.agg (T.map fun n:Nat=>DataW.lit (.int k (n:Int))),p)):cs=T.map fun n:Nat=>Value.int k (n:Int):=by
 obtain⟨xs,m,_,hx,hl,hxl,hi⟩:=DataW.trod_array ht h;have hx1:T.map (fun n:Nat=>DataW.lit (.int k (n:Int)))=xs.map (·.1):=by have:=congrArg Prod.fst hx;simpa using this
 refine List.ext_getElem? fun i=>?_;by_cases h64:i<N
 ·obtain⟨y,hy⟩:∃y,xs[i]? =some y:=⟨_,List.getElem?_eq_getElem (by omega)⟩;obtain⟨n,hn⟩:∃n,T[i]? =some n:=⟨_,List.getElem?_eq_getElem (by omega)⟩;have h1:=hi i h64;rw[hy,hc,Nat.mul_one]at h1;obtain⟨k,h2,h3,_⟩:=DataW.trod_int he h1;have h4:=congrArg (fun l:List (DataW H)=>l[i]?) hx1;simp only[List.getElem?_map,hn,hy,Option.map_some,Option.some.injEq,h3]at h4;injection h4 with h5;injection h5 with _ h6;have h7:=congrArg (fun l:List Value=>l[0]?) h2;simp only[List.getElem?_take,List.getElem?_drop]at h7;rw[List.getElem?_map,hn];simpa [h6]using h7
 ·rw[List.getElem?_eq_none (by omega),List.getElem?_eq_none (by rw[List.length_map];omega)]
theorem I4{H:Type}{enc:TypeId×Value->H}{P:Program}{w:World}{sp:Nat->Bool}{held:Bool}{base fuel:Nat}{t:TypeId}{ms:Array (String×TypeId)}(ht:P.underlying t=some (.interface ms))
  {nm:String} {d:DataW H} {cs:List Value} {p:List MemPlace} (h:DataW.trod enc P w base sp held fuel t cs=some (.iface nm d,p)):∃te pe,cs=[.iface te pe]:=by
 cases fuel with
 | zero=>simp[DataW.trod]at h
 | succ m=>unfold DataW.trod at h;rw[ht]at h;split at h<;>simp_all
theorem rN{P:Program}{w:World}{n:String}{d:DataW Unit} :∀{l:List (String×DataW Unit)} {ps:List MemPlace},DataW.LaidVars P w l ps->(n,d)∈l->
  ∃g t cs fuel p,P.globalNamed n=some g/\(P.globals[g]?).map (·.type)=some t/\w.var? P n=some cs/\DataW.trod (fun _=>()) P w 0 (fun _=>true) false fuel t cs.toList=some (d,p)
 | [],ps,h,hm=>by cases hm
 | (n',d')::r,ps,h,hm=>by
  obtain⟨g,t,cs,fuel,p,q,h1,h2,h3,h4,h5,_⟩:=h;rcases List.mem_cons.1 hm with e | e
  ·cases e;exact⟨g,t,cs,fuel,p,h1,h2,h3,h4⟩
  ·exact rN h5 e
theorem yA{P:Program}{b:Nat}{t:TypeId}{l:List (String×DataW Unit)}{W:World}{n:String}{d:DataW Unit}(hg:P.globalNamed n=some b)(htp:(P.globals[b]?).map (·.type)=some t)(hl:(n,d)∈l)(h:laidMet P l W):
  ∃cs ty fz fuel p,W.heap[b]? =some (.cells cs ty fz)/\DataW.trod (fun _=>()) P W 0 (fun _=>true) false fuel t cs.toList=some (d,p):=by
 obtain⟨ps,hv,_⟩:=h;obtain⟨g,t',cs,fuel,p,h1,h2,h3,h4⟩:=rN hv hl;rw[hg]at h1;cases h1;rw[htp]at h2;cases h2;simp only[World.var?,hg,Option.bind_some]at h3;split at h3
 ·rename_i cs' ty fz hh;cases h3;exact⟨_,ty,fz,fuel,p,hh,h4⟩
 ·cases h3
theorem glb_tab{P:Program}{b:Nat}{t e:TypeId}{k:IntKind}{N:Nat}{l:List (String×DataW Unit)}{W:World}{n:String}{T:List Nat}(hg:P.globalNamed n=some b)(htp:(P.globals[b]?).map (·.type)=some t)
  (ht:P.underlying t=some (.array N e)) (he:P.underlying e=some (.int k)) (hc:P.cellsOf e=1) (hct:P.cellsOf t=N) (hT:T.length=N)
  (hl:(n,DataW.agg (T.map fun n:Nat=>DataW.lit (.int k (n:Int))))∈l) (h:laidMet P l W):∃cs e fz,W.heap[b]? =some (.cells cs e fz)/\(GD.ints k T).at cs.toList:=by
 obtain⟨cs,ty,fz,fuel,p,h1,h2⟩:=yA hg htp hl h;exact⟨cs,ty,fz,h1,F6 ht he hc hct hT h2⟩
theorem glb_err{P:Program}{b:Nat}{t:TypeId}{ms:Array (String×TypeId)}{l:List (String×DataW Unit)}{W:World}{n nm:String}{d:DataW Unit}(hg:P.globalNamed n=some b)(htp:(P.globals[b]?).map (·.type)=some t)
  (ht:P.underlying t=some (.interface ms)) (hl:(n,DataW.iface nm d)∈l) (h:laidMet P l W):∃cs e fz,W.heap[b]? =some (.cells cs e fz)/\GD.err.at cs.toList:=by
 obtain⟨cs,ty,fz,fuel,p,h1,h2⟩:=yA hg htp hl h;exact⟨cs,ty,fz,h1,I4 ht h2⟩
theorem glb_of{P:Program}{W:World}{gl:List (Nat×GD)}(hall:(List.range P.globals.size).all (fun c=>gl.any (fun x=>x.1==c)||(gmem P c).isNone)=true)(hm:∀b d,(b,d)∈gl->gmem P b=some d)
  (h:∀b d,(b,d)∈gl->∃cs e fz,W.heap[b]? =some (.cells cs e fz)/\d.at cs.toList):GlbAt P W:=fun c T hcT=>by
 have hlt:c<P.globals.size:=by
  unfold gmem at hcT
  cases hq:P.globals[c]? with
  | none=>rw[hq]at hcT;cases hcT
  | some g=>exact(Array.getElem?_eq_some_iff.1 hq).1
 have h1:=(List.all_eq_true.1 hall) c (List.mem_range.2 hlt);rw[hcT,Option.isNone_some,Bool.or_false,List.any_eq_true]at h1;obtain⟨⟨b,d⟩,h2,h3⟩:=h1;have:b=c:=by simpa using h3
 subst this;have h4:=hm _ _ h2;rw[h4]at hcT;cases hcT;exact h _ _ h2
end Go.Am

