/- Rows that list package variables: the tables of the library are as the text lays them. -/
import Derived.Test.YtbcdfmecpjbeaaaDoorAmKEnd
import Derived.OpenShut
import Derived.LaidLaws
import Derived.FnData
set_option linter.unusedVariables false
set_option linter.unusedSimpArgs false
namespace Go.Am
open Go.ChangeShapes Go.WideShapes Go.ChangeAt Go.RowKit
theorem tab_of_trod {H:Type} {enc:TypeId×Value→H} {P:Program} {w:World} {sp:Nat→Bool} {held:Bool} {base fuel:Nat} {t e:TypeId} (ht:P.underlying t=some (.array 64 e)) (he:P.underlying e=some (.int .u8)) (hc:P.cellsOf e=1) (hct:P.cellsOf t=64)
  {T:List Nat} (hT:T.length=64) {cs:List Value} {p:List MemPlace} (h:DataW.trod enc P w base sp held fuel t cs=some (.agg (T.map fun n:Nat=>DataW.lit (.int .u8 (n:Int))),p)):cs=T.map fun n:Nat=>Value.int .u8 (n:Int):=by
 obtain⟨xs,m,_,hx,hl,hxl,hi⟩:=DataW.trod_array ht h
 have hx1:T.map (fun n:Nat=>DataW.lit (.int .u8 (n:Int)))=xs.map (·.1):=by
  have:=congrArg Prod.fst hx
  simpa using this
 refine List.ext_getElem? fun i=>?_
 by_cases h64:i<64
 ·obtain⟨y,hy⟩:∃y,xs[i]? =some y:=⟨_,List.getElem?_eq_getElem (by omega)⟩
  obtain⟨n,hn⟩:∃n,T[i]? =some n:=⟨_,List.getElem?_eq_getElem (by omega)⟩
  have h1:=hi i h64
  rw[hy,hc,Nat.mul_one]at h1
  obtain⟨k,h2,h3,_⟩:=DataW.trod_int he h1
  have h4:=congrArg (fun l:List (DataW H)=>l[i]?) hx1
  simp only[List.getElem?_map,hn,hy,Option.map_some,Option.some.injEq,h3]at h4
  injection h4 with h5
  injection h5 with _ h6
  have h7:=congrArg (fun l:List Value=>l[0]?) h2
  simp only[List.getElem?_take,List.getElem?_drop]at h7
  rw[List.getElem?_map,hn]
  simpa [h6] using h7
 ·rw[List.getElem?_eq_none (by omega),List.getElem?_eq_none (by rw[List.length_map];omega)]
theorem laidVars_mem {P:Program} {w:World} {n:String} {d:DataW Unit} :∀{l:List (String×DataW Unit)} {ps:List MemPlace},DataW.LaidVars P w l ps→(n,d)∈l→
  ∃g t cs fuel p,P.globalNamed n=some g∧(P.globals[g]?).map (·.type)=some t∧w.var? P n=some cs∧DataW.trod (fun _=>()) P w 0 (fun _=>true) false fuel t cs.toList=some (d,p)
 | [],ps,h,hm=>by cases hm
 | (n',d')::r,ps,h,hm=>by
  obtain⟨g,t,cs,fuel,p,q,h1,h2,h3,h4,h5,_⟩:=h
  rcases List.mem_cons.1 hm with e | e
  ·cases e;exact⟨g,t,cs,fuel,p,h1,h2,h3,h4⟩
  ·exact laidVars_mem h5 e
theorem glb_laid {P:Program} {b:Nat} {t e:TypeId} {l:List (String×DataW Unit)} {W:World} (hall:(List.range P.globals.size).all (fun c=>c==b||(gmem P c).isNone)=true) (hb:gmem P b=some tzTab) (hg:P.globalNamed "math/bits.deBruijn64tab" =some b) (htp:(P.globals[b]?).map (·.type)=some t)
  (ht:P.underlying t=some (.array 64 e)) (he:P.underlying e=some (.int .u8)) (hc:P.cellsOf e=1) (hct:P.cellsOf t=64)
  (hl:("math/bits.deBruijn64tab",DataW.agg (tzTab.map fun n:Nat=>DataW.lit (.int .u8 (n:Int))))∈l) (h:laidMet P l W):GlbAt P W:=fun c T hcT=>by
 have hcb:c=b:=by
  have hlt:c<P.globals.size:=by
   unfold gmem at hcT
   cases hq:P.globals[c]? with
   | none=>rw[hq]at hcT;cases hcT
   | some g=>exact(Array.getElem?_eq_some_iff.1 hq).1
  have:=(List.all_eq_true.1 hall) c (List.mem_range.2 hlt)
  rw[hcT]at this
  simpa using this
 subst hcb
 rw[hb]at hcT;cases hcT
 obtain⟨ps,hv,_⟩:=h
 obtain⟨g,t',cs,fuel,p,h1,h2,h3,h4⟩:=laidVars_mem hv hl
 rw[hg]at h1;cases h1
 rw[htp]at h2;cases h2
 have hcs:=tab_of_trod ht he hc hct rfl h4
 simp only[World.var?,hg,Option.bind_some]at h3
 split at h3
 ·rename_i cs' ty fz hh
  cases h3
  exact⟨_,ty,fz,hh,hcs⟩
 ·cases h3
end Go.Am

