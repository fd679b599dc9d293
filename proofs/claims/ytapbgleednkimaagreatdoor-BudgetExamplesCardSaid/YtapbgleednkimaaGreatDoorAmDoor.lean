/- Rows that list package variables: the tables of the library are as the text lays them. -/
import Derived.Test.YtapbgleednkimaaGreatDoorAmKEnd
import Derived.LaidLaws
import Derived.FnData
set_option linter.all false
open List renaming getElem?_eq_getElem->Ad,getElem?_map->Ap,getElem?_eq_none->Bi
open Option renaming some->Iz
open Bool renaming true->Jb,false->Jc
namespace Go.Am
open Go.ChangeShapes Go.WideShapes Go.ChangeAt Go.RowKit
def GX{H:Type}{enc:TypeId×Value->H}{P:Program}{w:World}{sp:Nat->Bool}{held:Bool}{base u:Nat}{t e:TypeId}{k:IntKind}{N:Nat}(ht:P.underlying t=Iz (.array N e))(he:P.underlying e=Iz (.int k))(M:P.cellsOf e=1)(O:P.cellsOf t=N)
  {T:List Nat} (Y:T.length=N) {cs:List Value} {p:List MemPlace} (h:DataW.trod enc P w base sp held u t cs=Iz (.agg (T.map fun n:Nat=>DataW.lit (.int k (n:Int))),p)):cs=T.map fun n:Nat=>Value.int k (n:Int):=by
 obtain⟨G,m,_,Q,hl,R,S⟩:=DataW.trod_array ht h;have B:T.map (fun n:Nat=>DataW.lit (.int k (n:Int)))=G.map (·.1):=by have:=congrArg Prod.fst Q;simpa using this
 refine List.ext_getElem? fun i=>?_;by_cases E:i<N
 ·obtain⟨y,I⟩:∃y,G[i]? =Iz y:=⟨_,Ad (by omega)⟩;obtain⟨n,J⟩:∃n,T[i]? =Iz n:=⟨_,Ad (by omega)⟩;have h1:=S i E;rw[I,M,Nat.mul_one]at h1;obtain⟨k,h2,h3,_⟩:=DataW.trod_int he h1;have K:=congrArg (fun l:List (DataW H)=>l[i]?) B;simp only[Ap,J,I,Option.map_some,Option.some.injEq,h3]at K;injection K with U;injection U with _ V;have L:=congrArg (fun l:List Value=>l[0]?) h2;simp only[List.getElem?_take,List.getElem?_drop]at L;rw[Ap,J];simpa [V]using L
 ·rw[Bi (by omega),Bi (by rw[List.length_map];omega)]
def J1{H:Type}{enc:TypeId×Value->H}{P:Program}{w:World}{sp:Nat->Bool}{held:Bool}{base u:Nat}{t:TypeId}{y:Array (String×TypeId)}(ht:P.underlying t=Iz (.interface y))
  {B:String} {d:DataW H} {cs:List Value} {p:List MemPlace} (h:DataW.trod enc P w base sp held u t cs=Iz (.iface B d,p)):∃E G,cs=[.iface E G]:=by
 cases u with
 | zero=>simp[DataW.trod]at h
 | succ m=>unfold DataW.trod at h;rw[ht]at h;split at h<;>simp_all
def rZ{P:Program}{w:World}{n:String}{d:DataW Unit} :∀{l:List (String×DataW Unit)} {y:List MemPlace},DataW.LaidVars P w l y->(n,d)∈l->
  ∃g t cs u p,P.globalNamed n=Iz g/\(P.globals[g]?).map (·.type)=Iz t/\w.var? P n=Iz cs/\DataW.trod (fun _=>()) P w 0 (fun _=>Jb) Jc u t cs.toList=Iz (d,p)
 | [],y,h,hm=>by cases hm
 | (G,I)::r,y,h,hm=>by
  obtain⟨g,t,cs,u,p,q,h1,h2,h3,B,E,_⟩:=h;rcases List.mem_cons.1 hm with e | e
  ·cases e;exact⟨g,t,cs,u,p,h1,h2,h3,B⟩
  ·exact rZ E e
def zE{P:Program}{b:Nat}{t:TypeId}{l:List (String×DataW Unit)}{W:World}{n:String}{d:DataW Unit}(hg:P.globalNamed n=Iz b)(y:(P.globals[b]?).map (·.type)=Iz t)(hl:(n,d)∈l)(h:laidMet P l W):
  ∃cs B E u p,W.heap[b]? =Iz (.cells cs B E)/\DataW.trod (fun _=>()) P W 0 (fun _=>Jb) Jc u t cs.toList=Iz (d,p):=by
 obtain⟨J,hv,_⟩:=h;obtain⟨g,K,cs,u,p,h1,h2,h3,G⟩:=rZ hv hl;rw[hg]at h1;cases h1;rw[y]at h2;cases h2;simp only[World.var?,hg,Option.bind_some]at h3;split at h3
 ·rename_i I B E hh;cases h3;exact⟨_,B,E,u,p,hh,G⟩
 ·cases h3
def glb_tab{P:Program}{b:Nat}{t e:TypeId}{k:IntKind}{N:Nat}{l:List (String×DataW Unit)}{W:World}{n:String}{T:List Nat}(hg:P.globalNamed n=Iz b)(u:(P.globals[b]?).map (·.type)=Iz t)
  (ht:P.underlying t=Iz (.array N e)) (he:P.underlying e=Iz (.int k)) (G:P.cellsOf e=1) (y:P.cellsOf t=N) (I:T.length=N)
  (hl:(n,DataW.agg (T.map fun n:Nat=>DataW.lit (.int k (n:Int))))∈l) (h:laidMet P l W):∃cs e B,W.heap[b]? =Iz (.cells cs e B)/\(GD.ints k T).at cs.toList:=by
 obtain⟨cs,J,B,E,p,h1,h2⟩:=zE hg u hl h;exact⟨cs,J,B,h1,GX ht he G y I h2⟩
def glb_err{P:Program}{b:Nat}{t:TypeId}{E:Array (String×TypeId)}{l:List (String×DataW Unit)}{W:World}{n G:String}{d:DataW Unit}(hg:P.globalNamed n=Iz b)(u:(P.globals[b]?).map (·.type)=Iz t)
  (ht:P.underlying t=Iz (.interface E)) (hl:(n,DataW.iface G d)∈l) (h:laidMet P l W):∃cs e y,W.heap[b]? =Iz (.cells cs e y)/\GD.err.at cs.toList:=by
 obtain⟨cs,I,y,B,p,h1,h2⟩:=zE hg u hl h;exact⟨cs,I,y,h1,J1 ht h2⟩
def glb_of{P:Program}{W:World}{gl:List (Nat×GD)}(y:(List.range P.globals.size).all (fun c=>gl.any (fun x=>x.1==c)||(gmem P c).isNone)=Jb)(hm:∀b d,(b,d)∈gl->gmem P b=Iz d)
  (h:∀b d,(b,d)∈gl->∃cs e E,W.heap[b]? =Iz (.cells cs e E)/\d.at cs.toList):GlbAt P W:=fun c T u=>by
 have hlt:c<P.globals.size:=by
  unfold gmem at u
  cases B:P.globals[c]? with
  | none=>rw[B]at u;cases u
  | some g=>exact(Array.getElem?_eq_some_iff.1 B).1
 have h1:=(List.all_eq_true.1 y) c (List.mem_range.2 hlt);rw[u,Option.isNone_some,Bool.or_false,List.any_eq_true]at h1;obtain⟨⟨b,d⟩,h2,h3⟩:=h1;have:b=c:=by simpa using h3
 subst this;have G:=hm _ _ h2;rw[G]at u;cases u;exact h _ _ h2
end Go.Am

