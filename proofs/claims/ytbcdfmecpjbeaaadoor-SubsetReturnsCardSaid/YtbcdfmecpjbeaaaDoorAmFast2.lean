/- The second evaluator: its code, and that what it answers, the first answers too. -/
import Derived.Test.YtbcdfmecpjbeaaaDoorAmFast
set_option linter.unusedVariables false
set_option linter.unusedSimpArgs false
namespace Go.Am
def AR.sub (t:TT):AR→AR
 | .tmp i=> .const (t.get i)
 | .const v=> .const v
def subO (t:TT):Option AR→Option AR
 | none=>none
 | some x=>some (x.sub t)
def subP (t:TT):List (Nat×Nat×AR)→List (Nat×Nat×AR)
 | []=>[]
 | (o,s,x)::r=>(o,s,x.sub t)::subP t r
def subL (t:TT):List AR→List AR
 | []=>[]
 | x::r=>x.sub t::subL t r
def AO.sub (t:TT):AO→AO
 | .move x=> .move (x.sub t)
 | .pick c a b=> .pick (c.sub t) (a.sub t) (b.sub t)
 | .alloc cs=> .alloc cs
 | .box x=> .box (x.sub t)
 | .build z ps=> .build z (subP t ps)
 | .buildSlice s n z ps=> .buildSlice s n z (subP t ps)
 | .load x=> .load (x.sub t)
 | .loadAgg n x=> .loadAgg n (x.sub t)
 | .store n a x=> .store n (a.sub t) (x.sub t)
 | .nilCheck x=> .nilCheck (x.sub t)
 | .bin op x y=> .bin op (x.sub t) (y.sub t)
 | .eqB n x y=> .eqB n (x.sub t) (y.sub t)
 | .isNil kd n x y=> .isNil kd n (x.sub t) (y.sub t)
 | .eqCells n T x y=> .eqCells n T (x.sub t) (y.sub t)
 | .un op x=> .un op (x.sub t)
 | .convInt k x=> .convInt k (x.sub t)
 | .convStr x=> .convStr (x.sub t)
 | .bytesToStr x=> .bytesToStr (x.sub t)
 | .mkIface ty x=> .mkIface ty (x.sub t)
 | .mkFunc fn f c=> .mkFunc fn (subL t f) (subL t c)
 | .makeMap=> .makeMap
 | .makeSlice b z n c=> .makeSlice b z (n.sub t) (c.sub t)
 | .slice s x lo hi mx=> .slice s (x.sub t) (subO t lo) (subO t hi) (subO t mx)
 | .sliceArr n s x lo hi=> .sliceArr n s (x.sub t) (subO t lo) (subO t hi)
 | .sliceStr x lo hi=> .sliceStr (x.sub t) (subO t lo) (subO t hi)
 | .fieldAddr o x=> .fieldAddr o (x.sub t)
 | .field o n x=> .field o n (x.sub t)
 | .indexAddr s x i=> .indexAddr s (x.sub t) (i.sub t)
 | .indexAddrA n s x i=> .indexAddrA n s (x.sub t) (i.sub t)
 | .index n s b x i=> .index n s b (x.sub t) (i.sub t)
 | .indexStr x i=> .indexStr (x.sub t) (i.sub t)
 | .lookup kd ok z x i=> .lookup kd ok z (x.sub t) (i.sub t)
 | .mapUpdate kd m k v=> .mapUpdate kd (m.sub t) (k.sub t) (v.sub t)
 | .extract x i=> .extract (x.sub t) i
 | .call f as=> .call (f.sub t) (subL t as)
 | .append s b x y=> .append s b (x.sub t) (y.sub t)
 | .appendMake b z x y=> .appendMake b z (x.sub t) (y.sub t)
 | .copyS s x y=> .copyS s (x.sub t) (y.sub t)
 | .clearS z x=> .clearS z (x.sub t)
 | .len x=> .len (x.sub t)
 | .lenStr x=> .lenStr (x.sub t)
 | .lenMap x=> .lenMap (x.sub t)
 | .cap x=> .cap (x.sub t)
 | .max x xs=> .max (x.sub t) (subL t xs)
 | .min x xs=> .min (x.sub t) (subL t xs)
structure Rl (n:Nat) (t:TT) (a:List AV):Prop where
 len:a.length=n
 get:∀i,t.get i=tget a i
section
variable {n:Nat} {t:TT} {a:List AV}
theorem ev_subF (hr:Rl n t a) (x:AR):ev [] (x.sub t)=ev a x:=by cases x<;>simp[AR.sub,ev,hr.get]
theorem evL_sub (hr:Rl n t a):∀l:List AR,(subL t l).map (ev [])=l.map (ev a)
 | []=>rfl
 | x::r=>by simp[subL,ev_subF hr,evL_sub hr r]
theorem bnd_sub (hr:Rl n t a) (x:Option AR):bnd [] (subO t x)=bnd a x:=by cases x<;>simp[subO,bnd,ev_subF hr]
theorem fill_sub (hr:Rl n t a):∀(ps:List (Nat×Nat×AR)) (cs:List AV),fillA [] cs (subP t ps)=fillA a cs ps
 | [],cs=>rfl
 | (o,s,x)::r,cs=>by simp only[subP,fillA,ev_subF hr,fill_sub hr r]
theorem src_sub (hr:Rl n t a) (h:H) (s:Nat) (x:AR):srcOf [] h s (x.sub t)=srcOf a h s x:=by simp only[srcOf,ev_subF hr]
theorem aop_sub (hr:Rl n t a) (h:H) (o:AO):aop [] h (o.sub t)=aop a h o:=by
 cases o<;>simp only[AO.sub,aop,ev_subF hr,evL_sub hr,bnd_sub hr,fill_sub hr,src_sub hr]
end
theorem tget_tsetF:∀(a:List AV) (i:Nat) (v:AV) (j:Nat),i<a.length→tget (tset a i v) j=if j=i then v else tget a j
 | [],i,v,j,h=>by simp at h
 | x::l,0,v,j,h=>by cases j<;>simp[tset,tget]
 | x::l,i+1,v,j,h=>by
  cases j with
  | zero=>simp[tset,tget]
  | succ j=>simp only[tset,tget];rw[tget_tsetF l i v j (by simpa using h)];simp
theorem length_tsetF:∀(a:List AV) (i:Nat) (v:AV),(tset a i v).length=a.length
 | [],_,_=>rfl
 | _::_,0,_=>rfl
 | _::l,i+1,v=>by simp[tset,length_tsetF l i v]
theorem Rl.set {n:Nat} {t t':TT} {a:List AV} {i:Nat} {v:AV} (hr:Rl n t a) (hi:i<n) (ht:∀j,t'.get j=if j=i then v else t.get j):Rl n t' (tset a i v):=by
 refine⟨by rw[length_tsetF];exact hr.len,fun j=>?_⟩
 rw[ht j,tget_tsetF a i v j (by rw[hr.len];exact hi),hr.get j]
end Go.Am

