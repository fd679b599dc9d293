/- The calculus: the operations. -/
import Derived.Test.YtbcdfmecpjbeaaaDoorAmW
set_option linter.unusedVariables false
set_option linter.unusedSimpArgs false
namespace Go.Am
def PSome {α:Type} (o:Option α) (k:α→Prop):Prop:=∃x,o=some x∧k x
@[congr] theorem PSome_congr {α:Type} {o o':Option α} {k:α→Prop} (e:o=o'):PSome o k=PSome o' k:=by rw[e]
def C (L:Rec) (g:FuncId) (args:List AV) (h:H) (K:AV→H→Prop):Prop:=∃v h',L.call g args h=some (v,h')∧K v h'
def PCall (L:Rec) (f:AV) (args:List AV) (h:H) (K:AV→H→Prop):Prop:=∃v h',acallV L f args h=some (v,h')∧K v h'
section
variable (L:Rec) (a:List AV) (h:H) (K:AV→H→List Nat→Prop)
def maxV (x:AV) (xs:List AV):Option AV:=foldO amax2 x xs
theorem maxV_two (k:IntKind) (x y:Int):maxV (.int k x) [.int k y]=some (.int k (max x y)):=by
 simp only[maxV,foldO,amax2]
 by_cases h:y>x
 ·rw[if_pos h];congr 2;omega
 ·rw[if_neg h];congr 2;omega
end
theorem abin_add (k:IntKind) (x y:Int):abin .add (.int k x) (.int k y)=some (.int k (k.wrap (x+y))):=by simp[abin,q64,binInt]
theorem abin_sub (k:IntKind) (x y:Int):abin .sub (.int k x) (.int k y)=some (.int k (k.wrap (x-y))):=by simp[abin,q64,binInt]
theorem abin_mul (k:IntKind) (x y:Int):abin .mul (.int k x) (.int k y)=some (.int k (k.wrap (x*y))):=by simp[abin,q64,binInt]
theorem abin_eql (k:IntKind) (x y:Int):abin .eql (.int k x) (.int k y)=some (.bool (decide (x=y))):=by simp[abin,q64,binInt];rfl
theorem abin_neq (k:IntKind) (x y:Int):abin .neq (.int k x) (.int k y)=some (.bool (decide (x≠y))):=by
 simp only[abin,q64,binInt,Bool.false_eq_true,if_false,if_true,ite_true]
 by_cases e:x=y<;>simp[e]
theorem abin_lss (k:IntKind) (x y:Int):abin .lss (.int k x) (.int k y)=some (.bool (decide (x<y))):=by simp[abin,q64,binInt]
theorem abin_leq (k:IntKind) (x y:Int):abin .leq (.int k x) (.int k y)=some (.bool (decide (x≤y))):=by simp[abin,q64,binInt]
theorem abin_gtr (k:IntKind) (x y:Int):abin .gtr (.int k x) (.int k y)=some (.bool (decide (y<x))):=by simp[abin,q64,binInt]
theorem abin_geq (k:IntKind) (x y:Int):abin .geq (.int k x) (.int k y)=some (.bool (decide (y≤x))):=by simp[abin,q64,binInt]
theorem wrap64 {x:Int} (h1: -9223372036854775808≤x) (h2:x≤9223372036854775807):IntKind.i64.wrap x=x:=by
 simp only[IntKind.wrap,IntKind.bits,IntKind.signed];simp;omega
theorem wrap8 {x:Int} (h1:0≤x) (h2:x≤255):IntKind.u8.wrap x=x:=by
 simp only[IntKind.wrap,IntKind.bits,IntKind.signed];simp;omega
def KRes (res:List ARes) (Q:AV→H→Prop) (a:List AV) (h:H):Prop:=PSome (aresAll a h res) fun vs=>Q (packRes vs) h
theorem KRes_eq (res:List ARes) (Q:AV→H→Prop) (a:List AV) (h:H):KRes res Q a h=PSome (aresAll a h res) fun vs=>Q (packRes vs) h:=rfl
def KFalse (i:Nat) (a:List AV) (h:H):Prop:=False
theorem C_fn {tab:FuncId→Option AF} {g:FuncId} {F:AFn} (hg:tab g=some (.fn F)) (args:List AV) (h:H) (Q:AV→H→Prop):
  C (lim tab) g args h Q=W (lim tab) F.body (padTo args F.ntmps) h (KRes F.results Q) (KRes F.results Q) KFalse:=by
 apply propext
 unfold C W KRes
 rw[lim_call]
 simp only[acallF,hg]
 constructor
 ·rintro⟨v,h',he,hk⟩
  split at he
  ·rename_i a1 h1 hc
   split at he
   ·rename_i vs hvs
    cases he
    exact⟨.normal,a1,_,hc,vs,hvs,hk⟩
   ·cases he
  ·rename_i a1 h1 hc
   split at he
   ·rename_i vs hvs
    cases he
    exact⟨.ret,a1,_,hc,vs,hvs,hk⟩
   ·cases he
  ·cases he
 ·rintro⟨e,a1,h1,hc,hk⟩
  cases e with
  | normal=>
   obtain⟨vs,hvs,hk⟩:=hk
   exact⟨packRes vs,h1,by simp only[hc,hvs],hk⟩
  | ret=>
   obtain⟨vs,hvs,hk⟩:=hk
   exact⟨packRes vs,h1,by simp only[hc,hvs],hk⟩
  | exit i=>exact hk.elim
attribute [irreducible] C PCall KRes
end Go.Am

