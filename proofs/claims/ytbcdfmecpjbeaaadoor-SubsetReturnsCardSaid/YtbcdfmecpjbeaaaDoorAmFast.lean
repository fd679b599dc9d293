/- A second evaluator of the abstract machine, made for the kernel: the temporaries stand in a tree, and nothing is put off. What it answers, the first answers too. -/
import Derived.Test.YtbcdfmecpjbeaaaDoorAmBase
set_option linter.unusedVariables false
set_option linter.unusedSimpArgs false
namespace Go.Am
inductive TT where
 | leaf
 | node (v:AV) (l r:TT)
def TT.get:TT→Nat→AV
 | .leaf,_=> .junk
 | .node v l r,i=>bif Nat.beq i 0 then v else bif Nat.beq (Nat.mod i 2) 1 then l.get (Nat.div i 2) else r.get (Nat.sub (Nat.div i 2) 1)
theorem TT.get_node (y:AV) (l r:TT) (j:Nat):(TT.node y l r).get j=if j=0 then y else if j % 2=1 then l.get (j / 2) else r.get (j / 2-1):=by
 show(bif Nat.beq j 0 then y else bif Nat.beq (j % 2) 1 then l.get (j / 2) else r.get (j / 2-1))=_
 by_cases hj:j=0
 ·subst hj;rfl
 ·have:Nat.beq j 0=false:=by cases j with
   | zero=>exact absurd rfl hj
   | succ j=>rfl
  rw[this,cond_false,if_neg hj]
  by_cases hp:j % 2=1
  ·rw[hp];rfl
  ·have hz:j % 2=0:=by omega
   rw[hz];rfl
def fNat {β:Type} (m:Nat) (k:Nat→Option β):Option β:=Nat.casesOn m (k 0) (fun p=>k (Nat.succ p))
def fInt {β:Type} (n:Int) (k:Int→Option β):Option β:=Int.casesOn n (fun m=>fNat m fun m=>k (.ofNat m)) (fun m=>fNat m fun m=>k (.negSucc m))
theorem fNat_eq {β:Type} (m:Nat) (k:Nat→Option β):fNat m k=k m:=by cases m<;>rfl
theorem fInt_eq {β:Type} (n:Int) (k:Int→Option β):fInt n k=k n:=by cases n<;>simp[fInt,fNat_eq]
def fBool {β:Type} (b:Bool) (k:Bool→Option β):Option β:=Bool.casesOn b (k false) (k true)
theorem fBool_eq {β:Type} (b:Bool) (k:Bool→Option β):fBool b k=k b:=by cases b<;>rfl
def fV1 {β:Type} (v:AV) (k:AV→Option β):Option β:=
 match v with
 | .bool b=>fBool b fun b=>k (.bool b)
 | .int kd n=>fInt n fun n=>k (.int kd n)
 | .ptr b o=>fNat b fun b=>fNat o fun o=>k (.ptr b o)
 | .slice fl sz b o n=>fBool fl fun fl=>fNat sz fun sz=>fNat b fun b=>fNat o fun o=>fNat n fun n=>k (.slice fl sz b o n)
 | .junk=>k .junk
 | .str s=>k (.str s)
 | .nilptr=>k .nilptr
 | .nilslice=>k .nilslice
 | .nilmap=>k .nilmap
 | .map r=>fNat r fun r=>k (.map r)
 | .func f a b=>k (.func f a b)
 | .nilfunc=>k .nilfunc
 | .iface t v=>k (.iface t v)
 | .niliface=>k .niliface
 | .agg cs=>k (.agg cs)
 | .tuple vs=>k (.tuple vs)
theorem fV1_eq {β:Type} (v:AV) (k:AV→Option β):fV1 v k=k v:=by cases v<;>simp[fV1,fNat_eq,fInt_eq,fBool_eq]
def fL {β:Type} :List AV→(List AV→Option β)→Option β
 | [],k=>k []
 | x::xs,k=>fV1 x fun x=>fL xs fun xs=>k (x::xs)
theorem fL_eq {β:Type} :∀(l:List AV) (k:List AV→Option β),fL l k=k l
 | [],_=>rfl
 | x::xs,k=>by simp[fL,fV1_eq,fL_eq xs]
def fV {β:Type} (v:AV) (k:AV→Option β):Option β:=
 match v with
 | .agg cs=>fL cs fun cs=>k (.agg cs)
 | .tuple vs=>fL vs fun vs=>k (.tuple vs)
 | .func f a b=>fL a fun a=>fL b fun b=>k (.func f a b)
 | v=>fV1 v k
theorem fV_eq {β:Type} (v:AV) (k:AV→Option β):fV v k=k v:=by cases v<;>simp[fV,fL_eq,fV1_eq]
def fObj {β:Type} (o:AObj) (k:AObj→Option β):Option β:=
 match o with
 | .cells ver rw cs=>fNat ver fun ver=>fL cs fun cs=>k (.cells ver rw cs)
 | .map ver es=>k (.map ver es)
 | .loop ver r=>fNat ver fun ver=>k (.loop ver r)
 | .dead=>k .dead
theorem fObj_eq {β:Type} (o:AObj) (k:AObj→Option β):fObj o k=k o:=by cases o<;>simp[fObj,fL_eq,fNat_eq]
def fHT {β:Type} :Nat→HT→Nat→(HT→Option β)→Option β
 | 0,t,_,k=>k t
 | fuel+1,.leaf,_,k=>k .leaf
 | fuel+1,.node v l r,i,k=>bif Nat.beq i 0 then(match v with | some o=>fObj o fun o=>k (.node (some o) l r) | none=>k (.node none l r))
  else bif Nat.beq (Nat.mod i 2) 1 then fHT fuel l (Nat.div i 2) (fun l=>k (.node v l r)) else fHT fuel r (Nat.sub (Nat.div i 2) 1) (fun r=>k (.node v l r))
theorem fHT_eq {β:Type} :∀(fuel:Nat) (t:HT) (i:Nat) (k:HT→Option β),fHT fuel t i k=k t
 | 0,_,_,_=>rfl
 | fuel+1,.leaf,_,_=>rfl
 | fuel+1,.node v l r,i,k=>by
  unfold fHT
  cases Nat.beq i 0 with
  | true=>cases v<;>simp[fObj_eq]
  | false=>cases Nat.beq (Nat.mod i 2) 1<;>simp[fHT_eq fuel]
def fH {β:Type} (h:H) (i:Nat) (k:H→Option β):Option β:=match h with | ⟨n,t⟩=>fNat n fun n=>fHT 40 t i fun t=>k ⟨n,t⟩
theorem fH_eq {β:Type} (h:H) (i:Nat) (k:H→Option β):fH h i k=k h:=by cases h;simp[fH,fNat_eq,fHT_eq]
end Go.Am

