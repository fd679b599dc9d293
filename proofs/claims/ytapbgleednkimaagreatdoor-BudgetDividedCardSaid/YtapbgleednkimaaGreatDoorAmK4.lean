/- A second evaluator of the abstract machine, made for the kernel: the temporaries stand in a tree, and nothing is put off. What it answers, the first answers too, and what goes with it. -/
import Derived.Test.YtapbgleednkimaaGreatDoorAmBase
set_option linter.unusedVariables false
set_option linter.unusedSimpArgs false
namespace Go.Am
inductive TT where
 | leaf
 | node (v:AV) (l r:TT)
def TT.get:TT->Nat->AV
 | .leaf,_=> .junk
 | .node v l r,i=>bif Nat.beq i 0 then v else bif Nat.beq (Nat.mod i 2) 1 then l.get (Nat.div i 2) else r.get (Nat.sub (Nat.div i 2) 1)
def TT.setK {β:Type} (v:AV):Nat->TT->Nat->(TT->Option β)->Option β
 | 0,_,_,_=>none
 | fuel+1,.leaf,i,k=>bif Nat.beq i 0 then k (.node v .leaf .leaf) else bif Nat.beq (Nat.mod i 2) 1 then TT.setK v fuel .leaf (Nat.div i 2) (fun t=>k (.node .junk t .leaf)) else TT.setK v fuel .leaf (Nat.sub (Nat.div i 2) 1) (fun t=>k (.node .junk .leaf t))
 | fuel+1,.node x l r,i,k=>bif Nat.beq i 0 then k (.node v l r) else bif Nat.beq (Nat.mod i 2) 1 then TT.setK v fuel l (Nat.div i 2) (fun t=>k (.node x t r)) else TT.setK v fuel r (Nat.sub (Nat.div i 2) 1) (fun t=>k (.node x l t))
def AR.sub (t:TT):AR->AR
 | .tmp i=> .const (t.get i)
 | .const v=> .const v
def J5 (t:TT):Option AR->Option AR
 | none=>none
 | some x=>some (x.sub t)
def aBR (t:TT):List (Nat×Nat×AR)->List (Nat×Nat×AR)
 | []=>[]
 | (o,s,x)::r=>(o,s,x.sub t)::aBR t r
def PQ (t:TT):List AR->List AR
 | []=>[]
 | x::r=>x.sub t::PQ t r
def AO.sub (t:TT):AO->AO
 | .move x=> .move (x.sub t)
 | .pick c a b=> .pick (c.sub t) (a.sub t) (b.sub t)
 | .alloc cs=> .alloc cs
 | .box x=> .box (x.sub t)
 | .build z ps=> .build z (aBR t ps)
 | .buildSlice s n z ps=> .buildSlice s n z (aBR t ps)
 | .load x=> .load (x.sub t)
 | .loadAgg n x=> .loadAgg n (x.sub t)
 | .store n a x=> .store n (a.sub t) (x.sub t)
 | .nilCheck x=> .nilCheck (x.sub t)
 | .bin op x y=> .bin op (x.sub t) (y.sub t)
 | .eqB n x y=> .eqB n (x.sub t) (y.sub t)
 | .isNil kd n x y=> .isNil kd n (x.sub t) (y.sub t)
 | .eqCells n T x y=> .eqCells n T (x.sub t) (y.sub t)
 | .un op x=> .un op (x.sub t)
 | .convInt k x=> .convInt k (x.sub t)
 | .convStr x=> .convStr (x.sub t)
 | .bytesToStr x=> .bytesToStr (x.sub t)
 | .mkIface ty x=> .mkIface ty (x.sub t)
 | .mkFunc fn f c=> .mkFunc fn (PQ t f) (PQ t c)
 | .makeMap=> .makeMap
 | .makeSlice b z n c=> .makeSlice b z (n.sub t) (c.sub t)
 | .slice s x lo hi mx=> .slice s (x.sub t) (J5 t lo) (J5 t hi) (J5 t mx)
 | .sliceArr n s x lo hi=> .sliceArr n s (x.sub t) (J5 t lo) (J5 t hi)
 | .sliceStr x lo hi=> .sliceStr (x.sub t) (J5 t lo) (J5 t hi)
 | .fieldAddr o x=> .fieldAddr o (x.sub t)
 | .field o n x=> .field o n (x.sub t)
 | .indexAddr s x i=> .indexAddr s (x.sub t) (i.sub t)
 | .indexAddrA n s x i=> .indexAddrA n s (x.sub t) (i.sub t)
 | .index n s b x i=> .index n s b (x.sub t) (i.sub t)
 | .indexStr x i=> .indexStr (x.sub t) (i.sub t)
 | .lookup kd ok z x i=> .lookup kd ok z (x.sub t) (i.sub t)
 | .mapUpdate kd m k v=> .mapUpdate kd (m.sub t) (k.sub t) (v.sub t)
 | .extract x i=> .extract (x.sub t) i
 | .call f as=> .call (f.sub t) (PQ t as)
 | .append s b x y=> .append s b (x.sub t) (y.sub t)
 | .appendMake b z x y=> .appendMake b z (x.sub t) (y.sub t)
 | .copyS s x y=> .copyS s (x.sub t) (y.sub t)
 | .clearS z x=> .clearS z (x.sub t)
 | .len x=> .len (x.sub t)
 | .lenStr x=> .lenStr (x.sub t)
 | .lenMap x=> .lenMap (x.sub t)
 | .cap x=> .cap (x.sub t)
 | .max x xs=> .max (x.sub t) (PQ t xs)
 | .min x xs=> .min (x.sub t) (PQ t xs)
 | .asTo ty z x=> .asTo ty z (x.sub t)
 | .strToBytes x=> .strToBytes (x.sub t)
section
variable {n:Nat} {t:TT} {a:List AV}
end
noncomputable def TT.gk (t:TT):Nat->(AV->Bool)->Bool:=
 TT.rec (motive:=fun _=>Nat->(AV->Bool)->Bool) (fun _ k=>k .junk)
  (fun v _ _ ihl ihr i k=>Bool.rec (Bool.rec (ihr (Nat.sub (Nat.div i (nat_lit 2)) (nat_lit 1)) k) (ihl (Nat.div i (nat_lit 2)) k) (Nat.beq (Nat.mod i (nat_lit 2)) (nat_lit 1))) (k v) (Nat.beq i (nat_lit 0))) t
noncomputable def TT.sk (v:AV) (t:TT):Nat->(TT->Bool)->Bool:=
 TT.rec (motive:=fun _=>Nat->(TT->Bool)->Bool) (fun _ _=>false)
  (fun x l r ihl ihr i k=>Bool.rec (Bool.rec (ihr (Nat.sub (Nat.div i (nat_lit 2)) (nat_lit 1)) (fun t=>k (.node x l t))) (ihl (Nat.div i (nat_lit 2)) (fun t=>k (.node x t r))) (Nat.beq (Nat.mod i (nat_lit 2)) (nat_lit 1))) (k (.node v l r)) (Nat.beq i (nat_lit 0))) t
noncomputable def HT.gk (t:HT):Nat->(AObj->Bool)->Bool:=
 HT.rec (motive:=fun _=>Nat->(AObj->Bool)->Bool) (fun _ _=>false)
  (fun v _ _ ihl ihr i k=>Bool.rec (Bool.rec (ihr (Nat.sub (Nat.div i (nat_lit 2)) (nat_lit 1)) k) (ihl (Nat.div i (nat_lit 2)) k) (Nat.beq (Nat.mod i (nat_lit 2)) (nat_lit 1))) (Option.casesOn v false k) (Nat.beq i (nat_lit 0))) t
noncomputable def HT.mk (o:AObj) (fuel:Nat):Nat->(HT->Bool)->Bool:=
 Nat.rec (motive:=fun _=>Nat->(HT->Bool)->Bool) (fun _ _=>false)
  (fun _ ih i k=>Bool.rec (Bool.rec (ih (Nat.sub (Nat.div i (nat_lit 2)) (nat_lit 1)) (fun t=>k (.node none .leaf t))) (ih (Nat.div i (nat_lit 2)) (fun t=>k (.node none t .leaf))) (Nat.beq (Nat.mod i (nat_lit 2)) (nat_lit 1))) (k (.node (some o) .leaf .leaf)) (Nat.beq i (nat_lit 0))) fuel
noncomputable def HT.sk (o:AObj) (t:HT):Nat->(HT->Bool)->Bool:=
 HT.rec (motive:=fun _=>Nat->(HT->Bool)->Bool) (fun i k=>HT.mk o (nat_lit 64) i k)
  (fun v l r ihl ihr i k=>Bool.rec (Bool.rec (ihr (Nat.sub (Nat.div i (nat_lit 2)) (nat_lit 1)) (fun t=>k (.node v l t))) (ihl (Nat.div i (nat_lit 2)) (fun t=>k (.node v t r))) (Nat.beq (Nat.mod i (nat_lit 2)) (nat_lit 1))) (k (.node (some o) l r)) (Nat.beq i (nat_lit 0))) t
noncomputable def kif (c:Bool) (k:Bool):Bool:=Bool.rec false k c
theorem kif_ok {c k:Bool} (h:kif c k=true):c=true/\k=true:=by
 cases c with
 | false=>cases h
 | true=>exact⟨rfl,h⟩
noncomputable def H.gk (h:H) (i:Nat) (k:AObj->Bool):Bool:=H.casesOn h fun n t=>kif (Nat.ble (Nat.succ i) n) (HT.gk t i k)
noncomputable def H.ck (h:H) (i:Nat) (k:Nat->Bool->List AV->Bool):Bool:=h.gk i fun o=>AObj.casesOn o (fun v rw cs=>k v rw cs) (fun _ _=>false) (fun _ _=>false) false
noncomputable def H.sk (h:H) (i:Nat) (o:AObj) (k:H->Bool):Bool:=H.casesOn h fun n t=>HT.sk o t i fun t'=>k ⟨n,t'⟩
section
variable {n:Nat} {t:TT} {a:List AV}
end
abbrev KE:=Ex->TT->H->Bool
structure KRec where
 code:AC->Nat->TT->H->KE->Bool
 call:FuncId->List AV->H->(AV->H->Bool)->Bool
section
variable (R:KRec)
end
inductive KT where
 | leaf
 | node (l:KT) (g:Nat) (F:AFn) (r:KT)
 | tru (l:KT) (g:Nat) (r:KT)
 | tz (l:KT) (g:Nat) (r:KT)
 | prr (l:KT) (g:Nat) (F:List AV->H->Option AV) (r:KT)
 | prm (l:KT) (g:Nat) (F:List AV->H->Option (List AV)) (r:KT)
def tzTab:List Nat:=[0,1,56,2,57,49,28,3,61,58,42,50,38,29,17,4,62,47,59,36,45,43,51,22,53,39,33,30,24,18,12,5,63,55,48,27,60,41,37,16,46,35,44,21,52,32,23,11,54,26,40,15,34,20,31,10,25,14,19,9,13,8,7,6]
def NM (x:Int):Int:=IntKind.u64.wrap (BitVec.ofInt IntKind.u64.bits x&&& BitVec.ofInt IntKind.u64.bits (IntKind.u64.wrap (-x))).toNat
def tzIdx (x:Int):Int:=IntKind.u64.wrap (NM x*285870213051353865) / 288230376151711744
def tzF (x:Int):Int:=if x=0 then 64 else((tzTab[(tzIdx x).toNat]?).getD 0:Nat)
def D7:List AV->Option Int
 | [.int .u64 x]=>some (tzF x)
 | _=>none
def primTz (args:List AV) (h:H):Option (AV×H):=match D7 args with
 | some n=>some (.int .i64 n,h)
 | none=>none
def G0:List AV->H->Option (AV×H)
 | [],h=>some (.bool true,h)
 | _::_,_=>none
def eE (F:List AV->H->Option AV) (args:List AV) (h:H):Option (AV×H):=match F args h with
 | some v=>some (v,h)
 | none=>none
def oB (F:List AV->H->Option (List AV)) (args:List AV) (h:H):Option (AV×H):=match F args h with
 | some cs=>some (.slice true 1 h.next 0 cs.length,h.alloc (.cells 0 true cs))
 | none=>none
def KT.find:KT->Nat->Option AF
 | .leaf,_=>none
 | .node l k f r,g=>if g=k then some (.fn f) else if g<=k then l.find g else r.find g
 | .tru l k r,g=>if g=k then some (.prim G0) else if g<=k then l.find g else r.find g
 | .tz l k r,g=>if g=k then some (.prim primTz) else if g<=k then l.find g else r.find g
 | .prr l k F r,g=>if g=k then some (.prim (eE F)) else if g<=k then l.find g else r.find g
 | .prm l k F r,g=>if g=k then some (.prim (oB F)) else if g<=k then l.find g else r.find g
section
variable {R:KRec} {rec:Rec}
end
end Go.Am

