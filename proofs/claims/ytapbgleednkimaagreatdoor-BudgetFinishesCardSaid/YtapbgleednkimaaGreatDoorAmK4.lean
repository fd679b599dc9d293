/- A second evaluator of the abstract machine, made for the kernel: the temporaries stand in a tree, and nothing is put off. What it answers, the first answers too, and what goes with it. -/
import Derived.Test.YtapbgleednkimaaGreatDoorAmBase
set_option linter.unusedVariables false
set_option linter.unusedSimpArgs false
namespace Go.Am
inductive TT where
  | leaf
  | node (v:AV) (l r:TT)
def TT.get:TT->Nat->AV
  | .leaf,_=> .junk
  | .node v l r,i=>bif Nat.beq i 0 then v else bif Nat.beq (Nat.mod i 2) 1 then l.get (Nat.div i 2)else r.get (Nat.sub (Nat.div i 2) 1)
theorem TT.get_node(y:AV)(l r:TT)(j:Nat):(TT.node y l r).get j=if j=0 then y else if j % 2=1 then l.get (j / 2)else r.get (j / 2-1):=by
  show(bif Nat.beq j 0 then y else bif Nat.beq (j % 2) 1 then l.get (j / 2)else r.get (j / 2-1))=_;by_cases hj:j=0
  · subst hj;rfl
  · have:Nat.beq j 0=false:=by cases j with
      | zero=>exact absurd rfl hj
      | succ j=>rfl
    rw[this,cond_false,if_neg hj];by_cases hp:j % 2=1
    · rw[hp];rfl
    · have hz:j % 2=0:=by omega
      rw[hz];rfl
def TT.setK{β:Type}(v:AV):Nat->TT->Nat->(TT->Option β)->Option β
  | 0,_,_,_=>none
  | fuel+1,.leaf,i,k=>bif Nat.beq i 0 then k (.node v .leaf .leaf)else bif Nat.beq (Nat.mod i 2) 1 then TT.setK v fuel .leaf (Nat.div i 2) (fun t=>k (.node .junk t .leaf))else TT.setK v fuel .leaf (Nat.sub (Nat.div i 2) 1) (fun t=>k (.node .junk .leaf t))
  | fuel+1,.node x l r,i,k=>bif Nat.beq i 0 then k (.node v l r)else bif Nat.beq (Nat.mod i 2) 1 then TT.setK v fuel l (Nat.div i 2) (fun t=>k (.node x t r))else TT.setK v fuel r (Nat.sub (Nat.div i 2) 1) (fun t=>k (.node x l t))
def tM{β:Type}(m:Nat)(k:Nat->Option β):Option β:=Nat.casesOn m (k 0) (fun p=>k (Nat.succ p))
def aFS{β:Type}(n:Int)(k:Int->Option β):Option β:=Int.casesOn n (fun m=>tM m fun m=>k (.ofNat m)) (fun m=>tM m fun m=>k (.negSucc m))
theorem v7{β:Type}(m:Nat)(k:Nat->Option β):tM m k=k m:=by cases m<;>rfl
theorem aDk{β:Type}(n:Int)(k:Int->Option β):aFS n k=k n:=by cases n<;>simp[aFS,v7]
def aAs{β:Type}(b:Bool)(k:Bool->Option β):Option β:=Bool.casesOn b (k false) (k true)
theorem aAr{β:Type}(b:Bool)(k:Bool->Option β):aAs b k=k b:=by cases b<;>rfl
def fV1{β:Type}(v:AV)(k:AV->Option β):Option β:=
  match v with
  | .bool b=>aAs b fun b=>k (.bool b)
  | .int kd n=>aFS n fun n=>k (.int kd n)
  | .ptr b o=>tM b fun b=>tM o fun o=>k (.ptr b o)
  | .slice fl sz b o n=>aAs fl fun fl=>tM sz fun sz=>tM b fun b=>tM o fun o=>tM n fun n=>k (.slice fl sz b o n)
  | .junk=>k .junk
  | .str s=>k (.str s)
  | .nilptr=>k .nilptr
  | .nilslice=>k .nilslice
  | .nilmap=>k .nilmap
  | .map r=>tM r fun r=>k (.map r)
  | .func f a b=>k (.func f a b)
  | .nilfunc=>k .nilfunc
  | .iface t v=>k (.iface t v)
  | .niliface=>k .niliface
  | .agg cs=>k (.agg cs)
  | .tuple vs=>k (.tuple vs)
theorem aAo{β:Type}(v:AV)(k:AV->Option β):fV1 v k=k v:=by cases v<;>simp[fV1,v7,aDk,aAr]
def fL{β:Type} :List AV->(List AV->Option β)->Option β
  | [],k=>k []
  | x::xs,k=>fV1 x fun x=>fL xs fun xs=>k (x::xs)
theorem aAp{β:Type} :∀(l:List AV) (k:List AV->Option β),fL l k=k l
  | [],_=>rfl
  | x::xs,k=>by simp[fL,aAo,aAp xs]
def fV{β:Type}(v:AV)(k:AV->Option β):Option β:=
  match v with
  | .agg cs=>fL cs fun cs=>k (.agg cs)
  | .tuple vs=>fL vs fun vs=>k (.tuple vs)
  | .func f a b=>fL a fun a=>fL b fun b=>k (.func f a b)
  | v=>fV1 v k
theorem aHe{β:Type}(v:AV)(k:AV->Option β):fV v k=k v:=by cases v<;>simp[fV,aAp,aAo]
def aFR{β:Type}(o:AObj)(k:AObj->Option β):Option β:=
  match o with
  | .cells ver rw cs=>tM ver fun ver=>fL cs fun cs=>k (.cells ver rw cs)
  | .map ver es=>k (.map ver es)
  | .loop ver r=>tM ver fun ver=>k (.loop ver r)
  | .dead=>k .dead
theorem aDj{β:Type}(o:AObj)(k:AObj->Option β):aFR o k=k o:=by cases o<;>simp[aFR,aAp,v7]
def fHT{β:Type} :Nat->HT->Nat->(HT->Option β)->Option β
  | 0,t,_,k=>k t
  | fuel+1,.leaf,_,k=>k .leaf
  | fuel+1,.node v l r,i,k=>bif Nat.beq i 0 then(match v with | some o=>aFR o fun o=>k (.node (some o) l r) | none=>k (.node none l r))
    else bif Nat.beq (Nat.mod i 2) 1 then fHT fuel l (Nat.div i 2) (fun l=>k (.node v l r))else fHT fuel r (Nat.sub (Nat.div i 2) 1) (fun r=>k (.node v l r))
theorem aAq{β:Type} :∀(fuel:Nat) (t:HT) (i:Nat) (k:HT->Option β),fHT fuel t i k=k t
  | 0,_,_,_=>rfl
  | fuel+1,.leaf,_,_=>rfl
  | fuel+1,.node v l r,i,k=>by
    unfold fHT
    cases Nat.beq i 0 with
    | true=>cases v<;>simp[aDj]
    | false=>cases Nat.beq (Nat.mod i 2) 1<;>simp[aAq fuel]
def fH{β:Type}(h:H)(i:Nat)(k:H->Option β):Option β:=match h with | ⟨n,t⟩=>tM n fun n=>fHT 40 t i fun t=>k ⟨n,t⟩
theorem aHg{β:Type}(h:H)(i:Nat)(k:H->Option β):fH h i k=k h:=by cases h;simp[fH,v7,aAq]
def AR.sub(t:TT):AR->AR
  | .tmp i=> .const (t.get i)
  | .const v=> .const v
def DH(t:TT):Option AR->Option AR
  | none=>none
  | some x=>some (x.sub t)
def WT(t:TT):List (Nat×Nat×AR)->List (Nat×Nat×AR)
  | []=>[]
  | (o,s,x)::r=>(o,s,x.sub t)::WT t r
def GB(t:TT):List AR->List AR
  | []=>[]
  | x::r=>x.sub t::GB t r
def AO.sub(t:TT):AO->AO
  | .move x=> .move (x.sub t)
  | .pick c a b=> .pick (c.sub t) (a.sub t) (b.sub t)
  | .alloc cs=> .alloc cs
  | .box x=> .box (x.sub t)
  | .build z ps=> .build z (WT t ps)
  | .buildSlice s n z ps=> .buildSlice s n z (WT t ps)
  | .load x=> .load (x.sub t)
  | .loadAgg n x=> .loadAgg n (x.sub t)
  | .store n a x=> .store n (a.sub t) (x.sub t)
  | .nilCheck x=> .nilCheck (x.sub t)
  | .bin op x y=> .bin op (x.sub t) (y.sub t)
  | .eqB n x y=> .eqB n (x.sub t) (y.sub t)
  | .isNil kd n x y=> .isNil kd n (x.sub t) (y.sub t)
  | .eqCells n T x y=> .eqCells n T (x.sub t) (y.sub t)
  | .un op x=> .un op (x.sub t)
  | .convInt k x=> .convInt k (x.sub t)
  | .convStr x=> .convStr (x.sub t)
  | .bytesToStr x=> .bytesToStr (x.sub t)
  | .mkIface ty x=> .mkIface ty (x.sub t)
  | .mkFunc fn f c=> .mkFunc fn (GB t f) (GB t c)
  | .makeMap=> .makeMap
  | .makeSlice b z n c=> .makeSlice b z (n.sub t) (c.sub t)
  | .slice s x lo hi mx=> .slice s (x.sub t) (DH t lo) (DH t hi) (DH t mx)
  | .sliceArr n s x lo hi=> .sliceArr n s (x.sub t) (DH t lo) (DH t hi)
  | .sliceStr x lo hi=> .sliceStr (x.sub t) (DH t lo) (DH t hi)
  | .fieldAddr o x=> .fieldAddr o (x.sub t)
  | .field o n x=> .field o n (x.sub t)
  | .indexAddr s x i=> .indexAddr s (x.sub t) (i.sub t)
  | .indexAddrA n s x i=> .indexAddrA n s (x.sub t) (i.sub t)
  | .index n s b x i=> .index n s b (x.sub t) (i.sub t)
  | .indexStr x i=> .indexStr (x.sub t) (i.sub t)
  | .lookup kd ok z x i=> .lookup kd ok z (x.sub t) (i.sub t)
  | .mapUpdate kd m k v=> .mapUpdate kd (m.sub t) (k.sub t) (v.sub t)
  | .extract x i=> .extract (x.sub t) i
  | .call f as=> .call (f.sub t) (GB t as)
  | .append s b x y=> .append s b (x.sub t) (y.sub t)
  | .appendMake b z x y=> .appendMake b z (x.sub t) (y.sub t)
  | .copyS s x y=> .copyS s (x.sub t) (y.sub t)
  | .clearS z x=> .clearS z (x.sub t)
  | .len x=> .len (x.sub t)
  | .lenStr x=> .lenStr (x.sub t)
  | .lenMap x=> .lenMap (x.sub t)
  | .cap x=> .cap (x.sub t)
  | .max x xs=> .max (x.sub t) (GB t xs)
  | .min x xs=> .min (x.sub t) (GB t xs)
  | .asTo ty z x=> .asTo ty z (x.sub t)
  | .strToBytes x=> .strToBytes (x.sub t)
structure Rl (n:Nat) (t:TT) (a:List AV):Prop where
  len:a.length=n
  get:∀i,t.get i=tget a i
section
variable {n:Nat} {t:TT} {a:List AV}
theorem rW(hr:Rl n t a)(x:AR):ev [] (x.sub t)=ev a x:=by cases x<;>simp[AR.sub,ev,hr.get]
theorem Q0(hr:Rl n t a):∀l:List AR,(GB t l).map (ev [])=l.map (ev a)
  | []=>rfl
  | x::r=>by simp[GB,rW hr,Q0 hr r]
theorem aDz(hr:Rl n t a)(x:Option AR):bnd [] (DH t x)=bnd a x:=by cases x<;>simp[DH,bnd,rW hr]
theorem I1(hr:Rl n t a):∀(ps:List (Nat×Nat×AR)) (cs:List AV),pH [] cs (WT t ps)=pH a cs ps
  | [],cs=>rfl
  | (o,s,x)::r,cs=>by simp only[WT,pH,rW hr,I1 hr r]
theorem aCa(hr:Rl n t a)(h:H)(s:Nat)(x:AR):fY [] h s (x.sub t)=fY a h s x:=by simp only[fY,rW hr]
theorem aDH(hr:Rl n t a)(h:H)(o:AO):aop [] h (o.sub t)=aop a h o:=by cases o<;>simp only[AO.sub,aop,rW hr,Q0 hr,aDz hr,I1 hr,aCa hr]
end
theorem pN:∀(a:List AV) (i:Nat) (v:AV) (j:Nat),i<a.length->tget (tset a i v) j=if j=i then v else tget a j
  | [],i,v,j,h=>by simp at h
  | x::l,0,v,j,h=>by cases j<;>simp[tset,tget]
  | x::l,i+1,v,j,h=>by
    cases j with
    | zero=>simp[tset,tget]
    | succ j=>simp only[tset,tget];rw[pN l i v j (by simpa using h)];simp
theorem jF:∀(a:List AV) (i:Nat) (v:AV),(tset a i v).length=a.length
  | [],_,_=>rfl
  | _::_,0,_=>rfl
  | _::l,i+1,v=>by simp[tset,jF l i v]
theorem Rl.set{n:Nat}{t t':TT}{a:List AV}{i:Nat}{v:AV}(hr:Rl n t a)(hi:i<n)(ht:∀j,t'.get j=if j=i then v else t.get j):Rl n t' (tset a i v):=by refine⟨by rw[jF];exact hr.len,fun j=>?_⟩;rw[ht j,pN a i v j (by rw[hr.len];exact hi),hr.get j]
noncomputable def TT.gk(t:TT):Nat->(AV->Bool)->Bool:=
  TT.rec (motive:=fun _=>Nat->(AV->Bool)->Bool) (fun _ k=>k .junk)
    (fun v _ _ ihl ihr i k=>Bool.rec (Bool.rec (ihr (Nat.sub (Nat.div i (nat_lit 2)) (nat_lit 1)) k) (ihl (Nat.div i (nat_lit 2)) k) (Nat.beq (Nat.mod i (nat_lit 2)) (nat_lit 1))) (k v) (Nat.beq i (nat_lit 0))) t
theorem TT.gk_eq:∀(t:TT) (i:Nat) (k:AV->Bool),t.gk i k=k (t.get i)
  | .leaf,i,k=>rfl
  | .node v l r,i,k=>by
    show Bool.rec (Bool.rec (r.gk (i / 2-1) k) (l.gk (i / 2) k) (Nat.beq (i % 2) 1)) (k v) (Nat.beq i 0)=k (bif Nat.beq i 0 then v else bif Nat.beq (i % 2) 1 then l.get (i / 2)else r.get (i / 2-1))
    cases Nat.beq i 0 with
    | true=>rfl
    | false=>cases Nat.beq (i % 2) 1 with
      | true=>exact TT.gk_eq l _ k
      | false=>exact TT.gk_eq r _ k
noncomputable def TT.sk(v:AV)(t:TT):Nat->(TT->Bool)->Bool:=
  TT.rec (motive:=fun _=>Nat->(TT->Bool)->Bool) (fun _ _=>false)
    (fun x l r ihl ihr i k=>Bool.rec (Bool.rec (ihr (Nat.sub (Nat.div i (nat_lit 2)) (nat_lit 1)) (fun t=>k (.node x l t))) (ihl (Nat.div i (nat_lit 2)) (fun t=>k (.node x t r))) (Nat.beq (Nat.mod i (nat_lit 2)) (nat_lit 1))) (k (.node v l r)) (Nat.beq i (nat_lit 0))) t
theorem TT.sk_ok{v:AV} :∀{t:TT} {i:Nat} {k:TT->Bool},TT.sk v t i k=true->∃t',k t'=true/\∀j,t'.get j=if j=i then v else t.get j
  | .leaf,i,k,h=>by cases h
  | .node x l r,i,k,h=>by
    have h':Bool.rec (Bool.rec (TT.sk v r (i / 2-1) (fun t=>k (.node x l t))) (TT.sk v l (i / 2) (fun t=>k (.node x t r))) (Nat.beq (i % 2) 1)) (k (.node v l r)) (Nat.beq i 0)=true:=h
    cases hb:Nat.beq i 0 with
    | true=>
      rw[hb]at h';have:=Nat.eq_of_beq_eq_true hb;subst this;refine⟨_,h',fun j=>?_⟩;rw[TT.get_node,TT.get_node];by_cases hj:j=0
      · simp[hj]
      · simp[hj]
    | false=>
      have hi0:i≠0:=by rintro rfl;cases hb
      rw[hb]at h'
      cases hc:Nat.beq (i % 2) 1 with
      | true=>
        rw[hc]at h';have hm:=Nat.eq_of_beq_eq_true hc;obtain⟨t',h1,h2⟩:=TT.sk_ok (t:=l) (k:=fun t=>k (.node x t r)) h';refine⟨_,h1,fun j=>?_⟩;rw[TT.get_node,TT.get_node];by_cases hj0:j=0
        · rw[if_pos hj0,if_neg (by omega),if_pos hj0]
        · rw[if_neg hj0,if_neg hj0];by_cases hj1:j % 2=1
          · rw[if_pos hj1,if_pos hj1,h2];by_cases e:j=i
            · subst e;simp
            · rw[if_neg (by omega),if_neg e]
          · rw[if_neg hj1,if_neg (by omega),if_neg hj1]
      | false=>
        rw[hc]at h';have hm:i % 2≠1:=by intro e;rw[e]at hc;cases hc
        obtain⟨t',h1,h2⟩:=TT.sk_ok (t:=r) (k:=fun t=>k (.node x l t)) h';refine⟨_,h1,fun j=>?_⟩;rw[TT.get_node,TT.get_node];by_cases hj0:j=0
        · rw[if_pos hj0,if_neg (by omega),if_pos hj0]
        · rw[if_neg hj0,if_neg hj0];by_cases hj1:j % 2=1
          · rw[if_pos hj1,if_neg (by omega),if_pos hj1]
          · rw[if_neg hj1,if_neg hj1,h2];by_cases e:j=i
            · subst e;simp
            · rw[if_neg (by omega),if_neg e]
def tj0:TT:= .node .junk .leaf .leaf
def tj1:TT:= .node .junk tj0 tj0
def tj2:TT:= .node .junk tj1 tj1
def tj3:TT:= .node .junk tj2 tj2
def tj4:TT:= .node .junk tj3 tj3
def tj5:TT:= .node .junk tj4 tj4
def tj6:TT:= .node .junk tj5 tj5
def tj7:TT:= .node .junk tj6 tj6
def tj8:TT:= .node .junk tj7 tj7
def tj9:TT:= .node .junk tj8 tj8
theorem tjn{t:TT}(h:∀i,t.get i= .junk)(i:Nat):(TT.node .junk t t).get i= .junk:=by
  rw[TT.get_node];split
  · rfl
  · split<;>exact h _
theorem vL(i:Nat):tj0.get i= .junk:=tjn (t:= .leaf) (fun _=>rfl) i
theorem aB7(i:Nat):tj9.get i= .junk:=tjn (fun i=>tjn (fun i=>tjn (fun i=>tjn (fun i=>tjn (fun i=>tjn (fun i=>tjn (fun i=>tjn (fun i=>tjn vL i) i) i) i) i) i) i) i) i
noncomputable def HT.gk(t:HT):Nat->(AObj->Bool)->Bool:=
  HT.rec (motive:=fun _=>Nat->(AObj->Bool)->Bool) (fun _ _=>false)
    (fun v _ _ ihl ihr i k=>Bool.rec (Bool.rec (ihr (Nat.sub (Nat.div i (nat_lit 2)) (nat_lit 1)) k) (ihl (Nat.div i (nat_lit 2)) k) (Nat.beq (Nat.mod i (nat_lit 2)) (nat_lit 1))) (Option.casesOn v false k) (Nat.beq i (nat_lit 0))) t
theorem HT.get_node(y:Option AObj)(l r:HT)(j:Nat):(HT.node y l r).get j=if j=0 then y else if j % 2=1 then l.get (j / 2)else r.get (j / 2-1):=rfl
theorem a8{i j:Nat}(h:Nat.beq i j=false):i≠j:=by rintro rfl;rw[Nat.beq_refl]at h;cases h
theorem HT.gk_ok:∀{t:HT} {i:Nat} {k:AObj->Bool},t.gk i k=true->∃o,t.get i=some o/\k o=true
  | .leaf,i,k,h=>by cases h
  | .node v l r,i,k,h=>by
    have h':Bool.rec (Bool.rec (r.gk (i / 2-1) k) (l.gk (i / 2) k) (Nat.beq (i % 2) 1)) (Option.casesOn v false k) (Nat.beq i 0)=true:=h;rw[HT.get_node]
    cases hb:Nat.beq i 0 with
    | true=>
      rw[hb]at h';rw[if_pos (Nat.eq_of_beq_eq_true hb)]
      cases v with
      | none=>cases h'
      | some o=>exact⟨o,rfl,h'⟩
    | false=>
      rw[hb]at h';rw[if_neg (a8 hb)]
      cases hc:Nat.beq (i % 2) 1 with
      | true=>rw[hc]at h';rw[if_pos (Nat.eq_of_beq_eq_true hc)];exact HT.gk_ok (t:=l) h'
      | false=>rw[hc]at h';rw[if_neg (a8 hc)];exact HT.gk_ok (t:=r) h'
noncomputable def HT.mk(o:AObj)(fuel:Nat):Nat->(HT->Bool)->Bool:=
  Nat.rec (motive:=fun _=>Nat->(HT->Bool)->Bool) (fun _ _=>false)
    (fun _ ih i k=>Bool.rec (Bool.rec (ih (Nat.sub (Nat.div i (nat_lit 2)) (nat_lit 1)) (fun t=>k (.node none .leaf t))) (ih (Nat.div i (nat_lit 2)) (fun t=>k (.node none t .leaf))) (Nat.beq (Nat.mod i (nat_lit 2)) (nat_lit 1))) (k (.node (some o) .leaf .leaf)) (Nat.beq i (nat_lit 0))) fuel
theorem HT.set_leaf(o:AObj)(fuel i:Nat):HT.set o (fuel+1) .leaf i=if i=0 then .node (some o) .leaf .leaf else if i % 2=1 then .node none (HT.set o fuel .leaf (i / 2)) .leaf else .node none .leaf (HT.set o fuel .leaf (i / 2-1)):=rfl
theorem HT.set_node(o:AObj)(fuel i:Nat)(v:Option AObj)(l r:HT):HT.set o (fuel+1) (.node v l r) i=if i=0 then .node (some o) l r else if i % 2=1 then .node v (HT.set o fuel l (i / 2)) r else .node v l (HT.set o fuel r (i / 2-1)):=rfl
theorem HT.mk_ok{o:AObj} :∀{fuel i f:Nat} {k:HT->Bool},i<f->HT.mk o fuel i k=true->k (HT.set o f .leaf i)=true
  | 0,i,f,k,hi,h=>by cases h
  | fuel+1,i,0,k,hi,h=>by omega
  | fuel+1,i,f+1,k,hi,h=>by
    have h':Bool.rec (Bool.rec (HT.mk o fuel (i / 2-1) (fun t=>k (.node none .leaf t))) (HT.mk o fuel (i / 2) (fun t=>k (.node none t .leaf))) (Nat.beq (i % 2) 1)) (k (.node (some o) .leaf .leaf)) (Nat.beq i 0)=true:=h;rw[HT.set_leaf]
    cases hb:Nat.beq i 0 with
    | true=>rw[hb]at h';rw[if_pos (Nat.eq_of_beq_eq_true hb)];exact h'
    | false=>
      rw[hb]at h';have:=a8 hb;rw[if_neg this]
      cases hc:Nat.beq (i % 2) 1 with
      | true=>rw[hc]at h';rw[if_pos (Nat.eq_of_beq_eq_true hc)];exact HT.mk_ok (k:=fun t=>k (.node none t .leaf)) (by omega) h'
      | false=>rw[hc]at h';rw[if_neg (a8 hc)];exact HT.mk_ok (k:=fun t=>k (.node none .leaf t)) (by omega) h'
noncomputable def HT.sk(o:AObj)(t:HT):Nat->(HT->Bool)->Bool:=
  HT.rec (motive:=fun _=>Nat->(HT->Bool)->Bool) (fun i k=>HT.mk o (nat_lit 64) i k)
    (fun v l r ihl ihr i k=>Bool.rec (Bool.rec (ihr (Nat.sub (Nat.div i (nat_lit 2)) (nat_lit 1)) (fun t=>k (.node v l t))) (ihl (Nat.div i (nat_lit 2)) (fun t=>k (.node v t r))) (Nat.beq (Nat.mod i (nat_lit 2)) (nat_lit 1))) (k (.node (some o) l r)) (Nat.beq i (nat_lit 0))) t
theorem HT.sk_ok{o:AObj} :∀{t:HT} {i f:Nat} {k:HT->Bool},i<f->HT.sk o t i k=true->k (HT.set o f t i)=true
  | .leaf,i,f,k,hi,h=>HT.mk_ok hi (show HT.mk o 64 i k=true from h)
  | .node v l r,i,0,k,hi,h=>by omega
  | .node v l r,i,f+1,k,hi,h=>by
    have h':Bool.rec (Bool.rec (HT.sk o r (i / 2-1) (fun t=>k (.node v l t))) (HT.sk o l (i / 2) (fun t=>k (.node v t r))) (Nat.beq (i % 2) 1)) (k (.node (some o) l r)) (Nat.beq i 0)=true:=h;rw[HT.set_node]
    cases hb:Nat.beq i 0 with
    | true=>rw[hb]at h';rw[if_pos (Nat.eq_of_beq_eq_true hb)];exact h'
    | false=>
      rw[hb]at h';have:=a8 hb;rw[if_neg this]
      cases hc:Nat.beq (i % 2) 1 with
      | true=>rw[hc]at h';rw[if_pos (Nat.eq_of_beq_eq_true hc)];exact HT.sk_ok (t:=l) (k:=fun t=>k (.node v t r)) (by omega) h'
      | false=>rw[hc]at h';rw[if_neg (a8 hc)];exact HT.sk_ok (t:=r) (k:=fun t=>k (.node v l t)) (by omega) h'
noncomputable def fN(m:Nat)(k:Nat->Bool):Bool:=Nat.casesOn m (k Nat.zero) (fun p=>k (Nat.succ p))
theorem pI(m:Nat)(k:Nat->Bool):fN m k=k m:=by cases m<;>rfl
noncomputable def fI(n:Int)(k:Int->Bool):Bool:=Int.casesOn n (fun m=>fN m fun m=>k (.ofNat m)) (fun m=>fN m fun m=>k (.negSucc m))
theorem QZ(n:Int)(k:Int->Bool):fI n k=k n:=by cases n<;>simp[fI,pI]
noncomputable def fB(b:Bool)(k:Bool->Bool):Bool:=Bool.casesOn b (k false) (k true)
theorem aEB(b:Bool)(k:Bool->Bool):fB b k=k b:=by cases b<;>rfl
noncomputable def kif(c:Bool)(k:Bool):Bool:=Bool.rec false k c
theorem kif_ok{c k:Bool}(h:kif c k=true):c=true/\k=true:=by
  cases c with
  | false=>cases h
  | true=>exact⟨rfl,h⟩
noncomputable def H.gk(h:H)(i:Nat)(k:AObj->Bool):Bool:=H.casesOn h fun n t=>kif (Nat.ble (Nat.succ i) n) (HT.gk t i k)
theorem H.gk_ok{h:H}{i:Nat}{k:AObj->Bool}(hk:h.gk i k=true):∃o,h.get i=some o/\k o=true:=by obtain⟨n,t⟩:=h;obtain⟨h1,h2⟩:=kif_ok hk;obtain⟨o,h3,h4⟩:=HT.gk_ok h2;refine⟨o,?_,h4⟩;show(if i<n then t.get i else none)=some o;rw[if_pos (show i<n from Nat.le_of_ble_eq_true h1)];exact h3
noncomputable def H.ck(h:H)(i:Nat)(k:Nat->Bool->List AV->Bool):Bool:=h.gk i fun o=>AObj.casesOn o (fun v rw cs=>k v rw cs) (fun _ _=>false) (fun _ _=>false) false
theorem H.ck_ok{h:H}{i:Nat}{k:Nat->Bool->List AV->Bool}(hk:h.ck i k=true):∃ver rw cs,h.get i=some (.cells ver rw cs)/\k ver rw cs=true:=by
  obtain⟨o,h1,h2⟩:=H.gk_ok hk
  cases o with
  | cells ver rw cs=>exact⟨ver,rw,cs,h1,h2⟩
  | _=>cases h2
noncomputable def H.ak(h:H)(o:AObj)(k:H->Bool):Bool:=H.casesOn h fun n t=>fN (Nat.succ n) fun n'=>HT.sk o t n fun t'=>k ⟨n',t'⟩
theorem H.ak_ok{h:H}{o:AObj}{k:H->Bool}(hk:h.ak o k=true):k (h.alloc o)=true:=by obtain⟨n,t⟩:=h;unfold H.ak at hk;simp only[pI]at hk;exact HT.sk_ok (k:=fun t'=>k ⟨n+1,t'⟩) (Nat.lt_succ_self n) hk
noncomputable def H.sk(h:H)(i:Nat)(o:AObj)(k:H->Bool):Bool:=H.casesOn h fun n t=>HT.sk o t i fun t'=>k ⟨n,t'⟩
theorem H.sk_ok{h:H}{i:Nat}{o:AObj}{k:H->Bool}(hk:h.sk i o k=true):k (h.set i o)=true:=by obtain⟨n,t⟩:=h;exact HT.sk_ok (k:=fun t'=>k ⟨n,t'⟩) (Nat.lt_succ_self i) hk
noncomputable def lgk(l:List AV):Nat->(AV->Bool)->Bool:=
  List.rec (motive:=fun _=>Nat->(AV->Bool)->Bool) (fun _ _=>false) (fun v _ ih i k=>Bool.rec (ih (Nat.sub i (nat_lit 1)) k) (k v) (Nat.beq i (nat_lit 0))) l
theorem tF:∀{l:List AV} {i:Nat} {k:AV->Bool},lgk l i k=true->∃v,l[i]? =some v/\k v=true
  | [],i,k,h=>by cases h
  | v::l,0,k,h=>⟨v,rfl,h⟩
  | v::l,i+1,k,h=>tF (l:=l) (i:=i) h
noncomputable def lsk(w:AV)(l:List AV):Nat->(List AV->Bool)->Bool:=
  List.rec (motive:=fun _=>Nat->(List AV->Bool)->Bool) (fun _ _=>false) (fun v tl ih i k=>Bool.rec (ih (Nat.sub i (nat_lit 1)) (fun l=>k (v::l))) (k (w::tl)) (Nat.beq i (nat_lit 0))) l
theorem Y8{w:AV} :∀{l:List AV} {i:Nat} {k:List AV->Bool},lsk w l i k=true->i+1<=l.length/\k (over l i [w])=true
  | [],i,k,h=>by cases h
  | v::l,0,k,h=>⟨by simp,by have h':k (w::l)=true:=h;simpa [over]using h'⟩
  | v::l,i+1,k,h=>by obtain⟨h1,h2⟩:=Y8 (l:=l) (i:=i) (k:=fun l=>k (v::l)) h;exact⟨by simpa using h1,h2⟩
noncomputable def ldk(l:List AV):Nat->(List AV->Bool)->Bool:=
  List.rec (motive:=fun _=>Nat->(List AV->Bool)->Bool) (fun i k=>kif (Nat.beq i (nat_lit 0)) (k [])) (fun v tl ih i k=>Bool.rec (ih (Nat.sub i (nat_lit 1)) k) (k (v::tl)) (Nat.beq i (nat_lit 0))) l
theorem MA:∀{l:List AV} {i:Nat} {k:List AV->Bool},ldk l i k=true->i<=l.length/\k (l.drop i)=true
  | [],i,k,h=>by obtain⟨h1,h2⟩:=kif_ok (c:=Nat.beq i 0) h;have:=Nat.eq_of_beq_eq_true h1;subst this;exact⟨Nat.le_refl _,h2⟩
  | v::l,0,k,h=>⟨by simp,h⟩
  | v::l,i+1,k,h=>by obtain⟨h1,h2⟩:=MA (l:=l) (i:=i) (k:=k) h;exact⟨by simpa using h1,h2⟩
noncomputable def ltk(l:List AV):Nat->(List AV->Bool)->Bool:=
  List.rec (motive:=fun _=>Nat->(List AV->Bool)->Bool) (fun i k=>kif (Nat.beq i (nat_lit 0)) (k [])) (fun v _ ih i k=>Bool.rec (ih (Nat.sub i (nat_lit 1)) (fun l=>k (v::l))) (k []) (Nat.beq i (nat_lit 0))) l
theorem L9:∀{l:List AV} {i:Nat} {k:List AV->Bool},ltk l i k=true->i<=l.length/\k (l.take i)=true
  | [],i,k,h=>by obtain⟨h1,h2⟩:=kif_ok (c:=Nat.beq i 0) h;have:=Nat.eq_of_beq_eq_true h1;subst this;exact⟨Nat.le_refl _,h2⟩
  | v::l,0,k,h=>⟨by simp,h⟩
  | v::l,i+1,k,h=>by obtain⟨h1,h2⟩:=L9 (l:=l) (i:=i) (k:=fun l=>k (v::l)) h;exact⟨by simpa using h1,h2⟩
noncomputable def lak(l m:List AV)(k:List AV->Bool):Bool:=
  List.rec (motive:=fun _=>(List AV->Bool)->Bool) (fun k=>k m) (fun v _ ih k=>ih (fun t=>k (v::t))) l k
theorem pS:∀(l m:List AV) (k:List AV->Bool),lak l m k=k (l++m)
  | [],m,k=>rfl
  | v::l,m,k=>pS l m (fun t=>k (v::t))
noncomputable def gck(h:H)(b i n:Nat)(k:List AV->Bool):Bool:=h.ck b fun _ _ cs=>ldk cs i fun l=>ltk l n k
theorem EX{h:H}{b i n:Nat}{k:List AV->Bool}(hk:gck h b i n k=true):∃cs,aZ h b i n=some cs/\cs.length=n/\k cs=true:=by
  obtain⟨ver,rw,cs,h1,h2⟩:=H.ck_ok hk;obtain⟨h3,h4⟩:=MA h2;obtain⟨h5,h6⟩:=L9 h4;rw[List.length_drop]at h5;refine⟨_,?_,?_,h6⟩
  · unfold aZ;rw[h1];simp only;rw[if_pos (by omega)]
  · rw[List.length_take,List.length_drop];omega
noncomputable def nQ(v:AV)(k:Bool->Bool):Bool:=AV.casesOn (motive_1:=fun _=>Bool) v false (fun b=>k b) (fun _ _=>false) (fun _=>false) false (fun _ _=>false) false (fun _ _ _ _ _=>false) false (fun _=>false) (fun _ _ _=>false) false (fun _ _=>false) false (fun _=>false) (fun _=>false)
theorem jK{v:AV}{k:Bool->Bool}(h:nQ v k=true):∃b,v= .bool b/\k b=true:=by cases v<;>first | exact⟨_,rfl,h⟩ | cases h
noncomputable def B8(v:AV)(k:IntKind->Int->Bool):Bool:=AV.casesOn (motive_1:=fun _=>Bool) v false (fun _=>false) (fun a b=>k a b) (fun _=>false) false (fun _ _=>false) false (fun _ _ _ _ _=>false) false (fun _=>false) (fun _ _ _=>false) false (fun _ _=>false) false (fun _=>false) (fun _=>false)
theorem nP{v:AV}{k:IntKind->Int->Bool}(h:B8 v k=true):∃a b,v= .int a b/\k a b=true:=by cases v<;>first | exact⟨_,_,rfl,h⟩ | cases h
noncomputable def pE(v:AV)(k:Nat->Nat->Bool):Bool:=AV.casesOn (motive_1:=fun _=>Bool) v false (fun _=>false) (fun _ _=>false) (fun _=>false) false (fun a b=>k a b) false (fun _ _ _ _ _=>false) false (fun _=>false) (fun _ _ _=>false) false (fun _ _=>false) false (fun _=>false) (fun _=>false)
theorem jT{v:AV}{k:Nat->Nat->Bool}(h:pE v k=true):∃a b,v= .ptr a b/\k a b=true:=by cases v<;>first | exact⟨_,_,rfl,h⟩ | cases h
noncomputable def PZ(v:AV)(k:List AV->Bool):Bool:=AV.casesOn (motive_1:=fun _=>Bool) v false (fun _=>false) (fun _ _=>false) (fun _=>false) false (fun _ _=>false) false (fun _ _ _ _ _=>false) false (fun _=>false) (fun _ _ _=>false) false (fun _ _=>false) false (fun cs=>k cs) (fun _=>false)
theorem xR{v:AV}{k:List AV->Bool}(h:PZ v k=true):∃a,v= .agg a/\k a=true:=by cases v<;>first | exact⟨_,rfl,h⟩ | cases h
noncomputable def PR(v:AV)(k:List AV->Bool):Bool:=AV.casesOn (motive_1:=fun _=>Bool) v false (fun _=>false) (fun _ _=>false) (fun _=>false) false (fun _ _=>false) false (fun _ _ _ _ _=>false) false (fun _=>false) (fun _ _ _=>false) false (fun _ _=>false) false (fun _=>false) (fun cs=>k cs)
theorem LU{v:AV}{k:List AV->Bool}(h:PR v k=true):∃a,v= .tuple a/\k a=true:=by cases v<;>first | exact⟨_,rfl,h⟩ | cases h
noncomputable def oM(v:AV)(kn:Bool)(k:Bool->Nat->Nat->Nat->Nat->Bool):Bool:=AV.casesOn (motive_1:=fun _=>Bool) v false (fun _=>false) (fun _ _=>false) (fun _=>false) false (fun _ _=>false) kn (fun a b c d e=>k a b c d e) false (fun _=>false) (fun _ _ _=>false) false (fun _ _=>false) false (fun _=>false) (fun _=>false)
theorem jS{v:AV}{kn:Bool}{k:Bool->Nat->Nat->Nat->Nat->Bool}(h:oM v kn k=true):(v= .nilslice/\kn=true)\/∃a b c d e,v= .slice a b c d e/\k a b c d e=true:=by cases v<;>first | exact .inl ⟨rfl,h⟩ | exact .inr ⟨_,_,_,_,_,rfl,h⟩ | cases h
noncomputable def D7(v:AV)(k:Bool->Bool)(no:Bool):Bool:=AV.casesOn (motive_1:=fun _=>Bool) v false (fun b=>k b) (fun _ _=>false) (fun _=>false) false (fun _ _=>false) false (fun _ _ _ _ _=>false) false (fun _=>false) (fun _ _ _=>false) false (fun _ _=>false) false (fun _=>false) (fun _=>no)
theorem LW{v:AV}{k:Bool->Bool}{no:Bool}(h:D7 v k no=true):(∃b,v= .bool b/\k b=true)\/(∃l,v= .tuple l/\no=true):=by cases v<;>first | exact .inl ⟨_,rfl,h⟩ | exact .inr ⟨_,rfl,h⟩ | cases h
noncomputable def QV(v:AV)(k:Bool):Bool:=AV.casesOn (motive_1:=fun _=>Bool) v false (fun _=>k) (fun _ _=>k) (fun _=>k) k (fun _ _=>k) k (fun _ _ _ _ _=>k) k (fun _=>k) (fun _ _ _=>k) k (fun _ _=>k) k (fun _=>false) (fun _=>false)
theorem yI{v:AV}{k:Bool}(h:QV v k=true):v.one=true/\v.cells=[v]/\k=true:=by cases v<;>first | exact⟨rfl,rfl,h⟩ | cases h
noncomputable def E8(l:List AV)(k:Bool):Bool:=List.rec (motive:=fun _=>Bool) k (fun v _ ih=>QV v ih) l
theorem oX:∀{l:List AV} {k:Bool},E8 l k=true->l.all AV.one=true/\k=true
  | [],k,h=>⟨rfl,h⟩
  | v::l,k,h=>by obtain⟨h1,_,h3⟩:=yI (v:=v) h;obtain⟨h4,h5⟩:=oX (l:=l) h3;exact⟨by simp[h1,h4],h5⟩
noncomputable def LX(v:AV)(k:Fn->List AV->List AV->Bool):Bool:=AV.casesOn (motive_1:=fun _=>Bool) v false (fun _=>false) (fun _ _=>false) (fun _=>false) false (fun _ _=>false) false (fun _ _ _ _ _=>false) false (fun _=>false) (fun a b c=>k a b c) false (fun _ _=>false) false (fun _=>false) (fun _=>false)
theorem B9{v:AV}{k:Fn->List AV->List AV->Bool}(h:LX v k=true):∃a b c,v= .func a b c/\k a b c=true:=by cases v<;>first | exact⟨_,_,_,rfl,h⟩ | cases h
abbrev KO:=AV->H->List Nat->Bool
def IB:IntKind->Nat
  | .i8=>nat_lit 0 | .i16=>nat_lit 1 | .i32=>nat_lit 2 | .i64=>nat_lit 3 | .u8=>nat_lit 4 | .u16=>nat_lit 5 | .u32=>nat_lit 6 | .u64=>nat_lit 7
theorem yD{a b:IntKind}(h:Nat.beq (IB a) (IB b)=true):a=b:=by cases a<;>cases b<;>first | rfl | cases h
def kmx:IntKind->Nat
  | .i8=>nat_lit 127 | .i16=>nat_lit 32767 | .i32=>nat_lit 2147483647 | .i64=>nat_lit 9223372036854775807 | .u8=>nat_lit 255 | .u16=>nat_lit 65535 | .u32=>nat_lit 4294967295 | .u64=>nat_lit 18446744073709551615
theorem KC{k:IntKind}{m:Nat}(h:m<=kmx k):k.wrap (Int.ofNat m)=Int.ofNat m:=by have e:Int.ofNat m=(m:Int):=rfl;rw[e];cases k<;>(simp only[kmx]at h;simp only[IntKind.wrap,IntKind.bits,IntKind.signed];simp;omega)
noncomputable def CC(kd:IntKind)(n:Int)(k:Int->Bool):Bool:=Int.casesOn n (fun m=>Bool.rec (fI (kd.wrap (.ofNat m)) k) (fN m fun m=>k (.ofNat m)) (Nat.ble m (kmx kd))) (fun m=>fI (kd.wrap (.negSucc m)) k)
theorem yB(kd:IntKind)(n:Int)(k:Int->Bool):CC kd n k=k (kd.wrap n):=by
  cases n with
  | ofNat m=>
    show @Bool.rec (fun _=>Bool) (fI (kd.wrap (.ofNat m)) k) (fN m fun m=>k (.ofNat m)) (Nat.ble m (kmx kd))=_
    cases h:Nat.ble m (kmx kd)with
    | true=>rw[KC (Nat.le_of_ble_eq_true h)];exact pI _ _
    | false=>exact QZ _ _
  | negSucc m=>exact QZ _ _
noncomputable def ZK(x y:Int):Bool:=Int.casesOn x (fun a=>Int.casesOn y (fun b=>Nat.ble (Nat.succ a) b) (fun _=>false)) (fun a=>Int.casesOn y (fun _=>true) (fun b=>Nat.ble (Nat.succ b) a))
theorem aCS(x y:Int):ZK x y=decide (x<y):=by
  cases x with
  | ofNat a=>cases y with
    | ofNat b=>
      show Nat.ble (a+1) b=_;by_cases h:a<b
      · rw[Nat.ble_eq_true_of_le h];simp;omega
      · have:Nat.ble (a+1) b=false:=by cases hb:Nat.ble (a+1) b with
          | true=>exact absurd (Nat.le_of_ble_eq_true hb) (by omega)
          | false=>rfl
        rw[this];simp;omega
    | negSucc b=>show false=_;simp;omega
  | negSucc a=>cases y with
    | ofNat b=>show true=_;simp;omega
    | negSucc b=>
      show Nat.ble (b+1) a=_;by_cases h:b<a
      · rw[Nat.ble_eq_true_of_le h];simp;omega
      · have:Nat.ble (b+1) a=false:=by cases hb:Nat.ble (b+1) a with
          | true=>exact absurd (Nat.le_of_ble_eq_true hb) (by omega)
          | false=>rfl
        rw[this];simp;omega
noncomputable def T2(x y:Int):Bool:=Int.casesOn x (fun a=>Int.casesOn y (fun b=>Nat.beq a b) (fun _=>false)) (fun a=>Int.casesOn y (fun _=>false) (fun b=>Nat.beq a b))
theorem QP(x y:Int):T2 x y=(x==y):=by
  cases x with
  | ofNat a=>cases y with
    | ofNat b=>
      show Nat.beq a b=_
      cases h:Nat.beq a b with
      | true=>have:=Nat.eq_of_beq_eq_true h;subst this;simp
      | false=>have:=a8 h;symm;simp;omega
    | negSucc b=>symm;show _=false;simp<;>omega
  | negSucc a=>cases y with
    | ofNat b=>symm;show _=false;simp<;>omega
    | negSucc b=>
      show Nat.beq a b=_
      cases h:Nat.beq a b with
      | true=>have:=Nat.eq_of_beq_eq_true h;subst this;simp
      | false=>have:=a8 h;symm;simp;omega
noncomputable def aG9(x y:Int):Int:=Int.casesOn x (fun a=>Int.casesOn y (fun b=> .ofNat (Nat.add a b)) (fun b=> .ofNat a+ .negSucc b)) (fun a=> .negSucc a+y)
theorem aDf(x y:Int):aG9 x y=x+y:=by cases x<;>cases y<;>rfl
noncomputable def aG4(x y:Int):Int:=Int.casesOn x (fun a=>Int.casesOn y (fun b=>Bool.rec (.ofNat a- .ofNat b) (.ofNat (Nat.sub a b)) (Nat.ble b a)) (fun b=> .ofNat a- .negSucc b)) (fun a=> .negSucc a-y)
theorem aDb(x y:Int):aG4 x y=x-y:=by
  cases x with
  | ofNat a=>cases y with
    | ofNat b=>
      show @Bool.rec (fun _=>Int) (Int.ofNat a- .ofNat b) (.ofNat (Nat.sub a b)) (Nat.ble b a)=_
      cases h:Nat.ble b a with
      | true=>have:=Nat.le_of_ble_eq_true h;show Int.ofNat (a-b)=Int.ofNat a-Int.ofNat b;simp;omega
      | false=>rfl
    | negSucc b=>rfl
  | negSucc a=>rfl
noncomputable def aG8(x y:Int):Int:=Int.casesOn x (fun a=>Int.casesOn y (fun b=> .ofNat (Nat.mod a b)) (fun b=>(Int.ofNat a).tmod (.negSucc b))) (fun a=>(Int.negSucc a).tmod y)
theorem aDe(x y:Int):aG8 x y=x.tmod y:=by cases x<;>cases y<;>rfl
noncomputable def aG5(x y:Int):Int:=Int.casesOn x (fun a=>Int.casesOn y (fun b=> .ofNat (Nat.div a b)) (fun b=>(Int.ofNat a).tdiv (.negSucc b))) (fun a=>(Int.negSucc a).tdiv y)
theorem aDc(x y:Int):aG5 x y=x.tdiv y:=by cases x<;>cases y<;>rfl
noncomputable def aG7(x y:Int):Int:=Int.casesOn x (fun a=>Int.casesOn y (fun b=> .ofNat (Nat.mul a b)) (fun b=>(Int.ofNat a)*(.negSucc b))) (fun a=>(Int.negSucc a)*y)
theorem aDd(x y:Int):aG7 x y=x*y:=by cases x<;>cases y<;>rfl
noncomputable def kev(x:AR)(t:TT)(k:AV->Bool):Bool:=AR.casesOn x (fun i=>t.gk i k) (fun v=>k v)
section
variable {n:Nat} {t:TT} {a:List AV}
theorem bK(hr:Rl n t a)(x:AR)(k:AV->Bool):kev x t k=k (ev a x):=by
  cases x with
  | tmp i=>show t.gk i k=_;rw[TT.gk_eq,hr.get];rfl
  | const v=>rfl
end
noncomputable def ZN(l:List AR)(t:TT):(List AV->Bool)->Bool:=List.rec (motive:=fun _=>(List AV->Bool)->Bool) (fun k=>k []) (fun x _ ih k=>kev x t fun v=>ih fun vs=>k (v::vs)) l
theorem vV{n:Nat}{t:TT}{a:List AV}(hr:Rl n t a):∀(l:List AR) (k:List AV->Bool),ZN l t k=k (l.map (ev a))
  | [],k=>rfl
  | x::l,k=>by show kev x t (fun v=>ZN l t fun vs=>k (v::vs))=_;rw[bK hr,vV hr l];rfl
def fO{β:Type}(v:Option β)(k:β->Bool):Bool:=match v with
  | some v=>k v
  | none=>false
theorem aHf{β:Type}{v:Option β}{k:β->Bool}(h:fO v k=true):∃r,v=some r/\k r=true:=by
  cases v with
  | none=>cases h
  | some x=>exact⟨x,rfl,h⟩
def fVb(v:AV)(k:AV->Bool):Bool:=fO (fV v fun v=>some v) k
theorem aFQ(v:AV)(k:AV->Bool):fVb v k=k v:=by unfold fVb;rw[aHe];rfl
def fHb(h:H)(i:Nat)(k:H->Bool):Bool:=fO (fH h i fun h=>some h) k
theorem aFT(h:H)(i:Nat)(k:H->Bool):fHb h i k=k h:=by unfold fHb;rw[aHg];rfl
def AO.where_(t:TT)(h:H):AO->Nat
  | .store _ p _=>match ev [] (p.sub t)with
    | .ptr b _=>b
    | _=>h.next
  | .mapUpdate _ m _ _=>match ev [] (m.sub t)with
    | .map r=>r
    | _=>h.next
  | _=>h.next
def tI(o:AO)(t:TT)(h:H)(k:KO):Bool:=fO (aop [] h (o.sub t)) fun r=>fVb r.1 fun v=>fHb r.2.1 (o.where_ t h) fun h'=>k v h' r.2.2
noncomputable def ZV(x:AR)(t:TT)(h:H)(k:KO):Bool:=kev x t fun v=>k v h []
noncomputable def ZT(c x y:AR)(t:TT)(h:H)(k:KO):Bool:=kev c t fun c=>nQ c fun b=>Bool.rec (kev y t fun v=>k v h []) (kev x t fun v=>k v h []) b
noncomputable def Z2(cs:List AV)(t:TT)(h:H)(k:KO):Bool:=h.ak (.cells Nat.zero true cs) fun h'=>H.casesOn h fun n _=>k (.ptr n Nat.zero) h' []
noncomputable def RK(v:AV)(ka:List AV->Bool)(ko:Bool):Bool:=AV.casesOn (motive_1:=fun _=>Bool) v ko (fun _=>ko) (fun _ _=>ko) (fun _=>ko) ko (fun _ _=>ko) ko (fun _ _ _ _ _=>ko) ko (fun _=>ko) (fun _ _ _=>ko) ko (fun _ _=>ko) ko (fun cs=>ka cs) (fun _=>ko)
noncomputable def aFD(x:AR)(t:TT)(h:H)(k:KO):Bool:=kev x t fun v=>H.casesOn h fun n _=>RK v (fun cs=>E8 cs (h.ak (.cells Nat.zero true cs) fun h'=>k (.ptr n Nat.zero) h' [])) (QV v (h.ak (.cells Nat.zero true [v]) fun h'=>k (.ptr n Nat.zero) h' []))
noncomputable def ZZ(x:AR)(t:TT)(h:H)(k:KO):Bool:=kev x t fun v=>pE v fun b o=>h.ck b fun _ _ cs=>lgk cs o fun v=>k v h [b]
noncomputable def yF(n:Nat)(x:AR)(t:TT)(h:H)(k:KO):Bool:=kev x t fun v=>pE v fun b o=>gck h b o n fun cs=>k (.agg cs) h [b]
noncomputable def EP(p x:AR)(t:TT)(h:H)(k:KO):Bool:=kev p t fun p=>pE p fun b o=>kev x t fun v=>QV v (h.ck b fun ver rw cs=>kif rw (lsk v cs o fun cs'=>fN (Nat.succ ver) fun ver'=>h.sk b (.cells ver' true cs') fun h'=>k (.tuple []) h' []))
noncomputable def MG(n:Nat)(p x:AR)(t:TT)(h:H)(k:KO):Bool:=Bool.rec (tI (.store n p x) t h k) (kev x t fun v=>RK v (fun _=>tI (.store n p x) t h k) (EP p x t h k)) (Nat.beq n (nat_lit 1))
noncomputable def aEq(v:AV)(kp:Nat->Nat->Bool)(ko:Bool):Bool:=AV.casesOn (motive_1:=fun _=>Bool) v ko (fun _=>ko) (fun _ _=>ko) (fun _=>ko) ko (fun a b=>kp a b) ko (fun _ _ _ _ _=>ko) ko (fun _=>ko) (fun _ _ _=>ko) ko (fun _ _=>ko) ko (fun _=>ko) (fun _=>ko)
noncomputable def aFA(x:AR)(t:TT)(h:H)(k:KO):Bool:=kev x t fun v=>aEq v (fun _ _=>k v h []) (tI (.nilCheck x) t h k)
noncomputable def NP(b:Bool)(h:H)(k:KO):Bool:=fB b fun b=>k (.bool b) h []
noncomputable def aG3(kd:IntKind)(x y:Int)(h:H)(k:KO):Bool:=CC kd (aG9 x y) fun z=>k (.int kd z) h []
noncomputable def aGT(kd:IntKind)(x y:Int)(h:H)(k:KO):Bool:=CC kd (aG4 x y) fun z=>k (.int kd z) h []
noncomputable def aGX(kd:IntKind)(x y:Int)(h:H)(k:KO):Bool:=CC kd (aG7 x y) fun z=>k (.int kd z) h []
noncomputable def aGV(kd:IntKind)(x y:Int)(h:H)(k:KO):Bool:=Bool.rec (CC kd (aG5 x y) fun z=>k (.int kd z) h []) false (T2 y (.ofNat (nat_lit 0)))
noncomputable def aGU(kd:IntKind)(x y:Int)(h:H)(k:KO):Bool:=Bool.rec (fI (aG8 x y) fun z=>k (.int kd z) h []) false (T2 y (.ofNat (nat_lit 0)))
noncomputable def aG2(kd:IntKind)(x y:Int)(h:H)(k:KO):Bool:=NP (T2 x y) h k
noncomputable def aGW(kd:IntKind)(x y:Int)(h:H)(k:KO):Bool:=NP (Bool.rec true false (T2 x y)) h k
noncomputable def aGY(kd:IntKind)(x y:Int)(h:H)(k:KO):Bool:=NP (ZK x y) h k
noncomputable def aGZ(kd:IntKind)(x y:Int)(h:H)(k:KO):Bool:=NP (Bool.rec true false (ZK y x)) h k
noncomputable def aG0(kd:IntKind)(x y:Int)(h:H)(k:KO):Bool:=NP (ZK y x) h k
noncomputable def aG1(kd:IntKind)(x y:Int)(h:H)(k:KO):Bool:=NP (Bool.rec true false (ZK x y)) h k
def kNo(kd:IntKind)(x y:Int)(h:H)(k:KO):Bool:=false
noncomputable def CI(op:BinOp):IntKind->Int->Int->H->KO->Bool:=match op with
  | .add=>aG3 | .sub=>aGT | .mul=>aGX | .quo=>aGV | .rem=>aGU | .eql=>aG2 | .neq=>aGW | .lss=>aGY | .leq=>aGZ | .gtr=>aG0 | .geq=>aG1
  | _=>kNo
def aEx:BinOp->Bool
  | .add | .sub | .mul | .quo | .rem | .eql | .neq | .lss | .leq | .gtr | .geq=>true
  | _=>false
noncomputable def aEw(v w:AV)(ki:IntKind->Int->IntKind->Int->Bool)(ko:Bool):Bool:=
  AV.casesOn (motive_1:=fun _=>Bool) v ko (fun _=>ko) (fun a b=>B8 w fun c d=>ki a b c d) (fun _=>ko) ko (fun _ _=>ko) ko (fun _ _ _ _ _=>ko) ko (fun _=>ko) (fun _ _ _=>ko) ko (fun _ _=>ko) ko (fun _=>ko) (fun _=>ko)
noncomputable def aFE(op:BinOp)(x y:AR)(t:TT)(h:H)(k:KO):Bool:=
  Bool.rec (tI (.bin op x y) t h k) (kev x t fun v=>kev y t fun w=>aEw v w (fun a b c d=>kif (Nat.beq (IB a) (IB c)) (CI op a b d h k)) (tI (.bin op x y) t h k)) (aEx op)
noncomputable def aFC(neg:Bool)(x y:AR)(t:TT)(h:H)(k:KO):Bool:=kev x t fun v=>kev y t fun w=>nQ v fun p=>nQ w fun q=>Bool.rec (Bool.rec (k (.bool (Bool.rec true false neg)) h []) (k (.bool (Bool.rec false true neg)) h []) q) (Bool.rec (k (.bool (Bool.rec false true neg)) h []) (k (.bool (Bool.rec true false neg)) h []) q) p
noncomputable def aFz(op:UnOp)(x:AR)(t:TT)(h:H)(k:KO):Bool:=match op with
  | .not=>kev x t fun v=>nQ v fun b=>Bool.rec (k (.bool true) h []) (k (.bool false) h []) b
  | _=>tI (.un op x) t h k
noncomputable def Z1(kd:IntKind)(x:AR)(t:TT)(h:H)(k:KO):Bool:=kev x t fun v=>B8 v fun _ n=>CC kd n fun n=>k (.int kd n) h []
noncomputable def EQ(fn:Fn)(f c:List AR)(t:TT)(h:H)(k:KO):Bool:=ZN f t fun f=>ZN c t fun c=>k (.func fn f c) h []
noncomputable def ML(off:Nat)(x:AR)(t:TT)(h:H)(k:KO):Bool:=kev x t fun v=>PZ v fun cs=>lgk cs off fun v=>k v h []
noncomputable def ER(off n:Nat)(x:AR)(t:TT)(h:H)(k:KO):Bool:=kev x t fun v=>PZ v fun cs=>ldk cs off fun l=>ltk l n fun l=>k (.agg l) h []
noncomputable def pU(off:Nat)(x:AR)(t:TT)(h:H)(k:KO):Bool:=kev x t fun v=>pE v fun b o=>fN (Nat.add o off) fun o=>k (.ptr b o) h []
noncomputable def PY(v:AV)(k:Nat->Bool):Bool:=B8 v fun _ n=>Int.casesOn n (fun m=>k m) (fun _=>false)
noncomputable def pT(size:Nat)(x i:AR)(t:TT)(h:H)(k:KO):Bool:=kev x t fun v=>kev i t fun w=>oM v false fun _ sz b o n=>PY w fun m=>kif (Nat.beq sz size) (kif (Nat.ble (Nat.succ m) n) (fN (Nat.add o (Nat.mul m size)) fun o=>k (.ptr b o) h []))
noncomputable def nX(len size:Nat)(x i:AR)(t:TT)(h:H)(k:KO):Bool:=kev x t fun v=>kev i t fun w=>pE v fun b o=>PY w fun m=>kif (Nat.ble (Nat.succ m) len) (fN (Nat.add o (Nat.mul m size)) fun o=>k (.ptr b o) h [])
noncomputable def MI(len size:Nat)(x i:AR)(t:TT)(h:H)(k:KO):Bool:=kev x t fun v=>kev i t fun w=>PZ v fun cs=>PY w fun m=>kif (Nat.ble (Nat.succ m) len) (lgk cs (Nat.mul m size) fun v=>k v h [])
noncomputable def yH(x:AR)(i:Nat)(t:TT)(h:H)(k:KO):Bool:=kev x t fun v=>PR v fun vs=>lgk vs i fun v=>k v h []
noncomputable def aFB(x:AR)(t:TT)(h:H)(k:KO):Bool:=kev x t fun v=>oM v (k (.int .i64 (.ofNat Nat.zero)) h []) fun _ _ _ _ n=>k (.int .i64 (.ofNat n)) h []
noncomputable def aFw(size:Nat)(v:AV)(h:H)(k:List AV->Nat->Bool):Bool:=oM v (k [] Nat.zero) fun _ sz b o n=>kif (Nat.beq sz size) (gck h b o (Nat.mul n size) fun cs=>k cs n)
noncomputable def aEn(v:AV)(ks ko:Bool):Bool:=AV.casesOn (motive_1:=fun _=>Bool) v ko (fun _=>ko) (fun _ _=>ko) (fun _=>ks) ko (fun _ _=>ko) ko (fun _ _ _ _ _=>ko) ko (fun _=>ko) (fun _ _ _=>ko) ko (fun _ _=>ko) ko (fun _=>ko) (fun _=>ko)
theorem WV{v:AV}{ks ko:Bool}(h:aEn v ks ko=true):ks=true\/ko=true:=by cases v<;>first | exact .inl h | exact .inr h
noncomputable def ES(size bytes:Nat)(s0 x0:AR)(t:TT)(h:H)(k:KO):Bool:=kev x0 t fun x=>aEn x (tI (.append size bytes s0 x0) t h k)<| kev s0 t fun s=>aFw size x h fun new n=>
  Bool.rec
    (oM s
      (kif (Nat.ble (Nat.mul n bytes) (nat_lit 140737488355328)) (kif (Nat.ble n (nat_lit 9223372036854775807)) (E8 new (H.casesOn h fun nx _=>h.ak (.cells Nat.zero true new) fun h'=>k (.slice false size nx Nat.zero n) h' []))))
      (fun fl sz b o m=>kif (Nat.beq sz size) (fN (Nat.add m n) fun mn=>kif (Nat.ble (Nat.mul mn bytes) (nat_lit 140737488355328)) (kif (Nat.ble mn (nat_lit 9223372036854775807)) (E8 new (gck h b o (Nat.mul m size) fun old=>lak old new fun all=>H.casesOn h fun nx _=>
        Bool.rec (h.ck b fun _ rw _=>kif rw (h.sk b .dead fun h'=>h'.ak (.cells Nat.zero true all) fun h'=>k (.slice false size nx Nat.zero mn) h' []))
          (h.ak (.cells Nat.zero true all) fun h'=>k (.slice false size nx Nat.zero mn) h' []) fl))))))
    (oM s (k .nilslice h []) (fun _ _ _ _ _=>k s h []))
    (Nat.beq n (nat_lit 0))
noncomputable def krp(z:List AV)(n:Nat):(List AV->Bool)->Bool:=Nat.rec (motive:=fun _=>(List AV->Bool)->Bool) (fun k=>k []) (fun _ ih k=>ih fun l=>lak z l k) n
theorem ZG(z:List AV):∀(n:Nat) (k:List AV->Bool),krp z n k=k (fE n z)
  | 0,k=>rfl
  | n+1,k=>by show krp z n (fun l=>lak z l k)=_;rw[ZG z n,pS];rfl
noncomputable def aFs(z:List AV)(n:Nat)(k:List AV->Bool):Bool:=Bool.rec (k (fE n z)) (krp z n k) (Nat.ble n (nat_lit 300))
theorem aCP(z:List AV)(n:Nat)(k:List AV->Bool):aFs z n k=k (fE n z):=by
  unfold aFs
  cases Nat.ble n 300 with
  | false=>rfl
  | true=>exact ZG z n k
noncomputable def ZJ(l:List AV):Nat:=List.rec (motive:=fun _=>Nat) Nat.zero (fun _ _ ih=>Nat.succ ih) l
theorem rO:∀l:List AV,ZJ l=l.length
  | []=>rfl
  | _::l=>congrArg Nat.succ (rO l)
noncomputable def ZX(bytes:Nat)(z:List AV)(n c:AR)(t:TT)(h:H)(k:KO):Bool:=kev n t fun v=>kev c t fun w=>B8 v fun kv l=>B8 w fun kw m=>Int.casesOn l (fun l=>Int.casesOn m (fun m=>
  kif (Nat.beq (IB kv) (nat_lit 3)) (kif (Nat.beq (IB kw) (nat_lit 3)) (kif (Nat.ble l m) (kif (Nat.ble (Nat.mul m bytes) (nat_lit 140737488355328)) (kif (Nat.ble m (nat_lit 9223372036854775807)) (aFs z l fun cs=>fN (ZJ z) fun sz=>fB (Nat.beq l m) fun fl=>H.casesOn h fun nx _=>h.ak (.cells Nat.zero true cs) fun h'=>k (.slice fl sz nx Nat.zero l) h' [])))))) (fun _=>false)) (fun _=>false)
def KOk(f:TT->H->KO->Bool)(o:AO):Prop:=∀(n:Nat) (t:TT) (a:List AV) (h:H) (k:KO),Rl n t a->f t h k=true->∃v h' rd,aop a h o=some (v,h',rd)/\k v h' rd=true
theorem jG(o:AO):KOk (tI o) o:=by intro n t a h k hr hk;obtain⟨⟨v,h',rd⟩,h1,h2⟩:=aHf hk;rw[aDH hr]at h1;rw[aFQ,aFT]at h2;exact⟨v,h',rd,h1,h2⟩
theorem ZU(x:AR):KOk (ZV x) (.move x):=by intro n t a h k hr hk;unfold ZV at hk;rw[bK hr]at hk;exact⟨_,_,_,rfl,hk⟩
theorem ZS(c x y:AR):KOk (ZT c x y) (.pick c x y):=by
  intro n t a h k hr hk;unfold ZT at hk;rw[bK hr]at hk;obtain⟨b,hb,hk⟩:=jK hk
  cases b with
  | true=>have hk:kev x t (fun v=>k v h [])=true:=hk;rw[bK hr]at hk;exact⟨_,_,_,by simp only[aop,hb],hk⟩
  | false=>have hk:kev y t (fun v=>k v h [])=true:=hk;rw[bK hr]at hk;exact⟨_,_,_,by simp only[aop,hb],hk⟩
theorem T9(cs:List AV):KOk (Z2 cs) (.alloc cs):=by
  intro n t a h k hr hk;have:=H.ak_ok hk
  cases h with
  | mk nx tt=>exact⟨_,_,_,rfl,this⟩
theorem uZ{v:AV}{ka:List AV->Bool}{ko:Bool}(h:RK v ka ko=true):(∃cs,v= .agg cs/\ka cs=true)\/((∀cs,v≠ .agg cs)/\ko=true):=by
  cases v with
  | agg cs=>exact .inl ⟨cs,rfl,h⟩
  | _=>exact .inr ⟨fun cs e=>(by cases e),h⟩
theorem G5{v:AV}{ka:Nat->Nat->Bool}{ko:Bool}(h:aEq v ka ko=true):(∃b o,v= .ptr b o/\ka b o=true)\/ko=true:=by
  cases v with
  | ptr b o=>exact .inl ⟨b,o,rfl,h⟩
  | _=>exact .inr h
theorem aC6(x:AR):KOk (aFD x) (.box x):=by
  intro n t a h k hr hk;unfold aFD at hk;rw[bK hr]at hk
  cases h with
  | mk nx tt=>
    rcases uZ hk with⟨cs,e,hk⟩ | ⟨_,hk⟩
    · obtain⟨h1,hk⟩:=oX hk;have:=H.ak_ok hk;refine⟨_,_,_,?_,this⟩;simp only[aop,e,AV.cells,h1,if_true]
    · obtain⟨h1,h2,hk⟩:=yI hk;have:=H.ak_ok hk;refine⟨_,_,_,?_,this⟩;simp only[aop,h2,List.all_cons,List.all_nil,h1,Bool.and_self,if_true]
theorem ZY(x:AR):KOk (ZZ x) (.load x):=by intro n t a h k hr hk;unfold ZZ at hk;rw[bK hr]at hk;obtain⟨b,o,e,hk⟩:=jT hk;obtain⟨ver,rw_,cs,h1,hk⟩:=H.ck_ok hk;obtain⟨v,h2,hk⟩:=tF hk;exact⟨_,_,_,by simp only[aop,e,fQ,h1,h2],hk⟩
theorem IJ(m:Nat)(x:AR):KOk (yF m x) (.loadAgg m x):=by intro n t a h k hr hk;unfold yF at hk;rw[bK hr]at hk;obtain⟨b,o,e,hk⟩:=jT hk;obtain⟨cs,h1,h2,hk⟩:=EX hk;exact⟨_,_,_,by simp only[aop,e,h1],hk⟩
theorem T5(m:Nat)(p x:AR):KOk (MG m p x) (.store m p x):=by
  intro n t a h k hr hk;unfold MG at hk
  cases hb:Nat.beq m 1 with
  | false=>rw[hb]at hk;exact jG _ n t a h k hr hk
  | true=>
    rw[hb]at hk;have:=Nat.eq_of_beq_eq_true hb;subst this;have hk':kev x t (fun v=>RK v (fun _=>tI (.store 1 p x) t h k) (EP p x t h k))=true:=hk;rw[bK hr]at hk';rcases uZ hk' with⟨cs,e,hk⟩ | ⟨_,hk⟩
    · exact jG _ n t a h k hr hk
    · unfold EP at hk;rw[bK hr]at hk;obtain⟨b,o,e,hk⟩:=jT hk;rw[bK hr]at hk;obtain⟨h1,h2,hk⟩:=yI hk;obtain⟨ver,rw_,cs,h3,hk⟩:=H.ck_ok hk;obtain⟨h4,hk⟩:=kif_ok hk;obtain⟨h5,hk⟩:=Y8 hk;rw[pI]at hk;have hk:=H.sk_ok hk;rw[h4]at h3;refine⟨_,_,_,?_,hk⟩;simp only[aop,e,h2,List.length_cons,List.length_nil,dG,h3,List.all_cons,List.all_nil,h1,Bool.and_true,Nat.zero_add,if_true,decide_eq_true h5]
theorem aC1(x:AR):KOk (aFA x) (.nilCheck x):=by
  intro n t a h k hr hk;unfold aFA at hk;rw[bK hr]at hk;rcases G5 hk with⟨b,o,e,hk⟩ | hk
  · rw[e]at hk;exact⟨_,_,_,by simp only[aop,e],hk⟩
  · exact jG _ n t a h k hr hk
theorem aC7(op:BinOp)(x y:AR):KOk (aFE op x y) (.bin op x y):=by
  intro n t a h k hr hk;unfold aFE at hk
  cases hf:aEx op with
  | false=>rw[hf]at hk;exact jG _ n t a h k hr hk
  | true=>
    rw[hf]at hk;have hk':kev x t (fun v=>kev y t fun w=>aEw v w (fun a b c d=>kif (Nat.beq (IB a) (IB c)) (CI op a b d h k)) (tI (.bin op x y) t h k))=true:=hk;rw[bK hr,bK hr]at hk';have:tI (.bin op x y) t h k=true\/∃kd p q,ev a x= .int kd p/\ev a y= .int kd q/\CI op kd p q h k=true:=by
      cases hx:ev a x with
      | int kd p=>rw[hx]at hk';obtain⟨kd',q,e,hk'⟩:=nP hk';obtain⟨h1,hk'⟩:=kif_ok hk';have e2:=yD h1;exact .inr ⟨kd,p,q,rfl,by rw[e,e2],hk'⟩
      | _=>rw[hx]at hk';exact .inl hk'
    rcases this with hk | ⟨kd,p,q,e1,e2,hk⟩
    · exact jG _ n t a h k hr hk
    · simp only[aop,e1,e2,eB];cases op<;>first
        | (cases hf;done)
        | (simp only [bF,if_true,cB,Bool.false_eq_true,if_false]
           simp only [CI,aG3,aGT,aGX,yB,aDf,aDb,aDd]at hk;exact ⟨_,_,_,rfl,hk⟩)
        | (simp only [bF,if_true,cB,Bool.false_eq_true,if_false]
           simp only [CI,aG2,aGW,aGY,aGZ,aG0,aG1,NP,aEB,QP,aCS]at hk;refine ⟨_,_,_,rfl, ?_⟩;first
             | exact hk
             | (rw [← hk]; congr 2
                first
                  | (cases hd:(p==q)<;>simp[hd,bne];done)
                  | (by_cases hd:p<q<;>simp[hd]<;>omega;done)
                  | (by_cases hd:q<p<;>simp[hd]<;>omega;done)))
        | (simp only [bF,if_true,cB,Bool.false_eq_true,if_false]
           simp only [CI,aGV,aGU,yB,QZ,aDc,aDe]at hk
           cases hz : T2 q (.ofNat 0)with
           | true => rw [hz]at hk; cases hk
           | false =>
             rw [hz]at hk;rw [QP]at hz;have hq : q ≠ 0 := by rintro rfl;simp at hz
             rw [if_neg hq];exact ⟨_,_,_,rfl,hk⟩)
theorem aC5(neg:Bool)(x y:AR):KOk (aFC neg x y) (.eqB neg x y):=by intro n t a h k hr hk;unfold aFC at hk;rw[bK hr,bK hr]at hk;obtain⟨p,e1,hk⟩:=jK hk;obtain⟨q,e2,hk⟩:=jK hk;refine⟨_,_,_,by simp only[aop,e1,e2];rfl,?_⟩;cases p<;>cases q<;>cases neg<;>exact hk
theorem aC0(op:UnOp)(x:AR):KOk (aFz op x) (.un op x):=by
  intro n t a h k hr hk
  cases op with
  | not=>simp only[aFz]at hk;rw[bK hr]at hk;obtain⟨b,e,hk⟩:=jK hk;refine⟨_,_,_,by simp only[aop,e,aun];rfl,?_⟩;cases b<;>exact hk
  | _=>exact jG _ n t a h k hr hk
theorem Z0(kd:IntKind)(x:AR):KOk (Z1 kd x) (.convInt kd x):=by intro n t a h k hr hk;unfold Z1 at hk;rw[bK hr]at hk;obtain⟨c,m,e,hk⟩:=nP hk;rw[yB]at hk;exact⟨_,_,_,by simp only[aop,e],hk⟩
theorem MH(fn:Fn)(f c:List AR):KOk (EQ fn f c) (.mkFunc fn f c):=by intro n t a h k hr hk;unfold EQ at hk;rw[vV hr,vV hr]at hk;exact⟨_,_,_,rfl,hk⟩
theorem T8(off:Nat)(x:AR):KOk (ML off x) (.field off none x):=by intro n t a h k hr hk;unfold ML at hk;rw[bK hr]at hk;obtain⟨cs,e,hk⟩:=xR hk;obtain⟨v,h2,hk⟩:=tF hk;exact⟨_,_,_,by simp only[aop,e,h2],hk⟩
theorem MJ(off m:Nat)(x:AR):KOk (ER off m x) (.field off (some m) x):=by intro n t a h k hr hk;unfold ER at hk;rw[bK hr]at hk;obtain⟨cs,e,hk⟩:=xR hk;obtain⟨h1,hk⟩:=MA hk;obtain⟨h2,hk⟩:=L9 hk;rw[List.length_drop]at h2;exact⟨_,_,_,by simp only[aop,e];rw[if_pos (by omega)],hk⟩
theorem AE(off:Nat)(x:AR):KOk (pU off x) (.fieldAddr off x):=by intro n t a h k hr hk;unfold pU at hk;rw[bK hr]at hk;obtain⟨b,o,e,hk⟩:=jT hk;rw[pI]at hk;exact⟨_,_,_,by simp only[aop,e];rfl,hk⟩
theorem xQ{v:AV}{k:Nat->Bool}(h:PY v k=true):∃kd m,v= .int kd (.ofNat m)/\k m=true:=by
  obtain⟨kd,n,e,h⟩:=nP h
  cases n with
  | ofNat m=>exact⟨kd,m,e,h⟩
  | negSucc m=>cases h
theorem AD(size:Nat)(x i:AR):KOk (pT size x i) (.indexAddr size x i):=by
  intro n t a h k hr hk;unfold pT at hk;rw[bK hr,bK hr]at hk;rcases jS hk with⟨_,hk⟩ | ⟨fl,sz,b,o,m,e1,hk⟩
  · cases hk
  · obtain⟨kd,j,e2,hk⟩:=xQ hk;obtain⟨h1,hk⟩:=kif_ok hk;obtain⟨h2,hk⟩:=kif_ok hk;rw[pI]at hk;have h1:=Nat.eq_of_beq_eq_true h1;have h2:=Nat.le_of_ble_eq_true h2;refine⟨_,_,_,?_,hk⟩;simp only[aop,e1,e2];rw[if_pos ⟨h1,by simp,by simp;omega⟩];rfl
theorem yG(len size:Nat)(x i:AR):KOk (nX len size x i) (.indexAddrA len size x i):=by intro n t a h k hr hk;unfold nX at hk;rw[bK hr,bK hr]at hk;obtain⟨b,o,e1,hk⟩:=jT hk;obtain⟨kd,j,e2,hk⟩:=xQ hk;obtain⟨h2,hk⟩:=kif_ok hk;rw[pI]at hk;have h2:=Nat.le_of_ble_eq_true h2;refine⟨_,_,_,?_,hk⟩;simp only[aop,e1,e2];rw[if_pos ⟨by simp,by simp;omega⟩];rfl
theorem T6(len size:Nat)(x i:AR):KOk (MI len size x i) (.index len size false x i):=by intro n t a h k hr hk;unfold MI at hk;rw[bK hr,bK hr]at hk;obtain⟨cs,e1,hk⟩:=xR hk;obtain⟨kd,j,e2,hk⟩:=xQ hk;obtain⟨h2,hk⟩:=kif_ok hk;have h2:=Nat.le_of_ble_eq_true h2;obtain⟨v,h3,hk⟩:=tF hk;refine⟨_,_,_,?_,hk⟩;simp only[aop,e1,e2,Bool.false_eq_true,if_false];rw[if_pos ⟨by simp,by simp;omega⟩];have:(Int.ofNat j).toNat*size=Nat.mul j size:=rfl;rw[this,h3]
theorem IL(x:AR)(i:Nat):KOk (yH x i) (.extract x i):=by intro n t a h k hr hk;unfold yH at hk;rw[bK hr]at hk;obtain⟨cs,e,hk⟩:=LU hk;obtain⟨v,h2,hk⟩:=tF hk;exact⟨_,_,_,by simp only[aop,e,h2],hk⟩
theorem aC2(x:AR):KOk (aFB x) (.len x):=by
  intro n t a h k hr hk;unfold aFB at hk;rw[bK hr]at hk;rcases jS hk with⟨e,hk⟩ | ⟨fl,sz,b,o,m,e,hk⟩
  · exact⟨_,_,_,by simp only[aop,e];rfl,hk⟩
  · exact⟨_,_,_,by simp only[aop,e];rfl,hk⟩
theorem aCX{size:Nat}{x:AR}{a:List AV}{h:H}{k:List AV->Nat->Bool}(hk:aFw size (ev a x) h k=true):∃new m,fY a h size x=some (new,m)/\new.length=m*size/\k new m=true:=by
  unfold aFw at hk;rcases jS hk with⟨e,hk⟩ | ⟨fl,sz,b,o,m,e,hk⟩
  · exact⟨[],0,by simp only[fY,e],by simp,hk⟩
  · obtain⟨h1,hk⟩:=kif_ok hk;have h1:=Nat.eq_of_beq_eq_true h1;obtain⟨cs,h2,h3,hk⟩:=EX hk;have h2':aZ h b o (m*size)=some cs:=h2;exact⟨cs,m,by simp only[fY,e,h1,if_true,h2'],h3,hk⟩
theorem MM(size bytes:Nat)(s x:AR):KOk (ES size bytes s x) (.append size bytes s x):=by
  intro n t a h k hr hk;unfold ES at hk;rw[bK hr]at hk;rcases WV hk with hk | hk
  · exact jG _ n t a h k hr hk
  rw[bK hr]at hk;obtain⟨new,m,h1,h2,hk⟩:=aCX hk;simp only[aop,h1]
  cases hz:Nat.beq m 0 with
  | true=>
    rw[hz]at hk;have:=Nat.eq_of_beq_eq_true hz;subst this;rcases jS hk with⟨e,hk⟩ | ⟨fl,sz,b,o,q,e,hk⟩
    · exact⟨_,_,_,by simp only[e,if_true],hk⟩
    · rw[e]at hk;exact⟨_,_,_,by simp only[e,if_true],hk⟩
  | false=>
    rw[hz]at hk;have hm:=a8 hz;rcases jS hk with⟨e,hk⟩ | ⟨fl,sz,b,o,q,e,hk⟩
    · obtain⟨h3,hk⟩:=kif_ok hk;obtain⟨h4,hk⟩:=kif_ok hk;obtain⟨h5,hk⟩:=oX hk;have h3:=Nat.le_of_ble_eq_true h3;have h4:=Nat.le_of_ble_eq_true h4
      cases h with
      | mk nx tt=>have hk:=H.ak_ok hk;refine⟨_,_,_,?_,hk⟩;simp only[e];rw[if_neg hm,if_pos ⟨h3,h4,h5,h2⟩]
    · obtain⟨h3,hk⟩:=kif_ok hk;have h3:=Nat.eq_of_beq_eq_true h3;rw[pI]at hk;obtain⟨h4,hk⟩:=kif_ok hk;obtain⟨h5,hk⟩:=kif_ok hk;obtain⟨h6,hk⟩:=oX hk;have h4:=Nat.le_of_ble_eq_true h4;have h5:=Nat.le_of_ble_eq_true h5;obtain⟨old,h7,h8,hk⟩:=EX hk;rw[pS]at hk;have h7':aZ h b o (q*size)=some old:=h7;simp only[e];rw[if_neg hm,if_pos ⟨h3,h4,h5,h6,h2⟩,h7'];simp only
      cases fl with
      | true=>
        cases h with
        | mk nx tt=>have hk:=H.ak_ok hk;exact⟨_,_,_,rfl,hk⟩
      | false=>
        cases h with
        | mk nx tt=>obtain⟨ver,rw_,cs,h9,hk⟩:=H.ck_ok hk;obtain⟨h10,hk⟩:=kif_ok hk;rw[h10]at h9;have hk:=H.sk_ok hk;have hk:=H.ak_ok hk;refine⟨_,_,_,?_,hk⟩;simp only[Bool.false_eq_true,if_false,kill,h9];rfl
theorem ZW(bytes:Nat)(z:List AV)(m c:AR):KOk (ZX bytes z m c) (.makeSlice bytes z m c):=by
  intro n t a h k hr hk;unfold ZX at hk;rw[bK hr,bK hr]at hk;obtain⟨kv,l,e1,hk⟩:=nP hk;obtain⟨kw,q,e2,hk⟩:=nP hk
  cases l with
  | negSucc l=>cases hk
  | ofNat l=>
    cases q with
    | negSucc q=>cases hk
    | ofNat q=>
      obtain⟨h1,hk⟩:=kif_ok hk;obtain⟨h2,hk⟩:=kif_ok hk;obtain⟨h3,hk⟩:=kif_ok hk;obtain⟨h4,hk⟩:=kif_ok hk;obtain⟨h5,hk⟩:=kif_ok hk;rw[aCP,pI,aEB,rO]at hk;have h1:kv= .i64:=yD (b:= .i64) h1;have h2:kw= .i64:=yD (b:= .i64) h2;have h3:=Nat.le_of_ble_eq_true h3;have h4:=Nat.le_of_ble_eq_true h4;have h5:=Nat.le_of_ble_eq_true h5;rw[h1]at e1;rw[h2]at e2
      cases h with
      | mk nx tt=>
        have hk:=H.ak_ok hk;simp only[aop,e1,e2];have c1:(0:Int)<=Int.ofNat l:=by simp
        have c2:Int.ofNat l<=Int.ofNat q:=by simpa using h3
        have c3:Int.ofNat q*(bytes:Int)<=140737488355328:=by have h4':q*bytes<=140737488355328:=h4;have h6:=Int.ofNat_le.2 h4';rw[Int.natCast_mul]at h6;exact h6
        have c4:Int.ofNat q<=((eK:Nat):Int):=Int.ofNat_le.2 h5;rw[if_pos ⟨c1,c2,c3,c4⟩];refine⟨_,_,_,rfl,?_⟩;have e3:(Int.ofNat l==Int.ofNat q)=Nat.beq l q:=by
          cases hb:Nat.beq l q with
          | true=>have:=Nat.eq_of_beq_eq_true hb;subst this;simp
          | false=>have:=a8 hb;simp;omega
        rw[e3];exact hk
abbrev KE:=Ex->TT->H->Bool
structure KRec where
  code:AC->Nat->TT->H->KE->Bool
  call:FuncId->List AV->H->(AV->H->Bool)->Bool
structure KROk (R:KRec) (rec:Rec):Prop where
  code:∀c n t h k,R.code c n t h k=true->∀a,Rl n t a->∃e a' t' h',rec.code c a h=some (e,a',h')/\Rl n t' a'/\k e t' h'=true
  call:∀g args h k,R.call g args h k=true->∃v h',rec.call g args h=some (v,h')/\k v h'=true
noncomputable def T1(l:List AV):Nat->TT->(TT->Bool)->Bool:=List.rec (motive:=fun _=>Nat->TT->(TT->Bool)->Bool) (fun _ t k=>k t) (fun v _ ih i t k=>TT.sk v t i fun t=>ih (Nat.succ i) t k) l
theorem wU(p:List AV)(v:AV):tget (p++[v]) p.length=v:=by
  induction p with
  | nil=>rfl
  | cons x p ih=>simpa [tget]using ih
theorem nD:∀(p q:List AV) (j:Nat),j<p.length->tget (p++q) j=tget p j
  | [],q,j,h=>by simp at h
  | x::p,q,0,h=>rfl
  | x::p,q,j+1,h=>by simp only[List.cons_append,tget];exact nD p q j (by simpa using h)
theorem oF:∀(a:List AV) (i:Nat),a.length<=i->tget a i= .junk
  | [],_,_=>rfl
  | x::l,0,h=>by simp at h
  | x::l,i+1,h=>by simp only[tget];exact oF l i (by simpa using h)
theorem QO:∀(l:List AV) {i:Nat} {t:TT} {k:TT->Bool} (p:List AV),p.length=i->(∀j,t.get j=tget p j)->T1 l i t k=true->∃t',k t'=true/\∀j,t'.get j=tget (p++l) j
  | [],i,t,k,p,hp,ht,h=>⟨t,h,by simpa using ht⟩
  | v::l,i,t,k,p,hp,ht,h=>by
    obtain⟨t1,h1,h2⟩:=TT.sk_ok (v:=v) (t:=t) (i:=i) (k:=fun t=>T1 l (i+1) t k) h;obtain⟨t',h3,h4⟩:=QO l (p++[v]) (by simp[hp]) (fun j=>by
      rw[h2 j,ht j];by_cases e:j=i
      · rw[if_pos e,e,<-hp,wU]
      · rw[if_neg e];rcases Nat.lt_or_ge j i with hj | hj
        · rw[nD p [v] j (by omega)]
        · rw[oF p j (by omega),oF (p++[v]) j (by simp;omega)]) h1
    exact⟨t',h3,by simpa using h4⟩
noncomputable def qR(n:Nat)(k:TT->Bool):Bool:=Bool.rec (Bool.rec (Bool.rec (k tj9) (k tj7) (Nat.ble n (nat_lit 254))) (k tj5) (Nat.ble n (nat_lit 62))) (k tj3) (Nat.ble n (nat_lit 14))
theorem WP{n:Nat}{k:TT->Bool}(h:qR n k=true):∃t,(∀j,t.get j= .junk)/\k t=true:=by
  unfold qR at h
  cases h1:Nat.ble n 14 with
  | true=>rw[h1]at h;exact⟨tj3,fun j=>tjn (fun i=>tjn (fun i=>tjn vL i) i) j,h⟩
  | false=>
    rw[h1]at h
    cases h2:Nat.ble n 62 with
    | true=>rw[h2]at h;exact⟨tj5,fun j=>tjn (fun i=>tjn (fun i=>tjn (fun i=>tjn (fun i=>tjn vL i) i) i) i) j,h⟩
    | false=>
      rw[h2]at h
      cases h3:Nat.ble n 254 with
      | true=>rw[h3]at h;exact⟨tj7,fun j=>tjn (fun i=>tjn (fun i=>tjn (fun i=>tjn (fun i=>tjn (fun i=>tjn (fun i=>tjn vL i) i) i) i) i) i) j,h⟩
      | false=>rw[h3]at h;exact⟨tj9,aB7,h⟩
theorem IA{l:List AV}{k:TT->Bool}{n:Nat}(h:qR n (fun t=>T1 l (nat_lit 0) t k)=true):∃t,k t=true/\∀j,t.get j=tget l j:=by obtain⟨t0,h1,h2⟩:=WP h;obtain⟨t,h3,h4⟩:=QO l [] rfl (fun j=>by rw[h1];rfl) h2;exact⟨t,h3,by simpa using h4⟩
inductive KM where
  | drop
  | all
  | keep (b:Bool) (l r:KM)
def KM.has:KM->Nat->Bool
  | .drop,_=>false
  | .all,_=>true
  | .keep b l r,i=>if i=0 then b else if i % 2=1 then l.has (i / 2)else r.has (i / 2-1)
theorem KM.has_keep(b:Bool)(l r:KM)(i:Nat):(KM.keep b l r).has i=if i=0 then b else if i % 2=1 then l.has (i / 2)else r.has (i / 2-1):=rfl
noncomputable def KM.rmk(b:Bool)(l r:KM)(i:Nat)(ih:Nat->KM->KM):KM:=Bool.rec (Bool.rec (.keep b l (ih (Nat.sub (Nat.div i (nat_lit 2)) (nat_lit 1)) r)) (.keep b (ih (Nat.div i (nat_lit 2)) l) r) (Nat.beq (Nat.mod i (nat_lit 2)) (nat_lit 1))) (.keep false l r) (Nat.beq i (nat_lit 0))
noncomputable def KM.rm(fuel:Nat):Nat->KM->KM:=Nat.rec (motive:=fun _=>Nat->KM->KM) (fun _ _=> .all) (fun _ ih i m=>KM.casesOn m .drop (KM.rmk true .all .all i ih) (fun b l r=>KM.rmk b l r i ih)) fuel
theorem KM.rmk_has{b:Bool}{l r:KM}{i:Nat}{ih:Nat->KM->KM}(hi:∀i' m j,i'<i->(ih i' m).has j=(m.has j&& !(j==i')))(j:Nat):(KM.rmk b l r i ih).has j=((KM.keep b l r).has j&& !(j==i)):=by
  unfold KM.rmk
  cases h0:Nat.beq i 0 with
  | true=>
    have:=Nat.eq_of_beq_eq_true h0;subst this;show(KM.keep false l r).has j=_;rw[KM.has_keep,KM.has_keep];by_cases hj:j=0
    · simp[hj]
    · simp[hj]
  | false=>
    have hi0:=a8 h0;have h0i:((0:Nat)==i)=false:=by simp;omega
    cases h1:Nat.beq (Nat.mod i 2) 1 with
    | true=>
      have hm:i % 2=1:=Nat.eq_of_beq_eq_true h1;show(KM.keep b (ih (i / 2) l) r).has j=_;rw[KM.has_keep,KM.has_keep];by_cases hj:j=0
      · subst hj;rw[if_pos rfl,if_pos rfl,h0i];simp
      · rw[if_neg hj,if_neg hj];by_cases hp:j % 2=1
        · rw[if_pos hp,if_pos hp,hi _ _ _ (by omega)];by_cases e:j=i
          · subst e;simp
          · have:j / 2≠i / 2:=by omega
            have e1:(j / 2==i / 2)=false:=by simpa using this
            have e2:(j==i)=false:=by simpa using e
            rw[e1,e2]
        · rw[if_neg hp,if_neg hp];have:j≠i:=by omega
          simp[this]
    | false=>
      have hm:¬i % 2=1:=a8 h1;show(KM.keep b l (ih (i / 2-1) r)).has j=_;rw[KM.has_keep,KM.has_keep];by_cases hj:j=0
      · subst hj;rw[if_pos rfl,if_pos rfl,h0i];simp
      · rw[if_neg hj,if_neg hj];by_cases hp:j % 2=1
        · rw[if_pos hp,if_pos hp];have:j≠i:=by omega
          simp[this]
        · rw[if_neg hp,if_neg hp,hi _ _ _ (by omega)];by_cases e:j=i
          · subst e;simp
          · have:j / 2-1≠i / 2-1:=by omega
            have e1:(j / 2-1==i / 2-1)=false:=by simpa using this
            have e2:(j==i)=false:=by simpa using e
            rw[e1,e2]
theorem KM.rm_has:∀{fuel i:Nat} {m:KM} {j:Nat},i<fuel->(KM.rm fuel i m).has j=(m.has j&& !(j==i))
  | 0,i,m,j,h=>by omega
  | fuel+1,i,m,j,h=>by
    show(KM.casesOn (motive:=fun _=>KM) m KM.drop (KM.rmk true .all .all i (KM.rm fuel)) (fun b l r=>KM.rmk b l r i (KM.rm fuel))).has j=_
    cases m with
    | drop=>simp[KM.has]
    | all=>show(KM.rmk true .all .all i (KM.rm fuel)).has j=_;rw[KM.rmk_has (fun i' m j h'=>KM.rm_has (by omega))];congr 1;simp[KM.has]
    | keep b l r=>exact KM.rmk_has (fun i' m j h'=>KM.rm_has (by omega)) j
noncomputable def KM.isDrop(m:KM)(a b:KM):KM:=KM.casesOn m a b (fun _ _ _=>b)
noncomputable def KM.prune(m:KM):KM:=KM.rec (motive:=fun _=>KM) .drop .all (fun b _ _ l r=>Bool.rec (l.isDrop (r.isDrop .drop (.keep b l r)) (.keep b l r)) (.keep b l r) b) m
theorem KM.prune_has:∀(m:KM) (j:Nat),m.prune.has j=m.has j
  | .drop,j=>rfl
  | .all,j=>rfl
  | .keep b l r,j=>by
    have e:(KM.keep b l.prune r.prune).has j=(KM.keep b l r).has j:=by unfold KM.has;rw[KM.prune_has l,KM.prune_has r]
    rw[<-e];show(@Bool.rec (fun _=>KM) (l.prune.isDrop (r.prune.isDrop .drop (.keep b l.prune r.prune)) (.keep b l.prune r.prune)) (.keep b l.prune r.prune) b).has j=_
    cases b with
    | true=>rfl
    | false=>
      cases hl:l.prune with
      | drop=>cases hr:r.prune with
        | drop=>simp[KM.isDrop,KM.has]
        | all=>rfl
        | keep _ _ _=>rfl
      | all=>rfl
      | keep _ _ _=>rfl
noncomputable def KM.rms(l:List Nat):KM:=List.rec (motive:=fun _=>KM) .all (fun i _ ih=>KM.rm (Nat.succ i) i ih) l
theorem KM.rms_has:∀(l:List Nat) (j:Nat),(KM.rms l).has j= !l.contains j
  | [],j=>rfl
  | i::l,j=>by show(KM.rm (i+1) i (KM.rms l)).has j=_;rw[KM.rm_has (Nat.lt_succ_self i),KM.rms_has l];have e:(i::l).contains j=(j==i||l.contains j):=List.contains_cons;rw[e];cases l.contains j<;>cases (j==i)<;>rfl
noncomputable def KM.mask(l:List Nat):KM:=(KM.rms l).prune
theorem KM.mask_has(l:List Nat)(j:Nat):(KM.mask l).has j= !l.contains j:=by unfold KM.mask;rw[KM.prune_has,KM.rms_has]
noncomputable def KM.filt(m:KM):TT->TT->(TT->Bool)->Bool:=KM.rec (motive:=fun _=>TT->TT->(TT->Bool)->Bool) (fun j _ k=>k j) (fun _ t k=>k t)
  (fun b _ _ il ir j t k=>TT.casesOn j false fun _ jl _=>TT.casesOn t false fun v tl tr=>il jl tl fun tl=>ir jl tr fun tr=>Bool.casesOn b (k (.node .junk tl tr)) (k (.node v tl tr))) m
inductive JT:TT->Prop where
  | leaf:JT .leaf
  | node (t:TT) (h:JT t):JT (.node .junk t t)
theorem JT.get{t:TT}(h:JT t)(i:Nat):t.get i= .junk:=by
  induction h generalizing i with
  | leaf=>rfl
  | node t _ ih=>exact tjn ih i
theorem KM.filt_ok:∀{m:KM} {j t:TT} {k:TT->Bool},JT j->KM.filt m j t k=true->∃t',k t'=true/\∀i,t'.get i=if m.has i=true then t.get i else .junk
  | .drop,j,t,k,hj,h=>⟨j,h,fun i=>by rw[hj.get];simp[KM.has]⟩
  | .all,j,t,k,hj,h=>⟨t,h,fun i=>by simp[KM.has]⟩
  | .keep b l r,j,t,k,hj,h=>by
    cases hj with
    | leaf=>cases h
    | node jl hjl=>
      cases t with
      | leaf=>cases h
      | node v tl tr=>
        have h':KM.filt l jl tl (fun tl=>KM.filt r jl tr fun tr=>Bool.casesOn b (k (.node .junk tl tr)) (k (.node v tl tr)))=true:=h;obtain⟨tl',h1,h2⟩:=KM.filt_ok hjl h';obtain⟨tr',h3,h4⟩:=KM.filt_ok hjl h1;have fin:∀x:AV,x=(if b=true then v else .junk)->∀i,(TT.node x tl' tr').get i=if(KM.keep b l r).has i=true then(TT.node v tl tr).get i else .junk:=by
          intro x hx i;rw[TT.get_node,TT.get_node,h2,h4,KM.has_keep];by_cases h0:i=0
          · simp only[h0,if_true];exact hx
          · simp only[if_neg h0];by_cases hp:i % 2=1
            · simp only[if_pos hp]
            · simp only[if_neg hp]
        cases b with
        | false=>exact⟨_,h3,fin _ (by simp)⟩
        | true=>exact⟨_,h3,fin _ (by simp)⟩
theorem JT.tj0:JT tj0:= .node _ .leaf
theorem JT.tj3:JT tj3:= .node _ (.node _ (.node _ JT.tj0))
theorem JT.tj5:JT tj5:= .node _ (.node _ JT.tj3)
theorem JT.tj7:JT tj7:= .node _ (.node _ JT.tj5)
theorem JT.tj9:JT tj9:= .node _ (.node _ JT.tj7)
theorem WQ{n:Nat}{k:TT->Bool}(h:qR n k=true):∃t,JT t/\k t=true:=by
  unfold qR at h
  cases h1:Nat.ble n 14 with
  | true=>rw[h1]at h;exact⟨tj3,JT.tj3,h⟩
  | false=>
    rw[h1]at h
    cases h2:Nat.ble n 62 with
    | true=>rw[h2]at h;exact⟨tj5,JT.tj5,h⟩
    | false=>
      rw[h2]at h
      cases h3:Nat.ble n 254 with
      | true=>rw[h3]at h;exact⟨tj7,JT.tj7,h⟩
      | false=>rw[h3]at h;exact⟨tj9,JT.tj9,h⟩
theorem rA:∀(l:List Nat) (a:List AV),(scrub a l).length=a.length
  | [],a=>rfl
  | i::l,a=>by rw[scrub,rA l,jF]
theorem BO:∀(l:List Nat) (a:List AV) (i:Nat),tget (scrub a l) i=if l.contains i=true then .junk else tget a i
  | [],a,i=>by simp[scrub]
  | x::l,a,i=>by
    rw[scrub,BO l];by_cases h1:l.contains i=true
    · simp only[h1,if_true];simp at h1;simp[h1]
    · simp only[h1,if_false,Bool.false_eq_true];have e:(x::l).contains i=(i==x):=by
        have h1':l.contains i=false:=by simpa using h1
        rw[List.contains_cons,h1'];simp
      rw[e];rcases Nat.lt_or_ge x a.length with hx | hx
      · rw[pN _ _ _ _ hx];simp
      · have hts:∀(b:List AV) (y:Nat),b.length<=y->tset b y .junk=b:=by
          intro b
          induction b with
          | nil=>intro y _;rfl
          | cons z b ih=>intro y hy;cases y with
            | zero=>simp at hy
            | succ y=>simp only[tset];rw[ih y (by simpa using hy)]
        rw[hts a x hx];by_cases hix:i=x
        · subst hix;simp;exact oF a i hx
        · simp[hix]
noncomputable def H.lk(h:H)(i:Nat)(k:Nat->ALoop->Bool):Bool:=h.gk i fun o=>AObj.casesOn o (fun _ _ _=>false) (fun _ _=>false) (fun v r=>k v r) false
theorem H.lk_ok{h:H}{i:Nat}{k:Nat->ALoop->Bool}(hk:h.lk i k=true):∃ver r,h.get i=some (.loop ver r)/\k ver r=true:=by
  obtain⟨o,h1,h2⟩:=H.gk_ok hk
  cases o with
  | loop ver r=>exact⟨ver,r,h1,h2⟩
  | _=>cases h2
def PU(s:LoopState)(k:Bool):Bool:=match s with | .ready=>k | _=>false
theorem LV{s:LoopState}{k:Bool}(h:PU s k=true):s= .ready/\k=true:=by cases s<;>first | exact⟨rfl,h⟩ | cases h
def EA(s:LoopState)(k:Bool):Bool:=match s with | .busy=>false | _=>k
theorem LZ{s:LoopState}{k:Bool}(h:EA s k=true):s≠ .busy/\k=true:=by
  cases s with
  | busy=>cases h
  | _=>exact⟨(fun e=>by cases e),h⟩
section
variable (R:KRec)
noncomputable def MD(l:Nat)(args:List AV)(h:H)(k:AV->H->Bool):Bool:=
  h.lk l fun _ r=>ALoop.casesOn r fun _ _ tmps params assign body=>kif (Nat.beq (ZJ args) params.length) (fN (ZJ tmps) fun n=>qR n fun t=>T1 (setAll tmps params args) (nat_lit 0) t fun t=>
    R.code assign n t h fun e t1 h1=>Ex.casesOn e (h1.lk l fun v1 r1=>PU r1.state (h1.sk l (.loop (v1+1) {r1 with state:= .busy}) fun h2=>
      R.code body n t1 h2 fun e _ h3=>h3.lk l fun v3 r3=>Ex.casesOn e
        (h3.sk l (.loop (v3+1) {r3 with state:= .ready,pending:=none}) fun h4=>k (.bool true) h4)
        (h3.sk l (.loop (v3+1) {r3 with state:= .done,pending:=some .ret}) fun h4=>k (.bool false) h4)
        (fun i=>h3.sk l (.loop (v3+1) {r3 with state:= .done,pending:=some (.exit i)}) fun h4=>k (.bool false) h4))) false (fun _=>false))
noncomputable def aCW(fn:Fn)(first cap args:List AV)(h:H)(k:AV->H->Bool):Bool:=match fn with
  | .func g=>lak args cap fun l=>lak first l fun l=>R.call g l h k
  | .yield l=>lak first args fun args=>MD R l args h k
  | .methodOf _ _=>match jU first args with
    | some (g,l)=>R.call g l h k
    | none=>false
  | _=>false
noncomputable def ZO(f:AV)(args:List AV)(h:H)(k:AV->H->Bool):Bool:=LX f fun fn first cap=>aCW R fn first cap args h k
noncomputable def aEy(f:AR)(args:List AR)(t:TT)(h:H)(k:KO):Bool:=kev f t fun f=>ZN args t fun args=>ZO R f args h fun v h=>k v h []
noncomputable def aC4(off:Nat)(n:Option Nat)(x:AR):TT->H->KO->Bool:=match n with
  | none=>ML off x
  | some n=>ER off n x
noncomputable def aC3(len size:Nat)(b:Bool)(x i:AR):TT->H->KO->Bool:=match b with
  | false=>MI len size x i
  | true=>tI (.index len size true x i)
noncomputable def CD(o:AO):TT->H->KO->Bool:=match o with
  | .move x=>ZV x
  | .pick c x y=>ZT c x y
  | .alloc cs=>Z2 cs
  | .box x=>aFD x
  | .load x=>ZZ x
  | .loadAgg n x=>yF n x
  | .store n p x=>MG n p x
  | .nilCheck x=>aFA x
  | .bin op x y=>aFE op x y
  | .eqB n x y=>aFC n x y
  | .un op x=>aFz op x
  | .convInt kd x=>Z1 kd x
  | .mkFunc fn f c=>EQ fn f c
  | .field off n x=>aC4 off n x
  | .fieldAddr off x=>pU off x
  | .indexAddr s x i=>pT s x i
  | .indexAddrA l s x i=>nX l s x i
  | .index l s b x i=>aC3 l s b x i
  | .extract x i=>yH x i
  | .len x=>aFB x
  | .append s b x y=>ES s b x y
  | .makeSlice b z n c=>ZX b z n c
  | .call f args=>aEy R f args
  | o=>tI o
noncomputable def EN(n:Nat)(t:TT)(d:Option Nat)(v:AV)(k:TT->Bool):Bool:=Option.casesOn d (k t) (fun d=>kif (Nat.ble (Nat.succ d) n) (TT.sk v t d k))
noncomputable def yE(t:TT)(g:Option (Nat×Bool))(yes no:Bool):Bool:=Option.casesOn g yes (fun p=>Prod.casesOn p fun i want=>t.gk i fun v=>D7 v (fun b=>Bool.rec (Bool.rec yes no want) (Bool.rec no yes want) b) no)
noncomputable def aGR(n:Nat)(o:AOper)(t:TT)(h:H)(k:TT->H->Bool):Bool:=AOper.casesOn o fun dst op guard _=>
  yE t guard (CD R op t h fun v h' _=>EN n t dst v fun t=>k t h') (EN n t dst (.tuple []) fun t=>k t h)
noncomputable def aCQ(n:Nat)(os:List AOper):TT->H->(TT->H->Bool)->Bool:=List.rec (motive:=fun _=>TT->H->(TT->H->Bool)->Bool) (fun t h k=>k t h) (fun o _ ih t h k=>aGR R n o t h fun t h=>ih t h k) os
def aCV(eff:Bool)(rd:List Nat)(hb ha:H)(log:List LogE)(chk:List Nat)(k:Bool):Bool:=match chk with
  | []=>k
  | c::cs=>pJ eff rd hb ha log (c::cs)&&k
noncomputable def aFt(n:Nat)(o:AOper)(i:Nat)(t:TT)(h:H)(log:List LogE)(k:TT->H->List LogE->Bool):Bool:=AOper.casesOn o fun dst op guard chk=>
  yE t guard (CD R op t h fun v h' rd=>aCV op.effect (rdx h h' rd) h h' log chk (EN n t dst v fun t=>k t h' (⟨i,rdx h h' rd,h,h'⟩::log))) (EN n t dst (.tuple []) fun t=>k t h log)
noncomputable def QN(n:Nat)(os:List AOper):Nat->TT->H->List LogE->(TT->H->Bool)->Bool:=List.rec (motive:=fun _=>Nat->TT->H->List LogE->(TT->H->Bool)->Bool) (fun _ t h _ k=>k t h) (fun o _ ih i t h log k=>aFt R n o i t h log fun t h log=>ih (Nat.succ i) t h log k) os
noncomputable def MC(n:Nat)(l:List Nat)(t:TT)(k:TT->Bool):Bool:=qR n fun j=>KM.filt (KM.mask l) j t k
noncomputable def aFr(t:TT)(n:Nat):List AV->(List AV->Bool)->Bool:=Nat.rec (motive:=fun _=>List AV->(List AV->Bool)->Bool) (fun acc k=>k acc) (fun i ih acc k=>t.gk i fun v=>ih (v::acc) k) n
noncomputable def krange(n:Nat)(f:AR)(ps:List Nat)(asg body:AC)(t:TT)(h:H)(k:KE):Bool:=
  kev f t fun f=>LX f fun fn first cap=>kFnG fn fun g=>aFr t n [] fun tmps=>H.casesOn h fun nx ht=>lak first (.func (.yield nx) [] []::cap) fun args=>
    (H.mk nx ht).ak (.loop Nat.zero {state:= .ready,pending:=none,tmps:=tmps,params:=ps,assign:=asg,body:=body}) fun h1=>
    R.call g args h1 fun _ h'=>h'.lk nx fun ver r=>EA r.state (h'.sk nx (.loop (ver+1) {r with state:= .exhausted}) fun h2=>k (r.pending.getD .normal) t h2)
where kFnG (fn:Fn) (k:FuncId->Bool):Bool:=match fn with
  | .func g=>k g
  | _=>false
noncomputable def rQ(n:Nat)(c:AC):TT->H->KE->Bool:=
  AC.rec (motive:=fun _=>TT->H->KE->Bool)
    (fun t h k=>k .normal t h)
    (fun ops t h k=>aCQ R n ops t h fun t h=>k .normal t h)
    (fun ops t h k=>QN R n ops (nat_lit 0) t h [] fun t h=>k .normal t h)
    (fun _ _ ia ib t h k=>ia t h fun e t h=>Ex.casesOn e (ib t h k) (k .ret t h) (fun i=>k (.exit i) t h))
    (fun c _ _ ia ib t h k=>kev c t fun v=>nQ v fun b=>Bool.rec (ib t h k) (ia t h k) b)
    (fun id _ ia t h k=>ia t h fun e t h=>Ex.casesOn e (k .normal t h) (k .ret t h) (fun i=>Bool.rec (k (.exit i) t h) (k .normal t h) (Nat.beq i id)))
    (fun sc x ia t h k=>MC n sc t fun t=>ia t h fun e t h=>Ex.casesOn e (R.code (.loop sc x) n t h k) (k .ret t h) (fun i=>k (.exit i) t h))
    (fun f ps asg body _ _ t h k=>krange R n f ps asg body t h k)
    (fun id t h k=>k (.exit id) t h)
    (fun t h k=>k .ret t h) c
noncomputable def aEv(t:TT)(h:H)(r:ARes)(k:AV->Bool):Bool:=ARes.casesOn r (fun i=>t.gk i k) (fun i=>t.gk i fun v=>pE v fun b o=>h.ck b fun _ _ cs=>lgk cs o k) (fun i n=>t.gk i fun v=>pE v fun b o=>gck h b o n fun cs=>k (.agg cs))
noncomputable def MF(t:TT)(h:H)(l:List ARes):(List AV->Bool)->Bool:=List.rec (motive:=fun _=>(List AV->Bool)->Bool) (fun k=>k []) (fun r _ ih k=>aEv t h r fun v=>ih fun vs=>k (v::vs)) l
noncomputable def aEu(l:List AV)(k:AV->Bool):Bool:=List.casesOn l (k (.tuple [])) (fun v l=>List.casesOn l (k v) (fun w l=>k (.tuple (v::w::l))))
end
inductive KT where
  | leaf
  | node (l:KT) (g:Nat) (F:AFn) (r:KT)
  | tru (l:KT) (g:Nat) (r:KT)
  | tz (l:KT) (g:Nat) (r:KT)
  | prr (l:KT) (g:Nat) (F:List AV->H->Option AV) (r:KT)
  | prm (l:KT) (g:Nat) (F:List AV->H->Option (List AV)) (r:KT)
def tzTab:List Nat:=[0,1,56,2,57,49,28,3,61,58,42,50,38,29,17,4,62,47,59,36,45,43,51,22,53,39,33,30,24,18,12,5,63,55,48,27,60,41,37,16,46,35,44,21,52,32,23,11,54,26,40,15,34,20,31,10,25,14,19,9,13,8,7,6]
def PA(x:Int):Int:=IntKind.u64.wrap (BitVec.ofInt IntKind.u64.bits x&&& BitVec.ofInt IntKind.u64.bits (IntKind.u64.wrap (-x))).toNat
def tzIdx(x:Int):Int:=IntKind.u64.wrap (PA x*285870213051353865) / 288230376151711744
def tzF(x:Int):Int:=if x=0 then 64 else((tzTab[(tzIdx x).toNat]?).getD 0:Nat)
def rF:List AV->Option Int
  | [.int .u64 x]=>some (tzF x)
  | _=>none
def primTz(args:List AV)(h:H):Option (AV×H):=match rF args with
  | some n=>some (.int .i64 n,h)
  | none=>none
noncomputable def kTz(args:List AV)(h:H)(k:AV->H->Bool):Bool:=Option.casesOn (rF args) false (fun n=>fI n fun n=>k (.int .i64 n) h)
theorem aFv{args:List AV}{h:H}{k:AV->H->Bool}(hk:kTz args h k=true):∃v h',primTz args h=some (v,h')/\k v h'=true:=by
  unfold kTz at hk;unfold primTz
  cases hp:rF args with
  | none=>rw[hp]at hk;cases hk
  | some n=>rw[hp]at hk;have hk:fI n (fun n=>k (.int .i64 n) h)=true:=hk;rw[QZ]at hk;exact⟨_,_,rfl,hk⟩
def iL:List AV->H->Option (AV×H)
  | [],h=>some (.bool true,h)
  | _::_,_=>none
def bE(F:List AV->H->Option AV)(args:List AV)(h:H):Option (AV×H):=match F args h with
  | some v=>some (v,h)
  | none=>none
def jQ(F:List AV->H->Option (List AV))(args:List AV)(h:H):Option (AV×H):=match F args h with
  | some cs=>some (.slice true 1 h.next 0 cs.length,h.alloc (.cells 0 true cs))
  | none=>none
noncomputable def aFx(F:List AV->H->Option AV)(args:List AV)(h:H)(k:AV->H->Bool):Bool:=Option.casesOn (F args h) false (fun v=>k v h)
noncomputable def aFy(F:List AV->H->Option (List AV))(args:List AV)(h:H)(k:AV->H->Bool):Bool:=Option.casesOn (F args h) false (fun cs=>h.ak (.cells Nat.zero true cs) fun h'=>H.casesOn h fun n _=>k (.slice true (nat_lit 1) n Nat.zero cs.length) h')
theorem aCY{F:List AV->H->Option AV}{args:List AV}{h:H}{k:AV->H->Bool}(hk:aFx F args h k=true):∃v h',bE F args h=some (v,h')/\k v h'=true:=by
  unfold aFx at hk;unfold bE
  cases hp:F args h with
  | none=>rw[hp]at hk;cases hk
  | some v=>rw[hp]at hk;exact⟨_,_,rfl,hk⟩
theorem aCZ{F:List AV->H->Option (List AV)}{args:List AV}{h:H}{k:AV->H->Bool}(hk:aFy F args h k=true):∃v h',jQ F args h=some (v,h')/\k v h'=true:=by
  unfold aFy at hk;unfold jQ
  cases hp:F args h with
  | none=>rw[hp]at hk;cases hk
  | some cs=>
    rw[hp]at hk;have:=H.ak_ok hk
    cases h with
    | mk nx tt=>exact⟨_,_,rfl,this⟩
def KT.find:KT->Nat->Option AF
  | .leaf,_=>none
  | .node l k f r,g=>if g=k then some (.fn f)else if g<=k then l.find g else r.find g
  | .tru l k r,g=>if g=k then some (.prim iL)else if g<=k then l.find g else r.find g
  | .tz l k r,g=>if g=k then some (.prim primTz)else if g<=k then l.find g else r.find g
  | .prr l k F r,g=>if g=k then some (.prim (bE F))else if g<=k then l.find g else r.find g
  | .prm l k F r,g=>if g=k then some (.prim (jQ F))else if g<=k then l.find g else r.find g
noncomputable def KT.fk(T:KT)(g:Nat)(kf:AFn->Bool)(kt kz:Bool)(kr:(List AV->H->Option AV)->Bool)(km:(List AV->H->Option (List AV))->Bool):Bool:=KT.rec (motive:=fun _=>Bool) false
  (fun _ k f _ il ir=>Bool.rec (Bool.rec ir il (Nat.ble g k)) (kf f) (Nat.beq g k))
  (fun _ k _ il ir=>Bool.rec (Bool.rec ir il (Nat.ble g k)) kt (Nat.beq g k))
  (fun _ k _ il ir=>Bool.rec (Bool.rec ir il (Nat.ble g k)) kz (Nat.beq g k))
  (fun _ k F _ il ir=>Bool.rec (Bool.rec ir il (Nat.ble g k)) (kr F) (Nat.beq g k))
  (fun _ k F _ il ir=>Bool.rec (Bool.rec ir il (Nat.ble g k)) (km F) (Nat.beq g k)) T
theorem gQ{a b:Nat}(h:Nat.ble a b=false):¬a<=b:=by intro hl;rw[Nat.ble_eq_true_of_le hl]at h;cases h
theorem KT.fk_ok:∀{T:KT} {g:Nat} {kf:AFn->Bool} {kt kz:Bool} {kr:(List AV->H->Option AV)->Bool} {km:(List AV->H->Option (List AV))->Bool},T.fk g kf kt kz kr km=true->(∃F,T.find g=some (.fn F)/\kf F=true)\/(T.find g=some (.prim iL)/\kt=true)\/(T.find g=some (.prim primTz)/\kz=true)\/(∃F,T.find g=some (.prim (bE F))/\kr F=true)\/(∃F,T.find g=some (.prim (jQ F))/\km F=true)
  | .leaf,g,kf,kt,kz,kr,km,h=>by cases h
  | .node l k f r,g,kf,kt,kz,kr,km,h=>by
    have h':Bool.rec (Bool.rec (r.fk g kf kt kz kr km) (l.fk g kf kt kz kr km) (Nat.ble g k)) (kf f) (Nat.beq g k)=true:=h;simp only[KT.find]
    cases hb:Nat.beq g k with
    | true=>rw[hb]at h';rw[if_pos (Nat.eq_of_beq_eq_true hb)];exact .inl ⟨f,rfl,h'⟩
    | false=>
      rw[hb]at h';rw[if_neg (a8 hb)]
      cases hc:Nat.ble g k with
      | true=>rw[hc]at h';rw[if_pos (Nat.le_of_ble_eq_true hc)];exact KT.fk_ok (T:=l) h'
      | false=>rw[hc]at h';rw[if_neg (gQ hc)];exact KT.fk_ok (T:=r) h'
  | .tru l k r,g,kf,kt,kz,kr,km,h=>by
    have h':Bool.rec (Bool.rec (r.fk g kf kt kz kr km) (l.fk g kf kt kz kr km) (Nat.ble g k)) kt (Nat.beq g k)=true:=h;simp only[KT.find]
    cases hb:Nat.beq g k with
    | true=>rw[hb]at h';rw[if_pos (Nat.eq_of_beq_eq_true hb)];exact .inr (.inl ⟨rfl,h'⟩)
    | false=>
      rw[hb]at h';rw[if_neg (a8 hb)]
      cases hc:Nat.ble g k with
      | true=>rw[hc]at h';rw[if_pos (Nat.le_of_ble_eq_true hc)];exact KT.fk_ok (T:=l) h'
      | false=>rw[hc]at h';rw[if_neg (gQ hc)];exact KT.fk_ok (T:=r) h'
  | .tz l k r,g,kf,kt,kz,kr,km,h=>by
    have h':Bool.rec (Bool.rec (r.fk g kf kt kz kr km) (l.fk g kf kt kz kr km) (Nat.ble g k)) kz (Nat.beq g k)=true:=h;simp only[KT.find]
    cases hb:Nat.beq g k with
    | true=>rw[hb]at h';rw[if_pos (Nat.eq_of_beq_eq_true hb)];exact .inr (.inr (.inl ⟨rfl,h'⟩))
    | false=>
      rw[hb]at h';rw[if_neg (a8 hb)]
      cases hc:Nat.ble g k with
      | true=>rw[hc]at h';rw[if_pos (Nat.le_of_ble_eq_true hc)];exact KT.fk_ok (T:=l) h'
      | false=>rw[hc]at h';rw[if_neg (gQ hc)];exact KT.fk_ok (T:=r) h'
  | .prr l k F r,g,kf,kt,kz,kr,km,h=>by
    have h':Bool.rec (Bool.rec (r.fk g kf kt kz kr km) (l.fk g kf kt kz kr km) (Nat.ble g k)) (kr F) (Nat.beq g k)=true:=h;simp only[KT.find]
    cases hb:Nat.beq g k with
    | true=>rw[hb]at h';rw[if_pos (Nat.eq_of_beq_eq_true hb)];exact .inr (.inr (.inr (.inl ⟨F,rfl,h'⟩)))
    | false=>
      rw[hb]at h';rw[if_neg (a8 hb)]
      cases hc:Nat.ble g k with
      | true=>rw[hc]at h';rw[if_pos (Nat.le_of_ble_eq_true hc)];exact KT.fk_ok (T:=l) h'
      | false=>rw[hc]at h';rw[if_neg (gQ hc)];exact KT.fk_ok (T:=r) h'
  | .prm l k F r,g,kf,kt,kz,kr,km,h=>by
    have h':Bool.rec (Bool.rec (r.fk g kf kt kz kr km) (l.fk g kf kt kz kr km) (Nat.ble g k)) (km F) (Nat.beq g k)=true:=h;simp only[KT.find]
    cases hb:Nat.beq g k with
    | true=>rw[hb]at h';rw[if_pos (Nat.eq_of_beq_eq_true hb)];exact .inr (.inr (.inr (.inr ⟨F,rfl,h'⟩)))
    | false=>
      rw[hb]at h';rw[if_neg (a8 hb)]
      cases hc:Nat.ble g k with
      | true=>rw[hc]at h';rw[if_pos (Nat.le_of_ble_eq_true hc)];exact KT.fk_ok (T:=l) h'
      | false=>rw[hc]at h';rw[if_neg (gQ hc)];exact KT.fk_ok (T:=r) h'
noncomputable def aFu(res:List ARes)(t:TT)(h:H)(k:AV->H->Bool):Bool:=MF t h res fun vs=>aEu vs fun v=>k v h
noncomputable def aGS(R:KRec)(F:AFn)(args:List AV)(h:H)(k:AV->H->Bool):Bool:=AFn.casesOn F fun nt res body=>kif (Nat.ble (ZJ args) nt) (qR nt fun t=>T1 args (nat_lit 0) t fun t=>
  rQ R nt body t h fun e t h=>Ex.casesOn e (aFu res t h k) (aFu res t h k) (fun _=>false))
noncomputable def ZP(R:KRec)(T:KT)(g:FuncId)(args:List AV)(h:H)(k:AV->H->Bool):Bool:=T.fk g (fun F=>aGS R F args h k) (List.casesOn args (k (.bool true) h) (fun _ _=>false)) (kTz args h k) (fun F=>aFx F args h k) (fun F=>aFy F args h k)
noncomputable def aGQ(T:KT)(n:Nat):KRec:=Nat.rec (motive:=fun _=>KRec) ⟨fun _ _ _ _ _=>false,fun _ _ _ _=>false⟩ (fun _ ih=>⟨fun c n t h k=>rQ ih n c t h k,fun g args h k=>ZP ih T g args h k⟩) n
section
variable {R:KRec} {rec:Rec}
theorem ZI{l:List AV}{k:TT->Bool}{n:Nat}(h:qR n (fun t=>T1 l (nat_lit 0) t k)=true):∃t,k t=true/\Rl l.length t l:=by obtain⟨t,h1,h2⟩:=IA h;exact⟨t,h1,rfl,h2⟩
theorem pB:∀(ps:List Nat) (vs a:List AV),(setAll a ps vs).length=a.length
  | [],vs,a=>by cases vs<;>rfl
  | _::_,[],_=>rfl
  | p::ps,v::vs,a=>by rw[setAll,pB ps vs,jF]
theorem TZ(ok:KROk R rec){l:Nat}{first cap args:List AV}{h:H}{k:AV->H->Bool}(hk:MD R l (first++args) h k=true):
    ∃v h',cZ rec (.func (.yield l) first cap) args h=some (v,h')/\k v h'=true:=by
  obtain⟨ver,r,hg,hk⟩:=H.lk_ok hk;obtain⟨st,pend,tmps,params,assign,body⟩:=r;obtain⟨h1,hk⟩:=kif_ok hk;rw[pI,rO]at hk;have hl:(first++args).length=params.length:=by have:=Nat.eq_of_beq_eq_true h1;rwa [rO]at this
  obtain⟨t,hk,hr⟩:=ZI hk;rw[pB]at hr;obtain⟨e,a1,t1,h1',e1,r1,hk⟩:=ok.code _ _ _ _ _ hk _ hr
  cases e with
  | normal=>
    obtain⟨v1,lr1,hg1,hk⟩:=H.lk_ok hk;obtain⟨hst,hk⟩:=LV hk;have hk:=H.sk_ok hk;obtain⟨e,a3,t3,h3,e3,r3,hk⟩:=ok.code _ _ _ _ _ hk _ r1;obtain⟨v3,lr3,hg3,hk⟩:=H.lk_ok hk;simp only[cZ,hg,if_pos hl,e1,hg1,if_pos hst,e3,hg3]
    cases e with
    | normal=>have hk:=H.sk_ok hk;exact⟨_,_,rfl,hk⟩
    | ret=>have hk:=H.sk_ok hk;exact⟨_,_,rfl,hk⟩
    | exit i=>have hk:=H.sk_ok hk;exact⟨_,_,rfl,hk⟩
  | ret=>cases hk
  | exit i=>cases hk
theorem T3(ok:KROk R rec){f:AV}{args:List AV}{h:H}{k:AV->H->Bool}(hk:ZO R f args h k=true):∃v h',cZ rec f args h=some (v,h')/\k v h'=true:=by
  obtain⟨fn,first,cap,rfl,hk⟩:=B9 hk
  cases fn with
  | func g=>have hk:lak args cap (fun l=>lak first l fun l=>R.call g l h k)=true:=hk;rw[pS,pS,<-List.append_assoc]at hk;exact ok.call _ _ _ _ hk
  | yield l=>
    have hk:lak first args (fun args=>MD R l args h k)=true:=hk
    rw[pS]at hk;exact TZ ok hk
  | methodOf t n=>
    have hk:(match jU first args with | some (g,l)=>R.call g l h k | none=>false)=true:=hk;split at hk
    · rename_i hmt;simp only[cZ,hmt];exact ok.call _ _ _ _ hk
    · cases hk
  | _=>cases hk
theorem H8(ok:KROk R rec)(o:AO)(n:Nat)(t:TT)(a:List AV)(h:H)(k:KO)(hr:Rl n t a)(hk:CD R o t h k=true):∃v h' rd,eW rec o a h=some (v,h',rd)/\k v h' rd=true:=by
  cases o with
  | call f args=>simp only[CD,aEy]at hk;rw[bK hr,vV hr]at hk;obtain⟨v,h',e,hk⟩:=T3 ok hk;exact⟨v,h',[],by simp only[eW,e],hk⟩
  | move x=>exact ZU x n t a h k hr hk
  | pick c x y=>exact ZS c x y n t a h k hr hk
  | alloc cs=>exact T9 cs n t a h k hr hk
  | box x=>exact aC6 x n t a h k hr hk
  | load x=>exact ZY x n t a h k hr hk
  | loadAgg m x=>exact IJ m x n t a h k hr hk
  | store m p x=>exact T5 m p x n t a h k hr hk
  | nilCheck x=>exact aC1 x n t a h k hr hk
  | bin op x y=>exact aC7 op x y n t a h k hr hk
  | eqB m x y=>exact aC5 m x y n t a h k hr hk
  | un op x=>exact aC0 op x n t a h k hr hk
  | convInt kd x=>exact Z0 kd x n t a h k hr hk
  | mkFunc fn f c=>exact MH fn f c n t a h k hr hk
  | field off m x=>cases m with
    | none=>exact T8 off x n t a h k hr hk
    | some m=>exact MJ off m x n t a h k hr hk
  | fieldAddr off x=>exact AE off x n t a h k hr hk
  | indexAddr s x i=>exact AD s x i n t a h k hr hk
  | indexAddrA l s x i=>exact yG l s x i n t a h k hr hk
  | index l s b x i=>cases b with
    | false=>exact T6 l s x i n t a h k hr hk
    | true=>exact jG _ n t a h k hr hk
  | extract x i=>exact IL x i n t a h k hr hk
  | len x=>exact aC2 x n t a h k hr hk
  | append s b x y=>exact MM s b x y n t a h k hr hk
  | makeSlice b z m c=>exact ZW b z m c n t a h k hr hk
  | _=>exact jG _ n t a h k hr hk
theorem vU{n:Nat}{t:TT}{a:List AV}{d:Option Nat}{v:AV}{k:TT->Bool}(hr:Rl n t a)(hk:EN n t d v k=true):∃t',k t'=true/\Rl n t' (put a d v):=by
  cases d with
  | none=>exact⟨t,hk,hr⟩
  | some d=>obtain⟨h1,hk⟩:=kif_ok hk;obtain⟨t',h2,h3⟩:=TT.sk_ok hk;exact⟨t',h2,hr.set (Nat.le_of_ble_eq_true h1) h3⟩
theorem CE{n:Nat}{t:TT}{a:List AV}{g:Option (Nat×Bool)}{yes no:Bool}(hr:Rl n t a)(hk:yE t g yes no=true):(bO a g=some true/\yes=true)\/(bO a g=some false/\no=true):=by
  cases g with
  | none=>exact .inl ⟨rfl,hk⟩
  | some p=>
    obtain⟨i,want⟩:=p;have hk':t.gk i (fun v=>D7 v (fun b=>Bool.rec (Bool.rec yes no want) (Bool.rec no yes want) b) no)=true:=hk;rw[TT.gk_eq,hr.get]at hk';rcases LW hk' with⟨b,e,hk⟩ | ⟨l,e,hk⟩
    · cases b<;>cases want
      · exact .inl ⟨by simp only[bO,e];rfl,hk⟩
      · exact .inr ⟨by simp only[bO,e];rfl,hk⟩
      · exact .inr ⟨by simp only[bO,e];rfl,hk⟩
      · exact .inl ⟨by simp only[bO,e];rfl,hk⟩
    · exact .inr ⟨by simp only[bO,e],hk⟩
theorem EO(ok:KROk R rec){n:Nat} :∀{os:List AOper} {t:TT} {a:List AV} {h:H} {k:TT->H->Bool},Rl n t a->aCQ R n os t h k=true->∃a' t' h',f8 rec os a h=some (a',h')/\Rl n t' a'/\k t' h'=true
  | [],t,a,h,k,hr,hk=>⟨a,t,h,rfl,hr,hk⟩
  | ⟨dst,op,guard,chk⟩::os,t,a,h,k,hr,hk=>by
    have hk':yE t guard (CD R op t h fun v h' _=>EN n t dst v fun t=>aCQ R n os t h' k) (EN n t dst (.tuple []) fun t=>aCQ R n os t h k)=true:=hk;unfold f8;rcases CE hr hk' with⟨hw,hk⟩ | ⟨hw,hk⟩
    · simp only[hw];obtain⟨v,h',rd,e,hk⟩:=H8 ok op n t a h _ hr hk;obtain⟨t1,hk,r1⟩:=vU hr hk;simp only[e];exact EO ok r1 hk
    · simp only[hw];obtain⟨t1,hk,r1⟩:=vU hr hk;exact EO ok r1 hk
theorem aCU{eff:Bool}{rd:List Nat}{hb ha:H}{log:List LogE}{chk:List Nat}{k:Bool}(h:aCV eff rd hb ha log chk k=true):pJ eff rd hb ha log chk=true/\k=true:=by
  cases chk with
  | nil=>exact⟨by simp[pJ],h⟩
  | cons c cs=>simpa [aCV]using h
theorem yC(ok:KROk R rec){n:Nat} :∀{os:List AOper} {i:Nat} {t:TT} {a:List AV} {h:H} {log:List LogE} {k:TT->H->Bool},Rl n t a->QN R n os i t h log k=true->∃a' t' h',dU rec os i a h log=some (a',h')/\Rl n t' a'/\k t' h'=true
  | [],i,t,a,h,log,k,hr,hk=>⟨a,t,h,rfl,hr,hk⟩
  | ⟨dst,op,guard,chk⟩::os,i,t,a,h,log,k,hr,hk=>by
    have hk':yE t guard (CD R op t h fun v h' rd=>aCV op.effect (rdx h h' rd) h h' log chk (EN n t dst v fun t=>QN R n os (i+1) t h' (⟨i,rdx h h' rd,h,h'⟩::log) k)) (EN n t dst (.tuple []) fun t=>QN R n os (i+1) t h log k)=true:=hk;unfold dU;rcases CE hr hk' with⟨hw,hk⟩ | ⟨hw,hk⟩
    · simp only[hw];obtain⟨v,h',rd,e,hk⟩:=H8 ok op n t a h _ hr hk;obtain⟨hc,hk⟩:=aCU hk;obtain⟨t1,hk,r1⟩:=vU hr hk;simp only[e,hc,if_true];exact yC ok r1 hk
    · simp only[hw];obtain⟨t1,hk,r1⟩:=vU hr hk;exact yC ok r1 hk
theorem TY{n:Nat}{l:List Nat}{t:TT}{a:List AV}{k:TT->Bool}(hr:Rl n t a)(hk:MC n l t k=true):∃t',k t'=true/\Rl n t' (scrub a l):=by obtain⟨j,hj,hk⟩:=WQ hk;obtain⟨t',h1,h2⟩:=KM.filt_ok hj hk;refine⟨t',h1,by rw[rA];exact hr.len,fun i=>?_⟩;rw[h2,KM.mask_has,BO,hr.get];cases l.contains i<;>simp
theorem QM(t:TT):∀(n:Nat) (acc:List AV) (k:List AV->Bool),aFr t n acc k=k ((List.range n).map t.get++acc)
  | 0,acc,k=>rfl
  | n+1,acc,k=>by show t.gk n (fun v=>aFr t n (v::acc) k)=_;rw[TT.gk_eq,QM t n,List.range_succ];simp
theorem BE:∀(a b:List AV),a.length=b.length->(∀i,i<a.length->tget a i=tget b i)->a=b
  | [],[],_,_=>rfl
  | [],_::_,h,_=>by simp at h
  | _::_,[],h,_=>by simp at h
  | x::a,y::b,h,hg=>by have h0:=hg 0 (by simp);simp only[tget]at h0;rw[h0,BE a b (by simpa using h) (fun i hi=>by have:=hg (i+1) (by simpa using hi);simpa [tget]using this)]
theorem uB:∀(l:List AV) (i:Nat) (v:AV),l[i]? =some v->tget l i=v
  | [],i,v,h=>by simp at h
  | x::l,0,v,h=>by simpa [tget]using h
  | x::l,i+1,v,h=>by simp only[tget];exact uB l i v (by simpa using h)
theorem aCO{n:Nat}{t:TT}{a:List AV}(hr:Rl n t a):(List.range n).map t.get=a:=by
  refine BE _ _ (by simp[hr.len]) fun i hi=>?_;have hi':i<n:=by simpa using hi
  rw[uB _ i (t.get i) (by simp[hi']),hr.get]
theorem T0(ok:KROk R rec){n:Nat}{f:AR}{ps:List Nat}{asg body:AC}{t:TT}{a:List AV}{h:H}{k:KE}(hr:Rl n t a)(hk:krange R n f ps asg body t h k=true):
    ∃e a' t' h',aJ rec (.rangeFunc f ps asg body) a h=some (e,a',h')/\Rl n t' a'/\k e t' h'=true:=by
  unfold krange at hk;rw[bK hr]at hk;obtain⟨fn,first,cap,e,hk⟩:=B9 hk
  cases fn with
  | func g=>
    simp only[krange.kFnG]at hk;rw[QM,aCO hr,List.append_nil]at hk;obtain⟨nx,ht⟩:=h;have hk:lak first (AV.func (.yield nx) [] []::cap) (fun args=>(H.mk nx ht).ak (.loop Nat.zero {state:= .ready,pending:=none,tmps:=a,params:=ps,assign:=asg,body:=body}) fun h1=>
      R.call g args h1 fun _ h'=>h'.lk nx fun ver r=>EA r.state (h'.sk nx (.loop (ver+1) {r with state:= .exhausted}) fun h2=>k (r.pending.getD .normal) t h2))=true:=hk
    rw[pS]at hk;have hk:=H.ak_ok hk;obtain⟨v,h',e1,hk⟩:=ok.call _ _ _ _ hk;obtain⟨ver,r,hg,hk⟩:=H.lk_ok hk;obtain⟨hb,hk⟩:=LZ hk;have hk:=H.sk_ok hk;refine⟨_,_,t,_,?_,hr,hk⟩;simp only[aJ,e];have e2:first++[AV.func (.yield nx) [] []]++cap=first++AV.func (.yield nx) [] []::cap:=by simp
    rw[e2,e1];simp only[hg];rw[if_neg hb]
  | _=>cases hk
theorem iQ(ok:KROk R rec){n:Nat} :∀{c:AC} {t:TT} {a:List AV} {h:H} {k:KE},Rl n t a->rQ R n c t h k=true->∃e a' t' h',aJ rec c a h=some (e,a',h')/\Rl n t' a'/\k e t' h'=true
  | .skip,t,a,h,k,hr,hk=>⟨.normal,a,t,h,rfl,hr,hk⟩
  | .ret,t,a,h,k,hr,hk=>⟨.ret,a,t,h,rfl,hr,hk⟩
  | .exit id,t,a,h,k,hr,hk=>⟨.exit id,a,t,h,rfl,hr,hk⟩
  | .region ops,t,a,h,k,hr,hk=>by obtain⟨a',t',h',e,r',hk⟩:=EO ok (k:=fun t h=>k .normal t h) hr hk;exact⟨.normal,a',t',h',by simp only[aJ,e],r',hk⟩
  | .regionD ops,t,a,h,k,hr,hk=>by obtain⟨a',t',h',e,r',hk⟩:=yC ok (k:=fun t h=>k .normal t h) hr hk;exact⟨.normal,a',t',h',by simp only[aJ];rw[show dU rec ops 0 a h []=_ from e],r',hk⟩
  | .seq x y,t,a,h,k,hr,hk=>by
    have hk':rQ R n x t h (fun e t h=>Ex.casesOn e (rQ R n y t h k) (k .ret t h) (fun i=>k (.exit i) t h))=true:=hk;obtain⟨e,a1,t1,h1,e1,r1,hk⟩:=iQ ok hr hk'
    cases e with
    | normal=>obtain⟨e,a2,t2,h2,e2,r2,hk⟩:=iQ ok r1 hk;exact⟨e,a2,t2,h2,by simp only[aJ,e1,e2],r2,hk⟩
    | ret=>exact⟨.ret,a1,t1,h1,by simp only[aJ,e1],r1,hk⟩
    | exit i=>exact⟨.exit i,a1,t1,h1,by simp only[aJ,e1],r1,hk⟩
  | .cond c x y,t,a,h,k,hr,hk=>by
    have hk':kev c t (fun v=>nQ v fun b=>Bool.rec (rQ R n y t h k) (rQ R n x t h k) b)=true:=hk;rw[bK hr]at hk';obtain⟨b,e,hk⟩:=jK hk'
    cases b with
    | true=>obtain⟨e1,a2,t2,h2,e2,r2,hk⟩:=iQ ok hr hk;exact⟨e1,a2,t2,h2,by simp only[aJ,e,e2],r2,hk⟩
    | false=>obtain⟨e1,a2,t2,h2,e2,r2,hk⟩:=iQ ok hr hk;exact⟨e1,a2,t2,h2,by simp only[aJ,e,e2],r2,hk⟩
  | .block id x,t,a,h,k,hr,hk=>by
    have hk':rQ R n x t h (fun e t h=>Ex.casesOn e (k .normal t h) (k .ret t h) (fun i=>Bool.rec (k (.exit i) t h) (k .normal t h) (Nat.beq i id)))=true:=hk;obtain⟨e,a1,t1,h1,e1,r1,hk⟩:=iQ ok hr hk'
    cases e with
    | normal=>exact⟨.normal,a1,t1,h1,by simp only[aJ,e1],r1,hk⟩
    | ret=>exact⟨.ret,a1,t1,h1,by simp only[aJ,e1],r1,hk⟩
    | exit i=>
      have hk:Bool.rec (k (.exit i) t1 h1) (k .normal t1 h1) (Nat.beq i id)=true:=hk
      cases hb:Nat.beq i id with
      | true=>rw[hb]at hk;exact⟨.normal,a1,t1,h1,by simp only[aJ,e1];rw[if_pos (Nat.eq_of_beq_eq_true hb)],r1,hk⟩
      | false=>rw[hb]at hk;exact⟨.exit i,a1,t1,h1,by simp only[aJ,e1];rw[if_neg (a8 hb)],r1,hk⟩
  | .loop sc x,t,a,h,k,hr,hk=>by
    have hk':MC n sc t (fun t=>rQ R n x t h fun e t h=>Ex.casesOn e (R.code (.loop sc x) n t h k) (k .ret t h) (fun i=>k (.exit i) t h))=true:=hk;obtain⟨t0,hk,r0⟩:=TY hr hk';obtain⟨e,a1,t1,h1,e1,r1,hk⟩:=iQ ok r0 hk
    cases e with
    | normal=>obtain⟨e,a2,t2,h2,e2,r2,hk⟩:=ok.code _ _ _ _ _ hk _ r1;exact⟨e,a2,t2,h2,by simp only[aJ,e1,e2],r2,hk⟩
    | ret=>exact⟨.ret,a1,t1,h1,by simp only[aJ,e1],r1,hk⟩
    | exit i=>exact⟨.exit i,a1,t1,h1,by simp only[aJ,e1],r1,hk⟩
  | .rangeFunc f ps asg body,t,a,h,k,hr,hk=>T0 ok hr hk
theorem ZQ{n:Nat}{t:TT}{a:List AV}{h:H}{r:ARes}{k:AV->Bool}(hr:Rl n t a)(hk:aEv t h r k=true):∃v,tU a h r=some v/\k v=true:=by
  cases r with
  | tmp i=>have hk:t.gk i k=true:=hk;rw[TT.gk_eq,hr.get]at hk;exact⟨_,rfl,hk⟩
  | cell i=>have hk:t.gk i (fun v=>pE v fun b o=>h.ck b fun _ _ cs=>lgk cs o k)=true:=hk;rw[TT.gk_eq,hr.get]at hk;obtain⟨b,o,e,hk⟩:=jT hk;obtain⟨ver,rw_,cs,h1,hk⟩:=H.ck_ok hk;obtain⟨v,h2,hk⟩:=tF hk;exact⟨v,by simp only[tU,e,fQ,h1,h2],hk⟩
  | cells i m=>have hk:t.gk i (fun v=>pE v fun b o=>gck h b o m fun cs=>k (.agg cs))=true:=hk;rw[TT.gk_eq,hr.get]at hk;obtain⟨b,o,e,hk⟩:=jT hk;obtain⟨cs,h1,_,hk⟩:=EX hk;exact⟨_,by simp only[tU,e,h1,Option.map_some],hk⟩
theorem CH{n:Nat}{t:TT}{a:List AV}{h:H}(hr:Rl n t a):∀{l:List ARes} {k:List AV->Bool},MF t h l k=true->∃vs,cW a h l=some vs/\k vs=true
  | [],k,hk=>⟨[],rfl,hk⟩
  | r::l,k,hk=>by obtain⟨v,e1,hk⟩:=ZQ (k:=fun v=>MF t h l fun vs=>k (v::vs)) hr hk;obtain⟨vs,e2,hk⟩:=CH hr hk;exact⟨v::vs,by simp only[cW,e1,e2],hk⟩
theorem ZH(l:List AV)(k:AV->Bool):aEu l k=k (gI l):=by
  cases l with
  | nil=>rfl
  | cons v l=>cases l<;>rfl
theorem QQ{n:Nat}{t:TT}{a:List AV}{h:H}{res:List ARes}{k:AV->H->Bool}(hr:Rl n t a)(hk:aFu res t h k=true):∃vs,cW a h res=some vs/\k (gI vs) h=true:=by obtain⟨vs,e,hk⟩:=CH hr hk;rw[ZH]at hk;exact⟨vs,e,hk⟩
theorem BD:∀(l:List AV) (n j:Nat),tget (l++List.replicate n .junk) j=tget l j
  | [],n,j=>by
    simp only[List.nil_append]
    induction n generalizing j with
    | zero=>rfl
    | succ n ih=>cases j with
      | zero=>rfl
      | succ j=>simp only[List.replicate_succ,tget];exact(ih j)
  | x::l,n,0=>rfl
  | x::l,n,j+1=>by simp only[List.cons_append,tget];exact BD l n j
theorem T4(ok:KROk R rec){T:KT}{g:FuncId}{args:List AV}{h:H}{k:AV->H->Bool}(hk:ZP R T g args h k=true):∃v h',dA rec T.find g args h=some (v,h')/\k v h'=true:=by
  rcases KT.fk_ok hk with⟨F,hF,hk⟩ | ⟨hF,hk⟩ | ⟨hF,hk⟩ | ⟨F,hF,hk⟩ | ⟨F,hF,hk⟩
  · obtain⟨nt,res,body⟩:=F;obtain⟨h1,hk⟩:=kif_ok hk;rw[rO]at h1;have h1:=Nat.le_of_ble_eq_true h1;obtain⟨t,hk,ht⟩:=IA hk;have hr:Rl nt t (pD args nt):=⟨by simp[pD];omega,fun i=>by rw[ht,pD,BD]⟩;obtain⟨e,a1,t1,h1,e1,r1,hk⟩:=iQ ok hr hk
    cases e with
    | normal=>obtain⟨vs,e2,hk⟩:=QQ r1 hk;exact⟨_,_,by simp only[dA,hF,e1,e2],hk⟩
    | ret=>obtain⟨vs,e2,hk⟩:=QQ r1 hk;exact⟨_,_,by simp only[dA,hF,e1,e2],hk⟩
    | exit i=>cases hk
  · cases args with
    | nil=>exact⟨_,_,by simp only[dA,hF,iL],hk⟩
    | cons x l=>cases hk
  · obtain⟨v,h',e,hk⟩:=aFv hk;exact⟨v,h',by simp only[dA,hF,e],hk⟩
  · obtain⟨v,h',e,hk⟩:=aCY hk;exact⟨v,h',by simp only[dA,hF,e],hk⟩
  · obtain⟨v,h',e,hk⟩:=aCZ hk;exact⟨v,h',by simp only[dA,hF,e],hk⟩
end
theorem EM(T:KT):∀n,KROk (aGQ T n) (run T.find n)
  | 0=>⟨fun _ _ _ _ _ h=>by(cases h),fun _ _ _ _ h=>by(cases h)⟩
  | n+1=>⟨fun c m t h k hk a hr=>iQ (EM T n) hr hk,fun g args h k hk=>T4 (EM T n) hk⟩
noncomputable def kclosed(T:KT)(n:Nat)(g:FuncId):Bool:=(aGQ T n).call g [] ⟨nat_lit 0,.leaf⟩ fun v _=>nQ v fun b=>b
theorem ME{T:KT}{n:Nat}{g:FuncId}(h:kclosed T n g=true):∃h',(run T.find n).call g [] H.empty=some (.bool true,h'):=by obtain⟨v,h',e,hk⟩:=(EM T n).call _ _ _ _ h;obtain⟨b,rfl,hb⟩:=jK hk;have hb:b=true:=hb;subst hb;exact⟨h',e⟩
end Go.Am

