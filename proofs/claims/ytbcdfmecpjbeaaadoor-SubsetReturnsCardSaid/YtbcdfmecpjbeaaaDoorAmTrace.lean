/- A region's run in the order of its text, as a table; and the orders in which the machine may carry it out. -/
import Derived.Test.YtbcdfmecpjbeaaaDoorAmStep
set_option linter.unusedVariables false
set_option linter.unusedSimpArgs false
namespace Go.Am
structure Trace (rec:Rec) (xs:List AOper) (a:List AV) (h:H) (a':List AV) (h':H) (A:Nat→List AV) (Hh:Nat→H) (V:Nat→AV) (RD:Nat→List Nat) (W:Nat→Bool):Prop where
 a0:A 0=a
 h0:Hh 0=h
 an:A xs.length=a'
 hn:Hh xs.length=h'
 put:∀i x,xs[i]? =some x→A (i+1)=put (A i) x.dst (V i)
 want:∀i x,xs[i]? =some x→q61 (A i) x.guard=some (W i)
 run:∀i x,xs[i]? =some x→W i=true→astep rec x.op (A i) (Hh i)=some (V i,Hh (i+1),RD i)
 skip:∀i x,xs[i]? =some x→W i=false→V i= .tuple []∧Hh (i+1)=Hh i
 chk:∀i j x,xs[i]? =some x→j<i→j∈x.chk→W i=true→W j=true→
  (if x.op.effect then(rdx (Hh j) (Hh (j+1)) (RD j)).all (verSame (Hh i) (Hh (i+1))) else(rdx (Hh i) (Hh (i+1)) (RD i)).all (verSame (Hh j) (Hh (j+1))))=true
def logGood (x:AOper) (rd:List Nat) (hb ha:H) (log:List LogE):Prop:=
 ∀e∈log,e.idx∈x.chk→(if x.op.effect then e.rd.all (verSame hb ha) else rd.all (verSame e.hb e.ha))=true
theorem chkOk_good {x:AOper} {rd:List Nat} {hb ha:H} {log:List LogE} (h:chkOk x.op.effect rd hb ha log x.chk=true):logGood x rd hb ha log:=by
 intro e he hi
 unfold chkOk at h
 rw[List.all_eq_true]at h
 have:=h e he
 rw[if_pos (by simpa using hi)]at this
 exact this
def natCase {α:Type} (x:α) (f:Nat→α):Nat→α
 | 0=>x
 | n+1=>f n
section
variable {rec:Rec}
theorem traceD:∀{xs:List AOper} {k:Nat} {a a':List AV} {h h':H} {log:List LogE},(∀x∈xs,True)→aopsD rec xs k a h log=some (a',h')→
  ∃A Hh V RD W,Trace rec (xs.map fun x=>{x with chk:=x.chk.filterMap fun j=>if k≤j then some (j-k) else none}) a h a' h' A Hh V RD W∧
   (∀i x,xs[i]? =some x→W i=true→logGood x (rdx (Hh i) (Hh (i+1)) (RD i)) (Hh i) (Hh (i+1)) log)
 | [],k,a,a',h,h',log,_,hrun=>by
  cases hrun
  exact⟨fun _=>a,fun _=>h,fun _=> .junk,fun _=>[],fun _=>false,⟨rfl,rfl,rfl,rfl,by simp,by simp,by simp,by simp,by simp⟩,by simp⟩
 | x::xs,k,a,a',h,h',log,_,hrun=>by
  simp only[aopsD]at hrun
  split at hrun
  ·rename_i hw
   split at hrun
   ·rename_i v h1 rd hs
    split at hrun
    ·rename_i hc
     obtain⟨A,Hh,V,RD,W,T,L⟩:=traceD (fun _ _=>trivial) hrun
     have hg:=chkOk_good hc
     refine⟨natCase a A,natCase h Hh,natCase v V,natCase rd RD,natCase true W,⟨rfl,rfl,by simpa [natCase] using T.an,by simpa [natCase] using T.hn,?_,?_,?_,?_,?_⟩,?_⟩
     ·intro i y hy
      cases i with
      | zero=>simp at hy;subst hy;exact T.a0
      | succ i=>
       have:=T.put i
       simp only[List.map_cons,List.getElem?_cons_succ,List.getElem?_map]at hy this
       cases hz:xs[i]? with
       | none=>simp[hz]at hy
       | some z=>simp[hz]at hy this;subst hy;exact this
     ·intro i y hy
      cases i with
      | zero=>simp at hy;subst hy;exact hw
      | succ i=>
       have:=T.want i
       simp only[List.map_cons,List.getElem?_cons_succ,List.getElem?_map]at hy this
       cases hz:xs[i]? with
       | none=>simp[hz]at hy
       | some z=>simp[hz]at hy this;subst hy;exact this
     ·intro i y hy hwi
      cases i with
      | zero=>simp at hy;subst hy;simp only[natCase];rw[T.h0];exact hs
      | succ i=>
       have:=T.run i
       simp only[List.map_cons,List.getElem?_cons_succ,List.getElem?_map]at hy this
       cases hz:xs[i]? with
       | none=>simp[hz]at hy
       | some z=>simp[hz]at hy this;subst hy;exact this hwi
     ·intro i y hy hwi
      cases i with
      | zero=>simp[natCase]at hwi
      | succ i=>
       have:=T.skip i
       simp only[List.map_cons,List.getElem?_cons_succ,List.getElem?_map]at hy this
       cases hz:xs[i]? with
       | none=>simp[hz]at hy
       | some z=>simp[hz]at hy this;subst hy;exact this hwi
     ·intro i j y hy hji hmem hwi hwj
      cases i with
      | zero=>omega
      | succ i=>
       simp only[List.map_cons,List.getElem?_cons_succ,List.getElem?_map]at hy
       cases hz:xs[i]? with
       | none=>simp[hz]at hy
       | some z=>
        simp[hz]at hy;subst hy
        simp only[List.mem_filterMap]at hmem
        obtain⟨q,hq,hqj⟩:=hmem
        split at hqj
        ·rename_i hkq
         simp at hqj
         cases j with
         | zero=>
          have hqk:q=k:=by omega
          subst hqk
          have:=L i z hz hwi ⟨q,rdx h h1 rd,h,h1⟩ (by simp) hq
          simp only[natCase]at this ⊢
          rw[T.h0]
          exact this
         | succ j=>
          have hc':=T.chk i j {z with chk:=z.chk.filterMap fun j=>if k+1≤j then some (j-(k+1)) else none} (by simp[hz]) (by omega)
           (by simp only[List.mem_filterMap];exact⟨q,hq,by rw[if_pos (by omega)];simp;omega⟩) hwi hwj
          exact hc'
        ·cases hqj
     ·intro i y hy hwi
      cases i with
      | zero=>
       simp at hy;subst hy
       simp only[natCase]
       rw[T.h0]
       exact hg
      | succ i=>
       intro e he hm
       exact L i y (by simpa using hy) hwi e (List.mem_cons_of_mem _ he) hm
    ·cases hrun
   ·cases hrun
  ·rename_i hw
   obtain⟨A,Hh,V,RD,W,T,L⟩:=traceD (fun _ _=>trivial) hrun
   refine⟨natCase a A,natCase h Hh,natCase (.tuple []) V,natCase [] RD,natCase false W,⟨rfl,rfl,by simpa [natCase] using T.an,by simpa [natCase] using T.hn,?_,?_,?_,?_,?_⟩,?_⟩
   ·intro i y hy
    cases i with
    | zero=>simp at hy;subst hy;exact T.a0
    | succ i=>
     have:=T.put i
     simp only[List.map_cons,List.getElem?_cons_succ,List.getElem?_map]at hy this
     cases hz:xs[i]? with
     | none=>simp[hz]at hy
     | some z=>simp[hz]at hy this;subst hy;exact this
   ·intro i y hy
    cases i with
    | zero=>simp at hy;subst hy;exact hw
    | succ i=>
     have:=T.want i
     simp only[List.map_cons,List.getElem?_cons_succ,List.getElem?_map]at hy this
     cases hz:xs[i]? with
     | none=>simp[hz]at hy
     | some z=>simp[hz]at hy this;subst hy;exact this
   ·intro i y hy hwi
    cases i with
    | zero=>simp[natCase]at hwi
    | succ i=>
     have:=T.run i
     simp only[List.map_cons,List.getElem?_cons_succ,List.getElem?_map]at hy this
     cases hz:xs[i]? with
     | none=>simp[hz]at hy
     | some z=>simp[hz]at hy this;subst hy;exact this hwi
   ·intro i y hy hwi
    cases i with
    | zero=>exact⟨rfl,T.h0⟩
    | succ i=>
     have:=T.skip i
     simp only[List.map_cons,List.getElem?_cons_succ,List.getElem?_map]at hy this
     cases hz:xs[i]? with
     | none=>simp[hz]at hy
     | some z=>simp[hz]at hy this;subst hy;exact this hwi
   ·intro i j y hy hji hmem hwi hwj
    cases i with
    | zero=>omega
    | succ i=>
     simp only[List.map_cons,List.getElem?_cons_succ,List.getElem?_map]at hy
     cases hz:xs[i]? with
     | none=>simp[hz]at hy
     | some z=>
      simp[hz]at hy;subst hy
      simp only[List.mem_filterMap]at hmem
      obtain⟨q,hq,hqj⟩:=hmem
      split at hqj
      ·rename_i hkq
       simp at hqj
       cases j with
       | zero=>simp[natCase]at hwj
       | succ j=>
        exact T.chk i j {z with chk:=z.chk.filterMap fun j=>if k+1≤j then some (j-(k+1)) else none} (by simp[hz]) (by omega)
         (by simp only[List.mem_filterMap];exact⟨q,hq,by rw[if_pos (by omega)];simp;omega⟩) hwi hwj
      ·cases hqj
   ·intro i y hy hwi
    cases i with
    | zero=>simp[natCase]at hwi
    | succ i=>exact L i y (by simpa using hy) hwi
  ·cases hrun
theorem aops_aopsD:∀{xs:List AOper} {k:Nat} {a a':List AV} {h h':H} {log:List LogE},(∀x∈xs,x.chk=[])→aops rec xs a h=some (a',h')→aopsD rec xs k a h log=some (a',h')
 | [],k,a,a',h,h',log,_,hrun=>hrun
 | x::xs,k,a,a',h,h',log,hc,hrun=>by
  simp only[aops]at hrun
  simp only[aopsD]
  split at hrun
  ·rename_i hw
   split at hrun
   ·rename_i v h1 rd hs
    have hck:∀(e:Bool) (rd:List Nat) (hb ha:H),chkOk e rd hb ha log x.chk=true:=fun e rd hb ha=>by
     rw[hc x (by simp)];simp[chkOk]
    rw[if_pos (hck _ _ _ _)]
    exact aops_aopsD (fun y hy=>hc y (by simp[hy])) hrun
   ·cases hrun
  ·rename_i hw
   exact aops_aopsD (fun y hy=>hc y (by simp[hy])) hrun
  ·cases hrun
end
inductive Sched (ops:Array Oper):(Nat→Bool)→List Nat→Prop
 | nil (D:Nat→Bool) (h:∀i,i<ops.size→D i=true):Sched ops D []
 | cons (D:Nat→Bool) (i:Nat) (o:Oper) (l:List Nat) (ho:ops[i]? =some o) (hd:D i=false) (he:∀j∈q36 o,D j=true) (h:Sched ops (fun j=>j==i||D j) l):Sched ops D (i::l)
theorem countP_set {l:List Nat} (hnd:l.Nodup) {p:Nat→Bool} {i:Nat} (hi:i∈l) (hp:p i=true):l.countP (fun j=>p j&& !(j==i))+1=l.countP p:=by
 induction l with
 | nil=>cases hi
 | cons x l ih=>
  simp only[List.nodup_cons]at hnd
  by_cases e:x=i
  ·subst e
   have:l.countP (fun j=>p j&& !(j==x))=l.countP p:=by
    apply List.countP_congr
    intro y hy
    have:y≠x:=fun e=>hnd.1 (e▸hy)
    simp[this]
   simp[List.countP_cons,hp,this]
  ·have hi':i∈l:=by rcases List.mem_cons.1 hi with h | h;exact absurd h.symm e;exact h
   have:=ih hnd.2 hi'
   simp only[List.countP_cons]
   have e2:(p x&& !(x==i))=p x:=by simp[e]
   rw[e2]
   omega
theorem sched_go (ops:Array Oper) (hedge:∀i o,ops[i]? =some o→∀j∈q36 o,j<i):∀(fuel t:Nat) (listed:Array Bool) (acc:List Nat),listed.size=ops.size→
  (List.range ops.size).countP (fun i=> !(listed.getD i true))=fuel→
  ∃l,Region.linearise.go .any ops fuel t listed acc=acc.reverse++l∧Sched ops (fun i=>listed.getD i true) l:=by
 intro fuel
 induction fuel with
 | zero=>
  intro t listed acc hs hc
  refine⟨[],by simp[Region.linearise.go],.nil _ fun i hi=>?_⟩
  rw[List.countP_eq_zero]at hc
  have:=hc i (List.mem_range.2 hi)
  simpa using this
 | succ fuel ih=>
  intro t listed acc hs hc
  have hex:∃i,i<ops.size∧listed.getD i true=false∧∀j,j<i→listed.getD j true=true:=by
   have hpos:0<(List.range ops.size).countP (fun i=> !(listed.getD i true)):=by omega
   rw[List.countP_pos_iff]at hpos
   obtain⟨i0,hi0,hl0⟩:=hpos
   have hl0':listed.getD i0 true=false:=by simpa using hl0
   have:∃i,listed.getD i true=false:=⟨i0,hl0'⟩
   have key:∀n,∀i,i<n→i<ops.size→listed.getD i true=false→∃i,i<ops.size∧listed.getD i true=false∧∀j,j<i→listed.getD j true=true:=by
    intro n
    induction n with
    | zero=>intro i hi;omega
    | succ n ihn=>
     intro i hi hsz hf
     by_cases hall:∀j,j<i→listed.getD j true=true
     ·exact⟨i,hsz,hf,hall⟩
     ·have:∃j,j<i∧listed.getD j true=false:=by
       by_cases h9:∃j,j<i∧listed.getD j true=false
       ·exact h9
       ·exfalso;apply hall;intro j hj
        cases hv:listed.getD j true with
        | true=>rfl
        | false=>exact absurd ⟨j,hj,hv⟩ h9
      obtain⟨j,hj,hjf⟩:=this
      exact ihn j (by omega) (by omega) hjf
   exact key (i0+1) i0 (by omega) (List.mem_range.1 hi0) hl0'
  obtain⟨i,hi,hif,hlow⟩:=hex
  let rs:=(List.range ops.size).filter fun i=> !listed.getD i true&&((ops[i]?).map (·.after.all fun e=> !Region.binds .any e||listed.getD e.on false)).getD false
  have hrs:∀k∈rs,∃o,ops[k]? =some o∧k<ops.size∧listed.getD k true=false∧∀j∈q36 o,listed.getD j true=true:=by
   intro k hk
   simp only[rs,List.mem_filter,List.mem_range,Bool.and_eq_true]at hk
   obtain⟨hk1,hk2,hk3⟩:=hk
   refine⟨ops[k],Array.getElem?_eq_getElem hk1,hk1,by simpa using hk2,fun j hj=>?_⟩
   rw[Array.getElem?_eq_getElem hk1]at hk3
   simp only[Option.map_some,Option.getD_some]at hk3
   rw[←Array.all_toList,List.all_eq_true]at hk3
   simp only[q36,List.mem_map,List.mem_filter]at hj
   obtain⟨e,⟨he1,he2⟩,rfl⟩:=hj
   have h3:=hk3 e he1
   rw[he2]at h3
   simp only[Bool.not_true,Bool.false_or]at h3
   by_cases hlt:e.on<listed.size
   ·simp only[Array.getD_eq_getD_getElem?,Array.getElem?_eq_getElem hlt,Option.getD_some]at h3 ⊢;exact h3
   ·simp only[Array.getD_eq_getD_getElem?,Array.getElem?_eq_none (Nat.le_of_not_lt hlt),Option.getD_none]at h3 ⊢
  have hmem:i∈rs:=by
   simp only[rs,List.mem_filter,List.mem_range,Bool.and_eq_true]
   refine⟨hi,by simp[hif],?_⟩
   rw[Array.getElem?_eq_getElem hi]
   simp only[Option.map_some,Option.getD_some]
   rw[←Array.all_toList,List.all_eq_true]
   intro e he
   cases hb:Region.binds .any e with
   | false=>rfl
   | true=>
    simp only[Bool.not_true,Bool.false_or]
    have hlt:=hedge i ops[i] (Array.getElem?_eq_getElem hi) e.on (by simp only[q36,List.mem_map,List.mem_filter];exact⟨e,⟨he,hb⟩,rfl⟩)
    have h1:=hlow e.on hlt
    have h2:e.on<listed.size:=by omega
    simp only[Array.getD_eq_getD_getElem?,Array.getElem?_eq_getElem h2,Option.getD_some]at h1 ⊢;exact h1
  have hlen:0<rs.length:=List.length_pos_of_mem hmem
  have hget:∃k,rs[t % rs.length]? =some k:=⟨rs[t % rs.length]'(Nat.mod_lt _ hlen),List.getElem?_eq_getElem _⟩
  obtain⟨k,hk⟩:=hget
  obtain⟨o,ho,hks,hkf,hke⟩:=hrs k (List.mem_of_getElem? hk)
  have hset:∀j,(listed.setIfInBounds k true).getD j true=(j==k||listed.getD j true):=by
   intro j
   simp only[Array.getD_eq_getD_getElem?,Array.getElem?_setIfInBounds]
   by_cases e:k=j
   ·subst e;rw[if_pos rfl];simp;split<;>rfl
   ·rw[if_neg e];simp[Ne.symm e]
  have hcnt:(List.range ops.size).countP (fun i=> !((listed.setIfInBounds k true).getD i true))=fuel:=by
   have h1:=countP_set (l:=List.range ops.size) List.nodup_range (p:=fun i=> !(listed.getD i true)) (i:=k) (List.mem_range.2 hks) (by simp[hkf])
   have h2:(List.range ops.size).countP (fun i=> !((listed.setIfInBounds k true).getD i true))=(List.range ops.size).countP (fun j=> !(listed.getD j true)&& !(j==k)):=by
    apply List.countP_congr
    intro y _
    show(!((listed.setIfInBounds k true).getD y true))=true↔(!(listed.getD y true)&& !(y==k))=true
    rw[hset y]
    generalize (y==k)=p
    generalize listed.getD y true=q
    cases p<;>cases q<;>simp
   omega
  obtain⟨l,hl1,hl2⟩:=ih (t / rs.length) (listed.setIfInBounds k true) (k::acc) (by simpa using hs) hcnt
  refine⟨k::l,?_,?_⟩
  ·have hgo:Region.linearise.go .any ops (fuel+1) t listed acc=(match rs[t % rs.length]? with
    | some i=>Region.linearise.go .any ops fuel (t / rs.length) (listed.setIfInBounds i true) (i::acc)
    | none=>acc.reverse):=rfl
   rw[hgo,hk]
   simp only[hl1,List.reverse_cons,List.append_assoc,List.cons_append,List.nil_append]
  ·refine .cons _ k o l ho hkf hke ?_
   have:(fun i=>(listed.setIfInBounds k true).getD i true)=(fun j=>j==k||listed.getD j true):=funext hset
   rw[←this]
   exact hl2
theorem sched_ok (ops:Array Oper) (hedge:∀i o,ops[i]? =some o→∀j∈q36 o,j<i) (mixed:Bool) (hdep:(mixed|| !Region.departs ops)=true) (t:Nat):
  ∃D,(∀i,i<ops.size→D i=false)∧Sched ops D (Region.schedule mixed ops t):=by
 have h0:∀i,i<ops.size→(Array.replicate ops.size false).getD i true=false:=fun i hi=>by simp[Array.getD_eq_getD_getElem?,hi]
 obtain⟨l,h1,h2⟩:=sched_go ops hedge ops.size t (Array.replicate ops.size false) [] (by simp) (by
  rw[List.countP_eq_length.2]
  ·simp
  ·intro i hi;rw[h0 i (List.mem_range.1 hi)];rfl)
 refine⟨_,h0,?_⟩
 have:Region.schedule mixed ops t=l:=by
  unfold Region.schedule
  rw[if_pos hdep]
  unfold Region.linearise
  simpa using h1
 rw[this]
 exact h2
end Go.Am

