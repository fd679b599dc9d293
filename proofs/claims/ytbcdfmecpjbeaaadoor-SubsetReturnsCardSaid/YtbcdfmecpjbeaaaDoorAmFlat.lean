/- Structs and arrays of numbers and bools, compared cell by cell. -/
import Derived.Test.YtbcdfmecpjbeaaaDoorAmNe2
import Derived.DeepKeys
set_option linter.unusedVariables false
set_option linter.unusedSimpArgs false
namespace Go.Am
def Fit:List (Option IntKind)→List Value→Prop
 | [],[]=>True
 | some k::T,.int k' n::us=>k'=k∧(Lit.int k n).wf=true∧Fit T us
 | none::T,.bool _::us=>Fit T us
 | _,_=>False
def litOf:Value→Lit
 | .int k n=> .int k n
 | .bool b=> .bool b
 | _=> .bool false
theorem Fit.length:∀{T:List (Option IntKind)} {us:List Value},Fit T us→us.length=T.length
 | [],[],_=>rfl
 | some k::T,.int k' n::us,h=>by simp[Fit.length h.2.2]
 | none::T,.bool b::us,h=>by simp[Fit.length (T:=T) h]
theorem Fit.split:∀{A B:List (Option IntKind)} {us:List Value},Fit (A++B) us→Fit A (us.take A.length)∧Fit B (us.drop A.length)
 | [],B,us,h=>⟨by simp[Fit],by simpa using h⟩
 | some k::A,B,.int k' n::us,h=>by
  obtain⟨h1,h2,h3⟩:=h
  obtain⟨p,q⟩:=Fit.split (A:=A) h3
  exact⟨⟨h1,h2,p⟩,q⟩
 | none::A,B,.bool b::us,h=>by
  obtain⟨p,q⟩:=Fit.split (A:=A) (us:=us) h
  exact⟨p,q⟩
section
variable {P:Program}
theorem lits_fields {m:Nat} (ih:∀(t:TypeId) (T:List (Option IntKind)),flatK P m t=some T→∀us,Fit T us→P.keyLits m t us=some (us.map litOf)) {us:List Value} :
  ∀(fs:List Field) (off:Nat) (T:List (Option IntKind)),flatFields P (flatK P m) off fs=some T→off≤us.length→Fit T (us.drop off)→
  ∃as,fs.mapM (fun f=>P.keyLits m f.type ((us.drop f.offset).take (P.cellsOf f.type)))=some as∧as.flatten=(us.drop off).map litOf
 | [],off,T,hT,hl,hf=>by
  cases hT
  have:=hf.length
  simp only[List.length_nil]at this
  have e:us.drop off=[]:=List.length_eq_zero_iff.1 this
  exact⟨[],rfl,by rw[e];rfl⟩
 | f::fs,off,T,hT,hl,hf=>by
  unfold flatFields at hT
  split at hT
  ·rename_i A B hA hB
   split at hT
   ·rename_i hc
    cases hT
    obtain⟨h1,h2⟩:=hc
    obtain⟨p,q⟩:=hf.split
    have hlen:=hf.length
    simp only[List.length_append,List.length_drop]at hlen
    have e1:=ih _ _ hA _ p
    rw[List.drop_drop]at q
    rw[h2]at e1 q
    have hle:f.offset+P.cellsOf f.type≤us.length:=by omega
    obtain⟨as,e2,e3⟩:=lits_fields ih fs (f.offset+P.cellsOf f.type) B hB hle (by rw[h1];exact q)
    refine⟨_::as,by simp only[List.mapM_cons,h1,e1,Option.bind_eq_bind,Option.bind_some];rw[e2];rfl,?_⟩
    rw[List.flatten_cons,e3,h1,←List.map_append,←List.drop_drop,List.take_append_drop]
   ·cases hT
  ·cases hT
theorem lits_times {m:Nat} {e:TypeId} {E:List (Option IntKind)} (ih:∀us,Fit E us→P.keyLits m e us=some (us.map litOf)) (he:E.length=P.cellsOf e) {us:List Value} :
  ∀(k off:Nat),off*E.length≤us.length→Fit (timesK E k) (us.drop (off*E.length))→
  ∃as,(List.range' off k).mapM (fun i=>P.keyLits m e ((us.drop (i*P.cellsOf e)).take (P.cellsOf e)))=some as∧as.flatten=(us.drop (off*E.length)).map litOf
 | 0,off,hl,hf=>by
  have:=hf.length
  simp only[timesK,List.length_nil]at this
  have e:us.drop (off*E.length)=[]:=List.length_eq_zero_iff.1 this
  exact⟨[],rfl,by rw[e];rfl⟩
 | k+1,off,hl,hf=>by
  have hlen:=hf.length
  simp only[timesK,List.length_append,List.length_drop]at hlen
  obtain⟨p,q⟩:=hf.split
  have e1:=ih _ p
  have e0:off*E.length+E.length=(off+1)*E.length:=by rw[Nat.succ_mul]
  rw[List.drop_drop,e0]at q
  obtain⟨as,e2,e3⟩:=lits_times ih he k (off+1) (by omega) q
  refine⟨_::as,by rw[List.range'_succ];simp only[List.mapM_cons,←he,e1,Option.bind_eq_bind,Option.bind_some];rw[←he]at e2;rw[e2];rfl,?_⟩
  rw[List.flatten_cons,e3,←e0,←List.map_append,←List.drop_drop,List.take_append_drop]
theorem lits_flat:∀(m:Nat) (t:TypeId) (T:List (Option IntKind)),flatK P m t=some T→∀us,Fit T us→P.keyLits m t us=some (us.map litOf)
 | 0,t,T,hT,us,hf=>by cases hT
 | m+1,t,T,hT,us,hf=>by
  unfold flatK at hT
  split at hT
  ·rename_i k hk
   cases hT
   match us,hf with
   | [.int k' n],hf=>
    obtain⟨rfl,h2,_⟩:=hf
    simp[Program.keyLits,hk,h2,litOf]
  ·rename_i hk
   cases hT
   match us,hf with
   | [.bool b],hf=>simp[Program.keyLits,hk,litOf]
  ·rename_i fs hk
   split at hT
   ·rename_i T' hT'
    split at hT
    ·rename_i hc
     cases hT
     obtain⟨hc1,hc2⟩:=hc
     have hlen:=hf.length
     obtain⟨as,e1,e2⟩:=lits_fields (fun t T h us hf=>lits_flat m t T h us hf) (us:=us) fs.toList 0 T hT' (Nat.zero_le _) (by simpa using hf)
     have hcl:us.length=P.cellsOf t:=by omega
     unfold Program.keyLits
     rw[hk]
     simp only
     rw[if_pos ⟨hcl,hc2⟩,e1]
     simp only[Option.map_some,e2,List.drop_zero]
    ·cases hT
   ·cases hT
  ·rename_i n e hk
   split at hT
   ·rename_i E hE
    split at hT
    ·rename_i hc
     cases hT
     obtain⟨hc1,hc2⟩:=hc
     have hlen:=hf.length
     obtain⟨as,e1,e2⟩:=lits_times (fun us hf=>lits_flat m e E hE us hf) hc1 (us:=us) n 0 (by simp) (by simpa using hf)
     have hcl:us.length=P.cellsOf t:=by omega
     unfold Program.keyLits
     rw[hk]
     simp only
     rw[if_pos hcl,List.range_eq_range',e1]
     simp only[Option.map_some,e2,Nat.zero_mul,List.drop_zero]
    ·cases hT
   ·cases hT
  ·cases hT
theorem wf_of_has {k:IntKind} {n:Int} (h:kHas k n=true):(Lit.int k n).wf=true:=by
 cases k<;>simp[kHas]at h<;>simp[Lit.wf,IntKind.min,IntKind.max,IntKind.signed,IntKind.bits]<;>omega
theorem fit_of_cells {ρ:Emb} :∀{T:List (Option IntKind)} {xs ys:List AV} {us vs:List Value} {b:Bool},aEqCells T xs ys=some b→VRs ρ xs us→VRs ρ ys vs→Fit T us∧Fit T vs∧(b=true↔us.map litOf=vs.map litOf):=by
 intro T
 induction T with
 | nil=>
  intro xs ys us vs b h hx hy
  cases xs with
  | cons x xs=>cases h
  | nil=>cases ys with
   | cons y ys=>cases h
   | nil=>
    cases h
    rw[hx.nil_inv,hy.nil_inv];simp[Fit]
 | cons o T ih=>
  intro xs ys us vs b h hx hy
  cases o with
  | some k=>
   cases xs with
   | nil=>cases h
   | cons x xs=>
    cases ys with
    | nil=>cases x<;>cases h
    | cons y ys=>
     cases x<;>first | (cases h;done) | skip
     cases y<;>first | (cases h;done) | skip
     rename_i k1 m k2 n
     simp only[aEqCells]at h
     split at h
     ·rename_i hc
      obtain⟨rfl,rfl,hm,hn⟩:=hc
      split at h
      ·rename_i b' hb
       cases h
       obtain⟨u,us',rfl,r1,r2⟩:=hx.cons_inv
       obtain⟨v,vs',rfl,r3,r4⟩:=hy.cons_inv
       rw[r1.int_inv,r3.int_inv]
       obtain⟨f1,f2,f3⟩:=ih hb r2 r4
       refine⟨⟨rfl,wf_of_has hm,f1⟩,⟨rfl,wf_of_has hn,f2⟩,?_⟩
       simp only[List.map_cons,litOf,List.cons.injEq,Lit.int.injEq,true_and,Bool.and_eq_true,beq_iff_eq,f3]
      ·cases h
     ·cases h
  | none=>
   cases xs with
   | nil=>cases h
   | cons x xs=>
    cases ys with
    | nil=>cases x<;>cases h
    | cons y ys=>
     cases x<;>first | (cases h;done) | skip
     cases y<;>first | (cases h;done) | skip
     rename_i p q
     simp only[aEqCells]at h
     split at h
     ·rename_i b' hb
      cases h
      obtain⟨u,us',rfl,r1,r2⟩:=hx.cons_inv
      obtain⟨v,vs',rfl,r3,r4⟩:=hy.cons_inv
      rw[r1.bool_inv,r3.bool_inv]
      obtain⟨f1,f2,f3⟩:=ih hb r2 r4
      refine⟨f1,f2,?_⟩
      simp only[List.map_cons,litOf,List.cons.injEq,Lit.bool.injEq,Bool.and_eq_true,beq_iff_eq,f3]
     ·cases h
theorem flatK_agg {m:Nat} {t:TypeId} {T:List (Option IntKind)} (hu:(∃fs,P.underlying t=some (.struct fs))∨∃n e,P.underlying t=some (.array n e)) (hT:flatK P m t=some T):T.length=P.cellsOf t:=by
 cases m with
 | zero=>cases hT
 | succ m=>
  unfold flatK at hT
  rcases hu with⟨fs,hu⟩ | ⟨n,e,hu⟩
  ·rw[hu]at hT
   simp only at hT
   split at hT
   ·split at hT
    ·rename_i hc;cases hT;exact hc.1
    ·cases hT
   ·cases hT
  ·rw[hu]at hT
   simp only at hT
   split at hT
   ·split at hT
    ·rename_i hc;cases hT;exact hc.2
    ·cases hT
   ·cases hT
theorem eqCells_ok {ρ:Emb} (w:World) {t:TypeId} {T:List (Option IntKind)} (hu:(∃fs,P.underlying t=some (.struct fs))∨∃n e,P.underlying t=some (.array n e)) (hT:flatK P 20 t=some T)
  (hk:P.keyTypeAt 20 t=true) (hg:P.eqGuardType P.depth t=false) {xs ys:List AV} {us vs:List Value} {b:Bool} (h:aEqCells T xs ys=some b) (hx:VRs ρ xs us) (hy:VRs ρ ys vs):
  (∀(op:BinOp) (X Y:Operand),(eqGuard op t X Y (.agg us.toArray) (.agg vs.toArray)).run P w= .ok () w)∧(binOp .eql t (.agg us.toArray) (.agg vs.toArray)).run P w= .ok (.bool b) w∧(binOp .neq t (.agg us.toArray) (.agg vs.toArray)).run P w= .ok (.bool (!b)) w:=by
 obtain⟨f1,f2,f3⟩:=fit_of_cells h hx hy
 have hl:=flatK_agg hu hT
 have fm:∀{zs:List Value},Fit T zs→(Value.agg zs.toArray).formed P t=true:=by
  intro zs hz
  have:=hz.length
  unfold Value.formed
  rcases hu with⟨fs,hu⟩ | ⟨n,e,hu⟩<;>(rw[hu];simp;omega)
 obtain⟨r,hr,hiff⟩:=run_equalIn_deep (P:=P) (10000-20) 20 t hk w 20 20 (.agg us.toArray) (.agg vs.toArray) _ _ (fm f1) (fm f2) (by simpa [Value.cells] using lits_flat 20 t T hT us f1) (by simpa [Value.cells] using lits_flat 20 t T hT vs f2)
 have hrb:r=b:=by
  cases r<;>cases b<;>simp_all
 subst hrb
 have he:(Op.equal t (.agg us.toArray) (.agg vs.toArray)).run P w= .ok r w:=hr
 refine⟨fun op X Y=>?_,?_,?_⟩
 ·unfold eqGuard
  cases op<;>simp[hg]
 ·simp[binOp,he]
 ·simp[binOp,he]
end
end Go.Am

