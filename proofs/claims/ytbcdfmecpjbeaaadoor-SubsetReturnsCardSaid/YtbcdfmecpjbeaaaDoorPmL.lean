/- The pure machine: laws. Statement by statement; the present becomes old; results are overwritten, and what goes with it. -/
import Derived.Test.YtbcdfmecpjbeaaaDoorPmR
import Derived.Test.YtbcdfmecpjbeaaaDoorAmArgs
set_option linter.unusedVariables false
set_option linter.unusedSimpArgs false
namespace Go.Am
section
variable (tab:FuncId→Option AF)
variable {tab}
def wH (h:H):PWd:=⟨h.next,0,fun _=>none,h.get⟩
theorem wH_st (h:H):PSt (wH h) h []:=
 ⟨fun b o hb=>hb,(fun id e he=>by cases he),(fun id e b he=>by cases he),(fun id o ho=>by simp at ho),fun i j x ⟨_,_,h1,_⟩=>by simp at h1,fun i x ⟨_,_,h1,_⟩=>by simp at h1,Nat.le_refl _⟩
theorem law_of_sem {g:FuncId} {pargs:List PV} {args':List AV} {h:H} (ha:RepL (wH h) pargs args') (hc:SemC tab g pargs [] fun r _=>r= .bool true):C (lim tab) g args' h fun v _=>v= .bool true:=
 C_mono (hc (wH h) h args' (Nat.le_refl _) (wH_st h) ha) fun v h' ⟨w',r,M',_,_,p3,p4⟩=>by subst p4;exact rep_bool p3
end
theorem sh_sl {E:Ty} (hE:E.size=1) {cs:List AV} {h:H} (hs:Sh (.slice E) cs h):∃v cells,cs=[v]∧cells.length≤9223372036854775807∧(∀c∈cells,Sh E [c] h)∧
  ∀(pcs:List PV),RepL (wH h) pcs cells→RepV (wH h) (.sl false false 1 cells.length pcs) v:=by
 rcases hs with rfl | ⟨b,n,cells,rfl,h2,h3,h4,h5⟩
 ·refine⟨.nilslice,[],rfl,by simp,(fun c hc=>by cases hc),fun pcs hp=>?_⟩
  have:pcs=[]:=List.length_eq_zero_iff.1 (by simpa using hp.len)
  subst this
  exact .slN
 ·rw[hE,Nat.mul_one]at h4
  subst h4
  rw[hE]
  refine⟨_,cells,rfl,by simpa [maxLen] using h2,fun c hc=>?_,fun pcs hp=>?_⟩
  ·obtain⟨i,hi,rfl⟩:=List.getElem_of_mem hc
   have:=h5 i hi
   rw[hE,Nat.mul_one,List.drop_eq_getElem_cons hi]at this
   exact this
  ·exact .sl (show(wH h).imm b=_ from h3) (by have:=hp.len;omega) (by have:=hp.len;omega) (fun q=>by cases q) (fun q=>by cases q) (fun _ _=>H.lt_of_get h3) (fun i y z p q=>hp.get i y z p (by simpa using q))
theorem sh_intsP {k:IntKind} {cs:List AV} {h:H} (hs:Sh (.slice (.int k)) cs h):∃v,∃xs:List Int,cs=[v]∧RepV (wH h) (slI false false k xs) v∧xs.length≤9223372036854775807∧∀x∈xs,k.min≤x∧x≤k.max:=by
 obtain⟨v,cells,rfl,h1,h2,h3⟩:=sh_sl rfl hs
 have:∀cells:List AV,(∀c∈cells,Sh (.int k) [c] h)→∃xs:List Int,cells=xs.map (AV.int k)∧∀x∈xs,k.min≤x∧x≤k.max:=by
  intro cells
  induction cells with
  | nil=>intro _;exact⟨[],rfl,fun x hx=>by cases hx⟩
  | cons c cells ih=>
   intro hc
   obtain⟨xs,e,e2⟩:=ih (fun c' h'=>hc c' (List.mem_cons_of_mem _ h'))
   obtain⟨n,e1,r1,r2⟩:=hc c (by simp)
   cases e1
   refine⟨n::xs,by simp[e],fun x hx=>?_⟩
   rcases List.mem_cons.1 hx with rfl | hx
   ·exact⟨r1,r2⟩
   ·exact e2 x hx
 obtain⟨xs,rfl,hr⟩:=this cells h2
 refine⟨v,xs,rfl,?_,by simpa using h1,hr⟩
 have:=h3 (xs.map (PV.int k)) ⟨by simp,fun i y z p q=>by
  rw[List.getElem?_map]at p q
  cases hx:xs[i]? with
  | none=>rw[hx]at p;cases p
  | some x=>rw[hx]at p q;cases p;cases q;exact .int k x⟩
 simpa using this
theorem sh_rowsP {k:IntKind} {cs:List AV} {h:H} (hs:Sh (.slice (.slice (.int k))) cs h):∃v,∃su:List (List Int),cs=[v]∧RepV (wH h) (slR false false false false k su) v∧su.length≤9223372036854775807∧∀r∈su,r.length≤9223372036854775807∧∀x∈r,k.min≤x∧x≤k.max:=by
 obtain⟨v,cells,rfl,h1,h2,h3⟩:=sh_sl rfl hs
 have:∀cells:List AV,(∀c∈cells,Sh (.slice (.int k)) [c] h)→∃su:List (List Int),cells.length=su.length∧RepL (wH h) (su.map (slI false false k)) cells∧∀r∈su,r.length≤9223372036854775807∧∀x∈r,k.min≤x∧x≤k.max:=by
  intro cells
  induction cells with
  | nil=>intro _;exact⟨[],rfl,.nil _,fun x hx=>by cases hx⟩
  | cons c cells ih=>
   intro hc
   obtain⟨su,e,e2,e3⟩:=ih (fun c' h'=>hc c' (List.mem_cons_of_mem _ h'))
   obtain⟨v,xs,e1,r1,r2,r3⟩:=sh_intsP (hc c (by simp))
   cases e1
   refine⟨xs::su,by simp[e],.cons r1 e2,fun x hx=>?_⟩
   rcases List.mem_cons.1 hx with rfl | hx
   ·exact⟨r2,r3⟩
   ·exact e3 x hx
 obtain⟨su,e1,e2,e3⟩:=this cells h2
 have:=h3 _ e2
 rw[e1]at this h1
 exact⟨v,su,rfl,this,h1,e3⟩
section
variable {tab:FuncId→Option AF}
end
end Go.Am

