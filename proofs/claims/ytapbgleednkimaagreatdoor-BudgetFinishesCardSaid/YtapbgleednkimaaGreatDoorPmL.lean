/- The pure machine: laws. Statement by statement; the present becomes old; results are overwritten, and what goes with it. -/
import Derived.Test.YtapbgleednkimaaGreatDoorPmR
import Derived.Test.YtapbgleednkimaaGreatDoorAmEnd2
set_option linter.unusedVariables false
set_option linter.unusedSimpArgs false
namespace Go.Am
theorem RepV.eqv{w w':PWd}(h0:w'.n0=w.n0)(hi:∀b o,w.imm b=some o->w'.imm b=some o)(he:∀id e,w.env id=some e->w'.env id=some e){v:PV}{x:AV}(h:RepV w v x):RepV w' v x:=by
 induction h with
 | junk x=>exact .junk x
 | bool b=>exact .bool b
 | int k n=>exact .int k n
 | str s=>exact .str s
 | nilptr=>exact .nilptr
 | nils=>exact .nils
 | nilmap=>exact .nilmap
 | nilfunc=>exact .nilfunc
 | niliface=>exact .niliface
 | ptr h1 h2 h3=>exact .ptr (he _ _ h1) h2 h3
 | ptrS x q h1 h2=>exact .ptrS x q (he _ _ h1) h2
 | cp h1 h2 h3 ih=>exact .cp (hi _ _ h1) h2 (fun i y z p q=>ih i y z p q)
 | sl h1 h2 h3 h4 h5 h7 h6 ih=>exact .sl (hi _ _ h1) h2 h3 h4 (by rw[h0];exact h5) (by rw[h0];exact h7) (fun i y z p q=>ih i y z p q)
 | slN=>exact .slN
 | ref h1 h2 h3=>exact .ref (he _ _ h1) h2 h3
 | refN h1 h2 h3=>exact .refN (he _ _ h1) h2 h3
 | refS x q h1 h2=>exact .refS x q (he _ _ h1) h2
 | map h1 h2 h3=>exact .map (he _ _ h1) h2 h3
 | mapS x q h1 h2=>exact .mapS x q (he _ _ h1) h2
 | func h1 h2 h3 h4 h5 ih1 ih2=>exact .func h1 h2 h3 (fun i y z p q=>ih1 i y z p q) (fun i y z p q=>ih2 i y z p q)
 | yld h1 h2 h3 h4 h5 ih=>exact .yld (he _ _ h1) h2 h3 h4 (fun i y z p q=>ih i y z p q)
 | yldS x q h1 h2=>exact .yldS x q (he _ _ h1) h2
 | iface h ih=>exact .iface ih
 | agg h1 h2 ih=>exact .agg h1 (fun i y z p q=>ih i y z p q)
 | tuple h1 h2 ih=>exact .tuple h1 (fun i y z p q=>ih i y z p q)
theorem RepL.eqv{w w':PWd}(h0:w'.n0=w.n0)(hi:∀b o,w.imm b=some o->w'.imm b=some o)(he:∀id e,w.env id=some e->w'.env id=some e){l:List PV}{l':List AV}(h:RepL w l l'):RepL w' l l':=
 ⟨h.len,fun i y z p q=>(h.get i y z p q).eqv h0 hi he⟩
mutual
def PV.age:PV->PV
 | .sl _ _ sz n cs=> .sl false false sz n (fP cs)
 | .cp cs o=> .cp (fP cs) o
 | .agg cs=> .agg (fP cs)
 | .tuple cs=> .tuple (fP cs)
 | .func fn f c=> .func fn (fP f) (fP c)
 | .yld id f=> .yld id (fP f)
 | .iface t v=> .iface t (PV.age v)
 | .junk=> .junk
 | .bool b=> .bool b
 | .int k n=> .int k n
 | .str s=> .str s
 | .nilptr=> .nilptr
 | .nils=> .nils
 | .nilmap=> .nilmap
 | .nilfunc=> .nilfunc
 | .niliface=> .niliface
 | .ptr id g o=> .ptr id g o
 | .ref id g sz off n=> .ref id g sz off n
 | .map id=> .map id
def fP:List PV->List PV
 | []=>[]
 | v::l=>PV.age v::fP l
def PV.swp:PV->PV
 | .sl fl own sz n cs=>match fl,own with
  | false,false=> .sl false false sz n (qU cs)
  | _,_=> .junk
 | .cp _ _=> .junk
 | .agg cs=> .agg (qU cs)
 | .tuple cs=> .tuple (qU cs)
 | .func fn f c=> .func fn (qU f) (qU c)
 | .yld id f=> .yld id (qU f)
 | .iface t v=> .iface t (PV.swp v)
 | .junk=> .junk
 | .bool b=> .bool b
 | .int k n=> .int k n
 | .str s=> .str s
 | .nilptr=> .nilptr
 | .nils=> .nils
 | .nilmap=> .nilmap
 | .nilfunc=> .nilfunc
 | .niliface=> .niliface
 | .ptr id g o=> .ptr id g o
 | .ref id g sz off n=> .ref id g sz off n
 | .map id=> .map id
def qU:List PV->List PV
 | []=>[]
 | v::l=>PV.swp v::qU l
end
theorem gR:∀l:List PV,fP l=l.map PV.age
 | []=>rfl
 | v::l=>by simp[fP,gR l]
theorem qT:∀l:List PV,qU l=l.map PV.swp
 | []=>rfl
 | v::l=>by simp[qU,qT l]
theorem JM{l:List PV}{i:Nat}{y:PV}(h:(fP l)[i]? =some y):∃z,l[i]? =some z/\y=z.age:=by
 rw[gR,List.getElem?_map]at h
 cases hl:l[i]? with
 | none=>rw[hl]at h;cases h
 | some z=>rw[hl]at h;cases h;exact⟨z,rfl,rfl⟩
theorem F9{l:List PV}{i:Nat}{y:PV}(h:(qU l)[i]? =some y):∃z,l[i]? =some z/\y=z.swp:=by
 rw[qT,List.getElem?_map]at h
 cases hl:l[i]? with
 | none=>rw[hl]at h;cases h
 | some z=>rw[hl]at h;cases h;exact⟨z,rfl,rfl⟩
theorem RepV.age{w w':PWd}(hb:∀b o,w.imm b=some o->b<w'.n0)(hi:∀b o,w.imm b=some o->w'.imm b=some o)(he:∀id e,w.env id=some e->w'.env id=some e){v:PV}{x:AV}(h:RepV w v x):RepV w' v.age x:=by
 have up:∀{l:List PV} {l':List AV} {f:Nat->Nat},(∀(i:Nat) (y:PV) (z:AV),l[i]? =some y->l'[f i]? =some z->RepV w' y.age z)->∀(i:Nat) (y:PV) (z:AV),(fP l)[i]? =some y->l'[f i]? =some z->RepV w' y z:=by intro l l' f h i y z p q;obtain⟨u,h1,rfl⟩:=JM p;exact h i u z h1 q
 have len:∀l:List PV,(fP l).length=l.length:=fun l=>by rw[gR];simp
 induction h with
 | junk x=>simp only[PV.age];exact .junk x
 | bool b=>simp only[PV.age];exact .bool b
 | int k n=>simp only[PV.age];exact .int k n
 | str s=>simp only[PV.age];exact .str s
 | nilptr=>simp only[PV.age];exact .nilptr
 | nils=>simp only[PV.age];exact .nils
 | nilmap=>simp only[PV.age];exact .nilmap
 | nilfunc=>simp only[PV.age];exact .nilfunc
 | niliface=>simp only[PV.age];exact .niliface
 | ptr h1 h2 h3=>simp only[PV.age];exact .ptr (he _ _ h1) h2 h3
 | ptrS x q h1 h2=>simp only[PV.age];exact .ptrS x q (he _ _ h1) h2
 | cp h1 h2 h3 ih=>simp only[PV.age];exact .cp (hi _ _ h1) (by rw[len];exact h2) (up ih)
 | sl h1 h2 h3 h4 h5 h7 h6 ih=>simp only[PV.age];exact .sl (hi _ _ h1) (by rw[len];exact h2) (by rw[len];exact h3) (fun q=>by cases q) (fun q=>by cases q) (fun _ _=>hb _ _ h1) (up ih)
 | slN=>simp only[PV.age,fP];exact .slN
 | ref h1 h2 h3=>simp only[PV.age];exact .ref (he _ _ h1) h2 h3
 | refN h1 h2 h3=>simp only[PV.age];exact .refN (he _ _ h1) h2 h3
 | refS x q h1 h2=>simp only[PV.age];exact .refS x q (he _ _ h1) h2
 | map h1 h2 h3=>simp only[PV.age];exact .map (he _ _ h1) h2 h3
 | mapS x q h1 h2=>simp only[PV.age];exact .mapS x q (he _ _ h1) h2
 | func h1 h2 h3 h4 h5 ih1 ih2=>simp only[PV.age];exact .func h1 (by rw[len];exact h2) (by rw[len];exact h3) (up (f:=id) ih1) (up (f:=id) ih2)
 | yld h1 h2 h3 h4 h5 ih=>simp only[PV.age];exact .yld (he _ _ h1) h2 h3 (by rw[len];exact h4) (up (f:=id) ih)
 | yldS x q h1 h2=>simp only[PV.age];exact .yldS x q (he _ _ h1) h2
 | iface h ih=>simp only[PV.age];exact .iface ih
 | agg h1 h2 ih=>simp only[PV.age];exact .agg (by rw[len];exact h1) (up (f:=id) ih)
 | tuple h1 h2 ih=>simp only[PV.age];exact .tuple (by rw[len];exact h1) (up (f:=id) ih)
theorem RepV.swp{w w':PWd}(h0:w'.n0=w.n0)(hi:∀b o,w.imm b=some o->b<w.n0->w'.imm b=some o)(he:∀id e,w.env id=some e->w'.env id=some e){v:PV}{x:AV}(h:RepV w v x):RepV w' v.swp x:=by
 have up:∀{l:List PV} {l':List AV} {f:Nat->Nat},(∀(i:Nat) (y:PV) (z:AV),l[i]? =some y->l'[f i]? =some z->RepV w' y.swp z)->∀(i:Nat) (y:PV) (z:AV),(qU l)[i]? =some y->l'[f i]? =some z->RepV w' y z:=by intro l l' f h i y z p q;obtain⟨u,h1,rfl⟩:=F9 p;exact h i u z h1 q
 have len:∀l:List PV,(qU l).length=l.length:=fun l=>by rw[qT];simp
 induction h with
 | junk x=>simp only[PV.swp];exact .junk x
 | bool b=>simp only[PV.swp];exact .bool b
 | int k n=>simp only[PV.swp];exact .int k n
 | str s=>simp only[PV.swp];exact .str s
 | nilptr=>simp only[PV.swp];exact .nilptr
 | nils=>simp only[PV.swp];exact .nils
 | nilmap=>simp only[PV.swp];exact .nilmap
 | nilfunc=>simp only[PV.swp];exact .nilfunc
 | niliface=>simp only[PV.swp];exact .niliface
 | ptr h1 h2 h3=>simp only[PV.swp];exact .ptr (he _ _ h1) h2 h3
 | ptrS x q h1 h2=>simp only[PV.swp];exact .ptrS x q (he _ _ h1) h2
 | cp h1 h2 h3 ih=>simp only[PV.swp];exact .junk _
 | @sl fl own sz n cs fl' b ver rw bcs off h1 h2 h3 h4 h5 h7 h6 ih=>
  cases fl<;>cases own<;>simp only[PV.swp]
  ·exact .sl (hi _ _ h1 (h7 rfl rfl)) (by rw[len];exact h2) (by rw[len];exact h3) (fun q=>by cases q) (fun q=>by cases q) (fun _ _=>by rw[h0];exact h7 rfl rfl) (up ih)
  all_goals exact .junk _
 | @slN fl own sz=>cases fl<;>cases own<;>simp only[PV.swp,qU]<;>first | exact .slN | exact .junk _
 | ref h1 h2 h3=>simp only[PV.swp];exact .ref (he _ _ h1) h2 h3
 | refN h1 h2 h3=>simp only[PV.swp];exact .refN (he _ _ h1) h2 h3
 | refS x q h1 h2=>simp only[PV.swp];exact .refS x q (he _ _ h1) h2
 | map h1 h2 h3=>simp only[PV.swp];exact .map (he _ _ h1) h2 h3
 | mapS x q h1 h2=>simp only[PV.swp];exact .mapS x q (he _ _ h1) h2
 | func h1 h2 h3 h4 h5 ih1 ih2=>simp only[PV.swp];exact .func h1 (by rw[len];exact h2) (by rw[len];exact h3) (up (f:=id) ih1) (up (f:=id) ih2)
 | yld h1 h2 h3 h4 h5 ih=>simp only[PV.swp];exact .yld (he _ _ h1) h2 h3 (by rw[len];exact h4) (up (f:=id) ih)
 | yldS x q h1 h2=>simp only[PV.swp];exact .yldS x q (he _ _ h1) h2
 | iface h ih=>simp only[PV.swp];exact .iface ih
 | agg h1 h2 ih=>simp only[PV.swp];exact .agg (by rw[len];exact h1) (up (f:=id) ih)
 | tuple h1 h2 ih=>simp only[PV.swp];exact .tuple (by rw[len];exact h1) (up (f:=id) ih)
theorem RepL.age{w w':PWd}(hb:∀b o,w.imm b=some o->b<w'.n0)(hi:∀b o,w.imm b=some o->w'.imm b=some o)(he:∀id e,w.env id=some e->w'.env id=some e){l:List PV}{l':List AV}(h:RepL w l l'):RepL w' (fP l) l':=
 ⟨by rw[gR];simpa using h.len,fun i y z p q=>by
  obtain⟨u,h1,rfl⟩:=JM p;exact(h.get i u z h1 q).age hb hi he⟩
theorem RepL.swp{w w':PWd}(h0:w'.n0=w.n0)(hi:∀b o,w.imm b=some o->b<w.n0->w'.imm b=some o)(he:∀id e,w.env id=some e->w'.env id=some e){l:List PV}{l':List AV}(h:RepL w l l'):RepL w' (qU l) l':=
 ⟨by rw[qT];simpa using h.len,fun i y z p q=>by
  obtain⟨u,h1,rfl⟩:=F9 p;exact(h.get i u z h1 q).swp h0 hi he⟩
def PObj.mapC(f:List PV->List PV):PObj->PObj
 | .cells g ver cs=> .cells g ver (f cs)
 | _=> .gone
section
variable (tab:FuncId->Option AF)
variable {tab}
def wH(h:H):PWd:=⟨h.next,0,fun _=>none,h.get⟩
theorem aEi(h:H):PSt (wH h) h []:=
 ⟨fun b o hb=>hb,(fun id e he=>by cases he),(fun id e b he=>by cases he),(fun id o ho=>by simp at ho),fun i j x ⟨_,_,h1,_⟩=>by simp at h1,fun i x ⟨_,_,h1,_⟩=>by simp at h1,Nat.le_refl _⟩
theorem MB{g:FuncId}{pargs:List PV}{args':List AV}{h:H}(ha:RepL (wH h) pargs args')(hc:SemC tab g pargs [] fun r _=>r= .bool true):C (lim tab) g args' h fun v _=>v= .bool true:=
 iD (hc (wH h) h args' (Nat.le_refl _) (aEi h) ha) fun v h' ⟨w',r,M',_,_,p3,p4⟩=>by subst p4;exact iK p3
end
theorem W7{E:Ty}(hE:E.size=1){cs:List AV}{h:H}(hs:Sh (.slice E) cs h):∃v cells,cs=[v]/\cells.length<=9223372036854775807/\(∀c∈cells,Sh E [c] h)/\
  ∀(pcs:List PV),RepL (wH h) pcs cells->RepV (wH h) (.sl false false 1 cells.length pcs) v:=by
 rcases hs with rfl | ⟨b,n,cells,rfl,h2,h3,h4,h5⟩
 ·refine⟨.nilslice,[],rfl,by simp,(fun c hc=>by cases hc),fun pcs hp=>?_⟩;have:pcs=[]:=List.length_eq_zero_iff.1 (by simpa using hp.len);subst this;exact .slN
 ·rw[hE,Nat.mul_one]at h4;subst h4;rw[hE];refine⟨_,cells,rfl,by simpa [maxLen]using h2,fun c hc=>?_,fun pcs hp=>?_⟩
  ·obtain⟨i,hi,rfl⟩:=List.getElem_of_mem hc;have:=h5 i hi;rw[hE,Nat.mul_one,List.drop_eq_getElem_cons hi]at this;exact this
  ·exact .sl (show(wH h).imm b=_ from h3) (by have:=hp.len;omega) (by have:=hp.len;omega) (fun q=>by cases q) (fun q=>by cases q) (fun _ _=>H.lt_of_get h3) (fun i y z p q=>hp.get i y z p (by simpa using q))
theorem nH{k:IntKind}{cs:List AV}{h:H}(hs:Sh (.slice (.int k)) cs h):∃v,∃xs:List Int,cs=[v]/\RepV (wH h) (slI false false k xs) v/\xs.length<=9223372036854775807/\∀x∈xs,k.min<=x/\x<=k.max:=by
 obtain⟨v,cells,rfl,h1,h2,h3⟩:=W7 rfl hs;have:∀cells:List AV,(∀c∈cells,Sh (.int k) [c] h)->∃xs:List Int,cells=xs.map (AV.int k)/\∀x∈xs,k.min<=x/\x<=k.max:=by
  intro cells
  induction cells with
  | nil=>intro _;exact⟨[],rfl,fun x hx=>by cases hx⟩
  | cons c cells ih=>
   intro hc;obtain⟨xs,e,e2⟩:=ih (fun c' h'=>hc c' (List.mem_cons_of_mem _ h'));obtain⟨n,e1,r1,r2⟩:=hc c (by simp);cases e1;refine⟨n::xs,by simp[e],fun x hx=>?_⟩;rcases List.mem_cons.1 hx with rfl | hx
   ·exact⟨r1,r2⟩
   ·exact e2 x hx
 obtain⟨xs,rfl,hr⟩:=this cells h2;refine⟨v,xs,rfl,?_,by simpa using h1,hr⟩;have:=h3 (xs.map (PV.int k)) ⟨by simp,fun i y z p q=>by
  rw[List.getElem?_map]at p q
  cases hx:xs[i]? with
  | none=>rw[hx]at p;cases p
  | some x=>rw[hx]at p q;cases p;cases q;exact .int k x⟩
 simpa using this
theorem GS{k:IntKind}{cs:List AV}{h:H}(hs:Sh (.slice (.slice (.int k))) cs h):∃v,∃su:List (List Int),cs=[v]/\RepV (wH h) (slR false false false false k su) v/\su.length<=9223372036854775807/\∀r∈su,r.length<=9223372036854775807/\∀x∈r,k.min<=x/\x<=k.max:=by
 obtain⟨v,cells,rfl,h1,h2,h3⟩:=W7 rfl hs;have:∀cells:List AV,(∀c∈cells,Sh (.slice (.int k)) [c] h)->∃su:List (List Int),cells.length=su.length/\RepL (wH h) (su.map (slI false false k)) cells/\∀r∈su,r.length<=9223372036854775807/\∀x∈r,k.min<=x/\x<=k.max:=by
  intro cells
  induction cells with
  | nil=>intro _;exact⟨[],rfl,.nil _,fun x hx=>by cases hx⟩
  | cons c cells ih=>
   intro hc;obtain⟨su,e,e2,e3⟩:=ih (fun c' h'=>hc c' (List.mem_cons_of_mem _ h'));obtain⟨v,xs,e1,r1,r2,r3⟩:=nH (hc c (by simp));cases e1;refine⟨xs::su,by simp[e],.cons r1 e2,fun x hx=>?_⟩;rcases List.mem_cons.1 hx with rfl | hx
   ·exact⟨r2,r3⟩
   ·exact e3 x hx
 obtain⟨su,e1,e2,e3⟩:=this cells h2;have:=h3 _ e2;rw[e1]at this h1;exact⟨v,su,rfl,this,h1,e3⟩
theorem aDI(f o:Bool)(sz n:Nat)(k:IntKind)(xs:List Int):PV.age (.sl f o sz n (xs.map (PV.int k)))= .sl false false sz n (xs.map (PV.int k)):=by
 have e:xs.map (PV.age∘PV.int k)=xs.map (PV.int k):=List.map_congr_left fun x _=>by simp[PV.age]
 simp only[PV.age,gR,List.map_map,e]
theorem CZ(k:IntKind)(xs:List Int):fP (xs.map (PV.int k))=xs.map (PV.int k):=by rw[gR,List.map_map];exact List.map_congr_left fun x _=>by simp[PV.age]
theorem aAV(f o:Bool)(k:IntKind)(su:List (List Int)):fP (su.map (slI f o k))=su.map (slI false false k):=by rw[gR,List.map_map];exact List.map_congr_left fun x _=>aDI f o 1 _ k x
theorem zF(xs:List Bool):fP (xs.map PV.bool)=xs.map PV.bool:=by rw[gR,List.map_map];exact List.map_congr_left fun x _=>by simp[PV.age]
section
variable {tab:FuncId->Option AF}
end
end Go.Am

