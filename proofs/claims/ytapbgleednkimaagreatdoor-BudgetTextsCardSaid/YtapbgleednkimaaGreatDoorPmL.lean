/- The pure machine: laws. Statement by statement; the present becomes old; results are overwritten, and what goes with it. -/
import Derived.Test.YtapbgleednkimaaGreatDoorPmR
import Derived.Test.YtapbgleednkimaaGreatDoorAmEnd2
set_option linter.unusedVariables false
set_option linter.unusedSimpArgs false
namespace Go.Am
theorem RepV.eqv {w w':PWd} (h0:w'.n0=w.n0) (hi:∀b o,w.imm b=some o->w'.imm b=some o) (he:∀id e,w.env id=some e->w'.env id=some e) {v:PV} {x:AV} (h:RepV w v x):RepV w' v x:=by
 induction h with
 | junk x=>exact .junk x
 | bool b=>exact .bool b
 | int k n=>exact .int k n
 | str s=>exact .str s
 | nilptr=>exact .nilptr
 | nils=>exact .nils
 | nilmap=>exact .nilmap
 | nilfunc=>exact .nilfunc
 | niliface=>exact .niliface
 | ptr h1 h2 h3=>exact .ptr (he _ _ h1) h2 h3
 | ptrS x q h1 h2=>exact .ptrS x q (he _ _ h1) h2
 | cp h1 h2 h3 ih=>exact .cp (hi _ _ h1) h2 (fun i y z p q=>ih i y z p q)
 | sl h1 h2 h3 h4 h5 h7 h6 ih=>exact .sl (hi _ _ h1) h2 h3 h4 (by rw[h0];exact h5) (by rw[h0];exact h7) (fun i y z p q=>ih i y z p q)
 | slN=>exact .slN
 | ref h1 h2 h3=>exact .ref (he _ _ h1) h2 h3
 | refN h1 h2 h3=>exact .refN (he _ _ h1) h2 h3
 | refS x q h1 h2=>exact .refS x q (he _ _ h1) h2
 | map h1 h2 h3=>exact .map (he _ _ h1) h2 h3
 | mapS x q h1 h2=>exact .mapS x q (he _ _ h1) h2
 | func h1 h2 h3 h4 h5 ih1 ih2=>exact .func h1 h2 h3 (fun i y z p q=>ih1 i y z p q) (fun i y z p q=>ih2 i y z p q)
 | yld h1 h2 h3 h4 h5 ih=>exact .yld (he _ _ h1) h2 h3 h4 (fun i y z p q=>ih i y z p q)
 | yldS x q h1 h2=>exact .yldS x q (he _ _ h1) h2
 | iface h ih=>exact .iface ih
 | agg h1 h2 ih=>exact .agg h1 (fun i y z p q=>ih i y z p q)
 | tuple h1 h2 ih=>exact .tuple h1 (fun i y z p q=>ih i y z p q)
theorem RepL.eqv {w w':PWd} (h0:w'.n0=w.n0) (hi:∀b o,w.imm b=some o->w'.imm b=some o) (he:∀id e,w.env id=some e->w'.env id=some e) {l:List PV} {l':List AV} (h:RepL w l l'):RepL w' l l':=
 ⟨h.len,fun i y z p q=>(h.get i y z p q).eqv h0 hi he⟩
mutual
def PV.age:PV->PV
 | .sl _ _ sz n cs=> .sl false false sz n (iP cs)
 | .cp cs o=> .cp (iP cs) o
 | .agg cs=> .agg (iP cs)
 | .tuple cs=> .tuple (iP cs)
 | .func fn f c=> .func fn (iP f) (iP c)
 | .yld id f=> .yld id (iP f)
 | .iface t v=> .iface t (PV.age v)
 | .junk=> .junk
 | .bool b=> .bool b
 | .int k n=> .int k n
 | .str s=> .str s
 | .nilptr=> .nilptr
 | .nils=> .nils
 | .nilmap=> .nilmap
 | .nilfunc=> .nilfunc
 | .niliface=> .niliface
 | .ptr id g o=> .ptr id g o
 | .ref id g sz off n=> .ref id g sz off n
 | .map id=> .map id
def iP:List PV->List PV
 | []=>[]
 | v::l=>PV.age v::iP l
def PV.swp:PV->PV
 | .sl fl own sz n cs=>match fl,own with
  | false,false=> .sl false false sz n (qT cs)
  | _,_=> .junk
 | .cp _ _=> .junk
 | .agg cs=> .agg (qT cs)
 | .tuple cs=> .tuple (qT cs)
 | .func fn f c=> .func fn (qT f) (qT c)
 | .yld id f=> .yld id (qT f)
 | .iface t v=> .iface t (PV.swp v)
 | .junk=> .junk
 | .bool b=> .bool b
 | .int k n=> .int k n
 | .str s=> .str s
 | .nilptr=> .nilptr
 | .nils=> .nils
 | .nilmap=> .nilmap
 | .nilfunc=> .nilfunc
 | .niliface=> .niliface
 | .ptr id g o=> .ptr id g o
 | .ref id g sz off n=> .ref id g sz off n
 | .map id=> .map id
def qT:List PV->List PV
 | []=>[]
 | v::l=>PV.swp v::qT l
end
theorem jK:∀l:List PV,iP l=l.map PV.age
 | []=>rfl
 | v::l=>by simp[iP,jK l]
theorem qS:∀l:List PV,qT l=l.map PV.swp
 | []=>rfl
 | v::l=>by simp[qT,qS l]
theorem H2 {l:List PV} {i:Nat} {y:PV} (h:(iP l)[i]? =some y):∃z,l[i]? =some z/\y=z.age:=by
 rw[jK,List.getElem?_map]at h
 cases hl:l[i]? with
 | none=>rw[hl]at h;cases h
 | some z=>rw[hl]at h;cases h;exact⟨z,rfl,rfl⟩
theorem E4 {l:List PV} {i:Nat} {y:PV} (h:(qT l)[i]? =some y):∃z,l[i]? =some z/\y=z.swp:=by
 rw[qS,List.getElem?_map]at h
 cases hl:l[i]? with
 | none=>rw[hl]at h;cases h
 | some z=>rw[hl]at h;cases h;exact⟨z,rfl,rfl⟩
theorem RepV.age {w w':PWd} (hb:∀b o,w.imm b=some o->b<w'.n0) (hi:∀b o,w.imm b=some o->w'.imm b=some o) (he:∀id e,w.env id=some e->w'.env id=some e) {v:PV} {x:AV} (h:RepV w v x):RepV w' v.age x:=by
 have up:∀{l:List PV} {l':List AV} {f:Nat->Nat},(∀(i:Nat) (y:PV) (z:AV),l[i]? =some y->l'[f i]? =some z->RepV w' y.age z)->∀(i:Nat) (y:PV) (z:AV),(iP l)[i]? =some y->l'[f i]? =some z->RepV w' y z:=by
  intro l l' f h i y z p q
  obtain⟨u,h1,rfl⟩:=H2 p
  exact h i u z h1 q
 have len:∀l:List PV,(iP l).length=l.length:=fun l=>by rw[jK];simp
 induction h with
 | junk x=>simp only[PV.age];exact .junk x
 | bool b=>simp only[PV.age];exact .bool b
 | int k n=>simp only[PV.age];exact .int k n
 | str s=>simp only[PV.age];exact .str s
 | nilptr=>simp only[PV.age];exact .nilptr
 | nils=>simp only[PV.age];exact .nils
 | nilmap=>simp only[PV.age];exact .nilmap
 | nilfunc=>simp only[PV.age];exact .nilfunc
 | niliface=>simp only[PV.age];exact .niliface
 | ptr h1 h2 h3=>simp only[PV.age];exact .ptr (he _ _ h1) h2 h3
 | ptrS x q h1 h2=>simp only[PV.age];exact .ptrS x q (he _ _ h1) h2
 | cp h1 h2 h3 ih=>simp only[PV.age];exact .cp (hi _ _ h1) (by rw[len];exact h2) (up ih)
 | sl h1 h2 h3 h4 h5 h7 h6 ih=>simp only[PV.age];exact .sl (hi _ _ h1) (by rw[len];exact h2) (by rw[len];exact h3) (fun q=>by cases q) (fun q=>by cases q) (fun _ _=>hb _ _ h1) (up ih)
 | slN=>simp only[PV.age,iP];exact .slN
 | ref h1 h2 h3=>simp only[PV.age];exact .ref (he _ _ h1) h2 h3
 | refN h1 h2 h3=>simp only[PV.age];exact .refN (he _ _ h1) h2 h3
 | refS x q h1 h2=>simp only[PV.age];exact .refS x q (he _ _ h1) h2
 | map h1 h2 h3=>simp only[PV.age];exact .map (he _ _ h1) h2 h3
 | mapS x q h1 h2=>simp only[PV.age];exact .mapS x q (he _ _ h1) h2
 | func h1 h2 h3 h4 h5 ih1 ih2=>simp only[PV.age];exact .func h1 (by rw[len];exact h2) (by rw[len];exact h3) (up (f:=id) ih1) (up (f:=id) ih2)
 | yld h1 h2 h3 h4 h5 ih=>simp only[PV.age];exact .yld (he _ _ h1) h2 h3 (by rw[len];exact h4) (up (f:=id) ih)
 | yldS x q h1 h2=>simp only[PV.age];exact .yldS x q (he _ _ h1) h2
 | iface h ih=>simp only[PV.age];exact .iface ih
 | agg h1 h2 ih=>simp only[PV.age];exact .agg (by rw[len];exact h1) (up (f:=id) ih)
 | tuple h1 h2 ih=>simp only[PV.age];exact .tuple (by rw[len];exact h1) (up (f:=id) ih)
theorem RepV.swp {w w':PWd} (h0:w'.n0=w.n0) (hi:∀b o,w.imm b=some o->b<w.n0->w'.imm b=some o) (he:∀id e,w.env id=some e->w'.env id=some e) {v:PV} {x:AV} (h:RepV w v x):RepV w' v.swp x:=by
 have up:∀{l:List PV} {l':List AV} {f:Nat->Nat},(∀(i:Nat) (y:PV) (z:AV),l[i]? =some y->l'[f i]? =some z->RepV w' y.swp z)->∀(i:Nat) (y:PV) (z:AV),(qT l)[i]? =some y->l'[f i]? =some z->RepV w' y z:=by
  intro l l' f h i y z p q
  obtain⟨u,h1,rfl⟩:=E4 p
  exact h i u z h1 q
 have len:∀l:List PV,(qT l).length=l.length:=fun l=>by rw[qS];simp
 induction h with
 | junk x=>simp only[PV.swp];exact .junk x
 | bool b=>simp only[PV.swp];exact .bool b
 | int k n=>simp only[PV.swp];exact .int k n
 | str s=>simp only[PV.swp];exact .str s
 | nilptr=>simp only[PV.swp];exact .nilptr
 | nils=>simp only[PV.swp];exact .nils
 | nilmap=>simp only[PV.swp];exact .nilmap
 | nilfunc=>simp only[PV.swp];exact .nilfunc
 | niliface=>simp only[PV.swp];exact .niliface
 | ptr h1 h2 h3=>simp only[PV.swp];exact .ptr (he _ _ h1) h2 h3
 | ptrS x q h1 h2=>simp only[PV.swp];exact .ptrS x q (he _ _ h1) h2
 | cp h1 h2 h3 ih=>simp only[PV.swp];exact .junk _
 | @sl fl own sz n cs fl' b ver rw bcs off h1 h2 h3 h4 h5 h7 h6 ih=>
  cases fl<;>cases own<;>simp only[PV.swp]
  ·exact .sl (hi _ _ h1 (h7 rfl rfl)) (by rw[len];exact h2) (by rw[len];exact h3) (fun q=>by cases q) (fun q=>by cases q) (fun _ _=>by rw[h0];exact h7 rfl rfl) (up ih)
  all_goals exact .junk _
 | @slN fl own sz=>cases fl<;>cases own<;>simp only[PV.swp,qT]<;>first | exact .slN | exact .junk _
 | ref h1 h2 h3=>simp only[PV.swp];exact .ref (he _ _ h1) h2 h3
 | refN h1 h2 h3=>simp only[PV.swp];exact .refN (he _ _ h1) h2 h3
 | refS x q h1 h2=>simp only[PV.swp];exact .refS x q (he _ _ h1) h2
 | map h1 h2 h3=>simp only[PV.swp];exact .map (he _ _ h1) h2 h3
 | mapS x q h1 h2=>simp only[PV.swp];exact .mapS x q (he _ _ h1) h2
 | func h1 h2 h3 h4 h5 ih1 ih2=>simp only[PV.swp];exact .func h1 (by rw[len];exact h2) (by rw[len];exact h3) (up (f:=id) ih1) (up (f:=id) ih2)
 | yld h1 h2 h3 h4 h5 ih=>simp only[PV.swp];exact .yld (he _ _ h1) h2 h3 (by rw[len];exact h4) (up (f:=id) ih)
 | yldS x q h1 h2=>simp only[PV.swp];exact .yldS x q (he _ _ h1) h2
 | iface h ih=>simp only[PV.swp];exact .iface ih
 | agg h1 h2 ih=>simp only[PV.swp];exact .agg (by rw[len];exact h1) (up (f:=id) ih)
 | tuple h1 h2 ih=>simp only[PV.swp];exact .tuple (by rw[len];exact h1) (up (f:=id) ih)
theorem RepL.age {w w':PWd} (hb:∀b o,w.imm b=some o->b<w'.n0) (hi:∀b o,w.imm b=some o->w'.imm b=some o) (he:∀id e,w.env id=some e->w'.env id=some e) {l:List PV} {l':List AV} (h:RepL w l l'):RepL w' (iP l) l':=
 ⟨by rw[jK];simpa using h.len,fun i y z p q=>by
  obtain⟨u,h1,rfl⟩:=H2 p
  exact(h.get i u z h1 q).age hb hi he⟩
theorem RepL.swp {w w':PWd} (h0:w'.n0=w.n0) (hi:∀b o,w.imm b=some o->b<w.n0->w'.imm b=some o) (he:∀id e,w.env id=some e->w'.env id=some e) {l:List PV} {l':List AV} (h:RepL w l l'):RepL w' (qT l) l':=
 ⟨by rw[qS];simpa using h.len,fun i y z p q=>by
  obtain⟨u,h1,rfl⟩:=E4 p
  exact(h.get i u z h1 q).swp h0 hi he⟩
def PObj.mapC (f:List PV->List PV):PObj->PObj
 | .cells g ver cs=> .cells g ver (f cs)
 | _=> .gone
section
variable (tab:FuncId->Option AF)
variable {tab}
def wH (h:H):PWd:=⟨h.next,0,fun _=>none,h.get⟩
theorem aAu (h:H):PSt (wH h) h []:=
 ⟨fun b o hb=>hb,(fun id e he=>by cases he),(fun id e b he=>by cases he),(fun id o ho=>by simp at ho),fun i j x ⟨_,_,h1,_⟩=>by simp at h1,fun i x ⟨_,_,h1,_⟩=>by simp at h1,Nat.le_refl _⟩
theorem J6 {g:FuncId} {pargs:List PV} {args':List AV} {h:H} (ha:RepL (wH h) pargs args') (hc:SemC tab g pargs [] fun r _=>r= .bool true):C (lim tab) g args' h fun v _=>v= .bool true:=
 jV (hc (wH h) h args' (Nat.le_refl _) (aAu h) ha) fun v h' ⟨w',r,M',_,_,p3,p4⟩=>by subst p4;exact j6 p3
end
theorem ZZ (f o:Bool) (sz n:Nat) (k:IntKind) (xs:List Int):PV.age (.sl f o sz n (xs.map (PV.int k)))= .sl false false sz n (xs.map (PV.int k)):=by
 have e:xs.map (PV.age∘PV.int k)=xs.map (PV.int k):=List.map_congr_left fun x _=>by simp[PV.age]
 simp only[PV.age,jK,List.map_map,e]
theorem CG (k:IntKind) (xs:List Int):iP (xs.map (PV.int k))=xs.map (PV.int k):=by
 rw[jK,List.map_map];exact List.map_congr_left fun x _=>by simp[PV.age]
theorem V0 (f o:Bool) (k:IntKind) (su:List (List Int)):iP (su.map (slI f o k))=su.map (slI false false k):=by
 rw[jK,List.map_map];exact List.map_congr_left fun x _=>ZZ f o 1 _ k x
theorem yY (xs:List Bool):iP (xs.map PV.bool)=xs.map PV.bool:=by
 rw[jK,List.map_map];exact List.map_congr_left fun x _=>by simp[PV.age]
section
variable {tab:FuncId->Option AF}
end
end Go.Am

