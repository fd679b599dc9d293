/- The pure machine: laws. Statement by statement; the present becomes old; results are overwritten, and what goes with it. -/
import Derived.Test.YtbcdfmecpjbeaaaDoorPmR
import Derived.Test.YtbcdfmecpjbeaaaDoorAmArgs
set_option linter.unusedVariables false
set_option linter.unusedSimpArgs false
namespace Go.Am
theorem RepV.eqv {w w':PWd} (h0:w'.n0=w.n0) (hi:∀b o,w.imm b=some o→w'.imm b=some o) (he:∀id e,w.env id=some e→w'.env id=some e) {v:PV} {x:AV} (h:RepV w v x):RepV w' v x:=by
 induction h with
 | junk x=>exact .junk x
 | bool b=>exact .bool b
 | int k n=>exact .int k n
 | str s=>exact .str s
 | nilptr=>exact .nilptr
 | nils=>exact .nils
 | nilmap=>exact .nilmap
 | nilfunc=>exact .nilfunc
 | niliface=>exact .niliface
 | ptr h1 h2 h3=>exact .ptr (he _ _ h1) h2 h3
 | ptrS x q h1 h2=>exact .ptrS x q (he _ _ h1) h2
 | cp h1 h2 h3 ih=>exact .cp (hi _ _ h1) h2 (fun i y z p q=>ih i y z p q)
 | sl h1 h2 h3 h4 h5 h7 h6 ih=>exact .sl (hi _ _ h1) h2 h3 h4 (by rw[h0];exact h5) (by rw[h0];exact h7) (fun i y z p q=>ih i y z p q)
 | slN=>exact .slN
 | ref h1 h2 h3=>exact .ref (he _ _ h1) h2 h3
 | refN h1 h2 h3=>exact .refN (he _ _ h1) h2 h3
 | refS x q h1 h2=>exact .refS x q (he _ _ h1) h2
 | map h1 h2 h3=>exact .map (he _ _ h1) h2 h3
 | mapS x q h1 h2=>exact .mapS x q (he _ _ h1) h2
 | func h1 h2 h3 h4 h5 ih1 ih2=>exact .func h1 h2 h3 (fun i y z p q=>ih1 i y z p q) (fun i y z p q=>ih2 i y z p q)
 | yld h1 h2 h3 h4 h5 ih=>exact .yld (he _ _ h1) h2 h3 h4 (fun i y z p q=>ih i y z p q)
 | yldS x q h1 h2=>exact .yldS x q (he _ _ h1) h2
 | iface h ih=>exact .iface ih
 | agg h1 h2 ih=>exact .agg h1 (fun i y z p q=>ih i y z p q)
 | tuple h1 h2 ih=>exact .tuple h1 (fun i y z p q=>ih i y z p q)
theorem RepL.eqv {w w':PWd} (h0:w'.n0=w.n0) (hi:∀b o,w.imm b=some o→w'.imm b=some o) (he:∀id e,w.env id=some e→w'.env id=some e) {l:List PV} {l':List AV} (h:RepL w l l'):RepL w' l l':=
 ⟨h.len,fun i y z p q=>(h.get i y z p q).eqv h0 hi he⟩
mutual
def PV.age:PV→PV
 | .sl _ _ sz n cs=> .sl false false sz n (ageL cs)
 | .cp cs o=> .cp (ageL cs) o
 | .agg cs=> .agg (ageL cs)
 | .tuple cs=> .tuple (ageL cs)
 | .func fn f c=> .func fn (ageL f) (ageL c)
 | .yld id f=> .yld id (ageL f)
 | .iface t v=> .iface t (PV.age v)
 | .junk=> .junk
 | .bool b=> .bool b
 | .int k n=> .int k n
 | .str s=> .str s
 | .nilptr=> .nilptr
 | .nils=> .nils
 | .nilmap=> .nilmap
 | .nilfunc=> .nilfunc
 | .niliface=> .niliface
 | .ptr id g o=> .ptr id g o
 | .ref id g sz off n=> .ref id g sz off n
 | .map id=> .map id
def ageL:List PV→List PV
 | []=>[]
 | v::l=>PV.age v::ageL l
def PV.swp:PV→PV
 | .sl fl own sz n cs=>match fl,own with
  | false,false=> .sl false false sz n (swpL cs)
  | _,_=> .junk
 | .cp _ _=> .junk
 | .agg cs=> .agg (swpL cs)
 | .tuple cs=> .tuple (swpL cs)
 | .func fn f c=> .func fn (swpL f) (swpL c)
 | .yld id f=> .yld id (swpL f)
 | .iface t v=> .iface t (PV.swp v)
 | .junk=> .junk
 | .bool b=> .bool b
 | .int k n=> .int k n
 | .str s=> .str s
 | .nilptr=> .nilptr
 | .nils=> .nils
 | .nilmap=> .nilmap
 | .nilfunc=> .nilfunc
 | .niliface=> .niliface
 | .ptr id g o=> .ptr id g o
 | .ref id g sz off n=> .ref id g sz off n
 | .map id=> .map id
def swpL:List PV→List PV
 | []=>[]
 | v::l=>PV.swp v::swpL l
end
theorem ageL_map:∀l:List PV,ageL l=l.map PV.age
 | []=>rfl
 | v::l=>by simp[ageL,ageL_map l]
theorem swpL_map:∀l:List PV,swpL l=l.map PV.swp
 | []=>rfl
 | v::l=>by simp[swpL,swpL_map l]
theorem ageL_get {l:List PV} {i:Nat} {y:PV} (h:(ageL l)[i]? =some y):∃z,l[i]? =some z∧y=z.age:=by
 rw[ageL_map,List.getElem?_map]at h
 cases hl:l[i]? with
 | none=>rw[hl]at h;cases h
 | some z=>rw[hl]at h;cases h;exact⟨z,rfl,rfl⟩
theorem swpL_get {l:List PV} {i:Nat} {y:PV} (h:(swpL l)[i]? =some y):∃z,l[i]? =some z∧y=z.swp:=by
 rw[swpL_map,List.getElem?_map]at h
 cases hl:l[i]? with
 | none=>rw[hl]at h;cases h
 | some z=>rw[hl]at h;cases h;exact⟨z,rfl,rfl⟩
theorem RepV.age {w w':PWd} (hb:∀b o,w.imm b=some o→b<w'.n0) (hi:∀b o,w.imm b=some o→w'.imm b=some o) (he:∀id e,w.env id=some e→w'.env id=some e) {v:PV} {x:AV} (h:RepV w v x):RepV w' v.age x:=by
 have up:∀{l:List PV} {l':List AV} {f:Nat→Nat},(∀(i:Nat) (y:PV) (z:AV),l[i]? =some y→l'[f i]? =some z→RepV w' y.age z)→∀(i:Nat) (y:PV) (z:AV),(ageL l)[i]? =some y→l'[f i]? =some z→RepV w' y z:=by
  intro l l' f h i y z p q
  obtain⟨u,h1,rfl⟩:=ageL_get p
  exact h i u z h1 q
 have len:∀l:List PV,(ageL l).length=l.length:=fun l=>by rw[ageL_map];simp
 induction h with
 | junk x=>simp only[PV.age];exact .junk x
 | bool b=>simp only[PV.age];exact .bool b
 | int k n=>simp only[PV.age];exact .int k n
 | str s=>simp only[PV.age];exact .str s
 | nilptr=>simp only[PV.age];exact .nilptr
 | nils=>simp only[PV.age];exact .nils
 | nilmap=>simp only[PV.age];exact .nilmap
 | nilfunc=>simp only[PV.age];exact .nilfunc
 | niliface=>simp only[PV.age];exact .niliface
 | ptr h1 h2 h3=>simp only[PV.age];exact .ptr (he _ _ h1) h2 h3
 | ptrS x q h1 h2=>simp only[PV.age];exact .ptrS x q (he _ _ h1) h2
 | cp h1 h2 h3 ih=>simp only[PV.age];exact .cp (hi _ _ h1) (by rw[len];exact h2) (up ih)
 | sl h1 h2 h3 h4 h5 h7 h6 ih=>simp only[PV.age];exact .sl (hi _ _ h1) (by rw[len];exact h2) (by rw[len];exact h3) (fun q=>by cases q) (fun q=>by cases q) (fun _ _=>hb _ _ h1) (up ih)
 | slN=>simp only[PV.age,ageL];exact .slN
 | ref h1 h2 h3=>simp only[PV.age];exact .ref (he _ _ h1) h2 h3
 | refN h1 h2 h3=>simp only[PV.age];exact .refN (he _ _ h1) h2 h3
 | refS x q h1 h2=>simp only[PV.age];exact .refS x q (he _ _ h1) h2
 | map h1 h2 h3=>simp only[PV.age];exact .map (he _ _ h1) h2 h3
 | mapS x q h1 h2=>simp only[PV.age];exact .mapS x q (he _ _ h1) h2
 | func h1 h2 h3 h4 h5 ih1 ih2=>simp only[PV.age];exact .func h1 (by rw[len];exact h2) (by rw[len];exact h3) (up (f:=id) ih1) (up (f:=id) ih2)
 | yld h1 h2 h3 h4 h5 ih=>simp only[PV.age];exact .yld (he _ _ h1) h2 h3 (by rw[len];exact h4) (up (f:=id) ih)
 | yldS x q h1 h2=>simp only[PV.age];exact .yldS x q (he _ _ h1) h2
 | iface h ih=>simp only[PV.age];exact .iface ih
 | agg h1 h2 ih=>simp only[PV.age];exact .agg (by rw[len];exact h1) (up (f:=id) ih)
 | tuple h1 h2 ih=>simp only[PV.age];exact .tuple (by rw[len];exact h1) (up (f:=id) ih)
theorem RepV.swp {w w':PWd} (h0:w'.n0=w.n0) (hi:∀b o,w.imm b=some o→b<w.n0→w'.imm b=some o) (he:∀id e,w.env id=some e→w'.env id=some e) {v:PV} {x:AV} (h:RepV w v x):RepV w' v.swp x:=by
 have up:∀{l:List PV} {l':List AV} {f:Nat→Nat},(∀(i:Nat) (y:PV) (z:AV),l[i]? =some y→l'[f i]? =some z→RepV w' y.swp z)→∀(i:Nat) (y:PV) (z:AV),(swpL l)[i]? =some y→l'[f i]? =some z→RepV w' y z:=by
  intro l l' f h i y z p q
  obtain⟨u,h1,rfl⟩:=swpL_get p
  exact h i u z h1 q
 have len:∀l:List PV,(swpL l).length=l.length:=fun l=>by rw[swpL_map];simp
 induction h with
 | junk x=>simp only[PV.swp];exact .junk x
 | bool b=>simp only[PV.swp];exact .bool b
 | int k n=>simp only[PV.swp];exact .int k n
 | str s=>simp only[PV.swp];exact .str s
 | nilptr=>simp only[PV.swp];exact .nilptr
 | nils=>simp only[PV.swp];exact .nils
 | nilmap=>simp only[PV.swp];exact .nilmap
 | nilfunc=>simp only[PV.swp];exact .nilfunc
 | niliface=>simp only[PV.swp];exact .niliface
 | ptr h1 h2 h3=>simp only[PV.swp];exact .ptr (he _ _ h1) h2 h3
 | ptrS x q h1 h2=>simp only[PV.swp];exact .ptrS x q (he _ _ h1) h2
 | cp h1 h2 h3 ih=>simp only[PV.swp];exact .junk _
 | @sl fl own sz n cs fl' b ver rw bcs off h1 h2 h3 h4 h5 h7 h6 ih=>
  cases fl<;>cases own<;>simp only[PV.swp]
  ·exact .sl (hi _ _ h1 (h7 rfl rfl)) (by rw[len];exact h2) (by rw[len];exact h3) (fun q=>by cases q) (fun q=>by cases q) (fun _ _=>by rw[h0];exact h7 rfl rfl) (up ih)
  all_goals exact .junk _
 | @slN fl own sz=>cases fl<;>cases own<;>simp only[PV.swp,swpL]<;>first | exact .slN | exact .junk _
 | ref h1 h2 h3=>simp only[PV.swp];exact .ref (he _ _ h1) h2 h3
 | refN h1 h2 h3=>simp only[PV.swp];exact .refN (he _ _ h1) h2 h3
 | refS x q h1 h2=>simp only[PV.swp];exact .refS x q (he _ _ h1) h2
 | map h1 h2 h3=>simp only[PV.swp];exact .map (he _ _ h1) h2 h3
 | mapS x q h1 h2=>simp only[PV.swp];exact .mapS x q (he _ _ h1) h2
 | func h1 h2 h3 h4 h5 ih1 ih2=>simp only[PV.swp];exact .func h1 (by rw[len];exact h2) (by rw[len];exact h3) (up (f:=id) ih1) (up (f:=id) ih2)
 | yld h1 h2 h3 h4 h5 ih=>simp only[PV.swp];exact .yld (he _ _ h1) h2 h3 (by rw[len];exact h4) (up (f:=id) ih)
 | yldS x q h1 h2=>simp only[PV.swp];exact .yldS x q (he _ _ h1) h2
 | iface h ih=>simp only[PV.swp];exact .iface ih
 | agg h1 h2 ih=>simp only[PV.swp];exact .agg (by rw[len];exact h1) (up (f:=id) ih)
 | tuple h1 h2 ih=>simp only[PV.swp];exact .tuple (by rw[len];exact h1) (up (f:=id) ih)
theorem RepL.age {w w':PWd} (hb:∀b o,w.imm b=some o→b<w'.n0) (hi:∀b o,w.imm b=some o→w'.imm b=some o) (he:∀id e,w.env id=some e→w'.env id=some e) {l:List PV} {l':List AV} (h:RepL w l l'):RepL w' (ageL l) l':=
 ⟨by rw[ageL_map];simpa using h.len,fun i y z p q=>by
  obtain⟨u,h1,rfl⟩:=ageL_get p
  exact(h.get i u z h1 q).age hb hi he⟩
theorem RepL.swp {w w':PWd} (h0:w'.n0=w.n0) (hi:∀b o,w.imm b=some o→b<w.n0→w'.imm b=some o) (he:∀id e,w.env id=some e→w'.env id=some e) {l:List PV} {l':List AV} (h:RepL w l l'):RepL w' (swpL l) l':=
 ⟨by rw[swpL_map];simpa using h.len,fun i y z p q=>by
  obtain⟨u,h1,rfl⟩:=swpL_get p
  exact(h.get i u z h1 q).swp h0 hi he⟩
def PObj.mapC (f:List PV→List PV):PObj→PObj
 | .cells g ver cs=> .cells g ver (f cs)
 | _=> .gone
theorem mapC_get {f:List PV→List PV} {M:Mem} {id:Nat} {o:PObj} (h:(M.map (PObj.mapC f))[id]? =some o):∃o0,M[id]? =some o0∧o=o0.mapC f:=by
 rw[List.getElem?_map]at h
 cases hl:M[id]? with
 | none=>rw[hl]at h;cases h
 | some z=>rw[hl]at h;cases h;exact⟨z,rfl,rfl⟩
theorem mapC_live {f:List PV→List PV} {w w':PWd} {M:Mem} (he:∀id,w'.env id=w.env id) {id x:Nat} (h:LiveAt w' (M.map (PObj.mapC f)) id x):LiveAt w M id x:=by
 obtain⟨o,e,h1,h2,h3,h4⟩:=h
 obtain⟨o0,h5,rfl⟩:=mapC_get h1
 rw[he]at h3
 refine⟨o0,e,h5,?_,h3,h4⟩
 rintro rfl
 exact h2 rfl
section
variable (tab:FuncId→Option AF)
def LfT (Q:List PV→Mem→Prop) (a':List AV) (h':H):Prop:=∃w a M,PSt w h' M∧RepL w a a'∧Q a M
def Top (c:AC) (a:List PV) (M:Mem) (Qn Qr:List PV→Mem→Prop):Prop:=
 ∀(w:PWd) (h:H) (a':List AV),PSt w h M→RepL w a a'→W (lim tab) c a' h (LfT Qn) (LfT Qr) (fun _ _ _=>False)
variable {tab}
def wH (h:H):PWd:=⟨h.next,0,fun _=>none,h.get⟩
theorem wH_st (h:H):PSt (wH h) h []:=
 ⟨fun b o hb=>hb,(fun id e he=>by cases he),(fun id e b he=>by cases he),(fun id o ho=>by simp at ho),fun i j x ⟨_,_,h1,_⟩=>by simp at h1,fun i x ⟨_,_,h1,_⟩=>by simp at h1,Nat.le_refl _⟩
def PKLaw (res:List ARes) (a:List PV) (M:Mem):Prop:=PKRes res a M fun vs=>ppack vs= .bool true
theorem law_of_top {g:FuncId} {F:AFn} (hg:tab g=some (.fn F)) {pargs:List PV} {args':List AV} {h:H} (ha:RepL (wH h) pargs args') (ht:Top tab F.body (ppad pargs F.ntmps) [] (PKLaw F.results) (PKLaw F.results)):
  C (lim tab) g args' h fun v _=>v= .bool true:=by
 rw[C_fn hg]
 have fin:∀a1 h1,LfT (PKLaw F.results) a1 h1→KRes F.results (fun v _=>v= .bool true) a1 h1:=by
  rintro a1 h1 ⟨w1,b,N,s1,r1,q⟩
  obtain⟨vs,vs',e1,e2,e3⟩:=res_sound s1 r1 F.results q
  rw[KRes_eq]
  have:=rep_pack e2
  rw[e3]at this
  exact⟨vs',e1,rep_bool this⟩
 exact W_mono (ht (wH h) h _ (wH_st h) (rep_pad ha _)) fin fin (fun i a1 h1 q=>q.elim)
end
theorem sh_sl {E:Ty} (hE:E.size=1) {cs:List AV} {h:H} (hs:Sh (.slice E) cs h):∃v cells,cs=[v]∧cells.length≤9223372036854775807∧(∀c∈cells,Sh E [c] h)∧
  ∀(pcs:List PV),RepL (wH h) pcs cells→RepV (wH h) (.sl false false 1 cells.length pcs) v:=by
 rcases hs with rfl | ⟨b,n,cells,rfl,h2,h3,h4,h5⟩
 ·refine⟨.nilslice,[],rfl,by simp,(fun c hc=>by cases hc),fun pcs hp=>?_⟩
  have:pcs=[]:=List.length_eq_zero_iff.1 (by simpa using hp.len)
  subst this
  exact .slN
 ·rw[hE,Nat.mul_one]at h4
  subst h4
  rw[hE]
  refine⟨_,cells,rfl,by simpa [maxLen] using h2,fun c hc=>?_,fun pcs hp=>?_⟩
  ·obtain⟨i,hi,rfl⟩:=List.getElem_of_mem hc
   have:=h5 i hi
   rw[hE,Nat.mul_one,List.drop_eq_getElem_cons hi]at this
   exact this
  ·exact .sl (show(wH h).imm b=_ from h3) (by have:=hp.len;omega) (by have:=hp.len;omega) (fun q=>by cases q) (fun q=>by cases q) (fun _ _=>H.lt_of_get h3) (fun i y z p q=>hp.get i y z p (by simpa using q))
theorem sh_intsP {k:IntKind} {cs:List AV} {h:H} (hs:Sh (.slice (.int k)) cs h):∃v,∃xs:List Int,cs=[v]∧RepV (wH h) (slI false false k xs) v∧xs.length≤9223372036854775807∧∀x∈xs,k.min≤x∧x≤k.max:=by
 obtain⟨v,cells,rfl,h1,h2,h3⟩:=sh_sl rfl hs
 have:∀cells:List AV,(∀c∈cells,Sh (.int k) [c] h)→∃xs:List Int,cells=xs.map (AV.int k)∧∀x∈xs,k.min≤x∧x≤k.max:=by
  intro cells
  induction cells with
  | nil=>intro _;exact⟨[],rfl,fun x hx=>by cases hx⟩
  | cons c cells ih=>
   intro hc
   obtain⟨xs,e,e2⟩:=ih (fun c' h'=>hc c' (List.mem_cons_of_mem _ h'))
   obtain⟨n,e1,r1,r2⟩:=hc c (by simp)
   cases e1
   refine⟨n::xs,by simp[e],fun x hx=>?_⟩
   rcases List.mem_cons.1 hx with rfl | hx
   ·exact⟨r1,r2⟩
   ·exact e2 x hx
 obtain⟨xs,rfl,hr⟩:=this cells h2
 refine⟨v,xs,rfl,?_,by simpa using h1,hr⟩
 have:=h3 (xs.map (PV.int k)) ⟨by simp,fun i y z p q=>by
  rw[List.getElem?_map]at p q
  cases hx:xs[i]? with
  | none=>rw[hx]at p;cases p
  | some x=>rw[hx]at p q;cases p;cases q;exact .int k x⟩
 simpa using this
theorem ageL_ints (k:IntKind) (xs:List Int):ageL (xs.map (PV.int k))=xs.map (PV.int k):=by
 rw[ageL_map,List.map_map];exact List.map_congr_left fun x _=>by simp[PV.age]
theorem ageL_bools (xs:List Bool):ageL (xs.map PV.bool)=xs.map PV.bool:=by
 rw[ageL_map,List.map_map];exact List.map_congr_left fun x _=>by simp[PV.age]
attribute [irreducible] PKLaw
theorem pidx_slice (fl:Bool) (b o n:Nat) (kd:IntKind) (j:Int) (K:AV→Prop):PIdx 1 (.slice fl 1 b o n) (.int kd j) K=((True∧0≤j∧j<n)∧K (.ptr b (o+j.toNat*1))):=by
 unfold PIdx
 rw[q34,PInt_int]
 simp
structure Kp (w:PWd) (h h':H):Prop where
 next:h.next≤h'.next
 keep:∀x,x<h.next→x<w.n0∨w.imm x=none→h'.get x=h.get x
theorem Kp.refl (w:PWd) (h:H):Kp w h h:=⟨Nat.le_refl _,fun _ _ _=>rfl⟩
theorem Kp.trans {w:PWd} {a b c:H} (p:Kp w a b) (q:Kp w b c):Kp w a c:=⟨Nat.le_trans p.next q.next,fun x hx ho=>by rw[q.keep x (Nat.lt_of_lt_of_le hx p.next) ho,p.keep x hx ho]⟩
theorem Kp.alloc (w:PWd) (h:H) (o:AObj):Kp w h (h.alloc o):=⟨by simp,fun x hx _=>by rw[H.get_alloc,if_neg (by omega)]⟩
theorem ov_sl {w:PWd} {f:Bool} {cs:List PV} {n:Nat} {v:AV} (hr:RepV w (.sl f true 1 n cs) v):(v= .nilslice∧n=0)∨∃fl b off ver bcs,v= .slice fl 1 b off n∧w.imm b=some (.cells ver true bcs)∧w.n0≤b∧off+cs.length≤bcs.length∧∀(i:Nat),i<cs.length→∃y z,cs[i]? =some y∧bcs[off+i]? =some z∧RepV w y z:=by
 cases hr with
 | slN=>exact .inl ⟨rfl,rfl⟩
 | sl h1 h2 h3 h4 h5 h7 h6=>
  obtain⟨h5',rfl⟩:=h5 rfl
  refine .inr ⟨_,_,_,_,_,rfl,h1,h5',h2,fun i hi=>?_⟩
  have hi2:_+i<_:=Nat.lt_of_lt_of_le (Nat.add_lt_add_left hi _) h2
  exact⟨cs[i],_,List.getElem?_eq_getElem hi,List.getElem?_eq_getElem hi2,h6 i _ _ (List.getElem?_eq_getElem hi) (List.getElem?_eq_getElem hi2)⟩
section
variable {tab:FuncId→Option AF}
end
end Go.Am

