/- Contracts: the successors of a set of states (nfa.after), and what goes with it. -/
import Derived.Test.YtapbgleednkimaaGreatDoorBudgetFinishesG0
import Derived.Test.YtapbgleednkimaaGreatDoorPmC
set_option linter.unusedVariables false
set_option linter.unusedSimpArgs false
set_option maxRecDepth 10000
namespace Go.Am.Ar
open Go.Am.PV renaming junk->Zj
open Go.Am renaming pchk->P1,pold->P2,PKNo->P3,ppack->P4,PObj.under->P5,pput->P6,ptset->P7,ptget->P8,pev->P9,ofAV->P10,ofAV1->P11,ppad->P12,pfill->P13,bW->P14,AO.effect->P15
open List renaming replicate->L1
def kQ(es:List Eg)(x:Nat):List Eg:=es.filter fun e=>MR e.ps e.ng x
def aGx(es:List Eg)(s:Wd)(x:Nat)(o:Wd):Prop:=o.length<=64/\∀k:Nat,bit o k=true↔∃e∈kQ es x,bit s e.fr.toNat=true/\e.to=k
theorem JJ{a:Wd}{k:Nat}(ha:a.length<=64)(hk:k<4096):(mV a k).length<=64/\∀j,bit (mV a k) j=(bit a j||decide (j=k)):=by have:=D8 [k] a ha (fun x hx=>by simp at hx;subst hx;exact hk);refine⟨this.1,fun j=>?_⟩;have h:=this.2 j;simpa using h
section
variable {tab:FuncId->Option AF} (T:HasA tab)
include T
theorem xW{M:Mem}{K:PV->Mem->Prop}{f1 o1 f2 o2 f3 o3:Bool}{N:NF}{x:Nat}(hk:K (.func (.func 213) [] [.cp (nfC f1 o1 f2 o2 f3 o3 N) 0,.cp [p8 x] 0]) M):
  SemC tab 180 [.agg (nfC f1 o1 f2 o2 f3 o3 N),p8 x] M K:=by
 refine bM T.h180 (by simp only[PP,simprocAttr,bD]) ?_;simp only[af180];refine aB (aA ?_);simp only[PP,simprocAttr];refine bB (GStep.freezeP (b:=(.junk:: .junk:: .cp (nfC f1 o1 f2 o2 f3 o3 N) 0:: .ptr 1 0 0:: .junk:: .junk::[])) 0 (Nat.zero_le _) rfl (by simp only[kK,kL,List.cons_append,List.nil_append,cF,bU,bT,cE]) rfl) ?_;refine bB (GStep.freezeP (b:=(.junk:: .junk:: .cp (nfC f1 o1 f2 o2 f3 o3 N) 0:: .cp [p8 x] 0:: .junk:: .junk::[])) 1 (Nat.zero_le _) rfl (by simp only[kK,kL,List.cons_append,List.nil_append,cF,bU,bT,cE]) rfl) ?_;refine aA ?_;have e:∀N':Mem,fG 0 N' (.func (.func 213) [] [.cp (nfC f1 o1 f2 o2 f3 o3 N) 0,.cp [p8 x] 0])=some (.func (.func 213) [] [.cp (nfC f1 o1 f2 o2 f3 o3 N) 0,.cp [p8 x] 0]):=fun N'=>nN (M:=N') (by simp only[PP,simprocAttr,PV.under,dB]);simp only[PP,simprocAttr,e];exact hk
set_option maxHeartbeats 1000000 in
theorem H2{M:Mem}{K:PV->Mem->Prop}{L:Nat}{f1 o1 f2 o2 f3 o3:Bool}{N:NF}{x:Nat}(hx:x<256)(he:N.es.length<1000000000000)(B:∀e∈N.es,(0<=e.ps/\e.ps<=255)/\(0<=e.ng/\e.ng<=255))(J:Nat->Mem->Prop)(h0:J 0 M)(hg:∀k G o,J k G->J k (G++[o]))
  (hl:∀k G,J k G->∃ver r,G[L]? =some (.loop ver r))
  (hy:∀k G e,J k G->(kQ N.es x)[k]? =some e->∀K':PV->Mem->Prop,(∀G',J (k+1) G'->K' (.bool true) G')->JR tab L [.agg (egC e)] G K')
  (hk:∀G,J (kQ N.es x).length G->K (.tuple []) G):
  SemC tab 213 [.yld L [],.cp (nfC f1 o1 f2 o2 f3 o3 N) 0,.cp [p8 x] 0] M K:=by
 refine aT T.h213 ?_;simp only[af213,PP,simprocAttr];refine gU (fun(i:Nat) (G:Mem)=>i<=N.es.length/\J (kQ (N.es.take i) x).length G) (fun i G=>(.yld L []:: .junk:: .cp [p8 x] 0::zj 4++slE f3 o3 N.es::p64 N.es.length::p64 i::zj 17)) (fun _ G=>G) (fun i _=>N.es.length-i) 0 M ⟨by omega,h0⟩ (by simp only[PW]) rfl ?_;intro i G ⟨hle,hJ⟩ ih;refine aM (by kernel_rfl) ?_;simp only[PP,simprocAttr];refine QIf.intro (fun c=>?_) (fun c=>?_);rotate_left
 ·have hi:i=N.es.length:=by omega
  subst hi;rw[List.take_of_length_le (Nat.le_refl _)]at hJ;simp only[PP,simprocAttr,c];exact hk G hJ
 have hi':i<N.es.length:=by omega
 obtain⟨e,ge⟩:=aO hi';have hw:=aH (k:=i) (by show _<1000000000000;omega);have i0:(0:Int)<=i:=by omega
 have h4:=xG ge;have hl4:i*4+4<=(egL N.es).length:=by rw[iH];exact aEC ge
 obtain⟨b1,b2⟩:=B e (List.mem_of_getElem? ge);have htk:kQ (N.es.take (i+1)) x=kQ (N.es.take i) x++if MR e.ps e.ng x=true then [e]else []:=by unfold kQ;rw[List.take_add_one,ge,List.filter_append];congr 1;by_cases q:MR e.ps e.ng x=true<;>simp[q]
 simp only[PP,simprocAttr,c,i0,h4,hl4,List.append_assoc,gk,gk0,sk,sk0];refine aHa T b1 b2 hx ?_
 cases q:MR e.ps e.ng x with
 | false=>rw[q]at htk;simp only[PP,simprocAttr,hw];refine bA (ih (i+1) (G++[.cells 0 1 (egC e)]) ⟨by omega,?_⟩ (by omega)) (by simp only[PW]) rfl;rw[htk];simp;exact hg _ _ _ hJ
 | true=>
  rw[q]at htk;have hat:(kQ N.es x)[(kQ (N.es.take i) x).length]? =some e:=by
   have:kQ N.es x=kQ (N.es.take (i+1)) x++kQ (N.es.drop (i+1)) x:=by unfold kQ;rw[<-List.filter_append,List.take_append_drop]
   rw[this,htk,List.append_assoc,List.getElem?_append_right (Nat.le_refl _),Nat.sub_self];simp
  simp only[PP,simprocAttr,List.append_assoc,gk,gk0,sk,sk0,zN];refine⟨hl _ _ (hg _ _ _ hJ),?_⟩;refine hy _ _ e (hg _ _ _ hJ) hat _ fun G' hJ'=>?_;simp only[PP,simprocAttr,hw];refine aG (ih (i+1) G' ⟨by omega,?_⟩ (by omega)) (by simp only[PW]);rw[htk];simpa using hJ'
end
section
variable {tab:FuncId->Option AF} (T:HasA tab)
include T
set_option maxHeartbeats 1000000 in
theorem aHq{M:Mem}{K:PV->Mem->Prop}{f1 o1 f2 o2 f3 o3 f4 o4:Bool}{N:NF}{s:Wd}{x:Nat}(C:NOk N)(B:BnN N)(hs:s.length<=64)(hx:x<256)(hk:∀o,aGx N.es s x o->K (slW false true o) M):
  SemC tab 144 [.agg (nfC f1 o1 f2 o2 f3 o3 N),slW f4 o4 s,p8 x] M K:=by
 have n64:=C.n64;refine bM T.h144 (by simp only[PP,simprocAttr,bD]) ?_;simp only[af144];refine aB (aA ?_);simp only[PP,simprocAttr];refine bB (GStep.freezeP (b:=(.junk:: .junk::p8 x:: .cp (nfC f1 o1 f2 o2 f3 o3 N) 0:: .ptr 1 0 0:: .junk:: .ptr 2 0 0::zj 14)) 0 (Nat.zero_le _) rfl (by simp only[kK,kL,List.cons_append,List.nil_append,cF,bU,bT,cE]) rfl) ?_;refine bB (GStep.freezeP (b:=(.junk:: .junk::p8 x:: .cp (nfC f1 o1 f2 o2 f3 o3 N) 0:: .cp [slW f4 o4 s] 0:: .junk:: .ptr 2 0 0::zj 14)) 1 (Nat.zero_le _) rfl (by simp only[kK,kL,List.cons_append,List.nil_append,cF,bU,bT,cE]) rfl) ?_;refine bB (GStep.wkC (v':=slW false true []) 2 0 rfl (fun v h=>by cases h;exact PvWk.nils _ _ _) rfl) ?_;refine aA ?_;simp only[PP,simprocAttr];refine xW T ?_;simp only[PP,simprocAttr];refine aG (b:=(zj 4++ .cp [slW f4 o4 s] 0:: .junk:: .ptr 2 0 0::zj 3++ .func (.func 213) [] [.cp (nfC f1 o1 f2 o2 f3 o3 N) 0,.cp [p8 x] 0]::zj 10)) ?_ (by simp only[PW]);refine f5 rfl (fun lp q1 q2 q3 q4 q5 q6=>?_);simp only[PP,simprocAttr];refine H2 T (L:=3) hx B.e B.b (fun k G=>∃ver v o Gs,G=[.gone,.gone,.cells 0 v [slW false true o],.loop ver lp]++Gs/\o.length<=64/\∀j:Nat,bit o j=true↔∃e∈(kQ N.es x).take k,bit s e.fr.toNat=true/\e.to=j)
  ⟨0,0,[],[],rfl,by simp,fun j=>by simp[bit,wAt]⟩ ?_ ?_ ?_ ?_
 ·rintro k G o ⟨ver,v,o',Gs,rfl,h⟩;exact⟨ver,v,o',Gs++[o],by simp only[List.append_assoc],h⟩
 ·rintro k G ⟨ver,v,o',Gs,rfl,h⟩;exact⟨ver,lp,rfl⟩
 ·rintro k G e ⟨ver,v,o,Gs,rfl,ho,hb⟩ hat K' hK';refine lR (ver:=ver) (r:=lp) rfl (by rw[q4];rfl) ?_;rw[q3,q4,q5];refine aA ?_;simp only[gF,PP,simprocAttr,List.append_assoc,gk,gk0,sk,sk0];have hlp:∀B,lp.body=B->(⟨.ready,none,lp.tmps,lp.params,lp.assign,B⟩:PLoop)=lp:=fun B hB=>by cases lp;simp_all
  refine⟨ver,lp,rfl,q1,?_⟩;rw[q6];refine aA ?_;have hem:=List.mem_of_getElem? hat;have hen:e∈N.es:=(List.mem_filter.1 hem).1;obtain⟨e1,e2,e3,e4,_⟩:=C.ed e hen;have hfr:e.fr=((e.fr.toNat:Nat):Int):=by omega
  have hto:e.to=((e.to.toNat:Nat):Int):=by omega
  have nxt:∀o':Wd,(∀j:Nat,bit o' j=true↔(bit o j=true\/(bit s e.fr.toNat=true/\e.to=j)))->∀j:Nat,bit o' j=true↔∃e∈(kQ N.es x).take (k+1),bit s e.fr.toNat=true/\e.to=j:=fun o' h j=>by
   rw[h,hb,List.take_add_one,hat];simp only[Option.toList_some,List.mem_append,List.mem_singleton];constructor
   ·rintro(⟨z,h1,h2⟩ | h)
    ·exact⟨z,.inl h1,h2⟩
    ·exact⟨e,.inr rfl,h⟩
   ·rintro⟨z,h1 | rfl,h2⟩
    ·exact .inl ⟨z,h1,h2⟩
    ·exact .inr h2
  simp only[PP,simprocAttr,List.append_assoc,gk,gk0,sk,sk0];rw[show PV.int .i64 e.fr=p64 ((e.fr.toNat:Nat):Int) by rw[<-hfr]];refine RF T hs (by omega) ?_
  cases hbit:bit s e.fr.toNat with
  | false=>simp only[PP,simprocAttr,List.append_assoc,gk,gk0,sk,sk0];refine⟨ver+1,_,rfl,?_⟩;rw[if_pos rfl];refine hK' _ ⟨ver+1+1,v,o,Gs++[.cells 0 1 (egC e)],?_,ho,nxt o fun j=>by rw[hbit];simp⟩;simp only[PP,simprocAttr,List.append_assoc,gk,gk0,sk,sk0,hlp _ q6,<-hfr]
  | true=>
   simp only[PP,simprocAttr,List.append_assoc,gk,gk0,sk,sk0];rw[show PV.int .i64 e.to=p64 ((e.to.toNat:Nat):Int) by rw[<-hto]];refine KD T (by show _<1000000000000;omega) (by omega) ?_;obtain⟨w1,w2⟩:=JJ (k:=e.to.toNat) ho (by omega);simp only[PP,simprocAttr,List.append_assoc,gk,gk0,sk,sk0];refine⟨ver+1,_,rfl,?_⟩;rw[if_pos rfl];refine hK' _ ⟨ver+1+1,v+1,mV o e.to.toNat,Gs++[.cells 0 1 (egC e)],?_,w1,nxt _ fun j=>?_⟩
   ·simp only[PP,simprocAttr,List.append_assoc,gk,gk0,sk,sk0,hlp _ q6,<-hfr,<-hto]
   ·rw[w2,Bool.or_eq_true,decide_eq_true_eq,hbit];constructor
    ·rintro(h | h)
     ·exact .inl h
     ·exact .inr ⟨rfl,by omega⟩
    ·rintro(h | ⟨_,h⟩)
     ·exact .inl h
     ·exact .inr (by omega)
 ·rintro G ⟨ver,v,o,Gs,rfl,ho,hb⟩;refine⟨ver,lp,rfl,by rw[q1];exact(by intro h;cases h),?_⟩;rw[q2];simp only[PP,simprocAttr,List.append_assoc,gk,gk0,sk,sk0];rw[List.take_of_length_le (Nat.le_refl _)]at hb;exact hk o ⟨ho,hb⟩
end
def O1(vs:Int)(w:List Int):Int:=if 64<(w.length:Int)then 4 else if w.any (fun x=>decide (2^vs.toNat<=x))=true then 1 else 0
theorem MO{a b:Wd}(ha:a.length<=64)(hb:b.length<=64):0<(cmb (fun x y=>x&&& y) a b).length↔∃k,bit a k=true/\bit b k=true:=by
 rw[Nat.pos_iff_ne_zero,ne_eq,E6];constructor
 ·intro h;refine Classical.byContradiction fun q=>h fun k=>?_;rw[kI ha hb];cases h1:bit a k<;>cases h2:bit b k<;>first | rfl | exact absurd ⟨k,h1,h2⟩ q
 ·rintro⟨k,h1,h2⟩ h;have:=h k;rw[kI ha hb,h1,h2]at this;cases this
section
variable {tab:FuncId->Option AF} (T:HasA tab)
include T
theorem aFG{M:Mem}{K:PV->Mem->Prop}{f o:Bool}{xs:List Int}{g:FuncId}{cap:List PV}{F:Int->Bool}(hm:xs.length<1000000000000)(hu:aC 0 cap=true)
  (hf:∀x∈xs,∀(M':Mem) (K':PV->Mem->Prop),K' (.bool (F x)) M'->SemC tab g (p8 x::cap) M' K')
  (hk1:(∀x∈xs,F x=false)->K (p64 (-1)) M) (hk2:∀(k:Nat) (x:Int),x∈xs->F x=true->K (p64 k) M):
  SemC tab 212 [slI f o .u8 xs,.func (.func g) [] cap] M K:=by
 refine aE T.h212 (by simp only[PP,simprocAttr,PV.under,hu]) ?_;simp only[af212,PP,simprocAttr];refine iX (fun(k:Nat)=>k<=xs.length/\∀j,j<k->∀x,xs[j]? =some x->F x=false) (fun k=>(slI f o .u8 xs:: .func (.func g) [] cap::zj 5++p64 xs.length::p64 k::zj 10))
  (fun k=>[]) (fun k=>xs.length-k) 0 ⟨by omega,by intro j h;omega⟩ (by simp only[PW]) rfl ?_
 intro k ⟨hle,hd⟩ ih;refine aM (by kernel_rfl) ?_;simp only[PP,simprocAttr];refine QIf.intro (fun c=>?_) (fun c=>?_)
 ·have hk':k<xs.length:=by omega
  have k0:(0:Int)<=k:=by omega
  have hwk:=aH (k:=k) (by show _<1000000000000;omega);obtain⟨x,gx⟩:=aO (xs:=xs) (k:=k) hk';simp only[PP,simprocAttr,c,k0,gx];refine hf x (List.mem_of_getElem? gx) _ _ ?_
  cases hF:F x with
  | true=>simp only[PP,simprocAttr];exact hk2 k x (List.mem_of_getElem? gx) hF
  | false=>
   simp only[PP,simprocAttr,hwk];refine aG (ih (k+1) ⟨by omega,fun j hj y gy=>?_⟩ (by omega)) (by simp only[PW]);by_cases e:j=k
   ·subst e;rw[gx]at gy;cases gy;exact hF
   ·exact hd j (by omega) y gy
 ·simp only[PP,simprocAttr,c];exact hk1 fun x hx=>by obtain⟨j,hj⟩:=List.getElem?_of_mem hx;exact hd j (by have:=aD hj;omega) x hj
theorem aDv{M:Mem}{K:PV->Mem->Prop}{f o:Bool}{xs:List Int}{g:FuncId}{cap:List PV}{F:Int->Bool}(hm:xs.length<1000000000000)(hu:aC 0 cap=true)
  (hf:∀x∈xs,∀(M':Mem) (K':PV->Mem->Prop),K' (.bool (F x)) M'->SemC tab g (p8 x::cap) M' K')
  (hk1:(∀x∈xs,F x=false)->K (.bool false) M) (hk2:(∃x,x∈xs/\F x=true)->K (.bool true) M):
  SemC tab 178 [slI f o .u8 xs,.func (.func g) [] cap] M K:=by
 refine aE T.h178 (by simp only[PP,simprocAttr,PV.under,hu]) ?_;simp only[af178,PP,simprocAttr];refine aFG T hm hu hf (fun h=>?_) (fun k x hx hF=>?_)
 ·have e:¬(0:Int)<=-1:=by omega
  simp only[PP,simprocAttr,e];exact hk1 h
 ·have e:(0:Int)<=k:=by omega
  simp only[PP,simprocAttr,e];exact hk2 ⟨x,hx,hF⟩
theorem aBX{M:Mem}{K:PV->Mem->Prop}{f1 o1 f2 o2 f3 o3:Bool}{N:NF}{x:Int}(C:NOk N)(hx:0<=x/\x<=255)(hk:K (.bool (decide (2^N.vs.toNat<=x))) M):SemC tab 179 [p8 x,.cp (nfC f1 o1 f2 o2 f3 o3 N) 0] M K:=by refine aE T.h179 (by simp only[PP,simprocAttr,PV.under,dB]) ?_;have v0:=C.v0;have v6:=C.v6;have w:IntKind.i64.wrap x=x:=wrap64 (by omega) (by omega);have sh:=aGF (v:=N.vs) (by omega) (by omega);simp only[af179,PP,simprocAttr,w,sh];exact hk
theorem WB{M:Mem}{K:PV->Mem->Prop}{f1 o1 f2 o2 f3 o3 f4 o4:Bool}{N:NF}{w:List Int}(C:NOk N)(hw:∀x∈w,0<=x/\x<=255)(hl:w.length<1000000000000)(hk:K (p64 (O1 N.vs w)) M):
  SemC tab 143 [.agg (nfC f1 o1 f2 o2 f3 o3 N),slI f4 o4 .u8 w] M K:=by
 refine bM T.h143 (by simp only[PP,simprocAttr,bD]) ?_;simp only[af143];refine aB (aA ?_);simp only[PP,simprocAttr];refine bB (GStep.freezeP (b:=(.junk::slI f4 o4 .u8 w:: .cp (nfC f1 o1 f2 o2 f3 o3 N) 0:: .junk::p64 0::zj 8)) 0 (Nat.zero_le _) rfl (by simp only[kK,kL,List.cons_append,List.nil_append,cF,bU,bT,cE]) rfl) ?_;refine aA ?_;simp only[PP,simprocAttr];unfold O1 at hk;refine QIf.intro (fun c=>?_) (fun c=>?_)
 ·rw[if_pos c]at hk;simp only[PP,simprocAttr,c];exact hk
 rw[if_neg c]at hk;simp only[PP,simprocAttr,c];refine aDv T (F:=fun x=>decide (2^N.vs.toNat<=x)) hl (by simp only[PP,simprocAttr,PV.under,dB]) (fun x hx M' K' hK'=>aBX T C (hw x hx) hK') (fun h=>?_) (fun⟨x,hx,hF⟩=>?_)
 ·rw[if_neg (by rw[Bool.not_eq_true,List.any_eq_false];intro x hx;rw[h x hx];decide)]at hk;simp only[PP,simprocAttr];exact hk
 ·rw[if_pos (List.any_eq_true.2 ⟨x,hx,hF⟩)]at hk;simp only[PP,simprocAttr];exact hk
end
theorem aFl{p:Nat->Bool}(n:Nat)(h:p n=true):∃k,k<=n/\p k=true/\∀j,j<k->p j=false:=by
 induction n using Nat.strongRecOn with
 | ind n ih=>
  by_cases q:∃m,m<n/\p m=true
  ·obtain⟨m,h1,h2⟩:=q;obtain⟨k,a,b,c⟩:=ih m h1 h2;exact⟨k,by omega,b,c⟩
  ·refine⟨n,Nat.le_refl _,h,fun j hj=>?_⟩
   cases hp:p j with
   | false=>rfl
   | true=>exact absurd ⟨j,hj,hp⟩ q
def dI(x:BitVec 64):List Nat:=(List.range 64).filter fun k=>x.getLsbD k
theorem mem_bitsW{x:BitVec 64}{k:Nat} :k∈dI x↔x.getLsbD k=true:=by
 unfold dI;rw[List.mem_filter,List.mem_range];constructor
 ·exact fun h=>h.2
 ·intro h;refine⟨Classical.byContradiction fun q=>?_,h⟩;rw[BitVec.getLsbD_of_ge _ _ (by omega)]at h;cases h
theorem qA:dI 0#64=[]:=by unfold dI;simp
theorem aFo{x:BitVec 64}(h:x≠0#64):∃k,k<64/\x.getLsbD k=true/\∀j,j<k->x.getLsbD j=false:=by
 have:∃n,x.getLsbD n=true:=by
  refine Classical.byContradiction fun q=>h (BitVec.eq_of_getLsbD_eq fun i hi=>?_)
  cases hx:x.getLsbD i with
  | false=>simp
  | true=>exact absurd ⟨i,hx⟩ q
 obtain⟨n,hn⟩:=this;obtain⟨k,a,b,c⟩:=aFl (p:=fun k=>x.getLsbD k) n hn;refine⟨k,Classical.byContradiction fun q=>?_,b,c⟩;rw[BitVec.getLsbD_of_ge _ _ (by omega)]at b;cases b
theorem P0{x:BitVec 64}{k:Nat}(h1:x.getLsbD k=true)(h2:∀j,j<k->x.getLsbD j=false)(i:Nat):(-x).getLsbD i=if i<k then false else if i=k then true else(decide (i<64)&& !x.getLsbD i):=by
 have hk:k<64:=by refine Classical.byContradiction fun q=>?_;rw[BitVec.getLsbD_of_ge _ _ (by omega)]at h1;cases h1
 rw[BitVec.getLsbD_neg];by_cases c1:i<k
 ·rw[if_pos c1,h2 i c1];have:¬∃j,j<i/\x.getLsbD j=true:=by rintro⟨j,a,b⟩;rw[h2 j (by omega)]at b;cases b
  simp[this]
 ·rw[if_neg c1];by_cases c2:i=k
  ·subst c2;rw[if_pos rfl,h1];have:¬∃j,j<i/\x.getLsbD j=true:=by rintro⟨j,a,b⟩;rw[h2 j a]at b;cases b
   simp[this]
  ·rw[if_neg c2];have:∃j,j<i/\x.getLsbD j=true:=⟨k,by omega,h1⟩;by_cases c3:i<64
   ·simp[this,c3]
   ·rw[BitVec.getLsbD_of_ge x _ (by omega)];simp[c3]
theorem JK{x:BitVec 64}{k:Nat}(h1:x.getLsbD k=true)(h2:∀j,j<k->x.getLsbD j=false):x&&& -x=BitVec.twoPow 64 k:=by
 have hk:k<64:=by refine Classical.byContradiction fun q=>?_;rw[BitVec.getLsbD_of_ge _ _ (by omega)]at h1;cases h1
 refine BitVec.eq_of_getLsbD_eq fun i hi=>?_;rw[BitVec.getLsbD_and,P0 h1 h2,BitVec.getLsbD_twoPow];by_cases c1:i<k
 ·have:¬k=i:=by omega
  simp[c1,this]
 ·by_cases c2:i=k
  ·subst c2;simp[h1,hi]
  ·have:¬k=i:=by omega
   cases hx:x.getLsbD i<;>simp[c1,c2,this]
def aAC(x:BitVec 64):BitVec 64:=x&&& (x-1#64)
theorem aDx{x:BitVec 64}{k:Nat}(h1:x.getLsbD k=true)(h2:∀j,j<k->x.getLsbD j=false)(i:Nat):(aAC x).getLsbD i=(x.getLsbD i&&decide (i≠k)):=by
 unfold aAC;rw[<-BitVec.not_neg,BitVec.getLsbD_and,BitVec.getLsbD_not,P0 h1 h2];by_cases c0:i<64
 ·by_cases c1:i<k
  ·rw[h2 i c1];simp
  ·by_cases c2:i=k
   ·subst c2;simp
   ·cases hx:x.getLsbD i<;>simp[c0,c1,c2]
 ·have:=BitVec.getLsbD_of_ge x i (by omega);simp[this]
theorem MW{p q:Nat->Bool}{k n:Nat}(hk:k<n)(h1:p k=true)(h2:∀j,j<k->p j=false)(hq:∀i,q i=(p i&&decide (i≠k))):(List.range n).filter p=k::(List.range n).filter q:=by
 have e:List.range n=List.range k++k::(List.range (n-k-1)).map (fun j=>k+1+j):=by
  refine List.ext_getElem? fun i=>?_;by_cases c:i<n
  ·rw[List.getElem?_range c];by_cases c1:i<k
   ·rw[List.getElem?_append_left (by simp;omega),List.getElem?_range c1]
   ·rw[List.getElem?_append_right (by simp;omega)];simp only[List.length_range];by_cases c2:i=k
    ·subst c2;simp
    ·obtain⟨m,hm⟩:∃m,i-k=m+1:=⟨i-k-1,by omega⟩;rw[hm,List.getElem?_cons_succ,List.getElem?_map,List.getElem?_range (by omega)];simp only[Option.map_some,Option.some.injEq];omega
  ·rw[List.getElem?_eq_none (by simp;omega),List.getElem?_eq_none (by simp;omega)]
 rw[e,List.filter_append,List.filter_append,List.filter_cons,List.filter_cons];have z:∀r:Nat->Bool,(∀j,j<k->r j=false)->(List.range k).filter r=[]:=fun r hr=>by rw[List.filter_eq_nil_iff];intro j hj;rw[hr j (List.mem_range.1 hj)];simp
 rw[z p h2,z q (fun j hj=>by rw[hq,h2 j hj];rfl),if_pos h1,if_neg (by rw[hq];simp)];simp only[List.nil_append];congr 1;refine List.filter_congr fun j hj=>?_;obtain⟨m,_,rfl⟩:=List.mem_map.1 hj;rw[hq];have:k+1+m≠k:=by omega
 simp[this]
theorem WJ:((List.range 64).all fun k=>tzTab[2^k*285870213051353865 % 18446744073709551616 / 288230376151711744]? ==some k)=true:=by decide+kernel
theorem wO(x:Int):IntKind.u64.wrap x=x % 18446744073709551616:=by simp only[IntKind.wrap,IntKind.signed,IntKind.bits];simp
theorem aCA(x:BitVec 64):BitVec.ofInt 64 (IntKind.u64.wrap (-((x.toNat:Nat):Int)))= -x:=by rw[wO];have hl:=x.isLt;apply BitVec.eq_of_toNat_eq;rw[BitVec.toNat_ofInt,BitVec.toNat_neg];omega
theorem aEl{x:BitVec 64}{k:Nat}(h1:x.getLsbD k=true)(h2:∀j,j<k->x.getLsbD j=false):tzF ((x.toNat:Nat):Int)=k:=by
 have hk:k<64:=by refine Classical.byContradiction fun q=>?_;rw[BitVec.getLsbD_of_ge _ _ (by omega)]at h1;cases h1
 have hx:¬((x.toNat:Nat):Int)=0:=by
  intro h;have:x=0#64:=by apply BitVec.eq_of_toNat_eq;simp;omega
  rw[this]at h1;simp at h1
 have ha:PA ((x.toNat:Nat):Int)=((2^k:Nat):Int):=by unfold PA;have e1:BitVec.ofInt IntKind.u64.bits ((x.toNat:Nat):Int)=x:=NJ x;have e2:BitVec.ofInt IntKind.u64.bits (IntKind.u64.wrap (-((x.toNat:Nat):Int)))= -x:=aCA x;rw[e1,e2];have e3:=JK h1 h2;show IntKind.u64.wrap ((((x&&& -x).toNat:Nat):Int))=_;rw[e3,oD (BitVec.isLt _),BitVec.toNat_twoPow,Nat.mod_eq_of_lt (Nat.pow_lt_pow_right (by omega) hk)]
 have hi:tzIdx ((x.toNat:Nat):Int)=((2^k*285870213051353865 % 18446744073709551616 / 288230376151711744:Nat):Int):=by unfold tzIdx;rw[ha,wO];omega
 have ht:=List.all_eq_true.1 WJ k (List.mem_range.2 hk);unfold tzF;rw[if_neg hx,hi,Int.toNat_natCast];rw[beq_iff_eq]at ht;rw[ht];rfl
theorem NL{x:BitVec 64}(h:x≠0#64):∃k,k<64/\dI x=k::dI (aAC x)/\tzF ((x.toNat:Nat):Int)=k:=by obtain⟨k,hk,h1,h2⟩:=aFo h;exact⟨k,hk,MW hk h1 h2 (aDx h1 h2),aEl h1 h2⟩
theorem GA{x:BitVec 64}(h:x≠0#64):IntKind.u64.wrap (((x.toNat:Nat):Int)-1)=(((x-1#64).toNat:Nat):Int):=by have hx:x.toNat≠0:=fun e=>h (by apply BitVec.eq_of_toNat_eq;simpa using e);have hl:=x.isLt;rw[wO,BitVec.toNat_sub];simp;omega
def gN(s:Wd):List Nat:=(List.range s.length).flatMap fun i=>(dI (wAt s i)).map fun k=>64*i+k
theorem TU{s:Wd}(h:∀k,bit s k=true->k<64):gN s=dI (wAt s 0):=by
 have z:∀i,0<i->wAt s i=0#64:=fun i hi=>BitVec.eq_of_getLsbD_eq fun j hj=>by
  cases hb:(wAt s i).getLsbD j with
  | false=>simp
  | true=>
   have:bit s (64*i+j)=true:=by unfold bit;rw[show(64*i+j) / 64=i by omega,show(64*i+j) % 64=j by omega];exact hb
   have:=h _ this;omega
 unfold gN
 cases s with
 | nil=>simp[wAt,qA]
 | cons a s=>
  rw[List.length_cons,List.range_succ_eq_map,List.flatMap_cons,List.flatMap_map];have e:(List.range s.length).flatMap (fun i=>(dI (wAt (a::s) (Nat.succ i))).map fun k=>64*Nat.succ i+k)=[]:=by rw[List.flatMap_eq_nil_iff];intro i _;rw[z (Nat.succ i) (by omega),qA];rfl
  have e2:(dI (wAt (a::s) 0)).map (fun k=>64*0+k)=dI (wAt (a::s) 0):=by rw[List.map_congr_left (g:=id) (fun k _=>by simp)];simp
  rw[e,e2,List.append_nil]
section
variable {tab:FuncId->Option AF} (T:HasA tab)
include T
theorem aGA{M:Mem}{K:PV->Mem->Prop}{x:BitVec 64}{k:Nat}(hx:tzF ((x.toNat:Nat):Int)=k)(hk:K (p64 k) M):SemC tab 185 [kP x] M K:=by
 intro w h args' h0 s ha
 match args',ha with
 | [v],ha=>
 have hv:=eJ ha.hd;subst hv;unfold C;refine⟨.int .i64 k,h,?_,w,p64 k,M,PStp.refl (Nat.le_refl _) w h,s,.int _ _,hk⟩;rw[rK];simp only[dA,T.tz,primTz,rF,hx]
end
theorem NF.ext'{N N':NF}(h1:N.vs=N'.vs)(h2:N.n=N'.n)(h3:N.st=N'.st)(h4:N.fi=N'.fi)(h5:N.es=N'.es):N=N':=by cases N;cases N';simp_all
section
variable {tab:FuncId->Option AF} (T:HasA tab)
include T
theorem aAv{M:Mem}{K:PV->Mem->Prop}{f o f' o':Bool}{xs ys:List Bool}(hm:xs.length<big)(hk:K (.bool (decide (xs=ys))) M):
  SemC tab 52 [slB f o xs,slB f' o' ys] M K:=by
 refine aE T.h52 (by simp only[PP,simprocAttr]) ?_;simp only[af52,PP,simprocAttr];refine QIf.intro (fun c1=>?_) (fun c1=>?_)
 ·simp only[PP,simprocAttr,c1];have hl:xs.length=ys.length:=by omega
  refine iX (fun(k:Nat)=>k<=xs.length/\K (.bool (decide (xs.drop k=ys.drop k))) M) (fun k=>(slB f o xs::slB f' o' ys::zj 3++p64 k::zj 20)) (fun _=>[]) (fun k=>xs.length-k) 0 ⟨by omega,hk⟩ (by simp only[PW]) rfl ?_;intro k ⟨hle,hq⟩ ih;refine aM (by kernel_rfl) ?_;simp only[PP,simprocAttr];refine QIf.intro (fun c=>?_) (fun c=>?_)
  ·have hk':k<xs.length:=by omega
   have hk2:k<ys.length:=by omega
   obtain⟨x,gx⟩:=aO hk';obtain⟨y,gy⟩:=aO hk2;rw[lI gx,lI gy]at hq;have hw:=aH (k:=k) (by omega);have h0:(0:Int)<=k:=by omega
   have cy:(k:Int)<ys.length:=by omega
   simp only[PP,simprocAttr,c,gx,gy,hw,h0,cy];by_cases e:x=y
   ·subst e;simp only[PP,simprocAttr,hw,List.cons.injEq]at hq ⊢;exact aG (ih (k+1) ⟨by omega,hq⟩ (by omega)) (by simp only[PW])
   ·have hbe:(x==y)=false:=by simp[e]
    simp only[PP,simprocAttr,hbe,e,List.cons.injEq]at hq ⊢;exact hq
  ·simp only[PP,simprocAttr,c];rw[List.drop_eq_nil_of_le (by omega),List.drop_eq_nil_of_le (by omega)]at hq;simp only[PP,simprocAttr]at hq;exact hq
 ·have hne:xs≠ys:=fun e=>c1 (by rw[e]);simp only[PP,simprocAttr,c1];rw[decide_eq_false hne]at hk;exact hk
theorem aDs{M:Mem}{K:PV->Mem->Prop}{f o:Bool}{xs:List Eg}(hm:xs.length<big)(hk:K (.ref M.length 0 4 0 xs.length) (M++[.cells 0 0 (egL xs)])):
  SemC tab 37 [slE f o xs] M K:=by
 refine aT T.h37 ?_;have hm:xs.length<1000000000000:=hm;have b8:xs.length*24<=140737488355328:=by omega
 have b1:xs.length<=9223372036854775807:=by omega
 simp only[af37,PP,simprocAttr,b8,b1,Q1];exact hk
end
structure DF where
 vs:Int
 st:Int
 nx:List (List Int)
 fi:List Bool
abbrev dfC(f1 o1 f2 o2 f3 o3:Bool)(D:DF):List PV:=[p64 D.vs,p64 D.st,slR f1 o1 f2 o2 .i64 D.nx,slB f3 o3 D.fi]
structure BnD (D:DF):Prop where
 n:D.nx.length<big
 r:∀r∈D.nx,r.length<big
 f:D.fi.length<big
def aAR(n:Int)(r:List Int):Bool:=r.any fun t=>decide (t<0\/n<=t)
def uE(v n:Int):List (List Int)->Int
 | []=>0
 | r::l=>if(r.length:Int)=2^v.toNat then(if aAR n r=true then 8 else uE v n l)else 2
def cA(D:DF):Int:=
 if D.vs<0\/6<D.vs then 7 else if(D.nx.length:Int)=0 then 3 else if 4096<(D.nx.length:Int)then 4 else if ¬(D.fi.length:Int)=D.nx.length then 2 else if D.st<0\/(D.nx.length:Int)<=D.st then 8 else uE D.vs D.nx.length D.nx
def jC:Int->List Int->Int
 | m,[]=>m
 | m,x::l=>jC (min m x) l
theorem uL:∀(l:List Int) (m:Int),jC m l<0↔m<0\/∃t∈l,t<0
 | [],m=>by simp[jC]
 | x::l,m=>by
  unfold jC;rw[uL l];simp only[List.mem_cons];constructor
  ·rintro(h | ⟨t,h1,h2⟩)
   ·by_cases h3:m<0
    ·exact .inl h3
    ·exact .inr ⟨x,.inl rfl,by omega⟩
   ·exact .inr ⟨t,.inr h1,h2⟩
  ·rintro(h | ⟨t,rfl | h1,h2⟩)
   ·exact .inl (by omega)
   ·exact .inl (by omega)
   ·exact .inr ⟨t,h1,h2⟩
theorem xV{n:Int} :∀(l:List Int) (m:Int),n<=jD m l↔n<=m\/∃t∈l,n<=t
 | [],m=>by simp[jD]
 | x::l,m=>by
  unfold jD;rw[xV l];simp only[List.mem_cons];constructor
  ·rintro(h | ⟨t,h1,h2⟩)
   ·by_cases h3:n<=m
    ·exact .inl h3
    ·exact .inr ⟨x,.inl rfl,by omega⟩
   ·exact .inr ⟨t,.inr h1,h2⟩
  ·rintro(h | ⟨t,rfl | h1,h2⟩)
   ·exact .inl (by omega)
   ·exact .inl (by omega)
   ·exact .inr ⟨t,h1,h2⟩
theorem badR_iff{n x:Int}{l:List Int} :aAR n (x::l)=true↔jC x l<0\/n<=jD x l:=by
 rw[uL,xV];unfold aAR;simp only[List.any_eq_true,List.mem_cons,decide_eq_true_eq];constructor
 ·rintro⟨t,rfl | h1,h | h⟩
  ·exact .inl (.inl h)
  ·exact .inr (.inl h)
  ·exact .inl (.inr ⟨t,h1,h⟩)
  ·exact .inr (.inr ⟨t,h1,h⟩)
 ·rintro((h | ⟨t,h1,h⟩) | (h | ⟨t,h1,h⟩))
  ·exact⟨x,.inl rfl,.inl h⟩
  ·exact⟨t,.inr h1,.inl h⟩
  ·exact⟨x,.inl rfl,.inr h⟩
  ·exact⟨t,.inr h1,.inr h⟩
theorem DT{v:Int}(h0:¬v<0)(h6:¬6<v):bX .shl (.int .i64 1) (.int .i64 v)=some (.int .i64 (2^v.toNat)):=by
 have:v=0\/v=1\/v=2\/v=3\/v=4\/v=5\/v=6:=by omega
 rcases this with rfl | rfl | rfl | rfl | rfl | rfl | rfl<;>rfl
theorem XM(v:Int):(0:Int)<2^v.toNat:=Int.pow_pos (by decide)
section
variable {tab:FuncId->Option AF} (T:HasA tab)
include T
theorem aGN{M:Mem}{K:PV->Mem->Prop}{f o:Bool}{x:Int}{xs:List Int}(hm:(x::xs).length<big)(hq:K (p64 (jC x xs)) M):
  SemC tab 156 [slI f o .i64 (x::xs)] M K:=by
 refine aE T.h156 (by simp only[PP,simprocAttr]) ?_;have c1:¬((xs.length+1:Nat):Int)<1:=by omega
 have c2:(0:Int)<((xs.length+1:Nat):Int):=by omega
 simp only[af156,PP,simprocAttr,c1,c2];have hm':xs.length+1<1000000000000:=hm;refine gU (fun(k:Nat) (m:Int)=>k<=xs.length/\K (p64 (jC m (xs.drop k))) M) (fun k m=>(slI f o .i64 (x::xs):: .junk:: .junk::p64 m::p64 ((k+1:Nat):Int)::zj 20)) (fun _ _=>[]) (fun k _=>xs.length-k) 0 x ⟨by omega,hq⟩ (by simp only[PW]) rfl ?_;intro k m ⟨hle,hq⟩ ih;refine aM (by kernel_rfl) ?_;simp only[PP,simprocAttr];refine QIf.intro (fun c=>?_) (fun c=>?_)
 ·have hk':k<xs.length:=by omega
  have g1:xs[k]? =some xs[k]:=List.getElem?_eq_getElem hk';have h0:(0:Int)<=((k+1:Nat):Int):=by omega
  have hw:=aH (k:=k+1) (by show _<1000000000000;omega);rw[fA hk']at hq;simp only[PP,simprocAttr,c,g1,h0,hw,jC,HD]at hq ⊢;exact aG (ih (k+1) _ ⟨by omega,hq⟩ (by omega)) (by simp only[PW])
 ·rw[List.drop_eq_nil_of_le (by omega)]at hq;simp only[PP,simprocAttr,c,jC]at hq ⊢;exact hq
theorem JD{M:Mem}{K:PV->Mem->Prop}{f1 o1 f2 o2 f3 o3:Bool}{D:DF}(B:BnD D)(hk:K (p64 (cA D)) M):
  SemC tab 92 [.agg (dfC f1 o1 f2 o2 f3 o3 D)] M K:=by
 refine aE T.h92 (by simp only[PP,simprocAttr]) ?_;simp only[af92,PP,simprocAttr];unfold cA at hk;refine QIf.intro (fun c1=>?_) (fun c1=>?_)
 ·rw[if_pos (.inl c1)]at hk;simp only[PP,simprocAttr,c1];exact hk
 simp only[PP,simprocAttr,c1];refine QIf.intro (fun c2=>?_) (fun c2=>?_)
 ·rw[if_pos (.inr c2)]at hk;simp only[PP,simprocAttr,c2];exact hk
 rw[if_neg (by omega)]at hk;simp only[PP,simprocAttr,c2];refine QIf.intro (fun c3=>?_) (fun c3=>?_)
 ·rw[if_pos c3]at hk;simp only[PP,simprocAttr,c3];exact hk
 rw[if_neg c3]at hk;simp only[PP,simprocAttr,c3];refine QIf.intro (fun c4=>?_) (fun c4=>?_)
 ·rw[if_pos c4]at hk;simp only[PP,simprocAttr,c4];exact hk
 rw[if_neg c4]at hk;simp only[PP,simprocAttr,c4];refine QIf.intro (fun c5=>?_) (fun c5=>?_);rotate_left
 ·rw[if_pos c5]at hk;simp only[PP,simprocAttr,c5];exact hk
 rw[if_neg (Classical.not_not.2 c5)]at hk;simp only[PP,simprocAttr,c5];refine QIf.intro (fun c6=>?_) (fun c6=>?_)
 ·rw[if_pos (.inl c6)]at hk;simp only[PP,simprocAttr,c6];exact hk
 simp only[PP,simprocAttr,c6];refine QIf.intro (fun c7=>?_) (fun c7=>?_)
 ·rw[if_pos (.inr c7)]at hk;simp only[PP,simprocAttr,c7];exact hk
 rw[if_neg (by omega)]at hk;simp only[PP,simprocAttr,c7];have hl:=DT c1 c2;refine iX (fun(k:Nat)=>k<=D.nx.length/\K (p64 (uE D.vs D.nx.length (D.nx.drop k))) M) (fun k=>(.junk:: .ptr 0 0 0:: .junk::p64 D.nx.length::zj 37++slR f1 o1 f2 o2 .i64 D.nx::p64 D.nx.length::p64 k::zj 19)) (fun _=>[.cells 0 0 (dfC f1 o1 f2 o2 f3 o3 D)]) (fun k=>D.nx.length-k) 0 ⟨by omega,hk⟩ (by simp only[PW]) rfl ?_;intro k ⟨hle,hq⟩ ih;refine aM (by kernel_rfl) ?_;simp only[PP,simprocAttr];refine QIf.intro (fun c=>?_) (fun c=>?_)
 ·have hk':k<D.nx.length:=by omega
  obtain⟨r,g⟩:=aO hk';have h0:(0:Int)<=(k:Int):=by omega
  have hB:D.nx.length<1000000000000:=B.n;have hw:=aH (k:=k) (by show _<1000000000000;omega);rw[lI g]at hq;simp only[PP,simprocAttr,c,g,h0,hl];unfold uE at hq;refine QIf.intro (fun e=>?_) (fun e=>?_);rotate_left
  ·rw[if_neg e]at hq;simp only[PP,simprocAttr,e];exact hq
  rw[if_pos e]at hq;simp only[PP,simprocAttr,e]
  cases r with
  | nil=>have:=XM D.vs;simp at e;omega
  | cons x l=>
   have hx:(x::l).length<big:=B.r _ (List.mem_of_getElem? g);refine aGN T hx ?_;simp only[PP,simprocAttr];refine QIf.intro (fun e1=>?_) (fun e1=>?_)
   ·rw[if_pos (badR_iff.2 (.inl e1))]at hq;simp only[PP,simprocAttr,e1];exact hq
   simp only[PP,simprocAttr,e1];refine aGO T hx ?_;simp only[PP,simprocAttr];refine QIf.intro (fun e2=>?_) (fun e2=>?_)
   ·rw[if_pos (badR_iff.2 (.inr e2))]at hq;simp only[PP,simprocAttr,e2];exact hq
   rw[if_neg (by rw[badR_iff];omega)]at hq;simp only[PP,simprocAttr,e2,hw];exact aG (ih (k+1) ⟨by omega,hq⟩ (by omega)) (by simp only[PW])
 ·rw[List.drop_eq_nil_of_le (by omega)]at hq;simp only[PP,simprocAttr,c,uE]at hq ⊢;exact hq
end
def digS:ByteArray:=⟨#[48,49,50,51,52,53,54,55,56,57,97,98,99,100,101,102,103,104,105,106,107,108,109,110,111,112,113,114,115,116,117,118,119,120,121,122]⟩
def smlS:ByteArray:=⟨#[48,48,48,49,48,50,48,51,48,52,48,53,48,54,48,55,48,56,48,57,49,48,49,49,49,50,49,51,49,52,49,53,49,54,49,55,49,56,49,57,50,48,50,49,50,50,50,51,50,52,50,53,50,54,50,55,50,56,50,57,51,48,51,49,51,50,51,51,51,52,51,53,51,54,51,55,51,56,51,57,52,48,52,49,52,50,52,51,52,52,52,53,52,54,52,55,52,56,52,57,53,48,53,49,53,50,53,51,53,52,53,53,53,54,53,55,53,56,53,57,54,48,54,49,54,50,54,51,54,52,54,53,54,54,54,55,54,56,54,57,55,48,55,49,55,50,55,51,55,52,55,53,55,54,55,55,55,56,55,57,56,48,56,49,56,50,56,51,56,52,56,53,56,54,56,55,56,56,56,57,57,48,57,49,57,50,57,51,57,52,57,53,57,54,57,55,57,56,57,57]⟩
def lH(n:Nat):ByteArray:=if n<10 then digS.extract n (n+1)else smlS.extract (2*n) (2*n+2)
theorem aAb:((List.range 100).all fun a=>(List.range 100).all fun b=>decide (a=b)|| !((lH a).data.toList==(lH b).data.toList))=true:=by decide+kernel
theorem aAa{a b:Nat}(ha:a<100)(hb:b<100)(h:lH a=lH b):a=b:=by have:=(List.all_eq_true.1 ((List.all_eq_true.1 aAb) a (List.mem_range.2 ha))) b (List.mem_range.2 hb);rw[h]at this;simpa using this
section
variable {tab:FuncId->Option AF} (T:HasA tab)
include T
theorem PF{M:Mem}{K:PV->Mem->Prop}{n:Nat}(hn:n<100)(hk:K (.str (lH n)) M):
  SemC tab 206 [p64 n] M K:=by
 refine aE T.h206 (by simp only[PP,simprocAttr]) ?_;simp only[af206,PP,simprocAttr];have w1:IntKind.i64.wrap ((n:Int)+1)=((n+1:Nat):Int):=aH (by show _<1000000000000;omega);have w2:IntKind.i64.wrap ((n:Int)*2)=((2*n:Nat):Int):=by rw[wrap64]<;>omega
 have w3:IntKind.i64.wrap (((2*n:Nat):Int)+2)=((2*n+2:Nat):Int):=by rw[wrap64]<;>omega
 refine QIf.intro (fun c=>?_) (fun c=>?_)
 ·simp only[PP,simprocAttr,c,w1,PT,Option.getD];refine⟨⟨by omega,by omega,?_⟩,?_⟩
  ·show((n+1:Nat):Int)<=((36:Nat):Int);omega
  ·have e:lH n=digS.extract n (n+1):=by unfold lH;rw[if_pos (by omega)]
   rw[e]at hk;exact hk
 ·simp only[PP,simprocAttr,c,w2,w3,PT,Option.getD];refine⟨⟨by omega,by omega,?_⟩,?_⟩
  ·show((2*n+2:Nat):Int)<=((200:Nat):Int);omega
  ·have e:lH n=smlS.extract (2*n) (2*n+2):=by unfold lH;rw[if_neg (by omega)]
   rw[e]at hk;exact hk
end
def r9(d:Nat):UInt8:=UInt8.ofNat (if d<10 then 48+d else 87+d)
def aEM(c:UInt8):Nat:=if c.toNat<58 then c.toNat-48 else c.toNat-87
theorem Q4:((List.range 16).all fun d=>digS[d]? ==some (r9 d)&&aEM (r9 d)==d)=true:=by decide+kernel
theorem aDo{d:Nat}(h:d<16):digS[d]? =some (r9 d):=by have:=List.all_eq_true.1 Q4 d (List.mem_range.2 h);rw[Bool.and_eq_true,beq_iff_eq]at this;exact this.1
theorem O9{d:Nat}(h:d<16):aEM (r9 d)=d:=by have:=List.all_eq_true.1 Q4 d (List.mem_range.2 h);rw[Bool.and_eq_true,beq_iff_eq,beq_iff_eq]at this;exact this.2
def pO(u:Nat):Nat->List UInt8
 | 0=>[]
 | c+1=>r9 (u / 16^c % 16)::pO u c
theorem nG(u:Nat):∀c,(pO u c).length=c
 | 0=>rfl
 | c+1=>by simp[pO,nG u c]
def cHf(u:Nat):Nat->Nat->Nat
 | c,0=>c
 | c,f+1=>if u / 16^c<16 then c else cHf u (c+1) f
def cH(u:Nat):Nat:=cHf u 0 15
def hH(u:Nat):List UInt8:=r9 (u / 16^cH u)::pO u (cH u)
theorem NI{u:Nat}(hu:u<18446744073709551616):∀(f c:Nat),c+f=15->u / 16^cHf u c f<16/\cHf u c f<=15:=by
 intro f
 induction f with
 | zero=>
  intro c h;obtain rfl:c=15:=by omega
  have e:(16:Nat)^15*16=18446744073709551616:=by decide
  refine⟨Nat.div_lt_of_lt_mul ?_,Nat.le_refl _⟩;show u<16^15*16;rw[e];exact hu
 | succ f ih=>
  intro c h;unfold cHf;split
  ·rename_i q;exact⟨q,by omega⟩
  ·exact ih (c+1) (by omega)
theorem aHk(u c:Nat):u / 16^(c+1)=u / 16^c / 16:=by rw[Nat.pow_succ,Nat.div_div_eq_div_mul]
def R9:List UInt8->Nat
 | []=>0
 | c::l=>aEM c*16^l.length+R9 l
theorem FV(u:Nat):∀c,R9 (pO u c)=u % 16^c
 | 0=>by simp[R9,pO,Nat.mod_one]
 | c+1=>by unfold pO R9;rw[O9 (Nat.mod_lt _ (by decide)),FV u c,nG,Nat.pow_succ,Nat.mod_mul,Nat.mul_comm,Nat.add_comm]
theorem FW{u:Nat}(hu:u<18446744073709551616):R9 (hH u)=u:=by have h:=(NI hu 15 0 rfl).1;unfold hH R9;have h:u / 16^cH u<16:=h;rw[O9 h,FV,nG,Nat.mul_comm];exact Nat.div_add_mod u _
theorem aAg{u v:Nat}(hu:u<18446744073709551616)(hv:v<18446744073709551616)(h:hH u=hH v):u=v:=by rw[<-FW hu,<-FW hv,h]
theorem aFc{u:Nat}(h:u<18446744073709551616):bX .and (.int .u64 (u:Int)) (.int .u64 15)=some (.int .u64 ((u % 16:Nat):Int)):=by
 have h1:=mF (BitVec.ofNat 64 u) 15#64;have e1:(BitVec.ofNat 64 u).toNat=u:=by simp;omega
 have e2:(BitVec.ofNat 64 u&&& 15#64).toNat=u % 16:=by rw[BitVec.toNat_and,e1];exact Nat.and_two_pow_sub_one_eq_mod u 4
 rw[e1,e2]at h1;exact h1
theorem aGE(u:Nat):bX .shr (.int .u64 (u:Int)) (.int .u64 4)=some (.int .u64 ((u / 16:Nat):Int)):=by
 have:Int.fdiv (u:Int) 16=((u / 16:Nat):Int):=by rw[Int.fdiv_eq_ediv_of_nonneg _ (by omega)];rfl
 show some (PV.int .u64 (Int.fdiv (u:Int) 16))=_;rw[this]
abbrev eD(l:List UInt8):List PV:=l.map fun c=> .int .u8 ((c.toNat:Nat):Int)
theorem qX:∀l:List UInt8,eC (l.map fun c=> .int .u8 ((c.toNat:Nat):Int))=some l
 | []=>rfl
 | c::l=>by
  have h:=c.toNat_lt;have e:UInt8.ofNat c.toNat=c:=by simp
  simp only[List.map_cons,eC,qX l];rw[if_pos (by omega),Int.toNat_natCast,e]
theorem BC:∀l:List UInt8,eT (eD l)=some (l.map fun c=>AV.int .u8 ((c.toNat:Nat):Int))
 | []=>rfl
 | c::l=>by simp only[eD,List.map_cons,eT,bN,BC l]
theorem B1(l:List UInt8):kA (eD l)=some l:=by unfold kA;rw[BC];exact qX l
theorem uF(z x:PV)(l:List PV)(m:Nat):(List.replicate (m+1) z++l).set m x=List.replicate m z++x::l:=by rw[List.set_append_left _ _ (by simp),List.replicate_succ',List.set_append_right _ _ (by simp)];simp
section
variable {tab:FuncId->Option AF} (T:HasA tab)
include T
theorem K9{M:Mem}{K:PV->Mem->Prop}(hk:K (.bool true) M):SemC tab 232 [p64 16] M K:=by refine aE T.h232 (by simp only[PP,simprocAttr]) ?_;have w1:IntKind.i64.wrap (16-1)=15:=rfl;have w2:bX .and (p64 16) (.int .i64 (IntKind.i64.wrap 15))=some (.int .i64 0):=rfl;simp only[af232,PP,simprocAttr,w1,w2];exact hk
theorem aEO{M:Mem}{K:PV->Mem->Prop}(hk:K (p64 4) M):SemC tab 233 [.int .u64 16] M K:=by refine aE T.h233 (by simp only[PP,simprocAttr]) ?_;simp only[af233,PP,simprocAttr];refine aGA T (x:=16#64) (k:=4) (aEl (by decide) (by decide)) ?_;simp only[PP,simprocAttr];exact hk
set_option maxHeartbeats 1000000 in
theorem tK{K:PV->Mem->Prop}{u:Nat}(hu:u<18446744073709551616)(hk:∀o,K (.tuple [.ref 1 0 1 0 (hH u).length,.str ⟨#[]⟩]) [o,.cells 0 0 (eD (hH u))]):
  SemC tab 209 [.nils,.int .u64 u,p64 16,.bool false,.bool true] [] K:=by
 refine aT T.h209 ?_;simp only[af209,PP,simprocAttr];refine K9 T ?_;have u16:IntKind.u64.wrap 16=16:=rfl;have u4:IntKind.u64.wrap 4=4:=rfl;have u15:IntKind.u64.wrap (16-1)=15:=rfl;simp only[PP,simprocAttr,u16];refine aEO T ?_;have u15':IntKind.u64.wrap 15=15:=rfl;simp only[PP,simprocAttr,u16,u4,u15,u15'];have hdl:∀d:Nat,d<16->(ByteArray.mk #[48,49,50,51,52,53,54,55,56,57,97,98,99,100,101,102,103,104,105,106,107,108,109,110,111,112,113,114,115,116,117,118,119,120,121,122])[d]? =some (r9 d):=fun d hd=>aDo hd;refine gU (fun(c v:Nat)=>c<=15/\cHf u c (15-c)=cH u) (fun c v=>(.nils:: .int .u64 ((u / 16^c:Nat):Int):: .junk:: .bool false:: .bool true::zj 5++ .nils:: .str ⟨#[]⟩:: .ptr 0 0 0::p64 (65-c:Nat):: .int .u64 4:: .int .u64 16:: .int .u64 15::zj 85))
  (fun c v=>[.cells 0 v (List.replicate (65-c) (.int .u8 0)++eD (pO u c))]) (fun c v=>15-c) 0 0 ⟨by omega,rfl⟩ (by simp only[Nat.pow_zero,Nat.div_one,Nat.sub_zero,Int.cast_ofNat_Int,PW]) rfl ?_
 intro c v ⟨hc,hch⟩ ih;have hq:u / 16^c<18446744073709551616:=Nat.lt_of_le_of_lt (Nat.div_le_self _ _) hu;have hi:IntKind.i64.wrap (((65-c:Nat):Int)-1)=((65-(c+1):Nat):Int):=by rw[wrap64 (by omega) (by omega)];omega
 obtain⟨m,hm⟩:∃m,65-c=m+1:=⟨65-c-1,by omega⟩;have hm2:65-(c+1)=m:=by omega
 have i0:(0:Int)<=(m:Int):=by omega
 have i1:(m:Int)<65:=by omega
 rw[hm,hm2]at hi;refine aM (by kernel_rfl) ?_;simp only[PP,simprocAttr];refine QIf.intro (fun d=>?_) (fun d=>?_)
 ·have hd16:¬u / 16^c<16:=by omega
  have hc15:c<15:=by
   refine Classical.byContradiction fun q=>?_;obtain rfl:c=15:=by omega
   have:=(NI hu 0 15 rfl).1;exact hd16 this
  have hnext:cHf u (c+1) (15-(c+1))=cH u:=by
   rw[<-hch,show 15-c=15-(c+1)+1 by omega];show _=if _ then _ else _
   rw[if_neg hd16]
  have a15:=aFc hq;have s4:=aGE (u / 16^c);have hdig:=hdl (u / 16^c % 16) (Nat.mod_lt _ (by decide));have k0:(0:Int)<=((u / 16^c % 16:Nat):Int):=by omega
  simp only[PP,simprocAttr,d,hm,hi,a15,s4,PT,hdig,k0,i0,i1];have hrs:((PV.int .u8 0)::(List.replicate m (.int .u8 0)++eD (pO u c))).set m (.int .u8 (((r9 (u / 16^c % 16)).toNat:Nat):Int))=List.replicate m (.int .u8 0)++(.int .u8 (((r9 (u / 16^c % 16)).toNat:Nat):Int))::eD (pO u c):=uF _ _ _ m;refine⟨by omega,bA (ih (c+1) (v+1) ⟨by omega,hnext⟩ (by omega)) (by simp only[aHk,hm2,PW]) ?_⟩;rw[hrs,hm2];rfl
 ·have hd16:u / 16^c<16:=by omega
  have hcc:c=cH u:=by
   rw[<-hch]
   cases hf:15-c with
   | zero=>rfl
   | succ f=>
    show c=if _ then _ else _
    rw[if_pos hd16]
  have hdig:=hdl (u / 16^c) hd16;have k0:(0:Int)<=((u / 16^c:Nat):Int):=Int.natCast_nonneg _;have hrs:((PV.int .u8 0)::(List.replicate m (.int .u8 0)++eD (pO u c))).set m (.int .u8 (((r9 (u / 16^c)).toNat:Nat):Int))=List.replicate m (.int .u8 0)++(.int .u8 (((r9 (u / 16^c)).toNat:Nat):Int))::eD (pO u c):=uF _ _ _ m;have hsl:=nG u c;have t1:(65-(m:Int)).toNat=c+1:=by omega
  have hl:eD (hH u)=PV.int .u8 (((r9 (u / 16^c)).toNat:Nat):Int)::eD (pO u c):=by unfold hH;rw[<-hcc];rfl
  have hlen:(hH u).length=c+1:=by unfold hH;rw[<-hcc,List.length_cons,hsl]
  have hps:aY (List.replicate m (PV.int .u8 0)++PV.int .u8 (((r9 (u / 16^c)).toNat:Nat):Int)::eD (pO u c)) m (c+1)=eD (hH u):=by rw[hl];unfold aY;rw[List.drop_append_of_le_length (by simp),List.drop_eq_nil_of_le (by simp),List.nil_append,List.take_of_length_le (by simp[hsl])]
  have hone:(eD (hH u)).all PV.one=true:=List.all_eq_true.2 fun x hx=>by obtain⟨y,_,rfl⟩:=List.mem_map.1 hx;rfl
  simp only[PP,simprocAttr,d,hm,hi,PT,hdig,k0,i0,i1,hrs,t1,hps,hone];have:=hk (.cells 0 (v+1) (List.replicate m (.int .u8 0)++ .int .u8 (((r9 (u / 16^c)).toNat:Nat):Int)::eD (pO u c)));rw[hlen]at this;exact⟨by omega,⟨by omega,by omega⟩,by omega,⟨by omega,by omega⟩,this⟩
theorem aDE{K:PV->Mem->Prop}{u:Nat}(hu:u<18446744073709551616)(hk:∀o,K (.ref 1 0 1 0 (hH u).length) [o,.cells 0 0 (eD (hH u))]):
  SemC tab 177 [.nils,.int .u64 u,p64 16] [] K:=by
 refine aT T.h177 ?_;simp only[af177,PP,simprocAttr];refine tK T hu fun o=>?_;simp only[PP,simprocAttr];exact hk o
theorem aF4{K:PV->Mem->Prop}{u:Nat}(hu:u<18446744073709551616)(hk:∀o,K (.ref 1 0 1 0 (hH u).length) [o,.cells 0 0 (eD (hH u))]):
  SemC tab 142 [.nils,.int .u64 u,p64 16] [] K:=by
 refine aT T.h142 ?_;simp only[af142,PP,simprocAttr];refine aDE T hu fun o=>?_;simp only[PP,simprocAttr];exact hk o
end
theorem JS{tab:FuncId->Option AF}{g:FuncId}{args args2:List PV}{M:Mem}{K:PV->Mem->Prop}(hw:∀w l,RepL w args l->RepL w args2 l)(h:SemC tab g args2 M K):SemC tab g args M K:=
 fun w hh args' h0 s ha=>h w hh args' h0 s (hw w args' ha)
def rP(w:BitVec 64):ByteArray:=if w=0#64 then⟨#[]⟩else⟨(hH w.toNat++[32]).toArray⟩
theorem IE{x y:BitVec 64}(h:rP x=rP y):x=y:=by
 unfold rP at h;by_cases hx:x=0#64<;>by_cases hy:y=0#64
 ·rw[hx,hy]
 ·rw[if_pos hx,if_neg hy]at h;have:=congrArg (fun b:ByteArray=>b.data.toList) h;simp at this
 ·rw[if_neg hx,if_pos hy]at h;have:=congrArg (fun b:ByteArray=>b.data.toList) h;simp at this
 ·rw[if_neg hx,if_neg hy]at h;have:=congrArg (fun b:ByteArray=>b.data.toList) h;simp only at this;have:=List.append_inj_left' this rfl;exact BitVec.eq_of_toNat_eq (aAg x.isLt y.isLt this)
theorem F4(a:Wd):qQ a=[]\/wAt (qQ a) ((qQ a).length-1)≠0#64:=by
 have hle:=qP a a.length;have hl:(qQ a).length=fC a a.length:=by unfold qQ;rw[List.length_take];omega
 rcases sO a a.length with h | h
 ·left;exact List.length_eq_zero_iff.1 (by omega)
 ·right;rw[hl,C9];exact h
theorem UX{s:Wd}(hs:s.length<=64)(hb:∀k,bit s k=true->k<64):cmb (fun x y=>x||| y) s []=if wAt s 0=0#64 then []else [wAt s 0]:=by
 have hat:∀i,wAt (cmb (fun x y=>x||| y) s []) i=wAt s i:=fun i=>by rw[M9 (by simp) hs (by simp)];have:wAt ([]:Wd) i=0#64:=gB (by simp);rw[this];simp
 have hz:∀i,0<i->wAt s i=0#64:=fun i hi=>BitVec.eq_of_getLsbD_eq fun j hj=>by
  cases hx:(wAt s i).getLsbD j with
  | false=>simp
  | true=>
   have:bit s (64*i+j)=true:=by unfold bit;rw[show(64*i+j) / 64=i by omega,show(64*i+j) % 64=j by omega];exact hx
   have:=hb _ this;omega
 have ht:=F4 (jX (fun x y=>x||| y) s [] (min (max s.length 0) 64));have hc:cmb (fun x y=>x||| y) s []=qQ (jX (fun x y=>x||| y) s [] (min (max s.length 0) 64)):=rfl;rw[<-hc]at ht;generalize cmb (fun x y=>x||| y) s []=c at hat ht;rcases ht with rfl | ht
 ·have:=hat 0;have e:wAt ([]:Wd) 0=0#64:=gB (by simp);rw[e]at this;rw[if_pos this.symm]
 ·rw[hat]at ht;have hl:c.length-1=0:=Classical.byContradiction fun q=>ht (hz _ (by omega));rw[hl]at ht;rw[if_neg ht]
  match c,hl with
  | [],_=>have:=hat 0;have e:wAt ([]:Wd) 0=0#64:=gB (by simp);rw[e]at this;exact absurd this.symm ht
  | [x],_=>have:=hat 0;rw[<-this];rfl
  | x::y::l,h=>simp at h
section
variable {tab:FuncId->Option AF} (T:HasA tab)
include T
theorem aDy{M:Mem}{K:PV->Mem->Prop}{f o:Bool}{s:Wd}(hs:s.length<=64)(hk:K (slW false true (cmb (fun x y=>x||| y) s [])) M):
  SemC tab 141 [slW f o s] M K:=by
 refine aE T.h141 (by simp only[PP,simprocAttr]) ?_;simp only[af141,PP,simprocAttr];refine JS (args2:=[slW f o s,slW true true []]) ?_ (O8 T (by show _<1000000000000;omega) (by show 0<1000000000000;omega) ?_)
 ·intro w l h
  match l,h with
  | [x,y],h=>exact .cons h.hd (.cons (PvWk.nils true true 1 w y h.tl.hd) (.nil w))
 simp only[PP,simprocAttr];exact hk
set_option maxHeartbeats 1000000 in
theorem ZM{M:Mem}{K:PV->Mem->Prop}{f o:Bool}{s:Wd}(hs:s.length<=64)(hb:∀k,bit s k=true->k<64)(hk:K (.str (rP (wAt s 0))) M):
  SemC tab 81 [slW f o s] M K:=by
 refine bM T.h81 (by simp only[PP,simprocAttr]) ?_;simp only[af81];refine aA ?_;simp only[PP,simprocAttr];refine aDy T hs ?_;rw[UX hs hb];unfold rP at hk;by_cases hw:wAt s 0=0#64
 ·rw[if_pos hw]at hk ⊢;simp only[PP,simprocAttr];refine aG (b:=(zj 3++ .nils::zj 3++slW false true []::p64 0::p64 0::zj 12)) ?_ (by simp only[PW]);refine aM (by kernel_rfl) ?_;simp only[PP,simprocAttr,PT];exact hk
 ·rw[if_neg hw]at hk ⊢;simp only[PP,simprocAttr];refine aG (b:=(zj 3++ .nils::zj 3++slW false true [wAt s 0]::p64 1::p64 0::zj 12)) ?_ (by simp only[PW]);refine aM (by kernel_rfl) ?_;simp only[PP,simprocAttr,PT];have hlt:=(wAt s 0).isLt;have hhl:(hH (wAt s 0).toNat).length<=16:=by
   have:=(NI hlt 15 0 rfl).2;unfold hH;rw[List.length_cons,nG];show cHf _ 0 15+1<=16;omega
  refine aF4 T hlt fun ob=>?_;have b1:(hH (wAt s 0).toNat).length+1<=140737488355328:=by omega
  have b2:(hH (wAt s 0).toNat).length+1<=9223372036854775807:=by omega
  have w1:IntKind.i64.wrap (0+1)=1:=rfl;have w1':IntKind.i64.wrap 1=1:=rfl;simp only[PP,simprocAttr,PT,b1,b2,w1,w1'];refine aG (b:=(zj 3++ .ref 1 1 1 0 ((hH (wAt s 0).toNat).length+1)::zj 3++slW false true [wAt s 0]::p64 1::p64 1::zj 12)) ?_ (by simp only[PW]);refine aM (by kernel_rfl) ?_;have hp:kA (aY (eD (hH (wAt s 0).toNat)++[.int .u8 32]) 0 ((hH (wAt s 0).toNat).length+1))=some (hH (wAt s 0).toNat++[32]):=by
   rw[aU _ _ (by simp)];have e:eD (hH (wAt s 0).toNat)++[.int .u8 32]=eD (hH (wAt s 0).toNat++[32]):=by simp[eD]
   rw[e];exact B1 _
  simp only[PP,simprocAttr,PT,hp];exact hk
end
theorem UO{α:Type}{l t:List α}{c:Nat}{a:α}(h:l.drop c=a::t):l[c]? =some a/\l.drop (c+1)=t:=by
 constructor
 ·have:(l.drop c)[0]? =some a:=by rw[h];rfl
  simpa [List.getElem?_drop]using this
 ·have:(l.drop c).drop 1=t:=by rw[h];rfl
  rw[List.drop_drop]at this;exact this
def KQ(s:Wd)(i:Nat):List Nat:=((List.range s.length).drop i).flatMap fun i=>(dI (wAt s i)).map fun k=>64*i+k
theorem SL{s:Wd}{i:Nat}(h:i<s.length):KQ s i=(dI (wAt s i)).map (fun k=>64*i+k)++KQ s (i+1):=by unfold KQ;rw[List.drop_eq_getElem_cons (by simpa using h),List.flatMap_cons];simp
theorem WS{s:Wd}{i:Nat}(h:s.length<=i):KQ s i=[]:=by unfold KQ;rw[List.drop_eq_nil_of_le (by simpa using h)];rfl
theorem L6(o:List Nat)(b:Nat):m8 (o++[b])=m8 o++[(b:Int)]:=by simp
theorem TV(s:Wd):(gN s).length<=64*s.length:=by
 have key:∀n,((List.range n).flatMap fun i=>(dI (wAt s i)).map fun k=>64*i+k).length<=64*n:=by
  intro n
  induction n with
  | zero=>simp
  | succ n ih=>
   rw[List.range_succ,List.flatMap_append,List.length_append];have:(dI (wAt s n)).length<=64:=by unfold dI;exact Nat.le_trans (List.length_filter_le _ _) (by simp)
   simp only[List.flatMap_cons,List.flatMap_nil,List.append_nil,List.length_map];omega
 exact key s.length
section
variable {tab:FuncId->Option AF} (T:HasA tab)
include T
set_option maxHeartbeats 1000000 in
theorem aHh{M:Mem}{K:PV->Mem->Prop}{L:Nat}{f o:Bool}{s:Wd}(hs:s.length<=64)(J:Nat->Mem->Prop)(h0:J 0 M)
  (hl:∀k G,J k G->∃ver r,G[L]? =some (.loop ver r))
  (hy:∀k G e,J k G->(gN s)[k]? =some e->∀K':PV->Mem->Prop,(∀G',J (k+1) G'->K' (.bool true) G')->JR tab L [p64 e] G K')
  (hk:∀G,J (gN s).length G->K (.tuple []) G):
  SemC tab 184 [.yld L [],.cp [slW f o s] 0] M K:=by
 refine aT T.h184 ?_;have hmn:min (s.length:Int) 64=s.length:=by omega
 have n0:(0:Int)<=s.length:=by omega
 have n1:((s.length:Int)-0).toNat=s.length:=by omega
 have hps:aY ((wI s).map (PV.int .u64)) 0 s.length=(wI s).map (PV.int .u64):=aU _ _ (by simp);simp only[af184,PP,simprocAttr,iW,hmn,n0,n1,hps,List.length_map];generalize (if o=true then false else f)=f';refine⟨Int.le_refl _,?_⟩;refine nV (fun(i c:Nat) (G:Mem)=>i<=s.length/\J c G/\c<=(gN s).length/\(gN s).drop c=KQ s i) (fun i c G=>(.yld L []::zj 8++slW f' o s::p64 s.length::p64 i::zj 19)) (fun _ _ G=>G) (fun i _ _=>s.length-i) 0 0 M ⟨by omega,h0,Nat.zero_le _,rfl⟩ (by simp only[PW]) rfl ?_;intro i c G ⟨hle,hJ,hcl,hdr⟩ ih;refine aM (by kernel_rfl) ?_;simp only[PP,simprocAttr];refine QIf.intro (fun q=>?_) (fun q=>?_);rotate_left
 ·rw[WS (by omega)]at hdr;have:c=(gN s).length:=by
   have:=congrArg List.length hdr;simp at this;omega
  subst this;simp only[PP,simprocAttr,q];exact hk G hJ
 have hi:i<s.length:=by omega
 have i0:(0:Int)<=i:=by omega
 have gw:=KG hi;have wi:=aH (k:=i) (by show _<1000000000000;omega);simp only[PP,simprocAttr,q,i0,gw];rw[SL hi]at hdr;refine nV (fun(x:BitVec 64) (c:Nat) (G:Mem)=>J c G/\c<=(gN s).length/\(gN s).drop c=(dI x).map (fun k=>64*i+k)++KQ s (i+1)) (fun x c G=>(.yld L []:: .junk:: .junk::p64 i::kP x::zj 4++slW f' o s::p64 s.length::p64 i::zj 19)) (fun _ _ G=>G) (fun x _ _=>(dI x).length) (wAt s i) c G ⟨hJ,hcl,hdr⟩ (by simp only[PW]) rfl ?_;intro x c G ⟨hJ,hcl,hdr⟩ ih2;refine aM (by kernel_rfl) ?_;simp only[PP,simprocAttr];by_cases hx:x=0#64
 ·subst hx;rw[qA]at hdr;have z:(((0#64:BitVec 64).toNat:Nat):Int)=0:=rfl;simp only[PP,simprocAttr,z,wi];exact aG (ih (i+1) c G ⟨by omega,hJ,hcl,hdr⟩ (by omega)) (by simp only[PW])
 ·obtain⟨k,hk64,hb,htz⟩:=NL hx;have z:¬(((x.toNat:Nat):Int)=0):=fun h=>hx (by apply BitVec.eq_of_toNat_eq;simp;omega);rw[hb,List.map_cons,List.cons_append]at hdr;obtain⟨d1,d2⟩:=UO hdr;have w1:IntKind.i64.wrap (64*(i:Int))=((64*i:Nat):Int):=by rw[wrap64]<;>omega
  have w2:IntKind.i64.wrap (((64*i:Nat):Int)+k)=((64*i+k:Nat):Int):=by rw[wrap64]<;>omega
  have w3:=GA hx;have w4:bX .and (kP x) (kP (x-1#64))=some (kP (aAC x)):=mF x (x-1#64);simp only[PP,simprocAttr,z];refine aGA T htz ?_;simp only[PP,simprocAttr,w1,w2,zN];refine⟨hl _ _ hJ,hy c G _ hJ d1 _ fun G' hJ'=>?_⟩;simp only[PP,simprocAttr,w3,w4];have hc2:c+1<=(gN s).length:=aD d1;exact aG (ih2 (aAC x) (c+1) G' ⟨hJ',hc2,d2⟩ (by rw[hb];simp)) (by simp only[PW])
theorem MY{M:Mem}{K:PV->Mem->Prop}{f o:Bool}{s:Wd}(hk:K (.func (.func 184) [] [.cp [slW f o s] 0]) M):
  SemC tab 147 [slW f o s] M K:=by
 refine bM T.h147 (by simp only[PP,simprocAttr]) ?_;simp only[af147];refine aB (aA ?_);simp only[PP,simprocAttr];refine bB (GStep.freezeP (b:=(.junk:: .cp [slW f o s] 0:: .nilfunc:: .junk::[])) 0 (Nat.zero_le _) rfl (by simp only[kK,kL,List.cons_append,List.nil_append,cF,bU,bT,cE]) rfl) ?_;refine aA ?_;have e:∀N':Mem,fG 0 N' (.func (.func 184) [] [.cp [slW f o s] 0])=some (.func (.func 184) [] [.cp [slW f o s] 0]):=fun N'=>nN (M:=N') (by simp only[PP,simprocAttr,PV.under]);simp only[PP,simprocAttr,e];exact hk
set_option maxHeartbeats 1000000 in
theorem aFp{M:Mem}{K:PV->Mem->Prop}{f o:Bool}{s:Wd}(hs:s.length<=64)(hk:K (slI false true .i64 (m8 (gN s))) M):
  SemC tab 86 [slW f o s] M K:=by
 have hlen:=TV s;refine bM T.h86 (by simp only[PP,simprocAttr]) ?_;simp only[af86];refine aB (aA ?_);simp only[PP,simprocAttr];refine bB (GStep.nilbox 0 0 1 (g:=0) (ver:=0) (cs:=[.nils]) rfl rfl rfl) ?_;refine aA ?_;simp only[PP,simprocAttr];refine MY T ?_;simp only[PP,simprocAttr];refine aG (b:=(.junk:: .junk:: .ptr 0 0 0:: .junk:: .junk:: .func (.func 184) [] [.cp [slW f o s] 0]::zj 6)) ?_ (by simp only[PW]);refine f5 rfl (fun lp q1 q2 q3 q4 q5 q6=>?_);simp only[PP,simprocAttr];refine aHh T (L:=2) hs (fun k G=>k<=(gN s).length/\∃ver v g,G=[.cells 0 v [.ref 1 g 1 0 k],.cells g 0 ((m8 ((gN s).take k)).map p64),.loop ver lp])
  ⟨Nat.zero_le _,0,0,0,rfl⟩ ?_ ?_ ?_
 ·rintro k G ⟨_,ver,v,g,rfl⟩;exact⟨ver,lp,rfl⟩
 ·rintro k G e ⟨hkl,ver,v,g,rfl⟩ hat K' hK';have hk1:=aD hat;refine lR (ver:=ver) (r:=lp) rfl (by rw[q4];rfl) ?_;rw[q3,q4,q5];refine aA ?_;simp only[gF,PP,simprocAttr];have hlp:∀B,lp.body=B->(⟨.ready,none,lp.tmps,lp.params,lp.assign,B⟩:PLoop)=lp:=fun B hB=>by cases lp;simp_all
  refine⟨ver,lp,rfl,q1,?_⟩;rw[q6];refine aA ?_;have b1:(k+1)*8<=140737488355328:=by omega
  have b2:k+1<=9223372036854775807:=by omega
  have b3:k<=(List.take k (gN s)).length:=by simp;omega
  simp only[PP,simprocAttr,b1,b2,b3];refine⟨ver+1,_,rfl,?_⟩;rw[if_pos rfl];refine hK' _ ⟨hk1,ver+1+1,v+1,g+1,?_⟩;rw[aU _ _ (by simp;omega),bL hat,L6,List.map_append];simp only[PP,simprocAttr,hlp _ q6]
 ·rintro G ⟨_,ver,v,g,rfl⟩;refine⟨ver,lp,rfl,by rw[q1];exact(by intro h;cases h),?_⟩;rw[q2];rw[List.take_length];have hfz:pW (some (PObj.cells g 0 ((m8 (gN s)).map p64))) g 1 0 (gN s).length=some (slI false true .i64 (m8 (gN s))):=by
   rw[cQ (by simp) (aP _ _ _),aU _ _ (by simp)];simp only[slI,List.length_map]
  simp only[PP,simprocAttr,hfz];exact hk
end
section
variable {tab:FuncId->Option AF} (T:HasA tab)
include T
theorem aAF{M:Mem}{K:PV->Mem->Prop}{f o:Bool}{xs:List Int}(hm:xs.length<big)(hk:∀g v,K (.ref M.length g 1 0 xs.length) (M++[.cells g v (xs.map p64)])):
  SemC tab 59 [slI f o .i64 xs] M K:=by
 have hb:xs.length<1000000000000:=hm;have b1:xs.length*8<=140737488355328:=by omega
 have b2:xs.length<=9223372036854775807:=by omega
 refine dC (dV T.h59 ?_);simp only[af59];refine aB (aA ?_);simp only[PP,simprocAttr];refine aB (aA ?_);simp only[PP,simprocAttr];have hone:(xs.map p64).all PV.one=true:=sD _ _;refine QIf.intro (fun c=>?_) (fun c=>?_)
 ·constructor
  ·simp only[PP,simprocAttr];have:xs=[]:=List.length_eq_zero_iff.1 c;subst this;exact Gh.step (GStep.nil 0 1 rfl rfl rfl) (Gh.same ⟨_,rfl,hk 0 0⟩)
  ·simp only[PP,simprocAttr];refine aB (oZ ⟨[],rfl,?_⟩);simp only[PP,simprocAttr,List.append_assoc,gk,gk0,sk,sk0];exact⟨⟨b1,b2⟩,aA (by simp only[PP,simprocAttr];exact Gh.same ⟨_,rfl,hk 1 0⟩)⟩
 ·simp only[PP,simprocAttr];refine aB (oZ ⟨[],rfl,?_⟩);simp only[PP,simprocAttr,List.append_assoc,gk,gk0,sk,sk0];exact⟨⟨b1,b2⟩,aA (by simp only[PP,simprocAttr];exact Gh.same ⟨_,rfl,hk 1 0⟩)⟩
theorem aAG{M:Mem}{K:PV->Mem->Prop}{f o:Bool}{xs:List Eg}(hm:xs.length<big)(hk:∀g v,K (.ref M.length g 4 0 xs.length) (M++[.cells g v (egL xs)])):
  SemC tab 153 [slE f o xs] M K:=by
 have hb:xs.length<1000000000000:=hm;have b1:xs.length*24<=140737488355328:=by omega
 have b2:xs.length<=9223372036854775807:=by omega
 refine dC (dV T.h153 ?_);simp only[af153];refine aB (aA ?_);simp only[PP,simprocAttr];refine aB (aA ?_);simp only[PP,simprocAttr];have hone:(egL xs).all PV.one=true:=Q1 xs;refine QIf.intro (fun c=>?_) (fun c=>?_)
 ·constructor
  ·simp only[PP,simprocAttr];have:xs=[]:=List.length_eq_zero_iff.1 c;subst this;exact Gh.step (GStep.nil 0 4 rfl rfl rfl) (Gh.same ⟨_,rfl,hk 0 0⟩)
  ·simp only[PP,simprocAttr];refine aB (oZ ⟨[],rfl,?_⟩);simp only[PP,simprocAttr,List.append_assoc,gk,gk0,sk,sk0,hone];exact⟨⟨b1,b2⟩,aA (by simp only[PP,simprocAttr];exact Gh.same ⟨_,rfl,hk 1 0⟩)⟩
 ·simp only[PP,simprocAttr];refine aB (oZ ⟨[],rfl,?_⟩);simp only[PP,simprocAttr,List.append_assoc,gk,gk0,sk,sk0,hone];exact⟨⟨b1,b2⟩,aA (by simp only[PP,simprocAttr];exact Gh.same ⟨_,rfl,hk 1 0⟩)⟩
end
section
variable {α:Type} [DecidableEq α]
def bP(o:List α)(b:α):List α:=if b∈o then o else o++[b]
def bI(δ:α->Nat->α)(a:α):Nat->List α->List α
 | 0,o=>o
 | x+1,o=>bP (bI δ a x o) (δ a x)
def bC(δ:α->Nat->α)(n:Nat)(a0:α):Nat->List α
 | 0=>[a0]
 | k+1=>match (bC δ n a0 k)[k]? with
  | some a=>bI δ a n (bC δ n a0 k)
  | none=>bC δ n a0 k
theorem sE(o:List α)(b:α):∃r,bP o b=o++r:=by
 unfold bP;split
 ·exact⟨[],by simp⟩
 ·exact⟨[b],rfl⟩
theorem H1(o:List α)(b c:α):c∈bP o b↔c∈o\/c=b:=by
 unfold bP;split
 ·constructor
  ·exact .inl
  ·rintro(h | rfl)
   ·exact h
   ·assumption
 ·simp
theorem gC(δ:α->Nat->α)(a:α):∀(x:Nat) (o:List α),∃r,bI δ a x o=o++r
 | 0,o=>⟨[],by simp[bI]⟩
 | x+1,o=>by obtain⟨r,h⟩:=gC δ a x o;obtain⟨r2,h2⟩:=sE (bI δ a x o) (δ a x);exact⟨r++r2,by unfold bI;rw[h2,h,List.append_assoc]⟩
theorem A8(δ:α->Nat->α)(a:α)(x:Nat)(o:List α):∀y,x<=y->∃r,bI δ a y o=bI δ a x o++r
 | 0,h=>by
  obtain rfl:x=0:=by omega
  exact⟨[],by simp⟩
 | y+1,h=>by
  by_cases e:x=y+1
  ·subst e;exact⟨[],by simp⟩
  ·obtain⟨r,h1⟩:=A8 δ a x o y (by omega);obtain⟨r2,h2⟩:=sE (bI δ a y o) (δ a y);exact⟨r++r2,by rw[<-List.append_assoc,<-h1,<-h2];rfl⟩
theorem jV(δ:α->Nat->α)(a c:α):∀(x:Nat) (o:List α),c∈bI δ a x o↔c∈o\/∃y,y<x/\c=δ a y
 | 0,o=>by simp[bI]
 | x+1,o=>by
  unfold bI;rw[H1,jV δ a c x o];constructor
  ·rintro((h | ⟨y,h1,h2⟩) | h)
   ·exact .inl h
   ·exact .inr ⟨y,by omega,h2⟩
   ·exact .inr ⟨x,by omega,h⟩
  ·rintro(h | ⟨y,h1,h2⟩)
   ·exact .inl (.inl h)
   ·by_cases e:y=x
    ·subst e;exact .inr h2
    ·exact .inl (.inr ⟨y,by omega,h2⟩)
theorem yJ{a b:α}{o:List α}(h:b≠a):(a::o).idxOf b=o.idxOf b+1:=by rw[List.idxOf_cons];have:(a==b)=false:=beq_false_of_ne fun e=>h e.symm;rw[this];rfl
theorem tJ{o r:List α}{b:α}(h:b∈o):(o++r).idxOf b=o.idxOf b:=by rw[List.idxOf_append,if_pos h]
def gY(δ:α->Nat->α)(n:Nat)(o:List α)(a:α):List Int:=(List.range n).map fun x=>((o.idxOf (δ a x):Nat):Int)
theorem GY{δ:α->Nat->α}{n:Nat}{o r:List α}{a:α}(h:∀x,x<n->δ a x∈o):gY δ n (o++r) a=gY δ n o a:=
 List.map_congr_left fun x hx=>by rw[tJ (h x (List.mem_range.1 hx))]
def eM(κ:α->ByteArray):Nat->List α->List (ByteArray×PV)
 | _,[]=>[]
 | k,a::o=>(κ a,p64 (k:Int))::eM κ (k+1) o
omit [DecidableEq α] in
theorem gJ(κ:α->ByteArray):∀(o:List α) (k:Nat),(eM κ k o).length=o.length
 | [],k=>rfl
 | a::o,k=>by simp[eM,gJ κ o]
omit [DecidableEq α] in
theorem oN(κ:α->ByteArray)(b:α):∀(o:List α) (k:Nat),eM κ k o++[(κ b,p64 ((k+o.length:Nat):Int))]=eM κ k (o++[b])
 | [],k=>rfl
 | a::o,k=>by show(κ a,p64 (k:Int))::(eM κ (k+1) o++_)=(κ a,p64 (k:Int))::eM κ (k+1) (o++[b]);rw[<-oN κ b o (k+1)];simp only[List.length_cons];rw[show k+1+o.length=k+(o.length+1) by omega]
theorem lE{κ:α->ByteArray}{Dm:α->Prop}(hinj:∀a b,Dm a->Dm b->κ a=κ b->a=b){b:α}(hb:Dm b):∀(o:List α) (k:Nat),(∀a∈o,Dm a)->j9 (κ b) (eM κ k o)=if b∈o then some (p64 ((k+o.idxOf b:Nat):Int))else none
 | [],k,ho=>rfl
 | a::o,k,ho=>by
  unfold eM j9;by_cases e:κ b=κ a
  ·obtain rfl:=hinj b a hb (ho a (by simp)) e;rw[if_pos rfl,if_pos (by simp)];simp
  ·have hne:b≠a:=fun h=>e (by rw[h]);rw[if_neg e,lE hinj hb o (k+1) (fun c hc=>ho c (by simp[hc]))];by_cases hm:b∈o
   ·rw[if_pos hm,if_pos (by simp[hm]),yJ hne,show k+1+o.idxOf b=k+(o.idxOf b+1) by omega]
   ·rw[if_neg hm,if_neg (by simp[hm,hne])]
end
section
variable {tab:FuncId->Option AF} (T:HasA tab)
include T
theorem aBZ{N:Mem}{K:PV->Mem->Prop}{i j ver vb:Nat}{l:List (ByteArray×PV)}{k:ByteArray}(hi:N[i]? =some (.map ver (smE l)))(hj:N[j]? =some (.cells 0 vb [.map i]))(hl:l.length<1000000000000)
  (hk1:∀v,j9 k l=some (p64 v)->K (p64 v) N) (hv:∀v,j9 k l=some v->∃n,v=p64 n) (hk2:j9 k l=none->K (p64 l.length) (N.set i (.map (ver+1) (smE (l++[(k,p64 l.length)]))))):
  SemC tab 145 [.str k,.ptr j 0 0] N K:=by
 refine aT T.h145 ?_;simp only[af145,PP,simprocAttr,PT,hi,hj]
 cases hs:j9 k l with
 | some v=>obtain⟨n,rfl⟩:=hv v hs;simp only[PP,simprocAttr,PT];exact hk1 n hs
 | none=>have hp:=q9 k (p64 l.length) l hs;simp only[PP,simprocAttr,PT,hi,hj,hs,hp];exact hk2 hs
variable {α:Type} [DecidableEq α]
theorem WE{κ:α->ByteArray}{Dm:α->Prop}(hinj:∀a b,Dm a->Dm b->κ a=κ b->a=b){o:List α}{b:α}(hb:Dm b)(ho:∀a∈o,Dm a)(hl:o.length<1000000000000)
  {N:Mem} {K:PV->Mem->Prop} {i j ver vb:Nat} (hi:N[i]? =some (.map ver (smE (eM κ 0 o)))) (hj:N[j]? =some (.cells 0 vb [.map i]))
  (hk:∀ver',K (p64 ((bP o b).idxOf b:Nat)) (N.set i (.map ver' (smE (eM κ 0 (bP o b)))))):
  SemC tab 145 [.str (κ b),.ptr j 0 0] N K:=by
 have hlk:=lE hinj hb o 0 ho;refine aBZ T hi hj (by rw[gJ];exact hl) (fun v hv=>?_) (fun v hv=>?_) (fun hv=>?_)
 ·rw[hlk]at hv;by_cases hm:b∈o
  ·rw[if_pos hm]at hv;simp only[Option.some.injEq,PV.int.injEq,true_and,Nat.zero_add]at hv;subst hv;have h:=hk ver;have e:bP o b=o:=by unfold bP;rw[if_pos hm]
   rw[e]at h;have hs:N.set i (.map ver (smE (eM κ 0 o)))=N:=by
    refine List.ext_getElem? fun x=>?_;by_cases hx:i=x
    ·subst hx;rw[List.getElem?_set_self (aD hi),hi]
    ·rw[List.getElem?_set_ne hx]
   rw[hs]at h;exact h
  ·rw[if_neg hm]at hv;cases hv
 ·rw[hlk]at hv;by_cases hm:b∈o
  ·rw[if_pos hm]at hv;cases hv;exact⟨_,rfl⟩
  ·rw[if_neg hm]at hv;cases hv
 ·rw[hlk]at hv;by_cases hm:b∈o
  ·rw[if_pos hm]at hv;cases hv
  ·have e:bP o b=o++[b]:=by unfold bP;rw[if_neg hm]
   have h:=hk (ver+1);have e2:=oN κ b o 0;rw[Nat.zero_add]at e2;rw[e,<-e2]at h;have e3:(o++[b]).idxOf b=o.length:=by rw[List.idxOf_append,if_neg hm];simp
   rw[e3]at h;rw[gJ];exact h
end
section
variable {α:Type} [DecidableEq α]
theorem cD{δ:α->Nat->α}{n:Nat}{a0 a:α}{k:Nat}(h:(bC δ n a0 k)[k]? =some a):bC δ n a0 (k+1)=bI δ a n (bC δ n a0 k):=by show(match (bC δ n a0 k)[k]? with | some a=>_ | none=>_)=_;rw[h]
theorem f0{δ:α->Nat->α}{n:Nat}{a0:α}{k:Nat}(h:(bC δ n a0 k).length<=k):bC δ n a0 (k+1)=bC δ n a0 k:=by show(match (bC δ n a0 k)[k]? with | some a=>_ | none=>_)=_;rw[List.getElem?_eq_none h]
theorem aAQ(δ:α->Nat->α)(n:Nat)(a0:α)(k:Nat):∃r,bC δ n a0 (k+1)=bC δ n a0 k++r:=by
 rcases Nat.lt_or_ge k (bC δ n a0 k).length with h | h
 ·obtain⟨r,e⟩:=gC δ ((bC δ n a0 k)[k]) n (bC δ n a0 k);exact⟨r,by rw[cD (List.getElem?_eq_getElem h),e]⟩
 ·exact⟨[],by rw[f0 h];simp⟩
theorem oV(δ:α->Nat->α)(n:Nat)(a0:α)(k:Nat):∀d,∃r,bC δ n a0 (k+d)=bC δ n a0 k++r
 | 0=>⟨[],by simp⟩
 | d+1=>by obtain⟨r,h⟩:=oV δ n a0 k d;obtain⟨r2,h2⟩:=aAQ δ n a0 (k+d);exact⟨r++r2,by rw[<-Nat.add_assoc,h2,h,List.append_assoc]⟩
theorem mQ{δ:α->Nat->α}{n:Nat}{a0:α}{k:Nat}(h:(bC δ n a0 k).length<=k):∀d,bC δ n a0 (k+d)=bC δ n a0 k
 | 0=>rfl
 | d+1=>by have ih:=mQ h d;rw[<-Nat.add_assoc,f0 (by rw[ih];omega),ih]
theorem U0(δ:α->Nat->α)(n:Nat)(a0:α)(k:Nat):(bC δ n a0 k)[0]? =some a0:=by obtain⟨r,h⟩:=oV δ n a0 0 k;rw[Nat.zero_add]at h;rw[h];simp[bC]
theorem oW{δ:α->Nat->α}{n:Nat}{a0:α} :∀{k i:Nat} {a:α},i<k->(bC δ n a0 k)[i]? =some a->∀x,x<n->δ a x∈bC δ n a0 k
 | 0,i,a,h,_,_,_=>by omega
 | k+1,i,a,h,g,x,hx=>by
  rcases Nat.lt_or_ge k (bC δ n a0 k).length with hk | hk
  ·have gk:=List.getElem?_eq_getElem hk;have e:=cD gk;obtain⟨r,e2⟩:=gC δ ((bC δ n a0 k)[k]) n (bC δ n a0 k);by_cases hi:i=k
   ·subst hi;rw[e,e2,List.getElem?_append_left hk,gk]at g;cases g;rw[e,jV];exact .inr ⟨x,hx,rfl⟩
   ·rw[e,e2,List.getElem?_append_left (by omega)]at g;have:=oW (k:=k) (by omega) g x hx;rw[e,e2];exact List.mem_append_left _ this
  ·rw[f0 hk]at g ⊢;refine oW (k:=k) ?_ g x hx;rcases Nat.lt_or_ge i (bC δ n a0 k).length with q | q
   ·omega
   ·rw[List.getElem?_eq_none q]at g;cases g
theorem zG{o:List α}{b:α}(h:o.Nodup):(bP o b).Nodup:=by
 unfold bP;split
 ·exact h
 ·rename_i q;rw[List.nodup_append];refine⟨h,by simp,fun x hx y hy e=>?_⟩;simp at hy;subst hy;subst e;exact q hx
theorem lU{δ:α->Nat->α}{a:α} :∀(x:Nat) {o:List α},o.Nodup->(bI δ a x o).Nodup
 | 0,o,h=>h
 | x+1,o,h=>zG (lU x h)
theorem jY(δ:α->Nat->α)(n:Nat)(a0:α):∀k,(bC δ n a0 k).Nodup
 | 0=>by simp[bC]
 | k+1=>by
  rcases Nat.lt_or_ge k (bC δ n a0 k).length with hk | hk
  ·rw[cD (List.getElem?_eq_getElem hk)];exact lU n (jY δ n a0 k)
  ·rw[f0 hk];exact jY δ n a0 k
theorem qM{δ:α->Nat->α}{Dm:α->Prop}{a:α}{n:Nat}(ha:∀x,x<n->Dm (δ a x)){o:List α}(ho:∀c∈o,Dm c){j:Nat}(hj:j<=n):∀c∈bI δ a j o,Dm c:=by
 intro c hc;rcases(jV δ a c j o).1 hc with h | ⟨y,h1,rfl⟩
 ·exact ho c h
 ·exact ha y (by omega)
theorem iS{δ:α->Nat->α}{n:Nat}{a0:α}{Dm:α->Prop}(h0:Dm a0)(hs:∀a x,Dm a->x<n->Dm (δ a x)):∀k,∀c∈bC δ n a0 k,Dm c
 | 0=>by simp[bC,h0]
 | k+1=>by
  have ih:=iS h0 hs k;rcases Nat.lt_or_ge k (bC δ n a0 k).length with hk | hk
  ·rw[cD (List.getElem?_eq_getElem hk)];exact qM (fun x hx=>hs _ x (ih _ (List.getElem_mem hk)) hx) ih (Nat.le_refl n)
  ·rw[f0 hk];exact ih
def jO(δ:α->Nat->α)(n:Nat)(a0:α)(k:Nat):List (List Int):=((bC δ n a0 k).take k).map (gY δ n (bC δ n a0 k))
theorem lA{δ:α->Nat->α}{n:Nat}{a0:α}{k:Nat}(h:k<=(bC δ n a0 k).length):(jO δ n a0 k).length=k:=by unfold jO;rw[List.length_map,List.length_take];omega
theorem pP{δ:α->Nat->α}{n:Nat}{a0 a:α}{k:Nat}(h:(bC δ n a0 k)[k]? =some a):jO δ n a0 (k+1)=jO δ n a0 k++[gY δ n (bI δ a n (bC δ n a0 k)) a]:=by
 have hk:=aD h;obtain⟨r,e2⟩:=gC δ a n (bC δ n a0 k);unfold jO;rw[cD h];have e3:(bI δ a n (bC δ n a0 k)).take (k+1)=(bC δ n a0 k).take k++[a]:=by rw[e2,List.take_append_of_le_length (by omega),List.take_add_one,h];rfl
 rw[e3,List.map_append];congr 1;refine List.map_congr_left fun b hb=>?_;rw[e2];refine GY fun x hx=>?_;obtain⟨i,hi,hb⟩:=List.mem_iff_getElem.1 hb;rw[List.length_take]at hi;rw[List.getElem_take]at hb;exact oW (k:=k) (i:=i) (by omega) (by rw[List.getElem?_eq_getElem (by omega),hb]) x hx
def FullN(δ:α->Nat->α)(n:Nat)(a0:α)(o:List α):Prop:=∃k,bC δ n a0 k=o/\o.length<=k
def OverN(δ:α->Nat->α)(n:Nat)(a0:α)(bd:Int):Prop:=∃k,bd<((bC δ n a0 k).length:Int)
theorem FullN.eq{δ:α->Nat->α}{n:Nat}{a0:α}{o o':List α}(h:FullN δ n a0 o)(h':FullN δ n a0 o'):o=o':=by obtain⟨k,rfl,h2⟩:=h;obtain⟨k',rfl,h4⟩:=h';have e1:=mQ h2 k';have e2:=mQ h4 k;rw[Nat.add_comm]at e2;rw[<-e1,e2]
theorem FullN.at{δ:α->Nat->α}{n:Nat}{a0:α}{o:List α}(h:FullN δ n a0 o)(k:Nat):∃r,o=bC δ n a0 k++r:=by obtain⟨l,rfl,h2⟩:=h;have e1:=mQ h2 k;obtain⟨r,e2⟩:=oV δ n a0 k l;exact⟨r,by rw[<-e1,Nat.add_comm,e2]⟩
theorem FullN.over{δ:α->Nat->α}{n:Nat}{a0:α}{o:List α}{bd:Int}(h:FullN δ n a0 o)(h':OverN δ n a0 bd):bd<o.length:=by obtain⟨k,h1⟩:=h';obtain⟨r,e⟩:=h.at k;rw[e];simp;omega
theorem FullN.zero{δ:α->Nat->α}{n:Nat}{a0:α}{o:List α}(h:FullN δ n a0 o):o[0]? =some a0:=by obtain⟨k,rfl,_⟩:=h;exact U0 δ n a0 k
theorem FullN.next{δ:α->Nat->α}{n:Nat}{a0 a:α}{o:List α}(h:FullN δ n a0 o)(ha:a∈o){x:Nat}(hx:x<n):δ a x∈o:=by obtain⟨k,rfl,h2⟩:=h;obtain⟨i,hi,e⟩:=List.mem_iff_getElem.1 ha;exact oW (k:=k) (i:=i) (by omega) (by rw[List.getElem?_eq_getElem hi,e]) x hx
theorem FullN.all{δ:α->Nat->α}{n:Nat}{a0:α}{o:List α}{Dm:α->Prop}(h:FullN δ n a0 o)(h0:Dm a0)(hs:∀a x,Dm a->x<n->Dm (δ a x)):∀c∈o,Dm c:=by obtain⟨k,rfl,_⟩:=h;exact iS h0 hs k
def pC(δ:α->Nat->α)(n:Nat)(o:List α):List (List Int):=o.map (gY δ n o)
theorem l9{δ:α->Nat->α}{n:Nat}{a0:α}{k:Nat}(h:(bC δ n a0 k).length<=k):jO δ n a0 k=pC δ n (bC δ n a0 k):=by unfold jO pC;rw[List.take_of_length_le h]
theorem YD{δ:α->Nat->α}{n:Nat}{a0 a:α}{k j:Nat}{bd:Int}(h:(bC δ n a0 k)[k]? =some a)(hj:j<=n)(ho:bd<((bI δ a j (bC δ n a0 k)).length:Int)):OverN δ n a0 bd:=by obtain⟨r,e⟩:=A8 δ a j (bC δ n a0 k) n hj;exact⟨k+1,by rw[cD h,e];simp;omega⟩
end
end Go.Am.Ar

