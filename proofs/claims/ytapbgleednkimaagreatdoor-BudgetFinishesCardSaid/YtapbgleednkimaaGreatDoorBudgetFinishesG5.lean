/- Contracts: one replacement (step), and what goes with it. -/
import Derived.Test.YtapbgleednkimaaGreatDoorBudgetFinishesG4
import Derived.Test.YtapbgleednkimaaGreatDoorPmC
import Derived.Test.YtapbgleednkimaaGreatDoorBudgetFinishesG2
import Derived.Test.YtapbgleednkimaaGreatDoorBudgetFinishesG1
import Derived.Test.YtapbgleednkimaaGreatDoorBudgetFinishesG3
set_option linter.unusedVariables false
set_option linter.unusedSimpArgs false
set_option maxRecDepth 10000
namespace Go.Am.Ar
open Go.Am.PV renaming junk->Zj
open Go.Am renaming pchk->P1,pold->P2,PKNo->P3,ppack->P4,PObj.under->P5,pput->P6,ptset->P7,ptget->P8,pev->P9,ofAV->P10,ofAV1->P11,ppad->P12,pfill->P13,bW->P14,AO.effect->P15
open List renaming replicate->L1
section
variable {α:Type} (M:List α) (x y:α) (l:List α) (i j:Nat)
theorem vF:(M++l)[M.length+j]? =l[j]? :=by rw[List.getElem?_append_right (by omega)];congr 1;omega
theorem yM:(M++l)[M.length]? =l[0]? :=by rw[List.getElem?_append_right (by omega)];congr 1;omega
theorem setK:(M++l).set (M.length+j) y=M++l.set j y:=by rw[List.set_append_right _ _ (by omega)];congr 2;omega
theorem GV:(M++l).set M.length y=M++l.set 0 y:=by rw[List.set_append_right _ _ (by omega)];congr 2;omega
theorem aDg:(M.set i x++l)[M.length+j]? =l[j]? :=by rw[List.getElem?_append_right (by simp)];congr 1;simp
theorem aEz:(M.set i x++l)[M.length]? =l[0]? :=by rw[List.getElem?_append_right (by simp)];congr 1;simp
theorem aEU:(M.set i x++l).set (M.length+j) y=M.set i x++l.set j y:=by rw[List.set_append_right _ _ (by simp)];congr 2;simp
theorem aEp:(M.set i x++l).set M.length y=M.set i x++l.set 0 y:=by rw[List.set_append_right _ _ (by simp)];congr 2;simp
theorem aCc{M:List α}{i:Nat}{a:α}(h:M[i]? =some a)(l:List α)(x:α):(M++l).set i x=M.set i x++l:=by rw[List.set_append_left _ _ (aD h)]
end
theorem aDp{n i:Nat}{M:Mem}{x:PObj}(h:M.all (aI n)=true)(hx:aI n x=true):(M.set i x).all (aI n)=true:=by
 rw[List.all_eq_true]at h ⊢;intro y hy;rcases List.mem_or_eq_of_mem_set hy with q | q
 ·exact h y q
 ·subst q;exact hx
section
variable {tab:FuncId->Option AF} (T:HasA tab)
include T
set_option maxHeartbeats 2000000 in
theorem WX{M:Mem}{K:PV->Mem->Prop}{f1 o1 f2 o2 f3 o3 f4 o4:Bool}{ow pr:List Int}{su:List (List Int)}{ms:List Ms}{i ver:Nat}(V:Valid ow pr su)(B:Bnd ow pr su)(hm:StOk (aQ pr) ow.length ms)
  (hi:M[i]? =some (.cells 0 ver (msL ms))) (hc:M.all (aI M.length)=true)
  (hk1:∀v y,FstN ow.length (gL ow pr su) (Nf (aQ pr) ms) v->y.Ok (aQ pr)->y.num (aQ pr)=gL ow pr su (Nf (aQ pr) ms) v->K (.bool true) (M.set i (.cells 0 (ver+1) (msL (ms.set v y)))))
  (hk2:kS ow.length (gL ow pr su) (Nf (aQ pr) ms)->K (.bool false) M):
  SemC tab 191 [.cp (gT f1 o1 f2 o2 f3 o3 f4 o4 ow pr su) 0,.ref i 0 9 0 ow.length] M K:=by
 have hml:=hm.l;have hil:=aD hi;have hget:=fun l=>bY hi l;have hset:=fun l x=>aCc hi l x;refine zK ?_;refine aT T.h191 ?_;simp only[af191,PP,simprocAttr,PN,List.append_assoc,vF,yM];refine aT T.h152 ?_;simp only[af152,PP,simprocAttr,PN,List.append_assoc,vF,yM];refine f5 rfl (fun lp h1 h2 h3 h4 h5 h6=>?_);simp only[PP,simprocAttr,PN,List.append_assoc];refine RE T (f1:=f1) (o1:=o1) (f2:=f2) (o2:=o2) (f3:=f3) (o3:=o3) (f4:=f4) (o4:=o4) V B (fun k ms' N=>ms'=ms/\(∀u,u<k->gL ow pr su (Nf (aQ pr) ms) u<=Nf (aQ pr) ms u)/\∃G,N=M++(.cells 0 0 [.ref i 0 9 0 ow.length]:: .cells 0 0 [.bool false]:: .cells 0 0 [.cp (gT f1 o1 f2 o2 f3 o3 f4 o4 ow pr su) 0]:: .cells 0 0 [.ref i 0 9 0 ow.length]:: .loop 0 lp::G))
  (fun N=>∃v y G vb vl,FstN ow.length (gL ow pr su) (Nf (aQ pr) ms) v/\y.Ok (aQ pr)/\y.num (aQ pr)=gL ow pr su (Nf (aQ pr) ms) v/\N=M.set i (.cells 0 (ver+1) (msL (ms.set v y)))++(.cells 0 0 [.ref i 0 9 0 ow.length]:: .cells 0 vb [.bool true]:: .cells 0 0 [.cp (gT f1 o1 f2 o2 f3 o3 f4 o4 ow pr su) 0]:: .cells 0 0 [.ref i 0 9 0 ow.length]:: .loop vl {lp with state:= .done,pending:=some .ret} ::G))
  (i:=i) (ms0:=ms) ⟨rfl,fun u h=>by omega,[],rfl⟩ ?_ ?_ ?_ ?_ ?_
 ·rintro k ms' N ⟨rfl,_,G,rfl⟩;exact⟨hm,by rw[vF];rfl,by rw[vF];rfl,⟨ver,hget _⟩,⟨0,lp,by rw[vF];rfl⟩⟩
 ·rintro k ms' N o ⟨rfl,q,G,rfl⟩ hk hle;refine⟨rfl,fun u hu=>?_,G++[o],by simp only[List.append_assoc,List.cons_append]⟩;by_cases e:u=k
  ·subst e;exact hle
  ·exact q u (by omega)
 ·rintro k ms' N y ⟨rfl,q,G,rfl⟩ hk y1 y2 y3 K' hK1 hK2;have k0:(0:Int)<=k:=by omega
  have kn:(k:Int)<ow.length:=by omega
  have kl:k<ms'.length:=by omega
  have k9:k*9+9<=ow.length*9:=by omega
  have hpov:=s9 (l:=ms') y kl;simp only[List.append_assoc,List.cons_append];refine lR (ver:=0) (r:=lp) (by rw[vF];rfl) (by rw[h4];rfl) ?_;rw[h3,h4,h5];refine aA ?_;simp only[gF,PP,simprocAttr,PN,List.append_assoc,vF,yM,setK,GV];refine⟨0,lp,rfl,h1,?_⟩;rw[h6];refine aA ?_;simp only[PP,simprocAttr,PN,List.append_assoc,vF,yM,setK,GV,aDg,aEz,aEU,aEp,hget,hset,k0,kn,k9,hml,hpov];refine⟨1,{lp with state:= .busy},by rw[aDg];simp only[List.getElem?_cons_succ,List.getElem?_cons_zero,h6],?_⟩;rw[if_neg (by intro h;cases h)];refine hK2 _ ⟨k,y,G++[.cells 0 1 (msC y),.cells 0 1 (msC y)],1,2,⟨hk,y3,q⟩,y1,y2,?_⟩;simp only[aEU,List.set_cons_succ,List.set_cons_zero,h6]
 ·rintro ms' N ⟨rfl,q,G,rfl⟩;refine⟨0,lp,by rw[vF];rfl,by rw[h1];exact(by intro h;cases h),?_⟩;rw[h2];simp only[PP,simprocAttr,PN,List.append_assoc,vF,yM,setK,GV];refine⟨_,M,rfl,?_,hk2 q⟩;rw[List.take_left' rfl];exact lD hc
 ·rintro N ⟨v,y,G,vb,vl,q1,q2,q3,rfl⟩;refine⟨vl,{lp with state:= .done,pending:=some .ret},by rw[aDg];rfl,(by intro h;cases h),?_⟩;simp only[PP,simprocAttr,PN,List.append_assoc,aDg,aEz,aEU,aEp];refine⟨_,M.set i (.cells 0 (ver+1) (msL (ms.set v y))),rfl,?_,hk1 v y q1 q2 q3⟩;rw[List.take_left' (by simp)];exact lD (aDp hc (cM _ _))
end
theorem aFn{lp:PLoop}{B:AC}(h1:lp.state= .ready)(h2:lp.pending=none)(hB:lp.body=B):(⟨.ready,none,lp.tmps,lp.params,lp.assign,B⟩:PLoop)=lp:=by cases lp;simp_all
theorem FL{ns:List Nat}{ms:List Ms}{k:Nat}{y:Ms}(hk:k<ms.length):Nf ns (ms.set k y)=kV (Nf ns ms) k (y.num ns):=by
 funext v;unfold Nf kV;simp only[List.getD];by_cases e:v=k
 ·subst e;rw[List.getElem?_set_self hk,if_pos rfl];rfl
 ·rw[List.getElem?_set_ne (by omega),if_neg e]
theorem R0(ns:List Nat)(n:Nat):Nf ns (List.replicate n mz)=fun _=>0:=by
 funext v;unfold Nf;rw[List.getD,List.getElem?_replicate];split
 ·exact YU
 ·exact YU
theorem StOk.set{ns:List Nat}{n k:Nat}{ms:List Ms}{y:Ms}(h:StOk ns n ms)(hy:y.Ok ns):StOk ns n (ms.set k y):=
 ⟨by rw[List.length_set];exact h.l,fun x hx=>by
  rcases List.mem_or_eq_of_mem_set hx with q | q
  ·exact h.ok x q
  ·subst q;exact hy⟩
theorem StOk.zero{ns:List Nat}(h8:ns.length=8)(n:Nat):StOk ns n (List.replicate n mz):=⟨by simp,fun x hx=>by rw[List.eq_of_mem_replicate hx];exact aGK h8⟩
theorem StOk.bnd{ns:List Nat}{n:Nat}{ms:List Ms}(h:StOk ns n ms):∀v,v<n->Nf ns ms v<=mT ns:=fun v hv=>by obtain⟨x,g⟩:=aO (xs:=ms) (k:=v) (by rw[h.l];exact hv);rw[sL g];exact Ms.num_le (h.ok x (List.mem_of_getElem? g))
theorem StOk.eq{ns:List Nat}{n:Nat}{a b:List Ms}(ha:StOk ns n a)(hb:StOk ns n b)(h:∀v,v<n->Nf ns a v=Nf ns b v):a=b:=by
 apply List.ext_getElem?;intro v;by_cases hv:v<n
 ·obtain⟨x,gx⟩:=aO (xs:=a) (k:=v) (by rw[ha.l];exact hv);obtain⟨y,gy⟩:=aO (xs:=b) (k:=v) (by rw[hb.l];exact hv);have:=h v hv;rw[sL gx,sL gy]at this;rw[gx,gy,Ms.inj (ha.ok x (List.mem_of_getElem? gx)) (hb.ok y (List.mem_of_getElem? gy)) this]
 ·rw[List.getElem?_eq_none (by rw[ha.l];omega),List.getElem?_eq_none (by rw[hb.l];omega)]
theorem kU{ow pr:List Int}{su:List (List Int)}(V:Valid ow pr su):Lft ow.length (mT (aQ pr)) (gL ow pr su):=aFq fun v hv=>⟨(aBx V hv).1,(aBx V hv).2.1⟩
structure LeastM (ow pr:List Int) (su:List (List Int)) (ms:List Ms):Prop where
 st:StOk (aQ pr) ow.length ms
 li:LI ow.length (mT (aQ pr)) (gL ow pr su) (Nf (aQ pr) ms)
 pre:kS ow.length (gL ow pr su) (Nf (aQ pr) ms)
theorem LeastM.eq{ow pr:List Int}{su:List (List Int)}{a b:List Ms}(ha:LeastM ow pr su a)(hb:LeastM ow pr su b):a=b:=ha.st.eq hb.st (ha.li.unique ha.pre hb.li hb.pre)
section
variable {tab:FuncId->Option AF} (T:HasA tab)
include T
set_option maxHeartbeats 2000000 in
theorem aCN{M:Mem}{K:PV->Mem->Prop}{f1 o1 f2 o2 f3 o3 f4 o4:Bool}{ow pr:List Int}{su:List (List Int)}(V:Valid ow pr su)(B:Bnd ow pr su)
  (hk:∀ms,LeastM ow pr su ms->K (slM false true ms) M):
  SemC tab 90 [.cp (gT f1 o1 f2 o2 f3 o3 f4 o4 ow pr su) 0] M K:=by
 have n1:=V.n1;have h8:=iO pr;have hL:=kU V;have b0:(0:Int)<=ow.length:=by omega
 have b72:(ow.length:Int)*72<=140737488355328:=by omega
 have b2:(ow.length:Int)<=9223372036854775807:=by omega
 refine bM T.h90 (by simp only[PP,simprocAttr,PN,PV.under]) ?_;simp only[af90];refine aB (aA ?_);simp only[PP,simprocAttr];refine aB (aA ?_);simp only[PP,simprocAttr,PN,b0,b72,b2,Int.le_refl];refine aB (aB (aA ?_));simp only[PP,simprocAttr,PN];refine jZ ?_;have hS0:=StOk.zero h8 ow.length;refine pF (fun(ver vb:Nat) (ch:Bool) (ms:List Ms)=>StOk (aQ pr) ow.length ms/\LI ow.length (mT (aQ pr)) (gL ow pr su) (Nf (aQ pr) ms)/\(ch=false->kS ow.length (gL ow pr su) (Nf (aQ pr) ms)))
  (fun ver vb ch ms=>(.cp (gT f1 o1 f2 o2 f3 o3 f4 o4 ow pr su) 0:: .junk:: .nils:: .ptr 1 0 0:: .ptr 2 0 0::zj 21))
  (fun ver vb ch ms=>[.cells 0 ver (msL ms),.cells 0 1 [.ref 0 0 9 0 ow.length],.cells 0 vb [.bool ch]])
  (fun _ _ ch ms=>2*(ow.length*mT (aQ pr)-mZ ow.length (Nf (aQ pr) ms))+(if ch=true then 1 else 0)) 0 1 true (List.replicate ow.length mz)
  ⟨hS0,by rw[R0];exact LI.zero hL,fun h=>(by cases h)⟩ (by simp only[PW]) rfl ?_
 intro ver vb ch ms ⟨hS,hI,hP⟩ ih;refine VO (by kernel_rfl) ?_;refine aB ?_;refine aA ?_;simp only[PP,simprocAttr]
 cases ch with
 | false=>
  simp only[PP,simprocAttr];refine aA ?_;simp only[PP,simprocAttr,PN];have hps:aY (msL ms) 0 (ow.length*9)=msL ms:=by rw[<-hS.l];exact eZ ms
  have hfz:pW (some (.cells 0 ver (msL ms))) 0 9 0 ow.length=some (slM false true ms):=by rw[cQ (by rw[jA,hS.l];omega) (cM _ _),hps,<-hS.l]
  simp only[hfz,PP,simprocAttr];exact hk ms ⟨hS,hI,hP rfl⟩
 | true=>
  simp only[PP,simprocAttr];refine aB (jZ ?_);refine aB (aA ?_);simp only[PP,simprocAttr];refine aB (aA ?_);simp only[PP,simprocAttr];refine aT T.h152 ?_;simp only[af152,PP,simprocAttr,PN];refine jZ ?_;refine f5 rfl (fun lp h1 h2 h3 h4 h5 h6=>?_);simp only[PP,simprocAttr];refine RE T (f1:=f1) (o1:=o1) (f2:=f2) (o2:=o2) (f3:=f3) (o3:=o3) (f4:=f4) (o4:=o4) V B
   (fun k ms' N=>StOk (aQ pr) ow.length ms'/\LI ow.length (mT (aQ pr)) (gL ow pr su) (Nf (aQ pr) ms')/\∃c v1 v2 vl G,(c=false->ms'=ms/\∀u,u<k->gL ow pr su (Nf (aQ pr) ms) u<=Nf (aQ pr) ms u)/\(c=true->mZ ow.length (Nf (aQ pr) ms)<mZ ow.length (Nf (aQ pr) ms'))/\
    N= .cells 0 v1 (msL ms'):: .cells 0 1 [.ref 0 0 9 0 ow.length]:: .cells 0 v2 [.bool c]:: .cells 0 0 [.cp (gT f1 o1 f2 o2 f3 o3 f4 o4 ow pr su) 0]:: .cells 0 0 [.ref 0 0 9 0 ow.length]:: .loop vl lp::G)
   (fun N=>False) (i:=0) (ms0:=ms) ⟨hS,hI,false,ver,vb+1,0,[],fun _=>⟨rfl,fun u h=>by omega⟩,fun h=>(by cases h),rfl⟩ ?_ ?_ ?_ ?_ ?_
  ·rintro k ms' N ⟨hS',_,c,v1,v2,vl,G,_,_,rfl⟩;exact⟨hS',rfl,rfl,⟨v1,rfl⟩,⟨vl,lp,rfl⟩⟩
  ·rintro k ms' N o ⟨hS',hI',c,v1,v2,vl,G,q1,q2,rfl⟩ hk' hle;refine⟨hS',hI',c,v1,v2,vl,G++[o],fun h=>⟨(q1 h).1,fun u hu=>?_⟩,q2,rfl⟩;by_cases e:u=k
   ·subst e;rw[(q1 h).1]at hle;exact hle
   ·exact(q1 h).2 u (by omega)
  ·rintro k ms' N y ⟨hS',hI',c,v1,v2,vl,G,q1,q2,rfl⟩ hk' y1 y2 y3 K' hK1 hK2;have k0:(0:Int)<=k:=by omega
   have kn:(k:Int)<ow.length:=by omega
   have kl:k<ms'.length:=by rw[hS'.l];exact hk'
   have k9:k*9+9<=ow.length*9:=by omega
   have hpov:=s9 (l:=ms') y kl;have hml:=hS'.l;simp only[List.cons_append];refine lR (ver:=vl) (r:=lp) rfl (by rw[h4];rfl) ?_;rw[h3,h4,h5];refine aA ?_;simp only[gF,PP,simprocAttr,PN,List.append_assoc,vF,yM,setK,GV];refine⟨vl,lp,rfl,h1,?_⟩;rw[h6];refine aA ?_;simp only[PP,simprocAttr,PN,List.append_assoc,vF,yM,setK,GV,k0,kn,k9,hml,hpov];refine⟨_,_,rfl,?_⟩;rw[if_pos rfl];refine hK1 (ms'.set k y) _ ⟨hS'.set y1,?_,true,v1+1,v2+1,vl+1+1,G++[.cells 0 1 (msC y),.cells 0 1 (msC y)],fun h=>(by cases h),fun _=>?_,?_⟩
   ·rw[FL kl,y2];exact hI'.step hL hk'
   ·rw[FL kl,y2];have h1:=qV (n:=ow.length) (m:=Nf (aQ pr) ms') (v:=k) (x:=gL ow pr su (Nf (aQ pr) ms') k) hk' y3
    cases c with
    | false=>rw[(q1 rfl).1]at h1 ⊢;exact h1
    | true=>have:=q2 rfl;omega
   ·simp only[List.set_cons_succ,List.set_cons_zero,aFn h1 h2 h6]
  ·rintro ms' N ⟨hS',hI',c,v1,v2,vl,G,q1,q2,rfl⟩;refine⟨vl,lp,rfl,by rw[h1];exact(by intro h;cases h),?_⟩;rw[h2];simp only[PP,simprocAttr];refine aB (aA ?_);simp only[PP,simprocAttr];refine bB (GStep.drop (b:=(.cp (gT f1 o1 f2 o2 f3 o3 f4 o4 ow pr su) 0:: .junk:: .nils:: .ptr 1 0 0::zj 20++ .bool c:: .junk::[])) 2 (Nat.zero_le _) (by simp) (by simp only[PW]) (by simp only[PP,simprocAttr,PN,PV.under]) (by simp only[List.take_succ_cons,List.take_zero,List.all_cons,List.all_nil,PObj.under,cM,dX,eP,A9,decide_true,Bool.and_self,Nat.zero_lt_succ]) rfl) ?_;simp only[List.take_succ_cons,List.take_zero];refine aA ?_;simp only[PP,simprocAttr];have hb1:=vM (n:=ow.length) (m:=Nf (aQ pr) ms') hI'.bnd;refine bA (ih v1 1 c ms' ⟨hS',hI',fun h=>by rw[(q1 h).1];exact fun v hv=>(q1 h).2 v hv⟩ ?_) (by simp only[PW]) rfl
   cases c with
   | false=>rw[(q1 rfl).1];rw[if_neg (by decide),if_pos rfl];omega
   | true=>have:=q2 rfl;rw[if_pos rfl];omega
  ·intro N h;exact h.elim
end
end Go.Am.Ar
--P14
namespace Go.Am.Ar
open Go.Am.PV renaming junk->Zj
open Go.Am renaming pchk->P1,pold->P2,PKNo->P3,ppack->P4,PObj.under->P5,pput->P6,ptset->P7,ptget->P8,pev->P9,ofAV->P10,ofAV1->P11,ppad->P12,pfill->P13,bW->P14,AO.effect->P15
open List renaming replicate->L1
def MeasA(ow pr:List Int)(su:List (List Int))(ms:List Ms)(e:Int):Prop:=(¬bG ow pr su=0/\ms=[]/\e=bG ow pr su)\/(bG ow pr su=0/\e=0/\LeastM ow pr su ms)
def t8(ow pr:List Int)(su:List (List Int))(k:Int)(ms:List Ms)(b:Bool)(e:Int):Prop:=
 (¬bG ow pr su=0/\ms=[]/\b=false/\e=bG ow pr su)\/(bG ow pr su=0/\k<0/\ms=[]/\b=false/\e=1)\/
 (bG ow pr su=0/\0<=k/\StOk (aQ pr) ow.length ms/\Nf (aQ pr) ms=itN ow.length (gL ow pr su) k.toNat/\(b=true↔kS ow.length (gL ow pr su) (Nf (aQ pr) ms))/\e=0)
theorem MeasA.eq{ow pr:List Int}{su:List (List Int)}{ms ms':List Ms}{e e':Int}(h:MeasA ow pr su ms e)(h':MeasA ow pr su ms' e'):ms=ms'/\e=e':=by
 rcases h with⟨a1,a2,a3⟩ | ⟨a1,a2,a3⟩<;>rcases h' with⟨b1,b2,b3⟩ | ⟨b1,b2,b3⟩
 ·exact⟨a2.trans b2.symm,a3.trans b3.symm⟩
 ·exact absurd b1 a1
 ·exact absurd a1 b1
 ·exact⟨a3.eq b3,a2.trans b2.symm⟩
theorem aBY(e:Int):PvWk (.tuple [.nils,p64 e]) (.tuple [slM false true [],p64 e]):=by
 refine PvWk.tuple rfl fun i y z h1 h2=>?_
 match i with
 | 0=>cases h1;cases h2;exact PvWk.nils _ _ _
 | 1=>cases h1;cases h2;exact PvWk.refl _
 | i+2=>simp at h1
theorem aEA{g v n:Nat}{ms:List Ms}(h:ms.length=n):pW (some (.cells g v (msL ms))) g 9 0 n=some (slM false true ms):=by subst h;rw[cQ (by rw[jA];omega) (cM _ _),eZ]
section
variable {tab:FuncId->Option AF} (T:HasA tab)
include T
theorem L8{M:Mem}{K:PV->Mem->Prop}{f1 o1 f2 o2 f3 o3 f4 o4:Bool}{ow pr:List Int}{su:List (List Int)}(B:Bnd ow pr su)
  (hk:∀ms e,MeasA ow pr su ms e->K (.tuple [slM false true ms,p64 e]) M):
  SemC tab 35 [gmP f1 o1 f2 o2 f3 o3 f4 o4 ow pr su] M K:=by
 refine fS ?_;refine aE T.h35 (by simp only[PP,P14,simprocAttr,PN,PV.under]) ?_;simp only[af35,PP,P14,simprocAttr];refine wC T B ?_;simp only[PP,P14,simprocAttr];refine QIf.intro (fun c1=>?_) (fun c1=>?_);rotate_left
 ·simp only[PP,P14,simprocAttr,PN,c1];exact⟨_,aBY _,hk [] _ (.inl ⟨c1,rfl,rfl⟩)⟩
 have V:=dP c1;simp only[PP,P14,simprocAttr,PN,c1];refine nR T (nA V) ?_;simp only[PP,P14,simprocAttr,PN];refine aCN T V B (fun ms hms=>?_);simp only[PP,P14,simprocAttr,PN];exact⟨_,PvWk.refl _,hk ms 0 (.inr ⟨c1,rfl,hms⟩)⟩
end
end Go.Am.Ar
--P14
namespace Go.Am.Ar
open Go.Am.PV renaming junk->Zj
open Go.Am renaming pchk->P1,pold->P2,PKNo->P3,ppack->P4,PObj.under->P5,pput->P6,ptset->P7,ptget->P8,pev->P9,ofAV->P10,ofAV1->P11,ppad->P12,pfill->P13,bW->P14,AO.effect->P15
open List renaming replicate->L1
section
variable {tab:FuncId->Option AF} (T:HasA tab)
include T
set_option maxHeartbeats 1000000 in
theorem aAX{K:PV->Mem->Prop}{f1 o1 f2 o2 f3 o3 f4 o4:Bool}{ow pr:List Int}{su:List (List Int)}{n:Int}(B:Bnd ow pr su)(hn:n<=9223372036854775807)
  (c1:bG ow pr su=0) (c2:¬n<0)
  (hk:∀ms b v X,t8 ow pr su n ms b 0->K (.tuple [.ref 1 0 9 0 ow.length,.bool b,p64 0]) [X,.cells 0 v (msL ms)]):
  SemC tab 159 [gmP f1 o1 f2 o2 f3 o3 f4 o4 ow pr su,p64 n] [] K:=by
 refine dC (dV T.h159 ?_);simp only[af159];refine aB (aA ?_);simp only[PP,P14,simprocAttr];refine aB (aA ?_);simp only[PP,P14,simprocAttr];refine wC T B ?_;simp only[PP,P14,simprocAttr];refine QIf.intro (fun c1'=>?_) (fun c1'=>?_);rotate_left
 ·exact absurd c1 c1'
 have V:=dP c1;have n0:=V.n0;have n1:=V.n1;have hL:=kU V;have b0:(0:Int)<=ow.length:=by omega
 have b72:(ow.length:Int)*72<=140737488355328:=by omega
 have b2:(ow.length:Int)<=9223372036854775807:=by omega
 simp only[PP,P14,simprocAttr,PN,c1];refine aB (aA ?_);simp only[PP,P14,simprocAttr,PN];refine QIf.intro (fun c2'=>?_) (fun c2'=>?_)
 ·exact absurd c2' c2
 simp only[PP,P14,simprocAttr,PN,c2];refine aB (aA ?_);simp only[PP,P14,simprocAttr,PN];refine nR T (nA V) ?_;simp only[PP,P14,simprocAttr,PN];refine aB (aA ?_);simp only[PP,P14,simprocAttr,PN,b0,b72,b2,Int.le_refl];refine aB (C3 (Qn:=fun b N=>∃ver ms,StOk (aQ pr) ow.length ms/\Nf (aQ pr) ms=itN ow.length (gL ow pr su) n.toNat/\PWeak b (zj 4++ .ref 1 0 9 0 ow.length::zj 3++ .cp (gT f1 o1 f2 o2 f3 o3 f4 o4 ow pr su) 0::zj 27)/\N=[.cells 0 0 [slI f1 o1 .u8 ow,slI f2 o2 .i64 pr,slR f3 o3 f4 o4 .i64 su],.cells 0 ver (msL ms)]) ?_ ?_ (fun _ _ h=>h) (fun _ _ _ h=>h))
 ·refine aB (aA ?_);simp only[PP,P14,simprocAttr,PN];refine jZ ?_;have k0:0<=n:=by omega
  refine nV (fun(j ver:Nat) (ms:List Ms)=>(j:Int)<=n/\StOk (aQ pr) ow.length ms/\Nf (aQ pr) ms=itN ow.length (gL ow pr su) j)
   (fun j ver ms=>(zj 4++ .ref 1 0 9 0 ow.length::zj 3++ .cp (gT f1 o1 f2 o2 f3 o3 f4 o4 ow pr su) 0::zj 13++p64 n::p64 j::zj 12))
   (fun j ver ms=>[.cells 0 0 [slI f1 o1 .u8 ow,slI f2 o2 .i64 pr,slR f3 o3 f4 o4 .i64 su],.cells 0 ver (msL ms)]) (fun j _ _=>n.toNat-j) 0 0 (List.replicate ow.length mz) ⟨k0,StOk.zero (iO pr) _,R0 _ _⟩ (by simp only[PW]) rfl ?_
  intro j ver ms ⟨hle,hS,hN⟩ ih;refine aM (by kernel_rfl) ?_;simp only[PP,P14,simprocAttr];refine QIf.intro (fun c=>?_) (fun c=>?_)
  ·have hwj:IntKind.i64.wrap ((j:Int)+1)=((j+1:Nat):Int):=by rw[wrap64 (x:=(j:Int)+1) (by omega) (by omega)];omega
   simp only[PP,P14,simprocAttr,c];refine WX T V B hS rfl (by simp only[List.all_cons,List.all_nil,aI,aP,aR,dX,eP,dQ,kW,cM,Bool.and_self]) (fun v y q1 q2 q3=>?_) (fun q=>?_)
   ·have hv:v<ms.length:=by rw[hS.l];exact q1.1
    simp only[PP,P14,simprocAttr,PN,hwj];refine aG (ih (j+1) (ver+1) (ms.set v y) ⟨by omega,hS.set q2,?_⟩ (by omega)) (by simp only[PW]);show _=qY ow.length (gL ow pr su) (itN ow.length (gL ow pr su) j);rw[FL hv,q3,hN,oG (by rw[<-hN];exact q1)]
   ·simp only[PP,P14,simprocAttr,PN];refine⟨ver,ms,hS,?_,(by simp only[PW]),rfl⟩;rw[hN]at q ⊢;obtain⟨d,hd⟩:∃d,n.toNat=j+d:=⟨n.toNat-j,by omega⟩;rw[hd,QU q]
  ·have hjn:n=(j:Int):=by omega
   subst hjn;simp only[PP,P14,simprocAttr,c];exact⟨ver,ms,hS,hN,(by simp only[PW]),rfl⟩
 ·rintro b N ⟨ver,ms,hS,hN,hw,rfl⟩;refine aG ?_ hw;refine aA ?_;simp only[PP,P14,simprocAttr,PN];refine aT T.h60 ?_;have hn0:¬ow.length=0:=by omega
  have c72:ow.length*72<=140737488355328:=by omega
  have c2':ow.length<=9223372036854775807:=by omega
  have hps:aY (msL ms) 0 (ow.length*9)=msL ms:=by rw[<-hS.l];exact eZ ms
  have hle9:ow.length*9<=ms.length*9:=by rw[hS.l];omega
  simp only[af60,PP,P14,simprocAttr,PN,hn0,c72,c2',hps,hle9];refine WX T V B hS rfl (by simp only[List.all_cons,List.all_nil,aI,aP,aR,dX,eP,dQ,kW,cM,Bool.and_self]) (fun v y q1 q2 q3=>?_) (fun q=>?_)
  ·simp only[PP,P14,simprocAttr,PN,aEA hS.l];refine Gh.step (GStep.dropM (b:=[.tuple [.ref 1 0 9 0 ow.length,.bool false,p64 0]]) (N:=[.cells 0 0 [slI f1 o1 .u8 ow,slI f2 o2 .i64 pr,slR f3 o3 f4 o4 .i64 su],.cells 0 ver (msL ms)]) 2 (Nat.zero_le _) (by simp) (by simp only[PW]) (by simp[aC,PV.under]) ?_ rfl) (Gh.same ⟨_,rfl,hk ms false ver _ (.inr (.inr ⟨c1,by omega,hS,hN,⟨fun h=>(by cases h),fun h=>?_⟩,rfl⟩))⟩)
   ·simp[aI,aC,PV.under,aP,aR,cM]
   ·have:=h v q1.1;have:=q1.2.1;omega
  ·simp only[PP,P14,simprocAttr,PN,aEA hS.l];refine Gh.step (GStep.dropM (b:=[.tuple [.ref 1 0 9 0 ow.length,.bool true,p64 0]]) (N:=[.cells 0 0 [slI f1 o1 .u8 ow,slI f2 o2 .i64 pr,slR f3 o3 f4 o4 .i64 su],.cells 0 ver (msL ms)]) 2 (Nat.zero_le _) (by simp) (by simp only[PW]) (by simp[aC,PV.under]) ?_ rfl) (Gh.same ⟨_,rfl,hk ms true ver _ (.inr (.inr ⟨c1,by omega,hS,hN,⟨fun _=>q,fun _=>rfl⟩,rfl⟩))⟩)
   ·simp[aI,aC,PV.under,aP,aR,cM]
end
def dgT(n:Nat):List UInt8:=(lH n).data.toList
theorem Q6:((List.range 100).all fun a=>(dgT a).all (fun b=> !(b==32))&&decide ((dgT a).length<=2))=true:=by decide+kernel
theorem E4{n:Nat}(h:n<100):∀b∈dgT n,b≠32:=fun b hb=>by have:=(List.all_eq_true.1 Q6) n (List.mem_range.2 h);simp only[Bool.and_eq_true]at this;have:=(List.all_eq_true.1 this.1) b hb;simpa using this
theorem wA{n:Nat}(h:n<100):(dgT n).length<=2:=by have:=(List.all_eq_true.1 Q6) n (List.mem_range.2 h);simp only[Bool.and_eq_true,decide_eq_true_eq]at this;exact this.2
theorem Q5{a b:Nat}(ha:a<100)(hb:b<100)(h:dgT a=dgT b):a=b:=by refine aAa ha hb ?_;apply ByteArray.ext;apply Array.ext';exact h
def dR(r:List Int):List UInt8:=r.flatMap fun x=>32::dgT x.toNat
def AB:List Int->List UInt8
 | []=>[]
 | c::r=>dgT c.toNat++dR r
theorem KN(r:List Int)(x:Int):dR (r++[x])=dR r++32::dgT x.toNat:=by simp[dR]
theorem SJ{r:List Int}(h:∀x∈r,0<=x/\x<100):(dR r).length<=3*r.length:=by
 induction r with
 | nil=>simp[dR]
 | cons x r ih=>have h1:=wA (n:=x.toNat) (by have:=h x (by simp);omega);have h2:=ih fun y hy=>h y (by simp[hy]);unfold dR at h2 ⊢;simp only[List.flatMap_cons,List.length_append,List.length_cons];omega
theorem DI:∀{u v:List UInt8} {r s:List Int},(∀b∈u,b≠32)->(∀b∈v,b≠32)->u++dR r=v++dR s->u=v/\dR r=dR s
 | [],[],r,s,_,_,h=>⟨rfl,h⟩
 | [],b::v,r,s,_,hv,h=>by
  cases r with
  | nil=>simp[dR]at h
  | cons x r=>simp only[dR,List.flatMap_cons,List.nil_append,List.cons_append,List.cons.injEq]at h;exact absurd h.1.symm (hv b (by simp))
 | b::u,[],r,s,hu,_,h=>by
  cases s with
  | nil=>simp[dR]at h
  | cons x s=>simp only[dR,List.flatMap_cons,List.nil_append,List.cons_append,List.cons.injEq]at h;exact absurd h.1 (hu b (by simp))
 | b::u,c::v,r,s,hu,hv,h=>by simp only[List.cons_append,List.cons.injEq]at h;obtain⟨h1,h2⟩:=DI (fun x hx=>hu x (by simp[hx])) (fun x hx=>hv x (by simp[hx])) h.2;exact⟨by rw[h.1,h1],h2⟩
theorem BH:∀{r s:List Int},(∀x∈r,0<=x/\x<100)->(∀x∈s,0<=x/\x<100)->dR r=dR s->r=s
 | [],[],_,_,_=>rfl
 | [],x::s,_,_,h=>by simp[dR]at h
 | x::r,[],_,_,h=>by simp[dR]at h
 | x::r,y::s,hr,hs,h=>by have hx:=hr x (by simp);have hy:=hs y (by simp);have h:(32::dgT x.toNat)++dR r=(32::dgT y.toNat)++dR s:=h;simp only[List.cons_append,List.cons.injEq,true_and]at h;obtain⟨h1,h2⟩:=DI (E4 (by omega)) (E4 (by omega)) h;have e:=Q5 (by omega) (by omega) h1;rw[show x=y by omega,BH (fun z hz=>hr z (by simp[hz])) (fun z hz=>hs z (by simp[hz])) h2]
def R1(l:List Int):Prop:=l≠[]/\∀x∈l,0<=x/\x<100
def II(l:List Int):ByteArray:=⟨(AB l).toArray⟩
theorem ZR:∀{a b:List Int},R1 a->R1 b->II a=II b->a=b
 | [],_,h,_,_=>absurd rfl h.1
 | _::_,[],_,h,_=>absurd rfl h.1
 | x::r,y::s,ha,hb,h=>by
  have h:dgT x.toNat++dR r=dgT y.toNat++dR s:=by have:=congrArg (fun q:ByteArray=>q.data.toList) h;simpa [II,AB]using this
  have hx:=ha.2 x (by simp);have hy:=hb.2 y (by simp);obtain⟨h1,h2⟩:=DI (E4 (by omega)) (E4 (by omega)) h;have e:=Q5 (by omega) (by omega) h1;rw[show x=y by omega,BH (fun z hz=>ha.2 z (by simp[hz])) (fun z hz=>hb.2 z (by simp[hz])) h2]
def cN(nx:List (List Int))(c:List Int)(s:Nat):List Int:=c.getD s 0::((nx[s]?).getD []).map fun t=>c.getD t.toNat 0
def rfN(nx:List (List Int))(c:List Int):List Int:=jP (fun _ y=>cN nx c y) ([]:List Int) [] nx.length
def iT(D:DF):List Int:=(List.range D.nx.length).map fun s=>if(D.fi.getD s false)=(D.fi.getD 0 false)then 0 else 1
def aX(D:DF):Nat->List Int
 | 0=>iT D
 | k+1=>rfN D.nx (aX D k)
theorem rD(nx:List (List Int))(c:List Int):(rfN nx c).length=nx.length:=fK ..
theorem cR(D:DF):∀k,(aX D k).length=D.nx.length
 | 0=>by simp[aX,iT]
 | k+1=>rD ..
theorem aCe{α:Type} [DecidableEq α](δ:α->Nat->α)(a:α)(n:Nat):∀x∈jP δ a [] n,0<=x/\x<n:=fun x hx=>by unfold jP at hx;obtain⟨y,hy,rfl⟩:=List.mem_map.1 hx;have hy:=List.mem_range.1 hy;have hm:δ a y∈bI δ a n []:=(jV _ _ _ _ _).2 (.inr ⟨y,hy,rfl⟩);have h1:=List.idxOf_lt_length_of_mem hm;have h2:=pX δ a [] n;have h3:=jW δ a [] n;rw[List.nil_append]at h3;rw[h3]at h1 ⊢;omega
theorem aE2(nx:List (List Int))(c:List Int):∀x∈rfN nx c,0<=x/\x<nx.length:=fun x hx=>aCe _ _ _ x hx
theorem aCf{D:DF}(h:D.nx.length<=99):∀k,∀x∈aX D k,0<=x/\x<100
 | 0,x,hx=>by unfold aX iT at hx;obtain⟨y,hy,rfl⟩:=List.mem_map.1 hx;split<;>omega
 | k+1,x,hx=>by have:=aE2 _ _ x hx;omega
theorem s6{D:DF}{k:Nat}(h:aX D (k+1)=aX D k):∀j,aX D (k+j)=aX D k
 | 0=>rfl
 | j+1=>by show rfN D.nx (aX D (k+j))=_;rw[s6 h j];exact h
theorem EW{c:List Int}{b:Int}(hb:0<b)(h:∀x∈c,0<=x/\x<b)(k:Nat):0<=c.getD k 0/\c.getD k 0<b:=by
 rw[List.getD]
 cases hx:c[k]? with
 | none=>simp;exact hb
 | some x=>simpa using h x (List.mem_of_getElem? hx)
theorem IF(nx:List (List Int)){c:List Int}(h:∀x∈c,0<=x/\x<100)(s:Nat):R1 (cN nx c s):=by
 refine⟨by simp[cN],fun x hx=>?_⟩;unfold cN at hx;rcases List.mem_cons.1 hx with rfl | hx
 ·exact EW (by omega) h s
 ·obtain⟨t,_,rfl⟩:=List.mem_map.1 hx;exact EW (by omega) h _
theorem JI(l:List UInt8):(eD l).all PV.one=true:=by rw[List.all_eq_true];intro x hx;obtain⟨c,_,rfl⟩:=List.mem_map.1 hx;rfl
theorem aAM(n:Nat):(lH n).data.toList.map (fun b:UInt8=>PV.int .u8 ((b.toNat:Nat):Int))=eD (dgT n):=rfl
section
variable {tab:FuncId->Option AF} (T:HasA tab)
include T
theorem aDG{M:Mem}{K:PV->Mem->Prop}{c:Int}(h0:0<=c)(h1:c<100)(hk:K (.ref M.length 0 1 0 (dgT c.toNat).length) (M++[.cells 0 0 (eD (dgT c.toNat))])):
  SemC tab 188 [.nils,p64 c,p64 10] M K:=by
 have hu:IntKind.u64.wrap c=c:=by unfold IntKind.wrap;simp[IntKind.bits,IntKind.signed];omega
 have hi:IntKind.i64.wrap c=((c.toNat:Nat):Int):=by rw[wrap64]<;>omega
 have hn:¬c<0:=by omega
 have hl:=wA (n:=c.toNat) (by omega);have hsz:(lH c.toNat).size=(dgT c.toNat).length:=rfl;have b1:(dgT c.toNat).length<=140737488355328:=by omega
 have b2:(dgT c.toNat).length<=9223372036854775807:=by omega
 refine aT T.h188 ?_;simp only[af188,PP,simprocAttr];refine aT T.h218 ?_;simp only[af218,PP,simprocAttr,hu,hn];refine aT T.h177 ?_;simp only[af177,PP,simprocAttr,hi,h1];refine PF T (by omega) ?_;simp only[PP,simprocAttr,hsz,b1,b2];exact⟨JI _,hk⟩
theorem aDF{M:Mem}{K:PV->Mem->Prop}{c:Int}{id g v:Nat}{l:List UInt8}(hM:M[id]? =some (.cells g v (eD l)))(hl0:l.length<1000000000)(h0:0<=c)(h1:c<100)(hk:K (.ref id (g+1) 1 0 (l++dgT c.toNat).length) (M.set id (.cells (g+1) 0 (eD (l++dgT c.toNat))))):
  SemC tab 188 [.ref id g 1 0 l.length,p64 c,p64 10] M K:=by
 have hu:IntKind.u64.wrap c=c:=by unfold IntKind.wrap;simp[IntKind.bits,IntKind.signed];omega
 have hi:IntKind.i64.wrap c=((c.toNat:Nat):Int):=by rw[wrap64]<;>omega
 have hn:¬c<0:=by omega
 have hl:=wA (n:=c.toNat) (by omega);have hsz:(lH c.toNat).size=(dgT c.toNat).length:=rfl;have b1:l.length+(dgT c.toNat).length<=140737488355328:=by omega
 have b2:l.length+(dgT c.toNat).length<=9223372036854775807:=by omega
 have b3:l.length<=(eD l).length:=by simp
 have b4:0<(dgT c.toNat).length\/l.length=(eD l).length:= .inr (by simp);refine aT T.h188 ?_;simp only[af188,PP,simprocAttr];refine aT T.h218 ?_;simp only[af218,PP,simprocAttr,hu,hn];refine aT T.h177 ?_;simp only[af177,PP,simprocAttr,hi,h1];refine PF T (by omega) ?_;simp only[PP,simprocAttr,hM,hsz,b1,b2,b3,b4];rw[aAM];refine⟨JI _,?_⟩;rw[List.length_append]at hk;have e:eD l++eD (dgT c.toNat)=eD (l++dgT c.toNat):=by simp[eD]
 rw[e];exact hk
set_option maxHeartbeats 1000000 in
theorem aDC{M:Mem}{K:PV->Mem->Prop}{f1 o1 f2 o2 f3 o3:Bool}{D:DF}(B:BnD D)(hf:D.fi.length=D.nx.length)(h0:0<D.nx.length)(hk:K (slI false true .i64 (iT D)) M):
  SemC tab 148 [.agg (dfC f1 o1 f2 o2 f3 o3 D)] M K:=by
 have hb:D.nx.length<1000000000000:=B.n;have b1:(D.nx.length:Int)*8<=140737488355328:=by omega
 have b2:(D.nx.length:Int)<=9223372036854775807:=by omega
 have nn:(0:Int)<=(D.nx.length:Int):=by omega
 obtain⟨z,gz⟩:=aO (xs:=D.fi) (k:=0) (by omega);have z0:(0:Int)<D.fi.length:=by omega
 refine aE T.h148 (by simp only[PP,simprocAttr]) ?_;simp only[af148,PP,simprocAttr,b1,b2,nn,Int.le_refl];refine gU (fun(k v:Nat)=>k<=D.nx.length) (fun k v=>(.junk:: .ptr 0 0 0:: .junk:: .ref 1 0 1 0 D.nx.length::zj 6++p64 D.nx.length::p64 k::zj 17))
  (fun k v=>[.cells 0 0 (dfC f1 o1 f2 o2 f3 o3 D),.cells 0 v (((iT D).take k++List.replicate (D.nx.length-k) 0).map p64)]) (fun k v=>D.nx.length-k) 0 0 (by omega) (by simp only[PW]) (by simp[B2]) ?_
 intro k v hk' ih;have hbl:(iT D).length=D.nx.length:=cR D 0;refine aM (by kernel_rfl) ?_;simp only[PP,simprocAttr];refine QIf.intro (fun c=>?_) (fun c=>?_);rotate_left
 ·obtain rfl:k=D.nx.length:=by omega
  rw[Nat.sub_self,List.replicate_zero,List.take_of_length_le (by omega)];have hfz:pW (some (PObj.cells 0 v ((iT D).map p64))) 0 1 0 D.nx.length=some (slI false true .i64 (iT D)):=by
   rw[cQ (by simp[hbl]) (aP _ _ _),aU _ _ (by simp[hbl])];simp only[slI,hbl]
  simp only[PP,simprocAttr,c,hfz];exact hk
 have hlt:k<D.nx.length:=by omega
 have k0:(0:Int)<=k:=by omega
 have kf:(k:Int)<D.fi.length:=by omega
 have hw:=aH (k:=k) (by show _<1000000000000;omega);obtain⟨b,gb⟩:=aO (xs:=D.fi) (k:=k) (by omega);have hat:(iT D)[k]? =some (if b=z then 0 else 1):=by
  unfold iT;rw[List.getElem?_map,List.getElem?_range hlt];simp[List.getD,gb,gz]
 have htk:=bL hat;have hrep:List.replicate (D.nx.length-k) (0:Int)=0::List.replicate (D.nx.length-(k+1)) 0:=by rw[show D.nx.length-k=(D.nx.length-(k+1))+1 by omega,List.replicate_succ]
 have hcl:((iT D).take k).length=k:=by rw[List.length_take];omega
 simp only[PP,simprocAttr,c,k0,kf,gb,gz,z0];by_cases hbz:b=z
 ·rw[if_pos hbz]at htk;have he:(b==z)=true:=by rw[hbz];simp
  simp only[PP,simprocAttr,he,hw];refine bA (ih (k+1) v (by omega) (by omega)) (by simp only[PW]) ?_;rw[htk,hrep];simp only[List.map_append,List.map_cons,List.map_nil,List.append_assoc,List.cons_append,List.nil_append]
 ·rw[if_neg hbz]at htk;have he:(b==z)=false:=beq_false_of_ne hbz;have hkl2:k+1<=k+(D.nx.length-k):=by omega
  have hkl3:k<D.nx.length:=hlt;simp only[PP,simprocAttr,he,hw,c,k0,hcl,hkl2,hkl3];refine bA (ih (k+1) (v+1) (by omega) (by omega)) (by simp only[PW]) ?_;rw[htk,hrep,List.set_append_right _ _ (by rw[List.length_map,hcl];exact Nat.le_refl _)];simp only[List.map_append,List.map_cons,List.map_nil,List.append_assoc,List.cons_append,List.nil_append,List.length_map,hcl,Nat.sub_self,List.set_cons_zero]
end
theorem JG(i v v':Nat)(e e':List (PV×PV))(R:Mem):b9 i (.map v e::R) (.map v' e'::R)=if v=v' then []else [i]:=by unfold b9;simp only[kZ,mN,beq_iff_eq]
section
variable {tab:FuncId->Option AF} (T:HasA tab)
include T
theorem aCG{M:Mem}{K:PV->Mem->Prop}{f1 o1 f2 o2 f3 o3:Bool}{D:DF}(hk:K (.func (.func 217) [] [.cp (dfC f1 o1 f2 o2 f3 o3 D) 0]) M):
  SemC tab 187 [.agg (dfC f1 o1 f2 o2 f3 o3 D)] M K:=by
 refine bM T.h187 (by simp only[PP,simprocAttr]) ?_;simp only[af187];refine aB (aA ?_);simp only[PP,simprocAttr];refine bB (GStep.freezeP (b:=(.junk:: .cp (dfC f1 o1 f2 o2 f3 o3 D) 0:: .nilfunc:: .junk::[])) 0 (Nat.zero_le _) rfl (by simp only[kK,kL,List.cons_append,List.nil_append,cF,bU,bT,cE]) rfl) ?_;refine aA ?_;have e:∀N':Mem,fG 0 N' (.func (.func 217) [] [.cp (dfC f1 o1 f2 o2 f3 o3 D) 0])=some (.func (.func 217) [] [.cp (dfC f1 o1 f2 o2 f3 o3 D) 0]):=fun N'=>nN (M:=N') (by simp only[PP,simprocAttr,PV.under]);simp only[PP,simprocAttr,e];exact hk
set_option maxHeartbeats 1000000 in
theorem YY{M:Mem}{K:PV->Mem->Prop}{L:Nat}{f1 o1 f2 o2 f3 o3:Bool}{D:DF}(hb:D.nx.length<1000000000000)(J:Nat->Mem->Prop)(h0:J 0 M)
  (hl:∀k G,J k G->∃ver r,G[L]? =some (.loop ver r))
  (hy:∀k G row,J k G->D.nx[k]? =some row->∀K':PV->Mem->Prop,(∀G',J (k+1) G'->K' (.bool true) G')->JR tab L [p64 k,slI f2 o2 .i64 row] G K')
  (hk:∀G,J D.nx.length G->K (.tuple []) G):
  SemC tab 217 [.yld L [],.cp (dfC f1 o1 f2 o2 f3 o3 D) 0] M K:=by
 refine aT T.h217 ?_;simp only[af217,PP,simprocAttr];refine gU (fun(i:Nat) (G:Mem)=>i<=D.nx.length/\J i G) (fun i G=>(.yld L []::zj 5++slR f1 o1 f2 o2 .i64 D.nx::p64 D.nx.length::p64 i::zj 10)) (fun _ G=>G) (fun i _=>D.nx.length-i) 0 M ⟨by omega,h0⟩ (by simp only[PW]) rfl ?_;intro i G ⟨hle,hJ⟩ ih;refine aM (by kernel_rfl) ?_;simp only[PP,simprocAttr];refine QIf.intro (fun c=>?_) (fun c=>?_);rotate_left
 ·obtain rfl:i=D.nx.length:=by omega
  simp only[PP,simprocAttr,c];exact hk G hJ
 have hi':i<D.nx.length:=by omega
 obtain⟨e,ge⟩:=aO hi';have hw:=aH (k:=i) (by show _<1000000000000;omega);have i0:(0:Int)<=i:=by omega
 simp only[PP,simprocAttr,c,i0,ge,zN];refine⟨hl _ _ hJ,?_⟩;refine hy _ _ e hJ ge _ fun G' hJ'=>?_;simp only[PP,simprocAttr,hw];exact bA (ih (i+1) G' ⟨by omega,hJ'⟩ (by omega)) (by simp only[PW]) rfl
theorem aFH{α:Type} [DecidableEq α]{κ:α->ByteArray}{Dm:α->Prop}(hinj:∀a b,Dm a->Dm b->κ a=κ b->a=b){o:List α}{b:α}(hb:Dm b)(ho:∀a∈o,Dm a)
  {N:Mem} {K:PV->Mem->Prop} {i j ver vb:Nat} (hi:N[i]? =some (.map ver (smE (eM κ 0 o)))) (hj:N[j]? =some (.cells 0 vb [.map i]))
  (hk:∀ver',K (p64 ((bP o b).idxOf b:Nat)) (N.set i (.map ver' (smE (eM κ 0 (bP o b)))))):
  SemC tab 186 [.str (κ b),.ptr j 0 0] N K:=by
 have hlk:=lE hinj hb o 0 ho;refine aT T.h186 ?_;simp only[af186,PP,simprocAttr,PT,hi,hj];by_cases hm:b∈o
 ·rw[if_pos hm]at hlk;have e:bP o b=o:=by unfold bP;rw[if_pos hm]
  have h:=hk ver;rw[e]at h;have hs:N.set i (.map ver (smE (eM κ 0 o)))=N:=by
   refine List.ext_getElem? fun x=>?_;by_cases hx:i=x
   ·subst hx;rw[List.getElem?_set_self (aD hi),hi]
   ·rw[List.getElem?_set_ne hx]
  rw[hs]at h;simp only[PP,simprocAttr,PT,hlk];exact h
 ·rw[if_neg hm]at hlk;have e:bP o b=o++[b]:=by unfold bP;rw[if_neg hm]
  have h:=hk (ver+1);have e2:=oN κ b o 0;rw[Nat.zero_add]at e2;have e3:(o++[b]).idxOf b=o.length:=by rw[List.idxOf_append,if_neg hm];simp
  rw[e,e3]at h;have hl0:=gJ κ o 0;have hp:=q9 (κ b) (p64 o.length) (eM κ 0 o) hlk;rw[e2]at hp;simp only[PP,simprocAttr,PT,hlk,hi,hj,hl0,hp];exact h
end
abbrev tN(nx:List (List Int))(c:List Int):List Int->Nat->List Int:=fun _ y=>cN nx c y
abbrev aE7(nx:List (List Int))(c:List Int)(k vm v ver:Nat)(lp:PLoop):Mem:=
 [.gone,.gone,.map vm (smE (eM II 0 (bI (tN nx c) [] k []))),.cells 0 1 [.map 2],.cells 0 1 [.func (.func 186) [] [.ptr 3 0 0]],.cells 0 v ((jP (tN nx c) [] [] k++List.replicate (nx.length-k) 0).map p64),.cells 0 1 [.ref 5 0 1 0 nx.length],.loop ver lp]
section
variable {tab:FuncId->Option AF} (T:HasA tab)
include T
set_option maxHeartbeats 2000000 in
theorem XI{M:Mem}{K:PV->Mem->Prop}{f1 o1 f2 o2 f3 o3 f o:Bool}{D:DF}{c:List Int}(B:BnD D)(hcl:c.length=D.nx.length)(hrow:∀r∈D.nx,r.length<=64/\∀t∈r,0<=t/\t<D.nx.length)(h100:∀x∈c,0<=x/\x<100)
  (hk:K (slI false true .i64 (rfN D.nx c)) M):SemC tab 149 [.agg (dfC f1 o1 f2 o2 f3 o3 D),slI f o .i64 c] M K:=by
 have hb:D.nx.length<1000000000000:=B.n;have b1:(D.nx.length:Int)*8<=140737488355328:=by omega
 have b2:(D.nx.length:Int)<=9223372036854775807:=by omega
 have nn:(0:Int)<=(D.nx.length:Int):=by omega
 refine bM T.h149 (by simp only[PP,simprocAttr]) ?_;simp only[af149];refine aB (aA ?_);simp only[PP,simprocAttr];refine bB (GStep.freezeP (b:=(.junk:: .junk:: .cp (dfC f1 o1 f2 o2 f3 o3 D) 0:: .ptr 1 0 0:: .nils::zj 45)) 0 (Nat.zero_le _) rfl (by simp only[kK,kL,List.cons_append,List.nil_append,cF,bU,bT,cE]) rfl) ?_;refine bB (GStep.freezeP (b:=(.junk:: .junk:: .cp (dfC f1 o1 f2 o2 f3 o3 D) 0:: .cp [slI f o .i64 c] 0:: .nils::zj 45)) 1 (Nat.zero_le _) rfl (by simp only[kK,kL,List.cons_append,List.nil_append,cF,bU,bT,cE]) rfl) ?_;refine aA ?_;simp only[PP,simprocAttr,PT,hcl,b1,b2,nn,Int.le_refl];refine aCG T ?_;simp only[PP,simprocAttr];refine aG (b:=(zj 3++ .cp [slI f o .i64 c] 0:: .junk:: .junk:: .ptr 4 0 0:: .ptr 6 0 0::zj 11++ .func (.func 217) [] [.cp (dfC f1 o1 f2 o2 f3 o3 D) 0]::zj 30)) ?_ (by simp only[PW]);refine f5 rfl (fun lp q1 q2 q3 q4 q5 q6=>?_);simp only[PP,simprocAttr];refine YY T (L:=7) hb (fun k G=>∃vm v ver Gs,G=aE7 D.nx c k vm v ver lp++Gs) ⟨0,0,0,[],?_⟩ ?_ ?_ ?_
 ·simp only[aE7,bI,jP,List.range_zero,List.map_nil,List.nil_append,Nat.sub_zero,List.map_replicate,List.append_nil];rfl
 ·rintro k G ⟨vm,v,ver,Gs,rfl⟩;exact⟨ver,lp,rfl⟩
 ·rintro k G row ⟨vm,v,ver,Gs,rfl⟩ grow K' hK';refine lR (ver:=ver) (r:=lp) rfl (by rw[q4];rfl) ?_;rw[q3,q4,q5];refine aA ?_;simp only[gF,PP,simprocAttr,List.append_assoc,gk,gk0,sk,sk0];refine⟨ver,lp,rfl,q1,?_⟩;have hlb:({ ({lp with state:= .busy} :PLoop)with state:= .ready,pending:=none} :PLoop)=lp:=Y9 q1 q2;generalize ({lp with state:= .busy} :PLoop)=lb at hlb ⊢;rw[q6];refine aA ?_;have hk:k<D.nx.length:=aD grow;have k0:(0:Int)<=k:=by omega
  have kc:(k:Int)<D.nx.length:=by omega
  obtain⟨x,gx⟩:=aO (xs:=c) (k:=k) (by omega);obtain⟨x0,x1⟩:=h100 x (List.mem_of_getElem? gx);simp only[PP,simprocAttr,List.append_assoc,gk,gk0,sk,sk0,hcl,k0,kc,gx];refine aDG T x0 x1 ?_;simp only[PP,simprocAttr,List.append_assoc,gk,gk0,sk,sk0];have hrw:=hrow row (List.mem_of_getElem? grow);have hrl:row.length<=64:=hrw.1;have hks:∀j,AB (x::(row.take (j+1)).map fun t=>c.getD t.toNat 0)=AB (x::(row.take j).map fun t=>c.getD t.toNat 0)++(match row[j]? with | some t=>32::dgT (c.getD t.toNat 0).toNat | none=>[]):=fun j=>by
   show dgT x.toNat++dR _=(dgT x.toNat++dR _)++_;rw[List.take_add_one]
   cases row[j]? with
   | none=>simp
   | some t=>rw[Option.toList_some,List.map_append,List.map_cons,List.map_nil,KN,List.append_assoc]
  have hkl:∀j,j<=row.length->(AB (x::(row.take j).map fun t=>c.getD t.toNat 0)).length<=200:=fun j hj=>by
   show(dgT x.toNat++dR _).length<=200;have h1:=wA (n:=x.toNat) (by omega);have h2:=SJ (r:=(row.take j).map fun t=>c.getD t.toNat 0) (fun y hy=>by
    obtain⟨t,_,rfl⟩:=List.mem_map.1 hy;exact EW (by omega) h100 _)
   simp only[List.length_append,List.length_map,List.length_take]at h2 ⊢;omega
  have hk0':AB (x::(row.take 0).map fun t=>c.getD t.toNat 0)=dgT x.toNat:=by simp[AB,dR]
  generalize hkf:(fun j=>AB (x::(row.take j).map fun t=>c.getD t.toNat 0))=kf;have hkf':∀j,AB (x::(row.take j).map fun t=>c.getD t.toNat 0)=kf j:=fun j=>by rw[<-hkf]
  simp only[hkf']at hks hkl hk0';rw[<-hk0'];refine nV (fun(j g w:Nat)=>j<=row.length) (fun j g w=>(zj 3++ .cp [slI f o .i64 c] 0:: .junk:: .junk:: .ptr 4 0 0:: .ptr 6 0 0::p64 k:: .junk:: .ref (Gs.length+1+1+1+1+1+1+1+1) g 1 0 (kf j).length::zj 16++slI f2 o2 .i64 row::p64 row.length::p64 j::zj 20))
   (fun j g w=>[.gone,.gone,.map vm (smE (eM II 0 (bI (tN D.nx c) [] k []))),.cells 0 1 [.map 2],.cells 0 1 [.func (.func 186) [] [.ptr 3 0 0]],.cells 0 v (((jP (tN D.nx c) [] [] k)++List.replicate (D.nx.length-k) 0).map p64),.cells 0 1 [.ref 5 0 1 0 D.nx.length],.loop (ver+1) lb]++(Gs++[.cells g w (eD (kf j))])) (fun j g w=>row.length-j) 0 0 0 (by omega) (by simp only[PW]) (by simp only[List.map_append,PP,simprocAttr]) ?_
  intro j g w hj ih;refine aM (by kernel_rfl) ?_;simp only[PP,simprocAttr];refine QIf.intro (fun e=>?_) (fun e=>?_)
  ·have hjl:j<row.length:=by omega
   obtain⟨t,gt⟩:=aO hjl;obtain⟨t0,t1⟩:=hrw.2 t (List.mem_of_getElem? gt);have j0:(0:Int)<=j:=by omega
   have hw:=aH (k:=j) (by show _<1000000000000;omega);obtain⟨y,gy⟩:=aO (xs:=c) (k:=t.toNat) (by omega);obtain⟨y0,y1⟩:=h100 y (List.mem_of_getElem? gy);have hnx:=hks j;rw[gt]at hnx;simp only[List.getD,gy,Option.getD_some]at hnx;have hlk:=hkl j (by omega);have b5:(kf j).length+1<=140737488355328:=by omega
   have b6:(kf j).length<=9223372036854775806:=by omega
   simp only[PP,simprocAttr,e,List.append_assoc,gk,gk0,sk,sk0,gt,gy,hcl,j0,t0,t1,b5,b6];have e1:(kf j).length+1=(kf j++[32]).length:=by simp
   have e2:(kf j).map (fun c:UInt8=>PV.int .u8 ((c.toNat:Nat):Int))++[.int .u8 32]=eD (kf j++[32]):=by simp[eD]
   have e3:(kf j++[32])++dgT y.toNat=kf (j+1):=by rw[hnx];simp
   rw[e1,e2];refine aDF T (l:=kf j++[32]) (v:=0) (by simp only[List.getElem?_cons_succ,gk0,List.getElem?_cons_zero]) (by simp;omega) y0 y1 ?_;rw[e3];simp only[PP,simprocAttr,List.append_assoc,gk,gk0,sk,sk0,hw];exact bA (ih (j+1) (g+1+1) 0 (by omega) (by omega)) (by simp only[PW]) (by simp only[List.map_append,PP,simprocAttr])
  ·obtain rfl:j=row.length:=by omega
   have hkey:AB (cN D.nx c k)=kf row.length:=by rw[<-hkf' row.length,List.take_length];unfold cN;rw[grow];simp only[Option.getD_some,List.getD,gx]
   have hkap:(⟨(kf row.length).toArray⟩:ByteArray)=II (cN D.nx c k):=by unfold II;rw[hkey]
   have hps:kA (eD (kf row.length))=some (kf row.length):=B1 _;have hbl:(kf row.length).length<=(eD (kf row.length)).length:=by simp
   simp only[PP,simprocAttr,PT,e,List.append_assoc,gk,gk0,sk,sk0,hps,hbl,hkap];refine aFH T (κ:=II) (Dm:=R1) (fun a b ha hb h=>ZR ha hb h) (o:=bI (tN D.nx c) [] k []) (b:=cN D.nx c k) (IF _ h100 k) ?_ (i:=2) (j:=3) rfl rfl fun ver'=>?_
   ·intro a ha;rcases(jV _ _ _ _ _).1 ha with h | ⟨y,_,rfl⟩
    ·cases h
    ·exact IF _ h100 y
   have hvs:bP (bI (tN D.nx c) [] k []) (cN D.nx c k)=bI (tN D.nx c) [] (k+1) []:=rfl;rw[hvs];have hrx:=BS (tN D.nx c) [] [] k;have hrl2:=fK (tN D.nx c) [] [] k;have hkl2:k+1<=k+(D.nx.length-k):=by omega
   simp only[PP,simprocAttr,PT,List.append_assoc,gk,gk0,sk,sk0,k0,hk,hrl2,hkl2];rw[JG];refine⟨by split<;>rfl,kc,ver+1,_,rfl,?_⟩;rw[if_pos rfl];refine hK' _ ⟨ver',v+1,ver+1+1,Gs++[.cells g w (eD (kf row.length))],?_⟩;simp only[aE7,PP,simprocAttr,hlb];have hat:(bI (tN D.nx c) [] (k+1) []).idxOf (cN D.nx c k)=(bI (tN D.nx c) [] (k+1) []).idxOf (tN D.nx c [] k):=rfl;rw[hrx,List.set_append_right _ _ (by rw[List.length_map,hrl2];exact Nat.le_refl _),List.length_map,hrl2,Nat.sub_self,show D.nx.length-k=(D.nx.length-(k+1))+1 by omega,List.replicate_succ];simp only[List.map_append,List.map_cons,List.map_nil,List.append_assoc,List.cons_append,List.nil_append,List.set_cons_zero]
 ·rintro G ⟨vm,v,ver,Gs,rfl⟩;refine⟨ver,lp,rfl,by rw[q1];exact(by intro h;cases h),?_⟩;rw[q2];have hfz:pW (some (PObj.cells 0 v ((jP (tN D.nx c) [] [] D.nx.length).map p64))) 0 1 0 D.nx.length=some (slI false true .i64 (rfN D.nx c)):=by
   rw[cQ (by simp[fK]) (aP _ _ _),aU _ _ (by simp[fK])];simp only[slI,rfN,fK]
  have hz:D.nx.length-D.nx.length=0:=Nat.sub_self _;simp only[PP,simprocAttr,List.append_assoc,gk,gk0,sk,sk0,hz,hfz];exact hk
end
section
variable {tab:FuncId->Option AF} (T:HasA tab)
include T
theorem K0{M:Mem}{K:PV->Mem->Prop}{f o f2 o2:Bool}{a b:List Int}(ha:a.length<big)(hk:K (.bool (decide (a=b))) M):SemC tab 150 [slI f o .i64 a,slI f2 o2 .i64 b] M K:=by
 have hb:a.length<1000000000000:=ha;refine aE T.h150 (by simp only[PP,simprocAttr]) ?_;simp only[af150,PP,simprocAttr];by_cases hl:a.length=b.length;rotate_left
 ·have h1:¬(a.length:Int)=b.length:=by omega
  have h2:¬a=b:=fun h=>hl (by rw[h]);simp only[PP,simprocAttr,h1];simpa [h2]using hk
 have h1:(a.length:Int)=b.length:=by omega
 simp only[PP,simprocAttr,h1];refine iX (fun(k:Nat)=>k<=b.length/\a.take k=b.take k) (fun k=>(slI f o .i64 a::slI f2 o2 .i64 b::zj 10++p64 b.length::p64 k::zj 12)) (fun _=>[]) (fun k=>b.length-k) 0 (by simp) (by simp only[PW]) rfl ?_;intro k ⟨hk',htk⟩ ih;refine aM (by kernel_rfl) ?_;simp only[PP,simprocAttr];refine QIf.intro (fun c=>?_) (fun c=>?_);rotate_left
 ·obtain rfl:k=b.length:=by omega
  rw[List.take_of_length_le (by omega),List.take_of_length_le (by omega)]at htk;simp only[PP,simprocAttr,c];simpa [htk]using hk
 have hlt:k<b.length:=by omega
 have i0:(0:Int)<=k:=by omega
 have hw:=aH (k:=k) (by show _<1000000000000;omega);obtain⟨x,gx⟩:=aO (xs:=a) (k:=k) (by omega);obtain⟨y,gy⟩:=aO hlt;simp only[PP,simprocAttr,c,i0,gx,gy,h1];by_cases e:x=y
 ·simp only[PP,simprocAttr,e,hw];refine aG (ih (k+1) ⟨by omega,?_⟩ (by omega)) (by simp only[PW]);rw[bL gx,bL gy,htk,e]
 ·simp only[PP,simprocAttr,e];have hne:¬a=b:=fun h=>e (by rw[h,gy]at gx;exact(Option.some.inj gx).symm);simpa [hne]using hk
set_option maxHeartbeats 1000000 in
theorem xA{M:Mem}{K:PV->Mem->Prop}{f1 o1 f2 o2 f3 o3:Bool}{D:DF}{k:Nat}(B:BnD D)(h99:cA D=0->D.nx.length<=99)(hk1:cA D≠0->K (.tuple [.nils,p64 (cA D)]) M)(hk2:cA D=0->K (.tuple [slI false true .i64 (aX D k),p64 0]) M)(hkk:k<1000000000000):
  SemC tab 87 [.agg (dfC f1 o1 f2 o2 f3 o3 D),p64 k] M K:=by
 refine aE T.h87 (by simp only[PP,simprocAttr]) ?_;simp only[af87,PP,simprocAttr];refine JD T B ?_;by_cases hc:cA D=0;rotate_left
 ·simp only[PP,simprocAttr,hc];exact hk1 hc
 have hk2:=hk2 hc;have h99:=h99 hc;have C:=okD_iff.1 hc;have hrow:∀r∈D.nx,r.length<=64/\∀t∈r,0<=t/\t<D.nx.length:=fun r hr=>by
  obtain⟨h1,h2⟩:=C.r r hr;refine⟨?_,h2⟩;have:=G8 C.v6;have e:((2^D.vs.toNat:Nat):Int)=2^D.vs.toNat:=by simp
  omega
 simp only[PP,simprocAttr,hc];refine aDC T B C.f C.n0 ?_;simp only[PP,simprocAttr];refine iX (fun(i:Nat)=>i<=k) (fun i=>(.junk:: .junk:: .ptr 0 0 0::zj 4++slI false true .i64 (aX D i)::zj 8++p64 k::p64 i::zj 10)) (fun _=>[.cells 0 0 (dfC f1 o1 f2 o2 f3 o3 D)]) (fun i=>k-i) 0 (by omega) (by simp only[aX,PW]) rfl ?_;intro i hi ih;refine aM (by kernel_rfl) ?_;simp only[PP,simprocAttr];refine QIf.intro (fun c=>?_) (fun c=>?_);rotate_left
 ·obtain rfl:i=k:=by omega
  simp only[PP,simprocAttr,c];exact hk2
 have hw:=aH (k:=i) (by show _<1000000000000;omega);have hln:=cR D i;have hln2:=cR D (i+1);simp only[PP,simprocAttr,c];refine XI T B hln hrow (aCf h99 i) ?_;simp only[PP,simprocAttr];refine K0 T (by rw[rD];exact B.n) ?_;by_cases e:rfN D.nx (aX D i)=aX D i
 ·have hs:=s6 (D:=D) (k:=i) e (k-i);rw[show i+(k-i)=k by omega]at hs;rw[hs]at hk2;simp only[PP,simprocAttr,e];exact hk2
 ·simp only[PP,simprocAttr,e,hw];exact aG (ih (i+1) (by omega) (by omega)) (by simp only[aX,PW])
end
section
variable {α β:Type} [DecidableEq α] [DecidableEq β]
def ixF(l:List α)(x:α):Nat:=l.idxOf x
def fv(f:Nat->α):Nat->List α
 | 0=>[]
 | n+1=>bP (fv f n) (f n)
theorem O6(f:Nat->α)(a:α):∀n,bI (fun _ y=>f y) a n []=fv f n
 | 0=>rfl
 | n+1=>by show bP _ _=bP _ _;rw[O6 f a n]
theorem gM(f:Nat->α)(x:α):∀n,x∈fv f n↔∃y,y<n/\x=f y
 | 0=>by simp[fv]
 | n+1=>by
  show x∈bP _ _↔_;rw[H1,gM f x n];constructor
  ·rintro(⟨y,h1,h2⟩ | h)
   ·exact⟨y,by omega,h2⟩
   ·exact⟨n,by omega,h⟩
  ·rintro⟨y,h1,h2⟩;by_cases e:y=n
   ·subst e;exact .inr h2
   ·exact .inl ⟨y,by omega,h2⟩
theorem yN(f:Nat->α):∀n,(fv f n).Nodup
 | 0=>by simp[fv]
 | n+1=>zG (yN f n)
theorem aAi(f:Nat->α):∀n,(fv f n).length<=n
 | 0=>by simp[fv]
 | n+1=>by
  have:=aAi f n;show(bP _ _).length<=_;unfold bP;split
  ·omega
  ·simp;omega
theorem sF(o:List α)(x:α):(bP o x).length=if x∈o then o.length else o.length+1:=by unfold bP;split<;>simp
theorem aAj(f:Nat->α)(g:α->β):∀n,(fv (fun y=>g (f y)) n).length<=(fv f n).length
 | 0=>by simp[fv]
 | n+1=>by
  have ih:=aAj f g n;show(bP _ _).length<=(bP _ _).length;rw[sF,sF];by_cases h:f n∈fv f n
  ·have h2:g (f n)∈fv (fun y=>g (f y)) n:=by obtain⟨y,h3,h4⟩:=(gM _ _ _).1 h;exact(gM _ _ _).2 ⟨y,h3,by rw[h4]⟩
   rw[if_pos h,if_pos h2];exact ih
  ·rw[if_neg h];split<;>omega
theorem MT(f:Nat->α)(g:α->β):∀n,(fv (fun y=>g (f y)) n).length=(fv f n).length->fv (fun y=>g (f y)) n=(fv f n).map g
 | 0,_=>rfl
 | n+1,h=>by
  have h:(bP (fv (fun y=>g (f y)) n) (g (f n))).length=(bP (fv f n) (f n)).length:=h;show bP _ _=(bP _ _).map g;have hle:=aAj f g n;rw[sF,sF]at h;by_cases h1:f n∈fv f n
  ·have h2:g (f n)∈fv (fun y=>g (f y)) n:=by obtain⟨y,h3,h4⟩:=(gM _ _ _).1 h1;exact(gM _ _ _).2 ⟨y,h3,by rw[h4]⟩
   rw[if_pos h1,if_pos h2]at h;unfold bP;rw[if_pos h1,if_pos h2,MT f g n h]
  ·rw[if_neg h1]at h;by_cases h2:g (f n)∈fv (fun y=>g (f y)) n
   ·rw[if_pos h2]at h;omega
   ·rw[if_neg h2]at h;unfold bP;rw[if_neg h1,if_neg h2,MT f g n (by omega)];simp
theorem aAk(f:Nat->α)(g:α->β):∀n,(∀x y,x<n->y<n->g (f x)=g (f y)->f x=f y)->fv (fun y=>g (f y)) n=(fv f n).map g
 | 0,_=>rfl
 | n+1,h=>by
  show bP _ _=(bP _ _).map g;have ih:=aAk f g n fun x y hx hy=>h x y (by omega) (by omega);by_cases h1:f n∈fv f n
  ·have h2:g (f n)∈fv (fun y=>g (f y)) n:=by rw[ih];exact List.mem_map.2 ⟨_,h1,rfl⟩
   unfold bP;rw[if_pos h1,if_pos h2,ih]
  ·have h2:g (f n)∉fv (fun y=>g (f y)) n:=fun q=>by obtain⟨y,h3,h4⟩:=(gM _ _ _).1 q;exact h1 ((gM _ _ _).2 ⟨y,h3,h n y (by omega) (by omega) h4⟩)
   unfold bP;rw[if_neg h1,if_neg h2,ih];simp
theorem pV{g:α->β} :∀{l:List α} {x:α},(l.map g).Nodup->x∈l->ixF (l.map g) (g x)=ixF l x
 | [],x,_,h=>by cases h
 | a::l,x,hn,h=>by
  rw[List.map_cons,List.nodup_cons]at hn;rw[List.map_cons];by_cases e:x=a
  ·subst e;unfold ixF;simp
  ·have hm:x∈l:=by
    rcases List.mem_cons.1 h with h | h
    ·exact absurd h e
    ·exact h
   have hg:g x≠g a:=fun q=>hn.1 (by rw[<-q];exact List.mem_map.2 ⟨x,hm,rfl⟩);have ih:=pV hn.2 hm;unfold ixF at ih ⊢;rw[yJ e,yJ hg,ih]
theorem oR{l:List α}{x:α}(h:x∈l):l[ixF l x]? =some x:=by unfold ixF;have h1:=List.idxOf_lt_length_of_mem h;rw[List.getElem?_eq_getElem h1,List.getElem_idxOf]
end
def R3(n:Nat)(c:List Int):Prop:=c.length=n/\∀y,y<n->((ixF (fv (fun y=>c.getD y 0) n) (c.getD y 0):Nat):Int)=c.getD y 0
theorem UY{α:Type} [DecidableEq α](f:Nat->α)(n:Nat){c:List Int}(hl:c.length=n)(hc:∀y,y<n->c.getD y 0=((ixF (fv f n) (f y):Nat):Int)):R3 n c/\(fv (fun y=>c.getD y 0) n).length=(fv f n).length:=by
 have hmem:∀y,y<n->f y∈fv f n:=fun y hy=>(gM _ _ _).2 ⟨y,hy,rfl⟩;have hinj:∀x y,x<n->y<n->(fun z:α=>((ixF (fv f n) z:Nat):Int)) (f x)=(fun z:α=>((ixF (fv f n) z:Nat):Int)) (f y)->f x=f y:=fun x y hx hy h=>by have h:ixF (fv f n) (f x)=ixF (fv f n) (f y):=Int.ofNat.inj h;have h1:=oR (hmem x hx);have h2:=oR (hmem y hy);rw[h,h2]at h1;exact(Option.some.inj h1).symm
 have hcong:∀k,k<=n->fv (fun y=>c.getD y 0) k=fv (fun y=>(fun z:α=>((ixF (fv f n) z:Nat):Int)) (f y)) k:=by
  intro k
  induction k with
  | zero=>intro _;rfl
  | succ k ih=>intro hk;show bP _ (c.getD k 0)=bP _ ((ixF (fv f n) (f k):Nat):Int);rw[ih (by omega),hc k (by omega)]
 have hm:=aAk f (fun z:α=>((ixF (fv f n) z:Nat):Int)) n hinj;have hV:fv (fun y=>c.getD y 0) n=(fv f n).map (fun z:α=>((ixF (fv f n) z:Nat):Int)):=by rw[hcong n (Nat.le_refl _),hm]
 have hnd:((fv f n).map (fun z:α=>((ixF (fv f n) z:Nat):Int))).Nodup:=by rw[<-hV];exact yN _ _
 refine⟨⟨hl,fun y hy=>?_⟩,by rw[hV];simp⟩;rw[hV,hc y hy];have:=pV (g:=fun z:α=>((ixF (fv f n) z:Nat):Int)) hnd (hmem y hy);rw[this]
theorem DX{nx:List (List Int)}{c:List Int}{y:Nat}(hy:y<nx.length):(rfN nx c).getD y 0=((ixF (fv (cN nx c) nx.length) (cN nx c y):Nat):Int):=by unfold rfN jP;rw[List.getD,List.getElem?_map,List.getElem?_range hy,Option.map_some,Option.getD_some];rw[O6 (cN nx c)];rfl
theorem BU(nx:List (List Int))(c:List Int):R3 nx.length (rfN nx c)/\(fv (fun y=>(rfN nx c).getD y 0) nx.length).length=(fv (cN nx c) nx.length).length:=
 UY (cN nx c) nx.length (rD nx c) fun y hy=>DX hy
theorem aDD{D:DF}{y:Nat}(hy:y<D.nx.length):(iT D).getD y 0=if D.fi.getD y false=D.fi.getD 0 false then 0 else 1:=by unfold iT;rw[List.getD,List.getElem?_map,List.getElem?_range hy,Option.map_some,Option.getD_some]
theorem NO(D:DF):R3 D.nx.length (iT D):=by
 have hs:∀k,k<=D.nx.length->fv (fun y=>(iT D).getD y 0) k=[]\/fv (fun y=>(iT D).getD y 0) k=[0]\/fv (fun y=>(iT D).getD y 0) k=[0,1]:=by
  intro k
  induction k with
  | zero=>intro _;exact .inl rfl
  | succ k ih=>
   intro hk;have hb:=aDD (D:=D) (y:=k) (by omega);show bP _ ((iT D).getD k 0)=_\/bP _ ((iT D).getD k 0)=_\/bP _ ((iT D).getD k 0)=_;have h01:(iT D).getD k 0=0\/(iT D).getD k 0=1:=by
    rw[hb];split
    ·exact .inl rfl
    ·exact .inr rfl
   rcases ih (by omega)with h | h | h
   ·have hk0:k=0:=by
     rcases Nat.eq_zero_or_pos k with q | q
     ·exact q
     ·have:(iT D).getD 0 0∈fv (fun y=>(iT D).getD y 0) k:=(gM _ _ _).2 ⟨0,q,rfl⟩;rw[h]at this;cases this
    subst hk0;rw[h,hb,if_pos rfl];exact .inr (.inl rfl)
   ·rw[h];rcases h01 with e | e<;>rw[e]
    ·exact .inr (.inl rfl)
    ·exact .inr (.inr rfl)
   ·rw[h];rcases h01 with e | e<;>rw[e]
    ·exact .inr (.inr rfl)
    ·exact .inr (.inr rfl)
 refine⟨cR D 0,fun y hy=>?_⟩;have hm:(iT D).getD y 0∈fv (fun y=>(iT D).getD y 0) D.nx.length:=(gM _ _ _).2 ⟨y,hy,rfl⟩;rcases hs D.nx.length (Nat.le_refl _)with h | h | h
 ·rw[h]at hm;cases hm
 ·rw[h]at hm ⊢;simp only[List.mem_singleton]at hm;rw[hm];rfl
 ·rw[h]at hm ⊢;simp only[List.mem_cons,List.not_mem_nil,or_false]at hm;rcases hm with hm | hm<;>rw[hm]<;>rfl
theorem K3(D:DF):∀k,R3 D.nx.length (aX D k)
 | 0=>NO D
 | k+1=>(BU D.nx (aX D k)).1
def UR(D:DF)(k:Nat):Nat:=(fv (fun y=>(aX D k).getD y 0) D.nx.length).length
theorem UQ{D:DF}{k:Nat}(h:aX D (k+1)≠aX D k):UR D k<UR D (k+1):=by
 have h1:=BU D.nx (aX D k);have e1:UR D (k+1)=(fv (cN D.nx (aX D k)) D.nx.length).length:=h1.2;have hle:=aAj (cN D.nx (aX D k)) (fun l=>l.headD 0) D.nx.length;have hh:(fun y=>(cN D.nx (aX D k) y).headD 0)=fun y=>(aX D k).getD y 0:=rfl;have e0:UR D k=(fv (fun y=>(cN D.nx (aX D k) y).headD 0) D.nx.length).length:=rfl;rw[e0,e1];rcases Nat.lt_or_eq_of_le hle with q | q
 ·exact q
 ·exfalso;have hm:=MT (cN D.nx (aX D k)) (fun l=>l.headD 0) D.nx.length q;apply h;have hc:=K3 D k;show rfN D.nx (aX D k)=aX D k;refine List.ext_getElem? fun y=>?_;by_cases hy:y<D.nx.length
  ·have hl1:y<(rfN D.nx (aX D k)).length:=by rw[rD];exact hy
   have hl2:y<(aX D k).length:=by rw[hc.1];exact hy
   have a1:=DX (nx:=D.nx) (c:=aX D k) hy;have a2:=hc.2 y hy;have hmem:cN D.nx (aX D k) y∈fv (cN D.nx (aX D k)) D.nx.length:=(gM _ _ _).2 ⟨y,hy,rfl⟩;have hnd:((fv (cN D.nx (aX D k)) D.nx.length).map (fun l=>l.headD 0)).Nodup:=by rw[<-hm];exact yN _ _
   have hi:=pV (g:=fun l:List Int=>l.headD 0) hnd hmem;rw[<-hm]at hi;have hi':ixF (fv (fun y=>(aX D k).getD y 0) D.nx.length) ((aX D k).getD y 0)=ixF (fv (cN D.nx (aX D k)) D.nx.length) (cN D.nx (aX D k) y):=hi;rw[<-hi',a2]at a1;rw[List.getD,List.getD,List.getElem?_eq_getElem hl1,List.getElem?_eq_getElem hl2]at a1;rw[List.getElem?_eq_getElem hl1,List.getElem?_eq_getElem hl2];simpa using a1
  ·rw[List.getElem?_eq_none (by rw[rD];omega),List.getElem?_eq_none (by rw[hc.1];omega)]
theorem BT{D:DF}(h0:0<D.nx.length):∀{m:Nat},(∀j,j<m->aX D (j+1)≠aX D j)->m+1<=UR D m
 | 0,_=>by have:(aX D 0).getD 0 0∈fv (fun y=>(aX D 0).getD y 0) D.nx.length:=(gM _ _ _).2 ⟨0,h0,rfl⟩;exact List.length_pos_of_mem this
 | m+1,h=>by have ih:=BT h0 (m:=m) fun j hj=>h j (by omega);have:=UQ (h m (by omega));omega
theorem xB{D:DF}(h0:0<D.nx.length){m:Nat}(h:∀j,j<m->aX D (j+1)≠aX D j):m<D.nx.length:=by have h1:=BT h0 h;have h2:UR D m<=D.nx.length:=aAi _ _;omega
def j5(A:Mem)(f1 o1 f2 o2 f3 o3 f o:Bool)(D:DF)(v1 v2 k:Nat)(u:Int):Mem:=
 A++[.cells 0 v1 [p64 D.vs,p64 D.st,slR f1 o1 f2 o2 .i64 D.nx,slB f3 o3 D.fi,p64 k,slI f o .i64 (aX D k)],.cells 0 v2 [.iface 122 (.ptr A.length 0 0),p64 u]]
def StM(A:Mem)(D:DF)(m:Nat)(M:Mem):Prop:=
 (∀j,j<m->aX D (j+1)≠aX D j)/\∃(f1 o1 f2 o2 f3 o3 f o:Bool) (v1 v2:Nat),M=j5 A f1 o1 f2 o2 f3 o3 f o D v1 v2 m m
section
variable {tab:FuncId->Option AF} (T:HasA tab)
include T
set_option maxHeartbeats 1000000 in
theorem yY{M:Mem}{K:PV->Mem->Prop}{f o f2 o2:Bool}{rs:List (List Int)}(hm:rs.length<big)(hr:∀r∈rs,r.length<big)(hk:K (slR false true false true .i64 rs) M):SemC tab 57 [slR f o f2 o2 .i64 rs] M K:=by
 have hb:rs.length<1000000000000:=hm;refine bM T.h57 (by simp only[PP,simprocAttr]) ?_;simp only[af57];refine aB (aA ?_);simp only[PP,simprocAttr];refine bB (GStep.nil 2 1 rfl rfl rfl) ?_;refine aA ?_;simp only[PP,simprocAttr];refine gU (fun(k:Nat) (g:Nat)=>k<=rs.length) (fun k g=>(.junk:: .junk:: .ref 0 g 1 0 k:: .junk:: .junk::slR f o f2 o2 .i64 rs::p64 rs.length::p64 k::zj 10)) (fun k g=>[.cells g 0 ((rs.take k).map (slI false true .i64))]) (fun k _=>rs.length-k) 0 0 (by omega) (by simp only[PW]) rfl ?_;intro k g hk' ih;refine aM (by kernel_rfl) ?_;simp only[PP,simprocAttr];refine QIf.intro (fun c=>?_) (fun c=>?_);rotate_left
 ·obtain rfl:k=rs.length:=by omega
  have hfz:pW (some (PObj.cells g 0 ((rs.take rs.length).map (slI false true .i64)))) g 1 0 rs.length=some (slR false true false true .i64 rs):=by rw[List.take_length,cQ (by simp) (aR _ _ _ _ _),aU _ _ (by simp)]
  simp only[PP,simprocAttr,c,hfz];exact hk
 have hlt:k<rs.length:=by omega
 have hw:=aH (k:=k) (by show _<1000000000000;omega);have i0:(0:Int)<=k:=by omega
 have b1:(k+1)*24<=140737488355328:=by omega
 have b2:k+1<=9223372036854775807:=by omega
 have b3:k<=((rs.take k)).length:=by rw[List.length_take];omega
 obtain⟨x,gx⟩:=aO hlt;simp only[PP,simprocAttr,c,i0,gx];refine lO T (hr x (List.mem_of_getElem? gx)) ?_;simp only[PP,simprocAttr,b1,b2,b3,hw];refine bA (ih (k+1) (g+1) (by omega) (by omega)) (by simp only[PW]) ?_;rw[aU _ _ (by simp;omega),bL gx];simp
theorem CV{M:Mem}{K:PV->Mem->Prop}{f o:Bool}{xs:List Bool}(hm:xs.length<big)(hk:K (slB false true xs) M):SemC tab 58 [slB f o xs] M K:=by
 have hb:xs.length<1000000000000:=hm;have b1:xs.length<=140737488355328:=by omega
 have b2:xs.length<=9223372036854775807:=by omega
 refine fS (aE T.h58 (by simp only[PP,simprocAttr]) ?_);simp only[af58,PP,simprocAttr];refine QIf.intro (fun c=>?_) (fun c=>?_)
 ·have:xs=[]:=List.length_eq_zero_iff.1 c;subst this;constructor
  ·simp only[PP,simprocAttr];exact⟨_,PvWk.nils _ _ _,hk⟩
  ·simp only[PP,simprocAttr];exact⟨_,PvWk.sl _ _ _ _,hk⟩
 ·simp only[PP,simprocAttr,c,b1,b2];exact⟨_,PvWk.refl _,hk⟩
set_option maxHeartbeats 1000000 in
theorem aFh{A:Mem}{K:PV->Mem->Prop}{f1 o1 f2 o2 f3 o3:Bool}{D:DF}(hc:cA D=0)(B:BnD D)(h99:D.nx.length<=99)
  (hk:∀Y v,aI (A.length+1) Y=true->K (.ptr (A.length+1) 0 0) (A++[Y,.cells 0 v [p64 D.vs,p64 D.st,slR false true false true .i64 D.nx,slB false true D.fi,p64 (0:Nat),slI false true .i64 (aX D 0)]])):
  SemC tab 93 [.agg (dfC f1 o1 f2 o2 f3 o3 D)] A K:=by
 refine aT T.h93 ?_;simp only[af93,PP,simprocAttr,gk,gk0,sk,sk0];refine yY T B.n B.r ?_;simp only[PP,simprocAttr,gk,gk0,sk,sk0];refine CV T B.f ?_;simp only[PP,simprocAttr,gk,gk0,sk,sk0,List.append_assoc];refine xA T B (fun _=>h99) (fun h=>absurd hc h) (fun _=>?_) (k:=0) (by omega);simp only[PP,simprocAttr,gk,gk0,sk,sk0,List.append_assoc];exact hk _ 1 (by simp[aI,aC,PV.under,aR,bH])
theorem WZ{A:Mem}{K:PV->Mem->Prop}{f1 o1 f2 o2 f3 o3:Bool}{D:DF}(B:BnD D)(h99:cA D=0->D.nx.length<=99)(hA:A.all (aI A.length)=true)
  (hk1:cA D≠0->K (.tuple [.nilptr,p64 (cA D)]) A)
  (hk2:cA D=0->∀X Y v,aI (A.length+2) X=true->aI (A.length+2) Y=true->K (.tuple [.ptr (A.length+3) 0 0,p64 0]) (j5 (A++[X,Y]) false true false true false true false true D v 0 0 0)):
  SemC tab 41 [.agg (dfC f1 o1 f2 o2 f3 o3 D)] A K:=by
 have hX:∀m,aI m (PObj.cells 0 0 (dfC f1 o1 f2 o2 f3 o3 D))=true:=fun m=>by simp[aI,aC,PV.under,aR,bH]
 refine dC (aT T.h41 ?_);simp only[af41,PP,simprocAttr,gk0,sk0];refine JD T B ?_;by_cases hc:cA D=0;rotate_left
 ·simp only[PP,simprocAttr,hc];refine Gh.step (GStep.dropM (b:=[.tuple [.nilptr,p64 (cA D)]]) (N:=A) A.length (Nat.le_refl _) (by simp) (by simp only[PW]) (by simp[aC,PV.under]) ?_ (List.take_left' rfl)) (Gh.same ⟨_,rfl,hk1 hc⟩);exact(congrArg (fun M:Mem=>M.all (aI A.length)) (List.take_left' rfl)).trans hA
 simp only[PP,simprocAttr,hc,gk0,sk0];refine aFh T hc B (h99 hc) fun Y v hY=>?_;have h:=hk2 hc (.cells 0 0 (dfC f1 o1 f2 o2 f3 o3 D)) Y v (hX _) (by simpa using hY);simp only[PP,simprocAttr,gk,gk0,sk,sk0,mS,oL,i7,List.append_assoc];unfold j5 at h;simp only[List.append_assoc,List.cons_append,List.nil_append,List.length_append,List.length_cons,List.length_nil,Nat.zero_add,Nat.reduceAdd]at h;exact Gh.same ⟨_,rfl,h⟩
theorem H5{A:Mem}{K:PV->Mem->Prop}{f1 o1 f2 o2 f3 o3 f o:Bool}{D:DF}{v1 v2 k:Nat}{u:Int}(hc:cA D=0)(B:BnD D)(h99:D.nx.length<=99)(hkk:k+1<1000000000000)
  (hk:K (slI false true .i64 (aX D (k+1))) (j5 A f1 o1 f2 o2 f3 o3 f o D v1 v2 k u)):SemC tab 262 [.ptr A.length 0 0] (j5 A f1 o1 f2 o2 f3 o3 f o D v1 v2 k u) K:=by
 have hw:=aH (k:=k) (by show _<1000000000000;omega);refine aT T.h262 ?_;unfold j5 at hk ⊢;simp only[af262,PP,simprocAttr,gk,gk0,sk,sk0,hw];refine xA T B (fun _=>h99) (fun h=>absurd hc h) (fun _=>?_) (k:=k+1) hkk;simp only[PP,simprocAttr];exact hk
theorem Z5{A:Mem}{D:DF}(hc:cA D=0)(B:BnD D)(h99:D.nx.length<=99):
  JobK tab (A.length+1) A.length 122 261 260 10 (fun m=>aX D (m+1)=aX D m) (fun _=>False) (fun m=> !decide (aX D (m+1)=aX D m)) (StM A D) where
 job:=by rintro m M ⟨_,f1,o1,f2,o2,f3,o3,f,o,v1,v2,rfl⟩;exact⟨v2,by unfold j5;rw[gk];rfl⟩
 sm:=by rintro m M ⟨h,_⟩;have:=xB (okD_iff.1 hc).n0 h;omega
 unit:=by
  rintro m M ⟨h,f1,o1,f2,o2,f3,o3,f,o,v1,v2,rfl⟩ K k1 k2 k3;have hlt:=xB (okD_iff.1 hc).n0 h;have hw:=aH (k:=m) (by show _<1000000000000;omega);refine aT T.h261 ?_;simp only[af261,PP,simprocAttr];refine H5 T hc B h99 (by omega) ?_;unfold j5;simp only[PP,simprocAttr,gk,gk0,sk,sk0];refine K0 T (by rw[cR];exact B.n) ?_;by_cases e:aX D (m+1)=aX D m
  ·simp only[PP,simprocAttr,e];exact k1 e _ ⟨h,f1,o1,f2,o2,f3,o3,f,o,v1,v2,rfl⟩
  ·simp only[PP,simprocAttr,e,gk,gk0,sk,sk0,hw];refine k3 e (fun q=>q) _ v2 (by rw[gk];rfl) ⟨fun j hj=>?_,f1,o1,f2,o2,f3,o3,false,true,v1+1+1,v2+1,?_⟩
   ·by_cases q:j=m
    ·subst q;exact e
    ·exact h j (by omega)
   ·unfold j5;rw[sk];rfl
 left:=by rintro m M ⟨h,f1,o1,f2,o2,f3,o3,f,o,v1,v2,rfl⟩ K k;have hlt:=xB (okD_iff.1 hc).n0 h;refine aT T.h260 ?_;simp only[af260,PP,simprocAttr];refine H5 T hc B h99 (by omega) ?_;have hk:=k _ ⟨h,f1,o1,f2,o2,f3,o3,f,o,v1,v2,rfl⟩;unfold j5 at hk ⊢;simp only[PP,simprocAttr,gk,gk0,sk,sk0];refine K0 T (by rw[cR];exact B.n) ?_;simp only[PP,simprocAttr];exact hk
 meth:= .inr (.inl ⟨rfl,rfl,rfl⟩)
end
abbrev msM(b:Nat)(f1 o1 f2 o2 f3 o3 f4 o4:Bool)(ow pr:List Int)(su:List (List Int))(ms:List Ms)(v1 v2 v3:Nat)(d:Bool)(u:Int):Mem:=
 [.cells 0 v1 [slI f1 o1 .u8 ow,slI f2 o2 .i64 pr,slR f3 o3 f4 o4 .i64 su,.ref (b+2) 0 9 0 ow.length,.bool d],.gone,.cells 0 v2 (msL ms),.cells 0 v3 [.iface 125 (.ptr b 0 0),p64 u]]
def fU(A:Mem)(f1 o1 f2 o2 f3 o3 f4 o4:Bool)(ow pr:List Int)(su:List (List Int))(ms:List Ms)(v1 v2 v3:Nat)(b:Bool)(u:Int):Mem:=
 A++msM A.length f1 o1 f2 o2 f3 o3 f4 o4 ow pr su ms v1 v2 v3 b u
theorem E5{ns:List Nat}{x y:Ms}(hx:x.Ok ns)(hy:y.Ok ns):AK x y<=0↔x.num ns<=y.num ns:=by rw[wB hx hy];have:= @oB (x.num ns) (y.num ns);omega
section
variable {tab:FuncId->Option AF} (T:HasA tab)
include T
theorem QL{M:Mem}{K:PV->Mem->Prop}{f1 o1 f2 o2 f3 o3 f4 o4:Bool}{ow pr:List Int}{su:List (List Int)}{ms:List Ms}{id ver v:Nat}(hM:M[id]? =some (.cells 0 ver (msL ms)))(c1:bG ow pr su=0)(B:Bnd ow pr su)(hS:StOk (aQ pr) ow.length ms)(hv:v<ow.length)
  (hk:∀y,y.Ok (aQ pr)->y.num (aQ pr)=gL ow pr su (Nf (aQ pr) ms) v->K (.tuple [.agg (msC y),p64 0]) M):
  SemC tab 266 [gmP f1 o1 f2 o2 f3 o3 f4 o4 ow pr su,.ref id 0 9 0 ow.length,p64 v] M K:=by
 have V:=dP c1;have n1:=V.n1;have hl:=hS.l;have bor:PBor M [gmP f1 o1 f2 o2 f3 o3 f4 o4 ow pr su,.ref id 0 9 0 ow.length,p64 v] [gmP f1 o1 f2 o2 f3 o3 f4 o4 ow pr su,slM true false ms,p64 v]:=by refine .same (by simp only[PP,simprocAttr]) ?_;rw[<-hl];exact .ref hM (by rw[jA];omega) (cM _ _) (eZ ms) (.same (by simp only[PP,simprocAttr]) .nil)
 refine sI bor (aGs T B (by omega) (fun y e hA=>⟨by simp only[PV.flat,PV.flatA,PV.flat1,rH,List.all_cons,List.all_nil,Bool.and_self],?_⟩));rcases hA with⟨a1,_⟩ | ⟨_,a2,_⟩ | ⟨_,_,a3,_⟩ | ⟨_,_,a4,_⟩ | ⟨_,_,_,_,a5,a6,rfl⟩
 ·exact absurd c1 a1
 ·exact absurd hl a2
 ·exact absurd hS.ok a3
 ·omega
 ·exact hk y a5 (by simpa using a6)
set_option maxHeartbeats 1000000 in
theorem aHp{A G:Mem}{K:PV->Mem->Prop}{f1 o1 f2 o2 f3 o3 f4 o4:Bool}{ow pr:List Int}{su:List (List Int)}{ms:List Ms}{v1 v2 v3:Nat}{b:Bool}{u:Int}(c1:bG ow pr su=0)(B:Bnd ow pr su)(hS:StOk (aQ pr) ow.length ms)
  (hk:∀r G',(r=false↔kS ow.length (gL ow pr su) (Nf (aQ pr) ms))->K (.bool r) (A++(msM A.length f1 o1 f2 o2 f3 o3 f4 o4 ow pr su ms v1 v2 v3 b u++G'))):
  SemC tab 263 [.ptr A.length 0 0] (A++(msM A.length f1 o1 f2 o2 f3 o3 f4 o4 ow pr su ms v1 v2 v3 b u++G)) K:=by
 have V:=dP c1;have n1:=V.n1;have hl:=hS.l;refine aT T.h263 ?_;simp only[af263,PP,simprocAttr,gk,gk0,sk,sk0];refine gU (fun(i:Nat) (G:Mem)=>i<=ow.length/\∀v,v<i->gL ow pr su (Nf (aQ pr) ms) v<=Nf (aQ pr) ms v) (fun i G=>(.ptr A.length 0 0::zj 9++p64 ow.length::p64 i::zj 26))
  (fun i G=>A++(msM A.length f1 o1 f2 o2 f3 o3 f4 o4 ow pr su ms v1 v2 v3 b u++G)) (fun i G=>ow.length-i) 0 G ⟨by omega,fun v h=>by omega⟩ (by simp only[PW]) rfl ?_
 intro i G ⟨hi,hp⟩ ih;refine aM (by kernel_rfl) ?_;simp only[PP,simprocAttr];refine QIf.intro (fun c=>?_) (fun c=>?_);rotate_left
 ·obtain rfl:i=ow.length:=by omega
  simp only[PP,simprocAttr,c];exact hk false G ⟨fun _=>hp,fun _=>rfl⟩
 have hlt:i<ow.length:=by omega
 have i0:(0:Int)<=i:=by omega
 have hw:=aH (k:=i) (by show _<1000000000000;omega);obtain⟨x,gx⟩:=aO (xs:=ms) (k:=i) (by omega);have hx:=hS.ok x (List.mem_of_getElem? gx);have hps:=fM gx;have hln9:i*9+9<=ms.length*9:=by omega
 simp only[PP,simprocAttr,c,gk,gk0,sk,sk0,List.append_assoc];refine QL T (by rw[gk];rfl) c1 B hS hlt fun y hy hn=>?_;simp only[PP,simprocAttr,PN,c,i0,gk,gk0,sk,sk0,List.append_assoc];rw[hps];refine⟨hln9,?_⟩;refine lL T ?_;have hcx:=E5 hy hx;rw[hn,<-sL gx]at hcx;by_cases d:AK y x<=0
 ·have d':¬0<AK y x:=by omega
  simp only[PP,simprocAttr,d',hw];refine aG (ih (i+1) (G++[.cells 0 1 (msC y)]) ⟨by omega,fun v hv=>?_⟩ (by omega)) (by simp only[PW]);by_cases q:v=i
  ·subst q;exact hcx.1 d
  ·exact hp v (by omega)
 ·have d':0<AK y x:=by omega
  simp only[PP,simprocAttr,d'];refine hk true (G++[.cells 0 1 (msC y)]) ⟨fun h=>(by cases h),fun h=>?_⟩;exact absurd (hcx.2 (h i hlt)) d
set_option maxHeartbeats 2000000 in
theorem aCh{A:Mem}{K:PV->Mem->Prop}{f1 o1 f2 o2 f3 o3 f4 o4:Bool}{ow pr:List Int}{su:List (List Int)}{ms:List Ms}{v1 v2 v3:Nat}{b:Bool}{u:Int}(hA:A.all (aI A.length)=true)(c1:bG ow pr su=0)(B:Bnd ow pr su)(hS:StOk (aQ pr) ow.length ms)
  (hk1:kS ow.length (gL ow pr su) (Nf (aQ pr) ms)->∀v1',K (.tuple [.bool false,p64 0]) (fU A f1 o1 f2 o2 f3 o3 f4 o4 ow pr su ms v1' v2 v3 true u))
  (hk2:∀v y r v1' v2',FstN ow.length (gL ow pr su) (Nf (aQ pr) ms) v->y.Ok (aQ pr)->y.num (aQ pr)=gL ow pr su (Nf (aQ pr) ms) v->(r=true↔kS ow.length (gL ow pr su) (Nf (aQ pr) (ms.set v y)))->K (.tuple [.bool true,p64 0]) (fU A f1 o1 f2 o2 f3 o3 f4 o4 ow pr su (ms.set v y) v1' v2' v3 r u)):
  SemC tab 265 [.ptr A.length 0 0] (fU A f1 o1 f2 o2 f3 o3 f4 o4 ow pr su ms v1 v2 v3 b u) K:=by
 have V:=dP c1;have n1:=V.n1;have hl:=hS.l;have hcut:∀(ms:List Ms) (v1 v2:Nat) (b:Bool),(fU A f1 o1 f2 o2 f3 o3 f4 o4 ow pr su ms v1 v2 v3 b u).all (aI (A.length+4))=true:=fun ms v1 v2 b=>by unfold fU;rw[List.all_append,cK (by omega) hA];simp[aI,aC,PV.under,aP,aR,cM]
 have htake:∀(ms:List Ms) (v1 v2:Nat) (b:Bool) (G:Mem),(A++(msM A.length f1 o1 f2 o2 f3 o3 f4 o4 ow pr su ms v1 v2 v3 b u++G)).take (A.length+4)=fU A f1 o1 f2 o2 f3 o3 f4 o4 ow pr su ms v1 v2 v3 b u:=fun ms v1 v2 b G=>by unfold fU;rw[<-List.append_assoc];exact List.take_left' (by simp)
 refine dC (dV T.h265 ?_);simp only[af265];refine aA ?_;have hml:(fU A f1 o1 f2 o2 f3 o3 f4 o4 ow pr su ms v1 v2 v3 b u).length=A.length+4:=by simp[fU]
 rw[hml];unfold fU at htake hcut ⊢;simp only[msM,PP,simprocAttr,gk,gk0,sk,sk0];refine ZA (fun(i:Nat) (l:Bool) (ms':List Ms) (w2:Nat) (G:Mem)=>i<=ow.length/\StOk (aQ pr) ow.length ms'/\(l=false->ms'=ms/\w2=v2/\∀v,v<i->gL ow pr su (Nf (aQ pr) ms) v<=Nf (aQ pr) ms v)/\(l=true->∃v y,FstN ow.length (gL ow pr su) (Nf (aQ pr) ms) v/\y.Ok (aQ pr)/\y.num (aQ pr)=gL ow pr su (Nf (aQ pr) ms) v/\ms'=ms.set v y))
  (fun i l ms' w2 G=>(.ptr A.length 0 0::zj 3++ .bool l::zj 10++p64 ow.length::p64 i::zj 45)) (fun i l ms' w2 G=>A++(msM A.length f1 o1 f2 o2 f3 o3 f4 o4 ow pr su ms' (v1+1) w2 v3 true u++G)) (fun i l ms' w2 G=>ow.length-i) 0 false ms v2 [] ⟨by omega,hS,fun _=>⟨rfl,rfl,fun v h=>by omega⟩,fun h=>by cases h⟩ (by simp only[PW]) (by rw[List.append_nil]) ?_
 intro i l ms' w2 G ⟨hi,hS',hf,ht⟩ ih;have hl':=hS'.l;refine aM (by kernel_rfl) ?_;simp only[PP,simprocAttr];refine QIf.intro (fun c=>?_) (fun c=>?_)
 ·have hlt:i<ow.length:=by omega
  have i0:(0:Int)<=i:=by omega
  have hw:=aH (k:=i) (by show _<1000000000000;omega);obtain⟨x,gx⟩:=aO (xs:=ms') (k:=i) (by omega);have hx:=hS'.ok x (List.mem_of_getElem? gx);have hps:=fM gx;have hln9:i*9+9<=ms'.length*9:=by omega
  simp only[msM,PP,simprocAttr,c,gk,gk0,sk,sk0,List.append_assoc];refine QL T (by rw[gk];rfl) c1 B hS' hlt fun y hy hn=>?_;simp only[PP,simprocAttr,PN,c,i0,gk,gk0,sk,sk0,List.append_assoc];rw[hps];refine⟨hln9,?_⟩;refine lL T ?_;have hcx:=E5 hy hx;rw[hn,<-sL gx]at hcx;by_cases d:AK y x<=0
  ·simp only[PP,simprocAttr,d,hw];refine aG (ih (i+1) l ms' w2 (G++[.cells 0 1 (msC y)]) ⟨by omega,hS',fun q=>?_,ht⟩ (by omega)) (by simp only[PW]);obtain⟨q1,q2,q3⟩:=hf q;refine⟨q1,q2,fun v hv=>?_⟩;by_cases e:v=i
   ·subst e;rw[<-q1];exact hcx.1 d
   ·exact q3 v (by omega)
  ·cases l with
   | true=>
    obtain⟨v,y2,p1,p2,p3,rfl⟩:=ht rfl;simp only[PP,simprocAttr,d,gk,gk0,sk,sk0];refine Gh.step (GStep.dropM (b:=[.tuple [.bool true,p64 0]]) (N:=fU A f1 o1 f2 o2 f3 o3 f4 o4 ow pr su (ms.set v y2) (v1+1+1) w2 v3 false u) (A.length+4) (Nat.le_refl _) (by simp) (by simp only[PW]) (by simp[aC,PV.under]) ?_ ?_) (Gh.same ⟨_,rfl,hk2 v y2 false _ _ p1 p2 p3 ⟨fun h=>(by cases h),fun h=>?_⟩⟩)
    ·exact(congrArg (fun M:Mem=>M.all (aI (A.length+4))) (htake (ms.set v y2) (v1+1+1) w2 false _)).trans (hcut ..)
    ·exact htake (ms.set v y2) (v1+1+1) w2 false _
    ·exact absurd (hcx.2 (h i hlt)) d
   | false=>obtain⟨rfl,rfl,q3⟩:=hf rfl;have hpov:=s9 (l:=ms') y (k:=i) (by omega);simp only[PP,simprocAttr,PN,d,gk,gk0,sk,sk0,i0,c,hln9,hpov,hw];refine bA (ih (i+1) true (ms'.set i y) (w2+1) (G++[.cells 0 1 (msC y)]) ⟨by omega,hS'.set hy,⟨fun q=>Bool.noConfusion q,fun _=>⟨i,y,⟨hlt,?_,fun u hu=>q3 u hu⟩,hy,hn,rfl⟩⟩⟩ (by omega)) (by simp only[PW]) rfl;have:=fun h=>d (hcx.2 h);omega
 ·obtain rfl:i=ow.length:=by omega
  cases l with
  | true=>
   obtain⟨v,y2,p1,p2,p3,rfl⟩:=ht rfl;simp only[PP,simprocAttr,c,gk,gk0,sk,sk0];refine aHp T (G:=G) c1 B hS' fun r G' hr=>?_;simp only[msM,PP,simprocAttr,gk,gk0,sk,sk0];refine Gh.step (GStep.dropM (b:=[.tuple [.bool true,p64 0]]) (N:=fU A f1 o1 f2 o2 f3 o3 f4 o4 ow pr su (ms.set v y2) (v1+1+1) w2 v3 (!r) u) (A.length+4) (Nat.le_refl _) (by simp) (by simp only[PW]) (by simp[aC,PV.under]) ?_ ?_) (Gh.same ⟨_,rfl,hk2 v y2 (!r) _ _ p1 p2 p3 ?_⟩)
   ·exact(congrArg (fun M:Mem=>M.all (aI (A.length+4))) (htake (ms.set v y2) (v1+1+1) w2 (!r) _)).trans (hcut ..)
   ·exact htake (ms.set v y2) (v1+1+1) w2 (!r) _
   ·rw[<-hr];cases r<;>simp
  | false=>
   obtain⟨rfl,rfl,q3⟩:=hf rfl;simp only[PP,simprocAttr,c,gk,gk0,sk,sk0];refine Gh.step (GStep.dropM (b:=[.tuple [.bool false,p64 0]]) (N:=fU A f1 o1 f2 o2 f3 o3 f4 o4 ow pr su ms' (v1+1) w2 v3 true u) (A.length+4) (Nat.le_refl _) (by simp) (by simp only[PW]) (by simp[aC,PV.under]) ?_ ?_) (Gh.same ⟨_,rfl,hk1 q3 _⟩)
   ·exact(congrArg (fun M:Mem=>M.all (aI (A.length+4))) (htake ms' (v1+1) w2 true _)).trans (hcut ..)
   ·exact htake ms' (v1+1) w2 true _
end
end Go.Am.Ar

