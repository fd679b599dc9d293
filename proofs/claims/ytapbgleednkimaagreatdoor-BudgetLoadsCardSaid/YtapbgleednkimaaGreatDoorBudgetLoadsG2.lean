/- Contract: the reader reads a game, and what goes with it. -/
import Derived.Test.YtapbgleednkimaaGreatDoorBudgetLoadsG1
set_option linter.all false
set_option maxRecDepth 10000
open List renaming append_assoc->Ab,map_append->Ay,map_cons->Ak,map_nil->Bq,all_append->Cc,cons_append->Al,nil_append->Aq,take_of_length_le->Be,mem_of_getElem?->Af,take_left'->Bb,all_cons->Co,range->Aw,getElem?_eq_getElem->Ad,getD->Ax,getElem?_map->Av,length_map->Ap,idxOf_append->Fl,range_succ->Et,any_append->Ja,length_nil->Bl,take_add_one->Cp,getElem?_append_left->Bj,map_singleton->Jl,take_length->En,append_nil->Bv,getElem?_cons_succ->Cl,getElem?_append_right->Bx,length_drop->Er,take->Hq
open Nat renaming le_refl->Ac,zero_le->Ai,min_eq_left->Dv,mul_one->Ct,not_lt_zero->Ff,lt_or_ge->Ba,zero_add->Az,sub_self->Dd
open Int renaming le_refl->Cq
open Option renaming getD_some->Cx,getD->Fk,some->Jm,none->Jn
open Classical renaming byContradiction->Cb
open Bool renaming true->Jo,false->Jp
namespace Go.Am.Ar
open Go.Am.PV renaming aa->Zj
open Go.Am renaming jj->P1,mj->P2,ls->P3,fe->P4,cm.under->P5,ig->P6,du->P7,ct->P8,pev->P9,ji->P10,bd->P11,ll->P12,dv->P13,cK->P14,AO.effect->P15
open List renaming replicate->L1
section
variable {tab:Tb} (T:HasA tab){M:Mem}{K:Kp}
include T
set_option maxHeartbeats 4000000 in
def aHm{A G:Mem}{K:Kp}{v B g ver k:Nat}{r:RS}{ow:List Int}(hr:OkR r)(hl:ow.length=k)(E:k<2147483647)
  (I:∀u,K (.tuple []) (A++(rdO u (r.small 255).2::(G++[.cells 0 0 [.ptr A.length 0 0],.cells 0 (B+1) [.ref (A.length+(G.length+1+1+1)) (g+1) 1 0 (k+1),.ah,.ah],.cells (g+1) 0 ((ow++[((r.small 255).1:Int)]).map (.int .u8))])))):
  aj tab 125 [.ptr (A.length+(G.length+1+1)) 0 0,.ptr (A.length+(G.length+1)) 0 0] (A++(rdO v r::(G++[.cells 0 0 [.ptr A.length 0 0],.cells 0 B [.ref (A.length+(G.length+1+1+1)) g 1 0 k,.ah,.ah],.cells g ver (ow.map (.int .u8))]))) K:=by
 have hb:∀k,(A.length==A.length+(k+1))=Jp:=fun k=>by simp
 have y:k+1<=140737488355328:=by omega
 have J:k+1<=9223372036854775807:=by omega
 refine aT T.h125 ?_;simp only[af125,PP,simprocAttr,gk,gk0];refine sI (lim:=255) T hr (by omega) fun u=>?_;simp only[PP,simprocAttr,gk,gk0,sk,dA,bP,hb,y,J,hl];have:=I u;rw[aK _ _ (by simp[hl])];simp only[Ay,Ak,Bq]at this;exact this
set_option maxHeartbeats 4000000 in
def aHl{A G:Mem}{K:Kp}{v B g ver k E u I:Nat}{r:RS}{J:List PV}{pr:List Int}(hr:OkR r)(hl:pr.length=k)(L:k<2147483647)
  (O:∀y,K (.tuple []) (A++(rdO y r.next.2::(G++[.cells 0 0 [.ptr A.length 0 0],.cells 0 (B+1) [.ref (A.length+(G.length+1+1+1)) u 1 0 E,.ref (A.length+(G.length+1+1+1+1)) (g+1) 1 0 (k+1),.ah],.cells u I J,.cells (g+1) 0 ((pr++[((RS.next r).1:Int)]).map p64)])))):
  aj tab 126 [.ptr (A.length+(G.length+1+1)) 0 0,.ptr (A.length+(G.length+1)) 0 0] (A++(rdO v r::(G++[.cells 0 0 [.ptr A.length 0 0],.cells 0 B [.ref (A.length+(G.length+1+1+1)) u 1 0 E,.ref (A.length+(G.length+1+1+1+1)) g 1 0 k,.ah],.cells u I J,.cells g ver (pr.map p64)]))) K:=by
 have hb:∀k,(A.length==A.length+(k+1))=Jp:=fun k=>by simp
 have Q:(k+1)*8<=140737488355328:=by omega
 have R:k+1<=9223372036854775807:=by omega
 refine aT T.h126 ?_;simp only[af126,PP,simprocAttr,gk,gk0];refine gV T hr fun y=>?_;simp only[PP,simprocAttr,gk,gk0,sk,dA,bP,hb,Q,R,hl];have:=O y;rw[aK _ _ (by simp[hl])];simp only[Ay,Ak,Bq]at this;exact this
set_option maxHeartbeats 4000000 in
def aHk{A G:Mem}{K:Kp}{v U g ver k k1 k2 B E u y:Nat}{r:RS}{J L:List PV}{su:List (List Int)}(hr:OkR r)(hl:su.length=k)(V:k<2147483647)(hA:A.all (aG (A.length+(G.length+1)))=Jo)(Y:G.all (aG (A.length+(G.length+1)))=Jo)(O:∀m,aD m J=Jo)(Q:∀m,aD m L=Jo)
  (Z:∀I,K (.tuple []) (A++(rdO I (RS.list r.next.1 r.next.2).2::(G++[.cells 0 0 [.ptr A.length 0 0],.cells 0 (U+1) [.ref (A.length+(G.length+1+1+1)) B 1 0 k1,.ref (A.length+(G.length+1+1+1+1)) E 1 0 k2,.ref (A.length+(G.length+1+1+1+1+1)) (g+1) 1 0 (k+1)],.cells B u J,.cells E y L,.cells (g+1) 0 ((su++[(RS.list r.next.1 r.next.2).1]).map (slI Jp Jo .i64))])))):
  aj tab 127 [.ptr (A.length+(G.length+1+1)) 0 0,.ptr (A.length+(G.length+1)) 0 0] (A++(rdO v r::(G++[.cells 0 0 [.ptr A.length 0 0],.cells 0 U [.ref (A.length+(G.length+1+1+1)) B 1 0 k1,.ref (A.length+(G.length+1+1+1+1)) E 1 0 k2,.ref (A.length+(G.length+1+1+1+1+1)) g 1 0 k],.cells B u J,.cells E y L,.cells g ver (su.map (slI Jp Jo .i64))]))) K:=by
 have hb:∀k,(A.length==A.length+(k+1))=Jp:=fun k=>by simp
 have b1:(k+1)*24<=140737488355328:=by omega
 have b2:k+1<=9223372036854775807:=by omega
 obtain⟨R,S⟩:=hr.next;refine aT T.h127 ?_;simp only[af127,PP,simprocAttr,gk,gk0];refine gV T hr fun I=>?_;simp only[PP,simprocAttr,gk0,dA,bP,hb];refine xL T S R ?_ ?_ fun I=>?_
 ·exact bE (by simp) hA
 ·rw[Cc,bE (by simp) Y];simp[aG,aD,PV.under,aW,O,Q]
 simp only[PP,simprocAttr,gk,gk0,sk,dA,bP,hb,b1,b2,hl];have:=Z I;rw[aK _ _ (by simp[hl])];simp only[Ay,Ak,Bq]at this;exact this
set_option maxHeartbeats 4000000 in
def aDF{A G:Mem}{K:Kp}{v:Nat}{r:RS}(hr:OkR r)(hA:A.all (aG (A.length+(G.length+1)))=Jo)(hG:G.all (aG (A.length+(G.length+1)))=Jo)
  (hk:∀E vn,K (.func (.func 128) [] [.ptr (A.length+(G.length+1+1)) 0 0]) (A++(rdO E r.dj.2::(G++[.cells 0 0 [.ptr A.length 0 0],.cells 0 vn [slI Jp Jo .u8 r.dj.1.1,slI Jp Jo .i64 r.dj.1.2.1,slR Jp Jo Jp Jo .i64 r.dj.1.2.2],.gone,.gone,.gone])))):aj tab 73 [.ptr A.length 0 0] (A++(rdO v r::G)) K:=by
 have hb:∀k,(A.length==A.length+(k+1))=Jp:=fun k=>by simp
 refine dI (cA T.h73 ?_);simp only[af73];refine aA (aB ?_);simp only[PP,simprocAttr,Ab];refine aA (aB ?_);simp only[PP,simprocAttr,Ab];refine aA (aB ?_);simp only[PP,simprocAttr,gk,gk0];refine gV T hr fun E=>?_;simp only[PP,simprocAttr];obtain⟨a3,U⟩:=hr.next;refine aU (GStep.ew (A.length+(G.length+1+1)) 0 1 (by rw[gk];simp only[PP,simprocAttr];rw[gk];rfl) rfl (by simp only[PP,simprocAttr,Ab,sk];rfl)) ?_;refine aA (aB ?_);simp only[PP,simprocAttr,gk,gk0];refine rC T (f:=fun I r=>(I++[((RS.small 255 r).1:Int)],(RS.small 255 r).2)) (s:=([]:List Int)) (fun k ow J=>∃u g ver,J=G++[.cells 0 0 [.ptr A.length 0 0],.cells 0 u [.ref (A.length+(G.length+1+1+1)) g 1 0 k,.ah,.ah],.cells g ver (ow.map (.int .u8))]/\ow.length=k) U ?_ (fun s r h=>h.small 255) ⟨0,0,0,by simp only[PP,simprocAttr],rfl⟩ a3 ?_
 ·rintro k nx r' v J V ⟨u,g,ver,rfl,hl⟩ L _ K' O;refine aHm T L hl (by omega) fun E=>?_;exact O E _ ⟨u+1,g+1,0,rfl,by simp[hl]⟩
 ·rintro k E J V ⟨u,g,ver,rfl,hl⟩ a4;simp only[PP,simprocAttr];refine aU (GStep.ew (A.length+(G.length+1+1)) 1 1 (by rw[gk];simp only[PP,simprocAttr];rw[gk];rfl) rfl (by simp only[PP,simprocAttr,Ab,sk];rfl)) ?_;refine aA (aB ?_);simp only[PP,simprocAttr,gk,gk0];refine rC T (f:=fun I r=>(I++[((RS.next r).1:Int)],(RS.next r).2)) (s:=([]:List Int)) (fun k2 pr J=>∃u S y,J=G++[.cells 0 0 [.ptr A.length 0 0],.cells 0 u [.ref (A.length+(G.length+1+1+1)) g 1 0 k,.ref (A.length+(G.length+1+1+1+1)) S 1 0 k2,.ah],.cells g ver (r.dj.1.1.map (.int .u8)),.cells S y (pr.map p64)]/\pr.length=k2) U ?_ (fun s r h=>h.next.1) ⟨u,0,0,by simp only[PP,simprocAttr];rfl,rfl⟩ a4 ?_
  ·rintro k2 fi r' v J V ⟨u,S,y,rfl,R⟩ L _ K' O;refine aHl T L R (by omega) fun E=>?_;exact O E _ ⟨u+1,S+1,0,rfl,by simp[R]⟩
  ·rintro k2 E J a7 ⟨u,S,y,rfl,R⟩ a5;simp only[PP,simprocAttr];refine aU (GStep.ew (A.length+(G.length+1+1)) 2 1 (by rw[gk];simp only[PP,simprocAttr];rw[gk];rfl) rfl (by simp only[PP,simprocAttr,Ab,sk];rfl)) ?_;refine aA (aB ?_);simp only[PP,simprocAttr,gk,gk0];refine rC T (f:=fun I r=>(I++[(RS.list (RS.next r).1 (RS.next r).2).1],(RS.list (RS.next r).1 (RS.next r).2).2)) (s:=([]:List (List Int))) (fun Y su J=>∃u Z Q,J=G++[.cells 0 0 [.ptr A.length 0 0],.cells 0 u [.ref (A.length+(G.length+1+1+1)) g 1 0 k,.ref (A.length+(G.length+1+1+1+1)) S 1 0 k2,.ref (A.length+(G.length+1+1+1+1+1)) Z 1 0 Y],.cells g ver (r.dj.1.1.map (.int .u8)),.cells S y (r.dj.1.2.1.map p64),.cells Z Q (su.map (slI Jp Jo .i64))]/\su.length=Y) U ?_ (fun s r h=>h.next.1.list _) ⟨u,0,0,by simp only[PP,simprocAttr];rfl,rfl⟩ a5 ?_
   ·rintro Y su r' v J V ⟨u,Z,Q,rfl,B⟩ L _ K' O;refine aHk T L B (by omega) hA hG (fun m=>aO _ _ _) (fun m=>aO _ _ _) fun E=>?_;exact O E _ ⟨u+1,Z+1,0,rfl,by simp[B]⟩
   ·rintro Y E J a9 ⟨u,Z,Q,rfl,B⟩ b0;have a0:r.dj.1.1.length=k:=hl;have a1:r.dj.1.2.1.length=k2:=R;have a6:r.dj.1.2.2.length=Y:=B;simp only[PP,simprocAttr];refine aB ?_;simp only[PP,simprocAttr];refine Gh.step (GStep.fw (b:=[.func (.func 128) [] [.ptr (A.length+(G.length+1+1)) 0 0]]) (cj2:=[slI Jp Jo .u8 r.dj.1.1,.ref (A.length+(G.length+1+1+1+1)) S 1 0 k2,.ref (A.length+(G.length+1+1+1+1+1)) Z 1 0 Y]) (A.length+(G.length+1+1+1)) (A.length+(G.length+1+1)) (by omega) (by rw[gk];simp only[PP,simprocAttr];rw[gk];rfl) (by rw[gk];simp only[PP,simprocAttr];rw[gk];rfl) (by omega) (by simp only[bI,cG]) ?_ rfl) ?_
    ·rw[f0 (by simp[a0]) (by rw[aK _ _ (by simp[a0])];simp only[slI,a0]),bI,bI,cG];trivial
    simp only[PP,simprocAttr,sk];refine Gh.step (GStep.fw (b:=[.func (.func 128) [] [.ptr (A.length+(G.length+1+1)) 0 0]]) (cj2:=[slI Jp Jo .u8 r.dj.1.1,slI Jp Jo .i64 r.dj.1.2.1,.ref (A.length+(G.length+1+1+1+1+1)) Z 1 0 Y]) (A.length+(G.length+1+1+1+1)) (A.length+(G.length+1+1)) (by omega) (by rw[gk];simp only[PP,simprocAttr];rw[gk];rfl) (by rw[gk];simp only[PP,simprocAttr];rw[gk];rfl) (by omega) (by simp only[bI,cG]) ?_ rfl) ?_
    ·simp only[bI];rw[f0 (by simp[a1]) (by rw[aK _ _ (by simp[a1])];simp only[slI,a1]),bI,cG];trivial
    simp only[PP,simprocAttr,sk];refine Gh.step (GStep.fw (b:=[.func (.func 128) [] [.ptr (A.length+(G.length+1+1)) 0 0]]) (cj2:=[slI Jp Jo .u8 r.dj.1.1,slI Jp Jo .i64 r.dj.1.2.1,slR Jp Jo Jp Jo .i64 r.dj.1.2.2]) (A.length+(G.length+1+1+1+1+1)) (A.length+(G.length+1+1)) (by omega) (by rw[gk];simp only[PP,simprocAttr];rw[gk];rfl) (by rw[gk];simp only[PP,simprocAttr];rw[gk];rfl) (by omega) (by simp only[bI,cG]) ?_ rfl) ?_
    ·simp only[bI];rw[f0 (by simp[B]) (by rw[aK _ _ (by simp[B])];simp only[slR,a6];rfl),cG];trivial
    simp only[PP,simprocAttr,sk];exact Gh.same ⟨_,rfl,hk E u⟩
end
def rdF(k:List UInt8):FuncId:=if k=kwD then 71 else if k=kwM then 72 else 73
abbrev bsV(l:List (List UInt8)):List PV:=l.map fun w=>PV.str ⟨w.toArray⟩
def zX(w:List UInt8):Bool:=(kM w).isSome
def kg:∀{ws:List (List UInt8)},(∃y,gF ws=Jm y)↔∀w∈ws,zX w=Jo
 | []=>⟨fun _ w h=>(by cases h),fun _=>⟨[],rfl⟩⟩
 | w::ws=>by
  have B:=kg (ws:=ws);unfold gF;constructor
  ·rintro⟨y,h⟩ x u;split at h
   ·rename_i n E h1 h2;rcases List.mem_cons.1 u with rfl | u
    ·unfold zX;rw[h1];rfl
    ·exact B.1 ⟨E,h2⟩ x u
   ·cases h
  ·intro h;obtain⟨E,hm⟩:=B.2 fun x u=>h x (by simp[u]);have h1:=h w (by simp);unfold zX at h1
   cases hw:kM w with
   | none=>rw[hw]at h1;cases h1
   | some n=>rw[hm];exact⟨_,rfl⟩
section
variable {tab:Tb} (T:HasA tab){M:Mem}{K:Kp}
include T
def aHC{w:List UInt8}(hm:w.length<=100000000)(u:K (.bool (!zX w)) M):aj tab 75 [.str ⟨w.toArray⟩] M K:=by
 refine aT T.h75 ?_;simp only[af75,PP,simprocAttr];refine aCf T (by simpa [ByteArray.size]using hm) ?_;simp only[PP,simprocAttr];have e:(kM (⟨w.toArray⟩:ByteArray).data.toList).isSome=zX w:=by simp[zX]
 rw[e];exact u
set_option maxHeartbeats 1000000 in
def aHh{f o:Bool}{u:List (List UInt8)}(hm:∀w∈u,w.length<=100000000)(hl:u.length<1000000000)(J:∀r:Int,(0<=r↔∃w∈u,zX w=Jp)->K (p64 r) M):aj tab 129 [.sl f o 1 u.length (bsV u),.func (.func 75) [] []] M K:=by
 refine aT T.h129 ?_;simp only[af129,PP,simprocAttr];refine dN (fun(k:Nat)=>k<=u.length/\∀w∈u.take k,zX w=Jo) (fun k=>(.sl f o 1 u.length (bsV u):: .func (.func 75) [] []::zj 5++p64 u.length::p64 k::zj 10)) (fun _=>M) (fun k=>u.length-k) 0 ⟨by omega,by simp⟩ (by simp only[PW]) rfl ?_;intro k ⟨Q,E⟩ R;refine aH (by kernel_rfl) ?_;simp only[PP,simprocAttr];refine QIf.intro (fun c=>?_) fun c=>?_;rotate_left
 ·have G:k=u.length:=by omega
  subst G;rw[Be (Ac _)]at E;simp only[PP,simprocAttr,c];exact J _ ⟨fun h=>absurd h (by omega),fun⟨w,h1,h2⟩=>by rw[E w h1]at h2;cases h2⟩
 have hlt:k<u.length:=by omega
 have hw:=aC (k:=k) (by show _<1000000000000;omega);have L:(0:Int)<=k:=by omega
 obtain⟨w,I⟩:=aM hlt;have B:=Af I;simp only[PP,simprocAttr,c,L,I];refine aHC T (hm w B) ?_
 cases O:zX w with
 | false=>simp only[PP,simprocAttr];exact J _ ⟨fun _=>⟨w,B,O⟩,fun _=>L⟩
 | true=>
  simp only[PP,simprocAttr,hw];refine aE (R (k+1) ⟨by omega,fun x y=>?_⟩ (by omega)) (by simp only[PW]);rw[bZ I]at y;rcases List.mem_append.1 y with y | y
  ·exact E x y
  ·rw[List.mem_singleton]at y;subst y;exact O
def aE3{f o:Bool}{u:List (List UInt8)}(hm:∀w∈u,w.length<=100000000)(hl:u.length<1000000000)(y:∀b:Bool,(b=Jo↔∃w∈u,zX w=Jp)->K (.bool b) M):aj tab 74 [.sl f o 1 u.length (bsV u),.func (.func 75) [] []] M K:=by refine aT T.h74 ?_;simp only[af74,PP,simprocAttr];refine aHh T hm hl fun r hr=>?_;simp only[PP,simprocAttr];exact y _ (by rw[decide_eq_true_eq];exact hr)
def aDH{A G:Mem}{K:Kp}{v:Nat}{r:RS}{k:List UInt8}(hr:OkR r)(hA:A.all (aG (A.length+(G.length+1)))=Jo)(I:G.all (aG (A.length+(G.length+1)))=Jo)
  (u:∀y q B Y,(A++(rdO y (bw k r).2::(G++Y)))[q]? =Jm (.cells 0 B (bw k r).1.oc)->(∀n,A.length<n->Y.all (aG n)=Jo)->K (.func (.func (bw k r).1.bg) [] [.ptr q 0 0]) (A++(rdO y (bw k r).2::(G++Y)))):aj tab (rdF k) [.ptr A.length 0 0] (A++(rdO v r::G)) K:=by
 unfold rdF;unfold bw at u;split
 ·rename_i c;rw[if_pos c]at u;refine aGC T hr hA I fun y B=>?_;refine u y _ B _ ?_ fun n E=>by simp[aG,aD,PV.under,aO,cF,E]
  rw[gk];simp only[PP,simprocAttr];rw[gk];rfl
 ·rename_i c;rw[if_neg c]at u;split
  ·rename_i J;rw[if_pos J]at u;refine aGJ T hr hA I fun y B=>?_;refine u y _ B _ ?_ fun n E=>by simp[aG,aD,PV.under,aW,bS,E]
   rw[gk];simp only[PP,simprocAttr];rw[gk];rfl
  ·rename_i J;rw[if_neg J]at u;refine aDF T hr hA I fun y B=>?_;refine u y _ B _ ?_ fun n E=>by simp[aG,aD,PV.under,aW,aO,E]
   rw[gk];simp only[PP,simprocAttr];rw[gk];rfl
end
structure LoadK (tab:Tb) (t:List UInt8) (M:Mem) (K:Kp):Prop where
 err:∀e,cL t= .err e->K (.tuple [.au,p64 e]) M
 bad:∀i u,cL t= .ok i u->i.chk≠0->K (.tuple [.au,p64 i.chk]) M
 few:∀i u,cL t= .ok i u->i.chk=0->∀m,m<u->(i.done m\/i.ik m)->(∀j,j<m->¬i.done j/\¬i.ik j)->K (.tuple [.au,p64 1]) M
 ok:∀i u,cL t= .ok i u->i.chk=0->(∀j,j<u->¬i.done j/\¬i.ik j)->∀jid b L StF A0 M0,ra tab jid b L i StF->A0.length=b->A0.all (aG b)=Jo->StF A0 u M0->(∃X,A0=M++X)->K (.tuple [.ptr jid 0 0,p64 0]) M0
def j6{M X:Mem}{K:Kp}{e:Int}(y:M.all (aG M.length)=Jo)(h:K (.tuple [.au,p64 e]) M):Gh M.length (fun a N=>∃u,a=[u]/\K u N) [.tuple [.au,p64 e]] (M++X):=by refine Gh.step (GStep.im (b:=[.tuple [.au,p64 e]]) (N:=M) M.length (Ac _) (by simp) (by simp only[PW]) (by simp[aD,PV.under]) ?_ (Bb rfl)) (Gh.same ⟨_,rfl,h⟩);exact(congrArg (fun N:Mem=>N.all (aG M.length)) (Bb rfl)).trans y
def yW(c:UInt8):∀l:List UInt8,(bL c l).length<=l.length+1/\∀w∈bL c l,w.length<=l.length
 | []=>⟨by simp[bL],fun w hw=>by simp[bL]at hw;subst hw;simp⟩
 | b::l=>by
  obtain⟨h1,h2⟩:=yW c l;unfold bL;split
  ·exact⟨by simp;omega,fun w hw=>by
    rcases List.mem_cons.1 hw with rfl | hw
    ·simp
    ·have:=h2 w hw;simp;omega⟩
  ·revert h1 h2
   match bL c l with
   | []=>exact fun h1 h2=>⟨by simp[o6],fun w hw=>by simp[o6]at hw;subst hw;simp⟩
   | x::r=>exact fun h1 h2=>⟨by simp[o6]at h1 ⊢;omega,fun w hw=>by
     rcases List.mem_cons.1 hw with rfl | hw
     ·have:=h2 x (by simp);simp;exact this
     ·have:=h2 w (by simp[hw]);simp;omega⟩
section
variable {tab:Tb} (T:HasA tab){M:Mem}{K:Kp}
include T
set_option maxHeartbeats 4000000 in
def aG0{s:ByteArray}(hs:s.size<=100000000)(b0:∀i u,cL s.data.toList= .ok i u->i.Bw/\(i.chk=0->i.B99)/\i.Pos)(O:M.all (aG M.length)=Jo)(h:LoadK tab s.data.toList M K):aj tab 27 [.str s] M K:=by
 have c8:s.data.toList.length=s.size:=rfl;obtain⟨w,E,hsp⟩:∃w E,bL 32 s.data.toList=w::E:=by
  have:=tU 32 s.data.toList;revert this
  match bL 32 s.data.toList with
  | []=>exact fun h=>absurd rfl h
  | w::E=>exact fun _=>⟨w,E,rfl⟩
 obtain⟨a3,a4⟩:=yW 32 s.data.toList;rw[hsp]at a3 a4;have B:cL s.data.toList=if w=kwD\/w=kwM\/w=kwP then match gF E with | none=> .err 2 | some S=>kP w S else .err 6:=by unfold cL;rw[hsp];rfl
 have h1:(1:Int)<=((E.length+1:Nat):Int):=by omega
 have h0:(0:Int)<((E.length+1:Nat):Int):=by omega
 have e1:(((E.length+1:Nat):Int)-1).toNat=E.length:=by omega
 have e2:aY (bsV E) 0 E.length=bsV E:=aK _ _ (by simp);have m2:∀x,cU 2 (.str ⟨#[109,105,110,105,109,105,122,101]⟩) [(.str ⟨#[100,101,116,101,114,109,105,110,105,122,101]⟩,x)]=Jm Jn:=fun x=>rfl;have m3:∀x y,cU 2 (.str ⟨#[109,101,97,115,117,114,101,115]⟩) [(.str ⟨#[100,101,116,101,114,109,105,110,105,122,101]⟩,x),(.str ⟨#[109,105,110,105,109,105,122,101]⟩,y)]=Jm Jn:=fun x y=>rfl;have p2:∀x y,f7 2 (.str ⟨#[109,105,110,105,109,105,122,101]⟩) (.str ⟨#[109,105,110,105,109,105,122,101]⟩) y [(.str ⟨#[100,101,116,101,114,109,105,110,105,122,101]⟩,x)]=[(.str ⟨#[100,101,116,101,114,109,105,110,105,122,101]⟩,x),(.str ⟨#[109,105,110,105,109,105,122,101]⟩,y)]:=fun x y=>rfl;have p3:∀x y z,f7 2 (.str ⟨#[109,101,97,115,117,114,101,115]⟩) (.str ⟨#[109,101,97,115,117,114,101,115]⟩) z [(.str ⟨#[100,101,116,101,114,109,105,110,105,122,101]⟩,x),(.str ⟨#[109,105,110,105,109,105,122,101]⟩,y)]=[(.str ⟨#[100,101,116,101,114,109,105,110,105,122,101]⟩,x),(.str ⟨#[109,105,110,105,109,105,122,101]⟩,y),(.str ⟨#[109,101,97,115,117,114,101,115]⟩,z)]:=fun x y z=>rfl;have m4:∀x y z,cU 2 (.str ⟨w.toArray⟩) [(.str ⟨#[100,101,116,101,114,109,105,110,105,122,101]⟩,x),(.str ⟨#[109,105,110,105,109,105,122,101]⟩,y),(.str ⟨#[109,101,97,115,117,114,101,115]⟩,z)]=Jm (if w=kwD then Jm x else if w=kwM then Jm y else if w=kwP then Jm z else Jn):=fun x y z=>by
  have:=y9 ⟨w.toArray⟩ [(⟨kwD.toArray⟩,x),(⟨kwM.toArray⟩,y),(⟨kwP.toArray⟩,z)];refine this.trans ?_;have eq:∀k:List UInt8,((⟨w.toArray⟩:ByteArray)=⟨k.toArray⟩)↔w=k:=fun k=>nf;simp only[sD,eq]
 refine dI (cA T.h27 ?_);simp only[af27];refine aA (aB ?_);simp only[PP,simprocAttr];refine aA (aB ?_);simp only[PP,simprocAttr];refine ZH T (c:=32) (by omega) ?_;rw[hsp];simp only[PP,simprocAttr];refine aA (aB ?_);simp only[PP,simprocAttr,h1,e1,e2];refine⟨Cq _,?_⟩;refine aA (aB ?_);simp only[PP,simprocAttr,PT,Ab,gk,sk,m2,m3,m4,p2,p3,h0];by_cases I:w=kwD\/w=kwM\/w=kwP;rotate_left
 ·rw[if_neg (fun q=>I (.inl q)),if_neg (fun q=>I (.inr (.inl q))),if_neg fun q=>I (.inr (.inr q))];simp only[PP,simprocAttr,PT];refine aA (aB ?_);simp only[PP,simprocAttr];exact j6 O (h.err 6 (by rw[B,if_neg I]))
 rw[if_pos I]at B;have b1:(if w=kwD then Jm (PV.func (Fn.func 71) [.ptr M.length 0 0] [])else if w=kwM then Jm (PV.func (Fn.func 72) [.ptr M.length 0 0] [])else if w=kwP then Jm (PV.func (Fn.func 73) [.ptr M.length 0 0] [])else Jn)=Jm (PV.func (Fn.func (rdF w)) [.ptr M.length 0 0] []):=by
  unfold rdF;have d1:kwM≠kwD:=by decide
  have d2:kwP≠kwD:=by decide
  have d3:kwP≠kwM:=by decide
  rcases I with rfl | rfl | rfl
  ·rw[if_pos rfl,if_pos rfl]
  ·rw[if_neg d1,if_pos rfl,if_neg d1,if_pos rfl]
  ·rw[if_neg d2,if_neg d3,if_pos rfl,if_neg d2,if_neg d3]
 rw[b1];simp only[PP,simprocAttr,PT];refine aA (aB ?_);simp only[PP,simprocAttr,gk0];refine aE3 T (fun x hx=>by have:=a4 x (by simp[hx]);omega) (by simp at a3;omega) fun b hb=>?_
 cases b with
 | true=>
  simp only[PP,simprocAttr];obtain⟨x,b2,V⟩:=hb.1 rfl;refine j6 O (h.err 2 ?_)
  cases hn:gF E with
  | none=>rw[B,hn]
  | some S=>have:=kg.1 ⟨S,hn⟩ x b2;rw[V]at this;cases this
 | false=>
  obtain⟨S,hn⟩:=kg.2 fun x hx=>by
   cases V:zX x with
   | true=>rfl
   | false=>exact absurd (hb.2 ⟨x,hx,V⟩) (by simp)
  rw[hn]at B;obtain⟨b3,b4⟩:=ec.1 hn;have a0:cm.cells 0 0 [.sl Jo Jo 1 E.length (bsV E),p64 0,p64 0]=rdO 0 ⟨S,0,0⟩:=by subst b3;simp[bsV,w6]
  have hr:OkR ⟨S,0,0⟩:=b4;simp only[PP,simprocAttr];rw[a0];refine aE (b:=(zj 5++ .ptr M.length 0 0:: .func (.func (rdF w)) [.ptr M.length 0 0] []::zj 98)) ?_ (by simp only[PW]);have b5:∀n,M.length<n->[cm.map 3 [(.str ⟨#[100,101,116,101,114,109,105,110,105,122,101]⟩,.func (Fn.func 71) [.ptr M.length 0 0] []),(.str ⟨#[109,105,110,105,109,105,122,101]⟩,.func (Fn.func 72) [.ptr M.length 0 0] []),(.str ⟨#[109,101,97,115,117,114,101,115]⟩,.func (Fn.func 73) [.ptr M.length 0 0] [])]].all (aG n)=Jo:=fun n hn=>by
   simp[aG,yH,aD,PV.under,hn]
  generalize c9:[cm.map 3 [(.str ⟨#[100,101,116,101,114,109,105,110,105,122,101]⟩,.func (Fn.func 71) [.ptr M.length 0 0] []),(.str ⟨#[109,105,110,105,109,105,122,101]⟩,.func (Fn.func 72) [.ptr M.length 0 0] []),(.str ⟨#[109,101,97,115,117,114,101,115]⟩,.func (Fn.func 73) [.ptr M.length 0 0] [])]]=G at*;refine aA (aB ?_);simp only[PP,simprocAttr];refine gV T (A:=M) (G:=G) hr fun v'=>?_;simp only[PP,simprocAttr];refine aA (aB ?_);simp only[PP,simprocAttr];refine aA (aB ?_);simp only[PP,simprocAttr,gk0];obtain⟨a5,hu⟩:=hr.next;have B:cL s.data.toList=kP w S:=B;unfold kP at B;generalize RS.next ⟨S,0,0⟩=p at*;obtain⟨u0,R⟩:=p;simp only at B a5 hu ⊢;have a6:∀n,M.length<n->G.all (aG n)=Jo:=b5;refine QIf.intro (fun c=>?_) fun c=>?_;rotate_left
  ·simp only[PP,simprocAttr,c];refine aA (aB ?_);simp only[PP,simprocAttr,gk0,c];exact j6 O (h.err _ (by rw[B,if_pos c]))
  rw[if_neg (Classical.not_not.2 c)]at B;simp only[PP,simprocAttr];refine aDH T a5 (bE (by omega) O) (a6 _ (by omega)) fun v' q vn Y hq hY=>?_;generalize bw w R=p at*;obtain⟨i,R2⟩:=p;simp only at B hq ⊢;simp only[PP,simprocAttr];refine aA (aB ?_);simp only[PP,simprocAttr,gk0];refine QIf.intro (fun c2=>?_) fun c2=>?_;rotate_left
  ·simp only[PP,simprocAttr,gk0,c2];exact j6 O (h.err _ (by rw[B,if_pos c2]))
  rw[if_neg (Classical.not_not.2 c2)]at B;simp only[PP,simprocAttr,gk0,c2];refine QIf.intro (fun c3=>?_) fun c3=>?_
  ·simp only[PP,simprocAttr,c3];exact j6 O (h.err _ (by rw[B,if_pos (fun q=>by rw[q]at c3;simp at c3)]))
  have b6:R2.l=[]:=List.length_eq_zero_iff.1 (by omega);rw[if_neg (Classical.not_not.2 b6)]at B;simp only[PP,simprocAttr,gk0,c3];refine QIf.intro (fun c4=>?_) fun c4=>?_;rotate_left
  ·simp only[PP,simprocAttr,gk0,c4];exact j6 O (h.err _ (by rw[B,if_pos c4]))
  rw[if_neg (Classical.not_not.2 c4)]at B;simp only[PP,simprocAttr,c4];obtain⟨b7,c0,a1⟩:=b0 i u0 B;have a2:(M++rdO v' R2::(G++Y)).all (aG (M++rdO v' R2::(G++Y)).length)=Jo:=by
   have hlen:M.length<(M++rdO v' R2::(G++Y)).length:=by simp
   rw[Cc,bE (by simp) O,Co,BS,Cc,a6 _ hlen,hY _ hlen];rfl
  refine aA (aB ?_);simp only[PP,simprocAttr];refine aI0 T b7 c0 a1 hq a2 ⟨fun hc=>?_,fun hc c1 b L StF A0 M0 J a7 a9 hS hX=>?_⟩
  ·simp only[PP,simprocAttr];refine aA (aB ?_);simp only[PP,simprocAttr,hc];exact j6 O (h.bad i u0 B hc)
  ·simp only[PP,simprocAttr];refine aA (aB ?_);simp only[PP,simprocAttr];refine aA (aB ?_);simp only[PP,simprocAttr];have JX:=J.X A0 a7 a9;obtain⟨X,hX⟩:=hX;have U:∀m Q,StF A0 m Q->∃Z,Q=M++Z:=fun m Q hS=>by obtain⟨Z,hZ⟩:=J.pre A0 m Q hS;exact⟨rdO v' R2::(G++Y)++(X++Z),by rw[hZ,hX];simp⟩
   refine JX.step0 hS (by omega) (by omega) (fun m Q bb p1 p2 p3 p4 p5 p6=>?_) fun m Q p1 p2 p3 p4 p5=>?_
   ·obtain⟨vj,wj,c7,gj⟩:=JX.job m Q p6;simp only[PP,simprocAttr,gj];refine QIf.intro (fun c5=>?_) fun c5=>?_
    ·simp only[PP,simprocAttr,c5];obtain⟨Z,rfl⟩:=U m Q p6;have c6:bb=Jo:=by
      cases bb with
      | true=>rfl
      | false=>have:=p4 rfl;omega
     exact j6 O (h.few i u0 B hc m (by omega) (.inl (p3.1 c6)) fun j hj=>p5 j (Ai _) hj)
    ·simp only[PP,simprocAttr,c5];refine aB ?_;simp only[PP,simprocAttr];have hm:m=u0:=by omega
     subst hm;refine Gh.same ⟨_,rfl,h.ok i m B hc (fun j hj=>p5 j (Ai _) hj) c1 b L StF A0 Q J a7 a9 p6 ⟨rdO v' R2::(G++Y)++X,by rw[hX];simp⟩⟩
   ·simp only[PP,simprocAttr];obtain⟨Z,rfl⟩:=U m Q p5;exact j6 O (h.few i u0 B hc m (by omega) (.inr p4) fun j hj=>p3 j (Ai _) hj)
end
section
variable {tab:Tb} {i:In} {jid b L:Nat} {StF:Mem->Nat->Mem->Prop} {m:Nat} {Mm:Mem}
variable (T:HasA tab)
include T
end
end Go.Am.Ar
--P14
namespace Go.Am.Ar
open Go.Am.PV renaming aa->Zj
open Go.Am renaming jj->P1,mj->P2,ls->P3,fe->P4,cm.under->P5,ig->P6,du->P7,ct->P8,pev->P9,ji->P10,bd->P11,ll->P12,dv->P13,cK->P14,AO.effect->P15
open List renaming replicate->L1
def D0:DF:=⟨0,0,[[0]],[Jo]⟩
section
variable {tab:Tb} (T:HasA tab){M:Mem}{K:Kp}
include T
end
section
variable {N:NF} {rs0 rs:List (List Bool)} {ch:Bool} {done done':Nat->Nat->Prop} {p q:Nat}
end
section
variable {tab:Tb} (T:HasA tab){M:Mem}{K:Kp}
include T
omit T in
def FK(id g:Nat)(cs:List PV):∀a:List PV,jx id g cs a a
 | []=>trivial
 | _::a=>⟨.inr (.inl rfl),FK id g cs a⟩
omit T in
def MY{id g:Nat}{cs:List PV}{α:Type}{f y:α->PV} :∀l:List α,(∀u∈l,f u=y u\/∃sz off n,f u= .ref id g sz off n/\off+n*sz<=cs.length/\y u= .sl Jp Jo sz n (aY cs off (n*sz)))->jx id g cs (l.map f) (l.map y)
 | [],_=>trivial
 | x::l,h=>⟨.inr (h x (by simp)),MY l fun u B=>h u (by simp[B])⟩
end
def rwN(D:DF)(s:Nat):List Int:=(D.nx[s]?).getD []
def nxA(D:DF)(s x:Nat):Nat:=((rwN D s).getD x 0).toNat
def dfN(D:DF):Nat->Nat->Nat->Bool
 | 0,s,t=> !decide (D.fi.getD s Jp=D.fi.getD t Jp)
 | k+1,s,t=>dfN D k s t||(Aw (rwN D s).length).any fun x=>dfN D k (nxA D s x) (nxA D t x)
def aGX{a b:Bool}(h:a=Jo↔¬b=Jo):a= !b:=by cases a<;>cases b<;>simp_all
def PQ{D:DF}(C:OkD D):∀(k:Nat) {s t:Nat},s<D.nx.length->t<D.nx.length->dfN D k s t= !decide ((aS D k).getD s 0=(aS D k).getD t 0)
 | 0,s,t,hs,ht=>by unfold dfN aS;rw[HP hs,HP ht];congr 1;rw[decide_eq_decide];generalize D.fi.getD s Jp=a;generalize D.fi.getD t Jp=b;generalize D.fi.getD 0 Jp=c;cases a<;>cases b<;>cases c<;>decide
 | k+1,s,t,hs,ht=>by
  obtain⟨B,E⟩:∃r,D.nx[s]? =Jm r:=⟨_,Ad hs⟩;obtain⟨G,J⟩:∃r,D.nx[t]? =Jm r:=⟨_,Ad ht⟩;have Q:=C.r B (Af E);have R:=C.r G (Af J);have hl:B.length=G.length:=by have:=Q.1;have:=R.1;omega
  have S:rwN D s=B:=by unfold rwN;rw[E];rfl
  have Y:rwN D t=G:=by unfold rwN;rw[J];rfl
  have lt:∀(r:List Int) x,x<r.length->(∀y∈r,0<=y/\y<D.nx.length)->(r.getD x 0).toNat<D.nx.length:=fun r x u h=>by have:=h (r.getD x 0) (by rw[Ax,Ad u];exact List.getElem_mem u);omega
  unfold dfN;rw[PQ C k hs ht,S];refine aGX ?_;rw[decide_eq_true_eq];have T:=t8 (nx:=D.nx) (c:=aS D k) hs;have U:=t8 (nx:=D.nx) (c:=aS D k) ht;have K:(aS D (k+1)).getD s 0=(aS D (k+1)).getD t 0↔bU D.nx (aS D k) s=bU D.nx (aS D k) t:=by
   constructor
   ·intro h;have h:(rfN D.nx (aS D k)).getD s 0=(rfN D.nx (aS D k)).getD t 0:=h;rw[T,U]at h;have Z:bU D.nx (aS D k) s∈fv (bU D.nx (aS D k)) D.nx.length:=(fF _ _ _).2 ⟨s,hs,rfl⟩;have m2:bU D.nx (aS D k) t∈fv (bU D.nx (aS D k)) D.nx.length:=(fF _ _ _).2 ⟨t,ht,rfl⟩;have E:=kE Z;have J:=kE m2;have e:ixF (fv (bU D.nx (aS D k)) D.nx.length) (bU D.nx (aS D k) s)=ixF (fv (bU D.nx (aS D k)) D.nx.length) (bU D.nx (aS D k) t):=by omega
    rw[e,J]at E;exact(Option.some.inj E).symm
   ·intro h;show(rfN D.nx (aS D k)).getD s 0=(rfN D.nx (aS D k)).getD t 0;rw[T,U,h]
  rw[K];unfold bU;rw[E,J];simp only[Cx,List.cons.injEq,Bool.or_eq_true,List.any_eq_true,List.mem_range,Bool.not_eq_true',decide_eq_false_iff_not];have u:∀x,x<B.length->(dfN D k (nxA D s x) (nxA D t x)=Jo↔¬(aS D k).getD (B.getD x 0).toNat 0=(aS D k).getD (G.getD x 0).toNat 0):=fun x u=>by unfold nxA;rw[S,Y,PQ C k (lt B x u Q.2) (lt G x (by omega) R.2)];simp
  constructor
  ·rintro(h | ⟨x,L,O⟩) ⟨I,M⟩
   ·exact h I
   ·refine(u x L).1 O ?_;have:=congrArg (fun l:List Int=>l.getD x 0) M;simp only[Ax,Av,Ad L,Ad (show x<G.length by omega),Option.map_some,Cx]at this ⊢;exact this
  ·intro h;refine Cb fun V=>h ⟨?_,?_⟩
   ·exact Classical.not_not.1 fun q=>V (.inl q)
   ·refine List.ext_getElem (by simp[hl]) fun x I M=>?_;simp only[Ap]at I M;have:¬dfN D k (nxA D s x) (nxA D t x)=Jo:=fun q=>V (.inr ⟨x,I,q⟩);rw[u x I]at this;have:=Classical.not_not.1 this;simp only[Ax,Ad I,Ad M,Cx]at this;simpa [Ax]using this
def aBG{α:Type} [DecidableEq α](f:Nat->α)(n:Nat):∀d,∃r,fv f (n+d)=fv f n++r
 | 0=>⟨[],by simp⟩
 | d+1=>by
  obtain⟨r,h⟩:=aBG f n d;show ∃r,cO (fv f (n+d)) (f (n+d))=_;unfold cO;split
  ·exact⟨r,h⟩
  ·exact⟨r++[f (n+d)],by rw[h,Ab]⟩
def uK(c:List Int)(s:Nat):Nat:=(fv (fun y=>c.getD y 0) s).length
def aEe{c:List Int}{s t:Nat}(ht:t<s)(h:c.getD t 0=c.getD s 0):uK c (s+1)=uK c s:=by unfold uK;show(cO _ _).length=_;rw[o8,if_pos ((fF _ _ _).2 ⟨t,ht,h.symm⟩)]
def aEf{c:List Int}{s n:Nat}(B:M5 n c)(hs:s<n)(h:∀t,t<s->¬c.getD t 0=c.getD s 0):c.getD s 0=uK c s/\uK c (s+1)=uK c s+1:=by
 have hm:c.getD s 0∉fv (fun y=>c.getD y 0) s:=fun q=>by obtain⟨t,ht,e⟩:=(fF _ _ _).1 q;exact h t ht e.symm
 have u:fv (fun y=>c.getD y 0) (s+1)=fv (fun y=>c.getD y 0) s++[c.getD s 0]:=by show cO _ _=_;unfold cO;rw[if_neg hm]
 refine⟨?_,?_⟩
 ·obtain⟨r,hr⟩:=aBG (fun y=>c.getD y 0) (s+1) (n-(s+1));rw[show s+1+(n-(s+1))=n by omega,u]at hr;rw[<-B.2 s hs,hr];unfold ixF uK;rw[Ab,Fl,if_neg hm];simp
 ·unfold uK;rw[u];simp
def aDB{D:DF}(k:Nat):aS D (min k D.nx.length)=aS D k:=by
 by_cases h:k<=D.nx.length
 ·rw[Dv h]
 ·rw[Nat.min_eq_right (by omega)];have:∃j,j<=D.nx.length/\aS D (j+1)=aS D j:=Cb fun q=>by
   have:=NT (D:=D) (m:=D.nx.length+1) fun j u e=>q ⟨j,by omega,e⟩;omega
  obtain⟨j,h1,h2⟩:=this;have a:=pH h2 (D.nx.length-j);have b:=pH h2 (k-j);rw[show j+(D.nx.length-j)=D.nx.length by omega]at a;rw[show j+(k-j)=k by omega]at b;rw[a,b]
def dmN(D:DF)(j:Nat):List (List Bool):=cJ D.nx.length fun s=>cJ D.nx.length fun t=>dfN D j s t
def BX{n t:Nat}(g:Nat->Bool)(b:Bool)(h:t<n):((cJ n g).map PV.bool).set t (.bool b)=(cJ n fun u=>if u=t then b else g u).map PV.bool:=by rw[<-rW b h,List.map_set]
def T5{n t:Nat}(g:Nat->Bool)(h:t<n):((cJ n g).map PV.bool)[t]? =Jm (.bool (g t)):=by rw[Av,eV h];rfl
def aGc{D:DF}{j s:Nat}(h:s<D.nx.length):(dmN D j)[s]? =Jm (cJ D.nx.length fun t=>dfN D j s t):=eV h
def aBT{D:DF}{j n:Nat}(h:n=D.nx.length):(cJ n fun u=>if u<n then slB Jp Jo (cJ n fun t=>dfN D j u t)else PV.ah)=(dmN D j).map (slB Jp Jo):=by subst h;unfold dmN;rw[yP];exact fU fun u y=>by rw[if_pos y]
def aBS(m n k:Nat)(g:Nat->Nat->Bool):aD m (cJ n fun u=>if u<k then slB Jp Jo (cJ n (g u))else PV.ah)=Jo:=(cY _ _).2 fun v hv=>by
 obtain⟨u,_,rfl⟩:=yO hv;split
 ·exact tM _ _ _ _ _ _
 ·simp[PV.under]
def TS{a b:List PV}{n s v w:Nat}{g:Nat->Nat->Bool}(hs:s<n)(hw:dh a b)(hb:aD 1 b=Jo):
  GStep 0 a [.cells 0 v (cJ n fun u=>if u=s then .ref 1 0 1 0 n else if u<s then slB Jp Jo (cJ n (g u))else .ah),.cells 0 w ((cJ n (g s)).map .bool)] b [.cells 0 v (cJ n fun u=>if u<s+1 then slB Jp Jo (cJ n (g u))else .ah)]:=by
 refine GStep.trans (GStep.fw (b:=a) (cj2:=cJ n fun u=>if u<s+1 then slB Jp Jo (cJ n (g u))else .ah) 1 0 (Ai _) rfl rfl (by omega) (FK _ _ _ _) (MY _ fun u G=>?_) rfl) (GStep.drop 1 (Ai _) (by simp) hw hb ?_ rfl)
 ·by_cases y:u=s
  ·right;refine⟨1,0,n,by rw[if_pos y],by rw[Ap,bN];omega,?_⟩;rw[if_pos (by omega),Ct,aK _ _ (by rw[Ap,bN])];unfold slB;rw[bN,y]
  ·left;rw[if_neg y];by_cases B:u<s
   ·rw[if_pos B,if_pos (by omega)]
   ·rw[if_neg B,if_neg (by omega)]
 ·show(cm.under 1 _&&Jo)=Jo;rw[Bool.and_true];exact aBS _ _ _ _
section
variable {tab:Tb} (T:HasA tab){M:Mem}{K:Kp}
include T
set_option maxHeartbeats 8000000 in
def aBU{G I J L O Q:Bool}{D:DF}{k:Nat}(C:OkD D)(B:BnD D)(hk:K (sE Jp Jo Jp Jo (dmN D (min k D.nx.length))) M):
  aj tab 103 [.agg (dfC G I J L O Q D),p64 k] M K:=by
 obtain⟨n,hn⟩:∃n:Nat,n=D.nx.length:=⟨_,rfl⟩;have n1:=C.n1;have hf:=C.f;have b0:(0:Int)<=n:=by omega
 have b1:(n:Int)*24<=140737488355328:=by omega
 have b3:(n:Int)*1<=140737488355328:=by omega
 have b2:(n:Int)<=9223372036854775807:=by omega
 refine bQ T.h103 (by simp only[PP,simprocAttr]) ?_;simp only[af103];refine aA (aB ?_);simp only[PP,simprocAttr];refine aU (GStep.ff (b:=(.aa::p64 k:: .cp (dfC G I J L O Q D) 0::zj 127)) 0 (Ai _) rfl (by simp only[hP,hU,fE,eD,eC,fD]) rfl) ?_;refine aU (GStep.drop (b:=(.aa::p64 k:: .cp (dfC G I J L O Q D) 0::zj 127)) 0 (Ai _) (Ai _) (by simp only[PW]) (by simp only[PP,simprocAttr,PV.under]) rfl rfl) ?_;refine aA (aB ?_);simp only[PP,simprocAttr,<-hn];refine aA (aB ?_);simp only[PP,simprocAttr];refine⟨⟨b0,Cq _,b1,b2⟩,?_⟩;refine aA (fC (Qn:=fun b N=>dh b (.aa::p64 k:: .cp (dfC G I J L O Q D) 0:: .aa:: .aa::p64 n:: .ref 0 0 1 0 n::zj 123)/\∃v,N=[.cells 0 v ((dmN D 0).map (slB Jp Jo))]) ?_ ?_ (fun _ _ h=>h) fun _ _ _ h=>h)
 ·refine aA (aB ?_);simp only[PP,simprocAttr];refine gP ?_;refine cQ (fun(s v:Nat)=>s<=n) (fun s v=>(.aa::p64 k:: .cp (dfC G I J L O Q D) 0:: .aa:: .aa::p64 n:: .ref 0 0 1 0 n::p64 s::zj 122)) (fun s v=>[.cells 0 v (cJ n fun u=>if u<s then slB Jp Jo (cJ n fun t=>dfN D 0 u t)else .ah)]) (fun s v=>n-s) 0 0 (by omega) (by simp only[PW]) (by rw[rZ];rfl) ?_;intro s v hs ih;refine aH (by kernel_rfl) ?_;simp only[PP,simprocAttr];refine QIf.intro (fun c=>?_) fun c=>?_
  ·have E:s<n:=by omega
   have s0:(0:Int)<=s:=by omega
   have sn:(s:Int)<n:=by omega
   have s1:s+1<=n:=E;have a9:=aC (k:=s) (by show _<1000000000000;omega);have b4:=bN n fun u=>if u<s then slB Jp Jo (cJ n fun t=>dfN D 0 u t)else PV.ah
   simp only[PP,simprocAttr,c,b0,b2,b3,s0,s1,b4,rW _ E,Cq];obtain⟨R,hR⟩:∃R,R=cJ n fun u=>if u=s then PV.ref 1 0 1 0 n else if u<s then slB Jp Jo (cJ n fun t=>dfN D 0 u t)else .ah:=⟨_,rfl⟩
   have Y:R[s]? =Jm (.ref 1 0 1 0 n):=by rw[hR,eV E,if_pos rfl]
   have Z:R.length=n:=by rw[hR];exact bN _ _
   rw[<-hR];refine cQ (fun(t w:Nat)=>t<=n) (fun t w=>(.aa::p64 k:: .cp (dfC G I J L O Q D) 0:: .aa:: .aa::p64 n:: .ref 0 0 1 0 n::p64 s::p64 t::zj 121)) (fun t w=>[.cells 0 (v+1) R,.cells 0 w ((cJ n fun u=>if u<t then dfN D 0 s u else Jp).map .bool)]) (fun t w=>n-t) 0 0 (by omega) (by simp only[PW]) (by rw[yP];simp[rZ]) ?_;intro t w ht b5;refine aH (by kernel_rfl) ?_;simp only[PP,simprocAttr];refine QIf.intro (fun d=>?_) fun d=>?_
   ·have S:t<n:=by omega
    have t0:(0:Int)<=t:=by omega
    have tn:(t:Int)<n:=by omega
    have t1:t+1<=n:=S;have hwt:=aC (k:=t) (by show _<1000000000000;omega);have d5:(s:Int)<D.fi.length:=by omega
    have d6:(t:Int)<D.fi.length:=by omega
    obtain⟨x,gx⟩:=aM (xs:=D.fi) (k:=s) (by omega);obtain⟨y,gy⟩:=aM (xs:=D.fi) (k:=t) (by omega);have a3:=bN n fun u=>if u<t then dfN D 0 s u else Jp
    simp only[PP,simprocAttr,d,s0,sn,t0,t1,Y,d5,d6,gx,gy,a3,BX _ _ S,hwt];have e3:(cJ n fun u=>if u=t then !(x==y)else if u<t then dfN D 0 s u else Jp)=cJ n fun u=>if u<t+1 then dfN D 0 s u else Jp:=fU fun u hu=>by
     by_cases q:u=t
     ·subst q;rw[if_pos rfl,if_pos (by omega)];unfold dfN;rw[Ax,gx,Ax,gy];cases x<;>cases y<;>rfl
     ·rw[if_neg q];by_cases q2:u<t
      ·rw[if_pos q2,if_pos (by omega)]
      ·rw[if_neg q2,if_neg (by omega)]
    rw[e3];exact aR (b5 (t+1) (w+1) (by omega) (by omega)) (by simp only[PW]) rfl
   ·obtain rfl:t=n:=by omega
    have e1:(cJ t fun u=>if u<t then dfN D 0 s u else Jp)=cJ t (dfN D 0 s):=fU fun u hu=>by rw[if_pos hu]
    rw[e1,hR];simp only[PP,simprocAttr,d,a9];refine aU (TS (b:=(.aa::p64 k:: .cp (dfC G I J L O Q D) 0:: .aa:: .aa::p64 t:: .ref 0 0 1 0 t::p64 ((s+1:Nat):Int)::zj 122)) E (by simp only[PW]) (by simp only[PP,simprocAttr,PV.under])) ?_;exact aE (ih (s+1) (v+1) (by omega) (by omega)) (by simp only[PW])
  ·obtain rfl:s=n:=by omega
   simp only[PP,simprocAttr,c];exact⟨(by simp only[PW]),v,by rw[aBT hn]⟩
 rintro b N ⟨hw,v,rfl⟩;refine aE ?_ hw;have hfz:∀j,sE Jp Jo Jp Jo (dmN D j)= .sl Jp Jo 1 n (aY ((dmN D j).map (slB Jp Jo)) 0 (n*1)):=fun j=>by rw[Ct,aK _ _ (by simp[dmN,bN,hn])];unfold sE dmN;rw[bN,hn]
 have c5:∀j,0+n*1<=((dmN D j).map (slB Jp Jo)).length:=fun j=>by simp[dmN,bN,hn]
 refine aU (GStep.freeze (b:=(.aa::p64 k:: .cp (dfC G I J L O Q D) 0:: .aa:: .aa::p64 n::sE Jp Jo Jp Jo (dmN D 0)::zj 123)) 0 (Ai _) rfl (by simp only[hP,hU,bI,f0 (c5 0) (hfz 0),cG]) rfl) ?_;have U:∀m j,aD m ((dmN D j).map (slB Jp Jo))=Jo:=fun m j=>dK _ (slB Jp Jo) (fun x=>tM _ _ _ _ _ _) _;refine aU (GStep.drop (b:=(.aa::p64 k:: .cp (dfC G I J L O Q D) 0:: .aa:: .aa::p64 n::sE Jp Jo Jp Jo (dmN D 0)::zj 123)) 0 (Ai _) (Ai _) (by simp only[PW]) (by simp only[PP,simprocAttr,PV.under,U]) rfl rfl) ?_;refine aB ?_;simp only[PP,simprocAttr];refine dN (fun(j:Nat)=>j<=min k n) (fun j=>(.aa::p64 k:: .cp (dfC G I J L O Q D) 0:: .aa:: .aa::p64 n::sE Jp Jo Jp Jo (dmN D j):: .aa:: .aa::p64 j::zj 120)) (fun j=>[]) (fun j=>min k n-j) 0 (by omega) (by simp only[PW]) rfl ?_;intro j hj ih;refine aH (by kernel_rfl) ?_;by_cases c1:j<k;rotate_left
 ·obtain rfl:j=min k n:=by omega
  have a7:¬((min k n:Nat):Int)<k:=by omega
  simp only[PP,simprocAttr,a7,U];rw[hn];exact hk
 have a7:(j:Int)<k:=by omega
 by_cases c2:j<n;rotate_left
 ·obtain rfl:j=min k n:=by omega
  have b6:¬((min k n:Nat):Int)<n:=by omega
  simp only[PP,simprocAttr,a7,b6,U];rw[hn];exact hk
 have b6:(j:Int)<n:=by omega
 have d7:=aC (k:=j) (by show _<1000000000000;omega);simp only[PP,simprocAttr,a7,b6,b0,b1,b2,Cq];refine cQ (fun(s v:Nat)=>s<=n) (fun s v=>(.aa::p64 k:: .cp (dfC G I J L O Q D) 0:: .aa:: .aa::p64 n::sE Jp Jo Jp Jo (dmN D j):: .aa:: .aa::p64 j:: .ref 0 0 1 0 n::p64 s::zj 118)) (fun s v=>[.cells 0 v (cJ n fun u=>if u<s then slB Jp Jo (cJ n fun t=>dfN D (j+1) u t)else .ah)]) (fun s v=>n-s) 0 0 (by omega) (by simp only[PW]) (by rw[rZ];rfl) ?_;intro s v hs b5;refine aH (by kernel_rfl) ?_;simp only[PP,simprocAttr];refine QIf.intro (fun c=>?_) fun c=>?_;rotate_left
 ·obtain rfl:s=n:=by omega
  simp only[PP,simprocAttr,c,d7];rw[aBT hn];refine aE (b:=(.aa::p64 k:: .cp (dfC G I J L O Q D) 0:: .aa:: .aa::p64 s:: .ref 0 0 1 0 s:: .aa:: .aa::p64 ((j+1:Nat):Int)::zj 120)) ?_ (by simp only[PW]);refine aU (GStep.freeze (b:=(.aa::p64 k:: .cp (dfC G I J L O Q D) 0:: .aa:: .aa::p64 s::sE Jp Jo Jp Jo (dmN D (j+1)):: .aa:: .aa::p64 ((j+1:Nat):Int)::zj 120)) 0 (Ai _) rfl (by simp only[hP,hU,bI,f0 (c5 (j+1)) (hfz (j+1)),cG]) rfl) ?_;refine aU (GStep.drop (b:=(.aa::p64 k:: .cp (dfC G I J L O Q D) 0:: .aa:: .aa::p64 s::sE Jp Jo Jp Jo (dmN D (j+1)):: .aa:: .aa::p64 ((j+1:Nat):Int)::zj 120)) 0 (Ai _) (Ai _) (by simp only[PW]) (by simp only[PP,simprocAttr,PV.under,U]) rfl rfl) ?_;exact aE (ih (j+1) (by omega) (by omega)) (by simp only[PW])
 have E:s<n:=by omega
 have s0:(0:Int)<=s:=by omega
 have sn:(s:Int)<n:=by omega
 have s1:s+1<=n:=E;have a9:=aC (k:=s) (by show _<1000000000000;omega);have b4:=bN n fun u=>if u<s then slB Jp Jo (cJ n fun t=>dfN D (j+1) u t)else PV.ah
 simp only[PP,simprocAttr,c,b0,b2,b3,s0,s1,b4,rW _ E,Cq];obtain⟨R,hR⟩:∃R,R=cJ n fun u=>if u=s then PV.ref 1 0 1 0 n else if u<s then slB Jp Jo (cJ n fun t=>dfN D (j+1) u t)else .ah:=⟨_,rfl⟩
 have Y:R[s]? =Jm (.ref 1 0 1 0 n):=by rw[hR,eV E,if_pos rfl]
 have Z:R.length=n:=by rw[hR];exact bN _ _
 rw[<-hR];have g0:(dmN D j).length=n:=by simp[dmN,bN,hn]
 have d8:∀i:Nat,i<n->(i:Int)<(dmN D j).length:=fun i h=>by omega
 have c6:∀{i:Nat},i<n->(dmN D j)[i]? =Jm (cJ n fun t=>dfN D j i t):=fun {i} h=>by rw[hn];exact aGc (by omega)
 have d9:=c6 E;obtain⟨V,g1⟩:=aM (xs:=D.nx) (k:=s) (by omega);have b7:(s:Int)<D.nx.length:=by omega
 have q1:=C.r V (Af g1);have g3:V.length<1000000000000:=B.r V (Af g1);have e1:rwN D s=V:=by unfold rwN;rw[g1];rfl
 refine cQ (fun(t w:Nat)=>t<=n) (fun t w=>(.aa::p64 k:: .cp (dfC G I J L O Q D) 0:: .aa:: .aa::p64 n::sE Jp Jo Jp Jo (dmN D j):: .aa:: .aa::p64 j:: .ref 0 0 1 0 n::p64 s::p64 t::zj 117)) (fun t w=>[.cells 0 (v+1) R,.cells 0 w ((cJ n fun u=>if u<t then dfN D (j+1) s u else Jp).map .bool)]) (fun t w=>n-t) 0 0 (by omega) (by simp only[PW]) (by rw[yP];simp[rZ]) ?_;intro t w ht e0;refine aH (by kernel_rfl) ?_;simp only[PP,simprocAttr];refine QIf.intro (fun d=>?_) fun d=>?_;rotate_left
 ·obtain rfl:t=n:=by omega
  have e1:(cJ t fun u=>if u<t then dfN D (j+1) s u else Jp)=cJ t (dfN D (j+1) s):=fU fun u hu=>by rw[if_pos hu]
  rw[e1,hR];simp only[PP,simprocAttr,d,a9];refine aU (TS (b:=(.aa::p64 k:: .cp (dfC G I J L O Q D) 0:: .aa:: .aa::p64 t::sE Jp Jo Jp Jo (dmN D j):: .aa:: .aa::p64 j:: .ref 0 0 1 0 t::p64 ((s+1:Nat):Int)::zj 118)) E (by simp only[PW]) (by simp only[PP,simprocAttr,PV.under,U])) ?_;exact aE (b5 (s+1) (v+1) (by omega) (by omega)) (by simp only[PW])
 have S:t<n:=by omega
 have t0:(0:Int)<=t:=by omega
 have tn:(t:Int)<n:=by omega
 have t1:t+1<=n:=S;have hwt:=aC (k:=t) (by show _<1000000000000;omega);obtain⟨r2,g2⟩:=aM (xs:=D.nx) (k:=t) (by omega);have c7:(t:Int)<D.nx.length:=by omega
 have q2:=C.r r2 (Af g2);have g4:V.length=r2.length:=by have:=q1.1;have:=q2.1;omega
 have e2:rwN D t=r2:=by unfold rwN;rw[g2];rfl
 have a3:=bN n fun u=>if u<t then dfN D (j+1) s u else Jp
 have g5:=T5 (dfN D j s) S;have c3:=bN n (dfN D j s);simp only[PP,simprocAttr,d,s0,sn,t0,t1,Y,d8 s E,d9,c3,eV S,a3,BX _ _ S];refine cQ (fun(x w:Nat)=>x<=V.length) (fun x w=>(.aa::p64 k:: .cp (dfC G I J L O Q D) 0:: .aa:: .aa::p64 n::sE Jp Jo Jp Jo (dmN D j):: .aa:: .aa::p64 j:: .ref 0 0 1 0 n::p64 s::p64 t::p64 x::zj 116)) (fun x w=>[.cells 0 (v+1) R,.cells 0 w ((cJ n fun u=>if u=t then(dfN D j s t||(Aw x).any fun y=>dfN D j (nxA D s y) (nxA D t y))else if u<t then dfN D (j+1) s u else Jp).map .bool)]) (fun x w=>V.length-x) 0 (w+1) (by omega) (by simp only[PW]) (by simp) ?_;intro x w hx e5;refine aH (by kernel_rfl) ?_;simp only[PP,simprocAttr,s0,b7,g1];refine QIf.intro (fun e=>?_) fun e=>?_;rotate_left
 ·obtain rfl:x=V.length:=by omega
  have e3:(cJ n fun u=>if u=t then(dfN D j s t||(Aw V.length).any fun y=>dfN D j (nxA D s y) (nxA D t y))else if u<t then dfN D (j+1) s u else Jp)=cJ n fun u=>if u<t+1 then dfN D (j+1) s u else Jp:=fU fun u hu=>by
   by_cases q:u=t
   ·subst q;rw[if_pos rfl,if_pos (by omega),<-e1];rfl
   ·rw[if_neg q];by_cases q2:u<t
    ·rw[if_pos q2,if_pos (by omega)]
    ·rw[if_neg q2,if_neg (by omega)]
  rw[e3];simp only[PP,simprocAttr,e,hwt];exact aR (e0 (t+1) w (by omega) (by omega)) (by simp only[PW]) rfl
 have e6:x<V.length:=by omega
 have x0:(0:Int)<=x:=by omega
 have c8:(x:Int)<V.length:=by omega
 have c9:(x:Int)<r2.length:=by omega
 have d0:=aC (k:=x) (by show _<1000000000000;omega);obtain⟨a,ga⟩:=aM (xs:=V) (k:=x) e6;obtain⟨b,gb⟩:=aM (xs:=r2) (k:=x) (by omega);obtain⟨a0,a1⟩:=q1.2 a (Af ga);obtain⟨d4,g6⟩:=q2.2 b (Af gb);have e7:a.toNat<n:=by omega
 have c0:b.toNat<n:=by omega
 have am:a<(dmN D j).length:=by omega
 have bm:b<n:=by omega
 have a5:=c6 e7;have a2:=bN n (dfN D j a.toNat);have f8:=T5 (dfN D j a.toNat) c0;have na:nxA D s x=a.toNat:=by unfold nxA;rw[e1,Ax,ga];rfl
 have nb:nxA D t x=b.toNat:=by unfold nxA;rw[e2,Ax,gb];rfl
 have c4:(dfN D j s t||(Aw (x+1)).any fun y=>dfN D j (nxA D s y) (nxA D t y))=((dfN D j s t||(Aw x).any fun y=>dfN D j (nxA D s y) (nxA D t y))||dfN D j a.toNat b.toNat):=by rw[Et,Ja];simp[na,nb,Bool.or_assoc]
 have a6:=bN n fun u=>if u=t then(dfN D j s t||(Aw x).any fun y=>dfN D j (nxA D s y) (nxA D t y))else if u<t then dfN D (j+1) s u else Jp
 have a4:=e5 (x+1);rw[c4]at a4
 cases hv:dfN D j a.toNat b.toNat with
 | true=>
  rw[hv,Bool.or_true]at a4;have e4:(cJ n fun u=>if u=t then Jo else if u=t then(dfN D j s t||(Aw x).any fun y=>dfN D j (nxA D s y) (nxA D t y))else if u<t then dfN D (j+1) s u else Jp)=cJ n fun u=>if u=t then Jo else if u<t then dfN D (j+1) s u else Jp:=fU fun u hu=>by
   by_cases q:u=t
   ·rw[if_pos q,if_pos q]
   ·rw[if_neg q,if_neg q,if_neg q]
  simp only[PP,simprocAttr,e,s0,sn,t0,tn,t1,x0,c9,Y,b7,c7,g1,g2,ga,gb,a0,am,d4,bm,a5,a2,eV c0,hv,a6,BX _ _ S,d0];rw[e4];exact aR (a4 (w+1) (by omega) (by omega)) (by simp only[PW]) rfl
 | false=>rw[hv,Bool.or_false]at a4;simp only[PP,simprocAttr,e,s0,t0,x0,c9,b7,c7,g1,g2,ga,gb,a0,am,d4,bm,a5,a2,eV c0,hv,d0];exact aR (a4 w (by omega) (by omega)) (by simp only[PW]) rfl
set_option maxHeartbeats 4000000 in
def DY{f1 o1 f2 o2 f3 o3:Bool}{D:DF}{k:Nat}(hc:cN D=0)(B:BnD D)(hk:K (.tuple [slI Jp Jo .i64 (aS D k),p64 0]) M):
  aj tab 55 [.agg (dfC f1 o1 f2 o2 f3 o3 D),p64 k] M K:=by
 have C:=fx.1 hc;have n1:=C.n1;rw[<-aDB]at hk;obtain⟨j,hj⟩:∃j,j=min k D.nx.length:=⟨_,rfl⟩;rw[<-hj]at hk;obtain⟨a1,R⟩:=zE D j;have a2:∀{s t:Nat},s<D.nx.length->t<D.nx.length->dfN D j s t= !decide ((aS D j).getD s 0=(aS D j).getD t 0):=fun {s t} hs ht=>PQ C j hs ht;have a3:∀{s:Nat},s<D.nx.length->(dmN D j)[s]? =Jm (cJ D.nx.length fun t=>dfN D j s t):=fun {s} h=>aGc h;have G:(dmN D j).length=D.nx.length:=by simp[dmN,bN]
 have a4:∀{s:Nat},s<D.nx.length->uK (aS D j) s<=s:=fun {s} _=>PJ _ s;refine bQ T.h55 (by simp only[PP,simprocAttr]) ?_;simp only[af55];refine aA (aB ?_);simp only[PP,simprocAttr];refine aA (aB ?_);simp only[PP,simprocAttr];refine D9 T B ?_;simp only[PP,simprocAttr,hc];refine aA (aB ?_);simp only[PP,simprocAttr];refine aA (aB ?_);simp only[PP,simprocAttr];refine aBU T C B ?_;rw[<-hj];simp only[PP,simprocAttr];refine aA (aB ?_);simp only[PP,simprocAttr];refine aU (GStep.nil 8 1 rfl rfl rfl) ?_;refine aB ?_;simp only[PP,simprocAttr];refine cQ (fun(s g:Nat)=>s<=D.nx.length) (fun s g=>(zj 7++sE Jp Jo Jp Jo (dmN D j):: .ref 1 g 1 0 s::p64 (uK (aS D j) s)::p64 s::zj 41)) (fun s g=>[.cells 0 0 (dfC f1 o1 f2 o2 f3 o3 D),.cells g 0 (((aS D j).take s).map p64)]) (fun s g=>D.nx.length-s) 0 0 (by omega) (by simp only[uK,fv,Bl,PW]) rfl ?_;intro s g hs ih;refine aH (by kernel_rfl) ?_;simp only[PP,simprocAttr,G];refine QIf.intro (fun c=>?_) fun c=>?_;rotate_left
 ·obtain rfl:s=D.nx.length:=by omega
  have I:(aS D j).take D.nx.length=aS D j:=Be (by rw[b9];exact Ac _);have hfz:sV (Jm (cm.cells g 0 ((aS D j).map p64))) g 1 0 D.nx.length=Jm (slI Jp Jo .i64 (aS D j)):=by
   rw[dO (by simp[b9]) (aO _ _ _),Ct,aK _ _ (by simp[b9])];simp only[slI,b9]
  rw[I];simp only[PP,simprocAttr,c,hfz];exact hk
 have y:s<D.nx.length:=by omega
 have s0:(0:Int)<=s:=by omega
 have S:=aC (k:=s) (by show _<1000000000000;omega);have a5:s<(aS D j).length:=by rw[b9];exact y
 obtain⟨v,gv⟩:=aM a5;have U:(aS D j).getD s 0=v:=by rw[Ax,gv];rfl
 have I:((aS D j).take (s+1)).map p64=((aS D j).take s).map p64++[p64 v]:=by rw[Cp,gv];simp
 have J:=a3 y;have L:=bN D.nx.length (dfN D j s);have b1:(s+1)*8<=140737488355328:=by omega
 have b2:s+1<=9223372036854775807:=by omega
 have b3:s<=((aS D j).take s).length:=by simp;omega
 have V:aY (((aS D j).take s).map p64) 0 s=((aS D j).take s).map p64:=aK _ _ (by simp;omega);have b0:=a4 y;simp only[PP,simprocAttr,c];refine dN (fun(t:Nat)=>t<=s/\∀u,u<t->¬(aS D j).getD u 0=(aS D j).getD s 0) (fun t=>(zj 7++sE Jp Jo Jp Jo (dmN D j):: .ref 1 g 1 0 s::p64 (uK (aS D j) s)::p64 s::p64 t::zj 40)) (fun t=>[.cells 0 0 (dfC f1 o1 f2 o2 f3 o3 D),.cells g 0 (((aS D j).take s).map p64)]) (fun t=>s-t) 0 ⟨Ai _,fun u h=>absurd h (Ff _)⟩ (by simp only[PW]) rfl ?_;intro t ⟨ht,Y⟩ a6;refine aH (by kernel_rfl) ?_;have t0:(0:Int)<=t:=by omega
 have tn:(t:Int)<D.nx.length:=by omega
 have hwt:=aC (k:=t) (by show _<1000000000000;omega);have O:=eV (f:=dfN D j s) (show t<D.nx.length by omega);have hd:=a2 y (show t<D.nx.length by omega);by_cases he:(aS D j).getD t 0=(aS D j).getD s 0;rotate_left
 ·have Q:t<s:=by
   rcases Ba t s with q | q
   ·exact q
   ·obtain rfl:t=s:=by omega
    exact absurd rfl he
  rw[decide_eq_false fun q=>he q.symm]at hd;simp only[PP,simprocAttr,G,c,s0,t0,tn,J,L,O,hd,hwt];exact aE (a6 (t+1) ⟨by omega,fun u hu=>by
   by_cases q:u=t
   ·subst q;exact he
   ·exact Y u (by omega)⟩ (by omega)) (by simp only[PW])
 rw[decide_eq_true he.symm]at hd;by_cases Q:t<s
 ·have E:(t:Int)<s:=by omega
  obtain⟨v',Z⟩:=aM (xs:=aS D j) (k:=t) (by omega);have e:v'=v:=by rw[<-U,<-he,Ax,Z];rfl
  subst e;have a0:((aS D j).take s)[t]? =Jm v':=by rw[List.getElem?_take,if_pos Q];exact Z
  have a7:=aEe Q he;have:=ih (s+1) (g+1) (by omega) (by omega);rw[a7,I]at this;have b4:(t:Int)<(((aS D j).take s).map p64).length:=by simp;omega
  simp only[PP,simprocAttr,G,c,s0,t0,tn,J,L,O,hd,E,a0,b1,b2,b3,V,S];exact aR this (by simp only[PW]) rfl
 ·obtain rfl:t=s:=by omega
  have E:¬(t:Int)<t:=by omega
  obtain⟨h1,h2⟩:=aEf ⟨a1,R⟩ y Y;have a9:=aC (k:=uK (aS D j) t) (by show _<1000000000000;omega);rw[U]at h1;have:=ih (t+1) (g+1) (by omega) (by omega);rw[h2,I,h1]at this;simp only[PP,simprocAttr,G,c,s0,J,L,O,hd,E,b1,b2,b3,V,S,a9];exact aR this (by simp only[PW]) rfl
end
abbrev W1(u:List (List Int))(s:List Int):Nat:= @List.idxOf _ instBEqOfDecidableEq s u
def bo.slR{f:Bool}{u:List (List Int)} :bo (slR f Jo Jp Jo .i64 u) (slR Jp Jo Jp Jo .i64 u):=bo.sl f 1 _ _
section
variable {tab:Tb} (T:HasA tab){M:Mem}{K:Kp}
include T
def JN{f o J L O Q:Bool}{u:List (List Int)}{s:List Int}(hm:u.length<=5000)(E:∀r∈u,r.length<big)(B:K (p64 (TL u s)) M):
  aj tab 101 [slR f o J L .i64 u,slI O Q .i64 s] M K:=by
 refine aF T.h101 (by simp only[PP,simprocAttr]) ?_;simp only[af101,PP,simprocAttr];refine dN (fun(k:Nat)=>k<=u.length/\(s∈u->k<=W1 u s)) (fun k=>(slR f o J L .i64 u::slI O Q .i64 s::zj 3++p64 k::zj 13)) (fun _=>[]) (fun k=>u.length-k) 0 ⟨by omega,fun _=>Ai _⟩ (by simp only[PW]) rfl ?_;intro k ⟨R,G⟩ S;refine aH (by kernel_rfl) ?_;simp only[PP,simprocAttr];unfold TL at B;refine QIf.intro (fun c=>?_) fun c=>?_
 ·have I:k<u.length:=by omega
  obtain⟨r,g⟩:=aM I;have U:(0:Int)<=k:=by omega
  have wk:=aC (k:=k) (by show _<1000000000000;omega);simp only[PP,simprocAttr,c,U,g];refine lH T (E r (Af g)) ?_;by_cases e:r=s
  ·subst e;have y:=Af g;have:=E1 g;have:=G y;obtain rfl:k=W1 u r:=by unfold W1 at*;omega
   rw[if_pos y]at B;simp only[PP,simprocAttr];exact B
  ·simp only[PP,simprocAttr,e,wk];refine aE (S (k+1) ⟨by omega,fun h=>?_⟩ (by omega)) (by simp only[PW]);have h1:=G h;have h2:=uS h;refine Cb fun q=>?_;have:k=W1 u s:=by omega
   have h2:u[W1 u s]? =Jm s:=h2;rw[<-this,g]at h2;exact e (Option.some.inj h2)
 ·have:s∉u:=fun h=>by have h1:=G h;have h2:W1 u s<u.length:=aI (uS h);omega
  rw[if_neg this]at B;simp only[PP,simprocAttr,c];exact B
def VG{B E:Bool}{id g ver n:Nat}{o:List (BitVec 64)}{b:BitVec 64}(I:M[id]? =Jm (.cells g ver ((aZ o).map (slI Jp Jo .i64))))(J:n=o.length)(hl:o.length<=5000)(L:K (p64 (if b∈o then((o.idxOf b:Nat):Int)else-1)) M):
  aj tab 101 [.ref id g 1 0 n,slI B E .i64 (bF (bJ b))] M K:=by
 have u:(aZ o).length=o.length:=by simp[aZ]
 subst J;refine iL (args2:=[slR Jo Jp Jp Jo .i64 (aZ o),slI B E .i64 (bF (bJ b))]) ?_ (JN T (by omega) (fun r hr=>?_) ⟨rfl,?_⟩)
 ·have:=jk.ref (sz:=1) (off:=0) (n:=o.length) (cs2:=(aZ o).map (slI Jp Jo .i64)) I (by simp[u]) (aW _ _ _ _ _) (aK _ _ (by simp[u])) (jk.same (v:=slI B E .i64 (bF (bJ b))) (by simp only[PP,simprocAttr]) jk.nil);rw[slR,u];exact this
 ·obtain⟨y,_,rfl⟩:=List.mem_map.1 hr;have:(bJ y).length<=64:=by unfold bJ;exact Nat.le_trans (List.length_filter_le _ _) (by simp)
  show _<1000000000000;simp;omega
 ·rw[BK];exact L
def D3{f o u B:Bool}{S:List (BitVec 64)}{b:BitVec 64}(hl:S.length<=5000)(E:K (p64 (if b∈S then((S.idxOf b:Nat):Int)else-1)) M):
  aj tab 101 [slR f o Jp Jo .i64 (aZ S),slI u B .i64 (bF (bJ b))] M K:=by
 refine JN T (by simp[aZ];omega) (fun r hr=>?_) (by rw[BK];exact E);obtain⟨y,_,rfl⟩:=List.mem_map.1 hr;have:=FA y;show _<1000000000000;simp;omega
set_option maxHeartbeats 8000000 in
def aIk{f1 o1 f2 o2 f3 o3:Bool}{N:NF}{u:Int}(hc:eB N=0)(B:BnN N)(hu:u<=9000000000000000000)
  (hk:∀m:Nat,((m:Int)<=u\/m=0)->(∀j,j<m->¬(In.n N).done j/\¬(In.n N).ik j)->m<=(stK N m).length->(stK N m).length<=4096->(u<=m\/(In.n N).done m)->K (.tuple [JO Jp N.vs (rwK N m) (fnK N m) (aZ (stK N m)) [] [],p64 m,.bool Jp]) M)
  (b5:∀m:Nat,(m:Int)<u->(∀j,j<m->¬(In.n N).done j/\¬(In.n N).ik j)->m<=(stK N m).length->(stK N m).length<=4096->(In.n N).ik m->K (.tuple [JO Jp N.vs (rwK N m) (fnK N m) (aZ (stK N m)) [] [],p64 m,.bool Jo]) M):
  aj tab 54 [.agg (nfC f1 o1 f2 o2 f3 o3 N),p64 u] M K:=by
 have C:=lR hc;have d8:=J1 C.st C.n64;have a1:∀(k:Nat) (e:PV) (b:Bool),bo e (slR Jp Jo Jp Jo .i64 (aZ (stK N k)))->bo (.tuple [.agg [p64 N.vs,p64 0,slR Jp Jo Jp Jo .i64 (rwK N k),slB Jp Jo (fnK N k),e,.ah,.ah],p64 k,.bool b]) (.tuple [JO Jp N.vs (rwK N k) (fnK N k) (aZ (stK N k)) [] [],p64 k,.bool b]):=fun k e b he=>by
  refine bo.tuple rfl fun i y z p q=>?_
  match i,p,q with
  | 0,p,q=>cases p;cases q;exact tI (bo.refl _) (bo.refl _) he (bo.ah _ _ _) (bo.ah _ _ _)
  | 1,p,q=>cases p;cases q;exact bo.refl _
  | 2,p,q=>cases p;cases q;exact bo.refl _
  | i+3,p,q=>simp at p
 refine iK (bQ T.h54 (by simp only[PP,simprocAttr,bD]) ?_);simp only[af54];refine aA (aB ?_);simp only[PP,simprocAttr];refine aA (aB ?_);simp only[PP,simprocAttr];refine BT T (by show _<1000000000000;omega) ?_;simp only[PP,simprocAttr];have b6:aZ [dL N]=[N.st]:=by simp[aZ,yV C]
 refine aU (GStep.wkO 2 (g:=0) (ver:=1) (cs:=[p64 N.vs,p64 0,.ah,.ah,slR Jo Jo Jp Jo .i64 [N.st],.ah,.ah]) (cs2:=[p64 N.vs,p64 0,.ah,.ah,slR Jp Jo Jp Jo .i64 [N.st],.ah,.ah]) rfl (fun w e1 h=>al.wkAt (a:=[p64 N.vs,p64 0,.ah,.ah,slR Jo Jo Jp Jo .i64 [N.st],.ah,.ah]) (v':=slR Jp Jo Jp Jo .i64 [N.st]) 4 (bo.sl _ _ _ _) h) rfl) ?_;refine aU (GStep.ew 2 2 1 (g:=0) (ver:=1) (cs:=[p64 N.vs,p64 0,.ah,.ah,slR Jp Jo Jp Jo .i64 [N.st],.ah,.ah]) rfl rfl rfl) ?_;refine aU (GStep.ew 2 3 1 (g:=0) (ver:=1) (cs:=[p64 N.vs,p64 0,.ref 3 0 1 0 0,.ah,slR Jp Jo Jp Jo .i64 [N.st],.ah,.ah]) rfl rfl rfl) ?_;refine aB ?_;simp only[PP,simprocAttr];refine kV (fun(k g v:Nat)=>k<=(stK N k).length/\(stK N k).length<=4096/\((k:Int)<=u\/k=0)/\∀j,j<k->¬(In.n N).done j/\¬(In.n N).ik j) (fun k g v=>(.aa::p64 u:: .ptr 0 0 0:: .aa:: .ptr 1 0 0:: .aa:: .aa:: .ptr 2 0 0::p64 k::zj 107))
  (fun k g v=>[.cells 0 0 (nfC f1 o1 f2 o2 f3 o3 N),.cells 0 0 [p64 0,p64 0,.ah,.ah,.ah,.ah,.ah],.cells 0 v [p64 N.vs,p64 0,.ref 3 g 1 0 k,.ref 4 g 1 0 k,slR Jp Jo Jp Jo .i64 (aZ (stK N k)),.ah,.ah],.cells g 0 ((rwK N k).map (slI Jp Jo .i64)),.cells g 0 ((fnK N k).map PV.bool)])
  (fun k g v=>u.toNat-k) 0 0 1 ⟨by omega,by simp[dQ],.inr rfl,fun j h=>absurd h (Ff _)⟩ (by simp only[PW]) (by rw[show aZ (stK N 0)=[N.st]from b6];rfl) ?_
 intro k g v ⟨J,h4,a9,G⟩ ih;have U:(rwK N k).length=k:=mC J;have b7:=xW J;have I:(aZ (stK N k)).length=(stK N k).length:=by simp[aZ]
 refine aH (by kernel_rfl) ?_;have hfz:sV (Jm (cm.cells g 0 ((fnK N k).map PV.bool))) g 1 0 k=Jm (slB Jp Jo (fnK N k)):=by
  rw[dO (by simp;omega) (bS _ _),Ct,aK _ _ (by simp;omega)];simp only[slB,b7]
 have L:sV (Jm (cm.cells g 0 ((rwK N k).map (slI Jp Jo .i64)))) g 1 0 k=Jm (slR Jp Jo Jp Jo .i64 (rwK N k)):=by rw[dO (by simp[U]) (aW _ _ _ _ _),Ct,aK _ _ (by simp[U])];simp only[slR,U]
 by_cases c1:k<(stK N k).length;rotate_left
 ·have V:¬(k:Int)<(stK N k).length:=by omega
  have:=hk k a9 G J h4 (.inr (Nat.not_lt.1 c1));simp only[PP,simprocAttr,I,V,hfz,L];exact⟨_,a1 k _ Jp (by simp only[slR,I];exact bo.refl _),this⟩
 have V:(k:Int)<(stK N k).length:=by omega
 by_cases c2:(k:Int)<u;rotate_left
 ·have:=hk k a9 G J h4 (.inl (by omega));simp only[PP,simprocAttr,I,V,c2,hfz,L];exact⟨_,a1 k _ Jp (by simp only[slR,I];exact bo.refl _),this⟩
 obtain⟨a,ga⟩:=aM c1;have k0:(0:Int)<=k:=by omega
 have wk:=aC (k:=k) (by show _<1000000000000;omega);have e2:=C.pf;simp only[PP,simprocAttr,I,V,c2];refine aU (GStep.nil 10 1 rfl rfl rfl) ?_;simp only[PP,simprocAttr];refine UE ?_;refine kV (fun(j O:Nat) (o:List (BitVec 64))=>j<=aL N/\o=cI (aJ N) a j (stK N k)) (fun j O o=>(.aa::p64 u:: .ptr 0 0 0:: .aa:: .ptr 1 0 0:: .aa:: .aa:: .ptr 2 0 0::p64 k::slR Jp Jo Jp Jo .i64 (aZ o):: .ref 5 O 1 0 j::p64 j::zj 104))
  (fun j O o=>[.cells 0 0 (nfC f1 o1 f2 o2 f3 o3 N),.cells 0 0 [p64 0,p64 0,.ah,.ah,.ah,.ah,.ah],.cells 0 v [p64 N.vs,p64 0,.ref 3 g 1 0 k,.ref 4 g 1 0 k,slR Jp Jo Jp Jo .i64 (aZ (stK N k)),.ah,.ah],.cells g 0 ((rwK N k).map (slI Jp Jo .i64)),.cells g 0 ((fnK N k).map PV.bool),.cells O 0 ((iM (aJ N) j o a).map p64)])
  (fun j O o=>aL N-j) 0 0 (stK N k) ⟨by omega,rfl⟩ (by simp only[slR,I,PW]) (by simp[iM]) ?_
 intro j O o ⟨e3,Y⟩ b0;refine aH (by kernel_rfl) ?_;simp only[PP,simprocAttr];refine uN T (by have:=C.v0;omega) (by have:=C.v6;omega) ?_;rw[show((2:Int)^N.vs.toNat)=((aL N:Nat):Int) by simp];simp only[PP,simprocAttr];have c0:=IB (aJ N) a (stK N k) j;rw[<-Y]at c0;have e4:k<o.length:=by
  obtain⟨r,e⟩:=iB (aJ N) a j (stK N k);rw[Y,e];simp;omega
 have E:(aZ o).length=o.length:=by simp[aZ]
 have Q:(k:Int)<o.length:=by omega
 have Z:(aZ o)[k]? =Jm (bF (bJ a)):=by obtain⟨r,e⟩:=iB (aJ N) a j (stK N k);unfold aZ;rw[Av,Y,e,Bj c1,ga];rfl
 refine QIf.intro (fun d=>?_) fun d=>?_
 ·have e5:j<aL N:=by omega
  have j0:(0:Int)<=j:=by omega
  have wj:=aC (k:=j) (by show _<1000000000000;omega);have w8:IntKind.u8.wrap (j:Int)=j:=p9 (by omega);have e6:(iM (aJ N) j o a).length=j:=by simp[iM]
  simp only[PP,simprocAttr,d,k0,E,Q,Z,w8];refine NR T C B (by omega) ?_;simp only[PP,simprocAttr];refine D3 T (by omega) ?_;have c4:∀x,x<j->aJ N a x∈o:=fun x hx=>by rw[Y];exact(kU _ _ _ j _).2 (.inr ⟨x,hx,rfl⟩)
  have b1:(j+1)*8<=140737488355328:=by omega
  have b2:j+1<=9223372036854775807:=by omega
  have b3:j<=(iM (aJ N) j o a).length:=by omega
  have a0:aY ((iM (aJ N) j o a).map p64) 0 j=(iM (aJ N) j o a).map p64:=aK _ _ (by simp[iM]);have R:∀o',iM (aJ N) (j+1) o' a=iM (aJ N) j o' a++[((o'.idxOf (aJ N a j):Nat):Int)]:=fun o'=>by unfold iM;rw[Et,Ay];rfl
  by_cases hm:aJ N a j∈o
  ·have e:cI (aJ N) a (j+1) (stK N k)=o:=by show cO _ _=_;rw[<-Y];unfold cO;rw[if_pos hm]
   have:=b0 (j+1) (O+1) o ⟨by omega,e.symm⟩ (by omega);have a2:¬((o.idxOf (aJ N a j):Nat):Int)<0:=by omega
   rw[if_pos hm];simp only[PP,simprocAttr,a2];refine D3 T (by omega) ?_;rw[if_pos hm];simp only[PP,simprocAttr,b1,b2,b3,wj,a0];refine aR this (by simp only[PW]) ?_;rw[R,Ay];rfl
  ·have e:cI (aJ N) a (j+1) (stK N k)=o++[aJ N a j]:=by show cO _ _=_;rw[<-Y];unfold cO;rw[if_neg hm]
   have:=b0 (j+1) (O+1) (o++[aJ N a j]) ⟨by omega,e.symm⟩ (by omega);have d1:o.length*24<=140737488355328:=by omega
   have d2:o.length<=9223372036854775807:=by omega
   have c1:(o.length+1)*24<=140737488355328:=by omega
   have c2:o.length+1<=9223372036854775807:=by omega
   have c3:o.length<=(aZ o).length:=by simp[aZ]
   have c5:(-1:Int)<0:=by omega
   have c6:aY ((aZ o).map (slI Jp Jo .i64)) 0 o.length=(aZ o).map (slI Jp Jo .i64):=aK _ _ (by simp[aZ]);rw[if_neg hm];have hz:¬o.length=0:=by omega
   simp only[PP,simprocAttr,c5,E,c1,c2,d1,d2,c6,hz];have c7:aZ (o++[aJ N a j])=aZ o++[bF (bJ (aJ N a j))]:=by simp[aZ]
   have a3:slI Jp Jo .i64 (bF (bJ (aJ N a j)))= .sl Jp Jo 1 (bJ (aJ N a j)).length ((bF (bJ (aJ N a j))).map (PV.int .i64)):=by simp only[slI,Ap]
   have b4:(o++[aJ N a j]).idxOf (aJ N a j)=o.length:=by rw[Fl,if_neg hm];simp
   have c8:(aZ o).map (slI Jp Jo .i64)++[.sl Jp Jo 1 (bJ (aJ N a j)).length ((bF (bJ (aJ N a j))).map (PV.int .i64))]=(aZ (o++[aJ N a j])).map (slI Jp Jo .i64):=by rw[c7,Ay,Jl,a3]
   rw[c8];refine VG T (o:=o++[aJ N a j]) (ver:=0) rfl (by simp) (by simp;omega) ?_;rw[if_pos (by simp),b4];simp only[PP,simprocAttr,b1,b2,b3,wj,a0];have c9:slR Jp Jo Jp Jo .i64 (aZ (o++[aJ N a j]))= .sl Jp Jo 1 (o.length+1) (aY ((aZ (o++[aJ N a j])).map (slI Jp Jo .i64)) 0 ((o.length+1)*1)):=by
    rw[Ct,aK _ _ (by simp[aZ])];simp[slR,aZ]
   refine aE (b:=(.aa::p64 u:: .ptr 0 0 0:: .aa:: .ptr 1 0 0:: .aa:: .aa:: .ptr 2 0 0::p64 k:: .ref 6 1 1 0 (o.length+1):: .ref 5 (O+1) 1 0 (j+1)::p64 ((j+1:Nat):Int)::zj 104)) ?_ (by simp only[PW]);refine aU (GStep.freeze (b:=(.aa::p64 u:: .ptr 0 0 0:: .aa:: .ptr 1 0 0:: .aa:: .aa:: .ptr 2 0 0::p64 k::slR Jp Jo Jp Jo .i64 (aZ (o++[aJ N a j])):: .ref 5 (O+1) 1 0 (j+1)::p64 ((j+1:Nat):Int)::zj 104)) 6 (Ai _) rfl (by simp only[hP,hU,bI];rw[f0 (by simp[aZ]) c9];simp only[bI,cG]) rfl) ?_;refine aU (GStep.drop (b:=(.aa::p64 u:: .ptr 0 0 0:: .aa:: .ptr 1 0 0:: .aa:: .aa:: .ptr 2 0 0::p64 k::slR Jp Jo Jp Jo .i64 (aZ (o++[aJ N a j])):: .ref 5 (O+1) 1 0 (j+1)::p64 ((j+1:Nat):Int)::zj 104)) 6 (Ai _) (by simp) (by simp only[PW]) (by simp only[PP,simprocAttr,PV.under]) (by simp only[PP,simprocAttr,cF,PV.under]) rfl) ?_;refine aR this (by simp only[PW]) ?_;rw[R,JK c4,b4,Ay];rfl
 ·obtain rfl:j=aL N:=by omega
  have S:o=stK N (k+1):=by rw[Y,show stK N (k+1)=_ from gD ga]
  simp only[PP,simprocAttr,d];refine Gh.step (GStep.freeze (b:=(.aa::p64 u:: .ptr 0 0 0:: .aa:: .ptr 1 0 0:: .aa:: .aa:: .ptr 2 0 0::p64 k::slR Jp Jo Jp Jo .i64 (aZ o):: .sl Jp Jo 1 (aL N) ((iM (aJ N) (aL N) o a).map p64)::zj 105)) 5 (Ai _) rfl (by simp only[hP,hU,cG,mU,bI,f0,Ct,Az,Ap,sJ,Ac,aK _ _ (VF (aJ N) (aL N) o a)]) rfl) (Gh.same ?_);simp only[PP,simprocAttr,E];refine QIf.intro (fun e=>?_) fun e=>?_
  ·have hF:(In.n N).ik k:=⟨c1,by rw[<-S];omega⟩;have:=b5 k c2 G J h4 hF;simp only[PP,simprocAttr,hfz,L];exact⟨_,a1 k _ Jo (bo.refl _),this⟩
  simp only[PP,simprocAttr,E];refine⟨⟨by omega,by omega,by omega⟩,?_⟩;rw[aK _ _ (by simp[U])];have d9:=J1 C.fi C.n64;refine cQ (fun(i:Nat) (f:Bool)=>i<=N.fi.length/\f=(N.fi.take i).any fun q=>a.getLsbD q.toNat) (fun i f=>(.aa::p64 u:: .ptr 0 0 0:: .aa:: .ptr 1 0 0:: .aa:: .aa:: .ptr 2 0 0::p64 k::slR Jp Jo Jp Jo .i64 (aZ o)::zj 3++ .bool f::p64 i::zj 101))
   (fun i f=>[.cells 0 0 (nfC f1 o1 f2 o2 f3 o3 N),.cells 0 0 [p64 0,p64 0,.ah,.ah,.ah,.ah,.ah],.cells 0 (v+1+1) [p64 N.vs,p64 0,.ref 3 (g+1) 1 0 (k+1),.ref 4 g 1 0 k,slR Jp Jo Jp Jo .i64 (aZ o),.ah,.ah],.cells (g+1) 0 ((rwK N k).map (slI Jp Jo .i64)++[.sl Jp Jo 1 (aL N) ((iM (aJ N) (aL N) o a).map p64)]),.cells g 0 ((fnK N k).map PV.bool),.gone])
   (fun i f=>N.fi.length-i) 0 Jp ⟨by omega,by simp⟩ (by simp only[slR,E,PW]) (by simp only[slR,E]) ?_
  intro i f ⟨e7,hf⟩ d0;refine aH (by kernel_rfl) ?_;simp only[PP,simprocAttr];refine QIf.intro (fun q=>?_) fun q=>?_
  ·have hi:i<N.fi.length:=by omega
   obtain⟨x,gx⟩:=aM hi;have x0:=(kO C.fi x (Af gx)).1;have i0:(0:Int)<=i:=by omega
   have wi:=aC (k:=i) (by show _<1000000000000;omega);have d4:((N.fi.take (i+1)).any fun q=>a.getLsbD q.toNat)=(((N.fi.take i).any fun q=>a.getLsbD q.toNat)||a.getLsbD x.toNat):=by
    rw[Cp,gx,Ja];simp
   have:=d0 (i+1) (f||a.getLsbD x.toNat) ⟨by omega,by rw[d4,hf]⟩ (by omega)
   cases f with
   | true=>rw[Bool.true_or]at this;simp only[PP,simprocAttr,q,wi];exact aE this (by simp only[PW])
   | false=>rw[Bool.false_or]at this;simp only[PP,simprocAttr,q,k0,E,Q,Z,i0,gx];refine BA T (by simp;show _<1000000000000;exact Nat.lt_of_le_of_lt (FA a) (by decide)) ?_;rw[KP x0];simp only[PP,simprocAttr,wi];exact aE this (by simp only[PW])
  ·obtain rfl:i=N.fi.length:=by omega
   rw[En]at hf;have hf:f=CZ N a:=hf;subst hf;have d5:(k+1)*1<=140737488355328:=by omega
   have a4:k+1<=140737488355328:=by omega
   have d6:k+1<=9223372036854775807:=by omega
   have d7:k<=(fnK N k).length:=by omega
   simp only[PP,simprocAttr,q,wk,a4,d6,d7];rw[aK _ _ (by simp;omega)];have a5:rwK N (k+1)=rwK N k++[iM (aJ N) (aL N) o a]:=by rw[Y];exact qR ga
   have a6:=LU ga;have a7:slI Jp Jo .i64 (iM (aJ N) (aL N) o a)= .sl Jp Jo 1 (aL N) ((iM (aJ N) (aL N) o a).map p64):=by simp only[slI,sJ]
   refine aU (GStep.drop (b:=(.aa::p64 u:: .ptr 0 0 0:: .aa:: .ptr 1 0 0:: .aa:: .aa:: .ptr 2 0 0::p64 ((k+1:Nat):Int)::zj 107)) 5 (Ai _) (by simp) (by simp only[PW]) (by simp only[PP,simprocAttr,PV.under]) (by simp only[PP,simprocAttr,cF,PV.under]) rfl) ?_;refine aR (ih (k+1) (g+1) (v+1+1+1) ⟨by rw[<-S];omega,by rw[<-S];omega,.inl (by omega),fun j hj=>?_⟩ (by omega)) (by simp only[PW]) ?_
   ·by_cases q:j<k
    ·exact G j q
    ·obtain rfl:j=k:=by omega
     exact⟨fun h=>by have h:(stK N j).length<=j:=h;omega,fun h=>by have h:4096<(stK N (j+1)).length:=h.2;rw[<-S]at h;omega⟩
   ·rw[<-S,a5,a6,Ay,Ay,Jl,Jl,a7];rfl
omit T in
def IX{ow pr:List Int}{u:List Ms}(y:ja (aP pr) ow.length u):oB ow.length (Nf (aP pr) u)<=ow.length*mT (aP pr):=FV y.bnd
set_option maxHeartbeats 2000000 in
def EA{R S U Y Z o3 f4 o4:Bool}{ow pr:List Int}{su:List (List Int)}{n:Int}(V:Valid ow pr su)(B:Bnd ow pr su)(ho:∀x∈ow,0<=x)(a5:ow.length*mT (aP pr)<=4000000000000000000)(hn: -1<=n)(a7:n<=9223372036854775807)
  (hk:∀u b,ja (aP pr) ow.length u->LI ow.length (mT (aP pr)) (gL ow pr su) (Nf (aP pr) u)->(b=Jo↔pZ ow.length (gL ow pr su) (Nf (aP pr) u))->(0<=n->Nf (aP pr) u=itN ow.length (gL ow pr su) n.toNat)->(n<0->b=Jo)->K (.tuple [slM Jp Jo u,.bool b]) M):
  aj tab 56 [gmP R S U Y Z o3 f4 o4 ow pr su,p64 n] M K:=by
 have n0:=V.n0;have n1:=V.n1;have hL:=tK V;have b0:(0:Int)<=ow.length:=by omega
 have a3:(ow.length:Int)*72<=140737488355328:=by omega
 have b2:(ow.length:Int)<=9223372036854775807:=by omega
 refine aF T.h56 (by simp only[PP,simprocAttr,PV.under]) ?_;simp only[af56,PP,simprocAttr,PN,b0,a3,b2,Cq];have O:∀(ver:Nat) (u:List Ms),ja (aP pr) ow.length u->∀l:List PV,aD 0 l=Jo->jk [.cells 0 0 [slI R S .u8 ow,slI U Y .i64 pr,slR Z o3 f4 o4 .i64 su],.cells 0 ver (msL u)] (gmP R S U Y Z o3 f4 o4 ow pr su:: .ref 1 0 9 0 ow.length::l) (gmP R S U Y Z o3 f4 o4 ow pr su::slM Jo Jp u::l):=fun ver u E l hl=>by
  have rest:∀l:List PV,aD 0 l=Jo->jk [.cells 0 0 [slI R S .u8 ow,slI U Y .i64 pr,slR Z o3 f4 o4 .i64 su],.cells 0 ver (msL u)] l l:=by
   intro l
   induction l with
   | nil=>intro _;exact .nil
   | cons x l ih=>intro h;rw[eJ,Bool.and_eq_true]at h;exact .same h.1 (ih h.2)
  refine .same (by simp only[PP,simprocAttr]) ?_;rw[<-E.l];exact .ref rfl (by rw[jV];omega) (dE _ _) (f6 u) (rest l hl)
 refine kV (fun(j ver:Nat) (u:List Ms)=>ja (aP pr) ow.length u/\Nf (aP pr) u=itN ow.length (gL ow pr su) j/\j<=oB ow.length (Nf (aP pr) u)/\(0<=n->(j:Int)<=n))
  (fun j ver u=>(.aa::p64 n:: .ptr 0 0 0::zj 3++ .ref 1 0 9 0 ow.length::p64 j::zj 28))
  (fun j ver u=>[.cells 0 0 [slI R S .u8 ow,slI U Y .i64 pr,slR Z o3 f4 o4 .i64 su],.cells 0 ver (msL u)]) (fun j _ u=>ow.length*mT (aP pr)-oB ow.length (Nf (aP pr) u)) 0 0 (List.replicate ow.length mz) ⟨ja.zero (iF pr) _,UK _ _,Ai _,fun h=>h⟩ (by simp only[PW]) rfl ?_
 intro j ver u ⟨E,hN,hj,a1⟩ ih;have I:=E.l;have a6:=IX (ow:=ow) E;have hI:LI ow.length (mT (aP pr)) (gL ow pr su) (Nf (aP pr) u):=by rw[hN];exact PE hL j
 have jb:j<=4000000000000000000:=by omega
 refine aH (by kernel_rfl) ?_;simp only[PP,simprocAttr];refine QIf.intro (fun c=>?_) fun c=>?_
 ·simp only[PP,simprocAttr,c];have L:n=(j:Int):=by omega
  refine iL (O ver u E [] rfl) (vQ T V B ho E (fun v q=>⟨rfl,?_⟩) fun q=>⟨rfl,?_⟩)
  ·have G:¬(v:Int)<0:=by omega
   simp only[PP,simprocAttr,G,LQ I];refine hk u Jp E hI ⟨fun h=>(by cases h),fun h=>?_⟩ (fun _=>by rw[hN,L];rfl) (fun h=>by omega);have:=h v q.1;have:=q.2.1;omega
  ·simp only[PP,simprocAttr,LQ I];exact hk u Jo E hI ⟨fun _=>q,fun _=>rfl⟩ (fun _=>by rw[hN,L];rfl) fun h=>rfl
 ·have a4:IntKind.i64.wrap ((j:Int)+1)=((j+1:Nat):Int):=by rw[wrap64 (x:=(j:Int)+1) (by omega) (by omega)];omega
  simp only[PP,simprocAttr,c];refine iL (O ver u E [] rfl) (vQ T V B ho E (fun v q=>⟨rfl,?_⟩) fun q=>⟨rfl,?_⟩)
  ·have G:¬(v:Int)<0:=by omega
   have v0:(0:Int)<=v:=by omega
   have hv:=q.1;have vn:(v:Int)<ow.length:=by omega
   have v9:v*9+9<=ow.length*9:=by omega
   have vl:v<u.length:=by omega
   simp only[PP,simprocAttr,G];refine iL (O ver u E [p64 v] (by simp only[PP,simprocAttr])) (D2 T V B ho E hv fun y y1 y2=>⟨by simp only[PV.flat,PV.nd,oO],?_⟩);have a0:=uC (l:=u) y vl;simp only[PP,simprocAttr,PN,v0,vn,v9,I,a0,a4];have a9:=yR (n:=ow.length) (m:=Nf (aP pr) u) (v:=v) (x:=gL ow pr su (Nf (aP pr) u) v) hv q.2.1;have a2:=E.set (k:=v) y1;have Q:=IX (ow:=ow) a2;have J:Nf (aP pr) (u.set v y)=lV (Nf (aP pr) u) v (gL ow pr su (Nf (aP pr) u) v):=by rw[RN vl,y2]
   rw[J]at Q;refine aE (ih (j+1) (ver+1) (u.set v y) ⟨a2,?_,by rw[J];omega,fun h=>by have:=a1 h;omega⟩ (by rw[J];omega)) (by simp only[PW]);show _=qP ow.length (gL ow pr su) (itN ow.length (gL ow pr su) j);rw[J,hN,pG (by rw[<-hN];exact q)]
  ·simp only[PP,simprocAttr,LQ I];refine hk u Jo E hI ⟨fun _=>q,fun _=>rfl⟩ (fun h=>?_) fun h=>rfl;rw[hN]at q ⊢;obtain⟨d,hd⟩:∃d,n.toNat=j+d:=⟨n.toNat-j,by have:=a1 h;omega⟩;rw[hd,G9 q]
end
def aFT(i:In)(u:Int)(M:Mem)(K:Kp):Prop:=
 ∀m:Nat,((m:Int)<=u\/m=0)->(∀j,j<m->¬i.done j/\¬i.ik j)->∀r,i.rp m r->∀b y:Bool,(b=Jo↔i.done m)->(y=Jo->i.ik m)->(y=Jp->u<=m\/i.done m)->K (.tuple [r.pv,p64 m,.bool b,.bool y]) M
def aGd{ow pr:List Int}{su:List (List Int)}(V:Valid ow pr su)(h:ow.length<=99):ow.length*mT (aP pr)<=4000000000000000000:=by
 have h2:mT (aP pr)<=100^8:=by
  have:=aAP 99 (ns:=aP pr) fun n u=>by have:=S6 pr n u;have:=V.p;omega
  rw[iF]at this;exact this
 have h3:=Nat.mul_le_mul h h2;have B:99*100^8<=4000000000000000000:=by decide
 omega
section
variable {tab:Tb} (T:HasA tab){M:Mem}{K:Kp}
include T
set_option maxHeartbeats 4000000 in
def aDJ{f o:Bool}{N:NF}{u I:Int}(J:eB N=0)(B:BnN N)(L:u<=9000000000000000000)(G:aFT (.n N) u M K):aj tab 19 [.agg (jbN f o N I),p64 u] M K:=by
 refine bQ T.h19 (by simp only[PP,simprocAttr,bD]) ?_;simp only[af19];refine aB ?_;simp only[PP,simprocAttr];refine aIk T J B L (fun m h1 h2 h3 y E=>?_) fun m h1 h2 h3 y E=>?_
 ·have:=G m h1 h2 ⟨N.vs,rwK N m,fnK N m,aZ (stK N m),[],[]⟩ ⟨rfl,h3,y⟩ (decide ((m:Int)=(aZ (stK N m)).length)) Jp (by rw[decide_eq_true_eq];show _↔(stK N m).length<=m;simp[aZ];omega) (fun h=>by cases h) fun _=>E;simp only[PP,simprocAttr,PN];exact this
 ·have:=G m (.inl (by omega)) h2 ⟨N.vs,rwK N m,fnK N m,aZ (stK N m),[],[]⟩ ⟨rfl,h3,y⟩ (decide ((m:Int)=(aZ (stK N m)).length)) Jo (by
   rw[decide_eq_true_eq];show _↔(stK N m).length<=m;simp[aZ];omega) (fun _=>E) (fun h=>by cases h)
  simp only[PP,simprocAttr,PN];exact this
set_option maxHeartbeats 4000000 in
def aDK{f o:Bool}{D:DF}{u O:Int}(J:cN D=0)(B:BnD D)(Q:aFT (.d D) u M K):aj tab 19 [.agg (jbD f o D O),p64 u] M K:=by
 have Z:=(fx.1 J).n1;have L:∀k,(aS D k).length<big:=fun k=>by rw[b9];show _<1000000000000;omega
 refine iK (bQ T.h19 (by simp only[PP,simprocAttr,bD]) ?_);simp only[af19];refine aB ?_;simp only[PP,simprocAttr];refine DY (k:=0) T J B ?_;simp only[PP,simprocAttr];have I:∀(m:Nat) (b:Bool),bo (.tuple [.agg [p64 0,p64 0,.ah,.ah,.ah,slI Jp Jo .i64 (aS D m),.ah],p64 m,.bool b,.bool Jp]) (.tuple [Res.pv ⟨0,[],[],[],aS D m,[]⟩,p64 m,.bool b,.bool Jp]):=fun m b=>by
  refine bo.tuple rfl fun i y z p q=>?_
  match i,p,q with
  | 0,p,q=>cases p;cases q;exact tI (bo.ah _ _ _) (bo.ah _ _ _) (bo.ah _ _ _) (bo.refl _) (bo.ah _ _ _)
  | 1,p,q=>cases p;cases q;exact bo.refl _
  | 2,p,q=>cases p;cases q;exact bo.refl _
  | 3,p,q=>cases p;cases q;exact bo.refl _
  | i+4,p,q=>simp at p
 refine dN (fun(n:Nat)=>((n:Int)<=u\/n=0)/\∀j,j<n->aS D (j+1)≠aS D j) (fun n=>(.aa::p64 u:: .ptr 0 0 0:: .aa:: .ptr 1 0 0::zj 6++p64 n::slI Jp Jo .i64 (aS D n)::zj 83)) (fun n=>[.cells 0 0 (jbD f o D O),.cells 0 0 [p64 0,p64 0,.ah,.ah,.ah,.ah,.ah]]) (fun n=>D.nx.length-n) 0 ⟨.inr rfl,fun j h=>absurd h (Ff _)⟩ (by simp only[PW]) rfl ?_;intro n ⟨R,G⟩ V;have Y:=NT G;refine aH (by kernel_rfl) ?_;have S:=aC (k:=n) (by show _<1000000000000;omega);simp only[PP,simprocAttr,S];refine DY (k:=n+1) T J B ?_;simp only[PP,simprocAttr];refine lH T (L n) ?_;have pre:∀j,j<n->¬(In.d D).done j/\¬(In.d D).ik j:=fun j U=>⟨G j U,fun q=>q⟩;by_cases e:aS D n=aS D (n+1)
 ·have:=Q n R pre ⟨0,[],[],[],aS D n,[]⟩ rfl Jo Jp ⟨fun _=>e.symm,fun _=>rfl⟩ (fun h=>by cases h) fun _=> .inr e.symm;simp only[PP,simprocAttr,e];rw[<-e];exact⟨_,I n Jo,this⟩
 ·simp only[PP,simprocAttr,e];refine QIf.intro (fun c=>?_) fun c=>?_
  ·have:=Q n R pre ⟨0,[],[],[],aS D n,[]⟩ rfl Jp Jp ⟨(fun h=>by cases h),fun h=>absurd h.symm e⟩ (fun h=>by cases h) fun _=> .inl c;simp only[PP,simprocAttr,c];exact⟨_,I n Jp,this⟩
  ·have E:∀j,j<n+1->aS D (j+1)≠aS D j:=fun j U=>by
    by_cases q:j<n
    ·exact G j q
    ·obtain rfl:j=n:=by omega
     exact fun h=>e h.symm
   have:=NT E;simp only[PP,simprocAttr,c,S];exact aE (V (n+1) ⟨.inl (by omega),E⟩ (by omega)) (by simp only[PW])
set_option maxHeartbeats 4000000 in
def aDI{f o:Bool}{ow pr:List Int}{su:List (List Int)}{u Z:Int}(hc:bO ow pr su=0)(B:Bnd ow pr su)(ho:∀x∈ow,0<=x)(J:ow.length<=99)(hu:u<=9000000000000000000)(hk:aFT (.g ow pr su) u M K):aj tab 19 [.agg (jbG f o ow pr su Z),p64 u] M K:=by
 have V:=eU hc;refine iK (bQ T.h19 (by simp only[PP,simprocAttr,bD]) ?_);simp only[af19];refine aB ?_;simp only[PP,simprocAttr];have R:∀(m:Nat) (E:List Ms) (b:Bool),bo (.tuple [.agg [p64 0,p64 0,.ah,.ah,.ah,.ah,slM Jp Jo E],p64 m,.bool b,.bool Jp]) (.tuple [Res.pv ⟨0,[],[],[],[],E⟩,p64 m,.bool b,.bool Jp]):=fun m E b=>by
  refine bo.tuple rfl fun i y z p q=>?_
  match i,p,q with
  | 0,p,q=>cases p;cases q;exact tI (bo.ah _ _ _) (bo.ah _ _ _) (bo.ah _ _ _) (bo.ah _ _ _) (bo.refl _)
  | 1,p,q=>cases p;cases q;exact bo.refl _
  | 2,p,q=>cases p;cases q;exact bo.refl _
  | 3,p,q=>cases p;cases q;exact bo.refl _
  | i+4,p,q=>simp at p
 refine dN (fun(n:Nat)=>((n:Int)<=u\/n=0)/\∀j,j<n->¬(In.g ow pr su).done j) (fun n=>(.aa::p64 u:: .ptr 0 0 0:: .aa:: .ptr 1 0 0::zj 11++p64 n::zj 79)) (fun n=>[.cells 0 0 (jbG f o ow pr su Z),.cells 0 0 [p64 0,p64 0,.ah,.ah,.ah,.ah,.ah]]) (fun n=>u.toNat-n) 0 ⟨.inr rfl,fun j h=>absurd h (Ff _)⟩ (by simp only[PW]) rfl ?_;intro n ⟨hn,L⟩ ih;have pre:∀j,j<n->¬(In.g ow pr su).done j/\¬(In.g ow pr su).ik j:=fun j hj=>⟨L j hj,fun q=>q⟩;have a0:(n:Int)<=9000000000000000000:=by omega
 refine aH (by kernel_rfl) ?_;simp only[PP,simprocAttr];have fin:(u<=n\/(In.g ow pr su).done n)->∀(E:List Ms) (b:Bool),ja (aP pr) ow.length E->(b=Jo↔pZ ow.length (gL ow pr su) (Nf (aP pr) E))->Nf (aP pr) E=itN ow.length (gL ow pr su) n->K (.tuple [Res.pv ⟨0,[],[],[],[],E⟩,p64 n,.bool b,.bool Jp]) M:=fun S E b Q hb G=>
  hk n hn pre ⟨0,[],[],[],[],E⟩ ⟨E,rfl,Q,G⟩ b Jp (by rw[hb,G];exact Iff.rfl) (fun h=>by cases h) fun _=>S
 have n0:(0:Int)<=n:=by omega
 have I:(u<=n\/(In.g ow pr su).done n)->∀{U:Mem} {Y:Kp},(∀(E:List Ms) (b:Bool),(∃r',bo (.tuple [.agg [p64 0,p64 0,.ah,.ah,.ah,.ah,slM Jp Jo E],p64 n,.bool b,.bool Jp]) r'/\K r' M)->Y (.tuple [slM Jp Jo E,.bool b]) U)->aj tab 56 [gmP f o f o f o f o ow pr su,p64 n] U Y:=fun S {U Y} O=>
  EA T V B ho (aGd V J) (by omega) (by omega) fun E b Q hI hb G _=>O E b ⟨_,R n E b,fin S E b Q hb (by have:=G n0;simpa using this)⟩
 refine QIf.intro (fun c=>?_) fun c=>?_
 ·simp only[PP,simprocAttr,c];refine EA T V B ho (aGd V J) (by omega) (by omega) fun E b Q hI hb G _=>?_;have G:=G n0;rw[Int.toNat_natCast]at G;have hd:b=Jo↔(In.g ow pr su).done n:=by rw[hb,G];exact Iff.rfl
  cases b with
  | true=>simp only[PP,simprocAttr];refine I (.inr (hd.1 rfl)) fun E b O=>?_;simp only[PP,simprocAttr,PN];exact O
  | false=>
   have wn:IntKind.i64.wrap ((n:Int)+1)=((n+1:Nat):Int):=by rw[wrap64 (x:=(n:Int)+1) (by omega) (by omega)];omega
   simp only[PP,simprocAttr,wn];exact aE (ih (n+1) ⟨.inl (by omega),fun j hj=>by
    by_cases q:j<n
    ·exact L j q
    ·obtain rfl:j=n:=by omega
     exact fun h=>by have:=hd.2 h;cases this⟩ (by omega)) (by simp only[PW])
 ·simp only[PP,simprocAttr,c];refine I (.inl (by omega)) fun E b O=>?_;simp only[PP,simprocAttr,PN];exact O
end
def eX(u:List (List UInt8)):List UInt8:=u.flatMap fun x=>32::x
def kB(w:List UInt8)(r:List (List UInt8)):eX (w::r)=32::(w++eX r):=by simp[eX]
def aAE(a b:List Nat):bF (a++b)=bF a++bF b:=by simp[bF]
abbrev rfO(v:Nat)(f o:Bool)(r:RF):cm:= .cells 0 v [slI f o .i64 (bF r.l),.bool r.sh,.bool r.od]
def OkF(r:RF):Prop:=(∀n∈r.l,n<=2147483647)/\r.l.length<=100000000
def OkF.next{r:RF}(h:OkF r):OkF r.next.2/\r.next.1<=2147483647:=by
 obtain⟨l,e,la⟩:=r
 cases l with
 | nil=>exact⟨⟨fun n y=>absurd y (by simp[RF.next]),by simp[RF.next]⟩,by simp[RF.next]⟩
 | cons n l=>exact⟨⟨fun x u=>h.1 x (by simp[RF.next]at u ⊢;exact .inr u),by have:=h.2;simp[RF.next]at this ⊢;omega⟩,h.1 n (by simp)⟩
def OkF.small{r:RF}(h:OkF r)(k:Nat):OkF (r.small k).2:=by
 unfold RF.small;split
 ·exact h.next.1
 ·exact h.next.1
def OkF.list{r:RF}(h:OkF r)(n:Nat):OkF (RF.list n r).2:=by
 unfold RF.list;split
 ·exact h
 ·refine⟨fun x u=>h.1 x (List.mem_of_mem_drop u),?_⟩;have:=h.2;simp;omega
def OkF.each{σ:Type}{f:σ->RF->σ×RF}(hf:∀s r,OkF r->OkF (f s r).2):∀(n:Nat) (s:σ) (r:RF),OkF r->OkF (cC f n s r).2
 | 0,s,r,h=>h
 | n+1,s,r,h=>by
  unfold cC;split
  ·exact h
  ·exact OkF.each hf n _ _ (hf s r h)
def BR(m v:Nat)(f o:Bool)(r:RF):aG m (rfO v f o r)=Jo:=by simp only[aG,aD,PV.under,aO,Bool.and_self]
section
variable {tab:Tb} (T:HasA tab){M:Mem}{K:Kp}
include T
set_option maxHeartbeats 2000000 in
def aDm{E:List (List UInt8)}(O:∀w∈E,∀b∈w,b≠32)(hm:(eX E).length<=100000000)
  (S:∀u,gF E=Jm u->K (.tuple [slI Jp Jo .i64 (bF u),.bool Jo]) M) (U:gF E=Jn->K (.tuple [.ah,.bool Jp]) M):aj tab 66 [m6 (eX E)] M K:=by
 refine bQ T.h66 (by simp only[PP,simprocAttr,PT]) ?_;simp only[af66];refine aA (aB ?_);simp only[PP,simprocAttr];refine aA (aB ?_);simp only[PP,simprocAttr];refine aU (GStep.nil 4 1 rfl rfl rfl) ?_;refine aB ?_;simp only[PP,simprocAttr];refine wA (fun(d r:List (List UInt8)) (u:List Nat) (g:Nat)=>E=d++r/\gF d=Jm u/\(eX r).length<=100000000/\u.length+(eX r).length<=100000000) (fun d r u g=>(m6 (eX r)::zj 3++ .ref 0 g 1 0 u.length::zj 38))
  (fun d r u g=>[.cells g 0 ((bF u).map p64)]) (fun d r u g=>r.length) [] E [] 0 ⟨rfl,rfl,hm,by simpa using hm⟩ (by simp only[PW]) rfl ?_
 intro d r u g ⟨y,hd,hr,J⟩ R;refine aH (by kernel_rfl) ?_;simp only[PP,simprocAttr,PT];rw[iP]
 match r,y,hr,J,R with
 | [],y,hr,J,R=>
  have h0:¬(0:Int)<((eX []).length:Nat):=by simp[eX]
  rw[Bv]at y;have:=S u (by rw[y];exact hd);have L:aY ((bF u).map p64) 0 u.length=(bF u).map p64:=aK _ _ (by simp);have hfz:sV (Jm (cm.cells g 0 ((bF u).map p64))) g 1 0 u.length=Jm (slI Jp Jo .i64 (bF u)):=by
   rw[dO (by simp) (aO _ _ _),Ct,L];simp only[slI,bF,Ap]
  simp only[PP,simprocAttr,h0,hfz];exact this
 | w::r,y,hr,J,R=>
  have G:=kB w r;have hl:(eX (w::r)).length=w.length+(eX r).length+1:=by rw[G];simp
  have h0:(0:Int)<((eX (w::r)).length:Nat):=by omega
  have V:w∈E:=by rw[y];simp
  have I:=iP (eX (w::r));have B:=yT (eX (w::r));have g0:(eX (w::r))[0]? =Jm 32:=by rw[G];rfl
  have Q:((UInt8.toNat 32:Nat):Int)=32:=rfl;simp only[PP,simprocAttr,PT,h0,B,g0];refine dN (fun(e:Nat)=>1<=e/\e<=w.length+1) (fun e=>(m6 (eX (w::r))::zj 3++ .ref 0 g 1 0 u.length::p64 e::zj 37)) (fun e=>[.cells g 0 ((bF u).map p64)]) (fun e=>w.length+1-e) 1 ⟨by omega,by omega⟩ (by simp only[PW]) rfl ?_;intro e ⟨a0,a1⟩ Y;refine aH (by kernel_rfl) ?_;by_cases he:e<=w.length
  ·have hlt:(e:Int)<((eX (w::r)).length:Nat):=by omega
   have e0:(0:Int)<=e:=by omega
   have we:=aC (k:=e) (by show _<1000000000000;omega);obtain⟨b,gb⟩:=aM (xs:=w) (k:=e-1) (by omega);have ge:(eX (w::r))[e]? =Jm b:=by
    rw[G,show e=(e-1)+1 by omega,Cl,Bj (by omega)];exact gb
   have hb:¬((b.toNat:Nat):Int)=32:=fun q=>O w V b (Af gb) (UInt8.toNat_inj.1 (by show b.toNat=32;omega));simp only[PP,simprocAttr,PT,I,B,hlt,e0,ge,hb,we];exact aE (Y (e+1) ⟨by omega,by omega⟩ (by omega)) (by simp only[PW])
  obtain rfl:e=w.length+1:=by omega
  have Z:((eX (w::r)).length=w.length+1)\/(w.length+1<(eX (w::r)).length/\(eX (w::r))[w.length+1]? =Jm 32):=by
   match r,G,hl with
   | [],G,hl=>exact .inl (by rw[hl];simp[eX])
   | v::r',G,hl=>refine .inr ⟨by rw[hl,kB];simp,?_⟩;rw[G,Cl,Bx (Ac _),Dd,kB];rfl
  have x1:(((eX (w::r)).take (w.length+1)).drop 1)=w:=by rw[G];simp
  have x2:(((eX (w::r)).take (eX (w::r)).length).drop (w.length+1))=eX r:=by rw[En,G];simp
  have y1:(1:Int)<=((w.length+1:Nat):Int):=by omega
  have y2:((w.length+1:Nat):Int)<=((eX (w::r)).length:Nat):=by omega
  have y0:(0:Int)<=((w.length+1:Nat):Int):=by omega
  have ext:=I1 (eX (w::r));have c8:(u.length+1)*8<=140737488355328:=by omega
  have c1:u.length+1<=9223372036854775807:=by omega
  have cp:u.length<=((bF u).map p64).length:=by simp
  have L:aY ((bF u).map p64) 0 u.length=(bF u).map p64:=aK _ _ (by simp);have none_of:kM w=Jn->gF E=Jn:=fun h=>by
   rw[y,uE _ hd,OS h];rfl
  rcases Z with q | ⟨q1,q2⟩;have hlt:¬((w.length+1:Nat):Int)<((eX (w::r)).length:Nat):=by omega
  simp only[PP,simprocAttr,PT,I,hlt,ext,x1,y1,y2,Fk];rotate_left;have hlt:((w.length+1:Nat):Int)<((eX (w::r)).length:Nat):=by omega
  simp only[PP,simprocAttr,PT,I,B,hlt,q2,ext,x1,y0,y1,y2,Fk];all_goals
   refine aDk T (by omega) (fun n O=>?_) fun O=>?_
   ·simp only[PP,simprocAttr,PT,I,ext,x2,y0,y2,Fk,c8,c1,L];refine⟨by omega,aR (R (d++[w]) r (u++[n]) (g+1) ⟨by rw[y];simp,by rw[uE _ hd];unfold gF;rw[O];rfl,by omega,by simp;omega⟩ (by simp)) (by simp only[List.length_append,List.length_cons,Bl,Az,PW]) ?_⟩;rw[aAE,Ay];rfl
   ·simp only[PP,simprocAttr];exact U (none_of O)
def fM{A G:Mem}{K:Kp}{v:Nat}{f o:Bool}{r:RF}(hr:OkF r)(u:∀B E I,K (p64 (r.next.1:Int)) (A++(rfO B E I r.next.2::G))):aj tab 112 [.ptr A.length 0 0] (A++(rfO v f o r::G)) K:=by
 obtain⟨l,e,la⟩:=r;refine aT T.h112 ?_
 cases l with
 | nil=>simp only[af112,bF,PP,simprocAttr,gk0,sk0];exact u (v+1) f o
 | cons n l=>
  have hz:¬((l.length+1:Nat):Int)=0:=by omega
  have J:(0:Int)<((l.length+1:Nat):Int):=by omega
  have h1:(1:Int)<=((l.length+1:Nat):Int):=by omega
  have L:(((l.length+1:Nat):Int)-1).toNat=l.length:=by omega
  have y:aY (((bF l)).map p64) 0 l.length=(bF l).map p64:=aK _ _ (by simp);simp only[bF]at y;have:=u (v+1) (if o=Jo then f else f) o;simp only[rfO,slI,RF.next,bF,Ap]at this;simp only[af112,bF,PP,simprocAttr,gk0,sk0,hz,J,h1,L,y];exact⟨Cq _,this⟩
def xX{A G:Mem}{K:Kp}{v n:Nat}{f o:Bool}{r:RF}(hr:OkF r)(hn:n<=2147483647)(hA:A.all (aG (A.length+(G.length+1)))=Jo)(hG:G.all (aG (A.length+(G.length+1)))=Jo)
  (u:∀R S U,K (slI Jp Jo .i64 (RF.list n r).1) (A++(rfO R S U (RF.list n r).2::G))):aj tab 113 [.ptr A.length 0 0,p64 (n:Int)] (A++(rfO v f o r::G)) K:=by
 obtain⟨y,B⟩:=hr;obtain⟨l,e,la⟩:=r;simp only at y B;refine iK (aT T.h113 ?_);have J:(0:Int)<=n:=by omega
 by_cases c:l.length<n
 ·have E:(l.length:Int)<n:=by omega
  have I:RF.list n ⟨l,e,la⟩=([],⟨l,Jo,la⟩):=by unfold RF.list;rw[if_pos c]
  rw[I]at u;simp only[simprocAttr]at u;simp only[af113,bF,PP,simprocAttr,gk0,sk0,E];exact⟨_,bo.ah _ _ _,u (v+1) f o⟩
 ·have E:¬(l.length:Int)<n:=by omega
  have I:RF.list n ⟨l,e,la⟩=(bF (l.take n),⟨l.drop n,e,la⟩):=by unfold RF.list;rw[if_neg c]
  rw[I]at u;have L:(n:Int)<=l.length:=by omega
  have O:((l.length:Int)-n).toNat=l.length-n:=by omega
  have V:aY ((bF l).map p64) 0 n=(bF (l.take n)).map p64:=by unfold aY;simp[bF,List.map_take]
  have Q:aY ((bF l).map p64) n (l.length-n)=(bF (l.drop n)).map p64:=by unfold aY;rw[Be (by simp)];simp[bF,List.map_drop]
  have Y:((n:Int)-0).toNat=n:=by omega
  have Z:∀x:Bool,PV.sl x o 1 n ((bF (l.take n)).map p64)=slI x o .i64 (bF (l.take n)):=fun x=>by simp only[slI,bF,Ap,List.length_take,Dv (Nat.not_lt.1 c)]
  simp only[af113,PP,simprocAttr,gk0,E,L,Y,J,V,Z];refine BT T (by simp;show _<1000000000000;omega) ?_;have:=u (v+1) (if o=Jo then f else f) o;simp only[rfO,slI,bF,Ap,Er]at this;simp only[PP,simprocAttr,gk0,sk0,L,O,J,Q];simp only[slI,bF,Ap];exact⟨Cq _,_,bo.refl _,this⟩
def sU{A G:Mem}{K:Kp}{v lim:Nat}{f o:Bool}{r:RF}(hr:OkF r)(hl:lim<=255)(I:∀u y B,K (.int .u8 ((r.small lim).1:Int)) (A++(rfO u y B (r.small lim).2::G))):aj tab 114 [.ptr A.length 0 0,p64 (lim:Int)] (A++(rfO v f o r::G)) K:=by
 refine aT T.h114 ?_;simp only[af114,PP,simprocAttr];refine fM T hr fun u y B=>?_;simp only[PP,simprocAttr];refine QIf.intro (fun c=>?_) fun c=>?_
 ·have E:lim<r.next.1:=by omega
  have:=I (u+1) y B;simp only[RF.small,PP,simprocAttr,E]at this;simp only[PP,simprocAttr,gk0,sk0];exact this
 ·have E:¬lim<r.next.1:=by omega
  have:=I u y B;have hw:IntKind.u8.wrap ((r.next.1:Nat):Int)=((r.next.1:Nat):Int):=p9 (by omega);simp only[RF.small,simprocAttr,E]at this;simp only[PP,simprocAttr,hw];exact this
end
end Go.Am.Ar
--P14
namespace Go.Am.Ar
open Go.Am.PV renaming aa->Zj
open Go.Am renaming jj->P1,mj->P2,ls->P3,fe->P4,cm.under->P5,ig->P6,du->P7,ct->P8,pev->P9,ji->P10,bd->P11,ll->P12,dv->P13,cK->P14,AO.effect->P15
open List renaming replicate->L1
structure LF where
 k:Nat
 v:Nat
 f:Bool
 o:Bool
 r:RF
 v2:Nat
 g:Nat
def mJ{σ:Type}{f:σ->RF->σ×RF}{n k:Nat}{s:σ}{r:RF}(h:k<n)(hs:r.sh=Jp):cC f (n-k) s r=cC f (n-(k+1)) (f s r).1 (f s r).2:=by rw[show n-k=(n-(k+1))+1 by omega,cC,if_neg (by rw[hs];decide)]
def kF{σ:Type}{f:σ->RF->σ×RF}{n k:Nat}{s:σ}{r:RF}(h:¬k<n\/r.sh=Jo):cC f (n-k) s r=(s,r):=by
 rcases h with h | h
 ·rw[show n-k=0 by omega];rfl
 ·exact uW f _ s h
section
variable {tab:Tb} (T:HasA tab){M:Mem}{K:Kp}
include T
set_option maxHeartbeats 8000000 in
def aHr{A:Mem}{K:Kp}{v:Nat}{f o:Bool}{r:RF}(hr:OkF r)(hA:A.all (aG (A.length+1))=Jo)
  (L:∀v' f' o',K (.agg (nfC Jp Jo Jp Jo Jp Jo r.nfa.1)) (A++[rfO v' f' o' r.nfa.2])):aj tab 67 [.ptr A.length 0 0] (A++[rfO v f o r]) K:=by
 have hG:∀(a b:cm),aG (A.length+(1+1+1)) a=Jo->aG (A.length+(1+1+1)) b=Jo->([a,b]:Mem).all (aG (A.length+(1+1+1)))=Jo:=fun a b ha hb=>by simp[ha,hb]
 have J:A.all (aG (A.length+(1+1+1)))=Jo:=bE (by omega) hA;unfold RF.nfa at L;simp only at L;refine mR (cA T.h67 ?_);simp only[af67];refine aA (aB ?_);simp only[PP,simprocAttr,Ab];refine aA (aB ?_);simp only[PP,simprocAttr];obtain⟨h1,b1⟩:=hr.next;refine fM T hr fun v f o=>?_;generalize r.next=O at*;simp only[PP,simprocAttr];obtain⟨h2,b2⟩:=h1.next;refine fM T h1 fun v f o=>?_;generalize O.2.next=Q at*;simp only[PP,simprocAttr,Ab,gk,sk];refine aA (aB ?_);simp only[PP,simprocAttr];obtain⟨h3,b3⟩:=h2.next;refine fM T h2 fun v f o=>?_;generalize Q.2.next=R at*;simp only[PP,simprocAttr];have h4:=h3.list R.1;refine xX T h3 b3 (by simpa using J) (by simpa using hG _ _ (by simp[aG,aD,PV.under]) (by simp[aG,aD,PV.under])) fun v f o=>?_;generalize RF.list R.1 R.2=S at*;simp only[PP,simprocAttr,gk,sk];refine aA (aB ?_);simp only[PP,simprocAttr];obtain⟨h5,b5⟩:=h4.next;refine fM T h4 fun v f o=>?_;generalize S.2.next=U at*;simp only[PP,simprocAttr];have h6:=h5.list U.1;refine xX T h5 b5 (by simpa using J) (by simpa using hG _ _ (by simp[aG,aD,PV.under]) (by simp[aG,aD,PV.under,aO])) fun v f o=>?_;generalize RF.list U.1 U.2=V at*;simp only[PP,simprocAttr,gk,sk];refine aU (GStep.ew (A.length+(1+1)) 4 4 (by rw[gk];rfl) rfl (by simp only[PP,simprocAttr,Ab,sk];rfl)) ?_;refine aA (aB ?_);simp only[PP,simprocAttr];obtain⟨h7,b7⟩:=h6.next;refine fM T h6 fun v f o=>?_;generalize V.2.next=u at*;simp only[PP,simprocAttr];refine aB ?_;simp only[PP,simprocAttr];refine kV (fun(s:LF) (B:List Eg) (Z:Mem)=>s.k<=u.1/\OkF s.r/\B.length=s.k/\cC (fun y r=>(y++[(jQ r).1],(jQ r).2)) (u.1-s.k) B s.r=cC (fun y r=>(y++[(jQ r).1],(jQ r).2)) u.1 [] u.2)
  (fun s B Z=>(.ptr A.length 0 0:: .aa:: .ptr (A.length+1) 0 0:: .ptr (A.length+(1+1)) 0 0::p64 u.1::p64 s.k::zj 48))
  (fun s B Z=>A++(rfO s.v s.f s.o s.r:: .cells 0 0 [p64 0,p64 0,.ah,.ah,.ah]:: .cells 0 s.v2 [p64 O.1,p64 Q.1,slI Jp Jo .i64 S.1,slI Jp Jo .i64 V.1,.ref (A.length+(1+1+1)) s.g 4 0 s.k]:: .cells s.g 0 (egL B)::Z))
  (fun s B Z=>u.1-s.k) ⟨0,v,f,o,u.2,3,0⟩ [] [] ⟨Ai _,h7,rfl,rfl⟩ (by simp only[PW]) (by simp only[simprocAttr,TP]) ?_
 rintro⟨k,v,f,o,E,v2,g⟩ B Z ⟨Y,G,hl,he⟩ ih;simp only at Y G hl he ih ⊢;refine aH (by kernel_rfl) ?_;have stop:¬k<u.1\/E.sh=Jo->(B,E)=cC (fun y r=>(y++[(jQ r).1],(jQ r).2)) u.1 [] u.2:=fun h=>by rw[<-he,kF h]
 have ht:∀(o:cm) (X:Mem),Hq (A.length+1) (A++o::X)=A++[o]:=fun o X=>by rw[show A++o::X=(A++[o])++X by simp,Bb (by simp)]
 have fin:∀I:Mem,I[A.length+3]? =Jm (.cells g 0 (egL B))->I.take (A.length+1)=A++[rfO v f o E]->(¬k<u.1\/E.sh=Jo)->∃r2 N,fP (A.length+1) I (.agg [p64 O.1,p64 Q.1,slI Jp Jo .i64 S.1,slI Jp Jo .i64 V.1,.ref (A.length+3) g 4 0 k])=Jm r2/\jP (A.length+1) I (I.take (A.length+1))=Jm N/\K r2 N:=fun I m1 m2 h=>by
  have:=L v f o;rw[<-stop h]at this;refine⟨_,_,?_,?_,this⟩
  ·have q5:=eT (n:=A.length+1) (sz:=4) (off:=0) (k:=k) (by omega) m1 (by rw[gA,hl];omega) (cF _ _);rw[nE hl]at q5;simp only[fP,cP,dM,q5,zN,V2 (aO _ _ _),slI];subst hl;rfl
  ·rw[m2];refine g8 ?_;rw[Cc,hA,Co,BR];rfl
 by_cases c1:(k:Int)<u.1
 ·cases hs:E.sh with
  | false=>
   have hw:=aC (k:=k) (by show _<1000000000000;omega);have p1:(k+1)*24<=140737488355328:=by omega
   have p2:k+1<=9223372036854775807:=by omega
   have p3:k*4<=(egL B).length:=by rw[gA];omega
   have pe:aY (egL B) 0 (k*4)=egL B:=nE hl;have a0:=mJ (f:=fun y r=>(y++[(jQ r).1],(jQ r).2)) (s:=B) (show k<u.1 by omega) hs;obtain⟨q1,_⟩:=G.next;obtain⟨q2,_⟩:=q1.next;simp only[PP,simprocAttr,gk0,c1,hs];refine fM T G fun v f o=>?_;simp only[PP,simprocAttr];refine fM T q1 fun v f o=>?_;simp only[PP,simprocAttr,Ab,gk,gk0,sk,sk0];refine sU (lim:=255) T q2 (by omega) fun v f o=>?_;simp only[PP,simprocAttr,gk,gk0,sk,sk0];refine sU (lim:=255) T (q2.small 255) (by omega) fun v f o=>?_;simp only[PP,P14,simprocAttr,gk,gk0,sk,sk0,p1,p2,p3,pe,hw];refine aR (ih ⟨k+1,v,f,o,(jQ E).2,v2+1,g+1⟩ (B++[(jQ E).1]) (Z++[cm.cells 0 3 (egC (jQ E).1)]) ⟨by show k+1<=_;omega,(q2.small 255).small 255,by simp[hl],by rw[<-he,a0]⟩ (by show u.1-(k+1)<u.1-k;omega)) (by simp only[PW]) ?_;rw[<-TQ];rfl
  | true=>simp only[PP,simprocAttr,gk,gk0,sk,c1,hs];exact fin _ (by rw[gk];rfl) (by rw[ht]) (.inr hs)
 ·simp only[PP,simprocAttr,gk,sk,c1];exact fin _ (by rw[gk];rfl) (by rw[ht]) (.inl (by omega))
set_option maxHeartbeats 8000000 in
def aHu{A:Mem}{K:Kp}{v:Nat}{f o:Bool}{r:RF}(hr:OkF r)(hA:A.all (aG (A.length+1))=Jo)
  (V:∀v' f' o',K (.agg (dfC Jp Jo Jp Jo Jp Jo r.dfa.1)) (A++[rfO v' f' o' r.dfa.2])):aj tab 68 [.ptr A.length 0 0] (A++[rfO v f o r]) K:=by
 have hb:∀k,(A.length==A.length+(k+1))=Jp:=fun k=>by simp
 have ht:∀(o:cm) (X:Mem),Hq (A.length+1) (A++o::X)=A++[o]:=fun o X=>by rw[show A++o::X=(A++[o])++X by simp,Bb (by simp)]
 have a3:∀n,A.length+1<=n->A.all (aG n)=Jo:=fun n h=>bE h hA;unfold RF.dfa at V;simp only at V;refine mR (cA T.h68 ?_);simp only[af68];refine aA (aB ?_);simp only[PP,simprocAttr,Ab];refine aA (aB ?_);simp only[PP,simprocAttr];obtain⟨h1,b1⟩:=hr.next;refine fM T hr fun v f o=>?_;generalize r.next=E at*;simp only[PP,simprocAttr];obtain⟨h2,b2⟩:=h1.next;refine fM T h1 fun v f o=>?_;generalize E.2.next=Y at*;simp only[PP,simprocAttr,Ab,gk,sk];refine aU (GStep.ew (A.length+2) 2 1 (by rw[gk];rfl) rfl (by simp only[PP,simprocAttr,Ab,sk];rfl)) ?_;refine aU (GStep.ew (A.length+2) 3 1 (by rw[gk];rfl) rfl (by simp only[PP,simprocAttr,Ab,sk];rfl)) ?_;refine aA (aB ?_);simp only[PP,simprocAttr];obtain⟨h3,b3⟩:=h2.next;refine fM T h2 fun v f o=>?_;generalize Y.2.next=B at*;simp only[PP,simprocAttr];have hm:min (E.1:Int) 6=((min E.1 6:Nat):Int):=by omega
 have hs:cD .shl (.int .i64 1) (.int .i64 ((min E.1 6:Nat):Int))=Jm (.int .i64 ((2^(min E.1 6):Nat):Int)):=by rw[xI (by omega) (by omega)];simp
 have a4:2^(min E.1 6)<=2^6:=Nat.pow_le_pow_right (by omega) (by omega);refine aA (fC (Qn:=fun b N=>∃(s:LF) (nx:List (List Int)),(OkF s.r/\nx.length=s.k/\s.k<=B.1/\(nx,s.r)=cC (fun u y=>(u++[(RF.list (2^(min E.1 6)) y).1],(RF.list (2^(min E.1 6)) y).2)) B.1 [] B.2)/\dh b (.ptr A.length 0 0:: .aa:: .ptr (A.length+1) 0 0:: .ptr (A.length+2) 0 0::p64 B.1::zj 53)/\
   N=A++(rfO s.v s.f s.o s.r:: .cells 0 0 [p64 0,p64 0,.ah,.ah]:: .cells 0 s.v2 [p64 E.1,p64 Y.1,.ref (A.length+3) s.g 1 0 s.k,.ref (A.length+4) 0 1 0 0]:: .cells s.g 0 (nx.map (slI Jp Jo .i64))::[.cells 0 0 []])) ?_ ?_ (fun _ _ h=>h) fun _ _ _ h=>h)
 ·refine aA (aB ?_);simp only[PP,simprocAttr];refine gP ?_;refine cQ (fun(s:LF) (nx:List (List Int))=>s.k<=B.1/\OkF s.r/\nx.length=s.k/\cC (fun u y=>(u++[(RF.list (2^(min E.1 6)) y).1],(RF.list (2^(min E.1 6)) y).2)) (B.1-s.k) nx s.r=cC (fun u y=>(u++[(RF.list (2^(min E.1 6)) y).1],(RF.list (2^(min E.1 6)) y).2)) B.1 [] B.2)
   (fun s nx=>(.ptr A.length 0 0:: .aa:: .ptr (A.length+1) 0 0:: .ptr (A.length+2) 0 0::p64 B.1::p64 s.k::zj 52))
   (fun s nx=>A++(rfO s.v s.f s.o s.r:: .cells 0 0 [p64 0,p64 0,.ah,.ah]:: .cells 0 s.v2 [p64 E.1,p64 Y.1,.ref (A.length+3) s.g 1 0 s.k,.ref (A.length+4) 0 1 0 0]:: .cells s.g 0 (nx.map (slI Jp Jo .i64))::[.cells 0 0 []]))
   (fun s nx=>B.1-s.k) ⟨0,v,f,o,B.2,1,0⟩ [] ⟨Ai _,h3,rfl,rfl⟩ (by simp only[PW]) (by simp only[PP,simprocAttr]) ?_
  rintro⟨k,v,f,o,y,Q,g⟩ nx ⟨J,G,hl,he⟩ Z;simp only at J G hl he Z ⊢;refine aH (by kernel_rfl) ?_;have stop:¬k<B.1\/y.sh=Jo->(nx,y)=cC (fun u y=>(u++[(RF.list (2^(min E.1 6)) y).1],(RF.list (2^(min E.1 6)) y).2)) B.1 [] B.2:=fun h=>by rw[<-he,kF h]
  by_cases R:(k:Int)<B.1
  ·cases I:y.sh with
   | false=>
    have hw:=aC (k:=k) (by show _<1000000000000;omega);have p1:(k+1)*24<=140737488355328:=by omega
    have p2:k+1<=9223372036854775807:=by omega
    have S:=mJ (f:=fun u y=>(u++[(RF.list (2^(min E.1 6)) y).1],(RF.list (2^(min E.1 6)) y).2)) (s:=nx) (show k<B.1 by omega) I;simp only[PP,simprocAttr,gk,gk0,R,I,EH,hm,hs];refine xX T G (by omega) (a3 _ (by simp)) (by simp[aG,aD,PV.under,aW]) fun v f o=>?_;simp only[PP,simprocAttr,gk,gk0,sk,dA,bP,hb,p1,p2,hl,hw];rw[aK _ _ (by simp[hl])];refine aR (Z ⟨k+1,v,f,o,(RF.list (2^(min E.1 6)) y).2,Q+1,g+1⟩ (nx++[(RF.list (2^(min E.1 6)) y).1]) ⟨by show k+1<=_;omega,G.list _,by simp[hl],by rw[<-he,S]⟩ (by show B.1-(k+1)<B.1-k;omega)) (by simp only[PW]) ?_;rw[Ay];rfl
   | true=>simp only[PP,simprocAttr,gk0,R,I];exact⟨⟨k,v,f,o,y,Q,g⟩,nx,⟨G,hl,J,stop (.inr I)⟩,(by simp only[PW]),rfl⟩
  ·simp only[PP,simprocAttr,R];exact⟨⟨k,v,f,o,y,Q,g⟩,nx,⟨G,hl,J,stop (.inl (by omega))⟩,(by simp only[PW]),rfl⟩
 rintro b N ⟨⟨k1,v,f,o,r1,Q,g1⟩,nx,⟨a1,O,a0,a2⟩,hw,rfl⟩;simp only at a1 O a0 a2 ⊢;refine aE ?_ hw;rw[<-a2]at V;simp only at V;refine aB ?_;simp only[PP,simprocAttr];refine cQ (fun(s:LF) (L:List Bool)=>s.k<=B.1/\OkF s.r/\L.length=s.k/\cC (fun u r=>(u++[decide ((RF.small 1 r).1=1)],(RF.small 1 r).2)) (B.1-s.k) L s.r=cC (fun u r=>(u++[decide ((RF.small 1 r).1=1)],(RF.small 1 r).2)) B.1 [] r1)
  (fun s L=>(.ptr A.length 0 0:: .aa:: .ptr (A.length+1) 0 0:: .ptr (A.length+2) 0 0::p64 B.1:: .aa::p64 s.k::zj 51))
  (fun s L=>A++(rfO s.v s.f s.o s.r:: .cells 0 0 [p64 0,p64 0,.ah,.ah]:: .cells 0 s.v2 [p64 E.1,p64 Y.1,.ref (A.length+3) g1 1 0 k1,.ref (A.length+4) s.g 1 0 s.k]:: .cells g1 0 (nx.map (slI Jp Jo .i64))::[.cells s.g 0 (L.map .bool)]))
  (fun s L=>B.1-s.k) ⟨0,v,f,o,r1,Q,0⟩ [] ⟨Ai _,a1,rfl,rfl⟩ (by simp only[PW]) rfl ?_
 rintro⟨k,v,f,o,y,Q,g⟩ L ⟨J,G,hl,he⟩ Z;simp only at J G hl he Z ⊢;refine aH (by kernel_rfl) ?_;have stop:¬k<B.1\/y.sh=Jo->(L,y)=cC (fun u r=>(u++[decide ((RF.small 1 r).1=1)],(RF.small 1 r).2)) B.1 [] r1:=fun h=>by rw[<-he,kF h]
 have fin:∀U:Mem,U[A.length+3]? =Jm (.cells g1 0 (nx.map (slI Jp Jo .i64)))->U[A.length+4]? =Jm (.cells g 0 (L.map .bool))->U.take (A.length+1)=A++[rfO v f o y]->(¬k<B.1\/y.sh=Jo)->∃r2 N,fP (A.length+1) U (.agg [p64 E.1,p64 Y.1,.ref (A.length+3) g1 1 0 k1,.ref (A.length+4) g 1 0 k])=Jm r2/\jP (A.length+1) U (U.take (A.length+1))=Jm N/\K r2 N:=fun U m1 m3 m2 h=>by
  have:=V v f o;rw[<-stop h]at this;refine⟨_,_,?_,?_,this⟩
  ·have q5:=eT (n:=A.length+1) (sz:=1) (off:=0) (k:=k1) (by omega) m1 (by simp[O]) (aW _ _ _ _ _);have q6:=eT (n:=A.length+1) (sz:=1) (off:=0) (k:=k) (by omega) m3 (by simp[hl]) (bS _ _);rw[aK _ _ (by simp[O])]at q5;rw[aK _ _ (by simp[hl])]at q6;simp only[fP,cP,dM,q5,q6,zN];subst hl O;rfl
  ·rw[m2];refine g8 ?_;rw[Cc,hA,Co,BR];rfl
 by_cases R:(k:Int)<B.1
 ·cases I:y.sh with
  | false=>
   have hw:=aC (k:=k) (by show _<1000000000000;omega);have p1:k+1<=140737488355328:=by omega
   have p2:k+1<=9223372036854775807:=by omega
   have hd:decide (((y.small 1).1:Int)=1)=decide ((y.small 1).1=1):=by rw[decide_eq_decide];omega
   have S:=mJ (f:=fun u r=>(u++[decide ((RF.small 1 r).1=1)],(RF.small 1 r).2)) (s:=L) (show k<B.1 by omega) I;simp only[PP,simprocAttr,gk,gk0,R,I];refine sU (lim:=1) T G (by omega) fun v f o=>?_;simp only[PP,simprocAttr,gk,gk0,sk,dA,bP,hb,p1,p2,hl,hd,hw];rw[aK _ _ (by simp[hl])];refine aR (Z ⟨k+1,v,f,o,(y.small 1).2,Q+1,g+1⟩ (L++[decide ((y.small 1).1=1)]) ⟨by show k+1<=_;omega,G.small 1,by simp[hl],by rw[<-he,S]⟩ (by show B.1-(k+1)<B.1-k;omega)) (by simp only[PW]) ?_;rw[Ay];rfl
  | true=>simp only[PP,simprocAttr,gk,gk0,sk,R,I];exact fin _ (by rw[gk];rfl) (by rw[gk];rfl) (by rw[ht]) (.inr I)
 ·simp only[PP,simprocAttr,gk,sk,R];exact fin _ (by rw[gk];rfl) (by rw[gk];rfl) (by rw[ht]) (.inl (by omega))
set_option maxHeartbeats 8000000 in
def aEP{A:Mem}{K:Kp}{v:Nat}{f o:Bool}{r:RF}(hr:OkF r)(hA:A.all (aG (A.length+1))=Jo)
  (Y:∀v' f' o',K (gmP Jp Jo Jp Jo Jp Jo Jp Jo r.dj.1.1 r.dj.1.2.1 r.dj.1.2.2) (A++[rfO v' f' o' r.dj.2])):aj tab 69 [.ptr A.length 0 0] (A++[rfO v f o r]) K:=by
 have hb:∀k,(A.length==A.length+(k+1))=Jp:=fun k=>by simp
 have ht:∀(o:cm) (X:Mem),Hq (A.length+1) (A++o::X)=A++[o]:=fun o X=>by rw[show A++o::X=(A++[o])++X by simp,Bb (by simp)]
 have a6:∀n,A.length+1<=n->A.all (aG n)=Jo:=fun n h=>bE h hA;unfold RF.dj at Y;simp only at Y;refine mR (cA T.h69 ?_);simp only[af69];refine aA (aB ?_);simp only[PP,simprocAttr,Ab];refine aA (aB ?_);simp only[PP,simprocAttr,Ab];refine aU (GStep.ew (A.length+2) 0 1 (by rw[gk];rfl) rfl (by simp only[PP,simprocAttr,Ab,sk];rfl)) ?_;refine aU (GStep.ew (A.length+2) 1 1 (by rw[gk];rfl) rfl (by simp only[PP,simprocAttr,Ab,sk];rfl)) ?_;refine aU (GStep.ew (A.length+2) 2 1 (by rw[gk];rfl) rfl (by simp only[PP,simprocAttr,Ab,sk];rfl)) ?_;refine aA (aB ?_);simp only[PP,simprocAttr];obtain⟨h1,b1⟩:=hr.next;refine fM T hr fun v f o=>?_;generalize r.next=y at*;simp only[PP,simprocAttr];refine aA (fC (Qn:=fun b N=>∃(s:LF) (ow:List Int),(OkF s.r/\ow.length=s.k/\s.k<=y.1/\(ow,s.r)=cC (fun u r=>(u++[((RF.small 255 r).1:Int)],(RF.small 255 r).2)) y.1 [] y.2)/\dh b (.ptr A.length 0 0:: .aa:: .ptr (A.length+1) 0 0:: .ptr (A.length+2) 0 0::p64 y.1::zj 65)/\
   N=A++(rfO s.v s.f s.o s.r:: .cells 0 0 [.ah,.ah,.ah]:: .cells 0 s.v2 [.ref (A.length+3) s.g 1 0 s.k,.ref (A.length+4) 0 1 0 0,.ref (A.length+5) 0 1 0 0]:: .cells s.g 0 (ow.map p8)::[.cells 0 0 [],.cells 0 0 []])) ?_ ?_ (fun _ _ h=>h) fun _ _ _ h=>h)
 ·refine aA (aB ?_);simp only[PP,simprocAttr];refine gP ?_;refine cQ (fun(s:LF) (ow:List Int)=>s.k<=y.1/\OkF s.r/\ow.length=s.k/\cC (fun u r=>(u++[((RF.small 255 r).1:Int)],(RF.small 255 r).2)) (y.1-s.k) ow s.r=cC (fun u r=>(u++[((RF.small 255 r).1:Int)],(RF.small 255 r).2)) y.1 [] y.2)
   (fun s ow=>(.ptr A.length 0 0:: .aa:: .ptr (A.length+1) 0 0:: .ptr (A.length+2) 0 0::p64 y.1::p64 s.k::zj 64))
   (fun s ow=>A++(rfO s.v s.f s.o s.r:: .cells 0 0 [.ah,.ah,.ah]:: .cells 0 s.v2 [.ref (A.length+3) s.g 1 0 s.k,.ref (A.length+4) 0 1 0 0,.ref (A.length+5) 0 1 0 0]:: .cells s.g 0 (ow.map p8)::[.cells 0 0 [],.cells 0 0 []]))
   (fun s ow=>y.1-s.k) ⟨0,v,f,o,y.2,0,0⟩ [] ⟨Ai _,h1,rfl,rfl⟩ (by simp only[PW]) (by simp only[PP,simprocAttr]) ?_
  rintro⟨k,v,f,o,G,J,g⟩ ow ⟨I,B,hl,he⟩ S;simp only at I B hl he S ⊢;refine aH (by kernel_rfl) ?_;have stop:¬k<y.1\/G.sh=Jo->(ow,G)=cC (fun u r=>(u++[((RF.small 255 r).1:Int)],(RF.small 255 r).2)) y.1 [] y.2:=fun h=>by rw[<-he,kF h]
  by_cases L:(k:Int)<y.1
  ·cases E:G.sh with
   | false=>
    have hw:=aC (k:=k) (by show _<1000000000000;omega);have p1:k+1<=140737488355328:=by omega
    have p2:k+1<=9223372036854775807:=by omega
    have O:=mJ (f:=fun u r=>(u++[((RF.small 255 r).1:Int)],(RF.small 255 r).2)) (s:=ow) (show k<y.1 by omega) E;simp only[PP,simprocAttr,gk,gk0,L,E];refine sU (lim:=255) T B (by omega) fun v f o=>?_;simp only[PP,simprocAttr,gk,gk0,sk,dA,bP,hb,p1,p2,hl,hw];rw[aK _ _ (by simp[hl])];refine aR (S ⟨k+1,v,f,o,(G.small 255).2,J+1,g+1⟩ (ow++[((G.small 255).1:Int)]) ⟨by show k+1<=_;omega,B.small 255,by simp[hl],by rw[<-he,O]⟩ (by show y.1-(k+1)<y.1-k;omega)) (by simp only[PW]) ?_;rw[Ay];rfl
   | true=>simp only[PP,simprocAttr,gk0,L,E];exact⟨⟨k,v,f,o,G,J,g⟩,ow,⟨B,hl,I,stop (.inr E)⟩,(by simp only[PW]),rfl⟩
  ·simp only[PP,simprocAttr,L];exact⟨⟨k,v,f,o,G,J,g⟩,ow,⟨B,hl,I,stop (.inl (by omega))⟩,(by simp only[PW]),rfl⟩
 rintro b N ⟨⟨k1,v,f,o,r1,J,U⟩,ow,⟨a2,Q,a0,a3⟩,hw,rfl⟩;simp only at a2 Q a0 a3 ⊢;refine aE ?_ hw;rw[<-a3]at Y;simp only at Y;refine aA (fC (Qn:=fun b N=>∃(s:LF) (pr:List Int),(OkF s.r/\pr.length=s.k/\s.k<=y.1/\(pr,s.r)=cC (fun u r=>(u++[((RF.next r).1:Int)],(RF.next r).2)) y.1 [] r1)/\dh b (.ptr A.length 0 0:: .aa:: .ptr (A.length+1) 0 0:: .ptr (A.length+2) 0 0::p64 y.1::zj 65)/\
   N=A++(rfO s.v s.f s.o s.r:: .cells 0 0 [.ah,.ah,.ah]:: .cells 0 s.v2 [.ref (A.length+3) U 1 0 k1,.ref (A.length+4) s.g 1 0 s.k,.ref (A.length+5) 0 1 0 0]:: .cells U 0 (ow.map p8):: .cells s.g 0 (pr.map p64)::[.cells 0 0 []])) ?_ ?_ (fun _ _ h=>h) fun _ _ _ h=>h)
 ·refine aA (aB ?_);simp only[PP,simprocAttr];refine gP ?_;refine cQ (fun(s:LF) (pr:List Int)=>s.k<=y.1/\OkF s.r/\pr.length=s.k/\cC (fun u r=>(u++[((RF.next r).1:Int)],(RF.next r).2)) (y.1-s.k) pr s.r=cC (fun u r=>(u++[((RF.next r).1:Int)],(RF.next r).2)) y.1 [] r1)
   (fun s pr=>(.ptr A.length 0 0:: .aa:: .ptr (A.length+1) 0 0:: .ptr (A.length+2) 0 0::p64 y.1:: .aa::p64 s.k::zj 63))
   (fun s pr=>A++(rfO s.v s.f s.o s.r:: .cells 0 0 [.ah,.ah,.ah]:: .cells 0 s.v2 [.ref (A.length+3) U 1 0 k1,.ref (A.length+4) s.g 1 0 s.k,.ref (A.length+5) 0 1 0 0]:: .cells U 0 (ow.map p8):: .cells s.g 0 (pr.map p64)::[.cells 0 0 []]))
   (fun s pr=>y.1-s.k) ⟨0,v,f,o,r1,J,0⟩ [] ⟨Ai _,a2,rfl,rfl⟩ (by simp only[PW]) rfl ?_
  rintro⟨k,v,f,o,G,J,g⟩ pr ⟨I,B,hl,he⟩ S;simp only at I B hl he S ⊢;refine aH (by kernel_rfl) ?_;have stop:¬k<y.1\/G.sh=Jo->(pr,G)=cC (fun u r=>(u++[((RF.next r).1:Int)],(RF.next r).2)) y.1 [] r1:=fun h=>by rw[<-he,kF h]
  by_cases L:(k:Int)<y.1
  ·cases E:G.sh with
   | false=>
    have hw:=aC (k:=k) (by show _<1000000000000;omega);have p1:(k+1)*8<=140737488355328:=by omega
    have p2:k+1<=9223372036854775807:=by omega
    have O:=mJ (f:=fun u r=>(u++[((RF.next r).1:Int)],(RF.next r).2)) (s:=pr) (show k<y.1 by omega) E;simp only[PP,simprocAttr,gk,gk0,L,E];refine fM T B fun v f o=>?_;simp only[PP,simprocAttr,gk,gk0,sk,dA,bP,hb,p1,p2,hl,hw];rw[aK _ _ (by simp[hl])];refine aR (S ⟨k+1,v,f,o,G.next.2,J+1,g+1⟩ (pr++[(G.next.1:Int)]) ⟨by show k+1<=_;omega,B.next.1,by simp[hl],by rw[<-he,O]⟩ (by show y.1-(k+1)<y.1-k;omega)) (by simp only[PW]) ?_;rw[Ay];rfl
   | true=>simp only[PP,simprocAttr,gk0,L,E];exact⟨⟨k,v,f,o,G,J,g⟩,pr,⟨B,hl,I,stop (.inr E)⟩,(by simp only[PW]),rfl⟩
  ·simp only[PP,simprocAttr,L];exact⟨⟨k,v,f,o,G,J,g⟩,pr,⟨B,hl,I,stop (.inl (by omega))⟩,(by simp only[PW]),rfl⟩
 rintro b N ⟨⟨k2,v,f,o,Z,J,g2⟩,pr,⟨a4,R,a1,a5⟩,hw,rfl⟩;simp only at a4 R a1 a5 ⊢;refine aE ?_ hw;rw[<-a5]at Y;simp only at Y;refine aB ?_;simp only[PP,simprocAttr];refine cQ (fun(s:LF) (su:List (List Int))=>s.k<=y.1/\OkF s.r/\su.length=s.k/\cC (fun u r=>(u++[(RF.list (RF.next r).1 (RF.next r).2).1],(RF.list (RF.next r).1 (RF.next r).2).2)) (y.1-s.k) su s.r=cC (fun u r=>(u++[(RF.list (RF.next r).1 (RF.next r).2).1],(RF.list (RF.next r).1 (RF.next r).2).2)) y.1 [] Z)
  (fun s su=>(.ptr A.length 0 0:: .aa:: .ptr (A.length+1) 0 0:: .ptr (A.length+2) 0 0::p64 y.1:: .aa:: .aa::p64 s.k::zj 62))
  (fun s su=>A++(rfO s.v s.f s.o s.r:: .cells 0 0 [.ah,.ah,.ah]:: .cells 0 s.v2 [.ref (A.length+3) U 1 0 k1,.ref (A.length+4) g2 1 0 k2,.ref (A.length+5) s.g 1 0 s.k]:: .cells U 0 (ow.map p8):: .cells g2 0 (pr.map p64)::[.cells s.g 0 (su.map (slI Jp Jo .i64))]))
  (fun s su=>y.1-s.k) ⟨0,v,f,o,Z,J,0⟩ [] ⟨Ai _,a4,rfl,rfl⟩ (by simp only[PW]) rfl ?_
 rintro⟨k,v,f,o,G,J,g⟩ su ⟨I,B,hl,he⟩ S;simp only at I B hl he S ⊢;refine aH (by kernel_rfl) ?_;have stop:¬k<y.1\/G.sh=Jo->(su,G)=cC (fun u r=>(u++[(RF.list (RF.next r).1 (RF.next r).2).1],(RF.list (RF.next r).1 (RF.next r).2).2)) y.1 [] Z:=fun h=>by rw[<-he,kF h]
 have fin:∀V:Mem,V[A.length+3]? =Jm (.cells U 0 (ow.map p8))->V[A.length+4]? =Jm (.cells g2 0 (pr.map p64))->V[A.length+5]? =Jm (.cells g 0 (su.map (slI Jp Jo .i64)))->V.take (A.length+1)=A++[rfO v f o G]->(¬k<y.1\/G.sh=Jo)->∃Z N,fP (A.length+1) V (.agg [.ref (A.length+3) U 1 0 k1,.ref (A.length+4) g2 1 0 k2,.ref (A.length+5) g 1 0 k])=Jm Z/\jP (A.length+1) V (V.take (A.length+1))=Jm N/\K Z N:=fun V m1 m3 m4 m2 h=>by
  have:=Y v f o;rw[<-stop h]at this;refine⟨_,_,?_,?_,this⟩
  ·have q5:=eT (n:=A.length+1) (sz:=1) (off:=0) (k:=k1) (by omega) m1 (by simp[Q]) (aO _ _ _);have q6:=eT (n:=A.length+1) (sz:=1) (off:=0) (k:=k2) (by omega) m3 (by simp[R]) (aO _ _ _);have q7:=eT (n:=A.length+1) (sz:=1) (off:=0) (k:=k) (by omega) m4 (by simp[hl]) (aW _ _ _ _ _);rw[aK _ _ (by simp[Q])]at q5;rw[aK _ _ (by simp[R])]at q6;rw[aK _ _ (by simp[hl])]at q7;simp only[fP,cP,dM,q5,q6,q7];subst hl Q R;rfl
  ·rw[m2];refine g8 ?_;rw[Cc,hA,Co,BR];rfl
 by_cases L:(k:Int)<y.1
 ·cases E:G.sh with
  | false=>
   have hw:=aC (k:=k) (by show _<1000000000000;omega);have p1:(k+1)*24<=140737488355328:=by omega
   have p2:k+1<=9223372036854775807:=by omega
   have O:=mJ (f:=fun u r=>(u++[(RF.list (RF.next r).1 (RF.next r).2).1],(RF.list (RF.next r).1 (RF.next r).2).2)) (s:=su) (show k<y.1 by omega) E;obtain⟨q1,q2⟩:=B.next;simp only[PP,simprocAttr,gk,gk0,L,E];refine fM T B fun v f o=>?_;simp only[PP,simprocAttr,gk0,dA,bP,hb];refine xX T q1 q2 (a6 _ (by simp)) (by simp[aG,aD,PV.under,aW,aO]) fun v f o=>?_;simp only[PP,simprocAttr,gk,gk0,sk,dA,bP,hb,p1,p2,hl,hw];rw[aK _ _ (by simp[hl])];refine aR (S ⟨k+1,v,f,o,(RF.list G.next.1 G.next.2).2,J+1,g+1⟩ (su++[(RF.list G.next.1 G.next.2).1]) ⟨by show k+1<=_;omega,q1.list _,by simp[hl],by rw[<-he,O]⟩ (by show y.1-(k+1)<y.1-k;omega)) (by simp only[PW]) ?_;rw[Ay];rfl
  | true=>simp only[PP,simprocAttr,gk,gk0,sk,L,E];exact fin _ (by rw[gk];rfl) (by rw[gk];rfl) (by rw[gk];rfl) (by rw[ht]) (.inr E)
 ·simp only[PP,simprocAttr,gk,sk,L];exact fin _ (by rw[gk];rfl) (by rw[gk];rfl) (by rw[gk];rfl) (by rw[ht]) (.inl (by omega))
end
end Go.Am.Ar
--P14
namespace Go.Am.Ar
open Go.Am.PV renaming aa->Zj
open Go.Am renaming jj->P1,mj->P2,ls->P3,fe->P4,cm.under->P5,ig->P6,du->P7,ct->P8,pev->P9,ji->P10,bd->P11,ll->P12,dv->P13,cK->P14,AO.effect->P15
open List renaming replicate->L1
def jbI(f o:Bool)(i:In)(u:Int):List PV:=match i with
 | .n N=>jbN f o N u
 | .d D=>jbD f o D u
 | .g ow pr su=>jbG f o ow pr su u
abbrev jb0:List PV:=[p64 0,p64 0,p64 0,.ah,.ah,.ah,p64 0,p64 0,.ah,.ah,.ah,.ah,.ah,p64 0]
def G8(f o:Bool)(i:In)(u:Int):(jbI f o i u).length=14:=by cases i<;>rfl
def aBv(f o:Bool)(i:In)(u:Int):(jbI f o i u)[13]? =Jm (p64 u):=by cases i<;>rfl
def LK(f o:Bool)(i:In)(u:Int):aY (jbI f o i u) 0 14=jbI f o i u:=aK _ _ (G8 ..).symm
def TE(m:Nat)(f o:Bool)(i:In)(u:Int):aD m (jbI f o i u)=Jo:=by cases i<;>simp[jbI,jbN,jbD,jbG,aD,PV.under,aO,aW,bS,cF]
def TF(f o:Bool)(i:In)(u:Int):(jbI f o i u).all PV.one=Jo:=by cases i<;>rfl
def aEG(M:Mem)(f o:Bool)(i:In)(u:Int):dM 0 M (jbI f o i u)=Jm (jbI f o i u):=by
 refine EI rfl fun k v x h1 h2=>?_;rw[h1]at h2;cases h2;have y:=(cY 0 _).1 (TE 0 f o i u) v (Af h1)
 cases i<;>(match k,h1 with
  | 0,h1 | 1,h1 | 2,h1 | 3,h1 | 4,h1 | 5,h1 | 6,h1 | 7,h1 | 8,h1 | 9,h1 | 10,h1 | 11,h1 | 12,h1 | 13,h1=>cases h1;unfold bX;simp only[y,if_true]
  | k+14,h1=>simp[jbI]at h1)
def kdW(w:List UInt8):Nat:=if w=kwD then 1 else if w=kwM then 2 else if w=kwP then 3 else 0
def aA8(w:List UInt8):kdW w=0↔¬(w=kwD\/w=kwM\/w=kwP):=by
 unfold kdW;by_cases h1:w=kwD
 ·rw[if_pos h1];simp[h1]
 by_cases h2:w=kwM
 ·rw[if_neg h1,if_pos h2];simp[h2]
 by_cases h3:w=kwP
 ·rw[if_neg h1,if_neg h2,if_pos h3];simp[h3]
 ·rw[if_neg h1,if_neg h2,if_neg h3];simp[h1,h2,h3]
def pP(w:List UInt8):(w=kwD/\kdW w=1)\/(w=kwM/\kdW w=2)\/(w=kwP/\kdW w=3)\/(w≠kwD/\w≠kwM/\w≠kwP/\kdW w=0):=by
 unfold kdW;by_cases h1:w=kwD
 ·exact .inl ⟨h1,if_pos h1⟩
 rw[if_neg h1];by_cases h2:w=kwM
 ·exact .inr (.inl ⟨h2,if_pos h2⟩)
 rw[if_neg h2];by_cases h3:w=kwP
 ·exact .inr (.inr (.inl ⟨h3,if_pos h3⟩))
 exact .inr (.inr (.inr ⟨h1,h2,h3,if_neg h3⟩))
def G2(w:List UInt8):decide (w=kwD)=decide (kdW w=1)/\decide (w=kwM)=decide (kdW w=2)/\decide (w=kwP)=decide (kdW w=3):=by
 have d1:kwM≠kwD:=by decide
 have d2:kwP≠kwD:=by decide
 have d3:kwP≠kwM:=by decide
 rcases pP w with⟨rfl,h⟩ | ⟨rfl,h⟩ | ⟨rfl,h⟩ | ⟨h1,h2,h3,h⟩
 ·rw[h];simp[d1.symm,d2.symm]
 ·rw[h];simp[d1,d3.symm]
 ·rw[h];simp[d2,d3]
 ·rw[h];simp[h1,h2,h3]
def WkL:List PV->List PV->Prop
 | [],[]=>True
 | x::a,y::b=>(y=x\/x= .ah/\∃u own sz,y= .sl u own sz 0 [])/\WkL a b
 | _,_=>False
def WkL.rep:∀{a b:List PV},WkL a b->∀w u,al w a u->al w b u
 | [],[],_,w,u,h=>h
 | x::a,y::b,hw,w,[],h=>by have:=h.len;simp at this
 | x::a,y::b,hw,w,c::u,h=>by
  refine .cons ?_ (WkL.rep hw.2 w u h.tl);rcases hw.1 with rfl | ⟨rfl,B,own,sz,rfl⟩
  ·exact h.hd
  ·exact bo.ah _ _ _ w c h.hd
 | [],_::_,hw,w,u,h=>hw.elim
 | _::_,[],hw,w,u,h=>hw.elim
structure ry (t:List UInt8) (M:Mem) (K:Kp):Prop where
 err:∀e,cL t= .err e->K (.tuple [.agg jb0,p64 e]) M
 bad:∀i u,cL t= .ok i u->i.chk≠0->K (.tuple [.agg jb0,p64 i.chk]) M
 few:∀i u,cL t= .ok i u->i.chk=0->∀m,m<u->(i.done m\/i.ik m)->(∀j,j<m->¬i.done j/\¬i.ik j)->K (.tuple [.agg jb0,p64 1]) M
 ok:∀i u,cL t= .ok i u->i.chk=0->(∀j,j<u->¬i.done j/\¬i.ik j)->K (.tuple [.agg (jbI Jp Jo i u),p64 0]) M
section
variable {tab:Tb} (T:HasA tab){M:Mem}{K:Kp}
include T
def aGK{f o:Bool}{i:In}{u:Int}(y:i.Bw)(B:K (p64 i.chk) M):aj tab 12 [.agg (jbI f o i u)] M K:=by
 cases i with
 | n N=>refine aF T.h12 (by simp only[jbI,PP,simprocAttr,bD]) ?_;simp only[af12,jbI,PP,simprocAttr];refine aB6 T y ?_;simp only[PP,simprocAttr];exact B
 | d D=>refine aF T.h12 (by simp only[jbI,PP,simprocAttr,bD]) ?_;simp only[af12,jbI,PP,simprocAttr];refine D9 T y ?_;simp only[PP,simprocAttr];exact B
 | g ow pr su=>refine aF T.h12 (by simp only[jbI,PP,simprocAttr,bD]) ?_;simp only[af12,jbI,PP,simprocAttr];refine NV T y ?_;simp only[PP,simprocAttr];exact B
def ZV{f o:Bool}{i:In}{u I:Int}(B:i.chk=0)(y:i.Bn)(J:i.Pos)(G:u<=9000000000000000000)(E:aFT i u M K):aj tab 19 [.agg (jbI f o i I),p64 u] M K:=by
 cases i with
 | n N=>exact aDJ T B y G E
 | d D=>exact aDK T B y.1 E
 | g ow pr su=>exact aDI T B y.1 J y.2 G E
set_option maxHeartbeats 8000000 in
def aDD{l:List UInt8}(hs:l.length<=100000000)(b3:∀i u,cL l= .ok i u->i.Bw/\(i.chk=0->i.B99)/\i.Pos)(h:ry l M K):aj tab 26 [m6 l] M K:=by
 obtain⟨w,G,hsp⟩:∃w G,bL 32 l=w::G:=by
  have:=tU 32 l;revert this
  match bL 32 l with
  | []=>exact fun h=>absurd rfl h
  | w::G=>exact fun _=>⟨w,G,rfl⟩
 have a5:=DP 32 l;rw[hsp]at a5;have hw:=a5 w (by simp);have b4:∀x∈G,∀b∈x,b≠32:=fun x hx=>a5 x (by simp[hx]);have hl:l=w++eX G:=by
  have:=qX l;rw[hsp]at this;exact this.symm
 have B:cL l=if w=kwD\/w=kwM\/w=kwP then match gF G with | none=> .err 2 | some y=>kP w y else .err 6:=by unfold cL;rw[hsp];rfl
 have L:l.length=w.length+(eX G).length:=by rw[hl];simp
 have Q:=iP l;have a0:=yT l;have ext:=I1 l;refine bQ T.h26 (by simp only[PP,simprocAttr,PT]) ?_;simp only[af26];refine aA (aB ?_);simp only[PP,simprocAttr];refine aA (aB ?_);simp only[PP,simprocAttr];refine aA (fC (Qn:=fun b N=>dh b (m6 l:: .aa:: .ptr 0 0 0:: .aa::p64 w.length::zj 135)/\N=[.cells 0 0 jb0]) ?_ ?_ (fun _ _ h=>h) fun _ _ _ h=>h)
 ·refine gP ?_;refine dN (fun(k:Nat)=>k<=w.length) (fun k=>(m6 l:: .aa:: .ptr 0 0 0:: .aa::p64 k::zj 135)) (fun k=>[.cells 0 0 jb0]) (fun k=>w.length-k) 0 (by omega) (by simp only[PW]) rfl ?_;intro k hk ih;refine aH (by kernel_rfl) ?_;by_cases he:k<w.length
  ·have hlt:(k:Int)<l.length:=by omega
   have k0:(0:Int)<=k:=by omega
   have wk:=aC (k:=k) (by show _<1000000000000;omega);obtain⟨b,gb⟩:=aM he;have ge:l[k]? =Jm b:=by rw[hl,Bj he];exact gb
   have hb:¬((b.toNat:Nat):Int)=32:=fun q=>hw b (Af gb) (UInt8.toNat_inj.1 (by show b.toNat=32;omega));simp only[PP,simprocAttr,PT,Q,a0,hlt,k0,ge,hb,wk];exact aE (ih (k+1) (by omega) (by omega)) (by simp only[PW])
  obtain rfl:k=w.length:=by omega
  have b5:l.length=w.length\/(w.length<l.length/\l[w.length]? =Jm 32):=by
   match G,hl,L with
   | [],hl,L=>exact .inl (by rw[L];simp[eX])
   | v::d5,hl,L=>refine .inr ⟨by rw[L,kB];simp,?_⟩;rw[hl,Bx (Ac _),Dd,kB];rfl
  have k0:(0:Int)<=w.length:=by omega
  have b6:((UInt8.toNat 32:Nat):Int)=32:=rfl;rcases b5 with q | ⟨q1,q2⟩
  ·have hlt:¬(w.length:Int)<l.length:=by omega
   simp only[PP,simprocAttr,PT,Q,hlt];exact(by simp only[PW])
  ·have hlt:(w.length:Int)<l.length:=by omega
   simp only[PP,simprocAttr,PT,Q,a0,hlt,k0,q2];exact(by simp only[PW])
 rintro b N ⟨J,rfl⟩;refine aE ?_ J;have w0:(0:Int)<=w.length:=by omega
 have wl:(w.length:Int)<=l.length:=by omega
 have xw:(l.take w.length).drop 0=w:=by rw[hl];simp
 refine aA (aB ?_);simp only[PP,simprocAttr,PT,Q,ext,w0,wl,xw,Fk];refine aA (aB ?_);simp only[PP,simprocAttr];refine aA (aB ?_);simp only[PP,P14,simprocAttr,PT];have qe:∀k:List UInt8,cD .eql (m6 w) (m6 k)=Jm (.bool (decide (w=k))):=fun k=>by rw[xG];congr 2;rw[decide_eq_decide];exact nf
 have q1:cD .eql (m6 w) (.str ⟨#[100,101,116,101,114,109,105,110,105,122,101]⟩)=Jm (.bool (decide (kdW w=1))):=(qe kwD).trans (by rw[(G2 w).1]);have q2:cD .eql (m6 w) (.str ⟨#[109,105,110,105,109,105,122,101]⟩)=Jm (.bool (decide (kdW w=2))):=(qe kwM).trans (by rw[(G2 w).2.1]);have q3:cD .eql (m6 w) (.str ⟨#[109,101,97,115,117,114,101,115]⟩)=Jm (.bool (decide (kdW w=3))):=(qe kwP).trans (by rw[(G2 w).2.2]);have d1:kwM≠kwD:=by decide
 have d2:kwP≠kwD:=by decide
 have d3:kwP≠kwM:=by decide
 refine aA (fC (Qn:=fun b N=>dh b (m6 l:: .aa:: .ptr 0 0 0:: .aa:: .aa::m6 w:: .ptr 1 0 0::zj 133)/\∃v,N=[.cells 0 0 jb0,.cells 0 v [p64 (kdW w),p64 0,p64 0,.ah,.ah,.ah,p64 0,p64 0,.ah,.ah,.ah,.ah,.ah,p64 0]]) ?_ ?_ (fun _ _ h=>h) fun _ _ _ h=>h)
 ·refine aA (aB ?_);simp only[PP,simprocAttr];refine gP ?_;refine cQ (fun(k v:Nat)=>1<=k/\k<=4) (fun k v=>(m6 l:: .aa:: .ptr 0 0 0:: .aa:: .aa::m6 w:: .ptr 1 0 0:: .sl Jo Jo 1 4 [.str ⟨#[]⟩,.str ⟨#[100,101,116,101,114,109,105,110,105,122,101]⟩,.str ⟨#[109,105,110,105,109,105,122,101]⟩,.str ⟨#[109,101,97,115,117,114,101,115]⟩]::p64 k::zj 131)) (fun k v=>[.cells 0 0 jb0,.cells 0 v [p64 (if kdW w<k then kdW w else 0:Nat),p64 0,p64 0,.ah,.ah,.ah,p64 0,p64 0,.ah,.ah,.ah,.ah,.ah,p64 0]]) (fun k v=>4-k) 1 0 ⟨by omega,by omega⟩ (by simp only[PW]) ?_ ?_
  ·have:(if kdW w<1 then kdW w else 0)=0:=by split<;>omega
   rw[this];rfl
  intro k v ⟨d6,d7⟩ ih;refine aH (by kernel_rfl) ?_;have hk:k=1\/k=2\/k=3\/k=4:=by omega
  rcases hk with rfl | rfl | rfl | rfl
  ·have I:=fun v=>ih 2 v ⟨by omega,by omega⟩ (by omega);have w1:IntKind.i64.wrap 2=2:=rfl;by_cases e:kdW w=1
   ·have:=I (v+1);rw[e]at this;simp only[PP,simprocAttr,q1,e,w1];exact aR this (by simp only[PW]) rfl
   ·have:=I v;have e2:(if kdW w<2 then kdW w else 0)=(if kdW w<1 then kdW w else 0):=by split<;>split<;>omega
    rw[e2]at this;simp only[PP,simprocAttr,q1,e,w1];exact aR this (by simp only[PW]) rfl
  ·have I:=fun v=>ih 3 v ⟨by omega,by omega⟩ (by omega);have w1:IntKind.i64.wrap 3=3:=rfl;by_cases e:kdW w=2
   ·have:=I (v+1);rw[e]at this;simp only[PP,simprocAttr,q2,e,w1];exact aR this (by simp only[PW]) rfl
   ·have:=I v;have e2:(if kdW w<3 then kdW w else 0)=(if kdW w<2 then kdW w else 0):=by split<;>split<;>omega
    rw[e2]at this;simp only[PP,simprocAttr,q2,e,w1];exact aR this (by simp only[PW]) rfl
  ·have I:=fun v=>ih 4 v ⟨by omega,by omega⟩ (by omega);have w1:IntKind.i64.wrap 4=4:=rfl;by_cases e:kdW w=3
   ·have:=I (v+1);rw[e]at this;simp only[PP,simprocAttr,q3,e,w1];exact aR this (by simp only[PW]) rfl
   ·have:=I v;have e2:(if kdW w<4 then kdW w else 0)=(if kdW w<3 then kdW w else 0):=by split<;>split<;>omega
    rw[e2]at this;simp only[PP,simprocAttr,q3,e,w1];exact aR this (by simp only[PW]) rfl
  ·have b7:kdW w<4:=by rcases pP w with⟨_,h⟩ | ⟨_,h⟩ | ⟨_,h⟩ | ⟨_,_,_,h⟩<;>omega
   rw[if_pos b7];simp only[PP,simprocAttr];exact⟨(by simp only[PW]),v,rfl⟩
 rintro b N ⟨J,v,rfl⟩;refine aE ?_ J;refine aA (aB ?_);simp only[PP,simprocAttr];refine QIf.intro (fun c=>?_) fun c=>?_
 ·simp only[PP,simprocAttr,c];exact h.err 6 (by rw[B,if_neg ((aA8 w).1 (by omega))])
 have a6:w=kwD\/w=kwM\/w=kwP:=Classical.not_not.1 fun q=>by have:=(aA8 w).2 q;omega
 rw[if_pos a6]at B;simp only[PP,simprocAttr,c];have c0:=iP w;have xr:(l.take l.length).drop w.length=eX G:=by rw[En,hl];simp
 refine aA (aB ?_);simp only[PP,simprocAttr,PT,Q,c0,ext,w0,wl,xr,Fk];refine⟨Cq _,?_⟩;refine aDm T b4 (by omega) (fun y I=>?_) fun I=>?_;rotate_left
 ·simp only[PP,simprocAttr];refine aA (aB ?_);simp only[PP,simprocAttr];exact h.err 2 (by rw[B,I])
 rw[I]at B;have B:cL l=OK w y:=by rw[B];exact(V8 w y).symm
 obtain⟨_,S⟩:=ec.1 I;have O:y.length<=100000000:=by
  have e:=(ec.1 I).1;have:G.length<=(eX G).length:=by
   have:∀G:List (List UInt8),G.length<=(eX G).length:=by
    intro G
    induction G with
    | nil=>simp[eX]
    | cons x r ih=>rw[kB];simp;omega
   exact this G
  rw[e,Ap]at this;rw[e]at L;omega
 simp only[PP,simprocAttr];refine aA (aB ?_);simp only[PP,simprocAttr];refine aA (aB ?_)
 match y,S,O,B with
 | [],S,O,B=>simp only[bF,PP,simprocAttr];exact h.err 3 B
 | u::y,S,O,B=>
  have hu:=S u (by simp);have hz:¬((y.length+1:Nat):Int)=0:=by omega
  have hp:(0:Int)<((y.length+1:Nat):Int):=by omega
  simp only[bF,PP,simprocAttr,hz];refine aA (aB ?_);simp only[PP,simprocAttr,hp];have k3:(w=kwD\/w=kwM)↔((kdW w:Nat):Int)<3:=by
   have d2:kwP≠kwD:=by decide
   have d3:kwP≠kwM:=by decide
   rcases pP w with⟨e,h⟩ | ⟨e,h⟩ | ⟨e,h⟩ | ⟨h1,h2,h3,h⟩
   ·rw[h];exact⟨fun _=>by decide,fun _=> .inl e⟩
   ·rw[h];exact⟨fun _=>by decide,fun _=> .inr e⟩
   ·rw[h];subst e;simp[d2,d3]
   ·exact absurd a6 (by simp[h1,h2,h3])
  obtain⟨QQ,E⟩:∃QQ:Kl,QQ=fun b N=>(¬((w=kwD\/w=kwM)/\y≠[]/\6<y.headD 0))/\dh b (.aa:: .aa:: .ptr 0 0 0::zj 3++ .ptr 1 0 0:: .aa:: .aa::slI Jp Jo .i64 (bF (u::y))::zj 130)/\N=[.cells 0 0 jb0,.cells 0 (v+1) [p64 (kdW w),p64 0,p64 0,.ah,.ah,.ah,p64 0,p64 0,.ah,.ah,.ah,.ah,.ah,p64 u]]:=⟨_,rfl⟩;refine aA (fC (Qn:=QQ) (aB ?_) ?_ (fun _ _ h=>h) fun _ _ _ h=>h)
  ·match y with
   | []=>simp only[PP,simprocAttr];rw[E];exact⟨fun q=>q.2.1 rfl,(by simp only[bF,Ak,Bq,PW]),rfl⟩
   | n::y=>
    have h1:(1:Int)<((y.length+1+1:Nat):Int):=by omega
    by_cases e3:((kdW w:Nat):Int)<3
    ·by_cases e6:(6:Int)<(n:Int)
     ·simp only[PP,simprocAttr,h1,e3,e6];exact h.err 7 (by rw[B];show(if _ then _ else _)=_;rw[if_pos ⟨k3.2 e3,by simp,by show 6<n;omega⟩])
     ·simp only[PP,simprocAttr,h1,e3,e6];rw[E];exact⟨fun q=>by have:6<n:=q.2.2;omega,(by simp only[bF,Ak,PW]),rfl⟩
    ·simp only[PP,simprocAttr,h1,e3];rw[E];exact⟨fun q=>e3 (k3.1 q.1),(by simp only[bF,Ak,PW]),rfl⟩
  subst E;rintro b N ⟨c4,J,rfl⟩;refine aE ?_ J;have B:cL l=if(iN w ⟨y,Jp,Jp⟩).2.sh=Jo then .err 3 else
   if(iN w ⟨y,Jp,Jp⟩).2.l≠[]then .err 5 else
   if(iN w ⟨y,Jp,Jp⟩).2.od=Jo then .err 1 else .ok (iN w ⟨y,Jp,Jp⟩).1 u:=by rw[B];exact if_neg c4
  have h1:(1:Int)<=((y.length+1:Nat):Int):=by omega
  have e1:(((y.length+1:Nat):Int)-1).toNat=y.length:=by omega
  have e2:aY ((bF y).map p64) 0 y.length=(bF y).map p64:=aK _ _ (by simp);refine aA (aB ?_);simp only[bF,PP,simprocAttr,h1,e1];refine⟨Cq _,?_⟩;have c5:cm.cells 0 0 [.sl Jp Jo 1 y.length (aY ((y.map fun v:Nat=>(v:Int)).map p64) 0 y.length),.bool Jp,.bool Jp]=rfO 0 Jp Jo ⟨y,Jp,Jp⟩:=by
   have e2:aY ((y.map fun v:Nat=>(v:Int)).map p64) 0 y.length=(y.map fun v:Nat=>(v:Int)).map p64:=aK _ _ (by simp);rw[e2];simp only[rfO,slI,bF,Ap]
  rw[c5];refine aE (b:=(.aa:: .aa:: .ptr 0 0 0::zj 3++ .ptr 1 0 0::zj 4++ .ptr 2 0 0::zj 128)) ?_ (by simp only[PW]);have a7:OkF ⟨y,Jp,Jp⟩:=⟨fun n I=>S n (by simp[I]),by show y.length<=_;simp at O;omega⟩;obtain⟨QQ,E⟩:∃QQ:Kl,QQ=fun b N=>dh b (.aa:: .aa:: .ptr 0 0 0::zj 3++ .ptr 1 0 0::zj 4++ .ptr 2 0 0::zj 128)/\∃v' f' o' vj,N=[.cells 0 0 jb0,.cells 0 vj (jbI Jp Jo (iN w ⟨y,Jp,Jp⟩).1 u),rfO v' f' o' (iN w ⟨y,Jp,Jp⟩).2]:=⟨_,rfl⟩;refine aA (fC (Qn:=QQ) (UE (aB ?_)) ?_ (fun _ _ h=>h) fun _ _ _ h=>h)
  ·have d1:kwM≠kwD:=by decide
   have d2:kwP≠kwD:=by decide
   have d3:kwP≠kwM:=by decide
   have U:∀c:Int,([.cells 0 0 jb0,.cells 0 (v+1) [p64 c,p64 0,p64 0,.ah,.ah,.ah,p64 0,p64 0,.ah,.ah,.ah,.ah,.ah,p64 u]]:Mem).all (aG 3)=Jo:=fun c=>by simp[aG,aD,PV.under]
   rcases pP w with⟨e,hk⟩ | ⟨e,hk⟩ | ⟨e,hk⟩ | ⟨h1,h2,h3,hk⟩
   ·have er:iN w ⟨y,Jp,Jp⟩=(.n (RF.nfa ⟨y,Jp,Jp⟩).1,(RF.nfa ⟨y,Jp,Jp⟩).2):=if_pos e;rw[hk];simp only[PP,simprocAttr];refine aHr T (A:=[.cells 0 0 jb0,.cells 0 (v+1) [p64 1,p64 0,p64 0,.ah,.ah,.ah,p64 0,p64 0,.ah,.ah,.ah,.ah,.ah,p64 u]]) a7 (U 1) fun v' f' o'=>?_;simp only[PP,simprocAttr];refine Gh.step (GStep.wkO 1 (cs2:=jbN Jp Jo (RF.nfa ⟨y,Jp,Jp⟩).1 u) rfl (WkL.rep ⟨.inl rfl,.inl rfl,.inl rfl,.inl rfl,.inl rfl,.inl rfl,.inl rfl,.inl rfl,.inr ⟨rfl,_,_,_,rfl⟩,.inr ⟨rfl,_,_,_,rfl⟩,.inr ⟨rfl,_,_,_,rfl⟩,.inr ⟨rfl,_,_,_,rfl⟩,.inr ⟨rfl,_,_,_,rfl⟩,.inl rfl,trivial⟩) rfl) (Gh.same ?_);rw[E];exact⟨(by simp only[PW]),v',f',o',_,by rw[er];rfl⟩
   ·have er:iN w ⟨y,Jp,Jp⟩=(.d (RF.dfa ⟨y,Jp,Jp⟩).1,(RF.dfa ⟨y,Jp,Jp⟩).2):=by unfold iN;rw[if_neg (by rw[e];exact d1),if_pos e]
    rw[hk];simp only[PP,simprocAttr];refine aHu T (A:=[.cells 0 0 jb0,.cells 0 (v+1) [p64 2,p64 0,p64 0,.ah,.ah,.ah,p64 0,p64 0,.ah,.ah,.ah,.ah,.ah,p64 u]]) a7 (U 2) fun v' f' o'=>?_;simp only[PP,simprocAttr];refine Gh.step (GStep.wkO 1 (cs2:=jbD Jp Jo (RF.dfa ⟨y,Jp,Jp⟩).1 u) rfl (WkL.rep ⟨.inl rfl,.inl rfl,.inl rfl,.inr ⟨rfl,_,_,_,rfl⟩,.inr ⟨rfl,_,_,_,rfl⟩,.inr ⟨rfl,_,_,_,rfl⟩,.inl rfl,.inl rfl,.inl rfl,.inl rfl,.inr ⟨rfl,_,_,_,rfl⟩,.inr ⟨rfl,_,_,_,rfl⟩,.inr ⟨rfl,_,_,_,rfl⟩,.inl rfl,trivial⟩) rfl) (Gh.same ?_);rw[E];exact⟨(by simp only[PW]),v',f',o',_,by rw[er];rfl⟩
   ·have er:iN w ⟨y,Jp,Jp⟩=(.g (RF.dj ⟨y,Jp,Jp⟩).1.1 (RF.dj ⟨y,Jp,Jp⟩).1.2.1 (RF.dj ⟨y,Jp,Jp⟩).1.2.2,(RF.dj ⟨y,Jp,Jp⟩).2):=by unfold iN;rw[if_neg (by rw[e];exact d2),if_neg (by rw[e];exact d3)]
    rw[hk];simp only[PP,simprocAttr];refine aEP T (A:=[.cells 0 0 jb0,.cells 0 (v+1) [p64 3,p64 0,p64 0,.ah,.ah,.ah,p64 0,p64 0,.ah,.ah,.ah,.ah,.ah,p64 u]]) a7 (U 3) fun v' f' o'=>?_;simp only[PP,simprocAttr];refine Gh.step (GStep.wkO 1 (cs2:=jbG Jp Jo (RF.dj ⟨y,Jp,Jp⟩).1.1 (RF.dj ⟨y,Jp,Jp⟩).1.2.1 (RF.dj ⟨y,Jp,Jp⟩).1.2.2 u) rfl (WkL.rep ⟨.inl rfl,.inl rfl,.inl rfl,.inr ⟨rfl,_,_,_,rfl⟩,.inr ⟨rfl,_,_,_,rfl⟩,.inr ⟨rfl,_,_,_,rfl⟩,.inl rfl,.inl rfl,.inr ⟨rfl,_,_,_,rfl⟩,.inr ⟨rfl,_,_,_,rfl⟩,.inl rfl,.inl rfl,.inl rfl,.inl rfl,trivial⟩) rfl) (Gh.same ?_);rw[E];exact⟨(by simp only[PW]),v',f',o',_,by rw[er];rfl⟩
   ·exact absurd a6 (by simp[h1,h2,h3])
  subst E;rintro b N ⟨J,v',f',o',vj,rfl⟩;refine aE ?_ J;generalize iN w ⟨y,Jp,Jp⟩=p at*;obtain⟨i,R⟩:=p;simp only at B ⊢;have V:=G8 Jp Jo i u;have a1:=aBv Jp Jo i u;have Y:=LK Jp Jo i u;have b1:=fun M=>aEG M Jp Jo i u;have Z:=TF Jp Jo i u;refine aA (aB ?_)
  cases a3:R.sh with
  | true=>simp only[PP,simprocAttr,a3];exact h.err 3 (by rw[B,if_pos a3])
  | false=>
  rw[if_neg (by rw[a3];decide)]at B;simp only[PP,simprocAttr,a3];refine aA (aB ?_);have O:(bF R.l).length=R.l.length:=by simp[bF]
  simp only[PP,simprocAttr,O];refine QIf.intro (fun c1=>?_) fun c1=>?_
  ·simp only[PP,simprocAttr,c1];exact h.err 5 (by rw[B,if_pos (fun q=>by rw[q]at c1;simp at c1)])
  have c6:R.l=[]:=List.length_eq_zero_iff.1 (by omega);rw[if_neg fun q=>q c6]at B;simp only[PP,simprocAttr,c1];refine aA (aB ?_)
  cases a4:R.od with
  | true=>simp only[PP,simprocAttr,a4];exact h.err 1 (by rw[B,if_pos a4])
  | false=>
  rw[if_neg (by rw[a4];decide)]at B;simp only[PP,simprocAttr,a4];obtain⟨b2,c7,a9⟩:=b3 i u B;refine aA (aB ?_);simp only[PP,simprocAttr,V,Y];refine aGK T b2 ?_;simp only[PP,simprocAttr];refine QIf.intro (fun c2=>?_) fun c2=>?_;rotate_left
  ·simp only[PP,simprocAttr,c2];exact h.bad i u B c2
  simp only[PP,simprocAttr,c2];have c8:=In.bn b2 (c7 c2);refine aA (aB ?_);simp only[PP,simprocAttr,V,Y,a1];refine ZV T c2 c8 a9 (by omega) fun m hm a2 r hr b fl hb c9 d0=>?_;simp only[PP,simprocAttr,a1];refine QIf.intro (fun c3=>?_) fun c3=>?_
  ·simp only[PP,simprocAttr,c3];refine h.few i u B c2 m (by omega) ?_ a2
   cases fl with
   | true=>exact .inr (c9 rfl)
   | false=>
    rcases d0 rfl with q | q
    ·omega
    ·exact .inl q
  ·simp only[PP,simprocAttr,c3];refine aB ?_;simp only[PP,simprocAttr,V,Y,Z];have d4:jO jb0 0 (jbI Jp Jo i u)=jbI Jp Jo i u:=by cases i<;>rfl
   simp only[PP,simprocAttr,d4,V,Y,b1];exact h.ok i u B c2 fun j hj=>a2 j (by omega)
end
def LdE(t:List UInt8)(e:Int):Prop:=cL t= .err e\/(∃i u,cL t= .ok i u/\i.chk≠0/\e=i.chk)\/∃i u,cL t= .ok i u/\i.chk=0/\e=1/\∃m,m<u/\(i.done m\/i.ik m)
def LdO(t:List UInt8)(i:In)(u:Nat):Prop:=cL t= .ok i u/\i.chk=0/\∀j,j<u->¬i.done j/\¬i.ik j
def LdE.ne{t:List UInt8}{e:Int}(h:LdE t e):e≠0:=by
 rcases h with h | ⟨i,u,h1,h2,rfl⟩ | ⟨i,u,h1,h2,rfl,_⟩
 ·exact V7 h
 ·exact h2
 ·decide
def LdE.eq{t:List UInt8}{e y:Int}(h:LdE t e)(B:LdE t y):e=y:=by
 rcases h with h | ⟨i,u,h1,h2,rfl⟩ | ⟨i,u,h1,h2,rfl,_⟩<;>rcases B with k | ⟨E,G,k1,k2,rfl⟩ | ⟨E,G,k1,k2,rfl,_⟩
 ·rw[h]at k;injection k
 ·rw[h]at k1;cases k1
 ·rw[h]at k1;cases k1
 ·rw[h1]at k;cases k
 ·rw[h1]at k1;injection k1 with a b;rw[a]
 ·rw[h1]at k1;injection k1 with a b;rw[a]at h2;exact absurd k2 h2
 ·rw[h1]at k;cases k
 ·rw[h1]at k1;injection k1 with a b;rw[a]at h2;exact absurd h2 k2
 ·rfl
def LdO.not{t:List UInt8}{i:In}{u:Nat}{e:Int}(h:LdO t i u)(B:LdE t e):False:=by
 obtain⟨a,b,c⟩:=h;rcases B with k | ⟨E,G,k1,k2,rfl⟩ | ⟨E,G,k1,k2,rfl,m,hm,hd⟩
 ·rw[a]at k;cases k
 ·rw[a]at k1;injection k1 with x y;subst x;exact k2 b
 ·rw[a]at k1;injection k1 with x y;subst x;subst y;exact hd.elim (c m hm).1 (c m hm).2
def LdO.eq{t:List UInt8}{i B:In}{u E:Nat}(h:LdO t i u)(G:LdO t B E):B=i/\E=u:=by have a:=h.1;rw[G.1]at a;injection a with x y;exact⟨x,y⟩
section
variable {tab:Tb} (T:HasA tab){M:Mem}{K:Kp}
include T
def ZQ{l:List UInt8}(hs:l.length<=400)(h1:∀e,LdE l e->K (.tuple [.agg jb0,p64 e]) M)(h2:∀i u,LdO l i u->K (.tuple [.agg (jbI Jp Jo i u),p64 0]) M):aj tab 26 [m6 l] M K:=
 aDD T (by omega) (fun i u h=>by obtain⟨a,b,c,_⟩:=zQ h (by omega);exact⟨a,b,c⟩) ⟨fun e h=>h1 e (.inl h),fun i u h c=>h1 _ (.inr (.inl ⟨i,u,h,c,rfl⟩)),fun i u h c m hm hd _=>h1 1 (.inr (.inr ⟨i,u,h,c,rfl,m,hm,hd⟩)),fun i u h c hd=>h2 i u ⟨h,c,hd⟩⟩
def S5{l:List UInt8}(hs:l.length<=400)(G:M.all (aG M.length)=Jo)(h1:∀e,LdE l e->K (.tuple [.au,p64 e]) M)(h2:∀i u,LdO l i u->∀y b L StF B E,ra tab y b L i StF->B.length=b->B.all (aG b)=Jo->StF B u E->(∃X,B=M++X)->K (.tuple [.ptr y 0 0,p64 0]) E):aj tab 27 [m6 l] M K:=by
 have e:(⟨l.toArray⟩:ByteArray).data.toList=l:=by simp
 refine aG0 T (s:=⟨l.toArray⟩) (by show l.toArray.size<=_;simp;omega) (fun i u h=>?_) G ⟨fun I h=>?_,fun i u h c=>?_,fun i u h c m hm hd _=>?_,fun i u h c hd=>?_⟩<;>rw[e]at h
 ·obtain⟨a,b,c,_⟩:=zQ h (by omega);exact⟨a,b,c⟩
 ·exact h1 I (.inl h)
 ·exact h1 _ (.inr (.inl ⟨i,u,h,c,rfl⟩))
 ·exact h1 1 (.inr (.inr ⟨i,u,h,c,rfl,m,hm,hd⟩))
 ·exact h2 i u ⟨h,c,hd⟩
set_option maxHeartbeats 4000000 in
def aEj{s:ByteArray}(hs:s.size<=9223372036854775807):aj tab 4 [.str s] [] fun r _=>r= .bool Jo:=by
 have a0:min (s.size:Int) 400=((min s.size 400:Nat):Int):=by omega
 have h0:(0:Int)<=((min s.size 400:Nat):Int):=by omega
 have h1:((min s.size 400:Nat):Int)<=s.size:=by omega
 refine cA T.h4 ?_;simp only[af4];refine aA (aB ?_);simp only[PP,simprocAttr];refine aA (aB ?_);simp only[PP,simprocAttr,PT,EH,a0,h0,h1];have b3:(s.extract 0 (min s.size 400)).size<=400:=by rw[ByteArray.size_extract];omega
 generalize s.extract 0 (min s.size 400)=t at*;obtain⟨l,hl,b4⟩:∃l:List UInt8,l.length<=400/\(⟨l.toArray⟩:ByteArray)=t:=⟨t.data.toList,b3,nf.2 rfl⟩;subst b4;refine aA (aB ?_);simp only[PP,simprocAttr];refine ZQ T hl (fun e he=>?_) fun i u hi=>?_
 ·have a4:=he.ne;simp only[PP,simprocAttr];refine aA (aB ?_);simp only[PP,simprocAttr];refine aA (aB ?_);simp only[PP,simprocAttr];refine S5 T hl (by rfl) (fun e' Q=>?_) fun i u hi=>(hi.not he).elim;obtain rfl:=he.eq Q;simp only[PP,simprocAttr];refine aA (aB ?_);simp only[PP,simprocAttr,PI,a4];refine aA (aB ?_);simp only[PP,simprocAttr,a4];refine kG T.om ?_;simp only[PP,simprocAttr]
 ·obtain⟨hp,hc,hd⟩:=id hi;obtain⟨b5,b6,a1,_⟩:=zQ hp (by omega);have a5:=In.bn b5 (b6 hc);obtain⟨ht,hu⟩:=zS hp;have a6:=G8 Jp Jo i u;have b7:jO jb0 0 (jbI Jp Jo i u)=jbI Jp Jo i u:=by cases i<;>rfl
  have c0:=LK Jp Jo i u;have c5:=TE 1 Jp Jo i u;have O:=aBv Jp Jo i u;obtain⟨V,st,nx,ow,B,E,G,y⟩:∃(V:Int) (st:List Int) (nx:List (List Int)) (ow:List Int),(jbI Jp Jo i u)[2]? =Jm (p64 V)/\(jbI Jp Jo i u)[3]? =Jm (slI Jp Jo .i64 st)/\(jbI Jp Jo i u)[8]? =Jm (slR Jp Jo Jp Jo .i64 nx)/\(jbI Jp Jo i u)[10]? =Jm (slI Jp Jo .u8 ow):=by cases i<;>exact⟨_,_,_,_,rfl,rfl,rfl,rfl⟩
  have c6:=TF Jp Jo i u;simp only[PP,simprocAttr,a6,b7,c6];refine aA (aB ?_);have R:((6:Int)<st.length\/(¬(6:Int)<st.length/\(6:Int)<V)\/(¬(6:Int)<st.length/\¬(6:Int)<V/\(40:Int)<nx.length)\/(¬(6:Int)<st.length/\¬(6:Int)<V/\¬(40:Int)<nx.length/\(12:Int)<ow.length))\/(¬(6:Int)<st.length/\¬(6:Int)<V/\¬(40:Int)<nx.length/\¬(12:Int)<ow.length):=by omega
  rcases R with R | ⟨I,S,c3,c4⟩
  ·rcases R with I | ⟨I,S⟩ | ⟨I,S,c3⟩ | ⟨I,S,c3,c4⟩
   ·simp only[PP,simprocAttr,E,I];refine kG T.om ?_;simp only[PP,simprocAttr]
   ·simp only[PP,simprocAttr,B,E,I,S];refine kG T.om ?_;simp only[PP,simprocAttr]
   ·simp only[PP,simprocAttr,B,E,G,I,S,c3];refine kG T.om ?_;simp only[PP,simprocAttr]
   ·simp only[PP,simprocAttr,B,E,G,y,I,S,c3,c4];refine kG T.om ?_;simp only[PP,simprocAttr]
  simp only[PP,simprocAttr,B,E,G,y,I,S,c3,c4];refine aA (aB ?_);simp only[PP,simprocAttr];have a3:([cm.cells 0 1 (jbI Jp Jo i u)]:Mem).all (aG 1)=Jo:=by simp[aG,c5]
  refine S5 T hl a3 (fun e' Q=>(hi.not Q).elim) fun i' U c7 d5 b L StF A0 M0 J a7 a9 hS hX=>?_;obtain⟨rfl,rfl⟩:=hi.eq c7;have JX:=J.X A0 a7 a9;obtain⟨X,hX⟩:=hX;obtain⟨Z,hZ⟩:=J.pre A0 U M0 hS;have g0:∀Y,(M0++Y)[0]? =Jm (.cells 0 1 (jbI Jp Jo i' U)):=fun Y=>by rw[hZ,hX];rfl
  have b0:M0[0]? =Jm (.cells 0 1 (jbI Jp Jo i' U)):=by have:=g0 [];rwa [Bv]at this
  have hlen:=aI b0;obtain⟨jv,jw,d0,c8⟩:=JX.job U M0 hS;simp only[PP,simprocAttr];refine aA (aB ?_);simp only[PP,simprocAttr,PI,c8];refine aA (aB ?_);simp only[PP,simprocAttr];refine aA (aB ?_);simp only[PP,simprocAttr,b0,a6,c0,O];refine ZV T hc a5 a1 (by omega) fun m hm d4 r hr bb fl hb b1 b2=>?_;obtain rfl:m=U:=by
   rcases hm with q | rfl
   ·rcases Ba m U with q2 | q2
    ·cases fl with
     | true=>exact absurd (b1 rfl) (hd m q2).2
     | false=>
      rcases b2 rfl with q3 | q3
      ·omega
      ·exact absurd q3 (hd m q2).1
    ·omega
   ·cases U with
    | zero=>rfl
    | succ v=>
     cases fl with
     | true=>exact absurd (b1 rfl) (hd 0 (by omega)).2
     | false=>
      rcases b2 rfl with q3 | q3
      ·omega
      ·exact absurd q3 (hd 0 (by omega)).1
  simp only[PP,simprocAttr,Res.pv,gk0,sk0];refine aB ?_;simp only[PP,simprocAttr];refine JX.res m M0 hS _ _ fun r' c9=>?_;obtain rfl:=In.rp_eq hr c9;simp only[PP,simprocAttr,gk0];refine aGz T (In.rp_sm hc a5 hr) (In.rf hc hr) ?_;simp only[PP,simprocAttr];refine JX.units T hS ?_;have e:=xG ⟨l.toArray⟩ ⟨l.toArray⟩;have g2:=g0 [.cells 0 0 [p64 0]];simp only[PP,simprocAttr,g0,O];refine J.sav A0 a7 a9 m M0 hS hu _ _ ?_;have et:i'.oj m=⟨l.toArray⟩:=by unfold In.oj;rw[ht]
  rw[et];simp only[PP,simprocAttr,e];refine kG T.om ?_;simp only[PP,simprocAttr]
end
def ZP{u:Tb}{g:FuncId}{args:List AV}{h:H}(B:C (lim u) g args h fun v _=>v= .bool Jo):∃n y,(run u n).call g args h=Jm (.bool Jo,y):=by unfold C at B;obtain⟨v,y,he,rfl⟩:=B;obtain⟨n,E⟩:=(f9 u).1 he;exact⟨n,y,E⟩
def aIj{A:Ty}{args:List AV}{h:H}(hs:aCV [A] args h):∃a,args=[a]/\ShV A a h:=by
 match args,hs with
 | [a],⟨h1,_⟩=>exact⟨a,rfl,h1⟩
def bloads_all{u:Tb}(T:HasA u)(args:List AV)(h:H)(hs:aCV [.str] args h):
  ∃n y,(run u n).call 4 args h=Jm (.bool Jo,y):=by
 obtain⟨a,rfl,B⟩:=aIj hs;obtain⟨s,rfl,hl⟩:∃s:ByteArray,a= .str s/\s.size<=9223372036854775807:=by obtain⟨E,⟨s,rfl,hl⟩,rfl⟩:=B;exact⟨s,rfl,hl⟩
 exact ZP (O2 (.cons (.str s) (.nil _)) (aEj T hl))
end Go.Am.Ar

