/- Contract: the reader reads a game, and what goes with it. -/
import Derived.Test.YtapbgleednkimaaGreatDoorBudgetExamplesG1
set_option linter.all false
set_option maxRecDepth 10000
set_option maxHeartbeats 40000000
open List renaming append_assoc->Ab,map_append->Ax,map_cons->Ai,map_nil->Bd,all_append->Bl,cons_append->Ak,nil_append->An,take_of_length_le->Ba,mem_of_getElem?->Ae,take_left'->Au,all_cons->Cb,range->Av,getElem?_eq_getElem->Ad,getD->At,getElem?_map->Ap,length_map->Al,idxOf_append->Et,range_succ->Fc,any_append->Ik,length_nil->Bb,take_add_one->Ce,getElem?_append_left->Bh,map_singleton->Iy,take_length->Df,append_nil->Bm,getElem?_cons_succ->Bv,getElem?_append_right->Bo,length_drop->Ga,take->Cu
open Nat renaming le_refl->Ac,zero_le->Af,min_eq_left->Da,mul_one->Cj,not_lt_zero->Eb,lt_or_ge->Az,zero_add->Aw,sub_self->Cs
open Int renaming le_refl->Cc
open Option renaming getD_some->Cz,getD->De,some->Iz,none->Ja
open Classical renaming byContradiction->Bq
open Bool renaming true->Jb,false->Jc
namespace Go.Am.Ar
open Go.Am.PV renaming ae->Zj
open Go.Am renaming jd->P1,ku->P2,kg->P3,ec->P4,bp.under->P5,gi->P6,di->P7,bu->P8,pev->P9,iy->P10,ay->P11,jq->P12,dq->P13,cG->P14,AO.effect->P15
open List renaming replicate->L1
section
variable {tab:FuncId->Option AF} (T:HasA tab){M:Mem}{K:PV->Mem->Prop}
include T
def aET{A G:Mem}{K:PV->Mem->Prop}{v B g ver k:Nat}{r:RS}{ow:List Int}(hr:OkR r)(hl:ow.length=k)(E:k<2147483647)
  (I:∀u,K (.tuple []) (A++(rdO u (r.small 255).2::(G++[.cells 0 0 [.ptr A.length 0 0],.cells 0 (B+1) [.ref (A.length+(G.length+1+1+1)) (g+1) 1 0 (k+1),.aa,.aa],.cells (g+1) 0 ((ow++[((r.small 255).1:Int)]).map (.int .u8))])))):
  ai tab 125 [.ptr (A.length+(G.length+1+1)) 0 0,.ptr (A.length+(G.length+1)) 0 0] (A++(rdO v r::(G++[.cells 0 0 [.ptr A.length 0 0],.cells 0 B [.ref (A.length+(G.length+1+1+1)) g 1 0 k,.aa,.aa],.cells g ver (ow.map (.int .u8))]))) K:=by
 have hb:∀k,(A.length==A.length+(k+1))=Jc:=fun k=>by simp
 have y:k+1<=140737488355328:=by omega
 have J:k+1<=9223372036854775807:=by omega
 refine aN T.h125 ?_;simp only[af125,PP,simprocAttr,PT,Ab,gk,gk0,sk,sk0];refine rN (lim:=255) T hr (by omega) fun u=>?_;simp only[PP,simprocAttr,PT,Ab,gk,gk0,sk,sk0,dG,bU,hb,y,J,hl];have:=I u;rw[aK _ _ (by simp[hl])];simp only[Ax,Ai,Bd]at this;exact this
def aES{A G:Mem}{K:PV->Mem->Prop}{v B g ver k E u I:Nat}{r:RS}{J:List PV}{pr:List Int}(hr:OkR r)(hl:pr.length=k)(L:k<2147483647)
  (O:∀y,K (.tuple []) (A++(rdO y r.next.2::(G++[.cells 0 0 [.ptr A.length 0 0],.cells 0 (B+1) [.ref (A.length+(G.length+1+1+1)) u 1 0 E,.ref (A.length+(G.length+1+1+1+1)) (g+1) 1 0 (k+1),.aa],.cells u I J,.cells (g+1) 0 ((pr++[((RS.next r).1:Int)]).map p64)])))):
  ai tab 126 [.ptr (A.length+(G.length+1+1)) 0 0,.ptr (A.length+(G.length+1)) 0 0] (A++(rdO v r::(G++[.cells 0 0 [.ptr A.length 0 0],.cells 0 B [.ref (A.length+(G.length+1+1+1)) u 1 0 E,.ref (A.length+(G.length+1+1+1+1)) g 1 0 k,.aa],.cells u I J,.cells g ver (pr.map p64)]))) K:=by
 have hb:∀k,(A.length==A.length+(k+1))=Jc:=fun k=>by simp
 have Q:(k+1)*8<=140737488355328:=by omega
 have R:k+1<=9223372036854775807:=by omega
 refine aN T.h126 ?_;simp only[af126,PP,simprocAttr,PT,Ab,gk,gk0,sk,sk0];refine gS T hr fun y=>?_;simp only[PP,simprocAttr,PT,Ab,gk,gk0,sk,sk0,dG,bU,hb,Q,R,hl];have:=O y;rw[aK _ _ (by simp[hl])];simp only[Ax,Ai,Bd]at this;exact this
def aER{A G:Mem}{K:PV->Mem->Prop}{v U g ver k k1 k2 B E u y:Nat}{r:RS}{J L:List PV}{su:List (List Int)}(hr:OkR r)(hl:su.length=k)(V:k<2147483647)(hA:A.all (aG (A.length+(G.length+1)))=Jb)(Y:G.all (aG (A.length+(G.length+1)))=Jb)(O:∀m,aD m J=Jb)(Q:∀m,aD m L=Jb)
  (Z:∀I,K (.tuple []) (A++(rdO I (RS.list r.next.1 r.next.2).2::(G++[.cells 0 0 [.ptr A.length 0 0],.cells 0 (U+1) [.ref (A.length+(G.length+1+1+1)) B 1 0 k1,.ref (A.length+(G.length+1+1+1+1)) E 1 0 k2,.ref (A.length+(G.length+1+1+1+1+1)) (g+1) 1 0 (k+1)],.cells B u J,.cells E y L,.cells (g+1) 0 ((su++[(RS.list r.next.1 r.next.2).1]).map (slI Jc Jb .i64))])))):
  ai tab 127 [.ptr (A.length+(G.length+1+1)) 0 0,.ptr (A.length+(G.length+1)) 0 0] (A++(rdO v r::(G++[.cells 0 0 [.ptr A.length 0 0],.cells 0 U [.ref (A.length+(G.length+1+1+1)) B 1 0 k1,.ref (A.length+(G.length+1+1+1+1)) E 1 0 k2,.ref (A.length+(G.length+1+1+1+1+1)) g 1 0 k],.cells B u J,.cells E y L,.cells g ver (su.map (slI Jc Jb .i64))]))) K:=by
 have hb:∀k,(A.length==A.length+(k+1))=Jc:=fun k=>by simp
 have b1:(k+1)*24<=140737488355328:=by omega
 have b2:k+1<=9223372036854775807:=by omega
 obtain⟨R,S⟩:=hr.next;refine aN T.h127 ?_;simp only[af127,PP,simprocAttr,PT,Ab,gk,gk0,sk,sk0];refine gS T hr fun I=>?_;simp only[PP,simprocAttr,PT,Ab,gk,gk0,sk,sk0,dG,bU,hb];refine wO T S R ?_ ?_ fun I=>?_
 ·exact bC (by simp) hA
 ·rw[Bl,bC (by simp) Y];simp[aG,aD,PV.under,aT,O,Q]
 simp only[PP,simprocAttr,PT,Ab,gk,gk0,sk,sk0,dG,bU,hb,b1,b2,hl];have:=Z I;rw[aK _ _ (by simp[hl])];simp only[Ax,Ai,Bd]at this;exact this
def aBP{A G:Mem}{K:PV->Mem->Prop}{v:Nat}{r:RS}(hr:OkR r)(hA:A.all (aG (A.length+(G.length+1)))=Jb)(hG:G.all (aG (A.length+(G.length+1)))=Jb)
  (hk:∀E vn,K (.func (.func 128) [] [.ptr (A.length+(G.length+1+1)) 0 0]) (A++(rdO E r.dp.2::(G++[.cells 0 0 [.ptr A.length 0 0],.cells 0 vn [slI Jc Jb .u8 r.dp.1.1,slI Jc Jb .i64 r.dp.1.2.1,slR Jc Jb Jc Jb .i64 r.dp.1.2.2],.gone,.gone,.gone])))):ai tab 73 [.ptr A.length 0 0] (A++(rdO v r::G)) K:=by
 have hb:∀k,(A.length==A.length+(k+1))=Jc:=fun k=>by simp
 refine cN (cA T.h73 ?_);simp only[af73];refine aA (aB ?_);simp only[PP,simprocAttr,PT,Ab];refine aA (aB ?_);simp only[PP,simprocAttr,PT,Ab,gk,gk0,sk,sk0];refine aA (aB ?_);simp only[PP,simprocAttr,PT,Ab,gk,gk0,sk,sk0];refine gS T hr fun E=>?_;simp only[PP,simprocAttr,PT,Ab,gk,gk0,sk,sk0];obtain⟨a3,U⟩:=hr.next;refine aU (GStep.dy (A.length+(G.length+1+1)) 0 1 (by rw[gk];simp only[PP,simprocAttr];rw[gk];rfl) rfl (by simp only[PP,simprocAttr,Ab,sk,sk0];rfl)) ?_;refine aA (aB ?_);simp only[PP,simprocAttr,PT,Ab,gk,gk0,sk,sk0];refine qM T (f:=fun I r=>(I++[((RS.small 255 r).1:Int)],(RS.small 255 r).2)) (s:=([]:List Int)) (fun k ow J=>∃u g ver,J=G++[.cells 0 0 [.ptr A.length 0 0],.cells 0 u [.ref (A.length+(G.length+1+1+1)) g 1 0 k,.aa,.aa],.cells g ver (ow.map (.int .u8))]/\ow.length=k) U ?_ (fun s r h=>h.small 255) ⟨0,0,0,by simp only[PP,simprocAttr],rfl⟩ a3 ?_
 ·rintro k nx r' v J V ⟨u,g,ver,rfl,hl⟩ L _ K' O;refine aET T L hl (by omega) fun E=>?_;exact O E _ ⟨u+1,g+1,0,rfl,by simp[hl]⟩
 ·rintro k E J V ⟨u,g,ver,rfl,hl⟩ a4;simp only[PP,simprocAttr,PT,Ab,gk,gk0,sk,sk0];refine aU (GStep.dy (A.length+(G.length+1+1)) 1 1 (by rw[gk];simp only[PP,simprocAttr];rw[gk];rfl) rfl (by simp only[PP,simprocAttr,Ab,sk,sk0];rfl)) ?_;refine aA (aB ?_);simp only[PP,simprocAttr,PT,Ab,gk,gk0,sk,sk0];refine qM T (f:=fun I r=>(I++[((RS.next r).1:Int)],(RS.next r).2)) (s:=([]:List Int)) (fun k2 pr J=>∃u S y,J=G++[.cells 0 0 [.ptr A.length 0 0],.cells 0 u [.ref (A.length+(G.length+1+1+1)) g 1 0 k,.ref (A.length+(G.length+1+1+1+1)) S 1 0 k2,.aa],.cells g ver (r.dp.1.1.map (.int .u8)),.cells S y (pr.map p64)]/\pr.length=k2) U ?_ (fun s r h=>h.next.1) ⟨u,0,0,by simp only[PP,simprocAttr];rfl,rfl⟩ a4 ?_
  ·rintro k2 fi r' v J V ⟨u,S,y,rfl,R⟩ L _ K' O;refine aES T L R (by omega) fun E=>?_;exact O E _ ⟨u+1,S+1,0,rfl,by simp[R]⟩
  ·rintro k2 E J a7 ⟨u,S,y,rfl,R⟩ a5;simp only[PP,simprocAttr,PT,Ab,gk,gk0,sk,sk0];refine aU (GStep.dy (A.length+(G.length+1+1)) 2 1 (by rw[gk];simp only[PP,simprocAttr];rw[gk];rfl) rfl (by simp only[PP,simprocAttr,Ab,sk,sk0];rfl)) ?_;refine aA (aB ?_);simp only[PP,simprocAttr,PT,Ab,gk,gk0,sk,sk0];refine qM T (f:=fun I r=>(I++[(RS.list (RS.next r).1 (RS.next r).2).1],(RS.list (RS.next r).1 (RS.next r).2).2)) (s:=([]:List (List Int))) (fun Y su J=>∃u Z Q,J=G++[.cells 0 0 [.ptr A.length 0 0],.cells 0 u [.ref (A.length+(G.length+1+1+1)) g 1 0 k,.ref (A.length+(G.length+1+1+1+1)) S 1 0 k2,.ref (A.length+(G.length+1+1+1+1+1)) Z 1 0 Y],.cells g ver (r.dp.1.1.map (.int .u8)),.cells S y (r.dp.1.2.1.map p64),.cells Z Q (su.map (slI Jc Jb .i64))]/\su.length=Y) U ?_ (fun s r h=>h.next.1.list _) ⟨u,0,0,by simp only[PP,simprocAttr];rfl,rfl⟩ a5 ?_
   ·rintro Y su r' v J V ⟨u,Z,Q,rfl,B⟩ L _ K' O;refine aER T L B (by omega) hA hG (fun m=>aL _ _ _) (fun m=>aL _ _ _) fun E=>?_;exact O E _ ⟨u+1,Z+1,0,rfl,by simp[B]⟩
   ·rintro Y E J a9 ⟨u,Z,Q,rfl,B⟩ b0;have a0:r.dp.1.1.length=k:=hl;have a1:r.dp.1.2.1.length=k2:=R;have a6:r.dp.1.2.2.length=Y:=B;simp only[PP,simprocAttr,PT,Ab,gk,gk0,sk,sk0];refine aB ?_;simp only[PP,simprocAttr,PT];refine Gh.step (GStep.ft (b:=[.func (.func 128) [] [.ptr (A.length+(G.length+1+1)) 0 0]]) (cj2:=[slI Jc Jb .u8 r.dp.1.1,.ref (A.length+(G.length+1+1+1+1)) S 1 0 k2,.ref (A.length+(G.length+1+1+1+1+1)) Z 1 0 Y]) (A.length+(G.length+1+1+1)) (A.length+(G.length+1+1)) (by omega) (by rw[gk];simp only[PP,simprocAttr];rw[gk];rfl) (by rw[gk];simp only[PP,simprocAttr];rw[gk];rfl) (by omega) (by simp only[gE,gF,Ak,An,bJ,cI]) ?_ rfl) ?_
    ·rw[fW (by simp[a0]) (by rw[aK _ _ (by simp[a0])];simp only[slI,a0]),bJ,bJ,cI];trivial
    simp only[PP,simprocAttr,Ab,gk,gk0,sk,sk0];refine Gh.step (GStep.ft (b:=[.func (.func 128) [] [.ptr (A.length+(G.length+1+1)) 0 0]]) (cj2:=[slI Jc Jb .u8 r.dp.1.1,slI Jc Jb .i64 r.dp.1.2.1,.ref (A.length+(G.length+1+1+1+1+1)) Z 1 0 Y]) (A.length+(G.length+1+1+1+1)) (A.length+(G.length+1+1)) (by omega) (by rw[gk];simp only[PP,simprocAttr];rw[gk];rfl) (by rw[gk];simp only[PP,simprocAttr];rw[gk];rfl) (by omega) (by simp only[gE,gF,Ak,An,bJ,cI]) ?_ rfl) ?_
    ·simp only[gE,gF,Ak,An,bJ];rw[fW (by simp[a1]) (by rw[aK _ _ (by simp[a1])];simp only[slI,a1]),bJ,cI];trivial
    simp only[PP,simprocAttr,Ab,gk,gk0,sk,sk0];refine Gh.step (GStep.ft (b:=[.func (.func 128) [] [.ptr (A.length+(G.length+1+1)) 0 0]]) (cj2:=[slI Jc Jb .u8 r.dp.1.1,slI Jc Jb .i64 r.dp.1.2.1,slR Jc Jb Jc Jb .i64 r.dp.1.2.2]) (A.length+(G.length+1+1+1+1+1)) (A.length+(G.length+1+1)) (by omega) (by rw[gk];simp only[PP,simprocAttr];rw[gk];rfl) (by rw[gk];simp only[PP,simprocAttr];rw[gk];rfl) (by omega) (by simp only[gE,gF,Ak,An,bJ,cI]) ?_ rfl) ?_
    ·simp only[gE,gF,Ak,An,bJ];rw[fW (by simp[B]) (by rw[aK _ _ (by simp[B])];simp only[slR,a6];rfl),cI];trivial
    simp only[PP,simprocAttr,Ab,gk,gk0,sk,sk0];exact Gh.same ⟨_,rfl,hk E u⟩
end
def rdF(k:List UInt8):FuncId:=if k=kwD then 71 else if k=kwM then 72 else 73
abbrev bsV(l:List (List UInt8)):List PV:=l.map fun w=>PV.str ⟨w.toArray⟩
def yW(w:List UInt8):Bool:=(kE w).isSome
def jr:∀{ws:List (List UInt8)},(∃y,gB ws=Iz y)↔∀w∈ws,yW w=Jb
 | []=>⟨fun _ w h=>(by cases h),fun _=>⟨[],rfl⟩⟩
 | w::ws=>by
  have B:=jr (ws:=ws);unfold gB;constructor
  ·rintro⟨y,h⟩ x u;split at h
   ·rename_i n E h1 h2;rcases List.mem_cons.1 u with rfl | u
    ·unfold yW;rw[h1];rfl
    ·exact B.1 ⟨E,h2⟩ x u
   ·cases h
  ·intro h;obtain⟨E,hm⟩:=B.2 fun x u=>h x (by simp[u]);have h1:=h w (by simp);unfold yW at h1
   cases hw:kE w with
   | none=>rw[hw]at h1;cases h1
   | some n=>rw[hm];exact⟨_,rfl⟩
section
variable {tab:FuncId->Option AF} (T:HasA tab){M:Mem}{K:PV->Mem->Prop}
include T
def aE7{w:List UInt8}(hm:w.length<=100000000)(u:K (.bool (!yW w)) M):ai tab 75 [.str ⟨w.toArray⟩] M K:=by
 refine aN T.h75 ?_;simp only[af75,PP,simprocAttr];refine aAo T (by simpa [ByteArray.size]using hm) ?_;simp only[PP,simprocAttr];have e:(kE (⟨w.toArray⟩:ByteArray).data.toList).isSome=yW w:=by simp[yW]
 rw[e];exact u
def aEO{f o:Bool}{u:List (List UInt8)}(hm:∀w∈u,w.length<=100000000)(hl:u.length<1000000000)(J:∀r:Int,(0<=r↔∃w∈u,yW w=Jc)->K (p64 r) M):ai tab 129 [.sl f o 1 u.length (bsV u),.func (.func 75) [] []] M K:=by
 refine aN T.h129 ?_;simp only[af129,PP,simprocAttr,PT];refine cM (fun(k:Nat)=>k<=u.length/\∀w∈u.take k,yW w=Jb) (fun k=>(.sl f o 1 u.length (bsV u):: .func (.func 75) [] []::zj 5++p64 u.length::p64 k::zj 10)) (fun _=>M) (fun k=>u.length-k) 0 ⟨by omega,by simp⟩ ?_;intro k ⟨Q,E⟩ R;refine aH (by kernel_rfl) ?_;simp only[PP,simprocAttr];refine QIf.intro (fun c=>?_) fun c=>?_;rotate_left
 ·have G:k=u.length:=by omega
  subst G;rw[Ba (Ac _)]at E;simp only[PP,simprocAttr,c];exact J _ ⟨fun h=>absurd h (by omega),fun⟨w,h1,h2⟩=>by rw[E w h1]at h2;cases h2⟩
 have hlt:k<u.length:=by omega
 have hw:=aC (k:=k) (by show _<1000000000000;omega);have L:(0:Int)<=k:=by omega
 obtain⟨w,I⟩:=aM hlt;have B:=Ae I;simp only[PP,simprocAttr,PT,c,L,I];refine aE7 T (hm w B) ?_
 cases O:yW w with
 | false=>simp only[PP,simprocAttr,PT];exact J _ ⟨fun _=>⟨w,B,O⟩,fun _=>L⟩
 | true=>
  simp only[PP,simprocAttr,PT,hw];refine aE (R (k+1) ⟨by omega,fun x y=>?_⟩ (by omega));rw[bV I]at y;rcases List.mem_append.1 y with y | y
  ·exact E x y
  ·rw[List.mem_singleton]at y;subst y;exact O
def aCS{f o:Bool}{u:List (List UInt8)}(hm:∀w∈u,w.length<=100000000)(hl:u.length<1000000000)(y:∀b:Bool,(b=Jb↔∃w∈u,yW w=Jc)->K (.bool b) M):ai tab 74 [.sl f o 1 u.length (bsV u),.func (.func 75) [] []] M K:=by refine aN T.h74 ?_;simp only[af74,PP,simprocAttr,PT];refine aEO T hm hl fun r hr=>?_;simp only[PP,simprocAttr,PT];exact y _ (by rw[decide_eq_true_eq];exact hr)
def aBR{A G:Mem}{K:PV->Mem->Prop}{v:Nat}{r:RS}{k:List UInt8}(hr:OkR r)(hA:A.all (aG (A.length+(G.length+1)))=Jb)(I:G.all (aG (A.length+(G.length+1)))=Jb)
  (u:∀y q B Y,(A++(rdO y (bx k r).2::(G++Y)))[q]? =Iz (.cells 0 B (bx k r).1.oc)->(∀n,A.length<n->Y.all (aG n)=Jb)->K (.func (.func (bx k r).1.bg) [] [.ptr q 0 0]) (A++(rdO y (bx k r).2::(G++Y)))):ai tab (rdF k) [.ptr A.length 0 0] (A++(rdO v r::G)) K:=by
 unfold rdF;unfold bx at u;split
 ·rename_i c;rw[if_pos c]at u;refine aEn T hr hA I fun y B=>?_;refine u y _ B _ ?_ fun n E=>by simp[aG,aD,PV.under,aL,bS,E]
  rw[gk];simp only[PP,simprocAttr];rw[gk];rfl
 ·rename_i c;rw[if_neg c]at u;split
  ·rename_i J;rw[if_pos J]at u;refine aEu T hr hA I fun y B=>?_;refine u y _ B _ ?_ fun n E=>by simp[aG,aD,PV.under,aT,bF,E]
   rw[gk];simp only[PP,simprocAttr];rw[gk];rfl
  ·rename_i J;rw[if_neg J]at u;refine aBP T hr hA I fun y B=>?_;refine u y _ B _ ?_ fun n E=>by simp[aG,aD,PV.under,aT,aL,E]
   rw[gk];simp only[PP,simprocAttr];rw[gk];rfl
end
structure LoadK (tab:FuncId->Option AF) (t:List UInt8) (M:Mem) (K:PV->Mem->Prop):Prop where
 err:∀e,bI t= .err e->K (.tuple [.al,p64 e]) M
 bad:∀i u,bI t= .ok i u->i.chk≠0->K (.tuple [.al,p64 i.chk]) M
 few:∀i u,bI t= .ok i u->i.chk=0->∀m,m<u->(i.done m\/i.fh m)->(∀j,j<m->¬i.done j/\¬i.fh j)->K (.tuple [.al,p64 1]) M
 ok:∀i u,bI t= .ok i u->i.chk=0->(∀j,j<u->¬i.done j/\¬i.fh j)->∀jid b L StF A0 M0,pn tab jid b L i StF->A0.length=b->A0.all (aG b)=Jb->StF A0 u M0->(∃X,A0=M++X)->K (.tuple [.ptr jid 0 0,p64 0]) M0
def jX{M X:Mem}{K:PV->Mem->Prop}{e:Int}(y:M.all (aG M.length)=Jb)(h:K (.tuple [.al,p64 e]) M):Gh M.length (fun a N=>∃u,a=[u]/\K u N) [.tuple [.al,p64 e]] (M++X):=by refine Gh.step (GStep.fx (b:=[.tuple [.al,p64 e]]) (N:=M) M.length (Ac _) (by simp) (by simp only[PW]) (by simp[aD,PV.under]) ?_ (Au rfl)) (Gh.same ⟨_,rfl,h⟩);exact(congrArg (fun N:Mem=>N.all (aG M.length)) (Au rfl)).trans y
def xX(c:UInt8):∀l:List UInt8,(bP c l).length<=l.length+1/\∀w∈bP c l,w.length<=l.length
 | []=>⟨by simp[bP],fun w hw=>by simp[bP]at hw;subst hw;simp⟩
 | b::l=>by
  obtain⟨h1,h2⟩:=xX c l;unfold bP;split
  ·exact⟨by simp;omega,fun w hw=>by
    rcases List.mem_cons.1 hw with rfl | hw
    ·simp
    ·have:=h2 w hw;simp;omega⟩
  ·revert h1 h2
   match bP c l with
   | []=>exact fun h1 h2=>⟨by simp[oR],fun w hw=>by simp[oR]at hw;subst hw;simp⟩
   | x::r=>exact fun h1 h2=>⟨by simp[oR]at h1 ⊢;omega,fun w hw=>by
     rcases List.mem_cons.1 hw with rfl | hw
     ·have:=h2 x (by simp);simp;exact this
     ·have:=h2 w (by simp[hw]);simp;omega⟩
section
variable {tab:FuncId->Option AF} (T:HasA tab){M:Mem}{K:PV->Mem->Prop}
include T
def Y3{s:ByteArray}(hs:s.size<=100000000)(b0:∀i u,bI s.data.toList= .ok i u->i.Bw/\(i.chk=0->i.B99)/\i.Pos)(O:M.all (aG M.length)=Jb)(h:LoadK tab s.data.toList M K):ai tab 27 [.str s] M K:=by
 have c7:s.data.toList.length=s.size:=rfl;obtain⟨w,E,hsp⟩:∃w E,bP 32 s.data.toList=w::E:=by
  have:=s9 32 s.data.toList;revert this
  match bP 32 s.data.toList with
  | []=>exact fun h=>absurd rfl h
  | w::E=>exact fun _=>⟨w,E,rfl⟩
 obtain⟨a3,a4⟩:=xX 32 s.data.toList;rw[hsp]at a3 a4;have B:bI s.data.toList=if w=kwD\/w=kwM\/w=kwP then match gB E with | none=> .err 2 | some S=>kH w S else .err 6:=by unfold bI;rw[hsp];rfl
 have h1:(1:Int)<=((E.length+1:Nat):Int):=by omega
 have h0:(0:Int)<((E.length+1:Nat):Int):=by omega
 have e1:(((E.length+1:Nat):Int)-1).toNat=E.length:=by omega
 have e2:aZ (bsV E) 0 E.length=bsV E:=aK _ _ (by simp);have m2:∀x,cZ 2 (.str ⟨#[109,105,110,105,109,105,122,101]⟩) [(.str ⟨#[100,101,116,101,114,109,105,110,105,122,101]⟩,x)]=Iz Ja:=fun x=>rfl;have m3:∀x y,cZ 2 (.str ⟨#[109,101,97,115,117,114,101,115]⟩) [(.str ⟨#[100,101,116,101,114,109,105,110,105,122,101]⟩,x),(.str ⟨#[109,105,110,105,109,105,122,101]⟩,y)]=Iz Ja:=fun x y=>rfl;have p2:∀x y,fZ 2 (.str ⟨#[109,105,110,105,109,105,122,101]⟩) (.str ⟨#[109,105,110,105,109,105,122,101]⟩) y [(.str ⟨#[100,101,116,101,114,109,105,110,105,122,101]⟩,x)]=[(.str ⟨#[100,101,116,101,114,109,105,110,105,122,101]⟩,x),(.str ⟨#[109,105,110,105,109,105,122,101]⟩,y)]:=fun x y=>rfl;have p3:∀x y z,fZ 2 (.str ⟨#[109,101,97,115,117,114,101,115]⟩) (.str ⟨#[109,101,97,115,117,114,101,115]⟩) z [(.str ⟨#[100,101,116,101,114,109,105,110,105,122,101]⟩,x),(.str ⟨#[109,105,110,105,109,105,122,101]⟩,y)]=[(.str ⟨#[100,101,116,101,114,109,105,110,105,122,101]⟩,x),(.str ⟨#[109,105,110,105,109,105,122,101]⟩,y),(.str ⟨#[109,101,97,115,117,114,101,115]⟩,z)]:=fun x y z=>rfl;have m4:∀x y z,cZ 2 (.str ⟨w.toArray⟩) [(.str ⟨#[100,101,116,101,114,109,105,110,105,122,101]⟩,x),(.str ⟨#[109,105,110,105,109,105,122,101]⟩,y),(.str ⟨#[109,101,97,115,117,114,101,115]⟩,z)]=Iz (if w=kwD then Iz x else if w=kwM then Iz y else if w=kwP then Iz z else Ja):=fun x y z=>by
  have:=yA ⟨w.toArray⟩ [(⟨kwD.toArray⟩,x),(⟨kwM.toArray⟩,y),(⟨kwP.toArray⟩,z)];refine this.trans ?_;have eq:∀k:List UInt8,((⟨w.toArray⟩:ByteArray)=⟨k.toArray⟩)↔w=k:=fun k=>mc;simp only[rJ,eq]
 refine cN (cA T.h27 ?_);simp only[af27];refine aA (aB ?_);simp only[PP,simprocAttr,PT];refine aA (aB ?_);simp only[PP,simprocAttr,PT];refine WU T (c:=32) (by omega) ?_;rw[hsp];simp only[PP,simprocAttr,PT];refine aA (aB ?_);simp only[PP,simprocAttr,PT,h1,h0,e1,e2];refine⟨Cc _,?_⟩;refine aA (aB ?_);simp only[PP,simprocAttr,PT,PI,Ab,gk,gk0,sk,sk0,m2,m3,m4,p2,p3,h0];by_cases I:w=kwD\/w=kwM\/w=kwP;rotate_left
 ·rw[if_neg (fun q=>I (.inl q)),if_neg (fun q=>I (.inr (.inl q))),if_neg fun q=>I (.inr (.inr q))];simp only[PP,simprocAttr,PT];refine aA (aB ?_);simp only[PP,simprocAttr,PT];exact jX O (h.err 6 (by rw[B,if_neg I]))
 rw[if_pos I]at B;have b1:(if w=kwD then Iz (PV.func (Fn.func 71) [.ptr M.length 0 0] [])else if w=kwM then Iz (PV.func (Fn.func 72) [.ptr M.length 0 0] [])else if w=kwP then Iz (PV.func (Fn.func 73) [.ptr M.length 0 0] [])else Ja)=Iz (PV.func (Fn.func (rdF w)) [.ptr M.length 0 0] []):=by
  unfold rdF;have d1:kwM≠kwD:=by decide
  have d2:kwP≠kwD:=by decide
  have d3:kwP≠kwM:=by decide
  rcases I with rfl | rfl | rfl
  ·rw[if_pos rfl,if_pos rfl]
  ·rw[if_neg d1,if_pos rfl,if_neg d1,if_pos rfl]
  ·rw[if_neg d2,if_neg d3,if_pos rfl,if_neg d2,if_neg d3]
 rw[b1];simp only[PP,simprocAttr,PT];refine aA (aB ?_);simp only[PP,simprocAttr,PT,gk0,sk0];refine aCS T (fun x hx=>by have:=a4 x (by simp[hx]);omega) (by simp at a3;omega) fun b hb=>?_
 cases b with
 | true=>
  simp only[PP,simprocAttr,PT];obtain⟨x,b2,V⟩:=hb.1 rfl;refine jX O (h.err 2 ?_)
  cases hn:gB E with
  | none=>rw[B,hn]
  | some S=>have:=jr.1 ⟨S,hn⟩ x b2;rw[V]at this;cases this
 | false=>
  obtain⟨S,hn⟩:=jr.2 fun x hx=>by
   cases V:yW x with
   | true=>rfl
   | false=>exact absurd (hb.2 ⟨x,hx,V⟩) (by simp)
  rw[hn]at B;obtain⟨b3,b4⟩:=eg.1 hn;have a0:bp.cells 0 0 [.sl Jb Jb 1 E.length (bsV E),p64 0,p64 0]=rdO 0 ⟨S,0,0⟩:=by subst b3;simp[bsV,v8]
  have hr:OkR ⟨S,0,0⟩:=b4;simp only[PP,simprocAttr,PT];rw[a0];refine aE (b:=(zj 5++ .ptr M.length 0 0:: .func (.func (rdF w)) [.ptr M.length 0 0] []::zj 98)) ?_;have b5:∀n,M.length<n->[bp.map 3 [(.str ⟨#[100,101,116,101,114,109,105,110,105,122,101]⟩,.func (Fn.func 71) [.ptr M.length 0 0] []),(.str ⟨#[109,105,110,105,109,105,122,101]⟩,.func (Fn.func 72) [.ptr M.length 0 0] []),(.str ⟨#[109,101,97,115,117,114,101,115]⟩,.func (Fn.func 73) [.ptr M.length 0 0] [])]].all (aG n)=Jb:=fun n hn=>by simp[aG,xI,aD,PV.under,hn]
  generalize c8:[bp.map 3 [(.str ⟨#[100,101,116,101,114,109,105,110,105,122,101]⟩,.func (Fn.func 71) [.ptr M.length 0 0] []),(.str ⟨#[109,105,110,105,109,105,122,101]⟩,.func (Fn.func 72) [.ptr M.length 0 0] []),(.str ⟨#[109,101,97,115,117,114,101,115]⟩,.func (Fn.func 73) [.ptr M.length 0 0] [])]]=G at*;refine aA (aB ?_);simp only[PP,simprocAttr];refine gS T (A:=M) (G:=G) hr fun v'=>?_;simp only[PP,simprocAttr];refine aA (aB ?_);simp only[PP,simprocAttr];refine aA (aB ?_);simp only[PP,simprocAttr,PT,gk0,sk0];obtain⟨a5,hu⟩:=hr.next;have B:bI s.data.toList=kH w S:=B;unfold kH at B;generalize RS.next ⟨S,0,0⟩=p at*;obtain⟨u0,R⟩:=p;simp only at B a5 hu ⊢;have a6:∀n,M.length<n->G.all (aG n)=Jb:=b5;refine QIf.intro (fun c=>?_) fun c=>?_;rotate_left
  ·simp only[PP,simprocAttr,c];refine aA (aB ?_);simp only[PP,simprocAttr,PT,gk0,sk0,c];exact jX O (h.err _ (by rw[B,if_pos c]))
  rw[if_neg (Classical.not_not.2 c)]at B;simp only[PP,simprocAttr];refine aBR T a5 (bC (by omega) O) (a6 _ (by omega)) fun v' q vn Y hq hY=>?_;generalize bx w R=p at*;obtain⟨i,R2⟩:=p;simp only at B hq ⊢;simp only[PP,simprocAttr];refine aA (aB ?_);simp only[PP,simprocAttr,PT,gk0,sk0];refine QIf.intro (fun c2=>?_) fun c2=>?_;rotate_left
  ·simp only[PP,simprocAttr,PT,gk0,sk0,c2];exact jX O (h.err _ (by rw[B,if_pos c2]))
  rw[if_neg (Classical.not_not.2 c2)]at B;simp only[PP,simprocAttr,PT,gk0,sk0,c2];refine QIf.intro (fun c3=>?_) fun c3=>?_
  ·simp only[PP,simprocAttr,PT,gk0,sk0,c3];exact jX O (h.err _ (by rw[B,if_pos (fun q=>by rw[q]at c3;simp at c3)]))
  have b6:R2.l=[]:=List.length_eq_zero_iff.1 (by omega);rw[if_neg (Classical.not_not.2 b6)]at B;simp only[PP,simprocAttr,PT,gk0,sk0,c3];refine QIf.intro (fun c4=>?_) fun c4=>?_;rotate_left
  ·simp only[PP,simprocAttr,PT,gk0,sk0,c4];exact jX O (h.err _ (by rw[B,if_pos c4]))
  rw[if_neg (Classical.not_not.2 c4)]at B;simp only[PP,simprocAttr,PT,gk0,sk0,c4];obtain⟨b7,b8,a1⟩:=b0 i u0 B;have a2:(M++rdO v' R2::(G++Y)).all (aG (M++rdO v' R2::(G++Y)).length)=Jb:=by
   have hlen:M.length<(M++rdO v' R2::(G++Y)).length:=by simp
   rw[Bl,bC (by simp) O,Cb,zY,Bl,a6 _ hlen,hY _ hlen];rfl
  refine aA (aB ?_);simp only[PP,simprocAttr];refine aGg T b7 b8 a1 hq a2 ⟨fun hc=>?_,fun hc c0 b L StF A0 M0 J a7 a9 hS hX=>?_⟩
  ·simp only[PP,simprocAttr];refine aA (aB ?_);simp only[PP,simprocAttr,hc];exact jX O (h.bad i u0 B hc)
  ·simp only[PP,simprocAttr];refine aA (aB ?_);simp only[PP,simprocAttr];refine aA (aB ?_);simp only[PP,simprocAttr];have JX:=J.X A0 a7 a9;obtain⟨X,hX⟩:=hX;have U:∀m Q,StF A0 m Q->∃Z,Q=M++Z:=fun m Q hS=>by obtain⟨Z,hZ⟩:=J.pre A0 m Q hS;exact⟨rdO v' R2::(G++Y)++(X++Z),by rw[hZ,hX];simp⟩
   refine JX.step0 hS (by omega) (by omega) (fun m Q bb p1 p2 p3 p4 p5 p6=>?_) fun m Q p1 p2 p3 p4 p5=>?_
   ·obtain⟨vj,wj,c6,gj⟩:=JX.job m Q p6;simp only[PP,simprocAttr,gj];refine QIf.intro (fun c5=>?_) fun c5=>?_
    ·simp only[PP,simprocAttr,c5];obtain⟨Z,rfl⟩:=U m Q p6;have c1:bb=Jb:=by
      cases bb with
      | true=>rfl
      | false=>have:=p4 rfl;omega
     exact jX O (h.few i u0 B hc m (by omega) (.inl (p3.1 c1)) fun j hj=>p5 j (Af _) hj)
    ·simp only[PP,simprocAttr,c5];refine aB ?_;simp only[PP,simprocAttr];have hm:m=u0:=by omega
     subst hm;refine Gh.same ⟨_,rfl,h.ok i m B hc (fun j hj=>p5 j (Af _) hj) c0 b L StF A0 Q J a7 a9 p6 ⟨rdO v' R2::(G++Y)++X,by rw[hX];simp⟩⟩
   ·simp only[PP,simprocAttr];obtain⟨Z,rfl⟩:=U m Q p5;exact jX O (h.few i u0 B hc m (by omega) (.inr p4) fun j hj=>p3 j (Af _) hj)
end
section
variable {tab:FuncId->Option AF} {i:In} {jid b L:Nat} {StF:Mem->Nat->Mem->Prop} {m:Nat} {Mm:Mem}
variable (T:HasA tab)
include T
end
section
variable {tab:FuncId->Option AF} (T:HasA tab){M:Mem}{K:PV->Mem->Prop}
include T
end
section
variable {N:NF} {rs0 rs:List (List Bool)} {ch:Bool} {done done':Nat->Nat->Prop} {p q:Nat}
end
section
variable {tab:FuncId->Option AF} (T:HasA tab){M:Mem}{K:PV->Mem->Prop}
include T
omit T in
def D6(id g:Nat)(cs:List PV):∀a:List PV,jm id g cs a a
 | []=>trivial
 | _::a=>⟨.inr (.inl rfl),D6 id g cs a⟩
omit T in
def K6{id g:Nat}{cs:List PV}{α:Type}{f y:α->PV} :∀l:List α,(∀u∈l,f u=y u\/∃sz off n,f u= .ref id g sz off n/\off+n*sz<=cs.length/\y u= .sl Jc Jb sz n (aZ cs off (n*sz)))->jm id g cs (l.map f) (l.map y)
 | [],_=>trivial
 | x::l,h=>⟨.inr (h x (by simp)),K6 l fun u B=>h u (by simp[B])⟩
end
def rwN(D:DF)(s:Nat):List Int:=(D.nx[s]?).getD []
def nxA(D:DF)(s x:Nat):Nat:=((rwN D s).getD x 0).toNat
def dfN(D:DF):Nat->Nat->Nat->Bool
 | 0,s,t=> !decide (D.fi.getD s Jc=D.fi.getD t Jc)
 | k+1,s,t=>dfN D k s t||(Av (rwN D s).length).any fun x=>dfN D k (nxA D s x) (nxA D t x)
def aEH{a b:Bool}(h:a=Jb↔¬b=Jb):a= !b:=by cases a<;>cases b<;>simp_all
def NJ{D:DF}(C:OkD D):∀(k:Nat) {s t:Nat},s<D.nx.length->t<D.nx.length->dfN D k s t= !decide ((aW D k).getD s 0=(aW D k).getD t 0)
 | 0,s,t,hs,ht=>by unfold dfN aW;rw[FX hs,FX ht];congr 1;rw[decide_eq_decide];generalize D.fi.getD s Jc=a;generalize D.fi.getD t Jc=b;generalize D.fi.getD 0 Jc=c;cases a<;>cases b<;>cases c<;>decide
 | k+1,s,t,hs,ht=>by
  obtain⟨B,E⟩:∃r,D.nx[s]? =Iz r:=⟨_,Ad hs⟩;obtain⟨G,J⟩:∃r,D.nx[t]? =Iz r:=⟨_,Ad ht⟩;have Q:=C.r B (Ae E);have R:=C.r G (Ae J);have hl:B.length=G.length:=by have:=Q.1;have:=R.1;omega
  have S:rwN D s=B:=by unfold rwN;rw[E];rfl
  have Y:rwN D t=G:=by unfold rwN;rw[J];rfl
  have lt:∀(r:List Int) x,x<r.length->(∀y∈r,0<=y/\y<D.nx.length)->(r.getD x 0).toNat<D.nx.length:=fun r x u h=>by have:=h (r.getD x 0) (by rw[At,Ad u];exact List.getElem_mem u);omega
  unfold dfN;rw[NJ C k hs ht,S];refine aEH ?_;rw[decide_eq_true_eq];have T:=tH (nx:=D.nx) (c:=aW D k) hs;have U:=tH (nx:=D.nx) (c:=aW D k) ht;have K:(aW D (k+1)).getD s 0=(aW D (k+1)).getD t 0↔bY D.nx (aW D k) s=bY D.nx (aW D k) t:=by
   constructor
   ·intro h;have h:(rfN D.nx (aW D k)).getD s 0=(rfN D.nx (aW D k)).getD t 0:=h;rw[T,U]at h;have Z:bY D.nx (aW D k) s∈fv (bY D.nx (aW D k)) D.nx.length:=(fH _ _ _).2 ⟨s,hs,rfl⟩;have m2:bY D.nx (aW D k) t∈fv (bY D.nx (aW D k)) D.nx.length:=(fH _ _ _).2 ⟨t,ht,rfl⟩;have E:=j7 Z;have J:=j7 m2;have e:ixF (fv (bY D.nx (aW D k)) D.nx.length) (bY D.nx (aW D k) s)=ixF (fv (bY D.nx (aW D k)) D.nx.length) (bY D.nx (aW D k) t):=by omega
    rw[e,J]at E;exact(Option.some.inj E).symm
   ·intro h;show(rfN D.nx (aW D k)).getD s 0=(rfN D.nx (aW D k)).getD t 0;rw[T,U,h]
  rw[K];unfold bY;rw[E,J];simp only[Cz,List.cons.injEq,Bool.or_eq_true,List.any_eq_true,List.mem_range,Bool.not_eq_true',decide_eq_false_iff_not];have u:∀x,x<B.length->(dfN D k (nxA D s x) (nxA D t x)=Jb↔¬(aW D k).getD (B.getD x 0).toNat 0=(aW D k).getD (G.getD x 0).toNat 0):=fun x u=>by unfold nxA;rw[S,Y,NJ C k (lt B x u Q.2) (lt G x (by omega) R.2)];simp
  constructor
  ·rintro(h | ⟨x,L,O⟩) ⟨I,M⟩
   ·exact h I
   ·refine(u x L).1 O ?_;have:=congrArg (fun l:List Int=>l.getD x 0) M;simp only[At,Ap,Ad L,Ad (show x<G.length by omega),Option.map_some,Cz]at this ⊢;exact this
  ·intro h;refine Bq fun V=>h ⟨?_,?_⟩
   ·exact Classical.not_not.1 fun q=>V (.inl q)
   ·refine List.ext_getElem (by simp[hl]) fun x I M=>?_;simp only[Al]at I M;have:¬dfN D k (nxA D s x) (nxA D t x)=Jb:=fun q=>V (.inr ⟨x,I,q⟩);rw[u x I]at this;have:=Classical.not_not.1 this;simp only[At,Ad I,Ad M,Cz]at this;simpa [At]using this
def ZV{α:Type} [DecidableEq α](f:Nat->α)(n:Nat):∀d,∃r,fv f (n+d)=fv f n++r
 | 0=>⟨[],by simp⟩
 | d+1=>by
  obtain⟨r,h⟩:=ZV f n d;show ∃r,cR (fv f (n+d)) (f (n+d))=_;unfold cR;split
  ·exact⟨r,h⟩
  ·exact⟨r++[f (n+d)],by rw[h,Ab]⟩
def tR(c:List Int)(s:Nat):Nat:=(fv (fun y=>c.getD y 0) s).length
def aCo{c:List Int}{s t:Nat}(ht:t<s)(h:c.getD t 0=c.getD s 0):tR c (s+1)=tR c s:=by unfold tR;show(cR _ _).length=_;rw[oT,if_pos ((fH _ _ _).2 ⟨t,ht,h.symm⟩)]
def aCp{c:List Int}{s n:Nat}(B:K8 n c)(hs:s<n)(h:∀t,t<s->¬c.getD t 0=c.getD s 0):c.getD s 0=tR c s/\tR c (s+1)=tR c s+1:=by
 have hm:c.getD s 0∉fv (fun y=>c.getD y 0) s:=fun q=>by obtain⟨t,ht,e⟩:=(fH _ _ _).1 q;exact h t ht e.symm
 have u:fv (fun y=>c.getD y 0) (s+1)=fv (fun y=>c.getD y 0) s++[c.getD s 0]:=by show cR _ _=_;unfold cR;rw[if_neg hm]
 refine⟨?_,?_⟩
 ·obtain⟨r,hr⟩:=ZV (fun y=>c.getD y 0) (s+1) (n-(s+1));rw[show s+1+(n-(s+1))=n by omega,u]at hr;rw[<-B.2 s hs,hr];unfold ixF tR;rw[Ab,Et,if_neg hm];simp
 ·unfold tR;rw[u];simp
def aBL{D:DF}(k:Nat):aW D (min k D.nx.length)=aW D k:=by
 by_cases h:k<=D.nx.length
 ·rw[Da h]
 ·rw[Nat.min_eq_right (by omega)];have:∃j,j<=D.nx.length/\aW D (j+1)=aW D j:=Bq fun q=>by
   have:=LY (D:=D) (m:=D.nx.length+1) fun j u e=>q ⟨j,by omega,e⟩;omega
  obtain⟨j,h1,h2⟩:=this;have a:=o6 h2 (D.nx.length-j);have b:=o6 h2 (k-j);rw[show j+(D.nx.length-j)=D.nx.length by omega]at a;rw[show j+(k-j)=k by omega]at b;rw[a,b]
def dmN(D:DF)(j:Nat):List (List Bool):=cK D.nx.length fun s=>cK D.nx.length fun t=>dfN D j s t
def AE{n t:Nat}(g:Nat->Bool)(b:Bool)(h:t<n):((cK n g).map PV.bool).set t (.bool b)=(cK n fun u=>if u=t then b else g u).map PV.bool:=by rw[<-rB b h,List.map_set]
def RI{n t:Nat}(g:Nat->Bool)(h:t<n):((cK n g).map PV.bool)[t]? =Iz (.bool (g t)):=by rw[Ap,e8 h];rfl
def aDV{D:DF}{j s:Nat}(h:s<D.nx.length):(dmN D j)[s]? =Iz (cK D.nx.length fun t=>dfN D j s t):=e8 h
def Z2{D:DF}{j n:Nat}(h:n=D.nx.length):(cK n fun u=>if u<n then slB Jc Jb (cK n fun t=>dfN D j u t)else PV.aa)=(dmN D j).map (slB Jc Jb):=by subst h;unfold dmN;rw[xP];exact fQ fun u y=>by rw[if_pos y]
def Z1(m n k:Nat)(g:Nat->Nat->Bool):aD m (cK n fun u=>if u<k then slB Jc Jb (cK n (g u))else PV.aa)=Jb:=(dE _ _).2 fun v hv=>by
 obtain⟨u,_,rfl⟩:=xO hv;split
 ·exact sU _ _ _ _ _ _
 ·simp[PV.under]
def Q1{a b:List PV}{n s v w:Nat}{g:Nat->Nat->Bool}(hs:s<n)(hw:dl a b)(hb:aD 1 b=Jb):
  GStep 0 a [.cells 0 v (cK n fun u=>if u=s then .ref 1 0 1 0 n else if u<s then slB Jc Jb (cK n (g u))else .aa),.cells 0 w ((cK n (g s)).map .bool)] b [.cells 0 v (cK n fun u=>if u<s+1 then slB Jc Jb (cK n (g u))else .aa)]:=by
 refine GStep.trans (GStep.ft (b:=a) (cj2:=cK n fun u=>if u<s+1 then slB Jc Jb (cK n (g u))else .aa) 1 0 (Af _) rfl rfl (by omega) (D6 _ _ _ _) (K6 _ fun u G=>?_) rfl) (GStep.drop 1 (Af _) (by simp) hw hb ?_ rfl)
 ·by_cases y:u=s
  ·right;refine⟨1,0,n,by rw[if_pos y],by rw[Al,bT];omega,?_⟩;rw[if_pos (by omega),Cj,aK _ _ (by rw[Al,bT])];unfold slB;rw[bT,y]
  ·left;rw[if_neg y];by_cases B:u<s
   ·rw[if_pos B,if_pos (by omega)]
   ·rw[if_neg B,if_neg (by omega)]
 ·show(bp.under 1 _&&Jb)=Jb;rw[Bool.and_true];exact Z1 _ _ _ _
section
variable {tab:FuncId->Option AF} (T:HasA tab){M:Mem}{K:PV->Mem->Prop}
include T
def Z3{G I J L O Q:Bool}{D:DF}{k:Nat}(C:OkD D)(B:BnD D)(hk:K (rK Jc Jb Jc Jb (dmN D (min k D.nx.length))) M):
  ai tab 103 [.agg (dfC G I J L O Q D),p64 k] M K:=by
 obtain⟨n,hn⟩:∃n:Nat,n=D.nx.length:=⟨_,rfl⟩;have n1:=C.n1;have hf:=C.f;have b0:(0:Int)<=n:=by omega
 have b1:(n:Int)*24<=140737488355328:=by omega
 have b3:(n:Int)*1<=140737488355328:=by omega
 have b2:(n:Int)<=9223372036854775807:=by omega
 refine bD T.h103 (by simp only[PP,simprocAttr]) ?_;simp only[af103];refine aA (aB ?_);simp only[PP,simprocAttr];refine aU (GStep.dw (b:=(.ae::p64 k:: .cp (dfC G I J L O Q D) 0::zj 127)) 0 (Af _) rfl (by simp only[gE,gF,Ak,An,dQ,cU,cT,dP]) rfl) ?_;refine aU (GStep.drop (b:=(.ae::p64 k:: .cp (dfC G I J L O Q D) 0::zj 127)) 0 (Af _) (Af _) (by simp only[PW]) (by simp only[PP,simprocAttr,PV.under]) rfl rfl) ?_;refine aA (aB ?_);simp only[PP,simprocAttr,<-hn];refine aA (aB ?_);simp only[PP,simprocAttr];refine⟨⟨b0,Cc _,b1,b2⟩,?_⟩;refine aA (fF (Qn:=fun b N=>dl b (.ae::p64 k:: .cp (dfC G I J L O Q D) 0:: .ae:: .ae::p64 n:: .ref 0 0 1 0 n::zj 123)/\∃v,N=[.cells 0 v ((dmN D 0).map (slB Jc Jb))]) ?_ ?_ (fun _ _ h=>h) fun _ _ _ h=>h)
 ·refine aA (aB ?_);simp only[PP,simprocAttr];refine dJ ?_;refine cL (fun(s v:Nat)=>s<=n) (fun s v=>(.ae::p64 k:: .cp (dfC G I J L O Q D) 0:: .ae:: .ae::p64 n:: .ref 0 0 1 0 n::p64 s::zj 122)) (fun s v=>[.cells 0 v (cK n fun u=>if u<s then slB Jc Jb (cK n fun t=>dfN D 0 u t)else .aa)]) (fun s v=>n-s) 0 0 (by omega) ?_ (by simp only[PW]) (by rw[rC];rfl);intro s v hs ih;refine aH (by kernel_rfl) ?_;simp only[PP,simprocAttr];refine QIf.intro (fun c=>?_) fun c=>?_
  ·have E:s<n:=by omega
   have s0:(0:Int)<=s:=by omega
   have sn:(s:Int)<n:=by omega
   have s1:s+1<=n:=E;have a9:=aC (k:=s) (by show _<1000000000000;omega);have b4:=bT n fun u=>if u<s then slB Jc Jb (cK n fun t=>dfN D 0 u t)else PV.aa
   simp only[PP,simprocAttr,c,b0,b2,b3,s0,sn,s1,b4,rB _ E,Cc];obtain⟨R,hR⟩:∃R,R=cK n fun u=>if u=s then PV.ref 1 0 1 0 n else if u<s then slB Jc Jb (cK n fun t=>dfN D 0 u t)else .aa:=⟨_,rfl⟩
   have Y:R[s]? =Iz (.ref 1 0 1 0 n):=by rw[hR,e8 E,if_pos rfl]
   have Z:R.length=n:=by rw[hR];exact bT _ _
   rw[<-hR];refine cL (fun(t w:Nat)=>t<=n) (fun t w=>(.ae::p64 k:: .cp (dfC G I J L O Q D) 0:: .ae:: .ae::p64 n:: .ref 0 0 1 0 n::p64 s::p64 t::zj 121)) (fun t w=>[.cells 0 (v+1) R,.cells 0 w ((cK n fun u=>if u<t then dfN D 0 s u else Jc).map .bool)]) (fun t w=>n-t) 0 0 (by omega) ?_ (by simp only[PW]) (by rw[xP];simp[rC]);intro t w ht b5;refine aH (by kernel_rfl) ?_;simp only[PP,simprocAttr];refine QIf.intro (fun d=>?_) fun d=>?_
   ·have S:t<n:=by omega
    have t0:(0:Int)<=t:=by omega
    have tn:(t:Int)<n:=by omega
    have t1:t+1<=n:=S;have hwt:=aC (k:=t) (by show _<1000000000000;omega);have d4:(s:Int)<D.fi.length:=by omega
    have d5:(t:Int)<D.fi.length:=by omega
    obtain⟨x,gx⟩:=aM (xs:=D.fi) (k:=s) (by omega);obtain⟨y,gy⟩:=aM (xs:=D.fi) (k:=t) (by omega);have a3:=bT n fun u=>if u<t then dfN D 0 s u else Jc
    simp only[PP,simprocAttr,d,s0,sn,t0,tn,t1,Y,Z,d4,d5,gx,gy,a3,AE _ _ S,hwt];have e3:(cK n fun u=>if u=t then !(x==y)else if u<t then dfN D 0 s u else Jc)=cK n fun u=>if u<t+1 then dfN D 0 s u else Jc:=fQ fun u hu=>by
     by_cases q:u=t
     ·subst q;rw[if_pos rfl,if_pos (by omega)];unfold dfN;rw[At,gx,At,gy];cases x<;>cases y<;>rfl
     ·rw[if_neg q];by_cases q2:u<t
      ·rw[if_pos q2,if_pos (by omega)]
      ·rw[if_neg q2,if_neg (by omega)]
    rw[e3];exact aR (b5 (t+1) (w+1) (by omega) (by omega)) (by simp only[PW]) rfl
   ·obtain rfl:t=n:=by omega
    have e1:(cK t fun u=>if u<t then dfN D 0 s u else Jc)=cK t (dfN D 0 s):=fQ fun u hu=>by rw[if_pos hu]
    rw[e1,hR];simp only[PP,simprocAttr,d,a9];refine aU (Q1 (b:=(.ae::p64 k:: .cp (dfC G I J L O Q D) 0:: .ae:: .ae::p64 t:: .ref 0 0 1 0 t::p64 ((s+1:Nat):Int)::zj 122)) E (by simp only[PW]) (by simp only[PP,simprocAttr,PV.under])) ?_;exact aE (ih (s+1) (v+1) (by omega) (by omega))
  ·obtain rfl:s=n:=by omega
   simp only[PP,simprocAttr,c];exact⟨(by simp only[PW]),v,by rw[Z2 hn]⟩
 rintro b N ⟨hw,v,rfl⟩;refine aE ?_ hw;have hfz:∀j,rK Jc Jb Jc Jb (dmN D j)= .sl Jc Jb 1 n (aZ ((dmN D j).map (slB Jc Jb)) 0 (n*1)):=fun j=>by rw[Cj,aK _ _ (by simp[dmN,bT,hn])];unfold rK dmN;rw[bT,hn]
 have c4:∀j,0+n*1<=((dmN D j).map (slB Jc Jb)).length:=fun j=>by simp[dmN,bT,hn]
 refine aU (GStep.freeze (b:=(.ae::p64 k:: .cp (dfC G I J L O Q D) 0:: .ae:: .ae::p64 n::rK Jc Jb Jc Jb (dmN D 0)::zj 123)) 0 (Af _) rfl (by simp only[gE,gF,Ak,An,mL,bJ,fW (c4 0) (hfz 0),cI]) rfl) ?_;have U:∀m j,aD m ((dmN D j).map (slB Jc Jb))=Jb:=fun m j=>dR _ (slB Jc Jb) (fun x=>sU _ _ _ _ _ _) _;refine aU (GStep.drop (b:=(.ae::p64 k:: .cp (dfC G I J L O Q D) 0:: .ae:: .ae::p64 n::rK Jc Jb Jc Jb (dmN D 0)::zj 123)) 0 (Af _) (Af _) (by simp only[PW]) (by simp only[PP,simprocAttr,PV.under,U]) rfl rfl) ?_;refine aB ?_;simp only[PP,simprocAttr];refine cM (fun(j:Nat)=>j<=min k n) (fun j=>(.ae::p64 k:: .cp (dfC G I J L O Q D) 0:: .ae:: .ae::p64 n::rK Jc Jb Jc Jb (dmN D j):: .ae:: .ae::p64 j::zj 120)) (fun j=>[]) (fun j=>min k n-j) 0 (by omega) ?_;intro j hj ih;refine aH (by kernel_rfl) ?_;by_cases c1:j<k;rotate_left
 ·obtain rfl:j=min k n:=by omega
  have a7:¬((min k n:Nat):Int)<k:=by omega
  simp only[PP,simprocAttr,a7,U];rw[hn];exact hk
 have a7:(j:Int)<k:=by omega
 by_cases c2:j<n;rotate_left
 ·obtain rfl:j=min k n:=by omega
  have b6:¬((min k n:Nat):Int)<n:=by omega
  simp only[PP,simprocAttr,a7,b6,U];rw[hn];exact hk
 have b6:(j:Int)<n:=by omega
 have d6:=aC (k:=j) (by show _<1000000000000;omega);simp only[PP,simprocAttr,a7,b6,b0,b1,b2,Cc];refine cL (fun(s v:Nat)=>s<=n) (fun s v=>(.ae::p64 k:: .cp (dfC G I J L O Q D) 0:: .ae:: .ae::p64 n::rK Jc Jb Jc Jb (dmN D j):: .ae:: .ae::p64 j:: .ref 0 0 1 0 n::p64 s::zj 118)) (fun s v=>[.cells 0 v (cK n fun u=>if u<s then slB Jc Jb (cK n fun t=>dfN D (j+1) u t)else .aa)]) (fun s v=>n-s) 0 0 (by omega) ?_ (by simp only[PW]) (by rw[rC];rfl);intro s v hs b5;refine aH (by kernel_rfl) ?_;simp only[PP,simprocAttr];refine QIf.intro (fun c=>?_) fun c=>?_;rotate_left
 ·obtain rfl:s=n:=by omega
  simp only[PP,simprocAttr,c,d6];rw[Z2 hn];refine aE (b:=(.ae::p64 k:: .cp (dfC G I J L O Q D) 0:: .ae:: .ae::p64 s:: .ref 0 0 1 0 s:: .ae:: .ae::p64 ((j+1:Nat):Int)::zj 120)) ?_;refine aU (GStep.freeze (b:=(.ae::p64 k:: .cp (dfC G I J L O Q D) 0:: .ae:: .ae::p64 s::rK Jc Jb Jc Jb (dmN D (j+1)):: .ae:: .ae::p64 ((j+1:Nat):Int)::zj 120)) 0 (Af _) rfl (by simp only[gE,gF,Ak,An,mL,bJ,fW (c4 (j+1)) (hfz (j+1)),cI]) rfl) ?_;refine aU (GStep.drop (b:=(.ae::p64 k:: .cp (dfC G I J L O Q D) 0:: .ae:: .ae::p64 s::rK Jc Jb Jc Jb (dmN D (j+1)):: .ae:: .ae::p64 ((j+1:Nat):Int)::zj 120)) 0 (Af _) (Af _) (by simp only[PW]) (by simp only[PP,simprocAttr,PV.under,U]) rfl rfl) ?_;exact aE (ih (j+1) (by omega) (by omega))
 have E:s<n:=by omega
 have s0:(0:Int)<=s:=by omega
 have sn:(s:Int)<n:=by omega
 have s1:s+1<=n:=E;have a9:=aC (k:=s) (by show _<1000000000000;omega);have b4:=bT n fun u=>if u<s then slB Jc Jb (cK n fun t=>dfN D (j+1) u t)else PV.aa
 simp only[PP,simprocAttr,c,b0,b2,b3,s0,sn,s1,b4,rB _ E,Cc];obtain⟨R,hR⟩:∃R,R=cK n fun u=>if u=s then PV.ref 1 0 1 0 n else if u<s then slB Jc Jb (cK n fun t=>dfN D (j+1) u t)else .aa:=⟨_,rfl⟩
 have Y:R[s]? =Iz (.ref 1 0 1 0 n):=by rw[hR,e8 E,if_pos rfl]
 have Z:R.length=n:=by rw[hR];exact bT _ _
 rw[<-hR];have f4:(dmN D j).length=n:=by simp[dmN,bT,hn]
 have d7:∀i:Nat,i<n->(i:Int)<(dmN D j).length:=fun i h=>by omega
 have c5:∀{i:Nat},i<n->(dmN D j)[i]? =Iz (cK n fun t=>dfN D j i t):=fun {i} h=>by rw[hn];exact aDV (by omega)
 have d8:=c5 E;obtain⟨V,g1⟩:=aM (xs:=D.nx) (k:=s) (by omega);have b7:(s:Int)<D.nx.length:=by omega
 have q1:=C.r V (Ae g1);have g0:V.length<1000000000000:=B.r V (Ae g1);have e1:rwN D s=V:=by unfold rwN;rw[g1];rfl
 refine cL (fun(t w:Nat)=>t<=n) (fun t w=>(.ae::p64 k:: .cp (dfC G I J L O Q D) 0:: .ae:: .ae::p64 n::rK Jc Jb Jc Jb (dmN D j):: .ae:: .ae::p64 j:: .ref 0 0 1 0 n::p64 s::p64 t::zj 117)) (fun t w=>[.cells 0 (v+1) R,.cells 0 w ((cK n fun u=>if u<t then dfN D (j+1) s u else Jc).map .bool)]) (fun t w=>n-t) 0 0 (by omega) ?_ (by simp only[PW]) (by rw[xP];simp[rC]);intro t w ht d9;refine aH (by kernel_rfl) ?_;simp only[PP,simprocAttr];refine QIf.intro (fun d=>?_) fun d=>?_;rotate_left
 ·obtain rfl:t=n:=by omega
  have e1:(cK t fun u=>if u<t then dfN D (j+1) s u else Jc)=cK t (dfN D (j+1) s):=fQ fun u hu=>by rw[if_pos hu]
  rw[e1,hR];simp only[PP,simprocAttr,d,a9];refine aU (Q1 (b:=(.ae::p64 k:: .cp (dfC G I J L O Q D) 0:: .ae:: .ae::p64 t::rK Jc Jb Jc Jb (dmN D j):: .ae:: .ae::p64 j:: .ref 0 0 1 0 t::p64 ((s+1:Nat):Int)::zj 118)) E (by simp only[PW]) (by simp only[PP,simprocAttr,PV.under,U])) ?_;exact aE (b5 (s+1) (v+1) (by omega) (by omega))
 have S:t<n:=by omega
 have t0:(0:Int)<=t:=by omega
 have tn:(t:Int)<n:=by omega
 have t1:t+1<=n:=S;have hwt:=aC (k:=t) (by show _<1000000000000;omega);obtain⟨r2,g2⟩:=aM (xs:=D.nx) (k:=t) (by omega);have c6:(t:Int)<D.nx.length:=by omega
 have q2:=C.r r2 (Ae g2);have g3:V.length=r2.length:=by have:=q1.1;have:=q2.1;omega
 have e2:rwN D t=r2:=by unfold rwN;rw[g2];rfl
 have a3:=bT n fun u=>if u<t then dfN D (j+1) s u else Jc
 have g4:=RI (dfN D j s) S;have c0:=bT n (dfN D j s);simp only[PP,simprocAttr,d,s0,sn,t0,tn,t1,Y,Z,d7 s E,d8,c0,e8 S,a3,AE _ _ S];refine cL (fun(x w:Nat)=>x<=V.length) (fun x w=>(.ae::p64 k:: .cp (dfC G I J L O Q D) 0:: .ae:: .ae::p64 n::rK Jc Jb Jc Jb (dmN D j):: .ae:: .ae::p64 j:: .ref 0 0 1 0 n::p64 s::p64 t::p64 x::zj 116)) (fun x w=>[.cells 0 (v+1) R,.cells 0 w ((cK n fun u=>if u=t then(dfN D j s t||(Av x).any fun y=>dfN D j (nxA D s y) (nxA D t y))else if u<t then dfN D (j+1) s u else Jc).map .bool)]) (fun x w=>V.length-x) 0 (w+1) (by omega) ?_ (by simp only[PW]) (by simp);intro x w hx e0;refine aH (by kernel_rfl) ?_;simp only[PP,simprocAttr,s0,b7,g1];refine QIf.intro (fun e=>?_) fun e=>?_;rotate_left
 ·obtain rfl:x=V.length:=by omega
  have e3:(cK n fun u=>if u=t then(dfN D j s t||(Av V.length).any fun y=>dfN D j (nxA D s y) (nxA D t y))else if u<t then dfN D (j+1) s u else Jc)=cK n fun u=>if u<t+1 then dfN D (j+1) s u else Jc:=fQ fun u hu=>by
   by_cases q:u=t
   ·subst q;rw[if_pos rfl,if_pos (by omega),<-e1];rfl
   ·rw[if_neg q];by_cases q2:u<t
    ·rw[if_pos q2,if_pos (by omega)]
    ·rw[if_neg q2,if_neg (by omega)]
  rw[e3];simp only[PP,simprocAttr,e,hwt];exact aR (d9 (t+1) w (by omega) (by omega)) (by simp only[PW]) rfl
 have e5:x<V.length:=by omega
 have x0:(0:Int)<=x:=by omega
 have c7:(x:Int)<V.length:=by omega
 have c8:(x:Int)<r2.length:=by omega
 have c9:=aC (k:=x) (by show _<1000000000000;omega);obtain⟨a,ga⟩:=aM (xs:=V) (k:=x) e5;obtain⟨b,gb⟩:=aM (xs:=r2) (k:=x) (by omega);obtain⟨a0,a1⟩:=q1.2 a (Ae ga);obtain⟨d0,g5⟩:=q2.2 b (Ae gb);have e6:a.toNat<n:=by omega
 have b8:b.toNat<n:=by omega
 have am:a<(dmN D j).length:=by omega
 have bm:b<n:=by omega
 have a5:=c5 e6;have a2:=bT n (dfN D j a.toNat);have e7:=RI (dfN D j a.toNat) b8;have na:nxA D s x=a.toNat:=by unfold nxA;rw[e1,At,ga];rfl
 have nb:nxA D t x=b.toNat:=by unfold nxA;rw[e2,At,gb];rfl
 have c3:(dfN D j s t||(Av (x+1)).any fun y=>dfN D j (nxA D s y) (nxA D t y))=((dfN D j s t||(Av x).any fun y=>dfN D j (nxA D s y) (nxA D t y))||dfN D j a.toNat b.toNat):=by rw[Fc,Ik];simp[na,nb,Bool.or_assoc]
 have a6:=bT n fun u=>if u=t then(dfN D j s t||(Av x).any fun y=>dfN D j (nxA D s y) (nxA D t y))else if u<t then dfN D (j+1) s u else Jc
 have a4:=e0 (x+1);rw[c3]at a4
 cases hv:dfN D j a.toNat b.toNat with
 | true=>
  rw[hv,Bool.or_true]at a4;have e4:(cK n fun u=>if u=t then Jb else if u=t then(dfN D j s t||(Av x).any fun y=>dfN D j (nxA D s y) (nxA D t y))else if u<t then dfN D (j+1) s u else Jc)=cK n fun u=>if u=t then Jb else if u<t then dfN D (j+1) s u else Jc:=fQ fun u hu=>by
   by_cases q:u=t
   ·rw[if_pos q,if_pos q]
   ·rw[if_neg q,if_neg q,if_neg q]
  simp only[PP,simprocAttr,e,s0,sn,t0,tn,t1,x0,c7,c8,Y,Z,b7,c6,g1,g2,ga,gb,a0,am,d0,bm,a5,a2,e8 b8,hv,a6,AE _ _ S,c9];rw[e4];exact aR (a4 (w+1) (by omega) (by omega)) (by simp only[PW]) rfl
 | false=>rw[hv,Bool.or_false]at a4;simp only[PP,simprocAttr,e,s0,sn,t0,tn,t1,x0,c7,c8,Y,Z,b7,c6,g1,g2,ga,gb,a0,am,d0,bm,a5,a2,e8 b8,hv,a6,c9];exact aR (a4 w (by omega) (by omega)) (by simp only[PW]) rfl
def CN{f1 o1 f2 o2 f3 o3:Bool}{D:DF}{k:Nat}(hc:bZ D=0)(B:BnD D)(hk:K (.tuple [slI Jc Jb .i64 (aW D k),p64 0]) M):
  ai tab 55 [.agg (dfC f1 o1 f2 o2 f3 o3 D),p64 k] M K:=by
 have C:=fw.1 hc;have n1:=C.n1;rw[<-aBL]at hk;obtain⟨j,hj⟩:∃j,j=min k D.nx.length:=⟨_,rfl⟩;rw[<-hj]at hk;obtain⟨a1,R⟩:=yF D j;have a2:∀{s t:Nat},s<D.nx.length->t<D.nx.length->dfN D j s t= !decide ((aW D j).getD s 0=(aW D j).getD t 0):=fun {s t} hs ht=>NJ C j hs ht;have a3:∀{s:Nat},s<D.nx.length->(dmN D j)[s]? =Iz (cK D.nx.length fun t=>dfN D j s t):=fun {s} h=>aDV h;have G:(dmN D j).length=D.nx.length:=by simp[dmN,bT]
 have a4:∀{s:Nat},s<D.nx.length->tR (aW D j) s<=s:=fun {s} _=>NC _ s;refine bD T.h55 (by simp only[PP,simprocAttr]) ?_;simp only[af55];refine aA (aB ?_);simp only[PP,simprocAttr];refine aA (aB ?_);simp only[PP,simprocAttr];refine CX T B ?_;simp only[PP,simprocAttr,hc];refine aA (aB ?_);simp only[PP,simprocAttr];refine aA (aB ?_);simp only[PP,simprocAttr];refine Z3 T C B ?_;rw[<-hj];simp only[PP,simprocAttr];refine aA (aB ?_);simp only[PP,simprocAttr];refine aU (GStep.nil 8 1 rfl rfl rfl) ?_;refine aB ?_;simp only[PP,simprocAttr];refine cL (fun(s g:Nat)=>s<=D.nx.length) (fun s g=>(zj 7++rK Jc Jb Jc Jb (dmN D j):: .ref 1 g 1 0 s::p64 (tR (aW D j) s)::p64 s::zj 41)) (fun s g=>[.cells 0 0 (dfC f1 o1 f2 o2 f3 o3 D),.cells g 0 (((aW D j).take s).map p64)]) (fun s g=>D.nx.length-s) 0 0 (by omega) ?_ (by simp only[tR,fv,Bb,PW]);intro s g hs ih;refine aH (by kernel_rfl) ?_;simp only[PP,simprocAttr,G];refine QIf.intro (fun c=>?_) fun c=>?_;rotate_left
 ·obtain rfl:s=D.nx.length:=by omega
  have I:(aW D j).take D.nx.length=aW D j:=Ba (by rw[cD];exact Ac _);have hfz:pN (Iz (bp.cells g 0 ((aW D j).map p64))) g 1 0 D.nx.length=Iz (slI Jc Jb .i64 (aW D j)):=by
   rw[cQ (by simp[cD]) (aL _ _ _),Cj,aK _ _ (by simp[cD])];simp only[slI,cD]
  rw[I];simp only[PP,simprocAttr,c,hfz];exact hk
 have y:s<D.nx.length:=by omega
 have s0:(0:Int)<=s:=by omega
 have S:=aC (k:=s) (by show _<1000000000000;omega);have a5:s<(aW D j).length:=by rw[cD];exact y
 obtain⟨v,gv⟩:=aM a5;have U:(aW D j).getD s 0=v:=by rw[At,gv];rfl
 have I:((aW D j).take (s+1)).map p64=((aW D j).take s).map p64++[p64 v]:=by rw[Ce,gv];simp
 have J:=a3 y;have L:=bT D.nx.length (dfN D j s);have b1:(s+1)*8<=140737488355328:=by omega
 have b2:s+1<=9223372036854775807:=by omega
 have b3:s<=((aW D j).take s).length:=by simp;omega
 have V:aZ (((aW D j).take s).map p64) 0 s=((aW D j).take s).map p64:=aK _ _ (by simp;omega);have b0:=a4 y;simp only[PP,simprocAttr,c];refine cM (fun(t:Nat)=>t<=s/\∀u,u<t->¬(aW D j).getD u 0=(aW D j).getD s 0) (fun t=>(zj 7++rK Jc Jb Jc Jb (dmN D j):: .ref 1 g 1 0 s::p64 (tR (aW D j) s)::p64 s::p64 t::zj 40)) (fun t=>[.cells 0 0 (dfC f1 o1 f2 o2 f3 o3 D),.cells g 0 (((aW D j).take s).map p64)]) (fun t=>s-t) 0 ⟨Af _,fun u h=>absurd h (Eb _)⟩ ?_;intro t ⟨ht,Y⟩ a6;refine aH (by kernel_rfl) ?_;have t0:(0:Int)<=t:=by omega
 have tn:(t:Int)<D.nx.length:=by omega
 have hwt:=aC (k:=t) (by show _<1000000000000;omega);have O:=e8 (f:=dfN D j s) (show t<D.nx.length by omega);have hd:=a2 y (show t<D.nx.length by omega);by_cases he:(aW D j).getD t 0=(aW D j).getD s 0;rotate_left
 ·have Q:t<s:=by
   rcases Az t s with q | q
   ·exact q
   ·obtain rfl:t=s:=by omega
    exact absurd rfl he
  rw[decide_eq_false fun q=>he q.symm]at hd;simp only[PP,simprocAttr,G,c,s0,t0,tn,J,L,O,hd,hwt];exact aE (a6 (t+1) ⟨by omega,fun u hu=>by
   by_cases q:u=t
   ·subst q;exact he
   ·exact Y u (by omega)⟩ (by omega)) (by simp only[PW])
 rw[decide_eq_true he.symm]at hd;by_cases Q:t<s
 ·have E:(t:Int)<s:=by omega
  obtain⟨v',Z⟩:=aM (xs:=aW D j) (k:=t) (by omega);have e:v'=v:=by rw[<-U,<-he,At,Z];rfl
  subst e;have a0:((aW D j).take s)[t]? =Iz v':=by rw[List.getElem?_take,if_pos Q];exact Z
  have a7:=aCo Q he;have:=ih (s+1) (g+1) (by omega) (by omega);rw[a7,I]at this;have b4:(t:Int)<(((aW D j).take s).map p64).length:=by simp;omega
  simp only[PP,simprocAttr,G,c,s0,t0,tn,J,L,O,hd,E,a0,b1,b2,b3,b4,V,S];exact aR this (by simp only[PW]) rfl
 ·obtain rfl:t=s:=by omega
  have E:¬(t:Int)<t:=by omega
  obtain⟨h1,h2⟩:=aCp ⟨a1,R⟩ y Y;have a9:=aC (k:=tR (aW D j) t) (by show _<1000000000000;omega);rw[U]at h1;have:=ih (t+1) (g+1) (by omega) (by omega);rw[h2,I,h1]at this;simp only[PP,simprocAttr,G,c,s0,t0,tn,J,L,O,hd,E,b1,b2,b3,V,S,a9];exact aR this (by simp only[PW]) rfl
end
abbrev UB(u:List (List Int))(s:List Int):Nat:= @List.idxOf _ instBEqOfDecidableEq s u
def bc.slR{f:Bool}{u:List (List Int)} :bc (slR f Jb Jc Jb .i64 u) (slR Jc Jb Jc Jb .i64 u):=bc.sl f 1 _ _
section
variable {tab:FuncId->Option AF} (T:HasA tab){M:Mem}{K:PV->Mem->Prop}
include T
def HY{f o J L O Q:Bool}{u:List (List Int)}{s:List Int}(hm:u.length<=5000)(E:∀r∈u,r.length<big)(B:K (p64 (QX u s)) M):
  ai tab 101 [slR f o J L .i64 u,slI O Q .i64 s] M K:=by
 refine aF T.h101 (by simp only[PP,simprocAttr]) ?_;simp only[af101,PP,simprocAttr];refine cM (fun(k:Nat)=>k<=u.length/\(s∈u->k<=UB u s)) (fun k=>(slR f o J L .i64 u::slI O Q .i64 s::zj 3++p64 k::zj 13)) (fun _=>[]) (fun k=>u.length-k) 0 ⟨by omega,fun _=>Af _⟩ ?_;intro k ⟨R,G⟩ S;refine aH (by kernel_rfl) ?_;simp only[PP,simprocAttr];unfold QX at B;refine QIf.intro (fun c=>?_) fun c=>?_
 ·have I:k<u.length:=by omega
  obtain⟨r,g⟩:=aM I;have U:(0:Int)<=k:=by omega
  have wk:=aC (k:=k) (by show _<1000000000000;omega);simp only[PP,simprocAttr,c,U,g];refine jF T (E r (Ae g)) ?_;by_cases e:r=s
  ·subst e;have y:=Ae g;have:=DH g;have:=G y;obtain rfl:k=UB u r:=by unfold UB at*;omega
   rw[if_pos y]at B;simp only[PP,simprocAttr];exact B
  ·simp only[PP,simprocAttr,e,wk];refine aE (S (k+1) ⟨by omega,fun h=>?_⟩ (by omega));have h1:=G h;have h2:=tX h;refine Bq fun q=>?_;have:k=UB u s:=by omega
   have h2:u[UB u s]? =Iz s:=h2;rw[<-this,g]at h2;exact e (Option.some.inj h2)
 ·have:s∉u:=fun h=>by have h1:=G h;have h2:UB u s<u.length:=aI (tX h);omega
  rw[if_neg this]at B;simp only[PP,simprocAttr,c];exact B
def S4{B E:Bool}{id g ver n:Nat}{o:List (BitVec 64)}{b:BitVec 64}(I:M[id]? =Iz (.cells g ver ((a8 o).map (slI Jc Jb .i64))))(J:n=o.length)(hl:o.length<=5000)(L:K (p64 (if b∈o then((o.idxOf b:Nat):Int)else-1)) M):
  ai tab 101 [.ref id g 1 0 n,slI B E .i64 (bE (bM b))] M K:=by
 have u:(a8 o).length=o.length:=by simp[a8]
 subst J;refine iG (args2:=[slR Jb Jc Jc Jb .i64 (a8 o),slI B E .i64 (bE (bM b))]) ?_ (HY T (by omega) (fun r hr=>?_) ⟨rfl,?_⟩)
 ·have:=je.ref (sz:=1) (off:=0) (n:=o.length) (cs2:=(a8 o).map (slI Jc Jb .i64)) I (by simp[u]) (aT _ _ _ _ _) (aK _ _ (by simp[u])) (je.same (v:=slI B E .i64 (bE (bM b))) (by simp only[PP,simprocAttr]) je.nil);rw[slR,u];exact this
 ·obtain⟨y,_,rfl⟩:=List.mem_map.1 hr;have:(bM y).length<=64:=by unfold bM;exact Nat.le_trans (List.length_filter_le _ _) (by simp)
  show _<1000000000000;simp;omega
 ·rw[zP];exact L
def CR{f o u B:Bool}{S:List (BitVec 64)}{b:BitVec 64}(hl:S.length<=5000)(E:K (p64 (if b∈S then((S.idxOf b:Nat):Int)else-1)) M):
  ai tab 101 [slR f o Jc Jb .i64 (a8 S),slI u B .i64 (bE (bM b))] M K:=by
 refine HY T (by simp[a8];omega) (fun r hr=>?_) (by rw[zP];exact E);obtain⟨y,_,rfl⟩:=List.mem_map.1 hr;have:=DT y;show _<1000000000000;simp;omega
def aFQ{f1 o1 f2 o2 f3 o3:Bool}{N:NF}{u:Int}(hc:dA N=0)(B:BnN N)(hu:u<=9000000000000000000)
  (hk:∀m:Nat,((m:Int)<=u\/m=0)->(∀j,j<m->¬(In.n N).done j/\¬(In.n N).fh j)->m<=(stK N m).length->(stK N m).length<=4096->(u<=m\/(In.n N).done m)->K (.tuple [HZ Jc N.vs (rwK N m) (fnK N m) (a8 (stK N m)) [] [],p64 m,.bool Jc]) M)
  (b5:∀m:Nat,(m:Int)<u->(∀j,j<m->¬(In.n N).done j/\¬(In.n N).fh j)->m<=(stK N m).length->(stK N m).length<=4096->(In.n N).fh m->K (.tuple [HZ Jc N.vs (rwK N m) (fnK N m) (a8 (stK N m)) [] [],p64 m,.bool Jb]) M):
  ai tab 54 [.agg (nfC f1 o1 f2 o2 f3 o3 N),p64 u] M K:=by
 have C:=kJ hc;have d7:=IC C.st C.n64;have a1:∀(k:Nat) (e:PV) (b:Bool),bc e (slR Jc Jb Jc Jb .i64 (a8 (stK N k)))->bc (.tuple [.agg [p64 N.vs,p64 0,slR Jc Jb Jc Jb .i64 (rwK N k),slB Jc Jb (fnK N k),e,.aa,.aa],p64 k,.bool b]) (.tuple [HZ Jc N.vs (rwK N k) (fnK N k) (a8 (stK N k)) [] [],p64 k,.bool b]):=fun k e b he=>by
  refine bc.tuple rfl fun i y z p q=>?_
  match i,p,q with
  | 0,p,q=>cases p;cases q;exact pX (bc.refl _) (bc.refl _) he (bc.aa _ _ _) (bc.aa _ _ _)
  | 1,p,q=>cases p;cases q;exact bc.refl _
  | 2,p,q=>cases p;cases q;exact bc.refl _
  | i+3,p,q=>simp at p
 refine fM (bD T.h54 (by simp only[PP,simprocAttr,aV]) ?_);simp only[af54];refine aA (aB ?_);simp only[PP,simprocAttr];refine aA (aB ?_);simp only[PP,simprocAttr];refine fU T (by show _<1000000000000;omega) ?_;simp only[PP,simprocAttr];have b6:a8 [cY N]=[N.st]:=by simp[a8,xW C]
 refine aU (GStep.wkO 2 (g:=0) (ver:=1) (cs:=[p64 N.vs,p64 0,.aa,.aa,slR Jb Jb Jc Jb .i64 [N.st],.aa,.aa]) (cs2:=[p64 N.vs,p64 0,.aa,.aa,slR Jc Jb Jc Jb .i64 [N.st],.aa,.aa]) rfl (fun w e0 h=>ak.wkAt (a:=[p64 N.vs,p64 0,.aa,.aa,slR Jb Jb Jc Jb .i64 [N.st],.aa,.aa]) (v':=slR Jc Jb Jc Jb .i64 [N.st]) 4 (bc.sl _ _ _ _) h) rfl) ?_;refine aU (GStep.dy 2 2 1 (g:=0) (ver:=1) (cs:=[p64 N.vs,p64 0,.aa,.aa,slR Jc Jb Jc Jb .i64 [N.st],.aa,.aa]) rfl rfl rfl) ?_;refine aU (GStep.dy 2 3 1 (g:=0) (ver:=1) (cs:=[p64 N.vs,p64 0,.ref 3 0 1 0 0,.aa,slR Jc Jb Jc Jb .i64 [N.st],.aa,.aa]) rfl rfl rfl) ?_;refine aB ?_;simp only[PP,simprocAttr];refine jE (fun(k g v:Nat)=>k<=(stK N k).length/\(stK N k).length<=4096/\((k:Int)<=u\/k=0)/\∀j,j<k->¬(In.n N).done j/\¬(In.n N).fh j) (fun k g v=>(.ae::p64 u:: .ptr 0 0 0:: .ae:: .ptr 1 0 0:: .ae:: .ae:: .ptr 2 0 0::p64 k::zj 107))
  (fun k g v=>[.cells 0 0 (nfC f1 o1 f2 o2 f3 o3 N),.cells 0 0 [p64 0,p64 0,.aa,.aa,.aa,.aa,.aa],.cells 0 v [p64 N.vs,p64 0,.ref 3 g 1 0 k,.ref 4 g 1 0 k,slR Jc Jb Jc Jb .i64 (a8 (stK N k)),.aa,.aa],.cells g 0 ((rwK N k).map (slI Jc Jb .i64)),.cells g 0 ((fnK N k).map PV.bool)])
  (fun k g v=>u.toNat-k) 0 0 1 ⟨by omega,by simp[dT],.inr rfl,fun j h=>absurd h (Eb _)⟩ ?_ (by simp only[PW]) (by rw[show a8 (stK N 0)=[N.st]from b6];rfl)
 intro k g v ⟨J,h4,a9,G⟩ ih;have U:(rwK N k).length=k:=lT J;have b7:=wX J;have I:(a8 (stK N k)).length=(stK N k).length:=by simp[a8]
 refine aH (by kernel_rfl) ?_;have hfz:pN (Iz (bp.cells g 0 ((fnK N k).map PV.bool))) g 1 0 k=Iz (slB Jc Jb (fnK N k)):=by
  rw[cQ (by simp;omega) (bF _ _),Cj,aK _ _ (by simp;omega)];simp only[slB,b7]
 have L:pN (Iz (bp.cells g 0 ((rwK N k).map (slI Jc Jb .i64)))) g 1 0 k=Iz (slR Jc Jb Jc Jb .i64 (rwK N k)):=by rw[cQ (by simp[U]) (aT _ _ _ _ _),Cj,aK _ _ (by simp[U])];simp only[slR,U]
 by_cases c1:k<(stK N k).length;rotate_left
 ·have V:¬(k:Int)<(stK N k).length:=by omega
  have:=hk k a9 G J h4 (.inr (Nat.not_lt.1 c1));simp only[PP,simprocAttr,I,V,hfz,L];exact⟨_,a1 k _ Jc (by simp only[slR,I];exact bc.refl _),this⟩
 have V:(k:Int)<(stK N k).length:=by omega
 by_cases c2:(k:Int)<u;rotate_left
 ·have:=hk k a9 G J h4 (.inl (by omega));simp only[PP,simprocAttr,I,V,c2,hfz,L];exact⟨_,a1 k _ Jc (by simp only[slR,I];exact bc.refl _),this⟩
 obtain⟨a,ga⟩:=aM c1;have k0:(0:Int)<=k:=by omega
 have wk:=aC (k:=k) (by show _<1000000000000;omega);have e1:=C.nu;simp only[PP,simprocAttr,I,V,c2];refine aU (GStep.nil 10 1 rfl rfl rfl) ?_;simp only[PP,simprocAttr];refine RT ?_;refine jE (fun(j O:Nat) (o:List (BitVec 64))=>j<=aO N/\o=cJ (aJ N) a j (stK N k)) (fun j O o=>(.ae::p64 u:: .ptr 0 0 0:: .ae:: .ptr 1 0 0:: .ae:: .ae:: .ptr 2 0 0::p64 k::slR Jc Jb Jc Jb .i64 (a8 o):: .ref 5 O 1 0 j::p64 j::zj 104))
  (fun j O o=>[.cells 0 0 (nfC f1 o1 f2 o2 f3 o3 N),.cells 0 0 [p64 0,p64 0,.aa,.aa,.aa,.aa,.aa],.cells 0 v [p64 N.vs,p64 0,.ref 3 g 1 0 k,.ref 4 g 1 0 k,slR Jc Jb Jc Jb .i64 (a8 (stK N k)),.aa,.aa],.cells g 0 ((rwK N k).map (slI Jc Jb .i64)),.cells g 0 ((fnK N k).map PV.bool),.cells O 0 ((iI (aJ N) j o a).map p64)])
  (fun j O o=>aO N-j) 0 0 (stK N k) ⟨by omega,rfl⟩ ?_ (by simp only[slR,I,PW]) (by simp[iI])
 intro j O o ⟨e2,Y⟩ b0;refine aH (by kernel_rfl) ?_;simp only[PP,simprocAttr];refine tT T (by have:=C.v0;omega) (by have:=C.v6;omega) ?_;rw[show((2:Int)^N.vs.toNat)=((aO N:Nat):Int) by simp];simp only[PP,simprocAttr];have b8:=GF (aJ N) a (stK N k) j;rw[<-Y]at b8;have e3:k<o.length:=by
  obtain⟨r,e⟩:=hH (aJ N) a j (stK N k);rw[Y,e];simp;omega
 have E:(a8 o).length=o.length:=by simp[a8]
 have Q:(k:Int)<o.length:=by omega
 have Z:(a8 o)[k]? =Iz (bE (bM a)):=by obtain⟨r,e⟩:=hH (aJ N) a j (stK N k);unfold a8;rw[Ap,Y,e,Bh c1,ga];rfl
 refine QIf.intro (fun d=>?_) fun d=>?_
 ·have e4:j<aO N:=by omega
  have j0:(0:Int)<=j:=by omega
  have wj:=aC (k:=j) (by show _<1000000000000;omega);have w8:IntKind.u8.wrap (j:Int)=j:=pQ (by omega);have e5:(iI (aJ N) j o a).length=j:=by simp[iI]
  simp only[PP,simprocAttr,d,k0,E,Q,Z,w8];refine LW T C B (by omega) ?_;simp only[PP,simprocAttr];refine CR T (by omega) ?_;have c0:∀x,x<j->aJ N a x∈o:=fun x hx=>by rw[Y];exact(kK _ _ _ j _).2 (.inr ⟨x,hx,rfl⟩)
  have b1:(j+1)*8<=140737488355328:=by omega
  have b2:j+1<=9223372036854775807:=by omega
  have b3:j<=(iI (aJ N) j o a).length:=by omega
  have a0:aZ ((iI (aJ N) j o a).map p64) 0 j=(iI (aJ N) j o a).map p64:=aK _ _ (by simp[iI]);have R:∀o',iI (aJ N) (j+1) o' a=iI (aJ N) j o' a++[((o'.idxOf (aJ N a j):Nat):Int)]:=fun o'=>by unfold iI;rw[Fc,Ax];rfl
  by_cases hm:aJ N a j∈o
  ·have e:cJ (aJ N) a (j+1) (stK N k)=o:=by show cR _ _=_;rw[<-Y];unfold cR;rw[if_pos hm]
   have:=b0 (j+1) (O+1) o ⟨by omega,e.symm⟩ (by omega);have a2:¬((o.idxOf (aJ N a j):Nat):Int)<0:=by omega
   rw[if_pos hm];simp only[PP,simprocAttr,a2];refine CR T (by omega) ?_;rw[if_pos hm];simp only[PP,simprocAttr,b1,b2,b3,wj,a0];refine aR this (by simp only[PW]) ?_;rw[R,Ax];rfl
  ·have e:cJ (aJ N) a (j+1) (stK N k)=o++[aJ N a j]:=by show cR _ _=_;rw[<-Y];unfold cR;rw[if_neg hm]
   have:=b0 (j+1) (O+1) (o++[aJ N a j]) ⟨by omega,e.symm⟩ (by omega);have d1:o.length*24<=140737488355328:=by omega
   have d2:o.length<=9223372036854775807:=by omega
   have c1:(o.length+1)*24<=140737488355328:=by omega
   have c2:o.length+1<=9223372036854775807:=by omega
   have c3:o.length<=(a8 o).length:=by simp[a8]
   have c4:(-1:Int)<0:=by omega
   have c5:aZ ((a8 o).map (slI Jc Jb .i64)) 0 o.length=(a8 o).map (slI Jc Jb .i64):=aK _ _ (by simp[a8]);rw[if_neg hm];have hz:¬o.length=0:=by omega
   simp only[PP,simprocAttr,c4,E,c1,c2,c3,d1,d2,c5,hz];have c6:a8 (o++[aJ N a j])=a8 o++[bE (bM (aJ N a j))]:=by simp[a8]
   have a3:slI Jc Jb .i64 (bE (bM (aJ N a j)))= .sl Jc Jb 1 (bM (aJ N a j)).length ((bE (bM (aJ N a j))).map (PV.int .i64)):=by simp only[slI,Al]
   have b4:(o++[aJ N a j]).idxOf (aJ N a j)=o.length:=by rw[Et,if_neg hm];simp
   have c7:(a8 o).map (slI Jc Jb .i64)++[.sl Jc Jb 1 (bM (aJ N a j)).length ((bE (bM (aJ N a j))).map (PV.int .i64))]=(a8 (o++[aJ N a j])).map (slI Jc Jb .i64):=by rw[c6,Ax,Iy,a3]
   rw[c7];refine S4 T (o:=o++[aJ N a j]) (ver:=0) rfl (by simp) (by simp;omega) ?_;rw[if_pos (by simp),b4];simp only[PP,simprocAttr,b1,b2,b3,wj,a0];have c8:slR Jc Jb Jc Jb .i64 (a8 (o++[aJ N a j]))= .sl Jc Jb 1 (o.length+1) (aZ ((a8 (o++[aJ N a j])).map (slI Jc Jb .i64)) 0 ((o.length+1)*1)):=by
    rw[Cj,aK _ _ (by simp[a8])];simp[slR,a8]
   refine aE (b:=(.ae::p64 u:: .ptr 0 0 0:: .ae:: .ptr 1 0 0:: .ae:: .ae:: .ptr 2 0 0::p64 k:: .ref 6 1 1 0 (o.length+1):: .ref 5 (O+1) 1 0 (j+1)::p64 ((j+1:Nat):Int)::zj 104)) ?_;refine aU (GStep.freeze (b:=(.ae::p64 u:: .ptr 0 0 0:: .ae:: .ptr 1 0 0:: .ae:: .ae:: .ptr 2 0 0::p64 k::slR Jc Jb Jc Jb .i64 (a8 (o++[aJ N a j])):: .ref 5 (O+1) 1 0 (j+1)::p64 ((j+1:Nat):Int)::zj 104)) 6 (Af _) rfl (by simp only[gE,gF,Ak,An,mL,bJ];rw[fW (by simp[a8]) c8];simp only[gE,gF,Ak,An,mL,bJ,cI]) rfl) ?_;refine aU (GStep.drop (b:=(.ae::p64 u:: .ptr 0 0 0:: .ae:: .ptr 1 0 0:: .ae:: .ae:: .ptr 2 0 0::p64 k::slR Jc Jb Jc Jb .i64 (a8 (o++[aJ N a j])):: .ref 5 (O+1) 1 0 (j+1)::p64 ((j+1:Nat):Int)::zj 104)) 6 (Af _) (by simp) (by simp only[PW]) (by simp only[PP,simprocAttr,PV.under]) (by simp only[PP,simprocAttr,bS,aV,PV.under]) rfl) ?_;refine aR this (by simp only[PW]) ?_;rw[R,HS c0,b4,Ax];rfl
 ·obtain rfl:j=aO N:=by omega
  have S:o=stK N (k+1):=by rw[Y,show stK N (k+1)=_ from f9 ga]
  simp only[PP,simprocAttr,d];refine Gh.step (GStep.freeze (b:=(.ae::p64 u:: .ptr 0 0 0:: .ae:: .ptr 1 0 0:: .ae:: .ae:: .ptr 2 0 0::p64 k::slR Jc Jb Jc Jb .i64 (a8 o):: .sl Jc Jb 1 (aO N) ((iI (aJ N) (aO N) o a).map p64)::zj 105)) 5 (Af _) rfl (by simp only[gE,gF,Ak,An,cI,mL,bJ,fW,Cj,Aw,Al,rO,Ac,aK _ _ (S3 (aJ N) (aO N) o a)]) rfl) (Gh.same ?_);simp only[PP,simprocAttr,E];refine QIf.intro (fun e=>?_) fun e=>?_
  ·have hF:(In.n N).fh k:=⟨c1,by rw[<-S];omega⟩;have:=b5 k c2 G J h4 hF;simp only[PP,simprocAttr,hfz,L];exact⟨_,a1 k _ Jb (bc.refl _),this⟩
  simp only[PP,simprocAttr,E,Q];refine⟨⟨by omega,by omega,by omega⟩,?_⟩;rw[aK _ _ (by simp[U])];have d8:=IC C.fi C.n64;refine cL (fun(i:Nat) (f:Bool)=>i<=N.fi.length/\f=(N.fi.take i).any fun q=>a.getLsbD q.toNat) (fun i f=>(.ae::p64 u:: .ptr 0 0 0:: .ae:: .ptr 1 0 0:: .ae:: .ae:: .ptr 2 0 0::p64 k::slR Jc Jb Jc Jb .i64 (a8 o)::zj 3++ .bool f::p64 i::zj 101))
   (fun i f=>[.cells 0 0 (nfC f1 o1 f2 o2 f3 o3 N),.cells 0 0 [p64 0,p64 0,.aa,.aa,.aa,.aa,.aa],.cells 0 (v+1+1) [p64 N.vs,p64 0,.ref 3 (g+1) 1 0 (k+1),.ref 4 g 1 0 k,slR Jc Jb Jc Jb .i64 (a8 o),.aa,.aa],.cells (g+1) 0 ((rwK N k).map (slI Jc Jb .i64)++[.sl Jc Jb 1 (aO N) ((iI (aJ N) (aO N) o a).map p64)]),.cells g 0 ((fnK N k).map PV.bool),.gone])
   (fun i f=>N.fi.length-i) 0 Jc ⟨by omega,by simp⟩ ?_ (by simp only[slR,E,PW]) (by simp only[slR,E])
  intro i f ⟨e6,hf⟩ c9;refine aH (by kernel_rfl) ?_;simp only[PP,simprocAttr];refine QIf.intro (fun q=>?_) fun q=>?_
  ·have hi:i<N.fi.length:=by omega
   obtain⟨x,gx⟩:=aM hi;have x0:=(jA C.fi x (Ae gx)).1;have i0:(0:Int)<=i:=by omega
   have wi:=aC (k:=i) (by show _<1000000000000;omega);have d0:((N.fi.take (i+1)).any fun q=>a.getLsbD q.toNat)=(((N.fi.take i).any fun q=>a.getLsbD q.toNat)||a.getLsbD x.toNat):=by
    rw[Ce,gx,Ik];simp
   have:=c9 (i+1) (f||a.getLsbD x.toNat) ⟨by omega,by rw[d0,hf]⟩ (by omega)
   cases f with
   | true=>rw[Bool.true_or]at this;simp only[PP,simprocAttr,q,wi];exact aE this
   | false=>rw[Bool.false_or]at this;simp only[PP,simprocAttr,q,wi,k0,E,Q,Z,i0,gx];refine zF T (by simp;show _<1000000000000;exact Nat.lt_of_le_of_lt (DT a) (by decide)) ?_;rw[IZ x0];simp only[PP,simprocAttr,wi];exact aE this
  ·obtain rfl:i=N.fi.length:=by omega
   rw[Df]at hf;have hf:f=BQ N a:=hf;subst hf;have d4:(k+1)*1<=140737488355328:=by omega
   have a4:k+1<=140737488355328:=by omega
   have d5:k+1<=9223372036854775807:=by omega
   have d6:k<=(fnK N k).length:=by omega
   simp only[PP,simprocAttr,q,wk,d4,a4,d5,d6];rw[aK _ _ (by simp;omega)];have a5:rwK N (k+1)=rwK N k++[iI (aJ N) (aO N) o a]:=by rw[Y];exact p9 ga
   have a6:=JW ga;have a7:slI Jc Jb .i64 (iI (aJ N) (aO N) o a)= .sl Jc Jb 1 (aO N) ((iI (aJ N) (aO N) o a).map p64):=by simp only[slI,rO]
   refine aU (GStep.drop (b:=(.ae::p64 u:: .ptr 0 0 0:: .ae:: .ptr 1 0 0:: .ae:: .ae:: .ptr 2 0 0::p64 ((k+1:Nat):Int)::zj 107)) 5 (Af _) (by simp) (by simp only[PW]) (by simp only[PP,simprocAttr,PV.under]) (by simp only[PP,simprocAttr,bS,aV,PV.under]) rfl) ?_;refine aR (ih (k+1) (g+1) (v+1+1+1) ⟨by rw[<-S];omega,by rw[<-S];omega,.inl (by omega),fun j hj=>?_⟩ (by omega)) (by simp only[PW]) ?_
   ·by_cases q:j<k
    ·exact G j q
    ·obtain rfl:j=k:=by omega
     exact⟨fun h=>by have h:(stK N j).length<=j:=h;omega,fun h=>by have h:4096<(stK N (j+1)).length:=h.2;rw[<-S]at h;omega⟩
   ·rw[<-S,a5,a6,Ax,Ax,Iy,Iy,a7];rfl
omit T in
def GZ{ow pr:List Int}{u:List Ms}(y:im (aP pr) ow.length u):nV ow.length (Nf (aP pr) u)<=ow.length*mT (aP pr):=EI y.bnd
def CY{R S U Y Z o3 f4 o4:Bool}{ow pr:List Int}{su:List (List Int)}{n:Int}(V:Valid ow pr su)(B:Bnd ow pr su)(ho:∀x∈ow,0<=x)(a5:ow.length*mT (aP pr)<=4000000000000000000)(hn: -1<=n)(a7:n<=9223372036854775807)
  (hk:∀u b,im (aP pr) ow.length u->LI ow.length (mT (aP pr)) (gL ow pr su) (Nf (aP pr) u)->(b=Jb↔pP ow.length (gL ow pr su) (Nf (aP pr) u))->(0<=n->Nf (aP pr) u=itN ow.length (gL ow pr su) n.toNat)->(n<0->b=Jb)->K (.tuple [slM Jc Jb u,.bool b]) M):
  ai tab 56 [gmP R S U Y Z o3 f4 o4 ow pr su,p64 n] M K:=by
 have n0:=V.n0;have n1:=V.n1;have hL:=sT V;have b0:(0:Int)<=ow.length:=by omega
 have a3:(ow.length:Int)*72<=140737488355328:=by omega
 have b2:(ow.length:Int)<=9223372036854775807:=by omega
 refine aF T.h56 (by simp only[PP,simprocAttr,PN,PV.under]) ?_;simp only[af56,PP,simprocAttr,PN,b0,a3,b2,Cc];have O:∀(ver:Nat) (u:List Ms),im (aP pr) ow.length u->∀l:List PV,aD 0 l=Jb->je [.cells 0 0 [slI R S .u8 ow,slI U Y .i64 pr,slR Z o3 f4 o4 .i64 su],.cells 0 ver (msL u)] (gmP R S U Y Z o3 f4 o4 ow pr su:: .ref 1 0 9 0 ow.length::l) (gmP R S U Y Z o3 f4 o4 ow pr su::slM Jb Jc u::l):=fun ver u E l hl=>by
  have rest:∀l:List PV,aD 0 l=Jb->je [.cells 0 0 [slI R S .u8 ow,slI U Y .i64 pr,slR Z o3 f4 o4 .i64 su],.cells 0 ver (msL u)] l l:=by
   intro l
   induction l with
   | nil=>intro _;exact .nil
   | cons x l ih=>intro h;rw[eL,Bool.and_eq_true]at h;exact .same h.1 (ih h.2)
  refine .same (by simp only[PP,simprocAttr]) ?_;rw[<-E.l];exact .ref rfl (by rw[jS];omega) (dM _ _) (fY u) (rest l hl)
 refine jE (fun(j ver:Nat) (u:List Ms)=>im (aP pr) ow.length u/\Nf (aP pr) u=itN ow.length (gL ow pr su) j/\j<=nV ow.length (Nf (aP pr) u)/\(0<=n->(j:Int)<=n))
  (fun j ver u=>(.ae::p64 n:: .ptr 0 0 0::zj 3++ .ref 1 0 9 0 ow.length::p64 j::zj 28))
  (fun j ver u=>[.cells 0 0 [slI R S .u8 ow,slI U Y .i64 pr,slR Z o3 f4 o4 .i64 su],.cells 0 ver (msL u)]) (fun j _ u=>ow.length*mT (aP pr)-nV ow.length (Nf (aP pr) u)) 0 0 (List.replicate ow.length mz) ⟨im.zero (iB pr) _,R0 _ _,Af _,fun h=>h⟩ ?_
 intro j ver u ⟨E,hN,hj,a1⟩ ih;have I:=E.l;have a6:=GZ (ow:=ow) E;have hI:LI ow.length (mT (aP pr)) (gL ow pr su) (Nf (aP pr) u):=by rw[hN];exact M8 hL j
 have jb:j<=4000000000000000000:=by omega
 refine aH (by kernel_rfl) ?_;simp only[PP,simprocAttr];refine QIf.intro (fun c=>?_) fun c=>?_
 ·simp only[PP,simprocAttr,c];have L:n=(j:Int):=by omega
  refine iG (O ver u E [] rfl) (uT T V B ho E (fun v q=>⟨rfl,?_⟩) fun q=>⟨rfl,?_⟩)
  ·have G:¬(v:Int)<0:=by omega
   simp only[PP,simprocAttr,PN,G,JS I];refine hk u Jc E hI ⟨fun h=>(by cases h),fun h=>?_⟩ (fun _=>by rw[hN,L];rfl) (fun h=>by omega);have:=h v q.1;have:=q.2.1;omega
  ·simp only[PP,simprocAttr,PN,JS I];exact hk u Jb E hI ⟨fun _=>q,fun _=>rfl⟩ (fun _=>by rw[hN,L];rfl) fun h=>rfl
 ·have a4:IntKind.i64.wrap ((j:Int)+1)=((j+1:Nat):Int):=by rw[wrap64 (x:=(j:Int)+1) (by omega) (by omega)];omega
  simp only[PP,simprocAttr,c];refine iG (O ver u E [] rfl) (uT T V B ho E (fun v q=>⟨rfl,?_⟩) fun q=>⟨rfl,?_⟩)
  ·have G:¬(v:Int)<0:=by omega
   have v0:(0:Int)<=v:=by omega
   have hv:=q.1;have vn:(v:Int)<ow.length:=by omega
   have v9:v*9+9<=ow.length*9:=by omega
   have vl:v<u.length:=by omega
   simp only[PP,simprocAttr,PN,G];refine iG (O ver u E [p64 v] (by simp only[PP,simprocAttr])) (CQ T V B ho E hv fun y y1 y2=>⟨by simp only[PV.flat,PV.mb,oG],?_⟩);have a0:=tJ (l:=u) y vl;simp only[PP,simprocAttr,PN,v0,vn,v9,I,a0,a4];have a9:=xR (n:=ow.length) (m:=Nf (aP pr) u) (v:=v) (x:=gL ow pr su (Nf (aP pr) u) v) hv q.2.1;have a2:=E.set (k:=v) y1;have Q:=GZ (ow:=ow) a2;have J:Nf (aP pr) (u.set v y)=lM (Nf (aP pr) u) v (gL ow pr su (Nf (aP pr) u) v):=by rw[OZ vl,y2]
   rw[J]at Q;refine aE (ih (j+1) (ver+1) (u.set v y) ⟨a2,?_,by rw[J];omega,fun h=>by have:=a1 h;omega⟩ (by rw[J];omega));show _=pZ ow.length (gL ow pr su) (itN ow.length (gL ow pr su) j);rw[J,hN,o5 (by rw[<-hN];exact q)]
  ·simp only[PP,simprocAttr,PN,JS I];refine hk u Jb E hI ⟨fun _=>q,fun _=>rfl⟩ (fun h=>?_) fun h=>rfl;rw[hN]at q ⊢;obtain⟨d,hd⟩:∃d,n.toNat=j+d:=⟨n.toNat-j,by have:=a1 h;omega⟩;rw[hd,FL q]
end
def aDH(i:In)(u:Int)(M:Mem)(K:PV->Mem->Prop):Prop:=
 ∀m:Nat,((m:Int)<=u\/m=0)->(∀j,j<m->¬i.done j/\¬i.fh j)->∀r,i.rp m r->∀b y:Bool,(b=Jb↔i.done m)->(y=Jb->i.fh m)->(y=Jc->u<=m\/i.done m)->K (.tuple [r.pv,p64 m,.bool b,.bool y]) M
def aDW{ow pr:List Int}{su:List (List Int)}(V:Valid ow pr su)(h:ow.length<=99):ow.length*mT (aP pr)<=4000000000000000000:=by
 have h2:mT (aP pr)<=100^8:=by
  have:=YY 99 (ns:=aP pr) fun n u=>by have:=QN pr n u;have:=V.p;omega
  rw[iB]at this;exact this
 have h3:=Nat.mul_le_mul h h2;have B:99*100^8<=4000000000000000000:=by decide
 omega
section
variable {tab:FuncId->Option AF} (T:HasA tab){M:Mem}{K:PV->Mem->Prop}
include T
def aBT{f o:Bool}{N:NF}{u I:Int}(J:dA N=0)(B:BnN N)(L:u<=9000000000000000000)(G:aDH (.n N) u M K):ai tab 19 [.agg (jbN f o N I),p64 u] M K:=by
 refine bD T.h19 (by simp only[PP,simprocAttr,aV]) ?_;simp only[af19];refine aB ?_;simp only[PP,simprocAttr];refine aFQ T J B L (fun m h1 h2 h3 y E=>?_) fun m h1 h2 h3 y E=>?_
 ·have:=G m h1 h2 ⟨N.vs,rwK N m,fnK N m,a8 (stK N m),[],[]⟩ ⟨rfl,h3,y⟩ (decide ((m:Int)=(a8 (stK N m)).length)) Jc (by rw[decide_eq_true_eq];show _↔(stK N m).length<=m;simp[a8];omega) (fun h=>by cases h) fun _=>E;simp only[PP,simprocAttr,PN];exact this
 ·have:=G m (.inl (by omega)) h2 ⟨N.vs,rwK N m,fnK N m,a8 (stK N m),[],[]⟩ ⟨rfl,h3,y⟩ (decide ((m:Int)=(a8 (stK N m)).length)) Jb (by
   rw[decide_eq_true_eq];show _↔(stK N m).length<=m;simp[a8];omega) (fun _=>E) (fun h=>by cases h)
  simp only[PP,simprocAttr,PN];exact this
def aBU{f o:Bool}{D:DF}{u O:Int}(J:bZ D=0)(B:BnD D)(Q:aDH (.d D) u M K):ai tab 19 [.agg (jbD f o D O),p64 u] M K:=by
 have Z:=(fw.1 J).n1;have L:∀k,(aW D k).length<big:=fun k=>by rw[cD];show _<1000000000000;omega
 refine fM (bD T.h19 (by simp only[PP,simprocAttr,aV]) ?_);simp only[af19];refine aB ?_;simp only[PP,simprocAttr];refine CN (k:=0) T J B ?_;simp only[PP,simprocAttr];have I:∀(m:Nat) (b:Bool),bc (.tuple [.agg [p64 0,p64 0,.aa,.aa,.aa,slI Jc Jb .i64 (aW D m),.aa],p64 m,.bool b,.bool Jc]) (.tuple [Res.pv ⟨0,[],[],[],aW D m,[]⟩,p64 m,.bool b,.bool Jc]):=fun m b=>by
  refine bc.tuple rfl fun i y z p q=>?_
  match i,p,q with
  | 0,p,q=>cases p;cases q;exact pX (bc.aa _ _ _) (bc.aa _ _ _) (bc.aa _ _ _) (bc.refl _) (bc.aa _ _ _)
  | 1,p,q=>cases p;cases q;exact bc.refl _
  | 2,p,q=>cases p;cases q;exact bc.refl _
  | 3,p,q=>cases p;cases q;exact bc.refl _
  | i+4,p,q=>simp at p
 refine cM (fun(n:Nat)=>((n:Int)<=u\/n=0)/\∀j,j<n->aW D (j+1)≠aW D j) (fun n=>(.ae::p64 u:: .ptr 0 0 0:: .ae:: .ptr 1 0 0::zj 6++p64 n::slI Jc Jb .i64 (aW D n)::zj 83)) (fun n=>[.cells 0 0 (jbD f o D O),.cells 0 0 [p64 0,p64 0,.aa,.aa,.aa,.aa,.aa]]) (fun n=>D.nx.length-n) 0 ⟨.inr rfl,fun j h=>absurd h (Eb _)⟩ ?_;intro n ⟨R,G⟩ V;have Y:=LY G;refine aH (by kernel_rfl) ?_;have S:=aC (k:=n) (by show _<1000000000000;omega);simp only[PP,simprocAttr,S];refine CN (k:=n+1) T J B ?_;simp only[PP,simprocAttr];refine jF T (L n) ?_;have pre:∀j,j<n->¬(In.d D).done j/\¬(In.d D).fh j:=fun j U=>⟨G j U,fun q=>q⟩;by_cases e:aW D n=aW D (n+1)
 ·have:=Q n R pre ⟨0,[],[],[],aW D n,[]⟩ rfl Jb Jc ⟨fun _=>e.symm,fun _=>rfl⟩ (fun h=>by cases h) fun _=> .inr e.symm;simp only[PP,simprocAttr,e];rw[<-e];exact⟨_,I n Jb,this⟩
 ·simp only[PP,simprocAttr,e];refine QIf.intro (fun c=>?_) fun c=>?_
  ·have:=Q n R pre ⟨0,[],[],[],aW D n,[]⟩ rfl Jc Jc ⟨(fun h=>by cases h),fun h=>absurd h.symm e⟩ (fun h=>by cases h) fun _=> .inl c;simp only[PP,simprocAttr,c];exact⟨_,I n Jc,this⟩
  ·have E:∀j,j<n+1->aW D (j+1)≠aW D j:=fun j U=>by
    by_cases q:j<n
    ·exact G j q
    ·obtain rfl:j=n:=by omega
     exact fun h=>e h.symm
   have:=LY E;simp only[PP,simprocAttr,c,S];exact aE (V (n+1) ⟨.inl (by omega),E⟩ (by omega))
def aBS{f o:Bool}{ow pr:List Int}{su:List (List Int)}{u Z:Int}(hc:bK ow pr su=0)(B:Bnd ow pr su)(ho:∀x∈ow,0<=x)(J:ow.length<=99)(hu:u<=9000000000000000000)(hk:aDH (.g ow pr su) u M K):ai tab 19 [.agg (jbG f o ow pr su Z),p64 u] M K:=by
 have V:=eZ hc;refine fM (bD T.h19 (by simp only[PP,simprocAttr,aV]) ?_);simp only[af19];refine aB ?_;simp only[PP,simprocAttr];have R:∀(m:Nat) (E:List Ms) (b:Bool),bc (.tuple [.agg [p64 0,p64 0,.aa,.aa,.aa,.aa,slM Jc Jb E],p64 m,.bool b,.bool Jc]) (.tuple [Res.pv ⟨0,[],[],[],[],E⟩,p64 m,.bool b,.bool Jc]):=fun m E b=>by
  refine bc.tuple rfl fun i y z p q=>?_
  match i,p,q with
  | 0,p,q=>cases p;cases q;exact pX (bc.aa _ _ _) (bc.aa _ _ _) (bc.aa _ _ _) (bc.aa _ _ _) (bc.refl _)
  | 1,p,q=>cases p;cases q;exact bc.refl _
  | 2,p,q=>cases p;cases q;exact bc.refl _
  | 3,p,q=>cases p;cases q;exact bc.refl _
  | i+4,p,q=>simp at p
 refine cM (fun(n:Nat)=>((n:Int)<=u\/n=0)/\∀j,j<n->¬(In.g ow pr su).done j) (fun n=>(.ae::p64 u:: .ptr 0 0 0:: .ae:: .ptr 1 0 0::zj 11++p64 n::zj 79)) (fun n=>[.cells 0 0 (jbG f o ow pr su Z),.cells 0 0 [p64 0,p64 0,.aa,.aa,.aa,.aa,.aa]]) (fun n=>u.toNat-n) 0 ⟨.inr rfl,fun j h=>absurd h (Eb _)⟩ ?_;intro n ⟨hn,L⟩ ih;have pre:∀j,j<n->¬(In.g ow pr su).done j/\¬(In.g ow pr su).fh j:=fun j hj=>⟨L j hj,fun q=>q⟩;have a0:(n:Int)<=9000000000000000000:=by omega
 refine aH (by kernel_rfl) ?_;simp only[PP,simprocAttr,PN];have fin:(u<=n\/(In.g ow pr su).done n)->∀(E:List Ms) (b:Bool),im (aP pr) ow.length E->(b=Jb↔pP ow.length (gL ow pr su) (Nf (aP pr) E))->Nf (aP pr) E=itN ow.length (gL ow pr su) n->K (.tuple [Res.pv ⟨0,[],[],[],[],E⟩,p64 n,.bool b,.bool Jc]) M:=fun S E b Q hb G=>
  hk n hn pre ⟨0,[],[],[],[],E⟩ ⟨E,rfl,Q,G⟩ b Jc (by rw[hb,G];exact Iff.rfl) (fun h=>by cases h) fun _=>S
 have n0:(0:Int)<=n:=by omega
 have I:(u<=n\/(In.g ow pr su).done n)->∀{U:Mem} {Y:PV->Mem->Prop},(∀(E:List Ms) (b:Bool),(∃r',bc (.tuple [.agg [p64 0,p64 0,.aa,.aa,.aa,.aa,slM Jc Jb E],p64 n,.bool b,.bool Jc]) r'/\K r' M)->Y (.tuple [slM Jc Jb E,.bool b]) U)->ai tab 56 [gmP f o f o f o f o ow pr su,p64 n] U Y:=fun S {U Y} O=>
  CY T V B ho (aDW V J) (by omega) (by omega) fun E b Q hI hb G _=>O E b ⟨_,R n E b,fin S E b Q hb (by have:=G n0;simpa using this)⟩
 refine QIf.intro (fun c=>?_) fun c=>?_
 ·simp only[PP,simprocAttr,PN,c];refine CY T V B ho (aDW V J) (by omega) (by omega) fun E b Q hI hb G _=>?_;have G:=G n0;rw[Int.toNat_natCast]at G;have hd:b=Jb↔(In.g ow pr su).done n:=by rw[hb,G];exact Iff.rfl
  cases b with
  | true=>simp only[PP,simprocAttr,PN];refine I (.inr (hd.1 rfl)) fun E b O=>?_;simp only[PP,simprocAttr,PN];exact O
  | false=>
   have wn:IntKind.i64.wrap ((n:Int)+1)=((n+1:Nat):Int):=by rw[wrap64 (x:=(n:Int)+1) (by omega) (by omega)];omega
   simp only[PP,simprocAttr,PN,wn];exact aE (ih (n+1) ⟨.inl (by omega),fun j hj=>by
    by_cases q:j<n
    ·exact L j q
    ·obtain rfl:j=n:=by omega
     exact fun h=>by have:=hd.2 h;cases this⟩ (by omega)) (by simp only[PW])
 ·simp only[PP,simprocAttr,PN,c];refine I (.inl (by omega)) fun E b O=>?_;simp only[PP,simprocAttr,PN];exact O
end
def e9(u:List (List UInt8)):List UInt8:=u.flatMap fun x=>32::x
def j5(w:List UInt8)(r:List (List UInt8)):e9 (w::r)=32::(w++e9 r):=by simp[e9]
def YL(a b:List Nat):bE (a++b)=bE a++bE b:=by simp[bE]
abbrev rfO(v:Nat)(f o:Bool)(r:RF):bp:= .cells 0 v [slI f o .i64 (bE r.l),.bool r.sh,.bool r.od]
def OkF(r:RF):Prop:=(∀n∈r.l,n<=2147483647)/\r.l.length<=100000000
def OkF.next{r:RF}(h:OkF r):OkF r.next.2/\r.next.1<=2147483647:=by
 obtain⟨l,e,la⟩:=r
 cases l with
 | nil=>exact⟨⟨fun n y=>absurd y (by simp[RF.next]),by simp[RF.next]⟩,by simp[RF.next]⟩
 | cons n l=>exact⟨⟨fun x u=>h.1 x (by simp[RF.next]at u ⊢;exact .inr u),by have:=h.2;simp[RF.next]at this ⊢;omega⟩,h.1 n (by simp)⟩
def OkF.small{r:RF}(h:OkF r)(k:Nat):OkF (r.small k).2:=by
 unfold RF.small;split
 ·exact h.next.1
 ·exact h.next.1
def OkF.list{r:RF}(h:OkF r)(n:Nat):OkF (RF.list n r).2:=by
 unfold RF.list;split
 ·exact h
 ·refine⟨fun x u=>h.1 x (List.mem_of_mem_drop u),?_⟩;have:=h.2;simp;omega
def OkF.each{σ:Type}{f:σ->RF->σ×RF}(hf:∀s r,OkF r->OkF (f s r).2):∀(n:Nat) (s:σ) (r:RF),OkF r->OkF (cF f n s r).2
 | 0,s,r,h=>h
 | n+1,s,r,h=>by
  unfold cF;split
  ·exact h
  ·exact OkF.each hf n _ _ (hf s r h)
def zX(m v:Nat)(f o:Bool)(r:RF):aG m (rfO v f o r)=Jb:=by simp only[aG,aD,PV.under,aL,Bool.and_true,Bool.and_self]
section
variable {tab:FuncId->Option AF} (T:HasA tab){M:Mem}{K:PV->Mem->Prop}
include T
def aBx{E:List (List UInt8)}(O:∀w∈E,∀b∈w,b≠32)(hm:(e9 E).length<=100000000)
  (S:∀u,gB E=Iz u->K (.tuple [slI Jc Jb .i64 (bE u),.bool Jb]) M) (U:gB E=Ja->K (.tuple [.aa,.bool Jc]) M):ai tab 66 [fR (e9 E)] M K:=by
 refine bD T.h66 (by simp only[PP,simprocAttr,PT]) ?_;simp only[af66];refine aA (aB ?_);simp only[PP,simprocAttr];refine aA (aB ?_);simp only[PP,simprocAttr];refine aU (GStep.nil 4 1 rfl rfl rfl) ?_;refine aB ?_;simp only[PP,simprocAttr];refine vC (fun(d r:List (List UInt8)) (u:List Nat) (g:Nat)=>E=d++r/\gB d=Iz u/\(e9 r).length<=100000000/\u.length+(e9 r).length<=100000000) (fun d r u g=>(fR (e9 r)::zj 3++ .ref 0 g 1 0 u.length::zj 38))
  (fun d r u g=>[.cells g 0 ((bE u).map p64)]) (fun d r u g=>r.length) [] E [] 0 ⟨rfl,rfl,hm,by simpa using hm⟩ ?_
 intro d r u g ⟨y,hd,hr,J⟩ R;refine aH (by kernel_rfl) ?_;simp only[PP,simprocAttr,PT];rw[eF]
 match r,y,hr,J,R with
 | [],y,hr,J,R=>
  have h0:¬(0:Int)<((e9 []).length:Nat):=by simp[e9]
  rw[Bm]at y;have:=S u (by rw[y];exact hd);have L:aZ ((bE u).map p64) 0 u.length=(bE u).map p64:=aK _ _ (by simp);have hfz:pN (Iz (bp.cells g 0 ((bE u).map p64))) g 1 0 u.length=Iz (slI Jc Jb .i64 (bE u)):=by
   rw[cQ (by simp) (aL _ _ _),Cj,L];simp only[slI,bE,Al]
  simp only[PP,simprocAttr,PT,h0,hfz];exact this
 | w::r,y,hr,J,R=>
  have G:=j5 w r;have hl:(e9 (w::r)).length=w.length+(e9 r).length+1:=by rw[G];simp
  have h0:(0:Int)<((e9 (w::r)).length:Nat):=by omega
  have V:w∈E:=by rw[y];simp
  have I:=eF (e9 (w::r));have B:=xT (e9 (w::r));have g0:(e9 (w::r))[0]? =Iz 32:=by rw[G];rfl
  have Q:((UInt8.toNat 32:Nat):Int)=32:=rfl;simp only[PP,simprocAttr,PT,h0,B,g0,Q];refine cM (fun(e:Nat)=>1<=e/\e<=w.length+1) (fun e=>(fR (e9 (w::r))::zj 3++ .ref 0 g 1 0 u.length::p64 e::zj 37)) (fun e=>[.cells g 0 ((bE u).map p64)]) (fun e=>w.length+1-e) 1 ⟨by omega,by omega⟩ ?_;intro e ⟨a0,a1⟩ Y;refine aH (by kernel_rfl) ?_;by_cases he:e<=w.length
  ·have hlt:(e:Int)<((e9 (w::r)).length:Nat):=by omega
   have e0:(0:Int)<=e:=by omega
   have we:=aC (k:=e) (by show _<1000000000000;omega);obtain⟨b,gb⟩:=aM (xs:=w) (k:=e-1) (by omega);have ge:(e9 (w::r))[e]? =Iz b:=by
    rw[G,show e=(e-1)+1 by omega,Bv,Bh (by omega)];exact gb
   have hb:¬((b.toNat:Nat):Int)=32:=fun q=>O w V b (Ae gb) (UInt8.toNat_inj.1 (by show b.toNat=32;omega));simp only[PP,simprocAttr,PT,I,B,hlt,e0,ge,hb,we];exact aE (Y (e+1) ⟨by omega,by omega⟩ (by omega))
  obtain rfl:e=w.length+1:=by omega
  have Z:((e9 (w::r)).length=w.length+1)\/(w.length+1<(e9 (w::r)).length/\(e9 (w::r))[w.length+1]? =Iz 32):=by
   match r,G,hl with
   | [],G,hl=>exact .inl (by rw[hl];simp[e9])
   | v::r',G,hl=>refine .inr ⟨by rw[hl,j5];simp,?_⟩;rw[G,Bv,Bo (Ac _),Cs,j5];rfl
  have x1:(((e9 (w::r)).take (w.length+1)).drop 1)=w:=by rw[G];simp
  have x2:(((e9 (w::r)).take (e9 (w::r)).length).drop (w.length+1))=e9 r:=by rw[Df,G];simp
  have y1:(1:Int)<=((w.length+1:Nat):Int):=by omega
  have y2:((w.length+1:Nat):Int)<=((e9 (w::r)).length:Nat):=by omega
  have y0:(0:Int)<=((w.length+1:Nat):Int):=by omega
  have ext:=xU (e9 (w::r));have c8:(u.length+1)*8<=140737488355328:=by omega
  have c1:u.length+1<=9223372036854775807:=by omega
  have cp:u.length<=((bE u).map p64).length:=by simp
  have L:aZ ((bE u).map p64) 0 u.length=(bE u).map p64:=aK _ _ (by simp);have none_of:kE w=Ja->gB E=Ja:=fun h=>by
   rw[y,tL _ hd,MU h];rfl
  rcases Z with q | ⟨q1,q2⟩;have hlt:¬((w.length+1:Nat):Int)<((e9 (w::r)).length:Nat):=by omega
  simp only[PP,simprocAttr,PT,I,B,hlt,ext,x1,y0,y1,y2,De];rotate_left;have hlt:((w.length+1:Nat):Int)<((e9 (w::r)).length:Nat):=by omega
  simp only[PP,simprocAttr,PT,I,B,hlt,q2,Q,ext,x1,y0,y1,y2,De];all_goals
   refine aBv T (by omega) (fun n O=>?_) fun O=>?_
   ·simp only[PP,simprocAttr,PT,I,B,ext,x2,y0,y1,y2,De,c8,c1,cp,L];refine⟨by omega,aR (R (d++[w]) r (u++[n]) (g+1) ⟨by rw[y];simp,by rw[tL _ hd];unfold gB;rw[O];rfl,by omega,by simp;omega⟩ (by simp)) (by simp only[List.length_append,List.length_cons,Bb,Aw,PW]) ?_⟩;rw[YL,Ax];rfl
   ·simp only[PP,simprocAttr,PT];exact U (none_of O)
def fK{A G:Mem}{K:PV->Mem->Prop}{v:Nat}{f o:Bool}{r:RF}(hr:OkF r)(u:∀B E I,K (p64 (r.next.1:Int)) (A++(rfO B E I r.next.2::G))):ai tab 112 [.ptr A.length 0 0] (A++(rfO v f o r::G)) K:=by
 obtain⟨l,e,la⟩:=r;refine aN T.h112 ?_
 cases l with
 | nil=>simp only[af112,bE,PP,simprocAttr,PT,gk0,sk0];exact u (v+1) f o
 | cons n l=>
  have hz:¬((l.length+1:Nat):Int)=0:=by omega
  have J:(0:Int)<((l.length+1:Nat):Int):=by omega
  have h1:(1:Int)<=((l.length+1:Nat):Int):=by omega
  have L:(((l.length+1:Nat):Int)-1).toNat=l.length:=by omega
  have y:aZ (((bE l)).map p64) 0 l.length=(bE l).map p64:=aK _ _ (by simp);simp only[bE]at y;have:=u (v+1) (if o=Jb then f else f) o;simp only[rfO,slI,RF.next,bE,Al]at this;simp only[af112,bE,PP,simprocAttr,PT,gk0,sk0,hz,J,h1,L,y];exact⟨Cc _,this⟩
def wY{A G:Mem}{K:PV->Mem->Prop}{v n:Nat}{f o:Bool}{r:RF}(hr:OkF r)(hn:n<=2147483647)(hA:A.all (aG (A.length+(G.length+1)))=Jb)(hG:G.all (aG (A.length+(G.length+1)))=Jb)
  (u:∀R S U,K (slI Jc Jb .i64 (RF.list n r).1) (A++(rfO R S U (RF.list n r).2::G))):ai tab 113 [.ptr A.length 0 0,p64 (n:Int)] (A++(rfO v f o r::G)) K:=by
 obtain⟨y,B⟩:=hr;obtain⟨l,e,la⟩:=r;simp only at y B;refine fM (aN T.h113 ?_);have J:(0:Int)<=n:=by omega
 by_cases c:l.length<n
 ·have E:(l.length:Int)<n:=by omega
  have I:RF.list n ⟨l,e,la⟩=([],⟨l,Jb,la⟩):=by unfold RF.list;rw[if_pos c]
  rw[I]at u;simp only[bE,PP,simprocAttr]at u;simp only[af113,bE,PP,simprocAttr,PT,gk0,sk0,E];exact⟨_,bc.aa _ _ _,u (v+1) f o⟩
 ·have E:¬(l.length:Int)<n:=by omega
  have I:RF.list n ⟨l,e,la⟩=(bE (l.take n),⟨l.drop n,e,la⟩):=by unfold RF.list;rw[if_neg c]
  rw[I]at u;have L:(n:Int)<=l.length:=by omega
  have O:((l.length:Int)-n).toNat=l.length-n:=by omega
  have V:aZ ((bE l).map p64) 0 n=(bE (l.take n)).map p64:=by unfold aZ;simp[bE,List.map_take]
  have Q:aZ ((bE l).map p64) n (l.length-n)=(bE (l.drop n)).map p64:=by unfold aZ;rw[Ba (by simp)];simp[bE,List.map_drop]
  have Y:((n:Int)-0).toNat=n:=by omega
  have Z:∀x:Bool,PV.sl x o 1 n ((bE (l.take n)).map p64)=slI x o .i64 (bE (l.take n)):=fun x=>by simp only[slI,bE,Al,List.length_take,Da (Nat.not_lt.1 c)]
  simp only[af113,PP,simprocAttr,PT,gk0,sk0,E,L,O,Y,J,V,Q,Z];refine fU T (by simp;show _<1000000000000;omega) ?_;have:=u (v+1) (if o=Jb then f else f) o;simp only[rfO,slI,bE,Al,Ga]at this;simp only[PP,simprocAttr,PT,gk0,sk0,L,O,J,Q];simp only[slI,bE,Al,Ga];exact⟨Cc _,_,bc.refl _,this⟩
def sB{A G:Mem}{K:PV->Mem->Prop}{v lim:Nat}{f o:Bool}{r:RF}(hr:OkF r)(hl:lim<=255)(I:∀u y B,K (.int .u8 ((r.small lim).1:Int)) (A++(rfO u y B (r.small lim).2::G))):ai tab 114 [.ptr A.length 0 0,p64 (lim:Int)] (A++(rfO v f o r::G)) K:=by
 refine aN T.h114 ?_;simp only[af114,PP,simprocAttr,PT];refine fK T hr fun u y B=>?_;simp only[PP,simprocAttr,PT,gk0,sk0];refine QIf.intro (fun c=>?_) fun c=>?_
 ·have E:lim<r.next.1:=by omega
  have:=I (u+1) y B;simp only[RF.small,PP,simprocAttr,E]at this;simp only[PP,simprocAttr,PT,gk0,sk0];exact this
 ·have E:¬lim<r.next.1:=by omega
  have:=I u y B;have hw:IntKind.u8.wrap ((r.next.1:Nat):Int)=((r.next.1:Nat):Int):=pQ (by omega);simp only[RF.small,PP,simprocAttr,E]at this;simp only[PP,simprocAttr,PT,gk0,sk0,hw];exact this
end
end Go.Am.Ar
--P14
namespace Go.Am.Ar
open Go.Am.PV renaming ae->Zj
open Go.Am renaming jd->P1,ku->P2,kg->P3,ec->P4,bp.under->P5,gi->P6,di->P7,bu->P8,pev->P9,iy->P10,ay->P11,jq->P12,dq->P13,cG->P14,AO.effect->P15
open List renaming replicate->L1
structure LF where
 k:Nat
 v:Nat
 f:Bool
 o:Bool
 r:RF
 v2:Nat
 g:Nat
def mA{σ:Type}{f:σ->RF->σ×RF}{n k:Nat}{s:σ}{r:RF}(h:k<n)(hs:r.sh=Jc):cF f (n-k) s r=cF f (n-(k+1)) (f s r).1 (f s r).2:=by rw[show n-k=(n-(k+1))+1 by omega,cF,if_neg (by rw[hs];decide)]
def j9{σ:Type}{f:σ->RF->σ×RF}{n k:Nat}{s:σ}{r:RF}(h:¬k<n\/r.sh=Jb):cF f (n-k) s r=(s,r):=by
 rcases h with h | h
 ·rw[show n-k=0 by omega];rfl
 ·exact t7 f _ s h
section
variable {tab:FuncId->Option AF} (T:HasA tab){M:Mem}{K:PV->Mem->Prop}
include T
def aEX{A:Mem}{K:PV->Mem->Prop}{v:Nat}{f o:Bool}{r:RF}(hr:OkF r)(hA:A.all (aG (A.length+1))=Jb)
  (L:∀v' f' o',K (.agg (nfC Jc Jb Jc Jb Jc Jb r.nfa.1)) (A++[rfO v' f' o' r.nfa.2])):ai tab 67 [.ptr A.length 0 0] (A++[rfO v f o r]) K:=by
 have hG:∀(a b:bp),aG (A.length+(1+1+1)) a=Jb->aG (A.length+(1+1+1)) b=Jb->([a,b]:Mem).all (aG (A.length+(1+1+1)))=Jb:=fun a b ha hb=>by simp[ha,hb]
 have J:A.all (aG (A.length+(1+1+1)))=Jb:=bC (by omega) hA;unfold RF.nfa at L;simp only at L;refine mJ (cA T.h67 ?_);simp only[af67];refine aA (aB ?_);simp only[PP,P14,simprocAttr,PT,Ab];refine aA (aB ?_);simp only[PP,P14,simprocAttr,PT,Ab,gk,gk0,sk,sk0];obtain⟨h1,b1⟩:=hr.next;refine fK T hr fun v f o=>?_;generalize r.next=O at*;simp only[PP,P14,simprocAttr,PT,Ab,gk,gk0,sk,sk0];obtain⟨h2,b2⟩:=h1.next;refine fK T h1 fun v f o=>?_;generalize O.2.next=Q at*;simp only[PP,P14,simprocAttr,PT,Ab,gk,gk0,sk,sk0];refine aA (aB ?_);simp only[PP,P14,simprocAttr,PT,Ab,gk,gk0,sk,sk0];obtain⟨h3,b3⟩:=h2.next;refine fK T h2 fun v f o=>?_;generalize Q.2.next=R at*;simp only[PP,P14,simprocAttr,PT,Ab,gk,gk0,sk,sk0];have h4:=h3.list R.1;refine wY T h3 b3 (by simpa using J) (by simpa using hG _ _ (by simp[aG,aD,PV.under]) (by simp[aG,aD,PV.under])) fun v f o=>?_;generalize RF.list R.1 R.2=S at*;simp only[PP,P14,simprocAttr,PT,Ab,gk,gk0,sk,sk0];refine aA (aB ?_);simp only[PP,P14,simprocAttr,PT,Ab,gk,gk0,sk,sk0];obtain⟨h5,b5⟩:=h4.next;refine fK T h4 fun v f o=>?_;generalize S.2.next=U at*;simp only[PP,P14,simprocAttr,PT,Ab,gk,gk0,sk,sk0];have h6:=h5.list U.1;refine wY T h5 b5 (by simpa using J) (by simpa using hG _ _ (by simp[aG,aD,PV.under]) (by simp[aG,aD,PV.under,aL])) fun v f o=>?_;generalize RF.list U.1 U.2=V at*;simp only[PP,P14,simprocAttr,PT,Ab,gk,gk0,sk,sk0];refine aU (GStep.dy (A.length+(1+1)) 4 4 (by rw[gk];rfl) rfl (by simp only[PP,P14,simprocAttr,Ab,sk,sk0];rfl)) ?_;refine aA (aB ?_);simp only[PP,P14,simprocAttr,PT,Ab,gk,gk0,sk,sk0];obtain⟨h7,b7⟩:=h6.next;refine fK T h6 fun v f o=>?_;generalize V.2.next=u at*;simp only[PP,P14,simprocAttr,PT,Ab,gk,gk0,sk,sk0];refine aB ?_;simp only[PP,P14,simprocAttr,PT,Ab,gk,gk0,sk,sk0];refine jE (fun(s:LF) (B:List Eg) (Z:Mem)=>s.k<=u.1/\OkF s.r/\B.length=s.k/\cF (fun y r=>(y++[(jN r).1],(jN r).2)) (u.1-s.k) B s.r=cF (fun y r=>(y++[(jN r).1],(jN r).2)) u.1 [] u.2)
  (fun s B Z=>(.ptr A.length 0 0:: .ae:: .ptr (A.length+1) 0 0:: .ptr (A.length+(1+1)) 0 0::p64 u.1::p64 s.k::zj 48))
  (fun s B Z=>A++(rfO s.v s.f s.o s.r:: .cells 0 0 [p64 0,p64 0,.aa,.aa,.aa]:: .cells 0 s.v2 [p64 O.1,p64 Q.1,slI Jc Jb .i64 S.1,slI Jc Jb .i64 V.1,.ref (A.length+(1+1+1)) s.g 4 0 s.k]:: .cells s.g 0 (egL B)::Z))
  (fun s B Z=>u.1-s.k) ⟨0,v,f,o,u.2,3,0⟩ [] [] ⟨Af _,h7,rfl,rfl⟩ ?_ (by simp only[PW]) (by simp only[PP,P14,simprocAttr,QZ])
 rintro⟨k,v,f,o,E,v2,g⟩ B Z ⟨Y,G,hl,he⟩ ih;simp only at Y G hl he ih ⊢;refine aH (by kernel_rfl) ?_;have stop:¬k<u.1\/E.sh=Jb->(B,E)=cF (fun y r=>(y++[(jN r).1],(jN r).2)) u.1 [] u.2:=fun h=>by rw[<-he,j9 h]
 have ht:∀(o:bp) (X:Mem),Cu (A.length+1) (A++o::X)=A++[o]:=fun o X=>by rw[show A++o::X=(A++[o])++X by simp,Au (by simp)]
 have fin:∀I:Mem,I[A.length+3]? =Iz (.cells g 0 (egL B))->I.take (A.length+1)=A++[rfO v f o E]->(¬k<u.1\/E.sh=Jb)->∃r2 N,fG (A.length+1) I (.agg [p64 O.1,p64 Q.1,slI Jc Jb .i64 S.1,slI Jc Jb .i64 V.1,.ref (A.length+3) g 4 0 k])=Iz r2/\jM (A.length+1) I (I.take (A.length+1))=Iz N/\K r2 N:=fun I m1 m2 h=>by
  have:=L v f o;rw[<-stop h]at this;refine⟨_,_,?_,?_,this⟩
  ·have q5:=eB (n:=A.length+1) (sz:=4) (off:=0) (k:=k) (by omega) m1 (by rw[eW,hl];omega) (bS _ _);rw[m7 hl]at q5;simp only[fG,cO,dS,q5,yO,TP (aL _ _ _),slI];subst hl;rfl
  ·rw[m2];refine gZ ?_;rw[Bl,hA,Cb,zX];rfl
 by_cases c1:(k:Int)<u.1
 ·cases hs:E.sh with
  | false=>
   have hw:=aC (k:=k) (by show _<1000000000000;omega);have p1:(k+1)*24<=140737488355328:=by omega
   have p2:k+1<=9223372036854775807:=by omega
   have p3:k*4<=(egL B).length:=by rw[eW];omega
   have pe:aZ (egL B) 0 (k*4)=egL B:=m7 hl;have a0:=mA (f:=fun y r=>(y++[(jN r).1],(jN r).2)) (s:=B) (show k<u.1 by omega) hs;obtain⟨q1,_⟩:=G.next;obtain⟨q2,_⟩:=q1.next;simp only[PP,P14,simprocAttr,PT,Ab,gk,gk0,sk,sk0,c1,hs];refine fK T G fun v f o=>?_;simp only[PP,P14,simprocAttr,PT,Ab,gk,gk0,sk,sk0];refine fK T q1 fun v f o=>?_;simp only[PP,P14,simprocAttr,PT,Ab,gk,gk0,sk,sk0];refine sB (lim:=255) T q2 (by omega) fun v f o=>?_;simp only[PP,P14,simprocAttr,PT,Ab,gk,gk0,sk,sk0];refine sB (lim:=255) T (q2.small 255) (by omega) fun v f o=>?_;simp only[PP,P14,simprocAttr,PT,Ab,gk,gk0,sk,sk0,p1,p2,p3,pe,hw,w6];refine aR (ih ⟨k+1,v,f,o,(jN E).2,v2+1,g+1⟩ (B++[(jN E).1]) (Z++[bp.cells 0 3 (egC (jN E).1)]) ⟨by show k+1<=_;omega,(q2.small 255).small 255,by simp[hl],by rw[<-he,a0]⟩ (by show u.1-(k+1)<u.1-k;omega)) (by simp only[PW]) ?_;rw[<-Q0];rfl
  | true=>simp only[PP,P14,simprocAttr,PT,Ab,gk,gk0,sk,sk0,c1,hs];exact fin _ (by rw[gk];rfl) (by rw[ht]) (.inr hs)
 ·simp only[PP,P14,simprocAttr,PT,Ab,gk,gk0,sk,sk0,c1];exact fin _ (by rw[gk];rfl) (by rw[ht]) (.inl (by omega))
def aE3{A:Mem}{K:PV->Mem->Prop}{v:Nat}{f o:Bool}{r:RF}(hr:OkF r)(hA:A.all (aG (A.length+1))=Jb)
  (V:∀v' f' o',K (.agg (dfC Jc Jb Jc Jb Jc Jb r.dfa.1)) (A++[rfO v' f' o' r.dfa.2])):ai tab 68 [.ptr A.length 0 0] (A++[rfO v f o r]) K:=by
 have hb:∀k,(A.length==A.length+(k+1))=Jc:=fun k=>by simp
 have ht:∀(o:bp) (X:Mem),Cu (A.length+1) (A++o::X)=A++[o]:=fun o X=>by rw[show A++o::X=(A++[o])++X by simp,Au (by simp)]
 have a3:∀n,A.length+1<=n->A.all (aG n)=Jb:=fun n h=>bC h hA;unfold RF.dfa at V;simp only at V;refine mJ (cA T.h68 ?_);simp only[af68];refine aA (aB ?_);simp only[PP,simprocAttr,PT,Ab,gk,gk0,sk,sk0];refine aA (aB ?_);simp only[PP,simprocAttr,PT,Ab,gk,gk0,sk,sk0];obtain⟨h1,b1⟩:=hr.next;refine fK T hr fun v f o=>?_;generalize r.next=E at*;simp only[PP,simprocAttr,PT,Ab,gk,gk0,sk,sk0];obtain⟨h2,b2⟩:=h1.next;refine fK T h1 fun v f o=>?_;generalize E.2.next=Y at*;simp only[PP,simprocAttr,PT,Ab,gk,gk0,sk,sk0];refine aU (GStep.dy (A.length+2) 2 1 (by rw[gk];rfl) rfl (by simp only[PP,simprocAttr,PT,Ab,gk,gk0,sk,sk0];rfl)) ?_;refine aU (GStep.dy (A.length+2) 3 1 (by rw[gk];rfl) rfl (by simp only[PP,simprocAttr,PT,Ab,gk,gk0,sk,sk0];rfl)) ?_;refine aA (aB ?_);simp only[PP,simprocAttr,PT,Ab,gk,gk0,sk,sk0];obtain⟨h3,b3⟩:=h2.next;refine fK T h2 fun v f o=>?_;generalize Y.2.next=B at*;simp only[PP,simprocAttr,PT,Ab,gk,gk0,sk,sk0];have hm:min (E.1:Int) 6=((min E.1 6:Nat):Int):=by omega
 have hs:bL .shl (.int .i64 1) (.int .i64 ((min E.1 6:Nat):Int))=Iz (.int .i64 ((2^(min E.1 6):Nat):Int)):=by rw[wL (by omega) (by omega)];simp
 have a4:2^(min E.1 6)<=2^6:=Nat.pow_le_pow_right (by omega) (by omega);refine aA (fF (Qn:=fun b N=>∃(s:LF) (nx:List (List Int)),(OkF s.r/\nx.length=s.k/\s.k<=B.1/\(nx,s.r)=cF (fun u y=>(u++[(RF.list (2^(min E.1 6)) y).1],(RF.list (2^(min E.1 6)) y).2)) B.1 [] B.2)/\dl b (.ptr A.length 0 0:: .ae:: .ptr (A.length+1) 0 0:: .ptr (A.length+2) 0 0::p64 B.1::zj 53)/\
   N=A++(rfO s.v s.f s.o s.r:: .cells 0 0 [p64 0,p64 0,.aa,.aa]:: .cells 0 s.v2 [p64 E.1,p64 Y.1,.ref (A.length+3) s.g 1 0 s.k,.ref (A.length+4) 0 1 0 0]:: .cells s.g 0 (nx.map (slI Jc Jb .i64))::[.cells 0 0 []])) ?_ ?_ (fun _ _ h=>h) fun _ _ _ h=>h)
 ·refine aA (aB ?_);simp only[PP,simprocAttr,PT,Ab,gk,gk0,sk,sk0];refine dJ ?_;refine cL (fun(s:LF) (nx:List (List Int))=>s.k<=B.1/\OkF s.r/\nx.length=s.k/\cF (fun u y=>(u++[(RF.list (2^(min E.1 6)) y).1],(RF.list (2^(min E.1 6)) y).2)) (B.1-s.k) nx s.r=cF (fun u y=>(u++[(RF.list (2^(min E.1 6)) y).1],(RF.list (2^(min E.1 6)) y).2)) B.1 [] B.2)
   (fun s nx=>(.ptr A.length 0 0:: .ae:: .ptr (A.length+1) 0 0:: .ptr (A.length+2) 0 0::p64 B.1::p64 s.k::zj 52))
   (fun s nx=>A++(rfO s.v s.f s.o s.r:: .cells 0 0 [p64 0,p64 0,.aa,.aa]:: .cells 0 s.v2 [p64 E.1,p64 Y.1,.ref (A.length+3) s.g 1 0 s.k,.ref (A.length+4) 0 1 0 0]:: .cells s.g 0 (nx.map (slI Jc Jb .i64))::[.cells 0 0 []]))
   (fun s nx=>B.1-s.k) ⟨0,v,f,o,B.2,1,0⟩ [] ⟨Af _,h3,rfl,rfl⟩ ?_ (by simp only[PW]) (by simp only[PP,simprocAttr,PT,Ab,gk,gk0,sk,sk0])
  rintro⟨k,v,f,o,y,Q,g⟩ nx ⟨J,G,hl,he⟩ Z;simp only at J G hl he Z ⊢;refine aH (by kernel_rfl) ?_;have stop:¬k<B.1\/y.sh=Jb->(nx,y)=cF (fun u y=>(u++[(RF.list (2^(min E.1 6)) y).1],(RF.list (2^(min E.1 6)) y).2)) B.1 [] B.2:=fun h=>by rw[<-he,j9 h]
  by_cases R:(k:Int)<B.1
  ·cases I:y.sh with
   | false=>
    have hw:=aC (k:=k) (by show _<1000000000000;omega);have p1:(k+1)*24<=140737488355328:=by omega
    have p2:k+1<=9223372036854775807:=by omega
    have S:=mA (f:=fun u y=>(u++[(RF.list (2^(min E.1 6)) y).1],(RF.list (2^(min E.1 6)) y).2)) (s:=nx) (show k<B.1 by omega) I;simp only[PP,simprocAttr,PT,Ab,gk,gk0,sk,sk0,R,I,gY,hm,hs];refine wY T G (by omega) (a3 _ (by simp)) (by simp[aG,aD,PV.under,aT]) fun v f o=>?_;simp only[PP,simprocAttr,PT,Ab,gk,gk0,sk,sk0,dG,bU,hb,p1,p2,hl,hw];rw[aK _ _ (by simp[hl])];refine aR (Z ⟨k+1,v,f,o,(RF.list (2^(min E.1 6)) y).2,Q+1,g+1⟩ (nx++[(RF.list (2^(min E.1 6)) y).1]) ⟨by show k+1<=_;omega,G.list _,by simp[hl],by rw[<-he,S]⟩ (by show B.1-(k+1)<B.1-k;omega)) (by simp only[PW]) ?_;rw[Ax];rfl
   | true=>simp only[PP,simprocAttr,PT,Ab,gk,gk0,sk,sk0,R,I];exact⟨⟨k,v,f,o,y,Q,g⟩,nx,⟨G,hl,J,stop (.inr I)⟩,(by simp only[PW]),rfl⟩
  ·simp only[PP,simprocAttr,PT,Ab,gk,gk0,sk,sk0,R];exact⟨⟨k,v,f,o,y,Q,g⟩,nx,⟨G,hl,J,stop (.inl (by omega))⟩,(by simp only[PW]),rfl⟩
 rintro b N ⟨⟨k1,v,f,o,r1,Q,g1⟩,nx,⟨a1,O,a0,a2⟩,hw,rfl⟩;simp only at a1 O a0 a2 ⊢;refine aE ?_ hw;rw[<-a2]at V;simp only at V;refine aB ?_;simp only[PP,simprocAttr,PT,Ab,gk,gk0,sk,sk0];refine cL (fun(s:LF) (L:List Bool)=>s.k<=B.1/\OkF s.r/\L.length=s.k/\cF (fun u r=>(u++[decide ((RF.small 1 r).1=1)],(RF.small 1 r).2)) (B.1-s.k) L s.r=cF (fun u r=>(u++[decide ((RF.small 1 r).1=1)],(RF.small 1 r).2)) B.1 [] r1)
  (fun s L=>(.ptr A.length 0 0:: .ae:: .ptr (A.length+1) 0 0:: .ptr (A.length+2) 0 0::p64 B.1:: .ae::p64 s.k::zj 51))
  (fun s L=>A++(rfO s.v s.f s.o s.r:: .cells 0 0 [p64 0,p64 0,.aa,.aa]:: .cells 0 s.v2 [p64 E.1,p64 Y.1,.ref (A.length+3) g1 1 0 k1,.ref (A.length+4) s.g 1 0 s.k]:: .cells g1 0 (nx.map (slI Jc Jb .i64))::[.cells s.g 0 (L.map .bool)]))
  (fun s L=>B.1-s.k) ⟨0,v,f,o,r1,Q,0⟩ [] ⟨Af _,a1,rfl,rfl⟩ ?_
 rintro⟨k,v,f,o,y,Q,g⟩ L ⟨J,G,hl,he⟩ Z;simp only at J G hl he Z ⊢;refine aH (by kernel_rfl) ?_;have stop:¬k<B.1\/y.sh=Jb->(L,y)=cF (fun u r=>(u++[decide ((RF.small 1 r).1=1)],(RF.small 1 r).2)) B.1 [] r1:=fun h=>by rw[<-he,j9 h]
 have fin:∀U:Mem,U[A.length+3]? =Iz (.cells g1 0 (nx.map (slI Jc Jb .i64)))->U[A.length+4]? =Iz (.cells g 0 (L.map .bool))->U.take (A.length+1)=A++[rfO v f o y]->(¬k<B.1\/y.sh=Jb)->∃r2 N,fG (A.length+1) U (.agg [p64 E.1,p64 Y.1,.ref (A.length+3) g1 1 0 k1,.ref (A.length+4) g 1 0 k])=Iz r2/\jM (A.length+1) U (U.take (A.length+1))=Iz N/\K r2 N:=fun U m1 m3 m2 h=>by
  have:=V v f o;rw[<-stop h]at this;refine⟨_,_,?_,?_,this⟩
  ·have q5:=eB (n:=A.length+1) (sz:=1) (off:=0) (k:=k1) (by omega) m1 (by simp[O]) (aT _ _ _ _ _);have q6:=eB (n:=A.length+1) (sz:=1) (off:=0) (k:=k) (by omega) m3 (by simp[hl]) (bF _ _);rw[aK _ _ (by simp[O])]at q5;rw[aK _ _ (by simp[hl])]at q6;simp only[fG,cO,dS,q5,q6,yO];subst hl O;rfl
  ·rw[m2];refine gZ ?_;rw[Bl,hA,Cb,zX];rfl
 by_cases R:(k:Int)<B.1
 ·cases I:y.sh with
  | false=>
   have hw:=aC (k:=k) (by show _<1000000000000;omega);have p1:k+1<=140737488355328:=by omega
   have p2:k+1<=9223372036854775807:=by omega
   have hd:decide (((y.small 1).1:Int)=1)=decide ((y.small 1).1=1):=by rw[decide_eq_decide];omega
   have S:=mA (f:=fun u r=>(u++[decide ((RF.small 1 r).1=1)],(RF.small 1 r).2)) (s:=L) (show k<B.1 by omega) I;simp only[PP,simprocAttr,PT,Ab,gk,gk0,sk,sk0,R,I];refine sB (lim:=1) T G (by omega) fun v f o=>?_;simp only[PP,simprocAttr,PT,Ab,gk,gk0,sk,sk0,dG,bU,hb,p1,p2,hl,hd,hw];rw[aK _ _ (by simp[hl])];refine aR (Z ⟨k+1,v,f,o,(y.small 1).2,Q+1,g+1⟩ (L++[decide ((y.small 1).1=1)]) ⟨by show k+1<=_;omega,G.small 1,by simp[hl],by rw[<-he,S]⟩ (by show B.1-(k+1)<B.1-k;omega)) (by simp only[PW]) ?_;rw[Ax];rfl
  | true=>simp only[PP,simprocAttr,PT,Ab,gk,gk0,sk,sk0,R,I];exact fin _ (by rw[gk];rfl) (by rw[gk];rfl) (by rw[ht]) (.inr I)
 ·simp only[PP,simprocAttr,PT,Ab,gk,gk0,sk,sk0,R];exact fin _ (by rw[gk];rfl) (by rw[gk];rfl) (by rw[ht]) (.inl (by omega))
def aCD{A:Mem}{K:PV->Mem->Prop}{v:Nat}{f o:Bool}{r:RF}(hr:OkF r)(hA:A.all (aG (A.length+1))=Jb)
  (Y:∀v' f' o',K (gmP Jc Jb Jc Jb Jc Jb Jc Jb r.dp.1.1 r.dp.1.2.1 r.dp.1.2.2) (A++[rfO v' f' o' r.dp.2])):ai tab 69 [.ptr A.length 0 0] (A++[rfO v f o r]) K:=by
 have hb:∀k,(A.length==A.length+(k+1))=Jc:=fun k=>by simp
 have ht:∀(o:bp) (X:Mem),Cu (A.length+1) (A++o::X)=A++[o]:=fun o X=>by rw[show A++o::X=(A++[o])++X by simp,Au (by simp)]
 have a6:∀n,A.length+1<=n->A.all (aG n)=Jb:=fun n h=>bC h hA;unfold RF.dp at Y;simp only at Y;refine mJ (cA T.h69 ?_);simp only[af69];refine aA (aB ?_);simp only[PP,simprocAttr,PT,Ab,gk,gk0,sk,sk0];refine aA (aB ?_);simp only[PP,simprocAttr,PT,Ab,gk,gk0,sk,sk0];refine aU (GStep.dy (A.length+2) 0 1 (by rw[gk];rfl) rfl (by simp only[PP,simprocAttr,PT,Ab,gk,gk0,sk,sk0];rfl)) ?_;refine aU (GStep.dy (A.length+2) 1 1 (by rw[gk];rfl) rfl (by simp only[PP,simprocAttr,PT,Ab,gk,gk0,sk,sk0];rfl)) ?_;refine aU (GStep.dy (A.length+2) 2 1 (by rw[gk];rfl) rfl (by simp only[PP,simprocAttr,PT,Ab,gk,gk0,sk,sk0];rfl)) ?_;refine aA (aB ?_);simp only[PP,simprocAttr,PT,Ab,gk,gk0,sk,sk0];obtain⟨h1,b1⟩:=hr.next;refine fK T hr fun v f o=>?_;generalize r.next=y at*;simp only[PP,simprocAttr,PT,Ab,gk,gk0,sk,sk0];refine aA (fF (Qn:=fun b N=>∃(s:LF) (ow:List Int),(OkF s.r/\ow.length=s.k/\s.k<=y.1/\(ow,s.r)=cF (fun u r=>(u++[((RF.small 255 r).1:Int)],(RF.small 255 r).2)) y.1 [] y.2)/\dl b (.ptr A.length 0 0:: .ae:: .ptr (A.length+1) 0 0:: .ptr (A.length+2) 0 0::p64 y.1::zj 65)/\
   N=A++(rfO s.v s.f s.o s.r:: .cells 0 0 [.aa,.aa,.aa]:: .cells 0 s.v2 [.ref (A.length+3) s.g 1 0 s.k,.ref (A.length+4) 0 1 0 0,.ref (A.length+5) 0 1 0 0]:: .cells s.g 0 (ow.map p8)::[.cells 0 0 [],.cells 0 0 []])) ?_ ?_ (fun _ _ h=>h) fun _ _ _ h=>h)
 ·refine aA (aB ?_);simp only[PP,simprocAttr,PT,Ab,gk,gk0,sk,sk0];refine dJ ?_;refine cL (fun(s:LF) (ow:List Int)=>s.k<=y.1/\OkF s.r/\ow.length=s.k/\cF (fun u r=>(u++[((RF.small 255 r).1:Int)],(RF.small 255 r).2)) (y.1-s.k) ow s.r=cF (fun u r=>(u++[((RF.small 255 r).1:Int)],(RF.small 255 r).2)) y.1 [] y.2)
   (fun s ow=>(.ptr A.length 0 0:: .ae:: .ptr (A.length+1) 0 0:: .ptr (A.length+2) 0 0::p64 y.1::p64 s.k::zj 64))
   (fun s ow=>A++(rfO s.v s.f s.o s.r:: .cells 0 0 [.aa,.aa,.aa]:: .cells 0 s.v2 [.ref (A.length+3) s.g 1 0 s.k,.ref (A.length+4) 0 1 0 0,.ref (A.length+5) 0 1 0 0]:: .cells s.g 0 (ow.map p8)::[.cells 0 0 [],.cells 0 0 []]))
   (fun s ow=>y.1-s.k) ⟨0,v,f,o,y.2,0,0⟩ [] ⟨Af _,h1,rfl,rfl⟩ ?_ (by simp only[PW]) (by simp only[PP,simprocAttr,PT,Ab,gk,gk0,sk,sk0])
  rintro⟨k,v,f,o,G,J,g⟩ ow ⟨I,B,hl,he⟩ S;simp only at I B hl he S ⊢;refine aH (by kernel_rfl) ?_;have stop:¬k<y.1\/G.sh=Jb->(ow,G)=cF (fun u r=>(u++[((RF.small 255 r).1:Int)],(RF.small 255 r).2)) y.1 [] y.2:=fun h=>by rw[<-he,j9 h]
  by_cases L:(k:Int)<y.1
  ·cases E:G.sh with
   | false=>
    have hw:=aC (k:=k) (by show _<1000000000000;omega);have p1:k+1<=140737488355328:=by omega
    have p2:k+1<=9223372036854775807:=by omega
    have O:=mA (f:=fun u r=>(u++[((RF.small 255 r).1:Int)],(RF.small 255 r).2)) (s:=ow) (show k<y.1 by omega) E;simp only[PP,simprocAttr,PT,Ab,gk,gk0,sk,sk0,L,E];refine sB (lim:=255) T B (by omega) fun v f o=>?_;simp only[PP,simprocAttr,PT,Ab,gk,gk0,sk,sk0,dG,bU,hb,p1,p2,hl,hw];rw[aK _ _ (by simp[hl])];refine aR (S ⟨k+1,v,f,o,(G.small 255).2,J+1,g+1⟩ (ow++[((G.small 255).1:Int)]) ⟨by show k+1<=_;omega,B.small 255,by simp[hl],by rw[<-he,O]⟩ (by show y.1-(k+1)<y.1-k;omega)) (by simp only[PW]) ?_;rw[Ax];rfl
   | true=>simp only[PP,simprocAttr,PT,Ab,gk,gk0,sk,sk0,L,E];exact⟨⟨k,v,f,o,G,J,g⟩,ow,⟨B,hl,I,stop (.inr E)⟩,(by simp only[PW]),rfl⟩
  ·simp only[PP,simprocAttr,PT,Ab,gk,gk0,sk,sk0,L];exact⟨⟨k,v,f,o,G,J,g⟩,ow,⟨B,hl,I,stop (.inl (by omega))⟩,(by simp only[PW]),rfl⟩
 rintro b N ⟨⟨k1,v,f,o,r1,J,U⟩,ow,⟨a2,Q,a0,a3⟩,hw,rfl⟩;simp only at a2 Q a0 a3 ⊢;refine aE ?_ hw;rw[<-a3]at Y;simp only at Y;refine aA (fF (Qn:=fun b N=>∃(s:LF) (pr:List Int),(OkF s.r/\pr.length=s.k/\s.k<=y.1/\(pr,s.r)=cF (fun u r=>(u++[((RF.next r).1:Int)],(RF.next r).2)) y.1 [] r1)/\dl b (.ptr A.length 0 0:: .ae:: .ptr (A.length+1) 0 0:: .ptr (A.length+2) 0 0::p64 y.1::zj 65)/\
   N=A++(rfO s.v s.f s.o s.r:: .cells 0 0 [.aa,.aa,.aa]:: .cells 0 s.v2 [.ref (A.length+3) U 1 0 k1,.ref (A.length+4) s.g 1 0 s.k,.ref (A.length+5) 0 1 0 0]:: .cells U 0 (ow.map p8):: .cells s.g 0 (pr.map p64)::[.cells 0 0 []])) ?_ ?_ (fun _ _ h=>h) fun _ _ _ h=>h)
 ·refine aA (aB ?_);simp only[PP,simprocAttr,PT,Ab,gk,gk0,sk,sk0];refine dJ ?_;refine cL (fun(s:LF) (pr:List Int)=>s.k<=y.1/\OkF s.r/\pr.length=s.k/\cF (fun u r=>(u++[((RF.next r).1:Int)],(RF.next r).2)) (y.1-s.k) pr s.r=cF (fun u r=>(u++[((RF.next r).1:Int)],(RF.next r).2)) y.1 [] r1)
   (fun s pr=>(.ptr A.length 0 0:: .ae:: .ptr (A.length+1) 0 0:: .ptr (A.length+2) 0 0::p64 y.1:: .ae::p64 s.k::zj 63))
   (fun s pr=>A++(rfO s.v s.f s.o s.r:: .cells 0 0 [.aa,.aa,.aa]:: .cells 0 s.v2 [.ref (A.length+3) U 1 0 k1,.ref (A.length+4) s.g 1 0 s.k,.ref (A.length+5) 0 1 0 0]:: .cells U 0 (ow.map p8):: .cells s.g 0 (pr.map p64)::[.cells 0 0 []]))
   (fun s pr=>y.1-s.k) ⟨0,v,f,o,r1,J,0⟩ [] ⟨Af _,a2,rfl,rfl⟩ ?_
  rintro⟨k,v,f,o,G,J,g⟩ pr ⟨I,B,hl,he⟩ S;simp only at I B hl he S ⊢;refine aH (by kernel_rfl) ?_;have stop:¬k<y.1\/G.sh=Jb->(pr,G)=cF (fun u r=>(u++[((RF.next r).1:Int)],(RF.next r).2)) y.1 [] r1:=fun h=>by rw[<-he,j9 h]
  by_cases L:(k:Int)<y.1
  ·cases E:G.sh with
   | false=>
    have hw:=aC (k:=k) (by show _<1000000000000;omega);have p1:(k+1)*8<=140737488355328:=by omega
    have p2:k+1<=9223372036854775807:=by omega
    have O:=mA (f:=fun u r=>(u++[((RF.next r).1:Int)],(RF.next r).2)) (s:=pr) (show k<y.1 by omega) E;simp only[PP,simprocAttr,PT,Ab,gk,gk0,sk,sk0,L,E];refine fK T B fun v f o=>?_;simp only[PP,simprocAttr,PT,Ab,gk,gk0,sk,sk0,dG,bU,hb,p1,p2,hl,hw];rw[aK _ _ (by simp[hl])];refine aR (S ⟨k+1,v,f,o,G.next.2,J+1,g+1⟩ (pr++[(G.next.1:Int)]) ⟨by show k+1<=_;omega,B.next.1,by simp[hl],by rw[<-he,O]⟩ (by show y.1-(k+1)<y.1-k;omega)) (by simp only[PW]) ?_;rw[Ax];rfl
   | true=>simp only[PP,simprocAttr,PT,Ab,gk,gk0,sk,sk0,L,E];exact⟨⟨k,v,f,o,G,J,g⟩,pr,⟨B,hl,I,stop (.inr E)⟩,(by simp only[PW]),rfl⟩
  ·simp only[PP,simprocAttr,PT,Ab,gk,gk0,sk,sk0,L];exact⟨⟨k,v,f,o,G,J,g⟩,pr,⟨B,hl,I,stop (.inl (by omega))⟩,(by simp only[PW]),rfl⟩
 rintro b N ⟨⟨k2,v,f,o,Z,J,g2⟩,pr,⟨a4,R,a1,a5⟩,hw,rfl⟩;simp only at a4 R a1 a5 ⊢;refine aE ?_ hw;rw[<-a5]at Y;simp only at Y;refine aB ?_;simp only[PP,simprocAttr,PT,Ab,gk,gk0,sk,sk0];refine cL (fun(s:LF) (su:List (List Int))=>s.k<=y.1/\OkF s.r/\su.length=s.k/\cF (fun u r=>(u++[(RF.list (RF.next r).1 (RF.next r).2).1],(RF.list (RF.next r).1 (RF.next r).2).2)) (y.1-s.k) su s.r=cF (fun u r=>(u++[(RF.list (RF.next r).1 (RF.next r).2).1],(RF.list (RF.next r).1 (RF.next r).2).2)) y.1 [] Z)
  (fun s su=>(.ptr A.length 0 0:: .ae:: .ptr (A.length+1) 0 0:: .ptr (A.length+2) 0 0::p64 y.1:: .ae:: .ae::p64 s.k::zj 62))
  (fun s su=>A++(rfO s.v s.f s.o s.r:: .cells 0 0 [.aa,.aa,.aa]:: .cells 0 s.v2 [.ref (A.length+3) U 1 0 k1,.ref (A.length+4) g2 1 0 k2,.ref (A.length+5) s.g 1 0 s.k]:: .cells U 0 (ow.map p8):: .cells g2 0 (pr.map p64)::[.cells s.g 0 (su.map (slI Jc Jb .i64))]))
  (fun s su=>y.1-s.k) ⟨0,v,f,o,Z,J,0⟩ [] ⟨Af _,a4,rfl,rfl⟩ ?_
 rintro⟨k,v,f,o,G,J,g⟩ su ⟨I,B,hl,he⟩ S;simp only at I B hl he S ⊢;refine aH (by kernel_rfl) ?_;have stop:¬k<y.1\/G.sh=Jb->(su,G)=cF (fun u r=>(u++[(RF.list (RF.next r).1 (RF.next r).2).1],(RF.list (RF.next r).1 (RF.next r).2).2)) y.1 [] Z:=fun h=>by rw[<-he,j9 h]
 have fin:∀V:Mem,V[A.length+3]? =Iz (.cells U 0 (ow.map p8))->V[A.length+4]? =Iz (.cells g2 0 (pr.map p64))->V[A.length+5]? =Iz (.cells g 0 (su.map (slI Jc Jb .i64)))->V.take (A.length+1)=A++[rfO v f o G]->(¬k<y.1\/G.sh=Jb)->∃Z N,fG (A.length+1) V (.agg [.ref (A.length+3) U 1 0 k1,.ref (A.length+4) g2 1 0 k2,.ref (A.length+5) g 1 0 k])=Iz Z/\jM (A.length+1) V (V.take (A.length+1))=Iz N/\K Z N:=fun V m1 m3 m4 m2 h=>by
  have:=Y v f o;rw[<-stop h]at this;refine⟨_,_,?_,?_,this⟩
  ·have q5:=eB (n:=A.length+1) (sz:=1) (off:=0) (k:=k1) (by omega) m1 (by simp[Q]) (aL _ _ _);have q6:=eB (n:=A.length+1) (sz:=1) (off:=0) (k:=k2) (by omega) m3 (by simp[R]) (aL _ _ _);have q7:=eB (n:=A.length+1) (sz:=1) (off:=0) (k:=k) (by omega) m4 (by simp[hl]) (aT _ _ _ _ _);rw[aK _ _ (by simp[Q])]at q5;rw[aK _ _ (by simp[R])]at q6;rw[aK _ _ (by simp[hl])]at q7;simp only[fG,cO,dS,q5,q6,q7];subst hl Q R;rfl
  ·rw[m2];refine gZ ?_;rw[Bl,hA,Cb,zX];rfl
 by_cases L:(k:Int)<y.1
 ·cases E:G.sh with
  | false=>
   have hw:=aC (k:=k) (by show _<1000000000000;omega);have p1:(k+1)*24<=140737488355328:=by omega
   have p2:k+1<=9223372036854775807:=by omega
   have O:=mA (f:=fun u r=>(u++[(RF.list (RF.next r).1 (RF.next r).2).1],(RF.list (RF.next r).1 (RF.next r).2).2)) (s:=su) (show k<y.1 by omega) E;obtain⟨q1,q2⟩:=B.next;simp only[PP,simprocAttr,PT,Ab,gk,gk0,sk,sk0,L,E];refine fK T B fun v f o=>?_;simp only[PP,simprocAttr,PT,Ab,gk,gk0,sk,sk0,dG,bU,hb];refine wY T q1 q2 (a6 _ (by simp)) (by simp[aG,aD,PV.under,aT,aL]) fun v f o=>?_;simp only[PP,simprocAttr,PT,Ab,gk,gk0,sk,sk0,dG,bU,hb,p1,p2,hl,hw];rw[aK _ _ (by simp[hl])];refine aR (S ⟨k+1,v,f,o,(RF.list G.next.1 G.next.2).2,J+1,g+1⟩ (su++[(RF.list G.next.1 G.next.2).1]) ⟨by show k+1<=_;omega,q1.list _,by simp[hl],by rw[<-he,O]⟩ (by show y.1-(k+1)<y.1-k;omega)) (by simp only[PW]) ?_;rw[Ax];rfl
  | true=>simp only[PP,simprocAttr,PT,Ab,gk,gk0,sk,sk0,L,E];exact fin _ (by rw[gk];rfl) (by rw[gk];rfl) (by rw[gk];rfl) (by rw[ht]) (.inr E)
 ·simp only[PP,simprocAttr,PT,Ab,gk,gk0,sk,sk0,L];exact fin _ (by rw[gk];rfl) (by rw[gk];rfl) (by rw[gk];rfl) (by rw[ht]) (.inl (by omega))
end
end Go.Am.Ar
--P14
namespace Go.Am.Ar
open Go.Am.PV renaming ae->Zj
open Go.Am renaming jd->P1,ku->P2,kg->P3,ec->P4,bp.under->P5,gi->P6,di->P7,bu->P8,pev->P9,iy->P10,ay->P11,jq->P12,dq->P13,cG->P14,AO.effect->P15
open List renaming replicate->L1
def jbI(f o:Bool)(i:In)(u:Int):List PV:=match i with
 | .n N=>jbN f o N u
 | .d D=>jbD f o D u
 | .g ow pr su=>jbG f o ow pr su u
abbrev jb0:List PV:=[p64 0,p64 0,p64 0,.aa,.aa,.aa,p64 0,p64 0,.aa,.aa,.aa,.aa,.aa,p64 0]
def FK(f o:Bool)(i:In)(u:Int):(jbI f o i u).length=14:=by cases i<;>rfl
def ZK(f o:Bool)(i:In)(u:Int):(jbI f o i u)[13]? =Iz (p64 u):=by cases i<;>rfl
def JM(f o:Bool)(i:In)(u:Int):aZ (jbI f o i u) 0 14=jbI f o i u:=aK _ _ (FK ..).symm
def QR(m:Nat)(f o:Bool)(i:In)(u:Int):aD m (jbI f o i u)=Jb:=by cases i<;>simp[jbI,jbN,jbD,jbG,aD,PV.under,aL,aT,bF,bS]
def QS(f o:Bool)(i:In)(u:Int):(jbI f o i u).all PV.one=Jb:=by cases i<;>rfl
def aCz(M:Mem)(f o:Bool)(i:In)(u:Int):dS 0 M (jbI f o i u)=Iz (jbI f o i u):=by
 refine C4 rfl fun k v x h1 h2=>?_;rw[h1]at h2;cases h2;have y:=(dE 0 _).1 (QR 0 f o i u) v (Ae h1)
 cases i<;>(match k,h1 with
  | 0,h1 | 1,h1 | 2,h1 | 3,h1 | 4,h1 | 5,h1 | 6,h1 | 7,h1 | 8,h1 | 9,h1 | 10,h1 | 11,h1 | 12,h1 | 13,h1=>cases h1;unfold bX;simp only[y,if_true]
  | k+14,h1=>simp[jbI]at h1)
def kdW(w:List UInt8):Nat:=if w=kwD then 1 else if w=kwM then 2 else if w=kwP then 3 else 0
def ZB(w:List UInt8):kdW w=0↔¬(w=kwD\/w=kwM\/w=kwP):=by
 unfold kdW;by_cases h1:w=kwD
 ·rw[if_pos h1];simp[h1]
 by_cases h2:w=kwM
 ·rw[if_neg h1,if_pos h2];simp[h2]
 by_cases h3:w=kwP
 ·rw[if_neg h1,if_neg h2,if_pos h3];simp[h3]
 ·rw[if_neg h1,if_neg h2,if_neg h3];simp[h1,h2,h3]
def pE(w:List UInt8):(w=kwD/\kdW w=1)\/(w=kwM/\kdW w=2)\/(w=kwP/\kdW w=3)\/(w≠kwD/\w≠kwM/\w≠kwP/\kdW w=0):=by
 unfold kdW;by_cases h1:w=kwD
 ·exact .inl ⟨h1,if_pos h1⟩
 rw[if_neg h1];by_cases h2:w=kwM
 ·exact .inr (.inl ⟨h2,if_pos h2⟩)
 rw[if_neg h2];by_cases h3:w=kwP
 ·exact .inr (.inr (.inl ⟨h3,if_pos h3⟩))
 exact .inr (.inr (.inr ⟨h1,h2,h3,if_neg h3⟩))
def FI(w:List UInt8):decide (w=kwD)=decide (kdW w=1)/\decide (w=kwM)=decide (kdW w=2)/\decide (w=kwP)=decide (kdW w=3):=by
 have d1:kwM≠kwD:=by decide
 have d2:kwP≠kwD:=by decide
 have d3:kwP≠kwM:=by decide
 rcases pE w with⟨rfl,h⟩ | ⟨rfl,h⟩ | ⟨rfl,h⟩ | ⟨h1,h2,h3,h⟩
 ·rw[h];simp[d1.symm,d2.symm]
 ·rw[h];simp[d1,d3.symm]
 ·rw[h];simp[d2,d3]
 ·rw[h];simp[h1,h2,h3]
def WkL:List PV->List PV->Prop
 | [],[]=>True
 | x::a,y::b=>(y=x\/x= .aa/\∃u own sz,y= .sl u own sz 0 [])/\WkL a b
 | _,_=>False
def WkL.rep:∀{a b:List PV},WkL a b->∀w u,ak w a u->ak w b u
 | [],[],_,w,u,h=>h
 | x::a,y::b,hw,w,[],h=>by have:=h.len;simp at this
 | x::a,y::b,hw,w,c::u,h=>by
  refine .cons ?_ (WkL.rep hw.2 w u h.tl);rcases hw.1 with rfl | ⟨rfl,B,own,sz,rfl⟩
  ·exact h.hd
  ·exact bc.aa _ _ _ w c h.hd
 | [],_::_,hw,w,u,h=>hw.elim
 | _::_,[],hw,w,u,h=>hw.elim
structure qd (t:List UInt8) (M:Mem) (K:PV->Mem->Prop):Prop where
 err:∀e,bI t= .err e->K (.tuple [.agg jb0,p64 e]) M
 bad:∀i u,bI t= .ok i u->i.chk≠0->K (.tuple [.agg jb0,p64 i.chk]) M
 few:∀i u,bI t= .ok i u->i.chk=0->∀m,m<u->(i.done m\/i.fh m)->(∀j,j<m->¬i.done j/\¬i.fh j)->K (.tuple [.agg jb0,p64 1]) M
 ok:∀i u,bI t= .ok i u->i.chk=0->(∀j,j<u->¬i.done j/\¬i.fh j)->K (.tuple [.agg (jbI Jc Jb i u),p64 0]) M
section
variable {tab:FuncId->Option AF} (T:HasA tab){M:Mem}{K:PV->Mem->Prop}
include T
def W8{f o:Bool}{i:In}{u:Int}(y:i.Bw)(B:K (p64 i.chk) M):ai tab 12 [.agg (jbI f o i u)] M K:=by
 cases i with
 | n N=>refine aF T.h12 (by simp only[jbI,PP,P14,simprocAttr,aV]) ?_;simp only[af12,jbI,PP,P14,simprocAttr];refine aAf T y ?_;simp only[PP,P14,simprocAttr];exact B
 | d D=>refine aF T.h12 (by simp only[jbI,PP,P14,simprocAttr,aV]) ?_;simp only[af12,jbI,PP,P14,simprocAttr];refine CX T y ?_;simp only[PP,P14,simprocAttr];exact B
 | g ow pr su=>refine aF T.h12 (by simp only[jbI,PP,P14,simprocAttr,aV]) ?_;simp only[af12,jbI,PP,P14,simprocAttr];refine L0 T y ?_;simp only[PP,P14,simprocAttr];exact B
def W9{f o:Bool}{i:In}{u I:Int}(B:i.chk=0)(y:i.Bn)(J:i.Pos)(G:u<=9000000000000000000)(E:aDH i u M K):ai tab 19 [.agg (jbI f o i I),p64 u] M K:=by
 cases i with
 | n N=>exact aBT T B y G E
 | d D=>exact aBU T B y.1 E
 | g ow pr su=>exact aBS T B y.1 J y.2 G E
def aBN{l:List UInt8}(hs:l.length<=100000000)(b3:∀i u,bI l= .ok i u->i.Bw/\(i.chk=0->i.B99)/\i.Pos)(h:qd l M K):ai tab 26 [fR l] M K:=by
 obtain⟨w,G,hsp⟩:∃w G,bP 32 l=w::G:=by
  have:=s9 32 l;revert this
  match bP 32 l with
  | []=>exact fun h=>absurd rfl h
  | w::G=>exact fun _=>⟨w,G,rfl⟩
 have a5:=CG 32 l;rw[hsp]at a5;have hw:=a5 w (by simp);have b4:∀x∈G,∀b∈x,b≠32:=fun x hx=>a5 x (by simp[hx]);have hl:l=w++e9 G:=by
  have:=qG l;rw[hsp]at this;exact this.symm
 have B:bI l=if w=kwD\/w=kwM\/w=kwP then match gB G with | none=> .err 2 | some y=>kH w y else .err 6:=by unfold bI;rw[hsp];rfl
 have L:l.length=w.length+(e9 G).length:=by rw[hl];simp
 have Q:=eF l;have a0:=xT l;have ext:=xU l;refine bD T.h26 (by simp only[PP,P14,simprocAttr,PT]) ?_;simp only[af26];refine aA (aB ?_);simp only[PP,P14,simprocAttr,PT];refine aA (aB ?_);simp only[PP,P14,simprocAttr,PT];refine aA (fF (Qn:=fun b N=>dl b (fR l:: .ae:: .ptr 0 0 0:: .ae::p64 w.length::zj 135)/\N=[.cells 0 0 jb0]) ?_ ?_ (fun _ _ h=>h) fun _ _ _ h=>h)
 ·refine dJ ?_;refine cM (fun(k:Nat)=>k<=w.length) (fun k=>(fR l:: .ae:: .ptr 0 0 0:: .ae::p64 k::zj 135)) (fun k=>[.cells 0 0 jb0]) (fun k=>w.length-k) 0 (by omega) ?_;intro k hk ih;refine aH (by kernel_rfl) ?_;by_cases he:k<w.length
  ·have hlt:(k:Int)<l.length:=by omega
   have k0:(0:Int)<=k:=by omega
   have wk:=aC (k:=k) (by show _<1000000000000;omega);obtain⟨b,gb⟩:=aM he;have ge:l[k]? =Iz b:=by rw[hl,Bh he];exact gb
   have hb:¬((b.toNat:Nat):Int)=32:=fun q=>hw b (Ae gb) (UInt8.toNat_inj.1 (by show b.toNat=32;omega));simp only[PP,P14,simprocAttr,PT,Q,a0,hlt,k0,ge,hb,wk];exact aE (ih (k+1) (by omega) (by omega))
  obtain rfl:k=w.length:=by omega
  have b5:l.length=w.length\/(w.length<l.length/\l[w.length]? =Iz 32):=by
   match G,hl,L with
   | [],hl,L=>exact .inl (by rw[L];simp[e9])
   | v::d4,hl,L=>refine .inr ⟨by rw[L,j5];simp,?_⟩;rw[hl,Bo (Ac _),Cs,j5];rfl
  have k0:(0:Int)<=w.length:=by omega
  have b6:((UInt8.toNat 32:Nat):Int)=32:=rfl;rcases b5 with q | ⟨q1,q2⟩
  ·have hlt:¬(w.length:Int)<l.length:=by omega
   simp only[PP,P14,simprocAttr,PT,Q,hlt];exact(by simp only[PW])
  ·have hlt:(w.length:Int)<l.length:=by omega
   simp only[PP,P14,simprocAttr,PT,Q,a0,hlt,k0,q2,b6];exact(by simp only[PW])
 rintro b N ⟨J,rfl⟩;refine aE ?_ J;have w0:(0:Int)<=w.length:=by omega
 have wl:(w.length:Int)<=l.length:=by omega
 have xw:(l.take w.length).drop 0=w:=by rw[hl];simp
 refine aA (aB ?_);simp only[PP,P14,simprocAttr,PT,Q,ext,w0,wl,xw,De];refine aA (aB ?_);simp only[PP,P14,simprocAttr,PT];refine aA (aB ?_);simp only[PP,P14,simprocAttr,PT];have qe:∀k:List UInt8,bL .eql (fR w) (fR k)=Iz (.bool (decide (w=k))):=fun k=>by rw[rG];congr 2;rw[decide_eq_decide];exact mc
 have q1:bL .eql (fR w) (.str ⟨#[100,101,116,101,114,109,105,110,105,122,101]⟩)=Iz (.bool (decide (kdW w=1))):=(qe kwD).trans (by rw[(FI w).1]);have q2:bL .eql (fR w) (.str ⟨#[109,105,110,105,109,105,122,101]⟩)=Iz (.bool (decide (kdW w=2))):=(qe kwM).trans (by rw[(FI w).2.1]);have q3:bL .eql (fR w) (.str ⟨#[109,101,97,115,117,114,101,115]⟩)=Iz (.bool (decide (kdW w=3))):=(qe kwP).trans (by rw[(FI w).2.2]);have d1:kwM≠kwD:=by decide
 have d2:kwP≠kwD:=by decide
 have d3:kwP≠kwM:=by decide
 refine aA (fF (Qn:=fun b N=>dl b (fR l:: .ae:: .ptr 0 0 0:: .ae:: .ae::fR w:: .ptr 1 0 0::zj 133)/\∃v,N=[.cells 0 0 jb0,.cells 0 v [p64 (kdW w),p64 0,p64 0,.aa,.aa,.aa,p64 0,p64 0,.aa,.aa,.aa,.aa,.aa,p64 0]]) ?_ ?_ (fun _ _ h=>h) fun _ _ _ h=>h)
 ·refine aA (aB ?_);simp only[PP,P14,simprocAttr,PT];refine dJ ?_;refine cL (fun(k v:Nat)=>1<=k/\k<=4) (fun k v=>(fR l:: .ae:: .ptr 0 0 0:: .ae:: .ae::fR w:: .ptr 1 0 0:: .sl Jb Jb 1 4 [.str ⟨#[]⟩,.str ⟨#[100,101,116,101,114,109,105,110,105,122,101]⟩,.str ⟨#[109,105,110,105,109,105,122,101]⟩,.str ⟨#[109,101,97,115,117,114,101,115]⟩]::p64 k::zj 131)) (fun k v=>[.cells 0 0 jb0,.cells 0 v [p64 (if kdW w<k then kdW w else 0:Nat),p64 0,p64 0,.aa,.aa,.aa,p64 0,p64 0,.aa,.aa,.aa,.aa,.aa,p64 0]]) (fun k v=>4-k) 1 0 ⟨by omega,by omega⟩ ?_ (by simp only[PW]) ?_;rotate_left
  ·have:(if kdW w<1 then kdW w else 0)=0:=by split<;>omega
   rw[this];rfl
  intro k v ⟨d5,d6⟩ ih;refine aH (by kernel_rfl) ?_;have hk:k=1\/k=2\/k=3\/k=4:=by omega
  rcases hk with rfl | rfl | rfl | rfl
  ·have I:=fun v=>ih 2 v ⟨by omega,by omega⟩ (by omega);have w1:IntKind.i64.wrap 2=2:=rfl;by_cases e:kdW w=1
   ·have:=I (v+1);rw[e]at this;simp only[PP,P14,simprocAttr,PT,q1,e,w1];exact aR this (by simp only[PW]) rfl
   ·have:=I v;have e2:(if kdW w<2 then kdW w else 0)=(if kdW w<1 then kdW w else 0):=by split<;>split<;>omega
    rw[e2]at this;simp only[PP,P14,simprocAttr,PT,q1,e,w1];exact aR this (by simp only[PW]) rfl
  ·have I:=fun v=>ih 3 v ⟨by omega,by omega⟩ (by omega);have w1:IntKind.i64.wrap 3=3:=rfl;by_cases e:kdW w=2
   ·have:=I (v+1);rw[e]at this;simp only[PP,P14,simprocAttr,PT,q2,e,w1];exact aR this (by simp only[PW]) rfl
   ·have:=I v;have e2:(if kdW w<3 then kdW w else 0)=(if kdW w<2 then kdW w else 0):=by split<;>split<;>omega
    rw[e2]at this;simp only[PP,P14,simprocAttr,PT,q2,e,w1];exact aR this (by simp only[PW]) rfl
  ·have I:=fun v=>ih 4 v ⟨by omega,by omega⟩ (by omega);have w1:IntKind.i64.wrap 4=4:=rfl;by_cases e:kdW w=3
   ·have:=I (v+1);rw[e]at this;simp only[PP,P14,simprocAttr,PT,q3,e,w1];exact aR this (by simp only[PW]) rfl
   ·have:=I v;have e2:(if kdW w<4 then kdW w else 0)=(if kdW w<3 then kdW w else 0):=by split<;>split<;>omega
    rw[e2]at this;simp only[PP,P14,simprocAttr,PT,q3,e,w1];exact aR this (by simp only[PW]) rfl
  ·have b7:kdW w<4:=by rcases pE w with⟨_,h⟩ | ⟨_,h⟩ | ⟨_,h⟩ | ⟨_,_,_,h⟩<;>omega
   rw[if_pos b7];simp only[PP,P14,simprocAttr,PT];exact⟨(by simp only[PW]),v,rfl⟩
 rintro b N ⟨J,v,rfl⟩;refine aE ?_ J;refine aA (aB ?_);simp only[PP,P14,simprocAttr,PT];refine QIf.intro (fun c=>?_) fun c=>?_
 ·simp only[PP,P14,simprocAttr,PT,c];exact h.err 6 (by rw[B,if_neg ((ZB w).1 (by omega))])
 have a6:w=kwD\/w=kwM\/w=kwP:=Classical.not_not.1 fun q=>by have:=(ZB w).2 q;omega
 rw[if_pos a6]at B;simp only[PP,P14,simprocAttr,PT,c];have b8:=eF w;have xr:(l.take l.length).drop w.length=e9 G:=by rw[Df,hl];simp
 refine aA (aB ?_);simp only[PP,P14,simprocAttr,PT,Q,b8,ext,w0,wl,xr,De];refine⟨Cc _,?_⟩;refine aBx T b4 (by omega) (fun y I=>?_) fun I=>?_;rotate_left
 ·simp only[PP,P14,simprocAttr,PT];refine aA (aB ?_);simp only[PP,P14,simprocAttr,PT];exact h.err 2 (by rw[B,I])
 rw[I]at B;have B:bI l=MR w y:=by rw[B];exact(TX w y).symm
 obtain⟨_,S⟩:=eg.1 I;have O:y.length<=100000000:=by
  have e:=(eg.1 I).1;have:G.length<=(e9 G).length:=by
   have:∀G:List (List UInt8),G.length<=(e9 G).length:=by
    intro G
    induction G with
    | nil=>simp[e9]
    | cons x r ih=>rw[j5];simp;omega
   exact this G
  rw[e,Al]at this;rw[e]at L;omega
 simp only[PP,P14,simprocAttr,PT];refine aA (aB ?_);simp only[PP,P14,simprocAttr,PT];refine aA (aB ?_)
 match y,S,O,B with
 | [],S,O,B=>simp only[bE,PP,P14,simprocAttr,PT];exact h.err 3 B
 | u::y,S,O,B=>
  have hu:=S u (by simp);have hz:¬((y.length+1:Nat):Int)=0:=by omega
  have hp:(0:Int)<((y.length+1:Nat):Int):=by omega
  simp only[bE,PP,P14,simprocAttr,PT,hz];refine aA (aB ?_);simp only[PP,P14,simprocAttr,PT,hp];have k3:(w=kwD\/w=kwM)↔((kdW w:Nat):Int)<3:=by
   have d2:kwP≠kwD:=by decide
   have d3:kwP≠kwM:=by decide
   rcases pE w with⟨e,h⟩ | ⟨e,h⟩ | ⟨e,h⟩ | ⟨h1,h2,h3,h⟩
   ·rw[h];exact⟨fun _=>by decide,fun _=> .inl e⟩
   ·rw[h];exact⟨fun _=>by decide,fun _=> .inr e⟩
   ·rw[h];subst e;simp[d2,d3]
   ·exact absurd a6 (by simp[h1,h2,h3])
  obtain⟨QQ,E⟩:∃QQ:List PV->Mem->Prop,QQ=fun b N=>(¬((w=kwD\/w=kwM)/\y≠[]/\6<y.headD 0))/\dl b (.ae:: .ae:: .ptr 0 0 0::zj 3++ .ptr 1 0 0:: .ae:: .ae::slI Jc Jb .i64 (bE (u::y))::zj 130)/\N=[.cells 0 0 jb0,.cells 0 (v+1) [p64 (kdW w),p64 0,p64 0,.aa,.aa,.aa,p64 0,p64 0,.aa,.aa,.aa,.aa,.aa,p64 u]]:=⟨_,rfl⟩;refine aA (fF (Qn:=QQ) (aB ?_) ?_ (fun _ _ h=>h) fun _ _ _ h=>h)
  ·match y with
   | []=>simp only[PP,P14,simprocAttr,PT,bE];rw[E];exact⟨fun q=>q.2.1 rfl,(by simp only[bE,Ai,Bd,PW]),rfl⟩
   | n::y=>
    have h1:(1:Int)<((y.length+1+1:Nat):Int):=by omega
    by_cases e3:((kdW w:Nat):Int)<3
    ·by_cases e6:(6:Int)<(n:Int)
     ·simp only[PP,P14,simprocAttr,PT,h1,e3,e6];exact h.err 7 (by rw[B];show(if _ then _ else _)=_;rw[if_pos ⟨k3.2 e3,by simp,by show 6<n;omega⟩])
     ·simp only[PP,P14,simprocAttr,PT,h1,e3,e6,bE];rw[E];exact⟨fun q=>by have:6<n:=q.2.2;omega,(by simp only[bE,Ai,Bd,PW]),rfl⟩
    ·simp only[PP,P14,simprocAttr,PT,h1,e3,bE];rw[E];exact⟨fun q=>e3 (k3.1 q.1),(by simp only[bE,Ai,Bd,PW]),rfl⟩
  subst E;rintro b N ⟨c0,J,rfl⟩;refine aE ?_ J;have B:bI l=if(iK w ⟨y,Jc,Jc⟩).2.sh=Jb then .err 3 else
   if(iK w ⟨y,Jc,Jc⟩).2.l≠[]then .err 5 else
   if(iK w ⟨y,Jc,Jc⟩).2.od=Jb then .err 1 else .ok (iK w ⟨y,Jc,Jc⟩).1 u:=by rw[B];exact if_neg c0
  have h1:(1:Int)<=((y.length+1:Nat):Int):=by omega
  have e1:(((y.length+1:Nat):Int)-1).toNat=y.length:=by omega
  have e2:aZ ((bE y).map p64) 0 y.length=(bE y).map p64:=aK _ _ (by simp);refine aA (aB ?_);simp only[bE,PP,P14,simprocAttr,PT,h1,e1];refine⟨Cc _,?_⟩;have c4:bp.cells 0 0 [.sl Jc Jb 1 y.length (aZ ((y.map fun v:Nat=>(v:Int)).map p64) 0 y.length),.bool Jc,.bool Jc]=rfO 0 Jc Jb ⟨y,Jc,Jc⟩:=by
   have e2:aZ ((y.map fun v:Nat=>(v:Int)).map p64) 0 y.length=(y.map fun v:Nat=>(v:Int)).map p64:=aK _ _ (by simp);rw[e2];simp only[rfO,slI,bE,Al]
  rw[c4];refine aE (b:=(.ae:: .ae:: .ptr 0 0 0::zj 3++ .ptr 1 0 0::zj 4++ .ptr 2 0 0::zj 128)) ?_;have a7:OkF ⟨y,Jc,Jc⟩:=⟨fun n I=>S n (by simp[I]),by show y.length<=_;simp at O;omega⟩;obtain⟨QQ,E⟩:∃QQ:List PV->Mem->Prop,QQ=fun b N=>dl b (.ae:: .ae:: .ptr 0 0 0::zj 3++ .ptr 1 0 0::zj 4++ .ptr 2 0 0::zj 128)/\∃v' f' o' vj,N=[.cells 0 0 jb0,.cells 0 vj (jbI Jc Jb (iK w ⟨y,Jc,Jc⟩).1 u),rfO v' f' o' (iK w ⟨y,Jc,Jc⟩).2]:=⟨_,rfl⟩;refine aA (fF (Qn:=QQ) (RT (aB ?_)) ?_ (fun _ _ h=>h) fun _ _ _ h=>h)
  ·have d1:kwM≠kwD:=by decide
   have d2:kwP≠kwD:=by decide
   have d3:kwP≠kwM:=by decide
   have U:∀c:Int,([.cells 0 0 jb0,.cells 0 (v+1) [p64 c,p64 0,p64 0,.aa,.aa,.aa,p64 0,p64 0,.aa,.aa,.aa,.aa,.aa,p64 u]]:Mem).all (aG 3)=Jb:=fun c=>by simp[aG,aD,PV.under]
   rcases pE w with⟨e,hk⟩ | ⟨e,hk⟩ | ⟨e,hk⟩ | ⟨h1,h2,h3,hk⟩
   ·have er:iK w ⟨y,Jc,Jc⟩=(.n (RF.nfa ⟨y,Jc,Jc⟩).1,(RF.nfa ⟨y,Jc,Jc⟩).2):=if_pos e;rw[hk];simp only[PP,P14,simprocAttr,PT];refine aEX T (A:=[.cells 0 0 jb0,.cells 0 (v+1) [p64 1,p64 0,p64 0,.aa,.aa,.aa,p64 0,p64 0,.aa,.aa,.aa,.aa,.aa,p64 u]]) a7 (U 1) fun v' f' o'=>?_;simp only[PP,P14,simprocAttr,PT];refine Gh.step (GStep.wkO 1 (cs2:=jbN Jc Jb (RF.nfa ⟨y,Jc,Jc⟩).1 u) rfl (WkL.rep ⟨.inl rfl,.inl rfl,.inl rfl,.inl rfl,.inl rfl,.inl rfl,.inl rfl,.inl rfl,.inr ⟨rfl,_,_,_,rfl⟩,.inr ⟨rfl,_,_,_,rfl⟩,.inr ⟨rfl,_,_,_,rfl⟩,.inr ⟨rfl,_,_,_,rfl⟩,.inr ⟨rfl,_,_,_,rfl⟩,.inl rfl,trivial⟩) rfl) (Gh.same ?_);rw[E];exact⟨(by simp only[PW]),v',f',o',_,by rw[er];rfl⟩
   ·have er:iK w ⟨y,Jc,Jc⟩=(.d (RF.dfa ⟨y,Jc,Jc⟩).1,(RF.dfa ⟨y,Jc,Jc⟩).2):=by unfold iK;rw[if_neg (by rw[e];exact d1),if_pos e]
    rw[hk];simp only[PP,P14,simprocAttr,PT];refine aE3 T (A:=[.cells 0 0 jb0,.cells 0 (v+1) [p64 2,p64 0,p64 0,.aa,.aa,.aa,p64 0,p64 0,.aa,.aa,.aa,.aa,.aa,p64 u]]) a7 (U 2) fun v' f' o'=>?_;simp only[PP,P14,simprocAttr,PT];refine Gh.step (GStep.wkO 1 (cs2:=jbD Jc Jb (RF.dfa ⟨y,Jc,Jc⟩).1 u) rfl (WkL.rep ⟨.inl rfl,.inl rfl,.inl rfl,.inr ⟨rfl,_,_,_,rfl⟩,.inr ⟨rfl,_,_,_,rfl⟩,.inr ⟨rfl,_,_,_,rfl⟩,.inl rfl,.inl rfl,.inl rfl,.inl rfl,.inr ⟨rfl,_,_,_,rfl⟩,.inr ⟨rfl,_,_,_,rfl⟩,.inr ⟨rfl,_,_,_,rfl⟩,.inl rfl,trivial⟩) rfl) (Gh.same ?_);rw[E];exact⟨(by simp only[PW]),v',f',o',_,by rw[er];rfl⟩
   ·have er:iK w ⟨y,Jc,Jc⟩=(.g (RF.dp ⟨y,Jc,Jc⟩).1.1 (RF.dp ⟨y,Jc,Jc⟩).1.2.1 (RF.dp ⟨y,Jc,Jc⟩).1.2.2,(RF.dp ⟨y,Jc,Jc⟩).2):=by unfold iK;rw[if_neg (by rw[e];exact d2),if_neg (by rw[e];exact d3)]
    rw[hk];simp only[PP,P14,simprocAttr,PT];refine aCD T (A:=[.cells 0 0 jb0,.cells 0 (v+1) [p64 3,p64 0,p64 0,.aa,.aa,.aa,p64 0,p64 0,.aa,.aa,.aa,.aa,.aa,p64 u]]) a7 (U 3) fun v' f' o'=>?_;simp only[PP,P14,simprocAttr,PT];refine Gh.step (GStep.wkO 1 (cs2:=jbG Jc Jb (RF.dp ⟨y,Jc,Jc⟩).1.1 (RF.dp ⟨y,Jc,Jc⟩).1.2.1 (RF.dp ⟨y,Jc,Jc⟩).1.2.2 u) rfl (WkL.rep ⟨.inl rfl,.inl rfl,.inl rfl,.inr ⟨rfl,_,_,_,rfl⟩,.inr ⟨rfl,_,_,_,rfl⟩,.inr ⟨rfl,_,_,_,rfl⟩,.inl rfl,.inl rfl,.inr ⟨rfl,_,_,_,rfl⟩,.inr ⟨rfl,_,_,_,rfl⟩,.inl rfl,.inl rfl,.inl rfl,.inl rfl,trivial⟩) rfl) (Gh.same ?_);rw[E];exact⟨(by simp only[PW]),v',f',o',_,by rw[er];rfl⟩
   ·exact absurd a6 (by simp[h1,h2,h3])
  subst E;rintro b N ⟨J,v',f',o',vj,rfl⟩;refine aE ?_ J;generalize iK w ⟨y,Jc,Jc⟩=p at*;obtain⟨i,R⟩:=p;simp only at B ⊢;have V:=FK Jc Jb i u;have a1:=ZK Jc Jb i u;have Y:=JM Jc Jb i u;have b1:=fun M=>aCz M Jc Jb i u;have Z:=QS Jc Jb i u;refine aA (aB ?_)
  cases a3:R.sh with
  | true=>simp only[PP,P14,simprocAttr,PT,a3];exact h.err 3 (by rw[B,if_pos a3])
  | false=>
  rw[if_neg (by rw[a3];decide)]at B;simp only[PP,P14,simprocAttr,PT,a3];refine aA (aB ?_);have O:(bE R.l).length=R.l.length:=by simp[bE]
  simp only[PP,P14,simprocAttr,PT,O];refine QIf.intro (fun c1=>?_) fun c1=>?_
  ·simp only[PP,P14,simprocAttr,PT,c1];exact h.err 5 (by rw[B,if_pos (fun q=>by rw[q]at c1;simp at c1)])
  have c5:R.l=[]:=List.length_eq_zero_iff.1 (by omega);rw[if_neg fun q=>q c5]at B;simp only[PP,P14,simprocAttr,PT,c1];refine aA (aB ?_)
  cases a4:R.od with
  | true=>simp only[PP,P14,simprocAttr,PT,a4];exact h.err 1 (by rw[B,if_pos a4])
  | false=>
  rw[if_neg (by rw[a4];decide)]at B;simp only[PP,P14,simprocAttr,PT,a4];obtain⟨b2,c6,a9⟩:=b3 i u B;refine aA (aB ?_);simp only[PP,P14,simprocAttr,PT,V,Y,Z];refine W8 T b2 ?_;simp only[PP,P14,simprocAttr,PT];refine QIf.intro (fun c2=>?_) fun c2=>?_;rotate_left
  ·simp only[PP,P14,simprocAttr,PT,c2];exact h.bad i u B c2
  simp only[PP,P14,simprocAttr,PT,c2];have c7:=In.bn b2 (c6 c2);refine aA (aB ?_);simp only[PP,P14,simprocAttr,PT,V,Y,Z,a1];refine W9 T c2 c7 a9 (by omega) fun m hm a2 r hr b fl hb c8 c9=>?_;simp only[PP,P14,simprocAttr,PT,PN,V,Y,Z,a1];refine QIf.intro (fun c3=>?_) fun c3=>?_
  ·simp only[PP,P14,simprocAttr,PT,c3];refine h.few i u B c2 m (by omega) ?_ a2
   cases fl with
   | true=>exact .inr (c8 rfl)
   | false=>
    rcases c9 rfl with q | q
    ·omega
    ·exact .inl q
  ·simp only[PP,P14,simprocAttr,PT,c3];refine aB ?_;simp only[PP,P14,simprocAttr,PT,V,Y,Z,b1];have d0:jL jb0 0 (jbI Jc Jb i u)=jbI Jc Jb i u:=by cases i<;>rfl
   simp only[PP,P14,simprocAttr,d0,V,Y,Z,b1];exact h.ok i u B c2 fun j hj=>a2 j (by omega)
end
end Go.Am.Ar
--P14
namespace Go.Am.Ar
open Go.Am.PV renaming ae->Zj
open Go.Am renaming jd->P1,ku->P2,kg->P3,ec->P4,bp.under->P5,gi->P6,di->P7,bu->P8,pev->P9,iy->P10,ay->P11,jq->P12,dq->P13,cG->P14,AO.effect->P15
open List renaming replicate->L1
def N0:NF:=⟨1,3,[0],[2],[⟨0,0,0,0⟩,⟨0,1,1,0⟩,⟨1,2,0,0⟩]⟩
def D0:DF:=⟨0,0,[[0]],[Jb]⟩
def YN:dA N0=0:=by decide+kernel
def aGo:BnN N0:=⟨by decide,by decide,by decide,by decide⟩
def aFX:rwK N0 0=[]/\fnK N0 0=[]/\a8 (stK N0 0)=[[0]]:=by decide+kernel
def aFW:rwK N0 2=[[0,1],[2,3]]/\fnK N0 2=[Jc,Jc]/\a8 (stK N0 2)=[[0],[0,1],[0,2],[0,1,2]]:=by decide+kernel
def aEK:(stK N0 0).length=1/\(stK N0 1).length=2/\(stK N0 2).length=4/\(stK N0 3).length=4/\(stK N0 4).length=4:=by decide+kernel
def aEJ:(In.n N0).mj 2=⟨#[100,101,116,101,114,109,105,110,105,122,101,32,50,32,49,32,51,32,49,32,48,32,49,32,50,32,51,32,48,32,48,32,48,32,48,32,48,32,49,32,49,32,48,32,49,32,50,32,48,32,48]⟩:=by decide+kernel
def YM(m:Nat):¬(In.n N0).fh m:=In.ot (i:= .n N0) YN (by show(3:Int)<=12;omega) m
section
variable {tab:FuncId->Option AF} (T:HasA tab){M:Mem}{K:PV->Mem->Prop}
include T
def aGa(u:K (.agg (nfC Jb Jb Jb Jb Jb Jb N0)) M):ai tab 51 [] M K:=by refine aF T.h51 (by simp only[PP,P14,simprocAttr]) ?_;simp only[af51,PP,P14,simprocAttr];exact u
def CD{k:Int}(u:K (.tuple [.bool Jc,p64 12]) M):ai tab 18 [.al,p64 k] M K:=by refine aN T.h18 ?_;simp only[af18,PP,P14,simprocAttr,PI];exact u
def pF{t:ByteArray}{e:Int}(hs:t.size<=400)(O:∀B,bI t.data.toList= .err B->B=e)(E:∀i u,bI t.data.toList= .ok i u->i.chk=0/\(∀m,m<u->(i.done m\/i.fh m)->e=1)/\((∀j,j<u->¬i.done j/\¬i.fh j)->e=0))(G:K (p64 e) M):
  ai tab 53 [.str t] M K:=by
 have Q:t.data.toList.length=t.size:=rfl;refine bD T.h53 (by simp only[PP,P14,simprocAttr,PT]) ?_;simp only[af53];refine aB ?_;simp only[PP,P14,simprocAttr];refine Y3 T (by omega) (fun i u h=>by obtain⟨a,b,c,_⟩:=rS h (by omega);exact⟨a,b,c⟩) rfl ⟨fun B he=>?_,fun i u y I=>absurd (E i u y).1 I,fun i u y I m hm hd _=>?_,fun i u y I hd R b L StF V Y J S U Z hX=>?_⟩
 ·rw[O B he];simp only[PP,P14,simprocAttr];exact G
 ·have:=(E i u y).2.1 m hm hd;subst this;simp only[PP,P14,simprocAttr];exact G
 ·have:=(E i u y).2.2 hd;subst this;simp only[PP,P14,simprocAttr];exact G
def lD(hA:tab 17=Iz (.fn af17))(hk:K (.bool Jb) M):ai tab 17 [] M K:=by
 obtain⟨l0,l1,l2,l3,l4⟩:=aEK;obtain⟨V,Y,Z⟩:=aFX;obtain⟨a0,a1,a2⟩:=aFW;refine bD hA (by simp only[PP,P14,simprocAttr]) ?_;simp only[af17];refine aA (aB ?_);simp only[PP,P14,simprocAttr];refine aA (aB ?_);simp only[PP,P14,simprocAttr];refine aGa T ?_;simp only[PP,P14,simprocAttr];refine aDL T aGo rfl ⟨fun hc=>absurd YN hc,fun _ a4 b L St A0 M0 J hb G hS hX=>?_⟩;have E:=J.X A0 hb G;have hL:=E.len _ _ hS;simp only[PP,P14,simprocAttr];refine aA (aB ?_);simp only[PP,P14,simprocAttr];refine aA (aB ?_);simp only[PP,P14,simprocAttr];refine E.res0 hS fun r hr=>?_;obtain⟨rfl,_⟩:=hr;rw[V,Y,Z];have I:∀(O:Mem) (x:bp),O.length=L->(O++[x])[L]? =Iz x:=fun O x h=>by rw[<-h,gk0];rfl
 have Q:∀(O:Mem) (x y:bp),O.length=L->(O++[x]).set L y=O++[y]:=fun O x y h=>by rw[<-h,sk0];rfl
 have v1:N0.vs=1:=rfl;simp only[PP,P14,simprocAttr,Res.pv,v1,hL,I _ _ hL,Q _ _ _ hL];refine aA (aB ?_);simp only[PP,P14,simprocAttr,I _ _ hL,Q _ _ _ hL];refine jF (xs:=[0]) (ys:=[0]) T (by decide) ?_;simp only[PP,P14,simprocAttr,I _ _ hL,Q _ _ _ hL,eq_self];refine aA (aB ?_);simp only[PP,P14,simprocAttr];refine E.step _ _ hS _ _ _ (by omega) (by omega) (fun S M1 b1 p1 p2 p3 p4 p5 U=>?_) fun m M' _ _ _ p _=>absurd p (YM m);have d0:¬(In.n N0).done 0:=by show ¬(stK N0 0).length<=0;omega
 have d1:¬(In.n N0).done 1:=by show ¬(stK N0 1).length<=1;omega
 have d2:¬(In.n N0).done 2:=by show ¬(stK N0 2).length<=2;omega
 have d3:¬(In.n N0).done 3:=by show ¬(stK N0 3).length<=3;omega
 have d4:(In.n N0).done 4:=by show(stK N0 4).length<=4;omega
 obtain⟨rfl,rfl⟩:S=2/\b1=Jc:=by
  have hb:b1=Jc:=by
   cases b1 with
   | false=>rfl
   | true=>
    have:=p3.1 rfl;have h3:S=0\/S=1\/S=2:=by omega
    rcases h3 with rfl | rfl | rfl
    ·exact absurd this d0
    ·exact absurd this d1
    ·exact absurd this d2
  exact⟨by have:=p4 hb;omega,hb⟩
 have B:=E.len _ _ U;simp only[PP,P14,simprocAttr];refine aA (aB ?_);simp only[PP,P14,simprocAttr];refine E.res _ _ U _ _ fun r hr=>?_;obtain⟨rfl,_⟩:=hr;rw[a0,a1,a2];simp only[PP,P14,simprocAttr,Res.pv,v1,I _ _ B,Q _ _ _ B];refine aA (aB ?_);simp only[PP,P14,simprocAttr,I _ _ B,Q _ _ _ B];refine lA (xs:=[[0],[0,1],[0,2],[0,1,2]]) (ys:=[[0],[0,1],[0,2],[0,1,2]]) T (by decide) (by decide) ?_;simp only[PP,P14,simprocAttr,I _ _ B,Q _ _ _ B,eq_self];refine lA (xs:=[[0,1],[2,3]]) (ys:=[[0,1],[2,3]]) T (by decide) (by decide) ?_;simp only[PP,P14,simprocAttr,I _ _ B,Q _ _ _ B,eq_self];refine J3 (xs:=[Jc,Jc]) (ys:=[Jc,Jc]) T (by decide) ?_;simp only[PP,P14,simprocAttr,I _ _ B,Q _ _ _ B,eq_self];refine J.sav A0 hb G 2 _ U (by omega) _ _ ?_;have q1:bL .neq (.str ((In.n N0).mj 2)) (.str ⟨#[100,101,116,101,114,109,105,110,105,122,101,32,50,32,49,32,51,32,49,32,48,32,49,32,50,32,51,32,48,32,48,32,48,32,48,32,48,32,49,32,49,32,48,32,49,32,50,32,48,32,48]⟩)=Iz (.bool Jc):=by rw[<-aEJ,aBE];simp
 simp only[PP,P14,simprocAttr,PT,q1];refine aA (aB ?_);simp only[PP,P14,simprocAttr];refine E.step _ _ U _ _ _ (by omega) (by omega) (fun R M2 b2 t1 t2 t3 t4 t5 t6=>?_) fun m M' _ _ _ p _=>absurd p (YM m);obtain⟨rfl,rfl⟩:R=4/\b2=Jb:=by
  have h4:R<=4:=Bq fun q=>(t5 4 (by omega) (by omega)).1 d4;have hb:b2=Jb:=by
   cases b2 with
   | true=>rfl
   | false=>have:=t4 rfl;omega
  have:=t3.1 hb;have h3:R=2\/R=3\/R=4:=by omega
  rcases h3 with rfl | rfl | rfl
  ·exact absurd this d2
  ·exact absurd this d3
  ·exact⟨rfl,hb⟩
 simp only[PP,P14,simprocAttr];refine aA (aB ?_);simp only[PP,P14,simprocAttr];refine E.step _ _ t6 _ _ _ (by omega) (by omega) (fun m3 M3 b3 u1 u2 u3 u4 u5 u6=>?_) fun m M' _ _ _ p _=>absurd p (YM m);obtain rfl:m3=4:=by omega
 obtain rfl:b3=Jb:=u3.2 d4;simp only[PP,P14,simprocAttr];refine aA (aB ?_);simp only[PP,P14,simprocAttr];refine aA (aB ?_);simp only[PP,P14,simprocAttr];refine CD T ?_;simp only[PP,P14,simprocAttr];obtain⟨vj,wj,a3,gj⟩:=E.job _ _ u6;refine aA (aB ?_);simp only[PP,P14,simprocAttr];refine SR T (cE gj _) (by omega) ?_;simp only[PP,P14,simprocAttr];refine aA (aB ?_);simp only[PP,P14,simprocAttr];refine E.po T u6 ?_;simp only[PP,P14,simprocAttr];refine aB ?_;simp only[PP,P14,simprocAttr];have z1:∀m,m<0->((In.d D0).done m\/(In.d D0).fh m)->(0:Int)=1:=fun m h=>absurd h (Eb _);have dd:(In.d D0).done 0:=by show aW D0 1=aW D0 0;decide+kernel
 have dc:(In.d D0).chk=0:=by show bZ D0=0;decide+kernel
 refine pF (e:=3) T (by decide) (fun e h=>by
  have q:bI (⟨#[100,101,116,101,114,109,105,110,105,122,101]⟩:ByteArray).data.toList= .err 3:=by kernel_rfl
  rw[q]at h;cases h;rfl) (fun i u h=>by
  have q:bI (⟨#[100,101,116,101,114,109,105,110,105,122,101]⟩:ByteArray).data.toList= .err 3:=by kernel_rfl
  rw[q]at h;cases h) ?_
 simp only[PP,P14,simprocAttr];refine pF (e:=6) T (by decide) (fun e h=>by
  have q:bI (⟨#[115,111,114,116,32,49]⟩:ByteArray).data.toList= .err 6:=by kernel_rfl
  rw[q]at h;cases h;rfl) (fun i u h=>by
  have q:bI (⟨#[115,111,114,116,32,49]⟩:ByteArray).data.toList= .err 6:=by kernel_rfl
  rw[q]at h;cases h) ?_
 simp only[PP,P14,simprocAttr];refine pF (e:=3) T (by decide) (fun e h=>by
  have q:bI (⟨#[109,105,110,105,109,105,122,101,32,48,32,49,32,48]⟩:ByteArray).data.toList= .err 3:=by kernel_rfl
  rw[q]at h;cases h;rfl) (fun i u h=>by
  have q:bI (⟨#[109,105,110,105,109,105,122,101,32,48,32,49,32,48]⟩:ByteArray).data.toList= .err 3:=by kernel_rfl
  rw[q]at h;cases h) ?_
 simp only[PP,P14,simprocAttr];refine pF (e:=5) T (by decide) (fun e h=>by
  have q:bI (⟨#[109,105,110,105,109,105,122,101,32,48,32,48,32,48,32,49,32,48,32,49,32,49]⟩:ByteArray).data.toList= .err 5:=by kernel_rfl
  rw[q]at h;cases h;rfl) (fun i u h=>by
  have q:bI (⟨#[109,105,110,105,109,105,122,101,32,48,32,48,32,48,32,49,32,48,32,49,32,49]⟩:ByteArray).data.toList= .err 5:=by kernel_rfl
  rw[q]at h;cases h) ?_
 simp only[PP,P14,simprocAttr];refine pF (e:=0) T (by decide) (fun e h=>by
  have q:bI (⟨#[109,105,110,105,109,105,122,101,32,48,32,48,32,48,32,49,32,48,32,49]⟩:ByteArray).data.toList= .ok (.d D0) 0:=by kernel_rfl
  rw[q]at h;cases h) (fun i u h=>by
  have q:bI (⟨#[109,105,110,105,109,105,122,101,32,48,32,48,32,48,32,49,32,48,32,49]⟩:ByteArray).data.toList= .ok (.d D0) 0:=by kernel_rfl
  rw[q]at h;injection h with h1 h2;subst h1;subst h2;exact⟨dc,z1,fun _=>rfl⟩) ?_
 simp only[PP,P14,simprocAttr];refine pF (e:=1) T (by decide) (fun e h=>by
  have q:bI (⟨#[109,105,110,105,109,105,122,101,32,49,32,48,32,48,32,49,32,48,32,49]⟩:ByteArray).data.toList= .ok (.d D0) 1:=by kernel_rfl
  rw[q]at h;cases h) (fun i u h=>by
  have q:bI (⟨#[109,105,110,105,109,105,122,101,32,49,32,48,32,48,32,49,32,48,32,49]⟩:ByteArray).data.toList= .ok (.d D0) 1:=by kernel_rfl
  rw[q]at h;injection h with h1 h2;subst h1;subst h2;exact⟨dc,fun _ _ _=>rfl,fun h=>absurd dd (h 0 (by omega)).1⟩) ?_
 simp only[PP,P14,simprocAttr];exact hk
end
def LdE(t:List UInt8)(e:Int):Prop:=bI t= .err e\/(∃i u,bI t= .ok i u/\i.chk≠0/\e=i.chk)\/∃i u,bI t= .ok i u/\i.chk=0/\e=1/\∃m,m<u/\(i.done m\/i.fh m)
def LdO(t:List UInt8)(i:In)(u:Nat):Prop:=bI t= .ok i u/\i.chk=0/\∀j,j<u->¬i.done j/\¬i.fh j
def LdE.ne{t:List UInt8}{e:Int}(h:LdE t e):e≠0:=by
 rcases h with h | ⟨i,u,h1,h2,rfl⟩ | ⟨i,u,h1,h2,rfl,_⟩
 ·exact TW h
 ·exact h2
 ·decide
def LdE.eq{t:List UInt8}{e y:Int}(h:LdE t e)(B:LdE t y):e=y:=by
 rcases h with h | ⟨i,u,h1,h2,rfl⟩ | ⟨i,u,h1,h2,rfl,_⟩<;>rcases B with k | ⟨E,G,k1,k2,rfl⟩ | ⟨E,G,k1,k2,rfl,_⟩
 ·rw[h]at k;injection k
 ·rw[h]at k1;cases k1
 ·rw[h]at k1;cases k1
 ·rw[h1]at k;cases k
 ·rw[h1]at k1;injection k1 with a b;rw[a]
 ·rw[h1]at k1;injection k1 with a b;rw[a]at h2;exact absurd k2 h2
 ·rw[h1]at k;cases k
 ·rw[h1]at k1;injection k1 with a b;rw[a]at h2;exact absurd h2 k2
 ·rfl
def LdO.not{t:List UInt8}{i:In}{u:Nat}{e:Int}(h:LdO t i u)(B:LdE t e):False:=by
 obtain⟨a,b,c⟩:=h;rcases B with k | ⟨E,G,k1,k2,rfl⟩ | ⟨E,G,k1,k2,rfl,m,hm,hd⟩
 ·rw[a]at k;cases k
 ·rw[a]at k1;injection k1 with x y;subst x;exact k2 b
 ·rw[a]at k1;injection k1 with x y;subst x;subst y;exact hd.elim (c m hm).1 (c m hm).2
def LdO.eq{t:List UInt8}{i B:In}{u E:Nat}(h:LdO t i u)(G:LdO t B E):B=i/\E=u:=by have a:=h.1;rw[G.1]at a;injection a with x y;exact⟨x,y⟩
section
variable {tab:FuncId->Option AF} (T:HasA tab){M:Mem}{K:PV->Mem->Prop}
include T
def W3{l:List UInt8}(hs:l.length<=400)(h1:∀e,LdE l e->K (.tuple [.agg jb0,p64 e]) M)(h2:∀i u,LdO l i u->K (.tuple [.agg (jbI Jc Jb i u),p64 0]) M):ai tab 26 [fR l] M K:=
 aBN T (by omega) (fun i u h=>by obtain⟨a,b,c,_⟩:=rS h (by omega);exact⟨a,b,c⟩) ⟨fun e h=>h1 e (.inl h),fun i u h c=>h1 _ (.inr (.inl ⟨i,u,h,c,rfl⟩)),fun i u h c m hm hd _=>h1 1 (.inr (.inr ⟨i,u,h,c,rfl,m,hm,hd⟩)),fun i u h c hd=>h2 i u ⟨h,c,hd⟩⟩
def QM{l:List UInt8}(hs:l.length<=400)(G:M.all (aG M.length)=Jb)(h1:∀e,LdE l e->K (.tuple [.al,p64 e]) M)(h2:∀i u,LdO l i u->∀y b L StF B E,pn tab y b L i StF->B.length=b->B.all (aG b)=Jb->StF B u E->(∃X,B=M++X)->K (.tuple [.ptr y 0 0,p64 0]) E):ai tab 27 [fR l] M K:=by
 have e:(⟨l.toArray⟩:ByteArray).data.toList=l:=by simp
 refine Y3 T (s:=⟨l.toArray⟩) (by show l.toArray.size<=_;simp;omega) (fun i u h=>?_) G ⟨fun I h=>?_,fun i u h c=>?_,fun i u h c m hm hd _=>?_,fun i u h c hd=>?_⟩<;>rw[e]at h
 ·obtain⟨a,b,c,_⟩:=rS h (by omega);exact⟨a,b,c⟩
 ·exact h1 I (.inl h)
 ·exact h1 _ (.inr (.inl ⟨i,u,h,c,rfl⟩))
 ·exact h1 1 (.inr (.inr ⟨i,u,h,c,rfl,m,hm,hd⟩))
 ·exact h2 i u ⟨h,c,hd⟩
def aCt{s:ByteArray}(hs:s.size<=9223372036854775807):ai tab 4 [.str s] [] fun r _=>r= .bool Jb:=by
 have a0:min (s.size:Int) 400=((min s.size 400:Nat):Int):=by omega
 have h0:(0:Int)<=((min s.size 400:Nat):Int):=by omega
 have h1:((min s.size 400:Nat):Int)<=s.size:=by omega
 refine cA T.h4 ?_;simp only[af4];refine aA (aB ?_);simp only[PP,simprocAttr];refine aA (aB ?_);simp only[PP,simprocAttr,PT,gY,a0,h0,h1];have b3:(s.extract 0 (min s.size 400)).size<=400:=by rw[ByteArray.size_extract];omega
 generalize s.extract 0 (min s.size 400)=t at*;obtain⟨l,hl,b4⟩:∃l:List UInt8,l.length<=400/\(⟨l.toArray⟩:ByteArray)=t:=⟨t.data.toList,b3,mc.2 rfl⟩;subst b4;refine aA (aB ?_);simp only[PP,simprocAttr];refine W3 T hl (fun e he=>?_) fun i u hi=>?_
 ·have a4:=he.ne;simp only[PP,simprocAttr,PT];refine aA (aB ?_);simp only[PP,simprocAttr,PT];refine aA (aB ?_);simp only[PP,simprocAttr,PT];refine QM T hl (by rfl) (fun e' Q=>?_) fun i u hi=>(hi.not he).elim;obtain rfl:=he.eq Q;simp only[PP,simprocAttr,PT];refine aA (aB ?_);simp only[PP,simprocAttr,PT,PI,a4];refine aA (aB ?_);simp only[PP,simprocAttr,PT,PI,a4];refine lD T T.me ?_;simp only[PP,simprocAttr,PT]
 ·obtain⟨hp,hc,hd⟩:=id hi;obtain⟨b5,b6,a1,_⟩:=rS hp (by omega);have a5:=In.bn b5 (b6 hc);obtain⟨ht,hu⟩:=yS hp;have a6:=FK Jc Jb i u;have b7:jL jb0 0 (jbI Jc Jb i u)=jbI Jc Jb i u:=by cases i<;>rfl
  have b8:=JM Jc Jb i u;have c0:=QR 1 Jc Jb i u;have O:=ZK Jc Jb i u;obtain⟨V,st,nx,ow,B,E,G,y⟩:∃(V:Int) (st:List Int) (nx:List (List Int)) (ow:List Int),(jbI Jc Jb i u)[2]? =Iz (p64 V)/\(jbI Jc Jb i u)[3]? =Iz (slI Jc Jb .i64 st)/\(jbI Jc Jb i u)[8]? =Iz (slR Jc Jb Jc Jb .i64 nx)/\(jbI Jc Jb i u)[10]? =Iz (slI Jc Jb .u8 ow):=by cases i<;>exact⟨_,_,_,_,rfl,rfl,rfl,rfl⟩
  have c5:=QS Jc Jb i u;simp only[PP,simprocAttr,PT,a6,b7,c5];refine aA (aB ?_);have R:((6:Int)<st.length\/(¬(6:Int)<st.length/\(6:Int)<V)\/(¬(6:Int)<st.length/\¬(6:Int)<V/\(40:Int)<nx.length)\/(¬(6:Int)<st.length/\¬(6:Int)<V/\¬(40:Int)<nx.length/\(12:Int)<ow.length))\/(¬(6:Int)<st.length/\¬(6:Int)<V/\¬(40:Int)<nx.length/\¬(12:Int)<ow.length):=by omega
  rcases R with R | ⟨I,S,c3,c4⟩
  ·rcases R with I | ⟨I,S⟩ | ⟨I,S,c3⟩ | ⟨I,S,c3,c4⟩
   ·simp only[PP,simprocAttr,PT,PI,B,E,G,y,I];refine lD T T.me ?_;simp only[PP,simprocAttr,PT]
   ·simp only[PP,simprocAttr,PT,PI,B,E,G,y,I,S];refine lD T T.me ?_;simp only[PP,simprocAttr,PT]
   ·simp only[PP,simprocAttr,PT,PI,B,E,G,y,I,S,c3];refine lD T T.me ?_;simp only[PP,simprocAttr,PT]
   ·simp only[PP,simprocAttr,PT,PI,B,E,G,y,I,S,c3,c4];refine lD T T.me ?_;simp only[PP,simprocAttr,PT]
  simp only[PP,simprocAttr,PT,PI,B,E,G,y,I,S,c3,c4];refine aA (aB ?_);simp only[PP,simprocAttr,PT];have a3:([bp.cells 0 1 (jbI Jc Jb i u)]:Mem).all (aG 1)=Jb:=by simp[aG,c0]
  refine QM T hl a3 (fun e' Q=>(hi.not Q).elim) fun i' U c6 d4 b L StF A0 M0 J a7 a9 hS hX=>?_;obtain⟨rfl,rfl⟩:=hi.eq c6;have JX:=J.X A0 a7 a9;obtain⟨X,hX⟩:=hX;obtain⟨Z,hZ⟩:=J.pre A0 U M0 hS;have g0:∀Y,(M0++Y)[0]? =Iz (.cells 0 1 (jbI Jc Jb i' U)):=fun Y=>by rw[hZ,hX];rfl
  have b0:M0[0]? =Iz (.cells 0 1 (jbI Jc Jb i' U)):=by have:=g0 [];rwa [Bm]at this
  have hlen:=aI b0;obtain⟨jv,jw,c9,c7⟩:=JX.job U M0 hS;simp only[PP,simprocAttr,PT];refine aA (aB ?_);simp only[PP,simprocAttr,PT,PI,c7];refine aA (aB ?_);simp only[PP,simprocAttr,PT,PI];refine aA (aB ?_);simp only[PP,simprocAttr,PT,PI,b0,a6,b8,O];refine W9 T hc a5 a1 (by omega) fun m hm d0 r hr bb fl hb b1 b2=>?_;obtain rfl:m=U:=by
   rcases hm with q | rfl
   ·rcases Az m U with q2 | q2
    ·cases fl with
     | true=>exact absurd (b1 rfl) (hd m q2).2
     | false=>
      rcases b2 rfl with q3 | q3
      ·omega
      ·exact absurd q3 (hd m q2).1
    ·omega
   ·cases U with
    | zero=>rfl
    | succ v=>
     cases fl with
     | true=>exact absurd (b1 rfl) (hd 0 (by omega)).2
     | false=>
      rcases b2 rfl with q3 | q3
      ·omega
      ·exact absurd q3 (hd 0 (by omega)).1
  simp only[PP,simprocAttr,PT,PN,Res.pv,gk0,sk0];refine aB ?_;simp only[PP,simprocAttr,PT,gk0,sk0];refine JX.res m M0 hS _ _ fun r' c8=>?_;obtain rfl:=In.rp_eq hr c8;simp only[PP,simprocAttr,PT,gk0,sk0];refine LV T (In.rp_sm hc a5 hr) (In.pt hc hr) ?_;simp only[PP,simprocAttr,PT,gk0,sk0];refine JX.po T hS ?_;have e:=rG ⟨l.toArray⟩ ⟨l.toArray⟩;have g2:=g0 [.cells 0 0 [p64 0]];simp only[PP,simprocAttr,PT,gk0,sk0,g0,O];refine J.sav A0 a7 a9 m M0 hS hu _ _ ?_;have et:i'.mj m=⟨l.toArray⟩:=by unfold In.mj;rw[ht]
  rw[et];simp only[PP,simprocAttr,PT,gk0,sk0,e];refine lD T T.me ?_;simp only[PP,simprocAttr,PT]
end
section
variable {tab:FuncId->Option AF}
variable {a:List PV} {M:Mem}
end
section
variable {tab:FuncId->Option AF} (T:HasA tab){M:Mem}{K:PV->Mem->Prop}
include T
end
def aDT:PV->Bool
 | .int _ _=>Jb
 | .bool _=>Jb
 | .str _=>Jb
 | _=>Jc
def JY{w w':PWd}{v:PV}{x:AV}(h:az w v x)(hf:aDT v=Jb):az w' v x:=by
 cases h with
 | int k n=>exact .int k n
 | bool b=>exact .bool b
 | str s=>exact .str s
 | _=>simp[aDT]at hf
section
variable {tab:FuncId->Option AF} {c:AC} {a b:List PV} {M N:Mem} {Qn Qr:List PV->Mem->Prop} {Qe:Nat->List PV->Mem->Prop}
end
section
variable {tab:FuncId->Option AF} {a:List PV} {M:Mem}
end
section
variable {tab:FuncId->Option AF} {i:In} {jid b L:Nat} {StF:Mem->Nat->Mem->Prop} {m:Nat} {Mm:Mem}
end
def hU:∀(a:List AV) (i:Nat),i<a.length->a[i]? =Iz (fp a i)
 | [],i,h=>absurd h (by simp)
 | v::a,0,h=>rfl
 | v::a,i+1,h=>by rw[Bv];exact hU a i (by simpa using h)
section
variable {tab:FuncId->Option AF}
end
section
variable {tab:FuncId->Option AF} (T:HasA tab){M:Mem}{K:PV->Mem->Prop}
include T
end
end Go.Am.Ar
--P14
namespace Go.Am.Ar
open Go.Am.PV renaming ae->Zj
open Go.Am renaming jd->P1,ku->P2,kg->P3,ec->P4,bp.under->P5,gi->P6,di->P7,bu->P8,pev->P9,iy->P10,ay->P11,jq->P12,dq->P13,cG->P14,AO.effect->P15
open List renaming replicate->L1
section
variable {tab:FuncId->Option AF} (T:HasA tab){M:Mem}{K:PV->Mem->Prop}
include T
def aF4{f o:Bool}{i:In}{u:Int}(B:K (.agg (jbI f o i u)) M):ai tab 13 [.agg (i.cs f o),p64 u] M K:=by
 have hw:IntKind.i64.wrap (i.k+1)=i.k+1:=by cases i<;>rfl
 have hf:∀(E:Mem) (y:List Eg),bX 0 E (slE f o y)=Iz (slE f o y):=fun E y=>by unfold bX;simp only[aV,if_true]
 have e:([p64 (i.k+1),p64 i.N.vs,p64 i.N.n,slI f o .i64 i.N.st,slI f o .i64 i.N.fi,slE f o i.N.es,p64 i.D.vs,p64 i.D.st,slR f o f o .i64 i.D.nx,slB f o i.D.fi,slI f o .u8 i.ow,slI f o .i64 i.pr,slR f o f o .i64 i.su,p64 u]:List PV)=jbI f o i u:=by cases i<;>rfl
 refine aF T.h13 (by simp only[In.cs,csC,PP,P14,simprocAttr,aV]) ?_;simp only[af13,In.cs,csC,PP,P14,simprocAttr,hw,hf];rw[<-e]at B;exact B
end
end Go.Am.Ar
--P14
namespace Go.Am.Ar
open Go.Am.PV renaming ae->Zj
open Go.Am renaming jd->P1,ku->P2,kg->P3,ec->P4,bp.under->P5,gi->P6,di->P7,bu->P8,pev->P9,iy->P10,ay->P11,jq->P12,dq->P13,cG->P14,AO.effect->P15
open List renaming replicate->L1
def F3{u:FuncId->Option AF}{m:Nat}{c:AC}{a:List PV}{M:Mem}{y B:List PV->Mem->Prop}{E:Nat->List PV->Mem->Prop}(t:Nat)(h:∀v,bu a t=v->b9 u m c (di a t v) M y B E):b9 u m c a M y B E:=by
 have e:∀(a:List PV) (t:Nat),di a t (bu a t)=a:=by
  intro a
  induction a with
  | nil=>intro t;rfl
  | cons x a G=>
   intro t
   cases t with
   | zero=>rfl
   | succ t=>exact congrArg (x:: ·) (G t)
 have:=h _ rfl;rwa [e]at this
def xA{B:FuncId->Option AF}{g:FuncId}{x y G I:PV}{M:Mem}{K:PV->Mem->Prop}(J:bc x G)(L:bc y I)(h:ai B g [G,I] M K):ai B g [x,y] M K:=by
 intro w hh u h0 s E
 match u,E with
 | [a,b],E=>exact h w hh [a,b] h0 s (.cons (J w a E.hd) (.cons (L w b E.tl.hd) (.nil w)))
section
variable {tab:FuncId->Option AF} (T:HasA tab){M:Mem}{K:PV->Mem->Prop}
include T
def aCy{B:ByteArray}(E:K (.str ⟨#[]⟩) M):ai tab 63 [.aa,.str B] M K:=by
 refine iT T.join (fun w hh u s y=>?_) E
 match u,y with
 | [v,G],y=>have:=kV y.tl.hd;subst this;have h:=y.hd;cases h;exact⟨_,rfl,.str _⟩
def vD{l:List UInt8}(hs:l.length<=9223372036854775807)(u:K (.bool Jb) M):ai tab 4 [fR l] M K:=
 nM (by simp[aD,PV.under]) (VK (aCt T (by rw[eF];exact hs)) fun r N h=>⟨.bool Jb,by rw[h];rfl,u⟩)
def aDR{k:Int}{N:NF}{D:DF}{ow pr:List Int}{su:List (List Int)}{G:PV}(J:∀x∈N.es,(0<=x.ps/\x.ps<=255)/\(0<=x.ng/\x.ng<=255))(L:G.under 0=Jb)(u:J0 k N D ow pr su= .d ⟨0,0,[],[]⟩\/J0 k N D ow pr su= .g [] [] [])(O:K (.bool Jb) M):
  ai tab 3 [.agg (csC Jc Jc k N D ow pr su),G] M K:=by
 obtain⟨y,R⟩:=aCE k N D ow pr su J;refine bD T.h3 (by simp only[PP,P14,simprocAttr,aV,L]) ?_;simp only[af3];refine aA (aB ?_);simp only[PP,P14,simprocAttr,aV];refine aA (aB ?_);simp only[PP,P14,simprocAttr,aV];refine ZW T ?_;simp only[PP,P14,simprocAttr,aV];obtain⟨i,B,Q,I⟩:∃i,J0 k N D ow pr su=i/\i.Pos/\i.chk=3:=by
  rcases u with h | h
  ·exact⟨_,h,trivial,by decide⟩
  ·exact⟨_,h,(fun x h=>by cases h),by decide⟩
 rw[B]at u y ⊢;refine aA (aB ?_);simp only[PP,P14,simprocAttr,aV];have E:([bp.cells 0 0 (csC Jc Jc k N D ow pr su),bp.cells 0 1 (i.cs Jc Jb)]:Mem).all (aG 2)=Jb:=by simp[aG,aD,PV.under,bS,aL,aT,bF]
 refine WQ T y Q E ⟨fun _=>?_,fun h=>absurd (I.symm.trans h) (by decide)⟩;simp only[PP,P14,simprocAttr,aV];refine aA (aB ?_);simp only[PP,P14,simprocAttr,aV];refine ZW T ?_;rw[B];simp only[PP,P14,simprocAttr,aV];refine aF4 T ?_;simp only[PP,P14,simprocAttr];refine W8 T y.w.1 ?_;simp only[PP,P14,simprocAttr,PI,I];have z:((0:Nat):Int)=0:=rfl;rcases u with rfl | rfl<;>
 ·simp only[In.k,In.N,In.D,In.ow,In.pr,In.su]
  iterate 3
   refine aA (aB ?_);simp only[PP,P14,simprocAttr]
   repeat ((first
    | refine aN T.h14 ?_
    | refine aN T.h15 ?_
    | refine aN T.h16 ?_
    | refine aN T.h46 ?_
    | refine aN T.h50 ?_
    | refine aN T.h48 ?_
    | refine aN T.h49 ?_
    | refine aN T.h47 ?_
    | refine D4 ?_);simp only[qA,af14,af15,af16,af46,af50,af48,af49,af47,PP,P14,simprocAttr,slE,Bb,z])
  refine aA (aB ?_);simp only[PP,P14,simprocAttr,aV];refine ZW T ?_;rw[B];simp only[PP,P14,simprocAttr,aV];refine aA (aB ?_);simp only[PP,P14,simprocAttr];refine lD T T.me ?_;simp only[PP,P14,simprocAttr];exact O
omit T in
def W2{tab:FuncId->Option AF}{g:FuncId}{args:List AV}{h:H}(y:C (lim tab) g args h fun v _=>v= .bool Jb):∃n u,(run tab n).call g args h=Iz (.bool Jb,u):=by unfold C at y;obtain⟨v,u,he,rfl⟩:=y;obtain⟨n,B⟩:=(f6 tab).1 he;exact⟨n,u,B⟩
end
end Go.Am.Ar
--P14
namespace Go.Am.Ar
open Go.Am.PV renaming ae->Zj
open Go.Am renaming jd->P1,ku->P2,kg->P3,ec->P4,bp.under->P5,gi->P6,di->P7,bu->P8,pev->P9,iy->P10,ay->P11,jq->P12,dq->P13,cG->P14,AO.effect->P15
open List renaming replicate->L1
section
variable {tab:FuncId->Option AF} (T:HasA tab){M:Mem}{K:PV->Mem->Prop}
include T
def KG:ai tab 5 [] [] fun r _=>r= .bool Jb:=by
 refine cA T.h5 ?_;simp only[af5];refine aA (aB ?_);simp only[PP,P14,simprocAttr,PT];refine aA (aB ?_);simp only[PP,P14,simprocAttr,PT];refine F3 1 fun v hv=>?_;simp only[PP,P14,simprocAttr,PT]at hv ⊢;obtain⟨u,rfl,R,a4⟩:∃u:List (List UInt8),v= .sl Jb Jb 1 u.length (u.map fR)/\(∀t∈u,t.length<=1000)/\u.length=11:=⟨[_,_,_,_,_,_,_,_,_,_,_],hv.symm,by decide,rfl⟩;clear hv;refine aE (b:=(.ae:: .sl Jb Jb 1 u.length (u.map fR)::zj 167)) ?_;refine aA (aA (aB ?_));simp only[PP,P14,simprocAttr];refine dJ ?_;refine cL (fun(k:Nat) (Z:Mem)=>k<=u.length) (fun k Z=>(.ae:: .sl Jb Jb 1 u.length (u.map fR)::p64 k::zj 166)) (fun _ Z=>Z) (fun k _=>u.length-k) 0 [] (Af _) ?_;intro k Z hk ih;refine D5 (by kernel_rfl) ?_;refine aA (aB ?_);simp only[PP,P14,simprocAttr];refine QIf.intro (fun c=>?_) fun c=>?_
 ·have k0:(0:Int)<=k:=by omega
  obtain⟨t,gt⟩:=aM (xs:=u) (k:=k) (by omega);have ht:=R t (Ae gt);have S:=aC (k:=k) (by show _<1000000000000;omega);have a1:=mR (a:=t) (b:=[32]) (by simp;omega);have a2:=mR (a:=t) (b:=[32,48]) (by simp;omega);have a3:=mR (a:=[32]) (b:=t) (by simp;omega);simp only[PP,P14,simprocAttr,c];refine aA (dJ ?_);refine aA (aB ?_);simp only[PP,P14,simprocAttr,k0,c,gt];refine aA (aB ?_);simp only[PP,P14,simprocAttr];refine vD T (by omega) ?_;simp only[PP,P14,simprocAttr,a1];refine vD T (by simp;omega) ?_;simp only[PP,P14,simprocAttr,a2];refine vD T (by simp;omega) ?_;simp only[PP,P14,simprocAttr,a3];refine vD T (by simp;omega) ?_;simp only[PP,P14,simprocAttr];refine aE (b:=(.ae:: .sl Jb Jb 1 u.length (u.map fR)::p64 k::fR t::zj 165)) ?_;refine aA (aB ?_);simp only[PP,P14,simprocAttr];refine dJ ?_;refine cL (fun(j:Nat) (Z:Mem)=>j<=t.length) (fun j Z=>(.ae:: .sl Jb Jb 1 u.length (u.map fR)::p64 k::fR t::p64 j::zj 164)) (fun _ Z=>Z) (fun j _=>t.length-j) 0 Z (Af _) ?_;intro j Z hj U;have y:=eF t;refine D5 (by kernel_rfl) ?_;refine aA (aB ?_);simp only[PP,P14,simprocAttr,PT,y];refine QIf.intro (fun d=>?_) fun d=>?_
  ·have L:(0:Int)<=j:=by omega
   have B:=aC (k:=j) (by show _<1000000000000;omega);have O:(j:Int)+1<=t.length:=by omega
   have ext:=xU t;have Q:((j:Int)+1).toNat=j+1:=by omega
   have V:(t.take t.length).drop (j+1)=t.drop (j+1):=by rw[Df]
   simp only[PP,P14,simprocAttr,d];refine aA (dJ ?_);refine aA (aA (nL 0 rfl ?_));simp only[PP,P14,simprocAttr,aBk,U3,gk0,gk,sk0,sk];refine⟨_,rfl,by decide,?_⟩;refine F3 56 fun v hv=>?_;simp only[PP,P14,simprocAttr]at hv ⊢;obtain⟨E,rfl,hx,a5⟩:∃E:List Int,v= .sl Jb Jc 1 7 (E.map (PV.int .u8))/\(∀x∈E,0<=x/\x<=255)/\E.length=7:=⟨[_,_,_,_,_,_,_],hv.symm,by decide,rfl⟩;clear hv;generalize Z++[bp.cells 1 0 []]=Y;refine dJ ?_;refine cM (fun(q:Nat)=>q<=7) (fun q=>(.ae:: .sl Jb Jb 1 u.length (u.map fR)::p64 k::fR t::p64 j::zj 51++ .sl Jb Jc 1 7 (E.map (PV.int .u8))::p64 7::p64 q::zj 110)) (fun _=>Y) (fun q=>7-q) 0 (Af _) ?_;intro q hq G;refine aH (by kernel_rfl) ?_;simp only[PP,P14,simprocAttr];refine QIf.intro (fun e=>?_) fun e=>?_
   ·have q0:(0:Int)<=q:=by omega
    obtain⟨x,J⟩:=aM (xs:=E) (k:=q) (by omega);obtain⟨x0,x1⟩:=hx x (Ae J);have I:=aC (k:=q) (by show _<1000000000000;omega);have x2:x<256:=by omega
    have b1:kG [.int .u8 x]=Iz [UInt8.ofNat x.toNat]:=by simp[kG,fI,bQ,eG,x0,x2]
    have b2:=mR (a:=t.take j) (b:=[UInt8.ofNat x.toNat]) (by simp;omega);have b3:=mR (a:=t.take j++[UInt8.ofNat x.toNat]) (b:=t.drop (j+1)) (by simp;omega);simp only[PP,P14,simprocAttr,PT,e,q0,J,y,B,L,O,De,ext,Q,Int.toNat_zero];refine⟨by omega,?_⟩;simp only[PP,P14,simprocAttr,PT,b1,b2,y,B,L,O,De,ext,Q,V];refine⟨by omega,?_⟩;simp only[PP,P14,simprocAttr,PT,b3];refine vD T (by simp;omega) ?_;simp only[PP,P14,simprocAttr,I];exact aE (G (q+1) (by omega) (by omega))
   ·simp only[PP,P14,simprocAttr,e];have b4:=mR (a:=t.take j) (b:=t.drop (j+1)) (by simp;omega);refine aB ?_;simp only[PP,P14,simprocAttr,PT,y,B,L,O,De,ext,Q,V];refine⟨by omega,?_⟩;refine vD T (by simp;omega) ?_;simp only[PP,P14,simprocAttr,PT,y,B,L,O,De,ext,Q,V];refine⟨by omega,?_⟩;refine⟨⟨by omega,by omega,Cc _⟩,?_⟩;simp only[PP,P14,simprocAttr,PT,b4];refine vD T (by simp;omega) ?_;simp only[PP,P14,simprocAttr];refine aB ?_;simp only[PP,P14,simprocAttr,B];exact aE (U (j+1) Y (by omega) (by omega))
  ·simp only[PP,P14,simprocAttr,d];refine aB ?_;simp only[PP,P14,simprocAttr,S];exact aE (ih (k+1) Z (by omega) (by omega))
 simp only[PP,P14,simprocAttr,c];refine aA (aB ?_);simp only[PP,P14,simprocAttr,PT];refine F3 7 fun v hv=>?_;simp only[PP,P14,simprocAttr,PT]at hv ⊢;obtain⟨os,rfl,a0,a6⟩:∃os:List (List UInt8),v= .sl Jb Jb 1 os.length (os.map fR)/\(∀t∈os,t.length<=1000)/\os.length=9:=⟨[_,_,_,_,_,_,_,_,_],hv.symm,by decide,rfl⟩;clear hv;refine aE (b:=(zj 7++ .sl Jb Jb 1 os.length (os.map fR)::zj 161)) ?_;refine aA (aA (aB ?_));simp only[PP,P14,simprocAttr];refine dJ ?_;refine cM (fun(q:Nat)=>q<=os.length) (fun q=>(zj 7++ .sl Jb Jb 1 os.length (os.map fR)::p64 q::zj 160)) (fun _=>Z) (fun q=>os.length-q) 0 (Af _) ?_;intro q hq G;refine aH (by kernel_rfl) ?_;simp only[PP,P14,simprocAttr];refine QIf.intro (fun e=>?_) fun e=>?_
 ·have q0:(0:Int)<=q:=by omega
  obtain⟨x,J⟩:=aM (xs:=os) (k:=q) (by omega);have hx:=a0 x (Ae J);have I:=aC (k:=q) (by show _<1000000000000;omega);simp only[PP,P14,simprocAttr,e,q0,J];refine vD T (by omega) ?_;simp only[PP,P14,simprocAttr,I];exact aE (G (q+1) (by omega) (by omega))
 simp only[PP,P14,simprocAttr,e];refine aA (aB ?_);simp only[PP,P14,simprocAttr];refine aA (aB ?_);simp only[PP,P14,simprocAttr];refine⟨rfl,?_⟩;refine aE (b:=(zj 9++ .al:: .ptr Z.length 0 0::zj 158)) ?_;refine aA (aB ?_);simp only[PP,P14,simprocAttr];refine CD T ?_;simp only[PP,P14,simprocAttr];refine aA (aB ?_);simp only[PP,P14,simprocAttr];refine aN T.h18 ?_;simp only[af18,PP,P14,simprocAttr,PI,gk0];refine aA (aB ?_);simp only[PP,P14,simprocAttr];refine aF T.h20 rfl ?_;simp only[af20,PP,P14,simprocAttr,PI];refine aN T.h20 ?_;simp only[af20,PP,P14,simprocAttr,PI,Ab,gk0,sk0,gk,sk];refine aB ?_;simp only[PP,P14,simprocAttr,PI,Ab,gk0,sk0,gk,sk];refine aN T.h22 ?_;simp only[af22,PP,P14,simprocAttr,PI,Ab,gk0,sk0,gk,sk];refine aN T.h22 ?_;simp only[af22,PP,P14,simprocAttr,PI,Ab,gk0,sk0,gk,sk];have w0:IntKind.i64.wrap 0=0:=rfl;have z1:bL .add (.str ⟨#[]⟩) (.str ⟨#[]⟩)=Iz (.str ⟨#[]⟩):=mR (a:=[]) (b:=[]) (by decide);have z2:bL .eql (.str ⟨#[]⟩) (.str ⟨#[]⟩)=Iz (.bool Jb):=by rw[rG];rfl
 simp only[PP,P14,simprocAttr,w0];refine aN T.h23 ?_;simp only[af23,PP,P14,simprocAttr,PI,Ab,gk0,sk0,gk,sk];refine aN T.h23 ?_;simp only[af23,PP,P14,simprocAttr,PI,Ab,gk0,sk0,gk,sk,z1,z2];refine aCy T ?_;simp only[PP,P14,simprocAttr,PI,Ab,gk0,sk0,gk,sk,z1,z2];have hr:bc (.agg [p64 0,p64 0,.aa,.aa,.aa,.aa,.aa]) (Res.pv ⟨0,[],[],[],[],[]⟩):=pX (bc.aa _ _ _) (bc.aa _ _ _) (bc.aa _ _ _) (bc.aa _ _ _) (bc.aa _ _ _);have hS:Res.Sm ⟨0,[],[],[],[],[]⟩:=⟨by decide,by decide,(fun x h=>by cases h),(fun x h=>by cases h),by decide,by decide,by decide⟩;refine xA hr hr (LV T hS (fun x h=>by cases h) ?_);simp only[PP,P14,simprocAttr,PI,Ab,gk0,sk0,gk,sk];refine xA hr hr (LV T hS (fun x h=>by cases h) ?_);simp only[PP,P14,simprocAttr,PI,Ab,gk0,sk0,gk,sk];have n:∀f o z,bc .aa (.sl f o z 0 []):=bc.aa;refine xA (GE (n _ _ _) (n _ _ _) (n _ _ _) (n _ _ _) (n _ _ _) (n _ _ _) (n _ _ _) (n _ _ _)) (bc.refl _) (aDR T (k:=1) (N:=⟨0,0,[],[],[]⟩) (D:=⟨0,0,[],[]⟩) (ow:=[]) (pr:=[]) (su:=[]) (fun x h=>by cases h) rfl (.inl rfl) ?_);simp only[PP,P14,simprocAttr,PI];refine xA (GE (n _ _ _) (n _ _ _) (n _ _ _) (n _ _ _) (n _ _ _) (n _ _ _) (n _ _ _) (n _ _ _)) (bc.refl _) (aDR T (k:= -1) (N:=⟨0,0,[],[],[]⟩) (D:=⟨0,0,[],[]⟩) (ow:=[]) (pr:=[]) (su:=[]) (fun x h=>by cases h) rfl (.inr rfl) ?_);simp only[PP,P14,simprocAttr,PI];refine lD T T.me ?_;simp only[PP,P14,simprocAttr]
def bexamples_all(args:List AV)(h:H)(hs:aDn [] args h):
  ∃n u,(run tab n).call 5 args h=Iz (.bool Jb,u):=by
 cases args with
 | nil=>exact W2 (M6 (.nil _) (KG T))
 | cons a l=>exact hs.elim
end
end Go.Am.Ar

