/- Plain law: the greatest simulation by pruning, and what goes with it. -/
import Derived.Test.YtapbgleednkimaaGreatDoorBudgetFinishesG8
import Derived.Test.YtapbgleednkimaaGreatDoorPmC
import Derived.Test.YtapbgleednkimaaGreatDoorBudgetFinishesG2
import Derived.Test.YtapbgleednkimaaGreatDoorBudgetFinishesG6
set_option linter.unusedVariables false
namespace Go.Am.Ar
open Go.Am.PV renaming junk->Zj
section
variable {N:NF} {rs0 rs:List (List Bool)} {ch:Bool} {done done':Nat->Nat->Prop} {p q:Nat}
end
set_option linter.unusedSimpArgs false
set_option maxRecDepth 10000
open Go.Am renaming pchk->P1,pold->P2,PKNo->P3,ppack->P4,PObj.under->P5,pput->P6,ptset->P7,ptget->P8,pev->P9,ofAV->P10,ofAV1->P11,ppad->P12,pfill->P13,bW->P14,AO.effect->P15
open List renaming replicate->L1
section
variable {tab:FuncId->Option AF} (T:HasA tab)
include T
end
section
variable {tab:FuncId->Option AF} (T:HasA tab)
include T
end
section
variable {tab:FuncId->Option AF} (T:HasA tab)
include T
end
section
variable {tab:FuncId->Option AF} (T:HasA tab)
include T
end
theorem SV{cs:List AV}{h:H}(hs:Sh (.slice .bool) cs h):∃v,∃xs:List Bool,cs=[v]/\RepV (wH h) (slB false false xs) v/\xs.length<=9223372036854775807:=by
 obtain⟨v,cells,rfl,h1,h2,h3⟩:=W7 rfl hs;have:∀cells:List AV,(∀c∈cells,Sh .bool [c] h)->∃xs:List Bool,cells=xs.map AV.bool:=by
  intro cells
  induction cells with
  | nil=>intro _;exact⟨[],rfl⟩
  | cons c cells ih=>intro hc;obtain⟨xs,e⟩:=ih (fun c' h'=>hc c' (List.mem_cons_of_mem _ h'));obtain⟨b,e1⟩:=hc c (by simp);cases e1;exact⟨b::xs,by simp[e]⟩
 obtain⟨xs,rfl⟩:=this cells h2;refine⟨v,xs,rfl,?_,by simpa using h1⟩;have:=h3 (xs.map PV.bool) ⟨by simp,fun i y z p q=>by
  rw[List.getElem?_map]at p q
  cases hx:xs[i]? with
  | none=>rw[hx]at p;cases p
  | some x=>rw[hx]at p q;cases p;cases q;exact .bool x⟩
 simpa using this
section
variable {tab:FuncId->Option AF} (T:HasA tab)
include T
end
abbrev aHm:Ty:= .pair (.int .i64) (.pair (.int .i64) (.pair (.slice (.slice (.int .i64))) (.pair (.slice .bool) .unit)))
section
variable {tab:FuncId->Option AF} (T:HasA tab)
include T
end
abbrev caseTy:Ty:= .pair (.int .i64) (.pair aGJ (.pair aHm (.pair aFJ .unit)))
theorem aAT{v:AV}{h:H}(hs:ShV caseTy v h):∃(k:Int) (N:NF) (D:DF) (ow pr:List Int) (su:List (List Int)),RepV (wH h) (.agg (csC false false k N D ow pr su)) v/\(∀x∈N.es,(0<=x.ps/\x.ps<=255)/\(0<=x.ng/\x.ng<=255))/\∀x∈ow,0<=x:=by obtain⟨avs,hs,rfl⟩:=hs;obtain⟨c1,c2,rfl,⟨k,rfl,k1,k2⟩,d1,d2,rfl,hn,d3,d4,rfl,hd,d5,d6,rfl,hg,h0⟩:=hs;have h0:d6=[]:=h0;subst h0;obtain⟨c1,c2,rfl,⟨a,rfl,a1,a2⟩,c3,c4,rfl,⟨b,rfl,b1,b2⟩,c5,c6,rfl,h3,c7,c8,rfl,h4,c9,c10,rfl,h5,h6⟩:=hn;have h6:c10=[]:=h6;subst h6;obtain⟨vo,st,rfl,p1,q1,r1⟩:=nH h3;obtain⟨vp,fi,rfl,p2,q2,r2⟩:=nH h4;obtain⟨vs,es,rfl,p3,q3,r3⟩:=W9 h5;obtain⟨e1,e2,rfl,⟨a',rfl,a1',a2'⟩,e3,e4,rfl,⟨b',rfl,b1',b2'⟩,e5,e6,rfl,h3',e7,e8,rfl,h4',h6'⟩:=hd;have h6':e8=[]:=h6';subst h6';obtain⟨vn,nx,rfl,p4,q4,r4⟩:=GS h3';obtain⟨vf,fb,rfl,p5,q5⟩:=SV h4';obtain⟨g1,g2,rfl,g3,g4,g5,rfl,g6,g7,g8,rfl,g9,g10⟩:=hg;have g10:g8=[]:=g10;subst g10;obtain⟨vw,ow,rfl,p6,q6,r6⟩:=nH g3;obtain⟨vq,pr,rfl,p7,q7,r7⟩:=nH g6;obtain⟨vr,su,rfl,p8,q8,r8⟩:=GS g9;refine⟨k,⟨a,b,st,fi,es⟩,⟨a',b',nx,fb⟩,ow,pr,su,?_,fun x hx=>⟨(r3 x hx).2.2.1,(r3 x hx).2.2.2⟩,fun x hx=>(r6 x hx).1⟩;have:=RepL.cons (.int .i64 k) (.cons (.int .i64 a) (.cons (.int .i64 b) (.cons p1 (.cons p2 (.cons p3 (.cons (.int .i64 a') (.cons (.int .i64 b') (.cons p4 (.cons p5 (.cons p6 (.cons p7 (.cons p8 (.nil (wH h))))))))))))));exact .agg this.len this.get
theorem bfinishes_all{tab:FuncId->Option AF}(T:HasA tab)(args:List AV)(h:H)(hs:aBw [caseTy] args h):
  ∃n h',(run tab n).call 9 args h=some (.bool true,h'):=by
 obtain⟨a,rfl,ha⟩:=aGD hs;obtain⟨k,N,D,ow,pr,su,r1,hN,hO⟩:=aAT ha;exact XE (MB (.cons r1 (.nil _)) (MU T hN hO))
end Go.Am.Ar

