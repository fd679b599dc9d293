/- FormatUint at base 36, as a call of the program. -/
import Derived.Test.YtapbgleednkimaaGreatDoorBuK
import Derived.Test.YtapbgleednkimaaGreatDoorRows
set_option linter.all false
namespace Go.Am.ArK
open Go.RowKit Go.Proofs
def QT(g:FuncId):Option AF:=if g=131 then some (.fn aDc)else if g=173 then some (.fn aDb)else
 if g=209 then some (.fn af209)else if g=232 then some (.fn af232)else none
def aJj:Has QT:=⟨rfl,rfl,rfl,rfl⟩
def aEg:ny Tryz.prog QT where
 fn g F hg:=by
  unfold QT at hg;split at hg
  ·rename_i e;cases hg;subst e;exact⟨Tryz.f131,Tryz.func131,by kernel_rfl,by kernel_rfl⟩
  split at hg
  ·rename_i e;cases hg;subst e;exact⟨Tryz.f173,Tryz.func173,by kernel_rfl,by kernel_rfl⟩
  split at hg
  ·rename_i e;cases hg;subst e;exact⟨Tryz.f209,Tryz.func209,by kernel_rfl,by kernel_rfl⟩
  split at hg
  ·rename_i e;cases hg;subst e;exact⟨Tryz.f232,Tryz.func232,by kernel_rfl,by kernel_rfl⟩
  ·cases hg
 lf g f hg:=by
  unfold QT at hg;repeat' split at hg
  all_goals cases hg
def aJk(u:Nat)(E:u<18446744073709551616)(w:World)(y:GlbAt Tryz.prog w):
  Calls Tryz.prog 131 #[.int .u64 u,.int .i64 36] w fun e w'=>e= .returned (.string ⟨(t36 u).toArray⟩)/\Below w.heap.size w w':=by
 have hs:au QT 131 [.int .u64 u,p64 36] [] fun r _=>r= .str ⟨(t36 u).toArray⟩:=aIW aJj E rfl;have B:C (lim QT) 131 [.int .u64 u,.int .i64 36] H.empty fun v _=>v= .str ⟨(t36 u).toArray⟩:=
  mS (hs (wH H.empty) H.empty [.int .u64 u,.int .i64 36] (Nat.le_refl _) (aGq H.empty) (.cons (.int _ _) (.cons (.int _ _) (.nil _)))) fun v G ⟨w',r,K,_,_,I,J⟩=>by subst J;cases I;rfl
 unfold C at B;obtain⟨v,G,hr,rfl⟩:=B;obtain⟨n,hr⟩:=(kL QT).1 hr;refine(wV aEg hr (ρ:=fun _=>none) (us:=[.int .u64 u,.int .i64 36]) (VRs.cons (.int _ _) (VRs.cons (.int _ _) (VRs.nil _))) ⟨y,fun _ _ _ _ _ _ h=>by(cases h),fun _ _ h=>by(cases h),fun _ _ _ h=>by(cases h),fun _ _ _ _ _ _ h=>by(cases h)⟩ (fun _ _ _=>rfl) fun _ _ _ h=>by cases h).mono ?_;rintro e w' ⟨u,M,rfl,h1,h2⟩;rw[h1.di];exact⟨rfl,h2⟩
end Go.Am.ArK

