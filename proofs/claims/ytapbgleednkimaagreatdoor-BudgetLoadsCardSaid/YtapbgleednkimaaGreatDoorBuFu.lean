/- FormatUint at base 36, as a call of the program. -/
import Derived.Test.YtapbgleednkimaaGreatDoorBuK
import Derived.Test.YtapbgleednkimaaGreatDoorRows
set_option linter.all false
namespace Go.Am.ArK
open Go.RowKit Go.Proofs
def NI(g:FuncId):Option AF:=if g=131 then some (.fn aCq)else if g=173 then some (.fn aCp)else
 if g=209 then some (.fn af209)else if g=232 then some (.fn af232)else none
def aJc:Has NI:=⟨rfl,rfl,rfl,rfl⟩
def aDt:nu Tryz.prog NI where
 fn g F hg:=by
  unfold NI at hg;split at hg
  ·rename_i e;cases hg;subst e;exact⟨Tryz.f131,Tryz.func131,by kernel_rfl,by kernel_rfl⟩
  split at hg
  ·rename_i e;cases hg;subst e;exact⟨Tryz.f173,Tryz.func173,by kernel_rfl,by kernel_rfl⟩
  split at hg
  ·rename_i e;cases hg;subst e;exact⟨Tryz.f209,Tryz.func209,by kernel_rfl,by kernel_rfl⟩
  split at hg
  ·rename_i e;cases hg;subst e;exact⟨Tryz.f232,Tryz.func232,by kernel_rfl,by kernel_rfl⟩
  ·cases hg
 jr g f hg:=by
  unfold NI at hg;repeat' split at hg
  all_goals cases hg
def aJd(u:Nat)(E:u<18446744073709551616)(w:World)(y:GlbAt Tryz.prog w):
  Calls Tryz.prog 131 #[.int .u64 u,.int .i64 36] w fun e w'=>e= .returned (.string ⟨(t36 u).toArray⟩)/\Below w.heap.size w w':=by
 have hs:aj NI 131 [.int .u64 u,p64 36] [] fun r _=>r= .str ⟨(t36 u).toArray⟩:=aIR aJc E rfl;have B:C (lim NI) 131 [.int .u64 u,.int .i64 36] H.empty fun v _=>v= .str ⟨(t36 u).toArray⟩:=
  iX (hs (wH H.empty) H.empty [.int .u64 u,.int .i64 36] (Nat.le_refl _) (aFU H.empty) (.cons (.int _ _) (.cons (.int _ _) (.nil _)))) fun v G ⟨w',r,K,_,_,I,J⟩=>by subst J;cases I;rfl
 unfold C at B;obtain⟨v,G,hr,rfl⟩:=B;obtain⟨n,hr⟩:=(f9 NI).1 hr;refine(nR aDt hr (ρ:=fun _=>none) (us:=[.int .u64 u,.int .i64 36]) (VRs.cons (.int _ _) (VRs.cons (.int _ _) (VRs.nil _))) ⟨y,fun _ _ _ _ _ _ h=>by(cases h),fun _ _ h=>by(cases h),fun _ _ _ h=>by(cases h),fun _ _ _ _ _ _ h=>by(cases h)⟩ (fun _ _ _=>rfl) fun _ _ _ h=>by cases h).mono ?_;rintro e w' ⟨u,M,rfl,h1,h2⟩;rw[h1.cw];exact⟨rfl,h2⟩
end Go.Am.ArK

