/- FormatUint at base 36, as a call of the program. -/
import Derived.Test.YtapbgleednkimaaGreatDoorBuK
import Derived.Test.YtapbgleednkimaaGreatDoorRows
set_option linter.all false
namespace Go.Am.ArK
open Go.RowKit Go.Proofs
def LL(g:FuncId):Option AF:=if g=131 then some (.fn aAz)else if g=173 then some (.fn aAy)else
 if g=209 then some (.fn af209)else if g=232 then some (.fn af232)else none
def aGp:Has LL:=⟨rfl,rfl,rfl,rfl⟩
def aBD:nj Tryz.prog LL where
 fn g F hg:=by
  unfold LL at hg;split at hg
  ·rename_i e;cases hg;subst e;exact⟨Tryz.f131,Tryz.func131,by kernel_rfl,by kernel_rfl⟩
  split at hg
  ·rename_i e;cases hg;subst e;exact⟨Tryz.f173,Tryz.func173,by kernel_rfl,by kernel_rfl⟩
  split at hg
  ·rename_i e;cases hg;subst e;exact⟨Tryz.f209,Tryz.func209,by kernel_rfl,by kernel_rfl⟩
  split at hg
  ·rename_i e;cases hg;subst e;exact⟨Tryz.f232,Tryz.func232,by kernel_rfl,by kernel_rfl⟩
  ·cases hg
 kq g f hg:=by
  unfold LL at hg;repeat' split at hg
  all_goals cases hg
def aGq(u:Nat)(E:u<18446744073709551616)(w:World)(y:GlbAt Tryz.prog w):
  Calls Tryz.prog 131 #[.int .u64 u,.int .i64 36] w fun e w'=>e= .returned (.string ⟨(t36 u).toArray⟩)/\Below w.heap.size w w':=by
 have hs:ai LL 131 [.int .u64 u,p64 36] [] fun r _=>r= .str ⟨(t36 u).toArray⟩:=aF8 aGp E rfl;have B:C (lim LL) 131 [.int .u64 u,.int .i64 36] H.empty fun v _=>v= .str ⟨(t36 u).toArray⟩:=
  iH (hs (wH H.empty) H.empty [.int .u64 u,.int .i64 36] (Nat.le_refl _) (aDI H.empty) (.cons (.int _ _) (.cons (.int _ _) (.nil _)))) fun v G ⟨w',r,K,_,_,I,J⟩=>by subst J;cases I;rfl
 unfold C at B;obtain⟨v,G,hr,rfl⟩:=B;obtain⟨n,hr⟩:=(f6 LL).1 hr;refine(sK aBD hr (ρ:=fun _=>none) (us:=[.int .u64 u,.int .i64 36]) (VRs.cons (.int _ _) (VRs.cons (.int _ _) (VRs.nil _))) ⟨y,fun _ _ _ _ _ _ h=>by(cases h),fun _ _ h=>by(cases h),fun _ _ _ h=>by(cases h),fun _ _ _ _ _ _ h=>by(cases h)⟩ (fun _ _ _=>rfl) fun _ _ _ h=>by cases h).mono ?_;rintro e w' ⟨u,M,rfl,h1,h2⟩;rw[h1.cv];exact⟨rfl,h2⟩
end Go.Am.ArK

