/- FormatUint at base 36, as a call of the program. -/
import Derived.Test.YtapbgleednkimaaGreatDoorBuK
import Derived.Test.YtapbgleednkimaaGreatDoorAmPrimLib
import Derived.Test.YtapbgleednkimaaGreatDoorPmL
import Derived.Test.YtapbgleednkimaaGreatDoorRows
set_option linter.unusedVariables false
set_option linter.unusedSimpArgs false
namespace Go.Am.ArK
open Go.RowKit Go.Proofs
def KP(g:FuncId):Option AF:=if g=131 then some (.fn aAZ)else if g=173 then some (.fn aAY)else
 if g=209 then some (.fn af209)else if g=232 then some (.fn af232)else none
theorem aHz:Has KP:=⟨rfl,rfl,rfl,rfl⟩
theorem aB8:TabOk Tryz.prog KP where
 fn g F hg:=by
  unfold KP at hg;split at hg
  ·rename_i e;cases hg;subst e;exact⟨Tryz.f131,Tryz.func131,by kernel_rfl,by kernel_rfl⟩
  split at hg
  ·rename_i e;cases hg;subst e;exact⟨Tryz.f173,Tryz.func173,by kernel_rfl,by kernel_rfl⟩
  split at hg
  ·rename_i e;cases hg;subst e;exact⟨Tryz.f209,Tryz.func209,by kernel_rfl,by kernel_rfl⟩
  split at hg
  ·rename_i e;cases hg;subst e;exact⟨Tryz.f232,Tryz.func232,by kernel_rfl,by kernel_rfl⟩
  ·cases hg
 prim g f hg:=by
  unfold KP at hg;repeat' split at hg
  all_goals cases hg
theorem aHA(u:Nat)(hu:u<18446744073709551616)(w:World)(hgl:GlbAt Tryz.prog w):
  Calls Tryz.prog 131 #[.int .u64 u,.int .i64 36] w fun e w'=>e= .returned (.string ⟨(t36 u).toArray⟩)/\Below w.heap.size w w':=by
 have hs:SemC KP 131 [.int .u64 u,p64 36] [] fun r _=>r= .str ⟨(t36 u).toArray⟩:=aHb aHz hu rfl;have hc:C (lim KP) 131 [.int .u64 u,.int .i64 36] H.empty fun v _=>v= .str ⟨(t36 u).toArray⟩:=
  iD (hs (wH H.empty) H.empty [.int .u64 u,.int .i64 36] (Nat.le_refl _) (aEi H.empty) (.cons (.int _ _) (.cons (.int _ _) (.nil _)))) fun v h' ⟨w',r,M',_,_,p3,p4⟩=>by subst p4;cases p3;rfl
 unfold C at hc;obtain⟨v,h',hr,rfl⟩:=hc;obtain⟨n,hr⟩:=(e9 KP).1 hr;refine(mP aB8 hr (ρ:=fun _=>none) (us:=[.int .u64 u,.int .i64 36]) (VRs.cons (.int _ _) (VRs.cons (.int _ _) (VRs.nil _))) ⟨hgl,fun _ _ _ _ _ _ h=>by(cases h),fun _ _ h=>by(cases h),fun _ _ _ h=>by(cases h),fun _ _ _ _ _ _ h=>by(cases h)⟩ (fun _ _ _=>rfl) (fun _ _ _ h=>by cases h)).mono ?_;rintro e w' ⟨u,ρ',rfl,h1,h2⟩;rw[h1.str_inv];exact⟨rfl,h2⟩
end Go.Am.ArK

