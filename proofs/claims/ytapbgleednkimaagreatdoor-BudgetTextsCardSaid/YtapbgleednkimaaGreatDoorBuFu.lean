/- FormatUint at base 36, as a call of the program. -/
import Derived.Test.YtapbgleednkimaaGreatDoorBuK
import Derived.Test.YtapbgleednkimaaGreatDoorAmPrimLib
import Derived.Test.YtapbgleednkimaaGreatDoorPmL
import Derived.Test.YtapbgleednkimaaGreatDoorRows
set_option linter.unusedVariables false
set_option linter.unusedSimpArgs false
namespace Go.Am.ArK
open Go.RowKit Go.Proofs
def IZ (g:FuncId):Option AF:=if g=131 then some (.fn V4) else if g=173 then some (.fn V3) else
 if g=209 then some (.fn af209) else if g=232 then some (.fn af232) else none
theorem aC0:Has IZ:=⟨rfl,rfl,rfl,rfl⟩
theorem XX:TabOk Tryz.prog IZ where
 fn g F hg:=by
  unfold IZ at hg
  split at hg
  ·rename_i e;cases hg;subst e;exact⟨Tryz.f131,Tryz.func131,by kernel_rfl,by kernel_rfl⟩
  split at hg
  ·rename_i e;cases hg;subst e;exact⟨Tryz.f173,Tryz.func173,by kernel_rfl,by kernel_rfl⟩
  split at hg
  ·rename_i e;cases hg;subst e;exact⟨Tryz.f209,Tryz.func209,by kernel_rfl,by kernel_rfl⟩
  split at hg
  ·rename_i e;cases hg;subst e;exact⟨Tryz.f232,Tryz.func232,by kernel_rfl,by kernel_rfl⟩
  ·cases hg
 prim g f hg:=by
  unfold IZ at hg
  repeat' split at hg
  all_goals cases hg
theorem aC1 (u:Nat) (hu:u<18446744073709551616) (w:World) (hgl:GlbAt Tryz.prog w):
  Calls Tryz.prog 131 #[.int .u64 u,.int .i64 36] w fun e w'=>e= .returned (.string ⟨(t36 u).toArray⟩)/\Below w.heap.size w w':=by
 have hs:SemC IZ 131 [.int .u64 u,p64 36] [] fun r _=>r= .str ⟨(t36 u).toArray⟩:=aCF aC0 hu rfl
 have hc:C (lim IZ) 131 [.int .u64 u,.int .i64 36] H.empty fun v _=>v= .str ⟨(t36 u).toArray⟩:=
  jV (hs (wH H.empty) H.empty [.int .u64 u,.int .i64 36] (Nat.le_refl _) (aAu H.empty) (.cons (.int _ _) (.cons (.int _ _) (.nil _)))) fun v h' ⟨w',r,M',_,_,p3,p4⟩=>by
   subst p4;cases p3;rfl
 unfold C at hc
 obtain⟨v,h',hr,rfl⟩:=hc
 obtain⟨n,hr⟩:=(iB IZ).1 hr
 refine(rT XX hr (ρ:=fun _=>none) (us:=[.int .u64 u,.int .i64 36]) (VRs.cons (.int _ _) (VRs.cons (.int _ _) (VRs.nil _))) ⟨hgl,fun _ _ _ _ _ _ h=>by(cases h),fun _ _ h=>by(cases h),fun _ _ _ h=>by(cases h),fun _ _ _ _ _ _ h=>by(cases h)⟩ (fun _ _ _=>rfl) (fun _ _ _ h=>by cases h)).mono ?_
 rintro e w' ⟨u,ρ',rfl,h1,h2⟩
 rw[h1.str_inv]
 exact⟨rfl,h2⟩
end Go.Am.ArK

