/- FormatUint at base 36, as a call of the program. -/
import Derived.Test.YtapbgleednkimaaGreatDoorBuK
import Derived.Test.YtapbgleednkimaaGreatDoorAmPrimLib
import Derived.Test.YtapbgleednkimaaGreatDoorPmL
import Derived.Test.YtapbgleednkimaaGreatDoorRows
set_option linter.unusedVariables false
set_option linter.unusedSimpArgs false
namespace Go.Am.ArK
open Go.RowKit Go.Proofs
def J4 (g:FuncId):Option AF:=if g=131 then some (.fn XN) else if g=173 then some (.fn XM) else
 if g=209 then some (.fn af209) else if g=232 then some (.fn af232) else none
theorem aD5:Has J4:=⟨rfl,rfl,rfl,rfl⟩
theorem ZE:TabOk Tryz.prog J4 where
 fn g F hg:=by
  unfold J4 at hg
  split at hg
  ·rename_i e;cases hg;subst e;exact⟨Tryz.f131,Tryz.func131,by kernel_rfl,by kernel_rfl⟩
  split at hg
  ·rename_i e;cases hg;subst e;exact⟨Tryz.f173,Tryz.func173,by kernel_rfl,by kernel_rfl⟩
  split at hg
  ·rename_i e;cases hg;subst e;exact⟨Tryz.f209,Tryz.func209,by kernel_rfl,by kernel_rfl⟩
  split at hg
  ·rename_i e;cases hg;subst e;exact⟨Tryz.f232,Tryz.func232,by kernel_rfl,by kernel_rfl⟩
  ·cases hg
 prim g f hg:=by
  unfold J4 at hg
  repeat' split at hg
  all_goals cases hg
theorem aD6 (u:Nat) (hu:u<18446744073709551616) (w:World) (hgl:GlbAt Tryz.prog w):
  Calls Tryz.prog 131 #[.int .u64 u,.int .i64 36] w fun e w'=>e= .returned (.string ⟨(t36 u).toArray⟩)/\Below w.heap.size w w':=by
 have hs:SemC J4 131 [.int .u64 u,p64 36] [] fun r _=>r= .str ⟨(t36 u).toArray⟩:=aDK aD5 hu rfl
 have hc:C (lim J4) 131 [.int .u64 u,.int .i64 36] H.empty fun v _=>v= .str ⟨(t36 u).toArray⟩:=
  kE (hs (wH H.empty) H.empty [.int .u64 u,.int .i64 36] (Nat.le_refl _) (aBq H.empty) (.cons (.int _ _) (.cons (.int _ _) (.nil _)))) fun v h' ⟨w',r,M',_,_,p3,p4⟩=>by
   subst p4;cases p3;rfl
 unfold C at hc
 obtain⟨v,h',hr,rfl⟩:=hc
 obtain⟨n,hr⟩:=(iP J4).1 hr
 refine(sR ZE hr (ρ:=fun _=>none) (us:=[.int .u64 u,.int .i64 36]) (VRs.cons (.int _ _) (VRs.cons (.int _ _) (VRs.nil _))) ⟨hgl,fun _ _ _ _ _ _ h=>by(cases h),fun _ _ h=>by(cases h),fun _ _ _ h=>by(cases h),fun _ _ _ _ _ _ h=>by(cases h)⟩ (fun _ _ _=>rfl) (fun _ _ _ h=>by cases h)).mono ?_
 rintro e w' ⟨u,ρ',rfl,h1,h2⟩
 rw[h1.str_inv]
 exact⟨rfl,h2⟩
end Go.Am.ArK

