/- The given functions at this seat. -/
import Derived.Test.YtapbgleednkimaaGreatDoorZFmt
import Derived.Test.YtapbgleednkimaaGreatDoorBuKey
set_option maxRecDepth 100000
namespace Go.Proofs.YtapbgleednkimaaGreatDoor.Prims
open Go Go.Am Go.Proofs Go.Proofs.YtapbgleednkimaaGreatDoor.Lay
theorem itoaP:PrimOk Tryz.prog 106 (bE itoaF):=S2 (R:=renNm) (b:=4) ⟨Tryz.f106,Tryz.func106,by kernel_rfl,by kernel_rfl⟩ LaysM_n171 (by kernel_rfl) (by kernel_rfl)
theorem atoiP:PrimOk Tryz.prog 132 (bE atoiF):=S3 (R:=renNm) ⟨Tryz.f132,Tryz.func132,by kernel_rfl,by kernel_rfl⟩ OS
theorem splitP:PrimOk Tryz.prog 70 (jQ splitF):=K7 (R:=renNm) ⟨Tryz.f70,Tryz.func70,by kernel_rfl,by kernel_rfl⟩ V6 (by kernel_rfl)
theorem joinP:PrimOk Tryz.prog 63 (bE joinF):=S1 (R:=renNm) ⟨Tryz.f63,Tryz.func63,by kernel_rfl,by kernel_rfl⟩ Lays_n156 Go.Am.Key.extra
theorem toErrP:PrimOk Tryz.prog 172 (bE (toErrF (renNm.t 167) (renNm.t 168))):=K6 (R:=renNm) ⟨Tryz.f172,Tryz.func172,by kernel_rfl,by kernel_rfl⟩ OQ (by kernel_rfl) (by kernel_rfl)
theorem fmtP:PrimOk Tryz.prog 131 (bE Fmt.fmtF):=Fmt.fmtPrim (by kernel_rfl) (by kernel_rfl)
end Go.Proofs.YtapbgleednkimaaGreatDoor.Prims

