/- The given functions at this seat. -/
import Derived.Test.YtapbgleednkimaaGreatDoorZFmt
import Derived.Test.YtapbgleednkimaaGreatDoorBuKey
set_option linter.all false
set_option maxRecDepth 100000
namespace Go.Proofs.YtapbgleednkimaaGreatDoor.Prims
open Go Go.Am Go.Proofs Go.Proofs.YtapbgleednkimaaGreatDoor.Lay
def itoaP:PrimOk Tryz.prog 106 (e9 itoaF):=XR (R:=renNm) (b:=4) ⟨Tryz.f106,Tryz.func106,by kernel_rfl,by kernel_rfl⟩ iq (by kernel_rfl) (by kernel_rfl)
def atoiP:PrimOk Tryz.prog 132 (e9 atoiF):=XS (R:=renNm) ⟨Tryz.f132,Tryz.func132,by kernel_rfl,by kernel_rfl⟩ T7
def splitP:PrimOk Tryz.prog 70 (qS splitF):=RE (R:=renNm) ⟨Tryz.f70,Tryz.func70,by kernel_rfl,by kernel_rfl⟩ aAk (by kernel_rfl)
def joinP:PrimOk Tryz.prog 63 (e9 joinF):=XQ (R:=renNm) ⟨Tryz.f63,Tryz.func63,by kernel_rfl,by kernel_rfl⟩ nc Go.Am.Key.extra
def toErrP:PrimOk Tryz.prog 172 (e9 (toErrF (renNm.t 167) (renNm.t 168))):=RC (R:=renNm) ⟨Tryz.f172,Tryz.func172,by kernel_rfl,by kernel_rfl⟩ T6 (by kernel_rfl) (by kernel_rfl)
def fmtP:PrimOk Tryz.prog 131 (e9 Fmt.fmtF):=Fmt.qc (by kernel_rfl) (by kernel_rfl)
end Go.Proofs.YtapbgleednkimaaGreatDoor.Prims

