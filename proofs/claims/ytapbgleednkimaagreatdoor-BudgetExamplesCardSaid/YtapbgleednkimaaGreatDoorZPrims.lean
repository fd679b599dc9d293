/- The given functions at this seat. -/
import Derived.Test.YtapbgleednkimaaGreatDoorZFmt
import Derived.Test.YtapbgleednkimaaGreatDoorBuKey
set_option linter.all false
set_option maxRecDepth 100000
namespace Go.Proofs.YtapbgleednkimaaGreatDoor.Prims
open Go Go.Am Go.Proofs Go.Proofs.YtapbgleednkimaaGreatDoor.Lay
def itoaP:PrimOk Tryz.prog 106 (bN itoaF):=TB (R:=renNm) (b:=4) ⟨Tryz.f106,Tryz.func106,by kernel_rfl,by kernel_rfl⟩ iq (by kernel_rfl) (by kernel_rfl)
def atoiP:PrimOk Tryz.prog 132 (bN atoiF):=TC (R:=renNm) ⟨Tryz.f132,Tryz.func132,by kernel_rfl,by kernel_rfl⟩ O1
def splitP:PrimOk Tryz.prog 70 (m8 splitF):=L4 (R:=renNm) ⟨Tryz.f70,Tryz.func70,by kernel_rfl,by kernel_rfl⟩ V1 (by kernel_rfl)
def joinP:PrimOk Tryz.prog 63 (bN joinF):=TA (R:=renNm) ⟨Tryz.f63,Tryz.func63,by kernel_rfl,by kernel_rfl⟩ mh Go.Am.Key.extra
def toErrP:PrimOk Tryz.prog 172 (bN (toErrF (renNm.t 167) (renNm.t 168))):=L3 (R:=renNm) ⟨Tryz.f172,Tryz.func172,by kernel_rfl,by kernel_rfl⟩ O0 (by kernel_rfl) (by kernel_rfl)
def fmtP:PrimOk Tryz.prog 131 (bN Fmt.fmtF):=Fmt.pc (by kernel_rfl) (by kernel_rfl)
end Go.Proofs.YtapbgleednkimaaGreatDoor.Prims

