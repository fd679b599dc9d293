/- The given functions at this seat. -/
import Derived.Test.YtapbgleednkimaaGreatDoorZFmt
import Derived.Test.YtapbgleednkimaaGreatDoorBuKey
set_option linter.all false
set_option maxRecDepth 100000
namespace Go.Proofs.YtapbgleednkimaaGreatDoor.Prims
open Go Go.Am Go.Proofs Go.Proofs.YtapbgleednkimaaGreatDoor.Lay
def itoaP:PrimOk Tryz.prog 106 (bH itoaF):=VN (R:=renNm) (b:=4) ⟨Tryz.f106,Tryz.func106,by kernel_rfl,by kernel_rfl⟩ jc (by kernel_rfl) (by kernel_rfl)
def atoiP:PrimOk Tryz.prog 132 (bH atoiF):=VO (R:=renNm) ⟨Tryz.f132,Tryz.func132,by kernel_rfl,by kernel_rfl⟩ RR
def splitP:PrimOk Tryz.prog 70 (jL splitF):=NY (R:=renNm) ⟨Tryz.f70,Tryz.func70,by kernel_rfl,by kernel_rfl⟩ YO (by kernel_rfl)
def joinP:PrimOk Tryz.prog 63 (bH joinF):=VM (R:=renNm) ⟨Tryz.f63,Tryz.func63,by kernel_rfl,by kernel_rfl⟩ ni Go.Am.Key.extra
def toErrP:PrimOk Tryz.prog 172 (bH (toErrF (renNm.t 167) (renNm.t 168))):=NX (R:=renNm) ⟨Tryz.f172,Tryz.func172,by kernel_rfl,by kernel_rfl⟩ RQ (by kernel_rfl) (by kernel_rfl)
def fmtP:PrimOk Tryz.prog 131 (bH Fmt.fmtF):=Fmt.qt (by kernel_rfl) (by kernel_rfl)
end Go.Proofs.YtapbgleednkimaaGreatDoor.Prims

