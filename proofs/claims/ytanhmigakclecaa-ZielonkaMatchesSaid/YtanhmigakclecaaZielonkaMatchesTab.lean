/- The table of the functions that the laws reach; the examples that every law evaluates are run by the kernel. -/
import Derived.Test.YtanhmigakclecaaRows
import Derived.Test.YtanhmigakclecaaAmKEnd
import Derived.Test.YtanhmigakclecaaMzFacts
import Derived.Test.YtanhmigakclecaaZielonkaMatchesCode
set_option linter.unusedVariables false
namespace Go.Proofs.Ytanhmigakclecaa.ZielonkaMatchesTab
open Go.Am
theorem ent10 : EntOk Try.prog 10 Go.Am.Ar.af10 := ⟨Try.f10, Try.func10, by kernel_rfl, by kernel_rfl⟩
theorem ent3 : EntOk Try.prog 3 Go.Am.Ar.af3 := ⟨Try.f3, Try.func3, by kernel_rfl, by kernel_rfl⟩
theorem ent9 : EntOk Try.prog 9 Go.Am.Ar.af9 := ⟨Try.f9, Try.func9, by kernel_rfl, by kernel_rfl⟩
theorem ent11 : EntOk Try.prog 11 Go.Am.Ar.af11 := ⟨Try.f11, Try.func11, by kernel_rfl, by kernel_rfl⟩
theorem ent12 : EntOk Try.prog 12 Go.Am.Ar.af12 := ⟨Try.f12, Try.func12, by kernel_rfl, by kernel_rfl⟩
theorem ent13 : EntOk Try.prog 13 Go.Am.Ar.af13 := ⟨Try.f13, Try.func13, by kernel_rfl, by kernel_rfl⟩
theorem ent14 : EntOk Try.prog 14 Go.Am.Ar.af14 := ⟨Try.f14, Try.func14, by kernel_rfl, by kernel_rfl⟩
theorem ent15 : EntOk Try.prog 15 Go.Am.Ar.af15 := ⟨Try.f15, Try.func15, by kernel_rfl, by kernel_rfl⟩
theorem ent16 : EntOk Try.prog 16 Go.Am.Ar.af16 := ⟨Try.f16, Try.func16, by kernel_rfl, by kernel_rfl⟩
theorem ent17 : EntOk Try.prog 17 Go.Am.Ar.af17 := ⟨Try.f17, Try.func17, by kernel_rfl, by kernel_rfl⟩
theorem ent18 : EntOk Try.prog 18 Go.Am.Ar.af18 := ⟨Try.f18, Try.func18, by kernel_rfl, by kernel_rfl⟩
theorem ent19 : EntOk Try.prog 19 Go.Am.Ar.af19 := ⟨Try.f19, Try.func19, by kernel_rfl, by kernel_rfl⟩
theorem ent20 : EntOk Try.prog 20 Go.Am.Ar.af20 := ⟨Try.f20, Try.func20, by kernel_rfl, by kernel_rfl⟩
theorem ent21 : EntOk Try.prog 21 Go.Am.Ar.af21 := ⟨Try.f21, Try.func21, by kernel_rfl, by kernel_rfl⟩
theorem ent22 : EntOk Try.prog 22 Go.Am.Ar.af22 := ⟨Try.f22, Try.func22, by kernel_rfl, by kernel_rfl⟩
theorem ent27 : EntOk Try.prog 27 Go.Am.Ar.af27 := ⟨Try.f27, Try.func27, by kernel_rfl, by kernel_rfl⟩
theorem ent28 : EntOk Try.prog 28 Go.Am.Ar.af28 := ⟨Try.f28, Try.func28, by kernel_rfl, by kernel_rfl⟩
theorem ent29 : EntOk Try.prog 29 Go.Am.Ar.af29 := ⟨Try.f29, Try.func29, by kernel_rfl, by kernel_rfl⟩
theorem ent30 : EntOk Try.prog 30 Go.Am.Ar.af30 := ⟨Try.f30, Try.func30, by kernel_rfl, by kernel_rfl⟩
theorem ent31 : EntOk Try.prog 31 Go.Am.Ar.af31 := ⟨Try.f31, Try.func31, by kernel_rfl, by kernel_rfl⟩
theorem ent32 : EntOk Try.prog 32 Go.Am.Ar.af32 := ⟨Try.f32, Try.func32, by kernel_rfl, by kernel_rfl⟩
theorem ent33 : EntOk Try.prog 33 Go.Am.Ar.af33 := ⟨Try.f33, Try.func33, by kernel_rfl, by kernel_rfl⟩
theorem ent34 : EntOk Try.prog 34 Go.Am.Ar.af34 := ⟨Try.f34, Try.func34, by kernel_rfl, by kernel_rfl⟩
theorem ent35 : EntOk Try.prog 35 Go.Am.Ar.af35 := ⟨Try.f35, Try.func35, by kernel_rfl, by kernel_rfl⟩
theorem ent36 : EntOk Try.prog 36 Go.Am.Ar.af36 := ⟨Try.f36, Try.func36, by kernel_rfl, by kernel_rfl⟩
theorem ent37 : EntOk Try.prog 37 Go.Am.Ar.af37 := ⟨Try.f37, Try.func37, by kernel_rfl, by kernel_rfl⟩
theorem ent38 : EntOk Try.prog 38 Go.Am.Ar.af38 := ⟨Try.f38, Try.func38, by kernel_rfl, by kernel_rfl⟩
theorem ent39 : EntOk Try.prog 39 Go.Am.Ar.af39 := ⟨Try.f39, Try.func39, by kernel_rfl, by kernel_rfl⟩
theorem ent40 : EntOk Try.prog 40 Go.Am.Ar.af40 := ⟨Try.f40, Try.func40, by kernel_rfl, by kernel_rfl⟩
theorem ent41 : EntOk Try.prog 41 Go.Am.Ar.af41 := ⟨Try.f41, Try.func41, by kernel_rfl, by kernel_rfl⟩
theorem ent42 : EntOk Try.prog 42 Go.Am.Ar.af42 := ⟨Try.f42, Try.func42, by kernel_rfl, by kernel_rfl⟩
theorem ent43 : EntOk Try.prog 43 Go.Am.Ar.af43 := ⟨Try.f43, Try.func43, by kernel_rfl, by kernel_rfl⟩
theorem ent50 : EntOk Try.prog 50 Go.Am.Ar.af50 := ⟨Try.f50, Try.func50, by kernel_rfl, by kernel_rfl⟩
theorem ent52 : EntOk Try.prog 52 Go.Am.Ar.af52 := ⟨Try.f52, Try.func52, by kernel_rfl, by kernel_rfl⟩
theorem ent53 : EntOk Try.prog 53 Go.Am.Ar.af53 := ⟨Try.f53, Try.func53, by kernel_rfl, by kernel_rfl⟩
theorem ent54 : EntOk Try.prog 54 Go.Am.Ar.af54 := ⟨Try.f54, Try.func54, by kernel_rfl, by kernel_rfl⟩
theorem ent55 : EntOk Try.prog 55 Go.Am.Ar.af55 := ⟨Try.f55, Try.func55, by kernel_rfl, by kernel_rfl⟩
theorem ent56 : EntOk Try.prog 56 Go.Am.Ar.af56 := ⟨Try.f56, Try.func56, by kernel_rfl, by kernel_rfl⟩
theorem ent57 : EntOk Try.prog 57 Go.Am.Ar.af57 := ⟨Try.f57, Try.func57, by kernel_rfl, by kernel_rfl⟩
theorem ent58 : EntOk Try.prog 58 Go.Am.Ar.af58 := ⟨Try.f58, Try.func58, by kernel_rfl, by kernel_rfl⟩
theorem ent59 : EntOk Try.prog 59 Go.Am.Ar.af59 := ⟨Try.f59, Try.func59, by kernel_rfl, by kernel_rfl⟩
theorem ent60 : EntOk Try.prog 60 Go.Am.Ar.af60 := ⟨Try.f60, Try.func60, by kernel_rfl, by kernel_rfl⟩
theorem ent68 : EntOk Try.prog 68 Go.Am.Ar.af68 := ⟨Try.f68, Try.func68, by kernel_rfl, by kernel_rfl⟩
theorem ent76 : EntOk Try.prog 76 Go.Am.Ar.af76 := ⟨Try.f76, Try.func76, by kernel_rfl, by kernel_rfl⟩
def awTree10 : KT := (.node (.node (.node (.node (.node .leaf 10 Go.Am.Ar.af10 .leaf) 12 Go.Am.Ar.af12 .leaf) 17 Go.Am.Ar.af17 (.node .leaf 22 Go.Am.Ar.af22 .leaf)) 29 Go.Am.Ar.af29 (.node (.node .leaf 33 Go.Am.Ar.af33 .leaf) 34 Go.Am.Ar.af34 (.node .leaf 36 Go.Am.Ar.af36 .leaf))) 50 Go.Am.Ar.af50 (.node (.node (.node (.node .leaf 54 Go.Am.Ar.af54 .leaf) 55 Go.Am.Ar.af55 .leaf) 56 Go.Am.Ar.af56 (.node .leaf 57 Go.Am.Ar.af57 .leaf)) 58 Go.Am.Ar.af58 (.node (.node .leaf 59 Go.Am.Ar.af59 .leaf) 68 Go.Am.Ar.af68 (.node .leaf 76 Go.Am.Ar.af76 .leaf))))
theorem awTree10_ok : awTree10.Ok Try.prog := ⟨ent50, ⟨ent29, ⟨ent17, ⟨ent12, ⟨ent10, trivial, trivial⟩, trivial⟩, ⟨ent22, trivial, trivial⟩⟩, ⟨ent34, ⟨ent33, trivial, trivial⟩, ⟨ent36, trivial, trivial⟩⟩⟩, ⟨ent58, ⟨ent56, ⟨ent55, ⟨ent54, trivial, trivial⟩, trivial⟩, ⟨ent57, trivial, trivial⟩⟩, ⟨ent68, ⟨ent59, trivial, trivial⟩, ⟨ent76, trivial, trivial⟩⟩⟩⟩
set_option maxRecDepth 100000 in
theorem awRuns10 : kif (kclosed awTree10 (nat_lit 5000) (nat_lit 10)) true = true := by kernel_rfl
theorem awPrim10 : PrimOk Try.prog 10 primTrue := prim_true ⟨Try.f10, Try.func10, by kernel_rfl, by kernel_rfl⟩ (fun w => calls_true awTree10_ok (kif_ok awRuns10).1 w)

def tree : KT := (.node (.node (.node (.tru (.node (.node .leaf 3 Go.Am.Ar.af3 .leaf) 9 Go.Am.Ar.af9 .leaf) 10 (.node (.node .leaf 11 Go.Am.Ar.af11 .leaf) 12 Go.Am.Ar.af12 .leaf)) 13 Go.Am.Ar.af13 (.node (.node (.node .leaf 14 Go.Am.Ar.af14 .leaf) 15 Go.Am.Ar.af15 .leaf) 16 Go.Am.Ar.af16 (.node (.node .leaf 17 Go.Am.Ar.af17 .leaf) 18 Go.Am.Ar.af18 .leaf))) 19 Go.Am.Ar.af19 (.node (.node (.node (.node .leaf 20 Go.Am.Ar.af20 .leaf) 21 Go.Am.Ar.af21 .leaf) 22 Go.Am.Ar.af22 (.node (.node .leaf 27 Go.Am.Ar.af27 .leaf) 28 Go.Am.Ar.af28 .leaf)) 29 Go.Am.Ar.af29 (.node (.node (.node .leaf 30 Go.Am.Ar.af30 .leaf) 31 Go.Am.Ar.af31 .leaf) 32 Go.Am.Ar.af32 (.node .leaf 33 Go.Am.Ar.af33 .leaf)))) 34 Go.Am.Ar.af34 (.node (.node (.node (.node (.node .leaf 35 Go.Am.Ar.af35 .leaf) 36 Go.Am.Ar.af36 .leaf) 37 Go.Am.Ar.af37 (.node (.node .leaf 38 Go.Am.Ar.af38 .leaf) 39 Go.Am.Ar.af39 .leaf)) 40 Go.Am.Ar.af40 (.node (.node (.node .leaf 41 Go.Am.Ar.af41 .leaf) 42 Go.Am.Ar.af42 .leaf) 43 Go.Am.Ar.af43 (.node .leaf 50 Go.Am.Ar.af50 .leaf))) 52 Go.Am.Ar.af52 (.node (.node (.node (.node .leaf 53 Go.Am.Ar.af53 .leaf) 54 Go.Am.Ar.af54 .leaf) 55 Go.Am.Ar.af55 (.node (.node .leaf 56 Go.Am.Ar.af56 .leaf) 57 Go.Am.Ar.af57 .leaf)) 58 Go.Am.Ar.af58 (.node (.node (.node .leaf 59 Go.Am.Ar.af59 .leaf) 60 Go.Am.Ar.af60 .leaf) 68 Go.Am.Ar.af68 (.node .leaf 76 Go.Am.Ar.af76 .leaf)))))
theorem tree_ok : tree.Ok Try.prog := ⟨ent34, ⟨ent19, ⟨ent13, ⟨awPrim10, ⟨ent9, ⟨ent3, trivial, trivial⟩, trivial⟩, ⟨ent12, ⟨ent11, trivial, trivial⟩, trivial⟩⟩, ⟨ent16, ⟨ent15, ⟨ent14, trivial, trivial⟩, trivial⟩, ⟨ent18, ⟨ent17, trivial, trivial⟩, trivial⟩⟩⟩, ⟨ent29, ⟨ent22, ⟨ent21, ⟨ent20, trivial, trivial⟩, trivial⟩, ⟨ent28, ⟨ent27, trivial, trivial⟩, trivial⟩⟩, ⟨ent32, ⟨ent31, ⟨ent30, trivial, trivial⟩, trivial⟩, ⟨ent33, trivial, trivial⟩⟩⟩⟩, ⟨ent52, ⟨ent40, ⟨ent37, ⟨ent36, ⟨ent35, trivial, trivial⟩, trivial⟩, ⟨ent39, ⟨ent38, trivial, trivial⟩, trivial⟩⟩, ⟨ent43, ⟨ent42, ⟨ent41, trivial, trivial⟩, trivial⟩, ⟨ent50, trivial, trivial⟩⟩⟩, ⟨ent58, ⟨ent55, ⟨ent54, ⟨ent53, trivial, trivial⟩, trivial⟩, ⟨ent57, ⟨ent56, trivial, trivial⟩, trivial⟩⟩, ⟨ent68, ⟨ent60, ⟨ent59, trivial, trivial⟩, trivial⟩, ⟨ent76, trivial, trivial⟩⟩⟩⟩⟩
theorem has : Go.Am.Ar.HasA tree.find := ⟨by constructor <;> kernel_rfl, by kernel_rfl⟩
end Go.Proofs.Ytanhmigakclecaa.ZielonkaMatchesTab
