/- The table of the functions that the laws reach; the examples that every law evaluates are run by the kernel. -/
import Derived.Test.YtanhmigakclecaaRows
import Derived.Test.YtanhmigakclecaaAmKEnd
import Derived.Test.YtanhmigakclecaaMzFacts
import Derived.Test.YtanhmigakclecaaZielonkaDeterminacyCode
set_option linter.unusedVariables false
namespace Go.Proofs.Ytanhmigakclecaa.ZielonkaDeterminacyTab
open Go.Am
theorem ent10 : EntOk Try.prog 10 Go.Am.Ar.af10 := ⟨Try.f10, Try.func10, by kernel_rfl, by kernel_rfl⟩
theorem ent8 : EntOk Try.prog 8 Go.Am.Ar.af8 := ⟨Try.f8, Try.func8, by kernel_rfl, by kernel_rfl⟩
theorem ent9 : EntOk Try.prog 9 Go.Am.Ar.af9 := ⟨Try.f9, Try.func9, by kernel_rfl, by kernel_rfl⟩
theorem ent11 : EntOk Try.prog 11 Go.Am.Ar.af11 := ⟨Try.f11, Try.func11, by kernel_rfl, by kernel_rfl⟩
theorem ent12 : EntOk Try.prog 12 Go.Am.Ar.af12 := ⟨Try.f12, Try.func12, by kernel_rfl, by kernel_rfl⟩
theorem ent13 : EntOk Try.prog 13 Go.Am.Ar.af13 := ⟨Try.f13, Try.func13, by kernel_rfl, by kernel_rfl⟩
theorem ent14 : EntOk Try.prog 14 Go.Am.Ar.af14 := ⟨Try.f14, Try.func14, by kernel_rfl, by kernel_rfl⟩
theorem ent17 : EntOk Try.prog 17 Go.Am.Ar.af17 := ⟨Try.f17, Try.func17, by kernel_rfl, by kernel_rfl⟩
theorem ent19 : EntOk Try.prog 19 Go.Am.Ar.af19 := ⟨Try.f19, Try.func19, by kernel_rfl, by kernel_rfl⟩
theorem ent20 : EntOk Try.prog 20 Go.Am.Ar.af20 := ⟨Try.f20, Try.func20, by kernel_rfl, by kernel_rfl⟩
theorem ent21 : EntOk Try.prog 21 Go.Am.Ar.af21 := ⟨Try.f21, Try.func21, by kernel_rfl, by kernel_rfl⟩
theorem ent22 : EntOk Try.prog 22 Go.Am.Ar.af22 := ⟨Try.f22, Try.func22, by kernel_rfl, by kernel_rfl⟩
theorem ent25 : EntOk Try.prog 25 Go.Am.Ar.af25 := ⟨Try.f25, Try.func25, by kernel_rfl, by kernel_rfl⟩
theorem ent26 : EntOk Try.prog 26 Go.Am.Ar.af26 := ⟨Try.f26, Try.func26, by kernel_rfl, by kernel_rfl⟩
theorem ent27 : EntOk Try.prog 27 Go.Am.Ar.af27 := ⟨Try.f27, Try.func27, by kernel_rfl, by kernel_rfl⟩
theorem ent28 : EntOk Try.prog 28 Go.Am.Ar.af28 := ⟨Try.f28, Try.func28, by kernel_rfl, by kernel_rfl⟩
theorem ent29 : EntOk Try.prog 29 Go.Am.Ar.af29 := ⟨Try.f29, Try.func29, by kernel_rfl, by kernel_rfl⟩
theorem ent30 : EntOk Try.prog 30 Go.Am.Ar.af30 := ⟨Try.f30, Try.func30, by kernel_rfl, by kernel_rfl⟩
theorem ent31 : EntOk Try.prog 31 Go.Am.Ar.af31 := ⟨Try.f31, Try.func31, by kernel_rfl, by kernel_rfl⟩
theorem ent32 : EntOk Try.prog 32 Go.Am.Ar.af32 := ⟨Try.f32, Try.func32, by kernel_rfl, by kernel_rfl⟩
theorem ent33 : EntOk Try.prog 33 Go.Am.Ar.af33 := ⟨Try.f33, Try.func33, by kernel_rfl, by kernel_rfl⟩
theorem ent34 : EntOk Try.prog 34 Go.Am.Ar.af34 := ⟨Try.f34, Try.func34, by kernel_rfl, by kernel_rfl⟩
theorem ent35 : EntOk Try.prog 35 Go.Am.Ar.af35 := ⟨Try.f35, Try.func35, by kernel_rfl, by kernel_rfl⟩
theorem ent36 : EntOk Try.prog 36 Go.Am.Ar.af36 := ⟨Try.f36, Try.func36, by kernel_rfl, by kernel_rfl⟩
theorem ent37 : EntOk Try.prog 37 Go.Am.Ar.af37 := ⟨Try.f37, Try.func37, by kernel_rfl, by kernel_rfl⟩
theorem ent41 : EntOk Try.prog 41 Go.Am.Ar.af41 := ⟨Try.f41, Try.func41, by kernel_rfl, by kernel_rfl⟩
theorem ent42 : EntOk Try.prog 42 Go.Am.Ar.af42 := ⟨Try.f42, Try.func42, by kernel_rfl, by kernel_rfl⟩
theorem ent43 : EntOk Try.prog 43 Go.Am.Ar.af43 := ⟨Try.f43, Try.func43, by kernel_rfl, by kernel_rfl⟩
theorem ent45 : EntOk Try.prog 45 Go.Am.Ar.af45 := ⟨Try.f45, Try.func45, by kernel_rfl, by kernel_rfl⟩
theorem ent46 : EntOk Try.prog 46 Go.Am.Ar.af46 := ⟨Try.f46, Try.func46, by kernel_rfl, by kernel_rfl⟩
theorem ent47 : EntOk Try.prog 47 Go.Am.Ar.af47 := ⟨Try.f47, Try.func47, by kernel_rfl, by kernel_rfl⟩
theorem ent48 : EntOk Try.prog 48 Go.Am.Ar.af48 := ⟨Try.f48, Try.func48, by kernel_rfl, by kernel_rfl⟩
theorem ent49 : EntOk Try.prog 49 Go.Am.Ar.af49 := ⟨Try.f49, Try.func49, by kernel_rfl, by kernel_rfl⟩
theorem ent50 : EntOk Try.prog 50 Go.Am.Ar.af50 := ⟨Try.f50, Try.func50, by kernel_rfl, by kernel_rfl⟩
theorem ent51 : EntOk Try.prog 51 Go.Am.Ar.af51 := ⟨Try.f51, Try.func51, by kernel_rfl, by kernel_rfl⟩
theorem ent52 : EntOk Try.prog 52 Go.Am.Ar.af52 := ⟨Try.f52, Try.func52, by kernel_rfl, by kernel_rfl⟩
theorem ent53 : EntOk Try.prog 53 Go.Am.Ar.af53 := ⟨Try.f53, Try.func53, by kernel_rfl, by kernel_rfl⟩
theorem ent54 : EntOk Try.prog 54 Go.Am.Ar.af54 := ⟨Try.f54, Try.func54, by kernel_rfl, by kernel_rfl⟩
theorem ent55 : EntOk Try.prog 55 Go.Am.Ar.af55 := ⟨Try.f55, Try.func55, by kernel_rfl, by kernel_rfl⟩
theorem ent56 : EntOk Try.prog 56 Go.Am.Ar.af56 := ⟨Try.f56, Try.func56, by kernel_rfl, by kernel_rfl⟩
theorem ent57 : EntOk Try.prog 57 Go.Am.Ar.af57 := ⟨Try.f57, Try.func57, by kernel_rfl, by kernel_rfl⟩
theorem ent58 : EntOk Try.prog 58 Go.Am.Ar.af58 := ⟨Try.f58, Try.func58, by kernel_rfl, by kernel_rfl⟩
theorem ent59 : EntOk Try.prog 59 Go.Am.Ar.af59 := ⟨Try.f59, Try.func59, by kernel_rfl, by kernel_rfl⟩
theorem ent63 : EntOk Try.prog 63 Go.Am.Ar.af63 := ⟨Try.f63, Try.func63, by kernel_rfl, by kernel_rfl⟩
theorem ent64 : EntOk Try.prog 64 Go.Am.Ar.af64 := ⟨Try.f64, Try.func64, by kernel_rfl, by kernel_rfl⟩
theorem ent65 : EntOk Try.prog 65 Go.Am.Ar.af65 := ⟨Try.f65, Try.func65, by kernel_rfl, by kernel_rfl⟩
theorem ent66 : EntOk Try.prog 66 Go.Am.Ar.af66 := ⟨Try.f66, Try.func66, by kernel_rfl, by kernel_rfl⟩
theorem ent67 : EntOk Try.prog 67 Go.Am.Ar.af67 := ⟨Try.f67, Try.func67, by kernel_rfl, by kernel_rfl⟩
theorem ent68 : EntOk Try.prog 68 Go.Am.Ar.af68 := ⟨Try.f68, Try.func68, by kernel_rfl, by kernel_rfl⟩
theorem ent70 : EntOk Try.prog 70 Go.Am.Ar.af70 := ⟨Try.f70, Try.func70, by kernel_rfl, by kernel_rfl⟩
theorem ent71 : EntOk Try.prog 71 Go.Am.Ar.af71 := ⟨Try.f71, Try.func71, by kernel_rfl, by kernel_rfl⟩
theorem ent72 : EntOk Try.prog 72 Go.Am.Ar.af72 := ⟨Try.f72, Try.func72, by kernel_rfl, by kernel_rfl⟩
theorem ent73 : EntOk Try.prog 73 Go.Am.Ar.af73 := ⟨Try.f73, Try.func73, by kernel_rfl, by kernel_rfl⟩
theorem ent74 : EntOk Try.prog 74 Go.Am.Ar.af74 := ⟨Try.f74, Try.func74, by kernel_rfl, by kernel_rfl⟩
theorem ent75 : EntOk Try.prog 75 Go.Am.Ar.af75 := ⟨Try.f75, Try.func75, by kernel_rfl, by kernel_rfl⟩
theorem ent76 : EntOk Try.prog 76 Go.Am.Ar.af76 := ⟨Try.f76, Try.func76, by kernel_rfl, by kernel_rfl⟩
theorem ent77 : EntOk Try.prog 77 Go.Am.Ar.af77 := ⟨Try.f77, Try.func77, by kernel_rfl, by kernel_rfl⟩
theorem ent78 : EntOk Try.prog 78 Go.Am.Ar.af78 := ⟨Try.f78, Try.func78, by kernel_rfl, by kernel_rfl⟩
theorem ent79 : EntOk Try.prog 79 Go.Am.Ar.af79 := ⟨Try.f79, Try.func79, by kernel_rfl, by kernel_rfl⟩
def awTree10 : KT := (.node (.node (.node (.node (.node .leaf 10 Go.Am.Ar.af10 .leaf) 12 Go.Am.Ar.af12 .leaf) 17 Go.Am.Ar.af17 (.node .leaf 22 Go.Am.Ar.af22 .leaf)) 29 Go.Am.Ar.af29 (.node (.node .leaf 33 Go.Am.Ar.af33 .leaf) 34 Go.Am.Ar.af34 (.node .leaf 36 Go.Am.Ar.af36 .leaf))) 50 Go.Am.Ar.af50 (.node (.node (.node (.node .leaf 54 Go.Am.Ar.af54 .leaf) 55 Go.Am.Ar.af55 .leaf) 56 Go.Am.Ar.af56 (.node .leaf 57 Go.Am.Ar.af57 .leaf)) 58 Go.Am.Ar.af58 (.node (.node .leaf 59 Go.Am.Ar.af59 .leaf) 68 Go.Am.Ar.af68 (.node .leaf 76 Go.Am.Ar.af76 .leaf))))
theorem awTree10_ok : awTree10.Ok Try.prog := ⟨ent50, ⟨ent29, ⟨ent17, ⟨ent12, ⟨ent10, trivial, trivial⟩, trivial⟩, ⟨ent22, trivial, trivial⟩⟩, ⟨ent34, ⟨ent33, trivial, trivial⟩, ⟨ent36, trivial, trivial⟩⟩⟩, ⟨ent58, ⟨ent56, ⟨ent55, ⟨ent54, trivial, trivial⟩, trivial⟩, ⟨ent57, trivial, trivial⟩⟩, ⟨ent68, ⟨ent59, trivial, trivial⟩, ⟨ent76, trivial, trivial⟩⟩⟩⟩
set_option maxRecDepth 100000 in
theorem awRuns10 : kif (kclosed awTree10 (nat_lit 5000) (nat_lit 10)) true = true := by kernel_rfl
theorem awPrim10 : PrimOk Try.prog 10 primTrue := prim_true ⟨Try.f10, Try.func10, by kernel_rfl, by kernel_rfl⟩ (fun w => calls_true awTree10_ok (kif_ok awRuns10).1 w)

def tree : KT := (.node (.node (.node (.node (.node (.node .leaf 8 Go.Am.Ar.af8 .leaf) 9 Go.Am.Ar.af9 (.tru .leaf 10 .leaf)) 11 Go.Am.Ar.af11 (.node (.node .leaf 12 Go.Am.Ar.af12 .leaf) 13 Go.Am.Ar.af13 (.node .leaf 14 Go.Am.Ar.af14 .leaf))) 17 Go.Am.Ar.af17 (.node (.node (.node .leaf 19 Go.Am.Ar.af19 .leaf) 20 Go.Am.Ar.af20 (.node .leaf 21 Go.Am.Ar.af21 .leaf)) 22 Go.Am.Ar.af22 (.node (.node .leaf 25 Go.Am.Ar.af25 .leaf) 26 Go.Am.Ar.af26 .leaf))) 27 Go.Am.Ar.af27 (.node (.node (.node (.node .leaf 28 Go.Am.Ar.af28 .leaf) 29 Go.Am.Ar.af29 (.node .leaf 30 Go.Am.Ar.af30 .leaf)) 31 Go.Am.Ar.af31 (.node (.node .leaf 32 Go.Am.Ar.af32 .leaf) 33 Go.Am.Ar.af33 (.node .leaf 34 Go.Am.Ar.af34 .leaf))) 35 Go.Am.Ar.af35 (.node (.node (.node .leaf 36 Go.Am.Ar.af36 .leaf) 37 Go.Am.Ar.af37 (.node .leaf 41 Go.Am.Ar.af41 .leaf)) 42 Go.Am.Ar.af42 (.node (.node .leaf 43 Go.Am.Ar.af43 .leaf) 45 Go.Am.Ar.af45 .leaf)))) 46 Go.Am.Ar.af46 (.node (.node (.node (.node (.node .leaf 47 Go.Am.Ar.af47 .leaf) 48 Go.Am.Ar.af48 (.node .leaf 49 Go.Am.Ar.af49 .leaf)) 50 Go.Am.Ar.af50 (.node (.node .leaf 51 Go.Am.Ar.af51 .leaf) 52 Go.Am.Ar.af52 (.node .leaf 53 Go.Am.Ar.af53 .leaf))) 54 Go.Am.Ar.af54 (.node (.node (.node .leaf 55 Go.Am.Ar.af55 .leaf) 56 Go.Am.Ar.af56 (.node .leaf 57 Go.Am.Ar.af57 .leaf)) 58 Go.Am.Ar.af58 (.node (.node .leaf 59 Go.Am.Ar.af59 .leaf) 63 Go.Am.Ar.af63 .leaf))) 64 Go.Am.Ar.af64 (.node (.node (.node (.node .leaf 65 Go.Am.Ar.af65 .leaf) 66 Go.Am.Ar.af66 (.node .leaf 67 Go.Am.Ar.af67 .leaf)) 68 Go.Am.Ar.af68 (.node (.node .leaf 70 Go.Am.Ar.af70 .leaf) 71 Go.Am.Ar.af71 (.node .leaf 72 Go.Am.Ar.af72 .leaf))) 73 Go.Am.Ar.af73 (.node (.node (.node .leaf 74 Go.Am.Ar.af74 .leaf) 75 Go.Am.Ar.af75 (.node .leaf 76 Go.Am.Ar.af76 .leaf)) 77 Go.Am.Ar.af77 (.node (.node .leaf 78 Go.Am.Ar.af78 .leaf) 79 Go.Am.Ar.af79 .leaf)))))
theorem tree_ok : tree.Ok Try.prog := ⟨ent46, ⟨ent27, ⟨ent17, ⟨ent11, ⟨ent9, ⟨ent8, trivial, trivial⟩, ⟨awPrim10, trivial, trivial⟩⟩, ⟨ent13, ⟨ent12, trivial, trivial⟩, ⟨ent14, trivial, trivial⟩⟩⟩, ⟨ent22, ⟨ent20, ⟨ent19, trivial, trivial⟩, ⟨ent21, trivial, trivial⟩⟩, ⟨ent26, ⟨ent25, trivial, trivial⟩, trivial⟩⟩⟩, ⟨ent35, ⟨ent31, ⟨ent29, ⟨ent28, trivial, trivial⟩, ⟨ent30, trivial, trivial⟩⟩, ⟨ent33, ⟨ent32, trivial, trivial⟩, ⟨ent34, trivial, trivial⟩⟩⟩, ⟨ent42, ⟨ent37, ⟨ent36, trivial, trivial⟩, ⟨ent41, trivial, trivial⟩⟩, ⟨ent45, ⟨ent43, trivial, trivial⟩, trivial⟩⟩⟩⟩, ⟨ent64, ⟨ent54, ⟨ent50, ⟨ent48, ⟨ent47, trivial, trivial⟩, ⟨ent49, trivial, trivial⟩⟩, ⟨ent52, ⟨ent51, trivial, trivial⟩, ⟨ent53, trivial, trivial⟩⟩⟩, ⟨ent58, ⟨ent56, ⟨ent55, trivial, trivial⟩, ⟨ent57, trivial, trivial⟩⟩, ⟨ent63, ⟨ent59, trivial, trivial⟩, trivial⟩⟩⟩, ⟨ent73, ⟨ent68, ⟨ent66, ⟨ent65, trivial, trivial⟩, ⟨ent67, trivial, trivial⟩⟩, ⟨ent71, ⟨ent70, trivial, trivial⟩, ⟨ent72, trivial, trivial⟩⟩⟩, ⟨ent77, ⟨ent75, ⟨ent74, trivial, trivial⟩, ⟨ent76, trivial, trivial⟩⟩, ⟨ent79, ⟨ent78, trivial, trivial⟩, trivial⟩⟩⟩⟩⟩
theorem has : Go.Am.Ar.HasA tree.find := ⟨by constructor <;> kernel_rfl, by kernel_rfl⟩
end Go.Proofs.Ytanhmigakclecaa.ZielonkaDeterminacyTab
