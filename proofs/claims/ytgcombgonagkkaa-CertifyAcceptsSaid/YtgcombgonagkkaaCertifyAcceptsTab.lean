/- The table of the functions that the laws reach; the examples that every law evaluates are run by the kernel. -/
import Derived.Test.YtgcombgonagkkaaRows
import Derived.Test.YtgcombgonagkkaaAmKEnd
import Derived.Test.YtgcombgonagkkaaMzFacts
import Derived.Test.YtgcombgonagkkaaCertifyAcceptsCode
set_option linter.unusedVariables false
namespace Go.Proofs.Ytgcombgonagkkaa.CertifyAcceptsTab
open Go.Am
theorem ent5 : EntOk Try.prog 5 Go.Am.Ar.af5 := ⟨Try.f5, Try.func5, by kernel_rfl, by kernel_rfl⟩
theorem ent3 : EntOk Try.prog 3 Go.Am.Ar.af3 := ⟨Try.f3, Try.func3, by kernel_rfl, by kernel_rfl⟩
theorem ent4 : EntOk Try.prog 4 Go.Am.Ar.af4 := ⟨Try.f4, Try.func4, by kernel_rfl, by kernel_rfl⟩
theorem ent6 : EntOk Try.prog 6 Go.Am.Ar.af6 := ⟨Try.f6, Try.func6, by kernel_rfl, by kernel_rfl⟩
theorem ent7 : EntOk Try.prog 7 Go.Am.Ar.af7 := ⟨Try.f7, Try.func7, by kernel_rfl, by kernel_rfl⟩
theorem ent8 : EntOk Try.prog 8 Go.Am.Ar.af8 := ⟨Try.f8, Try.func8, by kernel_rfl, by kernel_rfl⟩
theorem ent9 : EntOk Try.prog 9 Go.Am.Ar.af9 := ⟨Try.f9, Try.func9, by kernel_rfl, by kernel_rfl⟩
theorem ent10 : EntOk Try.prog 10 Go.Am.Ar.af10 := ⟨Try.f10, Try.func10, by kernel_rfl, by kernel_rfl⟩
theorem ent11 : EntOk Try.prog 11 Go.Am.Ar.af11 := ⟨Try.f11, Try.func11, by kernel_rfl, by kernel_rfl⟩
theorem ent12 : EntOk Try.prog 12 Go.Am.Ar.af12 := ⟨Try.f12, Try.func12, by kernel_rfl, by kernel_rfl⟩
theorem ent13 : EntOk Try.prog 13 Go.Am.Ar.af13 := ⟨Try.f13, Try.func13, by kernel_rfl, by kernel_rfl⟩
theorem ent14 : EntOk Try.prog 14 Go.Am.Ar.af14 := ⟨Try.f14, Try.func14, by kernel_rfl, by kernel_rfl⟩
theorem ent15 : EntOk Try.prog 15 Go.Am.Ar.af15 := ⟨Try.f15, Try.func15, by kernel_rfl, by kernel_rfl⟩
theorem ent16 : EntOk Try.prog 16 Go.Am.Ar.af16 := ⟨Try.f16, Try.func16, by kernel_rfl, by kernel_rfl⟩
theorem ent17 : EntOk Try.prog 17 Go.Am.Ar.af17 := ⟨Try.f17, Try.func17, by kernel_rfl, by kernel_rfl⟩
theorem ent18 : EntOk Try.prog 18 Go.Am.Ar.af18 := ⟨Try.f18, Try.func18, by kernel_rfl, by kernel_rfl⟩
theorem ent19 : EntOk Try.prog 19 Go.Am.Ar.af19 := ⟨Try.f19, Try.func19, by kernel_rfl, by kernel_rfl⟩
theorem ent20 : EntOk Try.prog 20 Go.Am.Ar.af20 := ⟨Try.f20, Try.func20, by kernel_rfl, by kernel_rfl⟩
theorem ent21 : EntOk Try.prog 21 Go.Am.Ar.af21 := ⟨Try.f21, Try.func21, by kernel_rfl, by kernel_rfl⟩
theorem ent22 : EntOk Try.prog 22 Go.Am.Ar.af22 := ⟨Try.f22, Try.func22, by kernel_rfl, by kernel_rfl⟩
theorem ent23 : EntOk Try.prog 23 Go.Am.Ar.af23 := ⟨Try.f23, Try.func23, by kernel_rfl, by kernel_rfl⟩
theorem ent24 : EntOk Try.prog 24 Go.Am.Ar.af24 := ⟨Try.f24, Try.func24, by kernel_rfl, by kernel_rfl⟩
theorem ent25 : EntOk Try.prog 25 Go.Am.Ar.af25 := ⟨Try.f25, Try.func25, by kernel_rfl, by kernel_rfl⟩
theorem ent26 : EntOk Try.prog 26 Go.Am.Ar.af26 := ⟨Try.f26, Try.func26, by kernel_rfl, by kernel_rfl⟩
theorem ent27 : EntOk Try.prog 27 Go.Am.Ar.af27 := ⟨Try.f27, Try.func27, by kernel_rfl, by kernel_rfl⟩
theorem ent28 : EntOk Try.prog 28 Go.Am.Ar.af28 := ⟨Try.f28, Try.func28, by kernel_rfl, by kernel_rfl⟩
theorem ent29 : EntOk Try.prog 29 Go.Am.Ar.af29 := ⟨Try.f29, Try.func29, by kernel_rfl, by kernel_rfl⟩
theorem ent30 : EntOk Try.prog 30 Go.Am.Ar.af30 := ⟨Try.f30, Try.func30, by kernel_rfl, by kernel_rfl⟩
theorem ent31 : EntOk Try.prog 31 Go.Am.Ar.af31 := ⟨Try.f31, Try.func31, by kernel_rfl, by kernel_rfl⟩
theorem ent32 : EntOk Try.prog 32 Go.Am.Ar.af32 := ⟨Try.f32, Try.func32, by kernel_rfl, by kernel_rfl⟩
theorem ent33 : EntOk Try.prog 33 Go.Am.Ar.af33 := ⟨Try.f33, Try.func33, by kernel_rfl, by kernel_rfl⟩
theorem ent34 : EntOk Try.prog 34 Go.Am.Ar.af34 := ⟨Try.f34, Try.func34, by kernel_rfl, by kernel_rfl⟩
theorem ent35 : EntOk Try.prog 35 Go.Am.Ar.af35 := ⟨Try.f35, Try.func35, by kernel_rfl, by kernel_rfl⟩
theorem ent36 : EntOk Try.prog 36 Go.Am.Ar.af36 := ⟨Try.f36, Try.func36, by kernel_rfl, by kernel_rfl⟩
theorem ent37 : EntOk Try.prog 37 Go.Am.Ar.af37 := ⟨Try.f37, Try.func37, by kernel_rfl, by kernel_rfl⟩
theorem ent38 : EntOk Try.prog 38 Go.Am.Ar.af38 := ⟨Try.f38, Try.func38, by kernel_rfl, by kernel_rfl⟩
theorem ent39 : EntOk Try.prog 39 Go.Am.Ar.af39 := ⟨Try.f39, Try.func39, by kernel_rfl, by kernel_rfl⟩
theorem ent40 : EntOk Try.prog 40 Go.Am.Ar.af40 := ⟨Try.f40, Try.func40, by kernel_rfl, by kernel_rfl⟩
theorem ent41 : EntOk Try.prog 41 Go.Am.Ar.af41 := ⟨Try.f41, Try.func41, by kernel_rfl, by kernel_rfl⟩
theorem ent42 : EntOk Try.prog 42 Go.Am.Ar.af42 := ⟨Try.f42, Try.func42, by kernel_rfl, by kernel_rfl⟩
theorem ent43 : EntOk Try.prog 43 Go.Am.Ar.af43 := ⟨Try.f43, Try.func43, by kernel_rfl, by kernel_rfl⟩
theorem ent44 : EntOk Try.prog 44 Go.Am.Ar.af44 := ⟨Try.f44, Try.func44, by kernel_rfl, by kernel_rfl⟩
theorem ent45 : EntOk Try.prog 45 Go.Am.Ar.af45 := ⟨Try.f45, Try.func45, by kernel_rfl, by kernel_rfl⟩
theorem ent46 : EntOk Try.prog 46 Go.Am.Ar.af46 := ⟨Try.f46, Try.func46, by kernel_rfl, by kernel_rfl⟩
theorem ent47 : EntOk Try.prog 47 Go.Am.Ar.af47 := ⟨Try.f47, Try.func47, by kernel_rfl, by kernel_rfl⟩
theorem ent48 : EntOk Try.prog 48 Go.Am.Ar.af48 := ⟨Try.f48, Try.func48, by kernel_rfl, by kernel_rfl⟩
theorem ent49 : EntOk Try.prog 49 Go.Am.Ar.af49 := ⟨Try.f49, Try.func49, by kernel_rfl, by kernel_rfl⟩
theorem ent50 : EntOk Try.prog 50 Go.Am.Ar.af50 := ⟨Try.f50, Try.func50, by kernel_rfl, by kernel_rfl⟩
theorem ent51 : EntOk Try.prog 51 Go.Am.Ar.af51 := ⟨Try.f51, Try.func51, by kernel_rfl, by kernel_rfl⟩
theorem ent52 : EntOk Try.prog 52 Go.Am.Ar.af52 := ⟨Try.f52, Try.func52, by kernel_rfl, by kernel_rfl⟩
theorem ent53 : EntOk Try.prog 53 Go.Am.Ar.af53 := ⟨Try.f53, Try.func53, by kernel_rfl, by kernel_rfl⟩
theorem ent54 : EntOk Try.prog 54 Go.Am.Ar.af54 := ⟨Try.f54, Try.func54, by kernel_rfl, by kernel_rfl⟩
theorem ent55 : EntOk Try.prog 55 Go.Am.Ar.af55 := ⟨Try.f55, Try.func55, by kernel_rfl, by kernel_rfl⟩
theorem ent56 : EntOk Try.prog 56 Go.Am.Ar.af56 := ⟨Try.f56, Try.func56, by kernel_rfl, by kernel_rfl⟩
theorem ent57 : EntOk Try.prog 57 Go.Am.Ar.af57 := ⟨Try.f57, Try.func57, by kernel_rfl, by kernel_rfl⟩
theorem ent58 : EntOk Try.prog 58 Go.Am.Ar.af58 := ⟨Try.f58, Try.func58, by kernel_rfl, by kernel_rfl⟩
theorem ent59 : EntOk Try.prog 59 Go.Am.Ar.af59 := ⟨Try.f59, Try.func59, by kernel_rfl, by kernel_rfl⟩
theorem ent60 : EntOk Try.prog 60 Go.Am.Ar.af60 := ⟨Try.f60, Try.func60, by kernel_rfl, by kernel_rfl⟩
theorem ent61 : EntOk Try.prog 61 Go.Am.Ar.af61 := ⟨Try.f61, Try.func61, by kernel_rfl, by kernel_rfl⟩
theorem ent62 : EntOk Try.prog 62 Go.Am.Ar.af62 := ⟨Try.f62, Try.func62, by kernel_rfl, by kernel_rfl⟩
theorem ent63 : EntOk Try.prog 63 Go.Am.Ar.af63 := ⟨Try.f63, Try.func63, by kernel_rfl, by kernel_rfl⟩
theorem ent64 : EntOk Try.prog 64 Go.Am.Ar.af64 := ⟨Try.f64, Try.func64, by kernel_rfl, by kernel_rfl⟩
theorem ent65 : EntOk Try.prog 65 Go.Am.Ar.af65 := ⟨Try.f65, Try.func65, by kernel_rfl, by kernel_rfl⟩
theorem ent66 : EntOk Try.prog 66 Go.Am.Ar.af66 := ⟨Try.f66, Try.func66, by kernel_rfl, by kernel_rfl⟩
theorem ent67 : EntOk Try.prog 67 Go.Am.Ar.af67 := ⟨Try.f67, Try.func67, by kernel_rfl, by kernel_rfl⟩
theorem ent68 : EntOk Try.prog 68 Go.Am.Ar.af68 := ⟨Try.f68, Try.func68, by kernel_rfl, by kernel_rfl⟩
theorem ent69 : EntOk Try.prog 69 Go.Am.Ar.af69 := ⟨Try.f69, Try.func69, by kernel_rfl, by kernel_rfl⟩
theorem ent70 : EntOk Try.prog 70 Go.Am.Ar.af70 := ⟨Try.f70, Try.func70, by kernel_rfl, by kernel_rfl⟩
theorem ent71 : EntOk Try.prog 71 Go.Am.Ar.af71 := ⟨Try.f71, Try.func71, by kernel_rfl, by kernel_rfl⟩
theorem ent72 : EntOk Try.prog 72 Go.Am.Ar.af72 := ⟨Try.f72, Try.func72, by kernel_rfl, by kernel_rfl⟩
theorem ent73 : EntOk Try.prog 73 Go.Am.Ar.af73 := ⟨Try.f73, Try.func73, by kernel_rfl, by kernel_rfl⟩
theorem ent74 : EntOk Try.prog 74 Go.Am.Ar.af74 := ⟨Try.f74, Try.func74, by kernel_rfl, by kernel_rfl⟩
theorem ent75 : EntOk Try.prog 75 Go.Am.Ar.af75 := ⟨Try.f75, Try.func75, by kernel_rfl, by kernel_rfl⟩
theorem ent76 : EntOk Try.prog 76 Go.Am.Ar.af76 := ⟨Try.f76, Try.func76, by kernel_rfl, by kernel_rfl⟩
theorem ent77 : EntOk Try.prog 77 Go.Am.Ar.af77 := ⟨Try.f77, Try.func77, by kernel_rfl, by kernel_rfl⟩
theorem ent78 : EntOk Try.prog 78 Go.Am.Ar.af78 := ⟨Try.f78, Try.func78, by kernel_rfl, by kernel_rfl⟩
theorem ent81 : EntOk Try.prog 81 Go.Am.Ar.af81 := ⟨Try.f81, Try.func81, by kernel_rfl, by kernel_rfl⟩
theorem ent83 : EntOk Try.prog 83 Go.Am.Ar.af83 := ⟨Try.f83, Try.func83, by kernel_rfl, by kernel_rfl⟩
theorem ent84 : EntOk Try.prog 84 Go.Am.Ar.af84 := ⟨Try.f84, Try.func84, by kernel_rfl, by kernel_rfl⟩
theorem ent86 : EntOk Try.prog 86 Go.Am.Ar.af86 := ⟨Try.f86, Try.func86, by kernel_rfl, by kernel_rfl⟩
theorem ent88 : EntOk Try.prog 88 Go.Am.Ar.af88 := ⟨Try.f88, Try.func88, by kernel_rfl, by kernel_rfl⟩
theorem ent93 : EntOk Try.prog 93 Go.Am.Ar.af93 := ⟨Try.f93, Try.func93, by kernel_rfl, by kernel_rfl⟩
theorem ent94 : EntOk Try.prog 94 Go.Am.Ar.af94 := ⟨Try.f94, Try.func94, by kernel_rfl, by kernel_rfl⟩
def awTree5 : KT := (.node (.node (.node (.node (.node (.node .leaf 5 Go.Am.Ar.af5 .leaf) 8 Go.Am.Ar.af8 .leaf) 9 Go.Am.Ar.af9 (.node .leaf 10 Go.Am.Ar.af10 .leaf)) 13 Go.Am.Ar.af13 (.node (.node .leaf 14 Go.Am.Ar.af14 .leaf) 15 Go.Am.Ar.af15 (.node .leaf 16 Go.Am.Ar.af16 .leaf))) 17 Go.Am.Ar.af17 (.node (.node (.node .leaf 23 Go.Am.Ar.af23 .leaf) 24 Go.Am.Ar.af24 (.node .leaf 25 Go.Am.Ar.af25 .leaf)) 26 Go.Am.Ar.af26 (.node (.node .leaf 27 Go.Am.Ar.af27 .leaf) 28 Go.Am.Ar.af28 (.node .leaf 29 Go.Am.Ar.af29 .leaf)))) 30 Go.Am.Ar.af30 (.node (.node (.node (.node (.node .leaf 31 Go.Am.Ar.af31 .leaf) 32 Go.Am.Ar.af32 .leaf) 33 Go.Am.Ar.af33 (.node .leaf 34 Go.Am.Ar.af34 .leaf)) 35 Go.Am.Ar.af35 (.node (.node .leaf 36 Go.Am.Ar.af36 .leaf) 41 Go.Am.Ar.af41 (.node .leaf 54 Go.Am.Ar.af54 .leaf))) 55 Go.Am.Ar.af55 (.node (.node (.node .leaf 56 Go.Am.Ar.af56 .leaf) 57 Go.Am.Ar.af57 (.node .leaf 58 Go.Am.Ar.af58 .leaf)) 59 Go.Am.Ar.af59 (.node (.node .leaf 60 Go.Am.Ar.af60 .leaf) 67 Go.Am.Ar.af67 (.node .leaf 68 Go.Am.Ar.af68 .leaf)))))
theorem awTree5_ok : awTree5.Ok Try.prog := ⟨ent30, ⟨ent17, ⟨ent13, ⟨ent9, ⟨ent8, ⟨ent5, trivial, trivial⟩, trivial⟩, ⟨ent10, trivial, trivial⟩⟩, ⟨ent15, ⟨ent14, trivial, trivial⟩, ⟨ent16, trivial, trivial⟩⟩⟩, ⟨ent26, ⟨ent24, ⟨ent23, trivial, trivial⟩, ⟨ent25, trivial, trivial⟩⟩, ⟨ent28, ⟨ent27, trivial, trivial⟩, ⟨ent29, trivial, trivial⟩⟩⟩⟩, ⟨ent55, ⟨ent35, ⟨ent33, ⟨ent32, ⟨ent31, trivial, trivial⟩, trivial⟩, ⟨ent34, trivial, trivial⟩⟩, ⟨ent41, ⟨ent36, trivial, trivial⟩, ⟨ent54, trivial, trivial⟩⟩⟩, ⟨ent59, ⟨ent57, ⟨ent56, trivial, trivial⟩, ⟨ent58, trivial, trivial⟩⟩, ⟨ent67, ⟨ent60, trivial, trivial⟩, ⟨ent68, trivial, trivial⟩⟩⟩⟩⟩
set_option maxRecDepth 100000 in
theorem awRuns5 : kif (kclosed awTree5 (nat_lit 5000) (nat_lit 5)) true = true := by kernel_rfl
theorem awPrim5 : PrimOk Try.prog 5 primTrue := prim_true ⟨Try.f5, Try.func5, by kernel_rfl, by kernel_rfl⟩ (fun w => calls_true awTree5_ok (kif_ok awRuns5).1 w)

def tree : KT := (.node (.node (.node (.node (.tru (.node (.node .leaf 3 Go.Am.Ar.af3 .leaf) 4 Go.Am.Ar.af4 .leaf) 5 (.node (.node .leaf 6 Go.Am.Ar.af6 .leaf) 7 Go.Am.Ar.af7 .leaf)) 8 Go.Am.Ar.af8 (.node (.node (.node .leaf 9 Go.Am.Ar.af9 .leaf) 10 Go.Am.Ar.af10 .leaf) 11 Go.Am.Ar.af11 (.node .leaf 12 Go.Am.Ar.af12 .leaf))) 13 Go.Am.Ar.af13 (.node (.node (.node (.node .leaf 14 Go.Am.Ar.af14 .leaf) 15 Go.Am.Ar.af15 .leaf) 16 Go.Am.Ar.af16 (.node .leaf 17 Go.Am.Ar.af17 .leaf)) 18 Go.Am.Ar.af18 (.node (.node (.node .leaf 19 Go.Am.Ar.af19 .leaf) 20 Go.Am.Ar.af20 .leaf) 21 Go.Am.Ar.af21 (.node .leaf 22 Go.Am.Ar.af22 .leaf)))) 23 Go.Am.Ar.af23 (.node (.node (.node (.node (.node .leaf 24 Go.Am.Ar.af24 .leaf) 25 Go.Am.Ar.af25 .leaf) 26 Go.Am.Ar.af26 (.node (.node .leaf 27 Go.Am.Ar.af27 .leaf) 28 Go.Am.Ar.af28 .leaf)) 29 Go.Am.Ar.af29 (.node (.node (.node .leaf 30 Go.Am.Ar.af30 .leaf) 31 Go.Am.Ar.af31 .leaf) 32 Go.Am.Ar.af32 (.node .leaf 33 Go.Am.Ar.af33 .leaf))) 34 Go.Am.Ar.af34 (.node (.node (.node (.node .leaf 35 Go.Am.Ar.af35 .leaf) 36 Go.Am.Ar.af36 .leaf) 37 Go.Am.Ar.af37 (.node .leaf 38 Go.Am.Ar.af38 .leaf)) 39 Go.Am.Ar.af39 (.node (.node (.node .leaf 40 Go.Am.Ar.af40 .leaf) 41 Go.Am.Ar.af41 .leaf) 42 Go.Am.Ar.af42 (.node .leaf 43 Go.Am.Ar.af43 .leaf))))) 44 Go.Am.Ar.af44 (.node (.node (.node (.node (.node (.node .leaf 45 Go.Am.Ar.af45 .leaf) 46 Go.Am.Ar.af46 .leaf) 47 Go.Am.Ar.af47 (.node (.node .leaf 48 Go.Am.Ar.af48 .leaf) 49 Go.Am.Ar.af49 .leaf)) 50 Go.Am.Ar.af50 (.node (.node (.node .leaf 51 Go.Am.Ar.af51 .leaf) 52 Go.Am.Ar.af52 .leaf) 53 Go.Am.Ar.af53 (.node .leaf 54 Go.Am.Ar.af54 .leaf))) 55 Go.Am.Ar.af55 (.node (.node (.node (.node .leaf 56 Go.Am.Ar.af56 .leaf) 57 Go.Am.Ar.af57 .leaf) 58 Go.Am.Ar.af58 (.node .leaf 59 Go.Am.Ar.af59 .leaf)) 60 Go.Am.Ar.af60 (.node (.node (.node .leaf 61 Go.Am.Ar.af61 .leaf) 62 Go.Am.Ar.af62 .leaf) 63 Go.Am.Ar.af63 (.node .leaf 64 Go.Am.Ar.af64 .leaf)))) 65 Go.Am.Ar.af65 (.node (.node (.node (.node (.node .leaf 66 Go.Am.Ar.af66 .leaf) 67 Go.Am.Ar.af67 .leaf) 68 Go.Am.Ar.af68 (.node (.node .leaf 69 Go.Am.Ar.af69 .leaf) 70 Go.Am.Ar.af70 .leaf)) 71 Go.Am.Ar.af71 (.node (.node (.node .leaf 72 Go.Am.Ar.af72 .leaf) 73 Go.Am.Ar.af73 .leaf) 74 Go.Am.Ar.af74 (.node .leaf 75 Go.Am.Ar.af75 .leaf))) 76 Go.Am.Ar.af76 (.node (.node (.node (.node .leaf 77 Go.Am.Ar.af77 .leaf) 78 Go.Am.Ar.af78 .leaf) 81 Go.Am.Ar.af81 (.node .leaf 83 Go.Am.Ar.af83 .leaf)) 84 Go.Am.Ar.af84 (.node (.node (.node .leaf 86 Go.Am.Ar.af86 .leaf) 88 Go.Am.Ar.af88 .leaf) 93 Go.Am.Ar.af93 (.node .leaf 94 Go.Am.Ar.af94 .leaf))))))
theorem tree_ok : tree.Ok Try.prog := ⟨ent44, ⟨ent23, ⟨ent13, ⟨ent8, ⟨awPrim5, ⟨ent4, ⟨ent3, trivial, trivial⟩, trivial⟩, ⟨ent7, ⟨ent6, trivial, trivial⟩, trivial⟩⟩, ⟨ent11, ⟨ent10, ⟨ent9, trivial, trivial⟩, trivial⟩, ⟨ent12, trivial, trivial⟩⟩⟩, ⟨ent18, ⟨ent16, ⟨ent15, ⟨ent14, trivial, trivial⟩, trivial⟩, ⟨ent17, trivial, trivial⟩⟩, ⟨ent21, ⟨ent20, ⟨ent19, trivial, trivial⟩, trivial⟩, ⟨ent22, trivial, trivial⟩⟩⟩⟩, ⟨ent34, ⟨ent29, ⟨ent26, ⟨ent25, ⟨ent24, trivial, trivial⟩, trivial⟩, ⟨ent28, ⟨ent27, trivial, trivial⟩, trivial⟩⟩, ⟨ent32, ⟨ent31, ⟨ent30, trivial, trivial⟩, trivial⟩, ⟨ent33, trivial, trivial⟩⟩⟩, ⟨ent39, ⟨ent37, ⟨ent36, ⟨ent35, trivial, trivial⟩, trivial⟩, ⟨ent38, trivial, trivial⟩⟩, ⟨ent42, ⟨ent41, ⟨ent40, trivial, trivial⟩, trivial⟩, ⟨ent43, trivial, trivial⟩⟩⟩⟩⟩, ⟨ent65, ⟨ent55, ⟨ent50, ⟨ent47, ⟨ent46, ⟨ent45, trivial, trivial⟩, trivial⟩, ⟨ent49, ⟨ent48, trivial, trivial⟩, trivial⟩⟩, ⟨ent53, ⟨ent52, ⟨ent51, trivial, trivial⟩, trivial⟩, ⟨ent54, trivial, trivial⟩⟩⟩, ⟨ent60, ⟨ent58, ⟨ent57, ⟨ent56, trivial, trivial⟩, trivial⟩, ⟨ent59, trivial, trivial⟩⟩, ⟨ent63, ⟨ent62, ⟨ent61, trivial, trivial⟩, trivial⟩, ⟨ent64, trivial, trivial⟩⟩⟩⟩, ⟨ent76, ⟨ent71, ⟨ent68, ⟨ent67, ⟨ent66, trivial, trivial⟩, trivial⟩, ⟨ent70, ⟨ent69, trivial, trivial⟩, trivial⟩⟩, ⟨ent74, ⟨ent73, ⟨ent72, trivial, trivial⟩, trivial⟩, ⟨ent75, trivial, trivial⟩⟩⟩, ⟨ent84, ⟨ent81, ⟨ent78, ⟨ent77, trivial, trivial⟩, trivial⟩, ⟨ent83, trivial, trivial⟩⟩, ⟨ent93, ⟨ent88, ⟨ent86, trivial, trivial⟩, trivial⟩, ⟨ent94, trivial, trivial⟩⟩⟩⟩⟩⟩
theorem has : Go.Am.Ar.HasA tree.find := ⟨by constructor <;> kernel_rfl, by kernel_rfl⟩
end Go.Proofs.Ytgcombgonagkkaa.CertifyAcceptsTab
