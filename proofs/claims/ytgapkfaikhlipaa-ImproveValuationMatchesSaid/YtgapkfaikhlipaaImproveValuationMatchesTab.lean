/- The table of the functions that the laws reach; the examples that every law evaluates are run by the kernel. -/
import Derived.Test.YtgapkfaikhlipaaRows
import Derived.Test.YtgapkfaikhlipaaAmKEnd
import Derived.Test.YtgapkfaikhlipaaMzFacts
import Derived.Test.YtgapkfaikhlipaaImproveValuationMatchesCode
set_option linter.unusedVariables false
namespace Go.Proofs.Ytgapkfaikhlipaa.ImproveValuationMatchesTab
open Go.Am
theorem ent11 : EntOk Try.prog 11 Go.Am.Ar.af11 := ⟨Try.f11, Try.func11, by kernel_rfl, by kernel_rfl⟩
theorem ent3 : EntOk Try.prog 3 Go.Am.Ar.af3 := ⟨Try.f3, Try.func3, by kernel_rfl, by kernel_rfl⟩
theorem ent6 : EntOk Try.prog 6 Go.Am.Ar.af6 := ⟨Try.f6, Try.func6, by kernel_rfl, by kernel_rfl⟩
theorem ent8 : EntOk Try.prog 8 Go.Am.Ar.af8 := ⟨Try.f8, Try.func8, by kernel_rfl, by kernel_rfl⟩
theorem ent10 : EntOk Try.prog 10 Go.Am.Ar.af10 := ⟨Try.f10, Try.func10, by kernel_rfl, by kernel_rfl⟩
theorem ent12 : EntOk Try.prog 12 Go.Am.Ar.af12 := ⟨Try.f12, Try.func12, by kernel_rfl, by kernel_rfl⟩
theorem ent13 : EntOk Try.prog 13 Go.Am.Ar.af13 := ⟨Try.f13, Try.func13, by kernel_rfl, by kernel_rfl⟩
theorem ent14 : EntOk Try.prog 14 Go.Am.Ar.af14 := ⟨Try.f14, Try.func14, by kernel_rfl, by kernel_rfl⟩
theorem ent15 : EntOk Try.prog 15 Go.Am.Ar.af15 := ⟨Try.f15, Try.func15, by kernel_rfl, by kernel_rfl⟩
theorem ent16 : EntOk Try.prog 16 Go.Am.Ar.af16 := ⟨Try.f16, Try.func16, by kernel_rfl, by kernel_rfl⟩
theorem ent17 : EntOk Try.prog 17 Go.Am.Ar.af17 := ⟨Try.f17, Try.func17, by kernel_rfl, by kernel_rfl⟩
theorem ent18 : EntOk Try.prog 18 Go.Am.Ar.af18 := ⟨Try.f18, Try.func18, by kernel_rfl, by kernel_rfl⟩
theorem ent19 : EntOk Try.prog 19 Go.Am.Ar.af19 := ⟨Try.f19, Try.func19, by kernel_rfl, by kernel_rfl⟩
theorem ent20 : EntOk Try.prog 20 Go.Am.Ar.af20 := ⟨Try.f20, Try.func20, by kernel_rfl, by kernel_rfl⟩
theorem ent21 : EntOk Try.prog 21 Go.Am.Ar.af21 := ⟨Try.f21, Try.func21, by kernel_rfl, by kernel_rfl⟩
theorem ent22 : EntOk Try.prog 22 Go.Am.Ar.af22 := ⟨Try.f22, Try.func22, by kernel_rfl, by kernel_rfl⟩
theorem ent23 : EntOk Try.prog 23 Go.Am.Ar.af23 := ⟨Try.f23, Try.func23, by kernel_rfl, by kernel_rfl⟩
theorem ent24 : EntOk Try.prog 24 Go.Am.Ar.af24 := ⟨Try.f24, Try.func24, by kernel_rfl, by kernel_rfl⟩
theorem ent25 : EntOk Try.prog 25 Go.Am.Ar.af25 := ⟨Try.f25, Try.func25, by kernel_rfl, by kernel_rfl⟩
theorem ent26 : EntOk Try.prog 26 Go.Am.Ar.af26 := ⟨Try.f26, Try.func26, by kernel_rfl, by kernel_rfl⟩
theorem ent27 : EntOk Try.prog 27 Go.Am.Ar.af27 := ⟨Try.f27, Try.func27, by kernel_rfl, by kernel_rfl⟩
theorem ent28 : EntOk Try.prog 28 Go.Am.Ar.af28 := ⟨Try.f28, Try.func28, by kernel_rfl, by kernel_rfl⟩
theorem ent29 : EntOk Try.prog 29 Go.Am.Ar.af29 := ⟨Try.f29, Try.func29, by kernel_rfl, by kernel_rfl⟩
theorem ent30 : EntOk Try.prog 30 Go.Am.Ar.af30 := ⟨Try.f30, Try.func30, by kernel_rfl, by kernel_rfl⟩
theorem ent31 : EntOk Try.prog 31 Go.Am.Ar.af31 := ⟨Try.f31, Try.func31, by kernel_rfl, by kernel_rfl⟩
theorem ent32 : EntOk Try.prog 32 Go.Am.Ar.af32 := ⟨Try.f32, Try.func32, by kernel_rfl, by kernel_rfl⟩
theorem ent33 : EntOk Try.prog 33 Go.Am.Ar.af33 := ⟨Try.f33, Try.func33, by kernel_rfl, by kernel_rfl⟩
theorem ent35 : EntOk Try.prog 35 Go.Am.Ar.af35 := ⟨Try.f35, Try.func35, by kernel_rfl, by kernel_rfl⟩
theorem ent36 : EntOk Try.prog 36 Go.Am.Ar.af36 := ⟨Try.f36, Try.func36, by kernel_rfl, by kernel_rfl⟩
theorem ent40 : EntOk Try.prog 40 Go.Am.Ar.af40 := ⟨Try.f40, Try.func40, by kernel_rfl, by kernel_rfl⟩
theorem ent41 : EntOk Try.prog 41 Go.Am.Ar.af41 := ⟨Try.f41, Try.func41, by kernel_rfl, by kernel_rfl⟩
theorem ent42 : EntOk Try.prog 42 Go.Am.Ar.af42 := ⟨Try.f42, Try.func42, by kernel_rfl, by kernel_rfl⟩
theorem ent43 : EntOk Try.prog 43 Go.Am.Ar.af43 := ⟨Try.f43, Try.func43, by kernel_rfl, by kernel_rfl⟩
theorem ent44 : EntOk Try.prog 44 Go.Am.Ar.af44 := ⟨Try.f44, Try.func44, by kernel_rfl, by kernel_rfl⟩
theorem ent45 : EntOk Try.prog 45 Go.Am.Ar.af45 := ⟨Try.f45, Try.func45, by kernel_rfl, by kernel_rfl⟩
theorem ent46 : EntOk Try.prog 46 Go.Am.Ar.af46 := ⟨Try.f46, Try.func46, by kernel_rfl, by kernel_rfl⟩
theorem ent47 : EntOk Try.prog 47 Go.Am.Ar.af47 := ⟨Try.f47, Try.func47, by kernel_rfl, by kernel_rfl⟩
theorem ent48 : EntOk Try.prog 48 Go.Am.Ar.af48 := ⟨Try.f48, Try.func48, by kernel_rfl, by kernel_rfl⟩
theorem ent49 : EntOk Try.prog 49 Go.Am.Ar.af49 := ⟨Try.f49, Try.func49, by kernel_rfl, by kernel_rfl⟩
theorem ent50 : EntOk Try.prog 50 Go.Am.Ar.af50 := ⟨Try.f50, Try.func50, by kernel_rfl, by kernel_rfl⟩
theorem ent51 : EntOk Try.prog 51 Go.Am.Ar.af51 := ⟨Try.f51, Try.func51, by kernel_rfl, by kernel_rfl⟩
theorem ent52 : EntOk Try.prog 52 Go.Am.Ar.af52 := ⟨Try.f52, Try.func52, by kernel_rfl, by kernel_rfl⟩
theorem ent53 : EntOk Try.prog 53 Go.Am.Ar.af53 := ⟨Try.f53, Try.func53, by kernel_rfl, by kernel_rfl⟩
theorem ent54 : EntOk Try.prog 54 Go.Am.Ar.af54 := ⟨Try.f54, Try.func54, by kernel_rfl, by kernel_rfl⟩
theorem ent55 : EntOk Try.prog 55 Go.Am.Ar.af55 := ⟨Try.f55, Try.func55, by kernel_rfl, by kernel_rfl⟩
theorem ent56 : EntOk Try.prog 56 Go.Am.Ar.af56 := ⟨Try.f56, Try.func56, by kernel_rfl, by kernel_rfl⟩
theorem ent57 : EntOk Try.prog 57 Go.Am.Ar.af57 := ⟨Try.f57, Try.func57, by kernel_rfl, by kernel_rfl⟩
theorem ent58 : EntOk Try.prog 58 Go.Am.Ar.af58 := ⟨Try.f58, Try.func58, by kernel_rfl, by kernel_rfl⟩
theorem ent59 : EntOk Try.prog 59 Go.Am.Ar.af59 := ⟨Try.f59, Try.func59, by kernel_rfl, by kernel_rfl⟩
theorem ent60 : EntOk Try.prog 60 Go.Am.Ar.af60 := ⟨Try.f60, Try.func60, by kernel_rfl, by kernel_rfl⟩
theorem ent61 : EntOk Try.prog 61 Go.Am.Ar.af61 := ⟨Try.f61, Try.func61, by kernel_rfl, by kernel_rfl⟩
theorem ent63 : EntOk Try.prog 63 Go.Am.Ar.af63 := ⟨Try.f63, Try.func63, by kernel_rfl, by kernel_rfl⟩
theorem ent69 : EntOk Try.prog 69 Go.Am.Ar.af69 := ⟨Try.f69, Try.func69, by kernel_rfl, by kernel_rfl⟩
theorem ent70 : EntOk Try.prog 70 Go.Am.Ar.af70 := ⟨Try.f70, Try.func70, by kernel_rfl, by kernel_rfl⟩
theorem ent71 : EntOk Try.prog 71 Go.Am.Ar.af71 := ⟨Try.f71, Try.func71, by kernel_rfl, by kernel_rfl⟩
theorem ent72 : EntOk Try.prog 72 Go.Am.Ar.af72 := ⟨Try.f72, Try.func72, by kernel_rfl, by kernel_rfl⟩
theorem ent73 : EntOk Try.prog 73 Go.Am.Ar.af73 := ⟨Try.f73, Try.func73, by kernel_rfl, by kernel_rfl⟩
theorem ent74 : EntOk Try.prog 74 Go.Am.Ar.af74 := ⟨Try.f74, Try.func74, by kernel_rfl, by kernel_rfl⟩
theorem ent75 : EntOk Try.prog 75 Go.Am.Ar.af75 := ⟨Try.f75, Try.func75, by kernel_rfl, by kernel_rfl⟩
theorem ent76 : EntOk Try.prog 76 Go.Am.Ar.af76 := ⟨Try.f76, Try.func76, by kernel_rfl, by kernel_rfl⟩
theorem ent77 : EntOk Try.prog 77 Go.Am.Ar.af77 := ⟨Try.f77, Try.func77, by kernel_rfl, by kernel_rfl⟩
theorem ent78 : EntOk Try.prog 78 Go.Am.Ar.af78 := ⟨Try.f78, Try.func78, by kernel_rfl, by kernel_rfl⟩
theorem ent79 : EntOk Try.prog 79 Go.Am.Ar.af79 := ⟨Try.f79, Try.func79, by kernel_rfl, by kernel_rfl⟩
theorem ent80 : EntOk Try.prog 80 Go.Am.Ar.af80 := ⟨Try.f80, Try.func80, by kernel_rfl, by kernel_rfl⟩
theorem ent81 : EntOk Try.prog 81 Go.Am.Ar.af81 := ⟨Try.f81, Try.func81, by kernel_rfl, by kernel_rfl⟩
theorem ent82 : EntOk Try.prog 82 Go.Am.Ar.af82 := ⟨Try.f82, Try.func82, by kernel_rfl, by kernel_rfl⟩
theorem ent83 : EntOk Try.prog 83 Go.Am.Ar.af83 := ⟨Try.f83, Try.func83, by kernel_rfl, by kernel_rfl⟩
theorem ent84 : EntOk Try.prog 84 Go.Am.Ar.af84 := ⟨Try.f84, Try.func84, by kernel_rfl, by kernel_rfl⟩
theorem ent85 : EntOk Try.prog 85 Go.Am.Ar.af85 := ⟨Try.f85, Try.func85, by kernel_rfl, by kernel_rfl⟩
theorem ent96 : EntOk Try.prog 96 Go.Am.Ar.af96 := ⟨Try.f96, Try.func96, by kernel_rfl, by kernel_rfl⟩
theorem ent97 : EntOk Try.prog 97 Go.Am.Ar.af97 := ⟨Try.f97, Try.func97, by kernel_rfl, by kernel_rfl⟩
theorem ent100 : EntOk Try.prog 100 Go.Am.Ar.af100 := ⟨Try.f100, Try.func100, by kernel_rfl, by kernel_rfl⟩
theorem ent102 : EntOk Try.prog 102 Go.Am.Ar.af102 := ⟨Try.f102, Try.func102, by kernel_rfl, by kernel_rfl⟩
theorem ent103 : EntOk Try.prog 103 Go.Am.Ar.af103 := ⟨Try.f103, Try.func103, by kernel_rfl, by kernel_rfl⟩
theorem ent105 : EntOk Try.prog 105 Go.Am.Ar.af105 := ⟨Try.f105, Try.func105, by kernel_rfl, by kernel_rfl⟩
theorem ent107 : EntOk Try.prog 107 Go.Am.Ar.af107 := ⟨Try.f107, Try.func107, by kernel_rfl, by kernel_rfl⟩
theorem ent114 : EntOk Try.prog 114 Go.Am.Ar.af114 := ⟨Try.f114, Try.func114, by kernel_rfl, by kernel_rfl⟩
theorem ent119 : EntOk Try.prog 119 Go.Am.Ar.af119 := ⟨Try.f119, Try.func119, by kernel_rfl, by kernel_rfl⟩
def awTree11 : KT := (.node (.node (.node (.node (.node (.node .leaf 11 Go.Am.Ar.af11 .leaf) 14 Go.Am.Ar.af14 .leaf) 15 Go.Am.Ar.af15 (.node (.node .leaf 18 Go.Am.Ar.af18 .leaf) 27 Go.Am.Ar.af27 .leaf)) 29 Go.Am.Ar.af29 (.node (.node (.node .leaf 30 Go.Am.Ar.af30 .leaf) 31 Go.Am.Ar.af31 .leaf) 32 Go.Am.Ar.af32 (.node (.node .leaf 36 Go.Am.Ar.af36 .leaf) 43 Go.Am.Ar.af43 .leaf))) 44 Go.Am.Ar.af44 (.node (.node (.node (.node .leaf 45 Go.Am.Ar.af45 .leaf) 46 Go.Am.Ar.af46 .leaf) 50 Go.Am.Ar.af50 (.node (.node .leaf 53 Go.Am.Ar.af53 .leaf) 54 Go.Am.Ar.af54 .leaf)) 55 Go.Am.Ar.af55 (.node (.node (.node .leaf 56 Go.Am.Ar.af56 .leaf) 57 Go.Am.Ar.af57 .leaf) 60 Go.Am.Ar.af60 (.node (.node .leaf 61 Go.Am.Ar.af61 .leaf) 69 Go.Am.Ar.af69 .leaf)))) 70 Go.Am.Ar.af70 (.node (.node (.node (.node (.node .leaf 71 Go.Am.Ar.af71 .leaf) 72 Go.Am.Ar.af72 .leaf) 73 Go.Am.Ar.af73 (.node (.node .leaf 74 Go.Am.Ar.af74 .leaf) 75 Go.Am.Ar.af75 .leaf)) 76 Go.Am.Ar.af76 (.node (.node (.node .leaf 77 Go.Am.Ar.af77 .leaf) 79 Go.Am.Ar.af79 .leaf) 80 Go.Am.Ar.af80 (.node (.node .leaf 81 Go.Am.Ar.af81 .leaf) 82 Go.Am.Ar.af82 .leaf))) 83 Go.Am.Ar.af83 (.node (.node (.node (.node .leaf 84 Go.Am.Ar.af84 .leaf) 85 Go.Am.Ar.af85 .leaf) 96 Go.Am.Ar.af96 (.node (.node .leaf 97 Go.Am.Ar.af97 .leaf) 100 Go.Am.Ar.af100 .leaf)) 102 Go.Am.Ar.af102 (.node (.node (.node .leaf 103 Go.Am.Ar.af103 .leaf) 105 Go.Am.Ar.af105 .leaf) 107 Go.Am.Ar.af107 (.node (.node .leaf 114 Go.Am.Ar.af114 .leaf) 119 Go.Am.Ar.af119 .leaf)))))
theorem awTree11_ok : awTree11.Ok Try.prog := ⟨ent70, ⟨ent44, ⟨ent29, ⟨ent15, ⟨ent14, ⟨ent11, trivial, trivial⟩, trivial⟩, ⟨ent27, ⟨ent18, trivial, trivial⟩, trivial⟩⟩, ⟨ent32, ⟨ent31, ⟨ent30, trivial, trivial⟩, trivial⟩, ⟨ent43, ⟨ent36, trivial, trivial⟩, trivial⟩⟩⟩, ⟨ent55, ⟨ent50, ⟨ent46, ⟨ent45, trivial, trivial⟩, trivial⟩, ⟨ent54, ⟨ent53, trivial, trivial⟩, trivial⟩⟩, ⟨ent60, ⟨ent57, ⟨ent56, trivial, trivial⟩, trivial⟩, ⟨ent69, ⟨ent61, trivial, trivial⟩, trivial⟩⟩⟩⟩, ⟨ent83, ⟨ent76, ⟨ent73, ⟨ent72, ⟨ent71, trivial, trivial⟩, trivial⟩, ⟨ent75, ⟨ent74, trivial, trivial⟩, trivial⟩⟩, ⟨ent80, ⟨ent79, ⟨ent77, trivial, trivial⟩, trivial⟩, ⟨ent82, ⟨ent81, trivial, trivial⟩, trivial⟩⟩⟩, ⟨ent102, ⟨ent96, ⟨ent85, ⟨ent84, trivial, trivial⟩, trivial⟩, ⟨ent100, ⟨ent97, trivial, trivial⟩, trivial⟩⟩, ⟨ent107, ⟨ent105, ⟨ent103, trivial, trivial⟩, trivial⟩, ⟨ent119, ⟨ent114, trivial, trivial⟩, trivial⟩⟩⟩⟩⟩
set_option maxRecDepth 100000 in
theorem awRuns11 : kif (kclosed awTree11 (nat_lit 5000) (nat_lit 11)) true = true := by kernel_rfl
theorem awPrim11 : PrimOk Try.prog 11 primTrue := prim_true ⟨Try.f11, Try.func11, by kernel_rfl, by kernel_rfl⟩ (fun w => calls_true awTree11_ok (kif_ok awRuns11).1 w)

def tree : KT := (.node (.node (.node (.tru (.node (.node (.node .leaf 3 Go.Am.Ar.af3 .leaf) 6 Go.Am.Ar.af6 .leaf) 8 Go.Am.Ar.af8 (.node .leaf 10 Go.Am.Ar.af10 .leaf)) 11 (.node (.node (.node .leaf 12 Go.Am.Ar.af12 .leaf) 13 Go.Am.Ar.af13 .leaf) 14 Go.Am.Ar.af14 (.node .leaf 15 Go.Am.Ar.af15 .leaf))) 16 Go.Am.Ar.af16 (.node (.node (.node (.node .leaf 17 Go.Am.Ar.af17 .leaf) 18 Go.Am.Ar.af18 .leaf) 19 Go.Am.Ar.af19 (.node .leaf 20 Go.Am.Ar.af20 .leaf)) 21 Go.Am.Ar.af21 (.node (.node (.node .leaf 22 Go.Am.Ar.af22 .leaf) 23 Go.Am.Ar.af23 .leaf) 24 Go.Am.Ar.af24 (.node .leaf 25 Go.Am.Ar.af25 .leaf)))) 26 Go.Am.Ar.af26 (.node (.node (.node (.node (.node .leaf 27 Go.Am.Ar.af27 .leaf) 28 Go.Am.Ar.af28 .leaf) 29 Go.Am.Ar.af29 (.node .leaf 30 Go.Am.Ar.af30 .leaf)) 31 Go.Am.Ar.af31 (.node (.node (.node .leaf 32 Go.Am.Ar.af32 .leaf) 33 Go.Am.Ar.af33 .leaf) 35 Go.Am.Ar.af35 (.node .leaf 36 Go.Am.Ar.af36 .leaf))) 40 Go.Am.Ar.af40 (.node (.node (.node (.node .leaf 41 Go.Am.Ar.af41 .leaf) 42 Go.Am.Ar.af42 .leaf) 43 Go.Am.Ar.af43 (.node .leaf 44 Go.Am.Ar.af44 .leaf)) 45 Go.Am.Ar.af45 (.node (.node (.node .leaf 46 Go.Am.Ar.af46 .leaf) 47 Go.Am.Ar.af47 .leaf) 48 Go.Am.Ar.af48 (.node .leaf 49 Go.Am.Ar.af49 .leaf))))) 50 Go.Am.Ar.af50 (.node (.node (.node (.node (.node (.node .leaf 51 Go.Am.Ar.af51 .leaf) 52 Go.Am.Ar.af52 .leaf) 53 Go.Am.Ar.af53 (.node .leaf 54 Go.Am.Ar.af54 .leaf)) 55 Go.Am.Ar.af55 (.node (.node (.node .leaf 56 Go.Am.Ar.af56 .leaf) 57 Go.Am.Ar.af57 .leaf) 58 Go.Am.Ar.af58 (.node .leaf 59 Go.Am.Ar.af59 .leaf))) 60 Go.Am.Ar.af60 (.node (.node (.node (.node .leaf 61 Go.Am.Ar.af61 .leaf) 63 Go.Am.Ar.af63 .leaf) 69 Go.Am.Ar.af69 (.node .leaf 70 Go.Am.Ar.af70 .leaf)) 71 Go.Am.Ar.af71 (.node (.node (.node .leaf 72 Go.Am.Ar.af72 .leaf) 73 Go.Am.Ar.af73 .leaf) 74 Go.Am.Ar.af74 (.node .leaf 75 Go.Am.Ar.af75 .leaf)))) 76 Go.Am.Ar.af76 (.node (.node (.node (.node (.node .leaf 77 Go.Am.Ar.af77 .leaf) 78 Go.Am.Ar.af78 .leaf) 79 Go.Am.Ar.af79 (.node .leaf 80 Go.Am.Ar.af80 .leaf)) 81 Go.Am.Ar.af81 (.node (.node (.node .leaf 82 Go.Am.Ar.af82 .leaf) 83 Go.Am.Ar.af83 .leaf) 84 Go.Am.Ar.af84 (.node .leaf 85 Go.Am.Ar.af85 .leaf))) 96 Go.Am.Ar.af96 (.node (.node (.node (.node .leaf 97 Go.Am.Ar.af97 .leaf) 100 Go.Am.Ar.af100 .leaf) 102 Go.Am.Ar.af102 (.node .leaf 103 Go.Am.Ar.af103 .leaf)) 105 Go.Am.Ar.af105 (.node (.node .leaf 107 Go.Am.Ar.af107 .leaf) 114 Go.Am.Ar.af114 (.node .leaf 119 Go.Am.Ar.af119 .leaf))))))
theorem tree_ok : tree.Ok Try.prog := ⟨ent50, ⟨ent26, ⟨ent16, ⟨awPrim11, ⟨ent8, ⟨ent6, ⟨ent3, trivial, trivial⟩, trivial⟩, ⟨ent10, trivial, trivial⟩⟩, ⟨ent14, ⟨ent13, ⟨ent12, trivial, trivial⟩, trivial⟩, ⟨ent15, trivial, trivial⟩⟩⟩, ⟨ent21, ⟨ent19, ⟨ent18, ⟨ent17, trivial, trivial⟩, trivial⟩, ⟨ent20, trivial, trivial⟩⟩, ⟨ent24, ⟨ent23, ⟨ent22, trivial, trivial⟩, trivial⟩, ⟨ent25, trivial, trivial⟩⟩⟩⟩, ⟨ent40, ⟨ent31, ⟨ent29, ⟨ent28, ⟨ent27, trivial, trivial⟩, trivial⟩, ⟨ent30, trivial, trivial⟩⟩, ⟨ent35, ⟨ent33, ⟨ent32, trivial, trivial⟩, trivial⟩, ⟨ent36, trivial, trivial⟩⟩⟩, ⟨ent45, ⟨ent43, ⟨ent42, ⟨ent41, trivial, trivial⟩, trivial⟩, ⟨ent44, trivial, trivial⟩⟩, ⟨ent48, ⟨ent47, ⟨ent46, trivial, trivial⟩, trivial⟩, ⟨ent49, trivial, trivial⟩⟩⟩⟩⟩, ⟨ent76, ⟨ent60, ⟨ent55, ⟨ent53, ⟨ent52, ⟨ent51, trivial, trivial⟩, trivial⟩, ⟨ent54, trivial, trivial⟩⟩, ⟨ent58, ⟨ent57, ⟨ent56, trivial, trivial⟩, trivial⟩, ⟨ent59, trivial, trivial⟩⟩⟩, ⟨ent71, ⟨ent69, ⟨ent63, ⟨ent61, trivial, trivial⟩, trivial⟩, ⟨ent70, trivial, trivial⟩⟩, ⟨ent74, ⟨ent73, ⟨ent72, trivial, trivial⟩, trivial⟩, ⟨ent75, trivial, trivial⟩⟩⟩⟩, ⟨ent96, ⟨ent81, ⟨ent79, ⟨ent78, ⟨ent77, trivial, trivial⟩, trivial⟩, ⟨ent80, trivial, trivial⟩⟩, ⟨ent84, ⟨ent83, ⟨ent82, trivial, trivial⟩, trivial⟩, ⟨ent85, trivial, trivial⟩⟩⟩, ⟨ent105, ⟨ent102, ⟨ent100, ⟨ent97, trivial, trivial⟩, trivial⟩, ⟨ent103, trivial, trivial⟩⟩, ⟨ent114, ⟨ent107, trivial, trivial⟩, ⟨ent119, trivial, trivial⟩⟩⟩⟩⟩⟩
theorem has : Go.Am.Ar.HasA tree.find := ⟨by constructor <;> kernel_rfl, by kernel_rfl⟩
end Go.Proofs.Ytgapkfaikhlipaa.ImproveValuationMatchesTab
