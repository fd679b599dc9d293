/- The table of the functions that the laws reach; the examples that every law evaluates are run by the kernel. -/
import Derived.Test.YtgapkfaikhlipaaRows
import Derived.Test.YtgapkfaikhlipaaAmKEnd
import Derived.Test.YtgapkfaikhlipaaMzFacts
import Derived.Test.YtgapkfaikhlipaaImproveMatchesCode
set_option linter.unusedVariables false
namespace Go.Proofs.Ytgapkfaikhlipaa.ImproveMatchesTab
open Go.Am
theorem ent11 : EntOk Try.prog 11 Go.Am.Ar.af11 := ⟨Try.f11, Try.func11, by kernel_rfl, by kernel_rfl⟩
theorem ent4 : EntOk Try.prog 4 Go.Am.Ar.af4 := ⟨Try.f4, Try.func4, by kernel_rfl, by kernel_rfl⟩
theorem ent6 : EntOk Try.prog 6 Go.Am.Ar.af6 := ⟨Try.f6, Try.func6, by kernel_rfl, by kernel_rfl⟩
theorem ent10 : EntOk Try.prog 10 Go.Am.Ar.af10 := ⟨Try.f10, Try.func10, by kernel_rfl, by kernel_rfl⟩
theorem ent12 : EntOk Try.prog 12 Go.Am.Ar.af12 := ⟨Try.f12, Try.func12, by kernel_rfl, by kernel_rfl⟩
theorem ent13 : EntOk Try.prog 13 Go.Am.Ar.af13 := ⟨Try.f13, Try.func13, by kernel_rfl, by kernel_rfl⟩
theorem ent14 : EntOk Try.prog 14 Go.Am.Ar.af14 := ⟨Try.f14, Try.func14, by kernel_rfl, by kernel_rfl⟩
theorem ent15 : EntOk Try.prog 15 Go.Am.Ar.af15 := ⟨Try.f15, Try.func15, by kernel_rfl, by kernel_rfl⟩
theorem ent17 : EntOk Try.prog 17 Go.Am.Ar.af17 := ⟨Try.f17, Try.func17, by kernel_rfl, by kernel_rfl⟩
theorem ent18 : EntOk Try.prog 18 Go.Am.Ar.af18 := ⟨Try.f18, Try.func18, by kernel_rfl, by kernel_rfl⟩
theorem ent22 : EntOk Try.prog 22 Go.Am.Ar.af22 := ⟨Try.f22, Try.func22, by kernel_rfl, by kernel_rfl⟩
theorem ent23 : EntOk Try.prog 23 Go.Am.Ar.af23 := ⟨Try.f23, Try.func23, by kernel_rfl, by kernel_rfl⟩
theorem ent24 : EntOk Try.prog 24 Go.Am.Ar.af24 := ⟨Try.f24, Try.func24, by kernel_rfl, by kernel_rfl⟩
theorem ent25 : EntOk Try.prog 25 Go.Am.Ar.af25 := ⟨Try.f25, Try.func25, by kernel_rfl, by kernel_rfl⟩
theorem ent26 : EntOk Try.prog 26 Go.Am.Ar.af26 := ⟨Try.f26, Try.func26, by kernel_rfl, by kernel_rfl⟩
theorem ent27 : EntOk Try.prog 27 Go.Am.Ar.af27 := ⟨Try.f27, Try.func27, by kernel_rfl, by kernel_rfl⟩
theorem ent28 : EntOk Try.prog 28 Go.Am.Ar.af28 := ⟨Try.f28, Try.func28, by kernel_rfl, by kernel_rfl⟩
theorem ent29 : EntOk Try.prog 29 Go.Am.Ar.af29 := ⟨Try.f29, Try.func29, by kernel_rfl, by kernel_rfl⟩
theorem ent30 : EntOk Try.prog 30 Go.Am.Ar.af30 := ⟨Try.f30, Try.func30, by kernel_rfl, by kernel_rfl⟩
theorem ent31 : EntOk Try.prog 31 Go.Am.Ar.af31 := ⟨Try.f31, Try.func31, by kernel_rfl, by kernel_rfl⟩
theorem ent32 : EntOk Try.prog 32 Go.Am.Ar.af32 := ⟨Try.f32, Try.func32, by kernel_rfl, by kernel_rfl⟩
theorem ent33 : EntOk Try.prog 33 Go.Am.Ar.af33 := ⟨Try.f33, Try.func33, by kernel_rfl, by kernel_rfl⟩
theorem ent35 : EntOk Try.prog 35 Go.Am.Ar.af35 := ⟨Try.f35, Try.func35, by kernel_rfl, by kernel_rfl⟩
theorem ent36 : EntOk Try.prog 36 Go.Am.Ar.af36 := ⟨Try.f36, Try.func36, by kernel_rfl, by kernel_rfl⟩
theorem ent40 : EntOk Try.prog 40 Go.Am.Ar.af40 := ⟨Try.f40, Try.func40, by kernel_rfl, by kernel_rfl⟩
theorem ent41 : EntOk Try.prog 41 Go.Am.Ar.af41 := ⟨Try.f41, Try.func41, by kernel_rfl, by kernel_rfl⟩
theorem ent42 : EntOk Try.prog 42 Go.Am.Ar.af42 := ⟨Try.f42, Try.func42, by kernel_rfl, by kernel_rfl⟩
theorem ent43 : EntOk Try.prog 43 Go.Am.Ar.af43 := ⟨Try.f43, Try.func43, by kernel_rfl, by kernel_rfl⟩
theorem ent44 : EntOk Try.prog 44 Go.Am.Ar.af44 := ⟨Try.f44, Try.func44, by kernel_rfl, by kernel_rfl⟩
theorem ent45 : EntOk Try.prog 45 Go.Am.Ar.af45 := ⟨Try.f45, Try.func45, by kernel_rfl, by kernel_rfl⟩
theorem ent46 : EntOk Try.prog 46 Go.Am.Ar.af46 := ⟨Try.f46, Try.func46, by kernel_rfl, by kernel_rfl⟩
theorem ent47 : EntOk Try.prog 47 Go.Am.Ar.af47 := ⟨Try.f47, Try.func47, by kernel_rfl, by kernel_rfl⟩
theorem ent48 : EntOk Try.prog 48 Go.Am.Ar.af48 := ⟨Try.f48, Try.func48, by kernel_rfl, by kernel_rfl⟩
theorem ent49 : EntOk Try.prog 49 Go.Am.Ar.af49 := ⟨Try.f49, Try.func49, by kernel_rfl, by kernel_rfl⟩
theorem ent50 : EntOk Try.prog 50 Go.Am.Ar.af50 := ⟨Try.f50, Try.func50, by kernel_rfl, by kernel_rfl⟩
theorem ent51 : EntOk Try.prog 51 Go.Am.Ar.af51 := ⟨Try.f51, Try.func51, by kernel_rfl, by kernel_rfl⟩
theorem ent52 : EntOk Try.prog 52 Go.Am.Ar.af52 := ⟨Try.f52, Try.func52, by kernel_rfl, by kernel_rfl⟩
theorem ent53 : EntOk Try.prog 53 Go.Am.Ar.af53 := ⟨Try.f53, Try.func53, by kernel_rfl, by kernel_rfl⟩
theorem ent54 : EntOk Try.prog 54 Go.Am.Ar.af54 := ⟨Try.f54, Try.func54, by kernel_rfl, by kernel_rfl⟩
theorem ent55 : EntOk Try.prog 55 Go.Am.Ar.af55 := ⟨Try.f55, Try.func55, by kernel_rfl, by kernel_rfl⟩
theorem ent56 : EntOk Try.prog 56 Go.Am.Ar.af56 := ⟨Try.f56, Try.func56, by kernel_rfl, by kernel_rfl⟩
theorem ent57 : EntOk Try.prog 57 Go.Am.Ar.af57 := ⟨Try.f57, Try.func57, by kernel_rfl, by kernel_rfl⟩
theorem ent58 : EntOk Try.prog 58 Go.Am.Ar.af58 := ⟨Try.f58, Try.func58, by kernel_rfl, by kernel_rfl⟩
theorem ent59 : EntOk Try.prog 59 Go.Am.Ar.af59 := ⟨Try.f59, Try.func59, by kernel_rfl, by kernel_rfl⟩
theorem ent60 : EntOk Try.prog 60 Go.Am.Ar.af60 := ⟨Try.f60, Try.func60, by kernel_rfl, by kernel_rfl⟩
theorem ent61 : EntOk Try.prog 61 Go.Am.Ar.af61 := ⟨Try.f61, Try.func61, by kernel_rfl, by kernel_rfl⟩
theorem ent63 : EntOk Try.prog 63 Go.Am.Ar.af63 := ⟨Try.f63, Try.func63, by kernel_rfl, by kernel_rfl⟩
theorem ent69 : EntOk Try.prog 69 Go.Am.Ar.af69 := ⟨Try.f69, Try.func69, by kernel_rfl, by kernel_rfl⟩
theorem ent70 : EntOk Try.prog 70 Go.Am.Ar.af70 := ⟨Try.f70, Try.func70, by kernel_rfl, by kernel_rfl⟩
theorem ent71 : EntOk Try.prog 71 Go.Am.Ar.af71 := ⟨Try.f71, Try.func71, by kernel_rfl, by kernel_rfl⟩
theorem ent72 : EntOk Try.prog 72 Go.Am.Ar.af72 := ⟨Try.f72, Try.func72, by kernel_rfl, by kernel_rfl⟩
theorem ent73 : EntOk Try.prog 73 Go.Am.Ar.af73 := ⟨Try.f73, Try.func73, by kernel_rfl, by kernel_rfl⟩
theorem ent74 : EntOk Try.prog 74 Go.Am.Ar.af74 := ⟨Try.f74, Try.func74, by kernel_rfl, by kernel_rfl⟩
theorem ent75 : EntOk Try.prog 75 Go.Am.Ar.af75 := ⟨Try.f75, Try.func75, by kernel_rfl, by kernel_rfl⟩
theorem ent76 : EntOk Try.prog 76 Go.Am.Ar.af76 := ⟨Try.f76, Try.func76, by kernel_rfl, by kernel_rfl⟩
theorem ent77 : EntOk Try.prog 77 Go.Am.Ar.af77 := ⟨Try.f77, Try.func77, by kernel_rfl, by kernel_rfl⟩
theorem ent78 : EntOk Try.prog 78 Go.Am.Ar.af78 := ⟨Try.f78, Try.func78, by kernel_rfl, by kernel_rfl⟩
theorem ent79 : EntOk Try.prog 79 Go.Am.Ar.af79 := ⟨Try.f79, Try.func79, by kernel_rfl, by kernel_rfl⟩
theorem ent80 : EntOk Try.prog 80 Go.Am.Ar.af80 := ⟨Try.f80, Try.func80, by kernel_rfl, by kernel_rfl⟩
theorem ent81 : EntOk Try.prog 81 Go.Am.Ar.af81 := ⟨Try.f81, Try.func81, by kernel_rfl, by kernel_rfl⟩
theorem ent82 : EntOk Try.prog 82 Go.Am.Ar.af82 := ⟨Try.f82, Try.func82, by kernel_rfl, by kernel_rfl⟩
theorem ent83 : EntOk Try.prog 83 Go.Am.Ar.af83 := ⟨Try.f83, Try.func83, by kernel_rfl, by kernel_rfl⟩
theorem ent84 : EntOk Try.prog 84 Go.Am.Ar.af84 := ⟨Try.f84, Try.func84, by kernel_rfl, by kernel_rfl⟩
theorem ent85 : EntOk Try.prog 85 Go.Am.Ar.af85 := ⟨Try.f85, Try.func85, by kernel_rfl, by kernel_rfl⟩
theorem ent96 : EntOk Try.prog 96 Go.Am.Ar.af96 := ⟨Try.f96, Try.func96, by kernel_rfl, by kernel_rfl⟩
theorem ent97 : EntOk Try.prog 97 Go.Am.Ar.af97 := ⟨Try.f97, Try.func97, by kernel_rfl, by kernel_rfl⟩
theorem ent98 : EntOk Try.prog 98 Go.Am.Ar.af98 := ⟨Try.f98, Try.func98, by kernel_rfl, by kernel_rfl⟩
theorem ent99 : EntOk Try.prog 99 Go.Am.Ar.af99 := ⟨Try.f99, Try.func99, by kernel_rfl, by kernel_rfl⟩
theorem ent100 : EntOk Try.prog 100 Go.Am.Ar.af100 := ⟨Try.f100, Try.func100, by kernel_rfl, by kernel_rfl⟩
theorem ent101 : EntOk Try.prog 101 Go.Am.Ar.af101 := ⟨Try.f101, Try.func101, by kernel_rfl, by kernel_rfl⟩
theorem ent102 : EntOk Try.prog 102 Go.Am.Ar.af102 := ⟨Try.f102, Try.func102, by kernel_rfl, by kernel_rfl⟩
theorem ent103 : EntOk Try.prog 103 Go.Am.Ar.af103 := ⟨Try.f103, Try.func103, by kernel_rfl, by kernel_rfl⟩
theorem ent104 : EntOk Try.prog 104 Go.Am.Ar.af104 := ⟨Try.f104, Try.func104, by kernel_rfl, by kernel_rfl⟩
theorem ent105 : EntOk Try.prog 105 Go.Am.Ar.af105 := ⟨Try.f105, Try.func105, by kernel_rfl, by kernel_rfl⟩
theorem ent106 : EntOk Try.prog 106 Go.Am.Ar.af106 := ⟨Try.f106, Try.func106, by kernel_rfl, by kernel_rfl⟩
theorem ent107 : EntOk Try.prog 107 Go.Am.Ar.af107 := ⟨Try.f107, Try.func107, by kernel_rfl, by kernel_rfl⟩
theorem ent110 : EntOk Try.prog 110 Go.Am.Ar.af110 := ⟨Try.f110, Try.func110, by kernel_rfl, by kernel_rfl⟩
theorem ent111 : EntOk Try.prog 111 Go.Am.Ar.af111 := ⟨Try.f111, Try.func111, by kernel_rfl, by kernel_rfl⟩
theorem ent112 : EntOk Try.prog 112 Go.Am.Ar.af112 := ⟨Try.f112, Try.func112, by kernel_rfl, by kernel_rfl⟩
theorem ent113 : EntOk Try.prog 113 Go.Am.Ar.af113 := ⟨Try.f113, Try.func113, by kernel_rfl, by kernel_rfl⟩
theorem ent114 : EntOk Try.prog 114 Go.Am.Ar.af114 := ⟨Try.f114, Try.func114, by kernel_rfl, by kernel_rfl⟩
theorem ent119 : EntOk Try.prog 119 Go.Am.Ar.af119 := ⟨Try.f119, Try.func119, by kernel_rfl, by kernel_rfl⟩
def awTree11 : KT := (.node (.node (.node (.node (.node (.node .leaf 11 Go.Am.Ar.af11 .leaf) 14 Go.Am.Ar.af14 (.node .leaf 15 Go.Am.Ar.af15 .leaf)) 18 Go.Am.Ar.af18 (.node (.node .leaf 27 Go.Am.Ar.af27 .leaf) 29 Go.Am.Ar.af29 (.node .leaf 30 Go.Am.Ar.af30 .leaf))) 31 Go.Am.Ar.af31 (.node (.node (.node .leaf 32 Go.Am.Ar.af32 .leaf) 36 Go.Am.Ar.af36 (.node .leaf 43 Go.Am.Ar.af43 .leaf)) 44 Go.Am.Ar.af44 (.node (.node .leaf 45 Go.Am.Ar.af45 .leaf) 46 Go.Am.Ar.af46 .leaf))) 50 Go.Am.Ar.af50 (.node (.node (.node (.node .leaf 53 Go.Am.Ar.af53 .leaf) 54 Go.Am.Ar.af54 (.node .leaf 55 Go.Am.Ar.af55 .leaf)) 56 Go.Am.Ar.af56 (.node (.node .leaf 57 Go.Am.Ar.af57 .leaf) 60 Go.Am.Ar.af60 .leaf)) 61 Go.Am.Ar.af61 (.node (.node (.node .leaf 69 Go.Am.Ar.af69 .leaf) 70 Go.Am.Ar.af70 (.node .leaf 71 Go.Am.Ar.af71 .leaf)) 72 Go.Am.Ar.af72 (.node (.node .leaf 73 Go.Am.Ar.af73 .leaf) 74 Go.Am.Ar.af74 .leaf)))) 75 Go.Am.Ar.af75 (.node (.node (.node (.node (.node .leaf 76 Go.Am.Ar.af76 .leaf) 77 Go.Am.Ar.af77 (.node .leaf 79 Go.Am.Ar.af79 .leaf)) 80 Go.Am.Ar.af80 (.node (.node .leaf 81 Go.Am.Ar.af81 .leaf) 82 Go.Am.Ar.af82 .leaf)) 83 Go.Am.Ar.af83 (.node (.node (.node .leaf 84 Go.Am.Ar.af84 .leaf) 85 Go.Am.Ar.af85 (.node .leaf 96 Go.Am.Ar.af96 .leaf)) 97 Go.Am.Ar.af97 (.node (.node .leaf 98 Go.Am.Ar.af98 .leaf) 99 Go.Am.Ar.af99 .leaf))) 100 Go.Am.Ar.af100 (.node (.node (.node (.node .leaf 101 Go.Am.Ar.af101 .leaf) 102 Go.Am.Ar.af102 (.node .leaf 103 Go.Am.Ar.af103 .leaf)) 104 Go.Am.Ar.af104 (.node (.node .leaf 105 Go.Am.Ar.af105 .leaf) 106 Go.Am.Ar.af106 .leaf)) 107 Go.Am.Ar.af107 (.node (.node (.node .leaf 110 Go.Am.Ar.af110 .leaf) 111 Go.Am.Ar.af111 (.node .leaf 112 Go.Am.Ar.af112 .leaf)) 113 Go.Am.Ar.af113 (.node (.node .leaf 114 Go.Am.Ar.af114 .leaf) 119 Go.Am.Ar.af119 .leaf)))))
theorem awTree11_ok : awTree11.Ok Try.prog := ⟨ent75, ⟨ent50, ⟨ent31, ⟨ent18, ⟨ent14, ⟨ent11, trivial, trivial⟩, ⟨ent15, trivial, trivial⟩⟩, ⟨ent29, ⟨ent27, trivial, trivial⟩, ⟨ent30, trivial, trivial⟩⟩⟩, ⟨ent44, ⟨ent36, ⟨ent32, trivial, trivial⟩, ⟨ent43, trivial, trivial⟩⟩, ⟨ent46, ⟨ent45, trivial, trivial⟩, trivial⟩⟩⟩, ⟨ent61, ⟨ent56, ⟨ent54, ⟨ent53, trivial, trivial⟩, ⟨ent55, trivial, trivial⟩⟩, ⟨ent60, ⟨ent57, trivial, trivial⟩, trivial⟩⟩, ⟨ent72, ⟨ent70, ⟨ent69, trivial, trivial⟩, ⟨ent71, trivial, trivial⟩⟩, ⟨ent74, ⟨ent73, trivial, trivial⟩, trivial⟩⟩⟩⟩, ⟨ent100, ⟨ent83, ⟨ent80, ⟨ent77, ⟨ent76, trivial, trivial⟩, ⟨ent79, trivial, trivial⟩⟩, ⟨ent82, ⟨ent81, trivial, trivial⟩, trivial⟩⟩, ⟨ent97, ⟨ent85, ⟨ent84, trivial, trivial⟩, ⟨ent96, trivial, trivial⟩⟩, ⟨ent99, ⟨ent98, trivial, trivial⟩, trivial⟩⟩⟩, ⟨ent107, ⟨ent104, ⟨ent102, ⟨ent101, trivial, trivial⟩, ⟨ent103, trivial, trivial⟩⟩, ⟨ent106, ⟨ent105, trivial, trivial⟩, trivial⟩⟩, ⟨ent113, ⟨ent111, ⟨ent110, trivial, trivial⟩, ⟨ent112, trivial, trivial⟩⟩, ⟨ent119, ⟨ent114, trivial, trivial⟩, trivial⟩⟩⟩⟩⟩
set_option maxRecDepth 100000 in
theorem awRuns11 : kif (kclosed awTree11 (nat_lit 5000) (nat_lit 11)) true = true := by kernel_rfl
theorem awPrim11 : PrimOk Try.prog 11 primTrue := prim_true ⟨Try.f11, Try.func11, by kernel_rfl, by kernel_rfl⟩ (fun w => calls_true awTree11_ok (kif_ok awRuns11).1 w)

def tree : KT := (.node (.node (.node (.node (.node (.node (.node .leaf 4 Go.Am.Ar.af4 .leaf) 6 Go.Am.Ar.af6 .leaf) 10 Go.Am.Ar.af10 (.node (.tru .leaf 11 .leaf) 12 Go.Am.Ar.af12 .leaf)) 13 Go.Am.Ar.af13 (.node (.node (.node .leaf 14 Go.Am.Ar.af14 .leaf) 15 Go.Am.Ar.af15 .leaf) 17 Go.Am.Ar.af17 (.node .leaf 18 Go.Am.Ar.af18 .leaf))) 22 Go.Am.Ar.af22 (.node (.node (.node (.node .leaf 23 Go.Am.Ar.af23 .leaf) 24 Go.Am.Ar.af24 .leaf) 25 Go.Am.Ar.af25 (.node .leaf 26 Go.Am.Ar.af26 .leaf)) 27 Go.Am.Ar.af27 (.node (.node (.node .leaf 28 Go.Am.Ar.af28 .leaf) 29 Go.Am.Ar.af29 .leaf) 30 Go.Am.Ar.af30 (.node .leaf 31 Go.Am.Ar.af31 .leaf)))) 32 Go.Am.Ar.af32 (.node (.node (.node (.node (.node .leaf 33 Go.Am.Ar.af33 .leaf) 35 Go.Am.Ar.af35 .leaf) 36 Go.Am.Ar.af36 (.node (.node .leaf 40 Go.Am.Ar.af40 .leaf) 41 Go.Am.Ar.af41 .leaf)) 42 Go.Am.Ar.af42 (.node (.node (.node .leaf 43 Go.Am.Ar.af43 .leaf) 44 Go.Am.Ar.af44 .leaf) 45 Go.Am.Ar.af45 (.node .leaf 46 Go.Am.Ar.af46 .leaf))) 47 Go.Am.Ar.af47 (.node (.node (.node (.node .leaf 48 Go.Am.Ar.af48 .leaf) 49 Go.Am.Ar.af49 .leaf) 50 Go.Am.Ar.af50 (.node .leaf 51 Go.Am.Ar.af51 .leaf)) 52 Go.Am.Ar.af52 (.node (.node (.node .leaf 53 Go.Am.Ar.af53 .leaf) 54 Go.Am.Ar.af54 .leaf) 55 Go.Am.Ar.af55 (.node .leaf 56 Go.Am.Ar.af56 .leaf))))) 57 Go.Am.Ar.af57 (.node (.node (.node (.node (.node (.node .leaf 58 Go.Am.Ar.af58 .leaf) 59 Go.Am.Ar.af59 .leaf) 60 Go.Am.Ar.af60 (.node (.node .leaf 61 Go.Am.Ar.af61 .leaf) 63 Go.Am.Ar.af63 .leaf)) 69 Go.Am.Ar.af69 (.node (.node (.node .leaf 70 Go.Am.Ar.af70 .leaf) 71 Go.Am.Ar.af71 .leaf) 72 Go.Am.Ar.af72 (.node .leaf 73 Go.Am.Ar.af73 .leaf))) 74 Go.Am.Ar.af74 (.node (.node (.node (.node .leaf 75 Go.Am.Ar.af75 .leaf) 76 Go.Am.Ar.af76 .leaf) 77 Go.Am.Ar.af77 (.node .leaf 78 Go.Am.Ar.af78 .leaf)) 79 Go.Am.Ar.af79 (.node (.node (.node .leaf 80 Go.Am.Ar.af80 .leaf) 81 Go.Am.Ar.af81 .leaf) 82 Go.Am.Ar.af82 (.node .leaf 83 Go.Am.Ar.af83 .leaf)))) 84 Go.Am.Ar.af84 (.node (.node (.node (.node (.node .leaf 85 Go.Am.Ar.af85 .leaf) 96 Go.Am.Ar.af96 .leaf) 97 Go.Am.Ar.af97 (.node .leaf 98 Go.Am.Ar.af98 .leaf)) 99 Go.Am.Ar.af99 (.node (.node (.node .leaf 100 Go.Am.Ar.af100 .leaf) 101 Go.Am.Ar.af101 .leaf) 102 Go.Am.Ar.af102 (.node .leaf 103 Go.Am.Ar.af103 .leaf))) 104 Go.Am.Ar.af104 (.node (.node (.node (.node .leaf 105 Go.Am.Ar.af105 .leaf) 106 Go.Am.Ar.af106 .leaf) 107 Go.Am.Ar.af107 (.node .leaf 110 Go.Am.Ar.af110 .leaf)) 111 Go.Am.Ar.af111 (.node (.node (.node .leaf 112 Go.Am.Ar.af112 .leaf) 113 Go.Am.Ar.af113 .leaf) 114 Go.Am.Ar.af114 (.node .leaf 119 Go.Am.Ar.af119 .leaf))))))
theorem tree_ok : tree.Ok Try.prog := ⟨ent57, ⟨ent32, ⟨ent22, ⟨ent13, ⟨ent10, ⟨ent6, ⟨ent4, trivial, trivial⟩, trivial⟩, ⟨ent12, ⟨awPrim11, trivial, trivial⟩, trivial⟩⟩, ⟨ent17, ⟨ent15, ⟨ent14, trivial, trivial⟩, trivial⟩, ⟨ent18, trivial, trivial⟩⟩⟩, ⟨ent27, ⟨ent25, ⟨ent24, ⟨ent23, trivial, trivial⟩, trivial⟩, ⟨ent26, trivial, trivial⟩⟩, ⟨ent30, ⟨ent29, ⟨ent28, trivial, trivial⟩, trivial⟩, ⟨ent31, trivial, trivial⟩⟩⟩⟩, ⟨ent47, ⟨ent42, ⟨ent36, ⟨ent35, ⟨ent33, trivial, trivial⟩, trivial⟩, ⟨ent41, ⟨ent40, trivial, trivial⟩, trivial⟩⟩, ⟨ent45, ⟨ent44, ⟨ent43, trivial, trivial⟩, trivial⟩, ⟨ent46, trivial, trivial⟩⟩⟩, ⟨ent52, ⟨ent50, ⟨ent49, ⟨ent48, trivial, trivial⟩, trivial⟩, ⟨ent51, trivial, trivial⟩⟩, ⟨ent55, ⟨ent54, ⟨ent53, trivial, trivial⟩, trivial⟩, ⟨ent56, trivial, trivial⟩⟩⟩⟩⟩, ⟨ent84, ⟨ent74, ⟨ent69, ⟨ent60, ⟨ent59, ⟨ent58, trivial, trivial⟩, trivial⟩, ⟨ent63, ⟨ent61, trivial, trivial⟩, trivial⟩⟩, ⟨ent72, ⟨ent71, ⟨ent70, trivial, trivial⟩, trivial⟩, ⟨ent73, trivial, trivial⟩⟩⟩, ⟨ent79, ⟨ent77, ⟨ent76, ⟨ent75, trivial, trivial⟩, trivial⟩, ⟨ent78, trivial, trivial⟩⟩, ⟨ent82, ⟨ent81, ⟨ent80, trivial, trivial⟩, trivial⟩, ⟨ent83, trivial, trivial⟩⟩⟩⟩, ⟨ent104, ⟨ent99, ⟨ent97, ⟨ent96, ⟨ent85, trivial, trivial⟩, trivial⟩, ⟨ent98, trivial, trivial⟩⟩, ⟨ent102, ⟨ent101, ⟨ent100, trivial, trivial⟩, trivial⟩, ⟨ent103, trivial, trivial⟩⟩⟩, ⟨ent111, ⟨ent107, ⟨ent106, ⟨ent105, trivial, trivial⟩, trivial⟩, ⟨ent110, trivial, trivial⟩⟩, ⟨ent114, ⟨ent113, ⟨ent112, trivial, trivial⟩, trivial⟩, ⟨ent119, trivial, trivial⟩⟩⟩⟩⟩⟩
theorem has : Go.Am.Ar.HasA tree.find := ⟨by constructor <;> kernel_rfl, by kernel_rfl⟩
end Go.Proofs.Ytgapkfaikhlipaa.ImproveMatchesTab
