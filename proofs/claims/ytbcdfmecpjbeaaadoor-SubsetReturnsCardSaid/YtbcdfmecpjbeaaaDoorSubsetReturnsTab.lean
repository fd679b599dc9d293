/- The table of the functions that the laws reach; the examples that every law evaluates are run by the kernel. -/
import Derived.Test.YtbcdfmecpjbeaaaDoorRows
import Derived.Test.YtbcdfmecpjbeaaaDoorAmKEnd
import Derived.Test.YtbcdfmecpjbeaaaDoorMzFacts
import Derived.Test.YtbcdfmecpjbeaaaDoorMzDoor
import Derived.Test.YtbcdfmecpjbeaaaDoorSubsetReturnsCode
set_option linter.unusedVariables false
namespace Go.Proofs.YtbcdfmecpjbeaaaDoor.SubsetReturnsTab
open Go.Am
theorem ent13 : EntOk Tryd.prog 13 Go.Am.Ar.af13 := ⟨Tryd.f13, Tryd.func13, by kernel_rfl, by kernel_rfl⟩
theorem ent6 : EntOk Tryd.prog 6 Go.Am.Ar.af6 := ⟨Tryd.f6, Tryd.func6, by kernel_rfl, by kernel_rfl⟩
theorem ent7 : EntOk Tryd.prog 7 Go.Am.Ar.af7 := ⟨Tryd.f7, Tryd.func7, by kernel_rfl, by kernel_rfl⟩
theorem ent11 : EntOk Tryd.prog 11 Go.Am.Ar.af11 := ⟨Tryd.f11, Tryd.func11, by kernel_rfl, by kernel_rfl⟩
theorem ent12 : EntOk Tryd.prog 12 Go.Am.Ar.af12 := ⟨Tryd.f12, Tryd.func12, by kernel_rfl, by kernel_rfl⟩
theorem ent14 : EntOk Tryd.prog 14 Go.Am.Ar.af14 := ⟨Tryd.f14, Tryd.func14, by kernel_rfl, by kernel_rfl⟩
theorem ent15 : EntOk Tryd.prog 15 Go.Am.Ar.af15 := ⟨Tryd.f15, Tryd.func15, by kernel_rfl, by kernel_rfl⟩
theorem ent16 : EntOk Tryd.prog 16 Go.Am.Ar.af16 := ⟨Tryd.f16, Tryd.func16, by kernel_rfl, by kernel_rfl⟩
theorem ent17 : EntOk Tryd.prog 17 Go.Am.Ar.af17 := ⟨Tryd.f17, Tryd.func17, by kernel_rfl, by kernel_rfl⟩
theorem ent18 : EntOk Tryd.prog 18 Go.Am.Ar.af18 := ⟨Tryd.f18, Tryd.func18, by kernel_rfl, by kernel_rfl⟩
theorem ent19 : EntOk Tryd.prog 19 Go.Am.Ar.af19 := ⟨Tryd.f19, Tryd.func19, by kernel_rfl, by kernel_rfl⟩
theorem ent20 : EntOk Tryd.prog 20 Go.Am.Ar.af20 := ⟨Tryd.f20, Tryd.func20, by kernel_rfl, by kernel_rfl⟩
theorem ent21 : EntOk Tryd.prog 21 Go.Am.Ar.af21 := ⟨Tryd.f21, Tryd.func21, by kernel_rfl, by kernel_rfl⟩
theorem ent22 : EntOk Tryd.prog 22 Go.Am.Ar.af22 := ⟨Tryd.f22, Tryd.func22, by kernel_rfl, by kernel_rfl⟩
theorem ent23 : EntOk Tryd.prog 23 Go.Am.Ar.af23 := ⟨Tryd.f23, Tryd.func23, by kernel_rfl, by kernel_rfl⟩
theorem ent24 : EntOk Tryd.prog 24 Go.Am.Ar.af24 := ⟨Tryd.f24, Tryd.func24, by kernel_rfl, by kernel_rfl⟩
theorem ent25 : EntOk Tryd.prog 25 Go.Am.Ar.af25 := ⟨Tryd.f25, Tryd.func25, by kernel_rfl, by kernel_rfl⟩
theorem ent26 : EntOk Tryd.prog 26 Go.Am.Ar.af26 := ⟨Tryd.f26, Tryd.func26, by kernel_rfl, by kernel_rfl⟩
theorem ent27 : EntOk Tryd.prog 27 Go.Am.Ar.af27 := ⟨Tryd.f27, Tryd.func27, by kernel_rfl, by kernel_rfl⟩
theorem ent28 : EntOk Tryd.prog 28 Go.Am.Ar.af28 := ⟨Tryd.f28, Tryd.func28, by kernel_rfl, by kernel_rfl⟩
theorem ent29 : EntOk Tryd.prog 29 Go.Am.Ar.af29 := ⟨Tryd.f29, Tryd.func29, by kernel_rfl, by kernel_rfl⟩
theorem ent30 : EntOk Tryd.prog 30 Go.Am.Ar.af30 := ⟨Tryd.f30, Tryd.func30, by kernel_rfl, by kernel_rfl⟩
theorem ent31 : EntOk Tryd.prog 31 Go.Am.Ar.af31 := ⟨Tryd.f31, Tryd.func31, by kernel_rfl, by kernel_rfl⟩
theorem ent34 : EntOk Tryd.prog 34 Go.Am.Ar.af34 := ⟨Tryd.f34, Tryd.func34, by kernel_rfl, by kernel_rfl⟩
theorem ent35 : EntOk Tryd.prog 35 Go.Am.Ar.af35 := ⟨Tryd.f35, Tryd.func35, by kernel_rfl, by kernel_rfl⟩
theorem ent36 : EntOk Tryd.prog 36 Go.Am.Ar.af36 := ⟨Tryd.f36, Tryd.func36, by kernel_rfl, by kernel_rfl⟩
theorem ent37 : EntOk Tryd.prog 37 Go.Am.Ar.af37 := ⟨Tryd.f37, Tryd.func37, by kernel_rfl, by kernel_rfl⟩
theorem ent38 : EntOk Tryd.prog 38 Go.Am.Ar.af38 := ⟨Tryd.f38, Tryd.func38, by kernel_rfl, by kernel_rfl⟩
theorem ent39 : EntOk Tryd.prog 39 Go.Am.Ar.af39 := ⟨Tryd.f39, Tryd.func39, by kernel_rfl, by kernel_rfl⟩
theorem ent40 : EntOk Tryd.prog 40 Go.Am.Ar.af40 := ⟨Tryd.f40, Tryd.func40, by kernel_rfl, by kernel_rfl⟩
theorem ent41 : EntOk Tryd.prog 41 Go.Am.Ar.af41 := ⟨Tryd.f41, Tryd.func41, by kernel_rfl, by kernel_rfl⟩
theorem ent42 : EntOk Tryd.prog 42 Go.Am.Ar.af42 := ⟨Tryd.f42, Tryd.func42, by kernel_rfl, by kernel_rfl⟩
theorem ent45 : EntOk Tryd.prog 45 Go.Am.Ar.af45 := ⟨Tryd.f45, Tryd.func45, by kernel_rfl, by kernel_rfl⟩
theorem ent46 : EntOk Tryd.prog 46 Go.Am.Ar.af46 := ⟨Tryd.f46, Tryd.func46, by kernel_rfl, by kernel_rfl⟩
theorem ent47 : EntOk Tryd.prog 47 Go.Am.Ar.af47 := ⟨Tryd.f47, Tryd.func47, by kernel_rfl, by kernel_rfl⟩
theorem ent48 : EntOk Tryd.prog 48 Go.Am.Ar.af48 := ⟨Tryd.f48, Tryd.func48, by kernel_rfl, by kernel_rfl⟩
theorem ent49 : EntOk Tryd.prog 49 Go.Am.Ar.af49 := ⟨Tryd.f49, Tryd.func49, by kernel_rfl, by kernel_rfl⟩
theorem ent50 : EntOk Tryd.prog 50 Go.Am.Ar.af50 := ⟨Tryd.f50, Tryd.func50, by kernel_rfl, by kernel_rfl⟩
theorem ent51 : EntOk Tryd.prog 51 Go.Am.Ar.af51 := ⟨Tryd.f51, Tryd.func51, by kernel_rfl, by kernel_rfl⟩
theorem ent52 : EntOk Tryd.prog 52 Go.Am.Ar.af52 := ⟨Tryd.f52, Tryd.func52, by kernel_rfl, by kernel_rfl⟩
theorem ent53 : EntOk Tryd.prog 53 Go.Am.Ar.af53 := ⟨Tryd.f53, Tryd.func53, by kernel_rfl, by kernel_rfl⟩
theorem ent54 : EntOk Tryd.prog 54 Go.Am.Ar.af54 := ⟨Tryd.f54, Tryd.func54, by kernel_rfl, by kernel_rfl⟩
theorem ent55 : EntOk Tryd.prog 55 Go.Am.Ar.af55 := ⟨Tryd.f55, Tryd.func55, by kernel_rfl, by kernel_rfl⟩
theorem ent56 : EntOk Tryd.prog 56 Go.Am.Ar.af56 := ⟨Tryd.f56, Tryd.func56, by kernel_rfl, by kernel_rfl⟩
theorem ent57 : EntOk Tryd.prog 57 Go.Am.Ar.af57 := ⟨Tryd.f57, Tryd.func57, by kernel_rfl, by kernel_rfl⟩
theorem ent58 : EntOk Tryd.prog 58 Go.Am.Ar.af58 := ⟨Tryd.f58, Tryd.func58, by kernel_rfl, by kernel_rfl⟩
theorem ent59 : EntOk Tryd.prog 59 Go.Am.Ar.af59 := ⟨Tryd.f59, Tryd.func59, by kernel_rfl, by kernel_rfl⟩
theorem ent60 : EntOk Tryd.prog 60 Go.Am.Ar.af60 := ⟨Tryd.f60, Tryd.func60, by kernel_rfl, by kernel_rfl⟩
theorem ent61 : EntOk Tryd.prog 61 Go.Am.Ar.af61 := ⟨Tryd.f61, Tryd.func61, by kernel_rfl, by kernel_rfl⟩
theorem ent62 : EntOk Tryd.prog 62 Go.Am.Ar.af62 := ⟨Tryd.f62, Tryd.func62, by kernel_rfl, by kernel_rfl⟩
theorem ent63 : EntOk Tryd.prog 63 Go.Am.Ar.af63 := ⟨Tryd.f63, Tryd.func63, by kernel_rfl, by kernel_rfl⟩
theorem ent64 : EntOk Tryd.prog 64 Go.Am.Ar.af64 := ⟨Tryd.f64, Tryd.func64, by kernel_rfl, by kernel_rfl⟩
theorem ent65 : EntOk Tryd.prog 65 Go.Am.Ar.af65 := ⟨Tryd.f65, Tryd.func65, by kernel_rfl, by kernel_rfl⟩
theorem ent66 : EntOk Tryd.prog 66 Go.Am.Ar.af66 := ⟨Tryd.f66, Tryd.func66, by kernel_rfl, by kernel_rfl⟩
theorem ent67 : EntOk Tryd.prog 67 Go.Am.Ar.af67 := ⟨Tryd.f67, Tryd.func67, by kernel_rfl, by kernel_rfl⟩
theorem ent68 : EntOk Tryd.prog 68 Go.Am.Ar.af68 := ⟨Tryd.f68, Tryd.func68, by kernel_rfl, by kernel_rfl⟩
theorem ent69 : EntOk Tryd.prog 69 Go.Am.Ar.af69 := ⟨Tryd.f69, Tryd.func69, by kernel_rfl, by kernel_rfl⟩
theorem ent70 : EntOk Tryd.prog 70 Go.Am.Ar.af70 := ⟨Tryd.f70, Tryd.func70, by kernel_rfl, by kernel_rfl⟩
theorem ent73 : EntOk Tryd.prog 73 Go.Am.Ar.af73 := ⟨Tryd.f73, Tryd.func73, by kernel_rfl, by kernel_rfl⟩
theorem ent74 : EntOk Tryd.prog 74 Go.Am.Ar.af74 := ⟨Tryd.f74, Tryd.func74, by kernel_rfl, by kernel_rfl⟩
theorem ent75 : EntOk Tryd.prog 75 Go.Am.Ar.af75 := ⟨Tryd.f75, Tryd.func75, by kernel_rfl, by kernel_rfl⟩
theorem ent76 : EntOk Tryd.prog 76 Go.Am.Ar.af76 := ⟨Tryd.f76, Tryd.func76, by kernel_rfl, by kernel_rfl⟩
theorem ent77 : EntOk Tryd.prog 77 Go.Am.Ar.af77 := ⟨Tryd.f77, Tryd.func77, by kernel_rfl, by kernel_rfl⟩
theorem ent78 : EntOk Tryd.prog 78 Go.Am.Ar.af78 := ⟨Tryd.f78, Tryd.func78, by kernel_rfl, by kernel_rfl⟩
theorem ent79 : EntOk Tryd.prog 79 Go.Am.Ar.af79 := ⟨Tryd.f79, Tryd.func79, by kernel_rfl, by kernel_rfl⟩
theorem ent80 : EntOk Tryd.prog 80 Go.Am.Ar.af80 := ⟨Tryd.f80, Tryd.func80, by kernel_rfl, by kernel_rfl⟩
theorem ent81 : EntOk Tryd.prog 81 Go.Am.Ar.af81 := ⟨Tryd.f81, Tryd.func81, by kernel_rfl, by kernel_rfl⟩
theorem ent82 : EntOk Tryd.prog 82 Go.Am.Ar.af82 := ⟨Tryd.f82, Tryd.func82, by kernel_rfl, by kernel_rfl⟩
theorem ent83 : EntOk Tryd.prog 83 Go.Am.Ar.af83 := ⟨Tryd.f83, Tryd.func83, by kernel_rfl, by kernel_rfl⟩
theorem ent84 : EntOk Tryd.prog 84 Go.Am.Ar.af84 := ⟨Tryd.f84, Tryd.func84, by kernel_rfl, by kernel_rfl⟩
theorem ent85 : EntOk Tryd.prog 85 Go.Am.Ar.af85 := ⟨Tryd.f85, Tryd.func85, by kernel_rfl, by kernel_rfl⟩
theorem ent87 : EntOk Tryd.prog 87 Go.Am.Ar.af87 := ⟨Tryd.f87, Tryd.func87, by kernel_rfl, by kernel_rfl⟩
theorem ent88 : EntOk Tryd.prog 88 Go.Am.Ar.af88 := ⟨Tryd.f88, Tryd.func88, by kernel_rfl, by kernel_rfl⟩
theorem ent89 : EntOk Tryd.prog 89 Go.Am.Ar.af89 := ⟨Tryd.f89, Tryd.func89, by kernel_rfl, by kernel_rfl⟩
theorem ent90 : EntOk Tryd.prog 90 Go.Am.Ar.af90 := ⟨Tryd.f90, Tryd.func90, by kernel_rfl, by kernel_rfl⟩
theorem ent91 : EntOk Tryd.prog 91 Go.Am.Ar.af91 := ⟨Tryd.f91, Tryd.func91, by kernel_rfl, by kernel_rfl⟩
theorem ent92 : EntOk Tryd.prog 92 Go.Am.Ar.af92 := ⟨Tryd.f92, Tryd.func92, by kernel_rfl, by kernel_rfl⟩
theorem ent93 : EntOk Tryd.prog 93 Go.Am.Ar.af93 := ⟨Tryd.f93, Tryd.func93, by kernel_rfl, by kernel_rfl⟩
theorem ent94 : EntOk Tryd.prog 94 Go.Am.Ar.af94 := ⟨Tryd.f94, Tryd.func94, by kernel_rfl, by kernel_rfl⟩
theorem ent95 : EntOk Tryd.prog 95 Go.Am.Ar.af95 := ⟨Tryd.f95, Tryd.func95, by kernel_rfl, by kernel_rfl⟩
theorem ent96 : EntOk Tryd.prog 96 Go.Am.Ar.af96 := ⟨Tryd.f96, Tryd.func96, by kernel_rfl, by kernel_rfl⟩
theorem ent97 : EntOk Tryd.prog 97 Go.Am.Ar.af97 := ⟨Tryd.f97, Tryd.func97, by kernel_rfl, by kernel_rfl⟩
theorem ent98 : EntOk Tryd.prog 98 Go.Am.Ar.af98 := ⟨Tryd.f98, Tryd.func98, by kernel_rfl, by kernel_rfl⟩
theorem ent100 : EntOk Tryd.prog 100 Go.Am.Ar.af100 := ⟨Tryd.f100, Tryd.func100, by kernel_rfl, by kernel_rfl⟩
theorem ent101 : EntOk Tryd.prog 101 Go.Am.Ar.af101 := ⟨Tryd.f101, Tryd.func101, by kernel_rfl, by kernel_rfl⟩
theorem ent102 : EntOk Tryd.prog 102 Go.Am.Ar.af102 := ⟨Tryd.f102, Tryd.func102, by kernel_rfl, by kernel_rfl⟩
theorem ent103 : EntOk Tryd.prog 103 Go.Am.Ar.af103 := ⟨Tryd.f103, Tryd.func103, by kernel_rfl, by kernel_rfl⟩
theorem ent104 : EntOk Tryd.prog 104 Go.Am.Ar.af104 := ⟨Tryd.f104, Tryd.func104, by kernel_rfl, by kernel_rfl⟩
theorem ent105 : EntOk Tryd.prog 105 Go.Am.Ar.af105 := ⟨Tryd.f105, Tryd.func105, by kernel_rfl, by kernel_rfl⟩
theorem ent106 : EntOk Tryd.prog 106 Go.Am.Ar.af106 := ⟨Tryd.f106, Tryd.func106, by kernel_rfl, by kernel_rfl⟩
theorem ent107 : EntOk Tryd.prog 107 Go.Am.Ar.af107 := ⟨Tryd.f107, Tryd.func107, by kernel_rfl, by kernel_rfl⟩
theorem ent108 : EntOk Tryd.prog 108 Go.Am.Ar.af108 := ⟨Tryd.f108, Tryd.func108, by kernel_rfl, by kernel_rfl⟩
theorem ent109 : EntOk Tryd.prog 109 Go.Am.Ar.af109 := ⟨Tryd.f109, Tryd.func109, by kernel_rfl, by kernel_rfl⟩
theorem ent110 : EntOk Tryd.prog 110 Go.Am.Ar.af110 := ⟨Tryd.f110, Tryd.func110, by kernel_rfl, by kernel_rfl⟩
theorem ent111 : EntOk Tryd.prog 111 Go.Am.Ar.af111 := ⟨Tryd.f111, Tryd.func111, by kernel_rfl, by kernel_rfl⟩
theorem ent112 : EntOk Tryd.prog 112 Go.Am.Ar.af112 := ⟨Tryd.f112, Tryd.func112, by kernel_rfl, by kernel_rfl⟩
theorem ent113 : EntOk Tryd.prog 113 Go.Am.Ar.af113 := ⟨Tryd.f113, Tryd.func113, by kernel_rfl, by kernel_rfl⟩
theorem ent114 : EntOk Tryd.prog 114 Go.Am.Ar.af114 := ⟨Tryd.f114, Tryd.func114, by kernel_rfl, by kernel_rfl⟩
theorem ent115 : EntOk Tryd.prog 115 Go.Am.Ar.af115 := ⟨Tryd.f115, Tryd.func115, by kernel_rfl, by kernel_rfl⟩
theorem ent116 : EntOk Tryd.prog 116 Go.Am.Ar.af116 := ⟨Tryd.f116, Tryd.func116, by kernel_rfl, by kernel_rfl⟩
theorem ent117 : EntOk Tryd.prog 117 Go.Am.Ar.af117 := ⟨Tryd.f117, Tryd.func117, by kernel_rfl, by kernel_rfl⟩
theorem ent118 : EntOk Tryd.prog 118 Go.Am.Ar.af118 := ⟨Tryd.f118, Tryd.func118, by kernel_rfl, by kernel_rfl⟩
theorem ent119 : EntOk Tryd.prog 119 Go.Am.Ar.af119 := ⟨Tryd.f119, Tryd.func119, by kernel_rfl, by kernel_rfl⟩
theorem ent120 : EntOk Tryd.prog 120 Go.Am.Ar.af120 := ⟨Tryd.f120, Tryd.func120, by kernel_rfl, by kernel_rfl⟩
theorem ent121 : EntOk Tryd.prog 121 Go.Am.Ar.af121 := ⟨Tryd.f121, Tryd.func121, by kernel_rfl, by kernel_rfl⟩
def awTree13 : KT := (.node (.node (.node (.node (.node (.node .leaf 13 Go.Am.Ar.af13 .leaf) 19 Go.Am.Ar.af19 (.node .leaf 20 Go.Am.Ar.af20 .leaf)) 21 Go.Am.Ar.af21 (.node (.node .leaf 29 Go.Am.Ar.af29 .leaf) 30 Go.Am.Ar.af30 (.node .leaf 34 Go.Am.Ar.af34 .leaf))) 37 Go.Am.Ar.af37 (.node (.node (.node .leaf 38 Go.Am.Ar.af38 .leaf) 45 Go.Am.Ar.af45 (.node .leaf 46 Go.Am.Ar.af46 .leaf)) 50 Go.Am.Ar.af50 (.node (.node .leaf 51 Go.Am.Ar.af51 .leaf) 52 Go.Am.Ar.af52 (.node .leaf 53 Go.Am.Ar.af53 .leaf)))) 54 Go.Am.Ar.af54 (.node (.node (.node (.node .leaf 64 Go.Am.Ar.af64 .leaf) 65 Go.Am.Ar.af65 (.node .leaf 66 Go.Am.Ar.af66 .leaf)) 67 Go.Am.Ar.af67 (.node (.node .leaf 68 Go.Am.Ar.af68 .leaf) 69 Go.Am.Ar.af69 (.node .leaf 73 Go.Am.Ar.af73 .leaf))) 74 Go.Am.Ar.af74 (.node (.node (.node .leaf 75 Go.Am.Ar.af75 .leaf) 76 Go.Am.Ar.af76 (.node .leaf 77 Go.Am.Ar.af77 .leaf)) 78 Go.Am.Ar.af78 (.node (.node .leaf 79 Go.Am.Ar.af79 .leaf) 80 Go.Am.Ar.af80 (.node .leaf 81 Go.Am.Ar.af81 .leaf))))) 87 Go.Am.Ar.af87 (.node (.node (.node (.node (.node .leaf 90 Go.Am.Ar.af90 .leaf) 91 Go.Am.Ar.af91 (.node .leaf 92 Go.Am.Ar.af92 .leaf)) 93 Go.Am.Ar.af93 (.node (.node .leaf 94 Go.Am.Ar.af94 .leaf) 95 Go.Am.Ar.af95 (.node .leaf 96 Go.Am.Ar.af96 .leaf))) 97 Go.Am.Ar.af97 (.node (.tz (.node .leaf 98 Go.Am.Ar.af98 .leaf) 99 (.node .leaf 101 Go.Am.Ar.af101 .leaf)) 102 Go.Am.Ar.af102 (.node (.node .leaf 103 Go.Am.Ar.af103 .leaf) 104 Go.Am.Ar.af104 (.node .leaf 105 Go.Am.Ar.af105 .leaf)))) 106 Go.Am.Ar.af106 (.node (.node (.node (.node .leaf 107 Go.Am.Ar.af107 .leaf) 109 Go.Am.Ar.af109 (.node .leaf 110 Go.Am.Ar.af110 .leaf)) 111 Go.Am.Ar.af111 (.node (.node .leaf 112 Go.Am.Ar.af112 .leaf) 113 Go.Am.Ar.af113 (.node .leaf 114 Go.Am.Ar.af114 .leaf))) 115 Go.Am.Ar.af115 (.node (.node (.node .leaf 116 Go.Am.Ar.af116 .leaf) 117 Go.Am.Ar.af117 (.node .leaf 118 Go.Am.Ar.af118 .leaf)) 119 Go.Am.Ar.af119 (.node (.node .leaf 120 Go.Am.Ar.af120 .leaf) 121 Go.Am.Ar.af121 .leaf)))))
theorem awTree13_ok : awTree13.Ok Tryd.prog := ⟨ent87, ⟨ent54, ⟨ent37, ⟨ent21, ⟨ent19, ⟨ent13, trivial, trivial⟩, ⟨ent20, trivial, trivial⟩⟩, ⟨ent30, ⟨ent29, trivial, trivial⟩, ⟨ent34, trivial, trivial⟩⟩⟩, ⟨ent50, ⟨ent45, ⟨ent38, trivial, trivial⟩, ⟨ent46, trivial, trivial⟩⟩, ⟨ent52, ⟨ent51, trivial, trivial⟩, ⟨ent53, trivial, trivial⟩⟩⟩⟩, ⟨ent74, ⟨ent67, ⟨ent65, ⟨ent64, trivial, trivial⟩, ⟨ent66, trivial, trivial⟩⟩, ⟨ent69, ⟨ent68, trivial, trivial⟩, ⟨ent73, trivial, trivial⟩⟩⟩, ⟨ent78, ⟨ent76, ⟨ent75, trivial, trivial⟩, ⟨ent77, trivial, trivial⟩⟩, ⟨ent80, ⟨ent79, trivial, trivial⟩, ⟨ent81, trivial, trivial⟩⟩⟩⟩⟩, ⟨ent106, ⟨ent97, ⟨ent93, ⟨ent91, ⟨ent90, trivial, trivial⟩, ⟨ent92, trivial, trivial⟩⟩, ⟨ent95, ⟨ent94, trivial, trivial⟩, ⟨ent96, trivial, trivial⟩⟩⟩, ⟨ent102, ⟨Door.tzPrim, ⟨ent98, trivial, trivial⟩, ⟨ent101, trivial, trivial⟩⟩, ⟨ent104, ⟨ent103, trivial, trivial⟩, ⟨ent105, trivial, trivial⟩⟩⟩⟩, ⟨ent115, ⟨ent111, ⟨ent109, ⟨ent107, trivial, trivial⟩, ⟨ent110, trivial, trivial⟩⟩, ⟨ent113, ⟨ent112, trivial, trivial⟩, ⟨ent114, trivial, trivial⟩⟩⟩, ⟨ent119, ⟨ent117, ⟨ent116, trivial, trivial⟩, ⟨ent118, trivial, trivial⟩⟩, ⟨ent121, ⟨ent120, trivial, trivial⟩, trivial⟩⟩⟩⟩⟩
set_option maxRecDepth 100000 in
theorem awRuns13 : kif (kclosed awTree13 (nat_lit 5000) (nat_lit 13)) true = true := by kernel_rfl
theorem awPrim13 : PrimOk Tryd.prog 13 primTrue := prim_true ⟨Tryd.f13, Tryd.func13, by kernel_rfl, by kernel_rfl⟩ (fun w hg => calls_true awTree13_ok (kif_ok awRuns13).1 w hg)

def tree : KT := (.node (.node (.node (.node (.node (.node (.node .leaf 6 Go.Am.Ar.af6 .leaf) 7 Go.Am.Ar.af7 (.node .leaf 11 Go.Am.Ar.af11 .leaf)) 12 Go.Am.Ar.af12 (.node (.tru .leaf 13 .leaf) 14 Go.Am.Ar.af14 .leaf)) 15 Go.Am.Ar.af15 (.node (.node (.node .leaf 16 Go.Am.Ar.af16 .leaf) 17 Go.Am.Ar.af17 (.node .leaf 18 Go.Am.Ar.af18 .leaf)) 19 Go.Am.Ar.af19 (.node (.node .leaf 20 Go.Am.Ar.af20 .leaf) 21 Go.Am.Ar.af21 .leaf))) 22 Go.Am.Ar.af22 (.node (.node (.node (.node .leaf 23 Go.Am.Ar.af23 .leaf) 24 Go.Am.Ar.af24 (.node .leaf 25 Go.Am.Ar.af25 .leaf)) 26 Go.Am.Ar.af26 (.node (.node .leaf 27 Go.Am.Ar.af27 .leaf) 28 Go.Am.Ar.af28 .leaf)) 29 Go.Am.Ar.af29 (.node (.node (.node .leaf 30 Go.Am.Ar.af30 .leaf) 31 Go.Am.Ar.af31 .leaf) 34 Go.Am.Ar.af34 (.node (.node .leaf 35 Go.Am.Ar.af35 .leaf) 36 Go.Am.Ar.af36 .leaf)))) 37 Go.Am.Ar.af37 (.node (.node (.node (.node (.node .leaf 38 Go.Am.Ar.af38 .leaf) 39 Go.Am.Ar.af39 (.node .leaf 40 Go.Am.Ar.af40 .leaf)) 41 Go.Am.Ar.af41 (.node (.node .leaf 42 Go.Am.Ar.af42 .leaf) 45 Go.Am.Ar.af45 .leaf)) 46 Go.Am.Ar.af46 (.node (.node (.node .leaf 47 Go.Am.Ar.af47 .leaf) 48 Go.Am.Ar.af48 (.node .leaf 49 Go.Am.Ar.af49 .leaf)) 50 Go.Am.Ar.af50 (.node (.node .leaf 51 Go.Am.Ar.af51 .leaf) 52 Go.Am.Ar.af52 .leaf))) 53 Go.Am.Ar.af53 (.node (.node (.node (.node .leaf 54 Go.Am.Ar.af54 .leaf) 55 Go.Am.Ar.af55 (.node .leaf 56 Go.Am.Ar.af56 .leaf)) 57 Go.Am.Ar.af57 (.node (.node .leaf 58 Go.Am.Ar.af58 .leaf) 59 Go.Am.Ar.af59 .leaf)) 60 Go.Am.Ar.af60 (.node (.node (.node .leaf 61 Go.Am.Ar.af61 .leaf) 62 Go.Am.Ar.af62 .leaf) 63 Go.Am.Ar.af63 (.node (.node .leaf 64 Go.Am.Ar.af64 .leaf) 65 Go.Am.Ar.af65 .leaf))))) 66 Go.Am.Ar.af66 (.node (.node (.node (.node (.node (.node .leaf 67 Go.Am.Ar.af67 .leaf) 68 Go.Am.Ar.af68 (.node .leaf 69 Go.Am.Ar.af69 .leaf)) 70 Go.Am.Ar.af70 (.node (.node .leaf 73 Go.Am.Ar.af73 .leaf) 74 Go.Am.Ar.af74 .leaf)) 75 Go.Am.Ar.af75 (.node (.node (.node .leaf 76 Go.Am.Ar.af76 .leaf) 77 Go.Am.Ar.af77 (.node .leaf 78 Go.Am.Ar.af78 .leaf)) 79 Go.Am.Ar.af79 (.node (.node .leaf 80 Go.Am.Ar.af80 .leaf) 81 Go.Am.Ar.af81 .leaf))) 82 Go.Am.Ar.af82 (.node (.node (.node (.node .leaf 83 Go.Am.Ar.af83 .leaf) 84 Go.Am.Ar.af84 (.node .leaf 85 Go.Am.Ar.af85 .leaf)) 87 Go.Am.Ar.af87 (.node (.node .leaf 88 Go.Am.Ar.af88 .leaf) 89 Go.Am.Ar.af89 .leaf)) 90 Go.Am.Ar.af90 (.node (.node (.node .leaf 91 Go.Am.Ar.af91 .leaf) 92 Go.Am.Ar.af92 .leaf) 93 Go.Am.Ar.af93 (.node (.node .leaf 94 Go.Am.Ar.af94 .leaf) 95 Go.Am.Ar.af95 .leaf)))) 96 Go.Am.Ar.af96 (.node (.node (.node (.node (.node .leaf 97 Go.Am.Ar.af97 .leaf) 98 Go.Am.Ar.af98 (.tz .leaf 99 .leaf)) 100 Go.Am.Ar.af100 (.node (.node .leaf 101 Go.Am.Ar.af101 .leaf) 102 Go.Am.Ar.af102 .leaf)) 103 Go.Am.Ar.af103 (.node (.node (.node .leaf 104 Go.Am.Ar.af104 .leaf) 105 Go.Am.Ar.af105 .leaf) 106 Go.Am.Ar.af106 (.node (.node .leaf 107 Go.Am.Ar.af107 .leaf) 108 Go.Am.Ar.af108 .leaf))) 109 Go.Am.Ar.af109 (.node (.node (.node (.node .leaf 110 Go.Am.Ar.af110 .leaf) 111 Go.Am.Ar.af111 (.node .leaf 112 Go.Am.Ar.af112 .leaf)) 113 Go.Am.Ar.af113 (.node (.node .leaf 114 Go.Am.Ar.af114 .leaf) 115 Go.Am.Ar.af115 .leaf)) 116 Go.Am.Ar.af116 (.node (.node (.node .leaf 117 Go.Am.Ar.af117 .leaf) 118 Go.Am.Ar.af118 .leaf) 119 Go.Am.Ar.af119 (.node (.node .leaf 120 Go.Am.Ar.af120 .leaf) 121 Go.Am.Ar.af121 .leaf))))))
theorem tree_ok : tree.Ok Tryd.prog := ⟨ent66, ⟨ent37, ⟨ent22, ⟨ent15, ⟨ent12, ⟨ent7, ⟨ent6, trivial, trivial⟩, ⟨ent11, trivial, trivial⟩⟩, ⟨ent14, ⟨awPrim13, trivial, trivial⟩, trivial⟩⟩, ⟨ent19, ⟨ent17, ⟨ent16, trivial, trivial⟩, ⟨ent18, trivial, trivial⟩⟩, ⟨ent21, ⟨ent20, trivial, trivial⟩, trivial⟩⟩⟩, ⟨ent29, ⟨ent26, ⟨ent24, ⟨ent23, trivial, trivial⟩, ⟨ent25, trivial, trivial⟩⟩, ⟨ent28, ⟨ent27, trivial, trivial⟩, trivial⟩⟩, ⟨ent34, ⟨ent31, ⟨ent30, trivial, trivial⟩, trivial⟩, ⟨ent36, ⟨ent35, trivial, trivial⟩, trivial⟩⟩⟩⟩, ⟨ent53, ⟨ent46, ⟨ent41, ⟨ent39, ⟨ent38, trivial, trivial⟩, ⟨ent40, trivial, trivial⟩⟩, ⟨ent45, ⟨ent42, trivial, trivial⟩, trivial⟩⟩, ⟨ent50, ⟨ent48, ⟨ent47, trivial, trivial⟩, ⟨ent49, trivial, trivial⟩⟩, ⟨ent52, ⟨ent51, trivial, trivial⟩, trivial⟩⟩⟩, ⟨ent60, ⟨ent57, ⟨ent55, ⟨ent54, trivial, trivial⟩, ⟨ent56, trivial, trivial⟩⟩, ⟨ent59, ⟨ent58, trivial, trivial⟩, trivial⟩⟩, ⟨ent63, ⟨ent62, ⟨ent61, trivial, trivial⟩, trivial⟩, ⟨ent65, ⟨ent64, trivial, trivial⟩, trivial⟩⟩⟩⟩⟩, ⟨ent96, ⟨ent82, ⟨ent75, ⟨ent70, ⟨ent68, ⟨ent67, trivial, trivial⟩, ⟨ent69, trivial, trivial⟩⟩, ⟨ent74, ⟨ent73, trivial, trivial⟩, trivial⟩⟩, ⟨ent79, ⟨ent77, ⟨ent76, trivial, trivial⟩, ⟨ent78, trivial, trivial⟩⟩, ⟨ent81, ⟨ent80, trivial, trivial⟩, trivial⟩⟩⟩, ⟨ent90, ⟨ent87, ⟨ent84, ⟨ent83, trivial, trivial⟩, ⟨ent85, trivial, trivial⟩⟩, ⟨ent89, ⟨ent88, trivial, trivial⟩, trivial⟩⟩, ⟨ent93, ⟨ent92, ⟨ent91, trivial, trivial⟩, trivial⟩, ⟨ent95, ⟨ent94, trivial, trivial⟩, trivial⟩⟩⟩⟩, ⟨ent109, ⟨ent103, ⟨ent100, ⟨ent98, ⟨ent97, trivial, trivial⟩, ⟨Door.tzPrim, trivial, trivial⟩⟩, ⟨ent102, ⟨ent101, trivial, trivial⟩, trivial⟩⟩, ⟨ent106, ⟨ent105, ⟨ent104, trivial, trivial⟩, trivial⟩, ⟨ent108, ⟨ent107, trivial, trivial⟩, trivial⟩⟩⟩, ⟨ent116, ⟨ent113, ⟨ent111, ⟨ent110, trivial, trivial⟩, ⟨ent112, trivial, trivial⟩⟩, ⟨ent115, ⟨ent114, trivial, trivial⟩, trivial⟩⟩, ⟨ent119, ⟨ent118, ⟨ent117, trivial, trivial⟩, trivial⟩, ⟨ent121, ⟨ent120, trivial, trivial⟩, trivial⟩⟩⟩⟩⟩⟩
theorem has : Go.Am.Ar.HasA tree.find := ⟨by constructor <;> kernel_rfl, by kernel_rfl, by kernel_rfl⟩
end Go.Proofs.YtbcdfmecpjbeaaaDoor.SubsetReturnsTab
