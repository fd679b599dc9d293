/- The table of the functions that the laws reach; the examples that every law evaluates are run by the kernel. -/
import Derived.Test.YtfapjojfiaiidaaRows
import Derived.Test.YtfapjojfiaiidaaAmKEnd
import Derived.Test.YtfapjojfiaiidaaMzFacts
import Derived.Test.YtfapjojfiaiidaaSimulateExamplesCode
set_option linter.unusedVariables false
namespace Go.Proofs.Ytfapjojfiaiidaa.SimulateExamplesTab
open Go.Am
theorem ent12 : EntOk Try.prog 12 Go.Am.Ar.af12 := ⟨Try.f12, Try.func12, by kernel_rfl, by kernel_rfl⟩
theorem ent9 : EntOk Try.prog 9 Go.Am.Ar.af9 := ⟨Try.f9, Try.func9, by kernel_rfl, by kernel_rfl⟩
theorem ent11 : EntOk Try.prog 11 Go.Am.Ar.af11 := ⟨Try.f11, Try.func11, by kernel_rfl, by kernel_rfl⟩
theorem ent13 : EntOk Try.prog 13 Go.Am.Ar.af13 := ⟨Try.f13, Try.func13, by kernel_rfl, by kernel_rfl⟩
theorem ent14 : EntOk Try.prog 14 Go.Am.Ar.af14 := ⟨Try.f14, Try.func14, by kernel_rfl, by kernel_rfl⟩
theorem ent18 : EntOk Try.prog 18 Go.Am.Ar.af18 := ⟨Try.f18, Try.func18, by kernel_rfl, by kernel_rfl⟩
theorem ent19 : EntOk Try.prog 19 Go.Am.Ar.af19 := ⟨Try.f19, Try.func19, by kernel_rfl, by kernel_rfl⟩
theorem ent20 : EntOk Try.prog 20 Go.Am.Ar.af20 := ⟨Try.f20, Try.func20, by kernel_rfl, by kernel_rfl⟩
theorem ent22 : EntOk Try.prog 22 Go.Am.Ar.af22 := ⟨Try.f22, Try.func22, by kernel_rfl, by kernel_rfl⟩
theorem ent23 : EntOk Try.prog 23 Go.Am.Ar.af23 := ⟨Try.f23, Try.func23, by kernel_rfl, by kernel_rfl⟩
theorem ent27 : EntOk Try.prog 27 Go.Am.Ar.af27 := ⟨Try.f27, Try.func27, by kernel_rfl, by kernel_rfl⟩
theorem ent28 : EntOk Try.prog 28 Go.Am.Ar.af28 := ⟨Try.f28, Try.func28, by kernel_rfl, by kernel_rfl⟩
theorem ent29 : EntOk Try.prog 29 Go.Am.Ar.af29 := ⟨Try.f29, Try.func29, by kernel_rfl, by kernel_rfl⟩
theorem ent30 : EntOk Try.prog 30 Go.Am.Ar.af30 := ⟨Try.f30, Try.func30, by kernel_rfl, by kernel_rfl⟩
theorem ent32 : EntOk Try.prog 32 Go.Am.Ar.af32 := ⟨Try.f32, Try.func32, by kernel_rfl, by kernel_rfl⟩
theorem ent34 : EntOk Try.prog 34 Go.Am.Ar.af34 := ⟨Try.f34, Try.func34, by kernel_rfl, by kernel_rfl⟩
theorem ent35 : EntOk Try.prog 35 Go.Am.Ar.af35 := ⟨Try.f35, Try.func35, by kernel_rfl, by kernel_rfl⟩
theorem ent36 : EntOk Try.prog 36 Go.Am.Ar.af36 := ⟨Try.f36, Try.func36, by kernel_rfl, by kernel_rfl⟩
theorem ent37 : EntOk Try.prog 37 Go.Am.Ar.af37 := ⟨Try.f37, Try.func37, by kernel_rfl, by kernel_rfl⟩
theorem ent38 : EntOk Try.prog 38 Go.Am.Ar.af38 := ⟨Try.f38, Try.func38, by kernel_rfl, by kernel_rfl⟩
theorem ent39 : EntOk Try.prog 39 Go.Am.Ar.af39 := ⟨Try.f39, Try.func39, by kernel_rfl, by kernel_rfl⟩
theorem ent40 : EntOk Try.prog 40 Go.Am.Ar.af40 := ⟨Try.f40, Try.func40, by kernel_rfl, by kernel_rfl⟩
theorem ent41 : EntOk Try.prog 41 Go.Am.Ar.af41 := ⟨Try.f41, Try.func41, by kernel_rfl, by kernel_rfl⟩
theorem ent42 : EntOk Try.prog 42 Go.Am.Ar.af42 := ⟨Try.f42, Try.func42, by kernel_rfl, by kernel_rfl⟩
theorem ent43 : EntOk Try.prog 43 Go.Am.Ar.af43 := ⟨Try.f43, Try.func43, by kernel_rfl, by kernel_rfl⟩
theorem ent44 : EntOk Try.prog 44 Go.Am.Ar.af44 := ⟨Try.f44, Try.func44, by kernel_rfl, by kernel_rfl⟩
theorem ent46 : EntOk Try.prog 46 Go.Am.Ar.af46 := ⟨Try.f46, Try.func46, by kernel_rfl, by kernel_rfl⟩
theorem ent47 : EntOk Try.prog 47 Go.Am.Ar.af47 := ⟨Try.f47, Try.func47, by kernel_rfl, by kernel_rfl⟩
theorem ent48 : EntOk Try.prog 48 Go.Am.Ar.af48 := ⟨Try.f48, Try.func48, by kernel_rfl, by kernel_rfl⟩
theorem ent49 : EntOk Try.prog 49 Go.Am.Ar.af49 := ⟨Try.f49, Try.func49, by kernel_rfl, by kernel_rfl⟩
theorem ent50 : EntOk Try.prog 50 Go.Am.Ar.af50 := ⟨Try.f50, Try.func50, by kernel_rfl, by kernel_rfl⟩
theorem ent52 : EntOk Try.prog 52 Go.Am.Ar.af52 := ⟨Try.f52, Try.func52, by kernel_rfl, by kernel_rfl⟩
theorem ent53 : EntOk Try.prog 53 Go.Am.Ar.af53 := ⟨Try.f53, Try.func53, by kernel_rfl, by kernel_rfl⟩
theorem ent54 : EntOk Try.prog 54 Go.Am.Ar.af54 := ⟨Try.f54, Try.func54, by kernel_rfl, by kernel_rfl⟩
theorem ent55 : EntOk Try.prog 55 Go.Am.Ar.af55 := ⟨Try.f55, Try.func55, by kernel_rfl, by kernel_rfl⟩
theorem ent56 : EntOk Try.prog 56 Go.Am.Ar.af56 := ⟨Try.f56, Try.func56, by kernel_rfl, by kernel_rfl⟩
theorem ent57 : EntOk Try.prog 57 Go.Am.Ar.af57 := ⟨Try.f57, Try.func57, by kernel_rfl, by kernel_rfl⟩
theorem ent58 : EntOk Try.prog 58 Go.Am.Ar.af58 := ⟨Try.f58, Try.func58, by kernel_rfl, by kernel_rfl⟩
theorem ent59 : EntOk Try.prog 59 Go.Am.Ar.af59 := ⟨Try.f59, Try.func59, by kernel_rfl, by kernel_rfl⟩
theorem ent60 : EntOk Try.prog 60 Go.Am.Ar.af60 := ⟨Try.f60, Try.func60, by kernel_rfl, by kernel_rfl⟩
theorem ent61 : EntOk Try.prog 61 Go.Am.Ar.af61 := ⟨Try.f61, Try.func61, by kernel_rfl, by kernel_rfl⟩
theorem ent62 : EntOk Try.prog 62 Go.Am.Ar.af62 := ⟨Try.f62, Try.func62, by kernel_rfl, by kernel_rfl⟩
theorem ent63 : EntOk Try.prog 63 Go.Am.Ar.af63 := ⟨Try.f63, Try.func63, by kernel_rfl, by kernel_rfl⟩
theorem ent65 : EntOk Try.prog 65 Go.Am.Ar.af65 := ⟨Try.f65, Try.func65, by kernel_rfl, by kernel_rfl⟩
theorem ent66 : EntOk Try.prog 66 Go.Am.Ar.af66 := ⟨Try.f66, Try.func66, by kernel_rfl, by kernel_rfl⟩
theorem ent67 : EntOk Try.prog 67 Go.Am.Ar.af67 := ⟨Try.f67, Try.func67, by kernel_rfl, by kernel_rfl⟩
theorem ent68 : EntOk Try.prog 68 Go.Am.Ar.af68 := ⟨Try.f68, Try.func68, by kernel_rfl, by kernel_rfl⟩
theorem ent69 : EntOk Try.prog 69 Go.Am.Ar.af69 := ⟨Try.f69, Try.func69, by kernel_rfl, by kernel_rfl⟩
theorem ent70 : EntOk Try.prog 70 Go.Am.Ar.af70 := ⟨Try.f70, Try.func70, by kernel_rfl, by kernel_rfl⟩
theorem ent71 : EntOk Try.prog 71 Go.Am.Ar.af71 := ⟨Try.f71, Try.func71, by kernel_rfl, by kernel_rfl⟩
theorem ent72 : EntOk Try.prog 72 Go.Am.Ar.af72 := ⟨Try.f72, Try.func72, by kernel_rfl, by kernel_rfl⟩
theorem ent73 : EntOk Try.prog 73 Go.Am.Ar.af73 := ⟨Try.f73, Try.func73, by kernel_rfl, by kernel_rfl⟩
theorem ent74 : EntOk Try.prog 74 Go.Am.Ar.af74 := ⟨Try.f74, Try.func74, by kernel_rfl, by kernel_rfl⟩
theorem ent75 : EntOk Try.prog 75 Go.Am.Ar.af75 := ⟨Try.f75, Try.func75, by kernel_rfl, by kernel_rfl⟩
theorem ent76 : EntOk Try.prog 76 Go.Am.Ar.af76 := ⟨Try.f76, Try.func76, by kernel_rfl, by kernel_rfl⟩
theorem ent77 : EntOk Try.prog 77 Go.Am.Ar.af77 := ⟨Try.f77, Try.func77, by kernel_rfl, by kernel_rfl⟩
theorem ent78 : EntOk Try.prog 78 Go.Am.Ar.af78 := ⟨Try.f78, Try.func78, by kernel_rfl, by kernel_rfl⟩
theorem ent79 : EntOk Try.prog 79 Go.Am.Ar.af79 := ⟨Try.f79, Try.func79, by kernel_rfl, by kernel_rfl⟩
theorem ent80 : EntOk Try.prog 80 Go.Am.Ar.af80 := ⟨Try.f80, Try.func80, by kernel_rfl, by kernel_rfl⟩
theorem ent81 : EntOk Try.prog 81 Go.Am.Ar.af81 := ⟨Try.f81, Try.func81, by kernel_rfl, by kernel_rfl⟩
theorem ent82 : EntOk Try.prog 82 Go.Am.Ar.af82 := ⟨Try.f82, Try.func82, by kernel_rfl, by kernel_rfl⟩
theorem ent83 : EntOk Try.prog 83 Go.Am.Ar.af83 := ⟨Try.f83, Try.func83, by kernel_rfl, by kernel_rfl⟩
theorem ent84 : EntOk Try.prog 84 Go.Am.Ar.af84 := ⟨Try.f84, Try.func84, by kernel_rfl, by kernel_rfl⟩
theorem ent85 : EntOk Try.prog 85 Go.Am.Ar.af85 := ⟨Try.f85, Try.func85, by kernel_rfl, by kernel_rfl⟩
theorem ent86 : EntOk Try.prog 86 Go.Am.Ar.af86 := ⟨Try.f86, Try.func86, by kernel_rfl, by kernel_rfl⟩
theorem ent87 : EntOk Try.prog 87 Go.Am.Ar.af87 := ⟨Try.f87, Try.func87, by kernel_rfl, by kernel_rfl⟩
theorem ent88 : EntOk Try.prog 88 Go.Am.Ar.af88 := ⟨Try.f88, Try.func88, by kernel_rfl, by kernel_rfl⟩
theorem ent89 : EntOk Try.prog 89 Go.Am.Ar.af89 := ⟨Try.f89, Try.func89, by kernel_rfl, by kernel_rfl⟩
theorem ent90 : EntOk Try.prog 90 Go.Am.Ar.af90 := ⟨Try.f90, Try.func90, by kernel_rfl, by kernel_rfl⟩
theorem ent91 : EntOk Try.prog 91 Go.Am.Ar.af91 := ⟨Try.f91, Try.func91, by kernel_rfl, by kernel_rfl⟩
theorem ent92 : EntOk Try.prog 92 Go.Am.Ar.af92 := ⟨Try.f92, Try.func92, by kernel_rfl, by kernel_rfl⟩
theorem ent93 : EntOk Try.prog 93 Go.Am.Ar.af93 := ⟨Try.f93, Try.func93, by kernel_rfl, by kernel_rfl⟩
theorem ent94 : EntOk Try.prog 94 Go.Am.Ar.af94 := ⟨Try.f94, Try.func94, by kernel_rfl, by kernel_rfl⟩
theorem ent95 : EntOk Try.prog 95 Go.Am.Ar.af95 := ⟨Try.f95, Try.func95, by kernel_rfl, by kernel_rfl⟩
theorem ent96 : EntOk Try.prog 96 Go.Am.Ar.af96 := ⟨Try.f96, Try.func96, by kernel_rfl, by kernel_rfl⟩
theorem ent97 : EntOk Try.prog 97 Go.Am.Ar.af97 := ⟨Try.f97, Try.func97, by kernel_rfl, by kernel_rfl⟩
theorem ent98 : EntOk Try.prog 98 Go.Am.Ar.af98 := ⟨Try.f98, Try.func98, by kernel_rfl, by kernel_rfl⟩
theorem ent99 : EntOk Try.prog 99 Go.Am.Ar.af99 := ⟨Try.f99, Try.func99, by kernel_rfl, by kernel_rfl⟩
theorem ent100 : EntOk Try.prog 100 Go.Am.Ar.af100 := ⟨Try.f100, Try.func100, by kernel_rfl, by kernel_rfl⟩
theorem ent101 : EntOk Try.prog 101 Go.Am.Ar.af101 := ⟨Try.f101, Try.func101, by kernel_rfl, by kernel_rfl⟩
theorem ent102 : EntOk Try.prog 102 Go.Am.Ar.af102 := ⟨Try.f102, Try.func102, by kernel_rfl, by kernel_rfl⟩
theorem ent103 : EntOk Try.prog 103 Go.Am.Ar.af103 := ⟨Try.f103, Try.func103, by kernel_rfl, by kernel_rfl⟩
theorem ent104 : EntOk Try.prog 104 Go.Am.Ar.af104 := ⟨Try.f104, Try.func104, by kernel_rfl, by kernel_rfl⟩
theorem ent105 : EntOk Try.prog 105 Go.Am.Ar.af105 := ⟨Try.f105, Try.func105, by kernel_rfl, by kernel_rfl⟩
theorem ent106 : EntOk Try.prog 106 Go.Am.Ar.af106 := ⟨Try.f106, Try.func106, by kernel_rfl, by kernel_rfl⟩
theorem ent107 : EntOk Try.prog 107 Go.Am.Ar.af107 := ⟨Try.f107, Try.func107, by kernel_rfl, by kernel_rfl⟩
theorem ent108 : EntOk Try.prog 108 Go.Am.Ar.af108 := ⟨Try.f108, Try.func108, by kernel_rfl, by kernel_rfl⟩
theorem ent109 : EntOk Try.prog 109 Go.Am.Ar.af109 := ⟨Try.f109, Try.func109, by kernel_rfl, by kernel_rfl⟩
theorem ent110 : EntOk Try.prog 110 Go.Am.Ar.af110 := ⟨Try.f110, Try.func110, by kernel_rfl, by kernel_rfl⟩
theorem ent111 : EntOk Try.prog 111 Go.Am.Ar.af111 := ⟨Try.f111, Try.func111, by kernel_rfl, by kernel_rfl⟩
theorem ent112 : EntOk Try.prog 112 Go.Am.Ar.af112 := ⟨Try.f112, Try.func112, by kernel_rfl, by kernel_rfl⟩
theorem ent113 : EntOk Try.prog 113 Go.Am.Ar.af113 := ⟨Try.f113, Try.func113, by kernel_rfl, by kernel_rfl⟩
theorem ent114 : EntOk Try.prog 114 Go.Am.Ar.af114 := ⟨Try.f114, Try.func114, by kernel_rfl, by kernel_rfl⟩
theorem ent115 : EntOk Try.prog 115 Go.Am.Ar.af115 := ⟨Try.f115, Try.func115, by kernel_rfl, by kernel_rfl⟩
theorem ent116 : EntOk Try.prog 116 Go.Am.Ar.af116 := ⟨Try.f116, Try.func116, by kernel_rfl, by kernel_rfl⟩
theorem ent117 : EntOk Try.prog 117 Go.Am.Ar.af117 := ⟨Try.f117, Try.func117, by kernel_rfl, by kernel_rfl⟩
theorem ent118 : EntOk Try.prog 118 Go.Am.Ar.af118 := ⟨Try.f118, Try.func118, by kernel_rfl, by kernel_rfl⟩
theorem ent119 : EntOk Try.prog 119 Go.Am.Ar.af119 := ⟨Try.f119, Try.func119, by kernel_rfl, by kernel_rfl⟩
theorem ent120 : EntOk Try.prog 120 Go.Am.Ar.af120 := ⟨Try.f120, Try.func120, by kernel_rfl, by kernel_rfl⟩
theorem ent121 : EntOk Try.prog 121 Go.Am.Ar.af121 := ⟨Try.f121, Try.func121, by kernel_rfl, by kernel_rfl⟩
theorem ent122 : EntOk Try.prog 122 Go.Am.Ar.af122 := ⟨Try.f122, Try.func122, by kernel_rfl, by kernel_rfl⟩
theorem ent123 : EntOk Try.prog 123 Go.Am.Ar.af123 := ⟨Try.f123, Try.func123, by kernel_rfl, by kernel_rfl⟩
def awTree12 : KT := (.node (.node (.node (.node (.node (.node .leaf 12 Go.Am.Ar.af12 .leaf) 18 Go.Am.Ar.af18 (.node .leaf 19 Go.Am.Ar.af19 .leaf)) 20 Go.Am.Ar.af20 (.node (.node .leaf 22 Go.Am.Ar.af22 .leaf) 27 Go.Am.Ar.af27 (.node .leaf 28 Go.Am.Ar.af28 .leaf))) 35 Go.Am.Ar.af35 (.node (.node (.node .leaf 38 Go.Am.Ar.af38 .leaf) 46 Go.Am.Ar.af46 (.node .leaf 47 Go.Am.Ar.af47 .leaf)) 48 Go.Am.Ar.af48 (.node (.node .leaf 49 Go.Am.Ar.af49 .leaf) 50 Go.Am.Ar.af50 (.node .leaf 52 Go.Am.Ar.af52 .leaf)))) 53 Go.Am.Ar.af53 (.node (.node (.node (.node .leaf 54 Go.Am.Ar.af54 .leaf) 55 Go.Am.Ar.af55 (.node .leaf 56 Go.Am.Ar.af56 .leaf)) 57 Go.Am.Ar.af57 (.node (.node .leaf 60 Go.Am.Ar.af60 .leaf) 61 Go.Am.Ar.af61 (.node .leaf 63 Go.Am.Ar.af63 .leaf))) 74 Go.Am.Ar.af74 (.node (.node (.node .leaf 75 Go.Am.Ar.af75 .leaf) 76 Go.Am.Ar.af76 (.node .leaf 77 Go.Am.Ar.af77 .leaf)) 78 Go.Am.Ar.af78 (.node (.node .leaf 80 Go.Am.Ar.af80 .leaf) 81 Go.Am.Ar.af81 (.node .leaf 82 Go.Am.Ar.af82 .leaf))))) 85 Go.Am.Ar.af85 (.node (.node (.node (.node (.node .leaf 88 Go.Am.Ar.af88 .leaf) 89 Go.Am.Ar.af89 (.node .leaf 90 Go.Am.Ar.af90 .leaf)) 91 Go.Am.Ar.af91 (.node (.node .leaf 92 Go.Am.Ar.af92 .leaf) 93 Go.Am.Ar.af93 (.node .leaf 94 Go.Am.Ar.af94 .leaf))) 95 Go.Am.Ar.af95 (.node (.node (.node .leaf 96 Go.Am.Ar.af96 .leaf) 97 Go.Am.Ar.af97 (.node .leaf 98 Go.Am.Ar.af98 .leaf)) 99 Go.Am.Ar.af99 (.node (.node .leaf 100 Go.Am.Ar.af100 .leaf) 101 Go.Am.Ar.af101 (.node .leaf 102 Go.Am.Ar.af102 .leaf)))) 103 Go.Am.Ar.af103 (.node (.node (.node (.node .leaf 107 Go.Am.Ar.af107 .leaf) 108 Go.Am.Ar.af108 (.node .leaf 109 Go.Am.Ar.af109 .leaf)) 110 Go.Am.Ar.af110 (.node (.node .leaf 111 Go.Am.Ar.af111 .leaf) 112 Go.Am.Ar.af112 (.node .leaf 113 Go.Am.Ar.af113 .leaf))) 114 Go.Am.Ar.af114 (.node (.node (.node .leaf 115 Go.Am.Ar.af115 .leaf) 116 Go.Am.Ar.af116 (.node .leaf 117 Go.Am.Ar.af117 .leaf)) 118 Go.Am.Ar.af118 (.node (.node .leaf 121 Go.Am.Ar.af121 .leaf) 122 Go.Am.Ar.af122 (.node .leaf 123 Go.Am.Ar.af123 .leaf))))))
theorem awTree12_ok : awTree12.Ok Try.prog := ⟨ent85, ⟨ent53, ⟨ent35, ⟨ent20, ⟨ent18, ⟨ent12, trivial, trivial⟩, ⟨ent19, trivial, trivial⟩⟩, ⟨ent27, ⟨ent22, trivial, trivial⟩, ⟨ent28, trivial, trivial⟩⟩⟩, ⟨ent48, ⟨ent46, ⟨ent38, trivial, trivial⟩, ⟨ent47, trivial, trivial⟩⟩, ⟨ent50, ⟨ent49, trivial, trivial⟩, ⟨ent52, trivial, trivial⟩⟩⟩⟩, ⟨ent74, ⟨ent57, ⟨ent55, ⟨ent54, trivial, trivial⟩, ⟨ent56, trivial, trivial⟩⟩, ⟨ent61, ⟨ent60, trivial, trivial⟩, ⟨ent63, trivial, trivial⟩⟩⟩, ⟨ent78, ⟨ent76, ⟨ent75, trivial, trivial⟩, ⟨ent77, trivial, trivial⟩⟩, ⟨ent81, ⟨ent80, trivial, trivial⟩, ⟨ent82, trivial, trivial⟩⟩⟩⟩⟩, ⟨ent103, ⟨ent95, ⟨ent91, ⟨ent89, ⟨ent88, trivial, trivial⟩, ⟨ent90, trivial, trivial⟩⟩, ⟨ent93, ⟨ent92, trivial, trivial⟩, ⟨ent94, trivial, trivial⟩⟩⟩, ⟨ent99, ⟨ent97, ⟨ent96, trivial, trivial⟩, ⟨ent98, trivial, trivial⟩⟩, ⟨ent101, ⟨ent100, trivial, trivial⟩, ⟨ent102, trivial, trivial⟩⟩⟩⟩, ⟨ent114, ⟨ent110, ⟨ent108, ⟨ent107, trivial, trivial⟩, ⟨ent109, trivial, trivial⟩⟩, ⟨ent112, ⟨ent111, trivial, trivial⟩, ⟨ent113, trivial, trivial⟩⟩⟩, ⟨ent118, ⟨ent116, ⟨ent115, trivial, trivial⟩, ⟨ent117, trivial, trivial⟩⟩, ⟨ent122, ⟨ent121, trivial, trivial⟩, ⟨ent123, trivial, trivial⟩⟩⟩⟩⟩⟩
set_option maxRecDepth 100000 in
theorem awRuns12 : kif (kclosed awTree12 (nat_lit 5000) (nat_lit 12)) true = true := by kernel_rfl
theorem awPrim12 : PrimOk Try.prog 12 primTrue := prim_true ⟨Try.f12, Try.func12, by kernel_rfl, by kernel_rfl⟩ (fun w => calls_true awTree12_ok (kif_ok awRuns12).1 w)

def tree : KT := (.node (.node (.node (.node (.node (.node (.node .leaf 9 Go.Am.Ar.af9 .leaf) 11 Go.Am.Ar.af11 (.tru .leaf 12 .leaf)) 13 Go.Am.Ar.af13 (.node (.node .leaf 14 Go.Am.Ar.af14 .leaf) 18 Go.Am.Ar.af18 .leaf)) 19 Go.Am.Ar.af19 (.node (.node (.node .leaf 20 Go.Am.Ar.af20 .leaf) 22 Go.Am.Ar.af22 .leaf) 23 Go.Am.Ar.af23 (.node (.node .leaf 27 Go.Am.Ar.af27 .leaf) 28 Go.Am.Ar.af28 .leaf))) 29 Go.Am.Ar.af29 (.node (.node (.node (.node .leaf 30 Go.Am.Ar.af30 .leaf) 32 Go.Am.Ar.af32 (.node .leaf 34 Go.Am.Ar.af34 .leaf)) 35 Go.Am.Ar.af35 (.node (.node .leaf 36 Go.Am.Ar.af36 .leaf) 37 Go.Am.Ar.af37 .leaf)) 38 Go.Am.Ar.af38 (.node (.node (.node .leaf 39 Go.Am.Ar.af39 .leaf) 40 Go.Am.Ar.af40 .leaf) 41 Go.Am.Ar.af41 (.node (.node .leaf 42 Go.Am.Ar.af42 .leaf) 43 Go.Am.Ar.af43 .leaf)))) 44 Go.Am.Ar.af44 (.node (.node (.node (.node (.node .leaf 46 Go.Am.Ar.af46 .leaf) 47 Go.Am.Ar.af47 (.node .leaf 48 Go.Am.Ar.af48 .leaf)) 49 Go.Am.Ar.af49 (.node (.node .leaf 50 Go.Am.Ar.af50 .leaf) 52 Go.Am.Ar.af52 .leaf)) 53 Go.Am.Ar.af53 (.node (.node (.node .leaf 54 Go.Am.Ar.af54 .leaf) 55 Go.Am.Ar.af55 .leaf) 56 Go.Am.Ar.af56 (.node (.node .leaf 57 Go.Am.Ar.af57 .leaf) 58 Go.Am.Ar.af58 .leaf))) 59 Go.Am.Ar.af59 (.node (.node (.node (.node .leaf 60 Go.Am.Ar.af60 .leaf) 61 Go.Am.Ar.af61 (.node .leaf 62 Go.Am.Ar.af62 .leaf)) 63 Go.Am.Ar.af63 (.node (.node .leaf 65 Go.Am.Ar.af65 .leaf) 66 Go.Am.Ar.af66 .leaf)) 67 Go.Am.Ar.af67 (.node (.node (.node .leaf 68 Go.Am.Ar.af68 .leaf) 69 Go.Am.Ar.af69 .leaf) 70 Go.Am.Ar.af70 (.node (.node .leaf 71 Go.Am.Ar.af71 .leaf) 72 Go.Am.Ar.af72 .leaf))))) 73 Go.Am.Ar.af73 (.node (.node (.node (.node (.node (.node .leaf 74 Go.Am.Ar.af74 .leaf) 75 Go.Am.Ar.af75 (.node .leaf 76 Go.Am.Ar.af76 .leaf)) 77 Go.Am.Ar.af77 (.node (.node .leaf 78 Go.Am.Ar.af78 .leaf) 79 Go.Am.Ar.af79 .leaf)) 80 Go.Am.Ar.af80 (.node (.node (.node .leaf 81 Go.Am.Ar.af81 .leaf) 82 Go.Am.Ar.af82 .leaf) 83 Go.Am.Ar.af83 (.node (.node .leaf 84 Go.Am.Ar.af84 .leaf) 85 Go.Am.Ar.af85 .leaf))) 86 Go.Am.Ar.af86 (.node (.node (.node (.node .leaf 87 Go.Am.Ar.af87 .leaf) 88 Go.Am.Ar.af88 (.node .leaf 89 Go.Am.Ar.af89 .leaf)) 90 Go.Am.Ar.af90 (.node (.node .leaf 91 Go.Am.Ar.af91 .leaf) 92 Go.Am.Ar.af92 .leaf)) 93 Go.Am.Ar.af93 (.node (.node (.node .leaf 94 Go.Am.Ar.af94 .leaf) 95 Go.Am.Ar.af95 .leaf) 96 Go.Am.Ar.af96 (.node (.node .leaf 97 Go.Am.Ar.af97 .leaf) 98 Go.Am.Ar.af98 .leaf)))) 99 Go.Am.Ar.af99 (.node (.node (.node (.node (.node .leaf 100 Go.Am.Ar.af100 .leaf) 101 Go.Am.Ar.af101 (.node .leaf 102 Go.Am.Ar.af102 .leaf)) 103 Go.Am.Ar.af103 (.node (.node .leaf 104 Go.Am.Ar.af104 .leaf) 105 Go.Am.Ar.af105 .leaf)) 106 Go.Am.Ar.af106 (.node (.node (.node .leaf 107 Go.Am.Ar.af107 .leaf) 108 Go.Am.Ar.af108 .leaf) 109 Go.Am.Ar.af109 (.node (.node .leaf 110 Go.Am.Ar.af110 .leaf) 111 Go.Am.Ar.af111 .leaf))) 112 Go.Am.Ar.af112 (.node (.node (.node (.node .leaf 113 Go.Am.Ar.af113 .leaf) 114 Go.Am.Ar.af114 .leaf) 115 Go.Am.Ar.af115 (.node (.node .leaf 116 Go.Am.Ar.af116 .leaf) 117 Go.Am.Ar.af117 .leaf)) 118 Go.Am.Ar.af118 (.node (.node (.node .leaf 119 Go.Am.Ar.af119 .leaf) 120 Go.Am.Ar.af120 .leaf) 121 Go.Am.Ar.af121 (.node (.node .leaf 122 Go.Am.Ar.af122 .leaf) 123 Go.Am.Ar.af123 .leaf))))))
theorem tree_ok : tree.Ok Try.prog := ⟨ent73, ⟨ent44, ⟨ent29, ⟨ent19, ⟨ent13, ⟨ent11, ⟨ent9, trivial, trivial⟩, ⟨awPrim12, trivial, trivial⟩⟩, ⟨ent18, ⟨ent14, trivial, trivial⟩, trivial⟩⟩, ⟨ent23, ⟨ent22, ⟨ent20, trivial, trivial⟩, trivial⟩, ⟨ent28, ⟨ent27, trivial, trivial⟩, trivial⟩⟩⟩, ⟨ent38, ⟨ent35, ⟨ent32, ⟨ent30, trivial, trivial⟩, ⟨ent34, trivial, trivial⟩⟩, ⟨ent37, ⟨ent36, trivial, trivial⟩, trivial⟩⟩, ⟨ent41, ⟨ent40, ⟨ent39, trivial, trivial⟩, trivial⟩, ⟨ent43, ⟨ent42, trivial, trivial⟩, trivial⟩⟩⟩⟩, ⟨ent59, ⟨ent53, ⟨ent49, ⟨ent47, ⟨ent46, trivial, trivial⟩, ⟨ent48, trivial, trivial⟩⟩, ⟨ent52, ⟨ent50, trivial, trivial⟩, trivial⟩⟩, ⟨ent56, ⟨ent55, ⟨ent54, trivial, trivial⟩, trivial⟩, ⟨ent58, ⟨ent57, trivial, trivial⟩, trivial⟩⟩⟩, ⟨ent67, ⟨ent63, ⟨ent61, ⟨ent60, trivial, trivial⟩, ⟨ent62, trivial, trivial⟩⟩, ⟨ent66, ⟨ent65, trivial, trivial⟩, trivial⟩⟩, ⟨ent70, ⟨ent69, ⟨ent68, trivial, trivial⟩, trivial⟩, ⟨ent72, ⟨ent71, trivial, trivial⟩, trivial⟩⟩⟩⟩⟩, ⟨ent99, ⟨ent86, ⟨ent80, ⟨ent77, ⟨ent75, ⟨ent74, trivial, trivial⟩, ⟨ent76, trivial, trivial⟩⟩, ⟨ent79, ⟨ent78, trivial, trivial⟩, trivial⟩⟩, ⟨ent83, ⟨ent82, ⟨ent81, trivial, trivial⟩, trivial⟩, ⟨ent85, ⟨ent84, trivial, trivial⟩, trivial⟩⟩⟩, ⟨ent93, ⟨ent90, ⟨ent88, ⟨ent87, trivial, trivial⟩, ⟨ent89, trivial, trivial⟩⟩, ⟨ent92, ⟨ent91, trivial, trivial⟩, trivial⟩⟩, ⟨ent96, ⟨ent95, ⟨ent94, trivial, trivial⟩, trivial⟩, ⟨ent98, ⟨ent97, trivial, trivial⟩, trivial⟩⟩⟩⟩, ⟨ent112, ⟨ent106, ⟨ent103, ⟨ent101, ⟨ent100, trivial, trivial⟩, ⟨ent102, trivial, trivial⟩⟩, ⟨ent105, ⟨ent104, trivial, trivial⟩, trivial⟩⟩, ⟨ent109, ⟨ent108, ⟨ent107, trivial, trivial⟩, trivial⟩, ⟨ent111, ⟨ent110, trivial, trivial⟩, trivial⟩⟩⟩, ⟨ent118, ⟨ent115, ⟨ent114, ⟨ent113, trivial, trivial⟩, trivial⟩, ⟨ent117, ⟨ent116, trivial, trivial⟩, trivial⟩⟩, ⟨ent121, ⟨ent120, ⟨ent119, trivial, trivial⟩, trivial⟩, ⟨ent123, ⟨ent122, trivial, trivial⟩, trivial⟩⟩⟩⟩⟩⟩
theorem has : Go.Am.Ar.HasA tree.find := ⟨by constructor <;> kernel_rfl, by kernel_rfl⟩
end Go.Proofs.Ytfapjojfiaiidaa.SimulateExamplesTab
