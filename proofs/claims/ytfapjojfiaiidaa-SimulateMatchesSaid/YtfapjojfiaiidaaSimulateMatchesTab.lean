/- The table of the functions that the laws reach; the examples that every law evaluates are run by the kernel. -/
import Derived.Test.YtfapjojfiaiidaaRows
import Derived.Test.YtfapjojfiaiidaaAmKEnd
import Derived.Test.YtfapjojfiaiidaaMzFacts
import Derived.Test.YtfapjojfiaiidaaSimulateMatchesCode
set_option linter.unusedVariables false
namespace Go.Proofs.Ytfapjojfiaiidaa.SimulateMatchesTab
open Go.Am
theorem ent12 : EntOk Try.prog 12 Go.Am.Ar.af12 := ⟨Try.f12, Try.func12, by kernel_rfl, by kernel_rfl⟩
theorem ent3 : EntOk Try.prog 3 Go.Am.Ar.af3 := ⟨Try.f3, Try.func3, by kernel_rfl, by kernel_rfl⟩
theorem ent11 : EntOk Try.prog 11 Go.Am.Ar.af11 := ⟨Try.f11, Try.func11, by kernel_rfl, by kernel_rfl⟩
theorem ent13 : EntOk Try.prog 13 Go.Am.Ar.af13 := ⟨Try.f13, Try.func13, by kernel_rfl, by kernel_rfl⟩
theorem ent14 : EntOk Try.prog 14 Go.Am.Ar.af14 := ⟨Try.f14, Try.func14, by kernel_rfl, by kernel_rfl⟩
theorem ent15 : EntOk Try.prog 15 Go.Am.Ar.af15 := ⟨Try.f15, Try.func15, by kernel_rfl, by kernel_rfl⟩
theorem ent16 : EntOk Try.prog 16 Go.Am.Ar.af16 := ⟨Try.f16, Try.func16, by kernel_rfl, by kernel_rfl⟩
theorem ent17 : EntOk Try.prog 17 Go.Am.Ar.af17 := ⟨Try.f17, Try.func17, by kernel_rfl, by kernel_rfl⟩
theorem ent18 : EntOk Try.prog 18 Go.Am.Ar.af18 := ⟨Try.f18, Try.func18, by kernel_rfl, by kernel_rfl⟩
theorem ent19 : EntOk Try.prog 19 Go.Am.Ar.af19 := ⟨Try.f19, Try.func19, by kernel_rfl, by kernel_rfl⟩
theorem ent20 : EntOk Try.prog 20 Go.Am.Ar.af20 := ⟨Try.f20, Try.func20, by kernel_rfl, by kernel_rfl⟩
theorem ent21 : EntOk Try.prog 21 Go.Am.Ar.af21 := ⟨Try.f21, Try.func21, by kernel_rfl, by kernel_rfl⟩
theorem ent22 : EntOk Try.prog 22 Go.Am.Ar.af22 := ⟨Try.f22, Try.func22, by kernel_rfl, by kernel_rfl⟩
theorem ent23 : EntOk Try.prog 23 Go.Am.Ar.af23 := ⟨Try.f23, Try.func23, by kernel_rfl, by kernel_rfl⟩
theorem ent24 : EntOk Try.prog 24 Go.Am.Ar.af24 := ⟨Try.f24, Try.func24, by kernel_rfl, by kernel_rfl⟩
theorem ent25 : EntOk Try.prog 25 Go.Am.Ar.af25 := ⟨Try.f25, Try.func25, by kernel_rfl, by kernel_rfl⟩
theorem ent26 : EntOk Try.prog 26 Go.Am.Ar.af26 := ⟨Try.f26, Try.func26, by kernel_rfl, by kernel_rfl⟩
theorem ent27 : EntOk Try.prog 27 Go.Am.Ar.af27 := ⟨Try.f27, Try.func27, by kernel_rfl, by kernel_rfl⟩
theorem ent28 : EntOk Try.prog 28 Go.Am.Ar.af28 := ⟨Try.f28, Try.func28, by kernel_rfl, by kernel_rfl⟩
theorem ent29 : EntOk Try.prog 29 Go.Am.Ar.af29 := ⟨Try.f29, Try.func29, by kernel_rfl, by kernel_rfl⟩
theorem ent32 : EntOk Try.prog 32 Go.Am.Ar.af32 := ⟨Try.f32, Try.func32, by kernel_rfl, by kernel_rfl⟩
theorem ent35 : EntOk Try.prog 35 Go.Am.Ar.af35 := ⟨Try.f35, Try.func35, by kernel_rfl, by kernel_rfl⟩
theorem ent37 : EntOk Try.prog 37 Go.Am.Ar.af37 := ⟨Try.f37, Try.func37, by kernel_rfl, by kernel_rfl⟩
theorem ent38 : EntOk Try.prog 38 Go.Am.Ar.af38 := ⟨Try.f38, Try.func38, by kernel_rfl, by kernel_rfl⟩
theorem ent39 : EntOk Try.prog 39 Go.Am.Ar.af39 := ⟨Try.f39, Try.func39, by kernel_rfl, by kernel_rfl⟩
theorem ent40 : EntOk Try.prog 40 Go.Am.Ar.af40 := ⟨Try.f40, Try.func40, by kernel_rfl, by kernel_rfl⟩
theorem ent41 : EntOk Try.prog 41 Go.Am.Ar.af41 := ⟨Try.f41, Try.func41, by kernel_rfl, by kernel_rfl⟩
theorem ent42 : EntOk Try.prog 42 Go.Am.Ar.af42 := ⟨Try.f42, Try.func42, by kernel_rfl, by kernel_rfl⟩
theorem ent43 : EntOk Try.prog 43 Go.Am.Ar.af43 := ⟨Try.f43, Try.func43, by kernel_rfl, by kernel_rfl⟩
theorem ent44 : EntOk Try.prog 44 Go.Am.Ar.af44 := ⟨Try.f44, Try.func44, by kernel_rfl, by kernel_rfl⟩
theorem ent45 : EntOk Try.prog 45 Go.Am.Ar.af45 := ⟨Try.f45, Try.func45, by kernel_rfl, by kernel_rfl⟩
theorem ent46 : EntOk Try.prog 46 Go.Am.Ar.af46 := ⟨Try.f46, Try.func46, by kernel_rfl, by kernel_rfl⟩
theorem ent47 : EntOk Try.prog 47 Go.Am.Ar.af47 := ⟨Try.f47, Try.func47, by kernel_rfl, by kernel_rfl⟩
theorem ent48 : EntOk Try.prog 48 Go.Am.Ar.af48 := ⟨Try.f48, Try.func48, by kernel_rfl, by kernel_rfl⟩
theorem ent49 : EntOk Try.prog 49 Go.Am.Ar.af49 := ⟨Try.f49, Try.func49, by kernel_rfl, by kernel_rfl⟩
theorem ent50 : EntOk Try.prog 50 Go.Am.Ar.af50 := ⟨Try.f50, Try.func50, by kernel_rfl, by kernel_rfl⟩
theorem ent51 : EntOk Try.prog 51 Go.Am.Ar.af51 := ⟨Try.f51, Try.func51, by kernel_rfl, by kernel_rfl⟩
theorem ent52 : EntOk Try.prog 52 Go.Am.Ar.af52 := ⟨Try.f52, Try.func52, by kernel_rfl, by kernel_rfl⟩
theorem ent53 : EntOk Try.prog 53 Go.Am.Ar.af53 := ⟨Try.f53, Try.func53, by kernel_rfl, by kernel_rfl⟩
theorem ent54 : EntOk Try.prog 54 Go.Am.Ar.af54 := ⟨Try.f54, Try.func54, by kernel_rfl, by kernel_rfl⟩
theorem ent55 : EntOk Try.prog 55 Go.Am.Ar.af55 := ⟨Try.f55, Try.func55, by kernel_rfl, by kernel_rfl⟩
theorem ent56 : EntOk Try.prog 56 Go.Am.Ar.af56 := ⟨Try.f56, Try.func56, by kernel_rfl, by kernel_rfl⟩
theorem ent57 : EntOk Try.prog 57 Go.Am.Ar.af57 := ⟨Try.f57, Try.func57, by kernel_rfl, by kernel_rfl⟩
theorem ent58 : EntOk Try.prog 58 Go.Am.Ar.af58 := ⟨Try.f58, Try.func58, by kernel_rfl, by kernel_rfl⟩
theorem ent59 : EntOk Try.prog 59 Go.Am.Ar.af59 := ⟨Try.f59, Try.func59, by kernel_rfl, by kernel_rfl⟩
theorem ent60 : EntOk Try.prog 60 Go.Am.Ar.af60 := ⟨Try.f60, Try.func60, by kernel_rfl, by kernel_rfl⟩
theorem ent61 : EntOk Try.prog 61 Go.Am.Ar.af61 := ⟨Try.f61, Try.func61, by kernel_rfl, by kernel_rfl⟩
theorem ent63 : EntOk Try.prog 63 Go.Am.Ar.af63 := ⟨Try.f63, Try.func63, by kernel_rfl, by kernel_rfl⟩
theorem ent68 : EntOk Try.prog 68 Go.Am.Ar.af68 := ⟨Try.f68, Try.func68, by kernel_rfl, by kernel_rfl⟩
theorem ent70 : EntOk Try.prog 70 Go.Am.Ar.af70 := ⟨Try.f70, Try.func70, by kernel_rfl, by kernel_rfl⟩
theorem ent71 : EntOk Try.prog 71 Go.Am.Ar.af71 := ⟨Try.f71, Try.func71, by kernel_rfl, by kernel_rfl⟩
theorem ent72 : EntOk Try.prog 72 Go.Am.Ar.af72 := ⟨Try.f72, Try.func72, by kernel_rfl, by kernel_rfl⟩
theorem ent73 : EntOk Try.prog 73 Go.Am.Ar.af73 := ⟨Try.f73, Try.func73, by kernel_rfl, by kernel_rfl⟩
theorem ent74 : EntOk Try.prog 74 Go.Am.Ar.af74 := ⟨Try.f74, Try.func74, by kernel_rfl, by kernel_rfl⟩
theorem ent75 : EntOk Try.prog 75 Go.Am.Ar.af75 := ⟨Try.f75, Try.func75, by kernel_rfl, by kernel_rfl⟩
theorem ent76 : EntOk Try.prog 76 Go.Am.Ar.af76 := ⟨Try.f76, Try.func76, by kernel_rfl, by kernel_rfl⟩
theorem ent77 : EntOk Try.prog 77 Go.Am.Ar.af77 := ⟨Try.f77, Try.func77, by kernel_rfl, by kernel_rfl⟩
theorem ent78 : EntOk Try.prog 78 Go.Am.Ar.af78 := ⟨Try.f78, Try.func78, by kernel_rfl, by kernel_rfl⟩
theorem ent79 : EntOk Try.prog 79 Go.Am.Ar.af79 := ⟨Try.f79, Try.func79, by kernel_rfl, by kernel_rfl⟩
theorem ent80 : EntOk Try.prog 80 Go.Am.Ar.af80 := ⟨Try.f80, Try.func80, by kernel_rfl, by kernel_rfl⟩
theorem ent81 : EntOk Try.prog 81 Go.Am.Ar.af81 := ⟨Try.f81, Try.func81, by kernel_rfl, by kernel_rfl⟩
theorem ent82 : EntOk Try.prog 82 Go.Am.Ar.af82 := ⟨Try.f82, Try.func82, by kernel_rfl, by kernel_rfl⟩
theorem ent85 : EntOk Try.prog 85 Go.Am.Ar.af85 := ⟨Try.f85, Try.func85, by kernel_rfl, by kernel_rfl⟩
theorem ent87 : EntOk Try.prog 87 Go.Am.Ar.af87 := ⟨Try.f87, Try.func87, by kernel_rfl, by kernel_rfl⟩
theorem ent88 : EntOk Try.prog 88 Go.Am.Ar.af88 := ⟨Try.f88, Try.func88, by kernel_rfl, by kernel_rfl⟩
theorem ent89 : EntOk Try.prog 89 Go.Am.Ar.af89 := ⟨Try.f89, Try.func89, by kernel_rfl, by kernel_rfl⟩
theorem ent95 : EntOk Try.prog 95 Go.Am.Ar.af95 := ⟨Try.f95, Try.func95, by kernel_rfl, by kernel_rfl⟩
theorem ent99 : EntOk Try.prog 99 Go.Am.Ar.af99 := ⟨Try.f99, Try.func99, by kernel_rfl, by kernel_rfl⟩
theorem ent100 : EntOk Try.prog 100 Go.Am.Ar.af100 := ⟨Try.f100, Try.func100, by kernel_rfl, by kernel_rfl⟩
theorem ent101 : EntOk Try.prog 101 Go.Am.Ar.af101 := ⟨Try.f101, Try.func101, by kernel_rfl, by kernel_rfl⟩
theorem ent102 : EntOk Try.prog 102 Go.Am.Ar.af102 := ⟨Try.f102, Try.func102, by kernel_rfl, by kernel_rfl⟩
theorem ent103 : EntOk Try.prog 103 Go.Am.Ar.af103 := ⟨Try.f103, Try.func103, by kernel_rfl, by kernel_rfl⟩
theorem ent107 : EntOk Try.prog 107 Go.Am.Ar.af107 := ⟨Try.f107, Try.func107, by kernel_rfl, by kernel_rfl⟩
theorem ent108 : EntOk Try.prog 108 Go.Am.Ar.af108 := ⟨Try.f108, Try.func108, by kernel_rfl, by kernel_rfl⟩
theorem ent110 : EntOk Try.prog 110 Go.Am.Ar.af110 := ⟨Try.f110, Try.func110, by kernel_rfl, by kernel_rfl⟩
theorem ent116 : EntOk Try.prog 116 Go.Am.Ar.af116 := ⟨Try.f116, Try.func116, by kernel_rfl, by kernel_rfl⟩
theorem ent117 : EntOk Try.prog 117 Go.Am.Ar.af117 := ⟨Try.f117, Try.func117, by kernel_rfl, by kernel_rfl⟩
theorem ent118 : EntOk Try.prog 118 Go.Am.Ar.af118 := ⟨Try.f118, Try.func118, by kernel_rfl, by kernel_rfl⟩
theorem ent121 : EntOk Try.prog 121 Go.Am.Ar.af121 := ⟨Try.f121, Try.func121, by kernel_rfl, by kernel_rfl⟩
theorem ent122 : EntOk Try.prog 122 Go.Am.Ar.af122 := ⟨Try.f122, Try.func122, by kernel_rfl, by kernel_rfl⟩
def awTree12 : KT := (.node (.node (.node (.node (.node (.node .leaf 12 Go.Am.Ar.af12 .leaf) 18 Go.Am.Ar.af18 (.node .leaf 19 Go.Am.Ar.af19 .leaf)) 20 Go.Am.Ar.af20 (.node (.node .leaf 22 Go.Am.Ar.af22 .leaf) 27 Go.Am.Ar.af27 .leaf)) 28 Go.Am.Ar.af28 (.node (.node (.node .leaf 35 Go.Am.Ar.af35 .leaf) 38 Go.Am.Ar.af38 .leaf) 46 Go.Am.Ar.af46 (.node (.node .leaf 47 Go.Am.Ar.af47 .leaf) 48 Go.Am.Ar.af48 .leaf))) 49 Go.Am.Ar.af49 (.node (.node (.node (.node .leaf 50 Go.Am.Ar.af50 .leaf) 52 Go.Am.Ar.af52 .leaf) 53 Go.Am.Ar.af53 (.node (.node .leaf 54 Go.Am.Ar.af54 .leaf) 55 Go.Am.Ar.af55 .leaf)) 56 Go.Am.Ar.af56 (.node (.node (.node .leaf 57 Go.Am.Ar.af57 .leaf) 60 Go.Am.Ar.af60 .leaf) 61 Go.Am.Ar.af61 (.node (.node .leaf 63 Go.Am.Ar.af63 .leaf) 74 Go.Am.Ar.af74 .leaf)))) 75 Go.Am.Ar.af75 (.node (.node (.node (.node (.node .leaf 76 Go.Am.Ar.af76 .leaf) 77 Go.Am.Ar.af77 .leaf) 78 Go.Am.Ar.af78 (.node (.node .leaf 80 Go.Am.Ar.af80 .leaf) 81 Go.Am.Ar.af81 .leaf)) 82 Go.Am.Ar.af82 (.node (.node (.node .leaf 85 Go.Am.Ar.af85 .leaf) 88 Go.Am.Ar.af88 .leaf) 89 Go.Am.Ar.af89 (.node (.node .leaf 95 Go.Am.Ar.af95 .leaf) 99 Go.Am.Ar.af99 .leaf))) 100 Go.Am.Ar.af100 (.node (.node (.node (.node .leaf 101 Go.Am.Ar.af101 .leaf) 102 Go.Am.Ar.af102 .leaf) 103 Go.Am.Ar.af103 (.node (.node .leaf 107 Go.Am.Ar.af107 .leaf) 108 Go.Am.Ar.af108 .leaf)) 110 Go.Am.Ar.af110 (.node (.node (.node .leaf 116 Go.Am.Ar.af116 .leaf) 117 Go.Am.Ar.af117 .leaf) 118 Go.Am.Ar.af118 (.node (.node .leaf 121 Go.Am.Ar.af121 .leaf) 122 Go.Am.Ar.af122 .leaf)))))
theorem awTree12_ok : awTree12.Ok Try.prog := ⟨ent75, ⟨ent49, ⟨ent28, ⟨ent20, ⟨ent18, ⟨ent12, trivial, trivial⟩, ⟨ent19, trivial, trivial⟩⟩, ⟨ent27, ⟨ent22, trivial, trivial⟩, trivial⟩⟩, ⟨ent46, ⟨ent38, ⟨ent35, trivial, trivial⟩, trivial⟩, ⟨ent48, ⟨ent47, trivial, trivial⟩, trivial⟩⟩⟩, ⟨ent56, ⟨ent53, ⟨ent52, ⟨ent50, trivial, trivial⟩, trivial⟩, ⟨ent55, ⟨ent54, trivial, trivial⟩, trivial⟩⟩, ⟨ent61, ⟨ent60, ⟨ent57, trivial, trivial⟩, trivial⟩, ⟨ent74, ⟨ent63, trivial, trivial⟩, trivial⟩⟩⟩⟩, ⟨ent100, ⟨ent82, ⟨ent78, ⟨ent77, ⟨ent76, trivial, trivial⟩, trivial⟩, ⟨ent81, ⟨ent80, trivial, trivial⟩, trivial⟩⟩, ⟨ent89, ⟨ent88, ⟨ent85, trivial, trivial⟩, trivial⟩, ⟨ent99, ⟨ent95, trivial, trivial⟩, trivial⟩⟩⟩, ⟨ent110, ⟨ent103, ⟨ent102, ⟨ent101, trivial, trivial⟩, trivial⟩, ⟨ent108, ⟨ent107, trivial, trivial⟩, trivial⟩⟩, ⟨ent118, ⟨ent117, ⟨ent116, trivial, trivial⟩, trivial⟩, ⟨ent122, ⟨ent121, trivial, trivial⟩, trivial⟩⟩⟩⟩⟩
set_option maxRecDepth 100000 in
theorem awRuns12 : kif (kclosed awTree12 (nat_lit 5000) (nat_lit 12)) true = true := by kernel_rfl
theorem awPrim12 : PrimOk Try.prog 12 primTrue := prim_true ⟨Try.f12, Try.func12, by kernel_rfl, by kernel_rfl⟩ (fun w => calls_true awTree12_ok (kif_ok awRuns12).1 w)

def tree : KT := (.node (.node (.node (.node (.tru (.node (.node .leaf 3 Go.Am.Ar.af3 .leaf) 11 Go.Am.Ar.af11 .leaf) 12 (.node (.node .leaf 13 Go.Am.Ar.af13 .leaf) 14 Go.Am.Ar.af14 .leaf)) 15 Go.Am.Ar.af15 (.node (.node (.node .leaf 16 Go.Am.Ar.af16 .leaf) 17 Go.Am.Ar.af17 .leaf) 18 Go.Am.Ar.af18 (.node .leaf 19 Go.Am.Ar.af19 .leaf))) 20 Go.Am.Ar.af20 (.node (.node (.node (.node .leaf 21 Go.Am.Ar.af21 .leaf) 22 Go.Am.Ar.af22 .leaf) 23 Go.Am.Ar.af23 (.node .leaf 24 Go.Am.Ar.af24 .leaf)) 25 Go.Am.Ar.af25 (.node (.node (.node .leaf 26 Go.Am.Ar.af26 .leaf) 27 Go.Am.Ar.af27 .leaf) 28 Go.Am.Ar.af28 (.node .leaf 29 Go.Am.Ar.af29 .leaf)))) 32 Go.Am.Ar.af32 (.node (.node (.node (.node (.node .leaf 35 Go.Am.Ar.af35 .leaf) 37 Go.Am.Ar.af37 .leaf) 38 Go.Am.Ar.af38 (.node .leaf 39 Go.Am.Ar.af39 .leaf)) 40 Go.Am.Ar.af40 (.node (.node (.node .leaf 41 Go.Am.Ar.af41 .leaf) 42 Go.Am.Ar.af42 .leaf) 43 Go.Am.Ar.af43 (.node .leaf 44 Go.Am.Ar.af44 .leaf))) 45 Go.Am.Ar.af45 (.node (.node (.node (.node .leaf 46 Go.Am.Ar.af46 .leaf) 47 Go.Am.Ar.af47 .leaf) 48 Go.Am.Ar.af48 (.node .leaf 49 Go.Am.Ar.af49 .leaf)) 50 Go.Am.Ar.af50 (.node (.node (.node .leaf 51 Go.Am.Ar.af51 .leaf) 52 Go.Am.Ar.af52 .leaf) 53 Go.Am.Ar.af53 (.node .leaf 54 Go.Am.Ar.af54 .leaf))))) 55 Go.Am.Ar.af55 (.node (.node (.node (.node (.node (.node .leaf 56 Go.Am.Ar.af56 .leaf) 57 Go.Am.Ar.af57 .leaf) 58 Go.Am.Ar.af58 (.node .leaf 59 Go.Am.Ar.af59 .leaf)) 60 Go.Am.Ar.af60 (.node (.node (.node .leaf 61 Go.Am.Ar.af61 .leaf) 63 Go.Am.Ar.af63 .leaf) 68 Go.Am.Ar.af68 (.node .leaf 70 Go.Am.Ar.af70 .leaf))) 71 Go.Am.Ar.af71 (.node (.node (.node (.node .leaf 72 Go.Am.Ar.af72 .leaf) 73 Go.Am.Ar.af73 .leaf) 74 Go.Am.Ar.af74 (.node .leaf 75 Go.Am.Ar.af75 .leaf)) 76 Go.Am.Ar.af76 (.node (.node (.node .leaf 77 Go.Am.Ar.af77 .leaf) 78 Go.Am.Ar.af78 .leaf) 79 Go.Am.Ar.af79 (.node .leaf 80 Go.Am.Ar.af80 .leaf)))) 81 Go.Am.Ar.af81 (.node (.node (.node (.node (.node .leaf 82 Go.Am.Ar.af82 .leaf) 85 Go.Am.Ar.af85 .leaf) 87 Go.Am.Ar.af87 (.node .leaf 88 Go.Am.Ar.af88 .leaf)) 89 Go.Am.Ar.af89 (.node (.node (.node .leaf 95 Go.Am.Ar.af95 .leaf) 99 Go.Am.Ar.af99 .leaf) 100 Go.Am.Ar.af100 (.node .leaf 101 Go.Am.Ar.af101 .leaf))) 102 Go.Am.Ar.af102 (.node (.node (.node (.node .leaf 103 Go.Am.Ar.af103 .leaf) 107 Go.Am.Ar.af107 .leaf) 108 Go.Am.Ar.af108 (.node .leaf 110 Go.Am.Ar.af110 .leaf)) 116 Go.Am.Ar.af116 (.node (.node (.node .leaf 117 Go.Am.Ar.af117 .leaf) 118 Go.Am.Ar.af118 .leaf) 121 Go.Am.Ar.af121 (.node .leaf 122 Go.Am.Ar.af122 .leaf))))))
theorem tree_ok : tree.Ok Try.prog := ⟨ent55, ⟨ent32, ⟨ent20, ⟨ent15, ⟨awPrim12, ⟨ent11, ⟨ent3, trivial, trivial⟩, trivial⟩, ⟨ent14, ⟨ent13, trivial, trivial⟩, trivial⟩⟩, ⟨ent18, ⟨ent17, ⟨ent16, trivial, trivial⟩, trivial⟩, ⟨ent19, trivial, trivial⟩⟩⟩, ⟨ent25, ⟨ent23, ⟨ent22, ⟨ent21, trivial, trivial⟩, trivial⟩, ⟨ent24, trivial, trivial⟩⟩, ⟨ent28, ⟨ent27, ⟨ent26, trivial, trivial⟩, trivial⟩, ⟨ent29, trivial, trivial⟩⟩⟩⟩, ⟨ent45, ⟨ent40, ⟨ent38, ⟨ent37, ⟨ent35, trivial, trivial⟩, trivial⟩, ⟨ent39, trivial, trivial⟩⟩, ⟨ent43, ⟨ent42, ⟨ent41, trivial, trivial⟩, trivial⟩, ⟨ent44, trivial, trivial⟩⟩⟩, ⟨ent50, ⟨ent48, ⟨ent47, ⟨ent46, trivial, trivial⟩, trivial⟩, ⟨ent49, trivial, trivial⟩⟩, ⟨ent53, ⟨ent52, ⟨ent51, trivial, trivial⟩, trivial⟩, ⟨ent54, trivial, trivial⟩⟩⟩⟩⟩, ⟨ent81, ⟨ent71, ⟨ent60, ⟨ent58, ⟨ent57, ⟨ent56, trivial, trivial⟩, trivial⟩, ⟨ent59, trivial, trivial⟩⟩, ⟨ent68, ⟨ent63, ⟨ent61, trivial, trivial⟩, trivial⟩, ⟨ent70, trivial, trivial⟩⟩⟩, ⟨ent76, ⟨ent74, ⟨ent73, ⟨ent72, trivial, trivial⟩, trivial⟩, ⟨ent75, trivial, trivial⟩⟩, ⟨ent79, ⟨ent78, ⟨ent77, trivial, trivial⟩, trivial⟩, ⟨ent80, trivial, trivial⟩⟩⟩⟩, ⟨ent102, ⟨ent89, ⟨ent87, ⟨ent85, ⟨ent82, trivial, trivial⟩, trivial⟩, ⟨ent88, trivial, trivial⟩⟩, ⟨ent100, ⟨ent99, ⟨ent95, trivial, trivial⟩, trivial⟩, ⟨ent101, trivial, trivial⟩⟩⟩, ⟨ent116, ⟨ent108, ⟨ent107, ⟨ent103, trivial, trivial⟩, trivial⟩, ⟨ent110, trivial, trivial⟩⟩, ⟨ent121, ⟨ent118, ⟨ent117, trivial, trivial⟩, trivial⟩, ⟨ent122, trivial, trivial⟩⟩⟩⟩⟩⟩
theorem has : Go.Am.Ar.HasA tree.find := ⟨by constructor <;> kernel_rfl, by kernel_rfl⟩
end Go.Proofs.Ytfapjojfiaiidaa.SimulateMatchesTab
