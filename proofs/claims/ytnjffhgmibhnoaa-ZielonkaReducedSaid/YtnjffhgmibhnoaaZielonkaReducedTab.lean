/- The table of the functions that the laws reach; the examples that every law evaluates are run by the kernel. -/
import Derived.Test.YtnjffhgmibhnoaaRows
import Derived.Test.YtnjffhgmibhnoaaAmKEnd
import Derived.Test.YtnjffhgmibhnoaaMzFacts
import Derived.Test.YtnjffhgmibhnoaaZielonkaReducedCode
set_option linter.unusedVariables false
namespace Go.Proofs.Ytnjffhgmibhnoaa.ZielonkaReducedTab
open Go.Am
theorem ent5 : EntOk Try.prog 5 Go.Am.Ar.af5 := ⟨Try.f5, Try.func5, by kernel_rfl, by kernel_rfl⟩
theorem ent3 : EntOk Try.prog 3 Go.Am.Ar.af3 := ⟨Try.f3, Try.func3, by kernel_rfl, by kernel_rfl⟩
theorem ent4 : EntOk Try.prog 4 Go.Am.Ar.af4 := ⟨Try.f4, Try.func4, by kernel_rfl, by kernel_rfl⟩
theorem ent6 : EntOk Try.prog 6 Go.Am.Ar.af6 := ⟨Try.f6, Try.func6, by kernel_rfl, by kernel_rfl⟩
theorem ent7 : EntOk Try.prog 7 Go.Am.Ar.af7 := ⟨Try.f7, Try.func7, by kernel_rfl, by kernel_rfl⟩
theorem ent8 : EntOk Try.prog 8 Go.Am.Ar.af8 := ⟨Try.f8, Try.func8, by kernel_rfl, by kernel_rfl⟩
theorem ent9 : EntOk Try.prog 9 Go.Am.Ar.af9 := ⟨Try.f9, Try.func9, by kernel_rfl, by kernel_rfl⟩
theorem ent10 : EntOk Try.prog 10 Go.Am.Ar.af10 := ⟨Try.f10, Try.func10, by kernel_rfl, by kernel_rfl⟩
theorem ent11 : EntOk Try.prog 11 Go.Am.Ar.af11 := ⟨Try.f11, Try.func11, by kernel_rfl, by kernel_rfl⟩
theorem ent12 : EntOk Try.prog 12 Go.Am.Ar.af12 := ⟨Try.f12, Try.func12, by kernel_rfl, by kernel_rfl⟩
theorem ent13 : EntOk Try.prog 13 Go.Am.Ar.af13 := ⟨Try.f13, Try.func13, by kernel_rfl, by kernel_rfl⟩
theorem ent14 : EntOk Try.prog 14 Go.Am.Ar.af14 := ⟨Try.f14, Try.func14, by kernel_rfl, by kernel_rfl⟩
theorem ent15 : EntOk Try.prog 15 Go.Am.Ar.af15 := ⟨Try.f15, Try.func15, by kernel_rfl, by kernel_rfl⟩
theorem ent16 : EntOk Try.prog 16 Go.Am.Ar.af16 := ⟨Try.f16, Try.func16, by kernel_rfl, by kernel_rfl⟩
theorem ent17 : EntOk Try.prog 17 Go.Am.Ar.af17 := ⟨Try.f17, Try.func17, by kernel_rfl, by kernel_rfl⟩
theorem ent18 : EntOk Try.prog 18 Go.Am.Ar.af18 := ⟨Try.f18, Try.func18, by kernel_rfl, by kernel_rfl⟩
theorem ent19 : EntOk Try.prog 19 Go.Am.Ar.af19 := ⟨Try.f19, Try.func19, by kernel_rfl, by kernel_rfl⟩
theorem ent20 : EntOk Try.prog 20 Go.Am.Ar.af20 := ⟨Try.f20, Try.func20, by kernel_rfl, by kernel_rfl⟩
theorem ent21 : EntOk Try.prog 21 Go.Am.Ar.af21 := ⟨Try.f21, Try.func21, by kernel_rfl, by kernel_rfl⟩
theorem ent22 : EntOk Try.prog 22 Go.Am.Ar.af22 := ⟨Try.f22, Try.func22, by kernel_rfl, by kernel_rfl⟩
theorem ent23 : EntOk Try.prog 23 Go.Am.Ar.af23 := ⟨Try.f23, Try.func23, by kernel_rfl, by kernel_rfl⟩
theorem ent24 : EntOk Try.prog 24 Go.Am.Ar.af24 := ⟨Try.f24, Try.func24, by kernel_rfl, by kernel_rfl⟩
theorem ent25 : EntOk Try.prog 25 Go.Am.Ar.af25 := ⟨Try.f25, Try.func25, by kernel_rfl, by kernel_rfl⟩
theorem ent26 : EntOk Try.prog 26 Go.Am.Ar.af26 := ⟨Try.f26, Try.func26, by kernel_rfl, by kernel_rfl⟩
theorem ent27 : EntOk Try.prog 27 Go.Am.Ar.af27 := ⟨Try.f27, Try.func27, by kernel_rfl, by kernel_rfl⟩
theorem ent28 : EntOk Try.prog 28 Go.Am.Ar.af28 := ⟨Try.f28, Try.func28, by kernel_rfl, by kernel_rfl⟩
theorem ent29 : EntOk Try.prog 29 Go.Am.Ar.af29 := ⟨Try.f29, Try.func29, by kernel_rfl, by kernel_rfl⟩
theorem ent30 : EntOk Try.prog 30 Go.Am.Ar.af30 := ⟨Try.f30, Try.func30, by kernel_rfl, by kernel_rfl⟩
theorem ent31 : EntOk Try.prog 31 Go.Am.Ar.af31 := ⟨Try.f31, Try.func31, by kernel_rfl, by kernel_rfl⟩
theorem ent32 : EntOk Try.prog 32 Go.Am.Ar.af32 := ⟨Try.f32, Try.func32, by kernel_rfl, by kernel_rfl⟩
theorem ent33 : EntOk Try.prog 33 Go.Am.Ar.af33 := ⟨Try.f33, Try.func33, by kernel_rfl, by kernel_rfl⟩
theorem ent34 : EntOk Try.prog 34 Go.Am.Ar.af34 := ⟨Try.f34, Try.func34, by kernel_rfl, by kernel_rfl⟩
theorem ent35 : EntOk Try.prog 35 Go.Am.Ar.af35 := ⟨Try.f35, Try.func35, by kernel_rfl, by kernel_rfl⟩
theorem ent36 : EntOk Try.prog 36 Go.Am.Ar.af36 := ⟨Try.f36, Try.func36, by kernel_rfl, by kernel_rfl⟩
theorem ent37 : EntOk Try.prog 37 Go.Am.Ar.af37 := ⟨Try.f37, Try.func37, by kernel_rfl, by kernel_rfl⟩
theorem ent38 : EntOk Try.prog 38 Go.Am.Ar.af38 := ⟨Try.f38, Try.func38, by kernel_rfl, by kernel_rfl⟩
theorem ent39 : EntOk Try.prog 39 Go.Am.Ar.af39 := ⟨Try.f39, Try.func39, by kernel_rfl, by kernel_rfl⟩
theorem ent40 : EntOk Try.prog 40 Go.Am.Ar.af40 := ⟨Try.f40, Try.func40, by kernel_rfl, by kernel_rfl⟩
theorem ent41 : EntOk Try.prog 41 Go.Am.Ar.af41 := ⟨Try.f41, Try.func41, by kernel_rfl, by kernel_rfl⟩
theorem ent42 : EntOk Try.prog 42 Go.Am.Ar.af42 := ⟨Try.f42, Try.func42, by kernel_rfl, by kernel_rfl⟩
theorem ent43 : EntOk Try.prog 43 Go.Am.Ar.af43 := ⟨Try.f43, Try.func43, by kernel_rfl, by kernel_rfl⟩
def awTree5 : KT := (.node (.node (.node (.node (.node .leaf 5 Go.Am.Ar.af5 .leaf) 6 Go.Am.Ar.af6 .leaf) 11 Go.Am.Ar.af11 (.node .leaf 12 Go.Am.Ar.af12 .leaf)) 13 Go.Am.Ar.af13 (.node (.node .leaf 14 Go.Am.Ar.af14 .leaf) 15 Go.Am.Ar.af15 (.node .leaf 26 Go.Am.Ar.af26 .leaf))) 27 Go.Am.Ar.af27 (.node (.node (.node (.node .leaf 28 Go.Am.Ar.af28 .leaf) 29 Go.Am.Ar.af29 .leaf) 30 Go.Am.Ar.af30 (.node .leaf 31 Go.Am.Ar.af31 .leaf)) 32 Go.Am.Ar.af32 (.node (.node .leaf 33 Go.Am.Ar.af33 .leaf) 41 Go.Am.Ar.af41 (.node .leaf 43 Go.Am.Ar.af43 .leaf))))
theorem awTree5_ok : awTree5.Ok Try.prog := ⟨ent27, ⟨ent13, ⟨ent11, ⟨ent6, ⟨ent5, trivial, trivial⟩, trivial⟩, ⟨ent12, trivial, trivial⟩⟩, ⟨ent15, ⟨ent14, trivial, trivial⟩, ⟨ent26, trivial, trivial⟩⟩⟩, ⟨ent32, ⟨ent30, ⟨ent29, ⟨ent28, trivial, trivial⟩, trivial⟩, ⟨ent31, trivial, trivial⟩⟩, ⟨ent41, ⟨ent33, trivial, trivial⟩, ⟨ent43, trivial, trivial⟩⟩⟩⟩
set_option maxRecDepth 100000 in
theorem awRuns5 : kif (kclosed awTree5 (nat_lit 5000) (nat_lit 5)) true = true := by kernel_rfl
theorem awPrim5 : PrimOk Try.prog 5 primTrue := prim_true ⟨Try.f5, Try.func5, by kernel_rfl, by kernel_rfl⟩ (fun w => calls_true awTree5_ok (kif_ok awRuns5).1 w)

def tree : KT := (.node (.node (.node (.tru (.node (.node .leaf 3 Go.Am.Ar.af3 .leaf) 4 Go.Am.Ar.af4 .leaf) 5 (.node (.node .leaf 6 Go.Am.Ar.af6 .leaf) 7 Go.Am.Ar.af7 .leaf)) 8 Go.Am.Ar.af8 (.node (.node (.node .leaf 9 Go.Am.Ar.af9 .leaf) 10 Go.Am.Ar.af10 .leaf) 11 Go.Am.Ar.af11 (.node .leaf 12 Go.Am.Ar.af12 .leaf))) 13 Go.Am.Ar.af13 (.node (.node (.node (.node .leaf 14 Go.Am.Ar.af14 .leaf) 15 Go.Am.Ar.af15 .leaf) 16 Go.Am.Ar.af16 (.node .leaf 17 Go.Am.Ar.af17 .leaf)) 18 Go.Am.Ar.af18 (.node (.node (.node .leaf 19 Go.Am.Ar.af19 .leaf) 20 Go.Am.Ar.af20 .leaf) 21 Go.Am.Ar.af21 (.node .leaf 22 Go.Am.Ar.af22 .leaf)))) 23 Go.Am.Ar.af23 (.node (.node (.node (.node (.node .leaf 24 Go.Am.Ar.af24 .leaf) 25 Go.Am.Ar.af25 .leaf) 26 Go.Am.Ar.af26 (.node (.node .leaf 27 Go.Am.Ar.af27 .leaf) 28 Go.Am.Ar.af28 .leaf)) 29 Go.Am.Ar.af29 (.node (.node (.node .leaf 30 Go.Am.Ar.af30 .leaf) 31 Go.Am.Ar.af31 .leaf) 32 Go.Am.Ar.af32 (.node .leaf 33 Go.Am.Ar.af33 .leaf))) 34 Go.Am.Ar.af34 (.node (.node (.node (.node .leaf 35 Go.Am.Ar.af35 .leaf) 36 Go.Am.Ar.af36 .leaf) 37 Go.Am.Ar.af37 (.node .leaf 38 Go.Am.Ar.af38 .leaf)) 39 Go.Am.Ar.af39 (.node (.node (.node .leaf 40 Go.Am.Ar.af40 .leaf) 41 Go.Am.Ar.af41 .leaf) 42 Go.Am.Ar.af42 (.node .leaf 43 Go.Am.Ar.af43 .leaf)))))
theorem tree_ok : tree.Ok Try.prog := ⟨ent23, ⟨ent13, ⟨ent8, ⟨awPrim5, ⟨ent4, ⟨ent3, trivial, trivial⟩, trivial⟩, ⟨ent7, ⟨ent6, trivial, trivial⟩, trivial⟩⟩, ⟨ent11, ⟨ent10, ⟨ent9, trivial, trivial⟩, trivial⟩, ⟨ent12, trivial, trivial⟩⟩⟩, ⟨ent18, ⟨ent16, ⟨ent15, ⟨ent14, trivial, trivial⟩, trivial⟩, ⟨ent17, trivial, trivial⟩⟩, ⟨ent21, ⟨ent20, ⟨ent19, trivial, trivial⟩, trivial⟩, ⟨ent22, trivial, trivial⟩⟩⟩⟩, ⟨ent34, ⟨ent29, ⟨ent26, ⟨ent25, ⟨ent24, trivial, trivial⟩, trivial⟩, ⟨ent28, ⟨ent27, trivial, trivial⟩, trivial⟩⟩, ⟨ent32, ⟨ent31, ⟨ent30, trivial, trivial⟩, trivial⟩, ⟨ent33, trivial, trivial⟩⟩⟩, ⟨ent39, ⟨ent37, ⟨ent36, ⟨ent35, trivial, trivial⟩, trivial⟩, ⟨ent38, trivial, trivial⟩⟩, ⟨ent42, ⟨ent41, ⟨ent40, trivial, trivial⟩, trivial⟩, ⟨ent43, trivial, trivial⟩⟩⟩⟩⟩
theorem has : Go.Am.Ar.HasA tree.find := ⟨by constructor <;> kernel_rfl, by kernel_rfl⟩
end Go.Proofs.Ytnjffhgmibhnoaa.ZielonkaReducedTab
