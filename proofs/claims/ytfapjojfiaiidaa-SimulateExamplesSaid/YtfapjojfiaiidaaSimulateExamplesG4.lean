/- The union of automata, and nfa.Union, and what goes with it. -/
import Derived.Test.YtfapjojfiaiidaaSimulateExamplesG0
import Derived.Test.YtfapjojfiaiidaaSimulateExamplesG3
import Derived.Test.YtfapjojfiaiidaaPmC
import Derived.Test.YtfapjojfiaiidaaSimulateExamplesG2
set_option linter.unusedVariables false
set_option linter.unusedSimpArgs false
set_option maxRecDepth 10000
namespace Go.Am.Ar
open Go.Am renaming pchk → P1, pold → P2, PKNo → P3, ppack → P4, PObj.under → P5, pput → P6, ptset → P7, ptget → P8, pev → P9, ofAV → P10, ofAV1 → P11, ppad → P12, pfill → P13, prepl → P14, AO.effect → P15
open List renaming replicate → L1
open Nat renaming reduceAdd → N1, reduceSub → N2, reduceMul → N3, reduceLT → N4, reduceLeDiff → N5, reduceEqDiff → N6, reduceBEq → N7
open Int renaming reduceToNat → I1, reduceLT → I2, reduceLE → I3, reduceEq → I4, reduceAdd → I5, reduceSub → I6, reduceNeg → I7
def shI (a : Int) (xs : List Int) : List Int := xs.map fun x => a + x
def shG (a : Int) (e : Eg) : Eg := ⟨a + e.fr, a + e.to, e.ps, e.ng⟩
def uniN (A B : NF) : NF := ⟨A.vs, A.n + B.n, A.st ++ shI A.n B.st, A.fi ++ shI A.n B.fi, A.es ++ B.es.map (shG A.n)⟩
def uniE (A B : NF) : Int := if checkN A = 0 then (if checkN B = 0 then (if A.vs = B.vs then (if 64 < A.n + B.n then 4 else if 512 < (A.es.length : Int) + B.es.length then 4 else 0) else 7) else checkN B) else checkN A
def uniQ (A B : NF) : NF := if uniE A B = 0 then uniN A B else zeroN
section
variable {tab : FuncId → Option AF} (T : HasA tab)
include T
set_option maxHeartbeats 2000000 in
theorem unionN_p {M : Mem} {K : PV → Mem → Prop} {f1 o1 f2 o2 f3 o3 g1 p1 g2 p2 g3 p3 : Bool} {A B : NF} (BA : BnN A) (BB : BnN B) (hk : K (.tuple [.agg (nfC false true false true false true (uniQ A B)), p64 (uniE A B)]) M) :
    SemC tab 36 [.agg (nfC f1 o1 f2 o2 f3 o3 A), .agg (nfC g1 p1 g2 p2 g3 p3 B)] M K := by
  refine SemC_wk ?_
  refine SemC_pureS T.h36 (by simp only [PP, P1, P2, P3, P4, P5, P6, P7, P8, P9, P10, P11, P12, P13, P14, L1, P15, N1, N2, N3, N4, N5, N6, N7, I1, I2, I3, I4, I5, I6, I7, reduceIte, reduceCtorEq, under_slE]) ?_
  have bad : ∀ e, e ≠ 0 → uniE A B = e → ∃ r', PvWk (.tuple [.agg [p64 0, p64 0, .nils, .nils, .nils], p64 e]) r' ∧ K r' M := fun e he hu => by
    refine ⟨_, wk_two wk_zeroN, ?_⟩
    have e1 : uniQ A B = zeroN := by unfold uniQ; rw [if_neg (by rw [hu]; exact he)]
    rw [e1, hu] at hk; exact hk
  simp only [af36]
  refine SemW_seq (SemW_of ?_)
  simp only [PP, P1, P2, P3, P4, P5, P6, P7, P8, P9, P10, P11, P12, P13, P14, L1, P15, N1, N2, N3, N4, N5, N6, N7, I1, I2, I3, I4, I5, I6, I7, reduceIte, reduceCtorEq]
  refine SemW_re (GStep.freezeP (b := [.junk, .junk, .cp (nfC f1 o1 f2 o2 f3 o3 A) 0, .ptr 1 0 0, .ptr 2 0 0, p64 0, .junk, .junk, .junk, .junk, .junk, .junk, .junk, .junk, .junk, .junk, .junk, .junk, .junk, .junk, .junk, .junk, .junk, .junk, .junk, .junk, .junk, .junk, .junk, .junk, .junk, .junk, .junk, .junk, .junk, .junk, .junk, .junk, .junk, .junk, .junk, .junk, .junk, .junk, .junk, .junk, .junk, .junk, .junk, .junk, .junk, .junk, .junk, .junk, .junk, .junk, .junk, .junk, .junk, .junk, .junk, .junk, .junk, .junk, .junk, .junk, .junk, .junk, .junk, .junk, .junk, .junk, .junk, .junk, .junk, .junk, .junk, .junk, .junk, .junk, .junk, .junk, .junk, .junk, .junk, .junk, .junk, .junk, .junk, .junk, .junk, .junk, .junk, .junk, .junk, .junk, .junk, .junk, .junk, .junk, .junk, .junk, .junk, .junk, .junk, .junk, .junk, .junk, .junk, .junk, .junk, .junk, .junk, .junk, .junk, .junk, .junk, .junk, .junk, .junk, .junk, .junk, .junk, .junk, .junk, .junk, .junk]) 0 (Nat.zero_le _) rfl (by simp only [PFrzP_nil, PFrzP_junk, PFrzP_same, PFrzP_ptr]) rfl) ?_
  refine SemW_re (GStep.freezeP (b := [.junk, .junk, .cp (nfC f1 o1 f2 o2 f3 o3 A) 0, .cp (nfC g1 p1 g2 p2 g3 p3 B) 0, .ptr 2 0 0, p64 0, .junk, .junk, .junk, .junk, .junk, .junk, .junk, .junk, .junk, .junk, .junk, .junk, .junk, .junk, .junk, .junk, .junk, .junk, .junk, .junk, .junk, .junk, .junk, .junk, .junk, .junk, .junk, .junk, .junk, .junk, .junk, .junk, .junk, .junk, .junk, .junk, .junk, .junk, .junk, .junk, .junk, .junk, .junk, .junk, .junk, .junk, .junk, .junk, .junk, .junk, .junk, .junk, .junk, .junk, .junk, .junk, .junk, .junk, .junk, .junk, .junk, .junk, .junk, .junk, .junk, .junk, .junk, .junk, .junk, .junk, .junk, .junk, .junk, .junk, .junk, .junk, .junk, .junk, .junk, .junk, .junk, .junk, .junk, .junk, .junk, .junk, .junk, .junk, .junk, .junk, .junk, .junk, .junk, .junk, .junk, .junk, .junk, .junk, .junk, .junk, .junk, .junk, .junk, .junk, .junk, .junk, .junk, .junk, .junk, .junk, .junk, .junk, .junk, .junk, .junk, .junk, .junk, .junk, .junk, .junk, .junk]) 1 (Nat.zero_le _) rfl (by simp only [PFrzP_nil, PFrzP_junk, PFrzP_same, PFrzP_ptr]) rfl) ?_
  refine SemW_of ?_
  simp only [PP, P1, P2, P3, P4, P5, P6, P7, P8, P9, P10, P11, P12, P13, P14, L1, P15, N1, N2, N3, N4, N5, N6, N7, I1, I2, I3, I4, I5, I6, I7, reduceIte, reduceCtorEq]
  refine check_p T BA ?_
  by_cases c1 : checkN A = 0
  rotate_left
  · simp only [PP, P1, P2, P3, P4, P5, P6, P7, P8, P9, P10, P11, P12, P13, P14, L1, P15, N1, N2, N3, N4, N5, N6, N7, I1, I2, I3, I4, I5, I6, I7, reduceIte, reduceCtorEq, c1]
    exact bad _ c1 (by unfold uniE; rw [if_neg c1])
  simp only [PP, P1, P2, P3, P4, P5, P6, P7, P8, P9, P10, P11, P12, P13, P14, L1, P15, N1, N2, N3, N4, N5, N6, N7, I1, I2, I3, I4, I5, I6, I7, reduceIte, reduceCtorEq, c1]
  refine check_p T BB ?_
  by_cases c2 : checkN B = 0
  rotate_left
  · simp only [PP, P1, P2, P3, P4, P5, P6, P7, P8, P9, P10, P11, P12, P13, P14, L1, P15, N1, N2, N3, N4, N5, N6, N7, I1, I2, I3, I4, I5, I6, I7, reduceIte, reduceCtorEq, c2]
    exact bad _ c2 (by unfold uniE; rw [if_pos c1, if_neg c2])
  simp only [PP, P1, P2, P3, P4, P5, P6, P7, P8, P9, P10, P11, P12, P13, P14, L1, P15, N1, N2, N3, N4, N5, N6, N7, I1, I2, I3, I4, I5, I6, I7, reduceIte, reduceCtorEq, c2]
  have CA := nok_of c1
  have CB := nok_of c2
  have na0 := CA.n0
  have na64 := CA.n64
  have nb0 := CB.n0
  have nb64 := CB.n64
  have ea := CA.e512
  have eb := CB.e512
  by_cases c3 : A.vs = B.vs
  rotate_left
  · simp only [PP, P1, P2, P3, P4, P5, P6, P7, P8, P9, P10, P11, P12, P13, P14, L1, P15, N1, N2, N3, N4, N5, N6, N7, I1, I2, I3, I4, I5, I6, I7, reduceIte, reduceCtorEq, c3]
    exact bad 7 (by decide) (by unfold uniE; rw [if_pos c1, if_pos c2, if_neg c3])
  have wn : IntKind.i64.wrap (A.n + B.n) = A.n + B.n := wrap64 (by omega) (by omega)
  have we : IntKind.i64.wrap ((A.es.length : Int) + B.es.length) = (A.es.length : Int) + B.es.length := wrap64 (by omega) (by omega)
  simp only [PP, P1, P2, P3, P4, P5, P6, P7, P8, P9, P10, P11, P12, P13, P14, L1, P15, N1, N2, N3, N4, N5, N6, N7, I1, I2, I3, I4, I5, I6, I7, reduceIte, reduceCtorEq, c3, wn]
  refine QIf.intro (fun c4 => ?_) (fun c4 => ?_)
  · simp only [PP, P1, P2, P3, P4, P5, P6, P7, P8, P9, P10, P11, P12, P13, P14, L1, P15, N1, N2, N3, N4, N5, N6, N7, I1, I2, I3, I4, I5, I6, I7, reduceIte, reduceCtorEq, c4]
    exact bad 4 (by decide) (by unfold uniE; rw [if_pos c1, if_pos c2, if_pos c3, if_pos c4])
  simp only [PP, P1, P2, P3, P4, P5, P6, P7, P8, P9, P10, P11, P12, P13, P14, L1, P15, N1, N2, N3, N4, N5, N6, N7, I1, I2, I3, I4, I5, I6, I7, reduceIte, reduceCtorEq, c4, we]
  refine QIf.intro (fun c5 => ?_) (fun c5 => ?_)
  · simp only [PP, P1, P2, P3, P4, P5, P6, P7, P8, P9, P10, P11, P12, P13, P14, L1, P15, N1, N2, N3, N4, N5, N6, N7, I1, I2, I3, I4, I5, I6, I7, reduceIte, reduceCtorEq, c5]
    exact bad 4 (by decide) (by unfold uniE; rw [if_pos c1, if_pos c2, if_pos c3, if_neg c4, if_pos c5])
  have hu : uniE A B = 0 := by unfold uniE; rw [if_pos c1, if_pos c2, if_pos c3, if_neg c4, if_neg c5]
  have hQ : uniQ A B = uniN A B := by unfold uniQ; rw [if_pos hu]
  rw [hu, hQ] at hk
  simp only [PP, P1, P2, P3, P4, P5, P6, P7, P8, P9, P10, P11, P12, P13, P14, L1, P15, N1, N2, N3, N4, N5, N6, N7, I1, I2, I3, I4, I5, I6, I7, reduceIte, reduceCtorEq, c5, wn]
  refine cloneL_p T BA.s fun ga va => ?_
  simp only [PP, P1, P2, P3, P4, P5, P6, P7, P8, P9, P10, P11, P12, P13, P14, L1, P15, N1, N2, N3, N4, N5, N6, N7, I1, I2, I3, I4, I5, I6, I7, reduceIte, reduceCtorEq]
  refine cloneL_p T BA.f fun gb vb => ?_
  simp only [PP, P1, P2, P3, P4, P5, P6, P7, P8, P9, P10, P11, P12, P13, P14, L1, P15, N1, N2, N3, N4, N5, N6, N7, I1, I2, I3, I4, I5, I6, I7, reduceIte, reduceCtorEq]
  refine cloneE_p T BA.e fun gc vc => ?_
  simp only [PP, P1, P2, P3, P4, P5, P6, P7, P8, P9, P10, P11, P12, P13, P14, L1, P15, N1, N2, N3, N4, N5, N6, N7, I1, I2, I3, I4, I5, I6, I7, reduceIte, reduceCtorEq]
  have hsb := posM_len CB.st nb64
  have hfb := posM_len CB.fi nb64
  have hsa := posM_len CA.st na64
  have hfa := posM_len CA.fi na64
  have hs := posM_mem CB.st
  have hf := posM_mem CB.fi
  refine loop4 (fun (k g v vm : Nat) => k ≤ B.st.length) (fun k g v vm => [.junk, .junk, .cp (nfC f1 o1 f2 o2 f3 o3 A) 0, .cp (nfC g1 p1 g2 p2 g3 p3 B) 0, .ptr 2 0 0, .junk, .junk, .junk, .junk, .junk, .junk, .junk, .junk, .junk, .junk, .junk, .junk, .junk, .junk, .junk, .junk, .junk, .junk, .junk, .junk, .junk, .junk, .junk, .junk, .junk, .junk, .junk, .junk, .junk, .junk, .junk, .junk, .junk, .junk, .junk, .junk, .junk, .junk, .junk, .junk, .junk, .junk, .junk, .junk, .junk, .junk, .junk, .junk, .junk, .junk, .junk, .junk, .junk, .junk, .junk, .junk, .junk, .junk, .junk, .junk, .junk, .junk, slI g1 p1 .i64 B.st, p64 B.st.length, p64 k, .junk, .junk, .junk, .junk, .junk, .junk, .junk, .junk, .junk, .junk, .junk, .junk, .junk, .junk, .junk, .junk, .junk, .junk, .junk, .junk, .junk, .junk, .junk, .junk, .junk, .junk, .junk, .junk, .junk, .junk, .junk, .junk, .junk, .junk, .junk, .junk, .junk, .junk, .junk, .junk, .junk, .junk, .junk, .junk, .junk, .junk, .junk, .junk, .junk, .junk, .junk, .junk, .junk, .junk, .junk, .junk, .junk]) (fun k g v vm => [.gone, .gone, .cells 0 vm [p64 A.vs, p64 (A.n + B.n), .ref 3 g 1 0 (A.st.length + k), .ref 4 gb 1 0 A.fi.length, .ref 5 gc 4 0 A.es.length], .cells g v ((A.st ++ shI A.n (B.st.take k)).map p64), .cells gb vb (A.fi.map p64), .cells gc vc (egL A.es)]) (fun k _ _ _ => B.st.length - k) 0 ga va 1 (by omega) (by simp only [PWeak_nil, PWeak_junk, PWeak_same, Int.cast_ofNat_Int, List.length_append, List.length_cons, List.length_nil, Nat.zero_add]) (by simp [shI]) ?_
  intro k g v vm hle ih
  refine SemW_go (by kernel_rfl) ?_
  simp only [PP, P1, P2, P3, P4, P5, P6, P7, P8, P9, P10, P11, P12, P13, P14, L1, P15, N1, N2, N3, N4, N5, N6, N7, I1, I2, I3, I4, I5, I6, I7, reduceIte, reduceCtorEq]
  refine QIf.intro (fun c => ?_) (fun c => ?_)
  · have hk' : k < B.st.length := by omega
    obtain ⟨x, gx⟩ := some_of hk'
    have hx := hs x (List.mem_of_getElem? gx)
    have k0 : (0 : Int) ≤ k := by omega
    have hwk := wrap_succ (k := k) (by show _ < 1000000000000; omega)
    have hwx : IntKind.i64.wrap (A.n + x) = A.n + x := wrap64 (by omega) (by omega)
    have hln : (shI A.n (B.st.take k)).length = k := by simp [shI]; omega
    have b8 : (A.st.length + k + 1) * 8 ≤ 140737488355328 := by omega
    have b1 : A.st.length + k ≤ 9223372036854775806 := by omega
    have hps : psub (A.st.map p64 ++ (shI A.n (B.st.take k)).map p64) 0 (A.st.length + k) = A.st.map p64 ++ (shI A.n (B.st.take k)).map p64 := psub_all _ _ (by simp [hln])
    simp only [PP, P1, P2, P3, P4, P5, P6, P7, P8, P9, P10, P11, P12, P13, P14, L1, P15, N1, N2, N3, N4, N5, N6, N7, I1, I2, I3, I4, I5, I6, I7, reduceIte, reduceCtorEq, c, k0, gx, hwk, hwx, b8, b1, hps, hln]
    have htk : shI A.n (B.st.take (k + 1)) = shI A.n (B.st.take k) ++ [A.n + x] := by rw [List.take_add_one, gx]; simp [shI]
    exact SemW_to (ih (k + 1) (g + 1) 0 (vm + 1) (by omega) (by omega)) (by simp only [PWeak_nil, PWeak_junk, PWeak_same, Int.cast_ofNat_Int, List.length_append, List.length_cons, List.length_nil, Nat.zero_add]) (by rw [htk]; simp [Nat.add_assoc])
  have hkn : k = B.st.length := by omega
  subst hkn
  rw [List.take_of_length_le (Nat.le_refl _)]
  simp only [PP, P1, P2, P3, P4, P5, P6, P7, P8, P9, P10, P11, P12, P13, P14, L1, P15, N1, N2, N3, N4, N5, N6, N7, I1, I2, I3, I4, I5, I6, I7, reduceIte, reduceCtorEq, c]
  refine loop4 (fun (k gb vb vm : Nat) => k ≤ B.fi.length) (fun k gb vb vm => [.junk, .junk, .cp (nfC f1 o1 f2 o2 f3 o3 A) 0, .cp (nfC g1 p1 g2 p2 g3 p3 B) 0, .ptr 2 0 0, .junk, .junk, .junk, .junk, .junk, .junk, .junk, .junk, .junk, .junk, .junk, .junk, .junk, .junk, .junk, .junk, .junk, .junk, .junk, .junk, .junk, .junk, .junk, .junk, .junk, .junk, .junk, .junk, .junk, .junk, .junk, .junk, .junk, .junk, .junk, .junk, .junk, .junk, .junk, .junk, .junk, .junk, .junk, .junk, .junk, .junk, .junk, .junk, .junk, .junk, .junk, .junk, .junk, .junk, .junk, .junk, .junk, .junk, .junk, .junk, .junk, .junk, .junk, .junk, .junk, .junk, .junk, .junk, .junk, .junk, .junk, .junk, .junk, .junk, .junk, .junk, .junk, .junk, .junk, slI g2 p2 .i64 B.fi, p64 B.fi.length, p64 k, .junk, .junk, .junk, .junk, .junk, .junk, .junk, .junk, .junk, .junk, .junk, .junk, .junk, .junk, .junk, .junk, .junk, .junk, .junk, .junk, .junk, .junk, .junk, .junk, .junk, .junk, .junk, .junk, .junk, .junk, .junk, .junk, .junk, .junk, .junk, .junk, .junk, .junk, .junk, .junk]) (fun k gb vb vm => [.gone, .gone, .cells 0 vm [p64 A.vs, p64 (A.n + B.n), .ref 3 g 1 0 (A.st.length + B.st.length), .ref 4 gb 1 0 (A.fi.length + k), .ref 5 gc 4 0 A.es.length], .cells g v (A.st.map p64 ++ (shI A.n B.st).map p64), .cells gb vb ((A.fi ++ shI A.n (B.fi.take k)).map p64), .cells gc vc (egL A.es)]) (fun k _ _ _ => B.fi.length - k) 0 gb vb vm (by omega) (by simp only [PWeak_nil, PWeak_junk, PWeak_same, Int.cast_ofNat_Int, List.length_append, List.length_cons, List.length_nil, Nat.zero_add]) (by simp [shI]) ?_
  intro k gb vb vm hle ih
  refine SemW_go (by kernel_rfl) ?_
  simp only [PP, P1, P2, P3, P4, P5, P6, P7, P8, P9, P10, P11, P12, P13, P14, L1, P15, N1, N2, N3, N4, N5, N6, N7, I1, I2, I3, I4, I5, I6, I7, reduceIte, reduceCtorEq]
  refine QIf.intro (fun c => ?_) (fun c => ?_)
  · have hk' : k < B.fi.length := by omega
    obtain ⟨x, gx⟩ := some_of hk'
    have hx := hf x (List.mem_of_getElem? gx)
    have k0 : (0 : Int) ≤ k := by omega
    have hwk := wrap_succ (k := k) (by show _ < 1000000000000; omega)
    have hwx : IntKind.i64.wrap (A.n + x) = A.n + x := wrap64 (by omega) (by omega)
    have hln : (shI A.n (B.fi.take k)).length = k := by simp [shI]; omega
    have b8 : (A.fi.length + k + 1) * 8 ≤ 140737488355328 := by omega
    have b1 : A.fi.length + k ≤ 9223372036854775806 := by omega
    have hps : psub (A.fi.map p64 ++ (shI A.n (B.fi.take k)).map p64) 0 (A.fi.length + k) = A.fi.map p64 ++ (shI A.n (B.fi.take k)).map p64 := psub_all _ _ (by simp [hln])
    simp only [PP, P1, P2, P3, P4, P5, P6, P7, P8, P9, P10, P11, P12, P13, P14, L1, P15, N1, N2, N3, N4, N5, N6, N7, I1, I2, I3, I4, I5, I6, I7, reduceIte, reduceCtorEq, c, k0, gx, hwk, hwx, b8, b1, hps, hln]
    have htk : shI A.n (B.fi.take (k + 1)) = shI A.n (B.fi.take k) ++ [A.n + x] := by rw [List.take_add_one, gx]; simp [shI]
    exact SemW_to (ih (k + 1) (gb + 1) 0 (vm + 1) (by omega) (by omega)) (by simp only [PWeak_nil, PWeak_junk, PWeak_same, Int.cast_ofNat_Int, List.length_append, List.length_cons, List.length_nil, Nat.zero_add]) (by rw [htk]; simp [Nat.add_assoc])
  have hkn : k = B.fi.length := by omega
  subst hkn
  rw [List.take_of_length_le (Nat.le_refl _)]
  simp only [PP, P1, P2, P3, P4, P5, P6, P7, P8, P9, P10, P11, P12, P13, P14, L1, P15, N1, N2, N3, N4, N5, N6, N7, I1, I2, I3, I4, I5, I6, I7, reduceIte, reduceCtorEq, c]
  refine loop5 (fun (k gc vc vm : Nat) (G : Mem) => k ≤ B.es.length) (fun k gc vc vm G => [.junk, .junk, .cp (nfC f1 o1 f2 o2 f3 o3 A) 0, .junk, .ptr 2 0 0, .junk, .junk, .junk, .junk, .junk, .junk, .junk, .junk, .junk, .junk, .junk, .junk, .junk, .junk, .junk, .junk, .junk, .junk, .junk, .junk, .junk, .junk, .junk, .junk, .junk, .junk, .junk, .junk, .junk, .junk, .junk, .junk, .junk, .junk, .junk, .junk, .junk, .junk, .junk, .junk, .junk, .junk, .junk, .junk, .junk, .junk, .junk, .junk, .junk, .junk, .junk, .junk, .junk, .junk, .junk, .junk, .junk, .junk, .junk, .junk, .junk, .junk, .junk, .junk, .junk, .junk, .junk, .junk, .junk, .junk, .junk, .junk, .junk, .junk, .junk, .junk, .junk, .junk, .junk, .junk, .junk, .junk, .junk, .junk, .junk, .junk, .junk, .junk, .junk, .junk, .junk, .junk, .junk, .junk, .junk, .junk, slE g3 p3 B.es, p64 B.es.length, p64 k, .junk, .junk, .junk, .junk, .junk, .junk, .junk, .junk, .junk, .junk, .junk, .junk, .junk, .junk, .junk, .junk, .junk, .junk, .junk, .junk, .junk, .junk, .junk]) (fun k gc vc vm G => .gone :: .gone :: .cells 0 vm [p64 A.vs, p64 (A.n + B.n), .ref 3 g 1 0 (A.st.length + B.st.length), .ref 4 gb 1 0 (A.fi.length + B.fi.length), .ref 5 gc 4 0 (A.es.length + k)] :: .cells g v (A.st.map p64 ++ (shI A.n B.st).map p64) :: .cells gb vb (A.fi.map p64 ++ (shI A.n B.fi).map p64) :: .cells gc vc (egL (A.es ++ (B.es.take k).map (shG A.n))) :: G) (fun k _ _ _ _ => B.es.length - k) 0 gc vc vm [] (by omega) (by simp only [PWeak_nil, PWeak_junk, PWeak_same, Int.cast_ofNat_Int, List.length_append, List.length_cons, List.length_nil, Nat.zero_add]) (by simp) ?_
  intro k gc vc vm G hle ih
  obtain ⟨acc, hacc⟩ : ∃ acc, acc = A.es ++ (B.es.take k).map (shG A.n) := ⟨_, rfl⟩
  have hal : acc.length = A.es.length + k := by rw [hacc]; simp; omega
  rw [← hacc]
  refine SemW_go (by kernel_rfl) ?_
  simp only [PP, P1, P2, P3, P4, P5, P6, P7, P8, P9, P10, P11, P12, P13, P14, L1, P15, N1, N2, N3, N4, N5, N6, N7, I1, I2, I3, I4, I5, I6, I7, reduceIte, reduceCtorEq]
  refine QIf.intro (fun c => ?_) (fun c => ?_)
  · have hk' : k < B.es.length := by omega
    obtain ⟨e, ge⟩ := some_of hk'
    have hem := List.mem_of_getElem? ge
    obtain ⟨q1, q2, q3, q4, _⟩ := CB.ed e hem
    have k0 : (0 : Int) ≤ k := by omega
    have hwk := wrap_succ (k := k) (by show _ < 1000000000000; omega)
    have h4 := psub_egL ge
    have hl4 : k * 4 + 4 ≤ (egL B.es).length := by rw [egL_len]; exact eg_le ge
    have w1 : IntKind.i64.wrap (A.n + e.fr) = A.n + e.fr := wrap64 (by omega) (by omega)
    have w2 : IntKind.i64.wrap (A.n + e.to) = A.n + e.to := wrap64 (by omega) (by omega)
    have b8 : (A.es.length + k + 1) * 24 ≤ 140737488355328 := by omega
    have b1 : A.es.length + k ≤ 9223372036854775806 := by omega
    have hps := psub_egAll hal
    have hl5 : (A.es.length + k) * 4 ≤ (egL acc).length := by rw [egL_len]; omega
    simp only [PP, P1, P2, P3, P4, P5, P6, P7, P8, P9, P10, P11, P12, P13, P14, L1, P15, N1, N2, N3, N4, N5, N6, N7, I1, I2, I3, I4, I5, I6, I7, reduceIte, reduceCtorEq, c, k0, h4, hl4, w1, w2, gk0, sk0, hwk, b8, b1, hps, hl5]
    have htk : A.es ++ (B.es.take (k + 1)).map (shG A.n) = acc ++ [shG A.n e] := by rw [List.take_add_one, ge, hacc]; simp
    exact SemW_to (ih (k + 1) (gc + 1) 0 (vm + 1) (G ++ [.cells 0 3 (egC (shG A.n e))]) (by omega) (by omega)) (by simp only [PWeak_nil, PWeak_junk, PWeak_same, Int.cast_ofNat_Int, List.length_append, List.length_cons, List.length_nil, Nat.zero_add]) (by rw [htk, ← egL_app]; rfl)
  have hkn : k = B.es.length := by omega
  subst hkn
  rw [List.take_of_length_le (Nat.le_refl _)] at hacc
  simp only [PP, P1, P2, P3, P4, P5, P6, P7, P8, P9, P10, P11, P12, P13, P14, L1, P15, N1, N2, N3, N4, N5, N6, N7, I1, I2, I3, I4, I5, I6, I7, reduceIte, reduceCtorEq, c]
  have hi : ∀ (a b : List Int) (g v n : Nat), n = a.length + b.length → frzO (some (.cells g v (a.map p64 ++ b.map p64))) g 1 0 n = some (slI false true .i64 (a ++ b)) := fun a b g v n h => by
    subst h
    rw [← List.map_append, frzO_cells (by simp) (underL_map _ p64 (fun x => by simp [PV.under]) _), Nat.mul_one, psub_all _ _ (by simp)]
    simp [slI]
  have l1 : (shI A.n B.st).length = B.st.length := by simp [shI]
  have l2 : (shI A.n B.fi).length = B.fi.length := by simp [shI]
  have h1 := hi A.st (shI A.n B.st) g v _ (congrArg _ l1.symm)
  have h2 := hi A.fi (shI A.n B.fi) gb vb _ (congrArg _ l2.symm)
  have h3 := frzO_egL (g := gc) (v := vc) hal
  simp only [PP, P1, P2, P3, P4, P5, P6, P7, P8, P9, P10, P11, P12, P13, P14, L1, P15, N1, N2, N3, N4, N5, N6, N7, I1, I2, I3, I4, I5, I6, I7, reduceIte, reduceCtorEq, h1, h2, h3]
  refine ⟨_, PvWk.refl _, ?_⟩
  unfold uniN at hk
  rw [← hacc] at hk
  exact hk
end
end Go.Am.Ar
set_option linter.unusedVariables false
set_option linter.unusedSimpArgs false
set_option maxRecDepth 10000
namespace Go.Am.Ar
open Go.Am renaming pchk → P1, pold → P2, PKNo → P3, ppack → P4, PObj.under → P5, pput → P6, ptset → P7, ptget → P8, pev → P9, ofAV → P10, ofAV1 → P11, ppad → P12, pfill → P13, prepl → P14, AO.effect → P15
open List renaming replicate → L1
open Nat renaming reduceAdd → N1, reduceSub → N2, reduceMul → N3, reduceLT → N4, reduceLeDiff → N5, reduceEqDiff → N6, reduceBEq → N7
open Int renaming reduceToNat → I1, reduceLT → I2, reduceLE → I3, reduceEq → I4, reduceAdd → I5, reduceSub → I6, reduceNeg → I7
theorem uniE_ok {A B : NF} (h : uniE A B = 0) : checkN A = 0 ∧ checkN B = 0 ∧ A.vs = B.vs ∧ ¬ 64 < A.n + B.n ∧ ¬ 512 < (A.es.length : Int) + B.es.length := by
  unfold uniE at h
  split at h
  · split at h
    · split at h
      · split at h
        · cases h
        · split at h
          · cases h
          · rename_i a b c d e; exact ⟨a, b, c, d, e⟩
      · cases h
    · contradiction
  · contradiction
theorem posM_shift {a n : Int} {xs ys : List Int} (h1 : posM a (-1) xs = true) (h2 : posM n (-1) ys = true) (ha : 0 ≤ a) (hn : 0 ≤ n) : posM (a + n) (-1) (xs ++ shI a ys) = true := by
  have r1 := posM_rise h1
  have r2 := posM_rise h2
  refine posM_of (List.pairwise_append.2 ⟨r1.1, ?_, fun x hx y hy => ?_⟩) fun x hx => ?_
  · unfold shI; rw [List.pairwise_map]; exact r2.1.imp fun h => by omega
  · obtain ⟨z, hz, rfl⟩ := List.mem_map.1 hy
    have := r1.2 x hx; have := r2.2 z hz; omega
  · rcases List.mem_append.1 hx with h | h
    · have := r1.2 x h; omega
    · obtain ⟨z, hz, rfl⟩ := List.mem_map.1 h
      have := r2.2 z hz; omega
theorem uni_nok {A B : NF} (h : uniE A B = 0) : NOk (uniN A B) := by
  obtain ⟨a, b, c, d, e⟩ := uniE_ok h
  have CA := nok_of a
  have CB := nok_of b
  have na0 := CA.n0
  have nb0 := CB.n0
  refine ⟨CA.v0, CA.v6, by show 0 ≤ A.n + B.n; omega, by show A.n + B.n ≤ 64; omega, by show (A.es ++ B.es.map (shG A.n)).length ≤ 512; simp; omega, posM_shift CA.st CB.st na0 nb0, posM_shift CA.fi CB.fi na0 nb0, fun x hx => ?_⟩
  show 0 ≤ x.fr ∧ x.fr < A.n + B.n ∧ 0 ≤ x.to ∧ x.to < A.n + B.n ∧ cubeM A.vs x.ps x.ng = 0
  rcases List.mem_append.1 hx with hx | hx
  · obtain ⟨q1, q2, q3, q4, q5⟩ := CA.ed x hx
    exact ⟨by omega, by omega, by omega, by omega, q5⟩
  · obtain ⟨y, hy, rfl⟩ := List.mem_map.1 hx
    obtain ⟨q1, q2, q3, q4, q5⟩ := CB.ed y hy
    refine ⟨by show 0 ≤ A.n + y.fr; omega, by show A.n + y.fr < _; omega, by show 0 ≤ A.n + y.to; omega, by show A.n + y.to < _; omega, by rw [c]; exact q5⟩
theorem uni_bn {A B : NF} (BA : BnN A) (BB : BnN B) (h : uniE A B = 0) : BnN (uniN A B) := by
  have C := uni_nok h
  have n64 := C.n64
  have h1 := posM_len C.st n64
  have h2 := posM_len C.fi n64
  have h3 := C.e512
  refine ⟨by show _ < 1000000000000; omega, by show _ < 1000000000000; omega, by show _ < 1000000000000; omega, fun x hx => ?_⟩
  rcases List.mem_append.1 hx with hx | hx
  · exact BA.b x hx
  · obtain ⟨y, hy, rfl⟩ := List.mem_map.1 hx
    exact BB.b y hy
def BtwP (A B : NF) (rs : List (List Bool)) : Prop := ∀ p ∈ A.st, ∃ q ∈ B.st, rAt rs p (A.n + q) = true
def BtwA (A B : NF) (b : Bool) (e : Int) : Prop := (uniE A B ≠ 0 ∧ b = false ∧ e = uniE A B) ∨ (uniE A B = 0 ∧ e = 0 ∧ ∃ rs, RelOk (uniN A B) rs ∧ (b = true ↔ BtwP A B rs))
section
variable {tab : FuncId → Option AF} (T : HasA tab)
include T
theorem idx13_p {M : Mem} {K : PV → Mem → Prop} {f o : Bool} {xs : List Int} {g : FuncId} {cap : List PV} {F : Int → Bool} (hm : xs.length < 1000000000000) (hu : underL 0 cap = true)
    (hf : ∀ x ∈ xs, ∀ (M' : Mem) (K' : PV → Mem → Prop), K' (.bool (F x)) M' → SemC tab g (p64 x :: cap) M' K')
    (hk1 : (∀ x ∈ xs, F x = false) → K (p64 (-1)) M) (hk2 : ∀ (k : Nat) (x : Int), x ∈ xs → F x = true → K (p64 k) M) :
    SemC tab 86 [slI f o .i64 xs, .func (.func g) [] cap] M K := by
  refine SemC_pure T.h86 (by simp only [PP, P1, P2, P3, P4, P5, P6, P7, P8, P9, P10, P11, P12, P13, P14, L1, P15, N1, N2, N3, N4, N5, N6, N7, I1, I2, I3, I4, I5, I6, I7, reduceIte, reduceCtorEq, PV.under, hu]) ?_
  simp only [af86, PP, P1, P2, P3, P4, P5, P6, P7, P8, P9, P10, P11, P12, P13, P14, L1, P15, N1, N2, N3, N4, N5, N6, N7, I1, I2, I3, I4, I5, I6, I7, reduceIte, reduceCtorEq]
  refine loop1 (fun (k : Nat) => k ≤ xs.length ∧ ∀ j, j < k → ∀ x, xs[j]? = some x → F x = false) (fun k => [slI f o .i64 xs, .func (.func g) [] cap, .junk, .junk, .junk, .junk, .junk, p64 xs.length, p64 k, .junk, .junk, .junk, .junk, .junk, .junk, .junk, .junk, .junk, .junk])
    (fun k => []) (fun k => xs.length - k) 0 ⟨by omega, by intro j h; omega⟩ (by simp only [PWeak_nil, PWeak_junk, PWeak_same, Int.cast_ofNat_Int, List.length_append, List.length_cons, List.length_nil, Nat.zero_add]) rfl ?_
  intro k ⟨hle, hd⟩ ih
  refine SemW_go (by kernel_rfl) ?_
  simp only [PP, P1, P2, P3, P4, P5, P6, P7, P8, P9, P10, P11, P12, P13, P14, L1, P15, N1, N2, N3, N4, N5, N6, N7, I1, I2, I3, I4, I5, I6, I7, reduceIte, reduceCtorEq]
  refine QIf.intro (fun c => ?_) (fun c => ?_)
  · have hk' : k < xs.length := by omega
    have k0 : (0 : Int) ≤ k := by omega
    have hwk := wrap_succ (k := k) (by show _ < 1000000000000; omega)
    obtain ⟨x, gx⟩ := some_of (xs := xs) (k := k) hk'
    simp only [PP, P1, P2, P3, P4, P5, P6, P7, P8, P9, P10, P11, P12, P13, P14, L1, P15, N1, N2, N3, N4, N5, N6, N7, I1, I2, I3, I4, I5, I6, I7, reduceIte, reduceCtorEq, c, k0, gx]
    refine hf x (List.mem_of_getElem? gx) _ _ ?_
    cases hF : F x with
    | true =>
      simp only [PP, P1, P2, P3, P4, P5, P6, P7, P8, P9, P10, P11, P12, P13, P14, L1, P15, N1, N2, N3, N4, N5, N6, N7, I1, I2, I3, I4, I5, I6, I7, reduceIte, reduceCtorEq]
      exact hk2 k x (List.mem_of_getElem? gx) hF
    | false =>
      simp only [PP, P1, P2, P3, P4, P5, P6, P7, P8, P9, P10, P11, P12, P13, P14, L1, P15, N1, N2, N3, N4, N5, N6, N7, I1, I2, I3, I4, I5, I6, I7, reduceIte, reduceCtorEq, hwk]
      refine SemW_weak (ih (k + 1) ⟨by omega, fun j hj y gy => ?_⟩ (by omega)) (by simp only [PWeak_nil, PWeak_junk, PWeak_same, Int.cast_ofNat_Int, List.length_append, List.length_cons, List.length_nil, Nat.zero_add])
      by_cases e : j = k
      · subst e; rw [gx] at gy; cases gy; exact hF
      · exact hd j (by omega) y gy
  · simp only [PP, P1, P2, P3, P4, P5, P6, P7, P8, P9, P10, P11, P12, P13, P14, L1, P15, N1, N2, N3, N4, N5, N6, N7, I1, I2, I3, I4, I5, I6, I7, reduceIte, reduceCtorEq, c]
    exact hk1 fun x hx => by
      obtain ⟨j, hj⟩ := List.getElem?_of_mem hx
      exact hd j (by have := getSome_lt hj; omega) x hj
theorem cont13_p {M : Mem} {K : PV → Mem → Prop} {f o : Bool} {xs : List Int} {g : FuncId} {cap : List PV} {F : Int → Bool} (hm : xs.length < 1000000000000) (hu : underL 0 cap = true)
    (hf : ∀ x ∈ xs, ∀ (M' : Mem) (K' : PV → Mem → Prop), K' (.bool (F x)) M' → SemC tab g (p64 x :: cap) M' K')
    (hk1 : (∀ x ∈ xs, F x = false) → K (.bool false) M) (hk2 : (∃ x, x ∈ xs ∧ F x = true) → K (.bool true) M) :
    SemC tab 66 [slI f o .i64 xs, .func (.func g) [] cap] M K := by
  refine SemC_pure T.h66 (by simp only [PP, P1, P2, P3, P4, P5, P6, P7, P8, P9, P10, P11, P12, P13, P14, L1, P15, N1, N2, N3, N4, N5, N6, N7, I1, I2, I3, I4, I5, I6, I7, reduceIte, reduceCtorEq, PV.under, hu]) ?_
  simp only [af66, PP, P1, P2, P3, P4, P5, P6, P7, P8, P9, P10, P11, P12, P13, P14, L1, P15, N1, N2, N3, N4, N5, N6, N7, I1, I2, I3, I4, I5, I6, I7, reduceIte, reduceCtorEq]
  refine idx13_p T hm hu hf (fun h => ?_) (fun k x hx hF => ?_)
  · have e : ¬ (0 : Int) ≤ -1 := by omega
    simp only [PP, P1, P2, P3, P4, P5, P6, P7, P8, P9, P10, P11, P12, P13, P14, L1, P15, N1, N2, N3, N4, N5, N6, N7, I1, I2, I3, I4, I5, I6, I7, reduceIte, reduceCtorEq, e]
    exact hk1 h
  · have e : (0 : Int) ≤ k := by omega
    simp only [PP, P1, P2, P3, P4, P5, P6, P7, P8, P9, P10, P11, P12, P13, P14, L1, P15, N1, N2, N3, N4, N5, N6, N7, I1, I2, I3, I4, I5, I6, I7, reduceIte, reduceCtorEq, e]
    exact hk2 ⟨x, hx, hF⟩
theorem btw2_p {M : Mem} {K : PV → Mem → Prop} {f1 o1 f2 o2 f3 o3 f4 o4 f5 o5 : Bool} {A : NF} {rs : List (List Bool)} {p q : Int} {row : List Bool} (p0 : 0 ≤ p) (p1 : p < rs.length) (g1 : rs[p.toNat]? = some row) (q0 : 0 ≤ A.n + q) (q1 : A.n + q < row.length) (h6 : A.n + q ≤ 64) (g2 : row[(A.n + q).toNat]? = some (rAt rs p (A.n + q)))
    (hk : K (.bool (rAt rs p (A.n + q))) M) : SemC tab 67 [p64 q, .cp [slBr f4 o4 f5 o5 rs] 0, .cp [p64 p] 0, .cp (nfC f1 o1 f2 o2 f3 o3 A) 0] M K := by
  refine SemC_pure T.h67 (by simp only [PP, P1, P2, P3, P4, P5, P6, P7, P8, P9, P10, P11, P12, P13, P14, L1, P15, N1, N2, N3, N4, N5, N6, N7, I1, I2, I3, I4, I5, I6, I7, reduceIte, reduceCtorEq, PV.under, egL_und, under_slBr, brs_und]) ?_
  have w : IntKind.i64.wrap (A.n + q) = A.n + q := wrap64 (by omega) (by omega)
  simp only [af67, PP, P1, P2, P3, P4, P5, P6, P7, P8, P9, P10, P11, P12, P13, P14, L1, P15, N1, N2, N3, N4, N5, N6, N7, I1, I2, I3, I4, I5, I6, I7, reduceIte, reduceCtorEq, p0, p1, g1, q0, q1, w, g2]
  exact hk
theorem btw1_p {M : Mem} {K : PV → Mem → Prop} {f1 o1 f2 o2 f3 o3 g1 p1 g2 p2 g3 p3 f4 o4 f5 o5 : Bool} {A B : NF} {rs : List (List Bool)} {p : Int} (h : uniE A B = 0) (D : DimOk (uniN A B) rs) (hp : p ∈ A.st)
    (hk : ∀ b, (b = true ↔ ¬ ∃ q ∈ B.st, rAt rs p (A.n + q) = true) → K (.bool b) M) : SemC tab 65 [p64 p, .cp (nfC g1 p1 g2 p2 g3 p3 B) 0, .cp [slBr f4 o4 f5 o5 rs] 0, .cp (nfC f1 o1 f2 o2 f3 o3 A) 0] M K := by
  refine SemC_pureS T.h65 (by simp only [PP, P1, P2, P3, P4, P5, P6, P7, P8, P9, P10, P11, P12, P13, P14, L1, P15, N1, N2, N3, N4, N5, N6, N7, I1, I2, I3, I4, I5, I6, I7, reduceIte, reduceCtorEq, PV.under, egL_und, under_slBr, brs_und]) ?_
  obtain ⟨a, b, c, d, e⟩ := uniE_ok h
  have CA := nok_of a
  have CB := nok_of b
  have na0 := CA.n0
  have nb0 := CB.n0
  have nb64 := CB.n64
  have hpa := posM_mem CA.st p hp
  have hsb := posM_len CB.st nb64
  simp only [af65]
  refine SemW_seq (SemW_of ?_)
  simp only [PP, P1, P2, P3, P4, P5, P6, P7, P8, P9, P10, P11, P12, P13, P14, L1, P15, N1, N2, N3, N4, N5, N6, N7, I1, I2, I3, I4, I5, I6, I7, reduceIte, reduceCtorEq]
  refine SemW_re (GStep.freezeP (b := [.junk, .cp (nfC g1 p1 g2 p2 g3 p3 B) 0, .cp [slBr f4 o4 f5 o5 rs] 0, .cp (nfC f1 o1 f2 o2 f3 o3 A) 0, .cp [p64 p] 0, .junk, .junk, .junk, .junk, .junk, .junk]) 0 (Nat.zero_le _) rfl (by simp only [PFrzP_nil, PFrzP_junk, PFrzP_same, PFrzP_ptr]) rfl) ?_
  refine SemW_of ?_
  simp only [PP, P1, P2, P3, P4, P5, P6, P7, P8, P9, P10, P11, P12, P13, P14, L1, P15, N1, N2, N3, N4, N5, N6, N7, I1, I2, I3, I4, I5, I6, I7, reduceIte, reduceCtorEq]
  refine cont13_p T (F := fun q => rAt rs p (A.n + q)) (by omega) (by simp only [PP, P1, P2, P3, P4, P5, P6, P7, P8, P9, P10, P11, P12, P13, P14, L1, P15, N1, N2, N3, N4, N5, N6, N7, I1, I2, I3, I4, I5, I6, I7, reduceIte, reduceCtorEq, PV.under, egL_und, under_slBr, brs_und]) (fun q hq M' K' hK' => ?_) (fun hall => ?_) (fun ⟨q, hq, hF⟩ => ?_)
  · have hqb := posM_mem CB.st q hq
    have hn : (uniN A B).n = A.n + B.n := rfl
    obtain ⟨row, k1, k2, k3, k4⟩ := rel_at D (p := p) (q := A.n + q) (by omega) (by omega) (by omega) (by omega)
    exact btw2_p T hpa.1 (by omega) k1 (by omega) (by omega) (by omega) k2 hK'
  · simp only [PP, P1, P2, P3, P4, P5, P6, P7, P8, P9, P10, P11, P12, P13, P14, L1, P15, N1, N2, N3, N4, N5, N6, N7, I1, I2, I3, I4, I5, I6, I7, reduceIte, reduceCtorEq]
    exact hk true ⟨fun _ ⟨q, hq, hF⟩ => (by rw [hall q hq] at hF; cases hF), fun _ => rfl⟩
  · simp only [PP, P1, P2, P3, P4, P5, P6, P7, P8, P9, P10, P11, P12, P13, P14, L1, P15, N1, N2, N3, N4, N5, N6, N7, I1, I2, I3, I4, I5, I6, I7, reduceIte, reduceCtorEq]
    exact hk false ⟨(fun h => by cases h), fun h => absurd ⟨q, hq, hF⟩ h⟩
open Classical in
set_option maxHeartbeats 1000000 in
theorem between_p {M : Mem} {K : PV → Mem → Prop} {f1 o1 f2 o2 f3 o3 g1 p1 g2 p2 g3 p3 : Bool} {A B : NF} (BA : BnN A) (BB : BnN B) (hk : ∀ b e, BtwA A B b e → K (.tuple [.bool b, p64 e]) M) :
    SemC tab 34 [.agg (nfC f1 o1 f2 o2 f3 o3 A), .agg (nfC g1 p1 g2 p2 g3 p3 B)] M K := by
  refine SemC_pureS T.h34 (by simp only [PP, P1, P2, P3, P4, P5, P6, P7, P8, P9, P10, P11, P12, P13, P14, L1, P15, N1, N2, N3, N4, N5, N6, N7, I1, I2, I3, I4, I5, I6, I7, reduceIte, reduceCtorEq, under_slE]) ?_
  simp only [af34]
  refine SemW_seq (SemW_of ?_)
  simp only [PP, P1, P2, P3, P4, P5, P6, P7, P8, P9, P10, P11, P12, P13, P14, L1, P15, N1, N2, N3, N4, N5, N6, N7, I1, I2, I3, I4, I5, I6, I7, reduceIte, reduceCtorEq]
  refine SemW_re (GStep.freezeP (b := [.junk, .junk, .cp (nfC f1 o1 f2 o2 f3 o3 A) 0, .ptr 1 0 0, .bool false, p64 0, .junk, .junk, .junk, .junk, .junk, .junk, .junk, .junk, .junk, .junk, .junk, .junk, .junk, .junk, .junk, .junk, .junk, .junk, .junk, .junk, .junk]) 0 (Nat.zero_le _) rfl (by simp only [PFrzP_nil, PFrzP_junk, PFrzP_same, PFrzP_ptr]) rfl) ?_
  refine SemW_re (GStep.freezeP (b := [.junk, .junk, .cp (nfC f1 o1 f2 o2 f3 o3 A) 0, .cp (nfC g1 p1 g2 p2 g3 p3 B) 0, .bool false, p64 0, .junk, .junk, .junk, .junk, .junk, .junk, .junk, .junk, .junk, .junk, .junk, .junk, .junk, .junk, .junk, .junk, .junk, .junk, .junk, .junk, .junk]) 1 (Nat.zero_le _) rfl (by simp only [PFrzP_nil, PFrzP_junk, PFrzP_same, PFrzP_ptr]) rfl) ?_
  refine SemW_seq (SemW_of ?_)
  simp only [PP, P1, P2, P3, P4, P5, P6, P7, P8, P9, P10, P11, P12, P13, P14, L1, P15, N1, N2, N3, N4, N5, N6, N7, I1, I2, I3, I4, I5, I6, I7, reduceIte, reduceCtorEq]
  refine unionN_p T BA BB ?_
  by_cases hu : uniE A B = 0
  rotate_left
  · simp only [PP, P1, P2, P3, P4, P5, P6, P7, P8, P9, P10, P11, P12, P13, P14, L1, P15, N1, N2, N3, N4, N5, N6, N7, I1, I2, I3, I4, I5, I6, I7, reduceIte, reduceCtorEq]
    refine SemW_of ?_
    simp only [PP, P1, P2, P3, P4, P5, P6, P7, P8, P9, P10, P11, P12, P13, P14, L1, P15, N1, N2, N3, N4, N5, N6, N7, I1, I2, I3, I4, I5, I6, I7, reduceIte, reduceCtorEq, hu]
    exact hk false _ (.inl ⟨hu, rfl, rfl⟩)
  have hQ : uniQ A B = uniN A B := by unfold uniQ; rw [if_pos hu]
  obtain ⟨a, b, c, d, e⟩ := uniE_ok hu
  have CA := nok_of a
  have na64 := CA.n64
  have hsa := posM_len CA.st na64
  rw [hu, hQ]
  simp only [PP, P1, P2, P3, P4, P5, P6, P7, P8, P9, P10, P11, P12, P13, P14, L1, P15, N1, N2, N3, N4, N5, N6, N7, I1, I2, I3, I4, I5, I6, I7, reduceIte, reduceCtorEq]
  refine SemW_seq (SemW_of ?_)
  simp only [PP, P1, P2, P3, P4, P5, P6, P7, P8, P9, P10, P11, P12, P13, P14, L1, P15, N1, N2, N3, N4, N5, N6, N7, I1, I2, I3, I4, I5, I6, I7, reduceIte, reduceCtorEq]
  refine SemW_seq (SemW_of ?_)
  simp only [PP, P1, P2, P3, P4, P5, P6, P7, P8, P9, P10, P11, P12, P13, P14, L1, P15, N1, N2, N3, N4, N5, N6, N7, I1, I2, I3, I4, I5, I6, I7, reduceIte, reduceCtorEq]
  refine relation_p T (uni_nok hu) (uni_bn BA BB hu) fun rs R => ?_
  simp only [PP, P1, P2, P3, P4, P5, P6, P7, P8, P9, P10, P11, P12, P13, P14, L1, P15, N1, N2, N3, N4, N5, N6, N7, I1, I2, I3, I4, I5, I6, I7, reduceIte, reduceCtorEq]
  refine SemW_re (GStep.freezeP (b := [.junk, .junk, .cp (nfC f1 o1 f2 o2 f3 o3 A) 0, .cp (nfC g1 p1 g2 p2 g3 p3 B) 0, .bool false, p64 0, .junk, .junk, .cp [slBr false true false true rs] 0, .junk, .junk, .junk, .junk, .junk, .junk, .junk, .junk, .junk, .junk, .junk, .junk, .junk, .junk, .junk, .junk, .junk, .junk]) 3 (Nat.zero_le _) rfl (by simp only [PFrzP_nil, PFrzP_junk, PFrzP_same, PFrzP_ptr]) rfl) ?_
  refine SemW_of ?_
  simp only [PP, P1, P2, P3, P4, P5, P6, P7, P8, P9, P10, P11, P12, P13, P14, L1, P15, N1, N2, N3, N4, N5, N6, N7, I1, I2, I3, I4, I5, I6, I7, reduceIte, reduceCtorEq]
  refine cont13_p T (F := fun p => decide (¬ ∃ q ∈ B.st, rAt rs p (A.n + q) = true)) (by omega) (by simp only [PP, P1, P2, P3, P4, P5, P6, P7, P8, P9, P10, P11, P12, P13, P14, L1, P15, N1, N2, N3, N4, N5, N6, N7, I1, I2, I3, I4, I5, I6, I7, reduceIte, reduceCtorEq, PV.under, egL_und, under_slBr, brs_und]) (fun p hp M' K' hK' => ?_) (fun hall => ?_) (fun ⟨p, hp, hF⟩ => ?_)
  · refine btw1_p T hu R.d hp fun b hb => ?_
    have : b = decide (¬ ∃ q ∈ B.st, rAt rs p (A.n + q) = true) := by rw [Bool.eq_iff_iff, hb]; simp
    rw [this]; exact hK'
  · simp only [PP, P1, P2, P3, P4, P5, P6, P7, P8, P9, P10, P11, P12, P13, P14, L1, P15, N1, N2, N3, N4, N5, N6, N7, I1, I2, I3, I4, I5, I6, I7, reduceIte, reduceCtorEq]
    exact hk true 0 (.inr ⟨hu, rfl, rs, R, fun _ p hp => Classical.not_not.1 (of_decide_eq_false (hall p hp)), fun _ => rfl⟩)
  · simp only [PP, P1, P2, P3, P4, P5, P6, P7, P8, P9, P10, P11, P12, P13, P14, L1, P15, N1, N2, N3, N4, N5, N6, N7, I1, I2, I3, I4, I5, I6, I7, reduceIte, reduceCtorEq]
    exact hk false 0 (.inr ⟨hu, rfl, rs, R, (fun h => by cases h), fun h => absurd (h p hp) (of_decide_eq_true hF)⟩)
end
end Go.Am.Ar
set_option linter.unusedVariables false
set_option linter.unusedSimpArgs false
set_option maxRecDepth 10000
namespace Go.Am.Ar
open Go.Am renaming pchk → P1, pold → P2, PKNo → P3, ppack → P4, PObj.under → P5, pput → P6, ptset → P7, ptget → P8, pev → P9, ofAV → P10, ofAV1 → P11, ppad → P12, pfill → P13, prepl → P14, AO.effect → P15
open List renaming replicate → L1
open Nat renaming reduceAdd → N1, reduceSub → N2, reduceMul → N3, reduceLT → N4, reduceLeDiff → N5, reduceEqDiff → N6, reduceBEq → N7
open Int renaming reduceToNat → I1, reduceLT → I2, reduceLE → I3, reduceEq → I4, reduceAdd → I5, reduceSub → I6, reduceNeg → I7
def matE (es : List Eg) (x : Nat) : List Eg := es.filter fun e => hasB e.ps e.ng x
section
variable {tab : FuncId → Option AF} (T : HasA tab)
include T
end
end Go.Am.Ar
set_option linter.unusedVariables false
set_option linter.unusedSimpArgs false
set_option maxRecDepth 10000
namespace Go.Am.Ar
open Go.Am renaming pchk → P1, pold → P2, PKNo → P3, ppack → P4, PObj.under → P5, pput → P6, ptset → P7, ptget → P8, pev → P9, ofAV → P10, ofAV1 → P11, ppad → P12, pfill → P13, prepl → P14, AO.effect → P15
open List renaming replicate → L1
open Nat renaming reduceAdd → N1, reduceSub → N2, reduceMul → N3, reduceLT → N4, reduceLeDiff → N5, reduceEqDiff → N6, reduceBEq → N7
open Int renaming reduceToNat → I1, reduceLT → I2, reduceLE → I3, reduceEq → I4, reduceAdd → I5, reduceSub → I6, reduceNeg → I7
section
variable {tab : FuncId → Option AF} (T : HasA tab)
include T
end
end Go.Am.Ar
set_option linter.unusedVariables false
set_option linter.unusedSimpArgs false
set_option maxRecDepth 10000
namespace Go.Am.Ar
open Go.Am renaming pchk → P1, pold → P2, PKNo → P3, ppack → P4, PObj.under → P5, pput → P6, ptset → P7, ptget → P8, pev → P9, ofAV → P10, ofAV1 → P11, ppad → P12, pfill → P13, prepl → P14, AO.effect → P15
open List renaming replicate → L1
open Nat renaming reduceAdd → N1, reduceSub → N2, reduceMul → N3, reduceLT → N4, reduceLeDiff → N5, reduceEqDiff → N6, reduceBEq → N7
open Int renaming reduceToNat → I1, reduceLT → I2, reduceLE → I3, reduceEq → I4, reduceAdd → I5, reduceSub → I6, reduceNeg → I7
section
variable {tab : FuncId → Option AF} (T : HasA tab)
include T
end
end Go.Am.Ar
set_option linter.unusedVariables false
namespace Go.Am.Ar
theorem mem_mvL {v p : Int} {es : List Eg} {x : Nat} {u : Int} : (x, u) ∈ mvL v p es ↔ x < 2 ^ v.toNat ∧ ∃ e ∈ matE es x, e.fr = p ∧ e.to = u := by
  unfold mvL matE
  rw [List.mem_flatMap]
  constructor
  · rintro ⟨e, he, h⟩
    unfold mvE at h
    split at h
    · rename_i q
      obtain ⟨y, hy, z⟩ := List.mem_map.1 h
      cases z
      obtain ⟨h1, h2⟩ := List.mem_filter.1 hy
      exact ⟨List.mem_range.1 h1, e, List.mem_filter.2 ⟨he, h2⟩, q, rfl⟩
    · cases h
  · rintro ⟨hx, e, he, h1, h2⟩
    obtain ⟨h3, h4⟩ := List.mem_filter.1 he
    refine ⟨e, h3, ?_⟩
    unfold mvE
    rw [if_pos h1]
    exact List.mem_map.2 ⟨x, List.mem_filter.2 ⟨List.mem_range.2 hx, h4⟩, by rw [h2]⟩
end Go.Am.Ar
set_option linter.unusedVariables false
namespace Go.Am.Ar
section
variable {N : NF} {rs : List (List Bool)} {l : List Int} {m : Nat} (C : NOk N) (R : RelOk N rs) (hC : ClsI rs N.n.toNat l m)
include C R hC
end
end Go.Am.Ar
set_option linter.unusedVariables false
namespace Go.Am.Ar
section
variable {A B : NF} (hu : uniE A B = 0)
include hu
theorem uni_mat1 {x : Nat} {p : Int} {e : Eg} (pn : p < A.n) : (e ∈ matE (uniN A B).es x ∧ e.fr = p) ↔ (e ∈ matE A.es x ∧ e.fr = p) := by
  obtain ⟨a, b, c, d, _⟩ := uniE_ok hu
  have CB := nok_of b
  unfold matE uniN
  simp only [List.filter_append, List.mem_append, List.mem_filter, List.mem_map]
  constructor
  · rintro ⟨h | ⟨⟨y, hy, rfl⟩, _⟩, h2⟩
    · exact ⟨h, h2⟩
    · have := CB.ed y hy
      exfalso
      have h2 : A.n + y.fr = p := h2
      omega
  · rintro ⟨h, h2⟩
    exact ⟨.inl h, h2⟩
theorem uni_mat2 {x : Nat} {q : Int} {e : Eg} (q0 : 0 ≤ q) : (e ∈ matE (uniN A B).es x ∧ e.fr = A.n + q) ↔ ∃ y ∈ matE B.es x, y.fr = q ∧ e = shG A.n y := by
  obtain ⟨a, b, c, d, _⟩ := uniE_ok hu
  have CA := nok_of a
  unfold matE uniN
  simp only [List.filter_append, List.mem_append, List.mem_filter, List.mem_map]
  constructor
  · rintro ⟨⟨h1, h2⟩ | ⟨⟨y, hy, rfl⟩, h3⟩, h2⟩
    · have := CA.ed e h1
      omega
    · have h2 : A.n + y.fr = A.n + q := h2
      exact ⟨y, ⟨hy, h3⟩, by omega, rfl⟩
  · rintro ⟨y, ⟨hy, h3⟩, h4, rfl⟩
    exact ⟨.inr ⟨⟨y, hy, rfl⟩, h3⟩, by show A.n + y.fr = _; omega⟩
theorem uni_fi1 {p : Int} (pn : p < A.n) : p ∈ (uniN A B).fi ↔ p ∈ A.fi := by
  obtain ⟨a, b, c, d, _⟩ := uniE_ok hu
  have hb := posM_mem (nok_of b).fi
  unfold uniN shI
  simp only [List.mem_append, List.mem_map]
  constructor
  · rintro (h | ⟨y, hy, h⟩)
    · exact h
    · have := hb y hy; omega
  · exact .inl
theorem uni_fi2 {q : Int} (q0 : 0 ≤ q) : A.n + q ∈ (uniN A B).fi ↔ q ∈ B.fi := by
  obtain ⟨a, b, c, d, _⟩ := uniE_ok hu
  have ha := posM_mem (nok_of a).fi
  unfold uniN shI
  simp only [List.mem_append, List.mem_map]
  constructor
  · rintro (h | ⟨y, hy, h⟩)
    · have := ha _ h; omega
    · have : y = q := by omega
      subst this; exact hy
  · intro h; exact .inr ⟨q, h, rfl⟩
theorem uni_sim {rs : List (List Bool)} (R : RelOk (uniN A B) rs) (G : Int → Int → Prop)
    (hG : ∀ p q, 0 ≤ p → p < A.n → 0 ≤ q → q < B.n → G p q → (p ∈ A.fi → q ∈ B.fi) ∧ ∀ (x : Nat) (e : Eg), x < 2 ^ A.vs.toNat → e ∈ matE A.es x → e.fr = p → ∃ e' ∈ matE B.es x, e'.fr = q ∧ G e.to e'.to) :
    ∀ p q, 0 ≤ p → p < A.n → 0 ≤ q → q < B.n → G p q → rAt rs p (A.n + q) = true := by
  classical
  intro p q p0 pn q0 qn hpq
  obtain ⟨a, b, c, d, _⟩ := uniE_ok hu
  have CA := nok_of a
  have CB := nok_of b
  have na0 := CA.n0
  have hn : (uniN A B).n = A.n + B.n := rfl
  have key := R.u (fun u v => decide (0 ≤ u ∧ u < A.n ∧ A.n ≤ v ∧ v < A.n + B.n ∧ G u (v - A.n))) (fun u v hu' hv' h => ?_) p.toNat (A.n + q).toNat (by omega) (by omega) (decide_eq_true ?_)
  · rwa [Int.toNat_of_nonneg p0, Int.toNat_of_nonneg (by omega)] at key
  · obtain ⟨u0, un, v0, vn, hg⟩ := of_decide_eq_true h
    obtain ⟨g1, g2⟩ := hG u (v - A.n) u0 un (by omega) (by omega) hg
    have ev : (v : Int) = A.n + (v - A.n) := by omega
    refine ⟨fun hf => ?_, fun xu hxu => ?_⟩
    · rw [ev, uni_fi2 hu (by omega)]
      exact g1 ((uni_fi1 hu un).1 hf)
    · obtain ⟨x, t⟩ := xu
      obtain ⟨hx, e, k1, k2, k3⟩ := mem_mvL.1 hxu
      obtain ⟨k4, _⟩ := (uni_mat1 hu un).1 ⟨k1, k2⟩
      obtain ⟨q1, q2, q3, q4, _⟩ := CA.ed e (List.mem_filter.1 k4).1
      obtain ⟨e', m1, m2, m3⟩ := g2 x e hx k4 k2
      obtain ⟨q5, q6, q7, q8, _⟩ := CB.ed e' (List.mem_filter.1 m1).1
      have m4 := (uni_mat2 hu (q := v - A.n) (by omega)).2 ⟨e', m1, m2, rfl⟩
      refine ⟨(x, A.n + e'.to), mem_mvL.2 ⟨hx, shG A.n e', m4.1, by rw [m4.2]; omega, rfl⟩, rfl, ?_⟩
      refine decide_eq_true ⟨?_, ?_, ?_, ?_, ?_⟩
      · show 0 ≤ t; omega
      · show t < A.n; omega
      · show A.n ≤ A.n + e'.to; omega
      · show A.n + e'.to < A.n + B.n; omega
      · show G t (A.n + e'.to - A.n)
        rw [← k3, show A.n + e'.to - A.n = e'.to by omega]; exact m3
  · rw [Int.toNat_of_nonneg p0, Int.toNat_of_nonneg (by omega), show A.n + q - A.n = q by omega]
    exact ⟨p0, pn, by omega, by omega, hpq⟩
end
section
variable {N : NF} {rs : List (List Bool)} {l : List Int} {m : Nat} (C : NOk N) (R : RelOk N rs) (hC : ClsI rs N.n.toNat l m)
include C R hC
end
end Go.Am.Ar
set_option linter.unusedVariables false
namespace Go.Am.Ar
def badN : NF := ⟨7, 0, [], [], []⟩
def thrN (pos : Int) : NF := ⟨1, 3, [], [2], [⟨0, 2, pos, 0⟩, ⟨1, 2, 0, 0⟩]⟩
def thrS (pos q : Int) : NF := ⟨1, 3, [q], [2], [⟨0, 2, pos, 0⟩, ⟨1, 2, 0, 0⟩]⟩
theorem bad_ck : checkN badN = 7 := by decide
theorem thr_ck1 : checkN (thrN 1) = 0 := by decide
theorem bn_small {N : NF} (h1 : N.st.length ≤ 9) (h2 : N.fi.length ≤ 9) (h3 : N.es.length ≤ 9) (h4 : ∀ x ∈ N.es, (0 ≤ x.ps ∧ x.ps ≤ 255) ∧ (0 ≤ x.ng ∧ x.ng ≤ 255)) : BnN N :=
  ⟨by show _ < 1000000000000; omega, by show _ < 1000000000000; omega, by show _ < 1000000000000; omega, h4⟩
theorem bad_bn : BnN badN := bn_small (by decide) (by decide) (by decide) (fun x hx => by cases hx)
theorem zero_bn : BnN zeroN := bn_small (by decide) (by decide) (by decide) (fun x hx => by cases hx)
theorem thr_bn (pos q : Int) (h : 0 ≤ pos ∧ pos ≤ 255) : BnN (thrN pos) ∧ BnN (thrS pos q) := by
  have : ∀ x ∈ (thrN pos).es, (0 ≤ x.ps ∧ x.ps ≤ 255) ∧ (0 ≤ x.ng ∧ x.ng ≤ 255) := fun x hx => by
    rcases List.mem_cons.1 hx with rfl | hx
    · exact ⟨h, by show (0 : Int) ≤ 0 ∧ (0 : Int) ≤ 255; decide⟩
    · rcases List.mem_cons.1 hx with rfl | hx
      · exact ⟨by decide, by decide⟩
      · cases hx
  exact ⟨bn_small (by simp [thrN]) (by simp [thrN]) (by simp [thrN]) this, bn_small (by simp [thrS]) (by simp [thrS]) (by simp [thrS]) this⟩
theorem is_short {b : Bool} {e : Int} (h : IsA (thrN 1) [[true]] b e) : e = 2 := by
  rcases h with ⟨h, _⟩ | ⟨_, _, _, h⟩ | ⟨_, h, _⟩
  · exact absurd thr_ck1 h
  · exact h
  · exact absurd h.1 (by decide)
theorem is_rag {b : Bool} {e : Int} (h : IsA (thrN 1) [[true, true, true], [true, true, true], [true, true]] b e) : e = 2 := by
  rcases h with ⟨h, _⟩ | ⟨_, _, _, h⟩ | ⟨_, h, _⟩
  · exact absurd thr_ck1 h
  · exact h
  · exact absurd (h.2 [true, true] (by simp)) (by decide)
theorem three_cases {p : Nat} (h : (p : Int) < 3) : p = 0 ∨ p = 1 ∨ p = 2 := by omega
theorem dim3 (b : Bool) : DimOk (thrN 1) [[b, b, b], [b, b, b], [b, b, b]] := by
  refine ⟨rfl, fun r hr => ?_⟩
  simp at hr
  subst hr; rfl
theorem is_none {b : Bool} {e : Int} (h : IsA (thrN 1) [[false, false, false], [false, false, false], [false, false, false]] b e) : b = true ∧ e = 0 := by
  rcases h with ⟨h, _⟩ | ⟨_, h, _⟩ | ⟨_, _, h, h2⟩
  · exact absurd thr_ck1 h
  · exact absurd (dim3 false) h
  · refine ⟨h.2 fun p q hp hq hr => ?_, h2⟩
    rcases three_cases hp with rfl | rfl | rfl <;> rcases three_cases hq with rfl | rfl | rfl <;> cases hr
theorem is_all {b : Bool} {e : Int} (h : IsA (thrN 1) [[true, true, true], [true, true, true], [true, true, true]] b e) : b = false ∧ e = 0 := by
  rcases h with ⟨h, _⟩ | ⟨_, h, _⟩ | ⟨_, _, h, h2⟩
  · exact absurd thr_ck1 h
  · exact absurd (dim3 true) h
  · refine ⟨?_, h2⟩
    rw [Bool.eq_false_iff]
    intro hb
    have := (h.1 hb 2 0 (by decide) (by decide) rfl).1 (by decide)
    exact absurd this (by decide)
theorem btw_err {A B : NF} {b : Bool} {e c : Int} (h : BtwA A B b e) (hc : uniE A B = c) (h0 : c ≠ 0) : e = c := by
  rcases h with ⟨_, _, h⟩ | ⟨h, _⟩
  · rw [h, hc]
  · rw [hc] at h; exact absurd h h0
theorem btw_empty {b : Bool} {e : Int} (h : BtwA (thrN 1) (thrN 1) b e) : b = true ∧ e = 0 := by
  rcases h with ⟨h, _⟩ | ⟨_, h, rs, _, h2⟩
  · exact absurd (by decide) h
  · exact ⟨h2.2 (fun p hp => nomatch hp), h⟩
theorem hasB_any (x : Nat) : hasB 0 0 x = true := by simp [hasB, bAnd]
theorem up_uni : uniE (thrS 1 0) (thrS 0 1) = 0 := by decide
theorem down_uni : uniE (thrS 0 1) (thrS 1 0) = 0 := by decide
theorem btw_upX {b : Bool} {e : Int} (h : BtwA (thrS 1 0) (thrS 0 1) b e) : b = true ∧ e = 0 := by
  rcases h with ⟨h, _⟩ | ⟨_, h, rs, R, h2⟩
  · exact absurd up_uni h
  refine ⟨h2.2 fun p hp => ?_, h⟩
  have hp : p = 0 := by simpa [thrS] using hp
  subst hp
  refine ⟨1, by simp [thrS], ?_⟩
  refine uni_sim up_uni R (fun p q => (p = 0 ∧ q = 1) ∨ (p = 2 ∧ q = 2)) (fun p q _ _ _ _ hpq => ?_) 0 1 (by decide) (by decide) (by decide) (by decide) (.inl ⟨rfl, rfl⟩)
  rcases hpq with ⟨rfl, rfl⟩ | ⟨rfl, rfl⟩
  · refine ⟨fun hf => absurd hf (by decide), fun x e _ he hfr => ?_⟩
    obtain ⟨h1, _⟩ := List.mem_filter.1 he
    rcases List.mem_cons.1 h1 with rfl | h1
    · exact ⟨⟨1, 2, 0, 0⟩, List.mem_filter.2 ⟨by simp [thrS], hasB_any x⟩, rfl, .inr ⟨rfl, rfl⟩⟩
    · rcases List.mem_cons.1 h1 with rfl | h1
      · exact absurd hfr (by decide)
      · cases h1
  · refine ⟨fun hf => by simp [thrS], fun x e _ he hfr => ?_⟩
    obtain ⟨h1, _⟩ := List.mem_filter.1 he
    rcases List.mem_cons.1 h1 with rfl | h1
    · exact absurd hfr (by decide)
    · rcases List.mem_cons.1 h1 with rfl | h1
      · exact absurd hfr (by decide)
      · cases h1
theorem btw_downX {b : Bool} {e : Int} (h : BtwA (thrS 0 1) (thrS 1 0) b e) : b = false ∧ e = 0 := by
  rcases h with ⟨h, _⟩ | ⟨_, h, rs, R, h2⟩
  · exact absurd down_uni h
  refine ⟨?_, h⟩
  rw [Bool.eq_false_iff]
  intro hb
  obtain ⟨q, hq, hr⟩ := h2.1 hb 1 (by simp [thrS])
  have hq : q = 0 := by simpa [thrS] using hq
  subst hq
  have hs := R.s 1 3 (by decide) (by decide) hr
  obtain ⟨⟨y, v⟩, k1, k2, _⟩ := hs.2 (0, 2) (mem_mvL.2 ⟨by decide, ⟨1, 2, 0, 0⟩, by decide, rfl, rfl⟩)
  simp only at k2
  subst k2
  obtain ⟨_, e2, m1, m2, _⟩ := mem_mvL.1 k1
  obtain ⟨z, m3, m4, _⟩ := (uni_mat2 down_uni (q := 0) (by decide)).1 ⟨m1, m2⟩
  obtain ⟨h1, h3⟩ := List.mem_filter.1 m3
  rcases List.mem_cons.1 h1 with rfl | h1
  · exact absurd h3 (by decide)
  · rcases List.mem_cons.1 h1 with rfl | h1
    · exact absurd m4 (by decide)
    · cases h1
end Go.Am.Ar

