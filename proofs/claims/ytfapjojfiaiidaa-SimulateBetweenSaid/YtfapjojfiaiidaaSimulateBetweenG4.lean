/- The union of automata, and nfa.Union, and what goes with it. -/
import Derived.Test.YtfapjojfiaiidaaSimulateBetweenG0
import Derived.Test.YtfapjojfiaiidaaSimulateBetweenG3
import Derived.Test.YtfapjojfiaiidaaPmC
import Derived.Test.YtfapjojfiaiidaaSimulateBetweenG2
import Derived.Test.YtfapjojfiaiidaaSimulateBetweenG1
set_option linter.unusedVariables false
set_option linter.unusedSimpArgs false
set_option maxRecDepth 10000
namespace Go.Am.Ar
open Go.Am renaming pchk → P1, pold → P2, PKNo → P3, ppack → P4, PObj.under → P5, pput → P6, ptset → P7, ptget → P8, pev → P9, ofAV → P10, ofAV1 → P11, ppad → P12, pfill → P13, prepl → P14, AO.effect → P15
open List renaming replicate → L1
open Nat renaming reduceAdd → N1, reduceSub → N2, reduceMul → N3, reduceLT → N4, reduceLeDiff → N5, reduceEqDiff → N6, reduceBEq → N7
open Int renaming reduceToNat → I1, reduceLT → I2, reduceLE → I3, reduceEq → I4, reduceAdd → I5, reduceSub → I6, reduceNeg → I7
def shI (a : Int) (xs : List Int) : List Int := xs.map fun x => a + x
def shG (a : Int) (e : Eg) : Eg := ⟨a + e.fr, a + e.to, e.ps, e.ng⟩
def uniN (A B : NF) : NF := ⟨A.vs, A.n + B.n, A.st ++ shI A.n B.st, A.fi ++ shI A.n B.fi, A.es ++ B.es.map (shG A.n)⟩
def uniE (A B : NF) : Int := if checkN A = 0 then (if checkN B = 0 then (if A.vs = B.vs then (if 64 < A.n + B.n then 4 else if 512 < (A.es.length : Int) + B.es.length then 4 else 0) else 7) else checkN B) else checkN A
def uniQ (A B : NF) : NF := if uniE A B = 0 then uniN A B else zeroN
section
variable {tab : FuncId → Option AF} (T : HasA tab)
include T
set_option maxHeartbeats 2000000 in
theorem unionN_p {M : Mem} {K : PV → Mem → Prop} {f1 o1 f2 o2 f3 o3 g1 p1 g2 p2 g3 p3 : Bool} {A B : NF} (BA : BnN A) (BB : BnN B) (hk : K (.tuple [.agg (nfC false true false true false true (uniQ A B)), p64 (uniE A B)]) M) :
    SemC tab 36 [.agg (nfC f1 o1 f2 o2 f3 o3 A), .agg (nfC g1 p1 g2 p2 g3 p3 B)] M K := by
  refine SemC_wk ?_
  refine SemC_pureS T.h36 (by simp only [PP, P1, P2, P3, P4, P5, P6, P7, P8, P9, P10, P11, P12, P13, P14, L1, P15, N1, N2, N3, N4, N5, N6, N7, I1, I2, I3, I4, I5, I6, I7, reduceIte, reduceCtorEq, under_slE]) ?_
  have bad : ∀ e, e ≠ 0 → uniE A B = e → ∃ r', PvWk (.tuple [.agg [p64 0, p64 0, .nils, .nils, .nils], p64 e]) r' ∧ K r' M := fun e he hu => by
    refine ⟨_, wk_two wk_zeroN, ?_⟩
    have e1 : uniQ A B = zeroN := by unfold uniQ; rw [if_neg (by rw [hu]; exact he)]
    rw [e1, hu] at hk; exact hk
  simp only [af36]
  refine SemW_seq (SemW_of ?_)
  simp only [PP, P1, P2, P3, P4, P5, P6, P7, P8, P9, P10, P11, P12, P13, P14, L1, P15, N1, N2, N3, N4, N5, N6, N7, I1, I2, I3, I4, I5, I6, I7, reduceIte, reduceCtorEq]
  refine SemW_re (GStep.freezeP (b := [.junk, .junk, .cp (nfC f1 o1 f2 o2 f3 o3 A) 0, .ptr 1 0 0, .ptr 2 0 0, p64 0, .junk, .junk, .junk, .junk, .junk, .junk, .junk, .junk, .junk, .junk, .junk, .junk, .junk, .junk, .junk, .junk, .junk, .junk, .junk, .junk, .junk, .junk, .junk, .junk, .junk, .junk, .junk, .junk, .junk, .junk, .junk, .junk, .junk, .junk, .junk, .junk, .junk, .junk, .junk, .junk, .junk, .junk, .junk, .junk, .junk, .junk, .junk, .junk, .junk, .junk, .junk, .junk, .junk, .junk, .junk, .junk, .junk, .junk, .junk, .junk, .junk, .junk, .junk, .junk, .junk, .junk, .junk, .junk, .junk, .junk, .junk, .junk, .junk, .junk, .junk, .junk, .junk, .junk, .junk, .junk, .junk, .junk, .junk, .junk, .junk, .junk, .junk, .junk, .junk, .junk, .junk, .junk, .junk, .junk, .junk, .junk, .junk, .junk, .junk, .junk, .junk, .junk, .junk, .junk, .junk, .junk, .junk, .junk, .junk, .junk, .junk, .junk, .junk, .junk, .junk, .junk, .junk, .junk, .junk, .junk, .junk]) 0 (Nat.zero_le _) rfl (by simp only [PFrzP_nil, PFrzP_junk, PFrzP_same, PFrzP_ptr]) rfl) ?_
  refine SemW_re (GStep.freezeP (b := [.junk, .junk, .cp (nfC f1 o1 f2 o2 f3 o3 A) 0, .cp (nfC g1 p1 g2 p2 g3 p3 B) 0, .ptr 2 0 0, p64 0, .junk, .junk, .junk, .junk, .junk, .junk, .junk, .junk, .junk, .junk, .junk, .junk, .junk, .junk, .junk, .junk, .junk, .junk, .junk, .junk, .junk, .junk, .junk, .junk, .junk, .junk, .junk, .junk, .junk, .junk, .junk, .junk, .junk, .junk, .junk, .junk, .junk, .junk, .junk, .junk, .junk, .junk, .junk, .junk, .junk, .junk, .junk, .junk, .junk, .junk, .junk, .junk, .junk, .junk, .junk, .junk, .junk, .junk, .junk, .junk, .junk, .junk, .junk, .junk, .junk, .junk, .junk, .junk, .junk, .junk, .junk, .junk, .junk, .junk, .junk, .junk, .junk, .junk, .junk, .junk, .junk, .junk, .junk, .junk, .junk, .junk, .junk, .junk, .junk, .junk, .junk, .junk, .junk, .junk, .junk, .junk, .junk, .junk, .junk, .junk, .junk, .junk, .junk, .junk, .junk, .junk, .junk, .junk, .junk, .junk, .junk, .junk, .junk, .junk, .junk, .junk, .junk, .junk, .junk, .junk, .junk]) 1 (Nat.zero_le _) rfl (by simp only [PFrzP_nil, PFrzP_junk, PFrzP_same, PFrzP_ptr]) rfl) ?_
  refine SemW_of ?_
  simp only [PP, P1, P2, P3, P4, P5, P6, P7, P8, P9, P10, P11, P12, P13, P14, L1, P15, N1, N2, N3, N4, N5, N6, N7, I1, I2, I3, I4, I5, I6, I7, reduceIte, reduceCtorEq]
  refine check_p T BA ?_
  by_cases c1 : checkN A = 0
  rotate_left
  · simp only [PP, P1, P2, P3, P4, P5, P6, P7, P8, P9, P10, P11, P12, P13, P14, L1, P15, N1, N2, N3, N4, N5, N6, N7, I1, I2, I3, I4, I5, I6, I7, reduceIte, reduceCtorEq, c1]
    exact bad _ c1 (by unfold uniE; rw [if_neg c1])
  simp only [PP, P1, P2, P3, P4, P5, P6, P7, P8, P9, P10, P11, P12, P13, P14, L1, P15, N1, N2, N3, N4, N5, N6, N7, I1, I2, I3, I4, I5, I6, I7, reduceIte, reduceCtorEq, c1]
  refine check_p T BB ?_
  by_cases c2 : checkN B = 0
  rotate_left
  · simp only [PP, P1, P2, P3, P4, P5, P6, P7, P8, P9, P10, P11, P12, P13, P14, L1, P15, N1, N2, N3, N4, N5, N6, N7, I1, I2, I3, I4, I5, I6, I7, reduceIte, reduceCtorEq, c2]
    exact bad _ c2 (by unfold uniE; rw [if_pos c1, if_neg c2])
  simp only [PP, P1, P2, P3, P4, P5, P6, P7, P8, P9, P10, P11, P12, P13, P14, L1, P15, N1, N2, N3, N4, N5, N6, N7, I1, I2, I3, I4, I5, I6, I7, reduceIte, reduceCtorEq, c2]
  have CA := nok_of c1
  have CB := nok_of c2
  have na0 := CA.n0
  have na64 := CA.n64
  have nb0 := CB.n0
  have nb64 := CB.n64
  have ea := CA.e512
  have eb := CB.e512
  by_cases c3 : A.vs = B.vs
  rotate_left
  · simp only [PP, P1, P2, P3, P4, P5, P6, P7, P8, P9, P10, P11, P12, P13, P14, L1, P15, N1, N2, N3, N4, N5, N6, N7, I1, I2, I3, I4, I5, I6, I7, reduceIte, reduceCtorEq, c3]
    exact bad 7 (by decide) (by unfold uniE; rw [if_pos c1, if_pos c2, if_neg c3])
  have wn : IntKind.i64.wrap (A.n + B.n) = A.n + B.n := wrap64 (by omega) (by omega)
  have we : IntKind.i64.wrap ((A.es.length : Int) + B.es.length) = (A.es.length : Int) + B.es.length := wrap64 (by omega) (by omega)
  simp only [PP, P1, P2, P3, P4, P5, P6, P7, P8, P9, P10, P11, P12, P13, P14, L1, P15, N1, N2, N3, N4, N5, N6, N7, I1, I2, I3, I4, I5, I6, I7, reduceIte, reduceCtorEq, c3, wn]
  refine QIf.intro (fun c4 => ?_) (fun c4 => ?_)
  · simp only [PP, P1, P2, P3, P4, P5, P6, P7, P8, P9, P10, P11, P12, P13, P14, L1, P15, N1, N2, N3, N4, N5, N6, N7, I1, I2, I3, I4, I5, I6, I7, reduceIte, reduceCtorEq, c4]
    exact bad 4 (by decide) (by unfold uniE; rw [if_pos c1, if_pos c2, if_pos c3, if_pos c4])
  simp only [PP, P1, P2, P3, P4, P5, P6, P7, P8, P9, P10, P11, P12, P13, P14, L1, P15, N1, N2, N3, N4, N5, N6, N7, I1, I2, I3, I4, I5, I6, I7, reduceIte, reduceCtorEq, c4, we]
  refine QIf.intro (fun c5 => ?_) (fun c5 => ?_)
  · simp only [PP, P1, P2, P3, P4, P5, P6, P7, P8, P9, P10, P11, P12, P13, P14, L1, P15, N1, N2, N3, N4, N5, N6, N7, I1, I2, I3, I4, I5, I6, I7, reduceIte, reduceCtorEq, c5]
    exact bad 4 (by decide) (by unfold uniE; rw [if_pos c1, if_pos c2, if_pos c3, if_neg c4, if_pos c5])
  have hu : uniE A B = 0 := by unfold uniE; rw [if_pos c1, if_pos c2, if_pos c3, if_neg c4, if_neg c5]
  have hQ : uniQ A B = uniN A B := by unfold uniQ; rw [if_pos hu]
  rw [hu, hQ] at hk
  simp only [PP, P1, P2, P3, P4, P5, P6, P7, P8, P9, P10, P11, P12, P13, P14, L1, P15, N1, N2, N3, N4, N5, N6, N7, I1, I2, I3, I4, I5, I6, I7, reduceIte, reduceCtorEq, c5, wn]
  refine cloneL_p T BA.s fun ga va => ?_
  simp only [PP, P1, P2, P3, P4, P5, P6, P7, P8, P9, P10, P11, P12, P13, P14, L1, P15, N1, N2, N3, N4, N5, N6, N7, I1, I2, I3, I4, I5, I6, I7, reduceIte, reduceCtorEq]
  refine cloneL_p T BA.f fun gb vb => ?_
  simp only [PP, P1, P2, P3, P4, P5, P6, P7, P8, P9, P10, P11, P12, P13, P14, L1, P15, N1, N2, N3, N4, N5, N6, N7, I1, I2, I3, I4, I5, I6, I7, reduceIte, reduceCtorEq]
  refine cloneE_p T BA.e fun gc vc => ?_
  simp only [PP, P1, P2, P3, P4, P5, P6, P7, P8, P9, P10, P11, P12, P13, P14, L1, P15, N1, N2, N3, N4, N5, N6, N7, I1, I2, I3, I4, I5, I6, I7, reduceIte, reduceCtorEq]
  have hsb := posM_len CB.st nb64
  have hfb := posM_len CB.fi nb64
  have hsa := posM_len CA.st na64
  have hfa := posM_len CA.fi na64
  have hs := posM_mem CB.st
  have hf := posM_mem CB.fi
  refine loop4 (fun (k g v vm : Nat) => k ≤ B.st.length) (fun k g v vm => [.junk, .junk, .cp (nfC f1 o1 f2 o2 f3 o3 A) 0, .cp (nfC g1 p1 g2 p2 g3 p3 B) 0, .ptr 2 0 0, .junk, .junk, .junk, .junk, .junk, .junk, .junk, .junk, .junk, .junk, .junk, .junk, .junk, .junk, .junk, .junk, .junk, .junk, .junk, .junk, .junk, .junk, .junk, .junk, .junk, .junk, .junk, .junk, .junk, .junk, .junk, .junk, .junk, .junk, .junk, .junk, .junk, .junk, .junk, .junk, .junk, .junk, .junk, .junk, .junk, .junk, .junk, .junk, .junk, .junk, .junk, .junk, .junk, .junk, .junk, .junk, .junk, .junk, .junk, .junk, .junk, .junk, slI g1 p1 .i64 B.st, p64 B.st.length, p64 k, .junk, .junk, .junk, .junk, .junk, .junk, .junk, .junk, .junk, .junk, .junk, .junk, .junk, .junk, .junk, .junk, .junk, .junk, .junk, .junk, .junk, .junk, .junk, .junk, .junk, .junk, .junk, .junk, .junk, .junk, .junk, .junk, .junk, .junk, .junk, .junk, .junk, .junk, .junk, .junk, .junk, .junk, .junk, .junk, .junk, .junk, .junk, .junk, .junk, .junk, .junk, .junk, .junk, .junk, .junk, .junk, .junk]) (fun k g v vm => [.gone, .gone, .cells 0 vm [p64 A.vs, p64 (A.n + B.n), .ref 3 g 1 0 (A.st.length + k), .ref 4 gb 1 0 A.fi.length, .ref 5 gc 4 0 A.es.length], .cells g v ((A.st ++ shI A.n (B.st.take k)).map p64), .cells gb vb (A.fi.map p64), .cells gc vc (egL A.es)]) (fun k _ _ _ => B.st.length - k) 0 ga va 1 (by omega) (by simp only [PWeak_nil, PWeak_junk, PWeak_same, Int.cast_ofNat_Int, List.length_append, List.length_cons, List.length_nil, Nat.zero_add]) (by simp [shI]) ?_
  intro k g v vm hle ih
  refine SemW_go (by kernel_rfl) ?_
  simp only [PP, P1, P2, P3, P4, P5, P6, P7, P8, P9, P10, P11, P12, P13, P14, L1, P15, N1, N2, N3, N4, N5, N6, N7, I1, I2, I3, I4, I5, I6, I7, reduceIte, reduceCtorEq]
  refine QIf.intro (fun c => ?_) (fun c => ?_)
  · have hk' : k < B.st.length := by omega
    obtain ⟨x, gx⟩ := some_of hk'
    have hx := hs x (List.mem_of_getElem? gx)
    have k0 : (0 : Int) ≤ k := by omega
    have hwk := wrap_succ (k := k) (by show _ < 1000000000000; omega)
    have hwx : IntKind.i64.wrap (A.n + x) = A.n + x := wrap64 (by omega) (by omega)
    have hln : (shI A.n (B.st.take k)).length = k := by simp [shI]; omega
    have b8 : (A.st.length + k + 1) * 8 ≤ 140737488355328 := by omega
    have b1 : A.st.length + k ≤ 9223372036854775806 := by omega
    have hps : psub (A.st.map p64 ++ (shI A.n (B.st.take k)).map p64) 0 (A.st.length + k) = A.st.map p64 ++ (shI A.n (B.st.take k)).map p64 := psub_all _ _ (by simp [hln])
    simp only [PP, P1, P2, P3, P4, P5, P6, P7, P8, P9, P10, P11, P12, P13, P14, L1, P15, N1, N2, N3, N4, N5, N6, N7, I1, I2, I3, I4, I5, I6, I7, reduceIte, reduceCtorEq, c, k0, gx, hwk, hwx, b8, b1, hps, hln]
    have htk : shI A.n (B.st.take (k + 1)) = shI A.n (B.st.take k) ++ [A.n + x] := by rw [List.take_add_one, gx]; simp [shI]
    exact SemW_to (ih (k + 1) (g + 1) 0 (vm + 1) (by omega) (by omega)) (by simp only [PWeak_nil, PWeak_junk, PWeak_same, Int.cast_ofNat_Int, List.length_append, List.length_cons, List.length_nil, Nat.zero_add]) (by rw [htk]; simp [Nat.add_assoc])
  have hkn : k = B.st.length := by omega
  subst hkn
  rw [List.take_of_length_le (Nat.le_refl _)]
  simp only [PP, P1, P2, P3, P4, P5, P6, P7, P8, P9, P10, P11, P12, P13, P14, L1, P15, N1, N2, N3, N4, N5, N6, N7, I1, I2, I3, I4, I5, I6, I7, reduceIte, reduceCtorEq, c]
  refine loop4 (fun (k gb vb vm : Nat) => k ≤ B.fi.length) (fun k gb vb vm => [.junk, .junk, .cp (nfC f1 o1 f2 o2 f3 o3 A) 0, .cp (nfC g1 p1 g2 p2 g3 p3 B) 0, .ptr 2 0 0, .junk, .junk, .junk, .junk, .junk, .junk, .junk, .junk, .junk, .junk, .junk, .junk, .junk, .junk, .junk, .junk, .junk, .junk, .junk, .junk, .junk, .junk, .junk, .junk, .junk, .junk, .junk, .junk, .junk, .junk, .junk, .junk, .junk, .junk, .junk, .junk, .junk, .junk, .junk, .junk, .junk, .junk, .junk, .junk, .junk, .junk, .junk, .junk, .junk, .junk, .junk, .junk, .junk, .junk, .junk, .junk, .junk, .junk, .junk, .junk, .junk, .junk, .junk, .junk, .junk, .junk, .junk, .junk, .junk, .junk, .junk, .junk, .junk, .junk, .junk, .junk, .junk, .junk, .junk, slI g2 p2 .i64 B.fi, p64 B.fi.length, p64 k, .junk, .junk, .junk, .junk, .junk, .junk, .junk, .junk, .junk, .junk, .junk, .junk, .junk, .junk, .junk, .junk, .junk, .junk, .junk, .junk, .junk, .junk, .junk, .junk, .junk, .junk, .junk, .junk, .junk, .junk, .junk, .junk, .junk, .junk, .junk, .junk, .junk, .junk, .junk, .junk]) (fun k gb vb vm => [.gone, .gone, .cells 0 vm [p64 A.vs, p64 (A.n + B.n), .ref 3 g 1 0 (A.st.length + B.st.length), .ref 4 gb 1 0 (A.fi.length + k), .ref 5 gc 4 0 A.es.length], .cells g v (A.st.map p64 ++ (shI A.n B.st).map p64), .cells gb vb ((A.fi ++ shI A.n (B.fi.take k)).map p64), .cells gc vc (egL A.es)]) (fun k _ _ _ => B.fi.length - k) 0 gb vb vm (by omega) (by simp only [PWeak_nil, PWeak_junk, PWeak_same, Int.cast_ofNat_Int, List.length_append, List.length_cons, List.length_nil, Nat.zero_add]) (by simp [shI]) ?_
  intro k gb vb vm hle ih
  refine SemW_go (by kernel_rfl) ?_
  simp only [PP, P1, P2, P3, P4, P5, P6, P7, P8, P9, P10, P11, P12, P13, P14, L1, P15, N1, N2, N3, N4, N5, N6, N7, I1, I2, I3, I4, I5, I6, I7, reduceIte, reduceCtorEq]
  refine QIf.intro (fun c => ?_) (fun c => ?_)
  · have hk' : k < B.fi.length := by omega
    obtain ⟨x, gx⟩ := some_of hk'
    have hx := hf x (List.mem_of_getElem? gx)
    have k0 : (0 : Int) ≤ k := by omega
    have hwk := wrap_succ (k := k) (by show _ < 1000000000000; omega)
    have hwx : IntKind.i64.wrap (A.n + x) = A.n + x := wrap64 (by omega) (by omega)
    have hln : (shI A.n (B.fi.take k)).length = k := by simp [shI]; omega
    have b8 : (A.fi.length + k + 1) * 8 ≤ 140737488355328 := by omega
    have b1 : A.fi.length + k ≤ 9223372036854775806 := by omega
    have hps : psub (A.fi.map p64 ++ (shI A.n (B.fi.take k)).map p64) 0 (A.fi.length + k) = A.fi.map p64 ++ (shI A.n (B.fi.take k)).map p64 := psub_all _ _ (by simp [hln])
    simp only [PP, P1, P2, P3, P4, P5, P6, P7, P8, P9, P10, P11, P12, P13, P14, L1, P15, N1, N2, N3, N4, N5, N6, N7, I1, I2, I3, I4, I5, I6, I7, reduceIte, reduceCtorEq, c, k0, gx, hwk, hwx, b8, b1, hps, hln]
    have htk : shI A.n (B.fi.take (k + 1)) = shI A.n (B.fi.take k) ++ [A.n + x] := by rw [List.take_add_one, gx]; simp [shI]
    exact SemW_to (ih (k + 1) (gb + 1) 0 (vm + 1) (by omega) (by omega)) (by simp only [PWeak_nil, PWeak_junk, PWeak_same, Int.cast_ofNat_Int, List.length_append, List.length_cons, List.length_nil, Nat.zero_add]) (by rw [htk]; simp [Nat.add_assoc])
  have hkn : k = B.fi.length := by omega
  subst hkn
  rw [List.take_of_length_le (Nat.le_refl _)]
  simp only [PP, P1, P2, P3, P4, P5, P6, P7, P8, P9, P10, P11, P12, P13, P14, L1, P15, N1, N2, N3, N4, N5, N6, N7, I1, I2, I3, I4, I5, I6, I7, reduceIte, reduceCtorEq, c]
  refine loop5 (fun (k gc vc vm : Nat) (G : Mem) => k ≤ B.es.length) (fun k gc vc vm G => [.junk, .junk, .cp (nfC f1 o1 f2 o2 f3 o3 A) 0, .junk, .ptr 2 0 0, .junk, .junk, .junk, .junk, .junk, .junk, .junk, .junk, .junk, .junk, .junk, .junk, .junk, .junk, .junk, .junk, .junk, .junk, .junk, .junk, .junk, .junk, .junk, .junk, .junk, .junk, .junk, .junk, .junk, .junk, .junk, .junk, .junk, .junk, .junk, .junk, .junk, .junk, .junk, .junk, .junk, .junk, .junk, .junk, .junk, .junk, .junk, .junk, .junk, .junk, .junk, .junk, .junk, .junk, .junk, .junk, .junk, .junk, .junk, .junk, .junk, .junk, .junk, .junk, .junk, .junk, .junk, .junk, .junk, .junk, .junk, .junk, .junk, .junk, .junk, .junk, .junk, .junk, .junk, .junk, .junk, .junk, .junk, .junk, .junk, .junk, .junk, .junk, .junk, .junk, .junk, .junk, .junk, .junk, .junk, .junk, slE g3 p3 B.es, p64 B.es.length, p64 k, .junk, .junk, .junk, .junk, .junk, .junk, .junk, .junk, .junk, .junk, .junk, .junk, .junk, .junk, .junk, .junk, .junk, .junk, .junk, .junk, .junk, .junk, .junk]) (fun k gc vc vm G => .gone :: .gone :: .cells 0 vm [p64 A.vs, p64 (A.n + B.n), .ref 3 g 1 0 (A.st.length + B.st.length), .ref 4 gb 1 0 (A.fi.length + B.fi.length), .ref 5 gc 4 0 (A.es.length + k)] :: .cells g v (A.st.map p64 ++ (shI A.n B.st).map p64) :: .cells gb vb (A.fi.map p64 ++ (shI A.n B.fi).map p64) :: .cells gc vc (egL (A.es ++ (B.es.take k).map (shG A.n))) :: G) (fun k _ _ _ _ => B.es.length - k) 0 gc vc vm [] (by omega) (by simp only [PWeak_nil, PWeak_junk, PWeak_same, Int.cast_ofNat_Int, List.length_append, List.length_cons, List.length_nil, Nat.zero_add]) (by simp) ?_
  intro k gc vc vm G hle ih
  obtain ⟨acc, hacc⟩ : ∃ acc, acc = A.es ++ (B.es.take k).map (shG A.n) := ⟨_, rfl⟩
  have hal : acc.length = A.es.length + k := by rw [hacc]; simp; omega
  rw [← hacc]
  refine SemW_go (by kernel_rfl) ?_
  simp only [PP, P1, P2, P3, P4, P5, P6, P7, P8, P9, P10, P11, P12, P13, P14, L1, P15, N1, N2, N3, N4, N5, N6, N7, I1, I2, I3, I4, I5, I6, I7, reduceIte, reduceCtorEq]
  refine QIf.intro (fun c => ?_) (fun c => ?_)
  · have hk' : k < B.es.length := by omega
    obtain ⟨e, ge⟩ := some_of hk'
    have hem := List.mem_of_getElem? ge
    obtain ⟨q1, q2, q3, q4, _⟩ := CB.ed e hem
    have k0 : (0 : Int) ≤ k := by omega
    have hwk := wrap_succ (k := k) (by show _ < 1000000000000; omega)
    have h4 := psub_egL ge
    have hl4 : k * 4 + 4 ≤ (egL B.es).length := by rw [egL_len]; exact eg_le ge
    have w1 : IntKind.i64.wrap (A.n + e.fr) = A.n + e.fr := wrap64 (by omega) (by omega)
    have w2 : IntKind.i64.wrap (A.n + e.to) = A.n + e.to := wrap64 (by omega) (by omega)
    have b8 : (A.es.length + k + 1) * 24 ≤ 140737488355328 := by omega
    have b1 : A.es.length + k ≤ 9223372036854775806 := by omega
    have hps := psub_egAll hal
    have hl5 : (A.es.length + k) * 4 ≤ (egL acc).length := by rw [egL_len]; omega
    simp only [PP, P1, P2, P3, P4, P5, P6, P7, P8, P9, P10, P11, P12, P13, P14, L1, P15, N1, N2, N3, N4, N5, N6, N7, I1, I2, I3, I4, I5, I6, I7, reduceIte, reduceCtorEq, c, k0, h4, hl4, w1, w2, gk0, sk0, hwk, b8, b1, hps, hl5]
    have htk : A.es ++ (B.es.take (k + 1)).map (shG A.n) = acc ++ [shG A.n e] := by rw [List.take_add_one, ge, hacc]; simp
    exact SemW_to (ih (k + 1) (gc + 1) 0 (vm + 1) (G ++ [.cells 0 3 (egC (shG A.n e))]) (by omega) (by omega)) (by simp only [PWeak_nil, PWeak_junk, PWeak_same, Int.cast_ofNat_Int, List.length_append, List.length_cons, List.length_nil, Nat.zero_add]) (by rw [htk, ← egL_app]; rfl)
  have hkn : k = B.es.length := by omega
  subst hkn
  rw [List.take_of_length_le (Nat.le_refl _)] at hacc
  simp only [PP, P1, P2, P3, P4, P5, P6, P7, P8, P9, P10, P11, P12, P13, P14, L1, P15, N1, N2, N3, N4, N5, N6, N7, I1, I2, I3, I4, I5, I6, I7, reduceIte, reduceCtorEq, c]
  have hi : ∀ (a b : List Int) (g v n : Nat), n = a.length + b.length → frzO (some (.cells g v (a.map p64 ++ b.map p64))) g 1 0 n = some (slI false true .i64 (a ++ b)) := fun a b g v n h => by
    subst h
    rw [← List.map_append, frzO_cells (by simp) (underL_map _ p64 (fun x => by simp [PV.under]) _), Nat.mul_one, psub_all _ _ (by simp)]
    simp [slI]
  have l1 : (shI A.n B.st).length = B.st.length := by simp [shI]
  have l2 : (shI A.n B.fi).length = B.fi.length := by simp [shI]
  have h1 := hi A.st (shI A.n B.st) g v _ (congrArg _ l1.symm)
  have h2 := hi A.fi (shI A.n B.fi) gb vb _ (congrArg _ l2.symm)
  have h3 := frzO_egL (g := gc) (v := vc) hal
  simp only [PP, P1, P2, P3, P4, P5, P6, P7, P8, P9, P10, P11, P12, P13, P14, L1, P15, N1, N2, N3, N4, N5, N6, N7, I1, I2, I3, I4, I5, I6, I7, reduceIte, reduceCtorEq, h1, h2, h3]
  refine ⟨_, PvWk.refl _, ?_⟩
  unfold uniN at hk
  rw [← hacc] at hk
  exact hk
end
end Go.Am.Ar
set_option linter.unusedVariables false
set_option linter.unusedSimpArgs false
set_option maxRecDepth 10000
namespace Go.Am.Ar
open Go.Am renaming pchk → P1, pold → P2, PKNo → P3, ppack → P4, PObj.under → P5, pput → P6, ptset → P7, ptget → P8, pev → P9, ofAV → P10, ofAV1 → P11, ppad → P12, pfill → P13, prepl → P14, AO.effect → P15
open List renaming replicate → L1
open Nat renaming reduceAdd → N1, reduceSub → N2, reduceMul → N3, reduceLT → N4, reduceLeDiff → N5, reduceEqDiff → N6, reduceBEq → N7
open Int renaming reduceToNat → I1, reduceLT → I2, reduceLE → I3, reduceEq → I4, reduceAdd → I5, reduceSub → I6, reduceNeg → I7
theorem uniE_ok {A B : NF} (h : uniE A B = 0) : checkN A = 0 ∧ checkN B = 0 ∧ A.vs = B.vs ∧ ¬ 64 < A.n + B.n ∧ ¬ 512 < (A.es.length : Int) + B.es.length := by
  unfold uniE at h
  split at h
  · split at h
    · split at h
      · split at h
        · cases h
        · split at h
          · cases h
          · rename_i a b c d e; exact ⟨a, b, c, d, e⟩
      · cases h
    · contradiction
  · contradiction
theorem posM_shift {a n : Int} {xs ys : List Int} (h1 : posM a (-1) xs = true) (h2 : posM n (-1) ys = true) (ha : 0 ≤ a) (hn : 0 ≤ n) : posM (a + n) (-1) (xs ++ shI a ys) = true := by
  have r1 := posM_rise h1
  have r2 := posM_rise h2
  refine posM_of (List.pairwise_append.2 ⟨r1.1, ?_, fun x hx y hy => ?_⟩) fun x hx => ?_
  · unfold shI; rw [List.pairwise_map]; exact r2.1.imp fun h => by omega
  · obtain ⟨z, hz, rfl⟩ := List.mem_map.1 hy
    have := r1.2 x hx; have := r2.2 z hz; omega
  · rcases List.mem_append.1 hx with h | h
    · have := r1.2 x h; omega
    · obtain ⟨z, hz, rfl⟩ := List.mem_map.1 h
      have := r2.2 z hz; omega
theorem uni_nok {A B : NF} (h : uniE A B = 0) : NOk (uniN A B) := by
  obtain ⟨a, b, c, d, e⟩ := uniE_ok h
  have CA := nok_of a
  have CB := nok_of b
  have na0 := CA.n0
  have nb0 := CB.n0
  refine ⟨CA.v0, CA.v6, by show 0 ≤ A.n + B.n; omega, by show A.n + B.n ≤ 64; omega, by show (A.es ++ B.es.map (shG A.n)).length ≤ 512; simp; omega, posM_shift CA.st CB.st na0 nb0, posM_shift CA.fi CB.fi na0 nb0, fun x hx => ?_⟩
  show 0 ≤ x.fr ∧ x.fr < A.n + B.n ∧ 0 ≤ x.to ∧ x.to < A.n + B.n ∧ cubeM A.vs x.ps x.ng = 0
  rcases List.mem_append.1 hx with hx | hx
  · obtain ⟨q1, q2, q3, q4, q5⟩ := CA.ed x hx
    exact ⟨by omega, by omega, by omega, by omega, q5⟩
  · obtain ⟨y, hy, rfl⟩ := List.mem_map.1 hx
    obtain ⟨q1, q2, q3, q4, q5⟩ := CB.ed y hy
    refine ⟨by show 0 ≤ A.n + y.fr; omega, by show A.n + y.fr < _; omega, by show 0 ≤ A.n + y.to; omega, by show A.n + y.to < _; omega, by rw [c]; exact q5⟩
theorem uni_bn {A B : NF} (BA : BnN A) (BB : BnN B) (h : uniE A B = 0) : BnN (uniN A B) := by
  have C := uni_nok h
  have n64 := C.n64
  have h1 := posM_len C.st n64
  have h2 := posM_len C.fi n64
  have h3 := C.e512
  refine ⟨by show _ < 1000000000000; omega, by show _ < 1000000000000; omega, by show _ < 1000000000000; omega, fun x hx => ?_⟩
  rcases List.mem_append.1 hx with hx | hx
  · exact BA.b x hx
  · obtain ⟨y, hy, rfl⟩ := List.mem_map.1 hx
    exact BB.b y hy
def BtwP (A B : NF) (rs : List (List Bool)) : Prop := ∀ p ∈ A.st, ∃ q ∈ B.st, rAt rs p (A.n + q) = true
def BtwA (A B : NF) (b : Bool) (e : Int) : Prop := (uniE A B ≠ 0 ∧ b = false ∧ e = uniE A B) ∨ (uniE A B = 0 ∧ e = 0 ∧ ∃ rs, RelOk (uniN A B) rs ∧ (b = true ↔ BtwP A B rs))
section
variable {tab : FuncId → Option AF} (T : HasA tab)
include T
theorem idx13_p {M : Mem} {K : PV → Mem → Prop} {f o : Bool} {xs : List Int} {g : FuncId} {cap : List PV} {F : Int → Bool} (hm : xs.length < 1000000000000) (hu : underL 0 cap = true)
    (hf : ∀ x ∈ xs, ∀ (M' : Mem) (K' : PV → Mem → Prop), K' (.bool (F x)) M' → SemC tab g (p64 x :: cap) M' K')
    (hk1 : (∀ x ∈ xs, F x = false) → K (p64 (-1)) M) (hk2 : ∀ (k : Nat) (x : Int), x ∈ xs → F x = true → K (p64 k) M) :
    SemC tab 86 [slI f o .i64 xs, .func (.func g) [] cap] M K := by
  refine SemC_pure T.h86 (by simp only [PP, P1, P2, P3, P4, P5, P6, P7, P8, P9, P10, P11, P12, P13, P14, L1, P15, N1, N2, N3, N4, N5, N6, N7, I1, I2, I3, I4, I5, I6, I7, reduceIte, reduceCtorEq, PV.under, hu]) ?_
  simp only [af86, PP, P1, P2, P3, P4, P5, P6, P7, P8, P9, P10, P11, P12, P13, P14, L1, P15, N1, N2, N3, N4, N5, N6, N7, I1, I2, I3, I4, I5, I6, I7, reduceIte, reduceCtorEq]
  refine loop1 (fun (k : Nat) => k ≤ xs.length ∧ ∀ j, j < k → ∀ x, xs[j]? = some x → F x = false) (fun k => [slI f o .i64 xs, .func (.func g) [] cap, .junk, .junk, .junk, .junk, .junk, p64 xs.length, p64 k, .junk, .junk, .junk, .junk, .junk, .junk, .junk, .junk, .junk, .junk])
    (fun k => []) (fun k => xs.length - k) 0 ⟨by omega, by intro j h; omega⟩ (by simp only [PWeak_nil, PWeak_junk, PWeak_same, Int.cast_ofNat_Int, List.length_append, List.length_cons, List.length_nil, Nat.zero_add]) rfl ?_
  intro k ⟨hle, hd⟩ ih
  refine SemW_go (by kernel_rfl) ?_
  simp only [PP, P1, P2, P3, P4, P5, P6, P7, P8, P9, P10, P11, P12, P13, P14, L1, P15, N1, N2, N3, N4, N5, N6, N7, I1, I2, I3, I4, I5, I6, I7, reduceIte, reduceCtorEq]
  refine QIf.intro (fun c => ?_) (fun c => ?_)
  · have hk' : k < xs.length := by omega
    have k0 : (0 : Int) ≤ k := by omega
    have hwk := wrap_succ (k := k) (by show _ < 1000000000000; omega)
    obtain ⟨x, gx⟩ := some_of (xs := xs) (k := k) hk'
    simp only [PP, P1, P2, P3, P4, P5, P6, P7, P8, P9, P10, P11, P12, P13, P14, L1, P15, N1, N2, N3, N4, N5, N6, N7, I1, I2, I3, I4, I5, I6, I7, reduceIte, reduceCtorEq, c, k0, gx]
    refine hf x (List.mem_of_getElem? gx) _ _ ?_
    cases hF : F x with
    | true =>
      simp only [PP, P1, P2, P3, P4, P5, P6, P7, P8, P9, P10, P11, P12, P13, P14, L1, P15, N1, N2, N3, N4, N5, N6, N7, I1, I2, I3, I4, I5, I6, I7, reduceIte, reduceCtorEq]
      exact hk2 k x (List.mem_of_getElem? gx) hF
    | false =>
      simp only [PP, P1, P2, P3, P4, P5, P6, P7, P8, P9, P10, P11, P12, P13, P14, L1, P15, N1, N2, N3, N4, N5, N6, N7, I1, I2, I3, I4, I5, I6, I7, reduceIte, reduceCtorEq, hwk]
      refine SemW_weak (ih (k + 1) ⟨by omega, fun j hj y gy => ?_⟩ (by omega)) (by simp only [PWeak_nil, PWeak_junk, PWeak_same, Int.cast_ofNat_Int, List.length_append, List.length_cons, List.length_nil, Nat.zero_add])
      by_cases e : j = k
      · subst e; rw [gx] at gy; cases gy; exact hF
      · exact hd j (by omega) y gy
  · simp only [PP, P1, P2, P3, P4, P5, P6, P7, P8, P9, P10, P11, P12, P13, P14, L1, P15, N1, N2, N3, N4, N5, N6, N7, I1, I2, I3, I4, I5, I6, I7, reduceIte, reduceCtorEq, c]
    exact hk1 fun x hx => by
      obtain ⟨j, hj⟩ := List.getElem?_of_mem hx
      exact hd j (by have := getSome_lt hj; omega) x hj
theorem cont13_p {M : Mem} {K : PV → Mem → Prop} {f o : Bool} {xs : List Int} {g : FuncId} {cap : List PV} {F : Int → Bool} (hm : xs.length < 1000000000000) (hu : underL 0 cap = true)
    (hf : ∀ x ∈ xs, ∀ (M' : Mem) (K' : PV → Mem → Prop), K' (.bool (F x)) M' → SemC tab g (p64 x :: cap) M' K')
    (hk1 : (∀ x ∈ xs, F x = false) → K (.bool false) M) (hk2 : (∃ x, x ∈ xs ∧ F x = true) → K (.bool true) M) :
    SemC tab 66 [slI f o .i64 xs, .func (.func g) [] cap] M K := by
  refine SemC_pure T.h66 (by simp only [PP, P1, P2, P3, P4, P5, P6, P7, P8, P9, P10, P11, P12, P13, P14, L1, P15, N1, N2, N3, N4, N5, N6, N7, I1, I2, I3, I4, I5, I6, I7, reduceIte, reduceCtorEq, PV.under, hu]) ?_
  simp only [af66, PP, P1, P2, P3, P4, P5, P6, P7, P8, P9, P10, P11, P12, P13, P14, L1, P15, N1, N2, N3, N4, N5, N6, N7, I1, I2, I3, I4, I5, I6, I7, reduceIte, reduceCtorEq]
  refine idx13_p T hm hu hf (fun h => ?_) (fun k x hx hF => ?_)
  · have e : ¬ (0 : Int) ≤ -1 := by omega
    simp only [PP, P1, P2, P3, P4, P5, P6, P7, P8, P9, P10, P11, P12, P13, P14, L1, P15, N1, N2, N3, N4, N5, N6, N7, I1, I2, I3, I4, I5, I6, I7, reduceIte, reduceCtorEq, e]
    exact hk1 h
  · have e : (0 : Int) ≤ k := by omega
    simp only [PP, P1, P2, P3, P4, P5, P6, P7, P8, P9, P10, P11, P12, P13, P14, L1, P15, N1, N2, N3, N4, N5, N6, N7, I1, I2, I3, I4, I5, I6, I7, reduceIte, reduceCtorEq, e]
    exact hk2 ⟨x, hx, hF⟩
theorem btw2_p {M : Mem} {K : PV → Mem → Prop} {f1 o1 f2 o2 f3 o3 f4 o4 f5 o5 : Bool} {A : NF} {rs : List (List Bool)} {p q : Int} {row : List Bool} (p0 : 0 ≤ p) (p1 : p < rs.length) (g1 : rs[p.toNat]? = some row) (q0 : 0 ≤ A.n + q) (q1 : A.n + q < row.length) (h6 : A.n + q ≤ 64) (g2 : row[(A.n + q).toNat]? = some (rAt rs p (A.n + q)))
    (hk : K (.bool (rAt rs p (A.n + q))) M) : SemC tab 67 [p64 q, .cp [slBr f4 o4 f5 o5 rs] 0, .cp [p64 p] 0, .cp (nfC f1 o1 f2 o2 f3 o3 A) 0] M K := by
  refine SemC_pure T.h67 (by simp only [PP, P1, P2, P3, P4, P5, P6, P7, P8, P9, P10, P11, P12, P13, P14, L1, P15, N1, N2, N3, N4, N5, N6, N7, I1, I2, I3, I4, I5, I6, I7, reduceIte, reduceCtorEq, PV.under, egL_und, under_slBr, brs_und]) ?_
  have w : IntKind.i64.wrap (A.n + q) = A.n + q := wrap64 (by omega) (by omega)
  simp only [af67, PP, P1, P2, P3, P4, P5, P6, P7, P8, P9, P10, P11, P12, P13, P14, L1, P15, N1, N2, N3, N4, N5, N6, N7, I1, I2, I3, I4, I5, I6, I7, reduceIte, reduceCtorEq, p0, p1, g1, q0, q1, w, g2]
  exact hk
theorem btw1_p {M : Mem} {K : PV → Mem → Prop} {f1 o1 f2 o2 f3 o3 g1 p1 g2 p2 g3 p3 f4 o4 f5 o5 : Bool} {A B : NF} {rs : List (List Bool)} {p : Int} (h : uniE A B = 0) (D : DimOk (uniN A B) rs) (hp : p ∈ A.st)
    (hk : ∀ b, (b = true ↔ ¬ ∃ q ∈ B.st, rAt rs p (A.n + q) = true) → K (.bool b) M) : SemC tab 65 [p64 p, .cp (nfC g1 p1 g2 p2 g3 p3 B) 0, .cp [slBr f4 o4 f5 o5 rs] 0, .cp (nfC f1 o1 f2 o2 f3 o3 A) 0] M K := by
  refine SemC_pureS T.h65 (by simp only [PP, P1, P2, P3, P4, P5, P6, P7, P8, P9, P10, P11, P12, P13, P14, L1, P15, N1, N2, N3, N4, N5, N6, N7, I1, I2, I3, I4, I5, I6, I7, reduceIte, reduceCtorEq, PV.under, egL_und, under_slBr, brs_und]) ?_
  obtain ⟨a, b, c, d, e⟩ := uniE_ok h
  have CA := nok_of a
  have CB := nok_of b
  have na0 := CA.n0
  have nb0 := CB.n0
  have nb64 := CB.n64
  have hpa := posM_mem CA.st p hp
  have hsb := posM_len CB.st nb64
  simp only [af65]
  refine SemW_seq (SemW_of ?_)
  simp only [PP, P1, P2, P3, P4, P5, P6, P7, P8, P9, P10, P11, P12, P13, P14, L1, P15, N1, N2, N3, N4, N5, N6, N7, I1, I2, I3, I4, I5, I6, I7, reduceIte, reduceCtorEq]
  refine SemW_re (GStep.freezeP (b := [.junk, .cp (nfC g1 p1 g2 p2 g3 p3 B) 0, .cp [slBr f4 o4 f5 o5 rs] 0, .cp (nfC f1 o1 f2 o2 f3 o3 A) 0, .cp [p64 p] 0, .junk, .junk, .junk, .junk, .junk, .junk]) 0 (Nat.zero_le _) rfl (by simp only [PFrzP_nil, PFrzP_junk, PFrzP_same, PFrzP_ptr]) rfl) ?_
  refine SemW_of ?_
  simp only [PP, P1, P2, P3, P4, P5, P6, P7, P8, P9, P10, P11, P12, P13, P14, L1, P15, N1, N2, N3, N4, N5, N6, N7, I1, I2, I3, I4, I5, I6, I7, reduceIte, reduceCtorEq]
  refine cont13_p T (F := fun q => rAt rs p (A.n + q)) (by omega) (by simp only [PP, P1, P2, P3, P4, P5, P6, P7, P8, P9, P10, P11, P12, P13, P14, L1, P15, N1, N2, N3, N4, N5, N6, N7, I1, I2, I3, I4, I5, I6, I7, reduceIte, reduceCtorEq, PV.under, egL_und, under_slBr, brs_und]) (fun q hq M' K' hK' => ?_) (fun hall => ?_) (fun ⟨q, hq, hF⟩ => ?_)
  · have hqb := posM_mem CB.st q hq
    have hn : (uniN A B).n = A.n + B.n := rfl
    obtain ⟨row, k1, k2, k3, k4⟩ := rel_at D (p := p) (q := A.n + q) (by omega) (by omega) (by omega) (by omega)
    exact btw2_p T hpa.1 (by omega) k1 (by omega) (by omega) (by omega) k2 hK'
  · simp only [PP, P1, P2, P3, P4, P5, P6, P7, P8, P9, P10, P11, P12, P13, P14, L1, P15, N1, N2, N3, N4, N5, N6, N7, I1, I2, I3, I4, I5, I6, I7, reduceIte, reduceCtorEq]
    exact hk true ⟨fun _ ⟨q, hq, hF⟩ => (by rw [hall q hq] at hF; cases hF), fun _ => rfl⟩
  · simp only [PP, P1, P2, P3, P4, P5, P6, P7, P8, P9, P10, P11, P12, P13, P14, L1, P15, N1, N2, N3, N4, N5, N6, N7, I1, I2, I3, I4, I5, I6, I7, reduceIte, reduceCtorEq]
    exact hk false ⟨(fun h => by cases h), fun h => absurd ⟨q, hq, hF⟩ h⟩
open Classical in
set_option maxHeartbeats 1000000 in
theorem between_p {M : Mem} {K : PV → Mem → Prop} {f1 o1 f2 o2 f3 o3 g1 p1 g2 p2 g3 p3 : Bool} {A B : NF} (BA : BnN A) (BB : BnN B) (hk : ∀ b e, BtwA A B b e → K (.tuple [.bool b, p64 e]) M) :
    SemC tab 34 [.agg (nfC f1 o1 f2 o2 f3 o3 A), .agg (nfC g1 p1 g2 p2 g3 p3 B)] M K := by
  refine SemC_pureS T.h34 (by simp only [PP, P1, P2, P3, P4, P5, P6, P7, P8, P9, P10, P11, P12, P13, P14, L1, P15, N1, N2, N3, N4, N5, N6, N7, I1, I2, I3, I4, I5, I6, I7, reduceIte, reduceCtorEq, under_slE]) ?_
  simp only [af34]
  refine SemW_seq (SemW_of ?_)
  simp only [PP, P1, P2, P3, P4, P5, P6, P7, P8, P9, P10, P11, P12, P13, P14, L1, P15, N1, N2, N3, N4, N5, N6, N7, I1, I2, I3, I4, I5, I6, I7, reduceIte, reduceCtorEq]
  refine SemW_re (GStep.freezeP (b := [.junk, .junk, .cp (nfC f1 o1 f2 o2 f3 o3 A) 0, .ptr 1 0 0, .bool false, p64 0, .junk, .junk, .junk, .junk, .junk, .junk, .junk, .junk, .junk, .junk, .junk, .junk, .junk, .junk, .junk, .junk, .junk, .junk, .junk, .junk, .junk]) 0 (Nat.zero_le _) rfl (by simp only [PFrzP_nil, PFrzP_junk, PFrzP_same, PFrzP_ptr]) rfl) ?_
  refine SemW_re (GStep.freezeP (b := [.junk, .junk, .cp (nfC f1 o1 f2 o2 f3 o3 A) 0, .cp (nfC g1 p1 g2 p2 g3 p3 B) 0, .bool false, p64 0, .junk, .junk, .junk, .junk, .junk, .junk, .junk, .junk, .junk, .junk, .junk, .junk, .junk, .junk, .junk, .junk, .junk, .junk, .junk, .junk, .junk]) 1 (Nat.zero_le _) rfl (by simp only [PFrzP_nil, PFrzP_junk, PFrzP_same, PFrzP_ptr]) rfl) ?_
  refine SemW_seq (SemW_of ?_)
  simp only [PP, P1, P2, P3, P4, P5, P6, P7, P8, P9, P10, P11, P12, P13, P14, L1, P15, N1, N2, N3, N4, N5, N6, N7, I1, I2, I3, I4, I5, I6, I7, reduceIte, reduceCtorEq]
  refine unionN_p T BA BB ?_
  by_cases hu : uniE A B = 0
  rotate_left
  · simp only [PP, P1, P2, P3, P4, P5, P6, P7, P8, P9, P10, P11, P12, P13, P14, L1, P15, N1, N2, N3, N4, N5, N6, N7, I1, I2, I3, I4, I5, I6, I7, reduceIte, reduceCtorEq]
    refine SemW_of ?_
    simp only [PP, P1, P2, P3, P4, P5, P6, P7, P8, P9, P10, P11, P12, P13, P14, L1, P15, N1, N2, N3, N4, N5, N6, N7, I1, I2, I3, I4, I5, I6, I7, reduceIte, reduceCtorEq, hu]
    exact hk false _ (.inl ⟨hu, rfl, rfl⟩)
  have hQ : uniQ A B = uniN A B := by unfold uniQ; rw [if_pos hu]
  obtain ⟨a, b, c, d, e⟩ := uniE_ok hu
  have CA := nok_of a
  have na64 := CA.n64
  have hsa := posM_len CA.st na64
  rw [hu, hQ]
  simp only [PP, P1, P2, P3, P4, P5, P6, P7, P8, P9, P10, P11, P12, P13, P14, L1, P15, N1, N2, N3, N4, N5, N6, N7, I1, I2, I3, I4, I5, I6, I7, reduceIte, reduceCtorEq]
  refine SemW_seq (SemW_of ?_)
  simp only [PP, P1, P2, P3, P4, P5, P6, P7, P8, P9, P10, P11, P12, P13, P14, L1, P15, N1, N2, N3, N4, N5, N6, N7, I1, I2, I3, I4, I5, I6, I7, reduceIte, reduceCtorEq]
  refine SemW_seq (SemW_of ?_)
  simp only [PP, P1, P2, P3, P4, P5, P6, P7, P8, P9, P10, P11, P12, P13, P14, L1, P15, N1, N2, N3, N4, N5, N6, N7, I1, I2, I3, I4, I5, I6, I7, reduceIte, reduceCtorEq]
  refine relation_p T (uni_nok hu) (uni_bn BA BB hu) fun rs R => ?_
  simp only [PP, P1, P2, P3, P4, P5, P6, P7, P8, P9, P10, P11, P12, P13, P14, L1, P15, N1, N2, N3, N4, N5, N6, N7, I1, I2, I3, I4, I5, I6, I7, reduceIte, reduceCtorEq]
  refine SemW_re (GStep.freezeP (b := [.junk, .junk, .cp (nfC f1 o1 f2 o2 f3 o3 A) 0, .cp (nfC g1 p1 g2 p2 g3 p3 B) 0, .bool false, p64 0, .junk, .junk, .cp [slBr false true false true rs] 0, .junk, .junk, .junk, .junk, .junk, .junk, .junk, .junk, .junk, .junk, .junk, .junk, .junk, .junk, .junk, .junk, .junk, .junk]) 3 (Nat.zero_le _) rfl (by simp only [PFrzP_nil, PFrzP_junk, PFrzP_same, PFrzP_ptr]) rfl) ?_
  refine SemW_of ?_
  simp only [PP, P1, P2, P3, P4, P5, P6, P7, P8, P9, P10, P11, P12, P13, P14, L1, P15, N1, N2, N3, N4, N5, N6, N7, I1, I2, I3, I4, I5, I6, I7, reduceIte, reduceCtorEq]
  refine cont13_p T (F := fun p => decide (¬ ∃ q ∈ B.st, rAt rs p (A.n + q) = true)) (by omega) (by simp only [PP, P1, P2, P3, P4, P5, P6, P7, P8, P9, P10, P11, P12, P13, P14, L1, P15, N1, N2, N3, N4, N5, N6, N7, I1, I2, I3, I4, I5, I6, I7, reduceIte, reduceCtorEq, PV.under, egL_und, under_slBr, brs_und]) (fun p hp M' K' hK' => ?_) (fun hall => ?_) (fun ⟨p, hp, hF⟩ => ?_)
  · refine btw1_p T hu R.d hp fun b hb => ?_
    have : b = decide (¬ ∃ q ∈ B.st, rAt rs p (A.n + q) = true) := by rw [Bool.eq_iff_iff, hb]; simp
    rw [this]; exact hK'
  · simp only [PP, P1, P2, P3, P4, P5, P6, P7, P8, P9, P10, P11, P12, P13, P14, L1, P15, N1, N2, N3, N4, N5, N6, N7, I1, I2, I3, I4, I5, I6, I7, reduceIte, reduceCtorEq]
    exact hk true 0 (.inr ⟨hu, rfl, rs, R, fun _ p hp => Classical.not_not.1 (of_decide_eq_false (hall p hp)), fun _ => rfl⟩)
  · simp only [PP, P1, P2, P3, P4, P5, P6, P7, P8, P9, P10, P11, P12, P13, P14, L1, P15, N1, N2, N3, N4, N5, N6, N7, I1, I2, I3, I4, I5, I6, I7, reduceIte, reduceCtorEq]
    exact hk false 0 (.inr ⟨hu, rfl, rs, R, (fun h => by cases h), fun h => absurd (h p hp) (of_decide_eq_true hF)⟩)
end
end Go.Am.Ar
set_option linter.unusedVariables false
set_option linter.unusedSimpArgs false
set_option maxRecDepth 10000
namespace Go.Am.Ar
open Go.Am renaming pchk → P1, pold → P2, PKNo → P3, ppack → P4, PObj.under → P5, pput → P6, ptset → P7, ptget → P8, pev → P9, ofAV → P10, ofAV1 → P11, ppad → P12, pfill → P13, prepl → P14, AO.effect → P15
open List renaming replicate → L1
open Nat renaming reduceAdd → N1, reduceSub → N2, reduceMul → N3, reduceLT → N4, reduceLeDiff → N5, reduceEqDiff → N6, reduceBEq → N7
open Int renaming reduceToNat → I1, reduceLT → I2, reduceLE → I3, reduceEq → I4, reduceAdd → I5, reduceSub → I6, reduceNeg → I7
def matE (es : List Eg) (x : Nat) : List Eg := es.filter fun e => hasB e.ps e.ng x
def AftP (es : List Eg) (s : Wd) (x : Nat) (o : Wd) : Prop := o.length ≤ 64 ∧ ∀ k : Nat, bit o k = true ↔ ∃ e ∈ matE es x, bit s e.fr.toNat = true ∧ e.to = k
theorem bit_with {a : Wd} {k : Nat} (ha : a.length ≤ 64) (hk : k < 4096) : (withK a k).length ≤ 64 ∧ ∀ j, bit (withK a k) j = (bit a j || decide (j = k)) := by
  have := ofL_go [k] a ha (fun x hx => by simp at hx; subst hx; exact hk)
  refine ⟨this.1, fun j => ?_⟩
  have h := this.2 j
  simpa using h
section
variable {tab : FuncId → Option AF} (T : HasA tab)
include T
theorem matching_p {M : Mem} {K : PV → Mem → Prop} {f1 o1 f2 o2 f3 o3 : Bool} {N : NF} {x : Nat} (hk : K (.func (.func 120) [] [.cp (nfC f1 o1 f2 o2 f3 o3 N) 0, .cp [p8 x] 0]) M) :
    SemC tab 106 [.agg (nfC f1 o1 f2 o2 f3 o3 N), p8 x] M K := by
  refine SemC_pureS T.h106 (by simp only [PP, P1, P2, P3, P4, P5, P6, P7, P8, P9, P10, P11, P12, P13, P14, L1, P15, N1, N2, N3, N4, N5, N6, N7, I1, I2, I3, I4, I5, I6, I7, reduceIte, reduceCtorEq, under_slE]) ?_
  simp only [af106]
  refine SemW_seq (SemW_of ?_)
  simp only [PP, P1, P2, P3, P4, P5, P6, P7, P8, P9, P10, P11, P12, P13, P14, L1, P15, N1, N2, N3, N4, N5, N6, N7, I1, I2, I3, I4, I5, I6, I7, reduceIte, reduceCtorEq]
  refine SemW_re (GStep.freezeP (b := [.junk, .junk, .cp (nfC f1 o1 f2 o2 f3 o3 N) 0, .ptr 1 0 0, .junk, .junk]) 0 (Nat.zero_le _) rfl (by simp only [PFrzP_nil, PFrzP_junk, PFrzP_same, PFrzP_ptr]) rfl) ?_
  refine SemW_re (GStep.freezeP (b := [.junk, .junk, .cp (nfC f1 o1 f2 o2 f3 o3 N) 0, .cp [p8 x] 0, .junk, .junk]) 1 (Nat.zero_le _) rfl (by simp only [PFrzP_nil, PFrzP_junk, PFrzP_same, PFrzP_ptr]) rfl) ?_
  refine SemW_of ?_
  have e : ∀ N' : Mem, pfrz 0 N' (.func (.func 120) [] [.cp (nfC f1 o1 f2 o2 f3 o3 N) 0, .cp [p8 x] 0]) = some (.func (.func 120) [] [.cp (nfC f1 o1 f2 o2 f3 o3 N) 0, .cp [p8 x] 0]) := fun N' => pfrz1_func' (M := N') (by simp only [PP, P1, P2, P3, P4, P5, P6, P7, P8, P9, P10, P11, P12, P13, P14, L1, P15, N1, N2, N3, N4, N5, N6, N7, I1, I2, I3, I4, I5, I6, I7, reduceIte, reduceCtorEq, PV.under, egL_und])
  simp only [PP, P1, P2, P3, P4, P5, P6, P7, P8, P9, P10, P11, P12, P13, P14, L1, P15, N1, N2, N3, N4, N5, N6, N7, I1, I2, I3, I4, I5, I6, I7, reduceIte, reduceCtorEq, e]
  exact hk
set_option maxHeartbeats 1000000 in
theorem matchY_p {M : Mem} {K : PV → Mem → Prop} {L : Nat} {f1 o1 f2 o2 f3 o3 : Bool} {N : NF} {x : Nat} (hx : x < 256) (he : N.es.length < 1000000000000) (B : ∀ e ∈ N.es, (0 ≤ e.ps ∧ e.ps ≤ 255) ∧ (0 ≤ e.ng ∧ e.ng ≤ 255)) (J : Nat → Mem → Prop) (h0 : J 0 M) (hg : ∀ k G o, J k G → J k (G ++ [o]))
    (hl : ∀ k G, J k G → ∃ ver r, G[L]? = some (.loop ver r))
    (hy : ∀ k G e, J k G → (matE N.es x)[k]? = some e → ∀ K' : PV → Mem → Prop, (∀ G', J (k + 1) G' → K' (.bool true) G') → SemY tab L [.agg (egC e)] G K')
    (hk : ∀ G, J (matE N.es x).length G → K (.tuple []) G) :
    SemC tab 120 [.yld L [], .cp (nfC f1 o1 f2 o2 f3 o3 N) 0, .cp [p8 x] 0] M K := by
  refine SemC_fn T.h120 ?_
  simp only [af120, PP, P1, P2, P3, P4, P5, P6, P7, P8, P9, P10, P11, P12, P13, P14, L1, P15, N1, N2, N3, N4, N5, N6, N7, I1, I2, I3, I4, I5, I6, I7, reduceIte, reduceCtorEq]
  refine loop2 (fun (i : Nat) (G : Mem) => i ≤ N.es.length ∧ J (matE (N.es.take i) x).length G) (fun i G => [.yld L [], .junk, .cp [p8 x] 0, .junk, .junk, .junk, .junk, slE f3 o3 N.es, p64 N.es.length, p64 i, .junk, .junk, .junk, .junk, .junk, .junk, .junk, .junk, .junk, .junk, .junk, .junk, .junk, .junk, .junk, .junk, .junk]) (fun _ G => G) (fun i _ => N.es.length - i) 0 M ⟨by omega, h0⟩ (by simp only [PWeak_nil, PWeak_junk, PWeak_same, Int.cast_ofNat_Int, List.length_append, List.length_cons, List.length_nil, Nat.zero_add]) rfl ?_
  intro i G ⟨hle, hJ⟩ ih
  refine SemW_go (by kernel_rfl) ?_
  simp only [PP, P1, P2, P3, P4, P5, P6, P7, P8, P9, P10, P11, P12, P13, P14, L1, P15, N1, N2, N3, N4, N5, N6, N7, I1, I2, I3, I4, I5, I6, I7, reduceIte, reduceCtorEq]
  refine QIf.intro (fun c => ?_) (fun c => ?_)
  rotate_left
  · have hi : i = N.es.length := by omega
    subst hi
    rw [List.take_of_length_le (Nat.le_refl _)] at hJ
    simp only [PP, P1, P2, P3, P4, P5, P6, P7, P8, P9, P10, P11, P12, P13, P14, L1, P15, N1, N2, N3, N4, N5, N6, N7, I1, I2, I3, I4, I5, I6, I7, reduceIte, reduceCtorEq, c]
    exact hk G hJ
  have hi' : i < N.es.length := by omega
  obtain ⟨e, ge⟩ := some_of hi'
  have hw := wrap_succ (k := i) (by show _ < 1000000000000; omega)
  have i0 : (0 : Int) ≤ i := by omega
  have h4 := psub_egL ge
  have hl4 : i * 4 + 4 ≤ (egL N.es).length := by rw [egL_len]; exact eg_le ge
  obtain ⟨b1, b2⟩ := B e (List.mem_of_getElem? ge)
  have htk : matE (N.es.take (i + 1)) x = matE (N.es.take i) x ++ if hasB e.ps e.ng x = true then [e] else [] := by
    unfold matE
    rw [List.take_add_one, ge, List.filter_append]
    congr 1
    by_cases q : hasB e.ps e.ng x = true <;> simp [q]
  simp only [PP, P1, P2, P3, P4, P5, P6, P7, P8, P9, P10, P11, P12, P13, P14, L1, P15, N1, N2, N3, N4, N5, N6, N7, I1, I2, I3, I4, I5, I6, I7, reduceIte, reduceCtorEq, c, i0, h4, hl4, List.append_assoc, gk, gk0, sk, sk0]
  refine has_p T b1 b2 hx ?_
  cases q : hasB e.ps e.ng x with
  | false =>
    rw [q] at htk
    simp only [PP, P1, P2, P3, P4, P5, P6, P7, P8, P9, P10, P11, P12, P13, P14, L1, P15, N1, N2, N3, N4, N5, N6, N7, I1, I2, I3, I4, I5, I6, I7, reduceIte, reduceCtorEq, hw]
    refine SemW_to (ih (i + 1) (G ++ [.cells 0 1 (egC e)]) ⟨by omega, ?_⟩ (by omega)) (by simp only [PWeak_nil, PWeak_junk, PWeak_same, Int.cast_ofNat_Int, List.length_append, List.length_cons, List.length_nil, Nat.zero_add]) rfl
    rw [htk]; simp; exact hg _ _ _ hJ
  | true =>
    rw [q] at htk
    have hat : (matE N.es x)[(matE (N.es.take i) x).length]? = some e := by
      have : matE N.es x = matE (N.es.take (i + 1)) x ++ matE (N.es.drop (i + 1)) x := by
        unfold matE; rw [← List.filter_append, List.take_append_drop]
      rw [this, htk, List.append_assoc, List.getElem?_append_right (Nat.le_refl _), Nat.sub_self]
      simp
    simp only [PP, P1, P2, P3, P4, P5, P6, P7, P8, P9, P10, P11, P12, P13, P14, L1, P15, N1, N2, N3, N4, N5, N6, N7, I1, I2, I3, I4, I5, I6, I7, reduceIte, reduceCtorEq, List.append_assoc, gk, gk0, sk, sk0, QCall_yl]
    refine ⟨hl _ _ (hg _ _ _ hJ), ?_⟩
    refine hy _ _ e (hg _ _ _ hJ) hat _ fun G' hJ' => ?_
    simp only [PP, P1, P2, P3, P4, P5, P6, P7, P8, P9, P10, P11, P12, P13, P14, L1, P15, N1, N2, N3, N4, N5, N6, N7, I1, I2, I3, I4, I5, I6, I7, reduceIte, reduceCtorEq, hw]
    refine SemW_weak (ih (i + 1) G' ⟨by omega, ?_⟩ (by omega)) (by simp only [PWeak_nil, PWeak_junk, PWeak_same, Int.cast_ofNat_Int, List.length_append, List.length_cons, List.length_nil, Nat.zero_add])
    rw [htk]; simpa using hJ'
end
end Go.Am.Ar
set_option linter.unusedVariables false
set_option linter.unusedSimpArgs false
set_option maxRecDepth 10000
namespace Go.Am.Ar
open Go.Am renaming pchk → P1, pold → P2, PKNo → P3, ppack → P4, PObj.under → P5, pput → P6, ptset → P7, ptget → P8, pev → P9, ofAV → P10, ofAV1 → P11, ppad → P12, pfill → P13, prepl → P14, AO.effect → P15
open List renaming replicate → L1
open Nat renaming reduceAdd → N1, reduceSub → N2, reduceMul → N3, reduceLT → N4, reduceLeDiff → N5, reduceEqDiff → N6, reduceBEq → N7
open Int renaming reduceToNat → I1, reduceLT → I2, reduceLE → I3, reduceEq → I4, reduceAdd → I5, reduceSub → I6, reduceNeg → I7
section
variable {tab : FuncId → Option AF} (T : HasA tab)
include T
set_option maxHeartbeats 1000000 in
theorem aft_p {M : Mem} {K : PV → Mem → Prop} {f1 o1 f2 o2 f3 o3 f4 o4 : Bool} {N : NF} {s : Wd} {x : Nat} (C : NOk N) (B : BnN N) (hs : s.length ≤ 64) (hx : x < 256) (hk : ∀ o, AftP N.es s x o → K (slW false true o) M) :
    SemC tab 84 [.agg (nfC f1 o1 f2 o2 f3 o3 N), slW f4 o4 s, p8 x] M K := by
  have n64 := C.n64
  refine SemC_pureS T.h84 (by simp only [PP, P1, P2, P3, P4, P5, P6, P7, P8, P9, P10, P11, P12, P13, P14, L1, P15, N1, N2, N3, N4, N5, N6, N7, I1, I2, I3, I4, I5, I6, I7, reduceIte, reduceCtorEq, under_slE]) ?_
  simp only [af84]
  refine SemW_seq (SemW_of ?_)
  simp only [PP, P1, P2, P3, P4, P5, P6, P7, P8, P9, P10, P11, P12, P13, P14, L1, P15, N1, N2, N3, N4, N5, N6, N7, I1, I2, I3, I4, I5, I6, I7, reduceIte, reduceCtorEq]
  refine SemW_re (GStep.freezeP (b := [.junk, .junk, p8 x, .cp (nfC f1 o1 f2 o2 f3 o3 N) 0, .ptr 1 0 0, .junk, .ptr 2 0 0, .junk, .junk, .junk, .junk, .junk, .junk, .junk, .junk, .junk, .junk, .junk, .junk, .junk, .junk]) 0 (Nat.zero_le _) rfl (by simp only [PFrzP_nil, PFrzP_junk, PFrzP_same, PFrzP_ptr]) rfl) ?_
  refine SemW_re (GStep.freezeP (b := [.junk, .junk, p8 x, .cp (nfC f1 o1 f2 o2 f3 o3 N) 0, .cp [slW f4 o4 s] 0, .junk, .ptr 2 0 0, .junk, .junk, .junk, .junk, .junk, .junk, .junk, .junk, .junk, .junk, .junk, .junk, .junk, .junk]) 1 (Nat.zero_le _) rfl (by simp only [PFrzP_nil, PFrzP_junk, PFrzP_same, PFrzP_ptr]) rfl) ?_
  refine SemW_re (GStep.wkC (v' := slW false true []) 2 0 rfl (fun v h => by cases h; exact PvWk.nils _ _ _) rfl) ?_
  refine SemW_of ?_
  simp only [PP, P1, P2, P3, P4, P5, P6, P7, P8, P9, P10, P11, P12, P13, P14, L1, P15, N1, N2, N3, N4, N5, N6, N7, I1, I2, I3, I4, I5, I6, I7, reduceIte, reduceCtorEq]
  refine matching_p T ?_
  simp only [PP, P1, P2, P3, P4, P5, P6, P7, P8, P9, P10, P11, P12, P13, P14, L1, P15, N1, N2, N3, N4, N5, N6, N7, I1, I2, I3, I4, I5, I6, I7, reduceIte, reduceCtorEq]
  refine SemW_weak (b := [.junk, .junk, .junk, .junk, .cp [slW f4 o4 s] 0, .junk, .ptr 2 0 0, .junk, .junk, .junk, .func (.func 120) [] [.cp (nfC f1 o1 f2 o2 f3 o3 N) 0, .cp [p8 x] 0], .junk, .junk, .junk, .junk, .junk, .junk, .junk, .junk, .junk, .junk]) ?_ (by simp only [PWeak_nil, PWeak_junk, PWeak_same, Int.cast_ofNat_Int, List.length_append, List.length_cons, List.length_nil, Nat.zero_add])
  refine SemW_rangeN rfl (fun lp q1 q2 q3 q4 q5 q6 => ?_)
  simp only [PP, P1, P2, P3, P4, P5, P6, P7, P8, P9, P10, P11, P12, P13, P14, L1, P15, N1, N2, N3, N4, N5, N6, N7, I1, I2, I3, I4, I5, I6, I7, reduceIte, reduceCtorEq]
  refine matchY_p T (L := 3) hx B.e B.b (fun k G => ∃ ver v o Gs, G = [.gone, .gone, .cells 0 v [slW false true o], .loop ver lp] ++ Gs ∧ o.length ≤ 64 ∧ ∀ j : Nat, bit o j = true ↔ ∃ e ∈ (matE N.es x).take k, bit s e.fr.toNat = true ∧ e.to = j)
    ⟨0, 0, [], [], rfl, by simp, fun j => by simp [bit, wAt]⟩ ?_ ?_ ?_ ?_
  · rintro k G o ⟨ver, v, o', Gs, rfl, h⟩
    exact ⟨ver, v, o', Gs ++ [o], by simp only [List.append_assoc], h⟩
  · rintro k G ⟨ver, v, o', Gs, rfl, h⟩
    exact ⟨ver, lp, rfl⟩
  · rintro k G e ⟨ver, v, o, Gs, rfl, ho, hb⟩ hat K' hK'
    refine SemY_run (ver := ver) (r := lp) rfl (by rw [q4]; rfl) ?_
    rw [q3, q4, q5]
    refine SemW_of ?_
    simp only [psetAll, PP, P1, P2, P3, P4, P5, P6, P7, P8, P9, P10, P11, P12, P13, P14, L1, P15, N1, N2, N3, N4, N5, N6, N7, I1, I2, I3, I4, I5, I6, I7, reduceIte, reduceCtorEq, List.append_assoc, gk, gk0, sk, sk0]
    have hlp : ∀ B, lp.body = B → (⟨.ready, none, lp.tmps, lp.params, lp.assign, B⟩ : PLoop) = lp := fun B hB => by cases lp; simp_all
    refine ⟨ver, lp, rfl, q1, ?_⟩
    rw [q6]
    refine SemW_of ?_
    have hem := List.mem_of_getElem? hat
    have hen : e ∈ N.es := (List.mem_filter.1 hem).1
    obtain ⟨e1, e2, e3, e4, _⟩ := C.ed e hen
    have hfr : e.fr = ((e.fr.toNat : Nat) : Int) := by omega
    have hto : e.to = ((e.to.toNat : Nat) : Int) := by omega
    have nxt : ∀ o' : Wd, (∀ j : Nat, bit o' j = true ↔ (bit o j = true ∨ (bit s e.fr.toNat = true ∧ e.to = j))) → ∀ j : Nat, bit o' j = true ↔ ∃ e ∈ (matE N.es x).take (k + 1), bit s e.fr.toNat = true ∧ e.to = j := fun o' h j => by
      rw [h, hb, List.take_add_one, hat]
      simp only [Option.toList_some, List.mem_append, List.mem_singleton]
      constructor
      · rintro (⟨z, h1, h2⟩ | h)
        · exact ⟨z, .inl h1, h2⟩
        · exact ⟨e, .inr rfl, h⟩
      · rintro ⟨z, h1 | rfl, h2⟩
        · exact .inl ⟨z, h1, h2⟩
        · exact .inr h2
    simp only [PP, P1, P2, P3, P4, P5, P6, P7, P8, P9, P10, P11, P12, P13, P14, L1, P15, N1, N2, N3, N4, N5, N6, N7, I1, I2, I3, I4, I5, I6, I7, reduceIte, reduceCtorEq, List.append_assoc, gk, gk0, sk, sk0]
    rw [show PV.int .i64 e.fr = p64 ((e.fr.toNat : Nat) : Int) by rw [← hfr]]
    refine bsHas_p T hs (by omega) ?_
    cases hbit : bit s e.fr.toNat with
    | false =>
      simp only [PP, P1, P2, P3, P4, P5, P6, P7, P8, P9, P10, P11, P12, P13, P14, L1, P15, N1, N2, N3, N4, N5, N6, N7, I1, I2, I3, I4, I5, I6, I7, reduceIte, reduceCtorEq, List.append_assoc, gk, gk0, sk, sk0]
      refine ⟨ver + 1, _, rfl, ?_⟩
      rw [if_pos rfl]
      refine hK' _ ⟨ver + 1 + 1, v, o, Gs ++ [.cells 0 1 (egC e)], ?_, ho, nxt o fun j => by rw [hbit]; simp⟩
      simp only [PP, P1, P2, P3, P4, P5, P6, P7, P8, P9, P10, P11, P12, P13, P14, L1, P15, N1, N2, N3, N4, N5, N6, N7, I1, I2, I3, I4, I5, I6, I7, reduceIte, reduceCtorEq, List.append_assoc, gk, gk0, sk, sk0, hlp _ q6, ← hfr]
    | true =>
      simp only [PP, P1, P2, P3, P4, P5, P6, P7, P8, P9, P10, P11, P12, P13, P14, L1, P15, N1, N2, N3, N4, N5, N6, N7, I1, I2, I3, I4, I5, I6, I7, reduceIte, reduceCtorEq, List.append_assoc, gk, gk0, sk, sk0]
      rw [show PV.int .i64 e.to = p64 ((e.to.toNat : Nat) : Int) by rw [← hto]]
      refine with_p T (by show _ < 1000000000000; omega) (by omega) ?_
      obtain ⟨w1, w2⟩ := bit_with (k := e.to.toNat) ho (by omega)
      simp only [PP, P1, P2, P3, P4, P5, P6, P7, P8, P9, P10, P11, P12, P13, P14, L1, P15, N1, N2, N3, N4, N5, N6, N7, I1, I2, I3, I4, I5, I6, I7, reduceIte, reduceCtorEq, List.append_assoc, gk, gk0, sk, sk0]
      refine ⟨ver + 1, _, rfl, ?_⟩
      rw [if_pos rfl]
      refine hK' _ ⟨ver + 1 + 1, v + 1, withK o e.to.toNat, Gs ++ [.cells 0 1 (egC e)], ?_, w1, nxt _ fun j => ?_⟩
      · simp only [PP, P1, P2, P3, P4, P5, P6, P7, P8, P9, P10, P11, P12, P13, P14, L1, P15, N1, N2, N3, N4, N5, N6, N7, I1, I2, I3, I4, I5, I6, I7, reduceIte, reduceCtorEq, List.append_assoc, gk, gk0, sk, sk0, hlp _ q6, ← hfr, ← hto]
      · rw [w2, Bool.or_eq_true, decide_eq_true_eq, hbit]
        constructor
        · rintro (h | h)
          · exact .inl h
          · exact .inr ⟨rfl, by omega⟩
        · rintro (h | ⟨_, h⟩)
          · exact .inl h
          · exact .inr (by omega)
  · rintro G ⟨ver, v, o, Gs, rfl, ho, hb⟩
    refine ⟨ver, lp, rfl, by rw [q1]; exact (by intro h; cases h), ?_⟩
    rw [q2]
    simp only [PP, P1, P2, P3, P4, P5, P6, P7, P8, P9, P10, P11, P12, P13, P14, L1, P15, N1, N2, N3, N4, N5, N6, N7, I1, I2, I3, I4, I5, I6, I7, reduceIte, reduceCtorEq, List.append_assoc, gk, gk0, sk, sk0]
    rw [List.take_of_length_le (Nat.le_refl _)] at hb
    exact hk o ⟨ho, hb⟩
end
end Go.Am.Ar
set_option linter.unusedVariables false
set_option linter.unusedSimpArgs false
set_option maxRecDepth 10000
namespace Go.Am.Ar
open Go.Am renaming pchk → P1, pold → P2, PKNo → P3, ppack → P4, PObj.under → P5, pput → P6, ptset → P7, ptget → P8, pev → P9, ofAV → P10, ofAV1 → P11, ppad → P12, pfill → P13, prepl → P14, AO.effect → P15
open List renaming replicate → L1
open Nat renaming reduceAdd → N1, reduceSub → N2, reduceMul → N3, reduceLT → N4, reduceLeDiff → N5, reduceEqDiff → N6, reduceBEq → N7
open Int renaming reduceToNat → I1, reduceLT → I2, reduceLE → I3, reduceEq → I4, reduceAdd → I5, reduceSub → I6, reduceNeg → I7
def wordE (vs : Int) (w : List Int) : Int := if 64 < (w.length : Int) then 4 else if w.any (fun x => decide (2 ^ vs.toNat ≤ x)) = true then 1 else 0
def runP (N : NF) (S : Nat → Prop) (w : List Int) : Nat → Prop := w.foldl (fun S x k => ∃ e ∈ matE N.es x.toNat, S e.fr.toNat ∧ e.to = (k : Int)) S
def accE (N : NF) (w : List Int) : Int := if checkN N = 0 then wordE N.vs w else checkN N
def accP (N : NF) (w : List Int) : Prop := ∃ k : Nat, runP N (fun k => (k : Int) ∈ N.st) w k ∧ (k : Int) ∈ N.fi
def AccA (N : NF) (w : List Int) (b : Bool) (e : Int) : Prop := e = accE N w ∧ (b = true ↔ accE N w = 0 ∧ accP N w)
theorem runP_snoc (N : NF) (S : Nat → Prop) (w : List Int) (x : Int) (k : Nat) : runP N S (w ++ [x]) k = ∃ e ∈ matE N.es x.toNat, runP N S w e.fr.toNat ∧ e.to = (k : Int) := by
  unfold runP; rw [List.foldl_append]; rfl
theorem inter_bits {a b : Wd} (ha : a.length ≤ 64) (hb : b.length ≤ 64) : 0 < (cmb (fun x y => x &&& y) a b).length ↔ ∃ k, bit a k = true ∧ bit b k = true := by
  rw [Nat.pos_iff_ne_zero, ne_eq, cmb_nil]
  constructor
  · intro h
    refine Classical.byContradiction fun q => h fun k => ?_
    rw [bit_cmb_and ha hb]
    cases h1 : bit a k <;> cases h2 : bit b k <;> first | rfl | exact absurd ⟨k, h1, h2⟩ q
  · rintro ⟨k, h1, h2⟩ h
    have := h k
    rw [bit_cmb_and ha hb, h1, h2] at this
    cases this
section
variable {tab : FuncId → Option AF} (T : HasA tab)
include T
theorem idx8_p {M : Mem} {K : PV → Mem → Prop} {f o : Bool} {xs : List Int} {g : FuncId} {cap : List PV} {F : Int → Bool} (hm : xs.length < 1000000000000) (hu : underL 0 cap = true)
    (hf : ∀ x ∈ xs, ∀ (M' : Mem) (K' : PV → Mem → Prop), K' (.bool (F x)) M' → SemC tab g (p8 x :: cap) M' K')
    (hk1 : (∀ x ∈ xs, F x = false) → K (p64 (-1)) M) (hk2 : ∀ (k : Nat) (x : Int), x ∈ xs → F x = true → K (p64 k) M) :
    SemC tab 119 [slI f o .u8 xs, .func (.func g) [] cap] M K := by
  refine SemC_pure T.h119 (by simp only [PP, P1, P2, P3, P4, P5, P6, P7, P8, P9, P10, P11, P12, P13, P14, L1, P15, N1, N2, N3, N4, N5, N6, N7, I1, I2, I3, I4, I5, I6, I7, reduceIte, reduceCtorEq, PV.under, hu]) ?_
  simp only [af119, PP, P1, P2, P3, P4, P5, P6, P7, P8, P9, P10, P11, P12, P13, P14, L1, P15, N1, N2, N3, N4, N5, N6, N7, I1, I2, I3, I4, I5, I6, I7, reduceIte, reduceCtorEq]
  refine loop1 (fun (k : Nat) => k ≤ xs.length ∧ ∀ j, j < k → ∀ x, xs[j]? = some x → F x = false) (fun k => [slI f o .u8 xs, .func (.func g) [] cap, .junk, .junk, .junk, .junk, .junk, p64 xs.length, p64 k, .junk, .junk, .junk, .junk, .junk, .junk, .junk, .junk, .junk, .junk])
    (fun k => []) (fun k => xs.length - k) 0 ⟨by omega, by intro j h; omega⟩ (by simp only [PWeak_nil, PWeak_junk, PWeak_same, Int.cast_ofNat_Int, List.length_append, List.length_cons, List.length_nil, Nat.zero_add]) rfl ?_
  intro k ⟨hle, hd⟩ ih
  refine SemW_go (by kernel_rfl) ?_
  simp only [PP, P1, P2, P3, P4, P5, P6, P7, P8, P9, P10, P11, P12, P13, P14, L1, P15, N1, N2, N3, N4, N5, N6, N7, I1, I2, I3, I4, I5, I6, I7, reduceIte, reduceCtorEq]
  refine QIf.intro (fun c => ?_) (fun c => ?_)
  · have hk' : k < xs.length := by omega
    have k0 : (0 : Int) ≤ k := by omega
    have hwk := wrap_succ (k := k) (by show _ < 1000000000000; omega)
    obtain ⟨x, gx⟩ := some_of (xs := xs) (k := k) hk'
    simp only [PP, P1, P2, P3, P4, P5, P6, P7, P8, P9, P10, P11, P12, P13, P14, L1, P15, N1, N2, N3, N4, N5, N6, N7, I1, I2, I3, I4, I5, I6, I7, reduceIte, reduceCtorEq, c, k0, gx]
    refine hf x (List.mem_of_getElem? gx) _ _ ?_
    cases hF : F x with
    | true =>
      simp only [PP, P1, P2, P3, P4, P5, P6, P7, P8, P9, P10, P11, P12, P13, P14, L1, P15, N1, N2, N3, N4, N5, N6, N7, I1, I2, I3, I4, I5, I6, I7, reduceIte, reduceCtorEq]
      exact hk2 k x (List.mem_of_getElem? gx) hF
    | false =>
      simp only [PP, P1, P2, P3, P4, P5, P6, P7, P8, P9, P10, P11, P12, P13, P14, L1, P15, N1, N2, N3, N4, N5, N6, N7, I1, I2, I3, I4, I5, I6, I7, reduceIte, reduceCtorEq, hwk]
      refine SemW_weak (ih (k + 1) ⟨by omega, fun j hj y gy => ?_⟩ (by omega)) (by simp only [PWeak_nil, PWeak_junk, PWeak_same, Int.cast_ofNat_Int, List.length_append, List.length_cons, List.length_nil, Nat.zero_add])
      by_cases e : j = k
      · subst e; rw [gx] at gy; cases gy; exact hF
      · exact hd j (by omega) y gy
  · simp only [PP, P1, P2, P3, P4, P5, P6, P7, P8, P9, P10, P11, P12, P13, P14, L1, P15, N1, N2, N3, N4, N5, N6, N7, I1, I2, I3, I4, I5, I6, I7, reduceIte, reduceCtorEq, c]
    exact hk1 fun x hx => by
      obtain ⟨j, hj⟩ := List.getElem?_of_mem hx
      exact hd j (by have := getSome_lt hj; omega) x hj
theorem cont8_p {M : Mem} {K : PV → Mem → Prop} {f o : Bool} {xs : List Int} {g : FuncId} {cap : List PV} {F : Int → Bool} (hm : xs.length < 1000000000000) (hu : underL 0 cap = true)
    (hf : ∀ x ∈ xs, ∀ (M' : Mem) (K' : PV → Mem → Prop), K' (.bool (F x)) M' → SemC tab g (p8 x :: cap) M' K')
    (hk1 : (∀ x ∈ xs, F x = false) → K (.bool false) M) (hk2 : (∃ x, x ∈ xs ∧ F x = true) → K (.bool true) M) :
    SemC tab 104 [slI f o .u8 xs, .func (.func g) [] cap] M K := by
  refine SemC_pure T.h104 (by simp only [PP, P1, P2, P3, P4, P5, P6, P7, P8, P9, P10, P11, P12, P13, P14, L1, P15, N1, N2, N3, N4, N5, N6, N7, I1, I2, I3, I4, I5, I6, I7, reduceIte, reduceCtorEq, PV.under, hu]) ?_
  simp only [af104, PP, P1, P2, P3, P4, P5, P6, P7, P8, P9, P10, P11, P12, P13, P14, L1, P15, N1, N2, N3, N4, N5, N6, N7, I1, I2, I3, I4, I5, I6, I7, reduceIte, reduceCtorEq]
  refine idx8_p T hm hu hf (fun h => ?_) (fun k x hx hF => ?_)
  · have e : ¬ (0 : Int) ≤ -1 := by omega
    simp only [PP, P1, P2, P3, P4, P5, P6, P7, P8, P9, P10, P11, P12, P13, P14, L1, P15, N1, N2, N3, N4, N5, N6, N7, I1, I2, I3, I4, I5, I6, I7, reduceIte, reduceCtorEq, e]
    exact hk1 h
  · have e : (0 : Int) ≤ k := by omega
    simp only [PP, P1, P2, P3, P4, P5, P6, P7, P8, P9, P10, P11, P12, P13, P14, L1, P15, N1, N2, N3, N4, N5, N6, N7, I1, I2, I3, I4, I5, I6, I7, reduceIte, reduceCtorEq, e]
    exact hk2 ⟨x, hx, hF⟩
theorem word1_p {M : Mem} {K : PV → Mem → Prop} {f1 o1 f2 o2 f3 o3 : Bool} {N : NF} {x : Int} (C : NOk N) (hx : 0 ≤ x ∧ x ≤ 255) (hk : K (.bool (decide (2 ^ N.vs.toNat ≤ x))) M) : SemC tab 105 [p8 x, .cp (nfC f1 o1 f2 o2 f3 o3 N) 0] M K := by
  refine SemC_pure T.h105 (by simp only [PP, P1, P2, P3, P4, P5, P6, P7, P8, P9, P10, P11, P12, P13, P14, L1, P15, N1, N2, N3, N4, N5, N6, N7, I1, I2, I3, I4, I5, I6, I7, reduceIte, reduceCtorEq, PV.under, egL_und]) ?_
  have v0 := C.v0
  have v6 := C.v6
  have w : IntKind.i64.wrap x = x := wrap64 (by omega) (by omega)
  have sh := pshl (v := N.vs) (by omega) (by omega)
  simp only [af105, PP, P1, P2, P3, P4, P5, P6, P7, P8, P9, P10, P11, P12, P13, P14, L1, P15, N1, N2, N3, N4, N5, N6, N7, I1, I2, I3, I4, I5, I6, I7, reduceIte, reduceCtorEq, w, sh]
  exact hk
theorem word_p {M : Mem} {K : PV → Mem → Prop} {f1 o1 f2 o2 f3 o3 f4 o4 : Bool} {N : NF} {w : List Int} (C : NOk N) (hw : ∀ x ∈ w, 0 ≤ x ∧ x ≤ 255) (hl : w.length < 1000000000000) (hk : K (p64 (wordE N.vs w)) M) :
    SemC tab 83 [.agg (nfC f1 o1 f2 o2 f3 o3 N), slI f4 o4 .u8 w] M K := by
  refine SemC_pureS T.h83 (by simp only [PP, P1, P2, P3, P4, P5, P6, P7, P8, P9, P10, P11, P12, P13, P14, L1, P15, N1, N2, N3, N4, N5, N6, N7, I1, I2, I3, I4, I5, I6, I7, reduceIte, reduceCtorEq, under_slE]) ?_
  simp only [af83]
  refine SemW_seq (SemW_of ?_)
  simp only [PP, P1, P2, P3, P4, P5, P6, P7, P8, P9, P10, P11, P12, P13, P14, L1, P15, N1, N2, N3, N4, N5, N6, N7, I1, I2, I3, I4, I5, I6, I7, reduceIte, reduceCtorEq]
  refine SemW_re (GStep.freezeP (b := [.junk, slI f4 o4 .u8 w, .cp (nfC f1 o1 f2 o2 f3 o3 N) 0, .junk, p64 0, .junk, .junk, .junk, .junk, .junk, .junk, .junk, .junk]) 0 (Nat.zero_le _) rfl (by simp only [PFrzP_nil, PFrzP_junk, PFrzP_same, PFrzP_ptr]) rfl) ?_
  refine SemW_of ?_
  simp only [PP, P1, P2, P3, P4, P5, P6, P7, P8, P9, P10, P11, P12, P13, P14, L1, P15, N1, N2, N3, N4, N5, N6, N7, I1, I2, I3, I4, I5, I6, I7, reduceIte, reduceCtorEq]
  unfold wordE at hk
  refine QIf.intro (fun c => ?_) (fun c => ?_)
  · rw [if_pos c] at hk
    simp only [PP, P1, P2, P3, P4, P5, P6, P7, P8, P9, P10, P11, P12, P13, P14, L1, P15, N1, N2, N3, N4, N5, N6, N7, I1, I2, I3, I4, I5, I6, I7, reduceIte, reduceCtorEq, c]
    exact hk
  rw [if_neg c] at hk
  simp only [PP, P1, P2, P3, P4, P5, P6, P7, P8, P9, P10, P11, P12, P13, P14, L1, P15, N1, N2, N3, N4, N5, N6, N7, I1, I2, I3, I4, I5, I6, I7, reduceIte, reduceCtorEq, c]
  refine cont8_p T (F := fun x => decide (2 ^ N.vs.toNat ≤ x)) hl (by simp only [PP, P1, P2, P3, P4, P5, P6, P7, P8, P9, P10, P11, P12, P13, P14, L1, P15, N1, N2, N3, N4, N5, N6, N7, I1, I2, I3, I4, I5, I6, I7, reduceIte, reduceCtorEq, PV.under, egL_und]) (fun x hx M' K' hK' => word1_p T C (hw x hx) hK') (fun h => ?_) (fun ⟨x, hx, hF⟩ => ?_)
  · rw [if_neg (by rw [Bool.not_eq_true, List.any_eq_false]; intro x hx; rw [h x hx]; decide)] at hk
    simp only [PP, P1, P2, P3, P4, P5, P6, P7, P8, P9, P10, P11, P12, P13, P14, L1, P15, N1, N2, N3, N4, N5, N6, N7, I1, I2, I3, I4, I5, I6, I7, reduceIte, reduceCtorEq]
    exact hk
  · rw [if_pos (List.any_eq_true.2 ⟨x, hx, hF⟩)] at hk
    simp only [PP, P1, P2, P3, P4, P5, P6, P7, P8, P9, P10, P11, P12, P13, P14, L1, P15, N1, N2, N3, N4, N5, N6, N7, I1, I2, I3, I4, I5, I6, I7, reduceIte, reduceCtorEq]
    exact hk
set_option maxHeartbeats 1000000 in
theorem run_p {M : Mem} {K : PV → Mem → Prop} {f1 o1 f2 o2 f3 o3 f4 o4 : Bool} {N : NF} {w : List Int} (B : BnN N) (hw : ∀ x ∈ w, 0 ≤ x ∧ x ≤ 255) (hl : w.length < 1000000000000) (hk1 : accE N w ≠ 0 → K (.tuple [.nils, p64 (accE N w)]) M)
    (hk2 : accE N w = 0 → ∀ o : Wd, o.length ≤ 64 → (∀ k, bit o k = true ↔ runP N (fun k => (k : Int) ∈ N.st) w k) → K (.tuple [slW false true o, p64 0]) M) :
    SemC tab 62 [.agg (nfC f1 o1 f2 o2 f3 o3 N), slI f4 o4 .u8 w] M K := by
  refine SemC_pure T.h62 (by simp only [PP, P1, P2, P3, P4, P5, P6, P7, P8, P9, P10, P11, P12, P13, P14, L1, P15, N1, N2, N3, N4, N5, N6, N7, I1, I2, I3, I4, I5, I6, I7, reduceIte, reduceCtorEq, under_slE]) ?_
  simp only [af62, PP, P1, P2, P3, P4, P5, P6, P7, P8, P9, P10, P11, P12, P13, P14, L1, P15, N1, N2, N3, N4, N5, N6, N7, I1, I2, I3, I4, I5, I6, I7, reduceIte, reduceCtorEq]
  refine check_p T B ?_
  unfold accE at hk1 hk2
  by_cases c : checkN N = 0
  rotate_left
  · rw [if_neg c] at hk1
    simp only [PP, P1, P2, P3, P4, P5, P6, P7, P8, P9, P10, P11, P12, P13, P14, L1, P15, N1, N2, N3, N4, N5, N6, N7, I1, I2, I3, I4, I5, I6, I7, reduceIte, reduceCtorEq, c]
    exact hk1 c
  rw [if_pos c] at hk1 hk2
  have C := nok_of c
  simp only [PP, P1, P2, P3, P4, P5, P6, P7, P8, P9, P10, P11, P12, P13, P14, L1, P15, N1, N2, N3, N4, N5, N6, N7, I1, I2, I3, I4, I5, I6, I7, reduceIte, reduceCtorEq, c]
  refine word_p T C hw hl ?_
  by_cases d : wordE N.vs w = 0
  rotate_left
  · simp only [PP, P1, P2, P3, P4, P5, P6, P7, P8, P9, P10, P11, P12, P13, P14, L1, P15, N1, N2, N3, N4, N5, N6, N7, I1, I2, I3, I4, I5, I6, I7, reduceIte, reduceCtorEq, d]
    exact hk1 d
  have hk3 := hk2 d
  obtain ⟨_, fs2, fs3⟩ := fa_ok C C.st
  simp only [PP, P1, P2, P3, P4, P5, P6, P7, P8, P9, P10, P11, P12, P13, P14, L1, P15, N1, N2, N3, N4, N5, N6, N7, I1, I2, I3, I4, I5, I6, I7, reduceIte, reduceCtorEq, d]
  refine ofF_p T C C.st ?_
  simp only [PP, P1, P2, P3, P4, P5, P6, P7, P8, P9, P10, P11, P12, P13, P14, L1, P15, N1, N2, N3, N4, N5, N6, N7, I1, I2, I3, I4, I5, I6, I7, reduceIte, reduceCtorEq]
  refine loop2 (fun (k : Nat) (s : Wd) => k ≤ w.length ∧ s.length ≤ 64 ∧ ∀ j, bit s j = true ↔ runP N (fun k => (k : Int) ∈ N.st) (w.take k) j) (fun k s => [.junk, .junk, .ptr 0 0 0, .junk, .junk, .junk, .junk, slW false true s, .junk, .junk, .junk, .junk, .junk, .junk, .junk, .junk, .junk, .junk, .junk, .junk, .junk, .junk, .junk, slI f4 o4 .u8 w, p64 w.length, p64 k, .junk, .junk, .junk, .junk, .junk, .junk, .junk, .junk, .junk]) (fun _ _ => [.cells 0 0 (nfC f1 o1 f2 o2 f3 o3 N)]) (fun k _ => w.length - k) 0 (faW N.st) ⟨by omega, fs2, fun j => by rw [fs3, decide_eq_true_eq]; exact Iff.rfl⟩ (by simp only [PWeak_nil, PWeak_junk, PWeak_same, Int.cast_ofNat_Int, List.length_append, List.length_cons, List.length_nil, Nat.zero_add]) rfl ?_
  intro k s ⟨hle, hs, hb⟩ ih
  refine SemW_go (by kernel_rfl) ?_
  simp only [PP, P1, P2, P3, P4, P5, P6, P7, P8, P9, P10, P11, P12, P13, P14, L1, P15, N1, N2, N3, N4, N5, N6, N7, I1, I2, I3, I4, I5, I6, I7, reduceIte, reduceCtorEq]
  refine QIf.intro (fun e => ?_) (fun e => ?_)
  · have hk' : k < w.length := by omega
    obtain ⟨x, gx⟩ := some_of hk'
    obtain ⟨x0, x1⟩ := hw x (List.mem_of_getElem? gx)
    have k0 : (0 : Int) ≤ k := by omega
    have hwk := wrap_succ (k := k) (by show _ < 1000000000000; omega)
    simp only [PP, P1, P2, P3, P4, P5, P6, P7, P8, P9, P10, P11, P12, P13, P14, L1, P15, N1, N2, N3, N4, N5, N6, N7, I1, I2, I3, I4, I5, I6, I7, reduceIte, reduceCtorEq, e, k0, gx]
    obtain ⟨xn, rfl⟩ : ∃ xn : Nat, x = xn := ⟨x.toNat, by omega⟩
    refine aft_p T C B hs (by omega) (fun o ho => ?_)
    simp only [PP, P1, P2, P3, P4, P5, P6, P7, P8, P9, P10, P11, P12, P13, P14, L1, P15, N1, N2, N3, N4, N5, N6, N7, I1, I2, I3, I4, I5, I6, I7, reduceIte, reduceCtorEq, hwk]
    refine SemW_weak (ih (k + 1) o ⟨by omega, ho.1, fun j => ?_⟩ (by omega)) (by simp only [PWeak_nil, PWeak_junk, PWeak_same, Int.cast_ofNat_Int, List.length_append, List.length_cons, List.length_nil, Nat.zero_add])
    rw [ho.2, List.take_add_one, gx]
    show _ ↔ runP N _ (_ ++ [(xn : Int)]) j
    rw [runP_snoc]
    simp only [hb]
    exact Iff.rfl
  · rw [List.take_of_length_le (by omega)] at hb
    simp only [PP, P1, P2, P3, P4, P5, P6, P7, P8, P9, P10, P11, P12, P13, P14, L1, P15, N1, N2, N3, N4, N5, N6, N7, I1, I2, I3, I4, I5, I6, I7, reduceIte, reduceCtorEq, e]
    exact hk3 s hs hb
theorem accepts_p {M : Mem} {K : PV → Mem → Prop} {f1 o1 f2 o2 f3 o3 f4 o4 : Bool} {N : NF} {w : List Int} (B : BnN N) (hw : ∀ x ∈ w, 0 ≤ x ∧ x ≤ 255) (hl : w.length < 1000000000000) (hk : ∀ b e, AccA N w b e → K (.tuple [.bool b, p64 e]) M) :
    SemC tab 30 [.agg (nfC f1 o1 f2 o2 f3 o3 N), slI f4 o4 .u8 w] M K := by
  refine SemC_pure T.h30 (by simp only [PP, P1, P2, P3, P4, P5, P6, P7, P8, P9, P10, P11, P12, P13, P14, L1, P15, N1, N2, N3, N4, N5, N6, N7, I1, I2, I3, I4, I5, I6, I7, reduceIte, reduceCtorEq, under_slE]) ?_
  simp only [af30, PP, P1, P2, P3, P4, P5, P6, P7, P8, P9, P10, P11, P12, P13, P14, L1, P15, N1, N2, N3, N4, N5, N6, N7, I1, I2, I3, I4, I5, I6, I7, reduceIte, reduceCtorEq]
  refine run_p T B hw hl (fun h => ?_) (fun h o ho hb => ?_)
  · simp only [PP, P1, P2, P3, P4, P5, P6, P7, P8, P9, P10, P11, P12, P13, P14, L1, P15, N1, N2, N3, N4, N5, N6, N7, I1, I2, I3, I4, I5, I6, I7, reduceIte, reduceCtorEq, h]
    exact hk false _ ⟨rfl, (fun q => by cases q), fun q => absurd q.1 h⟩
  · have c : checkN N = 0 := Classical.byContradiction fun q => by unfold accE at h; rw [if_neg q] at h; exact q h
    have C := nok_of c
    obtain ⟨_, fa2, fa3⟩ := fa_ok C C.fi
    simp only [PP, P1, P2, P3, P4, P5, P6, P7, P8, P9, P10, P11, P12, P13, P14, L1, P15, N1, N2, N3, N4, N5, N6, N7, I1, I2, I3, I4, I5, I6, I7, reduceIte, reduceCtorEq]
    refine ofF_p T C C.fi ?_
    simp only [PP, P1, P2, P3, P4, P5, P6, P7, P8, P9, P10, P11, P12, P13, P14, L1, P15, N1, N2, N3, N4, N5, N6, N7, I1, I2, I3, I4, I5, I6, I7, reduceIte, reduceCtorEq]
    refine intersects_p T (by show _ < 1000000000000; omega) (by show _ < 1000000000000; omega) ?_
    simp only [PP, P1, P2, P3, P4, P5, P6, P7, P8, P9, P10, P11, P12, P13, P14, L1, P15, N1, N2, N3, N4, N5, N6, N7, I1, I2, I3, I4, I5, I6, I7, reduceIte, reduceCtorEq]
    refine hk _ 0 ⟨h.symm, ?_⟩
    rw [decide_eq_true_eq, inter_bits ho fa2]
    constructor
    · rintro ⟨k, h1, h2⟩
      exact ⟨h, k, (hb k).1 h1, by rw [fa3, decide_eq_true_eq] at h2; exact h2⟩
    · rintro ⟨_, k, h1, h2⟩
      exact ⟨k, (hb k).2 h1, by rw [fa3, decide_eq_true_eq]; exact h2⟩
end
end Go.Am.Ar
set_option linter.unusedVariables false
namespace Go.Am.Ar
def accF (es : List Eg) (fi : List Int) : List Int → Nat → Prop
  | [], p => (p : Int) ∈ fi
  | x :: w, p => ∃ e ∈ matE es x.toNat, e.fr = (p : Int) ∧ accF es fi w e.to.toNat
theorem acc_go {N : NF} (C : NOk N) : ∀ (w : List Int) (S : Nat → Prop), (∃ k : Nat, runP N S w k ∧ (k : Int) ∈ N.fi) ↔ ∃ p, S p ∧ accF N.es N.fi w p
  | [], S => Iff.rfl
  | x :: w, S => by
    have ih := acc_go C w (fun k => ∃ e ∈ matE N.es x.toNat, S e.fr.toNat ∧ e.to = (k : Int))
    have e1 : ∀ k, runP N S (x :: w) k = runP N (fun k => ∃ e ∈ matE N.es x.toNat, S e.fr.toNat ∧ e.to = (k : Int)) w k := fun k => rfl
    simp only [e1]
    rw [ih]
    constructor
    · rintro ⟨p, ⟨e, h1, h2, h3⟩, h4⟩
      have := C.ed e (List.mem_filter.1 h1).1
      exact ⟨e.fr.toNat, h2, e, h1, by omega, by rw [h3]; exact h4⟩
    · rintro ⟨p, h1, e, h2, h3, h4⟩
      have := C.ed e (List.mem_filter.1 h2).1
      exact ⟨e.to.toNat, ⟨e, h2, by rw [h3]; exact h1, by omega⟩, h4⟩
theorem accP_iff {N : NF} (C : NOk N) (w : List Int) : accP N w ↔ ∃ p : Nat, (p : Int) ∈ N.st ∧ accF N.es N.fi w p := acc_go C w _
def WdOk (vs : Int) (w : List Int) : Prop := ∀ x ∈ w, x.toNat < 2 ^ vs.toNat
theorem word_ok {vs : Int} {w : List Int} (h : wordE vs w = 0) : WdOk vs w := by
  intro x hx
  unfold wordE at h
  split at h
  · cases h
  · split at h
    · cases h
    · rename_i q
      rw [Bool.not_eq_true, List.any_eq_false] at q
      have := q x hx
      simp only [decide_eq_true_eq] at this
      have e : ((2 ^ vs.toNat : Nat) : Int) = 2 ^ vs.toNat := by simp
      have hp : 0 < 2 ^ vs.toNat := Nat.pow_pos (by decide)
      omega
theorem mem_mvL {v p : Int} {es : List Eg} {x : Nat} {u : Int} : (x, u) ∈ mvL v p es ↔ x < 2 ^ v.toNat ∧ ∃ e ∈ matE es x, e.fr = p ∧ e.to = u := by
  unfold mvL matE
  rw [List.mem_flatMap]
  constructor
  · rintro ⟨e, he, h⟩
    unfold mvE at h
    split at h
    · rename_i q
      obtain ⟨y, hy, z⟩ := List.mem_map.1 h
      cases z
      obtain ⟨h1, h2⟩ := List.mem_filter.1 hy
      exact ⟨List.mem_range.1 h1, e, List.mem_filter.2 ⟨he, h2⟩, q, rfl⟩
    · cases h
  · rintro ⟨hx, e, he, h1, h2⟩
    obtain ⟨h3, h4⟩ := List.mem_filter.1 he
    refine ⟨e, h3, ?_⟩
    unfold mvE
    rw [if_pos h1]
    exact List.mem_map.2 ⟨x, List.mem_filter.2 ⟨List.mem_range.2 hx, h4⟩, by rw [h2]⟩
theorem sim_acc {N : NF} (C : NOk N) {r : Int → Int → Bool} (S : SimR N r) : ∀ (w : List Int), WdOk N.vs w → ∀ p q : Nat, (p : Int) < N.n → (q : Int) < N.n → r p q = true → accF N.es N.fi w p → accF N.es N.fi w q
  | [], _, p, q, hp, hq, hr, h => (S p q hp hq hr).1 h
  | x :: w, hw, p, q, hp, hq, hr, ⟨e, h1, h2, h3⟩ => by
    have hx := hw x (by simp)
    obtain ⟨q1, q2, q3, q4, _⟩ := C.ed e (List.mem_filter.1 h1).1
    obtain ⟨⟨y, v⟩, k1, k2, k3⟩ := (S p q hp hq hr).2 (x.toNat, e.to) (mem_mvL.2 ⟨hx, e, h1, h2, rfl⟩)
    simp only at k2 k3
    subst k2
    obtain ⟨_, e', m1, m2, m3⟩ := mem_mvL.1 k1
    obtain ⟨q5, q6, q7, q8, _⟩ := C.ed e' (List.mem_filter.1 m1).1
    refine ⟨e', m1, m2, ?_⟩
    refine sim_acc C S w (fun z hz => hw z (by simp [hz])) e.to.toNat e'.to.toNat (by omega) (by omega) ?_ h3
    rw [Int.toNat_of_nonneg q3, Int.toNat_of_nonneg q7, m3]; exact k3
end Go.Am.Ar
set_option linter.unusedVariables false
namespace Go.Am.Ar
section
variable {N : NF} {rs : List (List Bool)} {l : List Int} {m : Nat} (C : NOk N) (R : RelOk N rs) (hC : ClsI rs N.n.toNat l m)
include C R hC
theorem cl_iff {p q : Int} (p0 : 0 ≤ p) (pn : p < N.n) (q0 : 0 ≤ q) (qn : q < N.n) : clAt l p = clAt l q ↔ rAt rs p q = true ∧ rAt rs q p = true := by
  have n0 := C.n0
  have h := hC.iff (R.eqv C (n := N.n.toNat) (by omega)) (Nat.le_refl _) p.toNat q.toNat _ _ (cl_at C hC p0 pn).1 (cl_at C hC q0 qn).1
  rw [h]
  unfold simB
  rw [Bool.and_eq_true, Int.toNat_of_nonneg p0, Int.toNat_of_nonneg q0]
theorem rAt_tr {p q s : Int} (p0 : 0 ≤ p) (pn : p < N.n) (q0 : 0 ≤ q) (qn : q < N.n) (s0 : 0 ≤ s) (sn : s < N.n) (h1 : rAt rs p q = true) (h2 : rAt rs q s = true) : rAt rs p s = true := by
  have _ := C
  have _ := R
  have _ := hC
  have := R.trans C (p := p.toNat) (q := q.toNat) (s := s.toNat) (by omega) (by omega) (by omega) (by rw [Int.toNat_of_nonneg p0, Int.toNat_of_nonneg q0]; exact h1) (by rw [Int.toNat_of_nonneg q0, Int.toNat_of_nonneg s0]; exact h2)
  rwa [Int.toNat_of_nonneg p0, Int.toNat_of_nonneg s0] at this
omit C R hC in
theorem matQ {x : Nat} {e' : Eg} : e' ∈ matE (edsQ l N.es) x ↔ ∃ e ∈ matE N.es x, edQ l e = e' := by
  unfold matE
  rw [List.mem_filter, mem_edsQ]
  constructor
  · rintro ⟨⟨e, h1, rfl⟩, h2⟩
    exact ⟨e, List.mem_filter.2 ⟨h1, h2⟩, rfl⟩
  · rintro ⟨e, h1, rfl⟩
    obtain ⟨h2, h3⟩ := List.mem_filter.1 h1
    exact ⟨⟨e, h2, rfl⟩, h3⟩
theorem sim_mv {x : Nat} {p q u : Int} (hx : x < 2 ^ N.vs.toNat) (p0 : 0 ≤ p) (pn : p < N.n) (q0 : 0 ≤ q) (qn : q < N.n) (h : rAt rs p q = true) {e : Eg} (he : e ∈ matE N.es x) (hp : e.fr = p) :
    ∃ e' ∈ matE N.es x, e'.fr = q ∧ rAt rs e.to e'.to = true := by
  have _ := C
  have _ := R
  have _ := hC
  have hs := R.s p.toNat q.toNat (by omega) (by omega) (by rw [Int.toNat_of_nonneg p0, Int.toNat_of_nonneg q0]; exact h)
  rw [Int.toNat_of_nonneg p0, Int.toNat_of_nonneg q0] at hs
  obtain ⟨⟨y, v⟩, k1, k2, k3⟩ := hs.2 (x, e.to) (mem_mvL.2 ⟨hx, e, he, hp, rfl⟩)
  simp only at k2 k3
  subst k2
  obtain ⟨_, e', m1, m2, m3⟩ := mem_mvL.1 k1
  exact ⟨e', m1, m2, by rw [m3]; exact k3⟩
theorem sim_fi {p q : Int} (p0 : 0 ≤ p) (pn : p < N.n) (q0 : 0 ≤ q) (qn : q < N.n) (h : rAt rs p q = true) (hf : p ∈ N.fi) : q ∈ N.fi := by
  have _ := C
  have _ := R
  have _ := hC
  have hs := R.s p.toNat q.toNat (by omega) (by omega) (by rw [Int.toNat_of_nonneg p0, Int.toNat_of_nonneg q0]; exact h)
  rw [Int.toNat_of_nonneg p0, Int.toNat_of_nonneg q0] at hs
  exact hs.1 hf
theorem fiQ {p : Int} (p0 : 0 ≤ p) (pn : p < N.n) : clAt l p ∈ (quoN N l m).fi ↔ p ∈ N.fi := by
  show clAt l p ∈ setQ l N.fi m ↔ _
  rw [mem_setQ]
  have hfi := posM_mem C.fi
  constructor
  · rintro ⟨_, q, h1, h2⟩
    have hq := hfi q h1
    exact sim_fi C R hC hq.1 hq.2 p0 pn ((cl_iff C R hC hq.1 hq.2 p0 pn).1 h2).1 h1
  · intro h
    exact ⟨(cl_at C hC p0 pn).2, p, h, rfl⟩
end
end Go.Am.Ar
set_option linter.unusedVariables false
namespace Go.Am.Ar
section
variable {A B : NF} (hu : uniE A B = 0)
include hu
theorem uni_mat1 {x : Nat} {p : Int} {e : Eg} (pn : p < A.n) : (e ∈ matE (uniN A B).es x ∧ e.fr = p) ↔ (e ∈ matE A.es x ∧ e.fr = p) := by
  obtain ⟨a, b, c, d, _⟩ := uniE_ok hu
  have CB := nok_of b
  unfold matE uniN
  simp only [List.filter_append, List.mem_append, List.mem_filter, List.mem_map]
  constructor
  · rintro ⟨h | ⟨⟨y, hy, rfl⟩, _⟩, h2⟩
    · exact ⟨h, h2⟩
    · have := CB.ed y hy
      exfalso
      have h2 : A.n + y.fr = p := h2
      omega
  · rintro ⟨h, h2⟩
    exact ⟨.inl h, h2⟩
theorem uni_mat2 {x : Nat} {q : Int} {e : Eg} (q0 : 0 ≤ q) : (e ∈ matE (uniN A B).es x ∧ e.fr = A.n + q) ↔ ∃ y ∈ matE B.es x, y.fr = q ∧ e = shG A.n y := by
  obtain ⟨a, b, c, d, _⟩ := uniE_ok hu
  have CA := nok_of a
  unfold matE uniN
  simp only [List.filter_append, List.mem_append, List.mem_filter, List.mem_map]
  constructor
  · rintro ⟨⟨h1, h2⟩ | ⟨⟨y, hy, rfl⟩, h3⟩, h2⟩
    · have := CA.ed e h1
      omega
    · have h2 : A.n + y.fr = A.n + q := h2
      exact ⟨y, ⟨hy, h3⟩, by omega, rfl⟩
  · rintro ⟨y, ⟨hy, h3⟩, h4, rfl⟩
    exact ⟨.inr ⟨⟨y, hy, rfl⟩, h3⟩, by show A.n + y.fr = _; omega⟩
theorem uni_fi1 {p : Int} (pn : p < A.n) : p ∈ (uniN A B).fi ↔ p ∈ A.fi := by
  obtain ⟨a, b, c, d, _⟩ := uniE_ok hu
  have hb := posM_mem (nok_of b).fi
  unfold uniN shI
  simp only [List.mem_append, List.mem_map]
  constructor
  · rintro (h | ⟨y, hy, h⟩)
    · exact h
    · have := hb y hy; omega
  · exact .inl
theorem uni_fi2 {q : Int} (q0 : 0 ≤ q) : A.n + q ∈ (uniN A B).fi ↔ q ∈ B.fi := by
  obtain ⟨a, b, c, d, _⟩ := uniE_ok hu
  have ha := posM_mem (nok_of a).fi
  unfold uniN shI
  simp only [List.mem_append, List.mem_map]
  constructor
  · rintro (h | ⟨y, hy, h⟩)
    · have := ha _ h; omega
    · have : y = q := by omega
      subst this; exact hy
  · intro h; exact .inr ⟨q, h, rfl⟩
theorem uni_acc1 : ∀ (w : List Int) (p : Int), 0 ≤ p → p < A.n → (accF (uniN A B).es (uniN A B).fi w p.toNat ↔ accF A.es A.fi w p.toNat)
  | [], p, p0, pn => by
    show ((p.toNat : Nat) : Int) ∈ _ ↔ ((p.toNat : Nat) : Int) ∈ _
    rw [Int.toNat_of_nonneg p0]; exact uni_fi1 hu pn
  | x :: w, p, p0, pn => by
    have CA := nok_of (uniE_ok hu).1
    show (∃ e : Eg, e ∈ _ ∧ e.fr = ((p.toNat : Nat) : Int) ∧ _) ↔ (∃ e : Eg, e ∈ _ ∧ e.fr = ((p.toNat : Nat) : Int) ∧ _)
    rw [Int.toNat_of_nonneg p0]
    constructor
    · rintro ⟨e, h1, h2, h3⟩
      obtain ⟨h4, _⟩ := (uni_mat1 hu pn).1 ⟨h1, h2⟩
      obtain ⟨q1, q2, q3, q4, _⟩ := CA.ed e (List.mem_filter.1 h4).1
      exact ⟨e, h4, h2, (uni_acc1 w e.to q3 q4).1 h3⟩
    · rintro ⟨e, h1, h2, h3⟩
      obtain ⟨q1, q2, q3, q4, _⟩ := CA.ed e (List.mem_filter.1 h1).1
      exact ⟨e, ((uni_mat1 hu pn).2 ⟨h1, h2⟩).1, h2, (uni_acc1 w e.to q3 q4).2 h3⟩
theorem uni_acc2 : ∀ (w : List Int) (q : Int), 0 ≤ q → q < B.n → (accF (uniN A B).es (uniN A B).fi w (A.n + q).toNat ↔ accF B.es B.fi w q.toNat)
  | [], q, q0, qn => by
    have CA := nok_of (uniE_ok hu).1
    have := CA.n0
    show (((A.n + q).toNat : Nat) : Int) ∈ _ ↔ ((q.toNat : Nat) : Int) ∈ _
    rw [Int.toNat_of_nonneg q0, Int.toNat_of_nonneg (by omega)]; exact uni_fi2 hu q0
  | x :: w, q, q0, qn => by
    have CA := nok_of (uniE_ok hu).1
    have CB := nok_of (uniE_ok hu).2.1
    have := CA.n0
    show (∃ e : Eg, e ∈ _ ∧ e.fr = (((A.n + q).toNat : Nat) : Int) ∧ _) ↔ (∃ e : Eg, e ∈ _ ∧ e.fr = ((q.toNat : Nat) : Int) ∧ _)
    rw [Int.toNat_of_nonneg q0, Int.toNat_of_nonneg (by omega)]
    constructor
    · rintro ⟨e, h1, h2, h3⟩
      obtain ⟨y, h4, h5, rfl⟩ := (uni_mat2 hu q0).1 ⟨h1, h2⟩
      obtain ⟨q1, q2, q3, q4, _⟩ := CB.ed y (List.mem_filter.1 h4).1
      exact ⟨y, h4, h5, (uni_acc2 w y.to q3 q4).1 h3⟩
    · rintro ⟨y, h1, h2, h3⟩
      obtain ⟨q1, q2, q3, q4, _⟩ := CB.ed y (List.mem_filter.1 h1).1
      have h5 := (uni_mat2 hu q0).2 ⟨y, h1, h2, rfl⟩
      exact ⟨shG A.n y, h5.1, h5.2, (uni_acc2 w y.to q3 q4).2 h3⟩
theorem uni_sim {rs : List (List Bool)} (R : RelOk (uniN A B) rs) (G : Int → Int → Prop)
    (hG : ∀ p q, 0 ≤ p → p < A.n → 0 ≤ q → q < B.n → G p q → (p ∈ A.fi → q ∈ B.fi) ∧ ∀ (x : Nat) (e : Eg), x < 2 ^ A.vs.toNat → e ∈ matE A.es x → e.fr = p → ∃ e' ∈ matE B.es x, e'.fr = q ∧ G e.to e'.to) :
    ∀ p q, 0 ≤ p → p < A.n → 0 ≤ q → q < B.n → G p q → rAt rs p (A.n + q) = true := by
  classical
  intro p q p0 pn q0 qn hpq
  obtain ⟨a, b, c, d, _⟩ := uniE_ok hu
  have CA := nok_of a
  have CB := nok_of b
  have na0 := CA.n0
  have hn : (uniN A B).n = A.n + B.n := rfl
  have key := R.u (fun u v => decide (0 ≤ u ∧ u < A.n ∧ A.n ≤ v ∧ v < A.n + B.n ∧ G u (v - A.n))) (fun u v hu' hv' h => ?_) p.toNat (A.n + q).toNat (by omega) (by omega) (decide_eq_true ?_)
  · rwa [Int.toNat_of_nonneg p0, Int.toNat_of_nonneg (by omega)] at key
  · obtain ⟨u0, un, v0, vn, hg⟩ := of_decide_eq_true h
    obtain ⟨g1, g2⟩ := hG u (v - A.n) u0 un (by omega) (by omega) hg
    have ev : (v : Int) = A.n + (v - A.n) := by omega
    refine ⟨fun hf => ?_, fun xu hxu => ?_⟩
    · rw [ev, uni_fi2 hu (by omega)]
      exact g1 ((uni_fi1 hu un).1 hf)
    · obtain ⟨x, t⟩ := xu
      obtain ⟨hx, e, k1, k2, k3⟩ := mem_mvL.1 hxu
      obtain ⟨k4, _⟩ := (uni_mat1 hu un).1 ⟨k1, k2⟩
      obtain ⟨q1, q2, q3, q4, _⟩ := CA.ed e (List.mem_filter.1 k4).1
      obtain ⟨e', m1, m2, m3⟩ := g2 x e hx k4 k2
      obtain ⟨q5, q6, q7, q8, _⟩ := CB.ed e' (List.mem_filter.1 m1).1
      have m4 := (uni_mat2 hu (q := v - A.n) (by omega)).2 ⟨e', m1, m2, rfl⟩
      refine ⟨(x, A.n + e'.to), mem_mvL.2 ⟨hx, shG A.n e', m4.1, by rw [m4.2]; omega, rfl⟩, rfl, ?_⟩
      refine decide_eq_true ⟨?_, ?_, ?_, ?_, ?_⟩
      · show 0 ≤ t; omega
      · show t < A.n; omega
      · show A.n ≤ A.n + e'.to; omega
      · show A.n + e'.to < A.n + B.n; omega
      · show G t (A.n + e'.to - A.n)
        rw [← k3, show A.n + e'.to - A.n = e'.to by omega]; exact m3
  · rw [Int.toNat_of_nonneg p0, Int.toNat_of_nonneg (by omega), show A.n + q - A.n = q by omega]
    exact ⟨p0, pn, by omega, by omega, hpq⟩
theorem btw_words {rs : List (List Bool)} (R : RelOk (uniN A B) rs) (h : BtwP A B rs) {w : List Int} (hw : WdOk A.vs w) (ha : accP A w) : accP B w := by
  obtain ⟨a, b, c, d, _⟩ := uniE_ok hu
  have CA := nok_of a
  have CB := nok_of b
  have na0 := CA.n0
  have hn : (uniN A B).n = A.n + B.n := rfl
  rw [accP_iff CA] at ha
  rw [accP_iff CB]
  obtain ⟨p, h1, h2⟩ := ha
  obtain ⟨q, h3, h4⟩ := h p h1
  have hp := posM_mem CA.st _ h1
  have hq := posM_mem CB.st q h3
  refine ⟨q.toNat, by rw [Int.toNat_of_nonneg hq.1]; exact h3, ?_⟩
  rw [← uni_acc2 hu w q hq.1 hq.2]
  refine sim_acc (uni_nok hu) R.s w hw p (A.n + q).toNat (by omega) (by omega) (by rw [Int.toNat_of_nonneg (by omega)]; exact h4) ?_
  have := (uni_acc1 hu w p hp.1 hp.2).2
  simp only [Int.toNat_natCast] at this
  exact this h2
end
section
variable {N : NF} {rs : List (List Bool)} {l : List Int} {m : Nat} (C : NOk N) (R : RelOk N rs) (hC : ClsI rs N.n.toNat l m)
include C R hC
theorem btw_up {rs' : List (List Bool)} (hu : uniE N (quoN N l m) = 0) (R' : RelOk (uniN N (quoN N l m)) rs') : BtwP N (quoN N l m) rs' := by
  intro p hp
  have hp' := posM_mem C.st p hp
  have c := (cl_at C hC hp'.1 hp'.2).2
  refine ⟨clAt l p, mem_setQ.2 ⟨c, p, hp, rfl⟩, ?_⟩
  refine uni_sim hu R' (fun p q => q = clAt l p) (fun p q p0 pn q0 qn h => ?_) p _ hp'.1 hp'.2 c.1 c.2 rfl
  subst h
  refine ⟨fun hf => (fiQ C R hC p0 pn).2 hf, fun x e hx he hfr => ⟨edQ l e, matQ.2 ⟨e, he, rfl⟩, by show clAt l e.fr = _; rw [hfr], rfl⟩⟩
theorem btw_down {rs' : List (List Bool)} (hu : uniE (quoN N l m) N = 0) (R' : RelOk (uniN (quoN N l m) N) rs') : BtwP (quoN N l m) N rs' := by
  intro c hc
  obtain ⟨hc', p, hp, hcp⟩ := mem_setQ.1 hc
  have hp' := posM_mem C.st p hp
  refine ⟨p, hp, ?_⟩
  have hrefl : rAt rs p p = true := by
    have := R.refl (p := p.toNat) (by omega)
    rwa [Int.toNat_of_nonneg hp'.1] at this
  refine uni_sim hu R' (fun c q => ∃ p, 0 ≤ p ∧ p < N.n ∧ clAt l p = c ∧ rAt rs p q = true) (fun c q c0 cm q0 qn ⟨p, p0, pn, h1, h2⟩ => ?_) c p hc'.1 hc'.2 hp'.1 hp'.2 ⟨p, hp'.1, hp'.2, hcp, hrefl⟩
  subst h1
  refine ⟨fun hf => sim_fi C R hC p0 pn q0 qn h2 ((fiQ C R hC p0 pn).1 hf), fun x e' hx he' hfr => ?_⟩
  obtain ⟨e, he, rfl⟩ := matQ.1 he'
  obtain ⟨q1, q2, q3, q4, _⟩ := C.ed e (List.mem_filter.1 he).1
  have h3 := ((cl_iff C R hC q1 q2 p0 pn).1 hfr).1
  have h4 := rAt_tr C R hC q1 q2 p0 pn q0 qn h3 h2
  obtain ⟨e2, k1, k2, k3⟩ := sim_mv C R hC (u := e.to) hx q1 q2 q0 qn h4 he rfl
  exact ⟨e2, k1, k2, e.to, q3, q4, rfl, k3⟩
end
theorem btw_both {A B : NF} {rs : List (List Bool)} (hu : uniE A B = 0) (hu2 : uniE B (uniN A B) = 0) (R : RelOk (uniN B (uniN A B)) rs) : BtwP B (uniN A B) rs := by
  intro q hq
  obtain ⟨a, b, c, d, _⟩ := uniE_ok hu
  have CA := nok_of a
  have CB := nok_of b
  have na0 := CA.n0
  have hn : (uniN A B).n = A.n + B.n := rfl
  have hq' := posM_mem CB.st q hq
  refine ⟨A.n + q, List.mem_append_right _ (List.mem_map.2 ⟨q, hq, rfl⟩), ?_⟩
  refine uni_sim hu2 R (fun q y => y = A.n + q) (fun q y q0 qn y0 yn h => ?_) q _ hq'.1 hq'.2 (by omega) (by omega) rfl
  subst h
  refine ⟨fun hf => (uni_fi2 hu q0).2 hf, fun x e hx he hfr => ?_⟩
  have h1 := (uni_mat2 hu q0).2 ⟨e, he, hfr, rfl⟩
  exact ⟨shG A.n e, h1.1, h1.2, rfl⟩
end Go.Am.Ar
set_option linter.unusedVariables false
set_option linter.unusedSimpArgs false
set_option maxRecDepth 10000
namespace Go.Am.Ar
open Go.Am renaming pchk → P1, pold → P2, PKNo → P3, ppack → P4, PObj.under → P5, pput → P6, ptset → P7, ptget → P8, pev → P9, ofAV → P10, ofAV1 → P11, ppad → P12, pfill → P13, prepl → P14, AO.effect → P15
open List renaming replicate → L1
open Nat renaming reduceAdd → N1, reduceSub → N2, reduceMul → N3, reduceLT → N4, reduceLeDiff → N5, reduceEqDiff → N6, reduceBEq → N7
open Int renaming reduceToNat → I1, reduceLT → I2, reduceLE → I3, reduceEq → I4, reduceAdd → I5, reduceSub → I6, reduceNeg → I7
theorem uniE_zero {A B : NF} (CA : NOk A) (CB : NOk B) (hv : A.vs = B.vs) (hn : A.n + B.n ≤ 64) (he : A.es.length + B.es.length ≤ 512) : uniE A B = 0 := by
  unfold uniE
  rw [if_pos (check_of CA), if_pos (check_of CB), if_pos hv, if_neg (by omega), if_neg (by omega)]
section
variable {tab : FuncId → Option AF} (T : HasA tab)
include T
set_option maxHeartbeats 1000000 in
theorem sbetween_p {N O : NF} {w : List Int} (A : NumN N) (A2 : NumN O) (hw : ∀ x ∈ w, 0 ≤ x ∧ x ≤ 255) :
    SemC tab 10 [.agg (nfF N), .agg (nfF O), slI false false .u8 w] [] fun r _ => r = .bool true := by
  refine SemC_fn T.h10 ?_
  simp only [af10, PP, P1, P2, P3, P4, P5, P6, P7, P8, P9, P10, P11, P12, P13, P14, L1, P15, N1, N2, N3, N4, N5, N6, N7, I1, I2, I3, I4, I5, I6, I7, reduceIte, reduceCtorEq]
  refine longTwo_p T A A2 ?_
  cases hl : (longN N || longN O) with
  | true =>
    simp only [PP, P1, P2, P3, P4, P5, P6, P7, P8, P9, P10, P11, P12, P13, P14, L1, P15, N1, N2, N3, N4, N5, N6, N7, I1, I2, I3, I4, I5, I6, I7, reduceIte, reduceCtorEq]
    refine SemC_true T.awake ?_
    simp only [PP, P1, P2, P3, P4, P5, P6, P7, P8, P9, P10, P11, P12, P13, P14, L1, P15, N1, N2, N3, N4, N5, N6, N7, I1, I2, I3, I4, I5, I6, I7, reduceIte, reduceCtorEq]
  | false =>
  rw [Bool.or_eq_false_iff] at hl
  have B := longN_bn A hl.1
  have B2 := longN_bn A2 hl.2
  simp only [PP, P1, P2, P3, P4, P5, P6, P7, P8, P9, P10, P11, P12, P13, P14, L1, P15, N1, N2, N3, N4, N5, N6, N7, I1, I2, I3, I4, I5, I6, I7, reduceIte, reduceCtorEq]
  refine QIf.intro (fun c1 => ?_) (fun c1 => ?_)
  · simp only [PP, P1, P2, P3, P4, P5, P6, P7, P8, P9, P10, P11, P12, P13, P14, L1, P15, N1, N2, N3, N4, N5, N6, N7, I1, I2, I3, I4, I5, I6, I7, reduceIte, reduceCtorEq, c1]
    refine SemC_true T.awake ?_
    simp only [PP, P1, P2, P3, P4, P5, P6, P7, P8, P9, P10, P11, P12, P13, P14, L1, P15, N1, N2, N3, N4, N5, N6, N7, I1, I2, I3, I4, I5, I6, I7, reduceIte, reduceCtorEq]
  have hwl : w.length < 1000000000000 := by omega
  simp only [PP, P1, P2, P3, P4, P5, P6, P7, P8, P9, P10, P11, P12, P13, P14, L1, P15, N1, N2, N3, N4, N5, N6, N7, I1, I2, I3, I4, I5, I6, I7, reduceIte, reduceCtorEq, c1]
  refine SemC_true T.awake ?_
  simp only [PP, P1, P2, P3, P4, P5, P6, P7, P8, P9, P10, P11, P12, P13, P14, L1, P15, N1, N2, N3, N4, N5, N6, N7, I1, I2, I3, I4, I5, I6, I7, reduceIte, reduceCtorEq]
  refine between_p T B B2 (fun is e hI => ?_)
  simp only [PP, P1, P2, P3, P4, P5, P6, P7, P8, P9, P10, P11, P12, P13, P14, L1, P15, N1, N2, N3, N4, N5, N6, N7, I1, I2, I3, I4, I5, I6, I7, reduceIte, reduceCtorEq]
  rcases hI with ⟨h1, rfl, rfl⟩ | ⟨hu, rfl, rs, R, his⟩
  · simp only [PP, P1, P2, P3, P4, P5, P6, P7, P8, P9, P10, P11, P12, P13, P14, L1, P15, N1, N2, N3, N4, N5, N6, N7, I1, I2, I3, I4, I5, I6, I7, reduceIte, reduceCtorEq, h1]
  obtain ⟨k1, k2, k3, k4, k5⟩ := uniE_ok hu
  have CN := nok_of k1
  have CO := nok_of k2
  have nn0 := CN.n0
  have no0 := CO.n0
  obtain ⟨sn, se⟩ := longN_sm hl.1 k1
  obtain ⟨tn, te⟩ := longN_sm hl.2 k2
  simp only [PP, P1, P2, P3, P4, P5, P6, P7, P8, P9, P10, P11, P12, P13, P14, L1, P15, N1, N2, N3, N4, N5, N6, N7, I1, I2, I3, I4, I5, I6, I7, reduceIte, reduceCtorEq]
  refine accepts_p T B hw hwl (fun x f hA => ?_)
  simp only [PP, P1, P2, P3, P4, P5, P6, P7, P8, P9, P10, P11, P12, P13, P14, L1, P15, N1, N2, N3, N4, N5, N6, N7, I1, I2, I3, I4, I5, I6, I7, reduceIte, reduceCtorEq]
  refine accepts_p T B2 hw hwl (fun y g hB => ?_)
  have ea : accE N w = wordE N.vs w := by unfold accE; rw [if_pos k1]
  have eb : accE O w = wordE N.vs w := by unfold accE; rw [if_pos k2, k3]
  obtain ⟨rfl, ha⟩ := hA
  obtain ⟨rfl, hb⟩ := hB
  rw [ea] at ha ⊢
  rw [eb] at hb ⊢
  have hxy : is = true → x = true → y = true := fun h1 h2 => by
    have h3 := ha.1 h2
    exact hb.2 ⟨h3.1, btw_words hu R (his.1 h1) (word_ok h3.1) h3.2⟩
  have go : ∀ K : Prop, K → K := fun _ h => h
  have rest : ∀ (Z : PV → Prop), True := fun _ => trivial
  cases is <;> cases x <;> cases y <;> first | (exact absurd (hxy rfl rfl) (by decide)) | skip
  all_goals
    simp only [PP, P1, P2, P3, P4, P5, P6, P7, P8, P9, P10, P11, P12, P13, P14, L1, P15, N1, N2, N3, N4, N5, N6, N7, I1, I2, I3, I4, I5, I6, I7, reduceIte, reduceCtorEq]
    refine quotientZ_p T B (fun _ => by omega) (fun Q e2 hQ => ?_)
    rcases hQ with ⟨h, _, _⟩ | ⟨_, rfl, rs1, l, m, R1, hC, rfl⟩
    · exact absurd k1 h
    have CQ := quo_nok CN hC
    have fQ := quo_fit CN B hC
    have BQ := nok_bn CQ fQ
    have hml := hC.lt.1
    have hQn : (quoN N l m).n = m := rfl
    have hQe : (quoN N l m).es.length ≤ N.es.length := edsQ_len _ _
    have u1 : uniE N (quoN N l m) = 0 := uniE_zero CN CQ rfl (by omega) (by omega)
    have u2 : uniE (quoN N l m) N = 0 := uniE_zero CQ CN rfl (by omega) (by omega)
    have hUe : (uniN N O).es.length = N.es.length + O.es.length := by show (N.es ++ O.es.map (shG N.n)).length = _; simp
    have hUn : (uniN N O).n = N.n + O.n := rfl
    have u3 : uniE O (uniN N O) = 0 := uniE_zero CO (uni_nok hu) k3.symm (by omega) (by omega)
    have hQU : uniQ N O = uniN N O := by unfold uniQ; rw [if_pos hu]
    have up := fun (b : Bool) (e : Int) (h : BtwA N (quoN N l m) b e) => (show b = true ∧ e = 0 by
      rcases h with ⟨h, _, _⟩ | ⟨_, h2, rs', R', h3⟩
      · exact absurd u1 h
      · exact ⟨h3.2 (btw_up CN R1 hC u1 R'), h2⟩)
    have down := fun (b : Bool) (e : Int) (h : BtwA (quoN N l m) N b e) => (show b = true ∧ e = 0 by
      rcases h with ⟨h, _, _⟩ | ⟨_, h2, rs', R', h3⟩
      · exact absurd u2 h
      · exact ⟨h3.2 (btw_down CN R1 hC u2 R'), h2⟩)
    have both := fun (b : Bool) (e : Int) (h : BtwA O (uniN N O) b e) => (show b = true ∧ e = 0 by
      rcases h with ⟨h, _, _⟩ | ⟨_, h2, rs', R', h3⟩
      · exact absurd u3 h
      · exact ⟨h3.2 (btw_both hu u3 R'), h2⟩)
    obtain ⟨Q, hQ⟩ : ∃ Q, Q = quoN N l m := ⟨_, rfl⟩
    rw [← hQ] at BQ up down ⊢
    simp only [PP, P1, P2, P3, P4, P5, P6, P7, P8, P9, P10, P11, P12, P13, P14, L1, P15, N1, N2, N3, N4, N5, N6, N7, I1, I2, I3, I4, I5, I6, I7, reduceIte, reduceCtorEq]
    refine between_p T B BQ (fun b e h => ?_)
    obtain ⟨rfl, rfl⟩ := up b e h
    simp only [PP, P1, P2, P3, P4, P5, P6, P7, P8, P9, P10, P11, P12, P13, P14, L1, P15, N1, N2, N3, N4, N5, N6, N7, I1, I2, I3, I4, I5, I6, I7, reduceIte, reduceCtorEq]
    refine between_p T BQ B (fun b e h => ?_)
    obtain ⟨rfl, rfl⟩ := down b e h
    simp only [PP, P1, P2, P3, P4, P5, P6, P7, P8, P9, P10, P11, P12, P13, P14, L1, P15, N1, N2, N3, N4, N5, N6, N7, I1, I2, I3, I4, I5, I6, I7, reduceIte, reduceCtorEq]
    refine unionN_p T B B2 ?_
    rw [hu, hQU]
    have BU := uni_bn B B2 hu
    obtain ⟨U, hU⟩ : ∃ U, U = uniN N O := ⟨_, rfl⟩
    rw [← hU] at BU both ⊢
    simp only [PP, P1, P2, P3, P4, P5, P6, P7, P8, P9, P10, P11, P12, P13, P14, L1, P15, N1, N2, N3, N4, N5, N6, N7, I1, I2, I3, I4, I5, I6, I7, reduceIte, reduceCtorEq]
    refine between_p T B2 BU (fun b e h => ?_)
    obtain ⟨rfl, rfl⟩ := both b e h
    simp only [PP, P1, P2, P3, P4, P5, P6, P7, P8, P9, P10, P11, P12, P13, P14, L1, P15, N1, N2, N3, N4, N5, N6, N7, I1, I2, I3, I4, I5, I6, I7, reduceIte, reduceCtorEq]
theorem between_all (args : List AV) (h : H) (hs : ShVs [nfaTy, nfaTy, .slice (.int .u8)] args h) :
    ∃ n h', (run tab n).call 10 args h = some (.bool true, h') := by
  obtain ⟨a, b, c, rfl, ha, hb, hc⟩ := shVs3 hs
  obtain ⟨N, r1, A⟩ := arg_nfa ha
  obtain ⟨O, r2, A2⟩ := arg_nfa hb
  obtain ⟨w, r3, _, hw⟩ := arg_ints hc
  exact run_of_C (law_of_sem (.cons r1 (.cons r2 (.cons r3 (.nil _)))) (sbetween_p T A A2 hw))
end
end Go.Am.Ar

