/- simulate.Relation answers the greatest simulation; arguments that are matrices, and what goes with it. -/
import Derived.Test.YtfapjojfiaiidaaSimulateDecidesG1
import Derived.Test.YtfapjojfiaiidaaSimulateDecidesG2
import Derived.Test.YtfapjojfiaiidaaPmC
import Derived.Test.YtfapjojfiaiidaaSimulateDecidesG0
set_option linter.unusedVariables false
set_option linter.unusedSimpArgs false
set_option maxRecDepth 10000
namespace Go.Am.Ar
open Go.Am renaming pchk → P1, pold → P2, PKNo → P3, ppack → P4, PObj.under → P5, pput → P6, ptset → P7, ptget → P8, pev → P9, ofAV → P10, ofAV1 → P11, ppad → P12, pfill → P13, prepl → P14, AO.effect → P15
open List renaming replicate → L1
open Nat renaming reduceAdd → N1, reduceSub → N2, reduceMul → N3, reduceLT → N4, reduceLeDiff → N5, reduceEqDiff → N6, reduceBEq → N7
open Int renaming reduceToNat → I1, reduceLT → I2, reduceLE → I3, reduceEq → I4, reduceAdd → I5, reduceSub → I6, reduceNeg → I7
theorem RelOk.refl {N : NF} {rs : List (List Bool)} (R : RelOk N rs) {p : Nat} (hp : (p : Int) < N.n) : rAt rs p p = true := R.u _ (id_sim N) p p hp hp (by simp)
open Classical in
theorem RelOk.trans {N : NF} (C : NOk N) {rs : List (List Bool)} (R : RelOk N rs) {p q s : Nat} (hp : (p : Int) < N.n) (hq : (q : Int) < N.n) (hs : (s : Int) < N.n) (h1 : rAt rs p q = true) (h2 : rAt rs q s = true) : rAt rs p s = true := by
  refine R.u (fun a c => decide (∃ b : Nat, (b : Int) < N.n ∧ rAt rs a b = true ∧ rAt rs b c = true)) ?_ p s hp hs (decide_eq_true ⟨q, hq, h1, h2⟩)
  intro a c ha hc h
  obtain ⟨b, hb, k1, k2⟩ := of_decide_eq_true h
  have H1 := R.s a b ha hb k1
  have H2 := R.s b c hb hc k2
  refine ⟨fun z => H2.1 (H1.1 z), fun xu hxu => ?_⟩
  obtain ⟨yv, g1, g2, g3⟩ := H1.2 xu hxu
  obtain ⟨zw, g4, g5, g6⟩ := H2.2 yv g1
  obtain ⟨y, v⟩ := yv
  obtain ⟨_, v0, vn⟩ := mvL_ok C g1
  refine ⟨zw, g4, g2.trans g5, decide_eq_true ⟨v.toNat, by omega, ?_, ?_⟩⟩
  · rw [Int.toNat_of_nonneg v0]; exact g3
  · rw [Int.toNat_of_nonneg v0]; exact g6
theorem sh_boolsP {cs : List AV} {h : H} (hs : Sh (.slice .bool) cs h) : ∃ v, ∃ xs : List Bool, cs = [v] ∧ RepV (wH h) (slB false false xs) v ∧ xs.length ≤ 9223372036854775807 := by
  obtain ⟨v, cells, rfl, h1, h2, h3⟩ := sh_sl rfl hs
  have : ∀ cells : List AV, (∀ c ∈ cells, Sh .bool [c] h) → ∃ xs : List Bool, cells = xs.map AV.bool := by
    intro cells
    induction cells with
    | nil => intro _; exact ⟨[], rfl⟩
    | cons c cells ih =>
      intro hc
      obtain ⟨xs, e⟩ := ih (fun c' h' => hc c' (List.mem_cons_of_mem _ h'))
      obtain ⟨b, e1⟩ := hc c (by simp)
      cases e1
      exact ⟨b :: xs, by simp [e]⟩
  obtain ⟨xs, rfl⟩ := this cells h2
  refine ⟨v, xs, rfl, ?_, by simpa using h1⟩
  have := h3 (xs.map PV.bool) ⟨by simp, fun i y z p q => by
    rw [List.getElem?_map] at p q
    cases hx : xs[i]? with
    | none => rw [hx] at p; cases p
    | some x => rw [hx] at p q; cases p; cases q; exact .bool x⟩
  simpa using this
theorem arg_brows {v : AV} {h : H} (hs : ShV (.slice (.slice .bool)) v h) : ∃ rs : List (List Bool), RepV (wH h) (slBr false false false false rs) v := by
  obtain ⟨avs, hs, rfl⟩ := hs
  obtain ⟨v, cells, rfl, h1, h2, h3⟩ := sh_sl rfl hs
  have : ∀ cells : List AV, (∀ c ∈ cells, Sh (.slice .bool) [c] h) → ∃ rs : List (List Bool), cells.length = rs.length ∧ RepL (wH h) (rs.map (slB false false)) cells := by
    intro cells
    induction cells with
    | nil => intro _; exact ⟨[], rfl, .nil _⟩
    | cons c cells ih =>
      intro hc
      obtain ⟨su, e, e2⟩ := ih (fun c' h' => hc c' (List.mem_cons_of_mem _ h'))
      obtain ⟨v, xs, e1, r1, _⟩ := sh_boolsP (hc c (by simp))
      cases e1
      exact ⟨xs :: su, by simp [e], .cons r1 e2⟩
  obtain ⟨rs, e1, e2⟩ := this cells h2
  have := h3 _ e2
  rw [e1] at this
  exact ⟨rs, this⟩
section
variable {tab : FuncId → Option AF} (T : HasA tab)
include T
end
end Go.Am.Ar
set_option linter.unusedVariables false
set_option linter.unusedSimpArgs false
set_option maxRecDepth 10000
namespace Go.Am.Ar
open Go.Am renaming pchk → P1, pold → P2, PKNo → P3, ppack → P4, PObj.under → P5, pput → P6, ptset → P7, ptget → P8, pev → P9, ofAV → P10, ofAV1 → P11, ppad → P12, pfill → P13, prepl → P14, AO.effect → P15
open List renaming replicate → L1
open Nat renaming reduceAdd → N1, reduceSub → N2, reduceMul → N3, reduceLT → N4, reduceLeDiff → N5, reduceEqDiff → N6, reduceBEq → N7
open Int renaming reduceToNat → I1, reduceLT → I2, reduceLE → I3, reduceEq → I4, reduceAdd → I5, reduceSub → I6, reduceNeg → I7
section
variable {tab : FuncId → Option AF} (T : HasA tab)
include T
end
end Go.Am.Ar
set_option linter.unusedVariables false
set_option linter.unusedSimpArgs false
set_option maxRecDepth 10000
namespace Go.Am.Ar
open Go.Am renaming pchk → P1, pold → P2, PKNo → P3, ppack → P4, PObj.under → P5, pput → P6, ptset → P7, ptget → P8, pev → P9, ofAV → P10, ofAV1 → P11, ppad → P12, pfill → P13, prepl → P14, AO.effect → P15
open List renaming replicate → L1
open Nat renaming reduceAdd → N1, reduceSub → N2, reduceMul → N3, reduceLT → N4, reduceLeDiff → N5, reduceEqDiff → N6, reduceBEq → N7
open Int renaming reduceToNat → I1, reduceLT → I2, reduceLE → I3, reduceEq → I4, reduceAdd → I5, reduceSub → I6, reduceNeg → I7
section
variable {tab : FuncId → Option AF} (T : HasA tab)
include T
end
end Go.Am.Ar
set_option linter.unusedVariables false
set_option linter.unusedSimpArgs false
set_option maxRecDepth 10000
namespace Go.Am.Ar
open Go.Am renaming pchk → P1, pold → P2, PKNo → P3, ppack → P4, PObj.under → P5, pput → P6, ptset → P7, ptget → P8, pev → P9, ofAV → P10, ofAV1 → P11, ppad → P12, pfill → P13, prepl → P14, AO.effect → P15
open List renaming replicate → L1
open Nat renaming reduceAdd → N1, reduceSub → N2, reduceMul → N3, reduceLT → N4, reduceLeDiff → N5, reduceEqDiff → N6, reduceBEq → N7
open Int renaming reduceToNat → I1, reduceLT → I2, reduceLE → I3, reduceEq → I4, reduceAdd → I5, reduceSub → I6, reduceNeg → I7
section
variable {tab : FuncId → Option AF} (T : HasA tab)
include T
end
end Go.Am.Ar
set_option linter.unusedVariables false
set_option linter.unusedSimpArgs false
set_option maxRecDepth 10000
namespace Go.Am.Ar
open Go.Am renaming pchk → P1, pold → P2, PKNo → P3, ppack → P4, PObj.under → P5, pput → P6, ptset → P7, ptget → P8, pev → P9, ofAV → P10, ofAV1 → P11, ppad → P12, pfill → P13, prepl → P14, AO.effect → P15
open List renaming replicate → L1
open Nat renaming reduceAdd → N1, reduceSub → N2, reduceMul → N3, reduceLT → N4, reduceLeDiff → N5, reduceEqDiff → N6, reduceBEq → N7
open Int renaming reduceToNat → I1, reduceLT → I2, reduceLE → I3, reduceEq → I4, reduceAdd → I5, reduceSub → I6, reduceNeg → I7
section
variable {tab : FuncId → Option AF} (T : HasA tab)
include T
end
end Go.Am.Ar
set_option linter.unusedVariables false
set_option linter.unusedSimpArgs false
set_option maxRecDepth 10000
namespace Go.Am.Ar
open Go.Am renaming pchk → P1, pold → P2, PKNo → P3, ppack → P4, PObj.under → P5, pput → P6, ptset → P7, ptget → P8, pev → P9, ofAV → P10, ofAV1 → P11, ppad → P12, pfill → P13, prepl → P14, AO.effect → P15
open List renaming replicate → L1
open Nat renaming reduceAdd → N1, reduceSub → N2, reduceMul → N3, reduceLT → N4, reduceLeDiff → N5, reduceEqDiff → N6, reduceBEq → N7
open Int renaming reduceToNat → I1, reduceLT → I2, reduceLE → I3, reduceEq → I4, reduceAdd → I5, reduceSub → I6, reduceNeg → I7
section
variable {tab : FuncId → Option AF} (T : HasA tab)
include T
end
end Go.Am.Ar
set_option linter.unusedVariables false
set_option linter.unusedSimpArgs false
set_option maxRecDepth 10000
namespace Go.Am.Ar
open Go.Am renaming pchk → P1, pold → P2, PKNo → P3, ppack → P4, PObj.under → P5, pput → P6, ptset → P7, ptget → P8, pev → P9, ofAV → P10, ofAV1 → P11, ppad → P12, pfill → P13, prepl → P14, AO.effect → P15
open List renaming replicate → L1
open Nat renaming reduceAdd → N1, reduceSub → N2, reduceMul → N3, reduceLT → N4, reduceLeDiff → N5, reduceEqDiff → N6, reduceBEq → N7
open Int renaming reduceToNat → I1, reduceLT → I2, reduceLE → I3, reduceEq → I4, reduceAdd → I5, reduceSub → I6, reduceNeg → I7
section
variable {tab : FuncId → Option AF} (T : HasA tab)
include T
end
end Go.Am.Ar
set_option linter.unusedVariables false
set_option linter.unusedSimpArgs false
set_option maxRecDepth 10000
namespace Go.Am.Ar
def zeroN : NF := ⟨0, 0, [], [], []⟩
theorem wk_two {a b x : PV} (h : PvWk a b) : PvWk (.tuple [a, x]) (.tuple [b, x]) := by
  refine PvWk.tuple rfl fun i y z h1 h2 => ?_
  match i with
  | 0 => cases h1; cases h2; exact h
  | 1 => cases h1; cases h2; exact PvWk.refl _
  | i + 2 => cases h1
theorem wk_zeroN : PvWk (.agg [p64 0, p64 0, .nils, .nils, .nils]) (.agg (nfC false true false true false true zeroN)) := by
  refine PvWk.agg rfl fun i y z h1 h2 => ?_
  match i with
  | 0 => cases h1; cases h2; exact PvWk.refl _
  | 1 => cases h1; cases h2; exact PvWk.refl _
  | 2 => cases h1; cases h2; exact PvWk.nils _ _ _
  | 3 => cases h1; cases h2; exact PvWk.nils _ _ _
  | 4 => cases h1; cases h2; exact PvWk.nils _ _ _
  | i + 5 => cases h1
section
variable {tab : FuncId → Option AF} (T : HasA tab)
include T
end
end Go.Am.Ar
set_option linter.unusedVariables false
set_option linter.unusedSimpArgs false
set_option maxRecDepth 10000
namespace Go.Am.Ar
section
variable {N : NF} {rs : List (List Bool)} {l : List Int} {m : Nat}
end
end Go.Am.Ar
set_option linter.unusedVariables false
set_option linter.unusedSimpArgs false
set_option maxRecDepth 10000
namespace Go.Am.Ar
open Go.Am renaming pchk → P1, pold → P2, PKNo → P3, ppack → P4, PObj.under → P5, pput → P6, ptset → P7, ptget → P8, pev → P9, ofAV → P10, ofAV1 → P11, ppad → P12, pfill → P13, prepl → P14, AO.effect → P15
open List renaming replicate → L1
open Nat renaming reduceAdd → N1, reduceSub → N2, reduceMul → N3, reduceLT → N4, reduceLeDiff → N5, reduceEqDiff → N6, reduceBEq → N7
open Int renaming reduceToNat → I1, reduceLT → I2, reduceLE → I3, reduceEq → I4, reduceAdd → I5, reduceSub → I6, reduceNeg → I7
def shI (a : Int) (xs : List Int) : List Int := xs.map fun x => a + x
def shG (a : Int) (e : Eg) : Eg := ⟨a + e.fr, a + e.to, e.ps, e.ng⟩
def uniN (A B : NF) : NF := ⟨A.vs, A.n + B.n, A.st ++ shI A.n B.st, A.fi ++ shI A.n B.fi, A.es ++ B.es.map (shG A.n)⟩
def uniE (A B : NF) : Int := if checkN A = 0 then (if checkN B = 0 then (if A.vs = B.vs then (if 64 < A.n + B.n then 4 else if 512 < (A.es.length : Int) + B.es.length then 4 else 0) else 7) else checkN B) else checkN A
def uniQ (A B : NF) : NF := if uniE A B = 0 then uniN A B else zeroN
section
variable {tab : FuncId → Option AF} (T : HasA tab)
include T
set_option maxHeartbeats 2000000 in
theorem unionN_p {M : Mem} {K : PV → Mem → Prop} {f1 o1 f2 o2 f3 o3 g1 p1 g2 p2 g3 p3 : Bool} {A B : NF} (BA : BnN A) (BB : BnN B) (hk : K (.tuple [.agg (nfC false true false true false true (uniQ A B)), p64 (uniE A B)]) M) :
    SemC tab 36 [.agg (nfC f1 o1 f2 o2 f3 o3 A), .agg (nfC g1 p1 g2 p2 g3 p3 B)] M K := by
  refine SemC_wk ?_
  refine SemC_pureS T.h36 (by simp only [PP, P1, P2, P3, P4, P5, P6, P7, P8, P9, P10, P11, P12, P13, P14, L1, P15, N1, N2, N3, N4, N5, N6, N7, I1, I2, I3, I4, I5, I6, I7, reduceIte, reduceCtorEq, under_slE]) ?_
  have bad : ∀ e, e ≠ 0 → uniE A B = e → ∃ r', PvWk (.tuple [.agg [p64 0, p64 0, .nils, .nils, .nils], p64 e]) r' ∧ K r' M := fun e he hu => by
    refine ⟨_, wk_two wk_zeroN, ?_⟩
    have e1 : uniQ A B = zeroN := by unfold uniQ; rw [if_neg (by rw [hu]; exact he)]
    rw [e1, hu] at hk; exact hk
  simp only [af36]
  refine SemW_seq (SemW_of ?_)
  simp only [PP, P1, P2, P3, P4, P5, P6, P7, P8, P9, P10, P11, P12, P13, P14, L1, P15, N1, N2, N3, N4, N5, N6, N7, I1, I2, I3, I4, I5, I6, I7, reduceIte, reduceCtorEq]
  refine SemW_re (GStep.freezeP (b := [.junk, .junk, .cp (nfC f1 o1 f2 o2 f3 o3 A) 0, .ptr 1 0 0, .ptr 2 0 0, p64 0, .junk, .junk, .junk, .junk, .junk, .junk, .junk, .junk, .junk, .junk, .junk, .junk, .junk, .junk, .junk, .junk, .junk, .junk, .junk, .junk, .junk, .junk, .junk, .junk, .junk, .junk, .junk, .junk, .junk, .junk, .junk, .junk, .junk, .junk, .junk, .junk, .junk, .junk, .junk, .junk, .junk, .junk, .junk, .junk, .junk, .junk, .junk, .junk, .junk, .junk, .junk, .junk, .junk, .junk, .junk, .junk, .junk, .junk, .junk, .junk, .junk, .junk, .junk, .junk, .junk, .junk, .junk, .junk, .junk, .junk, .junk, .junk, .junk, .junk, .junk, .junk, .junk, .junk, .junk, .junk, .junk, .junk, .junk, .junk, .junk, .junk, .junk, .junk, .junk, .junk, .junk, .junk, .junk, .junk, .junk, .junk, .junk, .junk, .junk, .junk, .junk, .junk, .junk, .junk, .junk, .junk, .junk, .junk, .junk, .junk, .junk, .junk, .junk, .junk, .junk, .junk, .junk, .junk, .junk, .junk, .junk]) 0 (Nat.zero_le _) rfl (by simp only [PFrzP_nil, PFrzP_junk, PFrzP_same, PFrzP_ptr]) rfl) ?_
  refine SemW_re (GStep.freezeP (b := [.junk, .junk, .cp (nfC f1 o1 f2 o2 f3 o3 A) 0, .cp (nfC g1 p1 g2 p2 g3 p3 B) 0, .ptr 2 0 0, p64 0, .junk, .junk, .junk, .junk, .junk, .junk, .junk, .junk, .junk, .junk, .junk, .junk, .junk, .junk, .junk, .junk, .junk, .junk, .junk, .junk, .junk, .junk, .junk, .junk, .junk, .junk, .junk, .junk, .junk, .junk, .junk, .junk, .junk, .junk, .junk, .junk, .junk, .junk, .junk, .junk, .junk, .junk, .junk, .junk, .junk, .junk, .junk, .junk, .junk, .junk, .junk, .junk, .junk, .junk, .junk, .junk, .junk, .junk, .junk, .junk, .junk, .junk, .junk, .junk, .junk, .junk, .junk, .junk, .junk, .junk, .junk, .junk, .junk, .junk, .junk, .junk, .junk, .junk, .junk, .junk, .junk, .junk, .junk, .junk, .junk, .junk, .junk, .junk, .junk, .junk, .junk, .junk, .junk, .junk, .junk, .junk, .junk, .junk, .junk, .junk, .junk, .junk, .junk, .junk, .junk, .junk, .junk, .junk, .junk, .junk, .junk, .junk, .junk, .junk, .junk, .junk, .junk, .junk, .junk, .junk, .junk]) 1 (Nat.zero_le _) rfl (by simp only [PFrzP_nil, PFrzP_junk, PFrzP_same, PFrzP_ptr]) rfl) ?_
  refine SemW_of ?_
  simp only [PP, P1, P2, P3, P4, P5, P6, P7, P8, P9, P10, P11, P12, P13, P14, L1, P15, N1, N2, N3, N4, N5, N6, N7, I1, I2, I3, I4, I5, I6, I7, reduceIte, reduceCtorEq]
  refine check_p T BA ?_
  by_cases c1 : checkN A = 0
  rotate_left
  · simp only [PP, P1, P2, P3, P4, P5, P6, P7, P8, P9, P10, P11, P12, P13, P14, L1, P15, N1, N2, N3, N4, N5, N6, N7, I1, I2, I3, I4, I5, I6, I7, reduceIte, reduceCtorEq, c1]
    exact bad _ c1 (by unfold uniE; rw [if_neg c1])
  simp only [PP, P1, P2, P3, P4, P5, P6, P7, P8, P9, P10, P11, P12, P13, P14, L1, P15, N1, N2, N3, N4, N5, N6, N7, I1, I2, I3, I4, I5, I6, I7, reduceIte, reduceCtorEq, c1]
  refine check_p T BB ?_
  by_cases c2 : checkN B = 0
  rotate_left
  · simp only [PP, P1, P2, P3, P4, P5, P6, P7, P8, P9, P10, P11, P12, P13, P14, L1, P15, N1, N2, N3, N4, N5, N6, N7, I1, I2, I3, I4, I5, I6, I7, reduceIte, reduceCtorEq, c2]
    exact bad _ c2 (by unfold uniE; rw [if_pos c1, if_neg c2])
  simp only [PP, P1, P2, P3, P4, P5, P6, P7, P8, P9, P10, P11, P12, P13, P14, L1, P15, N1, N2, N3, N4, N5, N6, N7, I1, I2, I3, I4, I5, I6, I7, reduceIte, reduceCtorEq, c2]
  have CA := nok_of c1
  have CB := nok_of c2
  have na0 := CA.n0
  have na64 := CA.n64
  have nb0 := CB.n0
  have nb64 := CB.n64
  have ea := CA.e512
  have eb := CB.e512
  by_cases c3 : A.vs = B.vs
  rotate_left
  · simp only [PP, P1, P2, P3, P4, P5, P6, P7, P8, P9, P10, P11, P12, P13, P14, L1, P15, N1, N2, N3, N4, N5, N6, N7, I1, I2, I3, I4, I5, I6, I7, reduceIte, reduceCtorEq, c3]
    exact bad 7 (by decide) (by unfold uniE; rw [if_pos c1, if_pos c2, if_neg c3])
  have wn : IntKind.i64.wrap (A.n + B.n) = A.n + B.n := wrap64 (by omega) (by omega)
  have we : IntKind.i64.wrap ((A.es.length : Int) + B.es.length) = (A.es.length : Int) + B.es.length := wrap64 (by omega) (by omega)
  simp only [PP, P1, P2, P3, P4, P5, P6, P7, P8, P9, P10, P11, P12, P13, P14, L1, P15, N1, N2, N3, N4, N5, N6, N7, I1, I2, I3, I4, I5, I6, I7, reduceIte, reduceCtorEq, c3, wn]
  refine QIf.intro (fun c4 => ?_) (fun c4 => ?_)
  · simp only [PP, P1, P2, P3, P4, P5, P6, P7, P8, P9, P10, P11, P12, P13, P14, L1, P15, N1, N2, N3, N4, N5, N6, N7, I1, I2, I3, I4, I5, I6, I7, reduceIte, reduceCtorEq, c4]
    exact bad 4 (by decide) (by unfold uniE; rw [if_pos c1, if_pos c2, if_pos c3, if_pos c4])
  simp only [PP, P1, P2, P3, P4, P5, P6, P7, P8, P9, P10, P11, P12, P13, P14, L1, P15, N1, N2, N3, N4, N5, N6, N7, I1, I2, I3, I4, I5, I6, I7, reduceIte, reduceCtorEq, c4, we]
  refine QIf.intro (fun c5 => ?_) (fun c5 => ?_)
  · simp only [PP, P1, P2, P3, P4, P5, P6, P7, P8, P9, P10, P11, P12, P13, P14, L1, P15, N1, N2, N3, N4, N5, N6, N7, I1, I2, I3, I4, I5, I6, I7, reduceIte, reduceCtorEq, c5]
    exact bad 4 (by decide) (by unfold uniE; rw [if_pos c1, if_pos c2, if_pos c3, if_neg c4, if_pos c5])
  have hu : uniE A B = 0 := by unfold uniE; rw [if_pos c1, if_pos c2, if_pos c3, if_neg c4, if_neg c5]
  have hQ : uniQ A B = uniN A B := by unfold uniQ; rw [if_pos hu]
  rw [hu, hQ] at hk
  simp only [PP, P1, P2, P3, P4, P5, P6, P7, P8, P9, P10, P11, P12, P13, P14, L1, P15, N1, N2, N3, N4, N5, N6, N7, I1, I2, I3, I4, I5, I6, I7, reduceIte, reduceCtorEq, c5, wn]
  refine cloneL_p T BA.s fun ga va => ?_
  simp only [PP, P1, P2, P3, P4, P5, P6, P7, P8, P9, P10, P11, P12, P13, P14, L1, P15, N1, N2, N3, N4, N5, N6, N7, I1, I2, I3, I4, I5, I6, I7, reduceIte, reduceCtorEq]
  refine cloneL_p T BA.f fun gb vb => ?_
  simp only [PP, P1, P2, P3, P4, P5, P6, P7, P8, P9, P10, P11, P12, P13, P14, L1, P15, N1, N2, N3, N4, N5, N6, N7, I1, I2, I3, I4, I5, I6, I7, reduceIte, reduceCtorEq]
  refine cloneE_p T BA.e fun gc vc => ?_
  simp only [PP, P1, P2, P3, P4, P5, P6, P7, P8, P9, P10, P11, P12, P13, P14, L1, P15, N1, N2, N3, N4, N5, N6, N7, I1, I2, I3, I4, I5, I6, I7, reduceIte, reduceCtorEq]
  have hsb := posM_len CB.st nb64
  have hfb := posM_len CB.fi nb64
  have hsa := posM_len CA.st na64
  have hfa := posM_len CA.fi na64
  have hs := posM_mem CB.st
  have hf := posM_mem CB.fi
  refine loop4 (fun (k g v vm : Nat) => k ≤ B.st.length) (fun k g v vm => [.junk, .junk, .cp (nfC f1 o1 f2 o2 f3 o3 A) 0, .cp (nfC g1 p1 g2 p2 g3 p3 B) 0, .ptr 2 0 0, .junk, .junk, .junk, .junk, .junk, .junk, .junk, .junk, .junk, .junk, .junk, .junk, .junk, .junk, .junk, .junk, .junk, .junk, .junk, .junk, .junk, .junk, .junk, .junk, .junk, .junk, .junk, .junk, .junk, .junk, .junk, .junk, .junk, .junk, .junk, .junk, .junk, .junk, .junk, .junk, .junk, .junk, .junk, .junk, .junk, .junk, .junk, .junk, .junk, .junk, .junk, .junk, .junk, .junk, .junk, .junk, .junk, .junk, .junk, .junk, .junk, .junk, slI g1 p1 .i64 B.st, p64 B.st.length, p64 k, .junk, .junk, .junk, .junk, .junk, .junk, .junk, .junk, .junk, .junk, .junk, .junk, .junk, .junk, .junk, .junk, .junk, .junk, .junk, .junk, .junk, .junk, .junk, .junk, .junk, .junk, .junk, .junk, .junk, .junk, .junk, .junk, .junk, .junk, .junk, .junk, .junk, .junk, .junk, .junk, .junk, .junk, .junk, .junk, .junk, .junk, .junk, .junk, .junk, .junk, .junk, .junk, .junk, .junk, .junk, .junk, .junk]) (fun k g v vm => [.gone, .gone, .cells 0 vm [p64 A.vs, p64 (A.n + B.n), .ref 3 g 1 0 (A.st.length + k), .ref 4 gb 1 0 A.fi.length, .ref 5 gc 4 0 A.es.length], .cells g v ((A.st ++ shI A.n (B.st.take k)).map p64), .cells gb vb (A.fi.map p64), .cells gc vc (egL A.es)]) (fun k _ _ _ => B.st.length - k) 0 ga va 1 (by omega) (by simp only [PWeak_nil, PWeak_junk, PWeak_same, Int.cast_ofNat_Int, List.length_append, List.length_cons, List.length_nil, Nat.zero_add]) (by simp [shI]) ?_
  intro k g v vm hle ih
  refine SemW_go (by kernel_rfl) ?_
  simp only [PP, P1, P2, P3, P4, P5, P6, P7, P8, P9, P10, P11, P12, P13, P14, L1, P15, N1, N2, N3, N4, N5, N6, N7, I1, I2, I3, I4, I5, I6, I7, reduceIte, reduceCtorEq]
  refine QIf.intro (fun c => ?_) (fun c => ?_)
  · have hk' : k < B.st.length := by omega
    obtain ⟨x, gx⟩ := some_of hk'
    have hx := hs x (List.mem_of_getElem? gx)
    have k0 : (0 : Int) ≤ k := by omega
    have hwk := wrap_succ (k := k) (by show _ < 1000000000000; omega)
    have hwx : IntKind.i64.wrap (A.n + x) = A.n + x := wrap64 (by omega) (by omega)
    have hln : (shI A.n (B.st.take k)).length = k := by simp [shI]; omega
    have b8 : (A.st.length + k + 1) * 8 ≤ 140737488355328 := by omega
    have b1 : A.st.length + k ≤ 9223372036854775806 := by omega
    have hps : psub (A.st.map p64 ++ (shI A.n (B.st.take k)).map p64) 0 (A.st.length + k) = A.st.map p64 ++ (shI A.n (B.st.take k)).map p64 := psub_all _ _ (by simp [hln])
    simp only [PP, P1, P2, P3, P4, P5, P6, P7, P8, P9, P10, P11, P12, P13, P14, L1, P15, N1, N2, N3, N4, N5, N6, N7, I1, I2, I3, I4, I5, I6, I7, reduceIte, reduceCtorEq, c, k0, gx, hwk, hwx, b8, b1, hps, hln]
    have htk : shI A.n (B.st.take (k + 1)) = shI A.n (B.st.take k) ++ [A.n + x] := by rw [List.take_add_one, gx]; simp [shI]
    exact SemW_to (ih (k + 1) (g + 1) 0 (vm + 1) (by omega) (by omega)) (by simp only [PWeak_nil, PWeak_junk, PWeak_same, Int.cast_ofNat_Int, List.length_append, List.length_cons, List.length_nil, Nat.zero_add]) (by rw [htk]; simp [Nat.add_assoc])
  have hkn : k = B.st.length := by omega
  subst hkn
  rw [List.take_of_length_le (Nat.le_refl _)]
  simp only [PP, P1, P2, P3, P4, P5, P6, P7, P8, P9, P10, P11, P12, P13, P14, L1, P15, N1, N2, N3, N4, N5, N6, N7, I1, I2, I3, I4, I5, I6, I7, reduceIte, reduceCtorEq, c]
  refine loop4 (fun (k gb vb vm : Nat) => k ≤ B.fi.length) (fun k gb vb vm => [.junk, .junk, .cp (nfC f1 o1 f2 o2 f3 o3 A) 0, .cp (nfC g1 p1 g2 p2 g3 p3 B) 0, .ptr 2 0 0, .junk, .junk, .junk, .junk, .junk, .junk, .junk, .junk, .junk, .junk, .junk, .junk, .junk, .junk, .junk, .junk, .junk, .junk, .junk, .junk, .junk, .junk, .junk, .junk, .junk, .junk, .junk, .junk, .junk, .junk, .junk, .junk, .junk, .junk, .junk, .junk, .junk, .junk, .junk, .junk, .junk, .junk, .junk, .junk, .junk, .junk, .junk, .junk, .junk, .junk, .junk, .junk, .junk, .junk, .junk, .junk, .junk, .junk, .junk, .junk, .junk, .junk, .junk, .junk, .junk, .junk, .junk, .junk, .junk, .junk, .junk, .junk, .junk, .junk, .junk, .junk, .junk, .junk, .junk, slI g2 p2 .i64 B.fi, p64 B.fi.length, p64 k, .junk, .junk, .junk, .junk, .junk, .junk, .junk, .junk, .junk, .junk, .junk, .junk, .junk, .junk, .junk, .junk, .junk, .junk, .junk, .junk, .junk, .junk, .junk, .junk, .junk, .junk, .junk, .junk, .junk, .junk, .junk, .junk, .junk, .junk, .junk, .junk, .junk, .junk, .junk, .junk]) (fun k gb vb vm => [.gone, .gone, .cells 0 vm [p64 A.vs, p64 (A.n + B.n), .ref 3 g 1 0 (A.st.length + B.st.length), .ref 4 gb 1 0 (A.fi.length + k), .ref 5 gc 4 0 A.es.length], .cells g v (A.st.map p64 ++ (shI A.n B.st).map p64), .cells gb vb ((A.fi ++ shI A.n (B.fi.take k)).map p64), .cells gc vc (egL A.es)]) (fun k _ _ _ => B.fi.length - k) 0 gb vb vm (by omega) (by simp only [PWeak_nil, PWeak_junk, PWeak_same, Int.cast_ofNat_Int, List.length_append, List.length_cons, List.length_nil, Nat.zero_add]) (by simp [shI]) ?_
  intro k gb vb vm hle ih
  refine SemW_go (by kernel_rfl) ?_
  simp only [PP, P1, P2, P3, P4, P5, P6, P7, P8, P9, P10, P11, P12, P13, P14, L1, P15, N1, N2, N3, N4, N5, N6, N7, I1, I2, I3, I4, I5, I6, I7, reduceIte, reduceCtorEq]
  refine QIf.intro (fun c => ?_) (fun c => ?_)
  · have hk' : k < B.fi.length := by omega
    obtain ⟨x, gx⟩ := some_of hk'
    have hx := hf x (List.mem_of_getElem? gx)
    have k0 : (0 : Int) ≤ k := by omega
    have hwk := wrap_succ (k := k) (by show _ < 1000000000000; omega)
    have hwx : IntKind.i64.wrap (A.n + x) = A.n + x := wrap64 (by omega) (by omega)
    have hln : (shI A.n (B.fi.take k)).length = k := by simp [shI]; omega
    have b8 : (A.fi.length + k + 1) * 8 ≤ 140737488355328 := by omega
    have b1 : A.fi.length + k ≤ 9223372036854775806 := by omega
    have hps : psub (A.fi.map p64 ++ (shI A.n (B.fi.take k)).map p64) 0 (A.fi.length + k) = A.fi.map p64 ++ (shI A.n (B.fi.take k)).map p64 := psub_all _ _ (by simp [hln])
    simp only [PP, P1, P2, P3, P4, P5, P6, P7, P8, P9, P10, P11, P12, P13, P14, L1, P15, N1, N2, N3, N4, N5, N6, N7, I1, I2, I3, I4, I5, I6, I7, reduceIte, reduceCtorEq, c, k0, gx, hwk, hwx, b8, b1, hps, hln]
    have htk : shI A.n (B.fi.take (k + 1)) = shI A.n (B.fi.take k) ++ [A.n + x] := by rw [List.take_add_one, gx]; simp [shI]
    exact SemW_to (ih (k + 1) (gb + 1) 0 (vm + 1) (by omega) (by omega)) (by simp only [PWeak_nil, PWeak_junk, PWeak_same, Int.cast_ofNat_Int, List.length_append, List.length_cons, List.length_nil, Nat.zero_add]) (by rw [htk]; simp [Nat.add_assoc])
  have hkn : k = B.fi.length := by omega
  subst hkn
  rw [List.take_of_length_le (Nat.le_refl _)]
  simp only [PP, P1, P2, P3, P4, P5, P6, P7, P8, P9, P10, P11, P12, P13, P14, L1, P15, N1, N2, N3, N4, N5, N6, N7, I1, I2, I3, I4, I5, I6, I7, reduceIte, reduceCtorEq, c]
  refine loop5 (fun (k gc vc vm : Nat) (G : Mem) => k ≤ B.es.length) (fun k gc vc vm G => [.junk, .junk, .cp (nfC f1 o1 f2 o2 f3 o3 A) 0, .junk, .ptr 2 0 0, .junk, .junk, .junk, .junk, .junk, .junk, .junk, .junk, .junk, .junk, .junk, .junk, .junk, .junk, .junk, .junk, .junk, .junk, .junk, .junk, .junk, .junk, .junk, .junk, .junk, .junk, .junk, .junk, .junk, .junk, .junk, .junk, .junk, .junk, .junk, .junk, .junk, .junk, .junk, .junk, .junk, .junk, .junk, .junk, .junk, .junk, .junk, .junk, .junk, .junk, .junk, .junk, .junk, .junk, .junk, .junk, .junk, .junk, .junk, .junk, .junk, .junk, .junk, .junk, .junk, .junk, .junk, .junk, .junk, .junk, .junk, .junk, .junk, .junk, .junk, .junk, .junk, .junk, .junk, .junk, .junk, .junk, .junk, .junk, .junk, .junk, .junk, .junk, .junk, .junk, .junk, .junk, .junk, .junk, .junk, .junk, slE g3 p3 B.es, p64 B.es.length, p64 k, .junk, .junk, .junk, .junk, .junk, .junk, .junk, .junk, .junk, .junk, .junk, .junk, .junk, .junk, .junk, .junk, .junk, .junk, .junk, .junk, .junk, .junk, .junk]) (fun k gc vc vm G => .gone :: .gone :: .cells 0 vm [p64 A.vs, p64 (A.n + B.n), .ref 3 g 1 0 (A.st.length + B.st.length), .ref 4 gb 1 0 (A.fi.length + B.fi.length), .ref 5 gc 4 0 (A.es.length + k)] :: .cells g v (A.st.map p64 ++ (shI A.n B.st).map p64) :: .cells gb vb (A.fi.map p64 ++ (shI A.n B.fi).map p64) :: .cells gc vc (egL (A.es ++ (B.es.take k).map (shG A.n))) :: G) (fun k _ _ _ _ => B.es.length - k) 0 gc vc vm [] (by omega) (by simp only [PWeak_nil, PWeak_junk, PWeak_same, Int.cast_ofNat_Int, List.length_append, List.length_cons, List.length_nil, Nat.zero_add]) (by simp) ?_
  intro k gc vc vm G hle ih
  obtain ⟨acc, hacc⟩ : ∃ acc, acc = A.es ++ (B.es.take k).map (shG A.n) := ⟨_, rfl⟩
  have hal : acc.length = A.es.length + k := by rw [hacc]; simp; omega
  rw [← hacc]
  refine SemW_go (by kernel_rfl) ?_
  simp only [PP, P1, P2, P3, P4, P5, P6, P7, P8, P9, P10, P11, P12, P13, P14, L1, P15, N1, N2, N3, N4, N5, N6, N7, I1, I2, I3, I4, I5, I6, I7, reduceIte, reduceCtorEq]
  refine QIf.intro (fun c => ?_) (fun c => ?_)
  · have hk' : k < B.es.length := by omega
    obtain ⟨e, ge⟩ := some_of hk'
    have hem := List.mem_of_getElem? ge
    obtain ⟨q1, q2, q3, q4, _⟩ := CB.ed e hem
    have k0 : (0 : Int) ≤ k := by omega
    have hwk := wrap_succ (k := k) (by show _ < 1000000000000; omega)
    have h4 := psub_egL ge
    have hl4 : k * 4 + 4 ≤ (egL B.es).length := by rw [egL_len]; exact eg_le ge
    have w1 : IntKind.i64.wrap (A.n + e.fr) = A.n + e.fr := wrap64 (by omega) (by omega)
    have w2 : IntKind.i64.wrap (A.n + e.to) = A.n + e.to := wrap64 (by omega) (by omega)
    have b8 : (A.es.length + k + 1) * 24 ≤ 140737488355328 := by omega
    have b1 : A.es.length + k ≤ 9223372036854775806 := by omega
    have hps := psub_egAll hal
    have hl5 : (A.es.length + k) * 4 ≤ (egL acc).length := by rw [egL_len]; omega
    simp only [PP, P1, P2, P3, P4, P5, P6, P7, P8, P9, P10, P11, P12, P13, P14, L1, P15, N1, N2, N3, N4, N5, N6, N7, I1, I2, I3, I4, I5, I6, I7, reduceIte, reduceCtorEq, c, k0, h4, hl4, w1, w2, gk0, sk0, hwk, b8, b1, hps, hl5]
    have htk : A.es ++ (B.es.take (k + 1)).map (shG A.n) = acc ++ [shG A.n e] := by rw [List.take_add_one, ge, hacc]; simp
    exact SemW_to (ih (k + 1) (gc + 1) 0 (vm + 1) (G ++ [.cells 0 3 (egC (shG A.n e))]) (by omega) (by omega)) (by simp only [PWeak_nil, PWeak_junk, PWeak_same, Int.cast_ofNat_Int, List.length_append, List.length_cons, List.length_nil, Nat.zero_add]) (by rw [htk, ← egL_app]; rfl)
  have hkn : k = B.es.length := by omega
  subst hkn
  rw [List.take_of_length_le (Nat.le_refl _)] at hacc
  simp only [PP, P1, P2, P3, P4, P5, P6, P7, P8, P9, P10, P11, P12, P13, P14, L1, P15, N1, N2, N3, N4, N5, N6, N7, I1, I2, I3, I4, I5, I6, I7, reduceIte, reduceCtorEq, c]
  have hi : ∀ (a b : List Int) (g v n : Nat), n = a.length + b.length → frzO (some (.cells g v (a.map p64 ++ b.map p64))) g 1 0 n = some (slI false true .i64 (a ++ b)) := fun a b g v n h => by
    subst h
    rw [← List.map_append, frzO_cells (by simp) (underL_map _ p64 (fun x => by simp [PV.under]) _), Nat.mul_one, psub_all _ _ (by simp)]
    simp [slI]
  have l1 : (shI A.n B.st).length = B.st.length := by simp [shI]
  have l2 : (shI A.n B.fi).length = B.fi.length := by simp [shI]
  have h1 := hi A.st (shI A.n B.st) g v _ (congrArg _ l1.symm)
  have h2 := hi A.fi (shI A.n B.fi) gb vb _ (congrArg _ l2.symm)
  have h3 := frzO_egL (g := gc) (v := vc) hal
  simp only [PP, P1, P2, P3, P4, P5, P6, P7, P8, P9, P10, P11, P12, P13, P14, L1, P15, N1, N2, N3, N4, N5, N6, N7, I1, I2, I3, I4, I5, I6, I7, reduceIte, reduceCtorEq, h1, h2, h3]
  refine ⟨_, PvWk.refl _, ?_⟩
  unfold uniN at hk
  rw [← hacc] at hk
  exact hk
end
end Go.Am.Ar

