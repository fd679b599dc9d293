/- The law that the simulation preorder is the greatest simulation, and what goes with it. -/
import Derived.Test.YtfapjojfiaiidaaSimulateLargestG1
import Derived.Test.YtfapjojfiaiidaaSimulateLargestG2
import Derived.Test.YtfapjojfiaiidaaSimulateLargestG0
set_option linter.unusedVariables false
set_option linter.unusedSimpArgs false
set_option maxRecDepth 10000
namespace Go.Am.Ar
open Go.Am renaming pchk → P1, pold → P2, PKNo → P3, ppack → P4, PObj.under → P5, pput → P6, ptset → P7, ptget → P8, pev → P9, ofAV → P10, ofAV1 → P11, ppad → P12, pfill → P13, prepl → P14, AO.effect → P15
open List renaming replicate → L1
open Nat renaming reduceAdd → N1, reduceSub → N2, reduceMul → N3, reduceLT → N4, reduceLeDiff → N5, reduceEqDiff → N6, reduceBEq → N7
open Int renaming reduceToNat → I1, reduceLT → I2, reduceLE → I3, reduceEq → I4, reduceAdd → I5, reduceSub → I6, reduceNeg → I7
theorem RelOk.refl {N : NF} {rs : List (List Bool)} (R : RelOk N rs) {p : Nat} (hp : (p : Int) < N.n) : rAt rs p p = true := R.u _ (id_sim N) p p hp hp (by simp)
open Classical in
theorem RelOk.trans {N : NF} (C : NOk N) {rs : List (List Bool)} (R : RelOk N rs) {p q s : Nat} (hp : (p : Int) < N.n) (hq : (q : Int) < N.n) (hs : (s : Int) < N.n) (h1 : rAt rs p q = true) (h2 : rAt rs q s = true) : rAt rs p s = true := by
  refine R.u (fun a c => decide (∃ b : Nat, (b : Int) < N.n ∧ rAt rs a b = true ∧ rAt rs b c = true)) ?_ p s hp hs (decide_eq_true ⟨q, hq, h1, h2⟩)
  intro a c ha hc h
  obtain ⟨b, hb, k1, k2⟩ := of_decide_eq_true h
  have H1 := R.s a b ha hb k1
  have H2 := R.s b c hb hc k2
  refine ⟨fun z => H2.1 (H1.1 z), fun xu hxu => ?_⟩
  obtain ⟨yv, g1, g2, g3⟩ := H1.2 xu hxu
  obtain ⟨zw, g4, g5, g6⟩ := H2.2 yv g1
  obtain ⟨y, v⟩ := yv
  obtain ⟨_, v0, vn⟩ := mvL_ok C g1
  refine ⟨zw, g4, g2.trans g5, decide_eq_true ⟨v.toNat, by omega, ?_, ?_⟩⟩
  · rw [Int.toNat_of_nonneg v0]; exact g3
  · rw [Int.toNat_of_nonneg v0]; exact g6
theorem sh_boolsP {cs : List AV} {h : H} (hs : Sh (.slice .bool) cs h) : ∃ v, ∃ xs : List Bool, cs = [v] ∧ RepV (wH h) (slB false false xs) v ∧ xs.length ≤ 9223372036854775807 := by
  obtain ⟨v, cells, rfl, h1, h2, h3⟩ := sh_sl rfl hs
  have : ∀ cells : List AV, (∀ c ∈ cells, Sh .bool [c] h) → ∃ xs : List Bool, cells = xs.map AV.bool := by
    intro cells
    induction cells with
    | nil => intro _; exact ⟨[], rfl⟩
    | cons c cells ih =>
      intro hc
      obtain ⟨xs, e⟩ := ih (fun c' h' => hc c' (List.mem_cons_of_mem _ h'))
      obtain ⟨b, e1⟩ := hc c (by simp)
      cases e1
      exact ⟨b :: xs, by simp [e]⟩
  obtain ⟨xs, rfl⟩ := this cells h2
  refine ⟨v, xs, rfl, ?_, by simpa using h1⟩
  have := h3 (xs.map PV.bool) ⟨by simp, fun i y z p q => by
    rw [List.getElem?_map] at p q
    cases hx : xs[i]? with
    | none => rw [hx] at p; cases p
    | some x => rw [hx] at p q; cases p; cases q; exact .bool x⟩
  simpa using this
theorem arg_brows {v : AV} {h : H} (hs : ShV (.slice (.slice .bool)) v h) : ∃ rs : List (List Bool), RepV (wH h) (slBr false false false false rs) v := by
  obtain ⟨avs, hs, rfl⟩ := hs
  obtain ⟨v, cells, rfl, h1, h2, h3⟩ := sh_sl rfl hs
  have : ∀ cells : List AV, (∀ c ∈ cells, Sh (.slice .bool) [c] h) → ∃ rs : List (List Bool), cells.length = rs.length ∧ RepL (wH h) (rs.map (slB false false)) cells := by
    intro cells
    induction cells with
    | nil => intro _; exact ⟨[], rfl, .nil _⟩
    | cons c cells ih =>
      intro hc
      obtain ⟨su, e, e2⟩ := ih (fun c' h' => hc c' (List.mem_cons_of_mem _ h'))
      obtain ⟨v, xs, e1, r1, _⟩ := sh_boolsP (hc c (by simp))
      cases e1
      exact ⟨xs :: su, by simp [e], .cons r1 e2⟩
  obtain ⟨rs, e1, e2⟩ := this cells h2
  have := h3 _ e2
  rw [e1] at this
  exact ⟨rs, this⟩
section
variable {tab : FuncId → Option AF} (T : HasA tab)
include T
theorem relationW_p {M : Mem} {K : PV → Mem → Prop} {f1 o1 f2 o2 f3 o3 : Bool} {N : NF} (B : BnN N) (hk1 : checkN N ≠ 0 → K (.tuple [.nils, p64 (checkN N)]) M) (hk2 : checkN N = 0 → ∀ rs, RelOk N rs → K (.tuple [slBr false true false true rs, p64 0]) M) :
    SemC tab 18 [.agg (nfC f1 o1 f2 o2 f3 o3 N)] M K := by
  refine SemC_pure T.h18 (by simp only [PP, P1, P2, P3, P4, P5, P6, P7, P8, P9, P10, P11, P12, P13, P14, L1, P15, N1, N2, N3, N4, N5, N6, N7, I1, I2, I3, I4, I5, I6, I7, reduceIte, reduceCtorEq, under_slE]) ?_
  simp only [af18, PP, P1, P2, P3, P4, P5, P6, P7, P8, P9, P10, P11, P12, P13, P14, L1, P15, N1, N2, N3, N4, N5, N6, N7, I1, I2, I3, I4, I5, I6, I7, reduceIte, reduceCtorEq]
  refine check_p T B ?_
  simp only [PP, P1, P2, P3, P4, P5, P6, P7, P8, P9, P10, P11, P12, P13, P14, L1, P15, N1, N2, N3, N4, N5, N6, N7, I1, I2, I3, I4, I5, I6, I7, reduceIte, reduceCtorEq]
  by_cases c : checkN N = 0
  · simp only [PP, P1, P2, P3, P4, P5, P6, P7, P8, P9, P10, P11, P12, P13, P14, L1, P15, N1, N2, N3, N4, N5, N6, N7, I1, I2, I3, I4, I5, I6, I7, reduceIte, reduceCtorEq, c]
    refine relation_p T (nok_of c) B fun rs R => ?_
    have hfz : ∀ M0 : Mem, pfrz2 0 M0 (slBr false true false true rs) = some (slBr false true false true rs) := fun M0 => pfrz1_under (M := M0) (under_slBr _ _ _ _ _ _ _ _)
    simp only [PP, P1, P2, P3, P4, P5, P6, P7, P8, P9, P10, P11, P12, P13, P14, L1, P15, N1, N2, N3, N4, N5, N6, N7, I1, I2, I3, I4, I5, I6, I7, reduceIte, reduceCtorEq, hfz]
    exact hk2 c rs R
  · simp only [PP, P1, P2, P3, P4, P5, P6, P7, P8, P9, P10, P11, P12, P13, P14, L1, P15, N1, N2, N3, N4, N5, N6, N7, I1, I2, I3, I4, I5, I6, I7, reduceIte, reduceCtorEq, c]
    exact hk1 c
set_option maxHeartbeats 1000000 in
theorem largest_p {N : NF} {ot : List (List Bool)} (A : NumN N) :
    SemC tab 5 [.agg (nfF N), slBr false false false false ot] [] fun r _ => r = .bool true := by
  refine SemC_fn T.h5 ?_
  simp only [af5, PP, P1, P2, P3, P4, P5, P6, P7, P8, P9, P10, P11, P12, P13, P14, L1, P15, N1, N2, N3, N4, N5, N6, N7, I1, I2, I3, I4, I5, I6, I7, reduceIte, reduceCtorEq]
  refine longOne_p T A ?_
  simp only [PP, P1, P2, P3, P4, P5, P6, P7, P8, P9, P10, P11, P12, P13, P14, L1, P15, N1, N2, N3, N4, N5, N6, N7, I1, I2, I3, I4, I5, I6, I7, reduceIte, reduceCtorEq]
  cases hl : longN N with
  | true =>
    simp only [PP, P1, P2, P3, P4, P5, P6, P7, P8, P9, P10, P11, P12, P13, P14, L1, P15, N1, N2, N3, N4, N5, N6, N7, I1, I2, I3, I4, I5, I6, I7, reduceIte, reduceCtorEq]
    refine SemC_true T.awake ?_
    simp only [PP, P1, P2, P3, P4, P5, P6, P7, P8, P9, P10, P11, P12, P13, P14, L1, P15, N1, N2, N3, N4, N5, N6, N7, I1, I2, I3, I4, I5, I6, I7, reduceIte, reduceCtorEq]
  | false =>
    have B := longN_bn A hl
    simp only [PP, P1, P2, P3, P4, P5, P6, P7, P8, P9, P10, P11, P12, P13, P14, L1, P15, N1, N2, N3, N4, N5, N6, N7, I1, I2, I3, I4, I5, I6, I7, reduceIte, reduceCtorEq]
    refine QIf.intro (fun c1 => ?_) (fun c1 => ?_)
    · simp only [PP, P1, P2, P3, P4, P5, P6, P7, P8, P9, P10, P11, P12, P13, P14, L1, P15, N1, N2, N3, N4, N5, N6, N7, I1, I2, I3, I4, I5, I6, I7, reduceIte, reduceCtorEq, c1]
      refine SemC_true T.awake ?_
      simp only [PP, P1, P2, P3, P4, P5, P6, P7, P8, P9, P10, P11, P12, P13, P14, L1, P15, N1, N2, N3, N4, N5, N6, N7, I1, I2, I3, I4, I5, I6, I7, reduceIte, reduceCtorEq]
    simp only [PP, P1, P2, P3, P4, P5, P6, P7, P8, P9, P10, P11, P12, P13, P14, L1, P15, N1, N2, N3, N4, N5, N6, N7, I1, I2, I3, I4, I5, I6, I7, reduceIte, reduceCtorEq, c1]
    refine SemC_true T.awake ?_
    simp only [PP, P1, P2, P3, P4, P5, P6, P7, P8, P9, P10, P11, P12, P13, P14, L1, P15, N1, N2, N3, N4, N5, N6, N7, I1, I2, I3, I4, I5, I6, I7, reduceIte, reduceCtorEq]
    refine relationW_p T B (fun c2 => ?_) (fun c2 rs R => ?_)
    · simp only [PP, P1, P2, P3, P4, P5, P6, P7, P8, P9, P10, P11, P12, P13, P14, L1, P15, N1, N2, N3, N4, N5, N6, N7, I1, I2, I3, I4, I5, I6, I7, reduceIte, reduceCtorEq, c2]
      refine check_p T B ?_
      simp only [PP, P1, P2, P3, P4, P5, P6, P7, P8, P9, P10, P11, P12, P13, P14, L1, P15, N1, N2, N3, N4, N5, N6, N7, I1, I2, I3, I4, I5, I6, I7, reduceIte, reduceCtorEq]
    have C := nok_of c2
    have n0 := C.n0
    obtain ⟨n, hn⟩ : ∃ n : Nat, N.n = n := ⟨N.n.toNat, by omega⟩
    have n6 := (longN_sm hl c2).1
    have D := R.d
    simp only [PP, P1, P2, P3, P4, P5, P6, P7, P8, P9, P10, P11, P12, P13, P14, L1, P15, N1, N2, N3, N4, N5, N6, N7, I1, I2, I3, I4, I5, I6, I7, reduceIte, reduceCtorEq]
    refine is_p T B (by have := D.1; omega) (fun b e hI => ?_)
    have hbe : b = true ∧ e = 0 := by
      rcases hI with ⟨h, _⟩ | ⟨_, h, _⟩ | ⟨_, _, h, h'⟩
      · exact absurd c2 h
      · exact absurd D h
      · exact ⟨h.2 R.s, h'⟩
    obtain ⟨rfl, rfl⟩ := hbe
    simp only [PP, P1, P2, P3, P4, P5, P6, P7, P8, P9, P10, P11, P12, P13, P14, L1, P15, N1, N2, N3, N4, N5, N6, N7, I1, I2, I3, I4, I5, I6, I7, reduceIte, reduceCtorEq]
    refine is_p T B (by omega) (fun so g hI2 => ?_)
    have hg : g = 0 ∨ g = 2 := by
      rcases hI2 with ⟨h, _⟩ | ⟨_, _, _, h⟩ | ⟨_, _, _, h⟩
      · exact absurd c2 h
      · exact .inr h
      · exact .inl h
    have hso : g = 0 → so = true → DimOk N ot ∧ SimR N (rAt ot) := fun h1 h2 => by
      rcases hI2 with ⟨h, _⟩ | ⟨_, _, _, h⟩ | ⟨_, h, h3, _⟩
      · exact absurd c2 h
      · omega
      · exact ⟨h, h3.1 h2⟩
    have hrl : (rs.length : Int) = n := by have := D.1; omega
    have hrn : rs.length = n := by omega
    have hget : ∀ p q : Nat, p < n → q < n → ∃ row b, rs[p]? = some row ∧ row[q]? = some b ∧ rAt rs p q = b ∧ (row.length : Int) = n := fun p q hp hq => by
      obtain ⟨row, g1⟩ := some_of (xs := rs) (k := p) (by omega)
      have := D.2 row (List.mem_of_getElem? g1)
      obtain ⟨b, g2⟩ := some_of (xs := row) (k := q) (by omega)
      exact ⟨row, b, g1, g2, by simp [rAt, List.getD, g1, g2], by omega⟩
    simp only [PP, P1, P2, P3, P4, P5, P6, P7, P8, P9, P10, P11, P12, P13, P14, L1, P15, N1, N2, N3, N4, N5, N6, N7, I1, I2, I3, I4, I5, I6, I7, reduceIte, reduceCtorEq, D.1]
    refine loop1 (fun (p : Nat) => p ≤ n) (fun p => [.junk, slBr false false false false ot, .ptr 0 0 0, .junk, .junk, slBr false true false true rs, .junk, .junk, .junk, .bool so, p64 g, p64 p, .junk, .junk, .junk, .junk, .junk, .junk, .junk, .junk, .junk, .junk, .junk, .junk, .junk, .junk, .junk, .junk, .junk, .junk, .junk, .junk, .junk, .junk, .junk, .junk, .junk, .junk, .junk, .junk, .junk, .junk, .junk, .junk, .junk, .junk, .junk, .junk, .junk, .junk, .junk, .junk, .junk, .junk, .junk, .junk, .junk, .junk, .junk, .junk, .junk, .junk, .junk, .junk, .junk, .junk, .junk, .junk, .junk, .junk, .junk, .junk, .junk, .junk, .junk, .junk, .junk, .junk, .junk, .junk, .junk, .junk, .junk, .junk, .junk, .junk, .junk, .junk, .junk, .junk, .junk, .junk, .junk, .junk, .junk, .junk, .junk, .junk, .junk, .junk, .junk, .junk, .junk, .junk, .junk, .junk, .junk, .junk, .junk, .junk, .junk, .junk, .junk, .junk, .junk, .junk, .junk, .junk, .junk, .junk, .junk, .junk, .junk, .junk, .junk, .junk, .junk, .junk, .junk, .junk, .junk, .junk, .junk, .junk, .junk, .junk, .junk, .junk, .junk, .junk, .junk, .junk, .junk, .junk, .junk, .junk, .junk, .junk, .junk, .junk, .junk, .junk, .junk, .junk, .junk, .junk, .junk]) (fun _ => [.cells 0 0 (nfF N)]) (fun p => n - p) 0 (by omega) (by simp only [PWeak_nil, PWeak_junk, PWeak_same, Int.cast_ofNat_Int, List.length_append, List.length_cons, List.length_nil, Nat.zero_add]) rfl ?_
    intro p hp ih
    refine SemW_go (by kernel_rfl) ?_
    simp only [PP, P1, P2, P3, P4, P5, P6, P7, P8, P9, P10, P11, P12, P13, P14, L1, P15, N1, N2, N3, N4, N5, N6, N7, I1, I2, I3, I4, I5, I6, I7, reduceIte, reduceCtorEq, hn]
    refine QIf.intro (fun d => ?_) (fun d => ?_)
    rotate_left
    · rcases hg with rfl | rfl
      · simp only [PP, P1, P2, P3, P4, P5, P6, P7, P8, P9, P10, P11, P12, P13, P14, L1, P15, N1, N2, N3, N4, N5, N6, N7, I1, I2, I3, I4, I5, I6, I7, reduceIte, reduceCtorEq, d]
      · simp only [PP, P1, P2, P3, P4, P5, P6, P7, P8, P9, P10, P11, P12, P13, P14, L1, P15, N1, N2, N3, N4, N5, N6, N7, I1, I2, I3, I4, I5, I6, I7, reduceIte, reduceCtorEq, d]
    have hp' : p < n := by omega
    have hwp := wrap_succ (k := p) (by show _ < 1000000000000; omega)
    simp only [PP, P1, P2, P3, P4, P5, P6, P7, P8, P9, P10, P11, P12, P13, P14, L1, P15, N1, N2, N3, N4, N5, N6, N7, I1, I2, I3, I4, I5, I6, I7, reduceIte, reduceCtorEq, d]
    refine loop1 (fun (q : Nat) => q ≤ n) (fun q => [.junk, slBr false false false false ot, .ptr 0 0 0, .junk, .junk, slBr false true false true rs, .junk, .junk, .junk, .bool so, p64 g, p64 p, p64 q, .junk, .junk, .junk, .junk, .junk, .junk, .junk, .junk, .junk, .junk, .junk, .junk, .junk, .junk, .junk, .junk, .junk, .junk, .junk, .junk, .junk, .junk, .junk, .junk, .junk, .junk, .junk, .junk, .junk, .junk, .junk, .junk, .junk, .junk, .junk, .junk, .junk, .junk, .junk, .junk, .junk, .junk, .junk, .junk, .junk, .junk, .junk, .junk, .junk, .junk, .junk, .junk, .junk, .junk, .junk, .junk, .junk, .junk, .junk, .junk, .junk, .junk, .junk, .junk, .junk, .junk, .junk, .junk, .junk, .junk, .junk, .junk, .junk, .junk, .junk, .junk, .junk, .junk, .junk, .junk, .junk, .junk, .junk, .junk, .junk, .junk, .junk, .junk, .junk, .junk, .junk, .junk, .junk, .junk, .junk, .junk, .junk, .junk, .junk, .junk, .junk, .junk, .junk, .junk, .junk, .junk, .junk, .junk, .junk, .junk, .junk, .junk, .junk, .junk, .junk, .junk, .junk, .junk, .junk, .junk, .junk, .junk, .junk, .junk, .junk, .junk, .junk, .junk, .junk, .junk, .junk, .junk, .junk, .junk, .junk, .junk, .junk, .junk, .junk, .junk, .junk, .junk, .junk, .junk]) (fun _ => [.cells 0 0 (nfF N)]) (fun q => n - q) 0 (by omega) (by simp only [PWeak_nil, PWeak_junk, PWeak_same, Int.cast_ofNat_Int, List.length_append, List.length_cons, List.length_nil, Nat.zero_add]) rfl ?_
    intro q hq ih2
    refine SemW_go (by kernel_rfl) ?_
    simp only [PP, P1, P2, P3, P4, P5, P6, P7, P8, P9, P10, P11, P12, P13, P14, L1, P15, N1, N2, N3, N4, N5, N6, N7, I1, I2, I3, I4, I5, I6, I7, reduceIte, reduceCtorEq, hn]
    refine QIf.intro (fun d2 => ?_) (fun d2 => ?_)
    rotate_left
    · simp only [PP, P1, P2, P3, P4, P5, P6, P7, P8, P9, P10, P11, P12, P13, P14, L1, P15, N1, N2, N3, N4, N5, N6, N7, I1, I2, I3, I4, I5, I6, I7, reduceIte, reduceCtorEq, d2, hwp]
      exact SemW_weak (ih (p + 1) hp' (by omega)) (by simp only [PWeak_nil, PWeak_junk, PWeak_same, Int.cast_ofNat_Int, List.length_append, List.length_cons, List.length_nil, Nat.zero_add])
    have hq' : q < n := by omega
    have hwq := wrap_succ (k := q) (by show _ < 1000000000000; omega)
    obtain ⟨row, b, g1, g2, g3, g4⟩ := hget p q hp' hq'
    have p0 : (0 : Int) ≤ p := by omega
    have q0 : (0 : Int) ≤ q := by omega
    have pn : (p : Int) < n := by omega
    have qn : (q : Int) < n := by omega
    simp only [PP, P1, P2, P3, P4, P5, P6, P7, P8, P9, P10, P11, P12, P13, P14, L1, P15, N1, N2, N3, N4, N5, N6, N7, I1, I2, I3, I4, I5, I6, I7, reduceIte, reduceCtorEq, d2, p0, q0, pn, qn, g1, g2, hrl, hrn, g4]
    have hot : g = 0 → so = true → ∃ row2 c, ot[p]? = some row2 ∧ row2[q]? = some c ∧ ((row2.length : Int) = n ∧ (ot.length : Int) = n) ∧ (c = true → b = true) := fun h1 h2 => by
      obtain ⟨D2, S2⟩ := hso h1 h2
      obtain ⟨row2, k1⟩ := some_of (xs := ot) (k := p) (by have := D2.1; omega)
      have := D2.2 row2 (List.mem_of_getElem? k1)
      obtain ⟨c, k2⟩ := some_of (xs := row2) (k := q) (by omega)
      refine ⟨row2, c, k1, k2, ⟨by omega, by have := D2.1; omega⟩, fun hc => ?_⟩
      rw [← g3]
      exact R.u _ S2 p q (by omega) (by omega) (by simp [rAt, List.getD, k1, k2, hc])
    have hb : p = q → b = true := fun e => by subst e; rw [← g3]; exact R.refl (by omega)
    have key : ∀ s : Nat, s < n → b = true → rAt rs q s = true → rAt rs p s = true := fun s hs h1 h2 => R.trans C (q := q) (by omega) (by omega) (by omega) (by rw [g3]; exact h1) h2
    by_cases e1 : p = q
    · subst e1
      have hbt := hb rfl
      subst hbt
      simp only [PP, P1, P2, P3, P4, P5, P6, P7, P8, P9, P10, P11, P12, P13, P14, L1, P15, N1, N2, N3, N4, N5, N6, N7, I1, I2, I3, I4, I5, I6, I7, reduceIte, reduceCtorEq, p0, pn, g1, g2, hrl, hrn, g4]
      rcases hg with rfl | rfl
      · cases so with
        | false =>
          simp only [PP, P1, P2, P3, P4, P5, P6, P7, P8, P9, P10, P11, P12, P13, P14, L1, P15, N1, N2, N3, N4, N5, N6, N7, I1, I2, I3, I4, I5, I6, I7, reduceIte, reduceCtorEq]
          refine loop1 (fun (s : Nat) => s ≤ n) (fun s => [.junk, slBr false false false false ot, .ptr 0 0 0, .junk, .junk, slBr false true false true rs, .junk, .junk, .junk, .bool false, p64 0, p64 p, p64 p, p64 s, .junk, .junk, .junk, .junk, .junk, .junk, .junk, .junk, .junk, .junk, .junk, .junk, .junk, .junk, .junk, .junk, .junk, .junk, .junk, .junk, .junk, .junk, .junk, .junk, .junk, .junk, .junk, .junk, .junk, .junk, .junk, .junk, .junk, .junk, .junk, .junk, .junk, .junk, .junk, .junk, .junk, .junk, .junk, .junk, .junk, .junk, .junk, .junk, .junk, .junk, .junk, .junk, .junk, .junk, .junk, .junk, .junk, .junk, .junk, .junk, .junk, .junk, .junk, .junk, .junk, .junk, .junk, .junk, .junk, .junk, .junk, .junk, .junk, .junk, .junk, .junk, .junk, .junk, .junk, .junk, .junk, .junk, .junk, .junk, .junk, .junk, .junk, .junk, .junk, .junk, .junk, .junk, .junk, .junk, .junk, .junk, .junk, .junk, .junk, .junk, .junk, .junk, .junk, .junk, .junk, .junk, .junk, .junk, .junk, .junk, .junk, .junk, .junk, .junk, .junk, .junk, .junk, .junk, .junk, .junk, .junk, .junk, .junk, .junk, .junk, .junk, .junk, .junk, .junk, .junk, .junk, .junk, .junk, .junk, .junk, .junk, .junk, .junk, .junk, .junk, .junk, .junk, .junk]) (fun _ => [.cells 0 0 (nfF N)]) (fun s => n - s) 0 (by omega) (by simp only [PWeak_nil, PWeak_junk, PWeak_same, Int.cast_ofNat_Int, List.length_append, List.length_cons, List.length_nil, Nat.zero_add]) rfl ?_
          intro s hs ih3
          refine SemW_go (by kernel_rfl) ?_
          simp only [PP, P1, P2, P3, P4, P5, P6, P7, P8, P9, P10, P11, P12, P13, P14, L1, P15, N1, N2, N3, N4, N5, N6, N7, I1, I2, I3, I4, I5, I6, I7, reduceIte, reduceCtorEq, hn]
          refine QIf.intro (fun d3 => ?_) (fun d3 => ?_)
          rotate_left
          · simp only [PP, P1, P2, P3, P4, P5, P6, P7, P8, P9, P10, P11, P12, P13, P14, L1, P15, N1, N2, N3, N4, N5, N6, N7, I1, I2, I3, I4, I5, I6, I7, reduceIte, reduceCtorEq, d3, hwq]
            exact SemW_weak (ih2 (p + 1) hq' (by omega)) (by simp only [PWeak_nil, PWeak_junk, PWeak_same, Int.cast_ofNat_Int, List.length_append, List.length_cons, List.length_nil, Nat.zero_add])
          have hs' : s < n := by omega
          have hws := wrap_succ (k := s) (by show _ < 1000000000000; omega)
          have s0 : (0 : Int) ≤ s := by omega
          have sn : (s : Int) < n := by omega
          obtain ⟨rowq, b2, f1, f2, f3, f4⟩ := hget p s hq' hs'
          obtain ⟨rowp, b3, f5, f6, f7, f8⟩ := hget p s hp' hs'
          have hk3 : true = true → b2 = true → b3 = true := fun h1 h2 => by rw [← f7]; exact key s hs' h1 (by rw [f3]; exact h2)
          obtain rfl : row = rowq := Option.some.inj (g1.symm.trans f1)
          obtain rfl : row = rowp := Option.some.inj (g1.symm.trans f5)
          obtain rfl : b2 = b3 := Option.some.inj (f2.symm.trans f6)
          simp only [PP, P1, P2, P3, P4, P5, P6, P7, P8, P9, P10, P11, P12, P13, P14, L1, P15, N1, N2, N3, N4, N5, N6, N7, I1, I2, I3, I4, I5, I6, I7, reduceIte, reduceCtorEq, d3, p0, pn, s0, sn, g1, g2, f2, hrl, hrn, g4, hws]
          cases b2 <;> simp only [PP, P1, P2, P3, P4, P5, P6, P7, P8, P9, P10, P11, P12, P13, P14, L1, P15, N1, N2, N3, N4, N5, N6, N7, I1, I2, I3, I4, I5, I6, I7, reduceIte, reduceCtorEq, d3, p0, pn, s0, sn, g1, g2, f2, hrl, hrn, g4, hws] <;> exact SemW_weak (ih3 (s + 1) hs' (by omega)) (by simp only [PWeak_nil, PWeak_junk, PWeak_same, Int.cast_ofNat_Int, List.length_append, List.length_cons, List.length_nil, Nat.zero_add])
        | true =>
          obtain ⟨row2, c, k1, k2, ⟨k3, k4⟩, k5⟩ := hot rfl rfl
          cases c with
          | false =>
            simp only [PP, P1, P2, P3, P4, P5, P6, P7, P8, P9, P10, P11, P12, P13, P14, L1, P15, N1, N2, N3, N4, N5, N6, N7, I1, I2, I3, I4, I5, I6, I7, reduceIte, reduceCtorEq, p0, pn, g1, g2, hrl, hrn, g4, k1, k2, k3, k4]
            refine loop1 (fun (s : Nat) => s ≤ n) (fun s => [.junk, slBr false false false false ot, .ptr 0 0 0, .junk, .junk, slBr false true false true rs, .junk, .junk, .junk, .bool true, p64 0, p64 p, p64 p, p64 s, .junk, .junk, .junk, .junk, .junk, .junk, .junk, .junk, .junk, .junk, .junk, .junk, .junk, .junk, .junk, .junk, .junk, .junk, .junk, .junk, .junk, .junk, .junk, .junk, .junk, .junk, .junk, .junk, .junk, .junk, .junk, .junk, .junk, .junk, .junk, .junk, .junk, .junk, .junk, .junk, .junk, .junk, .junk, .junk, .junk, .junk, .junk, .junk, .junk, .junk, .junk, .junk, .junk, .junk, .junk, .junk, .junk, .junk, .junk, .junk, .junk, .junk, .junk, .junk, .junk, .junk, .junk, .junk, .junk, .junk, .junk, .junk, .junk, .junk, .junk, .junk, .junk, .junk, .junk, .junk, .junk, .junk, .junk, .junk, .junk, .junk, .junk, .junk, .junk, .junk, .junk, .junk, .junk, .junk, .junk, .junk, .junk, .junk, .junk, .junk, .junk, .junk, .junk, .junk, .junk, .junk, .junk, .junk, .junk, .junk, .junk, .junk, .junk, .junk, .junk, .junk, .junk, .junk, .junk, .junk, .junk, .junk, .junk, .junk, .junk, .junk, .junk, .junk, .junk, .junk, .junk, .junk, .junk, .junk, .junk, .junk, .junk, .junk, .junk, .junk, .junk, .junk, .junk]) (fun _ => [.cells 0 0 (nfF N)]) (fun s => n - s) 0 (by omega) (by simp only [PWeak_nil, PWeak_junk, PWeak_same, Int.cast_ofNat_Int, List.length_append, List.length_cons, List.length_nil, Nat.zero_add]) rfl ?_
            intro s hs ih3
            refine SemW_go (by kernel_rfl) ?_
            simp only [PP, P1, P2, P3, P4, P5, P6, P7, P8, P9, P10, P11, P12, P13, P14, L1, P15, N1, N2, N3, N4, N5, N6, N7, I1, I2, I3, I4, I5, I6, I7, reduceIte, reduceCtorEq, hn]
            refine QIf.intro (fun d3 => ?_) (fun d3 => ?_)
            rotate_left
            · simp only [PP, P1, P2, P3, P4, P5, P6, P7, P8, P9, P10, P11, P12, P13, P14, L1, P15, N1, N2, N3, N4, N5, N6, N7, I1, I2, I3, I4, I5, I6, I7, reduceIte, reduceCtorEq, d3, hwq]
              exact SemW_weak (ih2 (p + 1) hq' (by omega)) (by simp only [PWeak_nil, PWeak_junk, PWeak_same, Int.cast_ofNat_Int, List.length_append, List.length_cons, List.length_nil, Nat.zero_add])
            have hs' : s < n := by omega
            have hws := wrap_succ (k := s) (by show _ < 1000000000000; omega)
            have s0 : (0 : Int) ≤ s := by omega
            have sn : (s : Int) < n := by omega
            obtain ⟨rowq, b2, f1, f2, f3, f4⟩ := hget p s hq' hs'
            obtain ⟨rowp, b3, f5, f6, f7, f8⟩ := hget p s hp' hs'
            have hk3 : true = true → b2 = true → b3 = true := fun h1 h2 => by rw [← f7]; exact key s hs' h1 (by rw [f3]; exact h2)
            obtain rfl : row = rowq := Option.some.inj (g1.symm.trans f1)
            obtain rfl : row = rowp := Option.some.inj (g1.symm.trans f5)
            obtain rfl : b2 = b3 := Option.some.inj (f2.symm.trans f6)
            simp only [PP, P1, P2, P3, P4, P5, P6, P7, P8, P9, P10, P11, P12, P13, P14, L1, P15, N1, N2, N3, N4, N5, N6, N7, I1, I2, I3, I4, I5, I6, I7, reduceIte, reduceCtorEq, d3, p0, pn, s0, sn, g1, g2, f2, hrl, hrn, g4, hws]
            cases b2 <;> simp only [PP, P1, P2, P3, P4, P5, P6, P7, P8, P9, P10, P11, P12, P13, P14, L1, P15, N1, N2, N3, N4, N5, N6, N7, I1, I2, I3, I4, I5, I6, I7, reduceIte, reduceCtorEq, d3, p0, pn, s0, sn, g1, g2, f2, hrl, hrn, g4, hws] <;> exact SemW_weak (ih3 (s + 1) hs' (by omega)) (by simp only [PWeak_nil, PWeak_junk, PWeak_same, Int.cast_ofNat_Int, List.length_append, List.length_cons, List.length_nil, Nat.zero_add])
          | true =>
            simp only [PP, P1, P2, P3, P4, P5, P6, P7, P8, P9, P10, P11, P12, P13, P14, L1, P15, N1, N2, N3, N4, N5, N6, N7, I1, I2, I3, I4, I5, I6, I7, reduceIte, reduceCtorEq, p0, pn, g1, g2, hrl, hrn, g4, k1, k2, k3, k4]
            refine loop1 (fun (s : Nat) => s ≤ n) (fun s => [.junk, slBr false false false false ot, .ptr 0 0 0, .junk, .junk, slBr false true false true rs, .junk, .junk, .junk, .bool true, p64 0, p64 p, p64 p, p64 s, .junk, .junk, .junk, .junk, .junk, .junk, .junk, .junk, .junk, .junk, .junk, .junk, .junk, .junk, .junk, .junk, .junk, .junk, .junk, .junk, .junk, .junk, .junk, .junk, .junk, .junk, .junk, .junk, .junk, .junk, .junk, .junk, .junk, .junk, .junk, .junk, .junk, .junk, .junk, .junk, .junk, .junk, .junk, .junk, .junk, .junk, .junk, .junk, .junk, .junk, .junk, .junk, .junk, .junk, .junk, .junk, .junk, .junk, .junk, .junk, .junk, .junk, .junk, .junk, .junk, .junk, .junk, .junk, .junk, .junk, .junk, .junk, .junk, .junk, .junk, .junk, .junk, .junk, .junk, .junk, .junk, .junk, .junk, .junk, .junk, .junk, .junk, .junk, .junk, .junk, .junk, .junk, .junk, .junk, .junk, .junk, .junk, .junk, .junk, .junk, .junk, .junk, .junk, .junk, .junk, .junk, .junk, .junk, .junk, .junk, .junk, .junk, .junk, .junk, .junk, .junk, .junk, .junk, .junk, .junk, .junk, .junk, .junk, .junk, .junk, .junk, .junk, .junk, .junk, .junk, .junk, .junk, .junk, .junk, .junk, .junk, .junk, .junk, .junk, .junk, .junk, .junk, .junk]) (fun _ => [.cells 0 0 (nfF N)]) (fun s => n - s) 0 (by omega) (by simp only [PWeak_nil, PWeak_junk, PWeak_same, Int.cast_ofNat_Int, List.length_append, List.length_cons, List.length_nil, Nat.zero_add]) rfl ?_
            intro s hs ih3
            refine SemW_go (by kernel_rfl) ?_
            simp only [PP, P1, P2, P3, P4, P5, P6, P7, P8, P9, P10, P11, P12, P13, P14, L1, P15, N1, N2, N3, N4, N5, N6, N7, I1, I2, I3, I4, I5, I6, I7, reduceIte, reduceCtorEq, hn]
            refine QIf.intro (fun d3 => ?_) (fun d3 => ?_)
            rotate_left
            · simp only [PP, P1, P2, P3, P4, P5, P6, P7, P8, P9, P10, P11, P12, P13, P14, L1, P15, N1, N2, N3, N4, N5, N6, N7, I1, I2, I3, I4, I5, I6, I7, reduceIte, reduceCtorEq, d3, hwq]
              exact SemW_weak (ih2 (p + 1) hq' (by omega)) (by simp only [PWeak_nil, PWeak_junk, PWeak_same, Int.cast_ofNat_Int, List.length_append, List.length_cons, List.length_nil, Nat.zero_add])
            have hs' : s < n := by omega
            have hws := wrap_succ (k := s) (by show _ < 1000000000000; omega)
            have s0 : (0 : Int) ≤ s := by omega
            have sn : (s : Int) < n := by omega
            obtain ⟨rowq, b2, f1, f2, f3, f4⟩ := hget p s hq' hs'
            obtain ⟨rowp, b3, f5, f6, f7, f8⟩ := hget p s hp' hs'
            have hk3 : true = true → b2 = true → b3 = true := fun h1 h2 => by rw [← f7]; exact key s hs' h1 (by rw [f3]; exact h2)
            obtain rfl : row = rowq := Option.some.inj (g1.symm.trans f1)
            obtain rfl : row = rowp := Option.some.inj (g1.symm.trans f5)
            obtain rfl : b2 = b3 := Option.some.inj (f2.symm.trans f6)
            simp only [PP, P1, P2, P3, P4, P5, P6, P7, P8, P9, P10, P11, P12, P13, P14, L1, P15, N1, N2, N3, N4, N5, N6, N7, I1, I2, I3, I4, I5, I6, I7, reduceIte, reduceCtorEq, d3, p0, pn, s0, sn, g1, g2, f2, hrl, hrn, g4, hws]
            cases b2 <;> simp only [PP, P1, P2, P3, P4, P5, P6, P7, P8, P9, P10, P11, P12, P13, P14, L1, P15, N1, N2, N3, N4, N5, N6, N7, I1, I2, I3, I4, I5, I6, I7, reduceIte, reduceCtorEq, d3, p0, pn, s0, sn, g1, g2, f2, hrl, hrn, g4, hws] <;> exact SemW_weak (ih3 (s + 1) hs' (by omega)) (by simp only [PWeak_nil, PWeak_junk, PWeak_same, Int.cast_ofNat_Int, List.length_append, List.length_cons, List.length_nil, Nat.zero_add])
      · simp only [PP, P1, P2, P3, P4, P5, P6, P7, P8, P9, P10, P11, P12, P13, P14, L1, P15, N1, N2, N3, N4, N5, N6, N7, I1, I2, I3, I4, I5, I6, I7, reduceIte, reduceCtorEq]
        refine loop1 (fun (s : Nat) => s ≤ n) (fun s => [.junk, slBr false false false false ot, .ptr 0 0 0, .junk, .junk, slBr false true false true rs, .junk, .junk, .junk, .bool so, p64 2, p64 p, p64 p, p64 s, .junk, .junk, .junk, .junk, .junk, .junk, .junk, .junk, .junk, .junk, .junk, .junk, .junk, .junk, .junk, .junk, .junk, .junk, .junk, .junk, .junk, .junk, .junk, .junk, .junk, .junk, .junk, .junk, .junk, .junk, .junk, .junk, .junk, .junk, .junk, .junk, .junk, .junk, .junk, .junk, .junk, .junk, .junk, .junk, .junk, .junk, .junk, .junk, .junk, .junk, .junk, .junk, .junk, .junk, .junk, .junk, .junk, .junk, .junk, .junk, .junk, .junk, .junk, .junk, .junk, .junk, .junk, .junk, .junk, .junk, .junk, .junk, .junk, .junk, .junk, .junk, .junk, .junk, .junk, .junk, .junk, .junk, .junk, .junk, .junk, .junk, .junk, .junk, .junk, .junk, .junk, .junk, .junk, .junk, .junk, .junk, .junk, .junk, .junk, .junk, .junk, .junk, .junk, .junk, .junk, .junk, .junk, .junk, .junk, .junk, .junk, .junk, .junk, .junk, .junk, .junk, .junk, .junk, .junk, .junk, .junk, .junk, .junk, .junk, .junk, .junk, .junk, .junk, .junk, .junk, .junk, .junk, .junk, .junk, .junk, .junk, .junk, .junk, .junk, .junk, .junk, .junk, .junk]) (fun _ => [.cells 0 0 (nfF N)]) (fun s => n - s) 0 (by omega) (by simp only [PWeak_nil, PWeak_junk, PWeak_same, Int.cast_ofNat_Int, List.length_append, List.length_cons, List.length_nil, Nat.zero_add]) rfl ?_
        intro s hs ih3
        refine SemW_go (by kernel_rfl) ?_
        simp only [PP, P1, P2, P3, P4, P5, P6, P7, P8, P9, P10, P11, P12, P13, P14, L1, P15, N1, N2, N3, N4, N5, N6, N7, I1, I2, I3, I4, I5, I6, I7, reduceIte, reduceCtorEq, hn]
        refine QIf.intro (fun d3 => ?_) (fun d3 => ?_)
        rotate_left
        · simp only [PP, P1, P2, P3, P4, P5, P6, P7, P8, P9, P10, P11, P12, P13, P14, L1, P15, N1, N2, N3, N4, N5, N6, N7, I1, I2, I3, I4, I5, I6, I7, reduceIte, reduceCtorEq, d3, hwq]
          exact SemW_weak (ih2 (p + 1) hq' (by omega)) (by simp only [PWeak_nil, PWeak_junk, PWeak_same, Int.cast_ofNat_Int, List.length_append, List.length_cons, List.length_nil, Nat.zero_add])
        have hs' : s < n := by omega
        have hws := wrap_succ (k := s) (by show _ < 1000000000000; omega)
        have s0 : (0 : Int) ≤ s := by omega
        have sn : (s : Int) < n := by omega
        obtain ⟨rowq, b2, f1, f2, f3, f4⟩ := hget p s hq' hs'
        obtain ⟨rowp, b3, f5, f6, f7, f8⟩ := hget p s hp' hs'
        have hk3 : true = true → b2 = true → b3 = true := fun h1 h2 => by rw [← f7]; exact key s hs' h1 (by rw [f3]; exact h2)
        obtain rfl : row = rowq := Option.some.inj (g1.symm.trans f1)
        obtain rfl : row = rowp := Option.some.inj (g1.symm.trans f5)
        obtain rfl : b2 = b3 := Option.some.inj (f2.symm.trans f6)
        simp only [PP, P1, P2, P3, P4, P5, P6, P7, P8, P9, P10, P11, P12, P13, P14, L1, P15, N1, N2, N3, N4, N5, N6, N7, I1, I2, I3, I4, I5, I6, I7, reduceIte, reduceCtorEq, d3, p0, pn, s0, sn, g1, g2, f2, hrl, hrn, g4, hws]
        cases b2 <;> simp only [PP, P1, P2, P3, P4, P5, P6, P7, P8, P9, P10, P11, P12, P13, P14, L1, P15, N1, N2, N3, N4, N5, N6, N7, I1, I2, I3, I4, I5, I6, I7, reduceIte, reduceCtorEq, d3, p0, pn, s0, sn, g1, g2, f2, hrl, hrn, g4, hws] <;> exact SemW_weak (ih3 (s + 1) hs' (by omega)) (by simp only [PWeak_nil, PWeak_junk, PWeak_same, Int.cast_ofNat_Int, List.length_append, List.length_cons, List.length_nil, Nat.zero_add])
    · have e2 : ¬ (p : Int) = q := by omega
      simp only [PP, P1, P2, P3, P4, P5, P6, P7, P8, P9, P10, P11, P12, P13, P14, L1, P15, N1, N2, N3, N4, N5, N6, N7, I1, I2, I3, I4, I5, I6, I7, reduceIte, reduceCtorEq, e2]
      rcases hg with rfl | rfl
      · cases so with
        | false =>
          simp only [PP, P1, P2, P3, P4, P5, P6, P7, P8, P9, P10, P11, P12, P13, P14, L1, P15, N1, N2, N3, N4, N5, N6, N7, I1, I2, I3, I4, I5, I6, I7, reduceIte, reduceCtorEq]
          refine loop1 (fun (s : Nat) => s ≤ n) (fun s => [.junk, slBr false false false false ot, .ptr 0 0 0, .junk, .junk, slBr false true false true rs, .junk, .junk, .junk, .bool false, p64 0, p64 p, p64 q, p64 s, .junk, .junk, .junk, .junk, .junk, .junk, .junk, .junk, .junk, .junk, .junk, .junk, .junk, .junk, .junk, .junk, .junk, .junk, .junk, .junk, .junk, .junk, .junk, .junk, .junk, .junk, .junk, .junk, .junk, .junk, .junk, .junk, .junk, .junk, .junk, .junk, .junk, .junk, .junk, .junk, .junk, .junk, .junk, .junk, .junk, .junk, .junk, .junk, .junk, .junk, .junk, .junk, .junk, .junk, .junk, .junk, .junk, .junk, .junk, .junk, .junk, .junk, .junk, .junk, .junk, .junk, .junk, .junk, .junk, .junk, .junk, .junk, .junk, .junk, .junk, .junk, .junk, .junk, .junk, .junk, .junk, .junk, .junk, .junk, .junk, .junk, .junk, .junk, .junk, .junk, .junk, .junk, .junk, .junk, .junk, .junk, .junk, .junk, .junk, .junk, .junk, .junk, .junk, .junk, .junk, .junk, .junk, .junk, .junk, .junk, .junk, .junk, .junk, .junk, .junk, .junk, .junk, .junk, .junk, .junk, .junk, .junk, .junk, .junk, .junk, .junk, .junk, .junk, .junk, .junk, .junk, .junk, .junk, .junk, .junk, .junk, .junk, .junk, .junk, .junk, .junk, .junk, .junk]) (fun _ => [.cells 0 0 (nfF N)]) (fun s => n - s) 0 (by omega) (by simp only [PWeak_nil, PWeak_junk, PWeak_same, Int.cast_ofNat_Int, List.length_append, List.length_cons, List.length_nil, Nat.zero_add]) rfl ?_
          intro s hs ih3
          refine SemW_go (by kernel_rfl) ?_
          simp only [PP, P1, P2, P3, P4, P5, P6, P7, P8, P9, P10, P11, P12, P13, P14, L1, P15, N1, N2, N3, N4, N5, N6, N7, I1, I2, I3, I4, I5, I6, I7, reduceIte, reduceCtorEq, hn]
          refine QIf.intro (fun d3 => ?_) (fun d3 => ?_)
          rotate_left
          · simp only [PP, P1, P2, P3, P4, P5, P6, P7, P8, P9, P10, P11, P12, P13, P14, L1, P15, N1, N2, N3, N4, N5, N6, N7, I1, I2, I3, I4, I5, I6, I7, reduceIte, reduceCtorEq, d3, hwq]
            exact SemW_weak (ih2 (q + 1) hq' (by omega)) (by simp only [PWeak_nil, PWeak_junk, PWeak_same, Int.cast_ofNat_Int, List.length_append, List.length_cons, List.length_nil, Nat.zero_add])
          have hs' : s < n := by omega
          have hws := wrap_succ (k := s) (by show _ < 1000000000000; omega)
          have s0 : (0 : Int) ≤ s := by omega
          have sn : (s : Int) < n := by omega
          obtain ⟨rowq, b2, f1, f2, f3, f4⟩ := hget q s hq' hs'
          obtain ⟨rowp, b3, f5, f6, f7, f8⟩ := hget p s hp' hs'
          have hk3 : b = true → b2 = true → b3 = true := fun h1 h2 => by rw [← f7]; exact key s hs' h1 (by rw [f3]; exact h2)
          obtain rfl : row = rowp := Option.some.inj (g1.symm.trans f5)
          simp only [PP, P1, P2, P3, P4, P5, P6, P7, P8, P9, P10, P11, P12, P13, P14, L1, P15, N1, N2, N3, N4, N5, N6, N7, I1, I2, I3, I4, I5, I6, I7, reduceIte, reduceCtorEq, d3, p0, pn, q0, qn, s0, sn, g1, g2, f1, f2, f6, hrl, hrn, g4, f4, hws]
          cases b <;> cases b2 <;> cases b3 <;> first | (exact absurd (hk3 rfl rfl) (by decide)) | ((simp only [PP, P1, P2, P3, P4, P5, P6, P7, P8, P9, P10, P11, P12, P13, P14, L1, P15, N1, N2, N3, N4, N5, N6, N7, I1, I2, I3, I4, I5, I6, I7, reduceIte, reduceCtorEq, d3, p0, pn, q0, qn, s0, sn, g1, g2, f1, f2, f6, hrl, hrn, g4, f4, hws]) <;> exact SemW_weak (ih3 (s + 1) hs' (by omega)) (by simp only [PWeak_nil, PWeak_junk, PWeak_same, Int.cast_ofNat_Int, List.length_append, List.length_cons, List.length_nil, Nat.zero_add])) | exact SemW_weak (ih3 (s + 1) hs' (by omega)) (by simp only [PWeak_nil, PWeak_junk, PWeak_same, Int.cast_ofNat_Int, List.length_append, List.length_cons, List.length_nil, Nat.zero_add])
        | true =>
          obtain ⟨row2, c, k1, k2, ⟨k3, k4⟩, k5⟩ := hot rfl rfl
          cases c with
          | false =>
            simp only [PP, P1, P2, P3, P4, P5, P6, P7, P8, P9, P10, P11, P12, P13, P14, L1, P15, N1, N2, N3, N4, N5, N6, N7, I1, I2, I3, I4, I5, I6, I7, reduceIte, reduceCtorEq, p0, q0, pn, qn, g1, g2, hrl, hrn, g4, k1, k2, k3, k4]
            refine loop1 (fun (s : Nat) => s ≤ n) (fun s => [.junk, slBr false false false false ot, .ptr 0 0 0, .junk, .junk, slBr false true false true rs, .junk, .junk, .junk, .bool true, p64 0, p64 p, p64 q, p64 s, .junk, .junk, .junk, .junk, .junk, .junk, .junk, .junk, .junk, .junk, .junk, .junk, .junk, .junk, .junk, .junk, .junk, .junk, .junk, .junk, .junk, .junk, .junk, .junk, .junk, .junk, .junk, .junk, .junk, .junk, .junk, .junk, .junk, .junk, .junk, .junk, .junk, .junk, .junk, .junk, .junk, .junk, .junk, .junk, .junk, .junk, .junk, .junk, .junk, .junk, .junk, .junk, .junk, .junk, .junk, .junk, .junk, .junk, .junk, .junk, .junk, .junk, .junk, .junk, .junk, .junk, .junk, .junk, .junk, .junk, .junk, .junk, .junk, .junk, .junk, .junk, .junk, .junk, .junk, .junk, .junk, .junk, .junk, .junk, .junk, .junk, .junk, .junk, .junk, .junk, .junk, .junk, .junk, .junk, .junk, .junk, .junk, .junk, .junk, .junk, .junk, .junk, .junk, .junk, .junk, .junk, .junk, .junk, .junk, .junk, .junk, .junk, .junk, .junk, .junk, .junk, .junk, .junk, .junk, .junk, .junk, .junk, .junk, .junk, .junk, .junk, .junk, .junk, .junk, .junk, .junk, .junk, .junk, .junk, .junk, .junk, .junk, .junk, .junk, .junk, .junk, .junk, .junk]) (fun _ => [.cells 0 0 (nfF N)]) (fun s => n - s) 0 (by omega) (by simp only [PWeak_nil, PWeak_junk, PWeak_same, Int.cast_ofNat_Int, List.length_append, List.length_cons, List.length_nil, Nat.zero_add]) rfl ?_
            intro s hs ih3
            refine SemW_go (by kernel_rfl) ?_
            simp only [PP, P1, P2, P3, P4, P5, P6, P7, P8, P9, P10, P11, P12, P13, P14, L1, P15, N1, N2, N3, N4, N5, N6, N7, I1, I2, I3, I4, I5, I6, I7, reduceIte, reduceCtorEq, hn]
            refine QIf.intro (fun d3 => ?_) (fun d3 => ?_)
            rotate_left
            · simp only [PP, P1, P2, P3, P4, P5, P6, P7, P8, P9, P10, P11, P12, P13, P14, L1, P15, N1, N2, N3, N4, N5, N6, N7, I1, I2, I3, I4, I5, I6, I7, reduceIte, reduceCtorEq, d3, hwq]
              exact SemW_weak (ih2 (q + 1) hq' (by omega)) (by simp only [PWeak_nil, PWeak_junk, PWeak_same, Int.cast_ofNat_Int, List.length_append, List.length_cons, List.length_nil, Nat.zero_add])
            have hs' : s < n := by omega
            have hws := wrap_succ (k := s) (by show _ < 1000000000000; omega)
            have s0 : (0 : Int) ≤ s := by omega
            have sn : (s : Int) < n := by omega
            obtain ⟨rowq, b2, f1, f2, f3, f4⟩ := hget q s hq' hs'
            obtain ⟨rowp, b3, f5, f6, f7, f8⟩ := hget p s hp' hs'
            have hk3 : b = true → b2 = true → b3 = true := fun h1 h2 => by rw [← f7]; exact key s hs' h1 (by rw [f3]; exact h2)
            obtain rfl : row = rowp := Option.some.inj (g1.symm.trans f5)
            simp only [PP, P1, P2, P3, P4, P5, P6, P7, P8, P9, P10, P11, P12, P13, P14, L1, P15, N1, N2, N3, N4, N5, N6, N7, I1, I2, I3, I4, I5, I6, I7, reduceIte, reduceCtorEq, d3, p0, pn, q0, qn, s0, sn, g1, g2, f1, f2, f6, hrl, hrn, g4, f4, hws]
            cases b <;> cases b2 <;> cases b3 <;> first | (exact absurd (hk3 rfl rfl) (by decide)) | ((simp only [PP, P1, P2, P3, P4, P5, P6, P7, P8, P9, P10, P11, P12, P13, P14, L1, P15, N1, N2, N3, N4, N5, N6, N7, I1, I2, I3, I4, I5, I6, I7, reduceIte, reduceCtorEq, d3, p0, pn, q0, qn, s0, sn, g1, g2, f1, f2, f6, hrl, hrn, g4, f4, hws]) <;> exact SemW_weak (ih3 (s + 1) hs' (by omega)) (by simp only [PWeak_nil, PWeak_junk, PWeak_same, Int.cast_ofNat_Int, List.length_append, List.length_cons, List.length_nil, Nat.zero_add])) | exact SemW_weak (ih3 (s + 1) hs' (by omega)) (by simp only [PWeak_nil, PWeak_junk, PWeak_same, Int.cast_ofNat_Int, List.length_append, List.length_cons, List.length_nil, Nat.zero_add])
          | true =>
            have hbt := k5 rfl
            subst hbt
            simp only [PP, P1, P2, P3, P4, P5, P6, P7, P8, P9, P10, P11, P12, P13, P14, L1, P15, N1, N2, N3, N4, N5, N6, N7, I1, I2, I3, I4, I5, I6, I7, reduceIte, reduceCtorEq, p0, q0, pn, qn, g1, g2, hrl, hrn, g4, k1, k2, k3, k4]
            refine loop1 (fun (s : Nat) => s ≤ n) (fun s => [.junk, slBr false false false false ot, .ptr 0 0 0, .junk, .junk, slBr false true false true rs, .junk, .junk, .junk, .bool true, p64 0, p64 p, p64 q, p64 s, .junk, .junk, .junk, .junk, .junk, .junk, .junk, .junk, .junk, .junk, .junk, .junk, .junk, .junk, .junk, .junk, .junk, .junk, .junk, .junk, .junk, .junk, .junk, .junk, .junk, .junk, .junk, .junk, .junk, .junk, .junk, .junk, .junk, .junk, .junk, .junk, .junk, .junk, .junk, .junk, .junk, .junk, .junk, .junk, .junk, .junk, .junk, .junk, .junk, .junk, .junk, .junk, .junk, .junk, .junk, .junk, .junk, .junk, .junk, .junk, .junk, .junk, .junk, .junk, .junk, .junk, .junk, .junk, .junk, .junk, .junk, .junk, .junk, .junk, .junk, .junk, .junk, .junk, .junk, .junk, .junk, .junk, .junk, .junk, .junk, .junk, .junk, .junk, .junk, .junk, .junk, .junk, .junk, .junk, .junk, .junk, .junk, .junk, .junk, .junk, .junk, .junk, .junk, .junk, .junk, .junk, .junk, .junk, .junk, .junk, .junk, .junk, .junk, .junk, .junk, .junk, .junk, .junk, .junk, .junk, .junk, .junk, .junk, .junk, .junk, .junk, .junk, .junk, .junk, .junk, .junk, .junk, .junk, .junk, .junk, .junk, .junk, .junk, .junk, .junk, .junk, .junk, .junk]) (fun _ => [.cells 0 0 (nfF N)]) (fun s => n - s) 0 (by omega) (by simp only [PWeak_nil, PWeak_junk, PWeak_same, Int.cast_ofNat_Int, List.length_append, List.length_cons, List.length_nil, Nat.zero_add]) rfl ?_
            intro s hs ih3
            refine SemW_go (by kernel_rfl) ?_
            simp only [PP, P1, P2, P3, P4, P5, P6, P7, P8, P9, P10, P11, P12, P13, P14, L1, P15, N1, N2, N3, N4, N5, N6, N7, I1, I2, I3, I4, I5, I6, I7, reduceIte, reduceCtorEq, hn]
            refine QIf.intro (fun d3 => ?_) (fun d3 => ?_)
            rotate_left
            · simp only [PP, P1, P2, P3, P4, P5, P6, P7, P8, P9, P10, P11, P12, P13, P14, L1, P15, N1, N2, N3, N4, N5, N6, N7, I1, I2, I3, I4, I5, I6, I7, reduceIte, reduceCtorEq, d3, hwq]
              exact SemW_weak (ih2 (q + 1) hq' (by omega)) (by simp only [PWeak_nil, PWeak_junk, PWeak_same, Int.cast_ofNat_Int, List.length_append, List.length_cons, List.length_nil, Nat.zero_add])
            have hs' : s < n := by omega
            have hws := wrap_succ (k := s) (by show _ < 1000000000000; omega)
            have s0 : (0 : Int) ≤ s := by omega
            have sn : (s : Int) < n := by omega
            obtain ⟨rowq, b2, f1, f2, f3, f4⟩ := hget q s hq' hs'
            obtain ⟨rowp, b3, f5, f6, f7, f8⟩ := hget p s hp' hs'
            have hk3 : true = true → b2 = true → b3 = true := fun h1 h2 => by rw [← f7]; exact key s hs' h1 (by rw [f3]; exact h2)
            obtain rfl : row = rowp := Option.some.inj (g1.symm.trans f5)
            simp only [PP, P1, P2, P3, P4, P5, P6, P7, P8, P9, P10, P11, P12, P13, P14, L1, P15, N1, N2, N3, N4, N5, N6, N7, I1, I2, I3, I4, I5, I6, I7, reduceIte, reduceCtorEq, d3, p0, pn, q0, qn, s0, sn, g1, g2, f1, f2, f6, hrl, hrn, g4, f4, hws]
            cases b2 <;> cases b3 <;> first | (exact absurd (hk3 rfl rfl) (by decide)) | ((simp only [PP, P1, P2, P3, P4, P5, P6, P7, P8, P9, P10, P11, P12, P13, P14, L1, P15, N1, N2, N3, N4, N5, N6, N7, I1, I2, I3, I4, I5, I6, I7, reduceIte, reduceCtorEq, d3, p0, pn, q0, qn, s0, sn, g1, g2, f1, f2, f6, hrl, hrn, g4, f4, hws]) <;> exact SemW_weak (ih3 (s + 1) hs' (by omega)) (by simp only [PWeak_nil, PWeak_junk, PWeak_same, Int.cast_ofNat_Int, List.length_append, List.length_cons, List.length_nil, Nat.zero_add])) | exact SemW_weak (ih3 (s + 1) hs' (by omega)) (by simp only [PWeak_nil, PWeak_junk, PWeak_same, Int.cast_ofNat_Int, List.length_append, List.length_cons, List.length_nil, Nat.zero_add])
      · simp only [PP, P1, P2, P3, P4, P5, P6, P7, P8, P9, P10, P11, P12, P13, P14, L1, P15, N1, N2, N3, N4, N5, N6, N7, I1, I2, I3, I4, I5, I6, I7, reduceIte, reduceCtorEq]
        refine loop1 (fun (s : Nat) => s ≤ n) (fun s => [.junk, slBr false false false false ot, .ptr 0 0 0, .junk, .junk, slBr false true false true rs, .junk, .junk, .junk, .bool so, p64 2, p64 p, p64 q, p64 s, .junk, .junk, .junk, .junk, .junk, .junk, .junk, .junk, .junk, .junk, .junk, .junk, .junk, .junk, .junk, .junk, .junk, .junk, .junk, .junk, .junk, .junk, .junk, .junk, .junk, .junk, .junk, .junk, .junk, .junk, .junk, .junk, .junk, .junk, .junk, .junk, .junk, .junk, .junk, .junk, .junk, .junk, .junk, .junk, .junk, .junk, .junk, .junk, .junk, .junk, .junk, .junk, .junk, .junk, .junk, .junk, .junk, .junk, .junk, .junk, .junk, .junk, .junk, .junk, .junk, .junk, .junk, .junk, .junk, .junk, .junk, .junk, .junk, .junk, .junk, .junk, .junk, .junk, .junk, .junk, .junk, .junk, .junk, .junk, .junk, .junk, .junk, .junk, .junk, .junk, .junk, .junk, .junk, .junk, .junk, .junk, .junk, .junk, .junk, .junk, .junk, .junk, .junk, .junk, .junk, .junk, .junk, .junk, .junk, .junk, .junk, .junk, .junk, .junk, .junk, .junk, .junk, .junk, .junk, .junk, .junk, .junk, .junk, .junk, .junk, .junk, .junk, .junk, .junk, .junk, .junk, .junk, .junk, .junk, .junk, .junk, .junk, .junk, .junk, .junk, .junk, .junk, .junk]) (fun _ => [.cells 0 0 (nfF N)]) (fun s => n - s) 0 (by omega) (by simp only [PWeak_nil, PWeak_junk, PWeak_same, Int.cast_ofNat_Int, List.length_append, List.length_cons, List.length_nil, Nat.zero_add]) rfl ?_
        intro s hs ih3
        refine SemW_go (by kernel_rfl) ?_
        simp only [PP, P1, P2, P3, P4, P5, P6, P7, P8, P9, P10, P11, P12, P13, P14, L1, P15, N1, N2, N3, N4, N5, N6, N7, I1, I2, I3, I4, I5, I6, I7, reduceIte, reduceCtorEq, hn]
        refine QIf.intro (fun d3 => ?_) (fun d3 => ?_)
        rotate_left
        · simp only [PP, P1, P2, P3, P4, P5, P6, P7, P8, P9, P10, P11, P12, P13, P14, L1, P15, N1, N2, N3, N4, N5, N6, N7, I1, I2, I3, I4, I5, I6, I7, reduceIte, reduceCtorEq, d3, hwq]
          exact SemW_weak (ih2 (q + 1) hq' (by omega)) (by simp only [PWeak_nil, PWeak_junk, PWeak_same, Int.cast_ofNat_Int, List.length_append, List.length_cons, List.length_nil, Nat.zero_add])
        have hs' : s < n := by omega
        have hws := wrap_succ (k := s) (by show _ < 1000000000000; omega)
        have s0 : (0 : Int) ≤ s := by omega
        have sn : (s : Int) < n := by omega
        obtain ⟨rowq, b2, f1, f2, f3, f4⟩ := hget q s hq' hs'
        obtain ⟨rowp, b3, f5, f6, f7, f8⟩ := hget p s hp' hs'
        have hk3 : b = true → b2 = true → b3 = true := fun h1 h2 => by rw [← f7]; exact key s hs' h1 (by rw [f3]; exact h2)
        obtain rfl : row = rowp := Option.some.inj (g1.symm.trans f5)
        simp only [PP, P1, P2, P3, P4, P5, P6, P7, P8, P9, P10, P11, P12, P13, P14, L1, P15, N1, N2, N3, N4, N5, N6, N7, I1, I2, I3, I4, I5, I6, I7, reduceIte, reduceCtorEq, d3, p0, pn, q0, qn, s0, sn, g1, g2, f1, f2, f6, hrl, hrn, g4, f4, hws]
        cases b <;> cases b2 <;> cases b3 <;> first | (exact absurd (hk3 rfl rfl) (by decide)) | ((simp only [PP, P1, P2, P3, P4, P5, P6, P7, P8, P9, P10, P11, P12, P13, P14, L1, P15, N1, N2, N3, N4, N5, N6, N7, I1, I2, I3, I4, I5, I6, I7, reduceIte, reduceCtorEq, d3, p0, pn, q0, qn, s0, sn, g1, g2, f1, f2, f6, hrl, hrn, g4, f4, hws]) <;> exact SemW_weak (ih3 (s + 1) hs' (by omega)) (by simp only [PWeak_nil, PWeak_junk, PWeak_same, Int.cast_ofNat_Int, List.length_append, List.length_cons, List.length_nil, Nat.zero_add])) | exact SemW_weak (ih3 (s + 1) hs' (by omega)) (by simp only [PWeak_nil, PWeak_junk, PWeak_same, Int.cast_ofNat_Int, List.length_append, List.length_cons, List.length_nil, Nat.zero_add])
end
end Go.Am.Ar
set_option linter.unusedVariables false
namespace Go.Am.Ar
theorem largest_all {tab : FuncId → Option AF} (T : HasA tab) (args : List AV) (h : H) (hs : ShVs [nfaTy, .slice (.slice .bool)] args h) :
    ∃ n h', (run tab n).call 5 args h = some (.bool true, h') := by
  obtain ⟨a, b, rfl, ha, hb⟩ := shVs2 hs
  obtain ⟨N, r1, A⟩ := arg_nfa ha
  obtain ⟨ot, r2⟩ := arg_brows hb
  exact run_of_C (law_of_sem (.cons r1 (.cons r2 (.nil _))) (largest_p T A))
end Go.Am.Ar

