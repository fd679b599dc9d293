/- Contracts: automata compared and copied, and what goes with it. -/
import Derived.Test.YtbcdfmecpjbeaaaDoorSubsetStepsG0
import Derived.Test.YtbcdfmecpjbeaaaDoorPmC
set_option linter.unusedVariables false
set_option linter.unusedSimpArgs false
set_option maxRecDepth 10000
namespace Go.Am.Ar
open Go.Am renaming pchk → P1, pold → P2, PKNo → P3, ppack → P4, PObj.under → P5, pput → P6, ptset → P7, ptget → P8, pev → P9, ofAV → P10, ofAV1 → P11, ppad → P12, pfill → P13, prepl → P14, AO.effect → P15
open List renaming replicate → L1
open Nat renaming reduceAdd → N1, reduceSub → N2, reduceMul → N3, reduceLT → N4, reduceLeDiff → N5, reduceEqDiff → N6, reduceBEq → N7
open Int renaming reduceToNat → I1, reduceLT → I2, reduceLE → I3, reduceEq → I4, reduceAdd → I5, reduceSub → I6, reduceNeg → I7
theorem NF.ext' {N N' : NF} (h1 : N.vs = N'.vs) (h2 : N.n = N'.n) (h3 : N.st = N'.st) (h4 : N.fi = N'.fi) (h5 : N.es = N'.es) : N = N' := by
  cases N; cases N'; simp_all
section
variable {tab : FuncId → Option AF} (T : HasA tab)
include T
end
end Go.Am.Ar
set_option linter.unusedVariables false
set_option linter.unusedSimpArgs false
set_option maxRecDepth 10000
namespace Go.Am.Ar
open Go.Am renaming pchk → P1, pold → P2, PKNo → P3, ppack → P4, PObj.under → P5, pput → P6, ptset → P7, ptget → P8, pev → P9, ofAV → P10, ofAV1 → P11, ppad → P12, pfill → P13, prepl → P14, AO.effect → P15
open List renaming replicate → L1
open Nat renaming reduceAdd → N1, reduceSub → N2, reduceMul → N3, reduceLT → N4, reduceLeDiff → N5, reduceEqDiff → N6, reduceBEq → N7
open Int renaming reduceToNat → I1, reduceLT → I2, reduceLE → I3, reduceEq → I4, reduceAdd → I5, reduceSub → I6, reduceNeg → I7
structure DF where
  vs : Int
  st : Int
  nx : List (List Int)
  fi : List Bool
abbrev dfC (f1 o1 f2 o2 f3 o3 : Bool) (D : DF) : List PV := [p64 D.vs, p64 D.st, slR f1 o1 f2 o2 .i64 D.nx, slB f3 o3 D.fi]
structure BnD (D : DF) : Prop where
  n : D.nx.length < big
  r : ∀ r ∈ D.nx, r.length < big
  f : D.fi.length < big
def badR (n : Int) (r : List Int) : Bool := r.any fun t => decide (t < 0 ∨ n ≤ t)
def rowsD (v n : Int) : List (List Int) → Int
  | [] => 0
  | r :: l => if (r.length : Int) = 2 ^ v.toNat then (if badR n r = true then 8 else rowsD v n l) else 2
def checkD (D : DF) : Int :=
  if D.vs < 0 ∨ 6 < D.vs then 7 else if (D.nx.length : Int) = 0 then 3 else if 4096 < (D.nx.length : Int) then 4 else if ¬ (D.fi.length : Int) = D.nx.length then 2 else if D.st < 0 ∨ (D.nx.length : Int) ≤ D.st then 8 else rowsD D.vs D.nx.length D.nx
def minFrom : Int → List Int → Int
  | m, [] => m
  | m, x :: l => minFrom (min m x) l
theorem minFrom_neg : ∀ (l : List Int) (m : Int), minFrom m l < 0 ↔ m < 0 ∨ ∃ t ∈ l, t < 0
  | [], m => by simp [minFrom]
  | x :: l, m => by
    unfold minFrom
    rw [minFrom_neg l]
    simp only [List.mem_cons]
    constructor
    · rintro (h | ⟨t, h1, h2⟩)
      · by_cases h3 : m < 0
        · exact .inl h3
        · exact .inr ⟨x, .inl rfl, by omega⟩
      · exact .inr ⟨t, .inr h1, h2⟩
    · rintro (h | ⟨t, rfl | h1, h2⟩)
      · exact .inl (by omega)
      · exact .inl (by omega)
      · exact .inr ⟨t, h1, h2⟩
theorem maxFrom_ge {n : Int} : ∀ (l : List Int) (m : Int), n ≤ maxFrom m l ↔ n ≤ m ∨ ∃ t ∈ l, n ≤ t
  | [], m => by simp [maxFrom]
  | x :: l, m => by
    unfold maxFrom
    rw [maxFrom_ge l]
    simp only [List.mem_cons]
    constructor
    · rintro (h | ⟨t, h1, h2⟩)
      · by_cases h3 : n ≤ m
        · exact .inl h3
        · exact .inr ⟨x, .inl rfl, by omega⟩
      · exact .inr ⟨t, .inr h1, h2⟩
    · rintro (h | ⟨t, rfl | h1, h2⟩)
      · exact .inl (by omega)
      · exact .inl (by omega)
      · exact .inr ⟨t, h1, h2⟩
theorem badR_iff {n x : Int} {l : List Int} : badR n (x :: l) = true ↔ minFrom x l < 0 ∨ n ≤ maxFrom x l := by
  rw [minFrom_neg, maxFrom_ge]
  unfold badR
  simp only [List.any_eq_true, List.mem_cons, decide_eq_true_eq]
  constructor
  · rintro ⟨t, rfl | h1, h | h⟩
    · exact .inl (.inl h)
    · exact .inr (.inl h)
    · exact .inl (.inr ⟨t, h1, h⟩)
    · exact .inr (.inr ⟨t, h1, h⟩)
  · rintro ((h | ⟨t, h1, h⟩) | (h | ⟨t, h1, h⟩))
    · exact ⟨x, .inl rfl, .inl h⟩
    · exact ⟨t, .inr h1, .inl h⟩
    · exact ⟨x, .inl rfl, .inr h⟩
    · exact ⟨t, .inr h1, .inr h⟩
theorem shl_one {v : Int} (h0 : ¬ v < 0) (h6 : ¬ 6 < v) : pbin .shl (.int .i64 1) (.int .i64 v) = some (.int .i64 (2 ^ v.toNat)) := by
  have : v = 0 ∨ v = 1 ∨ v = 2 ∨ v = 3 ∨ v = 4 ∨ v = 5 ∨ v = 6 := by omega
  rcases this with rfl | rfl | rfl | rfl | rfl | rfl | rfl <;> rfl
theorem pow_pos' (v : Int) : (0 : Int) < 2 ^ v.toNat := Int.pow_pos (by decide)
section
variable {tab : FuncId → Option AF} (T : HasA tab)
include T
theorem min_p {M : Mem} {K : PV → Mem → Prop} {f o : Bool} {x : Int} {xs : List Int} (hm : (x :: xs).length < big) (hq : K (p64 (minFrom x xs)) M) :
    SemC tab 53 [slI f o .i64 (x :: xs)] M K := by
  refine SemC_pure T.h53 (by simp only [PP, P1, P2, P3, P4, P5, P6, P7, P8, P9, P10, P11, P12, P13, P14, L1, P15, N1, N2, N3, N4, N5, N6, N7, I1, I2, I3, I4, I5, I6, I7, reduceIte, reduceCtorEq]) ?_
  have c1 : ¬ ((xs.length + 1 : Nat) : Int) < 1 := by omega
  have c2 : (0 : Int) < ((xs.length + 1 : Nat) : Int) := by omega
  simp only [af53, PP, P1, P2, P3, P4, P5, P6, P7, P8, P9, P10, P11, P12, P13, P14, L1, P15, N1, N2, N3, N4, N5, N6, N7, I1, I2, I3, I4, I5, I6, I7, reduceIte, reduceCtorEq, c1, c2]
  have hm' : xs.length + 1 < 1000000000000 := hm
  refine loop2 (fun (k : Nat) (m : Int) => k ≤ xs.length ∧ K (p64 (minFrom m (xs.drop k))) M) (fun k m => [slI f o .i64 (x :: xs), .junk, .junk, p64 m, p64 ((k + 1 : Nat) : Int), .junk, .junk, .junk, .junk, .junk, .junk, .junk, .junk, .junk, .junk, .junk, .junk, .junk, .junk, .junk, .junk, .junk, .junk, .junk, .junk]) (fun _ _ => []) (fun k _ => xs.length - k) 0 x ⟨by omega, hq⟩ (by simp only [PW]) rfl ?_
  intro k m ⟨hle, hq⟩ ih
  refine SemW_go (by kernel_rfl) ?_
  simp only [PP, P1, P2, P3, P4, P5, P6, P7, P8, P9, P10, P11, P12, P13, P14, L1, P15, N1, N2, N3, N4, N5, N6, N7, I1, I2, I3, I4, I5, I6, I7, reduceIte, reduceCtorEq]
  refine QIf.intro (fun c => ?_) (fun c => ?_)
  · have hk' : k < xs.length := by omega
    have g1 : xs[k]? = some xs[k] := List.getElem?_eq_getElem hk'
    have h0 : (0 : Int) ≤ ((k + 1 : Nat) : Int) := by omega
    have hw := wrap_succ (k := k + 1) (by show _ < 1000000000000; omega)
    rw [drop_get' hk'] at hq
    simp only [PP, P1, P2, P3, P4, P5, P6, P7, P8, P9, P10, P11, P12, P13, P14, L1, P15, N1, N2, N3, N4, N5, N6, N7, I1, I2, I3, I4, I5, I6, I7, reduceIte, reduceCtorEq, c, g1, h0, hw, minFrom, pmin_two] at hq ⊢
    exact SemW_weak (ih (k + 1) _ ⟨by omega, hq⟩ (by omega)) (by simp only [PW])
  · rw [List.drop_eq_nil_of_le (by omega)] at hq
    simp only [PP, P1, P2, P3, P4, P5, P6, P7, P8, P9, P10, P11, P12, P13, P14, L1, P15, N1, N2, N3, N4, N5, N6, N7, I1, I2, I3, I4, I5, I6, I7, reduceIte, reduceCtorEq, c, minFrom] at hq ⊢
    exact hq
theorem dcheck_p {M : Mem} {K : PV → Mem → Prop} {f1 o1 f2 o2 f3 o3 : Bool} {D : DF} (B : BnD D) (hk : K (p64 (checkD D)) M) :
    SemC tab 21 [.agg (dfC f1 o1 f2 o2 f3 o3 D)] M K := by
  refine SemC_pure T.h21 (by simp only [PP, P1, P2, P3, P4, P5, P6, P7, P8, P9, P10, P11, P12, P13, P14, L1, P15, N1, N2, N3, N4, N5, N6, N7, I1, I2, I3, I4, I5, I6, I7, reduceIte, reduceCtorEq]) ?_
  simp only [af21, PP, P1, P2, P3, P4, P5, P6, P7, P8, P9, P10, P11, P12, P13, P14, L1, P15, N1, N2, N3, N4, N5, N6, N7, I1, I2, I3, I4, I5, I6, I7, reduceIte, reduceCtorEq]
  unfold checkD at hk
  refine QIf.intro (fun c1 => ?_) (fun c1 => ?_)
  · rw [if_pos (.inl c1)] at hk
    simp only [PP, P1, P2, P3, P4, P5, P6, P7, P8, P9, P10, P11, P12, P13, P14, L1, P15, N1, N2, N3, N4, N5, N6, N7, I1, I2, I3, I4, I5, I6, I7, reduceIte, reduceCtorEq, c1]
    exact hk
  simp only [PP, P1, P2, P3, P4, P5, P6, P7, P8, P9, P10, P11, P12, P13, P14, L1, P15, N1, N2, N3, N4, N5, N6, N7, I1, I2, I3, I4, I5, I6, I7, reduceIte, reduceCtorEq, c1]
  refine QIf.intro (fun c2 => ?_) (fun c2 => ?_)
  · rw [if_pos (.inr c2)] at hk
    simp only [PP, P1, P2, P3, P4, P5, P6, P7, P8, P9, P10, P11, P12, P13, P14, L1, P15, N1, N2, N3, N4, N5, N6, N7, I1, I2, I3, I4, I5, I6, I7, reduceIte, reduceCtorEq, c2]
    exact hk
  rw [if_neg (by omega)] at hk
  simp only [PP, P1, P2, P3, P4, P5, P6, P7, P8, P9, P10, P11, P12, P13, P14, L1, P15, N1, N2, N3, N4, N5, N6, N7, I1, I2, I3, I4, I5, I6, I7, reduceIte, reduceCtorEq, c2]
  refine QIf.intro (fun c3 => ?_) (fun c3 => ?_)
  · rw [if_pos c3] at hk
    simp only [PP, P1, P2, P3, P4, P5, P6, P7, P8, P9, P10, P11, P12, P13, P14, L1, P15, N1, N2, N3, N4, N5, N6, N7, I1, I2, I3, I4, I5, I6, I7, reduceIte, reduceCtorEq, c3]
    exact hk
  rw [if_neg c3] at hk
  simp only [PP, P1, P2, P3, P4, P5, P6, P7, P8, P9, P10, P11, P12, P13, P14, L1, P15, N1, N2, N3, N4, N5, N6, N7, I1, I2, I3, I4, I5, I6, I7, reduceIte, reduceCtorEq, c3]
  refine QIf.intro (fun c4 => ?_) (fun c4 => ?_)
  · rw [if_pos c4] at hk
    simp only [PP, P1, P2, P3, P4, P5, P6, P7, P8, P9, P10, P11, P12, P13, P14, L1, P15, N1, N2, N3, N4, N5, N6, N7, I1, I2, I3, I4, I5, I6, I7, reduceIte, reduceCtorEq, c4]
    exact hk
  rw [if_neg c4] at hk
  simp only [PP, P1, P2, P3, P4, P5, P6, P7, P8, P9, P10, P11, P12, P13, P14, L1, P15, N1, N2, N3, N4, N5, N6, N7, I1, I2, I3, I4, I5, I6, I7, reduceIte, reduceCtorEq, c4]
  refine QIf.intro (fun c5 => ?_) (fun c5 => ?_)
  rotate_left
  · rw [if_pos c5] at hk
    simp only [PP, P1, P2, P3, P4, P5, P6, P7, P8, P9, P10, P11, P12, P13, P14, L1, P15, N1, N2, N3, N4, N5, N6, N7, I1, I2, I3, I4, I5, I6, I7, reduceIte, reduceCtorEq, c5]
    exact hk
  rw [if_neg (Classical.not_not.2 c5)] at hk
  simp only [PP, P1, P2, P3, P4, P5, P6, P7, P8, P9, P10, P11, P12, P13, P14, L1, P15, N1, N2, N3, N4, N5, N6, N7, I1, I2, I3, I4, I5, I6, I7, reduceIte, reduceCtorEq, c5]
  refine QIf.intro (fun c6 => ?_) (fun c6 => ?_)
  · rw [if_pos (.inl c6)] at hk
    simp only [PP, P1, P2, P3, P4, P5, P6, P7, P8, P9, P10, P11, P12, P13, P14, L1, P15, N1, N2, N3, N4, N5, N6, N7, I1, I2, I3, I4, I5, I6, I7, reduceIte, reduceCtorEq, c6]
    exact hk
  simp only [PP, P1, P2, P3, P4, P5, P6, P7, P8, P9, P10, P11, P12, P13, P14, L1, P15, N1, N2, N3, N4, N5, N6, N7, I1, I2, I3, I4, I5, I6, I7, reduceIte, reduceCtorEq, c6]
  refine QIf.intro (fun c7 => ?_) (fun c7 => ?_)
  · rw [if_pos (.inr c7)] at hk
    simp only [PP, P1, P2, P3, P4, P5, P6, P7, P8, P9, P10, P11, P12, P13, P14, L1, P15, N1, N2, N3, N4, N5, N6, N7, I1, I2, I3, I4, I5, I6, I7, reduceIte, reduceCtorEq, c7]
    exact hk
  rw [if_neg (by omega)] at hk
  simp only [PP, P1, P2, P3, P4, P5, P6, P7, P8, P9, P10, P11, P12, P13, P14, L1, P15, N1, N2, N3, N4, N5, N6, N7, I1, I2, I3, I4, I5, I6, I7, reduceIte, reduceCtorEq, c7]
  have hl := shl_one c1 c2
  refine loop1 (fun (k : Nat) => k ≤ D.nx.length ∧ K (p64 (rowsD D.vs D.nx.length (D.nx.drop k))) M) (fun k => [.junk, .ptr 0 0 0, .junk, p64 D.nx.length, .junk, .junk, .junk, .junk, .junk, .junk, .junk, .junk, .junk, .junk, .junk, .junk, .junk, .junk, .junk, .junk, .junk, .junk, .junk, .junk, .junk, .junk, .junk, .junk, .junk, .junk, .junk, .junk, .junk, .junk, .junk, .junk, .junk, .junk, .junk, .junk, .junk, slR f1 o1 f2 o2 .i64 D.nx, p64 D.nx.length, p64 k, .junk, .junk, .junk, .junk, .junk, .junk, .junk, .junk, .junk, .junk, .junk, .junk, .junk, .junk, .junk, .junk, .junk, .junk, .junk]) (fun _ => [.cells 0 0 (dfC f1 o1 f2 o2 f3 o3 D)]) (fun k => D.nx.length - k) 0 ⟨by omega, hk⟩ (by simp only [PW]) rfl ?_
  intro k ⟨hle, hq⟩ ih
  refine SemW_go (by kernel_rfl) ?_
  simp only [PP, P1, P2, P3, P4, P5, P6, P7, P8, P9, P10, P11, P12, P13, P14, L1, P15, N1, N2, N3, N4, N5, N6, N7, I1, I2, I3, I4, I5, I6, I7, reduceIte, reduceCtorEq]
  refine QIf.intro (fun c => ?_) (fun c => ?_)
  · have hk' : k < D.nx.length := by omega
    obtain ⟨r, g⟩ := some_of hk'
    have h0 : (0 : Int) ≤ (k : Int) := by omega
    have hB : D.nx.length < 1000000000000 := B.n
    have hw := wrap_succ (k := k) (by show _ < 1000000000000; omega)
    rw [drop_some g] at hq
    simp only [PP, P1, P2, P3, P4, P5, P6, P7, P8, P9, P10, P11, P12, P13, P14, L1, P15, N1, N2, N3, N4, N5, N6, N7, I1, I2, I3, I4, I5, I6, I7, reduceIte, reduceCtorEq, c, g, h0, hl]
    unfold rowsD at hq
    refine QIf.intro (fun e => ?_) (fun e => ?_)
    rotate_left
    · rw [if_neg e] at hq
      simp only [PP, P1, P2, P3, P4, P5, P6, P7, P8, P9, P10, P11, P12, P13, P14, L1, P15, N1, N2, N3, N4, N5, N6, N7, I1, I2, I3, I4, I5, I6, I7, reduceIte, reduceCtorEq, e]
      exact hq
    rw [if_pos e] at hq
    simp only [PP, P1, P2, P3, P4, P5, P6, P7, P8, P9, P10, P11, P12, P13, P14, L1, P15, N1, N2, N3, N4, N5, N6, N7, I1, I2, I3, I4, I5, I6, I7, reduceIte, reduceCtorEq, e]
    cases r with
    | nil => have := pow_pos' D.vs; simp at e; omega
    | cons x l =>
      have hx : (x :: l).length < big := B.r _ (List.mem_of_getElem? g)
      refine min_p T hx ?_
      simp only [PP, P1, P2, P3, P4, P5, P6, P7, P8, P9, P10, P11, P12, P13, P14, L1, P15, N1, N2, N3, N4, N5, N6, N7, I1, I2, I3, I4, I5, I6, I7, reduceIte, reduceCtorEq]
      refine QIf.intro (fun e1 => ?_) (fun e1 => ?_)
      · rw [if_pos (badR_iff.2 (.inl e1))] at hq
        simp only [PP, P1, P2, P3, P4, P5, P6, P7, P8, P9, P10, P11, P12, P13, P14, L1, P15, N1, N2, N3, N4, N5, N6, N7, I1, I2, I3, I4, I5, I6, I7, reduceIte, reduceCtorEq, e1]
        exact hq
      simp only [PP, P1, P2, P3, P4, P5, P6, P7, P8, P9, P10, P11, P12, P13, P14, L1, P15, N1, N2, N3, N4, N5, N6, N7, I1, I2, I3, I4, I5, I6, I7, reduceIte, reduceCtorEq, e1]
      refine max_p T hx ?_
      simp only [PP, P1, P2, P3, P4, P5, P6, P7, P8, P9, P10, P11, P12, P13, P14, L1, P15, N1, N2, N3, N4, N5, N6, N7, I1, I2, I3, I4, I5, I6, I7, reduceIte, reduceCtorEq]
      refine QIf.intro (fun e2 => ?_) (fun e2 => ?_)
      · rw [if_pos (badR_iff.2 (.inr e2))] at hq
        simp only [PP, P1, P2, P3, P4, P5, P6, P7, P8, P9, P10, P11, P12, P13, P14, L1, P15, N1, N2, N3, N4, N5, N6, N7, I1, I2, I3, I4, I5, I6, I7, reduceIte, reduceCtorEq, e2]
        exact hq
      rw [if_neg (by rw [badR_iff]; omega)] at hq
      simp only [PP, P1, P2, P3, P4, P5, P6, P7, P8, P9, P10, P11, P12, P13, P14, L1, P15, N1, N2, N3, N4, N5, N6, N7, I1, I2, I3, I4, I5, I6, I7, reduceIte, reduceCtorEq, e2, hw]
      exact SemW_weak (ih (k + 1) ⟨by omega, hq⟩ (by omega)) (by simp only [PW])
  · rw [List.drop_eq_nil_of_le (by omega)] at hq
    simp only [PP, P1, P2, P3, P4, P5, P6, P7, P8, P9, P10, P11, P12, P13, P14, L1, P15, N1, N2, N3, N4, N5, N6, N7, I1, I2, I3, I4, I5, I6, I7, reduceIte, reduceCtorEq, c, rowsD] at hq ⊢
    exact hq
end
end Go.Am.Ar
set_option linter.unusedVariables false
set_option linter.unusedSimpArgs false
set_option maxRecDepth 10000
namespace Go.Am.Ar
open Go.Am renaming pchk → P1, pold → P2, PKNo → P3, ppack → P4, PObj.under → P5, pput → P6, ptset → P7, ptget → P8, pev → P9, ofAV → P10, ofAV1 → P11, ppad → P12, pfill → P13, prepl → P14, AO.effect → P15
open List renaming replicate → L1
open Nat renaming reduceAdd → N1, reduceSub → N2, reduceMul → N3, reduceLT → N4, reduceLeDiff → N5, reduceEqDiff → N6, reduceBEq → N7
open Int renaming reduceToNat → I1, reduceLT → I2, reduceLE → I3, reduceEq → I4, reduceAdd → I5, reduceSub → I6, reduceNeg → I7
section
variable {tab : FuncId → Option AF} (T : HasA tab)
include T
end
end Go.Am.Ar
set_option linter.unusedVariables false
set_option linter.unusedSimpArgs false
set_option maxRecDepth 10000
namespace Go.Am.Ar
open Go.Am renaming pchk → P1, pold → P2, PKNo → P3, ppack → P4, PObj.under → P5, pput → P6, ptset → P7, ptget → P8, pev → P9, ofAV → P10, ofAV1 → P11, ppad → P12, pfill → P13, prepl → P14, AO.effect → P15
open List renaming replicate → L1
open Nat renaming reduceAdd → N1, reduceSub → N2, reduceMul → N3, reduceLT → N4, reduceLeDiff → N5, reduceEqDiff → N6, reduceBEq → N7
open Int renaming reduceToNat → I1, reduceLT → I2, reduceLE → I3, reduceEq → I4, reduceAdd → I5, reduceSub → I6, reduceNeg → I7
section
variable {tab : FuncId → Option AF} (T : HasA tab)
include T
end
end Go.Am.Ar
set_option linter.unusedVariables false
set_option linter.unusedSimpArgs false
set_option maxRecDepth 10000
namespace Go.Am.Ar
open Go.Am renaming pchk → P1, pold → P2, PKNo → P3, ppack → P4, PObj.under → P5, pput → P6, ptset → P7, ptget → P8, pev → P9, ofAV → P10, ofAV1 → P11, ppad → P12, pfill → P13, prepl → P14, AO.effect → P15
open List renaming replicate → L1
open Nat renaming reduceAdd → N1, reduceSub → N2, reduceMul → N3, reduceLT → N4, reduceLeDiff → N5, reduceEqDiff → N6, reduceBEq → N7
open Int renaming reduceToNat → I1, reduceLT → I2, reduceLE → I3, reduceEq → I4, reduceAdd → I5, reduceSub → I6, reduceNeg → I7
section
variable {tab : FuncId → Option AF} (T : HasA tab)
include T
end
end Go.Am.Ar
set_option linter.unusedVariables false
set_option linter.unusedSimpArgs false
set_option maxRecDepth 10000
namespace Go.Am.Ar
open Go.Am renaming pchk → P1, pold → P2, PKNo → P3, ppack → P4, PObj.under → P5, pput → P6, ptset → P7, ptget → P8, pev → P9, ofAV → P10, ofAV1 → P11, ppad → P12, pfill → P13, prepl → P14, AO.effect → P15
open List renaming replicate → L1
open Nat renaming reduceAdd → N1, reduceSub → N2, reduceMul → N3, reduceLT → N4, reduceLeDiff → N5, reduceEqDiff → N6, reduceBEq → N7
open Int renaming reduceToNat → I1, reduceLT → I2, reduceLE → I3, reduceEq → I4, reduceAdd → I5, reduceSub → I6, reduceNeg → I7
section
variable {tab : FuncId → Option AF} (T : HasA tab)
include T
end
end Go.Am.Ar
set_option linter.unusedVariables false
set_option linter.unusedSimpArgs false
set_option maxRecDepth 10000
namespace Go.Am.Ar
open Go.Am renaming pchk → P1, pold → P2, PKNo → P3, ppack → P4, PObj.under → P5, pput → P6, ptset → P7, ptget → P8, pev → P9, ofAV → P10, ofAV1 → P11, ppad → P12, pfill → P13, prepl → P14, AO.effect → P15
open List renaming replicate → L1
open Nat renaming reduceAdd → N1, reduceSub → N2, reduceMul → N3, reduceLT → N4, reduceLeDiff → N5, reduceEqDiff → N6, reduceBEq → N7
open Int renaming reduceToNat → I1, reduceLT → I2, reduceLE → I3, reduceEq → I4, reduceAdd → I5, reduceSub → I6, reduceNeg → I7
section
variable {tab : FuncId → Option AF} (T : HasA tab)
include T
end
end Go.Am.Ar
set_option linter.unusedVariables false
set_option linter.unusedSimpArgs false
set_option maxRecDepth 10000
namespace Go.Am.Ar
open Go.Am renaming pchk → P1, pold → P2, PKNo → P3, ppack → P4, PObj.under → P5, pput → P6, ptset → P7, ptget → P8, pev → P9, ofAV → P10, ofAV1 → P11, ppad → P12, pfill → P13, prepl → P14, AO.effect → P15
open List renaming replicate → L1
open Nat renaming reduceAdd → N1, reduceSub → N2, reduceMul → N3, reduceLT → N4, reduceLeDiff → N5, reduceEqDiff → N6, reduceBEq → N7
open Int renaming reduceToNat → I1, reduceLT → I2, reduceLE → I3, reduceEq → I4, reduceAdd → I5, reduceSub → I6, reduceNeg → I7
section
variable {tab : FuncId → Option AF} (T : HasA tab)
include T
end
end Go.Am.Ar
set_option linter.unusedVariables false
set_option linter.unusedSimpArgs false
set_option maxRecDepth 10000
namespace Go.Am.Ar
open Go.Am renaming pchk → P1, pold → P2, PKNo → P3, ppack → P4, PObj.under → P5, pput → P6, ptset → P7, ptget → P8, pev → P9, ofAV → P10, ofAV1 → P11, ppad → P12, pfill → P13, prepl → P14, AO.effect → P15
open List renaming replicate → L1
open Nat renaming reduceAdd → N1, reduceSub → N2, reduceMul → N3, reduceLT → N4, reduceLeDiff → N5, reduceEqDiff → N6, reduceBEq → N7
open Int renaming reduceToNat → I1, reduceLT → I2, reduceLE → I3, reduceEq → I4, reduceAdd → I5, reduceSub → I6, reduceNeg → I7
def wordE (vs : Int) (w : List Int) : Int := if 64 < (w.length : Int) then 4 else if w.any (fun x => decide (2 ^ vs.toNat ≤ x)) = true then 1 else 0
section
variable {tab : FuncId → Option AF} (T : HasA tab)
include T
theorem idx8_p {M : Mem} {K : PV → Mem → Prop} {f o : Bool} {xs : List Int} {g : FuncId} {cap : List PV} {F : Int → Bool} (hm : xs.length < 1000000000000) (hu : underL 0 cap = true)
    (hf : ∀ x ∈ xs, ∀ (M' : Mem) (K' : PV → Mem → Prop), K' (.bool (F x)) M' → SemC tab g (p8 x :: cap) M' K')
    (hk1 : (∀ x ∈ xs, F x = false) → K (p64 (-1)) M) (hk2 : ∀ (k : Nat) (x : Int), x ∈ xs → F x = true → K (p64 k) M) :
    SemC tab 87 [slI f o .u8 xs, .func (.func g) [] cap] M K := by
  refine SemC_pure T.h87 (by simp only [PP, P1, P2, P3, P4, P5, P6, P7, P8, P9, P10, P11, P12, P13, P14, L1, P15, N1, N2, N3, N4, N5, N6, N7, I1, I2, I3, I4, I5, I6, I7, reduceIte, reduceCtorEq, PV.under, hu]) ?_
  simp only [af87, PP, P1, P2, P3, P4, P5, P6, P7, P8, P9, P10, P11, P12, P13, P14, L1, P15, N1, N2, N3, N4, N5, N6, N7, I1, I2, I3, I4, I5, I6, I7, reduceIte, reduceCtorEq]
  refine loop1 (fun (k : Nat) => k ≤ xs.length ∧ ∀ j, j < k → ∀ x, xs[j]? = some x → F x = false) (fun k => [slI f o .u8 xs, .func (.func g) [] cap, .junk, .junk, .junk, .junk, .junk, p64 xs.length, p64 k, .junk, .junk, .junk, .junk, .junk, .junk, .junk, .junk, .junk, .junk])
    (fun k => []) (fun k => xs.length - k) 0 ⟨by omega, by intro j h; omega⟩ (by simp only [PW]) rfl ?_
  intro k ⟨hle, hd⟩ ih
  refine SemW_go (by kernel_rfl) ?_
  simp only [PP, P1, P2, P3, P4, P5, P6, P7, P8, P9, P10, P11, P12, P13, P14, L1, P15, N1, N2, N3, N4, N5, N6, N7, I1, I2, I3, I4, I5, I6, I7, reduceIte, reduceCtorEq]
  refine QIf.intro (fun c => ?_) (fun c => ?_)
  · have hk' : k < xs.length := by omega
    have k0 : (0 : Int) ≤ k := by omega
    have hwk := wrap_succ (k := k) (by show _ < 1000000000000; omega)
    obtain ⟨x, gx⟩ := some_of (xs := xs) (k := k) hk'
    simp only [PP, P1, P2, P3, P4, P5, P6, P7, P8, P9, P10, P11, P12, P13, P14, L1, P15, N1, N2, N3, N4, N5, N6, N7, I1, I2, I3, I4, I5, I6, I7, reduceIte, reduceCtorEq, c, k0, gx]
    refine hf x (List.mem_of_getElem? gx) _ _ ?_
    cases hF : F x with
    | true =>
      simp only [PP, P1, P2, P3, P4, P5, P6, P7, P8, P9, P10, P11, P12, P13, P14, L1, P15, N1, N2, N3, N4, N5, N6, N7, I1, I2, I3, I4, I5, I6, I7, reduceIte, reduceCtorEq]
      exact hk2 k x (List.mem_of_getElem? gx) hF
    | false =>
      simp only [PP, P1, P2, P3, P4, P5, P6, P7, P8, P9, P10, P11, P12, P13, P14, L1, P15, N1, N2, N3, N4, N5, N6, N7, I1, I2, I3, I4, I5, I6, I7, reduceIte, reduceCtorEq, hwk]
      refine SemW_weak (ih (k + 1) ⟨by omega, fun j hj y gy => ?_⟩ (by omega)) (by simp only [PW])
      by_cases e : j = k
      · subst e; rw [gx] at gy; cases gy; exact hF
      · exact hd j (by omega) y gy
  · simp only [PP, P1, P2, P3, P4, P5, P6, P7, P8, P9, P10, P11, P12, P13, P14, L1, P15, N1, N2, N3, N4, N5, N6, N7, I1, I2, I3, I4, I5, I6, I7, reduceIte, reduceCtorEq, c]
    exact hk1 fun x hx => by
      obtain ⟨j, hj⟩ := List.getElem?_of_mem hx
      exact hd j (by have := getSome_lt hj; omega) x hj
theorem cont8_p {M : Mem} {K : PV → Mem → Prop} {f o : Bool} {xs : List Int} {g : FuncId} {cap : List PV} {F : Int → Bool} (hm : xs.length < 1000000000000) (hu : underL 0 cap = true)
    (hf : ∀ x ∈ xs, ∀ (M' : Mem) (K' : PV → Mem → Prop), K' (.bool (F x)) M' → SemC tab g (p8 x :: cap) M' K')
    (hk1 : (∀ x ∈ xs, F x = false) → K (.bool false) M) (hk2 : (∃ x, x ∈ xs ∧ F x = true) → K (.bool true) M) :
    SemC tab 50 [slI f o .u8 xs, .func (.func g) [] cap] M K := by
  refine SemC_pure T.h50 (by simp only [PP, P1, P2, P3, P4, P5, P6, P7, P8, P9, P10, P11, P12, P13, P14, L1, P15, N1, N2, N3, N4, N5, N6, N7, I1, I2, I3, I4, I5, I6, I7, reduceIte, reduceCtorEq, PV.under, hu]) ?_
  simp only [af50, PP, P1, P2, P3, P4, P5, P6, P7, P8, P9, P10, P11, P12, P13, P14, L1, P15, N1, N2, N3, N4, N5, N6, N7, I1, I2, I3, I4, I5, I6, I7, reduceIte, reduceCtorEq]
  refine idx8_p T hm hu hf (fun h => ?_) (fun k x hx hF => ?_)
  · have e : ¬ (0 : Int) ≤ -1 := by omega
    simp only [PP, P1, P2, P3, P4, P5, P6, P7, P8, P9, P10, P11, P12, P13, P14, L1, P15, N1, N2, N3, N4, N5, N6, N7, I1, I2, I3, I4, I5, I6, I7, reduceIte, reduceCtorEq, e]
    exact hk1 h
  · have e : (0 : Int) ≤ k := by omega
    simp only [PP, P1, P2, P3, P4, P5, P6, P7, P8, P9, P10, P11, P12, P13, P14, L1, P15, N1, N2, N3, N4, N5, N6, N7, I1, I2, I3, I4, I5, I6, I7, reduceIte, reduceCtorEq, e]
    exact hk2 ⟨x, hx, hF⟩
end
end Go.Am.Ar

