/- Contracts of the small functions that games are checked with, and what goes with it. -/
import Derived.Test.YtfapjojfiaiidaaSimulateExamplesCode
import Derived.Test.YtfapjojfiaiidaaPmR
import Derived.Test.YtfapjojfiaiidaaPmC
set_option linter.unusedVariables false
set_option linter.unusedSimpArgs false
set_option maxRecDepth 10000
namespace Go.Am.Ar
open Go.Am renaming pchk → P1, pold → P2, PKNo → P3, ppack → P4, PObj.under → P5, pput → P6, ptset → P7, ptget → P8, pev → P9, ofAV → P10, ofAV1 → P11, ppad → P12, pfill → P13, prepl → P14, AO.effect → P15
open List renaming replicate → L1
open Nat renaming reduceAdd → N1, reduceSub → N2, reduceMul → N3, reduceLT → N4, reduceLeDiff → N5, reduceEqDiff → N6, reduceBEq → N7
open Int renaming reduceToNat → I1, reduceLT → I2, reduceLE → I3, reduceEq → I4, reduceAdd → I5, reduceSub → I6, reduceNeg → I7
abbrev big : Nat := 1000000000000
theorem wrap_succ {k : Nat} (h : k < big) : IntKind.i64.wrap ((k : Int) + 1) = ((k + 1 : Nat) : Int) := by
  have h : k < 1000000000000 := h
  rw [wrap64 (by omega) (by omega)]; omega
theorem drop_get' {α : Type} {xs : List α} {k : Nat} (h : k < xs.length) : xs.drop k = xs[k] :: xs.drop (k + 1) := List.drop_eq_getElem_cons h
theorem some_of {α : Type} {xs : List α} {k : Nat} (h : k < xs.length) : ∃ x, xs[k]? = some x := ⟨xs[k], List.getElem?_eq_getElem h⟩
theorem drop_some {α : Type} {xs : List α} {k : Nat} {x : α} (h : xs[k]? = some x) : xs.drop k = x :: xs.drop (k + 1) := by
  have hk := getSome_lt h
  rw [List.drop_eq_getElem_cons hk]
  rw [List.getElem?_eq_getElem hk] at h
  cases h; rfl
theorem getD_some {xs : List Int} {k : Nat} {x : Int} (h : xs[k]? = some x) : xs.getD k 0 = x := by simp [List.getD, h]
def posM (n : Int) : Int → List Int → Bool
  | _, [] => true
  | last, v :: l => if v ≤ last then false else if n ≤ v then false else posM n v l
section
variable {tab : FuncId → Option AF} (T : HasA tab)
include T
end
end Go.Am.Ar
set_option linter.unusedVariables false
set_option linter.unusedSimpArgs false
set_option maxRecDepth 10000
namespace Go.Am.Ar
open Go.Am renaming pchk → P1, pold → P2, PKNo → P3, ppack → P4, PObj.under → P5, pput → P6, ptset → P7, ptget → P8, pev → P9, ofAV → P10, ofAV1 → P11, ppad → P12, pfill → P13, prepl → P14, AO.effect → P15
open List renaming replicate → L1
open Nat renaming reduceAdd → N1, reduceSub → N2, reduceMul → N3, reduceLT → N4, reduceLeDiff → N5, reduceEqDiff → N6, reduceBEq → N7
open Int renaming reduceToNat → I1, reduceLT → I2, reduceLE → I3, reduceEq → I4, reduceAdd → I5, reduceSub → I6, reduceNeg → I7
section
variable {tab : FuncId → Option AF} (T : HasA tab)
include T
end
end Go.Am.Ar
set_option linter.unusedVariables false
set_option linter.unusedSimpArgs false
set_option maxRecDepth 10000
namespace Go.Am.Ar
open Go.Am renaming pchk → P1, pold → P2, PKNo → P3, ppack → P4, PObj.under → P5, pput → P6, ptset → P7, ptget → P8, pev → P9, ofAV → P10, ofAV1 → P11, ppad → P12, pfill → P13, prepl → P14, AO.effect → P15
open List renaming replicate → L1
open Nat renaming reduceAdd → N1, reduceSub → N2, reduceMul → N3, reduceLT → N4, reduceLeDiff → N5, reduceEqDiff → N6, reduceBEq → N7
open Int renaming reduceToNat → I1, reduceLT → I2, reduceLE → I3, reduceEq → I4, reduceAdd → I5, reduceSub → I6, reduceNeg → I7
section
variable {tab : FuncId → Option AF} (T : HasA tab)
include T
end
end Go.Am.Ar
set_option linter.unusedVariables false
set_option linter.unusedSimpArgs false
set_option maxRecDepth 10000
namespace Go.Am.Ar
open Go.Am renaming pchk → P1, pold → P2, PKNo → P3, ppack → P4, PObj.under → P5, pput → P6, ptset → P7, ptget → P8, pev → P9, ofAV → P10, ofAV1 → P11, ppad → P12, pfill → P13, prepl → P14, AO.effect → P15
open List renaming replicate → L1
open Nat renaming reduceAdd → N1, reduceSub → N2, reduceMul → N3, reduceLT → N4, reduceLeDiff → N5, reduceEqDiff → N6, reduceBEq → N7
open Int renaming reduceToNat → I1, reduceLT → I2, reduceLE → I3, reduceEq → I4, reduceAdd → I5, reduceSub → I6, reduceNeg → I7
section
variable {tab : FuncId → Option AF} (T : HasA tab)
include T
end
end Go.Am.Ar
set_option linter.unusedVariables false
set_option linter.unusedSimpArgs false
set_option maxRecDepth 10000
namespace Go.Am.Ar
open Go.Am renaming pchk → P1, pold → P2, PKNo → P3, ppack → P4, PObj.under → P5, pput → P6, ptset → P7, ptget → P8, pev → P9, ofAV → P10, ofAV1 → P11, ppad → P12, pfill → P13, prepl → P14, AO.effect → P15
open List renaming replicate → L1
open Nat renaming reduceAdd → N1, reduceSub → N2, reduceMul → N3, reduceLT → N4, reduceLeDiff → N5, reduceEqDiff → N6, reduceBEq → N7
open Int renaming reduceToNat → I1, reduceLT → I2, reduceLE → I3, reduceEq → I4, reduceAdd → I5, reduceSub → I6, reduceNeg → I7
theorem prem {k : IntKind} {x y : Int} (h : y ≠ 0) : pbin .rem (.int k x) (.int k y) = some (.int k (x.tmod y)) := by
  simp [pbin, toAV0, abin, ofAV1, h, isShift, binInt]
abbrev natI (l : List Nat) : List Int := l.map fun (v : Nat) => (v : Int)
theorem posM_of {n : Int} : ∀ {l : List Int} {last : Int}, l.Pairwise (· < ·) → (∀ x ∈ l, last < x ∧ x < n) → posM n last l = true
  | [], _, _, _ => rfl
  | v :: l, last, h, hx => by
    obtain ⟨h1, h2⟩ := hx v (by simp)
    rw [List.pairwise_cons] at h
    unfold posM
    rw [if_neg (by omega), if_neg (by omega)]
    exact posM_of h.2 fun x hm => ⟨h.1 x hm, (hx x (by simp [hm])).2⟩
theorem posM_rise {n : Int} : ∀ {l : List Int} {last : Int}, posM n last l = true → l.Pairwise (· < ·) ∧ ∀ x ∈ l, last < x ∧ x < n
  | [], _, _ => ⟨.nil, fun x hx => by cases hx⟩
  | v :: l, last, h => by
    unfold posM at h
    split at h
    · simp at h
    · split at h
      · simp at h
      · obtain ⟨h1, h2⟩ := posM_rise h
        refine ⟨.cons (fun x hx => (h2 x hx).1) h1, fun x hx => ?_⟩
        rcases List.mem_cons.1 hx with rfl | hx
        · omega
        · have := h2 x hx; omega
theorem SemC_true {tab : FuncId → Option AF} {g : FuncId} (hg : tab g = some (.prim primTrue)) {M : Mem} {K : PV → Mem → Prop} (hk : K (.bool true) M) : SemC tab g [] M K := by
  intro w h args' h0 s ha
  have : args' = [] := List.length_eq_zero_iff.1 (by simpa using ha.len.symm)
  subst this
  unfold C
  refine ⟨.bool true, h, ?_, w, .bool true, M, PStp.refl (Nat.le_refl _) w h, s, .bool true, hk⟩
  rw [lim_call]
  simp only [acallF, hg, primTrue]
section
variable {tab : FuncId → Option AF} (T : HasA tab)
include T
end
end Go.Am.Ar
set_option linter.unusedVariables false
set_option linter.unusedSimpArgs false
set_option maxRecDepth 10000
namespace Go.Am.Ar
structure Eg where
  fr : Int
  to : Int
  ps : Int
  ng : Int
  deriving DecidableEq, Inhabited
abbrev egC (e : Eg) : List PV := [.int .i64 e.fr, .int .i64 e.to, .int .u8 e.ps, .int .u8 e.ng]
def egL (l : List Eg) : List PV := l.flatMap egC
abbrev slE (f o : Bool) (l : List Eg) : PV := .sl f o 4 l.length (egL l)
theorem egL_len (l : List Eg) : (egL l).length = l.length * 4 := by
  unfold egL
  induction l with
  | nil => rfl
  | cons x l ih => rw [List.flatMap_cons, List.length_append, ih]; simp; omega
theorem egL_one (l : List Eg) : (egL l).all PV.one = true := by
  unfold egL
  induction l with
  | nil => rfl
  | cons x l ih => rw [List.flatMap_cons, List.all_append, ih]; rfl
theorem egL_und (m : Nat) (l : List Eg) : underL m (egL l) = true := by
  unfold egL
  induction l with
  | nil => exact underL_nil _
  | cons x l ih => rw [List.flatMap_cons, underL_append, ih]; simp [underL_cons, underL_nil, under_int]
theorem under_slE (m : Nat) (f o : Bool) (sz n : Nat) (l : List Eg) : PV.under m (.sl f o sz n (egL l)) = true := by
  simp only [PV.under]; exact egL_und m l
theorem egL_app (l : List Eg) (x : Eg) : egL l ++ egC x = egL (l ++ [x]) := by simp [egL]
theorem egL_split {l : List Eg} {k : Nat} {x : Eg} (h : l[k]? = some x) : ∃ a b, egL l = a ++ egC x ++ b ∧ a.length = k * 4 ∧ (∀ y, egL (l.set k y) = a ++ egC y ++ b) := by
  obtain ⟨hk, e⟩ := List.getElem?_eq_some_iff.1 h
  refine ⟨egL (l.take k), egL (l.drop (k + 1)), ?_, ?_, fun y => ?_⟩
  · conv => lhs; rw [← List.take_append_drop k l, List.drop_eq_getElem_cons hk, e]
    simp [egL]
  · rw [egL_len]; simp; omega
  · rw [List.set_eq_take_append_cons_drop, if_pos hk]
    simp [egL]
theorem psub_egL {l : List Eg} {k : Nat} {x : Eg} (h : l[k]? = some x) : psub (egL l) (k * 4) 4 = egC x := by
  obtain ⟨a, b, h1, h2, _⟩ := egL_split h
  unfold psub
  rw [h1, ← h2, List.append_assoc, List.drop_left]; rfl
theorem psub_egAll {l : List Eg} {n : Nat} (h : l.length = n) : psub (egL l) 0 (n * 4) = egL l := psub_all _ _ (by rw [egL_len, h])
theorem eg_le {l : List Eg} {k : Nat} {x : Eg} (h : l[k]? = some x) : k * 4 + 4 ≤ l.length * 4 := by
  have := getSome_lt h; omega
theorem frzO_egL {g v n : Nat} {l : List Eg} (h : l.length = n) : frzO (some (.cells g v (egL l))) g 4 0 n = some (slE false true l) := by
  subst h
  rw [frzO_cells (by rw [egL_len]; omega) (egL_und _ _), psub_egAll rfl]
def Eg.fit (e : Eg) : Prop := (-9223372036854775808 ≤ e.fr ∧ e.fr ≤ 9223372036854775807) ∧ (-9223372036854775808 ≤ e.to ∧ e.to ≤ 9223372036854775807) ∧ (0 ≤ e.ps ∧ e.ps ≤ 255) ∧ (0 ≤ e.ng ∧ e.ng ≤ 255)
theorem peq_eg {x y : Eg} (hx : x.fit) (hy : y.fit) : peqCells [some .i64, some .i64, some .u8, some .u8] (egC x) (egC y) = some (decide (x = y)) := by
  obtain ⟨⟨a1, a2⟩, ⟨a3, a4⟩, ⟨a5, a6⟩, a7, a8⟩ := hx
  obtain ⟨⟨b1, b2⟩, ⟨b3, b4⟩, ⟨b5, b6⟩, b7, b8⟩ := hy
  cases x with
  | mk x1 x2 x3 x4 =>
  cases y with
  | mk y1 y2 y3 y4 =>
  simp only at *
  simp only [peqCells, toAVs, toAV0, egC, aEqCells, kHas, Bool.and_eq_true, decide_eq_true_eq]
  simp [a1, a2, a3, a4, a5, a6, a7, a8, b1, b2, b3, b4, b5, b6, b7, b8]
  by_cases e1 : x1 = y1 <;> by_cases e2 : x2 = y2 <;> by_cases e3 : x3 = y3 <;> by_cases e4 : x4 = y4 <;> simp [e1, e2, e3, e4]
end Go.Am.Ar
set_option linter.unusedVariables false
set_option linter.unusedSimpArgs false
set_option maxRecDepth 10000
namespace Go.Am.Ar
open Go.Am renaming pchk → P1, pold → P2, PKNo → P3, ppack → P4, PObj.under → P5, pput → P6, ptset → P7, ptget → P8, pev → P9, ofAV → P10, ofAV1 → P11, ppad → P12, pfill → P13, prepl → P14, AO.effect → P15
open List renaming replicate → L1
open Nat renaming reduceAdd → N1, reduceSub → N2, reduceMul → N3, reduceLT → N4, reduceLeDiff → N5, reduceEqDiff → N6, reduceBEq → N7
open Int renaming reduceToNat → I1, reduceLT → I2, reduceLE → I3, reduceEq → I4, reduceAdd → I5, reduceSub → I6, reduceNeg → I7
structure NF where
  vs : Int
  n : Int
  st : List Int
  fi : List Int
  es : List Eg
abbrev nfC (f1 o1 f2 o2 f3 o3 : Bool) (N : NF) : List PV := [p64 N.vs, p64 N.n, slI f1 o1 .i64 N.st, slI f2 o2 .i64 N.fi, slE f3 o3 N.es]
structure BnN (N : NF) : Prop where
  s : N.st.length < big
  f : N.fi.length < big
  e : N.es.length < big
  b : ∀ x ∈ N.es, (0 ≤ x.ps ∧ x.ps ≤ 255) ∧ (0 ≤ x.ng ∧ x.ng ≤ 255)
def bAnd (x y : Int) : Int := ((x.toNat &&& y.toNat : Nat) : Int)
def bOr (x y : Int) : Int := ((x.toNat ||| y.toNat : Nat) : Int)
def cubeM (v p n : Int) : Int := if v < 0 then 7 else if 6 < v then 7 else if 2 ^ v.toNat ≤ p then 7 else if 2 ^ v.toNat ≤ n then 7 else if bAnd p n = 0 then 0 else 2
def edgesM (v n : Int) : List Eg → Int
  | [] => 0
  | e :: l => if e.fr < 0 ∨ n ≤ e.fr ∨ e.to < 0 ∨ n ≤ e.to then 8 else if cubeM v e.ps e.ng = 0 then edgesM v n l else cubeM v e.ps e.ng
def checkN (N : NF) : Int :=
  if N.vs < 0 ∨ 6 < N.vs then 7 else if N.n < 0 then 1 else if 64 < N.n ∨ 512 < (N.es.length : Int) then 4 else if posM N.n (-1) N.st = true ∧ posM N.n (-1) N.fi = true then edgesM N.vs N.n N.es else 8
theorem ofInt8 {x : Int} (h : 0 ≤ x ∧ x ≤ 255) : (BitVec.ofInt 8 x).toNat = x.toNat := by
  rw [BitVec.toNat_ofInt]
  omega
theorem wrap8 {x : Nat} (h : x < 256) : IntKind.u8.wrap (x : Int) = x := by
  simp only [IntKind.wrap, IntKind.signed, IntKind.bits]
  simp
  omega
theorem pbin_and8 {x y : Int} (hx : 0 ≤ x ∧ x ≤ 255) (hy : 0 ≤ y ∧ y ≤ 255) : pbin .and (.int .u8 x) (.int .u8 y) = some (.int .u8 (bAnd x y)) := by
  have h1 := ofInt8 hx
  have h2 := ofInt8 hy
  have h3 : x.toNat &&& y.toNat < 256 := Nat.lt_of_le_of_lt Nat.and_le_left (by omega)
  have e : IntKind.u8.wrap ((BitVec.ofInt IntKind.u8.bits x &&& BitVec.ofInt IntKind.u8.bits y).toNat : Int) = bAnd x y := by
    show IntKind.u8.wrap ((BitVec.ofInt 8 x &&& BitVec.ofInt 8 y).toNat : Int) = _
    rw [BitVec.toNat_and, h1, h2, wrap8 h3]; rfl
  simp only [pbin, toAV0, abin, isShift, binInt, e]
  rfl
theorem or8_lt {a b : Nat} (ha : a < 256) (hb : b < 256) : a ||| b < 256 := Nat.or_lt_two_pow (n := 8) ha hb
theorem pbin_or8 {x y : Int} (hx : 0 ≤ x ∧ x ≤ 255) (hy : 0 ≤ y ∧ y ≤ 255) : pbin .or (.int .u8 x) (.int .u8 y) = some (.int .u8 (bOr x y)) := by
  have h1 := ofInt8 hx
  have h2 := ofInt8 hy
  have h3 : x.toNat ||| y.toNat < 256 := or8_lt (by omega) (by omega)
  have e : IntKind.u8.wrap ((BitVec.ofInt IntKind.u8.bits x ||| BitVec.ofInt IntKind.u8.bits y).toNat : Int) = bOr x y := by
    show IntKind.u8.wrap ((BitVec.ofInt 8 x ||| BitVec.ofInt 8 y).toNat : Int) = _
    rw [BitVec.toNat_or, h1, h2, wrap8 h3]; rfl
  simp only [pbin, toAV0, abin, isShift, binInt, e]
  rfl
theorem pshl {v : Int} (h0 : ¬ v < 0) (h6 : ¬ 6 < v) : pbin .shl (.int .i64 1) (.int .i64 v) = some (.int .i64 (2 ^ v.toNat)) := by
  have : v = 0 ∨ v = 1 ∨ v = 2 ∨ v = 3 ∨ v = 4 ∨ v = 5 ∨ v = 6 := by omega
  rcases this with rfl | rfl | rfl | rfl | rfl | rfl | rfl <;> rfl
theorem bOr_le {v : Nat} {p n : Int} (hp : 0 ≤ p) (hn : 0 ≤ n) : (2 : Int) ^ v ≤ bOr p n ↔ (2 ^ v ≤ p ∨ 2 ^ v ≤ n) := by
  have key : (2 ^ v ≤ p.toNat ||| n.toNat) ↔ (2 ^ v ≤ p.toNat ∨ 2 ^ v ≤ n.toNat) := by
    constructor
    · intro h
      refine Classical.byContradiction fun q => ?_
      rw [not_or, Nat.not_le, Nat.not_le] at q
      have := Nat.or_lt_two_pow q.1 q.2
      omega
    · rintro (h | h)
      · exact Nat.le_trans h Nat.left_le_or
      · exact Nat.le_trans h Nat.right_le_or
  have e : ((2 ^ v : Nat) : Int) = 2 ^ v := by simp
  unfold bOr
  rw [← e]
  constructor
  · intro h
    rcases key.1 (by omega) with q | q
    · exact .inl (by omega)
    · exact .inr (by omega)
  · intro h
    have := key.2 (by omega)
    omega
section
variable {tab : FuncId → Option AF} (T : HasA tab)
include T
theorem states_p {M : Mem} {K : PV → Mem → Prop} {f1 o1 f2 o2 f3 o3 f o : Bool} {N : NF} {xs : List Int} (hm : xs.length < big) (hk : K (.bool (posM N.n (-1) xs)) M) :
    SemC tab 56 [.agg (nfC f1 o1 f2 o2 f3 o3 N), slI f o .i64 xs] M K := by
  refine SemC_pure T.h56 (by simp only [PP, P1, P2, P3, P4, P5, P6, P7, P8, P9, P10, P11, P12, P13, P14, L1, P15, N1, N2, N3, N4, N5, N6, N7, I1, I2, I3, I4, I5, I6, I7, reduceIte, reduceCtorEq, under_slE]) ?_
  simp only [af56, PP, P1, P2, P3, P4, P5, P6, P7, P8, P9, P10, P11, P12, P13, P14, L1, P15, N1, N2, N3, N4, N5, N6, N7, I1, I2, I3, I4, I5, I6, I7, reduceIte, reduceCtorEq]
  refine loop2 (fun (k : Nat) (last : Int) => k ≤ xs.length ∧ K (.bool (posM N.n last (xs.drop k))) M) (fun k last => [.junk, .junk, .ptr 0 0 0, .junk, .junk, p64 last, .junk, .junk, slI f o .i64 xs, p64 xs.length, p64 k, .junk, .junk, .junk, .junk, .junk, .junk, .junk, .junk, .junk, .junk, .junk, .junk, .junk, .junk]) (fun _ _ => [.cells 0 0 (nfC f1 o1 f2 o2 f3 o3 N)]) (fun k _ => xs.length - k) 0 (-1) ⟨by omega, hk⟩ (by simp only [PWeak_nil, PWeak_junk, PWeak_same, Int.cast_ofNat_Int, List.length_append, List.length_cons, List.length_nil, Nat.zero_add]) rfl ?_
  intro k last ⟨hk, hq⟩ ih
  refine SemW_go (by kernel_rfl) ?_
  simp only [PP, P1, P2, P3, P4, P5, P6, P7, P8, P9, P10, P11, P12, P13, P14, L1, P15, N1, N2, N3, N4, N5, N6, N7, I1, I2, I3, I4, I5, I6, I7, reduceIte, reduceCtorEq]
  refine QIf.intro (fun c => ?_) (fun c => ?_)
  · have hk' : k < xs.length := by omega
    rw [drop_get' hk'] at hq
    have hw := wrap_succ (k := k) (by omega)
    have hg : xs[k]? = some xs[k] := List.getElem?_eq_getElem hk'
    have h0 : (0 : Int) ≤ k := by omega
    simp only [PP, P1, P2, P3, P4, P5, P6, P7, P8, P9, P10, P11, P12, P13, P14, L1, P15, N1, N2, N3, N4, N5, N6, N7, I1, I2, I3, I4, I5, I6, I7, reduceIte, reduceCtorEq, posM, c, hg, hw, h0] at hq ⊢
    refine QIf.intro (fun h1 => ?_) (fun h1 => ?_)
    · simp only [PP, P1, P2, P3, P4, P5, P6, P7, P8, P9, P10, P11, P12, P13, P14, L1, P15, N1, N2, N3, N4, N5, N6, N7, I1, I2, I3, I4, I5, I6, I7, reduceIte, reduceCtorEq, h1] at hq ⊢
      exact hq
    · simp only [PP, P1, P2, P3, P4, P5, P6, P7, P8, P9, P10, P11, P12, P13, P14, L1, P15, N1, N2, N3, N4, N5, N6, N7, I1, I2, I3, I4, I5, I6, I7, reduceIte, reduceCtorEq, h1] at hq ⊢
      refine QIf.intro (fun h2 => ?_) (fun h2 => ?_)
      · simp only [PP, P1, P2, P3, P4, P5, P6, P7, P8, P9, P10, P11, P12, P13, P14, L1, P15, N1, N2, N3, N4, N5, N6, N7, I1, I2, I3, I4, I5, I6, I7, reduceIte, reduceCtorEq, h2] at hq ⊢
        exact hq
      · simp only [PP, P1, P2, P3, P4, P5, P6, P7, P8, P9, P10, P11, P12, P13, P14, L1, P15, N1, N2, N3, N4, N5, N6, N7, I1, I2, I3, I4, I5, I6, I7, reduceIte, reduceCtorEq, h2, hw] at hq ⊢
        exact SemW_weak (ih (k + 1) _ ⟨by omega, hq⟩ (by omega)) (by simp only [PWeak_nil, PWeak_junk, PWeak_same, Int.cast_ofNat_Int, List.length_append, List.length_cons, List.length_nil, Nat.zero_add])
  · simp only [PP, P1, P2, P3, P4, P5, P6, P7, P8, P9, P10, P11, P12, P13, P14, L1, P15, N1, N2, N3, N4, N5, N6, N7, I1, I2, I3, I4, I5, I6, I7, reduceIte, reduceCtorEq, c]
    rw [List.drop_eq_nil_of_le (by omega)] at hq
    exact hq
theorem cube_p {M : Mem} {K : PV → Mem → Prop} {v p n : Int} (hp : 0 ≤ p ∧ p ≤ 255) (hn : 0 ≤ n ∧ n ≤ 255) (hk : K (p64 (cubeM v p n)) M) :
    SemC tab 57 [.agg [p8 p, p8 n], p64 v] M K := by
  refine SemC_pure T.h57 (by simp only [PP, P1, P2, P3, P4, P5, P6, P7, P8, P9, P10, P11, P12, P13, P14, L1, P15, N1, N2, N3, N4, N5, N6, N7, I1, I2, I3, I4, I5, I6, I7, reduceIte, reduceCtorEq]) ?_
  simp only [af57, PP, P1, P2, P3, P4, P5, P6, P7, P8, P9, P10, P11, P12, P13, P14, L1, P15, N1, N2, N3, N4, N5, N6, N7, I1, I2, I3, I4, I5, I6, I7, reduceIte, reduceCtorEq]
  refine QIf.intro (fun c1 => ?_) (fun c1 => ?_)
  · simp only [PP, P1, P2, P3, P4, P5, P6, P7, P8, P9, P10, P11, P12, P13, P14, L1, P15, N1, N2, N3, N4, N5, N6, N7, I1, I2, I3, I4, I5, I6, I7, reduceIte, reduceCtorEq, c1, cubeM] at hk ⊢
    exact hk
  · simp only [PP, P1, P2, P3, P4, P5, P6, P7, P8, P9, P10, P11, P12, P13, P14, L1, P15, N1, N2, N3, N4, N5, N6, N7, I1, I2, I3, I4, I5, I6, I7, reduceIte, reduceCtorEq, c1]
    refine QIf.intro (fun c2 => ?_) (fun c2 => ?_)
    · simp only [PP, P1, P2, P3, P4, P5, P6, P7, P8, P9, P10, P11, P12, P13, P14, L1, P15, N1, N2, N3, N4, N5, N6, N7, I1, I2, I3, I4, I5, I6, I7, reduceIte, reduceCtorEq, c1, c2, cubeM] at hk ⊢
      exact hk
    · have hw : IntKind.i64.wrap (bOr p n) = bOr p n := wrap64 (by unfold bOr; omega) (by have := or8_lt (a := p.toNat) (b := n.toNat) (by omega) (by omega); unfold bOr; omega)
      simp only [PP, P1, P2, P3, P4, P5, P6, P7, P8, P9, P10, P11, P12, P13, P14, L1, P15, N1, N2, N3, N4, N5, N6, N7, I1, I2, I3, I4, I5, I6, I7, reduceIte, reduceCtorEq, c2, pbin_or8 hp hn, pbin_and8 hp hn, pshl c1 c2, hw]
      refine QIf.intro (fun c3 => ?_) (fun c3 => ?_)
      · have e : cubeM v p n = 7 := by
          unfold cubeM
          rw [if_neg c1, if_neg c2]
          rcases (bOr_le hp.1 hn.1).1 c3 with q | q
          · rw [if_pos q]
          · rw [if_pos q]; split <;> rfl
        rw [e] at hk
        simp only [PP, P1, P2, P3, P4, P5, P6, P7, P8, P9, P10, P11, P12, P13, P14, L1, P15, N1, N2, N3, N4, N5, N6, N7, I1, I2, I3, I4, I5, I6, I7, reduceIte, reduceCtorEq, c3]
        exact hk
      · have c4 : ¬ (2 : Int) ^ v.toNat ≤ p := fun q => c3 ((bOr_le hp.1 hn.1).2 (.inl q))
        have c5 : ¬ (2 : Int) ^ v.toNat ≤ n := fun q => c3 ((bOr_le hp.1 hn.1).2 (.inr q))
        simp only [PP, P1, P2, P3, P4, P5, P6, P7, P8, P9, P10, P11, P12, P13, P14, L1, P15, N1, N2, N3, N4, N5, N6, N7, I1, I2, I3, I4, I5, I6, I7, reduceIte, reduceCtorEq, c3, pbin_and8 hp hn]
        unfold cubeM at hk
        rw [if_neg c1, if_neg c2, if_neg c4, if_neg c5] at hk
        refine QIf.intro (fun c6 => ?_) (fun c6 => ?_)
        · rw [if_pos c6] at hk
          simp only [PP, P1, P2, P3, P4, P5, P6, P7, P8, P9, P10, P11, P12, P13, P14, L1, P15, N1, N2, N3, N4, N5, N6, N7, I1, I2, I3, I4, I5, I6, I7, reduceIte, reduceCtorEq, c6]
          exact hk
        · rw [if_neg c6] at hk
          simp only [PP, P1, P2, P3, P4, P5, P6, P7, P8, P9, P10, P11, P12, P13, P14, L1, P15, N1, N2, N3, N4, N5, N6, N7, I1, I2, I3, I4, I5, I6, I7, reduceIte, reduceCtorEq, c6]
          exact hk
end
end Go.Am.Ar
set_option linter.unusedVariables false
set_option linter.unusedSimpArgs false
set_option maxRecDepth 10000
namespace Go.Am.Ar
open Go.Am renaming pchk → P1, pold → P2, PKNo → P3, ppack → P4, PObj.under → P5, pput → P6, ptset → P7, ptget → P8, pev → P9, ofAV → P10, ofAV1 → P11, ppad → P12, pfill → P13, prepl → P14, AO.effect → P15
open List renaming replicate → L1
open Nat renaming reduceAdd → N1, reduceSub → N2, reduceMul → N3, reduceLT → N4, reduceLeDiff → N5, reduceEqDiff → N6, reduceBEq → N7
open Int renaming reduceToNat → I1, reduceLT → I2, reduceLE → I3, reduceEq → I4, reduceAdd → I5, reduceSub → I6, reduceNeg → I7
section
variable (M l : Mem) (i : Nat) (x : PObj)
theorem gk : (M ++ l)[M.length + i]? = l[i]? := by rw [List.getElem?_append_right (by omega)]; congr 1; omega
theorem gk0 : (M ++ l)[M.length]? = l[0]? := by rw [List.getElem?_append_right (Nat.le_refl _), Nat.sub_self]
theorem sk : (M ++ l).set (M.length + i) x = M ++ l.set i x := by rw [List.set_append_right _ _ (by omega)]; congr 2; omega
theorem sk0 : (M ++ l).set M.length x = M ++ l.set 0 x := by rw [List.set_append_right _ _ (Nat.le_refl _), Nat.sub_self]
end
theorem pmin_two (k : IntKind) (a b : Int) : pminV (.int k a) [.int k b] = some (.int k (min a b)) := by
  simp [pminV, toAV0, toAVs, foldO, amin2, ofAV1]
  by_cases h : b < a
  · rw [if_pos h]; omega
  · rw [if_neg h]; omega
theorem edgesM_bad {v n : Int} {e : Eg} {l : List Eg} (h : e.fr < 0 ∨ n ≤ e.fr ∨ e.to < 0 ∨ n ≤ e.to) : edgesM v n (e :: l) = 8 := by unfold edgesM; rw [if_pos h]
theorem edgesM_go {v n : Int} {e : Eg} {l : List Eg} (h : ¬ (e.fr < 0 ∨ n ≤ e.fr ∨ e.to < 0 ∨ n ≤ e.to)) : edgesM v n (e :: l) = if cubeM v e.ps e.ng = 0 then edgesM v n l else cubeM v e.ps e.ng := by
  show (if _ then _ else _) = _; rw [if_neg h]
section
variable {tab : FuncId → Option AF} (T : HasA tab)
include T
end
end Go.Am.Ar
set_option linter.unusedVariables false
set_option linter.unusedSimpArgs false
set_option maxRecDepth 10000
namespace Go.Am.Ar
open Go.Am renaming pchk → P1, pold → P2, PKNo → P3, ppack → P4, PObj.under → P5, pput → P6, ptset → P7, ptget → P8, pev → P9, ofAV → P10, ofAV1 → P11, ppad → P12, pfill → P13, prepl → P14, AO.effect → P15
open List renaming replicate → L1
open Nat renaming reduceAdd → N1, reduceSub → N2, reduceMul → N3, reduceLT → N4, reduceLeDiff → N5, reduceEqDiff → N6, reduceBEq → N7
open Int renaming reduceToNat → I1, reduceLT → I2, reduceLE → I3, reduceEq → I4, reduceAdd → I5, reduceSub → I6, reduceNeg → I7
theorem NF.ext' {N N' : NF} (h1 : N.vs = N'.vs) (h2 : N.n = N'.n) (h3 : N.st = N'.st) (h4 : N.fi = N'.fi) (h5 : N.es = N'.es) : N = N' := by
  cases N; cases N'; simp_all
section
variable {tab : FuncId → Option AF} (T : HasA tab)
include T
end
end Go.Am.Ar
set_option linter.unusedVariables false
set_option linter.unusedSimpArgs false
set_option maxRecDepth 10000
namespace Go.Am.Ar
open Go.Am renaming pchk → P1, pold → P2, PKNo → P3, ppack → P4, PObj.under → P5, pput → P6, ptset → P7, ptget → P8, pev → P9, ofAV → P10, ofAV1 → P11, ppad → P12, pfill → P13, prepl → P14, AO.effect → P15
open List renaming replicate → L1
open Nat renaming reduceAdd → N1, reduceSub → N2, reduceMul → N3, reduceLT → N4, reduceLeDiff → N5, reduceEqDiff → N6, reduceBEq → N7
open Int renaming reduceToNat → I1, reduceLT → I2, reduceLE → I3, reduceEq → I4, reduceAdd → I5, reduceSub → I6, reduceNeg → I7
section
variable {tab : FuncId → Option AF} (T : HasA tab)
include T
theorem cloneL_p {M : Mem} {K : PV → Mem → Prop} {f o : Bool} {xs : List Int} (hm : xs.length < big) (hk : ∀ g v, K (.ref M.length g 1 0 xs.length) (M ++ [.cells g v (xs.map p64)])) :
    SemC tab 68 [slI f o .i64 xs] M K := by
  have hb : xs.length < 1000000000000 := hm
  have b1 : xs.length * 8 ≤ 140737488355328 := by omega
  have b2 : xs.length ≤ 9223372036854775807 := by omega
  refine SemC_gh (SemC_sem T.h68 ?_)
  simp only [af68]
  refine SemW_seq (SemW_of ?_)
  simp only [PP, P1, P2, P3, P4, P5, P6, P7, P8, P9, P10, P11, P12, P13, P14, L1, P15, N1, N2, N3, N4, N5, N6, N7, I1, I2, I3, I4, I5, I6, I7, reduceIte, reduceCtorEq]
  refine SemW_seq (SemW_of ?_)
  simp only [PP, P1, P2, P3, P4, P5, P6, P7, P8, P9, P10, P11, P12, P13, P14, L1, P15, N1, N2, N3, N4, N5, N6, N7, I1, I2, I3, I4, I5, I6, I7, reduceIte, reduceCtorEq]
  have hone : (xs.map p64).all PV.one = true := all_one_ints _ _
  refine QIf.intro (fun c => ?_) (fun c => ?_)
  · constructor
    · simp only [PP, P1, P2, P3, P4, P5, P6, P7, P8, P9, P10, P11, P12, P13, P14, L1, P15, N1, N2, N3, N4, N5, N6, N7, I1, I2, I3, I4, I5, I6, I7, reduceIte, reduceCtorEq]
      have : xs = [] := List.length_eq_zero_iff.1 c
      subst this
      exact Gh.step (GStep.nil 0 1 rfl rfl rfl) (Gh.same ⟨_, rfl, hk 0 0⟩)
    · simp only [PP, P1, P2, P3, P4, P5, P6, P7, P8, P9, P10, P11, P12, P13, P14, L1, P15, N1, N2, N3, N4, N5, N6, N7, I1, I2, I3, I4, I5, I6, I7, reduceIte, reduceCtorEq]
      refine SemW_seq (SemW_lit0 ⟨[], rfl, ?_⟩)
      simp only [PP, P1, P2, P3, P4, P5, P6, P7, P8, P9, P10, P11, P12, P13, P14, L1, P15, N1, N2, N3, N4, N5, N6, N7, I1, I2, I3, I4, I5, I6, I7, reduceIte, reduceCtorEq, List.append_assoc, gk, gk0, sk, sk0]
      exact ⟨⟨b1, b2⟩, SemW_of (by simp only [PP, P1, P2, P3, P4, P5, P6, P7, P8, P9, P10, P11, P12, P13, P14, L1, P15, N1, N2, N3, N4, N5, N6, N7, I1, I2, I3, I4, I5, I6, I7, reduceIte, reduceCtorEq]; exact Gh.same ⟨_, rfl, hk 1 0⟩)⟩
  · simp only [PP, P1, P2, P3, P4, P5, P6, P7, P8, P9, P10, P11, P12, P13, P14, L1, P15, N1, N2, N3, N4, N5, N6, N7, I1, I2, I3, I4, I5, I6, I7, reduceIte, reduceCtorEq]
    refine SemW_seq (SemW_lit0 ⟨[], rfl, ?_⟩)
    simp only [PP, P1, P2, P3, P4, P5, P6, P7, P8, P9, P10, P11, P12, P13, P14, L1, P15, N1, N2, N3, N4, N5, N6, N7, I1, I2, I3, I4, I5, I6, I7, reduceIte, reduceCtorEq, List.append_assoc, gk, gk0, sk, sk0]
    exact ⟨⟨b1, b2⟩, SemW_of (by simp only [PP, P1, P2, P3, P4, P5, P6, P7, P8, P9, P10, P11, P12, P13, P14, L1, P15, N1, N2, N3, N4, N5, N6, N7, I1, I2, I3, I4, I5, I6, I7, reduceIte, reduceCtorEq]; exact Gh.same ⟨_, rfl, hk 1 0⟩)⟩
theorem cloneE_p {M : Mem} {K : PV → Mem → Prop} {f o : Bool} {xs : List Eg} (hm : xs.length < big) (hk : ∀ g v, K (.ref M.length g 4 0 xs.length) (M ++ [.cells g v (egL xs)])) :
    SemC tab 69 [slE f o xs] M K := by
  have hb : xs.length < 1000000000000 := hm
  have b1 : xs.length * 24 ≤ 140737488355328 := by omega
  have b2 : xs.length ≤ 9223372036854775807 := by omega
  refine SemC_gh (SemC_sem T.h69 ?_)
  simp only [af69]
  refine SemW_seq (SemW_of ?_)
  simp only [PP, P1, P2, P3, P4, P5, P6, P7, P8, P9, P10, P11, P12, P13, P14, L1, P15, N1, N2, N3, N4, N5, N6, N7, I1, I2, I3, I4, I5, I6, I7, reduceIte, reduceCtorEq]
  refine SemW_seq (SemW_of ?_)
  simp only [PP, P1, P2, P3, P4, P5, P6, P7, P8, P9, P10, P11, P12, P13, P14, L1, P15, N1, N2, N3, N4, N5, N6, N7, I1, I2, I3, I4, I5, I6, I7, reduceIte, reduceCtorEq]
  have hone : (egL xs).all PV.one = true := egL_one xs
  refine QIf.intro (fun c => ?_) (fun c => ?_)
  · constructor
    · simp only [PP, P1, P2, P3, P4, P5, P6, P7, P8, P9, P10, P11, P12, P13, P14, L1, P15, N1, N2, N3, N4, N5, N6, N7, I1, I2, I3, I4, I5, I6, I7, reduceIte, reduceCtorEq]
      have : xs = [] := List.length_eq_zero_iff.1 c
      subst this
      exact Gh.step (GStep.nil 0 4 rfl rfl rfl) (Gh.same ⟨_, rfl, hk 0 0⟩)
    · simp only [PP, P1, P2, P3, P4, P5, P6, P7, P8, P9, P10, P11, P12, P13, P14, L1, P15, N1, N2, N3, N4, N5, N6, N7, I1, I2, I3, I4, I5, I6, I7, reduceIte, reduceCtorEq]
      refine SemW_seq (SemW_lit0 ⟨[], rfl, ?_⟩)
      simp only [PP, P1, P2, P3, P4, P5, P6, P7, P8, P9, P10, P11, P12, P13, P14, L1, P15, N1, N2, N3, N4, N5, N6, N7, I1, I2, I3, I4, I5, I6, I7, reduceIte, reduceCtorEq, List.append_assoc, gk, gk0, sk, sk0, hone]
      exact ⟨⟨b1, b2⟩, SemW_of (by simp only [PP, P1, P2, P3, P4, P5, P6, P7, P8, P9, P10, P11, P12, P13, P14, L1, P15, N1, N2, N3, N4, N5, N6, N7, I1, I2, I3, I4, I5, I6, I7, reduceIte, reduceCtorEq]; exact Gh.same ⟨_, rfl, hk 1 0⟩)⟩
  · simp only [PP, P1, P2, P3, P4, P5, P6, P7, P8, P9, P10, P11, P12, P13, P14, L1, P15, N1, N2, N3, N4, N5, N6, N7, I1, I2, I3, I4, I5, I6, I7, reduceIte, reduceCtorEq]
    refine SemW_seq (SemW_lit0 ⟨[], rfl, ?_⟩)
    simp only [PP, P1, P2, P3, P4, P5, P6, P7, P8, P9, P10, P11, P12, P13, P14, L1, P15, N1, N2, N3, N4, N5, N6, N7, I1, I2, I3, I4, I5, I6, I7, reduceIte, reduceCtorEq, List.append_assoc, gk, gk0, sk, sk0, hone]
    exact ⟨⟨b1, b2⟩, SemW_of (by simp only [PP, P1, P2, P3, P4, P5, P6, P7, P8, P9, P10, P11, P12, P13, P14, L1, P15, N1, N2, N3, N4, N5, N6, N7, I1, I2, I3, I4, I5, I6, I7, reduceIte, reduceCtorEq]; exact Gh.same ⟨_, rfl, hk 1 0⟩)⟩
end
end Go.Am.Ar
set_option linter.unusedVariables false
namespace Go.Am.Ar
abbrev Wd := List (BitVec 64)
def wAt (a : Wd) (i : Nat) : BitVec 64 := a.getD i 0#64
theorem wAt_ge {a : Wd} {i : Nat} (h : a.length ≤ i) : wAt a i = 0#64 := by
  unfold wAt; rw [List.getD, List.getElem?_eq_none h]; rfl
theorem wAt_some {a : Wd} {i : Nat} {x : BitVec 64} (h : a[i]? = some x) : wAt a i = x := by
  unfold wAt; rw [List.getD, h]; rfl
def trimN (a : Wd) : Nat → Nat
  | 0 => 0
  | n + 1 => if wAt a n = 0#64 then trimN a n else n + 1
theorem trimN_le (a : Wd) : ∀ n, trimN a n ≤ n
  | 0 => Nat.le_refl _
  | n + 1 => by
    unfold trimN
    split
    · exact Nat.le_succ_of_le (trimN_le a n)
    · exact Nat.le_refl _
theorem trimN_zero (a : Wd) : ∀ n i, trimN a n ≤ i → i < n → wAt a i = 0#64
  | 0, i, _, h => by omega
  | n + 1, i, h1, h2 => by
    unfold trimN at h1
    split at h1
    · rename_i h
      by_cases e : i = n
      · subst e; exact h
      · exact trimN_zero a n i h1 (by omega)
    · omega
theorem trimN_top (a : Wd) : ∀ n, trimN a n = 0 ∨ wAt a (trimN a n - 1) ≠ 0#64
  | 0 => .inl rfl
  | n + 1 => by
    unfold trimN
    split
    · exact trimN_top a n
    · rename_i h; exact .inr h
def trim (a : Wd) : Wd := a.take (trimN a a.length)
theorem trim_len (a : Wd) : (trim a).length ≤ a.length := by unfold trim; rw [List.length_take]; omega
theorem trim_at (a : Wd) (i : Nat) : wAt (trim a) i = wAt a i := by
  have hle := trimN_le a a.length
  rcases Nat.lt_or_ge i (trimN a a.length) with h | h
  · unfold wAt trim
    rw [List.getD, List.getD, List.getElem?_take, if_pos h]
  · rw [wAt_ge (by unfold trim; rw [List.length_take]; omega)]
    rcases Nat.lt_or_ge i a.length with q | q
    · exact (trimN_zero a _ i h q).symm
    · exact (wAt_ge q).symm
def cmbL (op : BitVec 64 → BitVec 64 → BitVec 64) (a b : Wd) (n : Nat) : Wd := (List.range n).map fun i => op (wAt a i) (wAt b i)
def cmb (op : BitVec 64 → BitVec 64 → BitVec 64) (a b : Wd) : Wd := trim (cmbL op a b (min (max a.length b.length) 64))
theorem cmbL_len (op : BitVec 64 → BitVec 64 → BitVec 64) (a b : Wd) (n : Nat) : (cmbL op a b n).length = n := by simp [cmbL]
theorem cmbL_succ (op : BitVec 64 → BitVec 64 → BitVec 64) (a b : Wd) (n : Nat) : cmbL op a b (n + 1) = cmbL op a b n ++ [op (wAt a n) (wAt b n)] := by simp [cmbL, List.range_succ]
theorem cmb_len (op : BitVec 64 → BitVec 64 → BitVec 64) (a b : Wd) : (cmb op a b).length ≤ 64 := by
  have := trim_len (cmbL op a b (min (max a.length b.length) 64))
  rw [cmbL_len] at this
  unfold cmb
  omega
theorem cmb_at {op : BitVec 64 → BitVec 64 → BitVec 64} (h0 : op 0#64 0#64 = 0#64) {a b : Wd} (ha : a.length ≤ 64) (hb : b.length ≤ 64) (i : Nat) : wAt (cmb op a b) i = op (wAt a i) (wAt b i) := by
  unfold cmb
  rw [trim_at]
  rcases Nat.lt_or_ge i (min (max a.length b.length) 64) with h | h
  · refine wAt_some ?_
    simp only [cmbL, List.getElem?_map, List.getElem?_range h, Option.map_some]
  · rw [wAt_ge (by rw [cmbL_len]; exact h), wAt_ge (a := a) (by omega), wAt_ge (a := b) (by omega), h0]
def bit (a : Wd) (k : Nat) : Bool := (wAt a (k / 64)).getLsbD (k % 64)
theorem bit_cmb_or {a b : Wd} (ha : a.length ≤ 64) (hb : b.length ≤ 64) (k : Nat) : bit (cmb (· ||| ·) a b) k = (bit a k || bit b k) := by
  unfold bit; rw [cmb_at (by simp) ha hb]; simp
theorem bit_cmb_and {a b : Wd} (ha : a.length ≤ 64) (hb : b.length ≤ 64) (k : Nat) : bit (cmb (· &&& ·) a b) k = (bit a k && bit b k) := by
  unfold bit; rw [cmb_at (by simp) ha hb]; simp
theorem cmb_nil {op : BitVec 64 → BitVec 64 → BitVec 64} (a b : Wd) : (cmb op a b).length = 0 ↔ ∀ k, bit (cmb op a b) k = false := by
  constructor
  · intro h k
    unfold bit
    rw [wAt_ge (by omega)]; simp
  · intro h
    have hl : (cmb op a b).length = trimN (cmbL op a b (min (max a.length b.length) 64)) (min (max a.length b.length) 64) := by
      have := trimN_le (cmbL op a b (min (max a.length b.length) 64)) (min (max a.length b.length) 64)
      unfold cmb trim
      rw [List.length_take, cmbL_len]
      omega
    rcases trimN_top (cmbL op a b (min (max a.length b.length) 64)) (min (max a.length b.length) 64) with e | e
    · rw [hl, e]
    · exfalso
      rw [← trim_at] at e
      apply e
      apply BitVec.eq_of_getLsbD_eq
      intro j hj
      have := h (64 * (trimN (cmbL op a b (min (max a.length b.length) 64)) (min (max a.length b.length) 64) - 1) + j)
      unfold bit at this
      rw [show (64 * (trimN (cmbL op a b (min (max a.length b.length) 64)) (min (max a.length b.length) 64) - 1) + j) / 64 = trimN (cmbL op a b (min (max a.length b.length) 64)) (min (max a.length b.length) 64) - 1 by omega, show (64 * (trimN (cmbL op a b (min (max a.length b.length) 64)) (min (max a.length b.length) 64) - 1) + j) % 64 = j by omega] at this
      unfold cmb at this
      rw [this]; simp
def sing (k : Nat) : Wd := List.replicate (k / 64) 0#64 ++ [BitVec.twoPow 64 (k % 64)]
theorem sing_len (k : Nat) : (sing k).length = k / 64 + 1 := by simp [sing]
theorem bit_sing (k j : Nat) : bit (sing k) j = decide (j = k) := by
  have hj : j % 64 < 64 := Nat.mod_lt _ (by omega)
  unfold bit
  rcases Nat.lt_trichotomy (j / 64) (k / 64) with h | h | h
  · rw [wAt_some (x := 0#64) (by unfold sing; rw [List.getElem?_append_left (by simpa using h)]; simp [h])]
    have : j ≠ k := by rintro rfl; omega
    simp [this]
  · rw [wAt_some (x := BitVec.twoPow 64 (k % 64)) (by unfold sing; rw [List.getElem?_append_right (by simp; omega)]; simp [h])]
    rw [BitVec.getLsbD_twoPow]
    by_cases e : j = k
    · subst e; simp [hj]
    · have : k % 64 ≠ j % 64 := by omega
      simp [e, this]
  · rw [wAt_ge (by rw [sing_len]; omega)]
    have : j ≠ k := by rintro rfl; omega
    simp [this]
def withK (a : Wd) (k : Nat) : Wd := cmb (· ||| ·) a (sing k)
def ofL (l : List Nat) : Wd := l.foldl withK []
theorem ofL_go : ∀ (l : List Nat) (a : Wd), a.length ≤ 64 → (∀ x ∈ l, x < 4096) → (l.foldl withK a).length ≤ 64 ∧ ∀ k, bit (l.foldl withK a) k = (bit a k || decide (k ∈ l))
  | [], a, ha, _ => ⟨ha, by simp⟩
  | x :: l, a, ha, h => by
    have hx := h x (by simp)
    have hs : (sing x).length ≤ 64 := by rw [sing_len]; omega
    obtain ⟨h1, h2⟩ := ofL_go l (withK a x) (cmb_len _ _ _) (fun y hy => h y (by simp [hy]))
    refine ⟨h1, fun k => ?_⟩
    rw [List.foldl_cons, h2, withK, bit_cmb_or ha hs, bit_sing]
    simp [Bool.or_assoc]
theorem ofL_len {l : List Nat} (h : ∀ x ∈ l, x < 4096) : (ofL l).length ≤ 64 := (ofL_go l [] (by simp) h).1
theorem bit_ofL {l : List Nat} (h : ∀ x ∈ l, x < 4096) (k : Nat) : bit (ofL l) k = decide (k ∈ l) := by
  have := (ofL_go l [] (by simp) h).2 k
  unfold ofL
  rw [this]
  simp [bit, wAt]
abbrev wI (a : Wd) : List Int := a.map fun b => ((b.toNat : Nat) : Int)
theorem u64_small {n : Nat} (h : n < 18446744073709551616) : IntKind.u64.wrap (n : Int) = (n : Int) := by
  simp only [IntKind.wrap, IntKind.signed, IntKind.bits]
  simp
  omega
theorem bv_int (b : BitVec 64) : BitVec.ofInt 64 ((b.toNat : Nat) : Int) = b := by
  rw [BitVec.ofInt_natCast]; simp
theorem pbin_and64 (a b : BitVec 64) : pbin .and (.int .u64 ((a.toNat : Nat) : Int)) (.int .u64 ((b.toNat : Nat) : Int)) = some (.int .u64 (((a &&& b).toNat : Nat) : Int)) := by
  have h := u64_small (a &&& b).isLt
  simp only [pbin, toAV0, abin, isShift, binInt, IntKind.bits, bv_int, Bool.false_eq_true, if_false, if_true]
  show some (PV.int .u64 (IntKind.u64.wrap (((a &&& b).toNat : Nat) : Int))) = _
  rw [h]
theorem pbin_or64 (a b : BitVec 64) : pbin .or (.int .u64 ((a.toNat : Nat) : Int)) (.int .u64 ((b.toNat : Nat) : Int)) = some (.int .u64 (((a ||| b).toNat : Nat) : Int)) := by
  have h := u64_small (a ||| b).isLt
  simp only [pbin, toAV0, abin, isShift, binInt, IntKind.bits, bv_int, Bool.false_eq_true, if_false, if_true]
  show some (PV.int .u64 (IntKind.u64.wrap (((a ||| b).toNat : Nat) : Int))) = _
  rw [h]
theorem pbin_shl64 {k : Nat} (h : k < 64) : pbin .shl (.int .u64 1) (.int .i64 (k : Int)) = some (.int .u64 (((BitVec.twoPow 64 k).toNat : Nat) : Int)) := by
  have h2 : (BitVec.twoPow 64 k).toNat = 2 ^ k := by
    rw [BitVec.toNat_twoPow, Nat.mod_eq_of_lt (Nat.pow_lt_pow_right (by omega) h)]
  have h3 := u64_small (n := 2 ^ k) (Nat.pow_lt_pow_right (n := 64) (by omega) h)
  have h4 : min ((k : Int).toNat) 64 = k := by omega
  simp only [pbin, toAV0, abin, isShift, binShift, IntKind.bits, h4, h2]
  rw [if_pos trivial, if_neg (by omega), show (1 : Int) * 2 ^ k = ((2 ^ k : Nat) : Int) by simp, h3]
  rfl
end Go.Am.Ar

