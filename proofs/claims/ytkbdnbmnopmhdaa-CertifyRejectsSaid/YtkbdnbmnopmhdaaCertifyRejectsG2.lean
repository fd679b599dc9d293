/- Contracts: sets of positions as marks (package zielonka), and what goes with it. -/
import Derived.Test.YtkbdnbmnopmhdaaCertifyRejectsG0
import Derived.Test.YtkbdnbmnopmhdaaPmC
import Derived.Test.YtkbdnbmnopmhdaaCertifyRejectsG1
set_option linter.unusedVariables false
set_option linter.unusedSimpArgs false
set_option maxRecDepth 10000
namespace Go.Am.Ar
open Go.Am renaming pchk → P1, pold → P2, PKNo → P3, ppack → P4, PObj.under → P5, pput → P6, ptset → P7, ptget → P8, pev → P9, ofAV → P10, ofAV1 → P11, ppad → P12, pfill → P13, prepl → P14, AO.effect → P15
open List renaming replicate → L1
open Nat renaming reduceAdd → N1, reduceSub → N2, reduceMul → N3, reduceLT → N4, reduceLeDiff → N5, reduceEqDiff → N6, reduceBEq → N7
open Int renaming reduceToNat → I1, reduceLT → I2, reduceLE → I3, reduceEq → I4, reduceAdd → I5, reduceSub → I6, reduceNeg → I7
theorem cutOk_cells (n g v : Nat) (cs : List PV) : cutOk n (.cells g v cs) = underL n cs := rfl
def idxB (v : Bool) : Nat → List Bool → Int
  | _, [] => -1
  | k, x :: l => if v = x then (k : Int) else idxB v (k + 1) l
theorem idxB_iff (v : Bool) : ∀ (l : List Bool) (k : Nat), 0 ≤ idxB v k l ↔ v ∈ l
  | [], k => by simp [idxB]
  | x :: l, k => by
    unfold idxB
    by_cases h : v = x
    · rw [if_pos h]; simp [h]
    · rw [if_neg h, idxB_iff v l (k + 1)]; simp [h]
def minusL (a b : List Bool) (n : Nat) : List Bool := (List.range n).map fun v => a.getD v false && !b.getD v false
theorem minusL_len (a b : List Bool) (n : Nat) : (minusL a b n).length = n := by simp [minusL]
theorem bm_minus {a b : List Bool} {n : Nat} (ha : a.length = n) {v : Nat} : bm (minusL a b n) v ↔ bm a v ∧ ¬ bm b v := by
  unfold bm minusL
  rw [List.getElem?_map]
  by_cases h : v < n
  · rw [List.getElem?_range h]
    simp only [Option.map_some, Option.some.injEq, Bool.and_eq_true, List.getD]
    rw [List.getElem?_eq_getElem (by omega : v < a.length)]
    simp only [Option.getD_some, Option.some.injEq]
    cases hb : b[v]? with
    | none => simp
    | some x => cases x <;> simp
  · rw [List.getElem?_eq_none (by simp; omega), List.getElem?_eq_none (by omega : a.length ≤ v)]
    simp
theorem filter_lt {l : List Nat} {p q : Nat → Bool} (h : ∀ x ∈ l, p x = true → q x = true) {y : Nat} (hy : y ∈ l) (h1 : q y = true) (h2 : p y = false) : (l.filter p).length < (l.filter q).length := by
  have le : ∀ l : List Nat, (∀ x ∈ l, p x = true → q x = true) → (l.filter p).length ≤ (l.filter q).length := by
    intro l
    induction l with
    | nil => intro _; exact Nat.le_refl _
    | cons x l ih =>
      intro h
      have ih := ih fun z hz => h z (by simp [hz])
      by_cases e : p x = true
      · have := h x (by simp) e
        simp only [List.filter_cons, e, this, if_true, List.length_cons]; omega
      · by_cases e2 : q x = true
        · simp only [List.filter_cons, e, e2, if_true, List.length_cons]; simp only [Bool.false_eq_true, if_false]; omega
        · simp only [List.filter_cons, e, e2]; simpa using ih
  induction l with
  | nil => cases hy
  | cons x l ih =>
    have hl := le l fun z hz => h z (by simp [hz])
    rcases List.mem_cons.1 hy with rfl | hy
    · simp only [List.filter_cons, h1, h2, if_true, List.length_cons]
      simp only [Bool.false_eq_true, if_false]; omega
    · have ih := ih (fun z hz => h z (by simp [hz])) hy
      by_cases e : p x = true
      · have := h x (by simp) e
        simp only [List.filter_cons, e, this, if_true, List.length_cons]; omega
      · by_cases e2 : q x = true
        · simp only [List.filter_cons, e, e2, if_true, List.length_cons]; simp only [Bool.false_eq_true, if_false]; omega
        · simp only [List.filter_cons, e, e2]; simpa using ih
theorem count_eq {L : List Bool} {n : Nat} (h : L.length = n) : L.count true = ((List.range n).filter fun v => decide (bm L v)).length := by
  have e : L = (List.range n).map fun v => L.getD v false := by
    apply List.ext_getElem?
    intro v
    by_cases hv : v < n
    · simp [hv, List.getD, List.getElem?_eq_getElem (h ▸ hv : v < L.length)]
    · rw [List.getElem?_eq_none (by omega), List.getElem?_eq_none (by simp; omega)]
  have h2 : L.count true = ((List.range n).map fun v => L.getD v false).count true := congrArg _ e
  rw [h2, List.count, List.countP_map, List.countP_eq_length_filter]
  congr 1
  refine List.filter_congr fun v hv => ?_
  have hv := List.mem_range.1 hv
  show (L.getD v false == true) = decide (bm L v)
  have hg : L[v]? = some L[v] := List.getElem?_eq_getElem (by omega : v < L.length)
  have hb := bm_of hg
  rw [List.getD, hg]
  cases hL : L[v] with
  | true => simp [hb, hL]
  | false => simp [hb, hL]
theorem count_minus {a b : List Bool} {n : Nat} (ha : a.length = n) {v : Nat} (h1 : bm a v) (h2 : bm b v) : (minusL a b n).count true < a.count true := by
  rw [count_eq (minusL_len a b n), count_eq ha]
  refine filter_lt (fun x _ h => decide_eq_true ((bm_minus ha).1 (of_decide_eq_true h)).1) (y := v) (List.mem_range.2 (by have := bm_lt h1; omega)) (decide_eq_true h1) (decide_eq_false fun h => ((bm_minus ha).1 h).2 h2)
theorem mem_bm {L : List Bool} : true ∈ L ↔ ∃ v, bm L v := by
  constructor
  · intro h; obtain ⟨i, hi⟩ := List.getElem?_of_mem h; exact ⟨i, hi⟩
  · rintro ⟨v, h⟩; exact List.mem_of_getElem? h
theorem not_mem_bm {L : List Bool} (h : ¬ true ∈ L) (v : Nat) : ¬ bm L v := fun q => h (mem_bm.2 ⟨v, q⟩)
def SmI (row : List Int) (inL out : List Bool) (i : Nat) (sm : Int) (al : Bool) : Prop :=
  ((sm < 0 ∧ ∀ u ∈ row.take i, ¬ (bm inL u.toNat ∧ bm out u.toNat)) ∨ (0 ≤ sm ∧ sm ∈ row ∧ bm out sm.toNat)) ∧ (al = true ↔ ∀ u ∈ row.take i, bm inL u.toNat → bm out u.toNat)
theorem SmI.al {row : List Int} {inL out : List Bool} {i : Nat} {sm : Int} {al : Bool} (h : SmI row inL out i sm al) {u : Int} (g : row[i]? = some u) {x y : Bool} (hx : inL[u.toNat]? = some x) (hy : out[u.toNat]? = some y) : (al && (!x || y)) = true ↔ ∀ u ∈ row.take (i + 1), bm inL u.toNat → bm out u.toNat := by
  rw [take_some g]
  have h1 : (!x || y) = true ↔ (bm inL u.toNat → bm out u.toNat) := by
    rw [bm_of hx, bm_of hy]
    cases x <;> cases y <;> simp
  rw [Bool.and_eq_true, h.2, h1]
  constructor
  · rintro ⟨q1, q2⟩ w hw
    rcases List.mem_append.1 hw with q | q
    · exact q1 w q
    · rw [List.mem_singleton] at q; subst q; exact q2
  · intro q
    exact ⟨fun w hw => q w (by simp [hw]), q u (by simp)⟩
theorem SmI.keep {row : List Int} {inL out : List Bool} {i : Nat} {sm : Int} {al : Bool} (h : SmI row inL out i sm al) {u : Int} (g : row[i]? = some u) {x y : Bool} (hx : inL[u.toNat]? = some x) (hy : out[u.toNat]? = some y) (hk : (x && y) = false ∨ ¬ sm < 0) : SmI row inL out (i + 1) sm (al && (!x || y)) := by
  refine ⟨?_, h.al g hx hy⟩
  rcases h.1 with ⟨q1, q2⟩ | q
  · refine .inl ⟨q1, fun w hw => ?_⟩
    rw [take_some g] at hw
    rcases List.mem_append.1 hw with q | q
    · exact q2 w q
    · rw [List.mem_singleton] at q; subst q
      rw [bm_of hx, bm_of hy]
      rcases hk with hk | hk
      · rintro ⟨rfl, rfl⟩; cases hk
      · exact absurd q1 hk
  · exact .inr q
theorem SmI.take {row : List Int} {inL out : List Bool} {i : Nat} {sm : Int} {al : Bool} (h : SmI row inL out i sm al) {u : Int} (g : row[i]? = some u) (hu : 0 ≤ u) (hx : inL[u.toNat]? = some true) (hy : out[u.toNat]? = some true) : SmI row inL out (i + 1) u (al && (!true || true)) :=
  ⟨.inr ⟨hu, List.mem_of_getElem? g, (bm_of hy).2 rfl⟩, h.al g hx hy⟩
section
variable {tab : FuncId → Option AF} (T : HasA tab)
include T
theorem indexB_p {M : Mem} {K : PV → Mem → Prop} {f o : Bool} {xs : List Bool} {v : Bool} (hm : xs.length < big) (hk : K (p64 (idxB v 0 xs)) M) :
    SemC tab 76 [slB f o xs, .bool v] M K := by
  refine SemC_pure T.h76 (by simp only [PP, P1, P2, P3, P4, P5, P6, P7, P8, P9, P10, P11, P12, P13, P14, L1, P15, N1, N2, N3, N4, N5, N6, N7, I1, I2, I3, I4, I5, I6, I7, reduceIte, reduceCtorEq]) ?_
  simp only [af76, PP, P1, P2, P3, P4, P5, P6, P7, P8, P9, P10, P11, P12, P13, P14, L1, P15, N1, N2, N3, N4, N5, N6, N7, I1, I2, I3, I4, I5, I6, I7, reduceIte, reduceCtorEq]
  refine loop1 (fun (k : Nat) => k ≤ xs.length ∧ K (p64 (idxB v k (xs.drop k))) M) (fun k => [slB f o xs, .bool v, .junk, .junk, .junk, .junk, .junk, p64 xs.length, p64 k, .junk, .junk, .junk, .junk, .junk, .junk, .junk, .junk, .junk, .junk]) (fun _ => []) (fun k => xs.length - k) 0 ⟨by omega, hk⟩ (by simp only [PWeak_nil, PWeak_junk, PWeak_same, Int.cast_ofNat_Int, List.length_append, List.length_cons, List.length_nil, Nat.zero_add]) rfl ?_
  intro k ⟨hle, hq⟩ ih
  refine SemW_go (by kernel_rfl) ?_
  simp only [PP, P1, P2, P3, P4, P5, P6, P7, P8, P9, P10, P11, P12, P13, P14, L1, P15, N1, N2, N3, N4, N5, N6, N7, I1, I2, I3, I4, I5, I6, I7, reduceIte, reduceCtorEq]
  refine QIf.intro (fun c => ?_) (fun c => ?_)
  · have hk' : k < xs.length := by omega
    obtain ⟨x, g⟩ := some_of hk'
    rw [drop_some g, idxB] at hq
    have hw := wrap_succ (k := k) (by omega)
    have h0 : (0 : Int) ≤ k := by omega
    by_cases h1 : v = x
    · subst h1
      rw [if_pos rfl] at hq
      simp only [PP, P1, P2, P3, P4, P5, P6, P7, P8, P9, P10, P11, P12, P13, P14, L1, P15, N1, N2, N3, N4, N5, N6, N7, I1, I2, I3, I4, I5, I6, I7, reduceIte, reduceCtorEq, c, g, h0]
      exact hq
    · rw [if_neg h1] at hq
      have hb : (v == x) = false := by simpa using h1
      simp only [PP, P1, P2, P3, P4, P5, P6, P7, P8, P9, P10, P11, P12, P13, P14, L1, P15, N1, N2, N3, N4, N5, N6, N7, I1, I2, I3, I4, I5, I6, I7, reduceIte, reduceCtorEq, c, g, h0, hb, hw]
      exact SemW_weak (ih (k + 1) ⟨by omega, hq⟩ (by omega)) (by simp only [PWeak_nil, PWeak_junk, PWeak_same, Int.cast_ofNat_Int, List.length_append, List.length_cons, List.length_nil, Nat.zero_add])
  · rw [List.drop_eq_nil_of_le (by omega)] at hq
    simp only [PP, P1, P2, P3, P4, P5, P6, P7, P8, P9, P10, P11, P12, P13, P14, L1, P15, N1, N2, N3, N4, N5, N6, N7, I1, I2, I3, I4, I5, I6, I7, reduceIte, reduceCtorEq, c]
    exact hq
theorem containsB_p {M : Mem} {K : PV → Mem → Prop} {f o : Bool} {xs : List Bool} {v : Bool} (hm : xs.length < big) (hk : K (.bool (decide (v ∈ xs))) M) :
    SemC tab 75 [slB f o xs, .bool v] M K := by
  refine SemC_pure T.h75 (by simp only [PP, P1, P2, P3, P4, P5, P6, P7, P8, P9, P10, P11, P12, P13, P14, L1, P15, N1, N2, N3, N4, N5, N6, N7, I1, I2, I3, I4, I5, I6, I7, reduceIte, reduceCtorEq]) ?_
  simp only [af75, PP, P1, P2, P3, P4, P5, P6, P7, P8, P9, P10, P11, P12, P13, P14, L1, P15, N1, N2, N3, N4, N5, N6, N7, I1, I2, I3, I4, I5, I6, I7, reduceIte, reduceCtorEq]
  refine indexB_p T hm ?_
  have e : decide (0 ≤ idxB v 0 xs) = decide (v ∈ xs) := by simp only [idxB_iff]
  simp only [PP, P1, P2, P3, P4, P5, P6, P7, P8, P9, P10, P11, P12, P13, P14, L1, P15, N1, N2, N3, N4, N5, N6, N7, I1, I2, I3, I4, I5, I6, I7, reduceIte, reduceCtorEq, e]
  exact hk
theorem empty_p {M : Mem} {K : PV → Mem → Prop} {f o : Bool} {xs : List Bool} (hm : xs.length < big) (hk : K (.bool (!decide (true ∈ xs))) M) :
    SemC tab 69 [slB f o xs] M K := by
  refine SemC_pure T.h69 (by simp only [PP, P1, P2, P3, P4, P5, P6, P7, P8, P9, P10, P11, P12, P13, P14, L1, P15, N1, N2, N3, N4, N5, N6, N7, I1, I2, I3, I4, I5, I6, I7, reduceIte, reduceCtorEq]) ?_
  simp only [af69, PP, P1, P2, P3, P4, P5, P6, P7, P8, P9, P10, P11, P12, P13, P14, L1, P15, N1, N2, N3, N4, N5, N6, N7, I1, I2, I3, I4, I5, I6, I7, reduceIte, reduceCtorEq]
  refine containsB_p T hm ?_
  simp only [PP, P1, P2, P3, P4, P5, P6, P7, P8, P9, P10, P11, P12, P13, P14, L1, P15, N1, N2, N3, N4, N5, N6, N7, I1, I2, I3, I4, I5, I6, I7, reduceIte, reduceCtorEq]
  exact hk
theorem minus_z {M : Mem} {K : PV → Mem → Prop} {f o f' o' : Bool} {a b : List Bool} {n : Nat} (ha : a.length = n) (hb : b.length = n) (hm : n < 1000000) (hk : K (slB false true (minusL a b n)) M) :
    SemC tab 67 [slB f o a, slB f' o' b] M K := by
  refine SemC_pure T.h67 (by simp only [PP, P1, P2, P3, P4, P5, P6, P7, P8, P9, P10, P11, P12, P13, P14, L1, P15, N1, N2, N3, N4, N5, N6, N7, I1, I2, I3, I4, I5, I6, I7, reduceIte, reduceCtorEq]) ?_
  have b0 : (0 : Int) ≤ n := by omega
  have b1 : (n : Int) * 1 ≤ 140737488355328 := by omega
  have b2 : (n : Int) ≤ 9223372036854775807 := by omega
  simp only [af67, PP, P1, P2, P3, P4, P5, P6, P7, P8, P9, P10, P11, P12, P13, P14, L1, P15, N1, N2, N3, N4, N5, N6, N7, I1, I2, I3, I4, I5, I6, I7, reduceIte, reduceCtorEq, ha, b0, b1, b2, Int.le_refl]
  refine loop3 (fun (k ver : Nat) (w : List Bool) => k ≤ n ∧ w.length = n ∧ ∀ v, v < k → w[v]? = some (a.getD v false && !b.getD v false))
    (fun k ver w => [slB f o a, slB f' o' b, .junk, .junk, .junk, .ref 0 0 1 0 n, .junk, .junk, .junk, .junk, .junk, p64 n, p64 k, .junk, .junk, .junk, .junk, .junk, .junk, .junk, .junk, .junk, .junk, .junk, .junk, .junk, .junk, .junk, .junk, .junk, .junk]) (fun k ver w => [.cells 0 ver (w.map PV.bool)]) (fun k _ _ => n - k) 0 0 (List.replicate n false) ⟨by omega, by simp, by intro v h; omega⟩ (by simp only [PWeak_nil, PWeak_junk, PWeak_same, Int.cast_ofNat_Int, List.length_append, List.length_cons, List.length_nil, Nat.zero_add]) (by simp only [List.map_replicate]) ?_
  intro k ver w ⟨hle, hw, hget⟩ ih
  refine SemW_go (by kernel_rfl) ?_
  simp only [PP, P1, P2, P3, P4, P5, P6, P7, P8, P9, P10, P11, P12, P13, P14, L1, P15, N1, N2, N3, N4, N5, N6, N7, I1, I2, I3, I4, I5, I6, I7, reduceIte, reduceCtorEq]
  refine QIf.intro (fun c => ?_) (fun c => ?_)
  · have hk' : k < n := by omega
    obtain ⟨x, g1⟩ := some_of (xs := a) (k := k) (by omega)
    obtain ⟨y, g2⟩ := some_of (xs := b) (k := k) (by omega)
    have ea : a.getD k false = x := by simp [List.getD, g1]
    have eb : b.getD k false = y := by simp [List.getD, g2]
    have hwk := wrap_succ (k := k) (by show _ < 1000000000000; omega)
    have k0 : (0 : Int) ≤ k := by omega
    have k1 : k + 1 ≤ w.length := by omega
    have up : ∀ z, z = (x && !y) → k + 1 ≤ n ∧ (w.set k z).length = n ∧ ∀ v, v < k + 1 → (w.set k z)[v]? = some (a.getD v false && !b.getD v false) := fun z hz => by
      refine ⟨by omega, by simp [hw], fun v hv => ?_⟩
      by_cases e : v = k
      · subst e; rw [List.getElem?_set_self (by omega), ea, eb, hz]
      · rw [List.getElem?_set_ne (by omega)]; exact hget v (by omega)
    cases x
    · simp only [PP, P1, P2, P3, P4, P5, P6, P7, P8, P9, P10, P11, P12, P13, P14, L1, P15, N1, N2, N3, N4, N5, N6, N7, I1, I2, I3, I4, I5, I6, I7, reduceIte, reduceCtorEq, c, g1, k0, k1, ha, hb, hwk]
      exact SemW_to (ih (k + 1) (ver + 1) (w.set k false) (up _ rfl) (by omega)) (by simp only [PWeak_nil, PWeak_junk, PWeak_same, Int.cast_ofNat_Int, List.length_append, List.length_cons, List.length_nil, Nat.zero_add]) (by simp only [← List.map_set])
    · cases y
      · simp only [PP, P1, P2, P3, P4, P5, P6, P7, P8, P9, P10, P11, P12, P13, P14, L1, P15, N1, N2, N3, N4, N5, N6, N7, I1, I2, I3, I4, I5, I6, I7, reduceIte, reduceCtorEq, c, g1, g2, k0, k1, ha, hb, hwk]
        exact SemW_to (ih (k + 1) (ver + 1) (w.set k true) (up _ rfl) (by omega)) (by simp only [PWeak_nil, PWeak_junk, PWeak_same, Int.cast_ofNat_Int, List.length_append, List.length_cons, List.length_nil, Nat.zero_add]) (by simp only [← List.map_set])
      · simp only [PP, P1, P2, P3, P4, P5, P6, P7, P8, P9, P10, P11, P12, P13, P14, L1, P15, N1, N2, N3, N4, N5, N6, N7, I1, I2, I3, I4, I5, I6, I7, reduceIte, reduceCtorEq, c, g1, g2, k0, k1, ha, hb, hwk]
        exact SemW_to (ih (k + 1) (ver + 1) (w.set k false) (up _ rfl) (by omega)) (by simp only [PWeak_nil, PWeak_junk, PWeak_same, Int.cast_ofNat_Int, List.length_append, List.length_cons, List.length_nil, Nat.zero_add]) (by simp only [← List.map_set])
  · have hkn : k = n := by omega
    subst hkn
    have hwm : w = minusL a b k := by
      apply List.ext_getElem?
      intro v
      by_cases hv : v < k
      · rw [hget v hv]; simp [minusL, hv]
      · rw [List.getElem?_eq_none (by omega), List.getElem?_eq_none (by rw [minusL_len]; omega)]
    subst hwm
    have hfz : frzO (some (PObj.cells 0 ver ((minusL a b k).map PV.bool))) 0 1 0 k = some (slB false true (minusL a b k)) := by
      rw [frzO_cells (by rw [List.length_map, minusL_len]; omega) (underL_map _ _ (fun _ => rfl) _), psub_all _ _ (by rw [List.length_map, minusL_len]; omega)]
      unfold slB
      rw [minusL_len]
    simp only [PP, P1, P2, P3, P4, P5, P6, P7, P8, P9, P10, P11, P12, P13, P14, L1, P15, N1, N2, N3, N4, N5, N6, N7, I1, I2, I3, I4, I5, I6, I7, reduceIte, reduceCtorEq, c, hfz]
    exact hk
end
end Go.Am.Ar
set_option linter.unusedVariables false
set_option linter.unusedSimpArgs false
set_option maxRecDepth 10000
namespace Go.Am.Ar
open Go.Am renaming pchk → P1, pold → P2, PKNo → P3, ppack → P4, PObj.under → P5, pput → P6, ptset → P7, ptget → P8, pev → P9, ofAV → P10, ofAV1 → P11, ppad → P12, pfill → P13, prepl → P14, AO.effect → P15
open List renaming replicate → L1
open Nat renaming reduceAdd → N1, reduceSub → N2, reduceMul → N3, reduceLT → N4, reduceLeDiff → N5, reduceEqDiff → N6, reduceBEq → N7
open Int renaming reduceToNat → I1, reduceLT → I2, reduceLE → I3, reduceEq → I4, reduceAdd → I5, reduceSub → I6, reduceNeg → I7
abbrev zO (ow : List Int) (v : Nat) : Int := ow.getD v 0
abbrev zSol (f1 p1 f2 p2 f3 p3 f4 p4 : Bool) (ow pr : List Int) (su : List (List Int)) : List PV := [slI f1 p1 .u8 ow, slI f2 p2 .i64 pr, slR f3 p3 f4 p4 .i64 su, .ref 2 0 1 0 ow.length]
structure ZSt where
  ver : Nat
  ver2 : Nat
  st : List Int
  out : List Bool
  r : Nat → Nat
  c : Nat
theorem cnt_le (l : List Bool) : l.count true ≤ l.length := List.count_le_length
section
variable {tab : FuncId → Option AF} (T : HasA tab)
include T
theorem attract_z {K : PV → Mem → Prop} {o0 o1 : PObj} {f1 p1 f2 p2 f3 p3 f4 p4 f5 p5 f6 p6 : Bool} {ow pr st0 : List Int} {su : List (List Int)} {inL tgt : List Bool} {p : Int} {ver0 : Nat} (V : Valid ow pr su) (B : Bnd ow pr su)
    (h0 : cutOk 4 o0 = true) (h1 : cutOk 4 o1 = true) (hi : inL.length = ow.length) (ht : tgt.length = ow.length) (hs : st0.length = ow.length) (hs0 : ∀ x ∈ st0, 0 ≤ x) (hti : ∀ v, bm tgt v → bm inL v)
    (hk : ∀ ver out st r, out.length = ow.length → st.length = ow.length → (∀ x ∈ st, 0 ≤ x) → AttIn (zO ow) (Sf su) (bm inL) p (bm tgt) (bm out) (stN st0) (stN st) r →
      K (slB false true out) [o0, o1, .cells 0 ver (st.map (PV.int .i64)), .cells 0 0 (zSol f1 p1 f2 p2 f3 p3 f4 p4 ow pr su)]) :
    SemC tab 68 [.ptr 3 0 0, slB f5 p5 inL, p8 p, slB f6 p6 tgt] [o0, o1, .cells 0 ver0 (st0.map (PV.int .i64)), .cells 0 0 (zSol f1 p1 f2 p2 f3 p3 f4 p4 ow pr su)] K := by
  refine SemC_gh (SemC_fn T.h68 ?_)
  have n0 := V.n0
  have n1 := V.n1
  have hsl := V.s
  have b1 : ow.length ≤ 140737488355328 := by omega
  have b2 : ow.length ≤ 9223372036854775807 := by omega
  have nz : ¬ ow.length = 0 := by omega
  simp only [af68, PP, P1, P2, P3, P4, P5, P6, P7, P8, P9, P10, P11, P12, P13, P14, L1, P15, N1, N2, N3, N4, N5, N6, N7, I1, I2, I3, I4, I5, I6, I7, reduceIte, reduceCtorEq]
  refine SemC_fn T.h71 ?_
  simp only [af71, PP, P1, P2, P3, P4, P5, P6, P7, P8, P9, P10, P11, P12, P13, P14, L1, P15, N1, N2, N3, N4, N5, N6, N7, I1, I2, I3, I4, I5, I6, I7, reduceIte, reduceCtorEq, ht, nz, b1, b2]
  refine loop1 (fun (s : ZSt) => AJ (zO ow) (Sf su) (bm inL) (bm tgt) p (stN st0) ow.length s.out s.st s.r s.c)
    (fun s => [.ptr 3 0 0, slB f5 p5 inL, p8 p, .junk, .junk, .junk, .junk, .junk, .junk, .ref 4 0 1 0 ow.length, .junk, .junk, .junk, .junk, .junk, .junk, .junk, .junk, .junk, .junk, .junk, .junk, .junk, .junk, .junk, .junk, .junk, .junk, .junk, .junk, .junk, .junk, .junk, .junk, .junk, .junk, .junk, .junk, .junk, .junk, .junk, .junk, .junk, .junk, .junk, .junk, .junk, .junk, .junk, .junk, .junk, .junk, .junk, .junk, .junk, .junk, .junk, .junk, .junk, .junk, .junk, .junk, .junk, .junk, .junk, .junk, .junk, .junk, .junk, .junk, .junk, .junk, .junk, .junk, .junk, .junk, .junk, .junk, .junk, .junk, .junk, .junk, .junk, .junk, .junk, .junk, .junk, .junk, .junk, .junk, .junk, .junk, .junk, .junk, .junk, .junk, .junk, .junk, .junk, .junk, .junk, .junk, .junk, .junk, .junk, .junk, .junk, .junk, .junk, .junk, .junk, .junk, .junk, .junk, .junk, .junk, .junk, .junk, .junk]) (fun s => [o0, o1, .cells 0 s.ver (s.st.map (PV.int .i64)), .cells 0 0 (zSol f1 p1 f2 p2 f3 p3 f4 p4 ow pr su), .cells 0 s.ver2 (s.out.map PV.bool)]) (fun s => ow.length - s.out.count true)
    ⟨ver0, 0, st0, tgt, fun _ => 0, 1⟩ (AJ.start ht hs hs0 hti) (by simp only [PWeak_nil, PWeak_junk, PWeak_same, Int.cast_ofNat_Int, List.length_append, List.length_cons, List.length_nil, Nat.zero_add]) rfl ?_
  intro s0 J0 ih
  refine SemW_go (by kernel_rfl) ?_
  simp only [PP, P1, P2, P3, P4, P5, P6, P7, P8, P9, P10, P11, P12, P13, P14, L1, P15, N1, N2, N3, N4, N5, N6, N7, I1, I2, I3, I4, I5, I6, I7, reduceIte, reduceCtorEq]
  refine loop3 (fun (s : ZSt) (v : Nat) (ch : Bool) => v ≤ ow.length ∧ AJ (zO ow) (Sf su) (bm inL) (bm tgt) p (stN st0) ow.length s.out s.st s.r s.c ∧ (ch = true → s0.out.count true < s.out.count true) ∧ s0.out.count true ≤ s.out.count true ∧ (ch = false → ∀ w, w < v → Stab (zO ow) (Sf su) (bm inL) p s.out w))
    (fun s v ch => [.ptr 3 0 0, slB f5 p5 inL, p8 p, .junk, .junk, .junk, .junk, .junk, .junk, .ref 4 0 1 0 ow.length, .bool ch, .junk, .junk, .junk, .junk, .junk, .junk, .junk, .junk, .junk, .junk, .junk, .junk, slR f3 p3 f4 p4 .i64 su, p64 su.length, p64 v, .junk, .junk, .junk, .junk, .junk, .junk, .junk, .junk, .junk, .junk, .junk, .junk, .junk, .junk, .junk, .junk, .junk, .junk, .junk, .junk, .junk, .junk, .junk, .junk, .junk, .junk, .junk, .junk, .junk, .junk, .junk, .junk, .junk, .junk, .junk, .junk, .junk, .junk, .junk, .junk, .junk, .junk, .junk, .junk, .junk, .junk, .junk, .junk, .junk, .junk, .junk, .junk, .junk, .junk, .junk, .junk, .junk, .junk, .junk, .junk, .junk, .junk, .junk, .junk, .junk, .junk, .junk, .junk, .junk, .junk, .junk, .junk, .junk, .junk, .junk, .junk, .junk, .junk, .junk, .junk, .junk, .junk, .junk, .junk, .junk, .junk, .junk, .junk, .junk, .junk, .junk, .junk, .junk]) (fun s _ _ => [o0, o1, .cells 0 s.ver (s.st.map (PV.int .i64)), .cells 0 0 (zSol f1 p1 f2 p2 f3 p3 f4 p4 ow pr su), .cells 0 s.ver2 (s.out.map PV.bool)]) (fun _ v _ => ow.length - v)
    s0 0 false ⟨by omega, J0, fun h => (by cases h), Nat.le_refl _, fun _ w hw => by omega⟩ (by simp only [PWeak_nil, PWeak_junk, PWeak_same, Int.cast_ofNat_Int, List.length_append, List.length_cons, List.length_nil, Nat.zero_add]) rfl ?_
  intro s v ch ⟨hle, J, hch, hcn, hst⟩ ih2
  have jo := J.lo
  have js := J.ls
  refine SemW_go (by kernel_rfl) ?_
  simp only [PP, P1, P2, P3, P4, P5, P6, P7, P8, P9, P10, P11, P12, P13, P14, L1, P15, N1, N2, N3, N4, N5, N6, N7, I1, I2, I3, I4, I5, I6, I7, reduceIte, reduceCtorEq]
  refine QIf.intro (fun c => ?_) (fun c => ?_)
  · have hv : v < ow.length := by omega
    have v0 : (0 : Int) ≤ v := by omega
    have hwv := wrap_succ (k := v) (by show _ < 1000000000000; omega)
    obtain ⟨row, g1⟩ := some_of (xs := su) (k := v) (by omega)
    obtain ⟨o, g2⟩ := some_of (xs := ow) (k := v) hv
    obtain ⟨x, g3⟩ := some_of (xs := inL) (k := v) (by omega)
    obtain ⟨y, g4⟩ := some_of (xs := s.out) (k := v) (by omega)
    have e1 : su.getD v [] = row := by simp [List.getD, g1]
    have eo : zO ow v = o := getD_some g2
    have eS : Sf su v = row.map Int.toNat := by unfold Sf; rw [e1]
    have hrb : row.length < 1000000000000 := B.r _ (List.mem_of_getElem? g1)
    have rr : ∀ u ∈ row, 0 ≤ u ∧ u < ow.length := fun u hu => su_range V hv (by rw [e1]; exact hu)
    have v1 : (v : Int) < inL.length := by omega
    have v2 : (v : Int) < ow.length := by omega
    -- nothing is added
    have skip : Stab (zO ow) (Sf su) (bm inL) p s.out v → (v + 1 ≤ ow.length ∧ AJ (zO ow) (Sf su) (bm inL) (bm tgt) p (stN st0) ow.length s.out s.st s.r s.c ∧ (ch = true → s0.out.count true < s.out.count true) ∧ s0.out.count true ≤ s.out.count true ∧ (ch = false → ∀ w, w < v + 1 → Stab (zO ow) (Sf su) (bm inL) p s.out w)) := fun h =>
      ⟨by omega, J, hch, hcn, fun e w hw => by
        by_cases q : w = v
        · subst q; exact h
        · exact hst e w (by omega)⟩
    simp only [PP, P1, P2, P3, P4, P5, P6, P7, P8, P9, P10, P11, P12, P13, P14, L1, P15, N1, N2, N3, N4, N5, N6, N7, I1, I2, I3, I4, I5, I6, I7, reduceIte, reduceCtorEq, c, g1, g3, v0, v1, hi, v2]
    cases x
    · simp only [PP, P1, P2, P3, P4, P5, P6, P7, P8, P9, P10, P11, P12, P13, P14, L1, P15, N1, N2, N3, N4, N5, N6, N7, I1, I2, I3, I4, I5, I6, I7, reduceIte, reduceCtorEq, hwv]
      exact SemW_weak (ih2 s (v + 1) ch (skip fun h => by rw [bm_of g3] at h; cases h) (by omega)) (by simp only [PWeak_nil, PWeak_junk, PWeak_same, Int.cast_ofNat_Int, List.length_append, List.length_cons, List.length_nil, Nat.zero_add])
    simp only [PP, P1, P2, P3, P4, P5, P6, P7, P8, P9, P10, P11, P12, P13, P14, L1, P15, N1, N2, N3, N4, N5, N6, N7, I1, I2, I3, I4, I5, I6, I7, reduceIte, reduceCtorEq, g4, v0, v2, jo]
    cases y
    rotate_left
    · simp only [PP, P1, P2, P3, P4, P5, P6, P7, P8, P9, P10, P11, P12, P13, P14, L1, P15, N1, N2, N3, N4, N5, N6, N7, I1, I2, I3, I4, I5, I6, I7, reduceIte, reduceCtorEq, hwv]
      exact SemW_weak (ih2 s (v + 1) ch (skip fun _ h => absurd ((bm_of g4).2 rfl) h) (by omega)) (by simp only [PWeak_nil, PWeak_junk, PWeak_same, Int.cast_ofNat_Int, List.length_append, List.length_cons, List.length_nil, Nat.zero_add])
    simp only [PP, P1, P2, P3, P4, P5, P6, P7, P8, P9, P10, P11, P12, P13, P14, L1, P15, N1, N2, N3, N4, N5, N6, N7, I1, I2, I3, I4, I5, I6, I7, reduceIte, reduceCtorEq]
    have hbi : bm inL v := (bm_of g3).2 rfl
    have hbo : ¬ bm s.out v := fun h => by rw [bm_of g4] at h; cases h
    refine loop3 (fun (i : Nat) (sm : Int) (al : Bool) => i ≤ row.length ∧ SmI row inL s.out i sm al)
      (fun i sm al => [.ptr 3 0 0, slB f5 p5 inL, p8 p, .junk, .junk, .junk, .junk, .junk, .junk, .ref 4 0 1 0 ow.length, .bool ch, p64 v, .junk, p64 sm, .bool al, .junk, .junk, .junk, .junk, .junk, .junk, .junk, .junk, slR f3 p3 f4 p4 .i64 su, p64 su.length, p64 v, .junk, .junk, .junk, .junk, .junk, .junk, .junk, .junk, .junk, .junk, .junk, .junk, .junk, .junk, .junk, slI f4 p4 .i64 row, p64 row.length, p64 i, .junk, .junk, .junk, .junk, .junk, .junk, .junk, .junk, .junk, .junk, .junk, .junk, .junk, .junk, .junk, .junk, .junk, .junk, .junk, .junk, .junk, .junk, .junk, .junk, .junk, .junk, .junk, .junk, .junk, .junk, .junk, .junk, .junk, .junk, .junk, .junk, .junk, .junk, .junk, .junk, .junk, .junk, .junk, .junk, .junk, .junk, .junk, .junk, .junk, .junk, .junk, .junk, .junk, .junk, .junk, .junk, .junk, .junk, .junk, .junk, .junk, .junk, .junk, .junk, .junk, .junk, .junk, .junk, .junk, .junk, .junk, .junk, .junk, .junk, .junk]) (fun _ _ _ => [o0, o1, .cells 0 s.ver (s.st.map (PV.int .i64)), .cells 0 0 (zSol f1 p1 f2 p2 f3 p3 f4 p4 ow pr su), .cells 0 s.ver2 (s.out.map PV.bool)]) (fun i _ _ => row.length - i)
      0 (-1) true ⟨by omega, .inl ⟨by omega, by simp⟩, by simp⟩ (by simp only [PWeak_nil, PWeak_junk, PWeak_same, Int.cast_ofNat_Int, List.length_append, List.length_cons, List.length_nil, Nat.zero_add]) rfl ?_
    intro i sm al ⟨hil, hI⟩ ih3
    refine SemW_go (by kernel_rfl) ?_
    simp only [PP, P1, P2, P3, P4, P5, P6, P7, P8, P9, P10, P11, P12, P13, P14, L1, P15, N1, N2, N3, N4, N5, N6, N7, I1, I2, I3, I4, I5, I6, I7, reduceIte, reduceCtorEq]
    refine QIf.intro (fun d => ?_) (fun d => ?_)
    · have hi3 : i < row.length := by omega
      have i0 : (0 : Int) ≤ i := by omega
      have hwi := wrap_succ (k := i) (by show _ < 1000000000000; omega)
      obtain ⟨u, g5⟩ := some_of hi3
      obtain ⟨u0, u1⟩ := rr u (List.mem_of_getElem? g5)
      obtain ⟨x, g6⟩ := some_of (xs := inL) (k := u.toNat) (by omega)
      obtain ⟨y, g7⟩ := some_of (xs := s.out) (k := u.toNat) (by omega)
      simp only [PP, P1, P2, P3, P4, P5, P6, P7, P8, P9, P10, P11, P12, P13, P14, L1, P15, N1, N2, N3, N4, N5, N6, N7, I1, I2, I3, I4, I5, I6, I7, reduceIte, reduceCtorEq, d, g5, i0, g6, u0, u1, hi]
      cases x
      · have hn : SmI row inL s.out (i + 1) sm al := by simpa only [Bool.not_false, Bool.true_or, Bool.and_true] using hI.keep g5 g6 g7 (.inl rfl)
        cases al <;> simp only [PP, P1, P2, P3, P4, P5, P6, P7, P8, P9, P10, P11, P12, P13, P14, L1, P15, N1, N2, N3, N4, N5, N6, N7, I1, I2, I3, I4, I5, I6, I7, reduceIte, reduceCtorEq, g6, g7, u0, u1, hi, jo, hwi] <;> exact SemW_weak (ih3 (i + 1) sm _ ⟨by omega, hn⟩ (by omega)) (by simp only [PWeak_nil, PWeak_junk, PWeak_same, Int.cast_ofNat_Int, List.length_append, List.length_cons, List.length_nil, Nat.zero_add])
      cases y
      · have hn : SmI row inL s.out (i + 1) sm false := by simpa only [Bool.not_true, Bool.or_false, Bool.and_false] using hI.keep g5 g6 g7 (.inl rfl)
        cases al <;> simp only [PP, P1, P2, P3, P4, P5, P6, P7, P8, P9, P10, P11, P12, P13, P14, L1, P15, N1, N2, N3, N4, N5, N6, N7, I1, I2, I3, I4, I5, I6, I7, reduceIte, reduceCtorEq, g6, g7, u0, u1, hi, jo, hwi] <;> exact SemW_weak (ih3 (i + 1) sm _ ⟨by omega, hn⟩ (by omega)) (by simp only [PWeak_nil, PWeak_junk, PWeak_same, Int.cast_ofNat_Int, List.length_append, List.length_cons, List.length_nil, Nat.zero_add])
      simp only [PP, P1, P2, P3, P4, P5, P6, P7, P8, P9, P10, P11, P12, P13, P14, L1, P15, N1, N2, N3, N4, N5, N6, N7, I1, I2, I3, I4, I5, I6, I7, reduceIte, reduceCtorEq, g6, g7, u0, u1, hi, jo]
      refine QIf.intro (fun q => ?_) (fun q => ?_)
      · have hn : SmI row inL s.out (i + 1) u al := by simpa only [Bool.or_true, Bool.and_true] using hI.take g5 u0 g6 g7
        cases al <;> simp only [PP, P1, P2, P3, P4, P5, P6, P7, P8, P9, P10, P11, P12, P13, P14, L1, P15, N1, N2, N3, N4, N5, N6, N7, I1, I2, I3, I4, I5, I6, I7, reduceIte, reduceCtorEq, q, g6, g7, u0, u1, hi, jo, hwi] <;> exact SemW_weak (ih3 (i + 1) u _ ⟨by omega, hn⟩ (by omega)) (by simp only [PWeak_nil, PWeak_junk, PWeak_same, Int.cast_ofNat_Int, List.length_append, List.length_cons, List.length_nil, Nat.zero_add])
      · have hn : SmI row inL s.out (i + 1) sm al := by simpa only [Bool.or_true, Bool.and_true] using hI.keep g5 g6 g7 (.inr q)
        cases al <;> simp only [PP, P1, P2, P3, P4, P5, P6, P7, P8, P9, P10, P11, P12, P13, P14, L1, P15, N1, N2, N3, N4, N5, N6, N7, I1, I2, I3, I4, I5, I6, I7, reduceIte, reduceCtorEq, q, g6, g7, u0, u1, hi, jo, hwi] <;> exact SemW_weak (ih3 (i + 1) sm _ ⟨by omega, hn⟩ (by omega)) (by simp only [PWeak_nil, PWeak_junk, PWeak_same, Int.cast_ofNat_Int, List.length_append, List.length_cons, List.length_nil, Nat.zero_add])
    · unfold SmI at hI
      rw [List.take_of_length_le (by omega)] at hI
      obtain ⟨hsm, hal⟩ := hI
      have st1 : v + 1 ≤ s.st.length := by omega
      have st3 : v + 1 ≤ ow.length := hv
      have st2 : v + 1 ≤ s.out.length := by omega
      have cnt := count_add g4
      have hmem : ∀ u ∈ row, u.toNat ∈ Sf su v := fun u hu => by rw [eS]; exact List.mem_map.2 ⟨u, hu, rfl⟩
      simp only [PP, P1, P2, P3, P4, P5, P6, P7, P8, P9, P10, P11, P12, P13, P14, L1, P15, N1, N2, N3, N4, N5, N6, N7, I1, I2, I3, I4, I5, I6, I7, reduceIte, reduceCtorEq, d, g2, v0, v2]
      refine QIf.intro (fun q => ?_) (fun q => ?_)
      · simp only [PP, P1, P2, P3, P4, P5, P6, P7, P8, P9, P10, P11, P12, P13, P14, L1, P15, N1, N2, N3, N4, N5, N6, N7, I1, I2, I3, I4, I5, I6, I7, reduceIte, reduceCtorEq, q]
        refine QIf.intro (fun q2 => ?_) (fun q2 => ?_)
        · rcases hsm with ⟨q3, _⟩ | ⟨q3, q4, q5⟩
          · omega
          have J2 := J.addOwn hv hbo hbi (by rw [eo]; exact q) q3 (hmem _ q4) q5
          simp only [PP, P1, P2, P3, P4, P5, P6, P7, P8, P9, P10, P11, P12, P13, P14, L1, P15, N1, N2, N3, N4, N5, N6, N7, I1, I2, I3, I4, I5, I6, I7, reduceIte, reduceCtorEq, q, q2, v0, v2, js, jo, st3, hwv]
          refine SemW_to (ih2 ⟨s.ver + 1, s.ver2 + 1, s.st.set v sm, s.out.set v true, _, s.c + 1⟩ (v + 1) true ⟨by omega, J2, fun _ => by show _ < (s.out.set v true).count true; omega, by show _ ≤ (s.out.set v true).count true; omega, fun h => by cases h⟩ (by omega)) (by simp only [PWeak_nil, PWeak_junk, PWeak_same, Int.cast_ofNat_Int, List.length_append, List.length_cons, List.length_nil, Nat.zero_add]) (by simp only [← List.map_set])
        · rcases hsm with ⟨q3, q4⟩ | ⟨q3, _⟩
          rotate_left
          · omega
          simp only [PP, P1, P2, P3, P4, P5, P6, P7, P8, P9, P10, P11, P12, P13, P14, L1, P15, N1, N2, N3, N4, N5, N6, N7, I1, I2, I3, I4, I5, I6, I7, reduceIte, reduceCtorEq, q, q2, g2, v0, v2, hwv]
          refine SemW_weak (ih2 s (v + 1) ch (skip fun _ _ => ⟨fun _ u hu => ?_, fun h => absurd (by rw [eo]; exact q) h⟩) (by omega)) (by simp only [PWeak_nil, PWeak_junk, PWeak_same, Int.cast_ofNat_Int, List.length_append, List.length_cons, List.length_nil, Nat.zero_add])
          rw [eS] at hu
          obtain ⟨y, hy, rfl⟩ := List.mem_map.1 hu
          exact fun h => q4 y hy ⟨J.sub _ h, h⟩
      · simp only [PP, P1, P2, P3, P4, P5, P6, P7, P8, P9, P10, P11, P12, P13, P14, L1, P15, N1, N2, N3, N4, N5, N6, N7, I1, I2, I3, I4, I5, I6, I7, reduceIte, reduceCtorEq, q, g2, v0, v2]
        cases al
        · simp only [PP, P1, P2, P3, P4, P5, P6, P7, P8, P9, P10, P11, P12, P13, P14, L1, P15, N1, N2, N3, N4, N5, N6, N7, I1, I2, I3, I4, I5, I6, I7, reduceIte, reduceCtorEq, hwv]
          refine SemW_weak (ih2 s (v + 1) ch (skip fun _ _ => ⟨fun h => absurd (by rw [← eo]; exact h) q, fun _ => ?_⟩) (by omega)) (by simp only [PWeak_nil, PWeak_junk, PWeak_same, Int.cast_ofNat_Int, List.length_append, List.length_cons, List.length_nil, Nat.zero_add])
          refine Classical.byContradiction fun hn => ?_
          have := hal.2 fun u hu hin => Classical.byContradiction fun ho => hn ⟨u.toNat, hmem u hu, hin, ho⟩
          cases this
        · have J2 := J.addOpp hv hbo hbi (by rw [eo]; exact q) fun u hu hin => by
            rw [eS] at hu
            obtain ⟨y, hy, rfl⟩ := List.mem_map.1 hu
            exact hal.1 rfl y hy hin
          simp only [PP, P1, P2, P3, P4, P5, P6, P7, P8, P9, P10, P11, P12, P13, P14, L1, P15, N1, N2, N3, N4, N5, N6, N7, I1, I2, I3, I4, I5, I6, I7, reduceIte, reduceCtorEq, v0, v2, js, jo, st3, hwv]
          refine SemW_to (ih2 ⟨s.ver, s.ver2 + 1, s.st, s.out.set v true, _, s.c + 1⟩ (v + 1) true ⟨by omega, J2, fun _ => by show _ < (s.out.set v true).count true; omega, by show _ ≤ (s.out.set v true).count true; omega, fun h => by cases h⟩ (by omega)) (by simp only [PWeak_nil, PWeak_junk, PWeak_same, Int.cast_ofNat_Int, List.length_append, List.length_cons, List.length_nil, Nat.zero_add]) (by simp only [← List.map_set])
  · have hvn : v = ow.length := by omega
    simp only [PP, P1, P2, P3, P4, P5, P6, P7, P8, P9, P10, P11, P12, P13, P14, L1, P15, N1, N2, N3, N4, N5, N6, N7, I1, I2, I3, I4, I5, I6, I7, reduceIte, reduceCtorEq, c]
    cases ch
    · have hA := J.fin (fun v h => by rw [← hi]; exact bm_lt h) (fun w hw => hst rfl w (by omega))
      simp only [PP, P1, P2, P3, P4, P5, P6, P7, P8, P9, P10, P11, P12, P13, P14, L1, P15, N1, N2, N3, N4, N5, N6, N7, I1, I2, I3, I4, I5, I6, I7, reduceIte, reduceCtorEq]
      exact Gh_retB (M := [o0, o1, .cells 0 s.ver (s.st.map (PV.int .i64)), .cells 0 0 (zSol f1 p1 f2 p2 f3 p3 f4 p4 ow pr su)]) (by simp only [PP, P1, P2, P3, P4, P5, P6, P7, P8, P9, P10, P11, P12, P13, P14, L1, P15, N1, N2, N3, N4, N5, N6, N7, I1, I2, I3, I4, I5, I6, I7, reduceIte, reduceCtorEq, cutOk_cells, h0, h1, underL_ints]) jo (hk s.ver s.out s.st s.r jo js J.nn hA)
    · have := cnt_le s.out
      have := hch rfl
      simp only [PP, P1, P2, P3, P4, P5, P6, P7, P8, P9, P10, P11, P12, P13, P14, L1, P15, N1, N2, N3, N4, N5, N6, N7, I1, I2, I3, I4, I5, I6, I7, reduceIte, reduceCtorEq]
      exact SemW_weak (ih s J (by omega)) (by simp only [PWeak_nil, PWeak_junk, PWeak_same, Int.cast_ofNat_Int, List.length_append, List.length_cons, List.length_nil, Nat.zero_add])
end
end Go.Am.Ar
set_option linter.unusedVariables false
set_option linter.unusedSimpArgs false
set_option maxRecDepth 10000
namespace Go.Am.Ar
open Go.Am renaming pchk → P1, pold → P2, PKNo → P3, ppack → P4, PObj.under → P5, pput → P6, ptset → P7, ptget → P8, pev → P9, ofAV → P10, ofAV1 → P11, ppad → P12, pfill → P13, prepl → P14, AO.effect → P15
open List renaming replicate → L1
open Nat renaming reduceAdd → N1, reduceSub → N2, reduceMul → N3, reduceLT → N4, reduceLeDiff → N5, reduceEqDiff → N6, reduceBEq → N7
open Int renaming reduceToNat → I1, reduceLT → I2, reduceLE → I3, reduceEq → I4, reduceAdd → I5, reduceSub → I6, reduceNeg → I7
def idxFrom (p : Int → Bool) : Nat → List Int → Int
  | _, [] => -1
  | k, x :: l => if p x = true then k else idxFrom p (k + 1) l
section
variable {tab : FuncId → Option AF} (T : HasA tab)
include T
theorem indexFunc_p {M : Mem} {K : PV → Mem → Prop} {f o : Bool} {row : List Int} {fn : FuncId} {cap : List PV} (p : Int → Bool) (hb : row.length < big)
    (hf : ∀ x ∈ row, ∀ K' : PV → Mem → Prop, K' (.bool (p x)) M → SemC tab fn (p64 x :: cap) M K') (hk : K (p64 (idxFrom p 0 row)) M) :
    SemC tab 65 [slI f o .i64 row, .func (.func fn) [] cap] M K := by
  refine SemC_fn T.h65 ?_
  simp only [af65, PP, P1, P2, P3, P4, P5, P6, P7, P8, P9, P10, P11, P12, P13, P14, L1, P15, N1, N2, N3, N4, N5, N6, N7, I1, I2, I3, I4, I5, I6, I7, reduceIte, reduceCtorEq]
  refine loop1 (fun (k : Nat) => k ≤ row.length ∧ K (p64 (idxFrom p k (row.drop k))) M) (fun k => [slI f o .i64 row, .func (.func fn) [] cap, .junk, .junk, .junk, .junk, .junk, p64 row.length, p64 k, .junk, .junk, .junk, .junk, .junk, .junk, .junk, .junk, .junk, .junk]) (fun k => M) (fun k => row.length - k) 0 ⟨by omega, hk⟩ (by simp only [PWeak_nil, PWeak_junk, PWeak_same, Int.cast_ofNat_Int, List.length_append, List.length_cons, List.length_nil, Nat.zero_add]) rfl ?_
  intro k ⟨hle, hq⟩ ih
  refine SemW_go (by kernel_rfl) ?_
  simp only [PP, P1, P2, P3, P4, P5, P6, P7, P8, P9, P10, P11, P12, P13, P14, L1, P15, N1, N2, N3, N4, N5, N6, N7, I1, I2, I3, I4, I5, I6, I7, reduceIte, reduceCtorEq]
  refine QIf.intro (fun c => ?_) (fun c => ?_)
  · have hk' : k < row.length := by omega
    have h0 : (0 : Int) ≤ k := by omega
    have hw := wrap_succ (k := k) (by show _ < 1000000000000; have : row.length < 1000000000000 := hb; omega)
    obtain ⟨x, e⟩ := some_of hk'
    rw [drop_some e] at hq
    unfold idxFrom at hq
    simp only [PP, P1, P2, P3, P4, P5, P6, P7, P8, P9, P10, P11, P12, P13, P14, L1, P15, N1, N2, N3, N4, N5, N6, N7, I1, I2, I3, I4, I5, I6, I7, reduceIte, reduceCtorEq, c, h0, e]
    refine hf x (List.mem_of_getElem? e) _ ?_
    cases hp : p x with
    | true =>
      rw [if_pos hp] at hq
      simp only [PP, P1, P2, P3, P4, P5, P6, P7, P8, P9, P10, P11, P12, P13, P14, L1, P15, N1, N2, N3, N4, N5, N6, N7, I1, I2, I3, I4, I5, I6, I7, reduceIte, reduceCtorEq]
      exact hq
    | false =>
      rw [if_neg (by rw [hp]; exact Bool.false_ne_true)] at hq
      simp only [PP, P1, P2, P3, P4, P5, P6, P7, P8, P9, P10, P11, P12, P13, P14, L1, P15, N1, N2, N3, N4, N5, N6, N7, I1, I2, I3, I4, I5, I6, I7, reduceIte, reduceCtorEq, hw]
      exact SemW_weak (ih (k + 1) ⟨by omega, hq⟩ (by omega)) (by simp only [PWeak_nil, PWeak_junk, PWeak_same, Int.cast_ofNat_Int, List.length_append, List.length_cons, List.length_nil, Nat.zero_add])
  · rw [List.drop_eq_nil_of_le (by omega)] at hq
    unfold idxFrom at hq
    simp only [PP, P1, P2, P3, P4, P5, P6, P7, P8, P9, P10, P11, P12, P13, P14, L1, P15, N1, N2, N3, N4, N5, N6, N7, I1, I2, I3, I4, I5, I6, I7, reduceIte, reduceCtorEq, c]
    exact hq
end
end Go.Am.Ar
set_option linter.unusedVariables false
set_option linter.unusedSimpArgs false
set_option maxRecDepth 10000
namespace Go.Am.Ar
open Go.Am renaming pchk → P1, pold → P2, PKNo → P3, ppack → P4, PObj.under → P5, pput → P6, ptset → P7, ptget → P8, pev → P9, ofAV → P10, ofAV1 → P11, ppad → P12, pfill → P13, prepl → P14, AO.effect → P15
open List renaming replicate → L1
open Nat renaming reduceAdd → N1, reduceSub → N2, reduceMul → N3, reduceLT → N4, reduceLeDiff → N5, reduceEqDiff → N6, reduceBEq → N7
open Int renaming reduceToNat → I1, reduceLT → I2, reduceLE → I3, reduceEq → I4, reduceAdd → I5, reduceSub → I6, reduceNeg → I7
abbrev zP (pr : List Int) (v : Nat) : Int := pr.getD v 0
structure ZRes (ow pr : List Int) (su : List (List Int)) (inL : List Bool) (st0 st : List Int) (w0 w1 : List Bool) : Prop where
  l0 : w0.length = ow.length
  l1 : w1.length = ow.length
  ls : st.length = ow.length
  nn : ∀ x ∈ st, 0 ≤ x
  all : ∀ v, bm inL v ↔ bm w0 v ∨ bm w1 v
  dis : ∀ v, bm w0 v → bm w1 v → False
  p0 : SolIn (zO ow) (Sf su) (zP pr) (bm inL) 0 (bm w0) (stN st)
  p1 : SolIn (zO ow) (Sf su) (zP pr) (bm inL) 1 (bm w1) (stN st)
  same : ∀ v, ¬ bm inL v → stN st v = stN st0 v
theorem par8 {m : Int} (h : 0 ≤ m) : IntKind.u8.wrap (m.tmod 2) = m % 2 := by
  rw [Int.tmod_eq_emod_of_nonneg h]
  simp only [IntKind.wrap, IntKind.signed, IntKind.bits]
  simp
  omega
theorem idxFrom_some {p : Int → Bool} : ∀ {row : List Int} {j : Nat}, (∃ u ∈ row, p u = true) → ∃ i u, idxFrom p j row = ((j + i : Nat) : Int) ∧ row[i]? = some u ∧ p u = true
  | [], j, h => by obtain ⟨u, hu, _⟩ := h; cases hu
  | x :: l, j, h => by
    unfold idxFrom
    by_cases e : p x = true
    · rw [if_pos e]; exact ⟨0, x, rfl, rfl, e⟩
    · rw [if_neg e]
      obtain ⟨u, hu, hp⟩ := h
      rcases List.mem_cons.1 hu with rfl | hu
      · exact absurd hp e
      · obtain ⟨i, y, h1, h2, h3⟩ := idxFrom_some (p := p) (row := l) (j := j + 1) ⟨u, hu, hp⟩
        exact ⟨i + 1, y, by rw [h1]; congr 1; omega, by simpa using h2, h3⟩
section
variable {tab : FuncId → Option AF} (T : HasA tab)
include T
set_option maxHeartbeats 2000000 in
theorem solve_z {o0 o1 : PObj} {f1 p1 f2 p2 f3 p3 f4 p4 : Bool} {ow pr : List Int} {su : List (List Int)} (V : Valid ow pr su) (B : Bnd ow pr su) (ho : ∀ x ∈ ow, 0 ≤ x) (h0 : cutOk 4 o0 = true) (h1 : cutOk 4 o1 = true) :
    ∀ (m : Nat) (inL : List Bool) (st0 : List Int) (ver0 : Nat) (K : PV → Mem → Prop), inL.count true < m → inL.length = ow.length → st0.length = ow.length → (∀ x ∈ st0, 0 ≤ x) → (∀ v, bm inL v → ∃ u ∈ Sf su v, bm inL u) →
      (∀ ver st w0 w1, ZRes ow pr su inL st0 st w0 w1 → K (.agg [slB false true w0, slB false true w1]) [o0, o1, .cells 0 ver (st.map (PV.int .i64)), .cells 0 0 (zSol f1 p1 f2 p2 f3 p3 f4 p4 ow pr su)]) →
      SemC tab 55 [.ptr 3 0 0, slB false true inL] [o0, o1, .cells 0 ver0 (st0.map (PV.int .i64)), .cells 0 0 (zSol f1 p1 f2 p2 f3 p3 f4 p4 ow pr su)] K := by
  intro m
  induction m with
  | zero => intro inL st0 ver0 K hc; omega
  | succ m IH =>
  intro inL st0 ver0 K hcnt hi hs hs0 htot hk
  have n0 := V.n0
  have n1 := V.n1
  have hp := V.p
  have hsl := V.s
  have b0 : (0 : Int) ≤ ow.length := by omega
  have b1 : (ow.length : Int) * 1 ≤ 140737488355328 := by omega
  have b2 : (ow.length : Int) ≤ 9223372036854775807 := by omega
  refine SemC_res (SemC_fn T.h55 ?_)
  simp only [af55, PP, P1, P2, P3, P4, P5, P6, P7, P8, P9, P10, P11, P12, P13, P14, L1, P15, N1, N2, N3, N4, N5, N6, N7, I1, I2, I3, I4, I5, I6, I7, reduceIte, reduceCtorEq, hi, b0, b1, b2, Int.le_refl]
  refine loop2 (fun (k : Nat) (top : Int) => k ≤ ow.length ∧ (∀ v, v < k → bm inL v → zP pr v ≤ top) ∧ ((top = -1 ∧ ∀ v, v < k → ¬ bm inL v) ∨ ∃ v, v < k ∧ bm inL v ∧ zP pr v = top))
    (fun k top => [.ptr 3 0 0, .junk, .junk, .ptr 4 0 0, .ptr 5 0 0, p64 top, .junk, .junk, .junk, .junk, .junk, .junk, .junk, .junk, .junk, .junk, .junk, .junk, .junk, .junk, .junk, .junk, .junk, p64 ow.length, p64 k, .junk, .junk, .junk, .junk, .junk, .junk, .junk, .junk, .junk, .junk, .junk, .junk, .junk, .junk, .junk, .junk, .junk, .junk, .junk, .junk, .junk, .junk, .junk, .junk, .junk, .junk, .junk, .junk, .junk, .junk, .junk, .junk, .junk, .junk, .junk, .junk, .junk, .junk, .junk, .junk, .junk, .junk, .junk, .junk, .junk, .junk, .junk, .junk, .junk, .junk, .junk, .junk, .junk, .junk, .junk, .junk, .junk, .junk, .junk, .junk, .junk, .junk, .junk, .junk, .junk, .junk, .junk, .junk, .junk, .junk, .junk, .junk, .junk, .junk, .junk, .junk, .junk, .junk, .junk, .junk, .junk, .junk, .junk, .junk, .junk, .junk, .junk, .junk, .junk, .junk, .junk, .junk, .junk, .junk, .junk, .junk, .junk, .junk, .junk, .junk, .junk, .junk, .junk, .junk, .junk, .junk, .junk, .junk, .junk, .junk, .junk, .junk, .junk, .junk, .junk, .junk, .junk, .junk, .junk, .junk, .junk, .junk, .junk, .junk, .junk, .junk, .junk, .junk, .junk, .junk, .junk, .junk, .junk, .junk, .junk, .junk, .junk, .junk, .junk, .junk, .junk, .junk, .junk, .junk, .junk, .junk, .junk, .junk, .junk, .junk, .junk, .junk, .junk, .junk, .junk, .junk, .junk])
    (fun k top => [o0, o1, .cells 0 ver0 (st0.map (PV.int .i64)), .cells 0 0 (zSol f1 p1 f2 p2 f3 p3 f4 p4 ow pr su), .cells 0 0 [slB false true inL], .cells 0 1 [.ref 6 0 1 0 ow.length, .ref 7 0 1 0 ow.length], .cells 0 0 (List.replicate ow.length (.bool false)), .cells 0 0 (List.replicate ow.length (.bool false))])
    (fun k _ => ow.length - k) 0 (-1) ⟨by omega, fun v h => by omega, .inl ⟨rfl, fun v h => by omega⟩⟩ (by simp only [PWeak_nil, PWeak_junk, PWeak_same, Int.cast_ofNat_Int, List.length_append, List.length_cons, List.length_nil, Nat.zero_add]) (by simp only [slB, hi]) ?_
  intro k top ⟨hle, htop, hex⟩ ih
  refine SemW_go (by kernel_rfl) ?_
  simp only [PP, P1, P2, P3, P4, P5, P6, P7, P8, P9, P10, P11, P12, P13, P14, L1, P15, N1, N2, N3, N4, N5, N6, N7, I1, I2, I3, I4, I5, I6, I7, reduceIte, reduceCtorEq]
  refine QIf.intro (fun c => ?_) (fun c => ?_)
  · have hk' : k < ow.length := by omega
    have k0 : (0 : Int) ≤ k := by omega
    have kp : (k : Int) < pr.length := by omega
    have hwk := wrap_succ (k := k) (by show _ < 1000000000000; omega)
    obtain ⟨x, g1⟩ := some_of (xs := inL) (k := k) (by omega)
    obtain ⟨q, g2⟩ := some_of (xs := pr) (k := k) (by omega)
    have eq : zP pr k = q := getD_some g2
    have q0 : 0 ≤ q := by have := (V.row k (by omega)).1; rw [← eq]; exact this
    simp only [PP, P1, P2, P3, P4, P5, P6, P7, P8, P9, P10, P11, P12, P13, P14, L1, P15, N1, N2, N3, N4, N5, N6, N7, I1, I2, I3, I4, I5, I6, I7, reduceIte, reduceCtorEq, c, k0, g1, hi]
    cases x
    · have hnb : ¬ bm inL k := fun h => by rw [bm_of g1] at h; cases h
      simp only [PP, P1, P2, P3, P4, P5, P6, P7, P8, P9, P10, P11, P12, P13, P14, L1, P15, N1, N2, N3, N4, N5, N6, N7, I1, I2, I3, I4, I5, I6, I7, reduceIte, reduceCtorEq, hwk]
      refine SemW_weak (ih (k + 1) top ⟨by omega, fun v hv hb => ?_, ?_⟩ (by omega)) (by simp only [PWeak_nil, PWeak_junk, PWeak_same, Int.cast_ofNat_Int, List.length_append, List.length_cons, List.length_nil, Nat.zero_add])
      · by_cases e : v = k
        · subst e; exact absurd hb hnb
        · exact htop v (by omega) hb
      · rcases hex with ⟨e1, e2⟩ | ⟨v, e1, e2, e3⟩
        · refine .inl ⟨e1, fun v hv hb => ?_⟩
          by_cases e : v = k
          · subst e; exact hnb hb
          · exact e2 v (by omega) hb
        · exact .inr ⟨v, by omega, e2, e3⟩
    · simp only [PP, P1, P2, P3, P4, P5, P6, P7, P8, P9, P10, P11, P12, P13, P14, L1, P15, N1, N2, N3, N4, N5, N6, N7, I1, I2, I3, I4, I5, I6, I7, reduceIte, reduceCtorEq, g2, k0, kp, hwk]
      refine SemW_weak (ih (k + 1) (max top q) ⟨by omega, fun v hv hb => ?_, ?_⟩ (by omega)) (by simp only [PWeak_nil, PWeak_junk, PWeak_same, Int.cast_ofNat_Int, List.length_append, List.length_cons, List.length_nil, Nat.zero_add])
      · by_cases e : v = k
        · subst e; rw [eq]; omega
        · have := htop v (by omega) hb; omega
      · rcases Int.le_total top q with hq | hq
        · exact .inr ⟨k, by omega, (bm_of g1).2 rfl, by rw [eq]; omega⟩
        · rcases hex with ⟨e1, e2⟩ | ⟨v, e1, e2, e3⟩
          · omega
          · exact .inr ⟨v, by omega, e2, by rw [e3]; omega⟩
  have hkn : k = ow.length := by omega
  subst hkn
  simp only [PP, P1, P2, P3, P4, P5, P6, P7, P8, P9, P10, P11, P12, P13, P14, L1, P15, N1, N2, N3, N4, N5, N6, N7, I1, I2, I3, I4, I5, I6, I7, reduceIte, reduceCtorEq, c]
  refine QIf.intro (fun c2 => ?_) (fun c2 => ?_)
  · simp only [PP, P1, P2, P3, P4, P5, P6, P7, P8, P9, P10, P11, P12, P13, P14, L1, P15, N1, N2, N3, N4, N5, N6, N7, I1, I2, I3, I4, I5, I6, I7, reduceIte, reduceCtorEq, c2]
    have hno : ∀ v, ¬ bm inL v := fun v hb => by
      have hv := bm_lt hb
      rw [hi] at hv
      rcases hex with ⟨_, e⟩ | ⟨w, e1, e2, e3⟩
      · exact e v hv hb
      · have := (V.row w (by omega)).1
        have e3 : pr.getD w 0 = top := e3
        omega
    have hnr : ∀ v, ¬ bm (List.replicate ow.length false) v := fun v h => by
      unfold bm at h
      rw [List.getElem?_replicate] at h
      split at h <;> simp at h
    have hsol : ∀ p : Int, SolIn (zO ow) (Sf su) (zP pr) (bm inL) p (bm (List.replicate ow.length false)) (stN st0) := fun p =>
      ⟨fun v h => absurd h (hnr v), fun v h => absurd h (hnr v), fun v h => absurd h (hnr v), fun cc kk _ _ h => absurd (h 0) (hnr _)⟩
    refine ⟨.agg [slB false true (List.replicate ow.length false), slB false true (List.replicate ow.length false)], _, pfrz_agg2 (pfrz1_refB (by omega) (by simp; rfl) (by simp)) (pfrz1_refB (by omega) (by simp; rfl) (by simp)), pfrzM_all (by simp only [PP, P1, P2, P3, P4, P5, P6, P7, P8, P9, P10, P11, P12, P13, P14, L1, P15, N1, N2, N3, N4, N5, N6, N7, I1, I2, I3, I4, I5, I6, I7, reduceIte, reduceCtorEq, cutOk_cells, h0, h1, underL_ints]), hk ver0 st0 _ _ ⟨by simp, by simp, hs, hs0, fun v => ⟨fun h => absurd h (hno v), fun h => absurd (h.elim id id) (hnr v)⟩, fun v h => absurd h (hnr v), hsol 0, hsol 1, fun _ _ => rfl⟩⟩
  have t0 : 0 ≤ top := by omega
  have h2 : (2 : Int) ≠ 0 := by omega
  simp only [PP, P1, P2, P3, P4, P5, P6, P7, P8, P9, P10, P11, P12, P13, P14, L1, P15, N1, N2, N3, N4, N5, N6, N7, I1, I2, I3, I4, I5, I6, I7, reduceIte, reduceCtorEq, c2, prem h2, par8 t0, hi, b0, b1, b2, Int.le_refl]
  refine SemW_gh ?_
  refine loop3 (fun (k ver : Nat) (w : List Bool) => k ≤ ow.length ∧ w.length = ow.length ∧ ∀ v, v < k → (w[v]? = some true ↔ bm inL v ∧ zP pr v = top))
    (fun k ver w => [.ptr 3 0 0, .junk, .junk, .ptr 4 0 0, .ptr 5 0 0, p64 top, .junk, p8 (top % 2), .ref 8 0 1 0 ow.length, .junk, .junk, .junk, .junk, .junk, .junk, .junk, .junk, .junk, .junk, .junk, .junk, .junk, .junk, .junk, .junk, .junk, .junk, .junk, .junk, .junk, .junk, .junk, .junk, .junk, .junk, .junk, .junk, .junk, .junk, .junk, .junk, .junk, .junk, .junk, .junk, .junk, .junk, .junk, .junk, .junk, .junk, .junk, p64 ow.length, p64 k, .junk, .junk, .junk, .junk, .junk, .junk, .junk, .junk, .junk, .junk, .junk, .junk, .junk, .junk, .junk, .junk, .junk, .junk, .junk, .junk, .junk, .junk, .junk, .junk, .junk, .junk, .junk, .junk, .junk, .junk, .junk, .junk, .junk, .junk, .junk, .junk, .junk, .junk, .junk, .junk, .junk, .junk, .junk, .junk, .junk, .junk, .junk, .junk, .junk, .junk, .junk, .junk, .junk, .junk, .junk, .junk, .junk, .junk, .junk, .junk, .junk, .junk, .junk, .junk, .junk, .junk, .junk, .junk, .junk, .junk, .junk, .junk, .junk, .junk, .junk, .junk, .junk, .junk, .junk, .junk, .junk, .junk, .junk, .junk, .junk, .junk, .junk, .junk, .junk, .junk, .junk, .junk, .junk, .junk, .junk, .junk, .junk, .junk, .junk, .junk, .junk, .junk, .junk, .junk, .junk, .junk, .junk, .junk, .junk, .junk, .junk, .junk, .junk, .junk, .junk, .junk, .junk, .junk, .junk, .junk, .junk, .junk, .junk, .junk, .junk, .junk, .junk, .junk])
    (fun k ver w => [o0, o1, .cells 0 ver0 (st0.map (PV.int .i64)), .cells 0 0 (zSol f1 p1 f2 p2 f3 p3 f4 p4 ow pr su), .cells 0 0 [slB false true inL], .cells 0 1 [.ref 6 0 1 0 ow.length, .ref 7 0 1 0 ow.length], .cells 0 0 (List.replicate ow.length (.bool false)), .cells 0 0 (List.replicate ow.length (.bool false)), .cells 0 ver (w.map PV.bool)])
    (fun k _ _ => ow.length - k) 0 0 (List.replicate ow.length false) ⟨by omega, by simp, by intro v h; omega⟩ (by simp only [PWeak_nil, PWeak_junk, PWeak_same, Int.cast_ofNat_Int, List.length_append, List.length_cons, List.length_nil, Nat.zero_add]) (by simp only [List.map_replicate]) ?_
  intro k ver w ⟨hle, hw, hget⟩ ih2
  refine SemW_go (by kernel_rfl) ?_
  simp only [PP, P1, P2, P3, P4, P5, P6, P7, P8, P9, P10, P11, P12, P13, P14, L1, P15, N1, N2, N3, N4, N5, N6, N7, I1, I2, I3, I4, I5, I6, I7, reduceIte, reduceCtorEq]
  refine QIf.intro (fun d => ?_) (fun d => ?_)
  · have hk' : k < ow.length := by omega
    have k0 : (0 : Int) ≤ k := by omega
    have kp : (k : Int) < pr.length := by omega
    have hwk := wrap_succ (k := k) (by show _ < 1000000000000; omega)
    obtain ⟨x, g1⟩ := some_of (xs := inL) (k := k) (by omega)
    obtain ⟨q, g2⟩ := some_of (xs := pr) (k := k) (by omega)
    have eq : zP pr k = q := getD_some g2
    have k1 : k + 1 ≤ ow.length := hk'
    have up : ∀ z : Bool, (z = true ↔ bm inL k ∧ zP pr k = top) → k + 1 ≤ ow.length ∧ (w.set k z).length = ow.length ∧ ∀ v, v < k + 1 → ((w.set k z)[v]? = some true ↔ bm inL v ∧ zP pr v = top) := fun z hz => by
      refine ⟨by omega, by simp [hw], fun v hv => ?_⟩
      by_cases e : v = k
      · subst e; rw [List.getElem?_set_self (by omega), ← hz]; simp
      · rw [List.getElem?_set_ne (by omega)]; exact hget v (by omega)
    cases x
    · have hnb : ¬ bm inL k := fun h => by rw [bm_of g1] at h; cases h
      simp only [PP, P1, P2, P3, P4, P5, P6, P7, P8, P9, P10, P11, P12, P13, P14, L1, P15, N1, N2, N3, N4, N5, N6, N7, I1, I2, I3, I4, I5, I6, I7, reduceIte, reduceCtorEq, d, k0, g1, hi, hw, k1, hwk]
      exact SemW_to (ih2 (k + 1) (ver + 1) (w.set k false) (up false ⟨fun h => (by cases h), fun h => absurd h.1 hnb⟩) (by omega)) (by simp only [PWeak_nil, PWeak_junk, PWeak_same, Int.cast_ofNat_Int, List.length_append, List.length_cons, List.length_nil, Nat.zero_add]) (by simp only [← List.map_set])
    · simp only [PP, P1, P2, P3, P4, P5, P6, P7, P8, P9, P10, P11, P12, P13, P14, L1, P15, N1, N2, N3, N4, N5, N6, N7, I1, I2, I3, I4, I5, I6, I7, reduceIte, reduceCtorEq, d, k0, g1, g2, kp, hi, hw, k1, hwk]
      exact SemW_to (ih2 (k + 1) (ver + 1) (w.set k (decide (q = top))) (up _ ⟨fun h => ⟨(bm_of g1).2 rfl, by rw [eq]; exact of_decide_eq_true h⟩, fun h => decide_eq_true (by rw [← eq]; exact h.2)⟩) (by omega)) (by simp only [PWeak_nil, PWeak_junk, PWeak_same, Int.cast_ofNat_Int, List.length_append, List.length_cons, List.length_nil, Nat.zero_add]) (by simp only [← List.map_set])
  have hkn : k = ow.length := by omega
  subst hkn
  simp only [PP, P1, P2, P3, P4, P5, P6, P7, P8, P9, P10, P11, P12, P13, P14, L1, P15, N1, N2, N3, N4, N5, N6, N7, I1, I2, I3, I4, I5, I6, I7, reduceIte, reduceCtorEq, d]
  refine Gh.step (GStep.freeze (b := [.ptr 3 0 0, .junk, .junk, .ptr 4 0 0, .ptr 5 0 0, p64 top, .junk, p8 (top % 2), slB false true w, .junk, .junk, .junk, .junk, .junk, .junk, .junk, .junk, .junk, .junk, .junk, .junk, .junk, .junk, .junk, .junk, .junk, .junk, .junk, .junk, .junk, .junk, .junk, .junk, .junk, .junk, .junk, .junk, .junk, .junk, .junk, .junk, .junk, .junk, .junk, .junk, .junk, .junk, .junk, .junk, .junk, .junk, .junk, .junk, .junk, .junk, .junk, .junk, .junk, .junk, .junk, .junk, .junk, .junk, .junk, .junk, .junk, .junk, .junk, .junk, .junk, .junk, .junk, .junk, .junk, .junk, .junk, .junk, .junk, .junk, .junk, .junk, .junk, .junk, .junk, .junk, .junk, .junk, .junk, .junk, .junk, .junk, .junk, .junk, .junk, .junk, .junk, .junk, .junk, .junk, .junk, .junk, .junk, .junk, .junk, .junk, .junk, .junk, .junk, .junk, .junk, .junk, .junk, .junk, .junk, .junk, .junk, .junk, .junk, .junk, .junk, .junk, .junk, .junk, .junk, .junk, .junk, .junk, .junk, .junk, .junk, .junk, .junk, .junk, .junk, .junk, .junk, .junk, .junk, .junk, .junk, .junk, .junk, .junk, .junk, .junk, .junk, .junk, .junk, .junk, .junk, .junk, .junk, .junk, .junk, .junk, .junk, .junk, .junk, .junk, .junk, .junk, .junk, .junk, .junk, .junk, .junk, .junk, .junk, .junk, .junk, .junk, .junk, .junk, .junk, .junk, .junk, .junk, .junk, .junk, .junk, .junk, .junk]) 8 (by omega) rfl (by
    simp only [PFrz_junk, PFrz_same]
    rw [PFrz_ref (by rw [List.length_map, hw]; omega) (by rw [Nat.mul_one, psub_all _ _ (by simp [hw])]; unfold slB; rw [hw])]
    simp only [PFrz_nil, PFrz_junk, PFrz_same]) rfl) (Gh.same ?_)
  have htg : ∀ v, bm w v ↔ bm inL v ∧ zP pr v = top := fun v => by
    constructor
    · intro h
      have := bm_lt h
      exact (hget v (by omega)).1 h
    · intro h
      have := bm_lt h.1
      exact (hget v (by omega)).2 h
  have hwt : ∀ v, bm w v → bm inL v := fun v h => ((htg v).1 h).1
  obtain ⟨vt, vt1, vt2, vt3⟩ : ∃ v, v < ow.length ∧ bm inL v ∧ zP pr v = top := hex.resolve_left (by omega)
  have hO : ∀ v, bm inL v → zO ow v = 0 ∨ zO ow v = 1 := fun v hv => by
    have h1 := bm_lt hv
    rw [hi] at h1
    have h2 := (V.row v (by omega)).2.2.1
    have h3 : 0 ≤ ow.getD v 0 := by rw [List.getD, List.getElem?_eq_getElem h1]; exact ho _ (List.getElem_mem h1)
    show ow.getD v 0 = 0 ∨ ow.getD v 0 = 1
    omega
  have hmx : ∀ v, bm inL v → zP pr v ≤ top := fun v hv => htop v (by have := bm_lt hv; omega) hv
  have hw1 : IntKind.u8.wrap 1 = 1 := rfl
  have hw0 : IntKind.u8.wrap 0 = 0 := rfl
  rcases (show top % 2 = 0 ∨ top % 2 = 1 by omega) with hp2 | hp2
  · simp only [PP, P1, P2, P3, P4, P5, P6, P7, P8, P9, P10, P11, P12, P13, P14, L1, P15, N1, N2, N3, N4, N5, N6, N7, I1, I2, I3, I4, I5, I6, I7, reduceIte, reduceCtorEq, hp2]
    refine SemC_prefix (m := 4) (by simp) (by simp only [PP, P1, P2, P3, P4, P5, P6, P7, P8, P9, P10, P11, P12, P13, P14, L1, P15, N1, N2, N3, N4, N5, N6, N7, I1, I2, I3, I4, I5, I6, I7, reduceIte, reduceCtorEq, slB]) (by simp only [PP, P1, P2, P3, P4, P5, P6, P7, P8, P9, P10, P11, P12, P13, P14, L1, P15, N1, N2, N3, N4, N5, N6, N7, I1, I2, I3, I4, I5, I6, I7, reduceIte, reduceCtorEq, cutOk_cells, h0, h1, underL_ints]) ?_
    refine attract_z T V B h0 h1 hi hw hs hs0 hwt ?_
    intro ver1 A st1 r1 lA ls1 nn1 att
    refine ⟨under_slB _ _ _ _ _ _, rfl, by simp only [PP, P1, P2, P3, P4, P5, P6, P7, P8, P9, P10, P11, P12, P13, P14, L1, P15, N1, N2, N3, N4, N5, N6, N7, I1, I2, I3, I4, I5, I6, I7, reduceIte, reduceCtorEq, cutOk_cells, h0, h1, underL_ints], ?_⟩
    simp only [PP, P1, P2, P3, P4, P5, P6, P7, P8, P9, P10, P11, P12, P13, P14, L1, P15, N1, N2, N3, N4, N5, N6, N7, I1, I2, I3, I4, I5, I6, I7, reduceIte, reduceCtorEq]
    refine ⟨by split <;> rfl, ?_⟩
    refine minus_z T hi lA (by omega) ?_
    simp only [PP, P1, P2, P3, P4, P5, P6, P7, P8, P9, P10, P11, P12, P13, P14, L1, P15, N1, N2, N3, N4, N5, N6, N7, I1, I2, I3, I4, I5, I6, I7, reduceIte, reduceCtorEq]
    refine SemC_prefix (m := 4) (by simp) (by simp only [PP, P1, P2, P3, P4, P5, P6, P7, P8, P9, P10, P11, P12, P13, P14, L1, P15, N1, N2, N3, N4, N5, N6, N7, I1, I2, I3, I4, I5, I6, I7, reduceIte, reduceCtorEq, slB]) (by simp only [PP, P1, P2, P3, P4, P5, P6, P7, P8, P9, P10, P11, P12, P13, P14, L1, P15, N1, N2, N3, N4, N5, N6, N7, I1, I2, I3, I4, I5, I6, I7, reduceIte, reduceCtorEq, cutOk_cells, h0, h1, underL_ints]) ?_
    have vtA := att.tgt vt ((htg vt).2 ⟨vt2, vt3⟩)
    have hcm := count_minus hi vt2 vtA
    have mA : ∀ v, bm (minusL inL A ow.length) v ↔ bm inL v ∧ ¬ bm A v := fun v => bm_minus hi
    refine IH (minusL inL A ow.length) st1 ver1 _ (by omega) (minusL_len _ _ _) ls1 nn1 (fun v hv => ?_) ?_
    · obtain ⟨u, q1, q2⟩ := att.tot htot v ((mA v).1 hv)
      exact ⟨u, q1, (mA u).2 q2⟩
    intro ver2 st2 wa wb Z2
    refine ⟨by simp only [PP, P1, P2, P3, P4, P5, P6, P7, P8, P9, P10, P11, P12, P13, P14, L1, P15, N1, N2, N3, N4, N5, N6, N7, I1, I2, I3, I4, I5, I6, I7, reduceIte, reduceCtorEq, slB], rfl, by simp only [PP, P1, P2, P3, P4, P5, P6, P7, P8, P9, P10, P11, P12, P13, P14, L1, P15, N1, N2, N3, N4, N5, N6, N7, I1, I2, I3, I4, I5, I6, I7, reduceIte, reduceCtorEq, cutOk_cells, h0, h1, underL_ints], ?_⟩
    simp only [PP, P1, P2, P3, P4, P5, P6, P7, P8, P9, P10, P11, P12, P13, P14, L1, P15, N1, N2, N3, N4, N5, N6, N7, I1, I2, I3, I4, I5, I6, I7, reduceIte, reduceCtorEq]
    refine ⟨by split <;> split <;> rfl, ?_⟩
    simp only [PP, P1, P2, P3, P4, P5, P6, P7, P8, P9, P10, P11, P12, P13, P14, L1, P15, N1, N2, N3, N4, N5, N6, N7, I1, I2, I3, I4, I5, I6, I7, reduceIte, reduceCtorEq, hw1]
    have lq : wb.length < big := by show _ < 1000000000000; have := Z2.l1; omega
    refine empty_p T lq ?_
    by_cases hemp : true ∈ wb
    · simp only [PP, P1, P2, P3, P4, P5, P6, P7, P8, P9, P10, P11, P12, P13, P14, L1, P15, N1, N2, N3, N4, N5, N6, N7, I1, I2, I3, I4, I5, I6, I7, reduceIte, reduceCtorEq, hemp]
      simp only [PP, P1, P2, P3, P4, P5, P6, P7, P8, P9, P10, P11, P12, P13, P14, L1, P15, N1, N2, N3, N4, N5, N6, N7, I1, I2, I3, I4, I5, I6, I7, reduceIte, reduceCtorEq, hw1]
      obtain ⟨ve, hve⟩ := mem_bm.1 hemp
      have eA : (bm (minusL inL A ow.length)) = fun v => bm inL v ∧ ¬ bm A v := funext fun v => propext (mA v)
      have sub := Z2.p1
      rw [eA] at sub
      have hWi : ∀ v, bm wb v → bm inL v := fun v h => ((sub.sub v h).1)
      refine SemC_prefix (m := 4) (by simp) (by simp only [PP, P1, P2, P3, P4, P5, P6, P7, P8, P9, P10, P11, P12, P13, P14, L1, P15, N1, N2, N3, N4, N5, N6, N7, I1, I2, I3, I4, I5, I6, I7, reduceIte, reduceCtorEq, slB]) (by simp only [PP, P1, P2, P3, P4, P5, P6, P7, P8, P9, P10, P11, P12, P13, P14, L1, P15, N1, N2, N3, N4, N5, N6, N7, I1, I2, I3, I4, I5, I6, I7, reduceIte, reduceCtorEq, cutOk_cells, h0, h1, underL_ints]) ?_
      refine attract_z T V B h0 h1 hi Z2.l1 Z2.ls Z2.nn hWi ?_
      intro ver3 L st3 r3 lL ls3 nn3 att3
      refine ⟨under_slB _ _ _ _ _ _, rfl, by simp only [PP, P1, P2, P3, P4, P5, P6, P7, P8, P9, P10, P11, P12, P13, P14, L1, P15, N1, N2, N3, N4, N5, N6, N7, I1, I2, I3, I4, I5, I6, I7, reduceIte, reduceCtorEq, cutOk_cells, h0, h1, underL_ints], ?_⟩
      simp only [PP, P1, P2, P3, P4, P5, P6, P7, P8, P9, P10, P11, P12, P13, P14, L1, P15, N1, N2, N3, N4, N5, N6, N7, I1, I2, I3, I4, I5, I6, I7, reduceIte, reduceCtorEq]
      refine minus_z T hi lL (by omega) ?_
      simp only [PP, P1, P2, P3, P4, P5, P6, P7, P8, P9, P10, P11, P12, P13, P14, L1, P15, N1, N2, N3, N4, N5, N6, N7, I1, I2, I3, I4, I5, I6, I7, reduceIte, reduceCtorEq]
      refine SemC_prefix (m := 4) (by simp) (by simp only [PP, P1, P2, P3, P4, P5, P6, P7, P8, P9, P10, P11, P12, P13, P14, L1, P15, N1, N2, N3, N4, N5, N6, N7, I1, I2, I3, I4, I5, I6, I7, reduceIte, reduceCtorEq, slB]) (by simp only [PP, P1, P2, P3, P4, P5, P6, P7, P8, P9, P10, P11, P12, P13, P14, L1, P15, N1, N2, N3, N4, N5, N6, N7, I1, I2, I3, I4, I5, I6, I7, reduceIte, reduceCtorEq, cutOk_cells, h0, h1, underL_ints]) ?_
      have hcm2 := count_minus hi (hWi ve hve) (att3.tgt ve hve)
      have mL : ∀ v, bm (minusL inL L ow.length) v ↔ bm inL v ∧ ¬ bm L v := fun v => bm_minus hi
      refine IH (minusL inL L ow.length) st3 ver3 _ (by omega) (minusL_len _ _ _) ls3 nn3 (fun v hv => ?_) ?_
      · obtain ⟨u, q1, q2⟩ := att3.tot htot v ((mL v).1 hv)
        exact ⟨u, q1, (mL u).2 q2⟩
      intro ver4 st4 xa xb Z4
      refine ⟨by simp only [PP, P1, P2, P3, P4, P5, P6, P7, P8, P9, P10, P11, P12, P13, P14, L1, P15, N1, N2, N3, N4, N5, N6, N7, I1, I2, I3, I4, I5, I6, I7, reduceIte, reduceCtorEq, slB], rfl, by simp only [PP, P1, P2, P3, P4, P5, P6, P7, P8, P9, P10, P11, P12, P13, P14, L1, P15, N1, N2, N3, N4, N5, N6, N7, I1, I2, I3, I4, I5, I6, I7, reduceIte, reduceCtorEq, cutOk_cells, h0, h1, underL_ints], ?_⟩
      have nz : ¬ ow.length = 0 := by omega
      have b3 : ow.length ≤ 140737488355328 := by omega
      have b4 : ow.length ≤ 9223372036854775807 := by omega
      have lxq : xb.length = ow.length := Z4.l1
      simp only [PP, P1, P2, P3, P4, P5, P6, P7, P8, P9, P10, P11, P12, P13, P14, L1, P15, N1, N2, N3, N4, N5, N6, N7, I1, I2, I3, I4, I5, I6, I7, reduceIte, reduceCtorEq, hw1]
      refine SemC_fn T.h71 ?_
      simp only [af71, PP, P1, P2, P3, P4, P5, P6, P7, P8, P9, P10, P11, P12, P13, P14, L1, P15, N1, N2, N3, N4, N5, N6, N7, I1, I2, I3, I4, I5, I6, I7, reduceIte, reduceCtorEq, lxq, nz, b3, b4, hw1, lL]
      have eL : (bm (minusL inL L ow.length)) = fun v => bm inL v ∧ ¬ bm L v := funext fun v => propext (mL v)
      have subp := Z4.p0
      have subq := Z4.p1
      rw [eL] at subp subq
      obtain ⟨z1, z2⟩ := zk_two (D := bm inL) (p := 0) (q := 1) (by omega) hO att sub att3 subp subq (fun v h => Z4.same v fun q => h ((mL v).1 q))
      refine loop3 (fun (k ver : Nat) (x : List Bool) => k ≤ ow.length ∧ x.length = ow.length ∧ ∀ v, bm x v ↔ bm xb v ∨ (v < k ∧ bm L v))
        (fun k ver x => [.junk, .junk, .junk, .junk, .ptr 5 0 0, .junk, .junk, p8 0, .junk, .junk, .junk, .junk, .junk, slB false true L, .junk, .junk, .junk, .junk, .junk, .junk, .junk, .junk, .junk, .junk, .junk, .junk, .junk, .junk, .junk, .junk, .junk, .junk, .junk, .junk, .junk, .junk, .junk, .junk, .junk, .junk, .junk, .junk, .junk, .junk, .junk, .junk, .junk, .junk, .junk, .junk, .junk, .junk, .junk, .junk, .junk, .junk, .junk, .junk, .junk, .junk, .junk, .junk, .junk, .junk, .junk, .junk, .junk, .junk, .junk, .junk, .junk, .junk, .junk, .junk, .junk, .junk, .junk, .junk, .junk, .junk, .junk, .junk, .junk, .junk, .junk, .junk, .junk, .junk, .junk, .junk, .junk, .junk, .junk, .junk, .junk, .junk, .junk, .junk, .junk, .junk, .junk, .junk, .junk, .junk, .junk, .junk, .junk, .junk, .junk, .junk, .junk, .junk, .junk, .junk, .junk, .junk, .junk, .junk, .junk, .junk, .junk, .junk, .junk, .junk, .junk, .junk, .junk, .junk, .junk, .junk, .junk, .junk, .junk, .junk, .junk, .junk, .junk, .junk, .junk, .junk, .junk, .junk, .junk, .junk, .junk, .junk, .junk, .junk, .junk, .junk, .junk, .junk, .junk, .junk, .junk, .junk, .junk, p64 ow.length, p64 k, .junk, .junk, .junk, .junk, .junk, .junk, .junk, .junk, .junk, .junk, .junk, .junk, .junk, .junk, .junk, .junk, .junk, .junk, .junk, .junk, .junk, .junk, .junk])
        (fun k ver x => [o0, o1, .cells 0 ver4 (st4.map (PV.int .i64)), .cells 0 0 (zSol f1 p1 f2 p2 f3 p3 f4 p4 ow pr su), .cells 0 0 [slB false true inL], .cells 0 3 [slB false true xa, .ref 10 0 1 0 ow.length], .cells 0 0 (List.replicate ow.length (.bool false)), .cells 0 0 (List.replicate ow.length (.bool false)), .gone, .cells 0 1 [slB false true wa, slB false true wb], .cells 0 ver (x.map PV.bool)])
        (fun k _ _ => ow.length - k) 0 0 xb ⟨by omega, lxq, fun v => ⟨.inl, fun h => h.elim id fun q => by omega⟩⟩ (by simp only [PWeak_nil, PWeak_junk, PWeak_same, Int.cast_ofNat_Int, List.length_append, List.length_cons, List.length_nil, Nat.zero_add]) (by simp only [PP, P1, P2, P3, P4, P5, P6, P7, P8, P9, P10, P11, P12, P13, P14, L1, P15, N1, N2, N3, N4, N5, N6, N7, I1, I2, I3, I4, I5, I6, I7, reduceIte, reduceCtorEq]) ?_
      intro k ver x ⟨hle, lx, hx⟩ ih3
      refine SemW_go (by kernel_rfl) ?_
      simp only [PP, P1, P2, P3, P4, P5, P6, P7, P8, P9, P10, P11, P12, P13, P14, L1, P15, N1, N2, N3, N4, N5, N6, N7, I1, I2, I3, I4, I5, I6, I7, reduceIte, reduceCtorEq]
      refine QIf.intro (fun e => ?_) (fun e => ?_)
      · have hk' : k < ow.length := by omega
        have k0 : (0 : Int) ≤ k := by omega
        have kn : (k : Int) < ow.length := by omega
        have k1 : k + 1 ≤ ow.length := hk'
        have hwk := wrap_succ (k := k) (by show _ < 1000000000000; omega)
        obtain ⟨y, g1⟩ := some_of (xs := x) (k := k) (by omega)
        obtain ⟨z, g2⟩ := some_of (xs := L) (k := k) (by omega)
        have up : ∀ b : Bool, (b = true ↔ bm x k ∨ bm L k) → k + 1 ≤ ow.length ∧ (x.set k b).length = ow.length ∧ ∀ v, bm (x.set k b) v ↔ bm xb v ∨ (v < k + 1 ∧ bm L v) := fun b hb => by
          refine ⟨by omega, by simp [lx], fun v => ?_⟩
          by_cases e : v = k
          · subst e
            have : bm (x.set v b) v ↔ b = true := by unfold bm; rw [List.getElem?_set_self (by omega)]; simp
            rw [this, hb, hx v]
            constructor
            · rintro (h | h)
              · exact h.imp id fun q => ⟨by omega, q.2⟩
              · exact .inr ⟨by omega, h⟩
            · rintro (h | h)
              · exact .inl (.inl h)
              · exact .inr h.2
          · have : bm (x.set k b) v ↔ bm x v := by unfold bm; rw [List.getElem?_set_ne (by omega)]
            rw [this, hx v]
            exact ⟨fun h => h.imp id fun q => ⟨by omega, q.2⟩, fun h => h.imp id fun q => ⟨by omega, q.2⟩⟩
        cases y
        · have hy : ¬ bm x k := fun h => by rw [bm_of g1] at h; cases h
          simp only [PP, P1, P2, P3, P4, P5, P6, P7, P8, P9, P10, P11, P12, P13, P14, L1, P15, N1, N2, N3, N4, N5, N6, N7, I1, I2, I3, I4, I5, I6, I7, reduceIte, reduceCtorEq, e, hw1, k0, kn, g1, g2, lx, lL, k1, hwk]
          exact SemW_to (ih3 (k + 1) (ver + 1) (x.set k z) (up z ⟨fun h => .inr ((bm_of g2).2 h), fun h => h.elim (fun q => absurd q hy) (bm_of g2).1⟩) (by omega)) (by simp only [PWeak_nil, PWeak_junk, PWeak_same, Int.cast_ofNat_Int, List.length_append, List.length_cons, List.length_nil, Nat.zero_add]) (by simp only [← List.map_set])
        · simp only [PP, P1, P2, P3, P4, P5, P6, P7, P8, P9, P10, P11, P12, P13, P14, L1, P15, N1, N2, N3, N4, N5, N6, N7, I1, I2, I3, I4, I5, I6, I7, reduceIte, reduceCtorEq, e, hw1, k0, kn, g1, lx, k1, hwk]
          exact SemW_to (ih3 (k + 1) (ver + 1) (x.set k true) (up true ⟨fun _ => .inl ((bm_of g1).2 rfl), fun _ => rfl⟩) (by omega)) (by simp only [PWeak_nil, PWeak_junk, PWeak_same, Int.cast_ofNat_Int, List.length_append, List.length_cons, List.length_nil, Nat.zero_add]) (by simp only [← List.map_set])
      · have hkn : k = ow.length := by omega
        subst hkn
        have hx : ∀ v, bm x v ↔ bm xb v ∨ bm L v := fun v => (hx v).trans ⟨fun h => h.imp id And.right, fun h => h.imp id fun q => ⟨by have := bm_lt q; omega, q⟩⟩
        simp only [PP, P1, P2, P3, P4, P5, P6, P7, P8, P9, P10, P11, P12, P13, P14, L1, P15, N1, N2, N3, N4, N5, N6, N7, I1, I2, I3, I4, I5, I6, I7, reduceIte, reduceCtorEq, e]
        have z2' : SolIn (zO ow) (Sf su) (zP pr) (bm inL) 1 (bm x) (stN st4) := by
          have e2 : bm x = fun v => bm xb v ∨ bm L v := funext fun v => propext (hx v)
          rw [e2]; exact z2
        have hsm : ∀ v, ¬ bm inL v → stN st4 v = stN st0 v := fun v h => by
          have q1 : ¬ bm L v := fun q => h (att3.sub v q)
          rw [Z4.same v (fun q => h ((mL v).1 q).1), att3.same v (.inl q1), Z2.same v (fun q => h ((mA v).1 q).1), att.same v (.inl fun q => h (att.sub v q))]
        refine ⟨.agg [slB false true xa, slB false true x], _, pfrz_agg2 (pfrz1_slB _ _ _ _ _) (pfrz1_refB (by omega) rfl lx), pfrzM_all (by simp only [PP, P1, P2, P3, P4, P5, P6, P7, P8, P9, P10, P11, P12, P13, P14, L1, P15, N1, N2, N3, N4, N5, N6, N7, I1, I2, I3, I4, I5, I6, I7, reduceIte, reduceCtorEq, cutOk_cells, h0, h1, underL_ints]), hk ver4 st4 _ _ ⟨Z4.l0, lx, Z4.ls, Z4.nn, fun v => ⟨fun h => ?_, fun h => h.elim (fun q => ((mL v).1 ((Z4.all v).2 (.inl q))).1) fun q => ((hx v).1 q).elim (fun q => ((mL v).1 ((Z4.all v).2 (.inr q))).1) (att3.sub v)⟩, fun v q1 q2 => ((hx v).1 q2).elim (Z4.dis v q1) fun q => ((mL v).1 ((Z4.all v).2 (.inl q1))).2 q, z1, z2', hsm⟩⟩
        by_cases hl : bm L v
        · exact .inr ((hx v).2 (.inr hl))
        · exact (Z4.all v).1 ((mL v).2 ⟨h, hl⟩) |>.elim .inl fun q => .inr ((hx v).2 (.inl q))
    · simp only [PP, P1, P2, P3, P4, P5, P6, P7, P8, P9, P10, P11, P12, P13, P14, L1, P15, N1, N2, N3, N4, N5, N6, N7, I1, I2, I3, I4, I5, I6, I7, reduceIte, reduceCtorEq, hemp]
      have eA : (bm (minusL inL A ow.length)) = fun v => bm inL v ∧ ¬ bm A v := funext fun v => propext (mA v)
      have eW : bm wa = fun v => bm inL v ∧ ¬ bm A v := funext fun v => propext (by
        rw [← mA v, Z2.all v]
        exact ⟨.inl, fun h => h.resolve_right (not_mem_bm hemp v)⟩)
      have sub := Z2.p0
      rw [eA, eW] at sub
      have hsame2 : ∀ v, ¬ (bm inL v ∧ ¬ bm A v) → stN st2 v = stN st1 v := fun v h => Z2.same v (fun q => h ((mA v).1 q))
      refine loop3 (fun (k ver : Nat) (st : List Int) => k ≤ ow.length ∧ st.length = ow.length ∧ (∀ x ∈ st, 0 ≤ x) ∧ (∀ v, v < k → bm w v → zO ow v = 0 → stN st v ∈ Sf su v ∧ bm inL (stN st v)) ∧ ∀ v, ¬ (v < k ∧ bm w v ∧ zO ow v = 0) → stN st v = stN st2 v)
        (fun k ver st => [.ptr 3 0 0, .junk, .junk, .ptr 4 0 0, .ptr 5 0 0, .junk, .junk, p8 0, slB false true w, .junk, .junk, .junk, .junk, .junk, .junk, .junk, .junk, .junk, .junk, .junk, .junk, .junk, .junk, .junk, .junk, .junk, .junk, .junk, .junk, .junk, .junk, .junk, .junk, .junk, .junk, .junk, .junk, .junk, .junk, .junk, .junk, .junk, .junk, .junk, .junk, .junk, .junk, .junk, .junk, .junk, .junk, .junk, .junk, .junk, .junk, .junk, .junk, .junk, .junk, .junk, .junk, .junk, .junk, .junk, .junk, .junk, .junk, .junk, .junk, .junk, .junk, .junk, .junk, .junk, .junk, .junk, .junk, .junk, .junk, .junk, .junk, .junk, .junk, .junk, .junk, .junk, .junk, .junk, .junk, .junk, .junk, .junk, .junk, .junk, slR f3 p3 f4 p4 .i64 su, p64 su.length, p64 k, .junk, .junk, .junk, .junk, .junk, .junk, .junk, .junk, .junk, .junk, .junk, .junk, .junk, .junk, .junk, .junk, .junk, .junk, .junk, .junk, .junk, .junk, .junk, .junk, .junk, .junk, .junk, .junk, .junk, .junk, .junk, .junk, .junk, .junk, .junk, .junk, .junk, .junk, .junk, .junk, .junk, .junk, .junk, .junk, .junk, .junk, .junk, .junk, .junk, .junk, .junk, .junk, .junk, .junk, .junk, .junk, .junk, .junk, .junk, .junk, .junk, .junk, .junk, .junk, .junk, .junk, .junk, .junk, .junk, .junk, .junk, .junk, .junk, .junk, .junk, .junk, .junk, .junk, .junk, .junk, .junk, .junk, .junk, .junk, .junk])
        (fun k ver st => [o0, o1, .cells 0 ver (st.map (PV.int .i64)), .cells 0 0 (zSol f1 p1 f2 p2 f3 p3 f4 p4 ow pr su), .cells 0 0 [slB false true inL], .cells 0 1 [.ref 6 0 1 0 ow.length, .ref 7 0 1 0 ow.length], .cells 0 0 (List.replicate ow.length (.bool false)), .cells 0 0 (List.replicate ow.length (.bool false)), .gone, .cells 0 1 [slB false true wa, slB false true wb]])
        (fun k _ _ => ow.length - k) 0 ver2 st2 ⟨by omega, Z2.ls, Z2.nn, fun v h => by omega, fun _ _ => rfl⟩ (by simp only [PWeak_nil, PWeak_junk, PWeak_same, Int.cast_ofNat_Int, List.length_append, List.length_cons, List.length_nil, Nat.zero_add]) rfl ?_
      intro k ver st ⟨hle, ls, nn, hst, hoth⟩ ih3
      refine SemW_go (by kernel_rfl) ?_
      simp only [PP, P1, P2, P3, P4, P5, P6, P7, P8, P9, P10, P11, P12, P13, P14, L1, P15, N1, N2, N3, N4, N5, N6, N7, I1, I2, I3, I4, I5, I6, I7, reduceIte, reduceCtorEq]
      refine QIf.intro (fun e => ?_) (fun e => ?_)
      · have hk' : k < ow.length := by omega
        have k0 : (0 : Int) ≤ k := by omega
        have kn : (k : Int) < ow.length := by omega
        have hwk := wrap_succ (k := k) (by show _ < 1000000000000; omega)
        obtain ⟨x, g1⟩ := some_of (xs := w) (k := k) (by omega)
        obtain ⟨o, g2⟩ := some_of (xs := ow) (k := k) hk'
        obtain ⟨row, g3⟩ := some_of (xs := su) (k := k) (by omega)
        have eo : zO ow k = o := getD_some g2
        have e1 : su.getD k [] = row := by simp [List.getD, g3]
        have keep : ¬ (bm w k ∧ zO ow k = 0) → k + 1 ≤ ow.length ∧ st.length = ow.length ∧ (∀ x ∈ st, 0 ≤ x) ∧ (∀ v, v < k + 1 → bm w v → zO ow v = 0 → stN st v ∈ Sf su v ∧ bm inL (stN st v)) ∧ ∀ v, ¬ (v < k + 1 ∧ bm w v ∧ zO ow v = 0) → stN st v = stN st2 v := fun hn =>
          ⟨by omega, ls, nn, fun v hv q1 q2 => by
            by_cases e : v = k
            · subst e; exact absurd ⟨q1, q2⟩ hn
            · exact hst v (by omega) q1 q2, fun v hv => hoth v fun q => hv ⟨by omega, q.2⟩⟩
        simp only [PP, P1, P2, P3, P4, P5, P6, P7, P8, P9, P10, P11, P12, P13, P14, L1, P15, N1, N2, N3, N4, N5, N6, N7, I1, I2, I3, I4, I5, I6, I7, reduceIte, reduceCtorEq, e, k0, g3, g1, hw, kn]
        cases x
        · have hnb : ¬ bm w k := fun h => by rw [bm_of g1] at h; cases h
          simp only [PP, P1, P2, P3, P4, P5, P6, P7, P8, P9, P10, P11, P12, P13, P14, L1, P15, N1, N2, N3, N4, N5, N6, N7, I1, I2, I3, I4, I5, I6, I7, reduceIte, reduceCtorEq, hwk]
          exact SemW_weak (ih3 (k + 1) ver st (keep fun h => hnb h.1) (by omega)) (by simp only [PWeak_nil, PWeak_junk, PWeak_same, Int.cast_ofNat_Int, List.length_append, List.length_cons, List.length_nil, Nat.zero_add])
        simp only [PP, P1, P2, P3, P4, P5, P6, P7, P8, P9, P10, P11, P12, P13, P14, L1, P15, N1, N2, N3, N4, N5, N6, N7, I1, I2, I3, I4, I5, I6, I7, reduceIte, reduceCtorEq, k0, kn, g2]
        refine QIf.intro (fun e2 => ?_) (fun e2 => ?_)
        · have hrb : row.length < big := B.r _ (List.mem_of_getElem? g3)
          have hbk : bm w k := (bm_of g1).2 rfl
          obtain ⟨u1, q1, q2⟩ := htot k (hwt k hbk)
          have q1 : u1 ∈ (su.getD k []).map Int.toNat := q1
          rw [e1] at q1
          obtain ⟨y1, q3, rfl⟩ := List.mem_map.1 q1
          have rr : ∀ u ∈ row, 0 ≤ u ∧ u < ow.length := fun u hu => su_range V hk' (by rw [e1]; exact hu)
          obtain ⟨i, u, r1, r2, r3⟩ := idxFrom_some (p := fun u => inL.getD u.toNat false) (j := 0) (row := row) ⟨y1, q3, by rw [List.getD, q2]; rfl⟩
          have il := getSome_lt r2
          have ur := rr u (List.mem_of_getElem? r2)
          have bu : bm inL u.toNat := by
            have hul : u.toNat < inL.length := by omega
            rw [List.getD, List.getElem?_eq_getElem hul] at r3
            unfold bm; rw [List.getElem?_eq_getElem hul]; simpa using r3
          simp only [PP, P1, P2, P3, P4, P5, P6, P7, P8, P9, P10, P11, P12, P13, P14, L1, P15, N1, N2, N3, N4, N5, N6, N7, I1, I2, I3, I4, I5, I6, I7, reduceIte, reduceCtorEq, e2]
          refine indexFunc_p T (fun u => inL.getD u.toNat false) hrb (fun u hu K' hK' => ?_) ?_
          · obtain ⟨z, gz⟩ := some_of (xs := inL) (k := u.toNat) (by have := rr u hu; omega)
            have ez : inL.getD u.toNat false = z := by simp [List.getD, gz]
            refine SemC_fn T.h70 ?_
            simp only [af70, PP, P1, P2, P3, P4, P5, P6, P7, P8, P9, P10, P11, P12, P13, P14, L1, P15, N1, N2, N3, N4, N5, N6, N7, I1, I2, I3, I4, I5, I6, I7, reduceIte, reduceCtorEq, (rr u hu).1, (rr u hu).2, gz, hi]
            rw [ez] at hK'
            exact hK'
          · have i0 : (0 : Int) ≤ ((0 + i : Nat) : Int) := by omega
            have i1 : ((0 + i : Nat) : Int) < row.length := by omega
            have st3 : k + 1 ≤ ow.length := hk'
            rw [r1]
            simp only [PP, P1, P2, P3, P4, P5, P6, P7, P8, P9, P10, P11, P12, P13, P14, L1, P15, N1, N2, N3, N4, N5, N6, N7, I1, I2, I3, I4, I5, I6, I7, reduceIte, reduceCtorEq] at i0 i1 ⊢
            simp only [PP, P1, P2, P3, P4, P5, P6, P7, P8, P9, P10, P11, P12, P13, P14, L1, P15, N1, N2, N3, N4, N5, N6, N7, I1, I2, I3, I4, I5, I6, I7, reduceIte, reduceCtorEq, i0, i1, r2, k0, kn, ls, st3, hwk]
            refine SemW_to (ih3 (k + 1) (ver + 1) (st.set k u) ⟨by omega, by simp [ls], fun y hy => ?_, fun v hv b1 b2 => ?_, fun v hv => ?_⟩ (by omega)) (by simp only [PWeak_nil, PWeak_junk, PWeak_same, Int.cast_ofNat_Int, List.length_append, List.length_cons, List.length_nil, Nat.zero_add]) (by simp only [← List.map_set])
            · rcases List.mem_or_eq_of_mem_set hy with h | h
              · exact nn y h
              · subst h; exact ur.1
            · rw [stN_set (by omega)]
              by_cases e : v = k
              · subst e; rw [if_pos rfl]
                exact ⟨List.mem_map.2 ⟨u, by rw [e1]; exact List.mem_of_getElem? r2, rfl⟩, bu⟩
              · rw [if_neg e]; exact hst v (by omega) b1 b2
            · have e : v ≠ k := by rintro rfl; exact hv ⟨by omega, hbk, by rw [eo]; exact e2⟩
              rw [stN_set (by omega), if_neg e]
              exact hoth v fun q => hv ⟨by omega, q.2⟩
        · simp only [PP, P1, P2, P3, P4, P5, P6, P7, P8, P9, P10, P11, P12, P13, P14, L1, P15, N1, N2, N3, N4, N5, N6, N7, I1, I2, I3, I4, I5, I6, I7, reduceIte, reduceCtorEq, e2, hwk]
          exact SemW_weak (ih3 (k + 1) ver st (keep fun h => e2 (by rw [← eo]; exact h.2)) (by omega)) (by simp only [PWeak_nil, PWeak_junk, PWeak_same, Int.cast_ofNat_Int, List.length_append, List.length_cons, List.length_nil, Nat.zero_add])
      · simp only [PP, P1, P2, P3, P4, P5, P6, P7, P8, P9, P10, P11, P12, P13, P14, L1, P15, N1, N2, N3, N4, N5, N6, N7, I1, I2, I3, I4, I5, I6, I7, reduceIte, reduceCtorEq, e]
        have hz := zk_one (D := bm inL) (p := 0) (top := top) att (by exact htg) hmx hp2 sub hsame2 (fun v hx ho2 => hst v (by have := bm_lt hx; omega) hx ho2) (s3 := stN st) (fun v hx => hoth v fun q => hx q.2.1)
        have hnr : ∀ v, ¬ bm (List.replicate ow.length false) v := fun v h => by
          unfold bm at h
          rw [List.getElem?_replicate] at h
          split at h <;> simp at h
        have hemr : SolIn (zO ow) (Sf su) (zP pr) (bm inL) 1 (bm (List.replicate ow.length false)) (stN st) :=
          ⟨fun v h => absurd h (hnr v), fun v h => absurd h (hnr v), fun v h => absurd h (hnr v), fun cc kk _ _ h => absurd (h 0) (hnr _)⟩
        have hsm : ∀ v, ¬ bm inL v → stN st v = stN st0 v := fun v h => by
          rw [hoth v (fun q => h (hwt v q.2.1)), hsame2 v (fun q => h q.1), att.same v (.inl fun q => h (att.sub v q))]
        refine ⟨.agg [slB false true inL, slB false true (List.replicate ow.length false)], _, pfrz_agg2 (pfrz1_slB _ _ _ _ _) (pfrz1_refB (by omega) (by simp; rfl) (by simp)), pfrzM_all (by simp only [PP, P1, P2, P3, P4, P5, P6, P7, P8, P9, P10, P11, P12, P13, P14, L1, P15, N1, N2, N3, N4, N5, N6, N7, I1, I2, I3, I4, I5, I6, I7, reduceIte, reduceCtorEq, cutOk_cells, h0, h1, underL_ints]), hk ver st _ _ ⟨hi, by simp, ls, nn, fun v => ⟨.inl, fun h => h.resolve_right (hnr v)⟩, fun v _ h => hnr v h, hz, hemr, hsm⟩⟩
  · simp only [PP, P1, P2, P3, P4, P5, P6, P7, P8, P9, P10, P11, P12, P13, P14, L1, P15, N1, N2, N3, N4, N5, N6, N7, I1, I2, I3, I4, I5, I6, I7, reduceIte, reduceCtorEq, hp2]
    refine SemC_prefix (m := 4) (by simp) (by simp only [PP, P1, P2, P3, P4, P5, P6, P7, P8, P9, P10, P11, P12, P13, P14, L1, P15, N1, N2, N3, N4, N5, N6, N7, I1, I2, I3, I4, I5, I6, I7, reduceIte, reduceCtorEq, slB]) (by simp only [PP, P1, P2, P3, P4, P5, P6, P7, P8, P9, P10, P11, P12, P13, P14, L1, P15, N1, N2, N3, N4, N5, N6, N7, I1, I2, I3, I4, I5, I6, I7, reduceIte, reduceCtorEq, cutOk_cells, h0, h1, underL_ints]) ?_
    refine attract_z T V B h0 h1 hi hw hs hs0 hwt ?_
    intro ver1 A st1 r1 lA ls1 nn1 att
    refine ⟨under_slB _ _ _ _ _ _, rfl, by simp only [PP, P1, P2, P3, P4, P5, P6, P7, P8, P9, P10, P11, P12, P13, P14, L1, P15, N1, N2, N3, N4, N5, N6, N7, I1, I2, I3, I4, I5, I6, I7, reduceIte, reduceCtorEq, cutOk_cells, h0, h1, underL_ints], ?_⟩
    simp only [PP, P1, P2, P3, P4, P5, P6, P7, P8, P9, P10, P11, P12, P13, P14, L1, P15, N1, N2, N3, N4, N5, N6, N7, I1, I2, I3, I4, I5, I6, I7, reduceIte, reduceCtorEq]
    refine ⟨by split <;> rfl, ?_⟩
    refine minus_z T hi lA (by omega) ?_
    simp only [PP, P1, P2, P3, P4, P5, P6, P7, P8, P9, P10, P11, P12, P13, P14, L1, P15, N1, N2, N3, N4, N5, N6, N7, I1, I2, I3, I4, I5, I6, I7, reduceIte, reduceCtorEq]
    refine SemC_prefix (m := 4) (by simp) (by simp only [PP, P1, P2, P3, P4, P5, P6, P7, P8, P9, P10, P11, P12, P13, P14, L1, P15, N1, N2, N3, N4, N5, N6, N7, I1, I2, I3, I4, I5, I6, I7, reduceIte, reduceCtorEq, slB]) (by simp only [PP, P1, P2, P3, P4, P5, P6, P7, P8, P9, P10, P11, P12, P13, P14, L1, P15, N1, N2, N3, N4, N5, N6, N7, I1, I2, I3, I4, I5, I6, I7, reduceIte, reduceCtorEq, cutOk_cells, h0, h1, underL_ints]) ?_
    have vtA := att.tgt vt ((htg vt).2 ⟨vt2, vt3⟩)
    have hcm := count_minus hi vt2 vtA
    have mA : ∀ v, bm (minusL inL A ow.length) v ↔ bm inL v ∧ ¬ bm A v := fun v => bm_minus hi
    refine IH (minusL inL A ow.length) st1 ver1 _ (by omega) (minusL_len _ _ _) ls1 nn1 (fun v hv => ?_) ?_
    · obtain ⟨u, q1, q2⟩ := att.tot htot v ((mA v).1 hv)
      exact ⟨u, q1, (mA u).2 q2⟩
    intro ver2 st2 wa wb Z2
    refine ⟨by simp only [PP, P1, P2, P3, P4, P5, P6, P7, P8, P9, P10, P11, P12, P13, P14, L1, P15, N1, N2, N3, N4, N5, N6, N7, I1, I2, I3, I4, I5, I6, I7, reduceIte, reduceCtorEq, slB], rfl, by simp only [PP, P1, P2, P3, P4, P5, P6, P7, P8, P9, P10, P11, P12, P13, P14, L1, P15, N1, N2, N3, N4, N5, N6, N7, I1, I2, I3, I4, I5, I6, I7, reduceIte, reduceCtorEq, cutOk_cells, h0, h1, underL_ints], ?_⟩
    simp only [PP, P1, P2, P3, P4, P5, P6, P7, P8, P9, P10, P11, P12, P13, P14, L1, P15, N1, N2, N3, N4, N5, N6, N7, I1, I2, I3, I4, I5, I6, I7, reduceIte, reduceCtorEq]
    refine ⟨by split <;> split <;> rfl, ?_⟩
    simp only [PP, P1, P2, P3, P4, P5, P6, P7, P8, P9, P10, P11, P12, P13, P14, L1, P15, N1, N2, N3, N4, N5, N6, N7, I1, I2, I3, I4, I5, I6, I7, reduceIte, reduceCtorEq, hw0]
    have lq : wa.length < big := by show _ < 1000000000000; have := Z2.l0; omega
    refine empty_p T lq ?_
    by_cases hemp : true ∈ wa
    · simp only [PP, P1, P2, P3, P4, P5, P6, P7, P8, P9, P10, P11, P12, P13, P14, L1, P15, N1, N2, N3, N4, N5, N6, N7, I1, I2, I3, I4, I5, I6, I7, reduceIte, reduceCtorEq, hemp]
      simp only [PP, P1, P2, P3, P4, P5, P6, P7, P8, P9, P10, P11, P12, P13, P14, L1, P15, N1, N2, N3, N4, N5, N6, N7, I1, I2, I3, I4, I5, I6, I7, reduceIte, reduceCtorEq, hw0]
      obtain ⟨ve, hve⟩ := mem_bm.1 hemp
      have eA : (bm (minusL inL A ow.length)) = fun v => bm inL v ∧ ¬ bm A v := funext fun v => propext (mA v)
      have sub := Z2.p0
      rw [eA] at sub
      have hWi : ∀ v, bm wa v → bm inL v := fun v h => ((sub.sub v h).1)
      refine SemC_prefix (m := 4) (by simp) (by simp only [PP, P1, P2, P3, P4, P5, P6, P7, P8, P9, P10, P11, P12, P13, P14, L1, P15, N1, N2, N3, N4, N5, N6, N7, I1, I2, I3, I4, I5, I6, I7, reduceIte, reduceCtorEq, slB]) (by simp only [PP, P1, P2, P3, P4, P5, P6, P7, P8, P9, P10, P11, P12, P13, P14, L1, P15, N1, N2, N3, N4, N5, N6, N7, I1, I2, I3, I4, I5, I6, I7, reduceIte, reduceCtorEq, cutOk_cells, h0, h1, underL_ints]) ?_
      refine attract_z T V B h0 h1 hi Z2.l0 Z2.ls Z2.nn hWi ?_
      intro ver3 L st3 r3 lL ls3 nn3 att3
      refine ⟨under_slB _ _ _ _ _ _, rfl, by simp only [PP, P1, P2, P3, P4, P5, P6, P7, P8, P9, P10, P11, P12, P13, P14, L1, P15, N1, N2, N3, N4, N5, N6, N7, I1, I2, I3, I4, I5, I6, I7, reduceIte, reduceCtorEq, cutOk_cells, h0, h1, underL_ints], ?_⟩
      simp only [PP, P1, P2, P3, P4, P5, P6, P7, P8, P9, P10, P11, P12, P13, P14, L1, P15, N1, N2, N3, N4, N5, N6, N7, I1, I2, I3, I4, I5, I6, I7, reduceIte, reduceCtorEq]
      refine minus_z T hi lL (by omega) ?_
      simp only [PP, P1, P2, P3, P4, P5, P6, P7, P8, P9, P10, P11, P12, P13, P14, L1, P15, N1, N2, N3, N4, N5, N6, N7, I1, I2, I3, I4, I5, I6, I7, reduceIte, reduceCtorEq]
      refine SemC_prefix (m := 4) (by simp) (by simp only [PP, P1, P2, P3, P4, P5, P6, P7, P8, P9, P10, P11, P12, P13, P14, L1, P15, N1, N2, N3, N4, N5, N6, N7, I1, I2, I3, I4, I5, I6, I7, reduceIte, reduceCtorEq, slB]) (by simp only [PP, P1, P2, P3, P4, P5, P6, P7, P8, P9, P10, P11, P12, P13, P14, L1, P15, N1, N2, N3, N4, N5, N6, N7, I1, I2, I3, I4, I5, I6, I7, reduceIte, reduceCtorEq, cutOk_cells, h0, h1, underL_ints]) ?_
      have hcm2 := count_minus hi (hWi ve hve) (att3.tgt ve hve)
      have mL : ∀ v, bm (minusL inL L ow.length) v ↔ bm inL v ∧ ¬ bm L v := fun v => bm_minus hi
      refine IH (minusL inL L ow.length) st3 ver3 _ (by omega) (minusL_len _ _ _) ls3 nn3 (fun v hv => ?_) ?_
      · obtain ⟨u, q1, q2⟩ := att3.tot htot v ((mL v).1 hv)
        exact ⟨u, q1, (mL u).2 q2⟩
      intro ver4 st4 xa xb Z4
      refine ⟨by simp only [PP, P1, P2, P3, P4, P5, P6, P7, P8, P9, P10, P11, P12, P13, P14, L1, P15, N1, N2, N3, N4, N5, N6, N7, I1, I2, I3, I4, I5, I6, I7, reduceIte, reduceCtorEq, slB], rfl, by simp only [PP, P1, P2, P3, P4, P5, P6, P7, P8, P9, P10, P11, P12, P13, P14, L1, P15, N1, N2, N3, N4, N5, N6, N7, I1, I2, I3, I4, I5, I6, I7, reduceIte, reduceCtorEq, cutOk_cells, h0, h1, underL_ints], ?_⟩
      have nz : ¬ ow.length = 0 := by omega
      have b3 : ow.length ≤ 140737488355328 := by omega
      have b4 : ow.length ≤ 9223372036854775807 := by omega
      have lxq : xa.length = ow.length := Z4.l0
      simp only [PP, P1, P2, P3, P4, P5, P6, P7, P8, P9, P10, P11, P12, P13, P14, L1, P15, N1, N2, N3, N4, N5, N6, N7, I1, I2, I3, I4, I5, I6, I7, reduceIte, reduceCtorEq, hw0]
      refine SemC_fn T.h71 ?_
      simp only [af71, PP, P1, P2, P3, P4, P5, P6, P7, P8, P9, P10, P11, P12, P13, P14, L1, P15, N1, N2, N3, N4, N5, N6, N7, I1, I2, I3, I4, I5, I6, I7, reduceIte, reduceCtorEq, lxq, nz, b3, b4, hw0, lL]
      have eL : (bm (minusL inL L ow.length)) = fun v => bm inL v ∧ ¬ bm L v := funext fun v => propext (mL v)
      have subp := Z4.p1
      have subq := Z4.p0
      rw [eL] at subp subq
      obtain ⟨z1, z2⟩ := zk_two (D := bm inL) (p := 1) (q := 0) (by omega) (fun v h => (hO v h).symm) att sub att3 subp subq (fun v h => Z4.same v fun q => h ((mL v).1 q))
      refine loop3 (fun (k ver : Nat) (x : List Bool) => k ≤ ow.length ∧ x.length = ow.length ∧ ∀ v, bm x v ↔ bm xa v ∨ (v < k ∧ bm L v))
        (fun k ver x => [.junk, .junk, .junk, .junk, .ptr 5 0 0, .junk, .junk, p8 1, .junk, .junk, .junk, .junk, .junk, slB false true L, .junk, .junk, .junk, .junk, .junk, .junk, .junk, .junk, .junk, .junk, .junk, .junk, .junk, .junk, .junk, .junk, .junk, .junk, .junk, .junk, .junk, .junk, .junk, .junk, .junk, .junk, .junk, .junk, .junk, .junk, .junk, .junk, .junk, .junk, .junk, .junk, .junk, .junk, .junk, .junk, .junk, .junk, .junk, .junk, .junk, .junk, .junk, .junk, .junk, .junk, .junk, .junk, .junk, .junk, .junk, .junk, .junk, .junk, .junk, .junk, .junk, .junk, .junk, .junk, .junk, .junk, .junk, .junk, .junk, .junk, .junk, .junk, .junk, .junk, .junk, .junk, .junk, .junk, .junk, .junk, .junk, .junk, .junk, .junk, .junk, .junk, .junk, .junk, .junk, .junk, .junk, .junk, .junk, .junk, .junk, .junk, .junk, .junk, .junk, .junk, .junk, .junk, .junk, .junk, .junk, .junk, .junk, .junk, .junk, .junk, .junk, .junk, .junk, .junk, .junk, .junk, .junk, .junk, .junk, .junk, .junk, .junk, .junk, .junk, .junk, .junk, .junk, .junk, .junk, .junk, .junk, .junk, .junk, .junk, .junk, .junk, .junk, .junk, .junk, .junk, .junk, .junk, .junk, p64 ow.length, p64 k, .junk, .junk, .junk, .junk, .junk, .junk, .junk, .junk, .junk, .junk, .junk, .junk, .junk, .junk, .junk, .junk, .junk, .junk, .junk, .junk, .junk, .junk, .junk])
        (fun k ver x => [o0, o1, .cells 0 ver4 (st4.map (PV.int .i64)), .cells 0 0 (zSol f1 p1 f2 p2 f3 p3 f4 p4 ow pr su), .cells 0 0 [slB false true inL], .cells 0 3 [.ref 10 0 1 0 ow.length, slB false true xb], .cells 0 0 (List.replicate ow.length (.bool false)), .cells 0 0 (List.replicate ow.length (.bool false)), .gone, .cells 0 1 [slB false true wa, slB false true wb], .cells 0 ver (x.map PV.bool)])
        (fun k _ _ => ow.length - k) 0 0 xa ⟨by omega, lxq, fun v => ⟨.inl, fun h => h.elim id fun q => by omega⟩⟩ (by simp only [PWeak_nil, PWeak_junk, PWeak_same, Int.cast_ofNat_Int, List.length_append, List.length_cons, List.length_nil, Nat.zero_add]) (by simp only [PP, P1, P2, P3, P4, P5, P6, P7, P8, P9, P10, P11, P12, P13, P14, L1, P15, N1, N2, N3, N4, N5, N6, N7, I1, I2, I3, I4, I5, I6, I7, reduceIte, reduceCtorEq]) ?_
      intro k ver x ⟨hle, lx, hx⟩ ih3
      refine SemW_go (by kernel_rfl) ?_
      simp only [PP, P1, P2, P3, P4, P5, P6, P7, P8, P9, P10, P11, P12, P13, P14, L1, P15, N1, N2, N3, N4, N5, N6, N7, I1, I2, I3, I4, I5, I6, I7, reduceIte, reduceCtorEq]
      refine QIf.intro (fun e => ?_) (fun e => ?_)
      · have hk' : k < ow.length := by omega
        have k0 : (0 : Int) ≤ k := by omega
        have kn : (k : Int) < ow.length := by omega
        have k1 : k + 1 ≤ ow.length := hk'
        have hwk := wrap_succ (k := k) (by show _ < 1000000000000; omega)
        obtain ⟨y, g1⟩ := some_of (xs := x) (k := k) (by omega)
        obtain ⟨z, g2⟩ := some_of (xs := L) (k := k) (by omega)
        have up : ∀ b : Bool, (b = true ↔ bm x k ∨ bm L k) → k + 1 ≤ ow.length ∧ (x.set k b).length = ow.length ∧ ∀ v, bm (x.set k b) v ↔ bm xa v ∨ (v < k + 1 ∧ bm L v) := fun b hb => by
          refine ⟨by omega, by simp [lx], fun v => ?_⟩
          by_cases e : v = k
          · subst e
            have : bm (x.set v b) v ↔ b = true := by unfold bm; rw [List.getElem?_set_self (by omega)]; simp
            rw [this, hb, hx v]
            constructor
            · rintro (h | h)
              · exact h.imp id fun q => ⟨by omega, q.2⟩
              · exact .inr ⟨by omega, h⟩
            · rintro (h | h)
              · exact .inl (.inl h)
              · exact .inr h.2
          · have : bm (x.set k b) v ↔ bm x v := by unfold bm; rw [List.getElem?_set_ne (by omega)]
            rw [this, hx v]
            exact ⟨fun h => h.imp id fun q => ⟨by omega, q.2⟩, fun h => h.imp id fun q => ⟨by omega, q.2⟩⟩
        cases y
        · have hy : ¬ bm x k := fun h => by rw [bm_of g1] at h; cases h
          simp only [PP, P1, P2, P3, P4, P5, P6, P7, P8, P9, P10, P11, P12, P13, P14, L1, P15, N1, N2, N3, N4, N5, N6, N7, I1, I2, I3, I4, I5, I6, I7, reduceIte, reduceCtorEq, e, hw0, k0, kn, g1, g2, lx, lL, k1, hwk]
          exact SemW_to (ih3 (k + 1) (ver + 1) (x.set k z) (up z ⟨fun h => .inr ((bm_of g2).2 h), fun h => h.elim (fun q => absurd q hy) (bm_of g2).1⟩) (by omega)) (by simp only [PWeak_nil, PWeak_junk, PWeak_same, Int.cast_ofNat_Int, List.length_append, List.length_cons, List.length_nil, Nat.zero_add]) (by simp only [← List.map_set])
        · simp only [PP, P1, P2, P3, P4, P5, P6, P7, P8, P9, P10, P11, P12, P13, P14, L1, P15, N1, N2, N3, N4, N5, N6, N7, I1, I2, I3, I4, I5, I6, I7, reduceIte, reduceCtorEq, e, hw0, k0, kn, g1, lx, k1, hwk]
          exact SemW_to (ih3 (k + 1) (ver + 1) (x.set k true) (up true ⟨fun _ => .inl ((bm_of g1).2 rfl), fun _ => rfl⟩) (by omega)) (by simp only [PWeak_nil, PWeak_junk, PWeak_same, Int.cast_ofNat_Int, List.length_append, List.length_cons, List.length_nil, Nat.zero_add]) (by simp only [← List.map_set])
      · have hkn : k = ow.length := by omega
        subst hkn
        have hx : ∀ v, bm x v ↔ bm xa v ∨ bm L v := fun v => (hx v).trans ⟨fun h => h.imp id And.right, fun h => h.imp id fun q => ⟨by have := bm_lt q; omega, q⟩⟩
        simp only [PP, P1, P2, P3, P4, P5, P6, P7, P8, P9, P10, P11, P12, P13, P14, L1, P15, N1, N2, N3, N4, N5, N6, N7, I1, I2, I3, I4, I5, I6, I7, reduceIte, reduceCtorEq, e]
        have z2' : SolIn (zO ow) (Sf su) (zP pr) (bm inL) 0 (bm x) (stN st4) := by
          have e2 : bm x = fun v => bm xa v ∨ bm L v := funext fun v => propext (hx v)
          rw [e2]; exact z2
        have hsm : ∀ v, ¬ bm inL v → stN st4 v = stN st0 v := fun v h => by
          have q1 : ¬ bm L v := fun q => h (att3.sub v q)
          rw [Z4.same v (fun q => h ((mL v).1 q).1), att3.same v (.inl q1), Z2.same v (fun q => h ((mA v).1 q).1), att.same v (.inl fun q => h (att.sub v q))]
        refine ⟨.agg [slB false true x, slB false true xb], _, pfrz_agg2 (pfrz1_refB (by omega) rfl lx) (pfrz1_slB _ _ _ _ _), pfrzM_all (by simp only [PP, P1, P2, P3, P4, P5, P6, P7, P8, P9, P10, P11, P12, P13, P14, L1, P15, N1, N2, N3, N4, N5, N6, N7, I1, I2, I3, I4, I5, I6, I7, reduceIte, reduceCtorEq, cutOk_cells, h0, h1, underL_ints]), hk ver4 st4 _ _ ⟨lx, Z4.l1, Z4.ls, Z4.nn, fun v => ⟨fun h => ?_, fun h => h.elim (fun q => ((hx v).1 q).elim (fun q => ((mL v).1 ((Z4.all v).2 (.inl q))).1) (att3.sub v)) fun q => ((mL v).1 ((Z4.all v).2 (.inr q))).1⟩, fun v q2 q1 => ((hx v).1 q2).elim (fun q => Z4.dis v q q1) fun q => ((mL v).1 ((Z4.all v).2 (.inr q1))).2 q, z2', z1, hsm⟩⟩
        by_cases hl : bm L v
        · exact .inl ((hx v).2 (.inr hl))
        · exact (Z4.all v).1 ((mL v).2 ⟨h, hl⟩) |>.elim (fun q => .inl ((hx v).2 (.inl q))) .inr
    · simp only [PP, P1, P2, P3, P4, P5, P6, P7, P8, P9, P10, P11, P12, P13, P14, L1, P15, N1, N2, N3, N4, N5, N6, N7, I1, I2, I3, I4, I5, I6, I7, reduceIte, reduceCtorEq, hemp]
      have eA : (bm (minusL inL A ow.length)) = fun v => bm inL v ∧ ¬ bm A v := funext fun v => propext (mA v)
      have eW : bm wb = fun v => bm inL v ∧ ¬ bm A v := funext fun v => propext (by
        rw [← mA v, Z2.all v]
        exact ⟨.inr, fun h => h.resolve_left (not_mem_bm hemp v)⟩)
      have sub := Z2.p1
      rw [eA, eW] at sub
      have hsame2 : ∀ v, ¬ (bm inL v ∧ ¬ bm A v) → stN st2 v = stN st1 v := fun v h => Z2.same v (fun q => h ((mA v).1 q))
      refine loop3 (fun (k ver : Nat) (st : List Int) => k ≤ ow.length ∧ st.length = ow.length ∧ (∀ x ∈ st, 0 ≤ x) ∧ (∀ v, v < k → bm w v → zO ow v = 1 → stN st v ∈ Sf su v ∧ bm inL (stN st v)) ∧ ∀ v, ¬ (v < k ∧ bm w v ∧ zO ow v = 1) → stN st v = stN st2 v)
        (fun k ver st => [.ptr 3 0 0, .junk, .junk, .ptr 4 0 0, .ptr 5 0 0, .junk, .junk, p8 1, slB false true w, .junk, .junk, .junk, .junk, .junk, .junk, .junk, .junk, .junk, .junk, .junk, .junk, .junk, .junk, .junk, .junk, .junk, .junk, .junk, .junk, .junk, .junk, .junk, .junk, .junk, .junk, .junk, .junk, .junk, .junk, .junk, .junk, .junk, .junk, .junk, .junk, .junk, .junk, .junk, .junk, .junk, .junk, .junk, .junk, .junk, .junk, .junk, .junk, .junk, .junk, .junk, .junk, .junk, .junk, .junk, .junk, .junk, .junk, .junk, .junk, .junk, .junk, .junk, .junk, .junk, .junk, .junk, .junk, .junk, .junk, .junk, .junk, .junk, .junk, .junk, .junk, .junk, .junk, .junk, .junk, .junk, .junk, .junk, .junk, .junk, slR f3 p3 f4 p4 .i64 su, p64 su.length, p64 k, .junk, .junk, .junk, .junk, .junk, .junk, .junk, .junk, .junk, .junk, .junk, .junk, .junk, .junk, .junk, .junk, .junk, .junk, .junk, .junk, .junk, .junk, .junk, .junk, .junk, .junk, .junk, .junk, .junk, .junk, .junk, .junk, .junk, .junk, .junk, .junk, .junk, .junk, .junk, .junk, .junk, .junk, .junk, .junk, .junk, .junk, .junk, .junk, .junk, .junk, .junk, .junk, .junk, .junk, .junk, .junk, .junk, .junk, .junk, .junk, .junk, .junk, .junk, .junk, .junk, .junk, .junk, .junk, .junk, .junk, .junk, .junk, .junk, .junk, .junk, .junk, .junk, .junk, .junk, .junk, .junk, .junk, .junk, .junk, .junk])
        (fun k ver st => [o0, o1, .cells 0 ver (st.map (PV.int .i64)), .cells 0 0 (zSol f1 p1 f2 p2 f3 p3 f4 p4 ow pr su), .cells 0 0 [slB false true inL], .cells 0 1 [.ref 6 0 1 0 ow.length, .ref 7 0 1 0 ow.length], .cells 0 0 (List.replicate ow.length (.bool false)), .cells 0 0 (List.replicate ow.length (.bool false)), .gone, .cells 0 1 [slB false true wa, slB false true wb]])
        (fun k _ _ => ow.length - k) 0 ver2 st2 ⟨by omega, Z2.ls, Z2.nn, fun v h => by omega, fun _ _ => rfl⟩ (by simp only [PWeak_nil, PWeak_junk, PWeak_same, Int.cast_ofNat_Int, List.length_append, List.length_cons, List.length_nil, Nat.zero_add]) rfl ?_
      intro k ver st ⟨hle, ls, nn, hst, hoth⟩ ih3
      refine SemW_go (by kernel_rfl) ?_
      simp only [PP, P1, P2, P3, P4, P5, P6, P7, P8, P9, P10, P11, P12, P13, P14, L1, P15, N1, N2, N3, N4, N5, N6, N7, I1, I2, I3, I4, I5, I6, I7, reduceIte, reduceCtorEq]
      refine QIf.intro (fun e => ?_) (fun e => ?_)
      · have hk' : k < ow.length := by omega
        have k0 : (0 : Int) ≤ k := by omega
        have kn : (k : Int) < ow.length := by omega
        have hwk := wrap_succ (k := k) (by show _ < 1000000000000; omega)
        obtain ⟨x, g1⟩ := some_of (xs := w) (k := k) (by omega)
        obtain ⟨o, g2⟩ := some_of (xs := ow) (k := k) hk'
        obtain ⟨row, g3⟩ := some_of (xs := su) (k := k) (by omega)
        have eo : zO ow k = o := getD_some g2
        have e1 : su.getD k [] = row := by simp [List.getD, g3]
        have keep : ¬ (bm w k ∧ zO ow k = 1) → k + 1 ≤ ow.length ∧ st.length = ow.length ∧ (∀ x ∈ st, 0 ≤ x) ∧ (∀ v, v < k + 1 → bm w v → zO ow v = 1 → stN st v ∈ Sf su v ∧ bm inL (stN st v)) ∧ ∀ v, ¬ (v < k + 1 ∧ bm w v ∧ zO ow v = 1) → stN st v = stN st2 v := fun hn =>
          ⟨by omega, ls, nn, fun v hv q1 q2 => by
            by_cases e : v = k
            · subst e; exact absurd ⟨q1, q2⟩ hn
            · exact hst v (by omega) q1 q2, fun v hv => hoth v fun q => hv ⟨by omega, q.2⟩⟩
        simp only [PP, P1, P2, P3, P4, P5, P6, P7, P8, P9, P10, P11, P12, P13, P14, L1, P15, N1, N2, N3, N4, N5, N6, N7, I1, I2, I3, I4, I5, I6, I7, reduceIte, reduceCtorEq, e, k0, g3, g1, hw, kn]
        cases x
        · have hnb : ¬ bm w k := fun h => by rw [bm_of g1] at h; cases h
          simp only [PP, P1, P2, P3, P4, P5, P6, P7, P8, P9, P10, P11, P12, P13, P14, L1, P15, N1, N2, N3, N4, N5, N6, N7, I1, I2, I3, I4, I5, I6, I7, reduceIte, reduceCtorEq, hwk]
          exact SemW_weak (ih3 (k + 1) ver st (keep fun h => hnb h.1) (by omega)) (by simp only [PWeak_nil, PWeak_junk, PWeak_same, Int.cast_ofNat_Int, List.length_append, List.length_cons, List.length_nil, Nat.zero_add])
        simp only [PP, P1, P2, P3, P4, P5, P6, P7, P8, P9, P10, P11, P12, P13, P14, L1, P15, N1, N2, N3, N4, N5, N6, N7, I1, I2, I3, I4, I5, I6, I7, reduceIte, reduceCtorEq, k0, kn, g2]
        refine QIf.intro (fun e2 => ?_) (fun e2 => ?_)
        · have hrb : row.length < big := B.r _ (List.mem_of_getElem? g3)
          have hbk : bm w k := (bm_of g1).2 rfl
          obtain ⟨u1, q1, q2⟩ := htot k (hwt k hbk)
          have q1 : u1 ∈ (su.getD k []).map Int.toNat := q1
          rw [e1] at q1
          obtain ⟨y1, q3, rfl⟩ := List.mem_map.1 q1
          have rr : ∀ u ∈ row, 0 ≤ u ∧ u < ow.length := fun u hu => su_range V hk' (by rw [e1]; exact hu)
          obtain ⟨i, u, r1, r2, r3⟩ := idxFrom_some (p := fun u => inL.getD u.toNat false) (j := 0) (row := row) ⟨y1, q3, by rw [List.getD, q2]; rfl⟩
          have il := getSome_lt r2
          have ur := rr u (List.mem_of_getElem? r2)
          have bu : bm inL u.toNat := by
            have hul : u.toNat < inL.length := by omega
            rw [List.getD, List.getElem?_eq_getElem hul] at r3
            unfold bm; rw [List.getElem?_eq_getElem hul]; simpa using r3
          simp only [PP, P1, P2, P3, P4, P5, P6, P7, P8, P9, P10, P11, P12, P13, P14, L1, P15, N1, N2, N3, N4, N5, N6, N7, I1, I2, I3, I4, I5, I6, I7, reduceIte, reduceCtorEq, e2]
          refine indexFunc_p T (fun u => inL.getD u.toNat false) hrb (fun u hu K' hK' => ?_) ?_
          · obtain ⟨z, gz⟩ := some_of (xs := inL) (k := u.toNat) (by have := rr u hu; omega)
            have ez : inL.getD u.toNat false = z := by simp [List.getD, gz]
            refine SemC_fn T.h70 ?_
            simp only [af70, PP, P1, P2, P3, P4, P5, P6, P7, P8, P9, P10, P11, P12, P13, P14, L1, P15, N1, N2, N3, N4, N5, N6, N7, I1, I2, I3, I4, I5, I6, I7, reduceIte, reduceCtorEq, (rr u hu).1, (rr u hu).2, gz, hi]
            rw [ez] at hK'
            exact hK'
          · have i0 : (0 : Int) ≤ ((0 + i : Nat) : Int) := by omega
            have i1 : ((0 + i : Nat) : Int) < row.length := by omega
            have st3 : k + 1 ≤ ow.length := hk'
            rw [r1]
            simp only [PP, P1, P2, P3, P4, P5, P6, P7, P8, P9, P10, P11, P12, P13, P14, L1, P15, N1, N2, N3, N4, N5, N6, N7, I1, I2, I3, I4, I5, I6, I7, reduceIte, reduceCtorEq] at i0 i1 ⊢
            simp only [PP, P1, P2, P3, P4, P5, P6, P7, P8, P9, P10, P11, P12, P13, P14, L1, P15, N1, N2, N3, N4, N5, N6, N7, I1, I2, I3, I4, I5, I6, I7, reduceIte, reduceCtorEq, i0, i1, r2, k0, kn, ls, st3, hwk]
            refine SemW_to (ih3 (k + 1) (ver + 1) (st.set k u) ⟨by omega, by simp [ls], fun y hy => ?_, fun v hv b1 b2 => ?_, fun v hv => ?_⟩ (by omega)) (by simp only [PWeak_nil, PWeak_junk, PWeak_same, Int.cast_ofNat_Int, List.length_append, List.length_cons, List.length_nil, Nat.zero_add]) (by simp only [← List.map_set])
            · rcases List.mem_or_eq_of_mem_set hy with h | h
              · exact nn y h
              · subst h; exact ur.1
            · rw [stN_set (by omega)]
              by_cases e : v = k
              · subst e; rw [if_pos rfl]
                exact ⟨List.mem_map.2 ⟨u, by rw [e1]; exact List.mem_of_getElem? r2, rfl⟩, bu⟩
              · rw [if_neg e]; exact hst v (by omega) b1 b2
            · have e : v ≠ k := by rintro rfl; exact hv ⟨by omega, hbk, by rw [eo]; exact e2⟩
              rw [stN_set (by omega), if_neg e]
              exact hoth v fun q => hv ⟨by omega, q.2⟩
        · simp only [PP, P1, P2, P3, P4, P5, P6, P7, P8, P9, P10, P11, P12, P13, P14, L1, P15, N1, N2, N3, N4, N5, N6, N7, I1, I2, I3, I4, I5, I6, I7, reduceIte, reduceCtorEq, e2, hwk]
          exact SemW_weak (ih3 (k + 1) ver st (keep fun h => e2 (by rw [← eo]; exact h.2)) (by omega)) (by simp only [PWeak_nil, PWeak_junk, PWeak_same, Int.cast_ofNat_Int, List.length_append, List.length_cons, List.length_nil, Nat.zero_add])
      · simp only [PP, P1, P2, P3, P4, P5, P6, P7, P8, P9, P10, P11, P12, P13, P14, L1, P15, N1, N2, N3, N4, N5, N6, N7, I1, I2, I3, I4, I5, I6, I7, reduceIte, reduceCtorEq, e]
        have hz := zk_one (D := bm inL) (p := 1) (top := top) att (by exact htg) hmx hp2 sub hsame2 (fun v hx ho2 => hst v (by have := bm_lt hx; omega) hx ho2) (s3 := stN st) (fun v hx => hoth v fun q => hx q.2.1)
        have hnr : ∀ v, ¬ bm (List.replicate ow.length false) v := fun v h => by
          unfold bm at h
          rw [List.getElem?_replicate] at h
          split at h <;> simp at h
        have hemr : SolIn (zO ow) (Sf su) (zP pr) (bm inL) 0 (bm (List.replicate ow.length false)) (stN st) :=
          ⟨fun v h => absurd h (hnr v), fun v h => absurd h (hnr v), fun v h => absurd h (hnr v), fun cc kk _ _ h => absurd (h 0) (hnr _)⟩
        have hsm : ∀ v, ¬ bm inL v → stN st v = stN st0 v := fun v h => by
          rw [hoth v (fun q => h (hwt v q.2.1)), hsame2 v (fun q => h q.1), att.same v (.inl fun q => h (att.sub v q))]
        refine ⟨.agg [slB false true (List.replicate ow.length false), slB false true inL], _, pfrz_agg2 (pfrz1_refB (by omega) (by simp; rfl) (by simp)) (pfrz1_slB _ _ _ _ _), pfrzM_all (by simp only [PP, P1, P2, P3, P4, P5, P6, P7, P8, P9, P10, P11, P12, P13, P14, L1, P15, N1, N2, N3, N4, N5, N6, N7, I1, I2, I3, I4, I5, I6, I7, reduceIte, reduceCtorEq, cutOk_cells, h0, h1, underL_ints]), hk ver st _ _ ⟨by simp, hi, ls, nn, fun v => ⟨.inr, fun h => h.resolve_left (hnr v)⟩, fun v h _ => hnr v h, hemr, hz, hsm⟩⟩
end
end Go.Am.Ar

