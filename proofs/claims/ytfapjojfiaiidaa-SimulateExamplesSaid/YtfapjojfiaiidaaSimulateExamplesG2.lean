/- Contract: is a matrix a simulation (simulate.Is)?, and what goes with it. -/
import Derived.Test.YtfapjojfiaiidaaSimulateExamplesG1
import Derived.Test.YtfapjojfiaiidaaPmC
set_option linter.unusedVariables false
set_option linter.unusedSimpArgs false
set_option maxRecDepth 10000
namespace Go.Am.Ar
open Go.Am renaming pchk → P1, pold → P2, PKNo → P3, ppack → P4, PObj.under → P5, pput → P6, ptset → P7, ptget → P8, pev → P9, ofAV → P10, ofAV1 → P11, ppad → P12, pfill → P13, prepl → P14, AO.effect → P15
open List renaming replicate → L1
open Nat renaming reduceAdd → N1, reduceSub → N2, reduceMul → N3, reduceLT → N4, reduceLeDiff → N5, reduceEqDiff → N6, reduceBEq → N7
open Int renaming reduceToNat → I1, reduceLT → I2, reduceLE → I3, reduceEq → I4, reduceAdd → I5, reduceSub → I6, reduceNeg → I7
def SimR (N : NF) (r : Int → Int → Bool) : Prop := ∀ p q : Nat, (p : Int) < N.n → (q : Int) < N.n → r p q = true → HoldsP N r p q
def DimOk (N : NF) (rs : List (List Bool)) : Prop := (rs.length : Int) = N.n ∧ ∀ r ∈ rs, (r.length : Int) = N.n
theorem posM_mem {n : Int} {l : List Int} (h : posM n (-1) l = true) : ∀ x ∈ l, 0 ≤ x ∧ x < n := fun x hx => by
  have := (posM_rise h).2 x hx; omega
def faW (l : List Int) : Wd := ofL (l.map Int.toNat)
theorem natI_toNat {n : Int} {l : List Int} (h : ∀ x ∈ l, 0 ≤ x ∧ x < n) : natI (l.map Int.toNat) = l := by
  show (l.map Int.toNat).map (fun (v : Nat) => (v : Int)) = l
  rw [List.map_map]
  conv => rhs; rw [← List.map_id l]
  exact List.map_congr_left fun x hx => by have := h x hx; show ((x.toNat : Nat) : Int) = x; omega
theorem fa_ok {N : NF} (C : NOk N) {l : List Int} (h : posM N.n (-1) l = true) : (∀ x ∈ l.map Int.toNat, x < 4096) ∧ (faW l).length ≤ 64 ∧ ∀ k : Nat, bit (faW l) k = decide ((k : Int) ∈ l) := by
  have hm := posM_mem h
  have n64 := C.n64
  have h1 : ∀ x ∈ l.map Int.toNat, x < 4096 := fun x hx => by
    obtain ⟨y, hy, rfl⟩ := List.mem_map.1 hx
    have := hm y hy; omega
  refine ⟨h1, ofL_len h1, fun k => ?_⟩
  rw [faW, bit_ofL h1, decide_eq_decide, List.mem_map]
  exact ⟨fun ⟨y, hy, e⟩ => by have := hm y hy; rw [show (k : Int) = y by omega]; exact hy, fun hk => ⟨k, hk, by simp⟩⟩
theorem posM_len {n : Int} {l : List Int} (h : posM n (-1) l = true) (hn : n ≤ 64) : l.length ≤ 64 := by
  obtain ⟨h1, h2⟩ := posM_rise h
  have key : ∀ (l : List Int) (a : Int), l.Pairwise (· < ·) → (∀ x ∈ l, a < x ∧ x < n) → (l.length : Int) ≤ max 0 (n - a - 1) := by
    intro l
    induction l with
    | nil => intro a _ _; simp; omega
    | cons x l ih =>
      intro a hp hx
      have h1 := List.pairwise_cons.1 hp
      have h2 := ih x h1.2 fun z hz => ⟨h1.1 z hz, (hx z (by simp [hz])).2⟩
      have h3 := hx x (by simp)
      rw [List.length_cons]; omega
  have := key l (-1) h1 h2
  omega
section
variable {tab : FuncId → Option AF} (T : HasA tab)
include T
theorem ofF_p {M : Mem} {K : PV → Mem → Prop} {f o : Bool} {N : NF} (C : NOk N) {l : List Int} (h : posM N.n (-1) l = true) (hk : K (slW false true (faW l)) M) : SemC tab 60 [slI f o .i64 l] M K := by
  obtain ⟨fa1, fa2, fa3⟩ := fa_ok C h
  have hfl : l.length ≤ 64 := posM_len h C.n64
  exact of_p T (l := l.map Int.toNat) (natI_toNat (posM_mem h)) (by show _ < 1000000000000; rw [List.length_map]; omega) fa1 hk
theorem idxBr_p {M : Mem} {K : PV → Mem → Prop} {f o f2 o2 : Bool} {rs : List (List Bool)} {g : FuncId} {cap : List PV} {F : List Bool → Bool} (hm : rs.length < 1000000000000) (hu : underL 0 cap = true)
    (hf : ∀ x ∈ rs, ∀ (M' : Mem) (K' : PV → Mem → Prop), K' (.bool (F x)) M' → SemC tab g (slB f2 o2 x :: cap) M' K')
    (hk1 : (∀ x ∈ rs, F x = false) → K (p64 (-1)) M) (hk2 : ∀ (k : Nat) (x : List Bool), x ∈ rs → F x = true → K (p64 k) M) :
    SemC tab 79 [slBr f o f2 o2 rs, .func (.func g) [] cap] M K := by
  refine SemC_pure T.h79 (by simp only [PP, P1, P2, P3, P4, P5, P6, P7, P8, P9, P10, P11, P12, P13, P14, L1, P15, N1, N2, N3, N4, N5, N6, N7, I1, I2, I3, I4, I5, I6, I7, reduceIte, reduceCtorEq, PV.under, hu, under_slBr, brs_und]) ?_
  simp only [af79, PP, P1, P2, P3, P4, P5, P6, P7, P8, P9, P10, P11, P12, P13, P14, L1, P15, N1, N2, N3, N4, N5, N6, N7, I1, I2, I3, I4, I5, I6, I7, reduceIte, reduceCtorEq]
  refine loop1 (fun (k : Nat) => k ≤ rs.length ∧ ∀ j, j < k → ∀ x, rs[j]? = some x → F x = false) (fun k => [slBr f o f2 o2 rs, .func (.func g) [] cap, .junk, .junk, .junk, .junk, .junk, p64 rs.length, p64 k, .junk, .junk, .junk, .junk, .junk, .junk, .junk, .junk, .junk, .junk])
    (fun k => []) (fun k => rs.length - k) 0 ⟨by omega, by intro j h; omega⟩ (by simp only [PWeak_nil, PWeak_junk, PWeak_same, Int.cast_ofNat_Int, List.length_append, List.length_cons, List.length_nil, Nat.zero_add]) rfl ?_
  intro k ⟨hle, hd⟩ ih
  refine SemW_go (by kernel_rfl) ?_
  simp only [PP, P1, P2, P3, P4, P5, P6, P7, P8, P9, P10, P11, P12, P13, P14, L1, P15, N1, N2, N3, N4, N5, N6, N7, I1, I2, I3, I4, I5, I6, I7, reduceIte, reduceCtorEq]
  refine QIf.intro (fun c => ?_) (fun c => ?_)
  · have hk' : k < rs.length := by omega
    have k0 : (0 : Int) ≤ k := by omega
    have hwk := wrap_succ (k := k) (by show _ < 1000000000000; omega)
    obtain ⟨x, gx⟩ := some_of (xs := rs) (k := k) hk'
    simp only [PP, P1, P2, P3, P4, P5, P6, P7, P8, P9, P10, P11, P12, P13, P14, L1, P15, N1, N2, N3, N4, N5, N6, N7, I1, I2, I3, I4, I5, I6, I7, reduceIte, reduceCtorEq, c, k0, gx]
    refine hf x (List.mem_of_getElem? gx) _ _ ?_
    cases hF : F x with
    | true =>
      simp only [PP, P1, P2, P3, P4, P5, P6, P7, P8, P9, P10, P11, P12, P13, P14, L1, P15, N1, N2, N3, N4, N5, N6, N7, I1, I2, I3, I4, I5, I6, I7, reduceIte, reduceCtorEq]
      exact hk2 k x (List.mem_of_getElem? gx) hF
    | false =>
      simp only [PP, P1, P2, P3, P4, P5, P6, P7, P8, P9, P10, P11, P12, P13, P14, L1, P15, N1, N2, N3, N4, N5, N6, N7, I1, I2, I3, I4, I5, I6, I7, reduceIte, reduceCtorEq, hwk]
      refine SemW_weak (ih (k + 1) ⟨by omega, fun j hj y gy => ?_⟩ (by omega)) (by simp only [PWeak_nil, PWeak_junk, PWeak_same, Int.cast_ofNat_Int, List.length_append, List.length_cons, List.length_nil, Nat.zero_add])
      by_cases e : j = k
      · subst e; rw [gx] at gy; cases gy; exact hF
      · exact hd j (by omega) y gy
  · simp only [PP, P1, P2, P3, P4, P5, P6, P7, P8, P9, P10, P11, P12, P13, P14, L1, P15, N1, N2, N3, N4, N5, N6, N7, I1, I2, I3, I4, I5, I6, I7, reduceIte, reduceCtorEq, c]
    exact hk1 fun x hx => by
      obtain ⟨j, hj⟩ := List.getElem?_of_mem hx
      exact hd j (by have := getSome_lt hj; omega) x hj
theorem contBr_p {M : Mem} {K : PV → Mem → Prop} {f o f2 o2 : Bool} {rs : List (List Bool)} {g : FuncId} {cap : List PV} {F : List Bool → Bool} (hm : rs.length < 1000000000000) (hu : underL 0 cap = true)
    (hf : ∀ x ∈ rs, ∀ (M' : Mem) (K' : PV → Mem → Prop), K' (.bool (F x)) M' → SemC tab g (slB f2 o2 x :: cap) M' K')
    (hk1 : (∀ x ∈ rs, F x = false) → K (.bool false) M) (hk2 : (∃ x, x ∈ rs ∧ F x = true) → K (.bool true) M) :
    SemC tab 58 [slBr f o f2 o2 rs, .func (.func g) [] cap] M K := by
  refine SemC_pure T.h58 (by simp only [PP, P1, P2, P3, P4, P5, P6, P7, P8, P9, P10, P11, P12, P13, P14, L1, P15, N1, N2, N3, N4, N5, N6, N7, I1, I2, I3, I4, I5, I6, I7, reduceIte, reduceCtorEq, PV.under, hu, under_slBr, brs_und]) ?_
  simp only [af58, PP, P1, P2, P3, P4, P5, P6, P7, P8, P9, P10, P11, P12, P13, P14, L1, P15, N1, N2, N3, N4, N5, N6, N7, I1, I2, I3, I4, I5, I6, I7, reduceIte, reduceCtorEq]
  refine idxBr_p T hm hu hf (fun h => ?_) (fun k x hx hF => ?_)
  · have e : ¬ (0 : Int) ≤ -1 := by omega
    simp only [PP, P1, P2, P3, P4, P5, P6, P7, P8, P9, P10, P11, P12, P13, P14, L1, P15, N1, N2, N3, N4, N5, N6, N7, I1, I2, I3, I4, I5, I6, I7, reduceIte, reduceCtorEq, e]
    exact hk1 h
  · have e : (0 : Int) ≤ k := by omega
    simp only [PP, P1, P2, P3, P4, P5, P6, P7, P8, P9, P10, P11, P12, P13, P14, L1, P15, N1, N2, N3, N4, N5, N6, N7, I1, I2, I3, I4, I5, I6, I7, reduceIte, reduceCtorEq, e]
    exact hk2 ⟨x, hx, hF⟩
def IsA (N : NF) (rs : List (List Bool)) (b : Bool) (e : Int) : Prop :=
  (checkN N ≠ 0 ∧ b = false ∧ e = checkN N) ∨ (checkN N = 0 ∧ ¬ DimOk N rs ∧ b = false ∧ e = 2) ∨ (checkN N = 0 ∧ DimOk N rs ∧ (b = true ↔ SimR N (rAt rs)) ∧ e = 0)
set_option maxHeartbeats 1000000 in
theorem is_p {M : Mem} {K : PV → Mem → Prop} {f1 o1 f2 o2 f3 o3 f4 o4 f5 o5 : Bool} {N : NF} {rs : List (List Bool)} (B : BnN N) (hrb : rs.length < 1000000000000) (hk : ∀ b e, IsA N rs b e → K (.tuple [.bool b, p64 e]) M) :
    SemC tab 29 [.agg (nfC f1 o1 f2 o2 f3 o3 N), slBr f4 o4 f5 o5 rs] M K := by
  refine SemC_pureS T.h29 (by simp only [PP, P1, P2, P3, P4, P5, P6, P7, P8, P9, P10, P11, P12, P13, P14, L1, P15, N1, N2, N3, N4, N5, N6, N7, I1, I2, I3, I4, I5, I6, I7, reduceIte, reduceCtorEq, under_slE, under_slBr, PV.under, egL_und, brs_und]) ?_
  simp only [af29]
  refine SemW_seq (SemW_of ?_)
  simp only [PP, P1, P2, P3, P4, P5, P6, P7, P8, P9, P10, P11, P12, P13, P14, L1, P15, N1, N2, N3, N4, N5, N6, N7, I1, I2, I3, I4, I5, I6, I7, reduceIte, reduceCtorEq]
  refine SemW_re (GStep.freezeP (b := [.junk, slBr f4 o4 f5 o5 rs, .cp (nfC f1 o1 f2 o2 f3 o3 N) 0, .junk, .bool false, p64 0, .junk, .junk, .junk, .junk, .junk, .junk, .junk, .junk, .junk, .junk, .junk, .junk, .junk, .junk, .junk, .junk, .junk, .junk, .junk, .junk, .junk, .junk, .junk, .junk, .junk, .junk, .junk, .junk, .junk, .junk, .junk, .junk, .junk, .junk, .junk, .junk, .junk, .junk, .junk, .junk, .junk, .junk, .junk, .junk, .junk, .junk, .junk, .junk, .junk, .junk]) 0 (Nat.zero_le _) rfl (by simp only [PFrzP_nil, PFrzP_junk, PFrzP_same, PFrzP_ptr]) rfl) ?_
  refine SemW_of ?_
  simp only [PP, P1, P2, P3, P4, P5, P6, P7, P8, P9, P10, P11, P12, P13, P14, L1, P15, N1, N2, N3, N4, N5, N6, N7, I1, I2, I3, I4, I5, I6, I7, reduceIte, reduceCtorEq]
  refine check_p T B ?_
  simp only [PP, P1, P2, P3, P4, P5, P6, P7, P8, P9, P10, P11, P12, P13, P14, L1, P15, N1, N2, N3, N4, N5, N6, N7, I1, I2, I3, I4, I5, I6, I7, reduceIte, reduceCtorEq]
  by_cases c1 : checkN N = 0
  rotate_left
  · simp only [PP, P1, P2, P3, P4, P5, P6, P7, P8, P9, P10, P11, P12, P13, P14, L1, P15, N1, N2, N3, N4, N5, N6, N7, I1, I2, I3, I4, I5, I6, I7, reduceIte, reduceCtorEq, c1]
    exact hk false _ (.inl ⟨c1, rfl, rfl⟩)
  have C := nok_of c1
  have n64 := C.n64
  have bad : ¬ DimOk N rs → K (.tuple [.bool false, p64 2]) M := fun h => hk false 2 (.inr (.inl ⟨c1, h, rfl, rfl⟩))
  simp only [PP, P1, P2, P3, P4, P5, P6, P7, P8, P9, P10, P11, P12, P13, P14, L1, P15, N1, N2, N3, N4, N5, N6, N7, I1, I2, I3, I4, I5, I6, I7, reduceIte, reduceCtorEq, c1]
  refine QIf.intro (fun c2 => ?_) (fun c2 => ?_)
  rotate_left
  · simp only [PP, P1, P2, P3, P4, P5, P6, P7, P8, P9, P10, P11, P12, P13, P14, L1, P15, N1, N2, N3, N4, N5, N6, N7, I1, I2, I3, I4, I5, I6, I7, reduceIte, reduceCtorEq, c2]
    exact bad fun h => c2 h.1
  simp only [PP, P1, P2, P3, P4, P5, P6, P7, P8, P9, P10, P11, P12, P13, P14, L1, P15, N1, N2, N3, N4, N5, N6, N7, I1, I2, I3, I4, I5, I6, I7, reduceIte, reduceCtorEq, c2]
  refine contBr_p T (F := fun r => decide (¬ (r.length : Int) = N.n)) hrb (by simp only [PP, P1, P2, P3, P4, P5, P6, P7, P8, P9, P10, P11, P12, P13, P14, L1, P15, N1, N2, N3, N4, N5, N6, N7, I1, I2, I3, I4, I5, I6, I7, reduceIte, reduceCtorEq, PV.under, egL_und]) (fun x hx M' K' hK' => ?_) (fun hall => ?_) (fun ⟨x, hx, hF⟩ => ?_)
  · refine SemC_pure T.h59 (by simp only [PP, P1, P2, P3, P4, P5, P6, P7, P8, P9, P10, P11, P12, P13, P14, L1, P15, N1, N2, N3, N4, N5, N6, N7, I1, I2, I3, I4, I5, I6, I7, reduceIte, reduceCtorEq, PV.under, egL_und]) ?_
    simp only [af59, PP, P1, P2, P3, P4, P5, P6, P7, P8, P9, P10, P11, P12, P13, P14, L1, P15, N1, N2, N3, N4, N5, N6, N7, I1, I2, I3, I4, I5, I6, I7, reduceIte, reduceCtorEq]
    by_cases q : (x.length : Int) = N.n
    · simp only [PP, P1, P2, P3, P4, P5, P6, P7, P8, P9, P10, P11, P12, P13, P14, L1, P15, N1, N2, N3, N4, N5, N6, N7, I1, I2, I3, I4, I5, I6, I7, reduceIte, reduceCtorEq, q] at hK' ⊢
      exact hK'
    · simp only [PP, P1, P2, P3, P4, P5, P6, P7, P8, P9, P10, P11, P12, P13, P14, L1, P15, N1, N2, N3, N4, N5, N6, N7, I1, I2, I3, I4, I5, I6, I7, reduceIte, reduceCtorEq, q] at hK' ⊢
      exact hK'
  rotate_left
  · simp only [PP, P1, P2, P3, P4, P5, P6, P7, P8, P9, P10, P11, P12, P13, P14, L1, P15, N1, N2, N3, N4, N5, N6, N7, I1, I2, I3, I4, I5, I6, I7, reduceIte, reduceCtorEq]
    exact bad fun h => (of_decide_eq_true hF) (h.2 x hx)
  have D : DimOk N rs := ⟨c2, fun r hr => Classical.byContradiction fun q => of_decide_eq_false (hall r hr) q⟩
  obtain ⟨fa1, fa2, fa3⟩ := fa_ok C C.fi
  simp only [PP, P1, P2, P3, P4, P5, P6, P7, P8, P9, P10, P11, P12, P13, P14, L1, P15, N1, N2, N3, N4, N5, N6, N7, I1, I2, I3, I4, I5, I6, I7, reduceIte, reduceCtorEq]
  refine ofF_p T C C.fi ?_
  simp only [PP, P1, P2, P3, P4, P5, P6, P7, P8, P9, P10, P11, P12, P13, P14, L1, P15, N1, N2, N3, N4, N5, N6, N7, I1, I2, I3, I4, I5, I6, I7, reduceIte, reduceCtorEq]
  refine loop1 (fun (k : Nat) => k ≤ rs.length ∧ ∀ p q : Nat, p < k → (q : Int) < N.n → rAt rs p q = true → HoldsP N (rAt rs) p q) (fun k => [.junk, slBr f4 o4 f5 o5 rs, .cp (nfC f1 o1 f2 o2 f3 o3 N) 0, .junk, .junk, .junk, .junk, slW false true (faW N.fi), .junk, .junk, .junk, .junk, .junk, .junk, .junk, .junk, .junk, .junk, .junk, .junk, .junk, .junk, .junk, .junk, .junk, .junk, .junk, .junk, .junk, .junk, slBr f4 o4 f5 o5 rs, p64 rs.length, p64 k, .junk, .junk, .junk, .junk, .junk, .junk, .junk, .junk, .junk, .junk, .junk, .junk, .junk, .junk, .junk, .junk, .junk, .junk, .junk, .junk, .junk, .junk, .junk]) (fun _ => [.gone]) (fun k => rs.length - k) 0 ⟨by omega, fun p q h => by omega⟩ (by simp only [PWeak_nil, PWeak_junk, PWeak_same, Int.cast_ofNat_Int, List.length_append, List.length_cons, List.length_nil, Nat.zero_add]) rfl ?_
  intro k ⟨hle, hd⟩ ih
  refine SemW_go (by kernel_rfl) ?_
  simp only [PP, P1, P2, P3, P4, P5, P6, P7, P8, P9, P10, P11, P12, P13, P14, L1, P15, N1, N2, N3, N4, N5, N6, N7, I1, I2, I3, I4, I5, I6, I7, reduceIte, reduceCtorEq]
  refine QIf.intro (fun c => ?_) (fun c => ?_)
  rotate_left
  · simp only [PP, P1, P2, P3, P4, P5, P6, P7, P8, P9, P10, P11, P12, P13, P14, L1, P15, N1, N2, N3, N4, N5, N6, N7, I1, I2, I3, I4, I5, I6, I7, reduceIte, reduceCtorEq, c]
    refine hk true 0 (.inr (.inr ⟨c1, D, ⟨fun _ p q hp hq h => hd p q (by have := D.1; omega) hq h, fun _ => rfl⟩, rfl⟩))
  have hk' : k < rs.length := by omega
  have k0 : (0 : Int) ≤ k := by omega
  have hwk := wrap_succ (k := k) (by show _ < 1000000000000; omega)
  obtain ⟨row, grow⟩ := some_of (xs := rs) (k := k) hk'
  have hrl := D.2 row (List.mem_of_getElem? grow)
  simp only [PP, P1, P2, P3, P4, P5, P6, P7, P8, P9, P10, P11, P12, P13, P14, L1, P15, N1, N2, N3, N4, N5, N6, N7, I1, I2, I3, I4, I5, I6, I7, reduceIte, reduceCtorEq, c, k0, grow]
  refine loop1 (fun (j : Nat) => j ≤ row.length ∧ ∀ q : Nat, q < j → rAt rs k q = true → HoldsP N (rAt rs) k q) (fun j => [.junk, slBr f4 o4 f5 o5 rs, .cp (nfC f1 o1 f2 o2 f3 o3 N) 0, .junk, .junk, .junk, .junk, slW false true (faW N.fi), p64 k, .junk, .junk, .junk, .junk, .junk, .junk, .junk, .junk, .junk, .junk, .junk, .junk, .junk, .junk, .junk, .junk, .junk, .junk, .junk, .junk, .junk, slBr f4 o4 f5 o5 rs, p64 rs.length, p64 k, .junk, .junk, .junk, .junk, slB f5 o5 row, p64 row.length, p64 j, .junk, .junk, .junk, .junk, .junk, .junk, .junk, .junk, .junk, .junk, .junk, .junk, .junk, .junk, .junk, .junk]) (fun _ => [.gone]) (fun j => row.length - j) 0 ⟨by omega, fun q h => by omega⟩ (by simp only [PWeak_nil, PWeak_junk, PWeak_same, Int.cast_ofNat_Int, List.length_append, List.length_cons, List.length_nil, Nat.zero_add]) rfl ?_
  intro j ⟨hj, hd2⟩ ih2
  refine SemW_go (by kernel_rfl) ?_
  simp only [PP, P1, P2, P3, P4, P5, P6, P7, P8, P9, P10, P11, P12, P13, P14, L1, P15, N1, N2, N3, N4, N5, N6, N7, I1, I2, I3, I4, I5, I6, I7, reduceIte, reduceCtorEq]
  refine QIf.intro (fun d => ?_) (fun d => ?_)
  · have hj' : j < row.length := by omega
    have j0 : (0 : Int) ≤ j := by omega
    have hwj := wrap_succ (k := j) (by show _ < 1000000000000; omega)
    obtain ⟨b, gb⟩ := some_of (xs := row) (k := j) hj'
    have hrv : rAt rs k j = b := by simp [rAt, List.getD, grow, gb]
    have next : (b = true → HoldsP N (rAt rs) k j) → ∀ q : Nat, q < j + 1 → rAt rs k q = true → HoldsP N (rAt rs) k q := fun h q hq hr => by
      by_cases e : q = j
      · subst e; exact h (by rw [← hrv]; exact hr)
      · exact hd2 q (by omega) hr
    cases b with
    | false =>
      simp only [PP, P1, P2, P3, P4, P5, P6, P7, P8, P9, P10, P11, P12, P13, P14, L1, P15, N1, N2, N3, N4, N5, N6, N7, I1, I2, I3, I4, I5, I6, I7, reduceIte, reduceCtorEq, d, j0, gb, hwj]
      exact SemW_weak (ih2 (j + 1) ⟨by omega, next (fun h => by cases h)⟩ (by omega)) (by simp only [PWeak_nil, PWeak_junk, PWeak_same, Int.cast_ofNat_Int, List.length_append, List.length_cons, List.length_nil, Nat.zero_add])
    | true =>
      simp only [PP, P1, P2, P3, P4, P5, P6, P7, P8, P9, P10, P11, P12, P13, P14, L1, P15, N1, N2, N3, N4, N5, N6, N7, I1, I2, I3, I4, I5, I6, I7, reduceIte, reduceCtorEq, d, j0, gb]
      refine holds_p T C B fa2 fa3 D.1 D.2 (by omega) (by omega) (fun b hb => ?_)
      cases b with
      | true =>
        simp only [PP, P1, P2, P3, P4, P5, P6, P7, P8, P9, P10, P11, P12, P13, P14, L1, P15, N1, N2, N3, N4, N5, N6, N7, I1, I2, I3, I4, I5, I6, I7, reduceIte, reduceCtorEq, hwj]
        exact SemW_weak (ih2 (j + 1) ⟨by omega, next (fun _ => hb.1 rfl)⟩ (by omega)) (by simp only [PWeak_nil, PWeak_junk, PWeak_same, Int.cast_ofNat_Int, List.length_append, List.length_cons, List.length_nil, Nat.zero_add])
      | false =>
        simp only [PP, P1, P2, P3, P4, P5, P6, P7, P8, P9, P10, P11, P12, P13, P14, L1, P15, N1, N2, N3, N4, N5, N6, N7, I1, I2, I3, I4, I5, I6, I7, reduceIte, reduceCtorEq]
        refine hk false 0 (.inr (.inr ⟨c1, D, ⟨(fun h => by cases h), fun h => ?_⟩, rfl⟩))
        exact hb.2 (h k j (by omega) (by omega) hrv)
  · simp only [PP, P1, P2, P3, P4, P5, P6, P7, P8, P9, P10, P11, P12, P13, P14, L1, P15, N1, N2, N3, N4, N5, N6, N7, I1, I2, I3, I4, I5, I6, I7, reduceIte, reduceCtorEq, d, hwk]
    refine SemW_weak (ih (k + 1) ⟨by omega, fun p q hp hq hr => ?_⟩ (by omega)) (by simp only [PWeak_nil, PWeak_junk, PWeak_same, Int.cast_ofNat_Int, List.length_append, List.length_cons, List.length_nil, Nat.zero_add])
    by_cases e : p = k
    · subst e; exact hd2 q (by omega) hr
    · exact hd p q (by omega) hq hr
end
end Go.Am.Ar
set_option linter.unusedVariables false
set_option linter.unusedSimpArgs false
set_option maxRecDepth 10000
namespace Go.Am.Ar
open Go.Am renaming pchk → P1, pold → P2, PKNo → P3, ppack → P4, PObj.under → P5, pput → P6, ptset → P7, ptget → P8, pev → P9, ofAV → P10, ofAV1 → P11, ppad → P12, pfill → P13, prepl → P14, AO.effect → P15
open List renaming replicate → L1
open Nat renaming reduceAdd → N1, reduceSub → N2, reduceMul → N3, reduceLT → N4, reduceLeDiff → N5, reduceEqDiff → N6, reduceBEq → N7
open Int renaming reduceToNat → I1, reduceLT → I2, reduceLE → I3, reduceEq → I4, reduceAdd → I5, reduceSub → I6, reduceNeg → I7
section
variable {tab : FuncId → Option AF} (T : HasA tab)
include T
end
end Go.Am.Ar
set_option linter.unusedVariables false
set_option linter.unusedSimpArgs false
set_option maxRecDepth 10000
namespace Go.Am.Ar
open Go.Am renaming pchk → P1, pold → P2, PKNo → P3, ppack → P4, PObj.under → P5, pput → P6, ptset → P7, ptget → P8, pev → P9, ofAV → P10, ofAV1 → P11, ppad → P12, pfill → P13, prepl → P14, AO.effect → P15
open List renaming replicate → L1
open Nat renaming reduceAdd → N1, reduceSub → N2, reduceMul → N3, reduceLT → N4, reduceLeDiff → N5, reduceEqDiff → N6, reduceBEq → N7
open Int renaming reduceToNat → I1, reduceLT → I2, reduceLE → I3, reduceEq → I4, reduceAdd → I5, reduceSub → I6, reduceNeg → I7
section
variable {tab : FuncId → Option AF} (T : HasA tab)
include T
end
end Go.Am.Ar
set_option linter.unusedVariables false
namespace Go.Am.Ar
def setAt (rs : List (List Bool)) (p q : Nat) : List (List Bool) := rs.set p ((rs.getD p []).set q false)
def cntR : List (List Bool) → Nat
  | [] => 0
  | r :: l => r.count true + cntR l
theorem count_set {r : List Bool} : ∀ {q : Nat}, r[q]? = some true → (r.set q false).count true < r.count true := by
  induction r with
  | nil => intro q h; simp at h
  | cons x r ih =>
    intro q h
    cases q with
    | zero =>
      simp only [List.getElem?_cons_zero, Option.some.injEq] at h
      subst h
      simp [List.count_cons]
    | succ q =>
      have := ih (q := q) (by simpa using h)
      simp only [List.set_cons_succ, List.count_cons]
      omega
theorem cntR_set : ∀ {rs : List (List Bool)} {p : Nat} {r r' : List Bool}, rs[p]? = some r → r'.count true < r.count true → cntR (rs.set p r') < cntR rs
  | [], p, r, r', h, _ => by simp at h
  | x :: rs, 0, r, r', h, hc => by
    simp only [List.getElem?_cons_zero, Option.some.injEq] at h
    subst h
    simp only [List.set_cons_zero, cntR]; omega
  | x :: rs, p + 1, r, r', h, hc => by
    have := cntR_set (rs := rs) (p := p) (by simpa using h) hc
    simp only [List.set_cons_succ, cntR]; omega
theorem cntR_setAt {rs : List (List Bool)} {p q : Nat} (h : rAt rs p q = true) : cntR (setAt rs p q) < cntR rs := by
  unfold rAt at h
  simp only [Int.toNat_natCast] at h
  have hp : p < rs.length := Nat.lt_of_not_le fun hp => by
    have e : rs.getD p [] = [] := by simp [List.getD, List.getElem?_eq_none hp]
    rw [e] at h; simp at h
  obtain ⟨r, hr⟩ : ∃ r, rs[p]? = some r := ⟨_, List.getElem?_eq_getElem hp⟩
  have e : rs.getD p [] = r := by simp [List.getD, hr]
  rw [e] at h
  unfold setAt
  rw [e]
  refine cntR_set hr (count_set ?_)
  cases hq : r[q]? with
  | none => rw [List.getD, hq] at h; cases h
  | some b => rw [List.getD, hq] at h; simp at h; rw [h]
theorem rAt_setAt {rs : List (List Bool)} {p q u v : Nat} (hp : p < rs.length) (hq : q < (rs.getD p []).length) : rAt (setAt rs p q) u v = if u = p ∧ v = q then false else rAt rs u v := by
  unfold rAt setAt
  simp only [Int.toNat_natCast]
  by_cases e : u = p
  · subst e
    have h1 : (rs.set u ((rs.getD u []).set q false)).getD u [] = (rs.getD u []).set q false := by simp [List.getD, hp]
    rw [h1]
    by_cases e2 : v = q
    · subst e2
      rw [if_pos ⟨rfl, rfl⟩, List.getD, List.getElem?_set_self hq]; rfl
    · rw [if_neg (fun h => e2 h.2), List.getD, List.getElem?_set_ne (Ne.symm e2)]; rfl
  · have h1 : (rs.set p ((rs.getD p []).set q false)).getD u [] = rs.getD u [] := by simp [List.getD, List.getElem?_set_ne (Ne.symm e)]
    rw [h1, if_neg (fun h => e h.1)]
theorem HoldsP.mono {N : NF} (C : NOk N) {r r' : Int → Int → Bool} {p q : Int} (hle : ∀ u v : Nat, (u : Int) < N.n → (v : Int) < N.n → r u v = true → r' u v = true) (h : HoldsP N r p q) : HoldsP N r' p q := by
  refine ⟨h.1, fun xu hxu => ?_⟩
  obtain ⟨yv, h1, h2, h3⟩ := h.2 xu hxu
  obtain ⟨x, u⟩ := xu
  obtain ⟨y, v⟩ := yv
  obtain ⟨_, u0, un⟩ := mvL_ok C hxu
  obtain ⟨_, v0, vn⟩ := mvL_ok C h1
  refine ⟨(y, v), h1, h2, ?_⟩
  have := hle u.toNat v.toNat (by omega) (by omega) (by rw [Int.toNat_of_nonneg u0, Int.toNat_of_nonneg v0]; exact h3)
  rw [Int.toNat_of_nonneg u0, Int.toNat_of_nonneg v0] at this
  exact this
def UpR (N : NF) (rs : List (List Bool)) : Prop := ∀ S : Int → Int → Bool, SimR N S → ∀ p q : Nat, (p : Int) < N.n → (q : Int) < N.n → S p q = true → rAt rs p q = true
structure RelOk (N : NF) (rs : List (List Bool)) : Prop where
  d : DimOk N rs
  s : SimR N (rAt rs)
  u : UpR N rs
theorem dim_setAt {N : NF} {rs : List (List Bool)} (D : DimOk N rs) (p q : Nat) : DimOk N (setAt rs p q) := by
  refine ⟨by unfold setAt; rw [List.length_set]; exact D.1, fun r hr => ?_⟩
  unfold setAt at hr
  rcases List.mem_or_eq_of_mem_set hr with h | h
  · exact D.2 r h
  · subst h
    rw [List.length_set]
    by_cases hp : p < rs.length
    · refine D.2 _ ?_
      rw [List.getD, List.getElem?_eq_getElem hp]; exact List.getElem_mem hp
    · exfalso
      rw [List.set_eq_of_length_le (by omega)] at hr
      have := D.2 _ hr
      rw [List.length_set, List.getD, List.getElem?_eq_none (by omega)] at this
      simp at this
      have := D.1
      obtain ⟨j, hj⟩ := List.getElem?_of_mem hr
      have := getSome_lt hj
      omega
theorem row_len {N : NF} {rs : List (List Bool)} (D : DimOk N rs) {p : Nat} (hp : (p : Int) < N.n) : ((rs.getD p []).length : Int) = N.n := by
  have h : p < rs.length := by have := D.1; omega
  refine D.2 _ ?_
  rw [List.getD, List.getElem?_eq_getElem h]; exact List.getElem_mem h
theorem UpR.prune {N : NF} (C : NOk N) {rs : List (List Bool)} (D : DimOk N rs) (U : UpR N rs) {p q : Nat} (hp : (p : Int) < N.n) (hq : (q : Int) < N.n) (h : ¬ HoldsP N (rAt rs) p q) : UpR N (setAt rs p q) := by
  intro S hS u v hu hv hs
  have h1 := U S hS u v hu hv hs
  rw [rAt_setAt (by have := D.1; omega) (by have := row_len D hp; omega)]
  split
  · rename_i e
    obtain ⟨rfl, rfl⟩ := e
    exact absurd ((hS u v hu hv hs).mono C fun a b ha hb hab => U S hS a b ha hb hab) h
  · exact h1
def allT (n : Nat) : List (List Bool) := List.replicate n (List.replicate n true)
theorem allT_dim {N : NF} {n : Nat} (h : N.n = n) : DimOk N (allT n) := by
  refine ⟨by simp [allT, h], fun r hr => ?_⟩
  rw [List.eq_of_mem_replicate hr]; simp [h]
theorem allT_up {N : NF} {n : Nat} (h : N.n = n) : UpR N (allT n) := by
  intro S _ p q hp hq _
  have h1 : p < n := by omega
  have h2 : q < n := by omega
  simp [rAt, allT, List.getD, h1, h2]
structure PrI (N : NF) (rs0 rs : List (List Bool)) (ch : Bool) (done : Nat → Nat → Prop) : Prop where
  d : DimOk N rs
  u : UpR N rs
  no : ch = false → rs = rs0 ∧ ∀ p q, done p q → rAt rs p q = true → HoldsP N (rAt rs) p q
  ye : ch = true → cntR rs < cntR rs0
section
variable {N : NF} {rs0 rs : List (List Bool)} {ch : Bool} {done done' : Nat → Nat → Prop} {p q : Nat}
theorem PrI.start (D : DimOk N rs0) (U : UpR N rs0) : PrI N rs0 rs0 false (fun _ _ => False) := ⟨D, U, fun _ => ⟨rfl, fun _ _ h => h.elim⟩, fun h => by cases h⟩
theorem PrI.weak (I : PrI N rs0 rs ch done) (h : ∀ p q, done' p q → done p q) : PrI N rs0 rs ch done' := ⟨I.d, I.u, fun e => ⟨(I.no e).1, fun p q hd => (I.no e).2 p q (h p q hd)⟩, I.ye⟩
theorem PrI.keep (I : PrI N rs0 rs ch done) (h : rAt rs p q = true → HoldsP N (rAt rs) p q) : PrI N rs0 rs ch (fun u v => done u v ∨ (u = p ∧ v = q)) :=
  ⟨I.d, I.u, fun e => ⟨(I.no e).1, fun u v hd hr => hd.elim (fun z => (I.no e).2 u v z hr) fun ⟨e1, e2⟩ => by subst e1; subst e2; exact h hr⟩, I.ye⟩
theorem PrI.cut (C : NOk N) (I : PrI N rs0 rs ch done) (hp : (p : Int) < N.n) (hq : (q : Int) < N.n) (hr : rAt rs p q = true) (h : ¬ HoldsP N (rAt rs) p q) : PrI N rs0 (setAt rs p q) true done' := by
  have hc := cntR_setAt hr
  refine ⟨dim_setAt I.d p q, I.u.prune C I.d hp hq h, (fun e => by cases e), fun _ => ?_⟩
  cases hch : ch with
  | false => rw [(I.no hch).1] at hc ⊢; exact hc
  | true => have := I.ye hch; omega
end
theorem PrI.fin {N : NF} {rs0 rs : List (List Bool)} (I : PrI N rs0 rs false (fun u v => (u : Int) < N.n ∧ (v : Int) < N.n)) : RelOk N rs :=
  ⟨I.d, fun p q hp hq hr => (I.no rfl).2 p q ⟨hp, hq⟩ hr, I.u⟩
theorem id_sim (N : NF) : SimR N (fun p q => decide (p = q)) := fun p q _ _ h => by
  have e : (p : Int) = q := of_decide_eq_true h
  rw [e]
  exact ⟨fun z => z, fun xu hxu => ⟨xu, hxu, rfl, by simp⟩⟩
end Go.Am.Ar
set_option linter.unusedVariables false
set_option linter.unusedSimpArgs false
set_option maxRecDepth 10000
namespace Go.Am.Ar
open Go.Am renaming pchk → P1, pold → P2, PKNo → P3, ppack → P4, PObj.under → P5, pput → P6, ptset → P7, ptget → P8, pev → P9, ofAV → P10, ofAV1 → P11, ppad → P12, pfill → P13, prepl → P14, AO.effect → P15
open List renaming replicate → L1
open Nat renaming reduceAdd → N1, reduceSub → N2, reduceMul → N3, reduceLT → N4, reduceLeDiff → N5, reduceEqDiff → N6, reduceBEq → N7
open Int renaming reduceToNat → I1, reduceLT → I2, reduceLE → I3, reduceEq → I4, reduceAdd → I5, reduceSub → I6, reduceNeg → I7
section
variable {tab : FuncId → Option AF} (T : HasA tab)
include T
end
end Go.Am.Ar
set_option linter.unusedVariables false
set_option linter.unusedSimpArgs false
set_option maxRecDepth 10000
namespace Go.Am.Ar
open Go.Am renaming pchk → P1, pold → P2, PKNo → P3, ppack → P4, PObj.under → P5, pput → P6, ptset → P7, ptget → P8, pev → P9, ofAV → P10, ofAV1 → P11, ppad → P12, pfill → P13, prepl → P14, AO.effect → P15
open List renaming replicate → L1
open Nat renaming reduceAdd → N1, reduceSub → N2, reduceMul → N3, reduceLT → N4, reduceLeDiff → N5, reduceEqDiff → N6, reduceBEq → N7
open Int renaming reduceToNat → I1, reduceLT → I2, reduceLE → I3, reduceEq → I4, reduceAdd → I5, reduceSub → I6, reduceNeg → I7
def rowsO (l : List (Nat × List Bool)) : Mem := l.map fun x => .cells 0 x.1 (x.2.map PV.bool)
def refsR (b n : Nat) : List PV := tabA n fun u => PV.ref (u + b) 0 1 0 n
abbrev rsO (l : List (Nat × List Bool)) : List (List Bool) := l.map Prod.snd
theorem rowsO_at {l : List (Nat × List Bool)} {p v : Nat} {r : List Bool} (h : l[p]? = some (v, r)) (X : Mem) : (rowsO l ++ X)[p]? = some (.cells 0 v (r.map PV.bool)) := by
  have hp := getSome_lt h
  rw [List.getElem?_append_left (by simp [rowsO]; exact hp)]
  simp [rowsO, h]
theorem rowsO_set {l : List (Nat × List Bool)} {p : Nat} (hp : p < l.length) (v : Nat) (r : List Bool) (X : Mem) : (rowsO l ++ X).set p (.cells 0 v (r.map PV.bool)) = rowsO (l.set p (v, r)) ++ X := by
  rw [List.set_append_left _ _ (by simp [rowsO]; exact hp)]
  simp [rowsO, List.map_set]
theorem refsR_at {b n p : Nat} (h : p < n) : (refsR b n)[p]? = some (.ref (p + b) 0 1 0 n) := tabA_get h
theorem refsR_len (b n : Nat) : (refsR b n).length = n := tabA_len _ _
theorem rsO_setAt {l : List (Nat × List Bool)} {p q v : Nat} {r : List Bool} (h : l[p]? = some (v, r)) : setAt (rsO l) p q = rsO (l.set p (v + 1, r.set q false)) := by
  unfold setAt rsO
  rw [List.map_set]
  congr 2
  simp [List.getD, h]
theorem PBor.refs {M : Mem} {b n : Nat} : ∀ (l : List (List Bool)) (i : Nat), (∀ j r, l[j]? = some r → r.length = n ∧ ∃ v, M[i + j + b]? = some (.cells 0 v (r.map PV.bool))) → PBor M ((List.range' i l.length).map fun u => PV.ref (u + b) 0 1 0 n) (l.map (slB true false))
  | [], i, _ => .nil
  | r :: l, i, h => by
    obtain ⟨h1, v, h2⟩ := h 0 r rfl
    subst h1
    refine .ref h2 (by simp) (underL_map _ _ (fun _ => by simp [PV.under]) _) (psub_all _ _ (by simp)) (PBor.refs l (i + 1) fun j r' hr => ?_)
    have := h (j + 1) r' (by simpa using hr)
    rw [show i + 1 + j + b = i + (j + 1) + b by omega]
    exact this
theorem PBor.mat {M : Mem} {g ver b n : Nat} {l : List (List Bool)} {a c : List PV} {id : Nat} (hl : l.length = n) (hM : M[id]? = some (.cells g ver (refsR b n))) (h : ∀ j r, l[j]? = some r → r.length = n ∧ ∃ v, M[j + b]? = some (.cells 0 v (r.map PV.bool))) (ht : PBor M a c) : PBor M (.ref id g 1 0 n :: a) (slBr true false true false l :: c) := by
  subst hl
  refine .nest hM (by rw [refsR_len]; omega) ?_ ht
  rw [Nat.mul_one, psub_all _ _ (refsR_len _ _).symm]
  have := PBor.refs (M := M) (b := b) (n := l.length) l 0 fun j r hr => by rw [Nat.zero_add]; exact h j r hr
  unfold refsR tabA
  rw [List.range_eq_range']
  exact this
section
variable {tab : FuncId → Option AF} (T : HasA tab)
include T
abbrev stP (vR n : Nat) (l : List (Nat × List Bool)) (X : Mem) : Mem := .gone :: .cells 0 vR (refsR 3 n) :: .cells 0 1 [.ref 1 0 1 0 n] :: (rowsO l ++ X)
set_option maxHeartbeats 1000000 in
theorem prune_p {K : PV → Mem → Prop} {f1 o1 f2 o2 f3 o3 f6 o6 : Bool} {N : NF} {n vR : Nat} {l0 : List (Nat × List Bool)} {fa : Wd} {X : Mem} (C : NOk N) (B : BnN N) (hn : N.n = n) (hfa : fa.length ≤ 64) (hbit : ∀ k, bit fa k = decide ((k : Int) ∈ N.fi)) (D0 : DimOk N (rsO l0)) (U0 : UpR N (rsO l0))
    (hk : ∀ l ch, PrI N (rsO l0) (rsO l) ch (fun u v => (u : Int) < N.n ∧ (v : Int) < N.n) → K (.bool ch) (stP vR n l X)) :
    SemC tab 75 [.ptr 2 0 0, .cp (nfC f1 o1 f2 o2 f3 o3 N) 0, .cp [slW f6 o6 fa] 0] (stP vR n l0 X) K := by
  have n64 := C.n64
  refine SemC_fn T.h75 ?_
  simp only [af75, PP, P1, P2, P3, P4, P5, P6, P7, P8, P9, P10, P11, P12, P13, P14, L1, P15, N1, N2, N3, N4, N5, N6, N7, I1, I2, I3, I4, I5, I6, I7, reduceIte, reduceCtorEq]
  refine loop3 (fun (k : Nat) (ch : Bool) (l : List (Nat × List Bool)) => k ≤ n ∧ PrI N (rsO l0) (rsO l) ch (fun u v => u < k ∧ (v : Int) < N.n)) (fun k ch l => [.ptr 2 0 0, .cp (nfC f1 o1 f2 o2 f3 o3 N) 0, .cp [slW f6 o6 fa] 0, .bool ch, .junk, .junk, .junk, .junk, .ref 1 0 1 0 n, p64 n, p64 k, .junk, .junk, .junk, .junk, .junk, .junk, .junk, .junk, .junk, .junk, .junk, .junk, .junk, .junk, .junk, .junk, .junk, .junk, .junk, .junk, .junk, .junk, .junk, .junk, .junk, .junk, .junk, .junk, .junk, .junk]) (fun _ _ l => stP vR n l X) (fun k _ _ => n - k) 0 false l0 ⟨by omega, (PrI.start D0 U0).weak fun p q h => by omega⟩ (by simp only [PWeak_nil, PWeak_junk, PWeak_same, Int.cast_ofNat_Int, List.length_append, List.length_cons, List.length_nil, Nat.zero_add]) rfl ?_
  intro k ch l ⟨hkn, I⟩ ih
  have hll : l.length = n := by have := I.d.1; simp only [List.length_map] at this; omega
  refine SemW_go (by kernel_rfl) ?_
  simp only [PP, P1, P2, P3, P4, P5, P6, P7, P8, P9, P10, P11, P12, P13, P14, L1, P15, N1, N2, N3, N4, N5, N6, N7, I1, I2, I3, I4, I5, I6, I7, reduceIte, reduceCtorEq]
  refine QIf.intro (fun c => ?_) (fun c => ?_)
  rotate_left
  · simp only [PP, P1, P2, P3, P4, P5, P6, P7, P8, P9, P10, P11, P12, P13, P14, L1, P15, N1, N2, N3, N4, N5, N6, N7, I1, I2, I3, I4, I5, I6, I7, reduceIte, reduceCtorEq, c]
    exact hk l ch (I.weak fun p q h => ⟨by omega, h.2⟩)
  have hk' : k < n := by omega
  have k0 : (0 : Int) ≤ k := by omega
  have hwk := wrap_succ (k := k) (by show _ < 1000000000000; omega)
  have hrk := refsR_at (b := 3) hk'
  have hrl := refsR_len 3 n
  obtain ⟨⟨v0, row0⟩, hlk⟩ := some_of (xs := l) (k := k) (by omega)
  have hat := rowsO_at hlk X
  simp only [PP, P1, P2, P3, P4, P5, P6, P7, P8, P9, P10, P11, P12, P13, P14, L1, P15, N1, N2, N3, N4, N5, N6, N7, I1, I2, I3, I4, I5, I6, I7, reduceIte, reduceCtorEq, c, k0, hrk, hrl, hat]
  refine loop3 (fun (j : Nat) (ch : Bool) (l : List (Nat × List Bool)) => j ≤ n ∧ PrI N (rsO l0) (rsO l) ch (fun u v => (u < k ∧ (v : Int) < N.n) ∨ (u = k ∧ v < j))) (fun j ch l => [.ptr 2 0 0, .cp (nfC f1 o1 f2 o2 f3 o3 N) 0, .cp [slW f6 o6 fa] 0, .bool ch, p64 k, .junk, .junk, .junk, .ref 1 0 1 0 n, p64 n, p64 k, .junk, .junk, .junk, .junk, .ref (k + 3) 0 1 0 n, p64 n, p64 j, .junk, .junk, .junk, .junk, .junk, .junk, .junk, .junk, .junk, .junk, .junk, .junk, .junk, .junk, .junk, .junk, .junk, .junk, .junk, .junk, .junk, .junk, .junk]) (fun _ _ l => stP vR n l X) (fun j _ _ => n - j) 0 ch l ⟨by omega, I.weak fun p q h => h.elim id fun h => by omega⟩ (by simp only [PWeak_nil, PWeak_junk, PWeak_same, Int.cast_ofNat_Int, List.length_append, List.length_cons, List.length_nil, Nat.zero_add]) rfl ?_
  intro j ch l ⟨hj, I⟩ ih2
  have hll : l.length = n := by have := I.d.1; simp only [List.length_map] at this; omega
  refine SemW_go (by kernel_rfl) ?_
  simp only [PP, P1, P2, P3, P4, P5, P6, P7, P8, P9, P10, P11, P12, P13, P14, L1, P15, N1, N2, N3, N4, N5, N6, N7, I1, I2, I3, I4, I5, I6, I7, reduceIte, reduceCtorEq]
  refine QIf.intro (fun d => ?_) (fun d => ?_)
  rotate_left
  · simp only [PP, P1, P2, P3, P4, P5, P6, P7, P8, P9, P10, P11, P12, P13, P14, L1, P15, N1, N2, N3, N4, N5, N6, N7, I1, I2, I3, I4, I5, I6, I7, reduceIte, reduceCtorEq, d, hwk]
    refine SemW_weak (ih (k + 1) ch l ⟨by omega, I.weak fun p q h => ?_⟩ (by omega)) (by simp only [PWeak_nil, PWeak_junk, PWeak_same, Int.cast_ofNat_Int, List.length_append, List.length_cons, List.length_nil, Nat.zero_add])
    by_cases e : p = k
    · exact .inr ⟨e, by omega⟩
    · exact .inl ⟨by omega, h.2⟩
  have hj' : j < n := by omega
  have j0 : (0 : Int) ≤ j := by omega
  have hwj := wrap_succ (k := j) (by show _ < 1000000000000; omega)
  obtain ⟨⟨v, row⟩, hlk⟩ := some_of (xs := l) (k := k) (by omega)
  have hrowl : (row.length : Int) = N.n := I.d.2 row (List.mem_map.2 ⟨_, List.mem_of_getElem? hlk, rfl⟩)
  obtain ⟨b, gb⟩ := some_of (xs := row) (k := j) (by omega)
  have hat := rowsO_at hlk X
  have hrv : rAt (rsO l) k j = b := by simp [rAt, List.getD, hlk, gb]
  have hrl2 : row.length = n := by omega
  have stepD : ∀ u w : Nat, (u < k ∧ (w : Int) < N.n) ∨ (u = k ∧ w < j + 1) → ((u < k ∧ (w : Int) < N.n) ∨ (u = k ∧ w < j)) ∨ (u = k ∧ w = j) := fun u w h => by
    rcases h with h | ⟨h1, h2⟩
    · exact .inl (.inl h)
    · by_cases e : w = j
      · exact .inr ⟨h1, e⟩
      · exact .inl (.inr ⟨h1, by omega⟩)
  cases b with
  | false =>
    simp only [PP, P1, P2, P3, P4, P5, P6, P7, P8, P9, P10, P11, P12, P13, P14, L1, P15, N1, N2, N3, N4, N5, N6, N7, I1, I2, I3, I4, I5, I6, I7, reduceIte, reduceCtorEq, d, j0, hat, gb, hrl2, hwj]
    exact SemW_weak (ih2 (j + 1) ch l ⟨by omega, (I.keep (p := k) (q := j) (fun h => by rw [hrv] at h; cases h)).weak stepD⟩ (by omega)) (by simp only [PWeak_nil, PWeak_junk, PWeak_same, Int.cast_ofNat_Int, List.length_append, List.length_cons, List.length_nil, Nat.zero_add])
  | true =>
    simp only [PP, P1, P2, P3, P4, P5, P6, P7, P8, P9, P10, P11, P12, P13, P14, L1, P15, N1, N2, N3, N4, N5, N6, N7, I1, I2, I3, I4, I5, I6, I7, reduceIte, reduceCtorEq, d, j0, hat, gb, hrl2]
    refine SemC_bor (args2 := [.agg (nfC f1 o1 f2 o2 f3 o3 N), slBr true false true false (rsO l), slW f6 o6 fa, p64 k, p64 j]) (.same (by simp only [PP, P1, P2, P3, P4, P5, P6, P7, P8, P9, P10, P11, P12, P13, P14, L1, P15, N1, N2, N3, N4, N5, N6, N7, I1, I2, I3, I4, I5, I6, I7, reduceIte, reduceCtorEq, under_slE]) (PBor.mat (by simp [hll]) rfl (fun j' r' hr' => ?_) (.same (by simp only [PP, P1, P2, P3, P4, P5, P6, P7, P8, P9, P10, P11, P12, P13, P14, L1, P15, N1, N2, N3, N4, N5, N6, N7, I1, I2, I3, I4, I5, I6, I7, reduceIte, reduceCtorEq]) (.same rfl (.same rfl .nil))))) (holds_p T C B hfa hbit I.d.1 I.d.2 (by omega) (by omega) (fun b hb => ⟨rfl, ?_⟩))
    · rw [List.getElem?_map, Option.map_eq_some_iff] at hr'
      obtain ⟨⟨v', r2⟩, h1, rfl⟩ := hr'
      have := I.d.2 r2 (List.mem_map.2 ⟨_, List.mem_of_getElem? h1, rfl⟩)
      refine ⟨by show r2.length = n; omega, v', ?_⟩
      simp only [List.getElem?_cons_succ]
      exact rowsO_at h1 X
    cases b with
    | true =>
      simp only [PP, P1, P2, P3, P4, P5, P6, P7, P8, P9, P10, P11, P12, P13, P14, L1, P15, N1, N2, N3, N4, N5, N6, N7, I1, I2, I3, I4, I5, I6, I7, reduceIte, reduceCtorEq, hwj]
      exact SemW_weak (ih2 (j + 1) ch l ⟨by omega, (I.keep (p := k) (q := j) (fun _ => hb.1 rfl)).weak stepD⟩ (by omega)) (by simp only [PWeak_nil, PWeak_junk, PWeak_same, Int.cast_ofNat_Int, List.length_append, List.length_cons, List.length_nil, Nat.zero_add])
    | false =>
      have kn : (k : Int) < n := by omega
      have jn : (j : Int) < n := by omega
      have jn1 : j + 1 ≤ n := by omega
      have hset := rowsO_set (l := l) (p := k) (by omega) (v + 1) (row.set j false) X
      rw [List.map_set] at hset
      simp only [PP, P1, P2, P3, P4, P5, P6, P7, P8, P9, P10, P11, P12, P13, P14, L1, P15, N1, N2, N3, N4, N5, N6, N7, I1, I2, I3, I4, I5, I6, I7, reduceIte, reduceCtorEq, k0, hrk, hrl, hat, hrl2, kn, jn, jn1, j0, hset, hwj]
      have I2 : PrI N (rsO l0) (setAt (rsO l) k j) true (fun u v => (u < k ∧ (v : Int) < N.n) ∨ (u = k ∧ v < j + 1)) := I.cut C (by omega) (by omega) hrv fun h => by have := hb.2 h; cases this
      rw [rsO_setAt hlk] at I2
      exact SemW_weak (ih2 (j + 1) true _ ⟨by omega, I2⟩ (by omega)) (by simp only [PWeak_nil, PWeak_junk, PWeak_same, Int.cast_ofNat_Int, List.length_append, List.length_cons, List.length_nil, Nat.zero_add])
end
end Go.Am.Ar
set_option linter.unusedVariables false
set_option linter.unusedSimpArgs false
set_option maxRecDepth 10000
namespace Go.Am.Ar
open Go.Am renaming pchk → P1, pold → P2, PKNo → P3, ppack → P4, PObj.under → P5, pput → P6, ptset → P7, ptget → P8, pev → P9, ofAV → P10, ofAV1 → P11, ppad → P12, pfill → P13, prepl → P14, AO.effect → P15
open List renaming replicate → L1
open Nat renaming reduceAdd → N1, reduceSub → N2, reduceMul → N3, reduceLT → N4, reduceLeDiff → N5, reduceEqDiff → N6, reduceBEq → N7
open Int renaming reduceToNat → I1, reduceLT → I2, reduceLE → I3, reduceEq → I4, reduceAdd → I5, reduceSub → I6, reduceNeg → I7
def tfL (k n : Nat) : List PV := List.replicate k (PV.bool true) ++ List.replicate (n - k) (PV.bool false)
theorem tfL_len {k n : Nat} (h : k ≤ n) : (tfL k n).length = n := by simp [tfL]; omega
theorem tfL_copy {k n : Nat} (h : k ≤ n) : (tfL k n).take k ++ (psub (tfL k n) 0 k).take (min k (n - k)) ++ (tfL k n).drop (k + min k (n - k)) = tfL (k + min k (n - k)) n := by
  have h1 : (tfL k n).take k = List.replicate k (PV.bool true) := by unfold tfL; rw [List.take_left' (by simp)]
  have h2 : psub (tfL k n) 0 k = List.replicate k (PV.bool true) := by unfold psub; rw [List.drop_zero, h1]
  have h3 : (tfL k n).drop (k + min k (n - k)) = List.replicate (n - (k + min k (n - k))) (PV.bool false) := by
    unfold tfL
    rw [← List.drop_drop, List.drop_left' (by simp), List.drop_replicate]
    congr 1; omega
  rw [h1, h2, h3, List.take_replicate, List.replicate_append_replicate]
  unfold tfL
  congr 2; omega
theorem tfL_one (k n : Nat) : (psub (tfL k n) 0 k).all PV.one = true := by
  have h2 : psub (tfL k n) 0 k = List.replicate k (PV.bool true) := by unfold psub tfL; rw [List.drop_zero, List.take_left' (by simp)]
  rw [h2, List.all_eq_true]
  intro x hx
  rw [List.eq_of_mem_replicate hx]; rfl
theorem u64_and {n : Nat} (h : n ≤ 64) : pbin .and (.int .u64 (n : Int)) (.int .u64 4294967295) = some (.int .u64 (n : Int)) := by
  have key : ∀ n : Fin 65, IntKind.u64.wrap ((BitVec.ofInt 64 ((n.1 : Nat) : Int) &&& BitVec.ofInt 64 4294967295).toNat : Int) = ((n.1 : Nat) : Int) := by decide
  have e := key ⟨n, by omega⟩
  simp only at e
  have e' : IntKind.u64.wrap ((BitVec.ofInt IntKind.u64.bits (n : Int) &&& BitVec.ofInt IntKind.u64.bits 4294967295).toNat : Int) = (n : Int) := e
  simp only [pbin, toAV0, abin, isShift, binInt, e']
  rfl
theorem u64_shr {n : Nat} (h : n ≤ 64) : pbin .shr (.int .u64 (n : Int)) (.int .u64 32) = some (.int .u64 0) := by
  have key : ∀ n : Fin 65, ((n.1 : Nat) : Int).fdiv (2 ^ (min (Int.toNat 32) 64)) = 0 := by decide
  have e := key ⟨n, by omega⟩
  simp only at e
  have e' : (n : Int).fdiv (2 ^ (min (Int.toNat 32) IntKind.u64.bits)) = 0 := e
  simp only [pbin, toAV0, abin, isShift, binShift, e']
  rfl
theorem wrap_u {n : Nat} (h : n ≤ 64) : IntKind.u64.wrap (n : Int) = (n : Int) := by
  simp only [IntKind.wrap, IntKind.signed, IntKind.bits]
  simp
  omega
section
variable {tab : FuncId → Option AF} (T : HasA tab)
include T
theorem mul64_p {M : Mem} {K : PV → Mem → Prop} {n : Nat} (h : n ≤ 64) (hk : K (.tuple [.int .u64 0, .int .u64 n]) M) : SemC tab 110 [.int .u64 1, .int .u64 n] M K := by
  have a1 := u64_and (n := 1) (by decide)
  have a2 := u64_and h
  have a0 := u64_and (n := 0) (by decide)
  have s1 := u64_shr (n := 1) (by decide)
  have s2 := u64_shr h
  have s0 := u64_shr (n := 0) (by decide)
  have w := wrap_u h
  have w0 := wrap_u (n := 0) (by decide)
  have e1 : (1 : Int) * n = n := Int.one_mul _
  have e2 : (0 : Int) * n = 0 := Int.zero_mul _
  simp only [Int.cast_ofNat_Int] at a1 a0 s1 s0 w0
  refine SemC_pure T.h110 (by simp only [PP, P1, P2, P3, P4, P5, P6, P7, P8, P9, P10, P11, P12, P13, P14, L1, P15, N1, N2, N3, N4, N5, N6, N7, I1, I2, I3, I4, I5, I6, I7, reduceIte, reduceCtorEq]) ?_
  simp only [af110, PP, P1, P2, P3, P4, P5, P6, P7, P8, P9, P10, P11, P12, P13, P14, L1, P15, N1, N2, N3, N4, N5, N6, N7, I1, I2, I3, I4, I5, I6, I7, reduceIte, reduceCtorEq, a1, a2, a0, s1, s2, s0, w, w0, e1, e2, Int.mul_zero, Int.add_zero]
  exact hk
theorem mul_p {M : Mem} {K : PV → Mem → Prop} {n : Nat} (h : n ≤ 64) (hk : K (.tuple [.int .u64 0, .int .u64 n]) M) : SemC tab 88 [.int .u64 1, .int .u64 n] M K := by
  refine SemC_pure T.h88 (by simp only [PP, P1, P2, P3, P4, P5, P6, P7, P8, P9, P10, P11, P12, P13, P14, L1, P15, N1, N2, N3, N4, N5, N6, N7, I1, I2, I3, I4, I5, I6, I7, reduceIte, reduceCtorEq]) ?_
  simp only [af88, PP, P1, P2, P3, P4, P5, P6, P7, P8, P9, P10, P11, P12, P13, P14, L1, P15, N1, N2, N3, N4, N5, N6, N7, I1, I2, I3, I4, I5, I6, I7, reduceIte, reduceCtorEq]
  refine mul64_p T h ?_
  simp only [PP, P1, P2, P3, P4, P5, P6, P7, P8, P9, P10, P11, P12, P13, P14, L1, P15, N1, N2, N3, N4, N5, N6, N7, I1, I2, I3, I4, I5, I6, I7, reduceIte, reduceCtorEq]
  exact hk
theorem repeat_p {M : Mem} {K : PV → Mem → Prop} {n : Nat} (h : n ≤ 64) (hk : ∀ v, K (.ref M.length 0 1 0 n) (M ++ [.cells 0 v ((List.replicate n true).map PV.bool)])) : SemC tab 74 [.sl true true 1 1 [.bool true], p64 n] M K := by
  have n0 : (0 : Int) ≤ n := by omega
  have n1 : ¬ (n : Int) < 0 := by omega
  have w := wrap_u h
  have w1 : IntKind.u64.wrap 1 = 1 := rfl
  have wi : IntKind.i64.wrap (n : Int) = n := wrap64 (by omega) (by omega)
  have n2 : ¬ (9223372036854775807 : Int) < n := by omega
  have b1 : (n : Int) * 1 ≤ 140737488355328 := by omega
  have b2 : (n : Int) ≤ 9223372036854775807 := by omega
  refine SemC_fn T.h74 ?_
  simp only [af74, PP, P1, P2, P3, P4, P5, P6, P7, P8, P9, P10, P11, P12, P13, P14, L1, P15, N1, N2, N3, N4, N5, N6, N7, I1, I2, I3, I4, I5, I6, I7, reduceIte, reduceCtorEq, n1, w, w1]
  refine mul_p T h ?_
  simp only [PP, P1, P2, P3, P4, P5, P6, P7, P8, P9, P10, P11, P12, P13, P14, L1, P15, N1, N2, N3, N4, N5, N6, N7, I1, I2, I3, I4, I5, I6, I7, reduceIte, reduceCtorEq, n2, wi, n0, b1, b2, Int.le_refl, PS_copyS, PS_clearS, ZCopy_ref, ZClear_ref, List.append_assoc, gk, gk0, sk, sk0]
  rcases Nat.eq_zero_or_pos n with e0 | e0
  · subst e0
    simp only [Nat.min_zero, if_true]
    refine SemW_weak (b := [.junk, .junk, .junk, .junk, .junk, .junk, .junk, .ref M.length 0 1 0 0, p64 0, .junk, .junk, .junk, .junk, .junk, .junk, .junk, .junk, .junk, .junk, .junk, .junk, .junk, .junk, .junk, .junk, .junk, .junk, .junk, .junk, .junk, .junk, .junk, .junk, .junk, .junk, .junk, .junk, .junk, .junk, .junk, .junk, .junk, .junk, .junk, .junk, .junk, .junk, .junk]) ?_ (by simp only [PWeak_nil, PWeak_junk, PWeak_same, Int.cast_ofNat_Int, List.length_append, List.length_cons, List.length_nil, Nat.zero_add])
    refine SemW_go (by kernel_rfl) ?_
    simp only [PP, P1, P2, P3, P4, P5, P6, P7, P8, P9, P10, P11, P12, P13, P14, L1, P15, N1, N2, N3, N4, N5, N6, N7, I1, I2, I3, I4, I5, I6, I7, reduceIte, reduceCtorEq, List.append_assoc, gk, gk0, sk, sk0]
    exact hk 0
  have hm1 : min 1 n = 1 := by omega
  have hst : List.take 1 [PV.bool true] ++ List.drop 1 (List.replicate n (PV.bool false)) = tfL 1 n := by
    unfold tfL
    rw [List.drop_replicate]; rfl
  rw [hm1, if_neg (by decide), hst]
  refine loop2 (fun (k ver : Nat) => k ≤ n ∧ 0 < k) (fun k _ => [.junk, .junk, .junk, .junk, .junk, .junk, .junk, .ref M.length 0 1 0 n, p64 k, .junk, .junk, .junk, .junk, .junk, .junk, .junk, .junk, .junk, .junk, .junk, .junk, .junk, .junk, .junk, .junk, .junk, .junk, .junk, .junk, .junk, .junk, .junk, .junk, .junk, .junk, .junk, .junk, .junk, .junk, .junk, .junk, .junk, .junk, .junk, .junk, .junk, .junk, .junk]) (fun k ver => M ++ [.cells 0 ver (tfL k n)]) (fun k _ => n - k) 1 1 ⟨by omega, by omega⟩ (by simp only [PWeak_nil, PWeak_junk, PWeak_same, Int.cast_ofNat_Int, List.length_append, List.length_cons, List.length_nil, Nat.zero_add]) rfl ?_
  intro k ver ⟨hle, hpos⟩ ih
  refine SemW_go (by kernel_rfl) ?_
  simp only [PP, P1, P2, P3, P4, P5, P6, P7, P8, P9, P10, P11, P12, P13, P14, L1, P15, N1, N2, N3, N4, N5, N6, N7, I1, I2, I3, I4, I5, I6, I7, reduceIte, reduceCtorEq, List.append_assoc, gk, gk0, sk, sk0]
  refine QIf.intro (fun d => ?_) (fun d => ?_)
  · have hk' : k < n := by omega
    have k0 : (0 : Int) ≤ k := by omega
    have kn : (k : Int) ≤ n := by omega
    have e3 : ((n : Int) - k).toNat = n - k := by omega
    have hmin : ¬ min k (n - k) = 0 := by omega
    have hlt := tfL_len hle
    have h4 : k + (n - k) ≤ n := by omega
    have hadd : IntKind.i64.wrap ((k : Int) + ((min k (n - k) : Nat) : Int)) = ((k + min k (n - k) : Nat) : Int) := by rw [wrap64 (by omega) (by omega)]; omega
    have hone := tfL_one k n
    have hcp := tfL_copy hle
    simp only [PP, P1, P2, P3, P4, P5, P6, P7, P8, P9, P10, P11, P12, P13, P14, L1, P15, N1, N2, N3, N4, N5, N6, N7, I1, I2, I3, I4, I5, I6, I7, reduceIte, reduceCtorEq, d, k0, kn, e3, Int.le_refl, Int.sub_zero, PS_copyS, PS_clearS, ZCopy_ref, ZClear_ref, List.append_assoc, gk, gk0, sk, sk0, hlt, hle, h4, hone]
    rw [if_neg hmin, hadd, ← List.append_assoc, hcp]
    exact SemW_weak (ih (k + min k (n - k)) (ver + 1) ⟨by omega, by omega⟩ (by omega)) (by simp only [PWeak_nil, PWeak_junk, PWeak_same, Int.cast_ofNat_Int, List.length_append, List.length_cons, List.length_nil, Nat.zero_add])
  · have hkn : k = n := by omega
    subst hkn
    simp only [PP, P1, P2, P3, P4, P5, P6, P7, P8, P9, P10, P11, P12, P13, P14, L1, P15, N1, N2, N3, N4, N5, N6, N7, I1, I2, I3, I4, I5, I6, I7, reduceIte, reduceCtorEq, d, List.append_assoc, gk, gk0, sk, sk0]
    have e : tfL k k = (List.replicate k true).map PV.bool := by simp [tfL]
    rw [e]
    exact hk ver
end
end Go.Am.Ar
set_option linter.unusedVariables false
set_option linter.unusedSimpArgs false
set_option maxRecDepth 10000
namespace Go.Am.Ar
open Go.Am renaming pchk → P1, pold → P2, PKNo → P3, ppack → P4, PObj.under → P5, pput → P6, ptset → P7, ptget → P8, pev → P9, ofAV → P10, ofAV1 → P11, ppad → P12, pfill → P13, prepl → P14, AO.effect → P15
open List renaming replicate → L1
open Nat renaming reduceAdd → N1, reduceSub → N2, reduceMul → N3, reduceLT → N4, reduceLeDiff → N5, reduceEqDiff → N6, reduceBEq → N7
open Int renaming reduceToNat → I1, reduceLT → I2, reduceLE → I3, reduceEq → I4, reduceAdd → I5, reduceSub → I6, reduceNeg → I7
theorem PFrz_refl (id g : Nat) (cs : List PV) : ∀ a : List PV, PFrz id g cs a a
  | [] => trivial
  | _ :: a => ⟨.inr (.inl rfl), PFrz_refl id g cs a⟩
theorem PFrz_map {id g : Nat} {cs : List PV} {α : Type} {f f' : α → PV} : ∀ l : List α, (∀ u ∈ l, f u = f' u ∨ ∃ sz off n, f u = .ref id g sz off n ∧ off + n * sz ≤ cs.length ∧ f' u = .sl false true sz n (psub cs off (n * sz))) → PFrz id g cs (l.map f) (l.map f')
  | [], _ => trivial
  | x :: l, h => ⟨.inr (h x (by simp)), PFrz_map l fun u hu => h u (by simp [hu])⟩
theorem freezeRows {a : List PV} {M : Mem} {r b n vR : Nat} {rs : List (List Bool)} (hrb : r < b) (hl : rs.length = n) (hR : M[r]? = some (.cells 0 vR (refsR b n)))
    (hrow : ∀ u row, rs[u]? = some row → row.length = n ∧ ∃ v, M[u + b]? = some (.cells 0 v (row.map PV.bool))) :
    ∃ M', GStep 0 a M a M' ∧ M'[r]? = some (.cells 0 vR (rs.map (slB false true))) ∧ ∀ i, i < b → i ≠ r → M'[i]? = M[i]? := by
  have key : ∀ k, k ≤ n → ∃ M', GStep 0 a M a M' ∧ M'[r]? = some (.cells 0 vR (tabA n fun u => if u < k then slB false true (rs.getD u []) else .ref (u + b) 0 1 0 n)) ∧ (∀ u, k ≤ u → M'[u + b]? = M[u + b]?) ∧ ∀ i, i < b → i ≠ r → M'[i]? = M[i]? := by
    intro k
    induction k with
    | zero =>
      intro _
      refine ⟨M, GStep.weak (PWeak.refl a) rfl, ?_, fun _ _ => rfl, fun _ _ _ => rfl⟩
      rw [hR]; rfl
    | succ k ih =>
      intro hk
      obtain ⟨M', g, h1, h2, h3⟩ := ih (by omega)
      obtain ⟨row, hrk⟩ : ∃ row, rs[k]? = some row := ⟨_, List.getElem?_eq_getElem (by omega)⟩
      obtain ⟨hlen, v, hv⟩ := hrow k row hrk
      have hMk : M'[k + b]? = some (.cells 0 v (row.map PV.bool)) := by rw [h2 k (Nat.le_refl _)]; exact hv
      have hd : rs.getD k [] = row := by simp [List.getD, hrk]
      refine ⟨(M'.set (k + b) .gone).set r (.cells 0 vR (tabA n fun u => if u < k + 1 then slB false true (rs.getD u []) else .ref (u + b) 0 1 0 n)), g.trans (GStep.freezeIn (k + b) r (Nat.zero_le _) hMk h1 (by omega) (PFrz_refl _ _ _ _) (PFrz_map _ fun u hu => ?_) rfl), ?_, fun u hu => ?_, fun i hi hir => ?_⟩
      · by_cases e1 : u < k
        · left
          rw [if_pos e1, if_pos (by omega)]
        · by_cases e2 : u = k
          · subst e2
            right
            refine ⟨1, 0, n, by rw [if_neg e1], by rw [List.length_map]; omega, ?_⟩
            rw [if_pos (by omega), hd, Nat.mul_one, psub_all _ _ (by rw [List.length_map, hlen])]
            unfold slB
            rw [hlen]
          · left
            rw [if_neg e1, if_neg (by omega)]
      · have hrl := getSome_lt h1
        rw [List.getElem?_set_self (by rw [List.length_set]; exact hrl)]
      · rw [List.getElem?_set_ne (by omega), List.getElem?_set_ne (by omega)]
        exact h2 u (by omega)
      · rw [List.getElem?_set_ne (Ne.symm hir), List.getElem?_set_ne (by omega)]
        exact h3 i hi hir
  obtain ⟨M', g, h1, _, h3⟩ := key n (Nat.le_refl _)
  refine ⟨M', g, ?_, h3⟩
  rw [h1]
  congr 2
  refine (tabA_ext (by rw [List.length_map]; exact hl) fun v hv => ?_).symm
  rw [if_pos hv, List.getElem?_map, List.getElem?_eq_getElem (by omega)]
  simp [List.getD, hl, hv]
section
variable {tab : FuncId → Option AF} (T : HasA tab)
include T
set_option maxHeartbeats 1000000 in
theorem relation_p {M : Mem} {K : PV → Mem → Prop} {f1 o1 f2 o2 f3 o3 : Bool} {N : NF} (C : NOk N) (B : BnN N) (hk : ∀ rs, RelOk N rs → K (slBr false true false true rs) M) :
    SemC tab 46 [.agg (nfC f1 o1 f2 o2 f3 o3 N)] M K := by
  have n0 := C.n0
  have n64 := C.n64
  obtain ⟨n, hn⟩ : ∃ n : Nat, N.n = n := ⟨N.n.toNat, by omega⟩
  have b0 : (0 : Int) ≤ n := by omega
  have b1 : (n : Int) * 24 ≤ 140737488355328 := by omega
  have b2 : (n : Int) ≤ 9223372036854775807 := by omega
  refine SemC_pureS T.h46 (by simp only [PP, P1, P2, P3, P4, P5, P6, P7, P8, P9, P10, P11, P12, P13, P14, L1, P15, N1, N2, N3, N4, N5, N6, N7, I1, I2, I3, I4, I5, I6, I7, reduceIte, reduceCtorEq, under_slE]) ?_
  simp only [af46]
  refine SemW_seq (SemW_of ?_)
  simp only [PP, P1, P2, P3, P4, P5, P6, P7, P8, P9, P10, P11, P12, P13, P14, L1, P15, N1, N2, N3, N4, N5, N6, N7, I1, I2, I3, I4, I5, I6, I7, reduceIte, reduceCtorEq]
  refine SemW_re (GStep.freezeP (b := [.junk, .cp (nfC f1 o1 f2 o2 f3 o3 N) 0, .junk, .junk, .junk, .junk, .junk, .junk, .junk, .junk, .junk, .junk, .junk, .junk, .junk, .junk, .junk, .junk, .junk, .junk, .junk, .junk, .junk, .junk, .junk, .junk, .junk, .junk, .junk, .junk]) 0 (Nat.zero_le _) rfl (by simp only [PFrzP_nil, PFrzP_junk, PFrzP_same, PFrzP_ptr]) rfl) ?_
  refine SemW_seq (SemW_of ?_)
  simp only [PP, P1, P2, P3, P4, P5, P6, P7, P8, P9, P10, P11, P12, P13, P14, L1, P15, N1, N2, N3, N4, N5, N6, N7, I1, I2, I3, I4, I5, I6, I7, reduceIte, reduceCtorEq, hn]
  refine ⟨⟨b0, Int.le_refl _, b1, b2⟩, ?_⟩
  refine SemW_seq (SemW_of ?_)
  simp only [PP, P1, P2, P3, P4, P5, P6, P7, P8, P9, P10, P11, P12, P13, P14, L1, P15, N1, N2, N3, N4, N5, N6, N7, I1, I2, I3, I4, I5, I6, I7, reduceIte, reduceCtorEq]
  refine loop3 (fun (k vR : Nat) (l : List (Nat × List Bool)) => k ≤ n ∧ l.length = k ∧ ∀ x ∈ l, x.2 = List.replicate n true) (fun k _ _ => [.junk, .cp (nfC f1 o1 f2 o2 f3 o3 N) 0, .junk, .ptr 2 0 0, .junk, .junk, .junk, .junk, .junk, .junk, .junk, p64 n, p64 k, .junk, .junk, .junk, .junk, .junk, .junk, .junk, .junk, .junk, .junk, .junk, .junk, .junk, .junk, .junk, .junk, .junk]) (fun k vR l => .gone :: .cells 0 vR (tabA n fun u => if u < k then .ref (u + 3) 0 1 0 n else .nils) :: .cells 0 1 [.ref 1 0 1 0 n] :: rowsO l) (fun k _ _ => n - k) 0 0 [] ⟨by omega, rfl, by simp⟩ (by simp only [PWeak_nil, PWeak_junk, PWeak_same, Int.cast_ofNat_Int, List.length_append, List.length_cons, List.length_nil, Nat.zero_add]) (by rw [tabA_rep]; rfl) ?_
  intro k vR l ⟨hkn, hl, hall⟩ ih
  refine SemW_go (by kernel_rfl) ?_
  simp only [PP, P1, P2, P3, P4, P5, P6, P7, P8, P9, P10, P11, P12, P13, P14, L1, P15, N1, N2, N3, N4, N5, N6, N7, I1, I2, I3, I4, I5, I6, I7, reduceIte, reduceCtorEq, hn]
  refine QIf.intro (fun c => ?_) (fun c => ?_)
  · have hk' : k < n := by omega
    have k0 : (0 : Int) ≤ k := by omega
    have hwk := wrap_succ (k := k) (by show _ < 1000000000000; omega)
    simp only [PP, P1, P2, P3, P4, P5, P6, P7, P8, P9, P10, P11, P12, P13, P14, L1, P15, N1, N2, N3, N4, N5, N6, N7, I1, I2, I3, I4, I5, I6, I7, reduceIte, reduceCtorEq, c, hn]
    refine repeat_p T (by omega) fun v => ?_
    have htl := tabA_len n fun u => if u < k then PV.ref (u + 3) 0 1 0 n else .nils
    have hrl : (rowsO l).length = k := by simp [rowsO, hl]
    have k1 : k + 1 ≤ n := hk'
    simp only [PP, P1, P2, P3, P4, P5, P6, P7, P8, P9, P10, P11, P12, P13, P14, L1, P15, N1, N2, N3, N4, N5, N6, N7, I1, I2, I3, I4, I5, I6, I7, reduceIte, reduceCtorEq, k0, c, htl, hwk, hrl, k1, tabA_set _ hk', List.append_assoc]
    refine SemW_to (ih (k + 1) (vR + 1) (l ++ [(v, List.replicate n true)]) ⟨by omega, by simp [hl], fun x hx => ?_⟩ (by omega)) (by simp only [PWeak_nil, PWeak_junk, PWeak_same, Int.cast_ofNat_Int, List.length_append, List.length_cons, List.length_nil, Nat.zero_add]) ?_
    · rcases List.mem_append.1 hx with q | q
      · exact hall x q
      · rw [List.mem_singleton] at q; subst q; rfl
    · have e1 : (tabA n fun v => if v = k then PV.ref (k + 1 + 1 + 1) 0 1 0 n else if v < k then .ref (v + 3) 0 1 0 n else .nils) = tabA n fun u => if u < k + 1 then .ref (u + 3) 0 1 0 n else .nils := tabA_congr fun u hu => by
        by_cases q : u = k
        · subst q; rw [if_pos rfl, if_pos (by omega)]
        · rw [if_neg q]
          by_cases q2 : u < k
          · rw [if_pos q2, if_pos (by omega)]
          · rw [if_neg q2, if_neg (by omega)]
      rw [e1]
      simp [rowsO]
  have hkl : k = n := by omega
  subst hkl
  have e1 : (tabA k fun u => if u < k then PV.ref (u + 3) 0 1 0 k else .nils) = refsR 3 k := tabA_congr fun u hu => by rw [if_pos hu]
  have hrs : rsO l = allT k := by
    unfold allT rsO
    refine List.eq_replicate_iff.2 ⟨by rw [List.length_map]; exact hl, fun x hx => ?_⟩
    obtain ⟨y, hy, rfl⟩ := List.mem_map.1 hx
    exact hall y hy
  rw [e1]
  simp only [PP, P1, P2, P3, P4, P5, P6, P7, P8, P9, P10, P11, P12, P13, P14, L1, P15, N1, N2, N3, N4, N5, N6, N7, I1, I2, I3, I4, I5, I6, I7, reduceIte, reduceCtorEq, c]
  refine SemW_seq (SemW_of ?_)
  simp only [PP, P1, P2, P3, P4, P5, P6, P7, P8, P9, P10, P11, P12, P13, P14, L1, P15, N1, N2, N3, N4, N5, N6, N7, I1, I2, I3, I4, I5, I6, I7, reduceIte, reduceCtorEq]
  refine ofF_p T C C.fi ?_
  simp only [PP, P1, P2, P3, P4, P5, P6, P7, P8, P9, P10, P11, P12, P13, P14, L1, P15, N1, N2, N3, N4, N5, N6, N7, I1, I2, I3, I4, I5, I6, I7, reduceIte, reduceCtorEq, List.append_assoc, gk, gk0, sk, sk0]
  refine SemW_re (GStep.freezeP (b := [.junk, .cp (nfC f1 o1 f2 o2 f3 o3 N) 0, .junk, .ptr 2 0 0, .junk, .cp [slW false true (faW N.fi)] 0, .junk, .junk, .junk, .junk, .junk, .junk, .junk, .junk, .junk, .junk, .junk, .junk, .junk, .junk, .junk, .junk, .junk, .junk, .junk, .junk, .junk, .junk, .junk, .junk]) ((rowsO l).length + 1 + 1 + 1) (Nat.zero_le _) (by simp only [List.getElem?_cons_succ, gk0]; rfl) (by simp only [PFrzP_nil, PFrzP_junk, PFrzP_same, PFrzP_ptr]) (by simp only [List.set_cons_succ, sk0, List.set_cons_zero]; rfl)) ?_
  refine SemW_seq (SemW_of ?_)
  simp only [PP, P1, P2, P3, P4, P5, P6, P7, P8, P9, P10, P11, P12, P13, P14, L1, P15, N1, N2, N3, N4, N5, N6, N7, I1, I2, I3, I4, I5, I6, I7, reduceIte, reduceCtorEq]
  obtain ⟨_, fa2, fa3⟩ := fa_ok C C.fi
  refine SemW_seq (SemW_gh ?_)
  refine SemW_of ?_
  simp only [PP, P1, P2, P3, P4, P5, P6, P7, P8, P9, P10, P11, P12, P13, P14, L1, P15, N1, N2, N3, N4, N5, N6, N7, I1, I2, I3, I4, I5, I6, I7, reduceIte, reduceCtorEq]
  refine loop1 (fun (l : List (Nat × List Bool)) => DimOk N (rsO l) ∧ UpR N (rsO l)) (fun _ => [.junk, .junk, .junk, .ptr 2 0 0, .junk, .junk, .func (.func 75) [] [.ptr 2 0 0, .cp (nfC f1 o1 f2 o2 f3 o3 N) 0, .cp [slW false true (faW N.fi)] 0], .junk, .junk, .junk, .junk, .junk, .junk, .junk, .junk, .junk, .junk, .junk, .junk, .junk, .junk, .junk, .junk, .junk, .junk, .junk, .junk, .junk, .junk, .junk]) (fun l => stP vR k l [.gone]) (fun l => cntR (rsO l)) l ⟨by rw [hrs]; exact allT_dim hn, by rw [hrs]; exact allT_up hn⟩ (by simp only [PWeak_nil, PWeak_junk, PWeak_same, Int.cast_ofNat_Int, List.length_append, List.length_cons, List.length_nil, Nat.zero_add]) rfl ?_
  intro l ⟨D, U⟩ ih
  refine SemW_go (by kernel_rfl) ?_
  simp only [PP, P1, P2, P3, P4, P5, P6, P7, P8, P9, P10, P11, P12, P13, P14, L1, P15, N1, N2, N3, N4, N5, N6, N7, I1, I2, I3, I4, I5, I6, I7, reduceIte, reduceCtorEq]
  refine prune_p T C B hn fa2 fa3 D U (fun l' ch I => ?_)
  cases ch with
  | true =>
    simp only [PP, P1, P2, P3, P4, P5, P6, P7, P8, P9, P10, P11, P12, P13, P14, L1, P15, N1, N2, N3, N4, N5, N6, N7, I1, I2, I3, I4, I5, I6, I7, reduceIte, reduceCtorEq]
    exact SemW_weak (ih l' ⟨I.d, I.u⟩ (I.ye rfl)) (by simp only [PWeak_nil, PWeak_junk, PWeak_same, Int.cast_ofNat_Int, List.length_append, List.length_cons, List.length_nil, Nat.zero_add])
  | false =>
    simp only [PP, P1, P2, P3, P4, P5, P6, P7, P8, P9, P10, P11, P12, P13, P14, L1, P15, N1, N2, N3, N4, N5, N6, N7, I1, I2, I3, I4, I5, I6, I7, reduceIte, reduceCtorEq]
    have R := I.fin
    have hll : (rsO l').length = k := by have := R.d.1; omega
    refine Gh.step (GStep.weak (b := [.junk, .junk, .junk, .ptr 2 0 0, .junk, .junk, .junk, .junk, .junk, .junk, .junk, .junk, .junk, .junk, .junk, .junk, .junk, .junk, .junk, .junk, .junk, .junk, .junk, .junk, .junk, .junk, .junk, .junk, .junk, .junk]) (by simp only [PWeak_nil, PWeak_junk, PWeak_same, Int.cast_ofNat_Int, List.length_append, List.length_cons, List.length_nil, Nat.zero_add]) rfl) ?_
    obtain ⟨M', g, h1, h3⟩ := freezeRows (a := [.junk, .junk, .junk, .ptr 2 0 0, .junk, .junk, .junk, .junk, .junk, .junk, .junk, .junk, .junk, .junk, .junk, .junk, .junk, .junk, .junk, .junk, .junk, .junk, .junk, .junk, .junk, .junk, .junk, .junk, .junk, .junk]) (M := stP vR k l' [.gone]) (r := 1) (b := 3) (n := k) (vR := vR) (rs := rsO l') (by omega) hll rfl (fun u row hu => by
      rw [List.getElem?_map, Option.map_eq_some_iff] at hu
      obtain ⟨⟨v', r2⟩, h1, rfl⟩ := hu
      have := R.d.2 r2 (List.mem_map.2 ⟨_, List.mem_of_getElem? h1, rfl⟩)
      refine ⟨by show r2.length = k; omega, v', ?_⟩
      simp only [List.getElem?_cons_succ]
      exact rowsO_at h1 [.gone])
    refine Gh.step g ?_
    have h2 : M'[2]? = some (.cells 0 1 [.ref 1 0 1 0 k]) := by rw [h3 2 (by omega) (by omega)]; rfl
    have hm2 := getSome_lt h2
    refine Gh.step (GStep.freezeIn (b := [.junk, .junk, .junk, .ptr 2 0 0, .junk, .junk, .junk, .junk, .junk, .junk, .junk, .junk, .junk, .junk, .junk, .junk, .junk, .junk, .junk, .junk, .junk, .junk, .junk, .junk, .junk, .junk, .junk, .junk, .junk, .junk]) 1 2 (Nat.zero_le _) h1 h2 (by decide) (PFrz_refl _ _ _ _) (cj2 := [slBr false true false true (rsO l')]) (by
      rw [PFrz_ref (by rw [List.length_map]; omega) (by rw [Nat.mul_one, psub_all _ _ (by rw [List.length_map]; exact hll.symm)]; unfold slBr; rw [hll])]
      simp only [PFrz_nil]) rfl) (Gh.same (SemW_of ?_))
    have h4 : ((M'.set 1 .gone).set 2 (.cells 0 1 [slBr false true false true (rsO l')]))[2]? = some (.cells 0 1 [slBr false true false true (rsO l')]) := by
      rw [List.getElem?_set_self (by rw [List.length_set]; exact hm2)]
    have hfz : ∀ M0 : Mem, pfrz 0 M0 (slBr false true false true (rsO l')) = some (slBr false true false true (rsO l')) := fun M0 => pfrz1_under (M := M0) (under_slBr _ _ _ _ _ _ _ _)
    simp only [PP, P1, P2, P3, P4, P5, P6, P7, P8, P9, P10, P11, P12, P13, P14, L1, P15, N1, N2, N3, N4, N5, N6, N7, I1, I2, I3, I4, I5, I6, I7, reduceIte, reduceCtorEq, h4, hfz]
    exact hk _ R
end
end Go.Am.Ar

