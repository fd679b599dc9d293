/- Contracts: deterministic automata run, both; copied and compared, and what goes with it. -/
import Derived.Test.YtbcdfmecpjbeaaaDoorSubsetStepsG1
import Derived.Test.YtbcdfmecpjbeaaaDoorSubsetStepsG0
import Derived.Test.YtbcdfmecpjbeaaaDoorPmL
import Derived.Test.YtbcdfmecpjbeaaaDoorPmC
set_option linter.unusedVariables false
set_option linter.unusedSimpArgs false
set_option maxRecDepth 10000
namespace Go.Am.Ar
open Go.Am renaming pchk → P1, pold → P2, PKNo → P3, ppack → P4, PObj.under → P5, pput → P6, ptset → P7, ptget → P8, pev → P9, ofAV → P10, ofAV1 → P11, ppad → P12, pfill → P13, prepl → P14, AO.effect → P15
open List renaming replicate → L1
open Nat renaming reduceAdd → N1, reduceSub → N2, reduceMul → N3, reduceLT → N4, reduceLeDiff → N5, reduceEqDiff → N6, reduceBEq → N7
open Int renaming reduceToNat → I1, reduceLT → I2, reduceLE → I3, reduceEq → I4, reduceAdd → I5, reduceSub → I6, reduceNeg → I7
structure OkD (D : DF) : Prop where
  v0 : 0 ≤ D.vs
  v6 : D.vs ≤ 6
  n0 : 0 < D.nx.length
  n1 : D.nx.length ≤ 4096
  f : D.fi.length = D.nx.length
  s0 : 0 ≤ D.st
  s1 : D.st < D.nx.length
  r : ∀ r ∈ D.nx, (r.length : Int) = 2 ^ D.vs.toNat ∧ ∀ t ∈ r, 0 ≤ t ∧ t < D.nx.length
theorem rowsD_zero {v n : Int} : ∀ {l : List (List Int)}, rowsD v n l = 0 ↔ ∀ r ∈ l, (r.length : Int) = 2 ^ v.toNat ∧ ∀ t ∈ r, 0 ≤ t ∧ t < n
  | [] => by simp [rowsD]
  | r :: l => by
    unfold rowsD
    by_cases h1 : (r.length : Int) = 2 ^ v.toNat
    · rw [if_pos h1]
      by_cases h2 : badR n r = true
      · rw [if_pos h2]
        constructor
        · intro h; exact absurd h (by decide)
        · intro h
          unfold badR at h2
          obtain ⟨t, h3, h4⟩ := List.any_eq_true.1 h2
          have := (h r (by simp)).2 t h3
          simp only [decide_eq_true_eq] at h4
          omega
      · rw [if_neg h2, rowsD_zero]
        constructor
        · intro h x hx
          rcases List.mem_cons.1 hx with rfl | hx
          · refine ⟨h1, fun t ht => Classical.byContradiction fun q => h2 ?_⟩
            exact List.any_eq_true.2 ⟨t, ht, by simp only [decide_eq_true_eq]; omega⟩
          · exact h x hx
        · intro h x hx; exact h x (by simp [hx])
    · rw [if_neg h1]
      constructor
      · intro h; exact absurd h (by decide)
      · intro h; exact absurd (h r (by simp)).1 h1
theorem okD_iff {D : DF} : checkD D = 0 ↔ OkD D := by
  unfold checkD
  constructor
  · intro h
    split at h; · exact absurd h (by decide)
    split at h; · exact absurd h (by decide)
    split at h; · exact absurd h (by decide)
    split at h; · exact absurd h (by decide)
    split at h; · exact absurd h (by decide)
    rename_i h1 h2 h3 h4 h5
    exact ⟨by omega, by omega, by omega, by omega, by have := Classical.not_not.1 h4; omega, by omega, by omega, rowsD_zero.1 h⟩
  · intro C
    have h1 := C.v0; have h2 := C.v6; have h3 := C.n0; have h4 := C.n1; have h5 := C.f; have h6 := C.s0; have h7 := C.s1
    rw [if_neg (by omega), if_neg (by omega), if_neg (by omega), if_neg (by omega), if_neg (by omega)]
    exact rowsD_zero.2 C.r
def stepD (nx : List (List Int)) (s x : Int) : Int := (((nx[s.toNat]?).getD [])[x.toNat]?).getD 0
def runD (D : DF) (w : List Int) : Int := w.foldl (stepD D.nx) D.st
def errD (D : DF) (w : List Int) : Int := if checkD D = 0 then wordE D.vs w else checkD D
def fiD (D : DF) (s : Int) : Bool := (D.fi[s.toNat]?).getD false
def accD (D : DF) (w : List Int) : Bool := decide (errD D w = 0) && fiD D (runD D w)
theorem OkD.step {D : DF} (C : OkD D) {s x : Int} (s0 : 0 ≤ s) (s1 : s < D.nx.length) (x0 : 0 ≤ x) (x1 : x < 2 ^ D.vs.toNat) :
    ∃ r, D.nx[s.toNat]? = some r ∧ r[x.toNat]? = some (stepD D.nx s x) ∧ x < r.length ∧ 0 ≤ stepD D.nx s x ∧ stepD D.nx s x < D.nx.length := by
  obtain ⟨r, g⟩ := some_of (xs := D.nx) (k := s.toNat) (by omega)
  obtain ⟨h1, h2⟩ := C.r r (List.mem_of_getElem? g)
  obtain ⟨t, gt⟩ := some_of (xs := r) (k := x.toNat) (by omega)
  have e : stepD D.nx s x = t := by unfold stepD; rw [g]; simp [gt]
  rw [e]
  exact ⟨r, g, gt, by omega, h2 t (List.mem_of_getElem? gt)⟩
theorem OkD.run {D : DF} (C : OkD D) : ∀ (w : List Int), (∀ x ∈ w, 0 ≤ x ∧ x < 2 ^ D.vs.toNat) → ∀ s : Int, 0 ≤ s → s < D.nx.length → 0 ≤ w.foldl (stepD D.nx) s ∧ w.foldl (stepD D.nx) s < D.nx.length
  | [], _, s, h0, h1 => ⟨h0, h1⟩
  | x :: w, hw, s, h0, h1 => by
    have hx := hw x (by simp)
    obtain ⟨_, _, _, _, a, b⟩ := C.step h0 h1 hx.1 hx.2
    exact OkD.run C w (fun y hy => hw y (by simp [hy])) _ a b
theorem wordE_zero {v : Int} {w : List Int} (h : wordE v w = 0) : w.length ≤ 64 ∧ ∀ x ∈ w, x < 2 ^ v.toNat := by
  unfold wordE at h
  split at h; · exact absurd h (by decide)
  split at h; · exact absurd h (by decide)
  rename_i h1 h2
  refine ⟨by omega, fun x hx => Classical.byContradiction fun q => h2 ?_⟩
  exact List.any_eq_true.2 ⟨x, hx, by simp only [decide_eq_true_eq]; omega⟩
theorem OkD.fin {D : DF} (C : OkD D) {s : Int} (s0 : 0 ≤ s) (s1 : s < D.nx.length) : D.fi[s.toNat]? = some (fiD D s) ∧ s < D.fi.length := by
  obtain ⟨b, g⟩ := some_of (xs := D.fi) (k := s.toNat) (by have := C.f; omega)
  exact ⟨by unfold fiD; rw [g]; rfl, by have := C.f; omega⟩
section
variable {tab : FuncId → Option AF} (T : HasA tab)
include T
theorem mrun_p {M : Mem} {K : PV → Mem → Prop} {f1 o1 f2 o2 f3 o3 f4 o4 : Bool} {D : DF} {w : List Int} (C : OkD D) (hl : w.length < 1000000000000) (hw : ∀ x ∈ w, 0 ≤ x ∧ x < 2 ^ D.vs.toNat) (hk : K (p64 (runD D w)) M) :
    SemC tab 52 [.agg (dfC f1 o1 f2 o2 f3 o3 D), slI f4 o4 .u8 w] M K := by
  refine SemC_pure T.h52 (by simp only [PP, P1, P2, P3, P4, P5, P6, P7, P8, P9, P10, P11, P12, P13, P14, L1, P15, N1, N2, N3, N4, N5, N6, N7, I1, I2, I3, I4, I5, I6, I7, reduceIte, reduceCtorEq]) ?_
  simp only [af52, PP, P1, P2, P3, P4, P5, P6, P7, P8, P9, P10, P11, P12, P13, P14, L1, P15, N1, N2, N3, N4, N5, N6, N7, I1, I2, I3, I4, I5, I6, I7, reduceIte, reduceCtorEq]
  refine loop2 (fun (k : Nat) (s : Int) => k ≤ w.length ∧ 0 ≤ s ∧ s < D.nx.length ∧ K (p64 ((w.drop k).foldl (stepD D.nx) s)) M) (fun k s => [.junk, .junk, .ptr 0 0 0, .junk, .junk, p64 s, .junk, .junk, .junk, .junk, .junk, slI f4 o4 .u8 w, p64 w.length, p64 k, .junk, .junk, .junk, .junk, .junk, .junk, .junk, .junk, .junk, .junk, .junk, .junk, .junk, .junk]) (fun _ _ => [.cells 0 0 (dfC f1 o1 f2 o2 f3 o3 D)]) (fun k _ => w.length - k) 0 D.st ⟨by omega, C.s0, C.s1, hk⟩ (by simp only [PW]) rfl ?_
  intro k s ⟨hle, s0, s1, hq⟩ ih
  refine SemW_go (by kernel_rfl) ?_
  simp only [PP, P1, P2, P3, P4, P5, P6, P7, P8, P9, P10, P11, P12, P13, P14, L1, P15, N1, N2, N3, N4, N5, N6, N7, I1, I2, I3, I4, I5, I6, I7, reduceIte, reduceCtorEq]
  refine QIf.intro (fun c => ?_) (fun c => ?_)
  · have hk' : k < w.length := by omega
    obtain ⟨x, gx⟩ := some_of hk'
    have k0 : (0 : Int) ≤ (k : Int) := by omega
    have hwk := wrap_succ (k := k) (by show _ < 1000000000000; omega)
    obtain ⟨x0, x1⟩ := hw x (List.mem_of_getElem? gx)
    obtain ⟨r, g1, g2, g3, g4, g5⟩ := C.step s0 s1 x0 x1
    rw [drop_some gx, List.foldl_cons] at hq
    simp only [PP, P1, P2, P3, P4, P5, P6, P7, P8, P9, P10, P11, P12, P13, P14, L1, P15, N1, N2, N3, N4, N5, N6, N7, I1, I2, I3, I4, I5, I6, I7, reduceIte, reduceCtorEq, c, gx, k0, s0, s1, g1, x0, g3, g2, hwk]
    exact SemW_weak (ih (k + 1) _ ⟨by omega, g4, g5, hq⟩ (by omega)) (by simp only [PW])
  · rw [List.drop_eq_nil_of_le (by omega)] at hq
    simp only [PP, P1, P2, P3, P4, P5, P6, P7, P8, P9, P10, P11, P12, P13, P14, L1, P15, N1, N2, N3, N4, N5, N6, N7, I1, I2, I3, I4, I5, I6, I7, reduceIte, reduceCtorEq, c, List.foldl_nil] at hq ⊢
    exact hq
theorem run1_p {M : Mem} {K : PV → Mem → Prop} {f1 o1 f2 o2 f3 o3 : Bool} {D : DF} {x : Int} (v0 : ¬ D.vs < 0) (v6 : ¬ 6 < D.vs) (hx : 0 ≤ x ∧ x ≤ 255) (hk : K (.bool (decide (2 ^ D.vs.toNat ≤ x))) M) :
    SemC tab 51 [p8 x, .cp (dfC f1 o1 f2 o2 f3 o3 D) 0] M K := by
  refine SemC_pure T.h51 (by simp only [PP, P1, P2, P3, P4, P5, P6, P7, P8, P9, P10, P11, P12, P13, P14, L1, P15, N1, N2, N3, N4, N5, N6, N7, I1, I2, I3, I4, I5, I6, I7, reduceIte, reduceCtorEq, PV.under]) ?_
  have w1 : IntKind.i64.wrap x = x := wrap64 (by omega) (by omega)
  simp only [af51, PP, P1, P2, P3, P4, P5, P6, P7, P8, P9, P10, P11, P12, P13, P14, L1, P15, N1, N2, N3, N4, N5, N6, N7, I1, I2, I3, I4, I5, I6, I7, reduceIte, reduceCtorEq, w1, shl_one v0 v6]
  exact hk
theorem drun_p {M : Mem} {K : PV → Mem → Prop} {f1 o1 f2 o2 f3 o3 f4 o4 : Bool} {D : DF} {w : List Int} (B : BnD D) (hw : ∀ x ∈ w, 0 ≤ x ∧ x ≤ 255) (hl : w.length < 1000000000000)
    (hk : K (.tuple [p64 (if errD D w = 0 then runD D w else 0), p64 (errD D w)]) M) :
    SemC tab 19 [.agg (dfC f1 o1 f2 o2 f3 o3 D), slI f4 o4 .u8 w] M K := by
  refine SemC_pureS T.h19 (by simp only [PP, P1, P2, P3, P4, P5, P6, P7, P8, P9, P10, P11, P12, P13, P14, L1, P15, N1, N2, N3, N4, N5, N6, N7, I1, I2, I3, I4, I5, I6, I7, reduceIte, reduceCtorEq]) ?_
  simp only [af19]
  refine SemW_seq (SemW_of ?_)
  simp only [PP, P1, P2, P3, P4, P5, P6, P7, P8, P9, P10, P11, P12, P13, P14, L1, P15, N1, N2, N3, N4, N5, N6, N7, I1, I2, I3, I4, I5, I6, I7, reduceIte, reduceCtorEq]
  refine SemW_re (GStep.freezeP (b := [.junk, slI f4 o4 .u8 w, .cp (dfC f1 o1 f2 o2 f3 o3 D) 0, .junk, p64 0, p64 0, .junk, .junk, .junk, .junk, .junk, .junk, .junk, .junk, .junk, .junk, .junk, .junk, .junk, .junk, .junk, .junk, .junk, .junk, .junk, .junk, .junk]) 0 (Nat.zero_le _) rfl (by simp only [PFrzP_nil, PFrzP_junk, PFrzP_same, PFrzP_ptr]) rfl) ?_
  refine SemW_of ?_
  simp only [PP, P1, P2, P3, P4, P5, P6, P7, P8, P9, P10, P11, P12, P13, P14, L1, P15, N1, N2, N3, N4, N5, N6, N7, I1, I2, I3, I4, I5, I6, I7, reduceIte, reduceCtorEq]
  refine dcheck_p T B ?_
  unfold errD at hk
  by_cases c : checkD D = 0
  rotate_left
  · rw [if_neg c, if_neg c] at hk
    simp only [PP, P1, P2, P3, P4, P5, P6, P7, P8, P9, P10, P11, P12, P13, P14, L1, P15, N1, N2, N3, N4, N5, N6, N7, I1, I2, I3, I4, I5, I6, I7, reduceIte, reduceCtorEq, c]
    exact hk
  rw [if_pos c] at hk
  simp only [PP, P1, P2, P3, P4, P5, P6, P7, P8, P9, P10, P11, P12, P13, P14, L1, P15, N1, N2, N3, N4, N5, N6, N7, I1, I2, I3, I4, I5, I6, I7, reduceIte, reduceCtorEq, c]
  have C := okD_iff.1 c
  refine QIf.intro (fun d => ?_) (fun d => ?_)
  · have e4 : wordE D.vs w = 4 := by unfold wordE; rw [if_pos d]
    rw [e4] at hk
    simp only [PP, P1, P2, P3, P4, P5, P6, P7, P8, P9, P10, P11, P12, P13, P14, L1, P15, N1, N2, N3, N4, N5, N6, N7, I1, I2, I3, I4, I5, I6, I7, reduceIte, reduceCtorEq, d] at hk ⊢
    exact hk
  simp only [PP, P1, P2, P3, P4, P5, P6, P7, P8, P9, P10, P11, P12, P13, P14, L1, P15, N1, N2, N3, N4, N5, N6, N7, I1, I2, I3, I4, I5, I6, I7, reduceIte, reduceCtorEq, d]
  have v0 : ¬ D.vs < 0 := by have := C.v0; omega
  have v6 : ¬ 6 < D.vs := by have := C.v6; omega
  refine cont8_p T (F := fun x => decide (2 ^ D.vs.toNat ≤ x)) hl (by simp only [PP, P1, P2, P3, P4, P5, P6, P7, P8, P9, P10, P11, P12, P13, P14, L1, P15, N1, N2, N3, N4, N5, N6, N7, I1, I2, I3, I4, I5, I6, I7, reduceIte, reduceCtorEq, PV.under]) (fun x hx M' K' hK' => run1_p T v0 v6 (hw x hx) hK') (fun h => ?_) (fun ⟨x, hx, hF⟩ => ?_)
  · have e0 : wordE D.vs w = 0 := by
      unfold wordE
      rw [if_neg d, if_neg (by rw [Bool.not_eq_true, List.any_eq_false]; intro x hx; rw [h x hx]; decide)]
    rw [e0] at hk
    simp only [PP, P1, P2, P3, P4, P5, P6, P7, P8, P9, P10, P11, P12, P13, P14, L1, P15, N1, N2, N3, N4, N5, N6, N7, I1, I2, I3, I4, I5, I6, I7, reduceIte, reduceCtorEq] at hk ⊢
    exact mrun_p T C hl (fun x hx => ⟨(hw x hx).1, (wordE_zero e0).2 x hx⟩) (by simp only [PP, P1, P2, P3, P4, P5, P6, P7, P8, P9, P10, P11, P12, P13, P14, L1, P15, N1, N2, N3, N4, N5, N6, N7, I1, I2, I3, I4, I5, I6, I7, reduceIte, reduceCtorEq]; exact hk)
  · have e1 : wordE D.vs w = 1 := by
      unfold wordE
      rw [if_neg d, if_pos (List.any_eq_true.2 ⟨x, hx, hF⟩)]
    rw [e1] at hk
    simp only [PP, P1, P2, P3, P4, P5, P6, P7, P8, P9, P10, P11, P12, P13, P14, L1, P15, N1, N2, N3, N4, N5, N6, N7, I1, I2, I3, I4, I5, I6, I7, reduceIte, reduceCtorEq] at hk ⊢
    exact hk
end
end Go.Am.Ar
set_option linter.unusedVariables false
set_option linter.unusedSimpArgs false
set_option maxRecDepth 10000
namespace Go.Am.Ar
open Go.Am renaming pchk → P1, pold → P2, PKNo → P3, ppack → P4, PObj.under → P5, pput → P6, ptset → P7, ptget → P8, pev → P9, ofAV → P10, ofAV1 → P11, ppad → P12, pfill → P13, prepl → P14, AO.effect → P15
open List renaming replicate → L1
open Nat renaming reduceAdd → N1, reduceSub → N2, reduceMul → N3, reduceLT → N4, reduceLeDiff → N5, reduceEqDiff → N6, reduceBEq → N7
open Int renaming reduceToNat → I1, reduceLT → I2, reduceLE → I3, reduceEq → I4, reduceAdd → I5, reduceSub → I6, reduceNeg → I7
theorem DF.ext' {D D' : DF} (h1 : D.vs = D'.vs) (h2 : D.st = D'.st) (h3 : D.nx = D'.nx) (h4 : D.fi = D'.fi) : D = D' := by
  cases D; cases D'; simp_all
theorem errD_zero {D : DF} {w : List Int} (h : errD D w = 0) : OkD D ∧ wordE D.vs w = 0 := by
  unfold errD at h
  by_cases c : checkD D = 0
  · rw [if_pos c] at h; exact ⟨okD_iff.1 c, h⟩
  · rw [if_neg c] at h; exact absurd h c
theorem errD_fin {D : DF} {w : List Int} (h : errD D w = 0) (hw : ∀ x ∈ w, 0 ≤ x ∧ x ≤ 255) : (0 ≤ runD D w ∧ runD D w < D.nx.length) ∧ D.fi[(runD D w).toNat]? = some (fiD D (runD D w)) ∧ runD D w < D.fi.length := by
  obtain ⟨C, e0⟩ := errD_zero h
  have hr := C.run w (fun x hx => ⟨(hw x hx).1, (wordE_zero e0).2 x hx⟩) D.st C.s0 C.s1
  exact ⟨hr, C.fin hr.1 hr.2⟩
section
variable {tab : FuncId → Option AF} (T : HasA tab)
include T
theorem dacc_p {M : Mem} {K : PV → Mem → Prop} {f1 o1 f2 o2 f3 o3 f4 o4 : Bool} {D : DF} {w : List Int} (B : BnD D) (hw : ∀ x ∈ w, 0 ≤ x ∧ x ≤ 255) (hl : w.length < 1000000000000)
    (hk : K (.tuple [.bool (accD D w), p64 (errD D w)]) M) :
    SemC tab 20 [.agg (dfC f1 o1 f2 o2 f3 o3 D), slI f4 o4 .u8 w] M K := by
  refine SemC_pure T.h20 (by simp only [PP, P1, P2, P3, P4, P5, P6, P7, P8, P9, P10, P11, P12, P13, P14, L1, P15, N1, N2, N3, N4, N5, N6, N7, I1, I2, I3, I4, I5, I6, I7, reduceIte, reduceCtorEq]) ?_
  simp only [af20, PP, P1, P2, P3, P4, P5, P6, P7, P8, P9, P10, P11, P12, P13, P14, L1, P15, N1, N2, N3, N4, N5, N6, N7, I1, I2, I3, I4, I5, I6, I7, reduceIte, reduceCtorEq]
  refine drun_p T B hw hl ?_
  simp only [PP, P1, P2, P3, P4, P5, P6, P7, P8, P9, P10, P11, P12, P13, P14, L1, P15, N1, N2, N3, N4, N5, N6, N7, I1, I2, I3, I4, I5, I6, I7, reduceIte, reduceCtorEq]
  unfold accD at hk
  by_cases c : errD D w = 0
  · obtain ⟨⟨h1, h2⟩, h3, h4⟩ := errD_fin c hw
    rw [decide_eq_true c, c] at hk
    simp only [PP, P1, P2, P3, P4, P5, P6, P7, P8, P9, P10, P11, P12, P13, P14, L1, P15, N1, N2, N3, N4, N5, N6, N7, I1, I2, I3, I4, I5, I6, I7, reduceIte, reduceCtorEq, c, h1, h4, h3] at hk ⊢
    exact hk
  · rw [decide_eq_false c] at hk
    simp only [PP, P1, P2, P3, P4, P5, P6, P7, P8, P9, P10, P11, P12, P13, P14, L1, P15, N1, N2, N3, N4, N5, N6, N7, I1, I2, I3, I4, I5, I6, I7, reduceIte, reduceCtorEq, c] at hk ⊢
    exact hk
theorem copyB_p {M : Mem} {K : PV → Mem → Prop} {f o : Bool} {xs : List Bool} (hm : xs.length < big) (hk : K (slB false true xs) M) :
    SemC tab 48 [slB f o xs] M K := by
  refine SemC_pure T.h48 (by simp only [PP, P1, P2, P3, P4, P5, P6, P7, P8, P9, P10, P11, P12, P13, P14, L1, P15, N1, N2, N3, N4, N5, N6, N7, I1, I2, I3, I4, I5, I6, I7, reduceIte, reduceCtorEq]) ?_
  have hb : xs.length < 1000000000000 := hm
  have b1 : xs.length ≤ 140737488355328 := by omega
  have b2 : xs.length ≤ 9223372036854775807 := by omega
  simp only [af48, PP, P1, P2, P3, P4, P5, P6, P7, P8, P9, P10, P11, P12, P13, P14, L1, P15, N1, N2, N3, N4, N5, N6, N7, I1, I2, I3, I4, I5, I6, I7, reduceIte, reduceCtorEq, b1, b2]
  exact hk
theorem copyD_p {M : Mem} {K : PV → Mem → Prop} {f1 o1 f2 o2 f3 o3 : Bool} {D : DF} (B : BnD D) (hk : K (.agg (dfC false true false true false true D)) M) :
    SemC tab 14 [.agg (dfC f1 o1 f2 o2 f3 o3 D)] M K := by
  refine SemC_pure T.h14 (by simp only [PP, P1, P2, P3, P4, P5, P6, P7, P8, P9, P10, P11, P12, P13, P14, L1, P15, N1, N2, N3, N4, N5, N6, N7, I1, I2, I3, I4, I5, I6, I7, reduceIte, reduceCtorEq]) ?_
  simp only [af14, PP, P1, P2, P3, P4, P5, P6, P7, P8, P9, P10, P11, P12, P13, P14, L1, P15, N1, N2, N3, N4, N5, N6, N7, I1, I2, I3, I4, I5, I6, I7, reduceIte, reduceCtorEq]
  refine copyRows_p T B.n B.r ?_
  simp only [PP, P1, P2, P3, P4, P5, P6, P7, P8, P9, P10, P11, P12, P13, P14, L1, P15, N1, N2, N3, N4, N5, N6, N7, I1, I2, I3, I4, I5, I6, I7, reduceIte, reduceCtorEq]
  refine copyB_p T B.f ?_
  simp only [PP, P1, P2, P3, P4, P5, P6, P7, P8, P9, P10, P11, P12, P13, P14, L1, P15, N1, N2, N3, N4, N5, N6, N7, I1, I2, I3, I4, I5, I6, I7, reduceIte, reduceCtorEq]
  exact hk
end
end Go.Am.Ar
set_option linter.unusedVariables false
set_option linter.unusedSimpArgs false
namespace Go.Am.Ar
theorem arg_ints {k : IntKind} {v : AV} {h : H} (hs : ShV (.slice (.int k)) v h) : ∃ (xs : List Int), RepV (wH h) (slI false false k xs) v ∧ xs.length ≤ 9223372036854775807 ∧ ∀ x ∈ xs, k.min ≤ x ∧ x ≤ k.max := by
  obtain ⟨avs, hs, rfl⟩ := hs
  obtain ⟨v, xs, rfl, p, q, r⟩ := sh_intsP hs
  exact ⟨xs, p, q, r⟩
theorem run_of_C {tab : FuncId → Option AF} {g : FuncId} {args : List AV} {h : H} (hc : C (lim tab) g args h fun v _ => v = .bool true) : ∃ n h', (run tab n).call g args h = some (.bool true, h') := by
  unfold C at hc
  obtain ⟨v, h', he, rfl⟩ := hc
  obtain ⟨n, hn⟩ := (lim_call_iff tab).1 he
  exact ⟨n, h', hn⟩
theorem shVs3 {A B D : Ty} {args : List AV} {h : H} (hs : ShVs [A, B, D] args h) : ∃ a b d, args = [a, b, d] ∧ ShV A a h ∧ ShV B b h ∧ ShV D d h := by
  match args, hs with
  | [a, b, d], ⟨h1, h2, h3, _⟩ => exact ⟨a, b, d, rfl, h1, h2, h3⟩
end Go.Am.Ar
set_option linter.unusedVariables false
set_option linter.unusedSimpArgs false
set_option maxRecDepth 10000
namespace Go.Am.Ar
open Go.Am renaming pchk → P1, pold → P2, PKNo → P3, ppack → P4, PObj.under → P5, pput → P6, ptset → P7, ptget → P8, pev → P9, ofAV → P10, ofAV1 → P11, ppad → P12, pfill → P13, prepl → P14, AO.effect → P15
open List renaming replicate → L1
open Nat renaming reduceAdd → N1, reduceSub → N2, reduceMul → N3, reduceLT → N4, reduceLeDiff → N5, reduceEqDiff → N6, reduceBEq → N7
open Int renaming reduceToNat → I1, reduceLT → I2, reduceLE → I3, reduceEq → I4, reduceAdd → I5, reduceSub → I6, reduceNeg → I7
section
variable {tab : FuncId → Option AF} (T : HasA tab)
include T
end
end Go.Am.Ar
set_option linter.unusedVariables false
set_option linter.unusedSimpArgs false
set_option maxRecDepth 10000
namespace Go.Am.Ar
open Go.Am renaming pchk → P1, pold → P2, PKNo → P3, ppack → P4, PObj.under → P5, pput → P6, ptset → P7, ptget → P8, pev → P9, ofAV → P10, ofAV1 → P11, ppad → P12, pfill → P13, prepl → P14, AO.effect → P15
open List renaming replicate → L1
open Nat renaming reduceAdd → N1, reduceSub → N2, reduceMul → N3, reduceLT → N4, reduceLeDiff → N5, reduceEqDiff → N6, reduceBEq → N7
open Int renaming reduceToNat → I1, reduceLT → I2, reduceLE → I3, reduceEq → I4, reduceAdd → I5, reduceSub → I6, reduceNeg → I7
section
variable {tab : FuncId → Option AF} (T : HasA tab)
include T
end
end Go.Am.Ar
set_option linter.unusedVariables false
set_option linter.unusedSimpArgs false
set_option maxRecDepth 10000
namespace Go.Am.Ar
open Go.Am renaming pchk → P1, pold → P2, PKNo → P3, ppack → P4, PObj.under → P5, pput → P6, ptset → P7, ptget → P8, pev → P9, ofAV → P10, ofAV1 → P11, ppad → P12, pfill → P13, prepl → P14, AO.effect → P15
open List renaming replicate → L1
open Nat renaming reduceAdd → N1, reduceSub → N2, reduceMul → N3, reduceLT → N4, reduceLeDiff → N5, reduceEqDiff → N6, reduceBEq → N7
open Int renaming reduceToNat → I1, reduceLT → I2, reduceLE → I3, reduceEq → I4, reduceAdd → I5, reduceSub → I6, reduceNeg → I7
section
variable {tab : FuncId → Option AF} (T : HasA tab)
include T
end
end Go.Am.Ar
set_option linter.unusedVariables false
set_option linter.unusedSimpArgs false
set_option maxRecDepth 10000
namespace Go.Am.Ar
open Go.Am renaming pchk → P1, pold → P2, PKNo → P3, ppack → P4, PObj.under → P5, pput → P6, ptset → P7, ptget → P8, pev → P9, ofAV → P10, ofAV1 → P11, ppad → P12, pfill → P13, prepl → P14, AO.effect → P15
open List renaming replicate → L1
open Nat renaming reduceAdd → N1, reduceSub → N2, reduceMul → N3, reduceLT → N4, reduceLeDiff → N5, reduceEqDiff → N6, reduceBEq → N7
open Int renaming reduceToNat → I1, reduceLT → I2, reduceLE → I3, reduceEq → I4, reduceAdd → I5, reduceSub → I6, reduceNeg → I7
section
variable {tab : FuncId → Option AF} (T : HasA tab)
include T
end
end Go.Am.Ar
set_option linter.unusedVariables false
namespace Go.Am.Ar
section
variable {N : NF} {rs0 rs : List (List Bool)} {ch : Bool} {done done' : Nat → Nat → Prop} {p q : Nat}
end
end Go.Am.Ar
set_option linter.unusedVariables false
set_option linter.unusedSimpArgs false
set_option maxRecDepth 10000
namespace Go.Am.Ar
open Go.Am renaming pchk → P1, pold → P2, PKNo → P3, ppack → P4, PObj.under → P5, pput → P6, ptset → P7, ptget → P8, pev → P9, ofAV → P10, ofAV1 → P11, ppad → P12, pfill → P13, prepl → P14, AO.effect → P15
open List renaming replicate → L1
open Nat renaming reduceAdd → N1, reduceSub → N2, reduceMul → N3, reduceLT → N4, reduceLeDiff → N5, reduceEqDiff → N6, reduceBEq → N7
open Int renaming reduceToNat → I1, reduceLT → I2, reduceLE → I3, reduceEq → I4, reduceAdd → I5, reduceSub → I6, reduceNeg → I7
section
variable {tab : FuncId → Option AF} (T : HasA tab)
include T
end
end Go.Am.Ar
set_option linter.unusedVariables false
set_option linter.unusedSimpArgs false
set_option maxRecDepth 10000
namespace Go.Am.Ar
open Go.Am renaming pchk → P1, pold → P2, PKNo → P3, ppack → P4, PObj.under → P5, pput → P6, ptset → P7, ptget → P8, pev → P9, ofAV → P10, ofAV1 → P11, ppad → P12, pfill → P13, prepl → P14, AO.effect → P15
open List renaming replicate → L1
open Nat renaming reduceAdd → N1, reduceSub → N2, reduceMul → N3, reduceLT → N4, reduceLeDiff → N5, reduceEqDiff → N6, reduceBEq → N7
open Int renaming reduceToNat → I1, reduceLT → I2, reduceLE → I3, reduceEq → I4, reduceAdd → I5, reduceSub → I6, reduceNeg → I7
section
variable {tab : FuncId → Option AF} (T : HasA tab)
include T
end
end Go.Am.Ar
set_option linter.unusedVariables false
set_option linter.unusedSimpArgs false
set_option maxRecDepth 10000
namespace Go.Am.Ar
open Go.Am renaming pchk → P1, pold → P2, PKNo → P3, ppack → P4, PObj.under → P5, pput → P6, ptset → P7, ptget → P8, pev → P9, ofAV → P10, ofAV1 → P11, ppad → P12, pfill → P13, prepl → P14, AO.effect → P15
open List renaming replicate → L1
open Nat renaming reduceAdd → N1, reduceSub → N2, reduceMul → N3, reduceLT → N4, reduceLeDiff → N5, reduceEqDiff → N6, reduceBEq → N7
open Int renaming reduceToNat → I1, reduceLT → I2, reduceLE → I3, reduceEq → I4, reduceAdd → I5, reduceSub → I6, reduceNeg → I7
section
variable {tab : FuncId → Option AF} (T : HasA tab)
include T
end
end Go.Am.Ar
set_option linter.unusedVariables false
set_option linter.unusedSimpArgs false
set_option maxRecDepth 10000
namespace Go.Am.Ar
open Go.Am renaming pchk → P1, pold → P2, PKNo → P3, ppack → P4, PObj.under → P5, pput → P6, ptset → P7, ptget → P8, pev → P9, ofAV → P10, ofAV1 → P11, ppad → P12, pfill → P13, prepl → P14, AO.effect → P15
open List renaming replicate → L1
open Nat renaming reduceAdd → N1, reduceSub → N2, reduceMul → N3, reduceLT → N4, reduceLeDiff → N5, reduceEqDiff → N6, reduceBEq → N7
open Int renaming reduceToNat → I1, reduceLT → I2, reduceLE → I3, reduceEq → I4, reduceAdd → I5, reduceSub → I6, reduceNeg → I7
section
variable {tab : FuncId → Option AF} (T : HasA tab)
include T
end
end Go.Am.Ar
set_option linter.unusedVariables false
set_option linter.unusedSimpArgs false
set_option maxRecDepth 10000
namespace Go.Am.Ar
open Go.Am renaming pchk → P1, pold → P2, PKNo → P3, ppack → P4, PObj.under → P5, pput → P6, ptset → P7, ptget → P8, pev → P9, ofAV → P10, ofAV1 → P11, ppad → P12, pfill → P13, prepl → P14, AO.effect → P15
open List renaming replicate → L1
open Nat renaming reduceAdd → N1, reduceSub → N2, reduceMul → N3, reduceLT → N4, reduceLeDiff → N5, reduceEqDiff → N6, reduceBEq → N7
open Int renaming reduceToNat → I1, reduceLT → I2, reduceLE → I3, reduceEq → I4, reduceAdd → I5, reduceSub → I6, reduceNeg → I7
theorem sh_boolsP {cs : List AV} {h : H} (hs : Sh (.slice .bool) cs h) : ∃ v, ∃ xs : List Bool, cs = [v] ∧ RepV (wH h) (slB false false xs) v ∧ xs.length ≤ 9223372036854775807 := by
  obtain ⟨v, cells, rfl, h1, h2, h3⟩ := sh_sl rfl hs
  have : ∀ cells : List AV, (∀ c ∈ cells, Sh .bool [c] h) → ∃ xs : List Bool, cells = xs.map AV.bool := by
    intro cells
    induction cells with
    | nil => intro _; exact ⟨[], rfl⟩
    | cons c cells ih =>
      intro hc
      obtain ⟨xs, e⟩ := ih (fun c' h' => hc c' (List.mem_cons_of_mem _ h'))
      obtain ⟨b, e1⟩ := hc c (by simp)
      cases e1
      exact ⟨b :: xs, by simp [e]⟩
  obtain ⟨xs, rfl⟩ := this cells h2
  refine ⟨v, xs, rfl, ?_, by simpa using h1⟩
  have := h3 (xs.map PV.bool) ⟨by simp, fun i y z p q => by
    rw [List.getElem?_map] at p q
    cases hx : xs[i]? with
    | none => rw [hx] at p; cases p
    | some x => rw [hx] at p q; cases p; cases q; exact .bool x⟩
  simpa using this
section
variable {tab : FuncId → Option AF} (T : HasA tab)
include T
end
end Go.Am.Ar
set_option linter.unusedVariables false
set_option linter.unusedSimpArgs false
set_option maxRecDepth 10000
namespace Go.Am.Ar
open Go.Am renaming pchk → P1, pold → P2, PKNo → P3, ppack → P4, PObj.under → P5, pput → P6, ptset → P7, ptget → P8, pev → P9, ofAV → P10, ofAV1 → P11, ppad → P12, pfill → P13, prepl → P14, AO.effect → P15
open List renaming replicate → L1
open Nat renaming reduceAdd → N1, reduceSub → N2, reduceMul → N3, reduceLT → N4, reduceLeDiff → N5, reduceEqDiff → N6, reduceBEq → N7
open Int renaming reduceToNat → I1, reduceLT → I2, reduceLE → I3, reduceEq → I4, reduceAdd → I5, reduceSub → I6, reduceNeg → I7
abbrev dfaTy : Ty := .pair (.int .i64) (.pair (.int .i64) (.pair (.slice (.slice (.int .i64))) (.pair (.slice .bool) .unit)))
structure NumD (D : DF) : Prop where
  v : -9223372036854775808 ≤ D.vs ∧ D.vs ≤ 9223372036854775807
  s : -9223372036854775808 ≤ D.st ∧ D.st ≤ 9223372036854775807
  l : D.nx.length ≤ 9223372036854775807
  r : ∀ r ∈ D.nx, r.length ≤ 9223372036854775807 ∧ ∀ x ∈ r, -9223372036854775808 ≤ x ∧ x ≤ 9223372036854775807
  f : D.fi.length ≤ 9223372036854775807
theorem arg_dfa {v : AV} {h : H} (hs : ShV dfaTy v h) : ∃ D : DF, RepV (wH h) (.agg (dfC false false false false false false D)) v ∧ NumD D := by
  obtain ⟨avs, hs, rfl⟩ := hs
  obtain ⟨c1, c2, rfl, ⟨a, rfl, a1, a2⟩, c3, c4, rfl, ⟨b, rfl, b1, b2⟩, c5, c6, rfl, h3, c7, c8, rfl, h4, h6⟩ := hs
  have h6 : c8 = [] := h6
  subst h6
  obtain ⟨vo, nx, rfl, p1, q1, r1⟩ := sh_rowsP h3
  obtain ⟨vp, fi, rfl, p2, q2⟩ := sh_boolsP h4
  refine ⟨⟨a, b, nx, fi⟩, ?_, ⟨⟨a1, a2⟩, ⟨b1, b2⟩, q1, r1, q2⟩⟩
  have := RepL.cons (.int .i64 a) (.cons (.int .i64 b) (.cons p1 (.cons p2 (.nil (wH h)))))
  exact .agg this.len this.get
def longD (D : DF) : Bool := decide (40 < D.nx.length) || decide (40 < D.fi.length) || D.nx.any fun r => decide (100 < r.length)
theorem longD_ok {D : DF} (h : longD D = false) : D.nx.length ≤ 40 ∧ D.fi.length ≤ 40 ∧ ∀ r ∈ D.nx, r.length ≤ 100 := by
  simp only [longD, Bool.or_eq_false_iff, decide_eq_false_iff_not, List.any_eq_false] at h
  exact ⟨by omega, by omega, fun r hr => by have := h.2 r hr; simp only [decide_eq_true_eq] at this; omega⟩
theorem longD_bn {D : DF} (h : longD D = false) : BnD D := by
  obtain ⟨h1, h2, h3⟩ := longD_ok h
  exact ⟨by show _ < 1000000000000; omega, fun r hr => by show _ < 1000000000000; have := h3 r hr; omega, by show _ < 1000000000000; omega⟩
section
variable {tab : FuncId → Option AF} (T : HasA tab)
include T
theorem longD_p {M : Mem} {K : PV → Mem → Prop} {f1 o1 f2 o2 f3 o3 : Bool} {D : DF} (hk : K (.bool (longD D)) M) :
    SemC tab 12 [.sl true true 4 1 (dfC f1 o1 f2 o2 f3 o3 D)] M K := by
  refine SemC_pure T.h12 (by simp only [PP, P1, P2, P3, P4, P5, P6, P7, P8, P9, P10, P11, P12, P13, P14, L1, P15, N1, N2, N3, N4, N5, N6, N7, I1, I2, I3, I4, I5, I6, I7, reduceIte, reduceCtorEq, PV.under]) ?_
  simp only [af12, PP, P1, P2, P3, P4, P5, P6, P7, P8, P9, P10, P11, P12, P13, P14, L1, P15, N1, N2, N3, N4, N5, N6, N7, I1, I2, I3, I4, I5, I6, I7, reduceIte, reduceCtorEq]
  refine loop1 (fun (k : Nat) => k = 0 ∨ (k = 1 ∧ longD D = false)) (fun k => [.sl true true 4 1 (dfC f1 o1 f2 o2 f3 o3 D), .junk, .junk, p64 k, .junk, .junk, .junk, .junk, .junk, .junk, .junk, .junk, .junk, .junk, .junk, .junk, .junk, .junk, .junk, .junk, .junk, .junk, .junk, .junk, .junk, .junk, .junk, .junk, .junk, .junk, .junk, .junk, .junk, .junk, .junk, .junk, .junk, .junk, .junk, .junk, .junk, .junk, .junk, .junk, .junk, .junk, .junk]) (fun _ => []) (fun k => 1 - k) 0 (.inl rfl) (by simp only [PW]) rfl ?_
  intro k hk1 ih
  rcases hk1 with rfl | ⟨rfl, hf⟩
  · have w1 : IntKind.i64.wrap 1 = 1 := rfl
    have tr : longD D = true → K (.bool true) M := fun h => by rw [h] at hk; exact hk
    refine SemW_go (by kernel_rfl) ?_
    simp only [PP, P1, P2, P3, P4, P5, P6, P7, P8, P9, P10, P11, P12, P13, P14, L1, P15, N1, N2, N3, N4, N5, N6, N7, I1, I2, I3, I4, I5, I6, I7, reduceIte, reduceCtorEq]
    refine QIf.intro (fun c1 => ?_) (fun c1 => ?_)
    · simp only [PP, P1, P2, P3, P4, P5, P6, P7, P8, P9, P10, P11, P12, P13, P14, L1, P15, N1, N2, N3, N4, N5, N6, N7, I1, I2, I3, I4, I5, I6, I7, reduceIte, reduceCtorEq, c1]
      exact tr (by simp only [longD, Bool.or_eq_true, decide_eq_true_eq]; omega)
    simp only [PP, P1, P2, P3, P4, P5, P6, P7, P8, P9, P10, P11, P12, P13, P14, L1, P15, N1, N2, N3, N4, N5, N6, N7, I1, I2, I3, I4, I5, I6, I7, reduceIte, reduceCtorEq, c1]
    refine QIf.intro (fun c2 => ?_) (fun c2 => ?_)
    · simp only [PP, P1, P2, P3, P4, P5, P6, P7, P8, P9, P10, P11, P12, P13, P14, L1, P15, N1, N2, N3, N4, N5, N6, N7, I1, I2, I3, I4, I5, I6, I7, reduceIte, reduceCtorEq, c2]
      exact tr (by simp only [longD, Bool.or_eq_true, decide_eq_true_eq]; omega)
    simp only [PP, P1, P2, P3, P4, P5, P6, P7, P8, P9, P10, P11, P12, P13, P14, L1, P15, N1, N2, N3, N4, N5, N6, N7, I1, I2, I3, I4, I5, I6, I7, reduceIte, reduceCtorEq, c2]
    refine loop1 (fun (j : Nat) => j ≤ D.nx.length ∧ (D.nx.drop j).any (fun r => decide (100 < r.length)) = D.nx.any (fun r => decide (100 < r.length))) (fun j => [.sl true true 4 1 (dfC f1 o1 f2 o2 f3 o3 D), .junk, .junk, p64 0, p64 j, .junk, .junk, .junk, .junk, .junk, .junk, .junk, .junk, .junk, .junk, .junk, .junk, .junk, .junk, .junk, .junk, .junk, .junk, .junk, .junk, .junk, .junk, .junk, .junk, .junk, .junk, .junk, .junk, .junk, .junk, .junk, .junk, .junk, .junk, .junk, .junk, .junk, .junk, .junk, .junk, .junk, .junk]) (fun _ => []) (fun j => D.nx.length - j) 0 ⟨by omega, rfl⟩ (by simp only [PW]) rfl ?_
    intro j ⟨jle, hj⟩ ih2
    refine SemW_go (by kernel_rfl) ?_
    simp only [PP, P1, P2, P3, P4, P5, P6, P7, P8, P9, P10, P11, P12, P13, P14, L1, P15, N1, N2, N3, N4, N5, N6, N7, I1, I2, I3, I4, I5, I6, I7, reduceIte, reduceCtorEq]
    refine QIf.intro (fun c => ?_) (fun c => ?_)
    · have hj' : j < D.nx.length := by omega
      obtain ⟨r, g⟩ := some_of hj'
      have j0 : (0 : Int) ≤ j := by omega
      have hwk := wrap_succ (k := j) (by show _ < 1000000000000; omega)
      rw [drop_some g] at hj
      simp only [PP, P1, P2, P3, P4, P5, P6, P7, P8, P9, P10, P11, P12, P13, P14, L1, P15, N1, N2, N3, N4, N5, N6, N7, I1, I2, I3, I4, I5, I6, I7, reduceIte, reduceCtorEq, c, j0, g]
      refine QIf.intro (fun e => ?_) (fun e => ?_)
      · simp only [PP, P1, P2, P3, P4, P5, P6, P7, P8, P9, P10, P11, P12, P13, P14, L1, P15, N1, N2, N3, N4, N5, N6, N7, I1, I2, I3, I4, I5, I6, I7, reduceIte, reduceCtorEq, e]
        have hl : 100 < r.length := by omega
        exact tr (by simp only [longD, Bool.or_eq_true]; right; rw [← hj]; simp [hl])
      · simp only [PP, P1, P2, P3, P4, P5, P6, P7, P8, P9, P10, P11, P12, P13, P14, L1, P15, N1, N2, N3, N4, N5, N6, N7, I1, I2, I3, I4, I5, I6, I7, reduceIte, reduceCtorEq, e, hwk]
        have hl : ¬ 100 < r.length := by omega
        refine SemW_weak (ih2 (j + 1) ⟨by omega, ?_⟩ (by omega)) (by simp only [PW])
        rw [← hj]; simp [hl]
    · rw [List.drop_eq_nil_of_le (by omega)] at hj
      simp only [PP, P1, P2, P3, P4, P5, P6, P7, P8, P9, P10, P11, P12, P13, P14, L1, P15, N1, N2, N3, N4, N5, N6, N7, I1, I2, I3, I4, I5, I6, I7, reduceIte, reduceCtorEq, c, w1]
      refine SemW_weak (ih 1 (.inr ⟨rfl, ?_⟩) (by omega)) (by simp only [PW])
      simp only [longD, Bool.or_eq_false_iff, decide_eq_false_iff_not]
      exact ⟨⟨by omega, by omega⟩, by rw [← hj]; rfl⟩
  · refine SemW_go (by kernel_rfl) ?_
    rw [hf] at hk
    simp only [PP, P1, P2, P3, P4, P5, P6, P7, P8, P9, P10, P11, P12, P13, P14, L1, P15, N1, N2, N3, N4, N5, N6, N7, I1, I2, I3, I4, I5, I6, I7, reduceIte, reduceCtorEq]
    exact hk
end
end Go.Am.Ar
set_option linter.unusedVariables false
namespace Go.Am.Ar
end Go.Am.Ar
set_option linter.unusedVariables false
set_option linter.unusedSimpArgs false
set_option maxRecDepth 10000
namespace Go.Am.Ar
section
variable {tab : FuncId → Option AF} (T : HasA tab)
include T
end
end Go.Am.Ar
set_option linter.unusedVariables false
set_option linter.unusedSimpArgs false
set_option maxRecDepth 10000
namespace Go.Am.Ar
open Go.Am renaming pchk → P1, pold → P2, PKNo → P3, ppack → P4, PObj.under → P5, pput → P6, ptset → P7, ptget → P8, pev → P9, ofAV → P10, ofAV1 → P11, ppad → P12, pfill → P13, prepl → P14, AO.effect → P15
open List renaming replicate → L1
open Nat renaming reduceAdd → N1, reduceSub → N2, reduceMul → N3, reduceLT → N4, reduceLeDiff → N5, reduceEqDiff → N6, reduceBEq → N7
open Int renaming reduceToNat → I1, reduceLT → I2, reduceLE → I3, reduceEq → I4, reduceAdd → I5, reduceSub → I6, reduceNeg → I7
section
variable {tab : FuncId → Option AF} (T : HasA tab)
include T
end
end Go.Am.Ar

