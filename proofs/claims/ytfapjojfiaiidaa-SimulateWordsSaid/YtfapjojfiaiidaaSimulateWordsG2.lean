/- Contracts: words are valid, automata run, automata accept, and what goes with it. -/
import Derived.Test.YtfapjojfiaiidaaSimulateWordsG1
import Derived.Test.YtfapjojfiaiidaaSimulateWordsG0
import Derived.Test.YtfapjojfiaiidaaPmL
set_option linter.unusedVariables false
set_option linter.unusedSimpArgs false
set_option maxRecDepth 10000
namespace Go.Am.Ar
open Go.Am renaming pchk → P1, pold → P2, PKNo → P3, ppack → P4, PObj.under → P5, pput → P6, ptset → P7, ptget → P8, pev → P9, ofAV → P10, ofAV1 → P11, ppad → P12, pfill → P13, prepl → P14, AO.effect → P15
open List renaming replicate → L1
open Nat renaming reduceAdd → N1, reduceSub → N2, reduceMul → N3, reduceLT → N4, reduceLeDiff → N5, reduceEqDiff → N6, reduceBEq → N7
open Int renaming reduceToNat → I1, reduceLT → I2, reduceLE → I3, reduceEq → I4, reduceAdd → I5, reduceSub → I6, reduceNeg → I7
def wordE (vs : Int) (w : List Int) : Int := if 64 < (w.length : Int) then 4 else if w.any (fun x => decide (2 ^ vs.toNat ≤ x)) = true then 1 else 0
def runP (N : NF) (S : Nat → Prop) (w : List Int) : Nat → Prop := w.foldl (fun S x k => ∃ e ∈ matE N.es x.toNat, S e.fr.toNat ∧ e.to = (k : Int)) S
def accE (N : NF) (w : List Int) : Int := if checkN N = 0 then wordE N.vs w else checkN N
def accP (N : NF) (w : List Int) : Prop := ∃ k : Nat, runP N (fun k => (k : Int) ∈ N.st) w k ∧ (k : Int) ∈ N.fi
def AccA (N : NF) (w : List Int) (b : Bool) (e : Int) : Prop := e = accE N w ∧ (b = true ↔ accE N w = 0 ∧ accP N w)
theorem runP_snoc (N : NF) (S : Nat → Prop) (w : List Int) (x : Int) (k : Nat) : runP N S (w ++ [x]) k = ∃ e ∈ matE N.es x.toNat, runP N S w e.fr.toNat ∧ e.to = (k : Int) := by
  unfold runP; rw [List.foldl_append]; rfl
theorem inter_bits {a b : Wd} (ha : a.length ≤ 64) (hb : b.length ≤ 64) : 0 < (cmb (fun x y => x &&& y) a b).length ↔ ∃ k, bit a k = true ∧ bit b k = true := by
  rw [Nat.pos_iff_ne_zero, ne_eq, cmb_nil]
  constructor
  · intro h
    refine Classical.byContradiction fun q => h fun k => ?_
    rw [bit_cmb_and ha hb]
    cases h1 : bit a k <;> cases h2 : bit b k <;> first | rfl | exact absurd ⟨k, h1, h2⟩ q
  · rintro ⟨k, h1, h2⟩ h
    have := h k
    rw [bit_cmb_and ha hb, h1, h2] at this
    cases this
section
variable {tab : FuncId → Option AF} (T : HasA tab)
include T
theorem idx8_p {M : Mem} {K : PV → Mem → Prop} {f o : Bool} {xs : List Int} {g : FuncId} {cap : List PV} {F : Int → Bool} (hm : xs.length < 1000000000000) (hu : underL 0 cap = true)
    (hf : ∀ x ∈ xs, ∀ (M' : Mem) (K' : PV → Mem → Prop), K' (.bool (F x)) M' → SemC tab g (p8 x :: cap) M' K')
    (hk1 : (∀ x ∈ xs, F x = false) → K (p64 (-1)) M) (hk2 : ∀ (k : Nat) (x : Int), x ∈ xs → F x = true → K (p64 k) M) :
    SemC tab 119 [slI f o .u8 xs, .func (.func g) [] cap] M K := by
  refine SemC_pure T.h119 (by simp only [PP, P1, P2, P3, P4, P5, P6, P7, P8, P9, P10, P11, P12, P13, P14, L1, P15, N1, N2, N3, N4, N5, N6, N7, I1, I2, I3, I4, I5, I6, I7, reduceIte, reduceCtorEq, PV.under, hu]) ?_
  simp only [af119, PP, P1, P2, P3, P4, P5, P6, P7, P8, P9, P10, P11, P12, P13, P14, L1, P15, N1, N2, N3, N4, N5, N6, N7, I1, I2, I3, I4, I5, I6, I7, reduceIte, reduceCtorEq]
  refine loop1 (fun (k : Nat) => k ≤ xs.length ∧ ∀ j, j < k → ∀ x, xs[j]? = some x → F x = false) (fun k => [slI f o .u8 xs, .func (.func g) [] cap, .junk, .junk, .junk, .junk, .junk, p64 xs.length, p64 k, .junk, .junk, .junk, .junk, .junk, .junk, .junk, .junk, .junk, .junk])
    (fun k => []) (fun k => xs.length - k) 0 ⟨by omega, by intro j h; omega⟩ (by simp only [PWeak_nil, PWeak_junk, PWeak_same, Int.cast_ofNat_Int, List.length_append, List.length_cons, List.length_nil, Nat.zero_add]) rfl ?_
  intro k ⟨hle, hd⟩ ih
  refine SemW_go (by kernel_rfl) ?_
  simp only [PP, P1, P2, P3, P4, P5, P6, P7, P8, P9, P10, P11, P12, P13, P14, L1, P15, N1, N2, N3, N4, N5, N6, N7, I1, I2, I3, I4, I5, I6, I7, reduceIte, reduceCtorEq]
  refine QIf.intro (fun c => ?_) (fun c => ?_)
  · have hk' : k < xs.length := by omega
    have k0 : (0 : Int) ≤ k := by omega
    have hwk := wrap_succ (k := k) (by show _ < 1000000000000; omega)
    obtain ⟨x, gx⟩ := some_of (xs := xs) (k := k) hk'
    simp only [PP, P1, P2, P3, P4, P5, P6, P7, P8, P9, P10, P11, P12, P13, P14, L1, P15, N1, N2, N3, N4, N5, N6, N7, I1, I2, I3, I4, I5, I6, I7, reduceIte, reduceCtorEq, c, k0, gx]
    refine hf x (List.mem_of_getElem? gx) _ _ ?_
    cases hF : F x with
    | true =>
      simp only [PP, P1, P2, P3, P4, P5, P6, P7, P8, P9, P10, P11, P12, P13, P14, L1, P15, N1, N2, N3, N4, N5, N6, N7, I1, I2, I3, I4, I5, I6, I7, reduceIte, reduceCtorEq]
      exact hk2 k x (List.mem_of_getElem? gx) hF
    | false =>
      simp only [PP, P1, P2, P3, P4, P5, P6, P7, P8, P9, P10, P11, P12, P13, P14, L1, P15, N1, N2, N3, N4, N5, N6, N7, I1, I2, I3, I4, I5, I6, I7, reduceIte, reduceCtorEq, hwk]
      refine SemW_weak (ih (k + 1) ⟨by omega, fun j hj y gy => ?_⟩ (by omega)) (by simp only [PWeak_nil, PWeak_junk, PWeak_same, Int.cast_ofNat_Int, List.length_append, List.length_cons, List.length_nil, Nat.zero_add])
      by_cases e : j = k
      · subst e; rw [gx] at gy; cases gy; exact hF
      · exact hd j (by omega) y gy
  · simp only [PP, P1, P2, P3, P4, P5, P6, P7, P8, P9, P10, P11, P12, P13, P14, L1, P15, N1, N2, N3, N4, N5, N6, N7, I1, I2, I3, I4, I5, I6, I7, reduceIte, reduceCtorEq, c]
    exact hk1 fun x hx => by
      obtain ⟨j, hj⟩ := List.getElem?_of_mem hx
      exact hd j (by have := getSome_lt hj; omega) x hj
theorem cont8_p {M : Mem} {K : PV → Mem → Prop} {f o : Bool} {xs : List Int} {g : FuncId} {cap : List PV} {F : Int → Bool} (hm : xs.length < 1000000000000) (hu : underL 0 cap = true)
    (hf : ∀ x ∈ xs, ∀ (M' : Mem) (K' : PV → Mem → Prop), K' (.bool (F x)) M' → SemC tab g (p8 x :: cap) M' K')
    (hk1 : (∀ x ∈ xs, F x = false) → K (.bool false) M) (hk2 : (∃ x, x ∈ xs ∧ F x = true) → K (.bool true) M) :
    SemC tab 104 [slI f o .u8 xs, .func (.func g) [] cap] M K := by
  refine SemC_pure T.h104 (by simp only [PP, P1, P2, P3, P4, P5, P6, P7, P8, P9, P10, P11, P12, P13, P14, L1, P15, N1, N2, N3, N4, N5, N6, N7, I1, I2, I3, I4, I5, I6, I7, reduceIte, reduceCtorEq, PV.under, hu]) ?_
  simp only [af104, PP, P1, P2, P3, P4, P5, P6, P7, P8, P9, P10, P11, P12, P13, P14, L1, P15, N1, N2, N3, N4, N5, N6, N7, I1, I2, I3, I4, I5, I6, I7, reduceIte, reduceCtorEq]
  refine idx8_p T hm hu hf (fun h => ?_) (fun k x hx hF => ?_)
  · have e : ¬ (0 : Int) ≤ -1 := by omega
    simp only [PP, P1, P2, P3, P4, P5, P6, P7, P8, P9, P10, P11, P12, P13, P14, L1, P15, N1, N2, N3, N4, N5, N6, N7, I1, I2, I3, I4, I5, I6, I7, reduceIte, reduceCtorEq, e]
    exact hk1 h
  · have e : (0 : Int) ≤ k := by omega
    simp only [PP, P1, P2, P3, P4, P5, P6, P7, P8, P9, P10, P11, P12, P13, P14, L1, P15, N1, N2, N3, N4, N5, N6, N7, I1, I2, I3, I4, I5, I6, I7, reduceIte, reduceCtorEq, e]
    exact hk2 ⟨x, hx, hF⟩
theorem word1_p {M : Mem} {K : PV → Mem → Prop} {f1 o1 f2 o2 f3 o3 : Bool} {N : NF} {x : Int} (C : NOk N) (hx : 0 ≤ x ∧ x ≤ 255) (hk : K (.bool (decide (2 ^ N.vs.toNat ≤ x))) M) : SemC tab 105 [p8 x, .cp (nfC f1 o1 f2 o2 f3 o3 N) 0] M K := by
  refine SemC_pure T.h105 (by simp only [PP, P1, P2, P3, P4, P5, P6, P7, P8, P9, P10, P11, P12, P13, P14, L1, P15, N1, N2, N3, N4, N5, N6, N7, I1, I2, I3, I4, I5, I6, I7, reduceIte, reduceCtorEq, PV.under, egL_und]) ?_
  have v0 := C.v0
  have v6 := C.v6
  have w : IntKind.i64.wrap x = x := wrap64 (by omega) (by omega)
  have sh := pshl (v := N.vs) (by omega) (by omega)
  simp only [af105, PP, P1, P2, P3, P4, P5, P6, P7, P8, P9, P10, P11, P12, P13, P14, L1, P15, N1, N2, N3, N4, N5, N6, N7, I1, I2, I3, I4, I5, I6, I7, reduceIte, reduceCtorEq, w, sh]
  exact hk
theorem word_p {M : Mem} {K : PV → Mem → Prop} {f1 o1 f2 o2 f3 o3 f4 o4 : Bool} {N : NF} {w : List Int} (C : NOk N) (hw : ∀ x ∈ w, 0 ≤ x ∧ x ≤ 255) (hl : w.length < 1000000000000) (hk : K (p64 (wordE N.vs w)) M) :
    SemC tab 83 [.agg (nfC f1 o1 f2 o2 f3 o3 N), slI f4 o4 .u8 w] M K := by
  refine SemC_pureS T.h83 (by simp only [PP, P1, P2, P3, P4, P5, P6, P7, P8, P9, P10, P11, P12, P13, P14, L1, P15, N1, N2, N3, N4, N5, N6, N7, I1, I2, I3, I4, I5, I6, I7, reduceIte, reduceCtorEq, under_slE]) ?_
  simp only [af83]
  refine SemW_seq (SemW_of ?_)
  simp only [PP, P1, P2, P3, P4, P5, P6, P7, P8, P9, P10, P11, P12, P13, P14, L1, P15, N1, N2, N3, N4, N5, N6, N7, I1, I2, I3, I4, I5, I6, I7, reduceIte, reduceCtorEq]
  refine SemW_re (GStep.freezeP (b := [.junk, slI f4 o4 .u8 w, .cp (nfC f1 o1 f2 o2 f3 o3 N) 0, .junk, p64 0, .junk, .junk, .junk, .junk, .junk, .junk, .junk, .junk]) 0 (Nat.zero_le _) rfl (by simp only [PFrzP_nil, PFrzP_junk, PFrzP_same, PFrzP_ptr]) rfl) ?_
  refine SemW_of ?_
  simp only [PP, P1, P2, P3, P4, P5, P6, P7, P8, P9, P10, P11, P12, P13, P14, L1, P15, N1, N2, N3, N4, N5, N6, N7, I1, I2, I3, I4, I5, I6, I7, reduceIte, reduceCtorEq]
  unfold wordE at hk
  refine QIf.intro (fun c => ?_) (fun c => ?_)
  · rw [if_pos c] at hk
    simp only [PP, P1, P2, P3, P4, P5, P6, P7, P8, P9, P10, P11, P12, P13, P14, L1, P15, N1, N2, N3, N4, N5, N6, N7, I1, I2, I3, I4, I5, I6, I7, reduceIte, reduceCtorEq, c]
    exact hk
  rw [if_neg c] at hk
  simp only [PP, P1, P2, P3, P4, P5, P6, P7, P8, P9, P10, P11, P12, P13, P14, L1, P15, N1, N2, N3, N4, N5, N6, N7, I1, I2, I3, I4, I5, I6, I7, reduceIte, reduceCtorEq, c]
  refine cont8_p T (F := fun x => decide (2 ^ N.vs.toNat ≤ x)) hl (by simp only [PP, P1, P2, P3, P4, P5, P6, P7, P8, P9, P10, P11, P12, P13, P14, L1, P15, N1, N2, N3, N4, N5, N6, N7, I1, I2, I3, I4, I5, I6, I7, reduceIte, reduceCtorEq, PV.under, egL_und]) (fun x hx M' K' hK' => word1_p T C (hw x hx) hK') (fun h => ?_) (fun ⟨x, hx, hF⟩ => ?_)
  · rw [if_neg (by rw [Bool.not_eq_true, List.any_eq_false]; intro x hx; rw [h x hx]; decide)] at hk
    simp only [PP, P1, P2, P3, P4, P5, P6, P7, P8, P9, P10, P11, P12, P13, P14, L1, P15, N1, N2, N3, N4, N5, N6, N7, I1, I2, I3, I4, I5, I6, I7, reduceIte, reduceCtorEq]
    exact hk
  · rw [if_pos (List.any_eq_true.2 ⟨x, hx, hF⟩)] at hk
    simp only [PP, P1, P2, P3, P4, P5, P6, P7, P8, P9, P10, P11, P12, P13, P14, L1, P15, N1, N2, N3, N4, N5, N6, N7, I1, I2, I3, I4, I5, I6, I7, reduceIte, reduceCtorEq]
    exact hk
set_option maxHeartbeats 1000000 in
theorem run_p {M : Mem} {K : PV → Mem → Prop} {f1 o1 f2 o2 f3 o3 f4 o4 : Bool} {N : NF} {w : List Int} (B : BnN N) (hw : ∀ x ∈ w, 0 ≤ x ∧ x ≤ 255) (hl : w.length < 1000000000000) (hk1 : accE N w ≠ 0 → K (.tuple [.nils, p64 (accE N w)]) M)
    (hk2 : accE N w = 0 → ∀ o : Wd, o.length ≤ 64 → (∀ k, bit o k = true ↔ runP N (fun k => (k : Int) ∈ N.st) w k) → K (.tuple [slW false true o, p64 0]) M) :
    SemC tab 62 [.agg (nfC f1 o1 f2 o2 f3 o3 N), slI f4 o4 .u8 w] M K := by
  refine SemC_pure T.h62 (by simp only [PP, P1, P2, P3, P4, P5, P6, P7, P8, P9, P10, P11, P12, P13, P14, L1, P15, N1, N2, N3, N4, N5, N6, N7, I1, I2, I3, I4, I5, I6, I7, reduceIte, reduceCtorEq, under_slE]) ?_
  simp only [af62, PP, P1, P2, P3, P4, P5, P6, P7, P8, P9, P10, P11, P12, P13, P14, L1, P15, N1, N2, N3, N4, N5, N6, N7, I1, I2, I3, I4, I5, I6, I7, reduceIte, reduceCtorEq]
  refine check_p T B ?_
  unfold accE at hk1 hk2
  by_cases c : checkN N = 0
  rotate_left
  · rw [if_neg c] at hk1
    simp only [PP, P1, P2, P3, P4, P5, P6, P7, P8, P9, P10, P11, P12, P13, P14, L1, P15, N1, N2, N3, N4, N5, N6, N7, I1, I2, I3, I4, I5, I6, I7, reduceIte, reduceCtorEq, c]
    exact hk1 c
  rw [if_pos c] at hk1 hk2
  have C := nok_of c
  simp only [PP, P1, P2, P3, P4, P5, P6, P7, P8, P9, P10, P11, P12, P13, P14, L1, P15, N1, N2, N3, N4, N5, N6, N7, I1, I2, I3, I4, I5, I6, I7, reduceIte, reduceCtorEq, c]
  refine word_p T C hw hl ?_
  by_cases d : wordE N.vs w = 0
  rotate_left
  · simp only [PP, P1, P2, P3, P4, P5, P6, P7, P8, P9, P10, P11, P12, P13, P14, L1, P15, N1, N2, N3, N4, N5, N6, N7, I1, I2, I3, I4, I5, I6, I7, reduceIte, reduceCtorEq, d]
    exact hk1 d
  have hk3 := hk2 d
  obtain ⟨_, fs2, fs3⟩ := fa_ok C C.st
  simp only [PP, P1, P2, P3, P4, P5, P6, P7, P8, P9, P10, P11, P12, P13, P14, L1, P15, N1, N2, N3, N4, N5, N6, N7, I1, I2, I3, I4, I5, I6, I7, reduceIte, reduceCtorEq, d]
  refine ofF_p T C C.st ?_
  simp only [PP, P1, P2, P3, P4, P5, P6, P7, P8, P9, P10, P11, P12, P13, P14, L1, P15, N1, N2, N3, N4, N5, N6, N7, I1, I2, I3, I4, I5, I6, I7, reduceIte, reduceCtorEq]
  refine loop2 (fun (k : Nat) (s : Wd) => k ≤ w.length ∧ s.length ≤ 64 ∧ ∀ j, bit s j = true ↔ runP N (fun k => (k : Int) ∈ N.st) (w.take k) j) (fun k s => [.junk, .junk, .ptr 0 0 0, .junk, .junk, .junk, .junk, slW false true s, .junk, .junk, .junk, .junk, .junk, .junk, .junk, .junk, .junk, .junk, .junk, .junk, .junk, .junk, .junk, slI f4 o4 .u8 w, p64 w.length, p64 k, .junk, .junk, .junk, .junk, .junk, .junk, .junk, .junk, .junk]) (fun _ _ => [.cells 0 0 (nfC f1 o1 f2 o2 f3 o3 N)]) (fun k _ => w.length - k) 0 (faW N.st) ⟨by omega, fs2, fun j => by rw [fs3, decide_eq_true_eq]; exact Iff.rfl⟩ (by simp only [PWeak_nil, PWeak_junk, PWeak_same, Int.cast_ofNat_Int, List.length_append, List.length_cons, List.length_nil, Nat.zero_add]) rfl ?_
  intro k s ⟨hle, hs, hb⟩ ih
  refine SemW_go (by kernel_rfl) ?_
  simp only [PP, P1, P2, P3, P4, P5, P6, P7, P8, P9, P10, P11, P12, P13, P14, L1, P15, N1, N2, N3, N4, N5, N6, N7, I1, I2, I3, I4, I5, I6, I7, reduceIte, reduceCtorEq]
  refine QIf.intro (fun e => ?_) (fun e => ?_)
  · have hk' : k < w.length := by omega
    obtain ⟨x, gx⟩ := some_of hk'
    obtain ⟨x0, x1⟩ := hw x (List.mem_of_getElem? gx)
    have k0 : (0 : Int) ≤ k := by omega
    have hwk := wrap_succ (k := k) (by show _ < 1000000000000; omega)
    simp only [PP, P1, P2, P3, P4, P5, P6, P7, P8, P9, P10, P11, P12, P13, P14, L1, P15, N1, N2, N3, N4, N5, N6, N7, I1, I2, I3, I4, I5, I6, I7, reduceIte, reduceCtorEq, e, k0, gx]
    obtain ⟨xn, rfl⟩ : ∃ xn : Nat, x = xn := ⟨x.toNat, by omega⟩
    refine aft_p T C B hs (by omega) (fun o ho => ?_)
    simp only [PP, P1, P2, P3, P4, P5, P6, P7, P8, P9, P10, P11, P12, P13, P14, L1, P15, N1, N2, N3, N4, N5, N6, N7, I1, I2, I3, I4, I5, I6, I7, reduceIte, reduceCtorEq, hwk]
    refine SemW_weak (ih (k + 1) o ⟨by omega, ho.1, fun j => ?_⟩ (by omega)) (by simp only [PWeak_nil, PWeak_junk, PWeak_same, Int.cast_ofNat_Int, List.length_append, List.length_cons, List.length_nil, Nat.zero_add])
    rw [ho.2, List.take_add_one, gx]
    show _ ↔ runP N _ (_ ++ [(xn : Int)]) j
    rw [runP_snoc]
    simp only [hb]
    exact Iff.rfl
  · rw [List.take_of_length_le (by omega)] at hb
    simp only [PP, P1, P2, P3, P4, P5, P6, P7, P8, P9, P10, P11, P12, P13, P14, L1, P15, N1, N2, N3, N4, N5, N6, N7, I1, I2, I3, I4, I5, I6, I7, reduceIte, reduceCtorEq, e]
    exact hk3 s hs hb
theorem accepts_p {M : Mem} {K : PV → Mem → Prop} {f1 o1 f2 o2 f3 o3 f4 o4 : Bool} {N : NF} {w : List Int} (B : BnN N) (hw : ∀ x ∈ w, 0 ≤ x ∧ x ≤ 255) (hl : w.length < 1000000000000) (hk : ∀ b e, AccA N w b e → K (.tuple [.bool b, p64 e]) M) :
    SemC tab 30 [.agg (nfC f1 o1 f2 o2 f3 o3 N), slI f4 o4 .u8 w] M K := by
  refine SemC_pure T.h30 (by simp only [PP, P1, P2, P3, P4, P5, P6, P7, P8, P9, P10, P11, P12, P13, P14, L1, P15, N1, N2, N3, N4, N5, N6, N7, I1, I2, I3, I4, I5, I6, I7, reduceIte, reduceCtorEq, under_slE]) ?_
  simp only [af30, PP, P1, P2, P3, P4, P5, P6, P7, P8, P9, P10, P11, P12, P13, P14, L1, P15, N1, N2, N3, N4, N5, N6, N7, I1, I2, I3, I4, I5, I6, I7, reduceIte, reduceCtorEq]
  refine run_p T B hw hl (fun h => ?_) (fun h o ho hb => ?_)
  · simp only [PP, P1, P2, P3, P4, P5, P6, P7, P8, P9, P10, P11, P12, P13, P14, L1, P15, N1, N2, N3, N4, N5, N6, N7, I1, I2, I3, I4, I5, I6, I7, reduceIte, reduceCtorEq, h]
    exact hk false _ ⟨rfl, (fun q => by cases q), fun q => absurd q.1 h⟩
  · have c : checkN N = 0 := Classical.byContradiction fun q => by unfold accE at h; rw [if_neg q] at h; exact q h
    have C := nok_of c
    obtain ⟨_, fa2, fa3⟩ := fa_ok C C.fi
    simp only [PP, P1, P2, P3, P4, P5, P6, P7, P8, P9, P10, P11, P12, P13, P14, L1, P15, N1, N2, N3, N4, N5, N6, N7, I1, I2, I3, I4, I5, I6, I7, reduceIte, reduceCtorEq]
    refine ofF_p T C C.fi ?_
    simp only [PP, P1, P2, P3, P4, P5, P6, P7, P8, P9, P10, P11, P12, P13, P14, L1, P15, N1, N2, N3, N4, N5, N6, N7, I1, I2, I3, I4, I5, I6, I7, reduceIte, reduceCtorEq]
    refine intersects_p T (by show _ < 1000000000000; omega) (by show _ < 1000000000000; omega) ?_
    simp only [PP, P1, P2, P3, P4, P5, P6, P7, P8, P9, P10, P11, P12, P13, P14, L1, P15, N1, N2, N3, N4, N5, N6, N7, I1, I2, I3, I4, I5, I6, I7, reduceIte, reduceCtorEq]
    refine hk _ 0 ⟨h.symm, ?_⟩
    rw [decide_eq_true_eq, inter_bits ho fa2]
    constructor
    · rintro ⟨k, h1, h2⟩
      exact ⟨h, k, (hb k).1 h1, by rw [fa3, decide_eq_true_eq] at h2; exact h2⟩
    · rintro ⟨_, k, h1, h2⟩
      exact ⟨k, (hb k).2 h1, by rw [fa3, decide_eq_true_eq]; exact h2⟩
end
end Go.Am.Ar
set_option linter.unusedVariables false
namespace Go.Am.Ar
def accF (es : List Eg) (fi : List Int) : List Int → Nat → Prop
  | [], p => (p : Int) ∈ fi
  | x :: w, p => ∃ e ∈ matE es x.toNat, e.fr = (p : Int) ∧ accF es fi w e.to.toNat
theorem acc_go {N : NF} (C : NOk N) : ∀ (w : List Int) (S : Nat → Prop), (∃ k : Nat, runP N S w k ∧ (k : Int) ∈ N.fi) ↔ ∃ p, S p ∧ accF N.es N.fi w p
  | [], S => Iff.rfl
  | x :: w, S => by
    have ih := acc_go C w (fun k => ∃ e ∈ matE N.es x.toNat, S e.fr.toNat ∧ e.to = (k : Int))
    have e1 : ∀ k, runP N S (x :: w) k = runP N (fun k => ∃ e ∈ matE N.es x.toNat, S e.fr.toNat ∧ e.to = (k : Int)) w k := fun k => rfl
    simp only [e1]
    rw [ih]
    constructor
    · rintro ⟨p, ⟨e, h1, h2, h3⟩, h4⟩
      have := C.ed e (List.mem_filter.1 h1).1
      exact ⟨e.fr.toNat, h2, e, h1, by omega, by rw [h3]; exact h4⟩
    · rintro ⟨p, h1, e, h2, h3, h4⟩
      have := C.ed e (List.mem_filter.1 h2).1
      exact ⟨e.to.toNat, ⟨e, h2, by rw [h3]; exact h1, by omega⟩, h4⟩
theorem accP_iff {N : NF} (C : NOk N) (w : List Int) : accP N w ↔ ∃ p : Nat, (p : Int) ∈ N.st ∧ accF N.es N.fi w p := acc_go C w _
def WdOk (vs : Int) (w : List Int) : Prop := ∀ x ∈ w, x.toNat < 2 ^ vs.toNat
theorem word_ok {vs : Int} {w : List Int} (h : wordE vs w = 0) : WdOk vs w := by
  intro x hx
  unfold wordE at h
  split at h
  · cases h
  · split at h
    · cases h
    · rename_i q
      rw [Bool.not_eq_true, List.any_eq_false] at q
      have := q x hx
      simp only [decide_eq_true_eq] at this
      have e : ((2 ^ vs.toNat : Nat) : Int) = 2 ^ vs.toNat := by simp
      have hp : 0 < 2 ^ vs.toNat := Nat.pow_pos (by decide)
      omega
theorem mem_mvL {v p : Int} {es : List Eg} {x : Nat} {u : Int} : (x, u) ∈ mvL v p es ↔ x < 2 ^ v.toNat ∧ ∃ e ∈ matE es x, e.fr = p ∧ e.to = u := by
  unfold mvL matE
  rw [List.mem_flatMap]
  constructor
  · rintro ⟨e, he, h⟩
    unfold mvE at h
    split at h
    · rename_i q
      obtain ⟨y, hy, z⟩ := List.mem_map.1 h
      cases z
      obtain ⟨h1, h2⟩ := List.mem_filter.1 hy
      exact ⟨List.mem_range.1 h1, e, List.mem_filter.2 ⟨he, h2⟩, q, rfl⟩
    · cases h
  · rintro ⟨hx, e, he, h1, h2⟩
    obtain ⟨h3, h4⟩ := List.mem_filter.1 he
    refine ⟨e, h3, ?_⟩
    unfold mvE
    rw [if_pos h1]
    exact List.mem_map.2 ⟨x, List.mem_filter.2 ⟨List.mem_range.2 hx, h4⟩, by rw [h2]⟩
theorem sim_acc {N : NF} (C : NOk N) {r : Int → Int → Bool} (S : SimR N r) : ∀ (w : List Int), WdOk N.vs w → ∀ p q : Nat, (p : Int) < N.n → (q : Int) < N.n → r p q = true → accF N.es N.fi w p → accF N.es N.fi w q
  | [], _, p, q, hp, hq, hr, h => (S p q hp hq hr).1 h
  | x :: w, hw, p, q, hp, hq, hr, ⟨e, h1, h2, h3⟩ => by
    have hx := hw x (by simp)
    obtain ⟨q1, q2, q3, q4, _⟩ := C.ed e (List.mem_filter.1 h1).1
    obtain ⟨⟨y, v⟩, k1, k2, k3⟩ := (S p q hp hq hr).2 (x.toNat, e.to) (mem_mvL.2 ⟨hx, e, h1, h2, rfl⟩)
    simp only at k2 k3
    subst k2
    obtain ⟨_, e', m1, m2, m3⟩ := mem_mvL.1 k1
    obtain ⟨q5, q6, q7, q8, _⟩ := C.ed e' (List.mem_filter.1 m1).1
    refine ⟨e', m1, m2, ?_⟩
    refine sim_acc C S w (fun z hz => hw z (by simp [hz])) e.to.toNat e'.to.toNat (by omega) (by omega) ?_ h3
    rw [Int.toNat_of_nonneg q3, Int.toNat_of_nonneg q7, m3]; exact k3
def fromN (N : NF) (q : Int) : NF := { N with st := [q] }
theorem from_check {N : NF} (h : checkN N = 0) {q : Int} (q0 : 0 ≤ q) (qn : q < N.n) : checkN (fromN N q) = 0 := by
  have C := nok_of h
  unfold checkN at h ⊢
  have hp : posM N.n (-1) [q] = true := posM_of (by simp) (fun x hx => by simp at hx; subst hx; omega)
  have v0 := C.v0; have v6 := C.v6; have n0 := C.n0; have n64 := C.n64; have e5 := C.e512
  rw [if_neg (by omega), if_neg (by omega), if_neg (by omega), if_pos ⟨C.st, C.fi⟩] at h
  show (if N.vs < 0 ∨ 6 < N.vs then 7 else if N.n < 0 then 1 else if 64 < N.n ∨ 512 < (N.es.length : Int) then 4 else if posM N.n (-1) [q] = true ∧ posM N.n (-1) N.fi = true then edgesM N.vs N.n N.es else 8) = 0
  rw [if_neg (by omega), if_neg (by omega), if_neg (by omega), if_pos ⟨hp, C.fi⟩]
  exact h
theorem from_acc {N : NF} (h : checkN N = 0) {q : Nat} (qn : (q : Int) < N.n) (w : List Int) : accP (fromN N q) w ↔ accF N.es N.fi w q := by
  have C := nok_of (from_check h (q := q) (by omega) qn)
  rw [accP_iff C]
  constructor
  · rintro ⟨p, h1, h2⟩
    have : (p : Int) = q := by simpa [fromN] using h1
    have : p = q := by omega
    subst this
    exact h2
  · intro h2
    exact ⟨q, by simp [fromN], h2⟩
end Go.Am.Ar
set_option linter.unusedVariables false
set_option linter.unusedSimpArgs false
set_option maxRecDepth 10000
namespace Go.Am.Ar
open Go.Am renaming pchk → P1, pold → P2, PKNo → P3, ppack → P4, PObj.under → P5, pput → P6, ptset → P7, ptget → P8, pev → P9, ofAV → P10, ofAV1 → P11, ppad → P12, pfill → P13, prepl → P14, AO.effect → P15
open List renaming replicate → L1
open Nat renaming reduceAdd → N1, reduceSub → N2, reduceMul → N3, reduceLT → N4, reduceLeDiff → N5, reduceEqDiff → N6, reduceBEq → N7
open Int renaming reduceToNat → I1, reduceLT → I2, reduceLE → I3, reduceEq → I4, reduceAdd → I5, reduceSub → I6, reduceNeg → I7
theorem NF.ext' {N N' : NF} (h1 : N.vs = N'.vs) (h2 : N.n = N'.n) (h3 : N.st = N'.st) (h4 : N.fi = N'.fi) (h5 : N.es = N'.es) : N = N' := by
  cases N; cases N'; simp_all
section
variable {tab : FuncId → Option AF} (T : HasA tab)
include T
theorem copyI_p {M : Mem} {K : PV → Mem → Prop} {f o : Bool} {xs : List Int} (hm : xs.length < big) (hk : K (.ref M.length 0 1 0 xs.length) (M ++ [.cells 0 0 (xs.map p64)])) :
    SemC tab 39 [slI f o .i64 xs] M K := by
  refine SemC_fn T.h39 ?_
  have hm : xs.length < 1000000000000 := hm
  have b8 : xs.length * 8 ≤ 140737488355328 := by omega
  have b1 : xs.length ≤ 9223372036854775807 := by omega
  simp only [af39, PP, P1, P2, P3, P4, P5, P6, P7, P8, P9, P10, P11, P12, P13, P14, L1, P15, N1, N2, N3, N4, N5, N6, N7, I1, I2, I3, I4, I5, I6, I7, reduceIte, reduceCtorEq, b8, b1]
  exact hk
theorem copyE_p {M : Mem} {K : PV → Mem → Prop} {f o : Bool} {xs : List Eg} (hm : xs.length < big) (hk : K (.ref M.length 0 4 0 xs.length) (M ++ [.cells 0 0 (egL xs)])) :
    SemC tab 40 [slE f o xs] M K := by
  refine SemC_fn T.h40 ?_
  have hm : xs.length < 1000000000000 := hm
  have b8 : xs.length * 24 ≤ 140737488355328 := by omega
  have b1 : xs.length ≤ 9223372036854775807 := by omega
  simp only [af40, PP, P1, P2, P3, P4, P5, P6, P7, P8, P9, P10, P11, P12, P13, P14, L1, P15, N1, N2, N3, N4, N5, N6, N7, I1, I2, I3, I4, I5, I6, I7, reduceIte, reduceCtorEq, b8, b1, egL_one]
  exact hk
theorem copyL_p {K : PV → Mem → Prop} {f1 o1 f2 o2 f3 o3 : Bool} {N : NF} (B : BnN N)
    (hk : K (.agg [p64 N.vs, p64 N.n, .ref (2) 0 1 0 N.st.length, .ref (3) 0 1 0 N.fi.length, .ref (4) 0 4 0 N.es.length])
      ([.cells 0 0 (nfC f1 o1 f2 o2 f3 o3 N), .cells 0 1 [p64 N.vs, p64 N.n, .ref (2) 0 1 0 N.st.length, .ref (3) 0 1 0 N.fi.length, .ref (4) 0 4 0 N.es.length], .cells 0 0 (N.st.map p64), .cells 0 0 (N.fi.map p64), .cells 0 0 (egL N.es)])) :
    SemC tab 13 [.agg (nfC f1 o1 f2 o2 f3 o3 N)] [] K := by
  refine SemC_fn T.h13 ?_
  simp only [af13, PP, P1, P2, P3, P4, P5, P6, P7, P8, P9, P10, P11, P12, P13, P14, L1, P15, N1, N2, N3, N4, N5, N6, N7, I1, I2, I3, I4, I5, I6, I7, reduceIte, reduceCtorEq]
  refine copyI_p T B.s ?_
  simp only [PP, P1, P2, P3, P4, P5, P6, P7, P8, P9, P10, P11, P12, P13, P14, L1, P15, N1, N2, N3, N4, N5, N6, N7, I1, I2, I3, I4, I5, I6, I7, reduceIte, reduceCtorEq]
  refine copyI_p T B.f ?_
  simp only [PP, P1, P2, P3, P4, P5, P6, P7, P8, P9, P10, P11, P12, P13, P14, L1, P15, N1, N2, N3, N4, N5, N6, N7, I1, I2, I3, I4, I5, I6, I7, reduceIte, reduceCtorEq]
  refine copyE_p T B.e ?_
  simp only [PP, P1, P2, P3, P4, P5, P6, P7, P8, P9, P10, P11, P12, P13, P14, L1, P15, N1, N2, N3, N4, N5, N6, N7, I1, I2, I3, I4, I5, I6, I7, reduceIte, reduceCtorEq]
  exact hk
theorem copyN_p {M : Mem} {K : PV → Mem → Prop} {f1 o1 f2 o2 f3 o3 : Bool} {N : NF} (B : BnN N) (hk : K (.agg (nfC false true false true false true N)) M) :
    SemC tab 13 [.agg (nfC f1 o1 f2 o2 f3 o3 N)] M K := by
  refine SemC_frame (by simp only [PP, P1, P2, P3, P4, P5, P6, P7, P8, P9, P10, P11, P12, P13, P14, L1, P15, N1, N2, N3, N4, N5, N6, N7, I1, I2, I3, I4, I5, I6, I7, reduceIte, reduceCtorEq, under_slE]) (copyL_p T B ?_)
  have h1 := frzO_egL (g := 0) (v := 0) (l := N.es) rfl
  simp only [PP, P1, P2, P3, P4, P5, P6, P7, P8, P9, P10, P11, P12, P13, P14, L1, P15, N1, N2, N3, N4, N5, N6, N7, I1, I2, I3, I4, I5, I6, I7, reduceIte, reduceCtorEq, h1]
  exact ⟨_, rfl, hk⟩
end
end Go.Am.Ar
set_option linter.unusedVariables false
set_option linter.unusedSimpArgs false
namespace Go.Am.Ar
theorem arg_ints {k : IntKind} {v : AV} {h : H} (hs : ShV (.slice (.int k)) v h) : ∃ (xs : List Int), RepV (wH h) (slI false false k xs) v ∧ xs.length ≤ 9223372036854775807 ∧ ∀ x ∈ xs, k.min ≤ x ∧ x ≤ k.max := by
  obtain ⟨avs, hs, rfl⟩ := hs
  obtain ⟨v, xs, rfl, p, q, r⟩ := sh_intsP hs
  exact ⟨xs, p, q, r⟩
theorem arg_int {k : IntKind} {v : AV} {h : H} (hs : ShV (.int k) v h) : ∃ (x : Int), v = .int k x ∧ RepV (wH h) (.int k x) v ∧ k.min ≤ x ∧ x ≤ k.max := by
  obtain ⟨avs, hs, rfl⟩ := hs
  obtain ⟨x, rfl, p⟩ := hs
  exact ⟨x, rfl, .int k x, p⟩
theorem run_of_C {tab : FuncId → Option AF} {g : FuncId} {args : List AV} {h : H} (hc : C (lim tab) g args h fun v _ => v = .bool true) : ∃ n h', (run tab n).call g args h = some (.bool true, h') := by
  unfold C at hc
  obtain ⟨v, h', he, rfl⟩ := hc
  obtain ⟨n, hn⟩ := (lim_call_iff tab).1 he
  exact ⟨n, h', hn⟩
theorem shVs4 {A B D E : Ty} {args : List AV} {h : H} (hs : ShVs [A, B, D, E] args h) : ∃ a b d e, args = [a, b, d, e] ∧ ShV A a h ∧ ShV B b h ∧ ShV D d h ∧ ShV E e h := by
  match args, hs with
  | [a, b, d, e], ⟨h1, h2, h3, h4, _⟩ => exact ⟨a, b, d, e, rfl, h1, h2, h3, h4⟩
end Go.Am.Ar
set_option linter.unusedVariables false
set_option linter.unusedSimpArgs false
set_option maxRecDepth 10000
namespace Go.Am.Ar
open Go.Am renaming pchk → P1, pold → P2, PKNo → P3, ppack → P4, PObj.under → P5, pput → P6, ptset → P7, ptget → P8, pev → P9, ofAV → P10, ofAV1 → P11, ppad → P12, pfill → P13, prepl → P14, AO.effect → P15
open List renaming replicate → L1
open Nat renaming reduceAdd → N1, reduceSub → N2, reduceMul → N3, reduceLT → N4, reduceLeDiff → N5, reduceEqDiff → N6, reduceBEq → N7
open Int renaming reduceToNat → I1, reduceLT → I2, reduceLE → I3, reduceEq → I4, reduceAdd → I5, reduceSub → I6, reduceNeg → I7
abbrev edgeTy : Ty := .pair (.int .i64) (.pair (.int .i64) (.pair (.int .u8) (.pair (.int .u8) .unit)))
abbrev nfaTy : Ty := .pair (.int .i64) (.pair (.int .i64) (.pair (.slice (.int .i64)) (.pair (.slice (.int .i64)) (.pair (.slice edgeTy) .unit))))
theorem sh_edge {h : H} {cs : List AV} (hs : Sh edgeTy cs h) : ∃ e : Eg, e.fit ∧ cs.length = 4 ∧ RepL (wH h) (egC e) cs := by
  obtain ⟨c1, c2, rfl, ⟨a, rfl, a1, a2⟩, c3, c4, rfl, ⟨b, rfl, b1, b2⟩, c5, c6, rfl, ⟨p, rfl, p1, p2⟩, c7, c8, rfl, ⟨q, rfl, q1, q2⟩, h8⟩ := hs
  have h8 : c8 = [] := h8
  subst h8
  exact ⟨⟨a, b, p, q⟩, ⟨⟨a1, a2⟩, ⟨b1, b2⟩, ⟨p1, p2⟩, ⟨q1, q2⟩⟩, rfl, .cons (.int _ _) (.cons (.int _ _) (.cons (.int _ _) (.cons (.int _ _) (.nil _))))⟩
theorem sh_egs {h : H} : ∀ {n : Nat} {cells : List AV}, cells.length = n * 4 → (∀ i, i < n → Sh edgeTy ((cells.drop (i * 4)).take 4) h) → ∃ es : List Eg, es.length = n ∧ RepL (wH h) (egL es) cells ∧ ∀ x ∈ es, x.fit
  | 0, cells, hl, _ => by
    have : cells = [] := List.length_eq_zero_iff.1 (by simpa using hl)
    subst this
    exact ⟨[], rfl, .nil _, fun x hx => by cases hx⟩
  | n + 1, cells, hl, hs => by
    obtain ⟨x, hx, _, r1⟩ := sh_edge (by simpa using hs 0 (by omega))
    obtain ⟨es, e1, r2, e3⟩ := sh_egs (n := n) (cells := cells.drop 4) (by simp; omega) (fun i hi => by
      have := hs (i + 1) (by omega)
      rw [List.drop_drop, show 4 + i * 4 = (i + 1) * 4 by omega]; exact this)
    refine ⟨x :: es, by simp [e1], ?_, fun y hy => ?_⟩
    · have := r1.append r2
      rw [List.take_append_drop] at this
      exact this
    · rcases List.mem_cons.1 hy with rfl | hy
      · exact hx
      · exact e3 y hy
theorem sh_edges {cs : List AV} {h : H} (hs : Sh (.slice edgeTy) cs h) : ∃ v, ∃ es : List Eg, cs = [v] ∧ RepV (wH h) (slE false false es) v ∧ es.length ≤ 9223372036854775807 ∧ ∀ x ∈ es, x.fit := by
  rcases hs with rfl | ⟨b, n, cells, rfl, h2, h3, h4, h5⟩
  · exact ⟨.nilslice, [], rfl, .slN, by simp, fun x hx => by cases hx⟩
  · have e4 : edgeTy.size = 4 := rfl
    rw [e4] at h4 h5
    obtain ⟨es, e1, r, e3⟩ := sh_egs h4 h5
    refine ⟨_, es, rfl, ?_, by rw [e1]; simpa [maxLen] using h2, e3⟩
    have hl := r.len
    have := RepV.sl (fl := false) (own := false) (sz := 4) (n := n) (cs := egL es) (fl' := false) (off := 0) (show (wH h).imm b = _ from h3) (by omega) (by rw [egL_len, e1]) (fun q => by cases q) (fun q => by cases q) (fun _ _ => H.lt_of_get h3) (fun i y z p q => r.get i y z p (by simpa using q))
    rw [← e1] at this
    rw [← e1]
    exact this
structure NumN (N : NF) : Prop where
  e : ∀ x ∈ N.es, x.fit
  ls : N.st.length ≤ 9223372036854775807
  lf : N.fi.length ≤ 9223372036854775807
  le : N.es.length ≤ 9223372036854775807
  v : -9223372036854775808 ≤ N.vs ∧ N.vs ≤ 9223372036854775807
  n : -9223372036854775808 ≤ N.n ∧ N.n ≤ 9223372036854775807
theorem arg_nfa {v : AV} {h : H} (hs : ShV nfaTy v h) : ∃ N : NF, RepV (wH h) (.agg (nfC false false false false false false N)) v ∧ NumN N := by
  obtain ⟨avs, hs, rfl⟩ := hs
  obtain ⟨c1, c2, rfl, ⟨a, rfl, a1, a2⟩, c3, c4, rfl, ⟨b, rfl, b1, b2⟩, c5, c6, rfl, h3, c7, c8, rfl, h4, c9, c10, rfl, h5, h6⟩ := hs
  have h6 : c10 = [] := h6
  subst h6
  obtain ⟨vo, st, rfl, p1, q1, r1⟩ := sh_intsP h3
  obtain ⟨vp, fi, rfl, p2, q2, r2⟩ := sh_intsP h4
  obtain ⟨vs, es, rfl, p3, q3, r3⟩ := sh_edges h5
  refine ⟨⟨a, b, st, fi, es⟩, ?_, ⟨r3, q1, q2, q3, ⟨a1, a2⟩, ⟨b1, b2⟩⟩⟩
  have := RepL.cons (.int .i64 a) (.cons (.int .i64 b) (.cons p1 (.cons p2 (.cons p3 (.nil (wH h))))))
  exact .agg this.len this.get
def long6 (N : NF) : Bool := decide (100 < N.st.length) || decide (100 < N.fi.length) || decide (520 < N.es.length)
def longN (N : NF) : Bool := long6 N || (decide (checkN N = 0) && (decide (6 < N.n) || decide (40 < N.es.length)))
theorem long6_bn {N : NF} (A : NumN N) (h : long6 N = false) : BnN N := by
  simp only [long6, Bool.or_eq_false_iff, decide_eq_false_iff_not] at h
  exact ⟨by show _ < 1000000000000; omega, by show _ < 1000000000000; omega, by show _ < 1000000000000; omega, fun x hx => ⟨(A.e x hx).2.2.1, (A.e x hx).2.2.2⟩⟩
theorem longN_bn {N : NF} (A : NumN N) (h : longN N = false) : BnN N := long6_bn A (by
  unfold longN at h
  rw [Bool.or_eq_false_iff] at h; exact h.1)
section
variable {tab : FuncId → Option AF} (T : HasA tab)
include T
theorem long6_p {M : Mem} {K : PV → Mem → Prop} {f1 o1 f2 o2 f3 o3 : Bool} {N : NF} (hk : K (.bool (long6 N)) M) :
    SemC tab 37 [.sl true true 5 1 (nfC f1 o1 f2 o2 f3 o3 N)] M K := by
  refine SemC_pure T.h37 (by simp only [PP, P1, P2, P3, P4, P5, P6, P7, P8, P9, P10, P11, P12, P13, P14, L1, P15, N1, N2, N3, N4, N5, N6, N7, I1, I2, I3, I4, I5, I6, I7, reduceIte, reduceCtorEq, PV.under, egL_und]) ?_
  simp only [af37, PP, P1, P2, P3, P4, P5, P6, P7, P8, P9, P10, P11, P12, P13, P14, L1, P15, N1, N2, N3, N4, N5, N6, N7, I1, I2, I3, I4, I5, I6, I7, reduceIte, reduceCtorEq]
  refine loop1 (fun (k : Nat) => k = 0 ∨ (k = 1 ∧ long6 N = false)) (fun k => [.sl true true 5 1 (nfC f1 o1 f2 o2 f3 o3 N), .junk, .junk, p64 k, .junk, .junk, .junk, .junk, .junk, .junk, .junk, .junk, .junk, .junk, .junk, .junk, .junk, .junk, .junk, .junk, .junk, .junk, .junk, .junk, .junk, .junk, .junk, .junk, .junk, .junk, .junk, .junk, .junk, .junk, .junk]) (fun _ => []) (fun k => 1 - k) 0 (.inl rfl) (by simp only [PWeak_nil, PWeak_junk, PWeak_same, Int.cast_ofNat_Int, List.length_append, List.length_cons, List.length_nil, Nat.zero_add]) rfl ?_
  intro k hk1 ih
  rcases hk1 with rfl | ⟨rfl, hf⟩
  · have w1 : IntKind.i64.wrap 1 = 1 := rfl
    have tr : (100 < N.st.length ∨ 100 < N.fi.length ∨ 520 < N.es.length) → K (.bool true) M := fun h => by
      have e : long6 N = true := by simp only [long6, Bool.or_eq_true, decide_eq_true_eq]; omega
      rw [e] at hk; exact hk
    refine SemW_go (by kernel_rfl) ?_
    simp only [PP, P1, P2, P3, P4, P5, P6, P7, P8, P9, P10, P11, P12, P13, P14, L1, P15, N1, N2, N3, N4, N5, N6, N7, I1, I2, I3, I4, I5, I6, I7, reduceIte, reduceCtorEq]
    refine QIf.intro (fun c1 => ?_) (fun c1 => ?_)
    · simp only [PP, P1, P2, P3, P4, P5, P6, P7, P8, P9, P10, P11, P12, P13, P14, L1, P15, N1, N2, N3, N4, N5, N6, N7, I1, I2, I3, I4, I5, I6, I7, reduceIte, reduceCtorEq, c1]
      exact tr (by omega)
    simp only [PP, P1, P2, P3, P4, P5, P6, P7, P8, P9, P10, P11, P12, P13, P14, L1, P15, N1, N2, N3, N4, N5, N6, N7, I1, I2, I3, I4, I5, I6, I7, reduceIte, reduceCtorEq, c1]
    refine QIf.intro (fun c2 => ?_) (fun c2 => ?_)
    · simp only [PP, P1, P2, P3, P4, P5, P6, P7, P8, P9, P10, P11, P12, P13, P14, L1, P15, N1, N2, N3, N4, N5, N6, N7, I1, I2, I3, I4, I5, I6, I7, reduceIte, reduceCtorEq, c2]
      exact tr (by omega)
    simp only [PP, P1, P2, P3, P4, P5, P6, P7, P8, P9, P10, P11, P12, P13, P14, L1, P15, N1, N2, N3, N4, N5, N6, N7, I1, I2, I3, I4, I5, I6, I7, reduceIte, reduceCtorEq, c2]
    refine QIf.intro (fun c3 => ?_) (fun c3 => ?_)
    · simp only [PP, P1, P2, P3, P4, P5, P6, P7, P8, P9, P10, P11, P12, P13, P14, L1, P15, N1, N2, N3, N4, N5, N6, N7, I1, I2, I3, I4, I5, I6, I7, reduceIte, reduceCtorEq, c3]
      exact tr (by omega)
    simp only [PP, P1, P2, P3, P4, P5, P6, P7, P8, P9, P10, P11, P12, P13, P14, L1, P15, N1, N2, N3, N4, N5, N6, N7, I1, I2, I3, I4, I5, I6, I7, reduceIte, reduceCtorEq, c3, w1]
    refine SemW_weak (ih 1 (.inr ⟨rfl, by simp only [long6, Bool.or_eq_false_iff, decide_eq_false_iff_not]; omega⟩) (by omega)) (by simp only [PWeak_nil, PWeak_junk, PWeak_same, Int.cast_ofNat_Int, List.length_append, List.length_cons, List.length_nil, Nat.zero_add])
  · refine SemW_go (by kernel_rfl) ?_
    rw [hf] at hk
    simp only [PP, P1, P2, P3, P4, P5, P6, P7, P8, P9, P10, P11, P12, P13, P14, L1, P15, N1, N2, N3, N4, N5, N6, N7, I1, I2, I3, I4, I5, I6, I7, reduceIte, reduceCtorEq]
    exact hk
end
end Go.Am.Ar
set_option linter.unusedVariables false
set_option linter.unusedSimpArgs false
set_option maxRecDepth 10000
namespace Go.Am.Ar
open Go.Am renaming pchk → P1, pold → P2, PKNo → P3, ppack → P4, PObj.under → P5, pput → P6, ptset → P7, ptget → P8, pev → P9, ofAV → P10, ofAV1 → P11, ppad → P12, pfill → P13, prepl → P14, AO.effect → P15
open List renaming replicate → L1
open Nat renaming reduceAdd → N1, reduceSub → N2, reduceMul → N3, reduceLT → N4, reduceLeDiff → N5, reduceEqDiff → N6, reduceBEq → N7
open Int renaming reduceToNat → I1, reduceLT → I2, reduceLE → I3, reduceEq → I4, reduceAdd → I5, reduceSub → I6, reduceNeg → I7
abbrev nfF (N : NF) : List PV := nfC false false false false false false N
def nfL (l : List NF) : List PV := l.flatMap nfF
theorem nfL_len (l : List NF) : (nfL l).length = l.length * 5 := by
  unfold nfL
  induction l with
  | nil => rfl
  | cons x l ih => rw [List.flatMap_cons, List.length_append, ih]; simp; omega
theorem nfL_und (m : Nat) (l : List NF) : underL m (nfL l) = true := by
  unfold nfL
  induction l with
  | nil => exact underL_nil _
  | cons x l ih => rw [List.flatMap_cons, underL_append, ih]; simp only [underL_cons, underL_nil, under_int, under_slI, under_slE, Bool.and_self]
theorem psub_nfL {l : List NF} {k : Nat} {x : NF} (h : l[k]? = some x) : psub (nfL l) (k * 5) 5 = nfF x := by
  obtain ⟨hk, e⟩ := List.getElem?_eq_some_iff.1 h
  have h1 : nfL l = nfL (l.take k) ++ (nfF x ++ nfL (l.drop (k + 1))) := by
    conv => lhs; rw [← List.take_append_drop k l, List.drop_eq_getElem_cons hk, e]
    simp [nfL]
  have h2 : (nfL (l.take k)).length = k * 5 := by rw [nfL_len]; simp; omega
  unfold psub
  rw [h1, ← h2, List.drop_left]; rfl
theorem nf_le {l : List NF} {k : Nat} {x : NF} (h : l[k]? = some x) : k * 5 + 5 ≤ (nfL l).length := by
  have := getSome_lt h
  rw [nfL_len]; omega
theorem nfL_at {l : List NF} {k i : Nat} {x : NF} (h : l[k]? = some x) (hi : i < 5) : (nfL l)[k * 5 + i]? = (nfF x)[i]? := by
  have := congrArg (fun (l : List PV) => l[i]?) (psub_nfL h)
  simpa [psub, List.getElem?_take, List.getElem?_drop, hi] using this
section
variable {tab : FuncId → Option AF} (T : HasA tab)
include T
theorem long13_p {M : Mem} {K : PV → Mem → Prop} {l : List NF} (hl : l.length < 10) (A : ∀ N ∈ l, NumN N) (hk : K (.bool (l.any longN)) M) :
    SemC tab 11 [.sl true true 5 l.length (nfL l)] M K := by
  refine SemC_pure T.h11 (by simp only [PP, P1, P2, P3, P4, P5, P6, P7, P8, P9, P10, P11, P12, P13, P14, L1, P15, N1, N2, N3, N4, N5, N6, N7, I1, I2, I3, I4, I5, I6, I7, reduceIte, reduceCtorEq, PV.under, nfL_und]) ?_
  simp only [af11, PP, P1, P2, P3, P4, P5, P6, P7, P8, P9, P10, P11, P12, P13, P14, L1, P15, N1, N2, N3, N4, N5, N6, N7, I1, I2, I3, I4, I5, I6, I7, reduceIte, reduceCtorEq]
  refine loop1 (fun (k : Nat) => k ≤ l.length ∧ (l.take k).any longN = false) (fun k => [.sl true true 5 l.length (nfL l), .junk, .junk, p64 k, .junk, .junk, .junk, .junk, .junk, .junk, .junk, .junk, .junk, .junk, .junk, .junk, .junk, .junk, .junk, .junk, .junk, .junk, .junk, .junk, .junk, .junk, .junk, .junk, .junk, .junk, .junk, .junk, .junk, .junk, .junk, .junk, .junk, .junk, .junk, .junk, .junk]) (fun _ => []) (fun k => l.length - k) 0 ⟨by omega, by simp⟩ (by simp only [PWeak_nil, PWeak_junk, PWeak_same, Int.cast_ofNat_Int, List.length_append, List.length_cons, List.length_nil, Nat.zero_add]) rfl ?_
  intro k ⟨hle, hd⟩ ih
  refine SemW_go (by kernel_rfl) ?_
  simp only [PP, P1, P2, P3, P4, P5, P6, P7, P8, P9, P10, P11, P12, P13, P14, L1, P15, N1, N2, N3, N4, N5, N6, N7, I1, I2, I3, I4, I5, I6, I7, reduceIte, reduceCtorEq]
  refine QIf.intro (fun c => ?_) (fun c => ?_)
  rotate_left
  · have hkl : k = l.length := by omega
    subst hkl
    rw [List.take_of_length_le (Nat.le_refl _)] at hd
    rw [hd] at hk
    simp only [PP, P1, P2, P3, P4, P5, P6, P7, P8, P9, P10, P11, P12, P13, P14, L1, P15, N1, N2, N3, N4, N5, N6, N7, I1, I2, I3, I4, I5, I6, I7, reduceIte, reduceCtorEq, c]
    exact hk
  have hk' : k < l.length := by omega
  obtain ⟨N, gN⟩ := some_of hk'
  have AN := A N (List.mem_of_getElem? gN)
  have h5 := psub_nfL gN
  have hl5 := nf_le gN
  have h1 := nfL_at (i := 1) gN (by decide)
  have h4 := nfL_at (i := 4) gN (by decide)
  simp only [List.getElem?_cons_succ, List.getElem?_cons_zero] at h1 h4
  have k0 : (0 : Int) ≤ k := by omega
  have kl : (k : Int) < l.length := by omega
  have hwk := wrap_succ (k := k) (by show _ < 1000000000000; omega)
  have htk : (l.take (k + 1)).any longN = longN N := by
    rw [List.take_add_one, gN, List.any_append, hd]; simp
  have yes : longN N = true → K (.bool true) M := fun h => by
    have : l.any longN = true := List.any_eq_true.2 ⟨N, List.mem_of_getElem? gN, h⟩
    rw [this] at hk; exact hk
  simp only [PP, P1, P2, P3, P4, P5, P6, P7, P8, P9, P10, P11, P12, P13, P14, L1, P15, N1, N2, N3, N4, N5, N6, N7, I1, I2, I3, I4, I5, I6, I7, reduceIte, reduceCtorEq, c, k0, h5, hl5]
  refine long6_p T ?_
  cases h6 : long6 N with
  | true =>
    simp only [PP, P1, P2, P3, P4, P5, P6, P7, P8, P9, P10, P11, P12, P13, P14, L1, P15, N1, N2, N3, N4, N5, N6, N7, I1, I2, I3, I4, I5, I6, I7, reduceIte, reduceCtorEq]
    exact yes (by simp [longN, h6])
  | false =>
    simp only [PP, P1, P2, P3, P4, P5, P6, P7, P8, P9, P10, P11, P12, P13, P14, L1, P15, N1, N2, N3, N4, N5, N6, N7, I1, I2, I3, I4, I5, I6, I7, reduceIte, reduceCtorEq, k0, kl, h5, hl5]
    refine checkR_p T (long6_bn AN h6) ?_
    simp only [PP, P1, P2, P3, P4, P5, P6, P7, P8, P9, P10, P11, P12, P13, P14, L1, P15, N1, N2, N3, N4, N5, N6, N7, I1, I2, I3, I4, I5, I6, I7, reduceIte, reduceCtorEq]
    refine QIf.intro (fun d => ?_) (fun d => ?_)
    · simp only [PP, P1, P2, P3, P4, P5, P6, P7, P8, P9, P10, P11, P12, P13, P14, L1, P15, N1, N2, N3, N4, N5, N6, N7, I1, I2, I3, I4, I5, I6, I7, reduceIte, reduceCtorEq, d, k0, kl, h1]
      refine QIf.intro (fun d1 => ?_) (fun d1 => ?_)
      · simp only [PP, P1, P2, P3, P4, P5, P6, P7, P8, P9, P10, P11, P12, P13, P14, L1, P15, N1, N2, N3, N4, N5, N6, N7, I1, I2, I3, I4, I5, I6, I7, reduceIte, reduceCtorEq, d1]
        refine yes ?_
        simp only [longN, Bool.or_eq_true, Bool.and_eq_true, decide_eq_true_eq]; exact .inr ⟨d, .inl d1⟩
      · simp only [PP, P1, P2, P3, P4, P5, P6, P7, P8, P9, P10, P11, P12, P13, P14, L1, P15, N1, N2, N3, N4, N5, N6, N7, I1, I2, I3, I4, I5, I6, I7, reduceIte, reduceCtorEq, d1, k0, kl, h4]
        refine QIf.intro (fun d2 => ?_) (fun d2 => ?_)
        · simp only [PP, P1, P2, P3, P4, P5, P6, P7, P8, P9, P10, P11, P12, P13, P14, L1, P15, N1, N2, N3, N4, N5, N6, N7, I1, I2, I3, I4, I5, I6, I7, reduceIte, reduceCtorEq, d2]
          refine yes ?_
          simp only [longN, Bool.or_eq_true, Bool.and_eq_true, decide_eq_true_eq]; exact .inr ⟨d, .inr (by omega)⟩
        · simp only [PP, P1, P2, P3, P4, P5, P6, P7, P8, P9, P10, P11, P12, P13, P14, L1, P15, N1, N2, N3, N4, N5, N6, N7, I1, I2, I3, I4, I5, I6, I7, reduceIte, reduceCtorEq, d2, hwk]
          refine SemW_weak (ih (k + 1) ⟨by omega, ?_⟩ (by omega)) (by simp only [PWeak_nil, PWeak_junk, PWeak_same, Int.cast_ofNat_Int, List.length_append, List.length_cons, List.length_nil, Nat.zero_add])
          rw [htk]
          simp only [longN, Bool.or_eq_false_iff, Bool.and_eq_false_iff, decide_eq_false_iff_not]
          exact ⟨h6, .inr ⟨d1, by omega⟩⟩
    · simp only [PP, P1, P2, P3, P4, P5, P6, P7, P8, P9, P10, P11, P12, P13, P14, L1, P15, N1, N2, N3, N4, N5, N6, N7, I1, I2, I3, I4, I5, I6, I7, reduceIte, reduceCtorEq, d, hwk]
      refine SemW_weak (ih (k + 1) ⟨by omega, ?_⟩ (by omega)) (by simp only [PWeak_nil, PWeak_junk, PWeak_same, Int.cast_ofNat_Int, List.length_append, List.length_cons, List.length_nil, Nat.zero_add])
      rw [htk]
      simp only [longN, Bool.or_eq_false_iff, Bool.and_eq_false_iff, decide_eq_false_iff_not]
      exact ⟨h6, .inl d⟩
theorem longOne_p {M : Mem} {K : PV → Mem → Prop} {N : NF} (A : NumN N) (hk : K (.bool (longN N)) M) :
    SemC tab 11 [.sl true true 5 1 (nfF N)] M K :=
  long13_p T (l := [N]) (by simp) (fun x hx => by rw [List.mem_singleton] at hx; subst hx; exact A) (by simpa using hk)
end
end Go.Am.Ar
set_option linter.unusedVariables false
set_option linter.unusedSimpArgs false
set_option maxRecDepth 10000
namespace Go.Am.Ar
open Go.Am renaming pchk → P1, pold → P2, PKNo → P3, ppack → P4, PObj.under → P5, pput → P6, ptset → P7, ptget → P8, pev → P9, ofAV → P10, ofAV1 → P11, ppad → P12, pfill → P13, prepl → P14, AO.effect → P15
open List renaming replicate → L1
open Nat renaming reduceAdd → N1, reduceSub → N2, reduceMul → N3, reduceLT → N4, reduceLeDiff → N5, reduceEqDiff → N6, reduceBEq → N7
open Int renaming reduceToNat → I1, reduceLT → I2, reduceLE → I3, reduceEq → I4, reduceAdd → I5, reduceSub → I6, reduceNeg → I7
section
variable {tab : FuncId → Option AF} (T : HasA tab)
include T
end
end Go.Am.Ar
set_option linter.unusedVariables false
set_option linter.unusedSimpArgs false
set_option maxRecDepth 10000
namespace Go.Am.Ar
open Go.Am renaming pchk → P1, pold → P2, PKNo → P3, ppack → P4, PObj.under → P5, pput → P6, ptset → P7, ptget → P8, pev → P9, ofAV → P10, ofAV1 → P11, ppad → P12, pfill → P13, prepl → P14, AO.effect → P15
open List renaming replicate → L1
open Nat renaming reduceAdd → N1, reduceSub → N2, reduceMul → N3, reduceLT → N4, reduceLeDiff → N5, reduceEqDiff → N6, reduceBEq → N7
open Int renaming reduceToNat → I1, reduceLT → I2, reduceLE → I3, reduceEq → I4, reduceAdd → I5, reduceSub → I6, reduceNeg → I7
section
variable {tab : FuncId → Option AF} (T : HasA tab)
include T
end
end Go.Am.Ar
set_option linter.unusedVariables false
namespace Go.Am.Ar
def setAt (rs : List (List Bool)) (p q : Nat) : List (List Bool) := rs.set p ((rs.getD p []).set q false)
def cntR : List (List Bool) → Nat
  | [] => 0
  | r :: l => r.count true + cntR l
theorem count_set {r : List Bool} : ∀ {q : Nat}, r[q]? = some true → (r.set q false).count true < r.count true := by
  induction r with
  | nil => intro q h; simp at h
  | cons x r ih =>
    intro q h
    cases q with
    | zero =>
      simp only [List.getElem?_cons_zero, Option.some.injEq] at h
      subst h
      simp [List.count_cons]
    | succ q =>
      have := ih (q := q) (by simpa using h)
      simp only [List.set_cons_succ, List.count_cons]
      omega
theorem cntR_set : ∀ {rs : List (List Bool)} {p : Nat} {r r' : List Bool}, rs[p]? = some r → r'.count true < r.count true → cntR (rs.set p r') < cntR rs
  | [], p, r, r', h, _ => by simp at h
  | x :: rs, 0, r, r', h, hc => by
    simp only [List.getElem?_cons_zero, Option.some.injEq] at h
    subst h
    simp only [List.set_cons_zero, cntR]; omega
  | x :: rs, p + 1, r, r', h, hc => by
    have := cntR_set (rs := rs) (p := p) (by simpa using h) hc
    simp only [List.set_cons_succ, cntR]; omega
theorem cntR_setAt {rs : List (List Bool)} {p q : Nat} (h : rAt rs p q = true) : cntR (setAt rs p q) < cntR rs := by
  unfold rAt at h
  simp only [Int.toNat_natCast] at h
  have hp : p < rs.length := Nat.lt_of_not_le fun hp => by
    have e : rs.getD p [] = [] := by simp [List.getD, List.getElem?_eq_none hp]
    rw [e] at h; simp at h
  obtain ⟨r, hr⟩ : ∃ r, rs[p]? = some r := ⟨_, List.getElem?_eq_getElem hp⟩
  have e : rs.getD p [] = r := by simp [List.getD, hr]
  rw [e] at h
  unfold setAt
  rw [e]
  refine cntR_set hr (count_set ?_)
  cases hq : r[q]? with
  | none => rw [List.getD, hq] at h; cases h
  | some b => rw [List.getD, hq] at h; simp at h; rw [h]
theorem rAt_setAt {rs : List (List Bool)} {p q u v : Nat} (hp : p < rs.length) (hq : q < (rs.getD p []).length) : rAt (setAt rs p q) u v = if u = p ∧ v = q then false else rAt rs u v := by
  unfold rAt setAt
  simp only [Int.toNat_natCast]
  by_cases e : u = p
  · subst e
    have h1 : (rs.set u ((rs.getD u []).set q false)).getD u [] = (rs.getD u []).set q false := by simp [List.getD, hp]
    rw [h1]
    by_cases e2 : v = q
    · subst e2
      rw [if_pos ⟨rfl, rfl⟩, List.getD, List.getElem?_set_self hq]; rfl
    · rw [if_neg (fun h => e2 h.2), List.getD, List.getElem?_set_ne (Ne.symm e2)]; rfl
  · have h1 : (rs.set p ((rs.getD p []).set q false)).getD u [] = rs.getD u [] := by simp [List.getD, List.getElem?_set_ne (Ne.symm e)]
    rw [h1, if_neg (fun h => e h.1)]
theorem HoldsP.mono {N : NF} (C : NOk N) {r r' : Int → Int → Bool} {p q : Int} (hle : ∀ u v : Nat, (u : Int) < N.n → (v : Int) < N.n → r u v = true → r' u v = true) (h : HoldsP N r p q) : HoldsP N r' p q := by
  refine ⟨h.1, fun xu hxu => ?_⟩
  obtain ⟨yv, h1, h2, h3⟩ := h.2 xu hxu
  obtain ⟨x, u⟩ := xu
  obtain ⟨y, v⟩ := yv
  obtain ⟨_, u0, un⟩ := mvL_ok C hxu
  obtain ⟨_, v0, vn⟩ := mvL_ok C h1
  refine ⟨(y, v), h1, h2, ?_⟩
  have := hle u.toNat v.toNat (by omega) (by omega) (by rw [Int.toNat_of_nonneg u0, Int.toNat_of_nonneg v0]; exact h3)
  rw [Int.toNat_of_nonneg u0, Int.toNat_of_nonneg v0] at this
  exact this
def UpR (N : NF) (rs : List (List Bool)) : Prop := ∀ S : Int → Int → Bool, SimR N S → ∀ p q : Nat, (p : Int) < N.n → (q : Int) < N.n → S p q = true → rAt rs p q = true
structure RelOk (N : NF) (rs : List (List Bool)) : Prop where
  d : DimOk N rs
  s : SimR N (rAt rs)
  u : UpR N rs
theorem dim_setAt {N : NF} {rs : List (List Bool)} (D : DimOk N rs) (p q : Nat) : DimOk N (setAt rs p q) := by
  refine ⟨by unfold setAt; rw [List.length_set]; exact D.1, fun r hr => ?_⟩
  unfold setAt at hr
  rcases List.mem_or_eq_of_mem_set hr with h | h
  · exact D.2 r h
  · subst h
    rw [List.length_set]
    by_cases hp : p < rs.length
    · refine D.2 _ ?_
      rw [List.getD, List.getElem?_eq_getElem hp]; exact List.getElem_mem hp
    · exfalso
      rw [List.set_eq_of_length_le (by omega)] at hr
      have := D.2 _ hr
      rw [List.length_set, List.getD, List.getElem?_eq_none (by omega)] at this
      simp at this
      have := D.1
      obtain ⟨j, hj⟩ := List.getElem?_of_mem hr
      have := getSome_lt hj
      omega
theorem row_len {N : NF} {rs : List (List Bool)} (D : DimOk N rs) {p : Nat} (hp : (p : Int) < N.n) : ((rs.getD p []).length : Int) = N.n := by
  have h : p < rs.length := by have := D.1; omega
  refine D.2 _ ?_
  rw [List.getD, List.getElem?_eq_getElem h]; exact List.getElem_mem h
theorem UpR.prune {N : NF} (C : NOk N) {rs : List (List Bool)} (D : DimOk N rs) (U : UpR N rs) {p q : Nat} (hp : (p : Int) < N.n) (hq : (q : Int) < N.n) (h : ¬ HoldsP N (rAt rs) p q) : UpR N (setAt rs p q) := by
  intro S hS u v hu hv hs
  have h1 := U S hS u v hu hv hs
  rw [rAt_setAt (by have := D.1; omega) (by have := row_len D hp; omega)]
  split
  · rename_i e
    obtain ⟨rfl, rfl⟩ := e
    exact absurd ((hS u v hu hv hs).mono C fun a b ha hb hab => U S hS a b ha hb hab) h
  · exact h1
def allT (n : Nat) : List (List Bool) := List.replicate n (List.replicate n true)
theorem allT_dim {N : NF} {n : Nat} (h : N.n = n) : DimOk N (allT n) := by
  refine ⟨by simp [allT, h], fun r hr => ?_⟩
  rw [List.eq_of_mem_replicate hr]; simp [h]
theorem allT_up {N : NF} {n : Nat} (h : N.n = n) : UpR N (allT n) := by
  intro S _ p q hp hq _
  have h1 : p < n := by omega
  have h2 : q < n := by omega
  simp [rAt, allT, List.getD, h1, h2]
structure PrI (N : NF) (rs0 rs : List (List Bool)) (ch : Bool) (done : Nat → Nat → Prop) : Prop where
  d : DimOk N rs
  u : UpR N rs
  no : ch = false → rs = rs0 ∧ ∀ p q, done p q → rAt rs p q = true → HoldsP N (rAt rs) p q
  ye : ch = true → cntR rs < cntR rs0
section
variable {N : NF} {rs0 rs : List (List Bool)} {ch : Bool} {done done' : Nat → Nat → Prop} {p q : Nat}
theorem PrI.start (D : DimOk N rs0) (U : UpR N rs0) : PrI N rs0 rs0 false (fun _ _ => False) := ⟨D, U, fun _ => ⟨rfl, fun _ _ h => h.elim⟩, fun h => by cases h⟩
theorem PrI.weak (I : PrI N rs0 rs ch done) (h : ∀ p q, done' p q → done p q) : PrI N rs0 rs ch done' := ⟨I.d, I.u, fun e => ⟨(I.no e).1, fun p q hd => (I.no e).2 p q (h p q hd)⟩, I.ye⟩
theorem PrI.keep (I : PrI N rs0 rs ch done) (h : rAt rs p q = true → HoldsP N (rAt rs) p q) : PrI N rs0 rs ch (fun u v => done u v ∨ (u = p ∧ v = q)) :=
  ⟨I.d, I.u, fun e => ⟨(I.no e).1, fun u v hd hr => hd.elim (fun z => (I.no e).2 u v z hr) fun ⟨e1, e2⟩ => by subst e1; subst e2; exact h hr⟩, I.ye⟩
theorem PrI.cut (C : NOk N) (I : PrI N rs0 rs ch done) (hp : (p : Int) < N.n) (hq : (q : Int) < N.n) (hr : rAt rs p q = true) (h : ¬ HoldsP N (rAt rs) p q) : PrI N rs0 (setAt rs p q) true done' := by
  have hc := cntR_setAt hr
  refine ⟨dim_setAt I.d p q, I.u.prune C I.d hp hq h, (fun e => by cases e), fun _ => ?_⟩
  cases hch : ch with
  | false => rw [(I.no hch).1] at hc ⊢; exact hc
  | true => have := I.ye hch; omega
end
theorem PrI.fin {N : NF} {rs0 rs : List (List Bool)} (I : PrI N rs0 rs false (fun u v => (u : Int) < N.n ∧ (v : Int) < N.n)) : RelOk N rs :=
  ⟨I.d, fun p q hp hq hr => (I.no rfl).2 p q ⟨hp, hq⟩ hr, I.u⟩
theorem id_sim (N : NF) : SimR N (fun p q => decide (p = q)) := fun p q _ _ h => by
  have e : (p : Int) = q := of_decide_eq_true h
  rw [e]
  exact ⟨fun z => z, fun xu hxu => ⟨xu, hxu, rfl, by simp⟩⟩
end Go.Am.Ar
set_option linter.unusedVariables false
set_option linter.unusedSimpArgs false
set_option maxRecDepth 10000
namespace Go.Am.Ar
open Go.Am renaming pchk → P1, pold → P2, PKNo → P3, ppack → P4, PObj.under → P5, pput → P6, ptset → P7, ptget → P8, pev → P9, ofAV → P10, ofAV1 → P11, ppad → P12, pfill → P13, prepl → P14, AO.effect → P15
open List renaming replicate → L1
open Nat renaming reduceAdd → N1, reduceSub → N2, reduceMul → N3, reduceLT → N4, reduceLeDiff → N5, reduceEqDiff → N6, reduceBEq → N7
open Int renaming reduceToNat → I1, reduceLT → I2, reduceLE → I3, reduceEq → I4, reduceAdd → I5, reduceSub → I6, reduceNeg → I7
section
variable {tab : FuncId → Option AF} (T : HasA tab)
include T
end
end Go.Am.Ar

