/- Contract: does an automaton simulate another (simulate.Between)?, and what goes with it. -/
import Derived.Test.YtfapjojfiaiidaaSimulateDecidesG3
import Derived.Test.YtfapjojfiaiidaaSimulateDecidesG2
import Derived.Test.YtfapjojfiaiidaaSimulateDecidesG1
set_option linter.unusedVariables false
set_option linter.unusedSimpArgs false
set_option maxRecDepth 10000
namespace Go.Am.Ar
open Go.Am renaming pchk → P1, pold → P2, PKNo → P3, ppack → P4, PObj.under → P5, pput → P6, ptset → P7, ptget → P8, pev → P9, ofAV → P10, ofAV1 → P11, ppad → P12, pfill → P13, prepl → P14, AO.effect → P15
open List renaming replicate → L1
open Nat renaming reduceAdd → N1, reduceSub → N2, reduceMul → N3, reduceLT → N4, reduceLeDiff → N5, reduceEqDiff → N6, reduceBEq → N7
open Int renaming reduceToNat → I1, reduceLT → I2, reduceLE → I3, reduceEq → I4, reduceAdd → I5, reduceSub → I6, reduceNeg → I7
theorem uniE_ok {A B : NF} (h : uniE A B = 0) : checkN A = 0 ∧ checkN B = 0 ∧ A.vs = B.vs ∧ ¬ 64 < A.n + B.n ∧ ¬ 512 < (A.es.length : Int) + B.es.length := by
  unfold uniE at h
  split at h
  · split at h
    · split at h
      · split at h
        · cases h
        · split at h
          · cases h
          · rename_i a b c d e; exact ⟨a, b, c, d, e⟩
      · cases h
    · contradiction
  · contradiction
theorem posM_shift {a n : Int} {xs ys : List Int} (h1 : posM a (-1) xs = true) (h2 : posM n (-1) ys = true) (ha : 0 ≤ a) (hn : 0 ≤ n) : posM (a + n) (-1) (xs ++ shI a ys) = true := by
  have r1 := posM_rise h1
  have r2 := posM_rise h2
  refine posM_of (List.pairwise_append.2 ⟨r1.1, ?_, fun x hx y hy => ?_⟩) fun x hx => ?_
  · unfold shI; rw [List.pairwise_map]; exact r2.1.imp fun h => by omega
  · obtain ⟨z, hz, rfl⟩ := List.mem_map.1 hy
    have := r1.2 x hx; have := r2.2 z hz; omega
  · rcases List.mem_append.1 hx with h | h
    · have := r1.2 x h; omega
    · obtain ⟨z, hz, rfl⟩ := List.mem_map.1 h
      have := r2.2 z hz; omega
theorem uni_nok {A B : NF} (h : uniE A B = 0) : NOk (uniN A B) := by
  obtain ⟨a, b, c, d, e⟩ := uniE_ok h
  have CA := nok_of a
  have CB := nok_of b
  have na0 := CA.n0
  have nb0 := CB.n0
  refine ⟨CA.v0, CA.v6, by show 0 ≤ A.n + B.n; omega, by show A.n + B.n ≤ 64; omega, by show (A.es ++ B.es.map (shG A.n)).length ≤ 512; simp; omega, posM_shift CA.st CB.st na0 nb0, posM_shift CA.fi CB.fi na0 nb0, fun x hx => ?_⟩
  show 0 ≤ x.fr ∧ x.fr < A.n + B.n ∧ 0 ≤ x.to ∧ x.to < A.n + B.n ∧ cubeM A.vs x.ps x.ng = 0
  rcases List.mem_append.1 hx with hx | hx
  · obtain ⟨q1, q2, q3, q4, q5⟩ := CA.ed x hx
    exact ⟨by omega, by omega, by omega, by omega, q5⟩
  · obtain ⟨y, hy, rfl⟩ := List.mem_map.1 hx
    obtain ⟨q1, q2, q3, q4, q5⟩ := CB.ed y hy
    refine ⟨by show 0 ≤ A.n + y.fr; omega, by show A.n + y.fr < _; omega, by show 0 ≤ A.n + y.to; omega, by show A.n + y.to < _; omega, by rw [c]; exact q5⟩
theorem uni_bn {A B : NF} (BA : BnN A) (BB : BnN B) (h : uniE A B = 0) : BnN (uniN A B) := by
  have C := uni_nok h
  have n64 := C.n64
  have h1 := posM_len C.st n64
  have h2 := posM_len C.fi n64
  have h3 := C.e512
  refine ⟨by show _ < 1000000000000; omega, by show _ < 1000000000000; omega, by show _ < 1000000000000; omega, fun x hx => ?_⟩
  rcases List.mem_append.1 hx with hx | hx
  · exact BA.b x hx
  · obtain ⟨y, hy, rfl⟩ := List.mem_map.1 hx
    exact BB.b y hy
def BtwP (A B : NF) (rs : List (List Bool)) : Prop := ∀ p ∈ A.st, ∃ q ∈ B.st, rAt rs p (A.n + q) = true
def BtwA (A B : NF) (b : Bool) (e : Int) : Prop := (uniE A B ≠ 0 ∧ b = false ∧ e = uniE A B) ∨ (uniE A B = 0 ∧ e = 0 ∧ ∃ rs, RelOk (uniN A B) rs ∧ (b = true ↔ BtwP A B rs))
theorem BtwA.eq {A B : NF} {b b' : Bool} {e e' : Int} (h : BtwA A B b e) (h' : BtwA A B b' e') : b = b' ∧ e = e' := by
  rcases h with ⟨h1, h2, h3⟩ | ⟨h1, h2, rs, h3, h4⟩ <;> rcases h' with ⟨g1, g2, g3⟩ | ⟨g1, g2, rs', g3, g4⟩ <;> first | contradiction | skip
  · subst_vars; exact ⟨rfl, rfl⟩
  · obtain rfl := RelOk.unique (uni_nok h1) h3 g3
    exact ⟨by rw [Bool.eq_iff_iff, h4, g4], by rw [h2, g2]⟩
theorem rel_at {N : NF} {rs : List (List Bool)} (D : DimOk N rs) {p q : Int} (p0 : 0 ≤ p) (pn : p < N.n) (q0 : 0 ≤ q) (qn : q < N.n) : ∃ row, rs[p.toNat]? = some row ∧ row[q.toNat]? = some (rAt rs p q) ∧ (row.length : Int) = N.n ∧ (rs.length : Int) = N.n := by
  have := D.1
  obtain ⟨row, g1⟩ := some_of (xs := rs) (k := p.toNat) (by omega)
  have h1 := D.2 row (List.mem_of_getElem? g1)
  obtain ⟨b, g2⟩ := some_of (xs := row) (k := q.toNat) (by omega)
  exact ⟨row, g1, by rw [g2]; simp [rAt, List.getD, g1, g2], h1, this⟩
section
variable {tab : FuncId → Option AF} (T : HasA tab)
include T
theorem idx13_p {M : Mem} {K : PV → Mem → Prop} {f o : Bool} {xs : List Int} {g : FuncId} {cap : List PV} {F : Int → Bool} (hm : xs.length < 1000000000000) (hu : underL 0 cap = true)
    (hf : ∀ x ∈ xs, ∀ (M' : Mem) (K' : PV → Mem → Prop), K' (.bool (F x)) M' → SemC tab g (p64 x :: cap) M' K')
    (hk1 : (∀ x ∈ xs, F x = false) → K (p64 (-1)) M) (hk2 : ∀ (k : Nat) (x : Int), x ∈ xs → F x = true → K (p64 k) M) :
    SemC tab 86 [slI f o .i64 xs, .func (.func g) [] cap] M K := by
  refine SemC_pure T.h86 (by simp only [PP, P1, P2, P3, P4, P5, P6, P7, P8, P9, P10, P11, P12, P13, P14, L1, P15, N1, N2, N3, N4, N5, N6, N7, I1, I2, I3, I4, I5, I6, I7, reduceIte, reduceCtorEq, PV.under, hu]) ?_
  simp only [af86, PP, P1, P2, P3, P4, P5, P6, P7, P8, P9, P10, P11, P12, P13, P14, L1, P15, N1, N2, N3, N4, N5, N6, N7, I1, I2, I3, I4, I5, I6, I7, reduceIte, reduceCtorEq]
  refine loop1 (fun (k : Nat) => k ≤ xs.length ∧ ∀ j, j < k → ∀ x, xs[j]? = some x → F x = false) (fun k => [slI f o .i64 xs, .func (.func g) [] cap, .junk, .junk, .junk, .junk, .junk, p64 xs.length, p64 k, .junk, .junk, .junk, .junk, .junk, .junk, .junk, .junk, .junk, .junk])
    (fun k => []) (fun k => xs.length - k) 0 ⟨by omega, by intro j h; omega⟩ (by simp only [PWeak_nil, PWeak_junk, PWeak_same, Int.cast_ofNat_Int, List.length_append, List.length_cons, List.length_nil, Nat.zero_add]) rfl ?_
  intro k ⟨hle, hd⟩ ih
  refine SemW_go (by kernel_rfl) ?_
  simp only [PP, P1, P2, P3, P4, P5, P6, P7, P8, P9, P10, P11, P12, P13, P14, L1, P15, N1, N2, N3, N4, N5, N6, N7, I1, I2, I3, I4, I5, I6, I7, reduceIte, reduceCtorEq]
  refine QIf.intro (fun c => ?_) (fun c => ?_)
  · have hk' : k < xs.length := by omega
    have k0 : (0 : Int) ≤ k := by omega
    have hwk := wrap_succ (k := k) (by show _ < 1000000000000; omega)
    obtain ⟨x, gx⟩ := some_of (xs := xs) (k := k) hk'
    simp only [PP, P1, P2, P3, P4, P5, P6, P7, P8, P9, P10, P11, P12, P13, P14, L1, P15, N1, N2, N3, N4, N5, N6, N7, I1, I2, I3, I4, I5, I6, I7, reduceIte, reduceCtorEq, c, k0, gx]
    refine hf x (List.mem_of_getElem? gx) _ _ ?_
    cases hF : F x with
    | true =>
      simp only [PP, P1, P2, P3, P4, P5, P6, P7, P8, P9, P10, P11, P12, P13, P14, L1, P15, N1, N2, N3, N4, N5, N6, N7, I1, I2, I3, I4, I5, I6, I7, reduceIte, reduceCtorEq]
      exact hk2 k x (List.mem_of_getElem? gx) hF
    | false =>
      simp only [PP, P1, P2, P3, P4, P5, P6, P7, P8, P9, P10, P11, P12, P13, P14, L1, P15, N1, N2, N3, N4, N5, N6, N7, I1, I2, I3, I4, I5, I6, I7, reduceIte, reduceCtorEq, hwk]
      refine SemW_weak (ih (k + 1) ⟨by omega, fun j hj y gy => ?_⟩ (by omega)) (by simp only [PWeak_nil, PWeak_junk, PWeak_same, Int.cast_ofNat_Int, List.length_append, List.length_cons, List.length_nil, Nat.zero_add])
      by_cases e : j = k
      · subst e; rw [gx] at gy; cases gy; exact hF
      · exact hd j (by omega) y gy
  · simp only [PP, P1, P2, P3, P4, P5, P6, P7, P8, P9, P10, P11, P12, P13, P14, L1, P15, N1, N2, N3, N4, N5, N6, N7, I1, I2, I3, I4, I5, I6, I7, reduceIte, reduceCtorEq, c]
    exact hk1 fun x hx => by
      obtain ⟨j, hj⟩ := List.getElem?_of_mem hx
      exact hd j (by have := getSome_lt hj; omega) x hj
theorem cont13_p {M : Mem} {K : PV → Mem → Prop} {f o : Bool} {xs : List Int} {g : FuncId} {cap : List PV} {F : Int → Bool} (hm : xs.length < 1000000000000) (hu : underL 0 cap = true)
    (hf : ∀ x ∈ xs, ∀ (M' : Mem) (K' : PV → Mem → Prop), K' (.bool (F x)) M' → SemC tab g (p64 x :: cap) M' K')
    (hk1 : (∀ x ∈ xs, F x = false) → K (.bool false) M) (hk2 : (∃ x, x ∈ xs ∧ F x = true) → K (.bool true) M) :
    SemC tab 66 [slI f o .i64 xs, .func (.func g) [] cap] M K := by
  refine SemC_pure T.h66 (by simp only [PP, P1, P2, P3, P4, P5, P6, P7, P8, P9, P10, P11, P12, P13, P14, L1, P15, N1, N2, N3, N4, N5, N6, N7, I1, I2, I3, I4, I5, I6, I7, reduceIte, reduceCtorEq, PV.under, hu]) ?_
  simp only [af66, PP, P1, P2, P3, P4, P5, P6, P7, P8, P9, P10, P11, P12, P13, P14, L1, P15, N1, N2, N3, N4, N5, N6, N7, I1, I2, I3, I4, I5, I6, I7, reduceIte, reduceCtorEq]
  refine idx13_p T hm hu hf (fun h => ?_) (fun k x hx hF => ?_)
  · have e : ¬ (0 : Int) ≤ -1 := by omega
    simp only [PP, P1, P2, P3, P4, P5, P6, P7, P8, P9, P10, P11, P12, P13, P14, L1, P15, N1, N2, N3, N4, N5, N6, N7, I1, I2, I3, I4, I5, I6, I7, reduceIte, reduceCtorEq, e]
    exact hk1 h
  · have e : (0 : Int) ≤ k := by omega
    simp only [PP, P1, P2, P3, P4, P5, P6, P7, P8, P9, P10, P11, P12, P13, P14, L1, P15, N1, N2, N3, N4, N5, N6, N7, I1, I2, I3, I4, I5, I6, I7, reduceIte, reduceCtorEq, e]
    exact hk2 ⟨x, hx, hF⟩
theorem btw2_p {M : Mem} {K : PV → Mem → Prop} {f1 o1 f2 o2 f3 o3 f4 o4 f5 o5 : Bool} {A : NF} {rs : List (List Bool)} {p q : Int} {row : List Bool} (p0 : 0 ≤ p) (p1 : p < rs.length) (g1 : rs[p.toNat]? = some row) (q0 : 0 ≤ A.n + q) (q1 : A.n + q < row.length) (h6 : A.n + q ≤ 64) (g2 : row[(A.n + q).toNat]? = some (rAt rs p (A.n + q)))
    (hk : K (.bool (rAt rs p (A.n + q))) M) : SemC tab 67 [p64 q, .cp [slBr f4 o4 f5 o5 rs] 0, .cp [p64 p] 0, .cp (nfC f1 o1 f2 o2 f3 o3 A) 0] M K := by
  refine SemC_pure T.h67 (by simp only [PP, P1, P2, P3, P4, P5, P6, P7, P8, P9, P10, P11, P12, P13, P14, L1, P15, N1, N2, N3, N4, N5, N6, N7, I1, I2, I3, I4, I5, I6, I7, reduceIte, reduceCtorEq, PV.under, egL_und, under_slBr, brs_und]) ?_
  have w : IntKind.i64.wrap (A.n + q) = A.n + q := wrap64 (by omega) (by omega)
  simp only [af67, PP, P1, P2, P3, P4, P5, P6, P7, P8, P9, P10, P11, P12, P13, P14, L1, P15, N1, N2, N3, N4, N5, N6, N7, I1, I2, I3, I4, I5, I6, I7, reduceIte, reduceCtorEq, p0, p1, g1, q0, q1, w, g2]
  exact hk
theorem btw1_p {M : Mem} {K : PV → Mem → Prop} {f1 o1 f2 o2 f3 o3 g1 p1 g2 p2 g3 p3 f4 o4 f5 o5 : Bool} {A B : NF} {rs : List (List Bool)} {p : Int} (h : uniE A B = 0) (D : DimOk (uniN A B) rs) (hp : p ∈ A.st)
    (hk : ∀ b, (b = true ↔ ¬ ∃ q ∈ B.st, rAt rs p (A.n + q) = true) → K (.bool b) M) : SemC tab 65 [p64 p, .cp (nfC g1 p1 g2 p2 g3 p3 B) 0, .cp [slBr f4 o4 f5 o5 rs] 0, .cp (nfC f1 o1 f2 o2 f3 o3 A) 0] M K := by
  refine SemC_pureS T.h65 (by simp only [PP, P1, P2, P3, P4, P5, P6, P7, P8, P9, P10, P11, P12, P13, P14, L1, P15, N1, N2, N3, N4, N5, N6, N7, I1, I2, I3, I4, I5, I6, I7, reduceIte, reduceCtorEq, PV.under, egL_und, under_slBr, brs_und]) ?_
  obtain ⟨a, b, c, d, e⟩ := uniE_ok h
  have CA := nok_of a
  have CB := nok_of b
  have na0 := CA.n0
  have nb0 := CB.n0
  have nb64 := CB.n64
  have hpa := posM_mem CA.st p hp
  have hsb := posM_len CB.st nb64
  simp only [af65]
  refine SemW_seq (SemW_of ?_)
  simp only [PP, P1, P2, P3, P4, P5, P6, P7, P8, P9, P10, P11, P12, P13, P14, L1, P15, N1, N2, N3, N4, N5, N6, N7, I1, I2, I3, I4, I5, I6, I7, reduceIte, reduceCtorEq]
  refine SemW_re (GStep.freezeP (b := [.junk, .cp (nfC g1 p1 g2 p2 g3 p3 B) 0, .cp [slBr f4 o4 f5 o5 rs] 0, .cp (nfC f1 o1 f2 o2 f3 o3 A) 0, .cp [p64 p] 0, .junk, .junk, .junk, .junk, .junk, .junk]) 0 (Nat.zero_le _) rfl (by simp only [PFrzP_nil, PFrzP_junk, PFrzP_same, PFrzP_ptr]) rfl) ?_
  refine SemW_of ?_
  simp only [PP, P1, P2, P3, P4, P5, P6, P7, P8, P9, P10, P11, P12, P13, P14, L1, P15, N1, N2, N3, N4, N5, N6, N7, I1, I2, I3, I4, I5, I6, I7, reduceIte, reduceCtorEq]
  refine cont13_p T (F := fun q => rAt rs p (A.n + q)) (by omega) (by simp only [PP, P1, P2, P3, P4, P5, P6, P7, P8, P9, P10, P11, P12, P13, P14, L1, P15, N1, N2, N3, N4, N5, N6, N7, I1, I2, I3, I4, I5, I6, I7, reduceIte, reduceCtorEq, PV.under, egL_und, under_slBr, brs_und]) (fun q hq M' K' hK' => ?_) (fun hall => ?_) (fun ⟨q, hq, hF⟩ => ?_)
  · have hqb := posM_mem CB.st q hq
    have hn : (uniN A B).n = A.n + B.n := rfl
    obtain ⟨row, k1, k2, k3, k4⟩ := rel_at D (p := p) (q := A.n + q) (by omega) (by omega) (by omega) (by omega)
    exact btw2_p T hpa.1 (by omega) k1 (by omega) (by omega) (by omega) k2 hK'
  · simp only [PP, P1, P2, P3, P4, P5, P6, P7, P8, P9, P10, P11, P12, P13, P14, L1, P15, N1, N2, N3, N4, N5, N6, N7, I1, I2, I3, I4, I5, I6, I7, reduceIte, reduceCtorEq]
    exact hk true ⟨fun _ ⟨q, hq, hF⟩ => (by rw [hall q hq] at hF; cases hF), fun _ => rfl⟩
  · simp only [PP, P1, P2, P3, P4, P5, P6, P7, P8, P9, P10, P11, P12, P13, P14, L1, P15, N1, N2, N3, N4, N5, N6, N7, I1, I2, I3, I4, I5, I6, I7, reduceIte, reduceCtorEq]
    exact hk false ⟨(fun h => by cases h), fun h => absurd ⟨q, hq, hF⟩ h⟩
open Classical in
set_option maxHeartbeats 1000000 in
theorem between_p {M : Mem} {K : PV → Mem → Prop} {f1 o1 f2 o2 f3 o3 g1 p1 g2 p2 g3 p3 : Bool} {A B : NF} (BA : BnN A) (BB : BnN B) (hk : ∀ b e, BtwA A B b e → K (.tuple [.bool b, p64 e]) M) :
    SemC tab 34 [.agg (nfC f1 o1 f2 o2 f3 o3 A), .agg (nfC g1 p1 g2 p2 g3 p3 B)] M K := by
  refine SemC_pureS T.h34 (by simp only [PP, P1, P2, P3, P4, P5, P6, P7, P8, P9, P10, P11, P12, P13, P14, L1, P15, N1, N2, N3, N4, N5, N6, N7, I1, I2, I3, I4, I5, I6, I7, reduceIte, reduceCtorEq, under_slE]) ?_
  simp only [af34]
  refine SemW_seq (SemW_of ?_)
  simp only [PP, P1, P2, P3, P4, P5, P6, P7, P8, P9, P10, P11, P12, P13, P14, L1, P15, N1, N2, N3, N4, N5, N6, N7, I1, I2, I3, I4, I5, I6, I7, reduceIte, reduceCtorEq]
  refine SemW_re (GStep.freezeP (b := [.junk, .junk, .cp (nfC f1 o1 f2 o2 f3 o3 A) 0, .ptr 1 0 0, .bool false, p64 0, .junk, .junk, .junk, .junk, .junk, .junk, .junk, .junk, .junk, .junk, .junk, .junk, .junk, .junk, .junk, .junk, .junk, .junk, .junk, .junk, .junk]) 0 (Nat.zero_le _) rfl (by simp only [PFrzP_nil, PFrzP_junk, PFrzP_same, PFrzP_ptr]) rfl) ?_
  refine SemW_re (GStep.freezeP (b := [.junk, .junk, .cp (nfC f1 o1 f2 o2 f3 o3 A) 0, .cp (nfC g1 p1 g2 p2 g3 p3 B) 0, .bool false, p64 0, .junk, .junk, .junk, .junk, .junk, .junk, .junk, .junk, .junk, .junk, .junk, .junk, .junk, .junk, .junk, .junk, .junk, .junk, .junk, .junk, .junk]) 1 (Nat.zero_le _) rfl (by simp only [PFrzP_nil, PFrzP_junk, PFrzP_same, PFrzP_ptr]) rfl) ?_
  refine SemW_seq (SemW_of ?_)
  simp only [PP, P1, P2, P3, P4, P5, P6, P7, P8, P9, P10, P11, P12, P13, P14, L1, P15, N1, N2, N3, N4, N5, N6, N7, I1, I2, I3, I4, I5, I6, I7, reduceIte, reduceCtorEq]
  refine unionN_p T BA BB ?_
  by_cases hu : uniE A B = 0
  rotate_left
  · simp only [PP, P1, P2, P3, P4, P5, P6, P7, P8, P9, P10, P11, P12, P13, P14, L1, P15, N1, N2, N3, N4, N5, N6, N7, I1, I2, I3, I4, I5, I6, I7, reduceIte, reduceCtorEq]
    refine SemW_of ?_
    simp only [PP, P1, P2, P3, P4, P5, P6, P7, P8, P9, P10, P11, P12, P13, P14, L1, P15, N1, N2, N3, N4, N5, N6, N7, I1, I2, I3, I4, I5, I6, I7, reduceIte, reduceCtorEq, hu]
    exact hk false _ (.inl ⟨hu, rfl, rfl⟩)
  have hQ : uniQ A B = uniN A B := by unfold uniQ; rw [if_pos hu]
  obtain ⟨a, b, c, d, e⟩ := uniE_ok hu
  have CA := nok_of a
  have na64 := CA.n64
  have hsa := posM_len CA.st na64
  rw [hu, hQ]
  simp only [PP, P1, P2, P3, P4, P5, P6, P7, P8, P9, P10, P11, P12, P13, P14, L1, P15, N1, N2, N3, N4, N5, N6, N7, I1, I2, I3, I4, I5, I6, I7, reduceIte, reduceCtorEq]
  refine SemW_seq (SemW_of ?_)
  simp only [PP, P1, P2, P3, P4, P5, P6, P7, P8, P9, P10, P11, P12, P13, P14, L1, P15, N1, N2, N3, N4, N5, N6, N7, I1, I2, I3, I4, I5, I6, I7, reduceIte, reduceCtorEq]
  refine SemW_seq (SemW_of ?_)
  simp only [PP, P1, P2, P3, P4, P5, P6, P7, P8, P9, P10, P11, P12, P13, P14, L1, P15, N1, N2, N3, N4, N5, N6, N7, I1, I2, I3, I4, I5, I6, I7, reduceIte, reduceCtorEq]
  refine relation_p T (uni_nok hu) (uni_bn BA BB hu) fun rs R => ?_
  simp only [PP, P1, P2, P3, P4, P5, P6, P7, P8, P9, P10, P11, P12, P13, P14, L1, P15, N1, N2, N3, N4, N5, N6, N7, I1, I2, I3, I4, I5, I6, I7, reduceIte, reduceCtorEq]
  refine SemW_re (GStep.freezeP (b := [.junk, .junk, .cp (nfC f1 o1 f2 o2 f3 o3 A) 0, .cp (nfC g1 p1 g2 p2 g3 p3 B) 0, .bool false, p64 0, .junk, .junk, .cp [slBr false true false true rs] 0, .junk, .junk, .junk, .junk, .junk, .junk, .junk, .junk, .junk, .junk, .junk, .junk, .junk, .junk, .junk, .junk, .junk, .junk]) 3 (Nat.zero_le _) rfl (by simp only [PFrzP_nil, PFrzP_junk, PFrzP_same, PFrzP_ptr]) rfl) ?_
  refine SemW_of ?_
  simp only [PP, P1, P2, P3, P4, P5, P6, P7, P8, P9, P10, P11, P12, P13, P14, L1, P15, N1, N2, N3, N4, N5, N6, N7, I1, I2, I3, I4, I5, I6, I7, reduceIte, reduceCtorEq]
  refine cont13_p T (F := fun p => decide (¬ ∃ q ∈ B.st, rAt rs p (A.n + q) = true)) (by omega) (by simp only [PP, P1, P2, P3, P4, P5, P6, P7, P8, P9, P10, P11, P12, P13, P14, L1, P15, N1, N2, N3, N4, N5, N6, N7, I1, I2, I3, I4, I5, I6, I7, reduceIte, reduceCtorEq, PV.under, egL_und, under_slBr, brs_und]) (fun p hp M' K' hK' => ?_) (fun hall => ?_) (fun ⟨p, hp, hF⟩ => ?_)
  · refine btw1_p T hu R.d hp fun b hb => ?_
    have : b = decide (¬ ∃ q ∈ B.st, rAt rs p (A.n + q) = true) := by rw [Bool.eq_iff_iff, hb]; simp
    rw [this]; exact hK'
  · simp only [PP, P1, P2, P3, P4, P5, P6, P7, P8, P9, P10, P11, P12, P13, P14, L1, P15, N1, N2, N3, N4, N5, N6, N7, I1, I2, I3, I4, I5, I6, I7, reduceIte, reduceCtorEq]
    exact hk true 0 (.inr ⟨hu, rfl, rs, R, fun _ p hp => Classical.not_not.1 (of_decide_eq_false (hall p hp)), fun _ => rfl⟩)
  · simp only [PP, P1, P2, P3, P4, P5, P6, P7, P8, P9, P10, P11, P12, P13, P14, L1, P15, N1, N2, N3, N4, N5, N6, N7, I1, I2, I3, I4, I5, I6, I7, reduceIte, reduceCtorEq]
    exact hk false 0 (.inr ⟨hu, rfl, rs, R, (fun h => by cases h), fun h => absurd (h p hp) (of_decide_eq_true hF)⟩)
end
end Go.Am.Ar
set_option linter.unusedVariables false
set_option linter.unusedSimpArgs false
set_option maxRecDepth 10000
namespace Go.Am.Ar
open Go.Am renaming pchk → P1, pold → P2, PKNo → P3, ppack → P4, PObj.under → P5, pput → P6, ptset → P7, ptget → P8, pev → P9, ofAV → P10, ofAV1 → P11, ppad → P12, pfill → P13, prepl → P14, AO.effect → P15
open List renaming replicate → L1
open Nat renaming reduceAdd → N1, reduceSub → N2, reduceMul → N3, reduceLT → N4, reduceLeDiff → N5, reduceEqDiff → N6, reduceBEq → N7
open Int renaming reduceToNat → I1, reduceLT → I2, reduceLE → I3, reduceEq → I4, reduceAdd → I5, reduceSub → I6, reduceNeg → I7
section
variable {tab : FuncId → Option AF} (T : HasA tab)
include T
theorem copyL3_p {K : PV → Mem → Prop} {f1 o1 f2 o2 f3 o3 : Bool} {N : NF} (B : BnN N)
    (hk : K (.agg [p64 N.vs, p64 N.n, .ref 5 0 1 0 N.st.length, .ref 6 0 1 0 N.fi.length, .ref 7 0 4 0 N.es.length])
      ([.gone, .gone, .cells 0 0 [p64 0, p64 0, .nils, .nils, .nils], .cells 0 0 (nfC f1 o1 f2 o2 f3 o3 N), .cells 0 1 [p64 N.vs, p64 N.n, .ref 5 0 1 0 N.st.length, .ref 6 0 1 0 N.fi.length, .ref 7 0 4 0 N.es.length], .cells 0 0 (N.st.map p64), .cells 0 0 (N.fi.map p64), .cells 0 0 (egL N.es)])) :
    SemC tab 13 [.agg (nfC f1 o1 f2 o2 f3 o3 N)] [.gone, .gone, .cells 0 0 [p64 0, p64 0, .nils, .nils, .nils]] K := by
  refine SemC_fn T.h13 ?_
  simp only [af13, PP, P1, P2, P3, P4, P5, P6, P7, P8, P9, P10, P11, P12, P13, P14, L1, P15, N1, N2, N3, N4, N5, N6, N7, I1, I2, I3, I4, I5, I6, I7, reduceIte, reduceCtorEq]
  refine copyI_p T B.s ?_
  simp only [PP, P1, P2, P3, P4, P5, P6, P7, P8, P9, P10, P11, P12, P13, P14, L1, P15, N1, N2, N3, N4, N5, N6, N7, I1, I2, I3, I4, I5, I6, I7, reduceIte, reduceCtorEq]
  refine copyI_p T B.f ?_
  simp only [PP, P1, P2, P3, P4, P5, P6, P7, P8, P9, P10, P11, P12, P13, P14, L1, P15, N1, N2, N3, N4, N5, N6, N7, I1, I2, I3, I4, I5, I6, I7, reduceIte, reduceCtorEq]
  refine copyE_p T B.e ?_
  simp only [PP, P1, P2, P3, P4, P5, P6, P7, P8, P9, P10, P11, P12, P13, P14, L1, P15, N1, N2, N3, N4, N5, N6, N7, I1, I2, I3, I4, I5, I6, I7, reduceIte, reduceCtorEq]
  exact hk
set_option maxHeartbeats 2000000 in
theorem unionR_p {M : Mem} {K : PV → Mem → Prop} {f1 o1 f2 o2 f3 o3 g1 p1 g2 p2 g3 p3 : Bool} {A B : NF} (BA : BnN A) (BB : BnN B) (hk : K (.tuple [.agg (nfC false true false true false true (uniQ A B)), p64 (uniE A B)]) M) :
    SemC tab 64 [.agg (nfC f1 o1 f2 o2 f3 o3 A), .agg (nfC g1 p1 g2 p2 g3 p3 B)] M K := by
  refine SemC_wk ?_
  refine SemC_pureS T.h64 (by simp only [PP, P1, P2, P3, P4, P5, P6, P7, P8, P9, P10, P11, P12, P13, P14, L1, P15, N1, N2, N3, N4, N5, N6, N7, I1, I2, I3, I4, I5, I6, I7, reduceIte, reduceCtorEq, under_slE]) ?_
  have bad : ∀ e, e ≠ 0 → uniE A B = e → ∃ r', PvWk (.tuple [.agg [p64 0, p64 0, .nils, .nils, .nils], p64 e]) r' ∧ K r' M := fun e he hu => by
    refine ⟨_, wk_two wk_zeroN, ?_⟩
    have e1 : uniQ A B = zeroN := by unfold uniQ; rw [if_neg (by rw [hu]; exact he)]
    rw [e1, hu] at hk; exact hk
  simp only [af64]
  refine SemW_seq (SemW_of ?_)
  simp only [PP, P1, P2, P3, P4, P5, P6, P7, P8, P9, P10, P11, P12, P13, P14, L1, P15, N1, N2, N3, N4, N5, N6, N7, I1, I2, I3, I4, I5, I6, I7, reduceIte, reduceCtorEq]
  refine SemW_re (GStep.freezeP (b := [.junk, .junk, .cp (nfC f1 o1 f2 o2 f3 o3 A) 0, .ptr 1 0 0, .ptr 2 0 0, p64 0, .junk, .junk, .junk, .junk, .junk, .junk, .junk, .junk, .junk, .junk, .junk, .junk, .junk, .junk, .junk, .junk, .junk, .junk, .junk, .junk, .junk, .junk, .junk, .junk, .junk, .junk, .junk, .junk, .junk, .junk, .junk, .junk, .junk, .junk, .junk, .junk, .junk, .junk, .junk, .junk, .junk, .junk, .junk, .junk, .junk, .junk, .junk, .junk, .junk, .junk, .junk, .junk, .junk, .junk, .junk, .junk, .junk, .junk, .junk, .junk, .junk, .junk, .junk, .junk, .junk, .junk, .junk, .junk, .junk, .junk, .junk, .junk, .junk, .junk, .junk, .junk, .junk, .junk, .junk, .junk, .junk, .junk, .junk, .junk, .junk, .junk, .junk, .junk, .junk, .junk, .junk, .junk, .junk, .junk, .junk, .junk, .junk, .junk, .junk, .junk, .junk, .junk, .junk, .junk, .junk, .junk, .junk, .junk, .junk, .junk, .junk, .junk, .junk, .junk, .junk, .junk, .junk, .junk, .junk, .junk]) 0 (Nat.zero_le _) rfl (by simp only [PFrzP_nil, PFrzP_junk, PFrzP_same, PFrzP_ptr]) rfl) ?_
  refine SemW_re (GStep.freezeP (b := [.junk, .junk, .cp (nfC f1 o1 f2 o2 f3 o3 A) 0, .cp (nfC g1 p1 g2 p2 g3 p3 B) 0, .ptr 2 0 0, p64 0, .junk, .junk, .junk, .junk, .junk, .junk, .junk, .junk, .junk, .junk, .junk, .junk, .junk, .junk, .junk, .junk, .junk, .junk, .junk, .junk, .junk, .junk, .junk, .junk, .junk, .junk, .junk, .junk, .junk, .junk, .junk, .junk, .junk, .junk, .junk, .junk, .junk, .junk, .junk, .junk, .junk, .junk, .junk, .junk, .junk, .junk, .junk, .junk, .junk, .junk, .junk, .junk, .junk, .junk, .junk, .junk, .junk, .junk, .junk, .junk, .junk, .junk, .junk, .junk, .junk, .junk, .junk, .junk, .junk, .junk, .junk, .junk, .junk, .junk, .junk, .junk, .junk, .junk, .junk, .junk, .junk, .junk, .junk, .junk, .junk, .junk, .junk, .junk, .junk, .junk, .junk, .junk, .junk, .junk, .junk, .junk, .junk, .junk, .junk, .junk, .junk, .junk, .junk, .junk, .junk, .junk, .junk, .junk, .junk, .junk, .junk, .junk, .junk, .junk, .junk, .junk, .junk, .junk, .junk, .junk]) 1 (Nat.zero_le _) rfl (by simp only [PFrzP_nil, PFrzP_junk, PFrzP_same, PFrzP_ptr]) rfl) ?_
  refine SemW_of ?_
  simp only [PP, P1, P2, P3, P4, P5, P6, P7, P8, P9, P10, P11, P12, P13, P14, L1, P15, N1, N2, N3, N4, N5, N6, N7, I1, I2, I3, I4, I5, I6, I7, reduceIte, reduceCtorEq]
  refine checkR_p T BA ?_
  by_cases c1 : checkN A = 0
  rotate_left
  · simp only [PP, P1, P2, P3, P4, P5, P6, P7, P8, P9, P10, P11, P12, P13, P14, L1, P15, N1, N2, N3, N4, N5, N6, N7, I1, I2, I3, I4, I5, I6, I7, reduceIte, reduceCtorEq, c1]
    exact bad _ c1 (by unfold uniE; rw [if_neg c1])
  simp only [PP, P1, P2, P3, P4, P5, P6, P7, P8, P9, P10, P11, P12, P13, P14, L1, P15, N1, N2, N3, N4, N5, N6, N7, I1, I2, I3, I4, I5, I6, I7, reduceIte, reduceCtorEq, c1]
  refine checkR_p T BB ?_
  by_cases c2 : checkN B = 0
  rotate_left
  · simp only [PP, P1, P2, P3, P4, P5, P6, P7, P8, P9, P10, P11, P12, P13, P14, L1, P15, N1, N2, N3, N4, N5, N6, N7, I1, I2, I3, I4, I5, I6, I7, reduceIte, reduceCtorEq, c2]
    exact bad _ c2 (by unfold uniE; rw [if_pos c1, if_neg c2])
  simp only [PP, P1, P2, P3, P4, P5, P6, P7, P8, P9, P10, P11, P12, P13, P14, L1, P15, N1, N2, N3, N4, N5, N6, N7, I1, I2, I3, I4, I5, I6, I7, reduceIte, reduceCtorEq, c2]
  have CA := nok_of c1
  have CB := nok_of c2
  have na0 := CA.n0
  have na64 := CA.n64
  have nb0 := CB.n0
  have nb64 := CB.n64
  have ea := CA.e512
  have eb := CB.e512
  by_cases c3 : A.vs = B.vs
  rotate_left
  · simp only [PP, P1, P2, P3, P4, P5, P6, P7, P8, P9, P10, P11, P12, P13, P14, L1, P15, N1, N2, N3, N4, N5, N6, N7, I1, I2, I3, I4, I5, I6, I7, reduceIte, reduceCtorEq, c3]
    exact bad 7 (by decide) (by unfold uniE; rw [if_pos c1, if_pos c2, if_neg c3])
  have wn : IntKind.i64.wrap (A.n + B.n) = A.n + B.n := wrap64 (by omega) (by omega)
  have we : IntKind.i64.wrap ((A.es.length : Int) + B.es.length) = (A.es.length : Int) + B.es.length := wrap64 (by omega) (by omega)
  simp only [PP, P1, P2, P3, P4, P5, P6, P7, P8, P9, P10, P11, P12, P13, P14, L1, P15, N1, N2, N3, N4, N5, N6, N7, I1, I2, I3, I4, I5, I6, I7, reduceIte, reduceCtorEq, c3, wn]
  refine QIf.intro (fun c4 => ?_) (fun c4 => ?_)
  · simp only [PP, P1, P2, P3, P4, P5, P6, P7, P8, P9, P10, P11, P12, P13, P14, L1, P15, N1, N2, N3, N4, N5, N6, N7, I1, I2, I3, I4, I5, I6, I7, reduceIte, reduceCtorEq, c4]
    exact bad 4 (by decide) (by unfold uniE; rw [if_pos c1, if_pos c2, if_pos c3, if_pos c4])
  simp only [PP, P1, P2, P3, P4, P5, P6, P7, P8, P9, P10, P11, P12, P13, P14, L1, P15, N1, N2, N3, N4, N5, N6, N7, I1, I2, I3, I4, I5, I6, I7, reduceIte, reduceCtorEq, c4, we]
  refine QIf.intro (fun c5 => ?_) (fun c5 => ?_)
  · simp only [PP, P1, P2, P3, P4, P5, P6, P7, P8, P9, P10, P11, P12, P13, P14, L1, P15, N1, N2, N3, N4, N5, N6, N7, I1, I2, I3, I4, I5, I6, I7, reduceIte, reduceCtorEq, c5]
    exact bad 4 (by decide) (by unfold uniE; rw [if_pos c1, if_pos c2, if_pos c3, if_neg c4, if_pos c5])
  have hu : uniE A B = 0 := by unfold uniE; rw [if_pos c1, if_pos c2, if_pos c3, if_neg c4, if_neg c5]
  have hQ : uniQ A B = uniN A B := by unfold uniQ; rw [if_pos hu]
  rw [hu, hQ] at hk
  simp only [PP, P1, P2, P3, P4, P5, P6, P7, P8, P9, P10, P11, P12, P13, P14, L1, P15, N1, N2, N3, N4, N5, N6, N7, I1, I2, I3, I4, I5, I6, I7, reduceIte, reduceCtorEq, c5, wn]
  refine copyL3_p T BA ?_
  simp only [PP, P1, P2, P3, P4, P5, P6, P7, P8, P9, P10, P11, P12, P13, P14, L1, P15, N1, N2, N3, N4, N5, N6, N7, I1, I2, I3, I4, I5, I6, I7, reduceIte, reduceCtorEq, wn]
  have hsb := posM_len CB.st nb64
  have hfb := posM_len CB.fi nb64
  have hsa := posM_len CA.st na64
  have hfa := posM_len CA.fi na64
  have hs := posM_mem CB.st
  have hf := posM_mem CB.fi
  refine loop4 (fun (k g v vm : Nat) => k ≤ B.st.length) (fun k g v vm => [.junk, .junk, .cp (nfC f1 o1 f2 o2 f3 o3 A) 0, .cp (nfC g1 p1 g2 p2 g3 p3 B) 0, .ptr 2 0 0, .junk, .junk, .ptr 8 0 0, p64 k, .junk, .junk, .junk, .junk, .junk, .junk, .junk, .junk, .junk, .junk, .junk, .junk, .junk, .junk, .junk, .junk, .junk, .junk, .junk, .junk, .junk, .junk, .junk, .junk, .junk, .junk, .junk, .junk, .junk, .junk, .junk, .junk, .junk, .junk, .junk, .junk, .junk, .junk, .junk, .junk, .junk, .junk, .junk, .junk, .junk, .junk, .junk, .junk, .junk, .junk, .junk, .junk, .junk, .junk, .junk, .junk, .junk, .junk, .junk, .junk, .junk, .junk, .junk, .junk, .junk, .junk, .junk, .junk, .junk, .junk, .junk, .junk, .junk, .junk, .junk, .junk, .junk, .junk, .junk, .junk, .junk, .junk, .junk, .junk, .junk, .junk, .junk, .junk, .junk, .junk, .junk, .junk, .junk, .junk, .junk, .junk, .junk, .junk, .junk, .junk, .junk, .junk, .junk, .junk, .junk, .junk, .junk, .junk, .junk, .junk, .junk, .junk, .junk, .junk, .junk, .junk, .junk]) (fun k g v vm => [.gone, .gone, .cells 0 0 [p64 0, p64 0, .nils, .nils, .nils], .cells 0 0 (nfC f1 o1 f2 o2 f3 o3 A), .cells 0 1 [p64 A.vs, p64 A.n, .ref 5 0 1 0 A.st.length, .ref 6 0 1 0 A.fi.length, .ref 7 0 4 0 A.es.length], .cells g v ((A.st ++ shI A.n (B.st.take k)).map p64), .cells 0 0 (A.fi.map p64), .cells 0 0 (egL A.es), .cells 0 vm [p64 A.vs, p64 (A.n + B.n), .ref 5 g 1 0 (A.st.length + k), .ref 6 0 1 0 A.fi.length, .ref 7 0 4 0 A.es.length]]) (fun k _ _ _ => B.st.length - k) 0 0 0 2 (by omega) (by simp only [PWeak_nil, PWeak_junk, PWeak_same, Int.cast_ofNat_Int, List.length_append, List.length_cons, List.length_nil, Nat.zero_add]) (by simp [shI]) ?_
  intro k ga va vm hle ih
  refine SemW_go (by kernel_rfl) ?_
  simp only [PP, P1, P2, P3, P4, P5, P6, P7, P8, P9, P10, P11, P12, P13, P14, L1, P15, N1, N2, N3, N4, N5, N6, N7, I1, I2, I3, I4, I5, I6, I7, reduceIte, reduceCtorEq]
  refine QIf.intro (fun c => ?_) (fun c => ?_)
  · have hk' : k < B.st.length := by omega
    obtain ⟨x, gx⟩ := some_of hk'
    have hx := hs x (List.mem_of_getElem? gx)
    have k0 : (0 : Int) ≤ k := by omega
    have kl : (k : Int) < B.st.length := by omega
    have hwk := wrap_succ (k := k) (by show _ < 1000000000000; omega)
    have hwx : IntKind.i64.wrap (A.n + x) = A.n + x := wrap64 (by omega) (by omega)
    have hln : (shI A.n (B.st.take k)).length = k := by simp [shI]; omega
    have b8 : (A.st.length + k + 1) * 8 ≤ 140737488355328 := by omega
    have b1 : A.st.length + k ≤ 9223372036854775806 := by omega
    have hps : psub (A.st.map p64 ++ (shI A.n (B.st.take k)).map p64) 0 (A.st.length + k) = A.st.map p64 ++ (shI A.n (B.st.take k)).map p64 := psub_all _ _ (by simp [hln])
    simp only [PP, P1, P2, P3, P4, P5, P6, P7, P8, P9, P10, P11, P12, P13, P14, L1, P15, N1, N2, N3, N4, N5, N6, N7, I1, I2, I3, I4, I5, I6, I7, reduceIte, reduceCtorEq, c, k0, kl, gx, hwk, hwx, b8, b1, hps, hln]
    have htk : shI A.n (B.st.take (k + 1)) = shI A.n (B.st.take k) ++ [A.n + x] := by rw [List.take_add_one, gx]; simp [shI]
    exact SemW_to (ih (k + 1) (ga + 1) 0 (vm + 1) (by omega) (by omega)) (by simp only [PWeak_nil, PWeak_junk, PWeak_same, Int.cast_ofNat_Int, List.length_append, List.length_cons, List.length_nil, Nat.zero_add]) (by rw [htk]; simp [Nat.add_assoc])
  have hkn : k = B.st.length := by omega
  subst hkn
  rw [List.take_of_length_le (Nat.le_refl _)]
  simp only [PP, P1, P2, P3, P4, P5, P6, P7, P8, P9, P10, P11, P12, P13, P14, L1, P15, N1, N2, N3, N4, N5, N6, N7, I1, I2, I3, I4, I5, I6, I7, reduceIte, reduceCtorEq, c]
  refine loop4 (fun (k g v vm : Nat) => k ≤ B.fi.length) (fun k g v vm => [.junk, .junk, .cp (nfC f1 o1 f2 o2 f3 o3 A) 0, .cp (nfC g1 p1 g2 p2 g3 p3 B) 0, .ptr 2 0 0, .junk, .junk, .ptr 8 0 0, .junk, p64 k, .junk, .junk, .junk, .junk, .junk, .junk, .junk, .junk, .junk, .junk, .junk, .junk, .junk, .junk, .junk, .junk, .junk, .junk, .junk, .junk, .junk, .junk, .junk, .junk, .junk, .junk, .junk, .junk, .junk, .junk, .junk, .junk, .junk, .junk, .junk, .junk, .junk, .junk, .junk, .junk, .junk, .junk, .junk, .junk, .junk, .junk, .junk, .junk, .junk, .junk, .junk, .junk, .junk, .junk, .junk, .junk, .junk, .junk, .junk, .junk, .junk, .junk, .junk, .junk, .junk, .junk, .junk, .junk, .junk, .junk, .junk, .junk, .junk, .junk, .junk, .junk, .junk, .junk, .junk, .junk, .junk, .junk, .junk, .junk, .junk, .junk, .junk, .junk, .junk, .junk, .junk, .junk, .junk, .junk, .junk, .junk, .junk, .junk, .junk, .junk, .junk, .junk, .junk, .junk, .junk, .junk, .junk, .junk, .junk, .junk, .junk, .junk, .junk, .junk, .junk, .junk]) (fun k g v vm => [.gone, .gone, .cells 0 0 [p64 0, p64 0, .nils, .nils, .nils], .cells 0 0 (nfC f1 o1 f2 o2 f3 o3 A), .cells 0 1 [p64 A.vs, p64 A.n, .ref 5 0 1 0 A.st.length, .ref 6 0 1 0 A.fi.length, .ref 7 0 4 0 A.es.length], .cells ga va (A.st.map p64 ++ (shI A.n B.st).map p64), .cells g v ((A.fi ++ shI A.n (B.fi.take k)).map p64), .cells 0 0 (egL A.es), .cells 0 vm [p64 A.vs, p64 (A.n + B.n), .ref 5 ga 1 0 (A.st.length + B.st.length), .ref 6 g 1 0 (A.fi.length + k), .ref 7 0 4 0 A.es.length]]) (fun k _ _ _ => B.fi.length - k) 0 0 0 vm (by omega) (by simp only [PWeak_nil, PWeak_junk, PWeak_same, Int.cast_ofNat_Int, List.length_append, List.length_cons, List.length_nil, Nat.zero_add]) (by simp [shI]) ?_
  intro k gb vb vm hle ih
  refine SemW_go (by kernel_rfl) ?_
  simp only [PP, P1, P2, P3, P4, P5, P6, P7, P8, P9, P10, P11, P12, P13, P14, L1, P15, N1, N2, N3, N4, N5, N6, N7, I1, I2, I3, I4, I5, I6, I7, reduceIte, reduceCtorEq]
  refine QIf.intro (fun c => ?_) (fun c => ?_)
  · have hk' : k < B.fi.length := by omega
    obtain ⟨x, gx⟩ := some_of hk'
    have hx := hf x (List.mem_of_getElem? gx)
    have k0 : (0 : Int) ≤ k := by omega
    have kl : (k : Int) < B.fi.length := by omega
    have hwk := wrap_succ (k := k) (by show _ < 1000000000000; omega)
    have hwx : IntKind.i64.wrap (A.n + x) = A.n + x := wrap64 (by omega) (by omega)
    have hln : (shI A.n (B.fi.take k)).length = k := by simp [shI]; omega
    have b8 : (A.fi.length + k + 1) * 8 ≤ 140737488355328 := by omega
    have b1 : A.fi.length + k ≤ 9223372036854775806 := by omega
    have hps : psub (A.fi.map p64 ++ (shI A.n (B.fi.take k)).map p64) 0 (A.fi.length + k) = A.fi.map p64 ++ (shI A.n (B.fi.take k)).map p64 := psub_all _ _ (by simp [hln])
    simp only [PP, P1, P2, P3, P4, P5, P6, P7, P8, P9, P10, P11, P12, P13, P14, L1, P15, N1, N2, N3, N4, N5, N6, N7, I1, I2, I3, I4, I5, I6, I7, reduceIte, reduceCtorEq, c, k0, kl, gx, hwk, hwx, b8, b1, hps, hln]
    have htk : shI A.n (B.fi.take (k + 1)) = shI A.n (B.fi.take k) ++ [A.n + x] := by rw [List.take_add_one, gx]; simp [shI]
    exact SemW_to (ih (k + 1) (gb + 1) 0 (vm + 1) (by omega) (by omega)) (by simp only [PWeak_nil, PWeak_junk, PWeak_same, Int.cast_ofNat_Int, List.length_append, List.length_cons, List.length_nil, Nat.zero_add]) (by rw [htk]; simp [Nat.add_assoc])
  have hkn : k = B.fi.length := by omega
  subst hkn
  rw [List.take_of_length_le (Nat.le_refl _)]
  simp only [PP, P1, P2, P3, P4, P5, P6, P7, P8, P9, P10, P11, P12, P13, P14, L1, P15, N1, N2, N3, N4, N5, N6, N7, I1, I2, I3, I4, I5, I6, I7, reduceIte, reduceCtorEq, c]
  refine loop5 (fun (k gc vc vm : Nat) (G : Mem) => k ≤ B.es.length) (fun k gc vc vm G => [.junk, .junk, .cp (nfC f1 o1 f2 o2 f3 o3 A) 0, .cp (nfC g1 p1 g2 p2 g3 p3 B) 0, .ptr 2 0 0, .junk, .junk, .ptr 8 0 0, .junk, .junk, p64 k, .junk, .junk, .junk, .junk, .junk, .junk, .junk, .junk, .junk, .junk, .junk, .junk, .junk, .junk, .junk, .junk, .junk, .junk, .junk, .junk, .junk, .junk, .junk, .junk, .junk, .junk, .junk, .junk, .junk, .junk, .junk, .junk, .junk, .junk, .junk, .junk, .junk, .junk, .junk, .junk, .junk, .junk, .junk, .junk, .junk, .junk, .junk, .junk, .junk, .junk, .junk, .junk, .junk, .junk, .junk, .junk, .junk, .junk, .junk, .junk, .junk, .junk, .junk, .junk, .junk, .junk, .junk, .junk, .junk, .junk, .junk, .junk, .junk, .junk, .junk, .junk, .junk, .junk, .junk, .junk, .junk, .junk, .junk, .junk, .junk, .junk, .junk, .junk, .junk, .junk, .junk, .junk, .junk, .junk, .junk, .junk, .junk, .junk, .junk, .junk, .junk, .junk, .junk, .junk, .junk, .junk, .junk, .junk, .junk, .junk, .junk, .junk, .junk, .junk, .junk]) (fun k gc vc vm G => .gone :: .gone :: .cells 0 0 [p64 0, p64 0, .nils, .nils, .nils] :: .cells 0 0 (nfC f1 o1 f2 o2 f3 o3 A) :: .cells 0 1 [p64 A.vs, p64 A.n, .ref 5 0 1 0 A.st.length, .ref 6 0 1 0 A.fi.length, .ref 7 0 4 0 A.es.length] :: .cells ga va (A.st.map p64 ++ (shI A.n B.st).map p64) :: .cells gb vb (A.fi.map p64 ++ (shI A.n B.fi).map p64) :: .cells gc vc (egL (A.es ++ (B.es.take k).map (shG A.n))) :: .cells 0 vm [p64 A.vs, p64 (A.n + B.n), .ref 5 ga 1 0 (A.st.length + B.st.length), .ref 6 gb 1 0 (A.fi.length + B.fi.length), .ref 7 gc 4 0 (A.es.length + k)] :: G) (fun k _ _ _ _ => B.es.length - k) 0 0 0 vm [] (by omega) (by simp only [PWeak_nil, PWeak_junk, PWeak_same, Int.cast_ofNat_Int, List.length_append, List.length_cons, List.length_nil, Nat.zero_add]) (by simp) ?_
  intro k gc vc vm G hle ih
  obtain ⟨acc, hacc⟩ : ∃ acc, acc = A.es ++ (B.es.take k).map (shG A.n) := ⟨_, rfl⟩
  have hal : acc.length = A.es.length + k := by rw [hacc]; simp; omega
  rw [← hacc]
  refine SemW_go (by kernel_rfl) ?_
  simp only [PP, P1, P2, P3, P4, P5, P6, P7, P8, P9, P10, P11, P12, P13, P14, L1, P15, N1, N2, N3, N4, N5, N6, N7, I1, I2, I3, I4, I5, I6, I7, reduceIte, reduceCtorEq]
  refine QIf.intro (fun c => ?_) (fun c => ?_)
  · have hk' : k < B.es.length := by omega
    obtain ⟨e, ge⟩ := some_of hk'
    have hem := List.mem_of_getElem? ge
    obtain ⟨q1, q2, q3, q4, _⟩ := CB.ed e hem
    have k0 : (0 : Int) ≤ k := by omega
    have kl : (k : Int) < B.es.length := by omega
    have hwk := wrap_succ (k := k) (by show _ < 1000000000000; omega)
    have h4 := psub_egL ge
    have hl4 : k * 4 + 4 ≤ (egL B.es).length := by rw [egL_len]; exact eg_le ge
    have w1 : IntKind.i64.wrap (A.n + e.fr) = A.n + e.fr := wrap64 (by omega) (by omega)
    have w2 : IntKind.i64.wrap (A.n + e.to) = A.n + e.to := wrap64 (by omega) (by omega)
    have b8 : (A.es.length + k + 1) * 24 ≤ 140737488355328 := by omega
    have b1 : A.es.length + k ≤ 9223372036854775806 := by omega
    have hps := psub_egAll hal
    have hl5 : (A.es.length + k) * 4 ≤ (egL acc).length := by rw [egL_len]; omega
    simp only [PP, P1, P2, P3, P4, P5, P6, P7, P8, P9, P10, P11, P12, P13, P14, L1, P15, N1, N2, N3, N4, N5, N6, N7, I1, I2, I3, I4, I5, I6, I7, reduceIte, reduceCtorEq, c, k0, kl, h4, hl4, w1, w2, gk0, sk0, hwk, b8, b1, hps, hl5]
    have htk : A.es ++ (B.es.take (k + 1)).map (shG A.n) = acc ++ [shG A.n e] := by rw [List.take_add_one, ge, hacc]; simp
    exact SemW_to (ih (k + 1) (gc + 1) 0 (vm + 1) (G ++ [.cells 0 1 (egC e)]) (by omega) (by omega)) (by simp only [PWeak_nil, PWeak_junk, PWeak_same, Int.cast_ofNat_Int, List.length_append, List.length_cons, List.length_nil, Nat.zero_add]) (by rw [htk, ← egL_app]; rfl)
  have hkn : k = B.es.length := by omega
  subst hkn
  rw [List.take_of_length_le (Nat.le_refl _)] at hacc
  simp only [PP, P1, P2, P3, P4, P5, P6, P7, P8, P9, P10, P11, P12, P13, P14, L1, P15, N1, N2, N3, N4, N5, N6, N7, I1, I2, I3, I4, I5, I6, I7, reduceIte, reduceCtorEq, c]
  have hi : ∀ (a b : List Int) (g v n : Nat), n = a.length + b.length → frzO (some (.cells g v (a.map p64 ++ b.map p64))) g 1 0 n = some (slI false true .i64 (a ++ b)) := fun a b g v n h => by
    subst h
    rw [← List.map_append, frzO_cells (by simp) (underL_map _ p64 (fun x => by simp [PV.under]) _), Nat.mul_one, psub_all _ _ (by simp)]
    simp [slI]
  have l1 : (shI A.n B.st).length = B.st.length := by simp [shI]
  have l2 : (shI A.n B.fi).length = B.fi.length := by simp [shI]
  have h1 := hi A.st (shI A.n B.st) ga va _ (congrArg _ l1.symm)
  have h2 := hi A.fi (shI A.n B.fi) gb vb _ (congrArg _ l2.symm)
  have h3 := frzO_egL (g := gc) (v := vc) hal
  simp only [PP, P1, P2, P3, P4, P5, P6, P7, P8, P9, P10, P11, P12, P13, P14, L1, P15, N1, N2, N3, N4, N5, N6, N7, I1, I2, I3, I4, I5, I6, I7, reduceIte, reduceCtorEq, h1, h2, h3]
  refine ⟨_, PvWk.refl _, ?_⟩
  unfold uniN at hk
  rw [← hacc] at hk
  exact hk
end
end Go.Am.Ar
set_option linter.unusedVariables false
set_option linter.unusedSimpArgs false
set_option maxRecDepth 10000
namespace Go.Am.Ar
open Go.Am renaming pchk → P1, pold → P2, PKNo → P3, ppack → P4, PObj.under → P5, pput → P6, ptset → P7, ptget → P8, pev → P9, ofAV → P10, ofAV1 → P11, ppad → P12, pfill → P13, prepl → P14, AO.effect → P15
open List renaming replicate → L1
open Nat renaming reduceAdd → N1, reduceSub → N2, reduceMul → N3, reduceLT → N4, reduceLeDiff → N5, reduceEqDiff → N6, reduceBEq → N7
open Int renaming reduceToNat → I1, reduceLT → I2, reduceLE → I3, reduceEq → I4, reduceAdd → I5, reduceSub → I6, reduceNeg → I7
def tfB (j n : Nat) : List Bool := List.replicate j true ++ List.replicate (n - j) false
theorem tfB_len {j n : Nat} (h : j ≤ n) : (tfB j n).length = n := by simp [tfB]; omega
theorem tfB_set {j n : Nat} (h : j < n) : (tfB j n).set j true = tfB (j + 1) n := by
  unfold tfB
  rw [List.set_append_right _ _ (by simp), List.length_replicate, Nat.sub_self, show n - j = (n - (j + 1)) + 1 by omega, List.replicate_succ, List.set_cons_zero, List.replicate_succ', List.append_assoc]
  rfl
theorem cntR_allT (n : Nat) : cntR (allT n) = n * n := by
  unfold allT
  have : ∀ k, cntR (List.replicate k (List.replicate n true)) = k * n := by
    intro k
    induction k with
    | zero => simp [cntR]
    | succ k ih =>
      rw [List.replicate_succ, cntR, ih, Nat.succ_mul]
      simp; omega
  exact this n
section
variable {tab : FuncId → Option AF} (T : HasA tab)
include T
abbrev stQ (vR n : Nat) (l : List (Nat × List Bool)) : Mem := .gone :: .cells 0 vR (refsR 2 n) :: rowsO l
set_option maxHeartbeats 1000000 in
theorem refRelation_p {M : Mem} {K : PV → Mem → Prop} {f1 o1 f2 o2 f3 o3 : Bool} {N : NF} (C : NOk N) (B : BnN N) (hk : ∀ rs, RelOk N rs → K (slBr false true false true rs) M) :
    SemC tab 15 [.agg (nfC f1 o1 f2 o2 f3 o3 N)] M K := by
  have n0 := C.n0
  have n64 := C.n64
  obtain ⟨n, hn⟩ : ∃ n : Nat, N.n = n := ⟨N.n.toNat, by omega⟩
  have b0 : (0 : Int) ≤ n := by omega
  have b1 : (n : Int) * 24 ≤ 140737488355328 := by omega
  have b3 : (n : Int) * 1 ≤ 140737488355328 := by omega
  have b2 : (n : Int) ≤ 9223372036854775807 := by omega
  refine SemC_pureS T.h15 (by simp only [PP, P1, P2, P3, P4, P5, P6, P7, P8, P9, P10, P11, P12, P13, P14, L1, P15, N1, N2, N3, N4, N5, N6, N7, I1, I2, I3, I4, I5, I6, I7, reduceIte, reduceCtorEq, under_slE]) ?_
  simp only [af15]
  refine SemW_seq (SemW_of ?_)
  simp only [PP, P1, P2, P3, P4, P5, P6, P7, P8, P9, P10, P11, P12, P13, P14, L1, P15, N1, N2, N3, N4, N5, N6, N7, I1, I2, I3, I4, I5, I6, I7, reduceIte, reduceCtorEq]
  refine SemW_re (GStep.freezeP (b := [.junk, .cp (nfC f1 o1 f2 o2 f3 o3 N) 0, .junk, .junk, .junk, .junk, .junk, .junk, .junk, .junk, .junk, .junk, .junk, .junk, .junk, .junk, .junk, .junk, .junk, .junk, .junk, .junk, .junk, .junk, .junk, .junk, .junk, .junk, .junk, .junk, .junk, .junk, .junk, .junk, .junk, .junk, .junk, .junk, .junk, .junk, .junk, .junk, .junk, .junk, .junk, .junk, .junk, .junk, .junk, .junk, .junk, .junk, .junk, .junk, .junk, .junk, .junk, .junk, .junk, .junk, .junk, .junk, .junk, .junk, .junk, .junk, .junk, .junk, .junk, .junk, .junk, .junk, .junk, .junk, .junk, .junk, .junk, .junk, .junk, .junk, .junk, .junk]) 0 (Nat.zero_le _) rfl (by simp only [PFrzP_nil, PFrzP_junk, PFrzP_same, PFrzP_ptr]) rfl) ?_
  refine SemW_seq (SemW_of ?_)
  simp only [PP, P1, P2, P3, P4, P5, P6, P7, P8, P9, P10, P11, P12, P13, P14, L1, P15, N1, N2, N3, N4, N5, N6, N7, I1, I2, I3, I4, I5, I6, I7, reduceIte, reduceCtorEq, hn]
  refine ⟨⟨b0, Int.le_refl _, b1, b2⟩, ?_⟩
  refine SemW_seq (SemW_of ?_)
  simp only [PP, P1, P2, P3, P4, P5, P6, P7, P8, P9, P10, P11, P12, P13, P14, L1, P15, N1, N2, N3, N4, N5, N6, N7, I1, I2, I3, I4, I5, I6, I7, reduceIte, reduceCtorEq]
  refine loop3 (fun (k vR : Nat) (l : List (Nat × List Bool)) => k ≤ n ∧ l.length = k ∧ ∀ x ∈ l, x.2 = List.replicate n true) (fun k _ _ => [.junk, .cp (nfC f1 o1 f2 o2 f3 o3 N) 0, .junk, .ref 1 0 1 0 n, p64 k, .junk, .junk, .junk, .junk, .junk, .junk, .junk, .junk, .junk, .junk, .junk, .junk, .junk, .junk, .junk, .junk, .junk, .junk, .junk, .junk, .junk, .junk, .junk, .junk, .junk, .junk, .junk, .junk, .junk, .junk, .junk, .junk, .junk, .junk, .junk, .junk, .junk, .junk, .junk, .junk, .junk, .junk, .junk, .junk, .junk, .junk, .junk, .junk, .junk, .junk, .junk, .junk, .junk, .junk, .junk, .junk, .junk, .junk, .junk, .junk, .junk, .junk, .junk, .junk, .junk, .junk, .junk, .junk, .junk, .junk, .junk, .junk, .junk, .junk, .junk, .junk, .junk]) (fun k vR l => .gone :: .cells 0 vR (tabA n fun u => if u < k then .ref (u + 2) 0 1 0 n else .nils) :: rowsO l) (fun k _ _ => n - k) 0 0 [] ⟨by omega, rfl, by simp⟩ (by simp only [PWeak_nil, PWeak_junk, PWeak_same, Int.cast_ofNat_Int, List.length_append, List.length_cons, List.length_nil, Nat.zero_add]) (by rw [tabA_rep]; rfl) ?_
  intro k vR l ⟨hkn, hl, hall⟩ ih
  refine SemW_go (by kernel_rfl) ?_
  simp only [PP, P1, P2, P3, P4, P5, P6, P7, P8, P9, P10, P11, P12, P13, P14, L1, P15, N1, N2, N3, N4, N5, N6, N7, I1, I2, I3, I4, I5, I6, I7, reduceIte, reduceCtorEq, hn]
  refine QIf.intro (fun c => ?_) (fun c => ?_)
  · have hk' : k < n := by omega
    have k0 : (0 : Int) ≤ k := by omega
    have kn : (k : Int) < n := by omega
    have hwk := wrap_succ (k := k) (by show _ < 1000000000000; omega)
    have htl := tabA_len n fun u => if u < k then PV.ref (u + 2) 0 1 0 n else .nils
    have hrl : (rowsO l).length = k := by simp [rowsO, hl]
    have k1 : k + 1 ≤ n := hk'
    simp only [PP, P1, P2, P3, P4, P5, P6, P7, P8, P9, P10, P11, P12, P13, P14, L1, P15, N1, N2, N3, N4, N5, N6, N7, I1, I2, I3, I4, I5, I6, I7, reduceIte, reduceCtorEq, c, hn, b0, b2, b3, k0, kn, htl, k1, tabA_set _ hk', Int.le_refl, hrl]
    have e1 : (tabA n fun v => if v = k then PV.ref (k + 1 + 1) 0 1 0 n else if v < k then .ref (v + 2) 0 1 0 n else .nils) = tabA n fun u => if u < k + 1 then .ref (u + 2) 0 1 0 n else .nils := tabA_congr fun u hu => by
      by_cases q : u = k
      · subst q; rw [if_pos rfl, if_pos (by omega)]
      · rw [if_neg q]
        by_cases q2 : u < k
        · rw [if_pos q2, if_pos (by omega)]
        · rw [if_neg q2, if_neg (by omega)]
    obtain ⟨R, hR⟩ : ∃ R, R = tabA n fun u => if u < k + 1 then PV.ref (u + 2) 0 1 0 n else .nils := ⟨_, rfl⟩
    have hRk : R[k]? = some (.ref (k + 2) 0 1 0 n) := by rw [hR, tabA_get hk', if_pos (by omega)]
    have hRl : R.length = n := by rw [hR]; exact tabA_len _ _
    rw [e1, ← hR]
    refine loop2 (fun (j v : Nat) => j ≤ n) (fun j v => [.junk, .cp (nfC f1 o1 f2 o2 f3 o3 N) 0, .junk, .ref 1 0 1 0 n, p64 k, p64 j, .junk, .junk, .junk, .junk, .junk, .junk, .junk, .junk, .junk, .junk, .junk, .junk, .junk, .junk, .junk, .junk, .junk, .junk, .junk, .junk, .junk, .junk, .junk, .junk, .junk, .junk, .junk, .junk, .junk, .junk, .junk, .junk, .junk, .junk, .junk, .junk, .junk, .junk, .junk, .junk, .junk, .junk, .junk, .junk, .junk, .junk, .junk, .junk, .junk, .junk, .junk, .junk, .junk, .junk, .junk, .junk, .junk, .junk, .junk, .junk, .junk, .junk, .junk, .junk, .junk, .junk, .junk, .junk, .junk, .junk, .junk, .junk, .junk, .junk, .junk, .junk]) (fun j v => .gone :: .cells 0 (vR + 1) R :: rowsO (l ++ [(v, tfB j n)])) (fun j _ => n - j) 0 0 (by omega) (by simp only [PWeak_nil, PWeak_junk, PWeak_same, Int.cast_ofNat_Int, List.length_append, List.length_cons, List.length_nil, Nat.zero_add]) (by simp [rowsO, tfB]) ?_
    intro j v hj ih2
    refine SemW_go (by kernel_rfl) ?_
    simp only [PP, P1, P2, P3, P4, P5, P6, P7, P8, P9, P10, P11, P12, P13, P14, L1, P15, N1, N2, N3, N4, N5, N6, N7, I1, I2, I3, I4, I5, I6, I7, reduceIte, reduceCtorEq, hn]
    refine QIf.intro (fun d => ?_) (fun d => ?_)
    · have hj' : j < n := by omega
      have j0 : (0 : Int) ≤ j := by omega
      have jn : (j : Int) < n := by omega
      have hwj := wrap_succ (k := j) (by show _ < 1000000000000; omega)
      have hat : (rowsO (l ++ [(v, tfB j n)]))[k]? = some (.cells 0 v ((tfB j n).map PV.bool)) := by
        have := rowsO_at (l := l ++ [(v, tfB j n)]) (p := k) (v := v) (r := tfB j n) (by rw [List.getElem?_append_right (by omega), hl, Nat.sub_self]; rfl) []
        simpa using this
      have hset : (rowsO (l ++ [(v, tfB j n)])).set k (.cells 0 (v + 1) (((tfB j n).map PV.bool).set j (.bool true))) = rowsO (l ++ [(v + 1, tfB (j + 1) n)]) := by
        rw [← tfB_set hj', ← List.map_set]
        have := rowsO_set (l := l ++ [(v, tfB j n)]) (p := k) (by simp [hl]) (v + 1) ((tfB j n).set j true) []
        simp only [List.append_nil] at this
        rw [this, List.set_append_right _ _ (by omega), hl, Nat.sub_self]; rfl
      have htl2 := tfB_len hj
      have j1 : j + 1 ≤ n := hj'
      simp only [PP, P1, P2, P3, P4, P5, P6, P7, P8, P9, P10, P11, P12, P13, P14, L1, P15, N1, N2, N3, N4, N5, N6, N7, I1, I2, I3, I4, I5, I6, I7, reduceIte, reduceCtorEq, d, k0, kn, hRk, hRl, hat, hset, j0, jn, hwj, htl2, j1]
      exact SemW_to (ih2 (j + 1) (v + 1) (by omega) (by omega)) (by simp only [PWeak_nil, PWeak_junk, PWeak_same, Int.cast_ofNat_Int, List.length_append, List.length_cons, List.length_nil, Nat.zero_add]) rfl
    have hjn : j = n := by omega
    subst hjn
    simp only [PP, P1, P2, P3, P4, P5, P6, P7, P8, P9, P10, P11, P12, P13, P14, L1, P15, N1, N2, N3, N4, N5, N6, N7, I1, I2, I3, I4, I5, I6, I7, reduceIte, reduceCtorEq, d, hwk]
    refine SemW_to (ih (k + 1) (vR + 1) (l ++ [(v, tfB j j)]) ⟨by omega, by simp [hl], fun x hx => ?_⟩ (by omega)) (by simp only [PWeak_nil, PWeak_junk, PWeak_same, Int.cast_ofNat_Int, List.length_append, List.length_cons, List.length_nil, Nat.zero_add]) (by rw [hR])
    rcases List.mem_append.1 hx with q | q
    · exact hall x q
    · rw [List.mem_singleton] at q; subst q; simp [tfB]
  have hkl : k = n := by omega
  subst hkl
  have e1 : (tabA k fun u => if u < k then PV.ref (u + 2) 0 1 0 k else .nils) = refsR 2 k := tabA_congr fun u hu => by rw [if_pos hu]
  have hrs : rsO l = allT k := by
    unfold allT rsO
    refine List.eq_replicate_iff.2 ⟨by rw [List.length_map]; exact hl, fun x hx => ?_⟩
    obtain ⟨y, hy, rfl⟩ := List.mem_map.1 hx
    exact hall y hy
  rw [e1]
  simp only [PP, P1, P2, P3, P4, P5, P6, P7, P8, P9, P10, P11, P12, P13, P14, L1, P15, N1, N2, N3, N4, N5, N6, N7, I1, I2, I3, I4, I5, I6, I7, reduceIte, reduceCtorEq, c]
  refine SemW_seq (SemW_gh ?_)
  refine SemW_of ?_
  simp only [PP, P1, P2, P3, P4, P5, P6, P7, P8, P9, P10, P11, P12, P13, P14, L1, P15, N1, N2, N3, N4, N5, N6, N7, I1, I2, I3, I4, I5, I6, I7, reduceIte, reduceCtorEq]
  have fin : ∀ (vR : Nat) (l : List (Nat × List Bool)), RelOk N (rsO l) → (rsO l).length = k → ∀ Q : List PV → Mem → Prop, (∀ M', M'[1]? = some (.cells 0 vR ((rsO l).map (slB false true))) → Q [.junk, .junk, .junk, .ref 1 0 1 0 k, .junk, .junk, .junk, .junk, .junk, .junk, .junk, .junk, .junk, .junk, .junk, .junk, .junk, .junk, .junk, .junk, .junk, .junk, .junk, .junk, .junk, .junk, .junk, .junk, .junk, .junk, .junk, .junk, .junk, .junk, .junk, .junk, .junk, .junk, .junk, .junk, .junk, .junk, .junk, .junk, .junk, .junk, .junk, .junk, .junk, .junk, .junk, .junk, .junk, .junk, .junk, .junk, .junk, .junk, .junk, .junk, .junk, .junk, .junk, .junk, .junk, .junk, .junk, .junk, .junk, .junk, .junk, .junk, .junk, .junk, .junk, .junk, .junk, .junk, .junk, .junk, .junk, .junk] M') → Gh 0 Q [.junk, .junk, .junk, .ref 1 0 1 0 k, .junk, .junk, .junk, .junk, .junk, .junk, .junk, .junk, .junk, .junk, .junk, .junk, .junk, .junk, .junk, .junk, .junk, .junk, .junk, .junk, .junk, .junk, .junk, .junk, .junk, .junk, .junk, .junk, .junk, .junk, .junk, .junk, .junk, .junk, .junk, .junk, .junk, .junk, .junk, .junk, .junk, .junk, .junk, .junk, .junk, .junk, .junk, .junk, .junk, .junk, .junk, .junk, .junk, .junk, .junk, .junk, .junk, .junk, .junk, .junk, .junk, .junk, .junk, .junk, .junk, .junk, .junk, .junk, .junk, .junk, .junk, .junk, .junk, .junk, .junk, .junk, .junk, .junk] (stQ vR k l) := fun vR l R hll Q hQ => by
    obtain ⟨M', g, h1, h3⟩ := freezeRows (a := [.junk, .junk, .junk, .ref 1 0 1 0 k, .junk, .junk, .junk, .junk, .junk, .junk, .junk, .junk, .junk, .junk, .junk, .junk, .junk, .junk, .junk, .junk, .junk, .junk, .junk, .junk, .junk, .junk, .junk, .junk, .junk, .junk, .junk, .junk, .junk, .junk, .junk, .junk, .junk, .junk, .junk, .junk, .junk, .junk, .junk, .junk, .junk, .junk, .junk, .junk, .junk, .junk, .junk, .junk, .junk, .junk, .junk, .junk, .junk, .junk, .junk, .junk, .junk, .junk, .junk, .junk, .junk, .junk, .junk, .junk, .junk, .junk, .junk, .junk, .junk, .junk, .junk, .junk, .junk, .junk, .junk, .junk, .junk, .junk]) (M := stQ vR k l) (r := 1) (b := 2) (n := k) (vR := vR) (rs := rsO l) (by omega) hll rfl (fun u row hu => by
      rw [List.getElem?_map, Option.map_eq_some_iff] at hu
      obtain ⟨⟨v', r2⟩, h1, rfl⟩ := hu
      have := R.d.2 r2 (List.mem_map.2 ⟨_, List.mem_of_getElem? h1, rfl⟩)
      refine ⟨by show r2.length = k; omega, v', ?_⟩
      simp only [List.getElem?_cons_succ]
      have := rowsO_at h1 []
      simpa using this)
    exact Gh.step g (Gh.same (hQ M' h1))
  have hfr : ∀ (vR : Nat) (rs : List (List Bool)), rs.length = k → frzO (some (.cells 0 vR (rs.map (slB false true)))) 0 1 0 k = some (slBr false true false true rs) := fun vR rs h => by
    subst h
    rw [frzO_cells (by simp) (underL_map _ (slB false true) (fun x => under_slB _ _ _ _ _ _) _), Nat.mul_one, psub_all _ _ (by simp)]
  refine loop3 (fun (rd vR : Nat) (l : List (Nat × List Bool)) => DimOk N (rsO l) ∧ UpR N (rsO l) ∧ cntR (rsO l) + rd ≤ k * k) (fun rd _ _ => [.junk, .cp (nfC f1 o1 f2 o2 f3 o3 N) 0, .junk, .ref 1 0 1 0 k, .junk, .junk, p64 rd, .junk, .junk, .junk, .junk, .junk, .junk, .junk, .junk, .junk, .junk, .junk, .junk, .junk, .junk, .junk, .junk, .junk, .junk, .junk, .junk, .junk, .junk, .junk, .junk, .junk, .junk, .junk, .junk, .junk, .junk, .junk, .junk, .junk, .junk, .junk, .junk, .junk, .junk, .junk, .junk, .junk, .junk, .junk, .junk, .junk, .junk, .junk, .junk, .junk, .junk, .junk, .junk, .junk, .junk, .junk, .junk, .junk, .junk, .junk, .junk, .junk, .junk, .junk, .junk, .junk, .junk, .junk, .junk, .junk, .junk, .junk, .junk, .junk, .junk, .junk]) (fun _ vR l => stQ vR k l) (fun rd _ _ => k * k - rd) 0 vR l ⟨by rw [hrs]; exact allT_dim hn, by rw [hrs]; exact allT_up hn, by rw [hrs, cntR_allT]; omega⟩ (by simp only [PWeak_nil, PWeak_junk, PWeak_same, Int.cast_ofNat_Int, List.length_append, List.length_cons, List.length_nil, Nat.zero_add]) rfl ?_
  intro rd vR l ⟨D, U, hcnt⟩ ih
  have hkk : k * k ≤ 64 * 64 := Nat.mul_le_mul (by omega) (by omega)
  have wm : IntKind.i64.wrap ((k : Int) * k) = ((k * k : Nat) : Int) := by rw [show (k : Int) * k = ((k * k : Nat) : Int) by simp]; exact wrap64 (by omega) (by omega)
  have hll0 : (rsO l).length = k := by have := D.1; omega
  refine SemW_go (by kernel_rfl) ?_
  simp only [PP, P1, P2, P3, P4, P5, P6, P7, P8, P9, P10, P11, P12, P13, P14, L1, P15, N1, N2, N3, N4, N5, N6, N7, I1, I2, I3, I4, I5, I6, I7, reduceIte, reduceCtorEq, hn, wm]
  refine QIf.intro (fun c => ?_) (fun c => ?_)
  rotate_left
  · have hz : cntR (rsO l) = 0 := by omega
    have hk0 : k = 0 := Classical.byContradiction fun h => by
      have := cntR_pos U (by omega)
      omega
    subst hk0
    have R : RelOk N (rsO l) := ⟨D, fun p q hp => by omega, U⟩
    simp only [PP, P1, P2, P3, P4, P5, P6, P7, P8, P9, P10, P11, P12, P13, P14, L1, P15, N1, N2, N3, N4, N5, N6, N7, I1, I2, I3, I4, I5, I6, I7, reduceIte, reduceCtorEq, c]
    refine Gh.step (GStep.weak (b := [.junk, .junk, .junk, .ref 1 0 1 0 0, .junk, .junk, .junk, .junk, .junk, .junk, .junk, .junk, .junk, .junk, .junk, .junk, .junk, .junk, .junk, .junk, .junk, .junk, .junk, .junk, .junk, .junk, .junk, .junk, .junk, .junk, .junk, .junk, .junk, .junk, .junk, .junk, .junk, .junk, .junk, .junk, .junk, .junk, .junk, .junk, .junk, .junk, .junk, .junk, .junk, .junk, .junk, .junk, .junk, .junk, .junk, .junk, .junk, .junk, .junk, .junk, .junk, .junk, .junk, .junk, .junk, .junk, .junk, .junk, .junk, .junk, .junk, .junk, .junk, .junk, .junk, .junk, .junk, .junk, .junk, .junk, .junk, .junk]) (by simp only [PWeak_nil, PWeak_junk, PWeak_same, Int.cast_ofNat_Int, List.length_append, List.length_cons, List.length_nil, Nat.zero_add]) rfl) (fin vR l R hll0 _ fun M' h1 => SemW_of ?_)
    simp only [PP, P1, P2, P3, P4, P5, P6, P7, P8, P9, P10, P11, P12, P13, P14, L1, P15, N1, N2, N3, N4, N5, N6, N7, I1, I2, I3, I4, I5, I6, I7, reduceIte, reduceCtorEq, h1, hfr _ _ hll0]
    exact hk _ R
  simp only [PP, P1, P2, P3, P4, P5, P6, P7, P8, P9, P10, P11, P12, P13, P14, L1, P15, N1, N2, N3, N4, N5, N6, N7, I1, I2, I3, I4, I5, I6, I7, reduceIte, reduceCtorEq, c]
  have hwr := wrap_succ (k := rd) (by show _ < 1000000000000; omega)
  refine loop4 (fun (p vR : Nat) (ch : Bool) (l' : List (Nat × List Bool)) => p ≤ k ∧ PrI N (rsO l) (rsO l') ch (fun u v => u < p ∧ (v : Int) < N.n)) (fun p vR ch l' => [.junk, .cp (nfC f1 o1 f2 o2 f3 o3 N) 0, .junk, .ref 1 0 1 0 k, .junk, .junk, p64 rd, .bool ch, p64 p, .junk, .junk, .junk, .junk, .junk, .junk, .junk, .junk, .junk, .junk, .junk, .junk, .junk, .junk, .junk, .junk, .junk, .junk, .junk, .junk, .junk, .junk, .junk, .junk, .junk, .junk, .junk, .junk, .junk, .junk, .junk, .junk, .junk, .junk, .junk, .junk, .junk, .junk, .junk, .junk, .junk, .junk, .junk, .junk, .junk, .junk, .junk, .junk, .junk, .junk, .junk, .junk, .junk, .junk, .junk, .junk, .junk, .junk, .junk, .junk, .junk, .junk, .junk, .junk, .junk, .junk, .junk, .junk, .junk, .junk, .junk, .junk, .junk]) (fun _ vR _ l' => stQ vR k l') (fun p _ _ _ => k - p) 0 vR false l ⟨by omega, (PrI.start D U).weak fun p q h => by omega⟩ (by simp only [PWeak_nil, PWeak_junk, PWeak_same, Int.cast_ofNat_Int, List.length_append, List.length_cons, List.length_nil, Nat.zero_add]) rfl ?_
  intro p vR ch l' ⟨hpn, I⟩ ih1
  refine SemW_go (by kernel_rfl) ?_
  simp only [PP, P1, P2, P3, P4, P5, P6, P7, P8, P9, P10, P11, P12, P13, P14, L1, P15, N1, N2, N3, N4, N5, N6, N7, I1, I2, I3, I4, I5, I6, I7, reduceIte, reduceCtorEq, hn]
  have hll : l'.length = k := by have := I.d.1; simp only [List.length_map] at this; omega
  refine QIf.intro (fun d => ?_) (fun d => ?_)
  rotate_left
  · have I2 := I.weak (done' := fun u v => (u : Int) < N.n ∧ (v : Int) < N.n) fun u v h => ⟨by omega, h.2⟩
    simp only [PP, P1, P2, P3, P4, P5, P6, P7, P8, P9, P10, P11, P12, P13, P14, L1, P15, N1, N2, N3, N4, N5, N6, N7, I1, I2, I3, I4, I5, I6, I7, reduceIte, reduceCtorEq, d]
    cases ch with
    | true =>
      have := I2.ye rfl
      simp only [PP, P1, P2, P3, P4, P5, P6, P7, P8, P9, P10, P11, P12, P13, P14, L1, P15, N1, N2, N3, N4, N5, N6, N7, I1, I2, I3, I4, I5, I6, I7, reduceIte, reduceCtorEq, hwr]
      exact SemW_weak (ih (rd + 1) vR l' ⟨I2.d, I2.u, by omega⟩ (by omega)) (by simp only [PWeak_nil, PWeak_junk, PWeak_same, Int.cast_ofNat_Int, List.length_append, List.length_cons, List.length_nil, Nat.zero_add])
    | false =>
      have R := I2.fin
      have hlr : (rsO l').length = k := by rw [List.length_map]; exact hll
      simp only [PP, P1, P2, P3, P4, P5, P6, P7, P8, P9, P10, P11, P12, P13, P14, L1, P15, N1, N2, N3, N4, N5, N6, N7, I1, I2, I3, I4, I5, I6, I7, reduceIte, reduceCtorEq]
      refine Gh.step (GStep.weak (b := [.junk, .junk, .junk, .ref 1 0 1 0 k, .junk, .junk, .junk, .junk, .junk, .junk, .junk, .junk, .junk, .junk, .junk, .junk, .junk, .junk, .junk, .junk, .junk, .junk, .junk, .junk, .junk, .junk, .junk, .junk, .junk, .junk, .junk, .junk, .junk, .junk, .junk, .junk, .junk, .junk, .junk, .junk, .junk, .junk, .junk, .junk, .junk, .junk, .junk, .junk, .junk, .junk, .junk, .junk, .junk, .junk, .junk, .junk, .junk, .junk, .junk, .junk, .junk, .junk, .junk, .junk, .junk, .junk, .junk, .junk, .junk, .junk, .junk, .junk, .junk, .junk, .junk, .junk, .junk, .junk, .junk, .junk, .junk, .junk]) (by simp only [PWeak_nil, PWeak_junk, PWeak_same, Int.cast_ofNat_Int, List.length_append, List.length_cons, List.length_nil, Nat.zero_add]) rfl) (fin vR l' R hlr _ fun M' h1 => SemW_of ?_)
      simp only [PP, P1, P2, P3, P4, P5, P6, P7, P8, P9, P10, P11, P12, P13, P14, L1, P15, N1, N2, N3, N4, N5, N6, N7, I1, I2, I3, I4, I5, I6, I7, reduceIte, reduceCtorEq, h1, hfr _ _ hlr]
      exact hk _ R
  have hp' : p < k := by omega
  have hwp := wrap_succ (k := p) (by show _ < 1000000000000; omega)
  simp only [PP, P1, P2, P3, P4, P5, P6, P7, P8, P9, P10, P11, P12, P13, P14, L1, P15, N1, N2, N3, N4, N5, N6, N7, I1, I2, I3, I4, I5, I6, I7, reduceIte, reduceCtorEq, d]
  refine loop4 (fun (q vR : Nat) (ch : Bool) (l' : List (Nat × List Bool)) => q ≤ k ∧ PrI N (rsO l) (rsO l') ch (fun u v => (u < p ∧ (v : Int) < N.n) ∨ (u = p ∧ v < q))) (fun q vR ch l' => [.junk, .cp (nfC f1 o1 f2 o2 f3 o3 N) 0, .junk, .ref 1 0 1 0 k, .junk, .junk, p64 rd, .bool ch, p64 p, p64 q, .junk, .junk, .junk, .junk, .junk, .junk, .junk, .junk, .junk, .junk, .junk, .junk, .junk, .junk, .junk, .junk, .junk, .junk, .junk, .junk, .junk, .junk, .junk, .junk, .junk, .junk, .junk, .junk, .junk, .junk, .junk, .junk, .junk, .junk, .junk, .junk, .junk, .junk, .junk, .junk, .junk, .junk, .junk, .junk, .junk, .junk, .junk, .junk, .junk, .junk, .junk, .junk, .junk, .junk, .junk, .junk, .junk, .junk, .junk, .junk, .junk, .junk, .junk, .junk, .junk, .junk, .junk, .junk, .junk, .junk, .junk, .junk]) (fun _ vR _ l' => stQ vR k l') (fun q _ _ _ => k - q) 0 vR ch l' ⟨by omega, I.weak fun p q h => h.elim id fun h => by omega⟩ (by simp only [PWeak_nil, PWeak_junk, PWeak_same, Int.cast_ofNat_Int, List.length_append, List.length_cons, List.length_nil, Nat.zero_add]) rfl ?_
  intro q vR ch l' ⟨hqn, I⟩ ih2
  refine SemW_go (by kernel_rfl) ?_
  simp only [PP, P1, P2, P3, P4, P5, P6, P7, P8, P9, P10, P11, P12, P13, P14, L1, P15, N1, N2, N3, N4, N5, N6, N7, I1, I2, I3, I4, I5, I6, I7, reduceIte, reduceCtorEq, hn]
  have hll : l'.length = k := by have := I.d.1; simp only [List.length_map] at this; omega
  refine QIf.intro (fun d2 => ?_) (fun d2 => ?_)
  rotate_left
  · simp only [PP, P1, P2, P3, P4, P5, P6, P7, P8, P9, P10, P11, P12, P13, P14, L1, P15, N1, N2, N3, N4, N5, N6, N7, I1, I2, I3, I4, I5, I6, I7, reduceIte, reduceCtorEq, d2, hwp]
    refine SemW_weak (ih1 (p + 1) vR ch l' ⟨by omega, I.weak fun u v h => ?_⟩ (by omega)) (by simp only [PWeak_nil, PWeak_junk, PWeak_same, Int.cast_ofNat_Int, List.length_append, List.length_cons, List.length_nil, Nat.zero_add])
    by_cases e : u = p
    · exact .inr ⟨e, by omega⟩
    · exact .inl ⟨by omega, h.2⟩
  have hq' : q < k := by omega
  have p0 : (0 : Int) ≤ p := by omega
  have pk : (p : Int) < k := by omega
  have q0 : (0 : Int) ≤ q := by omega
  have qk : (q : Int) < k := by omega
  have hwq := wrap_succ (k := q) (by show _ < 1000000000000; omega)
  have hrk := refsR_at (b := 2) hp'
  have hrl := refsR_len 2 k
  obtain ⟨⟨v, row⟩, hlk⟩ := some_of (xs := l') (k := p) (by omega)
  have hrowl : (row.length : Int) = N.n := I.d.2 row (List.mem_map.2 ⟨_, List.mem_of_getElem? hlk, rfl⟩)
  obtain ⟨b, gb⟩ := some_of (xs := row) (k := q) (by omega)
  have hat : (rowsO l')[p]? = some (.cells 0 v (row.map PV.bool)) := by simpa using rowsO_at hlk []
  have hrv : rAt (rsO l') p q = b := by simp [rAt, List.getD, hlk, gb]
  have hrl2 : row.length = k := by omega
  have stepD : ∀ u w : Nat, (u < p ∧ (w : Int) < N.n) ∨ (u = p ∧ w < q + 1) → ((u < p ∧ (w : Int) < N.n) ∨ (u = p ∧ w < q)) ∨ (u = p ∧ w = q) := fun u w h => by
    rcases h with h | ⟨h1, h2⟩
    · exact .inl (.inl h)
    · by_cases e : w = q
      · exact .inr ⟨h1, e⟩
      · exact .inl (.inr ⟨h1, by omega⟩)
  cases b with
  | false =>
    simp only [PP, P1, P2, P3, P4, P5, P6, P7, P8, P9, P10, P11, P12, P13, P14, L1, P15, N1, N2, N3, N4, N5, N6, N7, I1, I2, I3, I4, I5, I6, I7, reduceIte, reduceCtorEq, d2, p0, pk, q0, qk, hrk, hrl, hat, gb, hrl2, hwq]
    exact SemW_weak (ih2 (q + 1) vR ch l' ⟨by omega, (I.keep (p := p) (q := q) (fun h => by rw [hrv] at h; cases h)).weak stepD⟩ (by omega)) (by simp only [PWeak_nil, PWeak_junk, PWeak_same, Int.cast_ofNat_Int, List.length_append, List.length_cons, List.length_nil, Nat.zero_add])
  | true =>
    simp only [PP, P1, P2, P3, P4, P5, P6, P7, P8, P9, P10, P11, P12, P13, P14, L1, P15, N1, N2, N3, N4, N5, N6, N7, I1, I2, I3, I4, I5, I6, I7, reduceIte, reduceCtorEq, d2, p0, pk, q0, qk, hrk, hrl, hat, gb, hrl2]
    refine SemC_bor (args2 := [.agg (nfC f1 o1 f2 o2 f3 o3 N), slBr true false true false (rsO l'), p64 p, p64 q]) (.same (by simp only [PP, P1, P2, P3, P4, P5, P6, P7, P8, P9, P10, P11, P12, P13, P14, L1, P15, N1, N2, N3, N4, N5, N6, N7, I1, I2, I3, I4, I5, I6, I7, reduceIte, reduceCtorEq, under_slE]) (PBor.mat (by simp [hll]) rfl (fun j' r' hr' => ?_) (.same rfl (.same rfl .nil)))) (refHolds_p T C B I.d (by omega) (by omega) (fun b hb => ⟨rfl, ?_⟩))
    · rw [List.getElem?_map, Option.map_eq_some_iff] at hr'
      obtain ⟨⟨v', r2⟩, h1, rfl⟩ := hr'
      have := I.d.2 r2 (List.mem_map.2 ⟨_, List.mem_of_getElem? h1, rfl⟩)
      refine ⟨by show r2.length = k; omega, v', ?_⟩
      simp only [List.getElem?_cons_succ]
      simpa using rowsO_at h1 []
    cases b with
    | true =>
      simp only [PP, P1, P2, P3, P4, P5, P6, P7, P8, P9, P10, P11, P12, P13, P14, L1, P15, N1, N2, N3, N4, N5, N6, N7, I1, I2, I3, I4, I5, I6, I7, reduceIte, reduceCtorEq, hwq]
      exact SemW_weak (ih2 (q + 1) vR ch l' ⟨by omega, (I.keep (p := p) (q := q) (fun _ => hb.1 rfl)).weak stepD⟩ (by omega)) (by simp only [PWeak_nil, PWeak_junk, PWeak_same, Int.cast_ofNat_Int, List.length_append, List.length_cons, List.length_nil, Nat.zero_add])
    | false =>
      have hset := rowsO_set (l := l') (p := p) (by omega) (v + 1) (row.set q false) []
      rw [List.map_set] at hset
      simp only [List.append_nil] at hset
      have q1 : q + 1 ≤ k := hq'
      simp only [PP, P1, P2, P3, P4, P5, P6, P7, P8, P9, P10, P11, P12, P13, P14, L1, P15, N1, N2, N3, N4, N5, N6, N7, I1, I2, I3, I4, I5, I6, I7, reduceIte, reduceCtorEq, d2, p0, pk, q0, qk, q1, hrk, hrl, hat, gb, hrl2, hwq, hset]
      have I2 : PrI N (rsO l) (setAt (rsO l') p q) true (fun u v => (u < p ∧ (v : Int) < N.n) ∨ (u = p ∧ v < q + 1)) := I.cut C (by omega) (by omega) hrv fun h => by have := hb.2 h; cases this
      rw [rsO_setAt hlk] at I2
      exact SemW_weak (ih2 (q + 1) vR true _ ⟨by omega, I2⟩ (by omega)) (by simp only [PWeak_nil, PWeak_junk, PWeak_same, Int.cast_ofNat_Int, List.length_append, List.length_cons, List.length_nil, Nat.zero_add])
end
end Go.Am.Ar
set_option linter.unusedVariables false
set_option linter.unusedSimpArgs false
set_option maxRecDepth 10000
namespace Go.Am.Ar
open Go.Am renaming pchk → P1, pold → P2, PKNo → P3, ppack → P4, PObj.under → P5, pput → P6, ptset → P7, ptget → P8, pev → P9, ofAV → P10, ofAV1 → P11, ppad → P12, pfill → P13, prepl → P14, AO.effect → P15
open List renaming replicate → L1
open Nat renaming reduceAdd → N1, reduceSub → N2, reduceMul → N3, reduceLT → N4, reduceLeDiff → N5, reduceEqDiff → N6, reduceBEq → N7
open Int renaming reduceToNat → I1, reduceLT → I2, reduceLE → I3, reduceEq → I4, reduceAdd → I5, reduceSub → I6, reduceNeg → I7
section
variable {tab : FuncId → Option AF} (T : HasA tab)
include T
set_option maxHeartbeats 1000000 in
theorem refBetween_p {M : Mem} {K : PV → Mem → Prop} {f1 o1 f2 o2 f3 o3 g1 p1 g2 p2 g3 p3 : Bool} {A B : NF} (BA : BnN A) (BB : BnN B) (hk : ∀ b e, BtwA A B b e → K (.tuple [.bool b, p64 e]) M) :
    SemC tab 33 [.agg (nfC f1 o1 f2 o2 f3 o3 A), .agg (nfC g1 p1 g2 p2 g3 p3 B)] M K := by
  refine SemC_pureS T.h33 (by simp only [PP, P1, P2, P3, P4, P5, P6, P7, P8, P9, P10, P11, P12, P13, P14, L1, P15, N1, N2, N3, N4, N5, N6, N7, I1, I2, I3, I4, I5, I6, I7, reduceIte, reduceCtorEq, under_slE]) ?_
  simp only [af33]
  refine SemW_seq (SemW_of ?_)
  simp only [PP, P1, P2, P3, P4, P5, P6, P7, P8, P9, P10, P11, P12, P13, P14, L1, P15, N1, N2, N3, N4, N5, N6, N7, I1, I2, I3, I4, I5, I6, I7, reduceIte, reduceCtorEq]
  refine SemW_re (GStep.freezeP (b := [.junk, .junk, .cp (nfC f1 o1 f2 o2 f3 o3 A) 0, .ptr 1 0 0, .bool false, p64 0, .junk, .junk, .junk, .junk, .junk, .junk, .junk, .junk, .junk, .junk, .junk, .junk, .junk, .junk, .junk, .junk, .junk, .junk, .junk, .junk, .junk, .junk, .junk, .junk, .junk, .junk, .junk, .junk, .junk, .junk, .junk, .junk, .junk, .junk, .junk, .junk, .junk, .junk, .junk, .junk, .junk, .junk, .junk, .junk, .junk, .junk, .junk, .junk, .junk, .junk, .junk, .junk, .junk, .junk]) 0 (Nat.zero_le _) rfl (by simp only [PFrzP_nil, PFrzP_junk, PFrzP_same, PFrzP_ptr]) rfl) ?_
  refine SemW_re (GStep.freezeP (b := [.junk, .junk, .cp (nfC f1 o1 f2 o2 f3 o3 A) 0, .cp (nfC g1 p1 g2 p2 g3 p3 B) 0, .bool false, p64 0, .junk, .junk, .junk, .junk, .junk, .junk, .junk, .junk, .junk, .junk, .junk, .junk, .junk, .junk, .junk, .junk, .junk, .junk, .junk, .junk, .junk, .junk, .junk, .junk, .junk, .junk, .junk, .junk, .junk, .junk, .junk, .junk, .junk, .junk, .junk, .junk, .junk, .junk, .junk, .junk, .junk, .junk, .junk, .junk, .junk, .junk, .junk, .junk, .junk, .junk, .junk, .junk, .junk, .junk]) 1 (Nat.zero_le _) rfl (by simp only [PFrzP_nil, PFrzP_junk, PFrzP_same, PFrzP_ptr]) rfl) ?_
  refine SemW_of ?_
  simp only [PP, P1, P2, P3, P4, P5, P6, P7, P8, P9, P10, P11, P12, P13, P14, L1, P15, N1, N2, N3, N4, N5, N6, N7, I1, I2, I3, I4, I5, I6, I7, reduceIte, reduceCtorEq]
  refine unionR_p T BA BB ?_
  by_cases hu : uniE A B = 0
  rotate_left
  · simp only [PP, P1, P2, P3, P4, P5, P6, P7, P8, P9, P10, P11, P12, P13, P14, L1, P15, N1, N2, N3, N4, N5, N6, N7, I1, I2, I3, I4, I5, I6, I7, reduceIte, reduceCtorEq, hu]
    exact hk false _ (.inl ⟨hu, rfl, rfl⟩)
  have hQ : uniQ A B = uniN A B := by unfold uniQ; rw [if_pos hu]
  obtain ⟨a, b, c, d, e⟩ := uniE_ok hu
  have CA := nok_of a
  have CB := nok_of b
  have na0 := CA.n0
  have nb0 := CB.n0
  have na64 := CA.n64
  have nb64 := CB.n64
  have hsa := posM_len CA.st na64
  have hsb := posM_len CB.st nb64
  have hpa := posM_mem CA.st
  have hpb := posM_mem CB.st
  have hn : (uniN A B).n = A.n + B.n := rfl
  rw [hu, hQ]
  simp only [PP, P1, P2, P3, P4, P5, P6, P7, P8, P9, P10, P11, P12, P13, P14, L1, P15, N1, N2, N3, N4, N5, N6, N7, I1, I2, I3, I4, I5, I6, I7, reduceIte, reduceCtorEq]
  refine refRelation_p T (uni_nok hu) (uni_bn BA BB hu) fun rs R => ?_
  have D := R.d
  simp only [PP, P1, P2, P3, P4, P5, P6, P7, P8, P9, P10, P11, P12, P13, P14, L1, P15, N1, N2, N3, N4, N5, N6, N7, I1, I2, I3, I4, I5, I6, I7, reduceIte, reduceCtorEq]
  obtain ⟨Y, hY⟩ : ∃ Y, Y = nfC false true false true false true (uniN A B) := ⟨_, rfl⟩
  refine loop1 (fun (k : Nat) => k ≤ A.st.length ∧ ∀ p ∈ A.st.take k, ∃ q ∈ B.st, rAt rs p (A.n + q) = true) (fun k => [.junk, .junk, .cp (nfC f1 o1 f2 o2 f3 o3 A) 0, .cp (nfC g1 p1 g2 p2 g3 p3 B) 0, .junk, .junk, .junk, .junk, slBr false true false true rs, p64 k, .junk, .junk, .junk, .junk, .junk, .junk, .junk, .junk, .junk, .junk, .junk, .junk, .junk, .junk, .junk, .junk, .junk, .junk, .junk, .junk, .junk, .junk, .junk, .junk, .junk, .junk, .junk, .junk, .junk, .junk, .junk, .junk, .junk, .junk, .junk, .junk, .junk, .junk, .junk, .junk, .junk, .junk, .junk, .junk, .junk, .junk, .junk, .junk, .junk, .junk]) (fun _ => [.gone, .gone, .cells 0 1 Y]) (fun k => A.st.length - k) 0 ⟨by omega, fun p h => by cases h⟩ (by simp only [PWeak_nil, PWeak_junk, PWeak_same, Int.cast_ofNat_Int, List.length_append, List.length_cons, List.length_nil, Nat.zero_add]) (by rw [hY]) ?_
  intro k ⟨hle, hd⟩ ih
  refine SemW_go (by kernel_rfl) ?_
  simp only [PP, P1, P2, P3, P4, P5, P6, P7, P8, P9, P10, P11, P12, P13, P14, L1, P15, N1, N2, N3, N4, N5, N6, N7, I1, I2, I3, I4, I5, I6, I7, reduceIte, reduceCtorEq]
  refine QIf.intro (fun c1 => ?_) (fun c1 => ?_)
  rotate_left
  · rw [List.take_of_length_le (by omega)] at hd
    simp only [PP, P1, P2, P3, P4, P5, P6, P7, P8, P9, P10, P11, P12, P13, P14, L1, P15, N1, N2, N3, N4, N5, N6, N7, I1, I2, I3, I4, I5, I6, I7, reduceIte, reduceCtorEq, c1]
    exact hk true 0 (.inr ⟨hu, rfl, rs, R, fun _ => hd, fun _ => rfl⟩)
  have hk' : k < A.st.length := by omega
  obtain ⟨p, gp⟩ := some_of hk'
  have hpm := List.mem_of_getElem? gp
  have hp := hpa p hpm
  have k0 : (0 : Int) ≤ k := by omega
  have kl : (k : Int) < A.st.length := by omega
  have hwk := wrap_succ (k := k) (by show _ < 1000000000000; omega)
  simp only [PP, P1, P2, P3, P4, P5, P6, P7, P8, P9, P10, P11, P12, P13, P14, L1, P15, N1, N2, N3, N4, N5, N6, N7, I1, I2, I3, I4, I5, I6, I7, reduceIte, reduceCtorEq, c1]
  refine loop2 (fun (j : Nat) (fd : Bool) => j ≤ B.st.length ∧ (fd = true ↔ ∃ q ∈ B.st.take j, rAt rs p (A.n + q) = true)) (fun j fd => [.junk, .junk, .cp (nfC f1 o1 f2 o2 f3 o3 A) 0, .cp (nfC g1 p1 g2 p2 g3 p3 B) 0, .junk, .junk, .junk, .junk, slBr false true false true rs, p64 k, .bool fd, p64 j, .junk, .junk, .junk, .junk, .junk, .junk, .junk, .junk, .junk, .junk, .junk, .junk, .junk, .junk, .junk, .junk, .junk, .junk, .junk, .junk, .junk, .junk, .junk, .junk, .junk, .junk, .junk, .junk, .junk, .junk, .junk, .junk, .junk, .junk, .junk, .junk, .junk, .junk, .junk, .junk, .junk, .junk, .junk, .junk, .junk, .junk, .junk, .junk]) (fun _ _ => [.gone, .gone, .cells 0 1 Y]) (fun j _ => B.st.length - j) 0 false ⟨by omega, by simp⟩ (by simp only [PWeak_nil, PWeak_junk, PWeak_same, Int.cast_ofNat_Int, List.length_append, List.length_cons, List.length_nil, Nat.zero_add]) rfl ?_
  intro j fd ⟨hj, hfd⟩ ih2
  refine SemW_go (by kernel_rfl) ?_
  simp only [PP, P1, P2, P3, P4, P5, P6, P7, P8, P9, P10, P11, P12, P13, P14, L1, P15, N1, N2, N3, N4, N5, N6, N7, I1, I2, I3, I4, I5, I6, I7, reduceIte, reduceCtorEq]
  refine QIf.intro (fun c2 => ?_) (fun c2 => ?_)
  · have hj' : j < B.st.length := by omega
    obtain ⟨q, gq⟩ := some_of hj'
    have hqm := List.mem_of_getElem? gq
    have hq := hpb q hqm
    have j0 : (0 : Int) ≤ j := by omega
    have jl : (j : Int) < B.st.length := by omega
    have hwj := wrap_succ (k := j) (by show _ < 1000000000000; omega)
    obtain ⟨row, r1, r2, r3, r4⟩ := rel_at D (p := p) (q := A.n + q) (by omega) (by omega) (by omega) (by omega)
    have p0 : 0 ≤ p := hp.1
    have pl : p < rs.length := by omega
    have q0 : 0 ≤ A.n + q := by omega
    have ql : A.n + q < row.length := by omega
    have w : IntKind.i64.wrap (A.n + q) = A.n + q := wrap64 (by omega) (by omega)
    have nxt : ∀ fd', (fd' = true ↔ (fd = true ∨ rAt rs p (A.n + q) = true)) → (fd' = true ↔ ∃ q ∈ B.st.take (j + 1), rAt rs p (A.n + q) = true) := fun fd' h => by
      rw [h, hfd, List.take_add_one, gq]
      simp only [Option.toList_some, List.mem_append, List.mem_singleton]
      constructor
      · rintro (⟨z, h1, h2⟩ | h)
        · exact ⟨z, .inl h1, h2⟩
        · exact ⟨q, .inr rfl, h⟩
      · rintro ⟨z, h1 | rfl, h2⟩
        · exact .inl ⟨z, h1, h2⟩
        · exact .inr h2
    cases fd with
    | true =>
      simp only [PP, P1, P2, P3, P4, P5, P6, P7, P8, P9, P10, P11, P12, P13, P14, L1, P15, N1, N2, N3, N4, N5, N6, N7, I1, I2, I3, I4, I5, I6, I7, reduceIte, reduceCtorEq, c2, hwj]
      exact SemW_weak (ih2 (j + 1) true ⟨by omega, nxt true ⟨fun _ => .inl rfl, fun _ => rfl⟩⟩ (by omega)) (by simp only [PWeak_nil, PWeak_junk, PWeak_same, Int.cast_ofNat_Int, List.length_append, List.length_cons, List.length_nil, Nat.zero_add])
    | false =>
      simp only [PP, P1, P2, P3, P4, P5, P6, P7, P8, P9, P10, P11, P12, P13, P14, L1, P15, N1, N2, N3, N4, N5, N6, N7, I1, I2, I3, I4, I5, I6, I7, reduceIte, reduceCtorEq, c2, k0, kl, gp, p0, pl, r1, j0, jl, gq, q0, ql, w, r2, hwj]
      exact SemW_weak (ih2 (j + 1) _ ⟨by omega, nxt _ ⟨fun h => .inr h, fun h => h.elim (fun h => by cases h) id⟩⟩ (by omega)) (by simp only [PWeak_nil, PWeak_junk, PWeak_same, Int.cast_ofNat_Int, List.length_append, List.length_cons, List.length_nil, Nat.zero_add])
  · have hjl : j = B.st.length := by omega
    rw [List.take_of_length_le (by omega)] at hfd
    cases fd with
    | false =>
      simp only [PP, P1, P2, P3, P4, P5, P6, P7, P8, P9, P10, P11, P12, P13, P14, L1, P15, N1, N2, N3, N4, N5, N6, N7, I1, I2, I3, I4, I5, I6, I7, reduceIte, reduceCtorEq, c2]
      refine hk false 0 (.inr ⟨hu, rfl, rs, R, (fun h => by cases h), fun h => ?_⟩)
      exact absurd (hfd.2 (h p hpm)) (by decide)
    | true =>
      simp only [PP, P1, P2, P3, P4, P5, P6, P7, P8, P9, P10, P11, P12, P13, P14, L1, P15, N1, N2, N3, N4, N5, N6, N7, I1, I2, I3, I4, I5, I6, I7, reduceIte, reduceCtorEq, c2, hwk]
      refine SemW_weak (ih (k + 1) ⟨by omega, fun z hz => ?_⟩ (by omega)) (by simp only [PWeak_nil, PWeak_junk, PWeak_same, Int.cast_ofNat_Int, List.length_append, List.length_cons, List.length_nil, Nat.zero_add])
      rw [List.take_add_one, gp] at hz
      rcases List.mem_append.1 hz with hz | hz
      · exact hd z hz
      · simp at hz; subst hz; exact hfd.1 rfl
end
end Go.Am.Ar
set_option linter.unusedVariables false
set_option linter.unusedSimpArgs false
set_option maxRecDepth 10000
namespace Go.Am.Ar
open Go.Am renaming pchk → P1, pold → P2, PKNo → P3, ppack → P4, PObj.under → P5, pput → P6, ptset → P7, ptget → P8, pev → P9, ofAV → P10, ofAV1 → P11, ppad → P12, pfill → P13, prepl → P14, AO.effect → P15
open List renaming replicate → L1
open Nat renaming reduceAdd → N1, reduceSub → N2, reduceMul → N3, reduceLT → N4, reduceLeDiff → N5, reduceEqDiff → N6, reduceBEq → N7
open Int renaming reduceToNat → I1, reduceLT → I2, reduceLE → I3, reduceEq → I4, reduceAdd → I5, reduceSub → I6, reduceNeg → I7
section
variable {tab : FuncId → Option AF} (T : HasA tab)
include T
theorem decides_p {N O : NF} {ot : List (List Bool)} (A : NumN N) (A2 : NumN O) :
    SemC tab 8 [.agg (nfF N), .agg (nfF O), slBr false false false false ot] [] fun r _ => r = .bool true := by
  refine SemC_fn T.h8 ?_
  simp only [af8, PP, P1, P2, P3, P4, P5, P6, P7, P8, P9, P10, P11, P12, P13, P14, L1, P15, N1, N2, N3, N4, N5, N6, N7, I1, I2, I3, I4, I5, I6, I7, reduceIte, reduceCtorEq]
  refine longTwo_p T A A2 ?_
  cases hl : (longN N || longN O) with
  | true =>
    simp only [PP, P1, P2, P3, P4, P5, P6, P7, P8, P9, P10, P11, P12, P13, P14, L1, P15, N1, N2, N3, N4, N5, N6, N7, I1, I2, I3, I4, I5, I6, I7, reduceIte, reduceCtorEq]
    refine SemC_true T.awake ?_
    simp only [PP, P1, P2, P3, P4, P5, P6, P7, P8, P9, P10, P11, P12, P13, P14, L1, P15, N1, N2, N3, N4, N5, N6, N7, I1, I2, I3, I4, I5, I6, I7, reduceIte, reduceCtorEq]
  | false =>
    rw [Bool.or_eq_false_iff] at hl
    have B := longN_bn A hl.1
    have B2 := longN_bn A2 hl.2
    simp only [PP, P1, P2, P3, P4, P5, P6, P7, P8, P9, P10, P11, P12, P13, P14, L1, P15, N1, N2, N3, N4, N5, N6, N7, I1, I2, I3, I4, I5, I6, I7, reduceIte, reduceCtorEq]
    refine QIf.intro (fun c1 => ?_) (fun c1 => ?_)
    · simp only [PP, P1, P2, P3, P4, P5, P6, P7, P8, P9, P10, P11, P12, P13, P14, L1, P15, N1, N2, N3, N4, N5, N6, N7, I1, I2, I3, I4, I5, I6, I7, reduceIte, reduceCtorEq, c1]
      refine SemC_true T.awake ?_
      simp only [PP, P1, P2, P3, P4, P5, P6, P7, P8, P9, P10, P11, P12, P13, P14, L1, P15, N1, N2, N3, N4, N5, N6, N7, I1, I2, I3, I4, I5, I6, I7, reduceIte, reduceCtorEq]
    have hb : ot.length < 1000000000000 := by omega
    simp only [PP, P1, P2, P3, P4, P5, P6, P7, P8, P9, P10, P11, P12, P13, P14, L1, P15, N1, N2, N3, N4, N5, N6, N7, I1, I2, I3, I4, I5, I6, I7, reduceIte, reduceCtorEq, c1]
    refine refIs_p T B hb (fun is e hI => ?_)
    simp only [PP, P1, P2, P3, P4, P5, P6, P7, P8, P9, P10, P11, P12, P13, P14, L1, P15, N1, N2, N3, N4, N5, N6, N7, I1, I2, I3, I4, I5, I6, I7, reduceIte, reduceCtorEq]
    refine refBetween_p T B B2 (fun bt f hT => ?_)
    simp only [PP, P1, P2, P3, P4, P5, P6, P7, P8, P9, P10, P11, P12, P13, P14, L1, P15, N1, N2, N3, N4, N5, N6, N7, I1, I2, I3, I4, I5, I6, I7, reduceIte, reduceCtorEq]
    refine is_p T B hb (fun a g hI2 => ?_)
    obtain ⟨rfl, rfl⟩ := hI.eq hI2
    simp only [PP, P1, P2, P3, P4, P5, P6, P7, P8, P9, P10, P11, P12, P13, P14, L1, P15, N1, N2, N3, N4, N5, N6, N7, I1, I2, I3, I4, I5, I6, I7, reduceIte, reduceCtorEq]
    refine between_p T B B2 (fun b h hT2 => ?_)
    obtain ⟨rfl, rfl⟩ := hT.eq hT2
    simp only [PP, P1, P2, P3, P4, P5, P6, P7, P8, P9, P10, P11, P12, P13, P14, L1, P15, N1, N2, N3, N4, N5, N6, N7, I1, I2, I3, I4, I5, I6, I7, reduceIte, reduceCtorEq]
    refine SemC_true T.awake ?_
    simp only [PP, P1, P2, P3, P4, P5, P6, P7, P8, P9, P10, P11, P12, P13, P14, L1, P15, N1, N2, N3, N4, N5, N6, N7, I1, I2, I3, I4, I5, I6, I7, reduceIte, reduceCtorEq]
theorem decides_all (args : List AV) (h : H) (hs : ShVs [nfaTy, nfaTy, .slice (.slice .bool)] args h) :
    ∃ n h', (run tab n).call 8 args h = some (.bool true, h') := by
  obtain ⟨a, b, c, rfl, ha, hb, hc⟩ := shVs3 hs
  obtain ⟨N, r1, A⟩ := arg_nfa ha
  obtain ⟨O, r2, A2⟩ := arg_nfa hb
  obtain ⟨ot, r3⟩ := arg_brows hc
  exact run_of_C (law_of_sem (.cons r1 (.cons r2 (.cons r3 (.nil _)))) (decides_p T A A2))
end
end Go.Am.Ar

