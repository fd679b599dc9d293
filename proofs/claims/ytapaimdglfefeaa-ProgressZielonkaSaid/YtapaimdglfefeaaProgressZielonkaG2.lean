/- Contracts: the measure via another one; what is a measure, and what goes with it. -/
import Derived.Test.YtapaimdglfefeaaProgressZielonkaG1
import Derived.Test.YtapaimdglfefeaaProgressZielonkaG0
import Derived.Test.YtapaimdglfefeaaPmC
set_option linter.unusedVariables false
set_option linter.unusedSimpArgs false
set_option maxRecDepth 10000
namespace Go.Am.Ar
open Go.Am renaming pchk → P1, pold → P2, PKNo → P3, ppack → P4, PObj.under → P5, pput → P6, ptset → P7, ptget → P8, pev → P9, ofAV → P10, ofAV1 → P11, ppad → P12, pfill → P13, prepl → P14, AO.effect → P15
open List renaming replicate → L1
open Nat renaming reduceAdd → N1, reduceSub → N2, reduceMul → N3, reduceLT → N4, reduceLeDiff → N5, reduceEqDiff → N6, reduceBEq → N7
open Int renaming reduceToNat → I1, reduceLT → I2, reduceLE → I3, reduceEq → I4, reduceAdd → I5, reduceSub → I6, reduceNeg → I7
theorem pmod2 (p : Nat) : ((p : Int)).tmod 2 = ((p % 2 : Nat) : Int) := by
  rw [Int.tmod_eq_emod_of_nonneg (by omega)]; omega
theorem pquo2 {p : Nat} (h : p ≤ 16) : IntKind.i64.wrap ((p : Int).tdiv 2) = ((p / 2 : Nat) : Int) := by
  rw [Int.tdiv_eq_ediv_of_nonneg (by omega), wrap64 (by omega) (by omega)]; omega
section
variable {tab : FuncId → Option AF} (T : HasA tab)
include T
set_option maxHeartbeats 1000000 in
theorem via_p {M : Mem} {K : PV → Mem → Prop} {f1 o1 f2 o2 f3 o3 f4 o4 : Bool} {ow pr : List Int} {su : List (List Int)} {p : Nat} {x : Ms} (hb : pr.length < 1000000000000) (hp : p ≤ 16) (hx : x.Ok (limL pr))
    (hk : ∀ y : Ms, y.Ok (limL pr) → y.num (limL pr) = vN (limL pr) p (x.num (limL pr)) → K (.agg (msC y)) M) :
    SemC tab 46 [.cp (solC f1 o1 f2 o2 f3 o3 f4 o4 ow pr su) 0, p64 p, .agg (msC x)] M K := by
  have h8 := limL_len pr
  have hlt := limL_lt hb
  refine SemC_pure T.h46 (by simp only [PP, P1, P2, P3, P4, P5, P6, P7, P8, P9, P10, P11, P12, P13, P14, L1, P15, N1, N2, N3, N4, N5, N6, N7, I1, I2, I3, I4, I5, I6, I7, reduceIte, reduceCtorEq, msC_len, msC_one, msC_und, under_slM, msC_0, psub_msC, pover_msC, z9, z9t, msL_len, msL_und, msL_one, prepl_ms, limC_len, limC_one, limC_und, limC_len0, pfrzL_msC, pfrzL_limC, psub_limC, pover_limC, z8, pcells_cp, one_cp, solC_und, solC_0, solC_1, solC_2, PV.under]) ?_
  simp only [af46, PP, P1, P2, P3, P4, P5, P6, P7, P8, P9, P10, P11, P12, P13, P14, L1, P15, N1, N2, N3, N4, N5, N6, N7, I1, I2, I3, I4, I5, I6, I7, reduceIte, reduceCtorEq, msC_len, msC_one, msC_und, under_slM, msC_0, psub_msC, pover_msC, z9, z9t, msL_len, msL_und, msL_one, prepl_ms, limC_len, limC_one, limC_und, limC_len0, pfrzL_msC, pfrzL_limC, psub_limC, pover_limC, z8, pcells_cp, one_cp, solC_und, solC_0, solC_1, solC_2]
  cases ht : x.top with
  | true =>
    simp only [PP, P1, P2, P3, P4, P5, P6, P7, P8, P9, P10, P11, P12, P13, P14, L1, P15, N1, N2, N3, N4, N5, N6, N7, I1, I2, I3, I4, I5, I6, I7, reduceIte, reduceCtorEq, msC_len, msC_one, msC_und, under_slM, msC_0, psub_msC, pover_msC, z9, z9t, msL_len, msL_und, msL_one, prepl_ms, limC_len, limC_one, limC_und, limC_len0, pfrzL_msC, pfrzL_limC, psub_limC, pover_limC, z8, pcells_cp, one_cp, solC_und, solC_0, solC_1, solC_2, ht]
    refine hk x hx ?_
    rw [(Ms.num_top hx).2 ht, vN_top]
  | false =>
    have nlt := Ms.num_lt hx ht
    simp only [PP, P1, P2, P3, P4, P5, P6, P7, P8, P9, P10, P11, P12, P13, P14, L1, P15, N1, N2, N3, N4, N5, N6, N7, I1, I2, I3, I4, I5, I6, I7, reduceIte, reduceCtorEq, msC_len, msC_one, msC_und, under_slM, msC_0, psub_msC, pover_msC, z9, z9t, msL_len, msL_und, msL_one, prepl_ms, limC_len, limC_one, limC_und, limC_len0, pfrzL_msC, pfrzL_limC, psub_limC, pover_limC, z8, pcells_cp, one_cp, solC_und, solC_0, solC_1, solC_2, ht, pbin_quo _ _ _ (show (2 : Int) ≠ 0 by decide), pquo2 hp]
    refine loop3 (fun (k ver : Nat) (y : Ms) => k ≤ p / 2 ∧ y.top = false ∧ y.c = List.replicate k 0 ++ x.c.drop k)
      (fun k ver y => [.cp (solC f1 o1 f2 o2 f3 o3 f4 o4 ow pr su) 0, p64 p, .junk, .junk, .junk, .ptr 0 0 0, .ptr 1 0 0, .junk, .junk, .junk, .junk, .junk, .junk, p64 ((p / 2 : Nat) : Int), p64 k, .junk, .junk, .junk, .junk, .junk, .junk, .junk, .junk, .junk, .junk, .junk, .junk, .junk, .junk, .junk, .junk, .junk, .junk, .junk, .junk, .junk, .junk, .junk, .junk, .junk, .junk, .junk, .junk, .junk, .junk, .junk, .junk, .junk, .junk, .junk, .junk, .junk, .junk, .junk, .junk, .junk])
      (fun k ver y => [.cells 0 ver (msC y), .cells 0 0 (msC mz)]) (fun k _ _ => p / 2 - k) 0 0 x ⟨by omega, ht, by simp⟩ (by simp only [PWeak_nil, PWeak_junk, PWeak_same, Int.cast_ofNat_Int, List.length_append, List.length_cons, List.length_nil, Nat.zero_add]) rfl ?_
    intro k ver y ⟨hle, hy, hc⟩ ih
    refine SemW_go (by kernel_rfl) ?_
    simp only [PP, P1, P2, P3, P4, P5, P6, P7, P8, P9, P10, P11, P12, P13, P14, L1, P15, N1, N2, N3, N4, N5, N6, N7, I1, I2, I3, I4, I5, I6, I7, reduceIte, reduceCtorEq]
    refine QIf.intro (fun c => ?_) (fun c => ?_)
    · have hk8 : k < 8 := by omega
      have k0 : (0 : Int) ≤ k := by omega
      have k8 : (k : Int) < 8 := by omega
      have k9 : 1 + k + 1 ≤ 9 := by omega
      have hwk := wrap_succ (k := k) (by show _ < 1000000000000; omega)
      simp only [PP, P1, P2, P3, P4, P5, P6, P7, P8, P9, P10, P11, P12, P13, P14, L1, P15, N1, N2, N3, N4, N5, N6, N7, I1, I2, I3, I4, I5, I6, I7, reduceIte, reduceCtorEq, msC_len, msC_one, msC_und, under_slM, msC_0, psub_msC, pover_msC, z9, z9t, msL_len, msL_und, msL_one, prepl_ms, limC_len, limC_one, limC_und, limC_len0, pfrzL_msC, pfrzL_limC, psub_limC, pover_limC, z8, pcells_cp, one_cp, solC_und, solC_0, solC_1, solC_2, c, k0, k8, k9, msC_set, hwk]
      refine SemW_to (ih (k + 1) (ver + 1) (y.put k 0) ⟨by omega, hy, ?_⟩ (by omega)) (by simp only [PWeak_nil, PWeak_junk, PWeak_same, Int.cast_ofNat_Int, List.length_append, List.length_cons, List.length_nil, Nat.zero_add]) rfl
      show y.c.set k 0 = _
      rw [hc]; exact zs_zero (by rw [x.h]; exact hk8)
    · have hkq : k = p / 2 := by omega
      subst hkq
      simp only [PP, P1, P2, P3, P4, P5, P6, P7, P8, P9, P10, P11, P12, P13, P14, L1, P15, N1, N2, N3, N4, N5, N6, N7, I1, I2, I3, I4, I5, I6, I7, reduceIte, reduceCtorEq, msC_len, msC_one, msC_und, under_slM, msC_0, psub_msC, pover_msC, z9, z9t, msL_len, msL_und, msL_one, prepl_ms, limC_len, limC_one, limC_und, limC_len0, pfrzL_msC, pfrzL_limC, psub_limC, pover_limC, z8, pcells_cp, one_cp, solC_und, solC_0, solC_1, solC_2, c, prem (show (2 : Int) ≠ 0 by decide), pmod2]
      obtain ⟨z1, z2⟩ := via_zero hx ht h8 (show p / 2 ≤ 8 by omega) hy hc
      refine QIf.intro (fun d => ?_) (fun d => ?_)
      · have e0 : p % 2 = 0 := by omega
        simp only [PP, P1, P2, P3, P4, P5, P6, P7, P8, P9, P10, P11, P12, P13, P14, L1, P15, N1, N2, N3, N4, N5, N6, N7, I1, I2, I3, I4, I5, I6, I7, reduceIte, reduceCtorEq, msC_len, msC_one, msC_und, under_slM, msC_0, psub_msC, pover_msC, z9, z9t, msL_len, msL_und, msL_one, prepl_ms, limC_len, limC_one, limC_und, limC_len0, pfrzL_msC, pfrzL_limC, psub_limC, pover_limC, z8, pcells_cp, one_cp, solC_und, solC_0, solC_1, solC_2, d]
        exact hk y z1 (by rw [z2, vN_of nlt, e0, Nat.add_zero])
      · have e1 : p % 2 = 1 := by omega
        simp only [PP, P1, P2, P3, P4, P5, P6, P7, P8, P9, P10, P11, P12, P13, P14, L1, P15, N1, N2, N3, N4, N5, N6, N7, I1, I2, I3, I4, I5, I6, I7, reduceIte, reduceCtorEq, msC_len, msC_one, msC_und, under_slM, msC_0, psub_msC, pover_msC, z9, z9t, msL_len, msL_und, msL_one, prepl_ms, limC_len, limC_one, limC_und, limC_len0, pfrzL_msC, pfrzL_limC, psub_limC, pover_limC, z8, pcells_cp, one_cp, solC_und, solC_0, solC_1, solC_2, d, pbin_quo _ _ _ (show (2 : Int) ≠ 0 by decide), pquo2 hp]
        refine loop3 (fun (k ver : Nat) (y : Ms) => p / 2 ≤ k ∧ k ≤ 8 ∧ y.top = false ∧ y.c = List.replicate k 0 ++ x.c.drop k ∧ FullTo (limL pr) x (p / 2) k)
          (fun k ver y => [.cp (solC f1 o1 f2 o2 f3 o3 f4 o4 ow pr su) 0, .junk, .junk, .junk, .junk, .ptr 0 0 0, .ptr 1 0 0, .junk, p64 k, .junk, .junk, .junk, .junk, .junk, .junk, .junk, .junk, .junk, .junk, .junk, .junk, .junk, .junk, .junk, .junk, .junk, .junk, .junk, .junk, .junk, .junk, .junk, .junk, .junk, .junk, .junk, .junk, .junk, .junk, .junk, .junk, .junk, .junk, .junk, .junk, .junk, .junk, .junk, .junk, .junk, .junk, .junk, .junk, .junk, .junk, .junk])
          (fun k ver y => [.cells 0 ver (msC y), .cells 0 0 (msC mz)]) (fun k _ _ => 8 - k) (p / 2) ver y ⟨Nat.le_refl _, by omega, hy, hc, fun i c n a b => by omega⟩ (by simp only [PWeak_nil, PWeak_junk, PWeak_same, Int.cast_ofNat_Int, List.length_append, List.length_cons, List.length_nil, Nat.zero_add]) rfl ?_
        clear ih c
        intro k ver y ⟨hle1, hle2, hy, hc, hf⟩ ih
        refine SemW_go (by kernel_rfl) ?_
        simp only [PP, P1, P2, P3, P4, P5, P6, P7, P8, P9, P10, P11, P12, P13, P14, L1, P15, N1, N2, N3, N4, N5, N6, N7, I1, I2, I3, I4, I5, I6, I7, reduceIte, reduceCtorEq]
        refine QIf.intro (fun c => ?_) (fun c => ?_)
        · have hk8 : k < 8 := by omega
          have k0 : (0 : Int) ≤ k := by omega
          have k8 : (k : Int) < 8 := by omega
          have k9 : 1 + k + 1 ≤ 9 := by omega
          have kne : ¬ (k : Int) = 8 := by omega
          have hwk := wrap_succ (k := k) (by show _ < 1000000000000; omega)
          obtain ⟨a, ga⟩ := Ms.get (x := x) hk8
          have gy : y.c[k]? = some a := by rw [hc, zs_get, ga]
          have gn := limL_at pr hk8
          generalize pr.count ((2 * k + 1 : Nat) : Int) = n at gn
          have hn := hlt n (List.mem_of_getElem? gn)
          have g1 := msC_at gy
          have g2 : (solC f1 o1 f2 o2 f3 o3 f4 o4 ow pr su)[3 + k]? = some (p64 n) := solC_at gn
          have hok : 0 ≤ a ∧ a ≤ n := by
            have := mOk_drop k hx.1
            rw [drop_get gn, drop_get ga] at this
            exact ⟨this.1, this.2.1⟩
          have hwa : IntKind.i64.wrap (a + 1) = a + 1 := wrap64 (by omega) (by omega)
          simp only [PP, P1, P2, P3, P4, P5, P6, P7, P8, P9, P10, P11, P12, P13, P14, L1, P15, N1, N2, N3, N4, N5, N6, N7, I1, I2, I3, I4, I5, I6, I7, reduceIte, reduceCtorEq, msC_len, msC_one, msC_und, under_slM, msC_0, psub_msC, pover_msC, z9, z9t, msL_len, msL_und, msL_one, prepl_ms, limC_len, limC_one, limC_und, limC_len0, pfrzL_msC, pfrzL_limC, psub_limC, pover_limC, z8, pcells_cp, one_cp, solC_und, solC_0, solC_1, solC_2, c, k0, k8, k9, g1, g2]
          refine QIf.intro (fun e => ?_) (fun e => ?_)
          · simp only [PP, P1, P2, P3, P4, P5, P6, P7, P8, P9, P10, P11, P12, P13, P14, L1, P15, N1, N2, N3, N4, N5, N6, N7, I1, I2, I3, I4, I5, I6, I7, reduceIte, reduceCtorEq, msC_len, msC_one, msC_und, under_slM, msC_0, psub_msC, pover_msC, z9, z9t, msL_len, msL_und, msL_one, prepl_ms, limC_len, limC_one, limC_und, limC_len0, pfrzL_msC, pfrzL_limC, psub_limC, pover_limC, z8, pcells_cp, one_cp, solC_und, solC_0, solC_1, solC_2, e, c, k0, k8, k9, g1, hwa, msC_set, kne]
            obtain ⟨w1, w2⟩ := via_inc (y := y.put k (a + 1)) hx ht h8 hle1 hk8 hf ga gn e hy (by show y.c.set k (a + 1) = _; rw [hc]; exact zs_set _ (by rw [x.h]; exact hk8))
            exact hk _ w1 (by rw [w2, vN_of nlt, e1])
          · simp only [PP, P1, P2, P3, P4, P5, P6, P7, P8, P9, P10, P11, P12, P13, P14, L1, P15, N1, N2, N3, N4, N5, N6, N7, I1, I2, I3, I4, I5, I6, I7, reduceIte, reduceCtorEq, msC_len, msC_one, msC_und, under_slM, msC_0, psub_msC, pover_msC, z9, z9t, msL_len, msL_und, msL_one, prepl_ms, limC_len, limC_one, limC_und, limC_len0, pfrzL_msC, pfrzL_limC, psub_limC, pover_limC, z8, pcells_cp, one_cp, solC_und, solC_0, solC_1, solC_2, e, k0, k8, k9, msC_set, hwk]
            refine SemW_to (ih (k + 1) (ver + 1) (y.put k 0) ⟨by omega, by omega, hy, ?_, fun i c m a1 a2 g5 g6 => ?_⟩ (by omega)) (by simp only [PWeak_nil, PWeak_junk, PWeak_same, Int.cast_ofNat_Int, List.length_append, List.length_cons, List.length_nil, Nat.zero_add]) rfl
            · show y.c.set k 0 = _
              rw [hc]; exact zs_zero (by rw [x.h]; exact hk8)
            · by_cases ei : i = k
              · subst ei; rw [ga] at g5; rw [gn] at g6; cases g5; cases g6; omega
              · exact hf i c m a1 (by omega) g5 g6
        · have hk8 : k = 8 := by omega
          subst hk8
          simp only [PP, P1, P2, P3, P4, P5, P6, P7, P8, P9, P10, P11, P12, P13, P14, L1, P15, N1, N2, N3, N4, N5, N6, N7, I1, I2, I3, I4, I5, I6, I7, reduceIte, reduceCtorEq, msC_len, msC_one, msC_und, under_slM, msC_0, psub_msC, pover_msC, z9, z9t, msL_len, msL_und, msL_one, prepl_ms, limC_len, limC_one, limC_und, limC_len0, pfrzL_msC, pfrzL_limC, psub_limC, pover_limC, z8, pcells_cp, one_cp, solC_und, solC_0, solC_1, solC_2]
          refine hk mtop (mtop_ok h8) ?_
          rw [mtop_num, vN_of nlt, e1]
          exact via_full hx ht h8 (by omega) hf
end
end Go.Am.Ar
set_option linter.unusedVariables false
set_option linter.unusedSimpArgs false
set_option maxRecDepth 10000
namespace Go.Am.Ar
open Go.Am renaming pchk → P1, pold → P2, PKNo → P3, ppack → P4, PObj.under → P5, pput → P6, ptset → P7, ptget → P8, pev → P9, ofAV → P10, ofAV1 → P11, ppad → P12, pfill → P13, prepl → P14, AO.effect → P15
open List renaming replicate → L1
open Nat renaming reduceAdd → N1, reduceSub → N2, reduceMul → N3, reduceLT → N4, reduceLeDiff → N5, reduceEqDiff → N6, reduceBEq → N7
open Int renaming reduceToNat → I1, reduceLT → I2, reduceLE → I3, reduceEq → I4, reduceAdd → I5, reduceSub → I6, reduceNeg → I7
section
variable {tab : FuncId → Option AF} (T : HasA tab)
include T
end
end Go.Am.Ar
set_option linter.unusedVariables false
set_option linter.unusedSimpArgs false
namespace Go.Am.Ar
def nx (p : Bool) : Int → Int → List Int → Int
  | least, most, [] => if p = true then (if least < 0 then -1 else least + 1) else most + 1
  | least, most, r :: rs => if r < 0 then (if p = true then nx p least most rs else -1) else nx p (if least < 0 then r else if r < least then r else least) (max most r) rs
def rkRow (p : Bool) (S : List Nat) (k : Int) (R : Nat → Int) (v : Nat) : Int := if R v < 0 then (if nx p (-1) (-1) (S.map R) = k then k else R v) else R v
def rk (P : Nat → Bool) (S : Nat → List Nat) (Z : Nat → Bool) : Nat → Nat → Int
  | 0, v => if Z v = true then 0 else -1
  | k + 1, v => rkRow (P v) (S v) ((k + 1 : Nat) : Int) (rk P S Z k) v
section
variable {n : Nat} {P : Nat → Bool} {S : Nat → List Nat} {Z : Nat → Bool}
end
end Go.Am.Ar
set_option linter.unusedVariables false
set_option linter.unusedSimpArgs false
set_option maxRecDepth 10000
namespace Go.Am.Ar
def Sf (su : List (List Int)) (v : Nat) : List Nat := (su.getD v []).map Int.toNat
theorem row_ok {ow pr : List Int} {su : List (List Int)} (V : Valid ow pr su) {v : Nat} (hv : v < ow.length) : su.getD v [] ≠ [] ∧ (su.getD v []).Pairwise (· < ·) ∧ ∀ u ∈ su.getD v [], 0 ≤ u ∧ u < ow.length := by
  have hs := V.s
  have hi : v < su.length := by omega
  obtain ⟨_, _, _, h1, q⟩ := V.row v hi
  have e : su.getD v [] = su[v] := by simp [List.getD, hi]
  obtain ⟨q1, q2⟩ := posM_rise q
  rw [e]
  exact ⟨fun h => by rw [h] at h1; simp at h1, q1, fun u hu => by have := q2 u hu; omega⟩
theorem Sf_ok {ow pr : List Int} {su : List (List Int)} (V : Valid ow pr su) {v : Nat} (hv : v < ow.length) : Sf su v ≠ [] ∧ (∀ u ∈ Sf su v, u < ow.length) ∧ (Sf su v).Nodup := by
  obtain ⟨h1, h2, h3⟩ := row_ok V hv
  refine ⟨fun h => h1 (List.map_eq_nil_iff.1 h), fun u hu => ?_, ?_⟩
  · obtain ⟨w, hw, rfl⟩ := List.mem_map.1 hu
    have := h3 w hw; omega
  · unfold Sf
    refine List.pairwise_map.2 (List.Pairwise.imp_of_mem ?_ h2)
    intro a b ha hb hab e
    have := h3 a ha; have := h3 b hb; omega
end Go.Am.Ar
set_option linter.unusedVariables false
set_option linter.unusedSimpArgs false
set_option maxRecDepth 10000
namespace Go.Am.Ar
open Go.Am renaming pchk → P1, pold → P2, PKNo → P3, ppack → P4, PObj.under → P5, pput → P6, ptset → P7, ptget → P8, pev → P9, ofAV → P10, ofAV1 → P11, ppad → P12, pfill → P13, prepl → P14, AO.effect → P15
open List renaming replicate → L1
open Nat renaming reduceAdd → N1, reduceSub → N2, reduceMul → N3, reduceLT → N4, reduceLeDiff → N5, reduceEqDiff → N6, reduceBEq → N7
open Int renaming reduceToNat → I1, reduceLT → I2, reduceLE → I3, reduceEq → I4, reduceAdd → I5, reduceSub → I6, reduceNeg → I7
abbrev gO (ow : List Int) : Nat → Int := fun v => ow.getD v 0
abbrev gL (ow pr : List Int) (su : List (List Int)) : (Nat → Nat) → Nat → Nat := lN (limL pr) (gO ow) (Sf su) (gO pr)
def Nf (ns : List Nat) (ms : List Ms) (v : Nat) : Nat := (ms.getD v mz).num ns
structure StOk (ns : List Nat) (n : Nat) (ms : List Ms) : Prop where
  l : ms.length = n
  ok : ∀ x ∈ ms, x.Ok ns
theorem Nf_at {ns : List Nat} {ms : List Ms} {v : Nat} {x : Ms} (h : ms[v]? = some x) : Nf ns ms v = x.num ns := by unfold Nf; simp [List.getD, h]
theorem valid_pr {ow pr : List Int} {su : List (List Int)} (V : Valid ow pr su) : PrOk pr := ⟨by rw [V.p]; have := V.n1; omega, fun x hx => by
  obtain ⟨i, hi⟩ := List.getElem?_of_mem hx
  have hl := getSome_lt hi
  have := V.row i (by rw [V.s, ← V.p]; exact hl)
  rw [getD_some hi] at this
  exact ⟨this.1, this.2.1⟩⟩
theorem msC_flat (x : Ms) : (msC x).all PV.flat1 = true := by simp [msC, PV.flat1]
theorem psub_msL0 (l : List Ms) : psub (msL l) 0 (l.length * 9) = msL l := psub_all _ _ (msL_len l).symm
section
variable {tab : FuncId → Option AF} (T : HasA tab)
include T
theorem minFunc_p {M : Mem} {K : PV → Mem → Prop} {f o : Bool} {ms : List Ms} {ns : List Nat} (h0 : 0 < ms.length) (hb : ms.length < 1000000000000) (hok : ∀ x ∈ ms, x.Ok ns)
    (hk : ∀ y, y ∈ ms → (∀ z ∈ ms, y.num ns ≤ z.num ns) → K (.agg (msC y)) M) :
    SemC tab 67 [slM f o ms, .func (.func 13) [] []] M K := by
  refine SemC_pure T.h67 (by simp only [PP, P1, P2, P3, P4, P5, P6, P7, P8, P9, P10, P11, P12, P13, P14, L1, P15, N1, N2, N3, N4, N5, N6, N7, I1, I2, I3, I4, I5, I6, I7, reduceIte, reduceCtorEq, msC_len, msC_one, msC_und, under_slM, msC_0, psub_msC, pover_msC, z9, z9t, msL_len, msL_und, msL_one, prepl_ms, limC_len, limC_one, limC_und, limC_len0, pfrzL_msC, pfrzL_limC, psub_limC, pover_limC, z8, pcells_cp, one_cp, solC_und, solC_0, solC_1, solC_2, PV.under]) ?_
  have n1 : ¬ (ms.length : Int) < 1 := by omega
  have n2 : (0 : Int) < ms.length := by omega
  obtain ⟨x0, g0⟩ := some_of (xs := ms) (k := 0) h0
  have p0 := psub_msL g0
  have l0 := ms_lt g0
  rw [Nat.zero_mul] at p0 l0
  rw [Nat.zero_add] at l0
  simp only [af67, PP, P1, P2, P3, P4, P5, P6, P7, P8, P9, P10, P11, P12, P13, P14, L1, P15, N1, N2, N3, N4, N5, N6, N7, I1, I2, I3, I4, I5, I6, I7, reduceIte, reduceCtorEq, msC_len, msC_one, msC_und, under_slM, msC_0, psub_msC, pover_msC, z9, z9t, msL_len, msL_und, msL_one, prepl_ms, limC_len, limC_one, limC_und, limC_len0, pfrzL_msC, pfrzL_limC, psub_limC, pover_limC, z8, pcells_cp, one_cp, solC_und, solC_0, solC_1, solC_2, n1, n2, p0, l0]
  refine loop3 (fun (k ver : Nat) (y : Ms) => 1 ≤ k ∧ k ≤ ms.length ∧ y ∈ ms ∧ ∀ (j : Nat) (z : Ms), j < k → ms[j]? = some z → y.num ns ≤ z.num ns)
    (fun k ver y => [slM f o ms, .func (.func 13) [] [], .junk, .junk, .ptr 0 0 0, .ptr 1 0 0, p64 k, .junk, .junk, .junk, .junk, .junk, .junk, .junk, .junk, .junk, .junk, .junk, .junk, .junk, .junk, .junk, .junk, .junk, .junk, .junk, .junk, .junk, .junk, .junk, .junk, .junk, .junk])
    (fun k ver y => [.cells 0 0 (msC mz), .cells 0 ver (msC y)]) (fun k _ _ => ms.length - k) 1 1 x0 ⟨by omega, h0, List.mem_of_getElem? g0, fun j z hj hz => by
      have : j = 0 := by omega
      subst this; rw [g0] at hz; cases hz; exact Nat.le_refl _⟩ (by simp only [PWeak_nil, PWeak_junk, PWeak_same, Int.cast_ofNat_Int, List.length_append, List.length_cons, List.length_nil, Nat.zero_add]) rfl ?_
  intro k ver y ⟨hle1, hle, hy, hmin⟩ ih
  refine SemW_go (by kernel_rfl) ?_
  simp only [PP, P1, P2, P3, P4, P5, P6, P7, P8, P9, P10, P11, P12, P13, P14, L1, P15, N1, N2, N3, N4, N5, N6, N7, I1, I2, I3, I4, I5, I6, I7, reduceIte, reduceCtorEq]
  refine QIf.intro (fun c => ?_) (fun c => ?_)
  · have hk' : k < ms.length := by omega
    have k0 : (0 : Int) ≤ k := by omega
    have kn : (k : Int) < ms.length := by omega
    have hwk := wrap_succ (k := k) (by show _ < 1000000000000; omega)
    obtain ⟨x, g1⟩ := some_of (xs := ms) (k := k) hk'
    have hxm := List.mem_of_getElem? g1
    have p1 := psub_msL g1
    have l1 := ms_lt g1
    simp only [PP, P1, P2, P3, P4, P5, P6, P7, P8, P9, P10, P11, P12, P13, P14, L1, P15, N1, N2, N3, N4, N5, N6, N7, I1, I2, I3, I4, I5, I6, I7, reduceIte, reduceCtorEq, msC_len, msC_one, msC_und, under_slM, msC_0, psub_msC, pover_msC, z9, z9t, msL_len, msL_und, msL_one, prepl_ms, limC_len, limC_one, limC_und, limC_len0, pfrzL_msC, pfrzL_limC, psub_limC, pover_limC, z8, pcells_cp, one_cp, solC_und, solC_0, solC_1, solC_2, c, k0, p1, l1]
    refine compare_p T ?_
    rw [cmp_num (hok x hxm) (hok y hy)]
    simp only [PP, P1, P2, P3, P4, P5, P6, P7, P8, P9, P10, P11, P12, P13, P14, L1, P15, N1, N2, N3, N4, N5, N6, N7, I1, I2, I3, I4, I5, I6, I7, reduceIte, reduceCtorEq, msC_len, msC_one, msC_und, under_slM, msC_0, psub_msC, pover_msC, z9, z9t, msL_len, msL_und, msL_one, prepl_ms, limC_len, limC_one, limC_und, limC_len0, pfrzL_msC, pfrzL_limC, psub_limC, pover_limC, z8, pcells_cp, one_cp, solC_und, solC_0, solC_1, solC_2]
    refine QIf.intro (fun d => ?_) (fun d => ?_)
    · rw [cmpI_neg] at d
      simp only [PP, P1, P2, P3, P4, P5, P6, P7, P8, P9, P10, P11, P12, P13, P14, L1, P15, N1, N2, N3, N4, N5, N6, N7, I1, I2, I3, I4, I5, I6, I7, reduceIte, reduceCtorEq, msC_len, msC_one, msC_und, under_slM, msC_0, psub_msC, pover_msC, z9, z9t, msL_len, msL_und, msL_one, prepl_ms, limC_len, limC_one, limC_und, limC_len0, pfrzL_msC, pfrzL_limC, psub_limC, pover_limC, z8, pcells_cp, one_cp, solC_und, solC_0, solC_1, solC_2, c, k0, p1, l1, hwk]
      refine SemW_to (ih (k + 1) (ver + 1) x ⟨by omega, hk', hxm, fun j z hj hz => ?_⟩ (by omega)) (by simp only [PWeak_nil, PWeak_junk, PWeak_same, Int.cast_ofNat_Int, List.length_append, List.length_cons, List.length_nil, Nat.zero_add]) rfl
      by_cases e : j = k
      · subst e; rw [g1] at hz; cases hz; exact Nat.le_refl _
      · have := hmin j z (by omega) hz; omega
    · rw [cmpI_neg] at d
      simp only [PP, P1, P2, P3, P4, P5, P6, P7, P8, P9, P10, P11, P12, P13, P14, L1, P15, N1, N2, N3, N4, N5, N6, N7, I1, I2, I3, I4, I5, I6, I7, reduceIte, reduceCtorEq, msC_len, msC_one, msC_und, under_slM, msC_0, psub_msC, pover_msC, z9, z9t, msL_len, msL_und, msL_one, prepl_ms, limC_len, limC_one, limC_und, limC_len0, pfrzL_msC, pfrzL_limC, psub_limC, pover_limC, z8, pcells_cp, one_cp, solC_und, solC_0, solC_1, solC_2, hwk]
      refine SemW_weak (ih (k + 1) ver y ⟨by omega, hk', hy, fun j z hj hz => ?_⟩ (by omega)) (by simp only [PWeak_nil, PWeak_junk, PWeak_same, Int.cast_ofNat_Int, List.length_append, List.length_cons, List.length_nil, Nat.zero_add])
      by_cases e : j = k
      · subst e; rw [g1] at hz; cases hz; omega
      · exact hmin j z (by omega) hz
  · simp only [PP, P1, P2, P3, P4, P5, P6, P7, P8, P9, P10, P11, P12, P13, P14, L1, P15, N1, N2, N3, N4, N5, N6, N7, I1, I2, I3, I4, I5, I6, I7, reduceIte, reduceCtorEq, msC_len, msC_one, msC_und, under_slM, msC_0, psub_msC, pover_msC, z9, z9t, msL_len, msL_und, msL_one, prepl_ms, limC_len, limC_one, limC_und, limC_len0, pfrzL_msC, pfrzL_limC, psub_limC, pover_limC, z8, pcells_cp, one_cp, solC_und, solC_0, solC_1, solC_2, c]
    refine hk y hy fun z hz => ?_
    obtain ⟨j, hj⟩ := List.getElem?_of_mem hz
    exact hmin j z (by have := getSome_lt hj; omega) hj
theorem maxFunc_p {M : Mem} {K : PV → Mem → Prop} {f o : Bool} {ms : List Ms} {ns : List Nat} (h0 : 0 < ms.length) (hb : ms.length < 1000000000000) (hok : ∀ x ∈ ms, x.Ok ns)
    (hk : ∀ y, y ∈ ms → (∀ z ∈ ms, z.num ns ≤ y.num ns) → K (.agg (msC y)) M) :
    SemC tab 68 [slM f o ms, .func (.func 13) [] []] M K := by
  refine SemC_pure T.h68 (by simp only [PP, P1, P2, P3, P4, P5, P6, P7, P8, P9, P10, P11, P12, P13, P14, L1, P15, N1, N2, N3, N4, N5, N6, N7, I1, I2, I3, I4, I5, I6, I7, reduceIte, reduceCtorEq, msC_len, msC_one, msC_und, under_slM, msC_0, psub_msC, pover_msC, z9, z9t, msL_len, msL_und, msL_one, prepl_ms, limC_len, limC_one, limC_und, limC_len0, pfrzL_msC, pfrzL_limC, psub_limC, pover_limC, z8, pcells_cp, one_cp, solC_und, solC_0, solC_1, solC_2, PV.under]) ?_
  have n1 : ¬ (ms.length : Int) < 1 := by omega
  have n2 : (0 : Int) < ms.length := by omega
  obtain ⟨x0, g0⟩ := some_of (xs := ms) (k := 0) h0
  have p0 := psub_msL g0
  have l0 := ms_lt g0
  rw [Nat.zero_mul] at p0 l0
  rw [Nat.zero_add] at l0
  simp only [af68, PP, P1, P2, P3, P4, P5, P6, P7, P8, P9, P10, P11, P12, P13, P14, L1, P15, N1, N2, N3, N4, N5, N6, N7, I1, I2, I3, I4, I5, I6, I7, reduceIte, reduceCtorEq, msC_len, msC_one, msC_und, under_slM, msC_0, psub_msC, pover_msC, z9, z9t, msL_len, msL_und, msL_one, prepl_ms, limC_len, limC_one, limC_und, limC_len0, pfrzL_msC, pfrzL_limC, psub_limC, pover_limC, z8, pcells_cp, one_cp, solC_und, solC_0, solC_1, solC_2, n1, n2, p0, l0]
  refine loop3 (fun (k ver : Nat) (y : Ms) => 1 ≤ k ∧ k ≤ ms.length ∧ y ∈ ms ∧ ∀ (j : Nat) (z : Ms), j < k → ms[j]? = some z → z.num ns ≤ y.num ns)
    (fun k ver y => [slM f o ms, .func (.func 13) [] [], .junk, .junk, .ptr 0 0 0, .ptr 1 0 0, p64 k, .junk, .junk, .junk, .junk, .junk, .junk, .junk, .junk, .junk, .junk, .junk, .junk, .junk, .junk, .junk, .junk, .junk, .junk, .junk, .junk, .junk, .junk, .junk, .junk, .junk, .junk])
    (fun k ver y => [.cells 0 0 (msC mz), .cells 0 ver (msC y)]) (fun k _ _ => ms.length - k) 1 1 x0 ⟨by omega, h0, List.mem_of_getElem? g0, fun j z hj hz => by
      have : j = 0 := by omega
      subst this; rw [g0] at hz; cases hz; exact Nat.le_refl _⟩ (by simp only [PWeak_nil, PWeak_junk, PWeak_same, Int.cast_ofNat_Int, List.length_append, List.length_cons, List.length_nil, Nat.zero_add]) rfl ?_
  intro k ver y ⟨hle1, hle, hy, hmin⟩ ih
  refine SemW_go (by kernel_rfl) ?_
  simp only [PP, P1, P2, P3, P4, P5, P6, P7, P8, P9, P10, P11, P12, P13, P14, L1, P15, N1, N2, N3, N4, N5, N6, N7, I1, I2, I3, I4, I5, I6, I7, reduceIte, reduceCtorEq]
  refine QIf.intro (fun c => ?_) (fun c => ?_)
  · have hk' : k < ms.length := by omega
    have k0 : (0 : Int) ≤ k := by omega
    have kn : (k : Int) < ms.length := by omega
    have hwk := wrap_succ (k := k) (by show _ < 1000000000000; omega)
    obtain ⟨x, g1⟩ := some_of (xs := ms) (k := k) hk'
    have hxm := List.mem_of_getElem? g1
    have p1 := psub_msL g1
    have l1 := ms_lt g1
    simp only [PP, P1, P2, P3, P4, P5, P6, P7, P8, P9, P10, P11, P12, P13, P14, L1, P15, N1, N2, N3, N4, N5, N6, N7, I1, I2, I3, I4, I5, I6, I7, reduceIte, reduceCtorEq, msC_len, msC_one, msC_und, under_slM, msC_0, psub_msC, pover_msC, z9, z9t, msL_len, msL_und, msL_one, prepl_ms, limC_len, limC_one, limC_und, limC_len0, pfrzL_msC, pfrzL_limC, psub_limC, pover_limC, z8, pcells_cp, one_cp, solC_und, solC_0, solC_1, solC_2, c, k0, p1, l1]
    refine compare_p T ?_
    rw [cmp_num (hok x hxm) (hok y hy)]
    simp only [PP, P1, P2, P3, P4, P5, P6, P7, P8, P9, P10, P11, P12, P13, P14, L1, P15, N1, N2, N3, N4, N5, N6, N7, I1, I2, I3, I4, I5, I6, I7, reduceIte, reduceCtorEq, msC_len, msC_one, msC_und, under_slM, msC_0, psub_msC, pover_msC, z9, z9t, msL_len, msL_und, msL_one, prepl_ms, limC_len, limC_one, limC_und, limC_len0, pfrzL_msC, pfrzL_limC, psub_limC, pover_limC, z8, pcells_cp, one_cp, solC_und, solC_0, solC_1, solC_2]
    refine QIf.intro (fun d => ?_) (fun d => ?_)
    · rw [cmpI_pos] at d
      simp only [PP, P1, P2, P3, P4, P5, P6, P7, P8, P9, P10, P11, P12, P13, P14, L1, P15, N1, N2, N3, N4, N5, N6, N7, I1, I2, I3, I4, I5, I6, I7, reduceIte, reduceCtorEq, msC_len, msC_one, msC_und, under_slM, msC_0, psub_msC, pover_msC, z9, z9t, msL_len, msL_und, msL_one, prepl_ms, limC_len, limC_one, limC_und, limC_len0, pfrzL_msC, pfrzL_limC, psub_limC, pover_limC, z8, pcells_cp, one_cp, solC_und, solC_0, solC_1, solC_2, c, k0, p1, l1, hwk]
      refine SemW_to (ih (k + 1) (ver + 1) x ⟨by omega, hk', hxm, fun j z hj hz => ?_⟩ (by omega)) (by simp only [PWeak_nil, PWeak_junk, PWeak_same, Int.cast_ofNat_Int, List.length_append, List.length_cons, List.length_nil, Nat.zero_add]) rfl
      by_cases e : j = k
      · subst e; rw [g1] at hz; cases hz; exact Nat.le_refl _
      · have := hmin j z (by omega) hz; omega
    · rw [cmpI_pos] at d
      simp only [PP, P1, P2, P3, P4, P5, P6, P7, P8, P9, P10, P11, P12, P13, P14, L1, P15, N1, N2, N3, N4, N5, N6, N7, I1, I2, I3, I4, I5, I6, I7, reduceIte, reduceCtorEq, msC_len, msC_one, msC_und, under_slM, msC_0, psub_msC, pover_msC, z9, z9t, msL_len, msL_und, msL_one, prepl_ms, limC_len, limC_one, limC_und, limC_len0, pfrzL_msC, pfrzL_limC, psub_limC, pover_limC, z8, pcells_cp, one_cp, solC_und, solC_0, solC_1, solC_2, hwk]
      refine SemW_weak (ih (k + 1) ver y ⟨by omega, hk', hy, fun j z hj hz => ?_⟩ (by omega)) (by simp only [PWeak_nil, PWeak_junk, PWeak_same, Int.cast_ofNat_Int, List.length_append, List.length_cons, List.length_nil, Nat.zero_add])
      by_cases e : j = k
      · subst e; rw [g1] at hz; cases hz; omega
      · exact hmin j z (by omega) hz
  · simp only [PP, P1, P2, P3, P4, P5, P6, P7, P8, P9, P10, P11, P12, P13, P14, L1, P15, N1, N2, N3, N4, N5, N6, N7, I1, I2, I3, I4, I5, I6, I7, reduceIte, reduceCtorEq, msC_len, msC_one, msC_und, under_slM, msC_0, psub_msC, pover_msC, z9, z9t, msL_len, msL_und, msL_one, prepl_ms, limC_len, limC_one, limC_und, limC_len0, pfrzL_msC, pfrzL_limC, psub_limC, pover_limC, z8, pcells_cp, one_cp, solC_und, solC_0, solC_1, solC_2, c]
    refine hk y hy fun z hz => ?_
    obtain ⟨j, hj⟩ := List.getElem?_of_mem hz
    exact hmin j z (by have := getSome_lt hj; omega) hj
set_option maxHeartbeats 1000000 in
theorem lift_p {M : Mem} {K : PV → Mem → Prop} {f1 o1 f2 o2 f3 o3 f4 o4 f o : Bool} {ow pr : List Int} {su : List (List Int)} {ms : List Ms} {v : Nat} (V : Valid ow pr su) (B : Bnd ow pr su) (hm : StOk (limL pr) ow.length ms) (hv : v < ow.length)
    (hk : ∀ y : Ms, y.Ok (limL pr) → y.num (limL pr) = gL ow pr su (Nf (limL pr) ms) v → K (.agg (msC y)) M) :
    SemC tab 55 [.cp (solC f1 o1 f2 o2 f3 o3 f4 o4 ow pr su) 0, slM f o ms, p64 v] M K := by
  have P := valid_pr V
  have hp := V.p
  have hs := V.s
  have hml := hm.l
  obtain ⟨o', g1⟩ := some_of (xs := ow) (k := v) hv
  obtain ⟨pv, g2⟩ := some_of (xs := pr) (k := v) (by omega)
  obtain ⟨row, g3⟩ := some_of (xs := su) (k := v) (by omega)
  obtain ⟨p0, p1⟩ := P.2 pv (List.mem_of_getElem? g2)
  obtain ⟨p, rfl⟩ : ∃ p : Nat, pv = p := ⟨pv.toNat, by omega⟩
  have hp16 : p ≤ 16 := by omega
  have v0 : (0 : Int) ≤ v := by omega
  have vn : (v : Int) < ow.length := by omega
  have eO : gO ow v = o' := getD_some g1
  have eR : gO pr v = p := getD_some g2
  have eS : Sf su v = row.map Int.toNat := by unfold Sf; simp [List.getD, g3]
  have hrow : ∀ u ∈ row, 0 ≤ u ∧ u < ow.length := fun u hu => su_range V hv (by simp [List.getD, g3]; exact hu)
  have hrl : row.length < 1000000000000 := B.r row (List.mem_of_getElem? g3)
  have hrn : 0 < row.length := by
    have := (Sf_ok V hv).1
    rw [eS] at this
    cases row with
    | nil => exact absurd rfl this
    | cons x l => simp
  refine SemC_pure T.h55 (by simp only [PP, P1, P2, P3, P4, P5, P6, P7, P8, P9, P10, P11, P12, P13, P14, L1, P15, N1, N2, N3, N4, N5, N6, N7, I1, I2, I3, I4, I5, I6, I7, reduceIte, reduceCtorEq, msC_len, msC_one, msC_und, under_slM, msC_0, psub_msC, pover_msC, z9, z9t, msL_len, msL_und, msL_one, prepl_ms, limC_len, limC_one, limC_und, limC_len0, pfrzL_msC, pfrzL_limC, psub_limC, pover_limC, z8, pcells_cp, one_cp, solC_und, solC_0, solC_1, solC_2, PV.under]) ?_
  simp only [af55, PP, P1, P2, P3, P4, P5, P6, P7, P8, P9, P10, P11, P12, P13, P14, L1, P15, N1, N2, N3, N4, N5, N6, N7, I1, I2, I3, I4, I5, I6, I7, reduceIte, reduceCtorEq, msC_len, msC_one, msC_und, under_slM, msC_0, psub_msC, pover_msC, z9, z9t, msL_len, msL_und, msL_one, prepl_ms, limC_len, limC_one, limC_und, limC_len0, pfrzL_msC, pfrzL_limC, psub_limC, pover_limC, z8, pcells_cp, one_cp, solC_und, solC_0, solC_1, solC_2, v0, vn, hs, g3]
  refine SemW_re (GStep.nil 7 9 rfl rfl rfl) ?_
  refine loop4 (fun (k g ver : Nat) (l : List Ms) => k ≤ row.length ∧ l.length = k ∧ (∀ x ∈ l, x.Ok (limL pr)) ∧ ∀ (j : Nat) (u : Int) (x : Ms), row[j]? = some u → l[j]? = some x → x.num (limL pr) = vN (limL pr) p (Nf (limL pr) ms u.toNat))
    (fun k g ver l => [.cp (solC f1 o1 f2 o2 f3 o3 f4 o4 ow pr su) 0, slM f o ms, p64 v, .junk, .junk, .junk, .ptr 0 0 0, .ref 1 g 9 0 k, .junk, .junk, .junk, .junk, .junk, .junk, .junk, .junk, .junk, slI f4 o4 .i64 row, p64 row.length, p64 k, .junk, .junk, .junk, .junk, .junk, .junk, .junk, .junk, .junk, .junk, .junk, .junk, .junk, .junk, .junk, .junk, .junk, .junk, .junk, .junk, .junk, .junk, .junk, .junk, .junk, .junk, .junk, .junk, .junk, .junk, .junk, .junk, .junk, .junk])
    (fun k g ver l => [.cells 0 0 (msC mz), .cells g ver (msL l)]) (fun k _ _ _ => row.length - k) 0 0 0 [] ⟨by omega, rfl, fun x hx => (by cases hx), fun j u x _ h => by simp at h⟩ (by simp only [PP, P1, P2, P3, P4, P5, P6, P7, P8, P9, P10, P11, P12, P13, P14, L1, P15, N1, N2, N3, N4, N5, N6, N7, I1, I2, I3, I4, I5, I6, I7, reduceIte, reduceCtorEq, PWeak_nil, PWeak_junk, PWeak_same, Int.cast_ofNat_Int]) (by simp only [PP, P1, P2, P3, P4, P5, P6, P7, P8, P9, P10, P11, P12, P13, P14, L1, P15, N1, N2, N3, N4, N5, N6, N7, I1, I2, I3, I4, I5, I6, I7, reduceIte, reduceCtorEq]; rfl) ?_
  intro k g ver l ⟨hle, hl, hlok, hln⟩ ih
  refine SemW_go (by kernel_rfl) ?_
  simp only [PP, P1, P2, P3, P4, P5, P6, P7, P8, P9, P10, P11, P12, P13, P14, L1, P15, N1, N2, N3, N4, N5, N6, N7, I1, I2, I3, I4, I5, I6, I7, reduceIte, reduceCtorEq]
  refine QIf.intro (fun c => ?_) (fun c => ?_)
  · have hk' : k < row.length := by omega
    have k0 : (0 : Int) ≤ k := by omega
    have hwk := wrap_succ (k := k) (by show _ < 1000000000000; omega)
    obtain ⟨u, g4⟩ := some_of (xs := row) (k := k) hk'
    obtain ⟨u0, u1⟩ := hrow u (List.mem_of_getElem? g4)
    obtain ⟨x, g5⟩ := some_of (xs := ms) (k := u.toNat) (by omega)
    have eN : Nf (limL pr) ms u.toNat = x.num (limL pr) := Nf_at g5
    have q1 := psub_msL g5
    have q2 := ms_lt g5
    rw [hml] at q2
    simp only [PP, P1, P2, P3, P4, P5, P6, P7, P8, P9, P10, P11, P12, P13, P14, L1, P15, N1, N2, N3, N4, N5, N6, N7, I1, I2, I3, I4, I5, I6, I7, reduceIte, reduceCtorEq, msC_len, msC_one, msC_und, under_slM, msC_0, psub_msC, pover_msC, z9, z9t, msL_len, msL_und, msL_one, prepl_ms, limC_len, limC_one, limC_und, limC_len0, pfrzL_msC, pfrzL_limC, psub_limC, pover_limC, z8, pcells_cp, one_cp, solC_und, solC_0, solC_1, solC_2, c, k0, v0, vn, hp, g2, g4, u0, u1, hml, q1, q2]
    refine via_p T P.1 hp16 (hm.ok x (List.mem_of_getElem? g5)) (fun y y1 y2 => ?_)
    have hps : psub (msL l) 0 (k * 9) = msL l := by rw [← hl]; exact psub_msL0 l
    have c72 : (k + 1) * 72 ≤ 140737488355328 := by omega
    have c1 : k + 1 ≤ 9223372036854775807 := by omega
    have c9 : k * 9 ≤ l.length * 9 := by omega
    simp only [PP, P1, P2, P3, P4, P5, P6, P7, P8, P9, P10, P11, P12, P13, P14, L1, P15, N1, N2, N3, N4, N5, N6, N7, I1, I2, I3, I4, I5, I6, I7, reduceIte, reduceCtorEq, msC_len, msC_one, msC_und, under_slM, msC_0, psub_msC, pover_msC, z9, z9t, msL_len, msL_und, msL_one, prepl_ms, limC_len, limC_one, limC_und, limC_len0, pfrzL_msC, pfrzL_limC, psub_limC, pover_limC, z8, pcells_cp, one_cp, solC_und, solC_0, solC_1, solC_2, hps, c72, c1, c9, hwk]
    refine SemW_to (ih (k + 1) (g + 1) 0 (l ++ [y]) ⟨by omega, by simp [hl], fun z hz => ?_, fun j w z h1 h2 => ?_⟩ (by omega)) (by simp only [PWeak_nil, PWeak_junk, PWeak_same, Int.cast_ofNat_Int, List.length_append, List.length_cons, List.length_nil, Nat.zero_add]) (by rw [msL_app])
    · rcases List.mem_append.1 hz with h | h
      · exact hlok z h
      · rw [List.mem_singleton] at h; subst h; exact y1
    · by_cases e : j = k
      · subst e
        rw [g4] at h1; cases h1
        rw [List.getElem?_append_right (by omega), hl, Nat.sub_self] at h2
        cases h2
        rw [y2, eN]
      · have hj : j < l.length := by
          have := getSome_lt h2
          simp at this; omega
        rw [List.getElem?_append_left hj] at h2
        exact hln j w z h1 h2
  · have hkr : k = row.length := by omega
    subst hkr
    have hl0 : 0 < l.length := by omega
    have hlb : l.length < 1000000000000 := by omega
    have mem : ∀ y ∈ l, ∃ u ∈ Sf su v, y.num (limL pr) = vN (limL pr) (gO pr v).toNat (Nf (limL pr) ms u) := fun y hy => by
      obtain ⟨j, hj⟩ := List.getElem?_of_mem hy
      obtain ⟨u, hu⟩ := some_of (xs := row) (k := j) (by have := getSome_lt hj; omega)
      refine ⟨u.toNat, by rw [eS]; exact List.mem_map.2 ⟨u, List.mem_of_getElem? hu, rfl⟩, ?_⟩
      rw [eR, Int.toNat_natCast]; exact hln j u y hu hj
    have mem2 : ∀ u ∈ Sf su v, ∃ y ∈ l, y.num (limL pr) = vN (limL pr) (gO pr v).toNat (Nf (limL pr) ms u) := fun u hu => by
      rw [eS] at hu
      obtain ⟨w, hw, rfl⟩ := List.mem_map.1 hu
      obtain ⟨j, hj⟩ := List.getElem?_of_mem hw
      obtain ⟨y, hy⟩ := some_of (xs := l) (k := j) (by have := getSome_lt hj; omega)
      refine ⟨y, List.mem_of_getElem? hy, ?_⟩
      rw [eR, Int.toNat_natCast]; exact hln j w y hj hy
    have bor : PBor [.cells 0 0 (msC mz), .cells g ver (msL l)] [.ref 1 g 9 0 row.length, .func (.func 13) [] []] [slM true false l, .func (.func 13) [] []] := by
      rw [← hl]
      exact .ref rfl (by rw [msL_len]; omega) (msL_und _ _) (psub_msL0 l) (.same rfl .nil)
    simp only [PP, P1, P2, P3, P4, P5, P6, P7, P8, P9, P10, P11, P12, P13, P14, L1, P15, N1, N2, N3, N4, N5, N6, N7, I1, I2, I3, I4, I5, I6, I7, reduceIte, reduceCtorEq, msC_len, msC_one, msC_und, under_slM, msC_0, psub_msC, pover_msC, z9, z9t, msL_len, msL_und, msL_one, prepl_ms, limC_len, limC_one, limC_und, limC_len0, pfrzL_msC, pfrzL_limC, psub_limC, pover_limC, z8, pcells_cp, one_cp, solC_und, solC_0, solC_1, solC_2, c, v0, vn, g1]
    refine QIf.intro (fun d => ?_) (fun d => ?_)
    · simp only [PP, P1, P2, P3, P4, P5, P6, P7, P8, P9, P10, P11, P12, P13, P14, L1, P15, N1, N2, N3, N4, N5, N6, N7, I1, I2, I3, I4, I5, I6, I7, reduceIte, reduceCtorEq, msC_len, msC_one, msC_und, under_slM, msC_0, psub_msC, pover_msC, z9, z9t, msL_len, msL_und, msL_one, prepl_ms, limC_len, limC_one, limC_und, limC_len0, pfrzL_msC, pfrzL_limC, psub_limC, pover_limC, z8, pcells_cp, one_cp, solC_und, solC_0, solC_1, solC_2, d]
      refine SemC_bor bor (minFunc_p T hl0 hlb hlok fun y hy hmin => ⟨by simp only [PV.flat, PV.flatA, msC_flat], ?_⟩)
      simp only [PP, P1, P2, P3, P4, P5, P6, P7, P8, P9, P10, P11, P12, P13, P14, L1, P15, N1, N2, N3, N4, N5, N6, N7, I1, I2, I3, I4, I5, I6, I7, reduceIte, reduceCtorEq, msC_len, msC_one, msC_und, under_slM, msC_0, psub_msC, pover_msC, z9, z9t, msL_len, msL_und, msL_one, prepl_ms, limC_len, limC_one, limC_und, limC_len0, pfrzL_msC, pfrzL_limC, psub_limC, pover_limC, z8, pcells_cp, one_cp, solC_und, solC_0, solC_1, solC_2]
      refine hk y (hlok y hy) ?_
      unfold gL lN
      rw [eO, if_pos d]
      refine vMin_eq (mem y hy) fun u hu => ?_
      obtain ⟨z, hz, e⟩ := mem2 u hu
      rw [← e]; exact hmin z hz
    · simp only [PP, P1, P2, P3, P4, P5, P6, P7, P8, P9, P10, P11, P12, P13, P14, L1, P15, N1, N2, N3, N4, N5, N6, N7, I1, I2, I3, I4, I5, I6, I7, reduceIte, reduceCtorEq, msC_len, msC_one, msC_und, under_slM, msC_0, psub_msC, pover_msC, z9, z9t, msL_len, msL_und, msL_one, prepl_ms, limC_len, limC_one, limC_und, limC_len0, pfrzL_msC, pfrzL_limC, psub_limC, pover_limC, z8, pcells_cp, one_cp, solC_und, solC_0, solC_1, solC_2, d]
      refine SemC_bor bor (maxFunc_p T hl0 hlb hlok fun y hy hmin => ⟨by simp only [PV.flat, PV.flatA, msC_flat], ?_⟩)
      simp only [PP, P1, P2, P3, P4, P5, P6, P7, P8, P9, P10, P11, P12, P13, P14, L1, P15, N1, N2, N3, N4, N5, N6, N7, I1, I2, I3, I4, I5, I6, I7, reduceIte, reduceCtorEq, msC_len, msC_one, msC_und, under_slM, msC_0, psub_msC, pover_msC, z9, z9t, msL_len, msL_und, msL_one, prepl_ms, limC_len, limC_one, limC_und, limC_len0, pfrzL_msC, pfrzL_limC, psub_limC, pover_limC, z8, pcells_cp, one_cp, solC_und, solC_0, solC_1, solC_2]
      refine hk y (hlok y hy) ?_
      unfold gL lN
      rw [eO, if_neg d]
      refine vMax_eq (mem y hy) fun u hu => ?_
      obtain ⟨z, hz, e⟩ := mem2 u hu
      rw [← e]; exact hmin z hz
end
end Go.Am.Ar

