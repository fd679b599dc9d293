/- Contracts: the binary search, and a game restricted to some positions, and what goes with it. -/
import Derived.Test.YtjknfmndhbafoaaArPa
set_option linter.unusedVariables false
set_option linter.unusedSimpArgs false
set_option maxRecDepth 10000
namespace Go.Am.Ar

theorem wrap_i64 {k : Nat} (h : k < 4000000000000) : IntKind.i64.wrap (k : Int) = (k : Int) := by
  simp only [IntKind.wrap, IntKind.signed, IntKind.bits]
  simp
  omega
theorem wrap_u64 {k : Nat} (h : k < 4000000000000) : IntKind.u64.wrap (k : Int) = (k : Int) := by
  simp only [IntKind.wrap, IntKind.signed, IntKind.bits]
  simp
  omega
theorem pshr_one (s : Nat) : pbin .shr (.int .u64 (s : Int)) (.int .u64 1) = some (.int .u64 ((s / 2 : Nat) : Int)) := by
  simp [pbin, toAV0, abin, isShift, binShift, IntKind.bits, Int.fdiv_eq_ediv, ofAV1]

/-- How many numbers come before v. -/
def lowB (v : Int) (xs : List Int) : Nat := (xs.takeWhile fun x => decide (x < v)).length
theorem lowB_of {v : Int} : ∀ {xs : List Int} {lo : Nat}, lo ≤ xs.length → (∀ i x, xs[i]? = some x → i < lo → x < v) → (∀ i x, xs[i]? = some x → lo ≤ i → v ≤ x) → lowB v xs = lo
  | [], lo, h0, _, _ => by simp at h0; simp [lowB, h0]
  | x :: xs, 0, h0, h1, h2 => by
    have : ¬ x < v := by have := h2 0 x rfl (Nat.le_refl _); omega
    simp [lowB, this]
  | x :: xs, lo + 1, h0, h1, h2 => by
    have hx : x < v := h1 0 x rfl (by omega)
    have := lowB_of (v := v) (xs := xs) (lo := lo) (by simpa using h0) (fun i y hy hi => h1 (i + 1) y (by simpa using hy) (by omega)) (fun i y hy hi => h2 (i + 1) y (by simpa using hy) (by omega))
    simp only [lowB] at this ⊢
    simp [hx, this]

/-- Rising lists. -/
theorem posM_rise {n : Int} : ∀ {l : List Int} {last : Int}, posM n last l = true → l.Pairwise (· < ·) ∧ ∀ x ∈ l, last < x ∧ x < n
  | [], _, _ => ⟨.nil, fun x hx => by cases hx⟩
  | v :: l, last, h => by
    unfold posM at h
    split at h
    · simp at h
    · split at h
      · simp at h
      · obtain ⟨h1, h2⟩ := posM_rise h
        refine ⟨.cons (fun x hx => (h2 x hx).1) h1, fun x hx => ?_⟩
        rcases List.mem_cons.1 hx with rfl | hx
        · omega
        · have := h2 x hx; omega
theorem rise_get {l : List Int} (h : l.Pairwise (· < ·)) {i j : Nat} {x y : Int} (hx : l[i]? = some x) (hy : l[j]? = some y) (hij : i < j) : x < y := by
  have hi := getSome_lt hx
  have hj := getSome_lt hy
  rw [List.getElem?_eq_getElem hi] at hx
  rw [List.getElem?_eq_getElem hj] at hy
  cases hx; cases hy
  exact List.pairwise_iff_getElem.1 h i j hi hj hij

def rowM (keep row : List Int) : List Int := (row.filter fun u => decide (u ∈ keep)).map fun u => ((lowB u keep : Nat) : Int)
def restrictM (ow pr : List Int) (su : List (List Int)) (keep : List Int) : PV :=
  if wrongM ow pr su 0 keep = 0 then (if (keep.length : Int) = 0 then .tuple [gz, p64 3] else
    if ∃ v ∈ keep, rowM keep (su.getD v.toNat []) = [] then .tuple [gz, p64 13] else
    .tuple [gmP false true false true false true false true (keep.map fun v => ow.getD v.toNat 0) (keep.map fun v => pr.getD v.toNat 0) (keep.map fun v => rowM keep (su.getD v.toNat [])), p64 0])
  else .tuple [gz, p64 (wrongM ow pr su 0 keep)]

theorem wrong_zero {ow pr : List Int} {su : List (List Int)} {side : Int} {keep : List Int} (h : wrongM ow pr su side keep = 0) : Valid ow pr su ∧ side ≤ 1 ∧ posM ow.length (-1) keep = true := by
  unfold wrongM at h
  split at h
  · rename_i h0
    split at h
    · simp at h
    · split at h
      · rename_i h1 h2; exact ⟨valid_of h0, by omega, h2⟩
      · simp at h
  · rename_i h0; exact absurd h h0

section
variable {tab : FuncId → Option AF} (T : HasA tab)
include T

theorem isNaN_p {M : Mem} {K : PV → Mem → Prop} {x : Int} (hq : K (.bool false) M) : SemC tab 68 [p64 x] M K := by
  refine SemC_pure T.h68 (by simp only [PP, pchk, pold, PKNo, ppack, PObj.under, pput, ptset, ptget, pev, ofAV, ofAV1, ppad, pfill, prepl, List.replicate, AO.effect, Nat.reduceAdd, Nat.reduceSub, Nat.reduceMul, Nat.reduceLT, Nat.reduceLeDiff, Nat.reduceEqDiff, Nat.reduceBEq, Int.reduceToNat, Int.reduceLT, Int.reduceLE, Int.reduceEq, Int.reduceAdd, Int.reduceSub, Int.reduceNeg, reduceIte, reduceCtorEq]) ?_
  simp only [af68, PP, pchk, pold, PKNo, ppack, PObj.under, pput, ptset, ptget, pev, ofAV, ofAV1, ppad, pfill, prepl, List.replicate, AO.effect, Nat.reduceAdd, Nat.reduceSub, Nat.reduceMul, Nat.reduceLT, Nat.reduceLeDiff, Nat.reduceEqDiff, Nat.reduceBEq, Int.reduceToNat, Int.reduceLT, Int.reduceLE, Int.reduceEq, Int.reduceAdd, Int.reduceSub, Int.reduceNeg, reduceIte, reduceCtorEq]
  exact hq
theorem sisNaN_p {M : Mem} {K : PV → Mem → Prop} {x : Int} (hq : K (.bool false) M) : SemC tab 61 [p64 x] M K := by
  refine SemC_pure T.h61 (by simp only [PP, pchk, pold, PKNo, ppack, PObj.under, pput, ptset, ptget, pev, ofAV, ofAV1, ppad, pfill, prepl, List.replicate, AO.effect, Nat.reduceAdd, Nat.reduceSub, Nat.reduceMul, Nat.reduceLT, Nat.reduceLeDiff, Nat.reduceEqDiff, Nat.reduceBEq, Int.reduceToNat, Int.reduceLT, Int.reduceLE, Int.reduceEq, Int.reduceAdd, Int.reduceSub, Int.reduceNeg, reduceIte, reduceCtorEq]) ?_
  simp only [af61, PP, pchk, pold, PKNo, ppack, PObj.under, pput, ptset, ptget, pev, ofAV, ofAV1, ppad, pfill, prepl, List.replicate, AO.effect, Nat.reduceAdd, Nat.reduceSub, Nat.reduceMul, Nat.reduceLT, Nat.reduceLeDiff, Nat.reduceEqDiff, Nat.reduceBEq, Int.reduceToNat, Int.reduceLT, Int.reduceLE, Int.reduceEq, Int.reduceAdd, Int.reduceSub, Int.reduceNeg, reduceIte, reduceCtorEq]
  exact hq
theorem less_p {M : Mem} {K : PV → Mem → Prop} {x y : Int} (hq : K (.bool (decide (x < y))) M) : SemC tab 60 [p64 x, p64 y] M K := by
  refine SemC_pure T.h60 (by simp only [PP, pchk, pold, PKNo, ppack, PObj.under, pput, ptset, ptget, pev, ofAV, ofAV1, ppad, pfill, prepl, List.replicate, AO.effect, Nat.reduceAdd, Nat.reduceSub, Nat.reduceMul, Nat.reduceLT, Nat.reduceLeDiff, Nat.reduceEqDiff, Nat.reduceBEq, Int.reduceToNat, Int.reduceLT, Int.reduceLE, Int.reduceEq, Int.reduceAdd, Int.reduceSub, Int.reduceNeg, reduceIte, reduceCtorEq]) ?_
  simp only [af60, PP, pchk, pold, PKNo, ppack, PObj.under, pput, ptset, ptget, pev, ofAV, ofAV1, ppad, pfill, prepl, List.replicate, AO.effect, Nat.reduceAdd, Nat.reduceSub, Nat.reduceMul, Nat.reduceLT, Nat.reduceLeDiff, Nat.reduceEqDiff, Nat.reduceBEq, Int.reduceToNat, Int.reduceLT, Int.reduceLE, Int.reduceEq, Int.reduceAdd, Int.reduceSub, Int.reduceNeg, reduceIte, reduceCtorEq]
  refine isNaN_p T ?_
  simp only [PP, pchk, pold, PKNo, ppack, PObj.under, pput, ptset, ptget, pev, ofAV, ofAV1, ppad, pfill, prepl, List.replicate, AO.effect, Nat.reduceAdd, Nat.reduceSub, Nat.reduceMul, Nat.reduceLT, Nat.reduceLeDiff, Nat.reduceEqDiff, Nat.reduceBEq, Int.reduceToNat, Int.reduceLT, Int.reduceLE, Int.reduceEq, Int.reduceAdd, Int.reduceSub, Int.reduceNeg, reduceIte, reduceCtorEq]
  exact hq

theorem search_p {M : Mem} {K : PV → Mem → Prop} {f o : Bool} {xs : List Int} {v : Int} (hm : xs.length < big) (hs : xs.Pairwise (· < ·)) (hq : K (.tuple [p64 (lowB v xs), .bool (decide (v ∈ xs))]) M) :
    SemC tab 52 [slI f o .i64 xs, p64 v] M K := by
  refine SemC_pure T.h52 (by simp only [PP, pchk, pold, PKNo, ppack, PObj.under, pput, ptset, ptget, pev, ofAV, ofAV1, ppad, pfill, prepl, List.replicate, AO.effect, Nat.reduceAdd, Nat.reduceSub, Nat.reduceMul, Nat.reduceLT, Nat.reduceLeDiff, Nat.reduceEqDiff, Nat.reduceBEq, Int.reduceToNat, Int.reduceLT, Int.reduceLE, Int.reduceEq, Int.reduceAdd, Int.reduceSub, Int.reduceNeg, reduceIte, reduceCtorEq]) ?_
  simp only [af52, PP, pchk, pold, PKNo, ppack, PObj.under, pput, ptset, ptget, pev, ofAV, ofAV1, ppad, pfill, prepl, List.replicate, AO.effect, Nat.reduceAdd, Nat.reduceSub, Nat.reduceMul, Nat.reduceLT, Nat.reduceLeDiff, Nat.reduceEqDiff, Nat.reduceBEq, Int.reduceToNat, Int.reduceLT, Int.reduceLE, Int.reduceEq, Int.reduceAdd, Int.reduceSub, Int.reduceNeg, reduceIte, reduceCtorEq]
  refine loop2 (fun (lo hi : Nat) => lo ≤ hi ∧ hi ≤ xs.length ∧ (∀ i x, xs[i]? = some x → i < lo → x < v) ∧ (∀ i x, xs[i]? = some x → hi ≤ i → v ≤ x)) (fun lo hi => [slI f o .i64 xs, p64 v, .junk, .junk, .junk, .junk, p64 xs.length, p64 lo, p64 hi, .junk, .junk, .junk, .junk, .junk, .junk, .junk, .junk, .junk, .junk, .junk, .junk, .junk, .junk, .junk, .junk, .junk, .junk, .junk, .junk, .junk, .junk, .junk, .junk, .junk, .junk, .junk, .junk, .junk, .junk, .junk, .junk, .junk, .junk, .junk, .junk, .junk, .junk, .junk, .junk, .junk, .junk, .junk, .junk, .junk]) (fun _ _ => []) (fun lo hi => hi - lo) 0 xs.length ⟨by omega, by omega, fun i x h1 h2 => by omega, fun i x h1 h2 => by have := getSome_lt h1; omega⟩ (by simp only [PWeak_nil, PWeak_junk, PWeak_same, Int.cast_ofNat_Int, List.length_append, List.length_cons, List.length_nil, Nat.zero_add]) rfl ?_
  intro lo hi ⟨h1, h2, h3, h4⟩ ih
  refine SemW_go (by kernel_rfl) ?_
  have hb : xs.length < 1000000000000 := hm
  simp only [PP, pchk, pold, PKNo, ppack, PObj.under, pput, ptset, ptget, pev, ofAV, ofAV1, ppad, pfill, prepl, List.replicate, AO.effect, Nat.reduceAdd, Nat.reduceSub, Nat.reduceMul, Nat.reduceLT, Nat.reduceLeDiff, Nat.reduceEqDiff, Nat.reduceBEq, Int.reduceToNat, Int.reduceLT, Int.reduceLE, Int.reduceEq, Int.reduceAdd, Int.reduceSub, Int.reduceNeg, reduceIte, reduceCtorEq]
  refine QIf.intro (fun c => ?_) (fun c => ?_)
  · have w1 : IntKind.i64.wrap ((lo : Int) + hi) = ((lo + hi : Nat) : Int) := by
      rw [show (lo : Int) + hi = ((lo + hi : Nat) : Int) by omega]; exact wrap_i64 (by omega)
    have w2 : IntKind.u64.wrap ((lo + hi : Nat) : Int) = ((lo + hi : Nat) : Int) := wrap_u64 (by omega)
    have w3 : IntKind.i64.wrap (((lo + hi) / 2 : Nat) : Int) = (((lo + hi) / 2 : Nat) : Int) := wrap_i64 (by omega)
    have hmid : (lo + hi) / 2 < xs.length := by omega
    have hge : lo ≤ (lo + hi) / 2 := by omega
    have hlh : (lo + hi) / 2 < hi := by omega
    have w4 := wrap_succ (k := (lo + hi) / 2) (by show _ < 1000000000000; omega)
    have hs' := pshr_one (lo + hi)
    generalize (lo + hi) / 2 = mid at *
    obtain ⟨x, g1⟩ := some_of hmid
    have k0 : (0 : Int) ≤ mid := by omega
    have k1 : (mid : Int) < xs.length := by omega
    simp only [PP, pchk, pold, PKNo, ppack, PObj.under, pput, ptset, ptget, pev, ofAV, ofAV1, ppad, pfill, prepl, List.replicate, AO.effect, Nat.reduceAdd, Nat.reduceSub, Nat.reduceMul, Nat.reduceLT, Nat.reduceLeDiff, Nat.reduceEqDiff, Nat.reduceBEq, Int.reduceToNat, Int.reduceLT, Int.reduceLE, Int.reduceEq, Int.reduceAdd, Int.reduceSub, Int.reduceNeg, reduceIte, reduceCtorEq, c, w1, w2, hs', w3, g1, k0, k1]
    refine less_p T ?_
    by_cases c : x < v
    · simp only [PP, pchk, pold, PKNo, ppack, PObj.under, pput, ptset, ptget, pev, ofAV, ofAV1, ppad, pfill, prepl, List.replicate, AO.effect, Nat.reduceAdd, Nat.reduceSub, Nat.reduceMul, Nat.reduceLT, Nat.reduceLeDiff, Nat.reduceEqDiff, Nat.reduceBEq, Int.reduceToNat, Int.reduceLT, Int.reduceLE, Int.reduceEq, Int.reduceAdd, Int.reduceSub, Int.reduceNeg, reduceIte, reduceCtorEq, c, w4]
      exact SemW_weak (ih (mid + 1) hi ⟨by omega, h2, fun i y hy hi => by
        rcases Nat.lt_or_ge i mid with q | q
        · have := rise_get hs hy g1 q; omega
        · have : i = mid := by omega
          subst this; rw [g1] at hy; cases hy; exact c, h4⟩ (by omega)) (by simp only [PWeak_nil, PWeak_junk, PWeak_same, Int.cast_ofNat_Int, List.length_append, List.length_cons, List.length_nil, Nat.zero_add])
    · simp only [PP, pchk, pold, PKNo, ppack, PObj.under, pput, ptset, ptget, pev, ofAV, ofAV1, ppad, pfill, prepl, List.replicate, AO.effect, Nat.reduceAdd, Nat.reduceSub, Nat.reduceMul, Nat.reduceLT, Nat.reduceLeDiff, Nat.reduceEqDiff, Nat.reduceBEq, Int.reduceToNat, Int.reduceLT, Int.reduceLE, Int.reduceEq, Int.reduceAdd, Int.reduceSub, Int.reduceNeg, reduceIte, reduceCtorEq, c]
      exact SemW_weak (ih lo mid ⟨by omega, by omega, h3, fun i y hy hi => by
        rcases Nat.lt_or_ge mid i with q | q
        · have := rise_get hs g1 hy q; omega
        · have : i = mid := by omega
          subst this; rw [g1] at hy; cases hy; omega⟩ (by omega)) (by simp only [PWeak_nil, PWeak_junk, PWeak_same, Int.cast_ofNat_Int, List.length_append, List.length_cons, List.length_nil, Nat.zero_add])
  · have e : hi = lo := by omega
    subst e
    have hl := lowB_of h2 h3 h4
    rw [hl] at hq
    by_cases c2 : hi < xs.length
    · obtain ⟨x, g1⟩ := some_of c2
      have k0 : (0 : Int) ≤ hi := by omega
      have k1 : (hi : Int) < xs.length := by omega
      by_cases d : x = v
      · subst d
        have : x ∈ xs := List.mem_of_getElem? g1
        simp only [PP, pchk, pold, PKNo, ppack, PObj.under, pput, ptset, ptget, pev, ofAV, ofAV1, ppad, pfill, prepl, List.replicate, AO.effect, Nat.reduceAdd, Nat.reduceSub, Nat.reduceMul, Nat.reduceLT, Nat.reduceLeDiff, Nat.reduceEqDiff, Nat.reduceBEq, Int.reduceToNat, Int.reduceLT, Int.reduceLE, Int.reduceEq, Int.reduceAdd, Int.reduceSub, Int.reduceNeg, reduceIte, reduceCtorEq, k0, k1, g1, this, Int.lt_irrefl] at hq ⊢
        exact hq
      · have hni : ¬ v ∈ xs := by
          intro hv
          obtain ⟨j, hj⟩ := List.getElem?_of_mem hv
          have a1 := h4 hi x g1 (Nat.le_refl _)
          rcases Nat.lt_or_ge j hi with q | q
          · have := h3 j v hj q; omega
          · rcases Nat.lt_or_ge hi j with q2 | q2
            · have := rise_get hs g1 hj q2; omega
            · have : j = hi := by omega
              subst this; rw [g1] at hj; cases hj; exact d rfl
        simp only [PP, pchk, pold, PKNo, ppack, PObj.under, pput, ptset, ptget, pev, ofAV, ofAV1, ppad, pfill, prepl, List.replicate, AO.effect, Nat.reduceAdd, Nat.reduceSub, Nat.reduceMul, Nat.reduceLT, Nat.reduceLeDiff, Nat.reduceEqDiff, Nat.reduceBEq, Int.reduceToNat, Int.reduceLT, Int.reduceLE, Int.reduceEq, Int.reduceAdd, Int.reduceSub, Int.reduceNeg, reduceIte, reduceCtorEq, k0, k1, g1, d, hni, Int.lt_irrefl] at hq ⊢
        refine sisNaN_p T ?_
        simp only [PP, pchk, pold, PKNo, ppack, PObj.under, pput, ptset, ptget, pev, ofAV, ofAV1, ppad, pfill, prepl, List.replicate, AO.effect, Nat.reduceAdd, Nat.reduceSub, Nat.reduceMul, Nat.reduceLT, Nat.reduceLeDiff, Nat.reduceEqDiff, Nat.reduceBEq, Int.reduceToNat, Int.reduceLT, Int.reduceLE, Int.reduceEq, Int.reduceAdd, Int.reduceSub, Int.reduceNeg, reduceIte, reduceCtorEq]
        exact hq
    · have k1 : ¬ (hi : Int) < xs.length := by omega
      have hni : ¬ v ∈ xs := by
        intro hv
        obtain ⟨j, hj⟩ := List.getElem?_of_mem hv
        have := getSome_lt hj
        have := h3 j v hj (by omega)
        omega
      simp only [PP, pchk, pold, PKNo, ppack, PObj.under, pput, ptset, ptget, pev, ofAV, ofAV1, ppad, pfill, prepl, List.replicate, AO.effect, Nat.reduceAdd, Nat.reduceSub, Nat.reduceMul, Nat.reduceLT, Nat.reduceLeDiff, Nat.reduceEqDiff, Nat.reduceBEq, Int.reduceToNat, Int.reduceLT, Int.reduceLE, Int.reduceEq, Int.reduceAdd, Int.reduceSub, Int.reduceNeg, reduceIte, reduceCtorEq, k1, hni, Int.lt_irrefl] at hq ⊢
      exact hq
end
end Go.Am.Ar

set_option linter.unusedVariables false
set_option linter.unusedSimpArgs false
set_option maxRecDepth 10000
namespace Go.Am.Ar
section
variable {tab : FuncId → Option AF} (T : HasA tab)
include T

theorem restrict_p {M : Mem} {K : PV → Mem → Prop} {f1 o1 f2 o2 f3 o3 f4 o4 f5 o5 : Bool} {ow pr keep : List Int} {su : List (List Int)} (B : Bnd ow pr su) (hb : keep.length < big) (hq : K (restrictM ow pr su keep) M) :
    SemC tab 28 [gmP f1 o1 f2 o2 f3 o3 f4 o4 ow pr su, slI f5 o5 .i64 keep] M K := by
  refine SemC_pure T.h28 (by simp only [PP, pchk, pold, PKNo, ppack, PObj.under, pput, ptset, ptget, pev, ofAV, ofAV1, ppad, pfill, prepl, List.replicate, AO.effect, Nat.reduceAdd, Nat.reduceSub, Nat.reduceMul, Nat.reduceLT, Nat.reduceLeDiff, Nat.reduceEqDiff, Nat.reduceBEq, Int.reduceToNat, Int.reduceLT, Int.reduceLE, Int.reduceEq, Int.reduceAdd, Int.reduceSub, Int.reduceNeg, reduceIte, reduceCtorEq]) ?_
  simp only [af28, PP, pchk, pold, PKNo, ppack, PObj.under, pput, ptset, ptget, pev, ofAV, ofAV1, ppad, pfill, prepl, List.replicate, AO.effect, Nat.reduceAdd, Nat.reduceSub, Nat.reduceMul, Nat.reduceLT, Nat.reduceLeDiff, Nat.reduceEqDiff, Nat.reduceBEq, Int.reduceToNat, Int.reduceLT, Int.reduceLE, Int.reduceEq, Int.reduceAdd, Int.reduceSub, Int.reduceNeg, reduceIte, reduceCtorEq, restrictM] at hq ⊢
  refine acheck_p T B hb ?_
  simp only [PP, pchk, pold, PKNo, ppack, PObj.under, pput, ptset, ptget, pev, ofAV, ofAV1, ppad, pfill, prepl, List.replicate, AO.effect, Nat.reduceAdd, Nat.reduceSub, Nat.reduceMul, Nat.reduceLT, Nat.reduceLeDiff, Nat.reduceEqDiff, Nat.reduceBEq, Int.reduceToNat, Int.reduceLT, Int.reduceLE, Int.reduceEq, Int.reduceAdd, Int.reduceSub, Int.reduceNeg, reduceIte, reduceCtorEq]
  refine QIf.intro (fun c1 => ?_) (fun c1 => ?_)
  rotate_left
  · simp only [PP, pchk, pold, PKNo, ppack, PObj.under, pput, ptset, ptget, pev, ofAV, ofAV1, ppad, pfill, prepl, List.replicate, AO.effect, Nat.reduceAdd, Nat.reduceSub, Nat.reduceMul, Nat.reduceLT, Nat.reduceLeDiff, Nat.reduceEqDiff, Nat.reduceBEq, Int.reduceToNat, Int.reduceLT, Int.reduceLE, Int.reduceEq, Int.reduceAdd, Int.reduceSub, Int.reduceNeg, reduceIte, reduceCtorEq, c1] at hq ⊢
    exact hq
  simp only [PP, pchk, pold, PKNo, ppack, PObj.under, pput, ptset, ptget, pev, ofAV, ofAV1, ppad, pfill, prepl, List.replicate, AO.effect, Nat.reduceAdd, Nat.reduceSub, Nat.reduceMul, Nat.reduceLT, Nat.reduceLeDiff, Nat.reduceEqDiff, Nat.reduceBEq, Int.reduceToNat, Int.reduceLT, Int.reduceLE, Int.reduceEq, Int.reduceAdd, Int.reduceSub, Int.reduceNeg, reduceIte, reduceCtorEq, c1] at hq ⊢
  refine QIf.intro (fun c2 => ?_) (fun c2 => ?_)
  · simp only [PP, pchk, pold, PKNo, ppack, PObj.under, pput, ptset, ptget, pev, ofAV, ofAV1, ppad, pfill, prepl, List.replicate, AO.effect, Nat.reduceAdd, Nat.reduceSub, Nat.reduceMul, Nat.reduceLT, Nat.reduceLeDiff, Nat.reduceEqDiff, Nat.reduceBEq, Int.reduceToNat, Int.reduceLT, Int.reduceLE, Int.reduceEq, Int.reduceAdd, Int.reduceSub, Int.reduceNeg, reduceIte, reduceCtorEq, c2] at hq ⊢
    exact hq
  simp only [PP, pchk, pold, PKNo, ppack, PObj.under, pput, ptset, ptget, pev, ofAV, ofAV1, ppad, pfill, prepl, List.replicate, AO.effect, Nat.reduceAdd, Nat.reduceSub, Nat.reduceMul, Nat.reduceLT, Nat.reduceLeDiff, Nat.reduceEqDiff, Nat.reduceBEq, Int.reduceToNat, Int.reduceLT, Int.reduceLE, Int.reduceEq, Int.reduceAdd, Int.reduceSub, Int.reduceNeg, reduceIte, reduceCtorEq, c2] at hq ⊢
  obtain ⟨V, _, hpm⟩ := wrong_zero c1
  obtain ⟨hrise, hrange⟩ := posM_rise hpm
  have hs := V.s
  have hp := V.p
  have n1 := V.n1
  have hb' : keep.length < 1000000000000 := hb
  refine SemW_re (GStep.nilbox 1 0 1 rfl rfl rfl) ?_
  refine SemW_re (GStep.nilbox 1 1 1 rfl rfl rfl) ?_
  refine SemW_re (GStep.nilbox 1 2 1 rfl rfl rfl) ?_
  simp only [List.length_cons, List.length_nil, List.length_append, List.length_set, List.set_cons_zero, List.set_cons_succ, List.cons_append, List.nil_append, Nat.reduceAdd]
  refine loop6 (fun (k v g : Nat) (a1 a2 : List Int) (a3 : List (List Int)) => k ≤ keep.length ∧ a1 = (keep.take k).map (fun v => ow.getD v.toNat 0) ∧ a2 = (keep.take k).map (fun v => pr.getD v.toNat 0) ∧ a3 = (keep.take k).map (fun v => rowM keep (su.getD v.toNat [])) ∧ [] ∉ a3)
    (fun k v g a1 a2 a3 => [.junk, slI f5 o5 .i64 keep, .ptr 0 0 0, .junk, .ptr 1 0 0, .junk, .junk, .junk, .junk, .junk, .junk, .junk, .junk, .junk, .junk, .junk, .junk, .junk, .junk, .junk, .junk, .junk, .junk, .junk, .junk, slI f5 o5 .i64 keep, p64 keep.length, p64 k, .junk, .junk, .junk, .junk, .junk, .junk, .junk, .junk, .junk, .junk, .junk, .junk, .junk, .junk, .junk, .junk, .junk, .junk, .junk, .junk, .junk, .junk, .junk, .junk, .junk, .junk, .junk, .junk, .junk, .junk, .junk, .junk, .junk, .junk, .junk, .junk, .junk, .junk, .junk, .junk, .junk, .junk, .junk, .junk, .junk, .junk, .junk, .junk, .junk, .junk, .junk, .junk, .junk, .junk, .junk, .junk, .junk])
    (fun k v g a1 a2 a3 => [.cells 0 0 [slI f1 o1 .u8 ow, slI f2 o2 .i64 pr, slR f3 o3 f4 o4 .i64 su], .cells 0 v [.ref 2 g 1 0 a1.length, .ref 3 g 1 0 a2.length, .ref 4 g 1 0 a3.length], .cells g 0 (a1.map (PV.int .u8)), .cells g 0 (a2.map (PV.int .i64)), .cells g 0 (a3.map (slI false true .i64))])
    (fun k _ _ _ _ _ => keep.length - k) 0 0 0 [] [] [] ⟨by omega, rfl, rfl, rfl, by simp⟩ (by simp only [PWeak_nil, PWeak_junk, PWeak_same, Int.cast_ofNat_Int, List.length_append, List.length_cons, List.length_nil, Nat.zero_add]) rfl ?_
  intro k v g a1 a2 a3 ⟨hle, ha1, ha2, ha3, hne⟩ ih
  refine SemW_go (by kernel_rfl) ?_
  simp only [PP, pchk, pold, PKNo, ppack, PObj.under, pput, ptset, ptget, pev, ofAV, ofAV1, ppad, pfill, prepl, List.replicate, AO.effect, Nat.reduceAdd, Nat.reduceSub, Nat.reduceMul, Nat.reduceLT, Nat.reduceLeDiff, Nat.reduceEqDiff, Nat.reduceBEq, Int.reduceToNat, Int.reduceLT, Int.reduceLE, Int.reduceEq, Int.reduceAdd, Int.reduceSub, Int.reduceNeg, reduceIte, reduceCtorEq]
  refine QIf.intro (fun c => ?_) (fun c => ?_)
  · have hk' : k < keep.length := by omega
    obtain ⟨x, g1⟩ := some_of hk'
    obtain ⟨hx0, hx1⟩ := hrange x (List.mem_of_getElem? g1)
    have h0 : (0 : Int) ≤ k := by omega
    have hw := wrap_succ (k := k) (by show _ < 1000000000000; omega)
    have x0 : (0 : Int) ≤ x := by omega
    have x1 : x < (ow.length : Int) := hx1
    have x2 : x < (pr.length : Int) := by omega
    have x3 : x < (su.length : Int) := by omega
    obtain ⟨row, q1⟩ := some_of (xs := su) (k := x.toNat) (by omega)
    obtain ⟨o, q2⟩ := some_of (xs := ow) (k := x.toNat) (by omega)
    obtain ⟨p, q3⟩ := some_of (xs := pr) (k := x.toNat) (by omega)
    have hrb := B.r row (List.mem_of_getElem? q1)
    have hrb' : row.length < 1000000000000 := hrb
    simp only [PP, pchk, pold, PKNo, ppack, PObj.under, pput, ptset, ptget, pev, ofAV, ofAV1, ppad, pfill, prepl, List.replicate, AO.effect, Nat.reduceAdd, Nat.reduceSub, Nat.reduceMul, Nat.reduceLT, Nat.reduceLeDiff, Nat.reduceEqDiff, Nat.reduceBEq, Int.reduceToNat, Int.reduceLT, Int.reduceLE, Int.reduceEq, Int.reduceAdd, Int.reduceSub, Int.reduceNeg, reduceIte, reduceCtorEq, c, g1, h0, x0, x3, q1]
    refine SemW_gh ?_
    refine SemW_re (GStep.nil 9 1 rfl rfl rfl) ?_
    simp only [ptset, List.cons_append, List.nil_append, List.length_cons, List.length_nil, Nat.reduceAdd]
    refine loop3 (fun (j g2 : Nat) (acc : List Int) => j ≤ row.length ∧ acc = rowM keep (row.take j))
      (fun j g2 acc => [.junk, slI f5 o5 .i64 keep, .ptr 0 0 0, .junk, .ptr 1 0 0, .junk, .junk, .junk, p64 x, .ref 5 g2 1 0 acc.length, .junk, .junk, .junk, .junk, .junk, .junk, .junk, .junk, .junk, .junk, .junk, .junk, .junk, .junk, .junk, slI f5 o5 .i64 keep, p64 keep.length, p64 k, .junk, .junk, .junk, .junk, .junk, .junk, .junk, slI f4 o4 .i64 row, p64 row.length, p64 j, .junk, .junk, .junk, .junk, .junk, .junk, .junk, .junk, .junk, .junk, .junk, .junk, .junk, .junk, .junk, .junk, .junk, .junk, .junk, .junk, .junk, .junk, .junk, .junk, .junk, .junk, .junk, .junk, .junk, .junk, .junk, .junk, .junk, .junk, .junk, .junk, .junk, .junk, .junk, .junk, .junk, .junk, .junk, .junk, .junk, .junk, .junk])
      (fun j g2 acc => [.cells 0 0 [slI f1 o1 .u8 ow, slI f2 o2 .i64 pr, slR f3 o3 f4 o4 .i64 su], .cells 0 v [.ref 2 g 1 0 a1.length, .ref 3 g 1 0 a2.length, .ref 4 g 1 0 a3.length], .cells g 0 (a1.map (PV.int .u8)), .cells g 0 (a2.map (PV.int .i64)), .cells g 0 (a3.map (slI false true .i64)), .cells g2 0 (acc.map (PV.int .i64))])
      (fun j _ _ => row.length - j) 0 0 [] ⟨by omega, rfl⟩ (by simp only [PWeak_nil, PWeak_junk, PWeak_same, Int.cast_ofNat_Int, List.length_append, List.length_cons, List.length_nil, Nat.zero_add]) rfl ?_
    intro j g2 acc ⟨hjle, hacc⟩ ih2
    refine SemW_go (by kernel_rfl) ?_
    simp only [PP, pchk, pold, PKNo, ppack, PObj.under, pput, ptset, ptget, pev, ofAV, ofAV1, ppad, pfill, prepl, List.replicate, AO.effect, Nat.reduceAdd, Nat.reduceSub, Nat.reduceMul, Nat.reduceLT, Nat.reduceLeDiff, Nat.reduceEqDiff, Nat.reduceBEq, Int.reduceToNat, Int.reduceLT, Int.reduceLE, Int.reduceEq, Int.reduceAdd, Int.reduceSub, Int.reduceNeg, reduceIte, reduceCtorEq]
    refine QIf.intro (fun d => ?_) (fun d => ?_)
    · have hj' : j < row.length := by omega
      obtain ⟨u, e1⟩ := some_of hj'
      have j0 : (0 : Int) ≤ j := by omega
      have hwj := wrap_succ (k := j) (by show _ < 1000000000000; omega)
      simp only [PP, pchk, pold, PKNo, ppack, PObj.under, pput, ptset, ptget, pev, ofAV, ofAV1, ppad, pfill, prepl, List.replicate, AO.effect, Nat.reduceAdd, Nat.reduceSub, Nat.reduceMul, Nat.reduceLT, Nat.reduceLeDiff, Nat.reduceEqDiff, Nat.reduceBEq, Int.reduceToNat, Int.reduceLT, Int.reduceLE, Int.reduceEq, Int.reduceAdd, Int.reduceSub, Int.reduceNeg, reduceIte, reduceCtorEq, d, e1, j0]
      refine search_p T hb hrise ?_
      simp only [PP, pchk, pold, PKNo, ppack, PObj.under, pput, ptset, ptget, pev, ofAV, ofAV1, ppad, pfill, prepl, List.replicate, AO.effect, Nat.reduceAdd, Nat.reduceSub, Nat.reduceMul, Nat.reduceLT, Nat.reduceLeDiff, Nat.reduceEqDiff, Nat.reduceBEq, Int.reduceToNat, Int.reduceLT, Int.reduceLE, Int.reduceEq, Int.reduceAdd, Int.reduceSub, Int.reduceNeg, reduceIte, reduceCtorEq]
      by_cases hu : u ∈ keep
      · have hal : acc.length ≤ j := by
          rw [hacc]; simp only [rowM, List.length_map]
          exact Nat.le_trans (List.length_filter_le _ _) (by simp; omega)
        have b1 : (acc.length + 1) * 8 ≤ 140737488355328 := by omega
        have b2 : acc.length + 1 ≤ 9223372036854775807 := by omega
        simp only [PP, pchk, pold, PKNo, ppack, PObj.under, pput, ptset, ptget, pev, ofAV, ofAV1, ppad, pfill, prepl, List.replicate, AO.effect, Nat.reduceAdd, Nat.reduceSub, Nat.reduceMul, Nat.reduceLT, Nat.reduceLeDiff, Nat.reduceEqDiff, Nat.reduceBEq, Int.reduceToNat, Int.reduceLT, Int.reduceLE, Int.reduceEq, Int.reduceAdd, Int.reduceSub, Int.reduceNeg, reduceIte, reduceCtorEq, hu, b1, b2, hwj]
        refine SemW_to (ih2 (j + 1) (g2 + 1) (acc ++ [((lowB u keep : Nat) : Int)]) ⟨by omega, ?_⟩ (by omega)) (by simp only [PWeak_nil, PWeak_junk, PWeak_same, Int.cast_ofNat_Int, List.length_append, List.length_cons, List.length_nil, Nat.zero_add]) (by simp only [List.map_append, List.map_cons, List.map_nil])
        rw [take_some e1, hacc]; simp [rowM, hu]
      · simp only [PP, pchk, pold, PKNo, ppack, PObj.under, pput, ptset, ptget, pev, ofAV, ofAV1, ppad, pfill, prepl, List.replicate, AO.effect, Nat.reduceAdd, Nat.reduceSub, Nat.reduceMul, Nat.reduceLT, Nat.reduceLeDiff, Nat.reduceEqDiff, Nat.reduceBEq, Int.reduceToNat, Int.reduceLT, Int.reduceLE, Int.reduceEq, Int.reduceAdd, Int.reduceSub, Int.reduceNeg, reduceIte, reduceCtorEq, hu, hwj]
        refine SemW_weak (ih2 (j + 1) g2 acc ⟨by omega, ?_⟩ (by omega)) (by simp only [PWeak_nil, PWeak_junk, PWeak_same, Int.cast_ofNat_Int, List.length_append, List.length_cons, List.length_nil, Nat.zero_add])
        rw [take_some e1, hacc]; simp [rowM, hu]
    · have hacc : acc = rowM keep row := by rw [hacc, List.take_of_length_le (by omega)]
      simp only [PP, pchk, pold, PKNo, ppack, PObj.under, pput, ptset, ptget, pev, ofAV, ofAV1, ppad, pfill, prepl, List.replicate, AO.effect, Nat.reduceAdd, Nat.reduceSub, Nat.reduceMul, Nat.reduceLT, Nat.reduceLeDiff, Nat.reduceEqDiff, Nat.reduceBEq, Int.reduceToNat, Int.reduceLT, Int.reduceLE, Int.reduceEq, Int.reduceAdd, Int.reduceSub, Int.reduceNeg, reduceIte, reduceCtorEq, d]
      refine Gh.step (GStep.freeze (b := [.junk, slI f5 o5 .i64 keep, .ptr 0 0 0, .junk, .ptr 1 0 0, .junk, .junk, .junk, p64 x, slI false true .i64 acc, .junk, .junk, .junk, .junk, .junk, .junk, .junk, .junk, .junk, .junk, .junk, .junk, .junk, .junk, .junk, slI f5 o5 .i64 keep, p64 keep.length, p64 k, .junk, .junk, .junk, .junk, .junk, .junk, .junk, .junk, .junk, .junk, .junk, .junk, .junk, .junk, .junk, .junk, .junk, .junk, .junk, .junk, .junk, .junk, .junk, .junk, .junk, .junk, .junk, .junk, .junk, .junk, .junk, .junk, .junk, .junk, .junk, .junk, .junk, .junk, .junk, .junk, .junk, .junk, .junk, .junk, .junk, .junk, .junk, .junk, .junk, .junk, .junk, .junk, .junk, .junk, .junk, .junk, .junk]) 5 (Nat.zero_le _) rfl (by simp only [PFrz_nil, PFrz_junk, PFrz_same, PFrz_ref, psub_map, Nat.mul_one, Nat.zero_add, List.length_map, Nat.le_refl]) rfl) (Gh.same ?_)
      have hrow : rowM keep (su.getD x.toNat []) = acc := by rw [hacc]; simp [List.getD, q1]
      simp only [PP, pchk, pold, PKNo, ppack, PObj.under, pput, ptset, ptget, pev, ofAV, ofAV1, ppad, pfill, prepl, List.replicate, AO.effect, Nat.reduceAdd, Nat.reduceSub, Nat.reduceMul, Nat.reduceLT, Nat.reduceLeDiff, Nat.reduceEqDiff, Nat.reduceBEq, Int.reduceToNat, Int.reduceLT, Int.reduceLE, Int.reduceEq, Int.reduceAdd, Int.reduceSub, Int.reduceNeg, reduceIte, reduceCtorEq]
      refine QIf.intro (fun d2 => ?_) (fun d2 => ?_)
      · have hex : ∃ v ∈ keep, rowM keep (su.getD v.toNat []) = [] := ⟨x, List.mem_of_getElem? g1, by rw [hrow]; exact List.length_eq_zero_iff.1 (by omega)⟩
        simp only [PP, pchk, pold, PKNo, ppack, PObj.under, pput, ptset, ptget, pev, ofAV, ofAV1, ppad, pfill, prepl, List.replicate, AO.effect, Nat.reduceAdd, Nat.reduceSub, Nat.reduceMul, Nat.reduceLT, Nat.reduceLeDiff, Nat.reduceEqDiff, Nat.reduceBEq, Int.reduceToNat, Int.reduceLT, Int.reduceLE, Int.reduceEq, Int.reduceAdd, Int.reduceSub, Int.reduceNeg, reduceIte, reduceCtorEq, d2, hex] at hq ⊢
        exact hq
      · have l1 : a1.length = k := by rw [ha1]; simp; omega
        have l2 : a2.length = k := by rw [ha2]; simp; omega
        have l3 : a3.length = k := by rw [ha3]; simp; omega
        have b1 : a1.length + 1 ≤ 140737488355328 := by omega
        have b2 : (a2.length + 1) * 8 ≤ 140737488355328 := by omega
        have b3 : (a3.length + 1) * 24 ≤ 140737488355328 := by omega
        have b4 : a1.length + 1 ≤ 9223372036854775807 := by omega
        have b5 : a2.length + 1 ≤ 9223372036854775807 := by omega
        have b6 : a3.length + 1 ≤ 9223372036854775807 := by omega
        simp only [PP, pchk, pold, PKNo, ppack, PObj.under, pput, ptset, ptget, pev, ofAV, ofAV1, ppad, pfill, prepl, List.replicate, AO.effect, Nat.reduceAdd, Nat.reduceSub, Nat.reduceMul, Nat.reduceLT, Nat.reduceLeDiff, Nat.reduceEqDiff, Nat.reduceBEq, Int.reduceToNat, Int.reduceLT, Int.reduceLE, Int.reduceEq, Int.reduceAdd, Int.reduceSub, Int.reduceNeg, reduceIte, reduceCtorEq, d2, x0, x1, x2, q2, q3, b1, b2, b3, b4, b5, b6, hw]
        refine SemW_re (GStep.drop (b := [.junk, slI f5 o5 .i64 keep, .ptr 0 0 0, .junk, .ptr 1 0 0, .junk, .junk, .junk, .junk, .junk, .junk, .junk, .junk, .junk, .junk, .junk, .junk, .junk, .junk, .junk, .junk, .junk, .junk, .junk, .junk, slI f5 o5 .i64 keep, p64 keep.length, p64 ((k + 1 : Nat) : Int), .junk, .junk, .junk, .junk, .junk, .junk, .junk, .junk, .junk, .junk, .junk, .junk, .junk, .junk, .junk, .junk, .junk, .junk, .junk, .junk, .junk, .junk, .junk, .junk, .junk, .junk, .junk, .junk, .junk, .junk, .junk, .junk, .junk, .junk, .junk, .junk, .junk, .junk, .junk, .junk, .junk, .junk, .junk, .junk, .junk, .junk, .junk, .junk, .junk, .junk, .junk, .junk, .junk, .junk, .junk, .junk, .junk]) 5 (Nat.zero_le _) (by simp) (by simp only [PWeak_nil, PWeak_junk, PWeak_same, Int.cast_ofNat_Int, List.length_append, List.length_cons, List.length_nil, Nat.zero_add]) (by simp only [PP, pchk, pold, PKNo, ppack, PObj.under, pput, ptset, ptget, pev, ofAV, ofAV1, ppad, pfill, prepl, List.replicate, AO.effect, Nat.reduceAdd, Nat.reduceSub, Nat.reduceMul, Nat.reduceLT, Nat.reduceLeDiff, Nat.reduceEqDiff, Nat.reduceBEq, Int.reduceToNat, Int.reduceLT, Int.reduceLE, Int.reduceEq, Int.reduceAdd, Int.reduceSub, Int.reduceNeg, reduceIte, reduceCtorEq]) (by simp only [PP, pchk, pold, PKNo, ppack, PObj.under, pput, ptset, ptget, pev, ofAV, ofAV1, ppad, pfill, prepl, List.replicate, AO.effect, Nat.reduceAdd, Nat.reduceSub, Nat.reduceMul, Nat.reduceLT, Nat.reduceLeDiff, Nat.reduceEqDiff, Nat.reduceBEq, Int.reduceToNat, Int.reduceLT, Int.reduceLE, Int.reduceEq, Int.reduceAdd, Int.reduceSub, Int.reduceNeg, reduceIte, reduceCtorEq]) rfl) ?_
        refine SemW_to (ih (k + 1) (v + 1 + 1 + 1) (g + 1) (a1 ++ [o]) (a2 ++ [p]) (a3 ++ [acc]) ⟨by omega, ?_, ?_, ?_, ?_⟩ (by omega)) (by simp only [PWeak_nil, PWeak_junk, PWeak_same, Int.cast_ofNat_Int, List.length_append, List.length_cons, List.length_nil, Nat.zero_add]) (by simp only [PP, pchk, pold, PKNo, ppack, PObj.under, pput, ptset, ptget, pev, ofAV, ofAV1, ppad, pfill, prepl, List.replicate, AO.effect, Nat.reduceAdd, Nat.reduceSub, Nat.reduceMul, Nat.reduceLT, Nat.reduceLeDiff, Nat.reduceEqDiff, Nat.reduceBEq, Int.reduceToNat, Int.reduceLT, Int.reduceLE, Int.reduceEq, Int.reduceAdd, Int.reduceSub, Int.reduceNeg, reduceIte, reduceCtorEq])
        · rw [take_some g1, ha1]; simp [List.getD, q2]
        · rw [take_some g1, ha2]; simp [List.getD, q3]
        · rw [take_some g1, ha3, List.map_append]; simp only [List.map_cons, List.map_nil, hrow]
        · simp only [List.mem_append, List.mem_singleton, not_or]
          exact ⟨hne, fun e => d2 (by rw [← e]; rfl)⟩
  · have ha1 : a1 = keep.map (fun v => ow.getD v.toNat 0) := by rw [ha1, List.take_of_length_le (by omega)]
    have ha2 : a2 = keep.map (fun v => pr.getD v.toNat 0) := by rw [ha2, List.take_of_length_le (by omega)]
    have ha3 : a3 = keep.map (fun v => rowM keep (su.getD v.toNat [])) := by rw [ha3, List.take_of_length_le (by omega)]
    have hex : ¬ ∃ v ∈ keep, rowM keep (su.getD v.toNat []) = [] := by
      rintro ⟨v, hv, he⟩
      exact hne (by rw [ha3]; exact List.mem_map.2 ⟨v, hv, he⟩)
    simp only [hex, if_false] at hq
    rw [← ha1, ← ha2, ← ha3] at hq
    simp only [PP, pchk, pold, PKNo, ppack, PObj.under, pput, ptset, ptget, pev, ofAV, ofAV1, ppad, pfill, prepl, List.replicate, AO.effect, Nat.reduceAdd, Nat.reduceSub, Nat.reduceMul, Nat.reduceLT, Nat.reduceLeDiff, Nat.reduceEqDiff, Nat.reduceBEq, Int.reduceToNat, Int.reduceLT, Int.reduceLE, Int.reduceEq, Int.reduceAdd, Int.reduceSub, Int.reduceNeg, reduceIte, reduceCtorEq, c]
    exact hq
end
end Go.Am.Ar

set_option linter.unusedVariables false
set_option linter.unusedSimpArgs false
set_option maxRecDepth 10000
namespace Go.Am.Ar

theorem eq_of_rise : ∀ {l m : List Int}, l.Pairwise (· < ·) → m.Pairwise (· < ·) → (∀ x, x ∈ l ↔ x ∈ m) → l = m
  | [], [], _, _, _ => rfl
  | [], y :: m, _, _, h => by have := (h y).2 (by simp); simp at this
  | x :: l, [], _, _, h => by have := (h x).1 (by simp); simp at this
  | x :: l, y :: m, hl, hm, h => by
    rw [List.pairwise_cons] at hl hm
    have e : x = y := by
      have h1 := (h x).1 (by simp)
      have h2 := (h y).2 (by simp)
      rcases List.mem_cons.1 h1 with h1 | h1
      · exact h1
      · rcases List.mem_cons.1 h2 with h2 | h2
        · exact h2.symm
        · have := hl.1 y h2
          have := hm.1 x h1
          omega
    subst e
    congr 1
    refine eq_of_rise hl.2 hm.2 fun z => ?_
    constructor
    · intro hz
      rcases List.mem_cons.1 ((h z).1 (by simp [hz])) with e | e
      · have := hl.1 z hz; omega
      · exact e
    · intro hz
      rcases List.mem_cons.1 ((h z).2 (by simp [hz])) with e | e
      · have := hm.1 z hz; omega
      · exact e

def refRow (row : List Int) : Nat → List Int → List Int
  | _, [] => []
  | k, x :: l => if x ∈ row then (k : Int) :: refRow row (k + 1) l else refRow row (k + 1) l
theorem refRow_mem {row : List Int} : ∀ {l : List Int} {k : Nat} {y : Int}, y ∈ refRow row k l ↔ ∃ (i : Nat) (x : Int), l[i]? = some x ∧ x ∈ row ∧ y = ((k + i : Nat) : Int)
  | [], k, y => by simp [refRow]
  | x :: l, k, y => by
    have ih := refRow_mem (row := row) (l := l) (k := k + 1) (y := y)
    have tail : (∃ (i : Nat) (z : Int), l[i]? = some z ∧ z ∈ row ∧ y = ((k + 1 + i : Nat) : Int)) → ∃ (i : Nat) (z : Int), (x :: l)[i]? = some z ∧ z ∈ row ∧ y = ((k + i : Nat) : Int) := by
      rintro ⟨i, z, h1, h2, h3⟩; exact ⟨i + 1, z, by simpa using h1, h2, by rw [h3]; congr 1; omega⟩
    unfold refRow
    split
    · rename_i hx
      rw [List.mem_cons, ih]
      constructor
      · rintro (rfl | h)
        · exact ⟨0, x, rfl, hx, rfl⟩
        · exact tail h
      · rintro ⟨i, z, h1, h2, h3⟩
        cases i with
        | zero => exact .inl (by simpa using h3)
        | succ i => exact .inr ⟨i, z, by simpa using h1, h2, by rw [h3]; congr 1; omega⟩
    · rename_i hx
      rw [ih]
      constructor
      · exact tail
      · rintro ⟨i, z, h1, h2, h3⟩
        cases i with
        | zero => simp at h1; subst h1; exact absurd h2 hx
        | succ i => exact ⟨i, z, by simpa using h1, h2, by rw [h3]; congr 1; omega⟩
theorem refRow_rise {row : List Int} : ∀ (l : List Int) (k : Nat), (refRow row k l).Pairwise (· < ·)
  | [], k => .nil
  | x :: l, k => by
    unfold refRow
    split
    · refine .cons (fun y hy => ?_) (refRow_rise l (k + 1))
      obtain ⟨i, z, _, _, rfl⟩ := refRow_mem.1 hy
      omega
    · exact refRow_rise l (k + 1)
theorem lowB_idx {keep : List Int} (hr : keep.Pairwise (· < ·)) {i : Nat} {u : Int} (hu : keep[i]? = some u) : lowB u keep = i := by
  refine lowB_of (Nat.le_of_lt (getSome_lt hu)) (fun j x hx hj => rise_get hr hx hu hj) (fun j x hx hj => ?_)
  rcases Nat.lt_or_ge i j with q | q
  · exact Int.le_of_lt (rise_get hr hu hx q)
  · have : i = j := by omega
    subst this; rw [hu] at hx; cases hx; exact Int.le_refl _
theorem rowM_eq {keep row : List Int} (hk : keep.Pairwise (· < ·)) (hr : row.Pairwise (· < ·)) : rowM keep row = refRow row 0 keep := by
  refine eq_of_rise ?_ (refRow_rise keep 0) fun y => ?_
  · unfold rowM
    rw [List.pairwise_map]
    refine List.Pairwise.imp_of_mem ?_ (hr.filter _)
    intro a b ha hb hab
    rw [List.mem_filter] at ha hb
    obtain ⟨i, hi⟩ := List.getElem?_of_mem (of_decide_eq_true ha.2)
    obtain ⟨j, hj⟩ := List.getElem?_of_mem (of_decide_eq_true hb.2)
    rw [lowB_idx hk hi, lowB_idx hk hj]
    rcases Nat.lt_or_ge i j with q | q
    · omega
    · rcases Nat.lt_or_ge j i with q2 | q2
      · have := rise_get hk hj hi q2; omega
      · have : i = j := by omega
        subst this; rw [hi] at hj; cases hj; omega
  · rw [refRow_mem]
    unfold rowM
    rw [List.mem_map]
    constructor
    · rintro ⟨u, hu, rfl⟩
      rw [List.mem_filter] at hu
      obtain ⟨i, hi⟩ := List.getElem?_of_mem (of_decide_eq_true hu.2)
      exact ⟨i, u, hi, hu.1, by rw [lowB_idx hk hi, Nat.zero_add]⟩
    · rintro ⟨i, u, hi, hu, rfl⟩
      exact ⟨u, List.mem_filter.2 ⟨hu, by simpa using List.mem_of_getElem? hi⟩, by rw [lowB_idx hk hi, Nat.zero_add]⟩

theorem Valid.rise {ow pr : List Int} {su : List (List Int)} (V : Valid ow pr su) {i : Nat} {row : List Int} (h : su[i]? = some row) : row.Pairwise (· < ·) ∧ ∀ x ∈ row, -1 < x ∧ x < ow.length := by
  have hi := getSome_lt h
  have := (V.row i hi).2.2.2.2
  rw [List.getElem?_eq_getElem hi] at h
  cases h
  exact posM_rise this

section
variable {tab : FuncId → Option AF} (T : HasA tab)
include T

theorem refRestrict_p {M : Mem} {K : PV → Mem → Prop} {f1 o1 f2 o2 f3 o3 f4 o4 f5 o5 : Bool} {ow pr keep : List Int} {su : List (List Int)} (B : Bnd ow pr su) (hb : keep.length < big) (hq : K (restrictM ow pr su keep) M) :
    SemC tab 29 [gmP f1 o1 f2 o2 f3 o3 f4 o4 ow pr su, slI f5 o5 .i64 keep] M K := by
  refine SemC_pure T.h29 (by simp only [PP, pchk, pold, PKNo, ppack, PObj.under, pput, ptset, ptget, pev, ofAV, ofAV1, ppad, pfill, prepl, List.replicate, AO.effect, Nat.reduceAdd, Nat.reduceSub, Nat.reduceMul, Nat.reduceLT, Nat.reduceLeDiff, Nat.reduceEqDiff, Nat.reduceBEq, Int.reduceToNat, Int.reduceLT, Int.reduceLE, Int.reduceEq, Int.reduceAdd, Int.reduceSub, Int.reduceNeg, reduceIte, reduceCtorEq]) ?_
  simp only [af29, PP, pchk, pold, PKNo, ppack, PObj.under, pput, ptset, ptget, pev, ofAV, ofAV1, ppad, pfill, prepl, List.replicate, AO.effect, Nat.reduceAdd, Nat.reduceSub, Nat.reduceMul, Nat.reduceLT, Nat.reduceLeDiff, Nat.reduceEqDiff, Nat.reduceBEq, Int.reduceToNat, Int.reduceLT, Int.reduceLE, Int.reduceEq, Int.reduceAdd, Int.reduceSub, Int.reduceNeg, reduceIte, reduceCtorEq, restrictM] at hq ⊢
  refine wrong_p T B hb ?_
  simp only [PP, pchk, pold, PKNo, ppack, PObj.under, pput, ptset, ptget, pev, ofAV, ofAV1, ppad, pfill, prepl, List.replicate, AO.effect, Nat.reduceAdd, Nat.reduceSub, Nat.reduceMul, Nat.reduceLT, Nat.reduceLeDiff, Nat.reduceEqDiff, Nat.reduceBEq, Int.reduceToNat, Int.reduceLT, Int.reduceLE, Int.reduceEq, Int.reduceAdd, Int.reduceSub, Int.reduceNeg, reduceIte, reduceCtorEq]
  refine QIf.intro (fun c1 => ?_) (fun c1 => ?_)
  rotate_left
  · simp only [PP, pchk, pold, PKNo, ppack, PObj.under, pput, ptset, ptget, pev, ofAV, ofAV1, ppad, pfill, prepl, List.replicate, AO.effect, Nat.reduceAdd, Nat.reduceSub, Nat.reduceMul, Nat.reduceLT, Nat.reduceLeDiff, Nat.reduceEqDiff, Nat.reduceBEq, Int.reduceToNat, Int.reduceLT, Int.reduceLE, Int.reduceEq, Int.reduceAdd, Int.reduceSub, Int.reduceNeg, reduceIte, reduceCtorEq, c1] at hq ⊢
    exact hq
  simp only [PP, pchk, pold, PKNo, ppack, PObj.under, pput, ptset, ptget, pev, ofAV, ofAV1, ppad, pfill, prepl, List.replicate, AO.effect, Nat.reduceAdd, Nat.reduceSub, Nat.reduceMul, Nat.reduceLT, Nat.reduceLeDiff, Nat.reduceEqDiff, Nat.reduceBEq, Int.reduceToNat, Int.reduceLT, Int.reduceLE, Int.reduceEq, Int.reduceAdd, Int.reduceSub, Int.reduceNeg, reduceIte, reduceCtorEq, c1] at hq ⊢
  refine QIf.intro (fun c2 => ?_) (fun c2 => ?_)
  · simp only [PP, pchk, pold, PKNo, ppack, PObj.under, pput, ptset, ptget, pev, ofAV, ofAV1, ppad, pfill, prepl, List.replicate, AO.effect, Nat.reduceAdd, Nat.reduceSub, Nat.reduceMul, Nat.reduceLT, Nat.reduceLeDiff, Nat.reduceEqDiff, Nat.reduceBEq, Int.reduceToNat, Int.reduceLT, Int.reduceLE, Int.reduceEq, Int.reduceAdd, Int.reduceSub, Int.reduceNeg, reduceIte, reduceCtorEq, c2] at hq ⊢
    exact hq
  simp only [PP, pchk, pold, PKNo, ppack, PObj.under, pput, ptset, ptget, pev, ofAV, ofAV1, ppad, pfill, prepl, List.replicate, AO.effect, Nat.reduceAdd, Nat.reduceSub, Nat.reduceMul, Nat.reduceLT, Nat.reduceLeDiff, Nat.reduceEqDiff, Nat.reduceBEq, Int.reduceToNat, Int.reduceLT, Int.reduceLE, Int.reduceEq, Int.reduceAdd, Int.reduceSub, Int.reduceNeg, reduceIte, reduceCtorEq, c2] at hq ⊢
  obtain ⟨V, _, hpm⟩ := wrong_zero c1
  obtain ⟨hrise, hrange⟩ := posM_rise hpm
  have hs := V.s
  have hp := V.p
  have n1 := V.n1
  have hb' : keep.length < 1000000000000 := hb
  refine SemW_re (GStep.nilbox 2 0 1 rfl rfl rfl) ?_
  refine SemW_re (GStep.nilbox 2 1 1 rfl rfl rfl) ?_
  refine SemW_re (GStep.nilbox 2 2 1 rfl rfl rfl) ?_
  simp only [List.length_cons, List.length_nil, List.length_append, List.length_set, List.set_cons_zero, List.set_cons_succ, List.cons_append, List.nil_append, Nat.reduceAdd]
  refine loop6 (fun (k v g : Nat) (a1 a2 : List Int) (a3 : List (List Int)) => k ≤ keep.length ∧ a1 = (keep.take k).map (fun v => ow.getD v.toNat 0) ∧ a2 = (keep.take k).map (fun v => pr.getD v.toNat 0) ∧ a3 = (keep.take k).map (fun v => rowM keep (su.getD v.toNat [])) ∧ [] ∉ a3)
    (fun k v g a1 a2 a3 => [.junk, slI f5 o5 .i64 keep, .ptr 0 0 0, .junk, .ptr 1 0 0, .junk, .junk, .ptr 2 0 0, p64 k, .junk, .junk, .junk, .junk, .junk, .junk, .junk, .junk, .junk, .junk, .junk, .junk, .junk, .junk, .junk, .junk, .junk, .junk, .junk, .junk, .junk, .junk, .junk, .junk, .junk, .junk, .junk, .junk, .junk, .junk, .junk, .junk, .junk, .junk, .junk, .junk, .junk, .junk, .junk, .junk, .junk, .junk, .junk, .junk, .junk, .junk, .junk, .junk, .junk, .junk, .junk, .junk, .junk, .junk, .junk, .junk, .junk, .junk, .junk, .junk, .junk, .junk, .junk, .junk, .junk, .junk, .junk, .junk, .junk, .junk, .junk, .junk, .junk, .junk, .junk, .junk, .junk, .junk, .junk])
    (fun k v g a1 a2 a3 => [.cells 0 0 [slI f1 o1 .u8 ow, slI f2 o2 .i64 pr, slR f3 o3 f4 o4 .i64 su], .cells 0 0 [.nils, .nils, .nils], .cells 0 v [.ref 3 g 1 0 a1.length, .ref 4 g 1 0 a2.length, .ref 5 g 1 0 a3.length], .cells g 0 (a1.map (PV.int .u8)), .cells g 0 (a2.map (PV.int .i64)), .cells g 0 (a3.map (slI false true .i64))])
    (fun k _ _ _ _ _ => keep.length - k) 0 0 0 [] [] [] ⟨by omega, rfl, rfl, rfl, by simp⟩ (by simp only [PWeak_nil, PWeak_junk, PWeak_same, Int.cast_ofNat_Int, List.length_append, List.length_cons, List.length_nil, Nat.zero_add]) rfl ?_
  intro k v g a1 a2 a3 ⟨hle, ha1, ha2, ha3, hne⟩ ih
  refine SemW_go (by kernel_rfl) ?_
  simp only [PP, pchk, pold, PKNo, ppack, PObj.under, pput, ptset, ptget, pev, ofAV, ofAV1, ppad, pfill, prepl, List.replicate, AO.effect, Nat.reduceAdd, Nat.reduceSub, Nat.reduceMul, Nat.reduceLT, Nat.reduceLeDiff, Nat.reduceEqDiff, Nat.reduceBEq, Int.reduceToNat, Int.reduceLT, Int.reduceLE, Int.reduceEq, Int.reduceAdd, Int.reduceSub, Int.reduceNeg, reduceIte, reduceCtorEq]
  refine QIf.intro (fun c => ?_) (fun c => ?_)
  · have hk' : k < keep.length := by omega
    obtain ⟨x, g1⟩ := some_of hk'
    obtain ⟨hx0, hx1⟩ := hrange x (List.mem_of_getElem? g1)
    have h0 : (0 : Int) ≤ k := by omega
    have hw := wrap_succ (k := k) (by show _ < 1000000000000; omega)
    have x0 : (0 : Int) ≤ x := by omega
    have x1 : x < (ow.length : Int) := hx1
    have x2 : x < (pr.length : Int) := by omega
    have x3 : x < (su.length : Int) := by omega
    obtain ⟨row, q1⟩ := some_of (xs := su) (k := x.toNat) (by omega)
    obtain ⟨o, q2⟩ := some_of (xs := ow) (k := x.toNat) (by omega)
    obtain ⟨p, q3⟩ := some_of (xs := pr) (k := x.toNat) (by omega)
    have hrb := B.r row (List.mem_of_getElem? q1)
    simp only [PP, pchk, pold, PKNo, ppack, PObj.under, pput, ptset, ptget, pev, ofAV, ofAV1, ppad, pfill, prepl, List.replicate, AO.effect, Nat.reduceAdd, Nat.reduceSub, Nat.reduceMul, Nat.reduceLT, Nat.reduceLeDiff, Nat.reduceEqDiff, Nat.reduceBEq, Int.reduceToNat, Int.reduceLT, Int.reduceLE, Int.reduceEq, Int.reduceAdd, Int.reduceSub, Int.reduceNeg, reduceIte, reduceCtorEq, c]
    refine SemW_gh ?_
    refine SemW_re (GStep.nil 9 1 rfl rfl rfl) ?_
    simp only [ptset, List.cons_append, List.nil_append, List.length_cons, List.length_nil, Nat.reduceAdd]
    refine loop3 (fun (j g2 : Nat) (acc : List Int) => j ≤ keep.length ∧ acc.length ≤ j ∧ acc ++ refRow row j (keep.drop j) = refRow row 0 keep)
      (fun j g2 acc => [.junk, slI f5 o5 .i64 keep, .ptr 0 0 0, .junk, .ptr 1 0 0, .junk, .junk, .ptr 2 0 0, p64 k, .ref 6 g2 1 0 acc.length, p64 j, .junk, .junk, .junk, .junk, .junk, .junk, .junk, .junk, .junk, .junk, .junk, .junk, .junk, .junk, .junk, .junk, .junk, .junk, .junk, .junk, .junk, .junk, .junk, .junk, .junk, .junk, .junk, .junk, .junk, .junk, .junk, .junk, .junk, .junk, .junk, .junk, .junk, .junk, .junk, .junk, .junk, .junk, .junk, .junk, .junk, .junk, .junk, .junk, .junk, .junk, .junk, .junk, .junk, .junk, .junk, .junk, .junk, .junk, .junk, .junk, .junk, .junk, .junk, .junk, .junk, .junk, .junk, .junk, .junk, .junk, .junk, .junk, .junk, .junk, .junk, .junk, .junk])
      (fun j g2 acc => [.cells 0 0 [slI f1 o1 .u8 ow, slI f2 o2 .i64 pr, slR f3 o3 f4 o4 .i64 su], .cells 0 0 [.nils, .nils, .nils], .cells 0 v [.ref 3 g 1 0 a1.length, .ref 4 g 1 0 a2.length, .ref 5 g 1 0 a3.length], .cells g 0 (a1.map (PV.int .u8)), .cells g 0 (a2.map (PV.int .i64)), .cells g 0 (a3.map (slI false true .i64)), .cells g2 0 (acc.map (PV.int .i64))])
      (fun j _ _ => keep.length - j) 0 0 [] ⟨by omega, by simp, rfl⟩ (by simp only [PWeak_nil, PWeak_junk, PWeak_same, Int.cast_ofNat_Int, List.length_append, List.length_cons, List.length_nil, Nat.zero_add]) rfl ?_
    intro j g2 acc ⟨hjle, hal, hacc⟩ ih2
    refine SemW_go (by kernel_rfl) ?_
    simp only [PP, pchk, pold, PKNo, ppack, PObj.under, pput, ptset, ptget, pev, ofAV, ofAV1, ppad, pfill, prepl, List.replicate, AO.effect, Nat.reduceAdd, Nat.reduceSub, Nat.reduceMul, Nat.reduceLT, Nat.reduceLeDiff, Nat.reduceEqDiff, Nat.reduceBEq, Int.reduceToNat, Int.reduceLT, Int.reduceLE, Int.reduceEq, Int.reduceAdd, Int.reduceSub, Int.reduceNeg, reduceIte, reduceCtorEq]
    refine QIf.intro (fun d => ?_) (fun d => ?_)
    · have hj' : j < keep.length := by omega
      obtain ⟨u, e1⟩ := some_of hj'
      have j0 : (0 : Int) ≤ j := by omega
      have hwj := wrap_succ (k := j) (by show _ < 1000000000000; omega)
      rw [drop_some e1] at hacc
      simp only [PP, pchk, pold, PKNo, ppack, PObj.under, pput, ptset, ptget, pev, ofAV, ofAV1, ppad, pfill, prepl, List.replicate, AO.effect, Nat.reduceAdd, Nat.reduceSub, Nat.reduceMul, Nat.reduceLT, Nat.reduceLeDiff, Nat.reduceEqDiff, Nat.reduceBEq, Int.reduceToNat, Int.reduceLT, Int.reduceLE, Int.reduceEq, Int.reduceAdd, Int.reduceSub, Int.reduceNeg, reduceIte, reduceCtorEq, c, d, g1, h0, x0, x3, q1, e1, j0]
      refine hasInt_p T hrb ?_
      simp only [PP, pchk, pold, PKNo, ppack, PObj.under, pput, ptset, ptget, pev, ofAV, ofAV1, ppad, pfill, prepl, List.replicate, AO.effect, Nat.reduceAdd, Nat.reduceSub, Nat.reduceMul, Nat.reduceLT, Nat.reduceLeDiff, Nat.reduceEqDiff, Nat.reduceBEq, Int.reduceToNat, Int.reduceLT, Int.reduceLE, Int.reduceEq, Int.reduceAdd, Int.reduceSub, Int.reduceNeg, reduceIte, reduceCtorEq]
      by_cases hu : u ∈ row
      · have b1 : (acc.length + 1) * 8 ≤ 140737488355328 := by omega
        have b2 : acc.length + 1 ≤ 9223372036854775807 := by omega
        simp only [PP, pchk, pold, PKNo, ppack, PObj.under, pput, ptset, ptget, pev, ofAV, ofAV1, ppad, pfill, prepl, List.replicate, AO.effect, Nat.reduceAdd, Nat.reduceSub, Nat.reduceMul, Nat.reduceLT, Nat.reduceLeDiff, Nat.reduceEqDiff, Nat.reduceBEq, Int.reduceToNat, Int.reduceLT, Int.reduceLE, Int.reduceEq, Int.reduceAdd, Int.reduceSub, Int.reduceNeg, reduceIte, reduceCtorEq, hu, b1, b2, hwj, refRow] at hacc ⊢
        refine SemW_to (ih2 (j + 1) (g2 + 1) (acc ++ [(j : Int)]) ⟨by omega, by simp; omega, by rw [List.append_assoc]; exact hacc⟩ (by omega)) (by simp only [PWeak_nil, PWeak_junk, PWeak_same, Int.cast_ofNat_Int, List.length_append, List.length_cons, List.length_nil, Nat.zero_add]) (by simp only [List.map_append, List.map_cons, List.map_nil])
      · simp only [PP, pchk, pold, PKNo, ppack, PObj.under, pput, ptset, ptget, pev, ofAV, ofAV1, ppad, pfill, prepl, List.replicate, AO.effect, Nat.reduceAdd, Nat.reduceSub, Nat.reduceMul, Nat.reduceLT, Nat.reduceLeDiff, Nat.reduceEqDiff, Nat.reduceBEq, Int.reduceToNat, Int.reduceLT, Int.reduceLE, Int.reduceEq, Int.reduceAdd, Int.reduceSub, Int.reduceNeg, reduceIte, reduceCtorEq, hu, hwj, refRow] at hacc ⊢
        exact SemW_weak (ih2 (j + 1) g2 acc ⟨by omega, by omega, hacc⟩ (by omega)) (by simp only [PWeak_nil, PWeak_junk, PWeak_same, Int.cast_ofNat_Int, List.length_append, List.length_cons, List.length_nil, Nat.zero_add])
    · have hacc : acc = rowM keep row := by
        rw [List.drop_eq_nil_of_le (by omega)] at hacc
        rw [rowM_eq hrise (V.rise q1).1, ← hacc]; simp [refRow]
      simp only [PP, pchk, pold, PKNo, ppack, PObj.under, pput, ptset, ptget, pev, ofAV, ofAV1, ppad, pfill, prepl, List.replicate, AO.effect, Nat.reduceAdd, Nat.reduceSub, Nat.reduceMul, Nat.reduceLT, Nat.reduceLeDiff, Nat.reduceEqDiff, Nat.reduceBEq, Int.reduceToNat, Int.reduceLT, Int.reduceLE, Int.reduceEq, Int.reduceAdd, Int.reduceSub, Int.reduceNeg, reduceIte, reduceCtorEq, d]
      refine Gh.step (GStep.freeze (b := [.junk, slI f5 o5 .i64 keep, .ptr 0 0 0, .junk, .ptr 1 0 0, .junk, .junk, .ptr 2 0 0, p64 k, slI false true .i64 acc, .junk, .junk, .junk, .junk, .junk, .junk, .junk, .junk, .junk, .junk, .junk, .junk, .junk, .junk, .junk, .junk, .junk, .junk, .junk, .junk, .junk, .junk, .junk, .junk, .junk, .junk, .junk, .junk, .junk, .junk, .junk, .junk, .junk, .junk, .junk, .junk, .junk, .junk, .junk, .junk, .junk, .junk, .junk, .junk, .junk, .junk, .junk, .junk, .junk, .junk, .junk, .junk, .junk, .junk, .junk, .junk, .junk, .junk, .junk, .junk, .junk, .junk, .junk, .junk, .junk, .junk, .junk, .junk, .junk, .junk, .junk, .junk, .junk, .junk, .junk, .junk, .junk, .junk]) 6 (Nat.zero_le _) rfl (by simp only [PFrz_nil, PFrz_junk, PFrz_same, PFrz_ref, psub_map, Nat.mul_one, Nat.zero_add, List.length_map, Nat.le_refl]) rfl) (Gh.same ?_)
      have hrow : rowM keep (su.getD x.toNat []) = acc := by rw [hacc]; simp [List.getD, q1]
      simp only [PP, pchk, pold, PKNo, ppack, PObj.under, pput, ptset, ptget, pev, ofAV, ofAV1, ppad, pfill, prepl, List.replicate, AO.effect, Nat.reduceAdd, Nat.reduceSub, Nat.reduceMul, Nat.reduceLT, Nat.reduceLeDiff, Nat.reduceEqDiff, Nat.reduceBEq, Int.reduceToNat, Int.reduceLT, Int.reduceLE, Int.reduceEq, Int.reduceAdd, Int.reduceSub, Int.reduceNeg, reduceIte, reduceCtorEq]
      refine QIf.intro (fun d2 => ?_) (fun d2 => ?_)
      · have hex : ∃ v ∈ keep, rowM keep (su.getD v.toNat []) = [] := ⟨x, List.mem_of_getElem? g1, by rw [hrow]; exact List.length_eq_zero_iff.1 (by omega)⟩
        simp only [PP, pchk, pold, PKNo, ppack, PObj.under, pput, ptset, ptget, pev, ofAV, ofAV1, ppad, pfill, prepl, List.replicate, AO.effect, Nat.reduceAdd, Nat.reduceSub, Nat.reduceMul, Nat.reduceLT, Nat.reduceLeDiff, Nat.reduceEqDiff, Nat.reduceBEq, Int.reduceToNat, Int.reduceLT, Int.reduceLE, Int.reduceEq, Int.reduceAdd, Int.reduceSub, Int.reduceNeg, reduceIte, reduceCtorEq, d2, hex] at hq ⊢
        exact hq
      · have l1 : a1.length = k := by rw [ha1]; simp; omega
        have l2 : a2.length = k := by rw [ha2]; simp; omega
        have l3 : a3.length = k := by rw [ha3]; simp; omega
        have b1 : a1.length + 1 ≤ 140737488355328 := by omega
        have b2 : (a2.length + 1) * 8 ≤ 140737488355328 := by omega
        have b3 : (a3.length + 1) * 24 ≤ 140737488355328 := by omega
        have b4 : a1.length + 1 ≤ 9223372036854775807 := by omega
        have b5 : a2.length + 1 ≤ 9223372036854775807 := by omega
        have b6 : a3.length + 1 ≤ 9223372036854775807 := by omega
        simp only [PP, pchk, pold, PKNo, ppack, PObj.under, pput, ptset, ptget, pev, ofAV, ofAV1, ppad, pfill, prepl, List.replicate, AO.effect, Nat.reduceAdd, Nat.reduceSub, Nat.reduceMul, Nat.reduceLT, Nat.reduceLeDiff, Nat.reduceEqDiff, Nat.reduceBEq, Int.reduceToNat, Int.reduceLT, Int.reduceLE, Int.reduceEq, Int.reduceAdd, Int.reduceSub, Int.reduceNeg, reduceIte, reduceCtorEq, d2, c, g1, h0, x0, x1, x2, q2, q3, b1, b2, b3, b4, b5, b6, hw]
        refine SemW_re (GStep.drop (b := [.junk, slI f5 o5 .i64 keep, .ptr 0 0 0, .junk, .ptr 1 0 0, .junk, .junk, .ptr 2 0 0, p64 ((k + 1 : Nat) : Int), .junk, .junk, .junk, .junk, .junk, .junk, .junk, .junk, .junk, .junk, .junk, .junk, .junk, .junk, .junk, .junk, .junk, .junk, .junk, .junk, .junk, .junk, .junk, .junk, .junk, .junk, .junk, .junk, .junk, .junk, .junk, .junk, .junk, .junk, .junk, .junk, .junk, .junk, .junk, .junk, .junk, .junk, .junk, .junk, .junk, .junk, .junk, .junk, .junk, .junk, .junk, .junk, .junk, .junk, .junk, .junk, .junk, .junk, .junk, .junk, .junk, .junk, .junk, .junk, .junk, .junk, .junk, .junk, .junk, .junk, .junk, .junk, .junk, .junk, .junk, .junk, .junk, .junk, .junk]) 6 (Nat.zero_le _) (by simp) (by simp only [PWeak_nil, PWeak_junk, PWeak_same, Int.cast_ofNat_Int, List.length_append, List.length_cons, List.length_nil, Nat.zero_add]) (by simp only [PP, pchk, pold, PKNo, ppack, PObj.under, pput, ptset, ptget, pev, ofAV, ofAV1, ppad, pfill, prepl, List.replicate, AO.effect, Nat.reduceAdd, Nat.reduceSub, Nat.reduceMul, Nat.reduceLT, Nat.reduceLeDiff, Nat.reduceEqDiff, Nat.reduceBEq, Int.reduceToNat, Int.reduceLT, Int.reduceLE, Int.reduceEq, Int.reduceAdd, Int.reduceSub, Int.reduceNeg, reduceIte, reduceCtorEq]) (by simp only [PP, pchk, pold, PKNo, ppack, PObj.under, pput, ptset, ptget, pev, ofAV, ofAV1, ppad, pfill, prepl, List.replicate, AO.effect, Nat.reduceAdd, Nat.reduceSub, Nat.reduceMul, Nat.reduceLT, Nat.reduceLeDiff, Nat.reduceEqDiff, Nat.reduceBEq, Int.reduceToNat, Int.reduceLT, Int.reduceLE, Int.reduceEq, Int.reduceAdd, Int.reduceSub, Int.reduceNeg, reduceIte, reduceCtorEq]) rfl) ?_
        refine SemW_to (ih (k + 1) (v + 1 + 1 + 1) (g + 1) (a1 ++ [o]) (a2 ++ [p]) (a3 ++ [acc]) ⟨by omega, ?_, ?_, ?_, ?_⟩ (by omega)) (by simp only [PWeak_nil, PWeak_junk, PWeak_same, Int.cast_ofNat_Int, List.length_append, List.length_cons, List.length_nil, Nat.zero_add]) (by simp only [PP, pchk, pold, PKNo, ppack, PObj.under, pput, ptset, ptget, pev, ofAV, ofAV1, ppad, pfill, prepl, List.replicate, AO.effect, Nat.reduceAdd, Nat.reduceSub, Nat.reduceMul, Nat.reduceLT, Nat.reduceLeDiff, Nat.reduceEqDiff, Nat.reduceBEq, Int.reduceToNat, Int.reduceLT, Int.reduceLE, Int.reduceEq, Int.reduceAdd, Int.reduceSub, Int.reduceNeg, reduceIte, reduceCtorEq])
        · rw [take_some g1, ha1]; simp [List.getD, q2]
        · rw [take_some g1, ha2]; simp [List.getD, q3]
        · rw [take_some g1, ha3, List.map_append]; simp only [List.map_cons, List.map_nil, hrow]
        · simp only [List.mem_append, List.mem_singleton, not_or]
          exact ⟨hne, fun e => d2 (by rw [← e]; rfl)⟩
  · have ha1 : a1 = keep.map (fun v => ow.getD v.toNat 0) := by rw [ha1, List.take_of_length_le (by omega)]
    have ha2 : a2 = keep.map (fun v => pr.getD v.toNat 0) := by rw [ha2, List.take_of_length_le (by omega)]
    have ha3 : a3 = keep.map (fun v => rowM keep (su.getD v.toNat [])) := by rw [ha3, List.take_of_length_le (by omega)]
    have hex : ¬ ∃ v ∈ keep, rowM keep (su.getD v.toNat []) = [] := by
      rintro ⟨v, hv, he⟩
      exact hne (by rw [ha3]; exact List.mem_map.2 ⟨v, hv, he⟩)
    simp only [hex, if_false] at hq
    rw [← ha1, ← ha2, ← ha3] at hq
    simp only [PP, pchk, pold, PKNo, ppack, PObj.under, pput, ptset, ptget, pev, ofAV, ofAV1, ppad, pfill, prepl, List.replicate, AO.effect, Nat.reduceAdd, Nat.reduceSub, Nat.reduceMul, Nat.reduceLT, Nat.reduceLeDiff, Nat.reduceEqDiff, Nat.reduceBEq, Int.reduceToNat, Int.reduceLT, Int.reduceLE, Int.reduceEq, Int.reduceAdd, Int.reduceSub, Int.reduceNeg, reduceIte, reduceCtorEq, c]
    exact hq
end
end Go.Am.Ar

set_option linter.unusedVariables false
set_option linter.unusedSimpArgs false
set_option maxRecDepth 10000
namespace Go.Am.Ar

theorem maxFrom_16 : ∀ {l : List Int} {m : Int}, m ≤ 16 → (∀ x ∈ l, x ≤ 16) → (maxFrom m l = 16 ↔ m = 16 ∨ 16 ∈ l)
  | [], m, _, _ => by simp [maxFrom]
  | x :: l, m, hm, hl => by
    have hx := hl x (by simp)
    unfold maxFrom
    rw [maxFrom_16 (by omega) (fun y hy => hl y (by simp [hy]))]
    rw [List.mem_cons]
    constructor
    · rintro (h | h)
      · rcases Int.le_total m x with q | q
        · exact .inr (.inl (by omega))
        · exact .inl (by omega)
      · exact .inr (.inr h)
    · rintro (h | h | h)
      · exact .inl (by omega)
      · exact .inl (by omega)
      · exact .inr h
theorem maxL_16 {pr : List Int} (h : ∀ x ∈ pr, x ≤ 16) : maxL pr = 16 ↔ 16 ∈ pr := by
  cases pr with
  | nil => simp [maxL]
  | cons x l =>
    show maxFrom x l = 16 ↔ _
    rw [maxFrom_16 (h x (by simp)) (fun y hy => h y (by simp [hy])), List.mem_cons]
    exact ⟨fun h => h.imp Eq.symm id, fun h => h.imp Eq.symm id⟩
theorem Valid.pri {ow pr : List Int} {su : List (List Int)} (V : Valid ow pr su) {x : Int} (hx : x ∈ pr) : 0 ≤ x ∧ x ≤ 16 := by
  obtain ⟨i, hi⟩ := List.getElem?_of_mem hx
  have hl := getSome_lt hi
  have := V.row i (by rw [V.s, ← V.p]; exact hl)
  rw [getD_some hi] at this
  exact ⟨this.1, this.2.1⟩
theorem set_mid {α : Type} (a : List α) (x y : α) (b : List α) {k : Nat} (hk : a.length = k) : (a ++ x :: b).set k y = (a ++ [y]) ++ b := by
  subst hk
  simp

section
variable {tab : FuncId → Option AF} (T : HasA tab)
include T

theorem refDual_p {M : Mem} {K : PV → Mem → Prop} {f1 o1 f2 o2 f3 o3 f4 o4 : Bool} {ow pr : List Int} {su : List (List Int)} (B : Bnd ow pr su) (hq : K (dualM ow pr su) M) :
    SemC tab 30 [gmP f1 o1 f2 o2 f3 o3 f4 o4 ow pr su] M K := by
  refine SemC_pure T.h30 (by simp only [PP, pchk, pold, PKNo, ppack, PObj.under, pput, ptset, ptget, pev, ofAV, ofAV1, ppad, pfill, prepl, List.replicate, AO.effect, Nat.reduceAdd, Nat.reduceSub, Nat.reduceMul, Nat.reduceLT, Nat.reduceLeDiff, Nat.reduceEqDiff, Nat.reduceBEq, Int.reduceToNat, Int.reduceLT, Int.reduceLE, Int.reduceEq, Int.reduceAdd, Int.reduceSub, Int.reduceNeg, reduceIte, reduceCtorEq]) ?_
  simp only [af30, PP, pchk, pold, PKNo, ppack, PObj.under, pput, ptset, ptget, pev, ofAV, ofAV1, ppad, pfill, prepl, List.replicate, AO.effect, Nat.reduceAdd, Nat.reduceSub, Nat.reduceMul, Nat.reduceLT, Nat.reduceLeDiff, Nat.reduceEqDiff, Nat.reduceBEq, Int.reduceToNat, Int.reduceLT, Int.reduceLE, Int.reduceEq, Int.reduceAdd, Int.reduceSub, Int.reduceNeg, reduceIte, reduceCtorEq, dualM] at hq ⊢
  refine refCheck_p T B ?_
  simp only [PP, pchk, pold, PKNo, ppack, PObj.under, pput, ptset, ptget, pev, ofAV, ofAV1, ppad, pfill, prepl, List.replicate, AO.effect, Nat.reduceAdd, Nat.reduceSub, Nat.reduceMul, Nat.reduceLT, Nat.reduceLeDiff, Nat.reduceEqDiff, Nat.reduceBEq, Int.reduceToNat, Int.reduceLT, Int.reduceLE, Int.reduceEq, Int.reduceAdd, Int.reduceSub, Int.reduceNeg, reduceIte, reduceCtorEq]
  refine QIf.intro (fun c1 => ?_) (fun c1 => ?_)
  rotate_left
  · simp only [PP, pchk, pold, PKNo, ppack, PObj.under, pput, ptset, ptget, pev, ofAV, ofAV1, ppad, pfill, prepl, List.replicate, AO.effect, Nat.reduceAdd, Nat.reduceSub, Nat.reduceMul, Nat.reduceLT, Nat.reduceLeDiff, Nat.reduceEqDiff, Nat.reduceBEq, Int.reduceToNat, Int.reduceLT, Int.reduceLE, Int.reduceEq, Int.reduceAdd, Int.reduceSub, Int.reduceNeg, reduceIte, reduceCtorEq, c1] at hq ⊢
    exact hq
  simp only [PP, pchk, pold, PKNo, ppack, PObj.under, pput, ptset, ptget, pev, ofAV, ofAV1, ppad, pfill, prepl, List.replicate, AO.effect, Nat.reduceAdd, Nat.reduceSub, Nat.reduceMul, Nat.reduceLT, Nat.reduceLeDiff, Nat.reduceEqDiff, Nat.reduceBEq, Int.reduceToNat, Int.reduceLT, Int.reduceLE, Int.reduceEq, Int.reduceAdd, Int.reduceSub, Int.reduceNeg, reduceIte, reduceCtorEq, c1] at hq ⊢
  have V := valid_of c1
  have hs := V.s
  have hp := V.p
  have n1 := V.n1
  refine SemC_fn T.h11 ?_
  simp only [af11, PP, pchk, pold, PKNo, ppack, PObj.under, pput, ptset, ptget, pev, ofAV, ofAV1, ppad, pfill, prepl, List.replicate, AO.effect, Nat.reduceAdd, Nat.reduceSub, Nat.reduceMul, Nat.reduceLT, Nat.reduceLeDiff, Nat.reduceEqDiff, Nat.reduceBEq, Int.reduceToNat, Int.reduceLT, Int.reduceLE, Int.reduceEq, Int.reduceAdd, Int.reduceSub, Int.reduceNeg, reduceIte, reduceCtorEq]
  refine SemC_fn T.h33 ?_
  have b1 : ow.length ≤ 140737488355328 := by omega
  have b2 : ow.length ≤ 9223372036854775807 := by omega
  have b3 : pr.length * 8 ≤ 140737488355328 := by omega
  have b4 : pr.length ≤ 9223372036854775807 := by omega
  simp only [af33, PP, pchk, pold, PKNo, ppack, PObj.under, pput, ptset, ptget, pev, ofAV, ofAV1, ppad, pfill, prepl, List.replicate, AO.effect, Nat.reduceAdd, Nat.reduceSub, Nat.reduceMul, Nat.reduceLT, Nat.reduceLeDiff, Nat.reduceEqDiff, Nat.reduceBEq, Int.reduceToNat, Int.reduceLT, Int.reduceLE, Int.reduceEq, Int.reduceAdd, Int.reduceSub, Int.reduceNeg, reduceIte, reduceCtorEq, b1, b2]
  refine SemC_fn T.h12 ?_
  simp only [af12, PP, pchk, pold, PKNo, ppack, PObj.under, pput, ptset, ptget, pev, ofAV, ofAV1, ppad, pfill, prepl, List.replicate, AO.effect, Nat.reduceAdd, Nat.reduceSub, Nat.reduceMul, Nat.reduceLT, Nat.reduceLeDiff, Nat.reduceEqDiff, Nat.reduceBEq, Int.reduceToNat, Int.reduceLT, Int.reduceLE, Int.reduceEq, Int.reduceAdd, Int.reduceSub, Int.reduceNeg, reduceIte, reduceCtorEq, b3, b4]
  refine copyRows_p T B.s B.r ?_
  simp only [PP, pchk, pold, PKNo, ppack, PObj.under, pput, ptset, ptget, pev, ofAV, ofAV1, ppad, pfill, prepl, List.replicate, AO.effect, Nat.reduceAdd, Nat.reduceSub, Nat.reduceMul, Nat.reduceLT, Nat.reduceLeDiff, Nat.reduceEqDiff, Nat.reduceBEq, Int.reduceToNat, Int.reduceLT, Int.reduceLE, Int.reduceEq, Int.reduceAdd, Int.reduceSub, Int.reduceNeg, reduceIte, reduceCtorEq]
  refine loop4 (fun (k v : Nat) (w1 w2 : List Int) => k ≤ ow.length ∧ w1 = dualO (ow.take k) ++ ow.drop k ∧ w2 = dualP (pr.take k) ++ pr.drop k ∧ 16 ∉ pr.take k)
    (fun k v w1 w2 => [.junk, .junk, .ptr 1 0 0, .junk, .junk, .ptr 6 0 0, p64 k, .junk, .junk, .junk, .junk, .junk, .junk, .junk, .junk, .junk, .junk, .junk, .junk, .junk, .junk, .junk, .junk, .junk, .junk, .junk, .junk, .junk, .junk, .junk, .junk, .junk, .junk, .junk, .junk, .junk, .junk, .junk, .junk, .junk, .junk, .junk, .junk, .junk, .junk, .junk, .junk])
    (fun k v w1 w2 => [.cells 0 0 [slI f1 o1 .u8 ow, slI f2 o2 .i64 pr, slR f3 o3 f4 o4 .i64 su], .cells 0 0 [.nils, .nils, .nils], .cells 0 0 [slI f1 o1 .u8 ow, slI f2 o2 .i64 pr, slR f3 o3 f4 o4 .i64 su], .cells 0 1 [.ref 4 0 1 0 ow.length, .ref 5 0 1 0 pr.length, slR false true false true .i64 su], .cells 0 v (w1.map (PV.int .u8)), .cells 0 v (w2.map (PV.int .i64)), .cells 0 1 [.ref 4 0 1 0 ow.length, .ref 5 0 1 0 pr.length, slR false true false true .i64 su]])
    (fun k _ _ _ => ow.length - k) 0 0 ow pr ⟨by omega, by simp [dualO], by simp [dualP], by simp⟩ (by simp only [PWeak_nil, PWeak_junk, PWeak_same, Int.cast_ofNat_Int, List.length_append, List.length_cons, List.length_nil, Nat.zero_add]) rfl ?_
  intro k v w1 w2 ⟨hle, hw1, hw2, h16⟩ ih
  have l1 : w1.length = ow.length := by rw [hw1]; simp [dualO]; omega
  have l2 : w2.length = pr.length := by rw [hw2]; simp [dualP]; omega
  refine SemW_go (by kernel_rfl) ?_
  simp only [PP, pchk, pold, PKNo, ppack, PObj.under, pput, ptset, ptget, pev, ofAV, ofAV1, ppad, pfill, prepl, List.replicate, AO.effect, Nat.reduceAdd, Nat.reduceSub, Nat.reduceMul, Nat.reduceLT, Nat.reduceLeDiff, Nat.reduceEqDiff, Nat.reduceBEq, Int.reduceToNat, Int.reduceLT, Int.reduceLE, Int.reduceEq, Int.reduceAdd, Int.reduceSub, Int.reduceNeg, reduceIte, reduceCtorEq]
  refine QIf.intro (fun c => ?_) (fun c => ?_)
  · have hk' : k < ow.length := by omega
    obtain ⟨o, g2⟩ := some_of hk'
    obtain ⟨p, g3⟩ := some_of (xs := pr) (k := k) (by omega)
    have e1 : w1[k]? = some o := by
      rw [hw1, drop_some g2, List.getElem?_append_right (by simp [dualO]; omega)]
      simp [dualO, Nat.min_eq_left (Nat.le_of_lt hk')]
    have e2 : w2[k]? = some p := by
      rw [hw2, drop_some g3, List.getElem?_append_right (by simp [dualP]; omega)]
      have : k ≤ pr.length := by omega
      simp [dualP, Nat.min_eq_left this]
    have h0 : (0 : Int) ≤ k := by omega
    have cp : (k : Int) < pr.length := by omega
    have hw := wrap_succ (k := k) (by show _ < 1000000000000; omega)
    simp only [PP, pchk, pold, PKNo, ppack, PObj.under, pput, ptset, ptget, pev, ofAV, ofAV1, ppad, pfill, prepl, List.replicate, AO.effect, Nat.reduceAdd, Nat.reduceSub, Nat.reduceMul, Nat.reduceLT, Nat.reduceLeDiff, Nat.reduceEqDiff, Nat.reduceBEq, Int.reduceToNat, Int.reduceLT, Int.reduceLE, Int.reduceEq, Int.reduceAdd, Int.reduceSub, Int.reduceNeg, reduceIte, reduceCtorEq, c, h0, cp, e2]
    refine QIf.intro (fun d => ?_) (fun d => ?_)
    · subst d
      have : maxL pr = 16 := (maxL_16 fun x hx => (V.pri hx).2).2 (List.mem_of_getElem? g3)
      simp only [PP, pchk, pold, PKNo, ppack, PObj.under, pput, ptset, ptget, pev, ofAV, ofAV1, ppad, pfill, prepl, List.replicate, AO.effect, Nat.reduceAdd, Nat.reduceSub, Nat.reduceMul, Nat.reduceLT, Nat.reduceLeDiff, Nat.reduceEqDiff, Nat.reduceBEq, Int.reduceToNat, Int.reduceLT, Int.reduceLE, Int.reduceEq, Int.reduceAdd, Int.reduceSub, Int.reduceNeg, reduceIte, reduceCtorEq, this] at hq ⊢
      exact hq
    · have k1 : k + 1 ≤ w1.length := by omega
      have k2 : k + 1 ≤ w2.length := by omega
      have d1 : dualO (ow.take k) ++ ow.drop k = dualO (ow.take k) ++ o :: ow.drop (k + 1) := by rw [drop_some g2]
      have d2 : dualP (pr.take k) ++ pr.drop k = dualP (pr.take k) ++ p :: pr.drop (k + 1) := by rw [drop_some g3]
      simp only [PP, pchk, pold, PKNo, ppack, PObj.under, pput, ptset, ptget, pev, ofAV, ofAV1, ppad, pfill, prepl, List.replicate, AO.effect, Nat.reduceAdd, Nat.reduceSub, Nat.reduceMul, Nat.reduceLT, Nat.reduceLeDiff, Nat.reduceEqDiff, Nat.reduceBEq, Int.reduceToNat, Int.reduceLT, Int.reduceLE, Int.reduceEq, Int.reduceAdd, Int.reduceSub, Int.reduceNeg, reduceIte, reduceCtorEq, c, d, h0, cp, e1, e2, k1, k2, hw]
      refine SemW_to (ih (k + 1) (v + 1) (w1.set k (IntKind.u8.wrap (1 - o))) (w2.set k (IntKind.i64.wrap (p + 1))) ⟨by omega, ?_, ?_, ?_⟩ (by omega)) (by simp only [PWeak_nil, PWeak_junk, PWeak_same, Int.cast_ofNat_Int, List.length_append, List.length_cons, List.length_nil, Nat.zero_add]) (by simp only [List.map_set])
      · rw [hw1, d1, set_mid _ _ _ _ (by simp [dualO]; omega), take_some g2]; simp [dualO]
      · rw [hw2, d2, set_mid _ _ _ _ (by simp [dualP]; omega), take_some g3]; simp [dualP]
      · rw [take_some g3]
        simp only [List.mem_append, List.mem_singleton, not_or]
        exact ⟨h16, fun e => d e.symm⟩
  · have hw1 : w1 = dualO ow := by rw [hw1, List.drop_eq_nil_of_le (by omega), List.append_nil, List.take_of_length_le (by omega)]
    have hw2 : w2 = dualP pr := by rw [hw2, List.drop_eq_nil_of_le (by omega), List.append_nil, List.take_of_length_le (by omega)]
    have hmx : ¬ maxL pr = 16 := by
      rw [maxL_16 fun x hx => (V.pri hx).2]
      rwa [List.take_of_length_le (by omega)] at h16
    subst hw1 hw2
    simp only [PP, pchk, pold, PKNo, ppack, PObj.under, pput, ptset, ptget, pev, ofAV, ofAV1, ppad, pfill, prepl, List.replicate, AO.effect, Nat.reduceAdd, Nat.reduceSub, Nat.reduceMul, Nat.reduceLT, Nat.reduceLeDiff, Nat.reduceEqDiff, Nat.reduceBEq, Int.reduceToNat, Int.reduceLT, Int.reduceLE, Int.reduceEq, Int.reduceAdd, Int.reduceSub, Int.reduceNeg, reduceIte, reduceCtorEq, c, hmx] at hq ⊢
    have e1 : (dualO ow).length = ow.length := l1
    have e2 : (dualP pr).length = pr.length := l2
    rw [← e1, ← e2]
    simp only [PP, pchk, pold, PKNo, ppack, PObj.under, pput, ptset, ptget, pev, ofAV, ofAV1, ppad, pfill, prepl, List.replicate, AO.effect, Nat.reduceAdd, Nat.reduceSub, Nat.reduceMul, Nat.reduceLT, Nat.reduceLeDiff, Nat.reduceEqDiff, Nat.reduceBEq, Int.reduceToNat, Int.reduceLT, Int.reduceLE, Int.reduceEq, Int.reduceAdd, Int.reduceSub, Int.reduceNeg, reduceIte, reduceCtorEq]
    exact hq
end
end Go.Am.Ar
