/- Contracts: plays that follow a strategy, and their winners, and what goes with it. -/
import Derived.Test.YtkbdnbmnopmhdaaCertifyRejectsG0
import Derived.Test.YtkbdnbmnopmhdaaPmC
set_option linter.unusedVariables false
set_option linter.unusedSimpArgs false
set_option maxRecDepth 10000
namespace Go.Am.Ar
open Go.Am renaming pchk → P1, pold → P2, PKNo → P3, ppack → P4, PObj.under → P5, pput → P6, ptset → P7, ptget → P8, pev → P9, ofAV → P10, ofAV1 → P11, ppad → P12, pfill → P13, prepl → P14, AO.effect → P15
open List renaming replicate → L1
open Nat renaming reduceAdd → N1, reduceSub → N2, reduceMul → N3, reduceLT → N4, reduceLeDiff → N5, reduceEqDiff → N6, reduceBEq → N7
open Int renaming reduceToNat → I1, reduceLT → I2, reduceLE → I3, reduceEq → I4, reduceAdd → I5, reduceSub → I6, reduceNeg → I7
def idxI (v : Int) : Nat → List Int → Int
  | _, [] => -1
  | k, x :: l => if v = x then (k : Int) else idxI v (k + 1) l
theorem idxI_spec (v : Int) : ∀ (l : List Int) (k : Nat), (v ∉ l ∧ idxI v k l = -1) ∨ ∃ i, l[i]? = some v ∧ v ∉ l.take i ∧ idxI v k l = ((k + i : Nat) : Int)
  | [], k => .inl ⟨by simp, rfl⟩
  | x :: l, k => by
    unfold idxI
    by_cases h : v = x
    · rw [if_pos h]; exact .inr ⟨0, by simp [h], by simp, rfl⟩
    · rw [if_neg h]
      rcases idxI_spec v l (k + 1) with ⟨h1, h2⟩ | ⟨i, h1, h2, h3⟩
      · exact .inl ⟨by simp [h, h1], h2⟩
      · refine .inr ⟨i + 1, by simpa using h1, by simp [h, h2], ?_⟩
        rw [h3]; congr 1; omega
def playL (st : List Int) : Nat → Int → List Int → List Int × List Int
  | 0, _, all => (all, [])
  | n + 1, v, all => if 0 ≤ idxI v 0 all then (all.take (idxI v 0 all).toNat, all.drop (idxI v 0 all).toNat) else playL st n (st.getD v.toNat 0) (all ++ [v])
section
variable {tab : FuncId → Option AF} (T : HasA tab)
include T
theorem index_p {M : Mem} {K : PV → Mem → Prop} {f o : Bool} {xs : List Int} {v : Int} (hm : xs.length < big) (hk : K (p64 (idxI v 0 xs)) M) :
    SemC tab 54 [slI f o .i64 xs, p64 v] M K := by
  refine SemC_pure T.h54 (by simp only [PP, P1, P2, P3, P4, P5, P6, P7, P8, P9, P10, P11, P12, P13, P14, L1, P15, N1, N2, N3, N4, N5, N6, N7, I1, I2, I3, I4, I5, I6, I7, reduceIte, reduceCtorEq]) ?_
  simp only [af54, PP, P1, P2, P3, P4, P5, P6, P7, P8, P9, P10, P11, P12, P13, P14, L1, P15, N1, N2, N3, N4, N5, N6, N7, I1, I2, I3, I4, I5, I6, I7, reduceIte, reduceCtorEq]
  refine loop1 (fun (k : Nat) => k ≤ xs.length ∧ K (p64 (idxI v k (xs.drop k))) M) (fun k => [slI f o .i64 xs, p64 v, .junk, .junk, .junk, .junk, .junk, p64 xs.length, p64 k, .junk, .junk, .junk, .junk, .junk, .junk, .junk, .junk, .junk, .junk]) (fun _ => []) (fun k => xs.length - k) 0 ⟨by omega, hk⟩ (by simp only [PWeak_nil, PWeak_junk, PWeak_same, Int.cast_ofNat_Int, List.length_append, List.length_cons, List.length_nil, Nat.zero_add]) rfl ?_
  intro k ⟨hle, hq⟩ ih
  refine SemW_go (by kernel_rfl) ?_
  simp only [PP, P1, P2, P3, P4, P5, P6, P7, P8, P9, P10, P11, P12, P13, P14, L1, P15, N1, N2, N3, N4, N5, N6, N7, I1, I2, I3, I4, I5, I6, I7, reduceIte, reduceCtorEq]
  refine QIf.intro (fun c => ?_) (fun c => ?_)
  · have hk' : k < xs.length := by omega
    obtain ⟨x, g⟩ := some_of hk'
    rw [drop_some g] at hq
    have hw := wrap_succ (k := k) (by omega)
    have h0 : (0 : Int) ≤ k := by omega
    simp only [PP, P1, P2, P3, P4, P5, P6, P7, P8, P9, P10, P11, P12, P13, P14, L1, P15, N1, N2, N3, N4, N5, N6, N7, I1, I2, I3, I4, I5, I6, I7, reduceIte, reduceCtorEq, idxI, c, g, h0] at hq ⊢
    refine QIf.intro (fun h1 => ?_) (fun h1 => ?_)
    · simp only [PP, P1, P2, P3, P4, P5, P6, P7, P8, P9, P10, P11, P12, P13, P14, L1, P15, N1, N2, N3, N4, N5, N6, N7, I1, I2, I3, I4, I5, I6, I7, reduceIte, reduceCtorEq, h1] at hq ⊢
      exact hq
    simp only [PP, P1, P2, P3, P4, P5, P6, P7, P8, P9, P10, P11, P12, P13, P14, L1, P15, N1, N2, N3, N4, N5, N6, N7, I1, I2, I3, I4, I5, I6, I7, reduceIte, reduceCtorEq, h1] at hq ⊢
    simp only [hw]
    exact SemW_weak (ih (k + 1) ⟨by omega, hq⟩ (by omega)) (by simp only [PWeak_nil, PWeak_junk, PWeak_same, Int.cast_ofNat_Int, List.length_append, List.length_cons, List.length_nil, Nat.zero_add])
  · rw [List.drop_eq_nil_of_le (by omega)] at hq
    simp only [PP, P1, P2, P3, P4, P5, P6, P7, P8, P9, P10, P11, P12, P13, P14, L1, P15, N1, N2, N3, N4, N5, N6, N7, I1, I2, I3, I4, I5, I6, I7, reduceIte, reduceCtorEq, c]
    exact hq
theorem contains_p {M : Mem} {K : PV → Mem → Prop} {f o : Bool} {xs : List Int} {v : Int} (hm : xs.length < big) (hk : K (.bool (decide (v ∈ xs))) M) :
    SemC tab 48 [slI f o .i64 xs, p64 v] M K := by
  refine SemC_pure T.h48 (by simp only [PP, P1, P2, P3, P4, P5, P6, P7, P8, P9, P10, P11, P12, P13, P14, L1, P15, N1, N2, N3, N4, N5, N6, N7, I1, I2, I3, I4, I5, I6, I7, reduceIte, reduceCtorEq]) ?_
  simp only [af48, PP, P1, P2, P3, P4, P5, P6, P7, P8, P9, P10, P11, P12, P13, P14, L1, P15, N1, N2, N3, N4, N5, N6, N7, I1, I2, I3, I4, I5, I6, I7, reduceIte, reduceCtorEq]
  refine index_p T hm ?_
  have e : decide (0 ≤ idxI v 0 xs) = decide (v ∈ xs) := by
    rcases idxI_spec v xs 0 with ⟨h1, h2⟩ | ⟨i, h1, h2, h3⟩
    · rw [h2]; simp [h1]
    · rw [h3]; simp [List.mem_of_getElem? h1]
  simp only [PP, P1, P2, P3, P4, P5, P6, P7, P8, P9, P10, P11, P12, P13, P14, L1, P15, N1, N2, N3, N4, N5, N6, N7, I1, I2, I3, I4, I5, I6, I7, reduceIte, reduceCtorEq, e]
  exact hk
end
end Go.Am.Ar
set_option linter.unusedVariables false
namespace Go.Am.Ar
def itr (f : Nat → Nat) (v : Nat) : Nat → Nat
  | 0 => v
  | j + 1 => f (itr f v j)
theorem itr_lt {f : Nat → Nat} {n v : Nat} (hf : ∀ v, v < n → f v < n) (hv : v < n) : ∀ j, itr f v j < n
  | 0 => hv
  | j + 1 => hf _ (itr_lt hf hv j)
def its (f : Nat → Nat) (v m : Nat) : List Nat := (List.range m).map (itr f v)
theorem its_len (f : Nat → Nat) (v m : Nat) : (its f v m).length = m := by simp [its]
theorem its_get {f : Nat → Nat} {v m j : Nat} (h : j < m) : (its f v m)[j]? = some (itr f v j) := by simp [its, h]
theorem its_succ (f : Nat → Nat) (v m : Nat) : its f v (m + 1) = its f v m ++ [itr f v m] := by simp [its, List.range_succ]
theorem its_mem {f : Nat → Nat} {v m x : Nat} : x ∈ its f v m ↔ ∃ j, j < m ∧ itr f v j = x := by simp [its]
theorem its_lt {f : Nat → Nat} {n v m : Nat} (hf : ∀ v, v < n → f v < n) (hv : v < n) : ∀ x ∈ its f v m, x < n := by
  intro x hx
  obtain ⟨j, _, rfl⟩ := its_mem.1 hx
  exact itr_lt hf hv j
structure IsPlay (f : Nat → Nat) (v n : Nat) (p l : List Int) (m k : Nat) : Prop where
  km : k < m
  mn : m ≤ n
  nd : (its f v m).Nodup
  back : itr f v m = itr f v k
  p : p = natI ((its f v m).take k)
  l : l = natI ((its f v m).drop k)
theorem natI_inj {l : List Nat} {i : Nat} {v : Nat} (h : (natI l)[i]? = some (v : Int)) : l[i]? = some v := by
  rw [List.getElem?_map] at h
  cases h1 : l[i]? with
  | none => rw [h1] at h; cases h
  | some a =>
    rw [h1] at h
    have : (a : Int) = v := by simpa using h
    rw [show a = v by omega]
theorem playL_spec {st : List Int} {f : Nat → Nat} {n v : Nat} (hst : ∀ v, v < n → st[v]? = some ((f v : Nat) : Int)) (hf : ∀ v, v < n → f v < n) (hv : v < n) :
    ∀ (fuel m : Nat), m + fuel = n + 1 → (its f v m).Nodup → ∃ m' k, m ≤ m' ∧ IsPlay f v n (playL st fuel (itr f v m : Nat) (natI (its f v m))).1 (playL st fuel (itr f v m : Nat) (natI (its f v m))).2 m' k
  | 0, m, hm, hnd => by
    have := nodup_lenN n _ hnd (its_lt hf hv)
    rw [its_len] at this
    omega
  | fuel + 1, m, hm, hnd => by
    have hlen := nodup_lenN n _ hnd (its_lt hf hv)
    rw [its_len] at hlen
    unfold playL
    rcases idxI_spec (itr f v m : Nat) (natI (its f v m)) 0 with ⟨h1, h2⟩ | ⟨i, h1, h2, h3⟩
    · rw [h2, if_neg (by omega)]
      have hn : itr f v m ∉ its f v m := fun h => h1 (mem_natI.2 h)
      have e1 : st.getD (itr f v m : Int).toNat 0 = ((itr f v (m + 1) : Nat) : Int) := by
        rw [Int.toNat_natCast, List.getD, hst _ (itr_lt hf hv m)]; rfl
      have e2 : natI (its f v m) ++ [((itr f v m : Nat) : Int)] = natI (its f v (m + 1)) := by rw [its_succ]; simp
      rw [e1, e2]
      have hnd' : (its f v (m + 1)).Nodup := by
        rw [its_succ, List.nodup_append]
        exact ⟨hnd, by simp, fun a ha b hb e => by rw [List.mem_singleton] at hb; subst hb; subst e; exact hn ha⟩
      obtain ⟨m', k, h4, h5⟩ := playL_spec hst hf hv fuel (m + 1) (by omega) hnd'
      exact ⟨m', k, by omega, h5⟩
    · rw [h3, if_pos (by omega)]
      have h1' := natI_inj h1
      have hi := getSome_lt h1'
      rw [its_len] at hi
      rw [its_get hi] at h1'
      refine ⟨m, i, Nat.le_refl _, hi, hlen, hnd, ?_, ?_, ?_⟩
      · simp only [Option.some.injEq] at h1'; exact h1'.symm
      · simp [natI, List.map_take]
      · simp [natI, List.map_drop]
theorem play_spec {st : List Int} {f : Nat → Nat} {n v : Nat} (hst : ∀ v, v < n → st[v]? = some ((f v : Nat) : Int)) (hf : ∀ v, v < n → f v < n) (hv : v < n) :
    ∃ m k, IsPlay f v n (playL st (n + 1) v []).1 (playL st (n + 1) v []).2 m k := by
  obtain ⟨m, k, _, h⟩ := playL_spec hst hf hv (n + 1) 0 (by omega) (by simp [its])
  exact ⟨m, k, h⟩
theorem IsPlay.len {f : Nat → Nat} {n v m k : Nat} {p l : List Int} (h : IsPlay f v n p l m k) : p.length = k ∧ l.length = m - k := by
  rw [h.p, h.l]
  simp [its_len]
  have := h.km
  omega
theorem IsPlay.mem {f : Nat → Nat} {n v m k : Nat} {p l : List Int} (h : IsPlay f v n p l m k) (hf : ∀ v, v < n → f v < n) (hv : v < n) : ∀ x ∈ l, 0 ≤ x ∧ x < n := by
  intro x hx
  rw [h.l] at hx
  obtain ⟨y, hy, rfl⟩ := List.mem_map.1 hx
  have := its_lt hf hv y (List.mem_of_mem_drop hy)
  omega
end Go.Am.Ar
set_option linter.unusedVariables false
namespace Go.Am.Ar
def CycIn (O : Nat → Int) (S : Nat → List Nat) (R : Nat → Int) (p : Int) (W : Nat → Prop) (s : Nat → Nat) : Prop :=
  ∀ (c : Nat → Nat) (k : Nat), 0 < k → (∀ i, c (i + k) = c i) → (∀ i, W (c i)) → (∀ i, c (i + 1) ∈ S (c i)) → (∀ i, O (c i) = p → c (i + 1) = s (c i)) → ∃ j, (∀ i, R (c i) ≤ R (c j)) ∧ R (c j) % 2 = p
structure SolIn (O : Nat → Int) (S : Nat → List Nat) (R : Nat → Int) (D : Nat → Prop) (p : Int) (W : Nat → Prop) (s : Nat → Nat) : Prop where
  sub : ∀ v, W v → D v
  own : ∀ v, W v → O v = p → s v ∈ S v ∧ W (s v)
  opp : ∀ v, W v → ¬ O v = p → ∀ u ∈ S v, D u → W u
  cyc : CycIn O S R p W s
structure AttIn (O : Nat → Int) (S : Nat → List Nat) (D : Nat → Prop) (p : Int) (X A : Nat → Prop) (s0 s : Nat → Nat) (r : Nat → Nat) : Prop where
  sub : ∀ v, A v → D v
  tgt : ∀ v, X v → A v
  own : ∀ v, A v → ¬ X v → O v = p → s v ∈ S v ∧ A (s v) ∧ r (s v) < r v
  opp : ∀ v, A v → ¬ X v → ¬ O v = p → ∀ u ∈ S v, D u → A u ∧ r u < r v
  same : ∀ v, ¬ A v ∨ X v → s v = s0 v
  clo : ∀ v, D v → ¬ A v → O v = p → ∀ u ∈ S v, ¬ A u
  clp : ∀ v, D v → ¬ A v → ¬ O v = p → ∃ u ∈ S v, D u ∧ ¬ A u
theorem per_mul {c : Nat → Nat} {k : Nat} (h : ∀ i, c (i + k) = c i) (i : Nat) : ∀ m, c (i + m * k) = c i
  | 0 => by simp
  | m + 1 => by rw [Nat.succ_mul, ← Nat.add_assoc, h, per_mul h i m]
theorem per_all {c : Nat → Nat} {k : Nat} (hk : 0 < k) (h : ∀ i, c (i + k) = c i) {P : Nat → Prop} (hs : ∀ i, P (c i) → P (c (i + 1))) {i0 : Nat} (h0 : P (c i0)) : ∀ i, P (c i) := by
  have fw : ∀ d, P (c (i0 + d)) := by
    intro d
    induction d with
    | zero => exact h0
    | succ d ih => exact hs _ ih
  intro i
  rw [← per_mul h i i0]
  have : i0 ≤ i0 * k := Nat.le_mul_of_pos_right _ hk
  obtain ⟨d, hd⟩ : ∃ d, i + i0 * k = i0 + d := ⟨i + i0 * k - i0, by omega⟩
  rw [hd]; exact fw d
theorem no_fall {c : Nat → Nat} {r : Nat → Nat} (h : ∀ i, r (c (i + 1)) < r (c i)) : False := by
  have : ∀ i, r (c i) + i ≤ r (c 0) := by
    intro i
    induction i with
    | zero => exact Nat.le_refl _
    | succ i ih => have := h i; omega
  have := this (r (c 0) + 1)
  omega
section
variable {O : Nat → Int} {S : Nat → List Nat} {R : Nat → Int} {D : Nat → Prop} {p q : Int}
theorem AttIn.tot {X A : Nat → Prop} {s0 s : Nat → Nat} {r : Nat → Nat} (a : AttIn O S D p X A s0 s r) (ht : ∀ v, D v → ∃ u ∈ S v, D u) : ∀ v, D v ∧ ¬ A v → ∃ u ∈ S v, D u ∧ ¬ A u := by
  intro v ⟨hv, hn⟩
  by_cases h : O v = p
  · obtain ⟨u, hu, hd⟩ := ht v hv
    exact ⟨u, hu, hd, a.clo v hv hn h u hu⟩
  · exact a.clp v hv hn h
theorem zk_one {X A : Nat → Prop} {s0 s1 s2 s3 : Nat → Nat} {r : Nat → Nat} {top : Int} (a : AttIn O S D p X A s0 s1 r) (hX : ∀ v, X v ↔ D v ∧ R v = top) (hm : ∀ v, D v → R v ≤ top) (hp : top % 2 = p)
    (sub : SolIn O S R (fun v => D v ∧ ¬ A v) p (fun v => D v ∧ ¬ A v) s2) (h2 : ∀ v, ¬ (D v ∧ ¬ A v) → s2 v = s1 v) (h3 : ∀ v, X v → O v = p → s3 v ∈ S v ∧ D (s3 v)) (h3' : ∀ v, ¬ X v → s3 v = s2 v) : SolIn O S R D p D s3 := by
  have own : ∀ v, D v → O v = p → s3 v ∈ S v ∧ D (s3 v) := by
    intro v hv ho
    by_cases hx : X v
    · exact h3 v hx ho
    · rw [h3' v hx]
      by_cases ha : A v
      · rw [h2 v (fun h => h.2 ha)]
        obtain ⟨q1, q2, _⟩ := a.own v ha hx ho
        exact ⟨q1, a.sub _ q2⟩
      · obtain ⟨q1, q2⟩ := sub.own v ⟨hv, ha⟩ ho
        exact ⟨q1, q2.1⟩
  refine ⟨fun _ h => h, own, fun v _ _ u _ h => h, fun c k hk hper hW hS hs => ?_⟩
  by_cases hx : ∃ i, X (c i)
  · obtain ⟨i, hi⟩ := hx
    have := (hX _).1 hi
    exact ⟨i, fun j => by rw [this.2]; exact hm _ (hW j), by rw [this.2]; exact hp⟩
  · have hx : ∀ i, ¬ X (c i) := fun i h => hx ⟨i, h⟩
    by_cases ha : ∃ i, A (c i)
    · exfalso
      obtain ⟨i, hi⟩ := ha
      have step : ∀ i, A (c i) → A (c (i + 1)) ∧ r (c (i + 1)) < r (c i) := fun i hi => by
        by_cases ho : O (c i) = p
        · rw [hs i ho, h3' _ (hx i), h2 _ (fun h => h.2 hi)]
          exact (a.own _ hi (hx i) ho).2
        · exact a.opp _ hi (hx i) ho _ (hS i) (hW _)
      have hall := per_all hk hper (P := A) (fun i h => (step i h).1) hi
      exact no_fall (c := c) (r := r) fun i => (step i (hall i)).2
    · have ha : ∀ i, ¬ A (c i) := fun i h => ha ⟨i, h⟩
      exact sub.cyc c k hk hper (fun i => ⟨hW i, ha i⟩) hS fun i ho => by rw [hs i ho, h3' _ (hx i)]
theorem zk_two {X A W L Wp Wq : Nat → Prop} {s0 s1 s2 s3 s4 : Nat → Nat} {r r2 : Nat → Nat} (hpq : p ≠ q) (hO : ∀ v, D v → O v = p ∨ O v = q) (a : AttIn O S D p X A s0 s1 r)
    (sub : SolIn O S R (fun v => D v ∧ ¬ A v) q W s2) (b : AttIn O S D q W L s2 s3 r2)
    (subp : SolIn O S R (fun v => D v ∧ ¬ L v) p Wp s4) (subq : SolIn O S R (fun v => D v ∧ ¬ L v) q Wq s4) (h4 : ∀ v, ¬ (D v ∧ ¬ L v) → s4 v = s3 v) :
    SolIn O S R D p Wp s4 ∧ SolIn O S R D q (fun v => Wq v ∨ L v) s4 := by
  have wclo : ∀ v, W v → ¬ O v = q → ∀ u ∈ S v, D u → W u := fun v hv ho u hu hd => by
    have hDA := sub.sub v hv
    have hp : O v = p := (hO v hDA.1).resolve_right ho
    exact sub.opp v hv ho u hu ⟨hd, a.clo v hDA.1 hDA.2 hp u hu⟩
  have lown : ∀ v, L v → O v = q → s4 v ∈ S v ∧ L (s4 v) := fun v hv ho => by
    rw [h4 v (fun h => h.2 hv)]
    by_cases hw : W v
    · rw [b.same v (.inr hw)]
      obtain ⟨q1, q2⟩ := sub.own v hw ho
      exact ⟨q1, b.tgt _ q2⟩
    · obtain ⟨q1, q2, _⟩ := b.own v hv hw ho
      exact ⟨q1, q2⟩
  have lopp : ∀ v, L v → ¬ O v = q → ∀ u ∈ S v, D u → L u := fun v hv ho u hu hd => by
    by_cases hw : W v
    · exact b.tgt _ (wclo v hw ho u hu hd)
    · exact (b.opp v hv hw ho u hu hd).1
  constructor
  · refine ⟨fun v h => (subp.sub v h).1, subp.own, fun v hv ho u hu hd => ?_, subp.cyc⟩
    have hDL := subp.sub v hv
    exact subp.opp v hv ho u hu ⟨hd, b.clo v hDL.1 hDL.2 ((hO v hDL.1).resolve_left ho) u hu⟩
  · have hsub : ∀ v, Wq v ∨ L v → D v := fun v h => h.elim (fun h => (subq.sub v h).1) (b.sub v)
    refine ⟨hsub, fun v hv ho => ?_, fun v hv ho u hu hd => ?_, fun c k hk hper hW hS hs => ?_⟩
    · rcases hv with hv | hv
      · obtain ⟨q1, q2⟩ := subq.own v hv ho
        exact ⟨q1, .inl q2⟩
      · obtain ⟨q1, q2⟩ := lown v hv ho
        exact ⟨q1, .inr q2⟩
    · rcases hv with hv | hv
      · by_cases hl : L u
        · exact .inr hl
        · exact .inl (subq.opp v hv ho u hu ⟨hd, hl⟩)
      · exact .inr (lopp v hv ho u hu hd)
    · by_cases hl : ∃ i, L (c i)
      · obtain ⟨i, hi⟩ := hl
        have hall := per_all hk hper (P := L) (fun i h => by
          by_cases ho : O (c i) = q
          · rw [hs i ho]; exact (lown _ h ho).2
          · exact lopp _ h ho _ (hS i) (hsub _ (hW _))) hi
        by_cases hw : ∃ i, W (c i)
        · obtain ⟨i, hi⟩ := hw
          have s42 : ∀ v, W v → s4 v = s2 v := fun v hv => by rw [h4 v (fun h => h.2 (b.tgt v hv)), b.same v (.inr hv)]
          have hallw := per_all hk hper (P := W) (fun i h => by
            by_cases ho : O (c i) = q
            · rw [hs i ho, s42 _ h]; exact (sub.own _ h ho).2
            · exact wclo _ h ho _ (hS i) (hsub _ (hW _))) hi
          exact sub.cyc c k hk hper hallw hS fun i ho => by rw [hs i ho, s42 _ (hallw i)]
        · exfalso
          have hw : ∀ i, ¬ W (c i) := fun i h => hw ⟨i, h⟩
          refine no_fall (c := c) (r := r2) fun i => ?_
          by_cases ho : O (c i) = q
          · rw [hs i ho, h4 _ (fun h => h.2 (hall i))]
            exact (b.own _ (hall i) (hw i) ho).2.2
          · exact (b.opp _ (hall i) (hw i) ho _ (hS i) (hsub _ (hW _))).2
      · have hl : ∀ i, ¬ L (c i) := fun i h => hl ⟨i, h⟩
        exact subq.cyc c k hk hper (fun i => (hW i).resolve_right (hl i)) hS hs
end
structure IsSol (n : Nat) (O : Nat → Int) (S : Nat → List Nat) (R : Nat → Int) (w : Nat → Int) (s : Nat → Nat) : Prop where
  r01 : ∀ v, v < n → w v = 0 ∨ w v = 1
  p0 : SolIn O S R (fun v => v < n) 0 (fun v => v < n ∧ w v = 0) s
  p1 : SolIn O S R (fun v => v < n) 1 (fun v => v < n ∧ w v = 1) s
theorem IsSol.of {n : Nat} {O : Nat → Int} {S : Nat → List Nat} {R : Nat → Int} {w : Nat → Int} {s : Nat → Nat} (h : IsSol n O S R w s) {p : Int} (hp : p = 0 ∨ p = 1) : SolIn O S R (fun v => v < n) p (fun v => v < n ∧ w v = p) s := by
  rcases hp with rfl | rfl
  · exact h.p0
  · exact h.p1
theorem itr_add (f : Nat → Nat) (v : Nat) : ∀ i j, itr f v (i + j) = itr f (itr f v i) j
  | i, 0 => rfl
  | i, j + 1 => by show f (itr f v (i + j)) = f _; rw [itr_add f v i j]
theorem itr_per {f : Nat → Nat} {v m k : Nat} (hk : k ≤ m) (h : itr f v m = itr f v k) (i : Nat) : itr f v (k + (i + (m - k))) = itr f v (k + i) := by
  rw [show k + (i + (m - k)) = m + i by omega, itr_add, itr_add, h]
theorem orbit {f : Nat → Nat} {n v : Nat} (hf : ∀ v, v < n → f v < n) (hv : v < n) : ∃ m k, k < m ∧ itr f v m = itr f v k := by
  obtain ⟨m, k, h⟩ := play_spec (st := (List.range n).map fun v => ((f v : Nat) : Int)) (f := f) (n := n) (v := v) (fun v hv => by simp [hv]) hf hv
  exact ⟨m, k, h.km, h.back⟩
theorem no_both {O O' : Nat → Int} {S S' : Nat → List Nat} {R R' : Nat → Int} {D D' W W' : Nat → Prop} {p q : Int} {s s' : Nat → Nat} {n : Nat} {ph : Nat → Nat} (a : SolIn O S R D p W s) (b : SolIn O' S' R' D' q W' s') (hpq : p ≠ q)
    (hn : ∀ v, W' v → v < n) (hR : ∀ v, W' v → R' v = R (ph v))
    (hst : ∀ u, W (ph u) → W' u → ∃ u', ph u' ∈ S (ph u) ∧ u' ∈ S' u ∧ D (ph u') ∧ D' u' ∧ (O (ph u) = p → ph u' = s (ph u)) ∧ (O' u = q → u' = s' u)) {v : Nat} (h1 : W (ph v)) (h2 : W' v) : False := by
  classical
  have hst' : ∀ u, ∃ u', W (ph u) → W' u → ph u' ∈ S (ph u) ∧ u' ∈ S' u ∧ D (ph u') ∧ D' u' ∧ (O (ph u) = p → ph u' = s (ph u)) ∧ (O' u = q → u' = s' u) := fun u => by
    by_cases h : W (ph u) ∧ W' u
    · obtain ⟨u', h'⟩ := hst u h.1 h.2
      exact ⟨u', fun _ _ => h'⟩
    · exact ⟨0, fun q1 q2 => absurd ⟨q1, q2⟩ h⟩
  let f : Nat → Nat := fun u => Classical.choose (hst' u)
  have hf : ∀ u, W (ph u) → W' u → ph (f u) ∈ S (ph u) ∧ f u ∈ S' u ∧ D (ph (f u)) ∧ D' (f u) ∧ (O (ph u) = p → ph (f u) = s (ph u)) ∧ (O' u = q → f u = s' u) := fun u => Classical.choose_spec (hst' u)
  have inv : ∀ i, W (ph (itr f v i)) ∧ W' (itr f v i) := by
    intro i
    induction i with
    | zero => exact ⟨h1, h2⟩
    | succ i ih =>
      obtain ⟨q1, q2, q3, q4, q5, q6⟩ := hf _ ih.1 ih.2
      constructor
      · show W (ph (f _))
        by_cases ho : O (ph (itr f v i)) = p
        · rw [q5 ho]; exact (a.own _ ih.1 ho).2
        · exact a.opp _ ih.1 ho _ q1 q3
      · show W' (f _)
        by_cases ho : O' (itr f v i) = q
        · rw [q6 ho]; exact (b.own _ ih.2 ho).2
        · exact b.opp _ ih.2 ho _ q2 q4
  -- the orbit is a cycle in the end
  let f' : Nat → Nat := fun u => if W (ph u) ∧ W' u then f u else u
  have ff : ∀ i, itr f' v i = itr f v i := by
    intro i
    induction i with
    | zero => rfl
    | succ i ih => show f' _ = f _; rw [ih]; show (if _ then _ else _) = _; rw [if_pos (inv i)]
  have hf' : ∀ u, u < n → f' u < n := fun u hu => by
    show (if _ then _ else _) < n
    split
    · rename_i h
      obtain ⟨q1, q2, q3, q4, q5, q6⟩ := hf u h.1 h.2
      have : W' (f u) := by
        by_cases ho : O' u = q
        · rw [q6 ho]; exact (b.own _ h.2 ho).2
        · exact b.opp _ h.2 ho _ q2 q4
      exact hn _ this
    · exact hu
  obtain ⟨m, k, hkm, hback⟩ := orbit hf' (hn v h2)
  rw [ff, ff] at hback
  have hper := itr_per (by omega) hback
  obtain ⟨j, j1, j2⟩ := a.cyc (fun i => ph (itr f v (k + i))) (m - k) (by omega) (fun i => by show ph _ = ph _; rw [hper i]) (fun i => (inv _).1) (fun i => (hf _ (inv (k + i)).1 (inv (k + i)).2).1) (fun i => (hf _ (inv (k + i)).1 (inv (k + i)).2).2.2.2.2.1)
  obtain ⟨j', j3, j4⟩ := b.cyc (fun i => itr f v (k + i)) (m - k) (by omega) hper (fun i => (inv _).2) (fun i => (hf _ (inv (k + i)).1 (inv (k + i)).2).2.1) (fun i => (hf _ (inv (k + i)).1 (inv (k + i)).2).2.2.2.2.2)
  have e1 := j1 j'
  have e2 := j3 j
  rw [hR _ (inv _).2, hR _ (inv _).2] at e2
  rw [hR _ (inv _).2] at j4
  apply hpq
  rw [← j2, ← j4]
  congr 1
  omega
theorem IsSol.unique {n : Nat} {O : Nat → Int} {S : Nat → List Nat} {R : Nat → Int} {w w' : Nat → Int} {s s' : Nat → Nat} (hO : ∀ v, v < n → O v = 0 ∨ O v = 1) (hS : ∀ v, v < n → ∀ u ∈ S v, u < n) (h : IsSol n O S R w s) (h' : IsSol n O S R w' s') : ∀ v, v < n → w v = w' v := by
  have key : ∀ (p q : Int), (p = 0 ∨ p = 1) → (q = 0 ∨ q = 1) → p ≠ q → ∀ v, v < n → w v = p → w' v = q → False := by
    intro p q hp hq hpq v hv h1 h2
    refine no_both (h.of hp) (h'.of hq) hpq (n := n) (ph := id) (fun v h => h.1) (fun v _ => rfl) (fun u hu hu' => ?_) (v := v) ⟨hv, h1⟩ ⟨hv, h2⟩
    simp only [id] at hu ⊢
    by_cases ho : O u = p
    · obtain ⟨q1, q2⟩ := (h.of hp).own u hu ho
      exact ⟨s u, q1, q1, q2.1, q2.1, fun _ => rfl, fun e => absurd (ho.symm.trans e) hpq⟩
    · have hoq : O u = q := by have := hO u hu.1; omega
      obtain ⟨q1, q2⟩ := (h'.of hq).own u hu' hoq
      exact ⟨s' u, q1, q1, q2.1, q2.1, fun e => absurd e ho, fun _ => rfl⟩
  intro v hv
  have h1 := h.r01 v hv
  have h2 := h'.r01 v hv
  rcases h1 with e1 | e1 <;> rcases h2 with e2 | e2
  · rw [e1, e2]
  · exact (key 0 1 (.inl rfl) (.inr rfl) (by omega) v hv e1 e2).elim
  · exact (key 1 0 (.inr rfl) (.inl rfl) (by omega) v hv e1 e2).elim
  · rw [e1, e2]
end Go.Am.Ar
set_option linter.unusedVariables false
namespace Go.Am.Ar
theorem IsSol.into {n n' : Nat} {O O' : Nat → Int} {S S' : Nat → List Nat} {R R' : Nat → Int} {w w' : Nat → Int} {s s' : Nat → Nat} {ph : Nat → Nat} {p q : Int} (h : IsSol n O S R w s) (h' : IsSol n' O' S' R' w' s') (hp : p = 0 ∨ p = 1) (hq : q = 1 - p)
    (hR : ∀ v, v < n' → R' v = R (ph v))
    (hst : ∀ u, (ph u < n ∧ w (ph u) = p) → (u < n' ∧ w' u = q) → ∃ u', ph u' ∈ S (ph u) ∧ u' ∈ S' u ∧ ph u' < n ∧ u' < n' ∧ (O (ph u) = p → ph u' = s (ph u)) ∧ (O' u = q → u' = s' u)) {v : Nat} (h1 : ph v < n) (h2 : v < n') (h3 : w (ph v) = p) : w' v = p := by
  refine Classical.byContradiction fun hn => ?_
  have h4 : w' v = q := by have := h'.r01 v h2; omega
  exact no_both (h.of hp) (h'.of (p := q) (by omega)) (by omega) (n := n') (fun v h => h.1) (fun v h => hR v h.1) hst (v := v) ⟨h1, h3⟩ ⟨h2, h4⟩
theorem IsSol.more {n : Nat} {O : Nat → Int} {S S' : Nat → List Nat} {R : Nat → Int} {w w' : Nat → Int} {s s' : Nat → Nat} {p : Int} {at' : Nat} (hO : ∀ v, v < n → O v = 0 ∨ O v = 1) (h : IsSol n O S R w s) (h' : IsSol n O S' R w' s') (hp : p = 0 ∨ p = 1)
    (ha : O at' = p) (hS : ∀ v, v < n → ∀ u ∈ S v, u ∈ S' v) (hS' : ∀ v, v < n → v ≠ at' → S' v = S v) : ∀ v, v < n → w v = p → w' v = p := by
  intro v hv hw
  refine IsSol.into (ph := id) h h' hp rfl (fun _ _ => rfl) (fun u hu hu' => ?_) hv hv hw
  simp only [id] at hu ⊢
  by_cases ho : O u = p
  · obtain ⟨q1, q2⟩ := (h.of hp).own u hu ho
    exact ⟨s u, q1, hS u hu.1 _ q1, q2.1, q2.1, fun _ => rfl, fun e => by omega⟩
  · have hoq : O u = 1 - p := by have := hO u hu.1; omega
    obtain ⟨q1, q2⟩ := (h'.of (p := 1 - p) (by omega)).own u hu' hoq
    have hua : u ≠ at' := by rintro rfl; exact ho ha
    exact ⟨s' u, by rw [hS' u hu.1 hua] at q1; exact q1, q1, q2.1, q2.1, fun e => absurd e ho, fun _ => rfl⟩
end Go.Am.Ar
set_option linter.unusedVariables false
namespace Go.Am.Ar
theorem SolIn.loop {n : Nat} {O : Nat → Int} {S : Nat → List Nat} {R : Nat → Int} {W : Nat → Prop} {s f : Nat → Nat} {p : Int} {v m k : Nat} (a : SolIn O S R (fun v => v < n) p W s) (hv : W v) (hf : ∀ u, u < n → f u ∈ S u ∧ f u < n) (hs : ∀ u, W u → O u = p → f u = s u) (hkm : k < m) (hback : itr f v m = itr f v k) :
    (∀ i, W (itr f v i)) ∧ ∃ j, (∀ i, R (itr f v (k + i)) ≤ R (itr f v (k + j))) ∧ R (itr f v (k + j)) % 2 = p := by
  have inv : ∀ i, W (itr f v i) := by
    intro i
    induction i with
    | zero => exact hv
    | succ i ih =>
      show W (f _)
      have hn := a.sub _ ih
      by_cases ho : O (itr f v i) = p
      · rw [hs _ ih ho]; exact (a.own _ ih ho).2
      · exact a.opp _ ih ho _ (hf _ hn).1 (hf _ hn).2
  have hper := itr_per (by omega) hback
  exact ⟨inv, a.cyc (fun i => itr f v (k + i)) (m - k) (by omega) hper (fun i => inv _) (fun i => (hf _ (a.sub _ (inv _))).1) (fun i ho => hs _ (inv _) ho)⟩
end Go.Am.Ar
set_option linter.unusedVariables false
namespace Go.Am.Ar
inductive Rch (E : Nat → Nat → Prop) (Q : Nat → Prop) (v : Nat) : Nat → Prop
  | one {u : Nat} : E v u → Q u → Rch E Q v u
  | more {u x : Nat} : Rch E Q v u → E u x → Q x → Rch E Q v x
def Bad (E : Nat → Nat → Prop) (R : Nat → Int) (p : Int) (u : Nat) : Prop := R u % 2 ≠ p ∧ Rch E (fun x => R x ≤ R u) u u
def Lost (E : Nat → Nat → Prop) (R : Nat → Int) (p : Int) (v : Nat) : Prop := Bad E R p v ∨ ∃ u, Bad E R p u ∧ Rch E (fun _ => True) v u
theorem Rch.list {E : Nat → Nat → Prop} {Q : Nat → Prop} {v u : Nat} (h : Rch E Q v u) : ∃ (k : Nat) (c : Nat → Nat), c 0 = v ∧ c (k + 1) = u ∧ ∀ i, i ≤ k → E (c i) (c (i + 1)) ∧ Q (c (i + 1)) := by
  induction h with
  | @one u h1 h2 => exact ⟨0, fun i => if i = 0 then v else u, rfl, rfl, fun i hi => by have : i = 0 := by omega
                                                                                        subst this; exact ⟨h1, h2⟩⟩
  | @more u x _ h1 h2 ih =>
    obtain ⟨k, c, e1, e2, e3⟩ := ih
    refine ⟨k + 1, fun i => if i ≤ k + 1 then c i else x, by simp [e1], by show (if _ then _ else _) = _; rw [if_neg (by omega)], fun i hi => ?_⟩
    by_cases q : i ≤ k
    · simp only [show i ≤ k + 1 by omega, show i + 1 ≤ k + 1 by omega, if_true]
      exact e3 i q
    · have : i = k + 1 := by omega
      subst this
      simp only [Nat.le_refl, if_true, show ¬ k + 1 + 1 ≤ k + 1 by omega, if_false, e2]
      exact ⟨h1, h2⟩
theorem Rch.mono {E E' : Nat → Nat → Prop} {Q Q' : Nat → Prop} {v u : Nat} (h : Rch E Q v u) (hE : ∀ a b, E a b → E' a b) (hQ : ∀ a, Q a → Q' a) : Rch E' Q' v u := by
  induction h with
  | one h1 h2 => exact .one (hE _ _ h1) (hQ _ h2)
  | more _ h1 h2 ih => exact .more ih (hE _ _ h1) (hQ _ h2)
theorem Rch.inv {E : Nat → Nat → Prop} {Q P : Nat → Prop} {v u : Nat} (h : Rch E Q v u) (h0 : P v) (hP : ∀ a b, P a → E a b → P b) : P u := by
  induction h with
  | one h1 _ => exact hP _ _ h0 h1
  | more _ h1 _ ih => exact hP _ _ ih h1
theorem SolIn.lost {n : Nat} {O : Nat → Int} {S : Nat → List Nat} {R : Nat → Int} {W : Nat → Prop} {s : Nat → Nat} {p q : Int} {E : Nat → Nat → Prop} (a : SolIn O S R (fun v => v < n) q W s) (hpq : p ≠ q) {f : Nat → Nat} (hf : ∀ u, u < n → f u ∈ S u ∧ f u < n) (hs : ∀ u, W u → O u = q → f u = s u) (hE : ∀ u, W u → E u (f u)) {v : Nat} (hv : W v) : Lost E R p v := by
  obtain ⟨m, k, hkm, hback⟩ := orbit (fun v hv => (hf v hv).2) (a.sub v hv)
  obtain ⟨inv, j, j1, j2⟩ := a.loop hv hf hs hkm hback
  have hper := itr_per (by omega) hback
  have path : ∀ (Q : Nat → Prop) (i d : Nat), (∀ e, Q (itr f v (i + e))) → Rch E Q (itr f v i) (itr f v (i + (d + 1))) := by
    intro Q i d hQ
    induction d with
    | zero => exact .one (hE _ (inv _)) (hQ _)
    | succ d ih => exact .more ih (hE _ (inv _)) (hQ _)
  have hb : Bad E R p (itr f v (k + j)) := by
    refine ⟨by rw [j2]; exact fun e => hpq e.symm, ?_⟩
    have h1 := path (fun x => R x ≤ R (itr f v (k + j))) (k + j) (m - k - 1) (fun e => by rw [Nat.add_assoc]; exact j1 _)
    have h2 : itr f v (k + j + (m - k - 1 + 1)) = itr f v (k + j) := by
      rw [show k + j + (m - k - 1 + 1) = k + (j + (m - k)) by omega]; exact hper j
    rw [h2] at h1; exact h1
  by_cases hz : k + j = 0
  · rw [hz] at hb; exact .inl hb
  · refine .inr ⟨_, hb, ?_⟩
    have := path (fun _ => True) 0 (k + j - 1) (fun _ => trivial)
    rw [show 0 + (k + j - 1 + 1) = k + j by omega] at this
    exact this
end Go.Am.Ar
set_option linter.unusedVariables false
namespace Go.Am.Ar
def bm (L : List Bool) (v : Nat) : Prop := L[v]? = some true
instance (L : List Bool) (v : Nat) : Decidable (bm L v) := by unfold bm; infer_instance
def stN (st : List Int) (v : Nat) : Nat := (st.getD v 0).toNat
theorem bm_lt {L : List Bool} {v : Nat} (h : bm L v) : v < L.length := getSome_lt h
theorem bm_of {L : List Bool} {v : Nat} {b : Bool} (h : L[v]? = some b) : bm L v ↔ b = true := by
  unfold bm; rw [h]; simp
theorem bm_set {L : List Bool} {v w : Nat} (hv : v < L.length) : bm (L.set v true) w ↔ w = v ∨ bm L w := by
  unfold bm
  by_cases e : w = v
  · subst e; simp [hv]
  · rw [List.getElem?_set_ne (by omega)]; simp [e]
theorem stN_set {st : List Int} {v w : Nat} {x : Int} (hv : v < st.length) : stN (st.set v x) w = if w = v then x.toNat else stN st w := by
  unfold stN
  rw [List.getD, List.getD]
  by_cases e : w = v
  · subst e; simp [hv]
  · rw [List.getElem?_set_ne (by omega), if_neg e]
theorem count_add {L : List Bool} {v : Nat} (h : L[v]? = some false) : (L.set v true).count true = L.count true + 1 := by
  have hv := getSome_lt h
  rw [List.getElem?_eq_getElem hv] at h
  have h : L[v] = false := by simpa using h
  rw [List.count_set hv, h]
  simp
structure AJ (O : Nat → Int) (S : Nat → List Nat) (D X : Nat → Prop) (p : Int) (s0 : Nat → Nat) (n : Nat) (out : List Bool) (st : List Int) (r : Nat → Nat) (c : Nat) : Prop where
  lo : out.length = n
  ls : st.length = n
  nn : ∀ x ∈ st, 0 ≤ x
  sub : ∀ v, bm out v → D v
  tgt : ∀ v, X v → bm out v
  own : ∀ v, bm out v → ¬ X v → O v = p → stN st v ∈ S v ∧ bm out (stN st v) ∧ r (stN st v) < r v
  opp : ∀ v, bm out v → ¬ X v → ¬ O v = p → ∀ u ∈ S v, D u → bm out u ∧ r u < r v
  same : ∀ v, ¬ bm out v ∨ X v → stN st v = s0 v
  rk : ∀ v, bm out v → r v < c
def Stab (O : Nat → Int) (S : Nat → List Nat) (D : Nat → Prop) (p : Int) (out : List Bool) (v : Nat) : Prop :=
  D v → ¬ bm out v → (O v = p → ∀ u ∈ S v, ¬ bm out u) ∧ (¬ O v = p → ∃ u ∈ S v, D u ∧ ¬ bm out u)
section
variable {O : Nat → Int} {S : Nat → List Nat} {D X : Nat → Prop} {p : Int} {s0 : Nat → Nat} {n : Nat} {out : List Bool} {st : List Int} {r : Nat → Nat} {c : Nat}
theorem AJ.start {tgt : List Bool} {st : List Int} (h1 : tgt.length = n) (h2 : st.length = n) (h3 : ∀ x ∈ st, 0 ≤ x) (h4 : ∀ v, bm tgt v → D v) : AJ O S D (bm tgt) p (stN st) n tgt st (fun _ => 0) 1 :=
  ⟨h1, h2, h3, h4, fun v h => h, fun v h q => absurd h q, fun v h q => absurd h q, fun v _ => rfl, fun v _ => by omega⟩
theorem AJ.addOwn (j : AJ O S D X p s0 n out st r c) {v : Nat} {x : Int} (hv : v < n) (hn : ¬ bm out v) (hd : D v) (ho : O v = p) (hx : 0 ≤ x) (h1 : x.toNat ∈ S v) (h2 : bm out x.toNat) :
    AJ O S D X p s0 n (out.set v true) (st.set v x) (fun w => if w = v then c else r w) (c + 1) := by
  have hvo : v < out.length := by rw [j.lo]; exact hv
  have hvs : v < st.length := by rw [j.ls]; exact hv
  have hxv : x.toNat ≠ v := fun e => hn (e ▸ h2)
  have hXv : ¬ X v := fun h => hn (j.tgt v h)
  refine ⟨by simp [j.lo], by simp [j.ls], fun y hy => ?_, fun w hw => ?_, fun w hw => (bm_set hvo).2 (.inr (j.tgt w hw)), fun w hw hxw how => ?_, fun w hw hxw how u hu hdu => ?_, fun w hw => ?_, fun w hw => ?_⟩
  · rcases List.mem_or_eq_of_mem_set hy with h | h
    · exact j.nn y h
    · subst h; exact hx
  · rcases (bm_set hvo).1 hw with h | h
    · subst h; exact hd
    · exact j.sub w h
  · rw [stN_set hvs]
    by_cases e : w = v
    · subst e
      simp only [if_true]
      exact ⟨h1, (bm_set hvo).2 (.inr h2), by simp only [if_neg hxv]; exact j.rk _ h2⟩
    · have hb := ((bm_set hvo).1 hw).resolve_left e
      obtain ⟨q1, q2, q3⟩ := j.own w hb hxw how
      have e2 : stN st w ≠ v := fun e => hn (e ▸ q2)
      simp only [if_neg e, if_neg e2]
      exact ⟨q1, (bm_set hvo).2 (.inr q2), q3⟩
  · have e : w ≠ v := by rintro rfl; exact how ho
    have hb := ((bm_set hvo).1 hw).resolve_left e
    obtain ⟨q1, q2⟩ := j.opp w hb hxw how u hu hdu
    have e2 : u ≠ v := fun e => hn (e ▸ q1)
    simp only [if_neg e, if_neg e2]
    exact ⟨(bm_set hvo).2 (.inr q1), q2⟩
  · have e : w ≠ v := by
      rintro rfl
      rcases hw with h | h
      · exact h ((bm_set hvo).2 (.inl rfl))
      · exact hXv h
    rw [stN_set hvs, if_neg e]
    exact j.same w (hw.imp (fun h q => h ((bm_set hvo).2 (.inr q))) id)
  · rcases (bm_set hvo).1 hw with h | h
    · subst h; simp
    · have := j.rk w h
      by_cases e : w = v
      · simp [e]
      · simp only [if_neg e]; omega
theorem AJ.addOpp (j : AJ O S D X p s0 n out st r c) {v : Nat} (hv : v < n) (hn : ¬ bm out v) (hd : D v) (ho : ¬ O v = p) (h1 : ∀ u ∈ S v, D u → bm out u) :
    AJ O S D X p s0 n (out.set v true) st (fun w => if w = v then c else r w) (c + 1) := by
  have hvo : v < out.length := by rw [j.lo]; exact hv
  have hXv : ¬ X v := fun h => hn (j.tgt v h)
  refine ⟨by simp [j.lo], j.ls, j.nn, fun w hw => ?_, fun w hw => (bm_set hvo).2 (.inr (j.tgt w hw)), fun w hw hxw how => ?_, fun w hw hxw how u hu hdu => ?_, fun w hw => ?_, fun w hw => ?_⟩
  · rcases (bm_set hvo).1 hw with h | h
    · subst h; exact hd
    · exact j.sub w h
  · have e : w ≠ v := by rintro rfl; exact ho how
    have hb := ((bm_set hvo).1 hw).resolve_left e
    obtain ⟨q1, q2, q3⟩ := j.own w hb hxw how
    have e2 : stN st w ≠ v := fun e => hn (e ▸ q2)
    simp only [if_neg e, if_neg e2]
    exact ⟨q1, (bm_set hvo).2 (.inr q2), q3⟩
  · by_cases e : w = v
    · subst e
      have q1 := h1 u hu hdu
      have e2 : u ≠ w := fun e => hn (e ▸ q1)
      simp only [if_true, if_neg e2]
      exact ⟨(bm_set hvo).2 (.inr q1), j.rk u q1⟩
    · have hb := ((bm_set hvo).1 hw).resolve_left e
      obtain ⟨q1, q2⟩ := j.opp w hb hxw how u hu hdu
      have e2 : u ≠ v := fun e => hn (e ▸ q1)
      simp only [if_neg e, if_neg e2]
      exact ⟨(bm_set hvo).2 (.inr q1), q2⟩
  · exact j.same w (hw.imp (fun h q => h ((bm_set hvo).2 (.inr q))) id)
  · rcases (bm_set hvo).1 hw with h | h
    · subst h; simp
    · have := j.rk w h
      by_cases e : w = v
      · simp [e]
      · simp only [if_neg e]; omega
theorem AJ.fin (j : AJ O S D X p s0 n out st r c) (hD : ∀ v, D v → v < n) (h : ∀ v, v < n → Stab O S D p out v) : AttIn O S D p X (bm out) s0 (stN st) r :=
  ⟨j.sub, j.tgt, j.own, j.opp, j.same, fun v hd hn ho => (h v (hD v hd) hd hn).1 ho, fun v hd hn ho => (h v (hD v hd) hd hn).2 ho⟩
end
end Go.Am.Ar
set_option linter.unusedVariables false
namespace Go.Am.Ar
structure RJ (S : Nat → List Nat) (Q : Nat → Prop) (v n : Nat) (w : List Bool) (q : List Nat) (C : Nat → Prop) : Prop where
  lw : w.length = n
  qn : ∀ x ∈ q, x < n
  snd : ∀ u, bm w u → Rch (fun a b => b ∈ S a) Q v u
  qr : ∀ x ∈ q, x = v ∨ bm w x
  clo : ∀ x, x = v ∨ bm w x → x ∈ q ∨ C x ∨ ∀ y ∈ S x, Q y → bm w y
section
variable {S : Nat → List Nat} {Q : Nat → Prop} {v n : Nat} {w : List Bool} {q : List Nat} {C : Nat → Prop} {u x : Nat}
theorem RJ.start (hv : v < n) : RJ S Q v n (List.replicate n false) [v] fun _ => False := by
  have no : ∀ u, ¬ bm (List.replicate n false) u := fun u h => by
    unfold bm at h
    rw [List.getElem?_replicate] at h
    split at h <;> cases h
  refine ⟨by simp, fun x hx => ?_, fun u h => absurd h (no u), fun x hx => ?_, fun x hx => ?_⟩
  · rw [List.mem_singleton] at hx; subst hx; exact hv
  · exact .inl (List.mem_singleton.1 hx)
  · exact .inl (List.mem_singleton.2 (hx.resolve_right (no x)))
theorem RJ.pop (j : RJ S Q v n w (u :: q) fun _ => False) : RJ S Q v n w q fun x => x = u :=
  ⟨j.lw, fun x hx => j.qn x (List.mem_cons_of_mem _ hx), j.snd, fun x hx => j.qr x (List.mem_cons_of_mem _ hx), fun x hx => by
    rcases j.clo x hx with h | h | h
    · rcases List.mem_cons.1 h with e | h
      · exact .inr (.inl e)
      · exact .inl h
    · exact h.elim
    · exact .inr (.inr h)⟩
theorem RJ.push (j : RJ S Q v n w q C) (hu : u = v ∨ bm w u) (hx : x ∈ S u) (hq : Q x) (hn : x < n) : RJ S Q v n (w.set x true) (q ++ [x]) C := by
  have hl : x < w.length := by rw [j.lw]; exact hn
  have up : ∀ y, bm w y → bm (w.set x true) y := fun y h => (bm_set hl).2 (.inr h)
  refine ⟨by simp [j.lw], fun y hy => ?_, fun y hy => ?_, fun y hy => ?_, fun y hy => ?_⟩
  · rcases List.mem_append.1 hy with h | h
    · exact j.qn y h
    · rw [List.mem_singleton] at h; subst h; exact hn
  · rcases (bm_set hl).1 hy with h | h
    · subst h
      rcases hu with h | h
      · subst h; exact .one hx hq
      · exact .more (j.snd _ h) hx hq
    · exact j.snd y h
  · rcases List.mem_append.1 hy with h | h
    · exact (j.qr y h).imp id (up y)
    · rw [List.mem_singleton] at h; subst h; exact .inr ((bm_set hl).2 (.inl rfl))
  · have key : y = x ∨ y = v ∨ bm w y := by
      rcases hy with h | h
      · exact .inr (.inl h)
      · exact ((bm_set hl).1 h).imp id .inr
    rcases key with h | h
    · exact .inl (List.mem_append.2 (.inr (List.mem_singleton.2 h)))
    · rcases j.clo y h with h | h | h
      · exact .inl (List.mem_append.2 (.inl h))
      · exact .inr (.inl h)
      · exact .inr (.inr fun z hz hqz => up z (h z hz hqz))
theorem RJ.close (j : RJ S Q v n w q fun x => x = u) (h : ∀ y ∈ S u, Q y → bm w y) : RJ S Q v n w q fun _ => False :=
  ⟨j.lw, j.qn, j.snd, j.qr, fun x hx => by
    rcases j.clo x hx with h1 | h1 | h1
    · exact .inl h1
    · subst h1; exact .inr (.inr h)
    · exact .inr (.inr h1)⟩
theorem RJ.fin (j : RJ S Q v n w [] fun _ => False) (u : Nat) : bm w u ↔ Rch (fun a b => b ∈ S a) Q v u := by
  refine ⟨j.snd u, fun h => ?_⟩
  have clo : ∀ x, x = v ∨ bm w x → ∀ y ∈ S x, Q y → bm w y := fun x hx => by
    rcases j.clo x hx with h | h | h
    · cases h
    · exact h.elim
    · exact h
  induction h with
  | one h1 h2 => exact clo v (.inl rfl) _ h1 h2
  | more _ h1 h2 ih => exact clo _ (.inr ih) _ h1 h2
end
end Go.Am.Ar
set_option linter.unusedVariables false
set_option linter.unusedSimpArgs false
namespace Go.Am.Ar
def nx (p : Bool) : Int → Int → List Int → Int
  | least, most, [] => if p = true then (if least < 0 then -1 else least + 1) else most + 1
  | least, most, r :: rs => if r < 0 then (if p = true then nx p least most rs else -1) else nx p (if least < 0 then r else if r < least then r else least) (max most r) rs
def rkRow (p : Bool) (S : List Nat) (k : Int) (R : Nat → Int) (v : Nat) : Int := if R v < 0 then (if nx p (-1) (-1) (S.map R) = k then k else R v) else R v
def rk (P : Nat → Bool) (S : Nat → List Nat) (Z : Nat → Bool) : Nat → Nat → Int
  | 0, v => if Z v = true then 0 else -1
  | k + 1, v => rkRow (P v) (S v) ((k + 1 : Nat) : Int) (rk P S Z k) v
section
variable {n : Nat} {P : Nat → Bool} {S : Nat → List Nat} {Z : Nat → Bool}
end
end Go.Am.Ar
set_option linter.unusedVariables false
set_option linter.unusedSimpArgs false
set_option maxRecDepth 10000
namespace Go.Am.Ar
def Sf (su : List (List Int)) (v : Nat) : List Nat := (su.getD v []).map Int.toNat
theorem row_ok {ow pr : List Int} {su : List (List Int)} (V : Valid ow pr su) {v : Nat} (hv : v < ow.length) : su.getD v [] ≠ [] ∧ (su.getD v []).Pairwise (· < ·) ∧ ∀ u ∈ su.getD v [], 0 ≤ u ∧ u < ow.length := by
  have hs := V.s
  have hi : v < su.length := by omega
  obtain ⟨_, _, _, h1, q⟩ := V.row v hi
  have e : su.getD v [] = su[v] := by simp [List.getD, hi]
  obtain ⟨q1, q2⟩ := posM_rise q
  rw [e]
  exact ⟨fun h => by rw [h] at h1; simp at h1, q1, fun u hu => by have := q2 u hu; omega⟩
theorem Sf_ok {ow pr : List Int} {su : List (List Int)} (V : Valid ow pr su) {v : Nat} (hv : v < ow.length) : Sf su v ≠ [] ∧ (∀ u ∈ Sf su v, u < ow.length) ∧ (Sf su v).Nodup := by
  obtain ⟨h1, h2, h3⟩ := row_ok V hv
  refine ⟨fun h => h1 (List.map_eq_nil_iff.1 h), fun u hu => ?_, ?_⟩
  · obtain ⟨w, hw, rfl⟩ := List.mem_map.1 hu
    have := h3 w hw; omega
  · unfold Sf
    refine List.pairwise_map.2 (List.Pairwise.imp_of_mem ?_ h2)
    intro a b ha hb hab e
    have := h3 a ha; have := h3 b hb; omega
end Go.Am.Ar
set_option linter.unusedVariables false
set_option linter.unusedSimpArgs false
set_option maxRecDepth 10000
namespace Go.Am.Ar
open Go.Am renaming pchk → P1, pold → P2, PKNo → P3, ppack → P4, PObj.under → P5, pput → P6, ptset → P7, ptget → P8, pev → P9, ofAV → P10, ofAV1 → P11, ppad → P12, pfill → P13, prepl → P14, AO.effect → P15
open List renaming replicate → L1
open Nat renaming reduceAdd → N1, reduceSub → N2, reduceMul → N3, reduceLT → N4, reduceLeDiff → N5, reduceEqDiff → N6, reduceBEq → N7
open Int renaming reduceToNat → I1, reduceLT → I2, reduceLE → I3, reduceEq → I4, reduceAdd → I5, reduceSub → I6, reduceNeg → I7
abbrev nI (q : List Nat) : List Int := q.map fun (x : Nat) => (x : Int)
def RowsIn (su : List (List Int)) : Prop := su.length < 1000000000000 ∧ ∀ row ∈ su, row.length < 1000000000000 ∧ ∀ x ∈ row, 0 ≤ x ∧ x < su.length
section
variable {tab : FuncId → Option AF} (T : HasA tab)
include T
end
end Go.Am.Ar

