/- Contracts: plays that follow a strategy, and their winners, and what goes with it. -/
import Derived.Test.YtkbdnbmnopmhdaaCertifyRefutesG0
import Derived.Test.YtkbdnbmnopmhdaaPmC
set_option linter.unusedVariables false
set_option linter.unusedSimpArgs false
set_option maxRecDepth 10000
namespace Go.Am.Ar
open Go.Am renaming pchk → P1, pold → P2, PKNo → P3, ppack → P4, PObj.under → P5, pput → P6, ptset → P7, ptget → P8, pev → P9, ofAV → P10, ofAV1 → P11, ppad → P12, pfill → P13, prepl → P14, AO.effect → P15
open List renaming replicate → L1
open Nat renaming reduceAdd → N1, reduceSub → N2, reduceMul → N3, reduceLT → N4, reduceLeDiff → N5, reduceEqDiff → N6, reduceBEq → N7
open Int renaming reduceToNat → I1, reduceLT → I2, reduceLE → I3, reduceEq → I4, reduceAdd → I5, reduceSub → I6, reduceNeg → I7
def idxI (v : Int) : Nat → List Int → Int
  | _, [] => -1
  | k, x :: l => if v = x then (k : Int) else idxI v (k + 1) l
theorem idxI_spec (v : Int) : ∀ (l : List Int) (k : Nat), (v ∉ l ∧ idxI v k l = -1) ∨ ∃ i, l[i]? = some v ∧ v ∉ l.take i ∧ idxI v k l = ((k + i : Nat) : Int)
  | [], k => .inl ⟨by simp, rfl⟩
  | x :: l, k => by
    unfold idxI
    by_cases h : v = x
    · rw [if_pos h]; exact .inr ⟨0, by simp [h], by simp, rfl⟩
    · rw [if_neg h]
      rcases idxI_spec v l (k + 1) with ⟨h1, h2⟩ | ⟨i, h1, h2, h3⟩
      · exact .inl ⟨by simp [h, h1], h2⟩
      · refine .inr ⟨i + 1, by simpa using h1, by simp [h, h2], ?_⟩
        rw [h3]; congr 1; omega
def playL (st : List Int) : Nat → Int → List Int → List Int × List Int
  | 0, _, all => (all, [])
  | n + 1, v, all => if 0 ≤ idxI v 0 all then (all.take (idxI v 0 all).toNat, all.drop (idxI v 0 all).toNat) else playL st n (st.getD v.toNat 0) (all ++ [v])
section
variable {tab : FuncId → Option AF} (T : HasA tab)
include T
theorem index_p {M : Mem} {K : PV → Mem → Prop} {f o : Bool} {xs : List Int} {v : Int} (hm : xs.length < big) (hk : K (p64 (idxI v 0 xs)) M) :
    SemC tab 54 [slI f o .i64 xs, p64 v] M K := by
  refine SemC_pure T.h54 (by simp only [PP, P1, P2, P3, P4, P5, P6, P7, P8, P9, P10, P11, P12, P13, P14, L1, P15, N1, N2, N3, N4, N5, N6, N7, I1, I2, I3, I4, I5, I6, I7, reduceIte, reduceCtorEq]) ?_
  simp only [af54, PP, P1, P2, P3, P4, P5, P6, P7, P8, P9, P10, P11, P12, P13, P14, L1, P15, N1, N2, N3, N4, N5, N6, N7, I1, I2, I3, I4, I5, I6, I7, reduceIte, reduceCtorEq]
  refine loop1 (fun (k : Nat) => k ≤ xs.length ∧ K (p64 (idxI v k (xs.drop k))) M) (fun k => [slI f o .i64 xs, p64 v, .junk, .junk, .junk, .junk, .junk, p64 xs.length, p64 k, .junk, .junk, .junk, .junk, .junk, .junk, .junk, .junk, .junk, .junk]) (fun _ => []) (fun k => xs.length - k) 0 ⟨by omega, hk⟩ (by simp only [PWeak_nil, PWeak_junk, PWeak_same, Int.cast_ofNat_Int, List.length_append, List.length_cons, List.length_nil, Nat.zero_add]) rfl ?_
  intro k ⟨hle, hq⟩ ih
  refine SemW_go (by kernel_rfl) ?_
  simp only [PP, P1, P2, P3, P4, P5, P6, P7, P8, P9, P10, P11, P12, P13, P14, L1, P15, N1, N2, N3, N4, N5, N6, N7, I1, I2, I3, I4, I5, I6, I7, reduceIte, reduceCtorEq]
  refine QIf.intro (fun c => ?_) (fun c => ?_)
  · have hk' : k < xs.length := by omega
    obtain ⟨x, g⟩ := some_of hk'
    rw [drop_some g] at hq
    have hw := wrap_succ (k := k) (by omega)
    have h0 : (0 : Int) ≤ k := by omega
    simp only [PP, P1, P2, P3, P4, P5, P6, P7, P8, P9, P10, P11, P12, P13, P14, L1, P15, N1, N2, N3, N4, N5, N6, N7, I1, I2, I3, I4, I5, I6, I7, reduceIte, reduceCtorEq, idxI, c, g, h0] at hq ⊢
    refine QIf.intro (fun h1 => ?_) (fun h1 => ?_)
    · simp only [PP, P1, P2, P3, P4, P5, P6, P7, P8, P9, P10, P11, P12, P13, P14, L1, P15, N1, N2, N3, N4, N5, N6, N7, I1, I2, I3, I4, I5, I6, I7, reduceIte, reduceCtorEq, h1] at hq ⊢
      exact hq
    simp only [PP, P1, P2, P3, P4, P5, P6, P7, P8, P9, P10, P11, P12, P13, P14, L1, P15, N1, N2, N3, N4, N5, N6, N7, I1, I2, I3, I4, I5, I6, I7, reduceIte, reduceCtorEq, h1] at hq ⊢
    simp only [hw]
    exact SemW_weak (ih (k + 1) ⟨by omega, hq⟩ (by omega)) (by simp only [PWeak_nil, PWeak_junk, PWeak_same, Int.cast_ofNat_Int, List.length_append, List.length_cons, List.length_nil, Nat.zero_add])
  · rw [List.drop_eq_nil_of_le (by omega)] at hq
    simp only [PP, P1, P2, P3, P4, P5, P6, P7, P8, P9, P10, P11, P12, P13, P14, L1, P15, N1, N2, N3, N4, N5, N6, N7, I1, I2, I3, I4, I5, I6, I7, reduceIte, reduceCtorEq, c]
    exact hq
theorem contains_p {M : Mem} {K : PV → Mem → Prop} {f o : Bool} {xs : List Int} {v : Int} (hm : xs.length < big) (hk : K (.bool (decide (v ∈ xs))) M) :
    SemC tab 48 [slI f o .i64 xs, p64 v] M K := by
  refine SemC_pure T.h48 (by simp only [PP, P1, P2, P3, P4, P5, P6, P7, P8, P9, P10, P11, P12, P13, P14, L1, P15, N1, N2, N3, N4, N5, N6, N7, I1, I2, I3, I4, I5, I6, I7, reduceIte, reduceCtorEq]) ?_
  simp only [af48, PP, P1, P2, P3, P4, P5, P6, P7, P8, P9, P10, P11, P12, P13, P14, L1, P15, N1, N2, N3, N4, N5, N6, N7, I1, I2, I3, I4, I5, I6, I7, reduceIte, reduceCtorEq]
  refine index_p T hm ?_
  have e : decide (0 ≤ idxI v 0 xs) = decide (v ∈ xs) := by
    rcases idxI_spec v xs 0 with ⟨h1, h2⟩ | ⟨i, h1, h2, h3⟩
    · rw [h2]; simp [h1]
    · rw [h3]; simp [List.mem_of_getElem? h1]
  simp only [PP, P1, P2, P3, P4, P5, P6, P7, P8, P9, P10, P11, P12, P13, P14, L1, P15, N1, N2, N3, N4, N5, N6, N7, I1, I2, I3, I4, I5, I6, I7, reduceIte, reduceCtorEq, e]
  exact hk
end
end Go.Am.Ar
set_option linter.unusedVariables false
namespace Go.Am.Ar
def itr (f : Nat → Nat) (v : Nat) : Nat → Nat
  | 0 => v
  | j + 1 => f (itr f v j)
theorem itr_lt {f : Nat → Nat} {n v : Nat} (hf : ∀ v, v < n → f v < n) (hv : v < n) : ∀ j, itr f v j < n
  | 0 => hv
  | j + 1 => hf _ (itr_lt hf hv j)
def its (f : Nat → Nat) (v m : Nat) : List Nat := (List.range m).map (itr f v)
theorem its_len (f : Nat → Nat) (v m : Nat) : (its f v m).length = m := by simp [its]
theorem its_get {f : Nat → Nat} {v m j : Nat} (h : j < m) : (its f v m)[j]? = some (itr f v j) := by simp [its, h]
theorem its_succ (f : Nat → Nat) (v m : Nat) : its f v (m + 1) = its f v m ++ [itr f v m] := by simp [its, List.range_succ]
theorem its_mem {f : Nat → Nat} {v m x : Nat} : x ∈ its f v m ↔ ∃ j, j < m ∧ itr f v j = x := by simp [its]
theorem its_lt {f : Nat → Nat} {n v m : Nat} (hf : ∀ v, v < n → f v < n) (hv : v < n) : ∀ x ∈ its f v m, x < n := by
  intro x hx
  obtain ⟨j, _, rfl⟩ := its_mem.1 hx
  exact itr_lt hf hv j
structure IsPlay (f : Nat → Nat) (v n : Nat) (p l : List Int) (m k : Nat) : Prop where
  km : k < m
  mn : m ≤ n
  nd : (its f v m).Nodup
  back : itr f v m = itr f v k
  p : p = natI ((its f v m).take k)
  l : l = natI ((its f v m).drop k)
theorem natI_inj {l : List Nat} {i : Nat} {v : Nat} (h : (natI l)[i]? = some (v : Int)) : l[i]? = some v := by
  rw [List.getElem?_map] at h
  cases h1 : l[i]? with
  | none => rw [h1] at h; cases h
  | some a =>
    rw [h1] at h
    have : (a : Int) = v := by simpa using h
    rw [show a = v by omega]
theorem playL_spec {st : List Int} {f : Nat → Nat} {n v : Nat} (hst : ∀ v, v < n → st[v]? = some ((f v : Nat) : Int)) (hf : ∀ v, v < n → f v < n) (hv : v < n) :
    ∀ (fuel m : Nat), m + fuel = n + 1 → (its f v m).Nodup → ∃ m' k, m ≤ m' ∧ IsPlay f v n (playL st fuel (itr f v m : Nat) (natI (its f v m))).1 (playL st fuel (itr f v m : Nat) (natI (its f v m))).2 m' k
  | 0, m, hm, hnd => by
    have := nodup_lenN n _ hnd (its_lt hf hv)
    rw [its_len] at this
    omega
  | fuel + 1, m, hm, hnd => by
    have hlen := nodup_lenN n _ hnd (its_lt hf hv)
    rw [its_len] at hlen
    unfold playL
    rcases idxI_spec (itr f v m : Nat) (natI (its f v m)) 0 with ⟨h1, h2⟩ | ⟨i, h1, h2, h3⟩
    · rw [h2, if_neg (by omega)]
      have hn : itr f v m ∉ its f v m := fun h => h1 (mem_natI.2 h)
      have e1 : st.getD (itr f v m : Int).toNat 0 = ((itr f v (m + 1) : Nat) : Int) := by
        rw [Int.toNat_natCast, List.getD, hst _ (itr_lt hf hv m)]; rfl
      have e2 : natI (its f v m) ++ [((itr f v m : Nat) : Int)] = natI (its f v (m + 1)) := by rw [its_succ]; simp
      rw [e1, e2]
      have hnd' : (its f v (m + 1)).Nodup := by
        rw [its_succ, List.nodup_append]
        exact ⟨hnd, by simp, fun a ha b hb e => by rw [List.mem_singleton] at hb; subst hb; subst e; exact hn ha⟩
      obtain ⟨m', k, h4, h5⟩ := playL_spec hst hf hv fuel (m + 1) (by omega) hnd'
      exact ⟨m', k, by omega, h5⟩
    · rw [h3, if_pos (by omega)]
      have h1' := natI_inj h1
      have hi := getSome_lt h1'
      rw [its_len] at hi
      rw [its_get hi] at h1'
      refine ⟨m, i, Nat.le_refl _, hi, hlen, hnd, ?_, ?_, ?_⟩
      · simp only [Option.some.injEq] at h1'; exact h1'.symm
      · simp [natI, List.map_take]
      · simp [natI, List.map_drop]
theorem play_spec {st : List Int} {f : Nat → Nat} {n v : Nat} (hst : ∀ v, v < n → st[v]? = some ((f v : Nat) : Int)) (hf : ∀ v, v < n → f v < n) (hv : v < n) :
    ∃ m k, IsPlay f v n (playL st (n + 1) v []).1 (playL st (n + 1) v []).2 m k := by
  obtain ⟨m, k, _, h⟩ := playL_spec hst hf hv (n + 1) 0 (by omega) (by simp [its])
  exact ⟨m, k, h⟩
theorem IsPlay.len {f : Nat → Nat} {n v m k : Nat} {p l : List Int} (h : IsPlay f v n p l m k) : p.length = k ∧ l.length = m - k := by
  rw [h.p, h.l]
  simp [its_len]
  have := h.km
  omega
theorem IsPlay.mem {f : Nat → Nat} {n v m k : Nat} {p l : List Int} (h : IsPlay f v n p l m k) (hf : ∀ v, v < n → f v < n) (hv : v < n) : ∀ x ∈ l, 0 ≤ x ∧ x < n := by
  intro x hx
  rw [h.l] at hx
  obtain ⟨y, hy, rfl⟩ := List.mem_map.1 hx
  have := its_lt hf hv y (List.mem_of_mem_drop hy)
  omega
end Go.Am.Ar
set_option linter.unusedVariables false
namespace Go.Am.Ar
def CycIn (O : Nat → Int) (S : Nat → List Nat) (R : Nat → Int) (p : Int) (W : Nat → Prop) (s : Nat → Nat) : Prop :=
  ∀ (c : Nat → Nat) (k : Nat), 0 < k → (∀ i, c (i + k) = c i) → (∀ i, W (c i)) → (∀ i, c (i + 1) ∈ S (c i)) → (∀ i, O (c i) = p → c (i + 1) = s (c i)) → ∃ j, (∀ i, R (c i) ≤ R (c j)) ∧ R (c j) % 2 = p
structure SolIn (O : Nat → Int) (S : Nat → List Nat) (R : Nat → Int) (D : Nat → Prop) (p : Int) (W : Nat → Prop) (s : Nat → Nat) : Prop where
  sub : ∀ v, W v → D v
  own : ∀ v, W v → O v = p → s v ∈ S v ∧ W (s v)
  opp : ∀ v, W v → ¬ O v = p → ∀ u ∈ S v, D u → W u
  cyc : CycIn O S R p W s
section
variable {O : Nat → Int} {S : Nat → List Nat} {R : Nat → Int} {D : Nat → Prop} {p q : Int}
end
structure IsSol (n : Nat) (O : Nat → Int) (S : Nat → List Nat) (R : Nat → Int) (w : Nat → Int) (s : Nat → Nat) : Prop where
  r01 : ∀ v, v < n → w v = 0 ∨ w v = 1
  p0 : SolIn O S R (fun v => v < n) 0 (fun v => v < n ∧ w v = 0) s
  p1 : SolIn O S R (fun v => v < n) 1 (fun v => v < n ∧ w v = 1) s
theorem IsSol.of {n : Nat} {O : Nat → Int} {S : Nat → List Nat} {R : Nat → Int} {w : Nat → Int} {s : Nat → Nat} (h : IsSol n O S R w s) {p : Int} (hp : p = 0 ∨ p = 1) : SolIn O S R (fun v => v < n) p (fun v => v < n ∧ w v = p) s := by
  rcases hp with rfl | rfl
  · exact h.p0
  · exact h.p1
theorem itr_add (f : Nat → Nat) (v : Nat) : ∀ i j, itr f v (i + j) = itr f (itr f v i) j
  | i, 0 => rfl
  | i, j + 1 => by show f (itr f v (i + j)) = f _; rw [itr_add f v i j]
theorem itr_per {f : Nat → Nat} {v m k : Nat} (hk : k ≤ m) (h : itr f v m = itr f v k) (i : Nat) : itr f v (k + (i + (m - k))) = itr f v (k + i) := by
  rw [show k + (i + (m - k)) = m + i by omega, itr_add, itr_add, h]
theorem orbit {f : Nat → Nat} {n v : Nat} (hf : ∀ v, v < n → f v < n) (hv : v < n) : ∃ m k, k < m ∧ itr f v m = itr f v k := by
  obtain ⟨m, k, h⟩ := play_spec (st := (List.range n).map fun v => ((f v : Nat) : Int)) (f := f) (n := n) (v := v) (fun v hv => by simp [hv]) hf hv
  exact ⟨m, k, h.km, h.back⟩
theorem no_both {O O' : Nat → Int} {S S' : Nat → List Nat} {R R' : Nat → Int} {D D' W W' : Nat → Prop} {p q : Int} {s s' : Nat → Nat} {n : Nat} {ph : Nat → Nat} (a : SolIn O S R D p W s) (b : SolIn O' S' R' D' q W' s') (hpq : p ≠ q)
    (hn : ∀ v, W' v → v < n) (hR : ∀ v, W' v → R' v = R (ph v))
    (hst : ∀ u, W (ph u) → W' u → ∃ u', ph u' ∈ S (ph u) ∧ u' ∈ S' u ∧ D (ph u') ∧ D' u' ∧ (O (ph u) = p → ph u' = s (ph u)) ∧ (O' u = q → u' = s' u)) {v : Nat} (h1 : W (ph v)) (h2 : W' v) : False := by
  classical
  have hst' : ∀ u, ∃ u', W (ph u) → W' u → ph u' ∈ S (ph u) ∧ u' ∈ S' u ∧ D (ph u') ∧ D' u' ∧ (O (ph u) = p → ph u' = s (ph u)) ∧ (O' u = q → u' = s' u) := fun u => by
    by_cases h : W (ph u) ∧ W' u
    · obtain ⟨u', h'⟩ := hst u h.1 h.2
      exact ⟨u', fun _ _ => h'⟩
    · exact ⟨0, fun q1 q2 => absurd ⟨q1, q2⟩ h⟩
  let f : Nat → Nat := fun u => Classical.choose (hst' u)
  have hf : ∀ u, W (ph u) → W' u → ph (f u) ∈ S (ph u) ∧ f u ∈ S' u ∧ D (ph (f u)) ∧ D' (f u) ∧ (O (ph u) = p → ph (f u) = s (ph u)) ∧ (O' u = q → f u = s' u) := fun u => Classical.choose_spec (hst' u)
  have inv : ∀ i, W (ph (itr f v i)) ∧ W' (itr f v i) := by
    intro i
    induction i with
    | zero => exact ⟨h1, h2⟩
    | succ i ih =>
      obtain ⟨q1, q2, q3, q4, q5, q6⟩ := hf _ ih.1 ih.2
      constructor
      · show W (ph (f _))
        by_cases ho : O (ph (itr f v i)) = p
        · rw [q5 ho]; exact (a.own _ ih.1 ho).2
        · exact a.opp _ ih.1 ho _ q1 q3
      · show W' (f _)
        by_cases ho : O' (itr f v i) = q
        · rw [q6 ho]; exact (b.own _ ih.2 ho).2
        · exact b.opp _ ih.2 ho _ q2 q4
  -- the orbit is a cycle in the end
  let f' : Nat → Nat := fun u => if W (ph u) ∧ W' u then f u else u
  have ff : ∀ i, itr f' v i = itr f v i := by
    intro i
    induction i with
    | zero => rfl
    | succ i ih => show f' _ = f _; rw [ih]; show (if _ then _ else _) = _; rw [if_pos (inv i)]
  have hf' : ∀ u, u < n → f' u < n := fun u hu => by
    show (if _ then _ else _) < n
    split
    · rename_i h
      obtain ⟨q1, q2, q3, q4, q5, q6⟩ := hf u h.1 h.2
      have : W' (f u) := by
        by_cases ho : O' u = q
        · rw [q6 ho]; exact (b.own _ h.2 ho).2
        · exact b.opp _ h.2 ho _ q2 q4
      exact hn _ this
    · exact hu
  obtain ⟨m, k, hkm, hback⟩ := orbit hf' (hn v h2)
  rw [ff, ff] at hback
  have hper := itr_per (by omega) hback
  obtain ⟨j, j1, j2⟩ := a.cyc (fun i => ph (itr f v (k + i))) (m - k) (by omega) (fun i => by show ph _ = ph _; rw [hper i]) (fun i => (inv _).1) (fun i => (hf _ (inv (k + i)).1 (inv (k + i)).2).1) (fun i => (hf _ (inv (k + i)).1 (inv (k + i)).2).2.2.2.2.1)
  obtain ⟨j', j3, j4⟩ := b.cyc (fun i => itr f v (k + i)) (m - k) (by omega) hper (fun i => (inv _).2) (fun i => (hf _ (inv (k + i)).1 (inv (k + i)).2).2.1) (fun i => (hf _ (inv (k + i)).1 (inv (k + i)).2).2.2.2.2.2)
  have e1 := j1 j'
  have e2 := j3 j
  rw [hR _ (inv _).2, hR _ (inv _).2] at e2
  rw [hR _ (inv _).2] at j4
  apply hpq
  rw [← j2, ← j4]
  congr 1
  omega
theorem IsSol.unique {n : Nat} {O : Nat → Int} {S : Nat → List Nat} {R : Nat → Int} {w w' : Nat → Int} {s s' : Nat → Nat} (hO : ∀ v, v < n → O v = 0 ∨ O v = 1) (hS : ∀ v, v < n → ∀ u ∈ S v, u < n) (h : IsSol n O S R w s) (h' : IsSol n O S R w' s') : ∀ v, v < n → w v = w' v := by
  have key : ∀ (p q : Int), (p = 0 ∨ p = 1) → (q = 0 ∨ q = 1) → p ≠ q → ∀ v, v < n → w v = p → w' v = q → False := by
    intro p q hp hq hpq v hv h1 h2
    refine no_both (h.of hp) (h'.of hq) hpq (n := n) (ph := id) (fun v h => h.1) (fun v _ => rfl) (fun u hu hu' => ?_) (v := v) ⟨hv, h1⟩ ⟨hv, h2⟩
    simp only [id] at hu ⊢
    by_cases ho : O u = p
    · obtain ⟨q1, q2⟩ := (h.of hp).own u hu ho
      exact ⟨s u, q1, q1, q2.1, q2.1, fun _ => rfl, fun e => absurd (ho.symm.trans e) hpq⟩
    · have hoq : O u = q := by have := hO u hu.1; omega
      obtain ⟨q1, q2⟩ := (h'.of hq).own u hu' hoq
      exact ⟨s' u, q1, q1, q2.1, q2.1, fun e => absurd e ho, fun _ => rfl⟩
  intro v hv
  have h1 := h.r01 v hv
  have h2 := h'.r01 v hv
  rcases h1 with e1 | e1 <;> rcases h2 with e2 | e2
  · rw [e1, e2]
  · exact (key 0 1 (.inl rfl) (.inr rfl) (by omega) v hv e1 e2).elim
  · exact (key 1 0 (.inr rfl) (.inl rfl) (by omega) v hv e1 e2).elim
  · rw [e1, e2]
end Go.Am.Ar
set_option linter.unusedVariables false
namespace Go.Am.Ar
theorem IsSol.into {n n' : Nat} {O O' : Nat → Int} {S S' : Nat → List Nat} {R R' : Nat → Int} {w w' : Nat → Int} {s s' : Nat → Nat} {ph : Nat → Nat} {p q : Int} (h : IsSol n O S R w s) (h' : IsSol n' O' S' R' w' s') (hp : p = 0 ∨ p = 1) (hq : q = 1 - p)
    (hR : ∀ v, v < n' → R' v = R (ph v))
    (hst : ∀ u, (ph u < n ∧ w (ph u) = p) → (u < n' ∧ w' u = q) → ∃ u', ph u' ∈ S (ph u) ∧ u' ∈ S' u ∧ ph u' < n ∧ u' < n' ∧ (O (ph u) = p → ph u' = s (ph u)) ∧ (O' u = q → u' = s' u)) {v : Nat} (h1 : ph v < n) (h2 : v < n') (h3 : w (ph v) = p) : w' v = p := by
  refine Classical.byContradiction fun hn => ?_
  have h4 : w' v = q := by have := h'.r01 v h2; omega
  exact no_both (h.of hp) (h'.of (p := q) (by omega)) (by omega) (n := n') (fun v h => h.1) (fun v h => hR v h.1) hst (v := v) ⟨h1, h3⟩ ⟨h2, h4⟩
theorem IsSol.more {n : Nat} {O : Nat → Int} {S S' : Nat → List Nat} {R : Nat → Int} {w w' : Nat → Int} {s s' : Nat → Nat} {p : Int} {at' : Nat} (hO : ∀ v, v < n → O v = 0 ∨ O v = 1) (h : IsSol n O S R w s) (h' : IsSol n O S' R w' s') (hp : p = 0 ∨ p = 1)
    (ha : O at' = p) (hS : ∀ v, v < n → ∀ u ∈ S v, u ∈ S' v) (hS' : ∀ v, v < n → v ≠ at' → S' v = S v) : ∀ v, v < n → w v = p → w' v = p := by
  intro v hv hw
  refine IsSol.into (ph := id) h h' hp rfl (fun _ _ => rfl) (fun u hu hu' => ?_) hv hv hw
  simp only [id] at hu ⊢
  by_cases ho : O u = p
  · obtain ⟨q1, q2⟩ := (h.of hp).own u hu ho
    exact ⟨s u, q1, hS u hu.1 _ q1, q2.1, q2.1, fun _ => rfl, fun e => by omega⟩
  · have hoq : O u = 1 - p := by have := hO u hu.1; omega
    obtain ⟨q1, q2⟩ := (h'.of (p := 1 - p) (by omega)).own u hu' hoq
    have hua : u ≠ at' := by rintro rfl; exact ho ha
    exact ⟨s' u, by rw [hS' u hu.1 hua] at q1; exact q1, q1, q2.1, q2.1, fun e => absurd e ho, fun _ => rfl⟩
end Go.Am.Ar
set_option linter.unusedVariables false
namespace Go.Am.Ar
theorem SolIn.loop {n : Nat} {O : Nat → Int} {S : Nat → List Nat} {R : Nat → Int} {W : Nat → Prop} {s f : Nat → Nat} {p : Int} {v m k : Nat} (a : SolIn O S R (fun v => v < n) p W s) (hv : W v) (hf : ∀ u, u < n → f u ∈ S u ∧ f u < n) (hs : ∀ u, W u → O u = p → f u = s u) (hkm : k < m) (hback : itr f v m = itr f v k) :
    (∀ i, W (itr f v i)) ∧ ∃ j, (∀ i, R (itr f v (k + i)) ≤ R (itr f v (k + j))) ∧ R (itr f v (k + j)) % 2 = p := by
  have inv : ∀ i, W (itr f v i) := by
    intro i
    induction i with
    | zero => exact hv
    | succ i ih =>
      show W (f _)
      have hn := a.sub _ ih
      by_cases ho : O (itr f v i) = p
      · rw [hs _ ih ho]; exact (a.own _ ih ho).2
      · exact a.opp _ ih ho _ (hf _ hn).1 (hf _ hn).2
  have hper := itr_per (by omega) hback
  exact ⟨inv, a.cyc (fun i => itr f v (k + i)) (m - k) (by omega) hper (fun i => inv _) (fun i => (hf _ (a.sub _ (inv _))).1) (fun i ho => hs _ (inv _) ho)⟩
end Go.Am.Ar
set_option linter.unusedVariables false
namespace Go.Am.Ar
inductive Rch (E : Nat → Nat → Prop) (Q : Nat → Prop) (v : Nat) : Nat → Prop
  | one {u : Nat} : E v u → Q u → Rch E Q v u
  | more {u x : Nat} : Rch E Q v u → E u x → Q x → Rch E Q v x
def Bad (E : Nat → Nat → Prop) (R : Nat → Int) (p : Int) (u : Nat) : Prop := R u % 2 ≠ p ∧ Rch E (fun x => R x ≤ R u) u u
def Lost (E : Nat → Nat → Prop) (R : Nat → Int) (p : Int) (v : Nat) : Prop := Bad E R p v ∨ ∃ u, Bad E R p u ∧ Rch E (fun _ => True) v u
theorem Rch.list {E : Nat → Nat → Prop} {Q : Nat → Prop} {v u : Nat} (h : Rch E Q v u) : ∃ (k : Nat) (c : Nat → Nat), c 0 = v ∧ c (k + 1) = u ∧ ∀ i, i ≤ k → E (c i) (c (i + 1)) ∧ Q (c (i + 1)) := by
  induction h with
  | @one u h1 h2 => exact ⟨0, fun i => if i = 0 then v else u, rfl, rfl, fun i hi => by have : i = 0 := by omega
                                                                                        subst this; exact ⟨h1, h2⟩⟩
  | @more u x _ h1 h2 ih =>
    obtain ⟨k, c, e1, e2, e3⟩ := ih
    refine ⟨k + 1, fun i => if i ≤ k + 1 then c i else x, by simp [e1], by show (if _ then _ else _) = _; rw [if_neg (by omega)], fun i hi => ?_⟩
    by_cases q : i ≤ k
    · simp only [show i ≤ k + 1 by omega, show i + 1 ≤ k + 1 by omega, if_true]
      exact e3 i q
    · have : i = k + 1 := by omega
      subst this
      simp only [Nat.le_refl, if_true, show ¬ k + 1 + 1 ≤ k + 1 by omega, if_false, e2]
      exact ⟨h1, h2⟩
theorem Rch.mono {E E' : Nat → Nat → Prop} {Q Q' : Nat → Prop} {v u : Nat} (h : Rch E Q v u) (hE : ∀ a b, E a b → E' a b) (hQ : ∀ a, Q a → Q' a) : Rch E' Q' v u := by
  induction h with
  | one h1 h2 => exact .one (hE _ _ h1) (hQ _ h2)
  | more _ h1 h2 ih => exact .more ih (hE _ _ h1) (hQ _ h2)
theorem Rch.inv {E : Nat → Nat → Prop} {Q P : Nat → Prop} {v u : Nat} (h : Rch E Q v u) (h0 : P v) (hP : ∀ a b, P a → E a b → P b) : P u := by
  induction h with
  | one h1 _ => exact hP _ _ h0 h1
  | more _ h1 _ ih => exact hP _ _ ih h1
end Go.Am.Ar
set_option linter.unusedVariables false
namespace Go.Am.Ar
def bm (L : List Bool) (v : Nat) : Prop := L[v]? = some true
instance (L : List Bool) (v : Nat) : Decidable (bm L v) := by unfold bm; infer_instance
def stN (st : List Int) (v : Nat) : Nat := (st.getD v 0).toNat
theorem bm_lt {L : List Bool} {v : Nat} (h : bm L v) : v < L.length := getSome_lt h
theorem bm_of {L : List Bool} {v : Nat} {b : Bool} (h : L[v]? = some b) : bm L v ↔ b = true := by
  unfold bm; rw [h]; simp
theorem bm_set {L : List Bool} {v w : Nat} (hv : v < L.length) : bm (L.set v true) w ↔ w = v ∨ bm L w := by
  unfold bm
  by_cases e : w = v
  · subst e; simp [hv]
  · rw [List.getElem?_set_ne (by omega)]; simp [e]
theorem count_add {L : List Bool} {v : Nat} (h : L[v]? = some false) : (L.set v true).count true = L.count true + 1 := by
  have hv := getSome_lt h
  rw [List.getElem?_eq_getElem hv] at h
  have h : L[v] = false := by simpa using h
  rw [List.count_set hv, h]
  simp
section
variable {O : Nat → Int} {S : Nat → List Nat} {D X : Nat → Prop} {p : Int} {s0 : Nat → Nat} {n : Nat} {out : List Bool} {st : List Int} {r : Nat → Nat} {c : Nat}
end
end Go.Am.Ar
set_option linter.unusedVariables false
namespace Go.Am.Ar
structure RJ (S : Nat → List Nat) (Q : Nat → Prop) (v n : Nat) (w : List Bool) (q : List Nat) (C : Nat → Prop) : Prop where
  lw : w.length = n
  qn : ∀ x ∈ q, x < n
  snd : ∀ u, bm w u → Rch (fun a b => b ∈ S a) Q v u
  qr : ∀ x ∈ q, x = v ∨ bm w x
  clo : ∀ x, x = v ∨ bm w x → x ∈ q ∨ C x ∨ ∀ y ∈ S x, Q y → bm w y
section
variable {S : Nat → List Nat} {Q : Nat → Prop} {v n : Nat} {w : List Bool} {q : List Nat} {C : Nat → Prop} {u x : Nat}
theorem RJ.start (hv : v < n) : RJ S Q v n (List.replicate n false) [v] fun _ => False := by
  have no : ∀ u, ¬ bm (List.replicate n false) u := fun u h => by
    unfold bm at h
    rw [List.getElem?_replicate] at h
    split at h <;> cases h
  refine ⟨by simp, fun x hx => ?_, fun u h => absurd h (no u), fun x hx => ?_, fun x hx => ?_⟩
  · rw [List.mem_singleton] at hx; subst hx; exact hv
  · exact .inl (List.mem_singleton.1 hx)
  · exact .inl (List.mem_singleton.2 (hx.resolve_right (no x)))
theorem RJ.pop (j : RJ S Q v n w (u :: q) fun _ => False) : RJ S Q v n w q fun x => x = u :=
  ⟨j.lw, fun x hx => j.qn x (List.mem_cons_of_mem _ hx), j.snd, fun x hx => j.qr x (List.mem_cons_of_mem _ hx), fun x hx => by
    rcases j.clo x hx with h | h | h
    · rcases List.mem_cons.1 h with e | h
      · exact .inr (.inl e)
      · exact .inl h
    · exact h.elim
    · exact .inr (.inr h)⟩
theorem RJ.push (j : RJ S Q v n w q C) (hu : u = v ∨ bm w u) (hx : x ∈ S u) (hq : Q x) (hn : x < n) : RJ S Q v n (w.set x true) (q ++ [x]) C := by
  have hl : x < w.length := by rw [j.lw]; exact hn
  have up : ∀ y, bm w y → bm (w.set x true) y := fun y h => (bm_set hl).2 (.inr h)
  refine ⟨by simp [j.lw], fun y hy => ?_, fun y hy => ?_, fun y hy => ?_, fun y hy => ?_⟩
  · rcases List.mem_append.1 hy with h | h
    · exact j.qn y h
    · rw [List.mem_singleton] at h; subst h; exact hn
  · rcases (bm_set hl).1 hy with h | h
    · subst h
      rcases hu with h | h
      · subst h; exact .one hx hq
      · exact .more (j.snd _ h) hx hq
    · exact j.snd y h
  · rcases List.mem_append.1 hy with h | h
    · exact (j.qr y h).imp id (up y)
    · rw [List.mem_singleton] at h; subst h; exact .inr ((bm_set hl).2 (.inl rfl))
  · have key : y = x ∨ y = v ∨ bm w y := by
      rcases hy with h | h
      · exact .inr (.inl h)
      · exact ((bm_set hl).1 h).imp id .inr
    rcases key with h | h
    · exact .inl (List.mem_append.2 (.inr (List.mem_singleton.2 h)))
    · rcases j.clo y h with h | h | h
      · exact .inl (List.mem_append.2 (.inl h))
      · exact .inr (.inl h)
      · exact .inr (.inr fun z hz hqz => up z (h z hz hqz))
theorem RJ.close (j : RJ S Q v n w q fun x => x = u) (h : ∀ y ∈ S u, Q y → bm w y) : RJ S Q v n w q fun _ => False :=
  ⟨j.lw, j.qn, j.snd, j.qr, fun x hx => by
    rcases j.clo x hx with h1 | h1 | h1
    · exact .inl h1
    · subst h1; exact .inr (.inr h)
    · exact .inr (.inr h1)⟩
theorem RJ.fin (j : RJ S Q v n w [] fun _ => False) (u : Nat) : bm w u ↔ Rch (fun a b => b ∈ S a) Q v u := by
  refine ⟨j.snd u, fun h => ?_⟩
  have clo : ∀ x, x = v ∨ bm w x → ∀ y ∈ S x, Q y → bm w y := fun x hx => by
    rcases j.clo x hx with h | h | h
    · cases h
    · exact h.elim
    · exact h
  induction h with
  | one h1 h2 => exact clo v (.inl rfl) _ h1 h2
  | more _ h1 h2 ih => exact clo _ (.inr ih) _ h1 h2
end
end Go.Am.Ar
set_option linter.unusedVariables false
set_option linter.unusedSimpArgs false
namespace Go.Am.Ar
def nx (p : Bool) : Int → Int → List Int → Int
  | least, most, [] => if p = true then (if least < 0 then -1 else least + 1) else most + 1
  | least, most, r :: rs => if r < 0 then (if p = true then nx p least most rs else -1) else nx p (if least < 0 then r else if r < least then r else least) (max most r) rs
section
variable {n : Nat} {P : Nat → Bool} {S : Nat → List Nat} {Z : Nat → Bool}
end
end Go.Am.Ar
set_option linter.unusedVariables false
set_option linter.unusedSimpArgs false
set_option maxRecDepth 10000
namespace Go.Am.Ar
def Sf (su : List (List Int)) (v : Nat) : List Nat := (su.getD v []).map Int.toNat
theorem row_ok {ow pr : List Int} {su : List (List Int)} (V : Valid ow pr su) {v : Nat} (hv : v < ow.length) : su.getD v [] ≠ [] ∧ (su.getD v []).Pairwise (· < ·) ∧ ∀ u ∈ su.getD v [], 0 ≤ u ∧ u < ow.length := by
  have hs := V.s
  have hi : v < su.length := by omega
  obtain ⟨_, _, _, h1, q⟩ := V.row v hi
  have e : su.getD v [] = su[v] := by simp [List.getD, hi]
  obtain ⟨q1, q2⟩ := posM_rise q
  rw [e]
  exact ⟨fun h => by rw [h] at h1; simp at h1, q1, fun u hu => by have := q2 u hu; omega⟩
theorem Sf_ok {ow pr : List Int} {su : List (List Int)} (V : Valid ow pr su) {v : Nat} (hv : v < ow.length) : Sf su v ≠ [] ∧ (∀ u ∈ Sf su v, u < ow.length) ∧ (Sf su v).Nodup := by
  obtain ⟨h1, h2, h3⟩ := row_ok V hv
  refine ⟨fun h => h1 (List.map_eq_nil_iff.1 h), fun u hu => ?_, ?_⟩
  · obtain ⟨w, hw, rfl⟩ := List.mem_map.1 hu
    have := h3 w hw; omega
  · unfold Sf
    refine List.pairwise_map.2 (List.Pairwise.imp_of_mem ?_ h2)
    intro a b ha hb hab e
    have := h3 a ha; have := h3 b hb; omega
end Go.Am.Ar
set_option linter.unusedVariables false
set_option linter.unusedSimpArgs false
set_option maxRecDepth 10000
namespace Go.Am.Ar
open Go.Am renaming pchk → P1, pold → P2, PKNo → P3, ppack → P4, PObj.under → P5, pput → P6, ptset → P7, ptget → P8, pev → P9, ofAV → P10, ofAV1 → P11, ppad → P12, pfill → P13, prepl → P14, AO.effect → P15
open List renaming replicate → L1
open Nat renaming reduceAdd → N1, reduceSub → N2, reduceMul → N3, reduceLT → N4, reduceLeDiff → N5, reduceEqDiff → N6, reduceBEq → N7
open Int renaming reduceToNat → I1, reduceLT → I2, reduceLE → I3, reduceEq → I4, reduceAdd → I5, reduceSub → I6, reduceNeg → I7
abbrev nI (q : List Nat) : List Int := q.map fun (x : Nat) => (x : Int)
def RowsIn (su : List (List Int)) : Prop := su.length < 1000000000000 ∧ ∀ row ∈ su, row.length < 1000000000000 ∧ ∀ x ∈ row, 0 ≤ x ∧ x < su.length
section
variable {tab : FuncId → Option AF} (T : HasA tab)
include T
theorem reach_p {M : Mem} {K : PV → Mem → Prop} {f1 o1 f2 o2 f3 o3 : Bool} {su : List (List Int)} {bs : List Bool} {v : Nat} (R : RowsIn su) (hb : bs.length = su.length) (hv : v < su.length)
    (hk : ∀ w, w.length = su.length → (∀ u, bm w u ↔ Rch (fun a b => b ∈ Sf su a) (bm bs) v u) → K (slB false true w) M) :
    SemC tab 74 [slR f1 o1 f2 o2 .i64 su, slB f3 o3 bs, p64 v] M K := by
  obtain ⟨hn, hr⟩ := R
  refine SemC_pureS T.h74 (by simp only [PP, P1, P2, P3, P4, P5, P6, P7, P8, P9, P10, P11, P12, P13, P14, L1, P15, N1, N2, N3, N4, N5, N6, N7, I1, I2, I3, I4, I5, I6, I7, reduceIte, reduceCtorEq]) ?_
  simp only [af74]
  have b0 : (0 : Int) ≤ su.length := by omega
  have b1 : (su.length : Int) * 1 ≤ 140737488355328 := by omega
  have b2 : (su.length : Int) ≤ 9223372036854775807 := by omega
  refine SemW_seq (SemW_of ?_)
  simp only [PP, P1, P2, P3, P4, P5, P6, P7, P8, P9, P10, P11, P12, P13, P14, L1, P15, N1, N2, N3, N4, N5, N6, N7, I1, I2, I3, I4, I5, I6, I7, reduceIte, reduceCtorEq]
  refine SemW_seq (SemW_of ?_)
  simp only [PP, P1, P2, P3, P4, P5, P6, P7, P8, P9, P10, P11, P12, P13, P14, L1, P15, N1, N2, N3, N4, N5, N6, N7, I1, I2, I3, I4, I5, I6, I7, reduceIte, reduceCtorEq, b0, b1, b2, Int.le_refl]
  refine SemW_seq (SemW_lit ?_)
  simp only [PP, P1, P2, P3, P4, P5, P6, P7, P8, P9, P10, P11, P12, P13, P14, L1, P15, N1, N2, N3, N4, N5, N6, N7, I1, I2, I3, I4, I5, I6, I7, reduceIte, reduceCtorEq]
  refine ⟨_, rfl, ?_⟩
  have row : ∀ u, u < su.length → ∃ r, su[u]? = some r ∧ Sf su u = r.map Int.toNat ∧ r.length < 1000000000000 ∧ ∀ x ∈ r, 0 ≤ x ∧ x < su.length := fun u hu => by
    obtain ⟨r, g⟩ := some_of hu
    refine ⟨r, g, ?_, hr r (List.mem_of_getElem? g)⟩
    unfold Sf; rw [List.getD, g]; rfl
  refine SemW_seq (SemW_of ?_)
  simp only [PP, P1, P2, P3, P4, P5, P6, P7, P8, P9, P10, P11, P12, P13, P14, L1, P15, N1, N2, N3, N4, N5, N6, N7, I1, I2, I3, I4, I5, I6, I7, reduceIte, reduceCtorEq]
  refine loop6 (fun (g v2 off : Nat) (cs : List Nat) (ver : Nat) (w : List Bool) => off ≤ cs.length ∧ (cs.drop off).length ≤ w.count true + 1 ∧ RJ (Sf su) (bm bs) v su.length w (cs.drop off) fun _ => False)
    (fun g v2 off cs ver w => [slR f1 o1 f2 o2 .i64 su, slB f3 o3 bs, .junk, .junk, .junk, .junk, .junk, .ref 0 0 1 0 su.length, .ref 1 g 1 off (cs.length - off), .junk, .junk, .junk, .junk, .junk, .junk, .junk, .junk, .junk, .junk, .junk, .junk, .junk, .junk, .junk, .junk, .junk, .junk, .junk, .junk, .junk, .junk, .junk, .junk, .junk, .junk, .junk, .junk, .junk, .junk, .junk, .junk, .junk, .junk, .junk, .junk, .junk, .junk, .junk, .junk, .junk, .junk, .junk, .junk, .junk, .junk, .junk, .junk, .junk, .junk, .junk])
    (fun g v2 off cs ver w => [.cells 0 ver (w.map PV.bool), .cells g v2 ((nI cs).map (PV.int .i64))])
    (fun g v2 off cs ver w => (su.length - w.count true) + (cs.length - off)) 0 0 0 [v] 0 (List.replicate su.length false) ⟨by simp, by simp, RJ.start hv⟩ (by simp only [PWeak_nil, PWeak_junk, PWeak_same, Int.cast_ofNat_Int, List.length_append, List.length_cons, List.length_nil, Nat.zero_add]) (by simp only [List.map_replicate]; rfl) ?_
  intro g v2 off cs ver w ⟨hle, hql, j⟩ ih
  refine SemW_go (by kernel_rfl) ?_
  simp only [PP, P1, P2, P3, P4, P5, P6, P7, P8, P9, P10, P11, P12, P13, P14, L1, P15, N1, N2, N3, N4, N5, N6, N7, I1, I2, I3, I4, I5, I6, I7, reduceIte, reduceCtorEq]
  refine QIf.intro (fun c => ?_) (fun c => ?_)
  · have hlt : off < cs.length := by omega
    obtain ⟨u, gu⟩ := some_of (xs := cs) (k := off) hlt
    have hd : cs.drop off = u :: cs.drop (off + 1) := by
      rw [List.drop_eq_getElem_cons hlt]; rw [List.getElem?_eq_getElem hlt] at gu; cases gu; rfl
    rw [hd] at j hql
    have hu : u < su.length := j.qn u (List.mem_cons_self ..)
    have hum := j.qr u (List.mem_cons_self ..)
    obtain ⟨r, gr, er, hrl, hrx⟩ := row u hu
    have u0 : (0 : Int) ≤ u := by omega
    have u1 : (u : Int) < su.length := by omega
    have k1 : (0 : Int) < ((cs.length - off : Nat) : Int) := by omega
    have k2 : (1 : Int) ≤ ((cs.length - off : Nat) : Int) := by omega
    have k3 : (((cs.length - off : Nat) : Int) - 1).toNat = cs.length - (off + 1) := by omega
    simp only [PP, P1, P2, P3, P4, P5, P6, P7, P8, P9, P10, P11, P12, P13, P14, L1, P15, N1, N2, N3, N4, N5, N6, N7, I1, I2, I3, I4, I5, I6, I7, reduceIte, reduceCtorEq, c, gu, k1, k2, k3, Int.le_refl]
    have hj0 : RJ (Sf su) (bm bs) v su.length w (cs.drop (off + 1)) (fun x => x = u) := j.pop
    refine loop7 (fun (g' v2' off' : Nat) (cs' : List Nat) (ver' : Nat) (w' : List Bool) (i : Nat) => off' ≤ cs'.length ∧ (cs'.drop off').length ≤ w'.count true ∧ RJ (Sf su) (bm bs) v su.length w' (cs'.drop off') (fun x => x = u) ∧ (u = v ∨ bm w' u) ∧ i ≤ r.length ∧ (∀ k, k < i → ∀ x, r[k]? = some x → bm bs x.toNat → bm w' x.toNat) ∧ (su.length - w'.count true) + (cs'.length - off') < (su.length - w.count true) + (cs.length - off))
      (fun g' v2' off' cs' ver' w' i => [slR f1 o1 f2 o2 .i64 su, slB f3 o3 bs, .junk, .junk, .junk, .junk, .junk, .ref 0 0 1 0 su.length, .ref 1 g' 1 off' (cs'.length - off'), p64 u, p64 i, .junk, .junk, .junk, .junk, .junk, .junk, .junk, .junk, .junk, .junk, .junk, .junk, .junk, .junk, .junk, .junk, .junk, .junk, .junk, .junk, .junk, .junk, .junk, .junk, .junk, .junk, .junk, .junk, .junk, .junk, .junk, .junk, .junk, .junk, .junk, .junk, .junk, .junk, .junk, .junk, .junk, .junk, .junk, .junk, .junk, .junk, .junk, .junk, .junk])
      (fun g' v2' off' cs' ver' w' i => [.cells 0 ver' (w'.map PV.bool), .cells g' v2' ((nI cs').map (PV.int .i64))])
      (fun g' v2' off' cs' ver' w' i => r.length - i) g v2 (off + 1) cs ver w 0 ⟨by omega, by simpa using hql, hj0, hum, by omega, (fun k hk => by omega), by omega⟩ (by simp only [PWeak_nil, PWeak_junk, PWeak_same, Int.cast_ofNat_Int, List.length_append, List.length_cons, List.length_nil, Nat.zero_add]) rfl ?_
    intro g' v2' off' cs' ver' w' i ⟨hle', hql', j', hum', hi, hdone, hmea⟩ ih2
    refine SemW_go (by kernel_rfl) ?_
    simp only [PP, P1, P2, P3, P4, P5, P6, P7, P8, P9, P10, P11, P12, P13, P14, L1, P15, N1, N2, N3, N4, N5, N6, N7, I1, I2, I3, I4, I5, I6, I7, reduceIte, reduceCtorEq, u0, u1, gr]
    refine QIf.intro (fun d => ?_) (fun d => ?_)
    · have hi' : i < r.length := by omega
      obtain ⟨x, gx⟩ := some_of (xs := r) (k := i) hi'
      have hx := hrx x (List.mem_of_getElem? gx)
      obtain ⟨a, rfl⟩ : ∃ a : Nat, x = a := ⟨x.toNat, by omega⟩
      have ha : a < su.length := by omega
      have a0 : (0 : Int) ≤ a := by omega
      have a1 : (a : Int) < su.length := by omega
      have i0 : (0 : Int) ≤ i := by omega
      have i1 : (i : Int) < r.length := by omega
      have hwk := wrap_succ (k := i) (by show _ < 1000000000000; omega)
      have hS : a ∈ Sf su u := by rw [er]; exact List.mem_map.2 ⟨_, List.mem_of_getElem? gx, by simp⟩
      obtain ⟨y, gy⟩ := some_of (xs := bs) (k := a) (by omega)
      have lw' := j'.lw
      obtain ⟨z, gz⟩ := some_of (xs := w') (k := a) (by omega)
      have stay : (bm bs a → bm w' a) → ∀ k, k < i + 1 → ∀ x, r[k]? = some x → bm bs x.toNat → bm w' x.toNat := fun h k hk x hx hb => by
        by_cases e : k = i
        · subst e; rw [gx] at hx; cases hx; exact h hb
        · exact hdone k (by omega) x hx hb
      cases y with
      | false =>
        simp only [PP, P1, P2, P3, P4, P5, P6, P7, P8, P9, P10, P11, P12, P13, P14, L1, P15, N1, N2, N3, N4, N5, N6, N7, I1, I2, I3, I4, I5, I6, I7, reduceIte, reduceCtorEq, d, u0, u1, gr, gx, i0, i1, a0, a1, hb, gy, hwk]
        exact SemW_weak (ih2 g' v2' off' cs' ver' w' (i + 1) ⟨hle', hql', j', hum', hi', stay (fun h => by rw [bm_of gy] at h; cases h), hmea⟩ (by omega)) (by simp only [PWeak_nil, PWeak_junk, PWeak_same, Int.cast_ofNat_Int, List.length_append, List.length_cons, List.length_nil, Nat.zero_add])
      | true =>
        cases z with
        | true =>
          simp only [PP, P1, P2, P3, P4, P5, P6, P7, P8, P9, P10, P11, P12, P13, P14, L1, P15, N1, N2, N3, N4, N5, N6, N7, I1, I2, I3, I4, I5, I6, I7, reduceIte, reduceCtorEq, d, u0, u1, gr, gx, i0, i1, a0, a1, hb, gy, gz, lw', hwk]
          exact SemW_weak (ih2 g' v2' off' cs' ver' w' (i + 1) ⟨hle', hql', j', hum', hi', stay (fun h => gz), hmea⟩ (by omega)) (by simp only [PWeak_nil, PWeak_junk, PWeak_same, Int.cast_ofNat_Int, List.length_append, List.length_cons, List.length_nil, Nat.zero_add])
        | false =>
          simp only [PP, P1, P2, P3, P4, P5, P6, P7, P8, P9, P10, P11, P12, P13, P14, L1, P15, N1, N2, N3, N4, N5, N6, N7, I1, I2, I3, I4, I5, I6, I7, reduceIte, reduceCtorEq, d, u0, u1, gr, gx, i0, i1, a0, a1, hb, gy, gz, lw', hwk]
          have nb : ¬ bm w' a := fun h => by rw [bm_of gz] at h; cases h
          have hc1 := count_add gz
          have hc2 : w'.count true ≤ w'.length := List.count_le_length
          have hc3 : (w'.set a true).count true ≤ (w'.set a true).length := List.count_le_length
          rw [List.length_set] at hc3
          rw [List.length_drop] at hql'
          have hal : a < w'.length := by omega
          refine ⟨by omega, ⟨by omega, by omega, by omega⟩, ?_⟩
          rw [show cs'.length - off' + 1 = (cs'.drop off' ++ [a]).length - 0 by simp]
          refine SemW_to (ih2 (g' + 1) 0 0 (cs'.drop off' ++ [a]) (ver' + 1) (w'.set a true) (i + 1) ⟨by omega, by simp; omega, j'.push hum' hS ((bm_of gy).2 rfl) ha, hum'.imp id fun h => (bm_set hal).2 (.inr h), hi', fun k hk x hx hb => ?_, by simp; omega⟩ (by omega)) (by simp only [PWeak_nil, PWeak_junk, PWeak_same, Int.cast_ofNat_Int, List.length_append, List.length_cons, List.length_nil, Nat.zero_add]) (by simp [psub, List.map_set, List.map_drop, List.take_of_length_le])
          by_cases e : k = i
          · subst e; rw [gx] at hx; cases hx; exact (bm_set hal).2 (.inl (by simp))
          · exact (bm_set hal).2 (.inr (hdone k (by omega) x hx hb))
    · have hir : i = r.length := by omega
      simp only [PP, P1, P2, P3, P4, P5, P6, P7, P8, P9, P10, P11, P12, P13, P14, L1, P15, N1, N2, N3, N4, N5, N6, N7, I1, I2, I3, I4, I5, I6, I7, reduceIte, reduceCtorEq, d]
      refine SemW_weak (ih g' v2' off' cs' ver' w' ⟨hle', by omega, j'.close fun y hy hq => ?_⟩ hmea) (by simp only [PWeak_nil, PWeak_junk, PWeak_same, Int.cast_ofNat_Int, List.length_append, List.length_cons, List.length_nil, Nat.zero_add])
      rw [er] at hy
      obtain ⟨x, hx, rfl⟩ := List.mem_map.1 hy
      obtain ⟨k, hk, e⟩ := List.mem_iff_getElem.1 hx
      exact hdone k (by omega) x (by rw [List.getElem?_eq_getElem hk, e]) hq
  · have hd : cs.drop off = [] := List.drop_eq_nil_of_le (by omega)
    rw [hd] at j
    have lw := j.lw
    simp only [PP, P1, P2, P3, P4, P5, P6, P7, P8, P9, P10, P11, P12, P13, P14, L1, P15, N1, N2, N3, N4, N5, N6, N7, I1, I2, I3, I4, I5, I6, I7, reduceIte, reduceCtorEq, c]
    refine SemW_of ?_
    simp only [PP, P1, P2, P3, P4, P5, P6, P7, P8, P9, P10, P11, P12, P13, P14, L1, P15, N1, N2, N3, N4, N5, N6, N7, I1, I2, I3, I4, I5, I6, I7, reduceIte, reduceCtorEq, ← lw]
    exact hk w lw j.fin
end
end Go.Am.Ar

