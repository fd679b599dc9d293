/- Plain law: parity games. Solutions, the two steps of the recursive algorithm, and that winners are unique, and what goes with it. -/
import Derived.Test.YtanhmigakclecaaZielonkaMatchesG0
import Derived.Test.YtanhmigakclecaaPmC
set_option linter.unusedVariables false
namespace Go.Am.Ar
def CycIn (O : Nat → Int) (S : Nat → List Nat) (R : Nat → Int) (p : Int) (W : Nat → Prop) (s : Nat → Nat) : Prop :=
  ∀ (c : Nat → Nat) (k : Nat), 0 < k → (∀ i, c (i + k) = c i) → (∀ i, W (c i)) → (∀ i, c (i + 1) ∈ S (c i)) → (∀ i, O (c i) = p → c (i + 1) = s (c i)) → ∃ j, (∀ i, R (c i) ≤ R (c j)) ∧ R (c j) % 2 = p
structure SolIn (O : Nat → Int) (S : Nat → List Nat) (R : Nat → Int) (D : Nat → Prop) (p : Int) (W : Nat → Prop) (s : Nat → Nat) : Prop where
  sub : ∀ v, W v → D v
  own : ∀ v, W v → O v = p → s v ∈ S v ∧ W (s v)
  opp : ∀ v, W v → ¬ O v = p → ∀ u ∈ S v, D u → W u
  cyc : CycIn O S R p W s
structure AttIn (O : Nat → Int) (S : Nat → List Nat) (D : Nat → Prop) (p : Int) (X A : Nat → Prop) (s0 s : Nat → Nat) (r : Nat → Nat) : Prop where
  sub : ∀ v, A v → D v
  tgt : ∀ v, X v → A v
  own : ∀ v, A v → ¬ X v → O v = p → s v ∈ S v ∧ A (s v) ∧ r (s v) < r v
  opp : ∀ v, A v → ¬ X v → ¬ O v = p → ∀ u ∈ S v, D u → A u ∧ r u < r v
  same : ∀ v, ¬ A v ∨ X v → s v = s0 v
  clo : ∀ v, D v → ¬ A v → O v = p → ∀ u ∈ S v, ¬ A u
  clp : ∀ v, D v → ¬ A v → ¬ O v = p → ∃ u ∈ S v, D u ∧ ¬ A u
theorem per_mul {c : Nat → Nat} {k : Nat} (h : ∀ i, c (i + k) = c i) (i : Nat) : ∀ m, c (i + m * k) = c i
  | 0 => by simp
  | m + 1 => by rw [Nat.succ_mul, ← Nat.add_assoc, h, per_mul h i m]
theorem per_all {c : Nat → Nat} {k : Nat} (hk : 0 < k) (h : ∀ i, c (i + k) = c i) {P : Nat → Prop} (hs : ∀ i, P (c i) → P (c (i + 1))) {i0 : Nat} (h0 : P (c i0)) : ∀ i, P (c i) := by
  have fw : ∀ d, P (c (i0 + d)) := by
    intro d
    induction d with
    | zero => exact h0
    | succ d ih => exact hs _ ih
  intro i
  rw [← per_mul h i i0]
  have : i0 ≤ i0 * k := Nat.le_mul_of_pos_right _ hk
  obtain ⟨d, hd⟩ : ∃ d, i + i0 * k = i0 + d := ⟨i + i0 * k - i0, by omega⟩
  rw [hd]; exact fw d
theorem no_fall {c : Nat → Nat} {r : Nat → Nat} (h : ∀ i, r (c (i + 1)) < r (c i)) : False := by
  have : ∀ i, r (c i) + i ≤ r (c 0) := by
    intro i
    induction i with
    | zero => exact Nat.le_refl _
    | succ i ih => have := h i; omega
  have := this (r (c 0) + 1)
  omega
section
variable {O : Nat → Int} {S : Nat → List Nat} {R : Nat → Int} {D : Nat → Prop} {p q : Int}
theorem AttIn.tot {X A : Nat → Prop} {s0 s : Nat → Nat} {r : Nat → Nat} (a : AttIn O S D p X A s0 s r) (ht : ∀ v, D v → ∃ u ∈ S v, D u) : ∀ v, D v ∧ ¬ A v → ∃ u ∈ S v, D u ∧ ¬ A u := by
  intro v ⟨hv, hn⟩
  by_cases h : O v = p
  · obtain ⟨u, hu, hd⟩ := ht v hv
    exact ⟨u, hu, hd, a.clo v hv hn h u hu⟩
  · exact a.clp v hv hn h
theorem zk_one {X A : Nat → Prop} {s0 s1 s2 s3 : Nat → Nat} {r : Nat → Nat} {top : Int} (a : AttIn O S D p X A s0 s1 r) (hX : ∀ v, X v ↔ D v ∧ R v = top) (hm : ∀ v, D v → R v ≤ top) (hp : top % 2 = p)
    (sub : SolIn O S R (fun v => D v ∧ ¬ A v) p (fun v => D v ∧ ¬ A v) s2) (h2 : ∀ v, ¬ (D v ∧ ¬ A v) → s2 v = s1 v) (h3 : ∀ v, X v → O v = p → s3 v ∈ S v ∧ D (s3 v)) (h3' : ∀ v, ¬ X v → s3 v = s2 v) : SolIn O S R D p D s3 := by
  have own : ∀ v, D v → O v = p → s3 v ∈ S v ∧ D (s3 v) := by
    intro v hv ho
    by_cases hx : X v
    · exact h3 v hx ho
    · rw [h3' v hx]
      by_cases ha : A v
      · rw [h2 v (fun h => h.2 ha)]
        obtain ⟨q1, q2, _⟩ := a.own v ha hx ho
        exact ⟨q1, a.sub _ q2⟩
      · obtain ⟨q1, q2⟩ := sub.own v ⟨hv, ha⟩ ho
        exact ⟨q1, q2.1⟩
  refine ⟨fun _ h => h, own, fun v _ _ u _ h => h, fun c k hk hper hW hS hs => ?_⟩
  by_cases hx : ∃ i, X (c i)
  · obtain ⟨i, hi⟩ := hx
    have := (hX _).1 hi
    exact ⟨i, fun j => by rw [this.2]; exact hm _ (hW j), by rw [this.2]; exact hp⟩
  · have hx : ∀ i, ¬ X (c i) := fun i h => hx ⟨i, h⟩
    by_cases ha : ∃ i, A (c i)
    · exfalso
      obtain ⟨i, hi⟩ := ha
      have step : ∀ i, A (c i) → A (c (i + 1)) ∧ r (c (i + 1)) < r (c i) := fun i hi => by
        by_cases ho : O (c i) = p
        · rw [hs i ho, h3' _ (hx i), h2 _ (fun h => h.2 hi)]
          exact (a.own _ hi (hx i) ho).2
        · exact a.opp _ hi (hx i) ho _ (hS i) (hW _)
      have hall := per_all hk hper (P := A) (fun i h => (step i h).1) hi
      exact no_fall (c := c) (r := r) fun i => (step i (hall i)).2
    · have ha : ∀ i, ¬ A (c i) := fun i h => ha ⟨i, h⟩
      exact sub.cyc c k hk hper (fun i => ⟨hW i, ha i⟩) hS fun i ho => by rw [hs i ho, h3' _ (hx i)]
theorem zk_two {X A W L Wp Wq : Nat → Prop} {s0 s1 s2 s3 s4 : Nat → Nat} {r r2 : Nat → Nat} (hpq : p ≠ q) (hO : ∀ v, D v → O v = p ∨ O v = q) (a : AttIn O S D p X A s0 s1 r)
    (sub : SolIn O S R (fun v => D v ∧ ¬ A v) q W s2) (b : AttIn O S D q W L s2 s3 r2)
    (subp : SolIn O S R (fun v => D v ∧ ¬ L v) p Wp s4) (subq : SolIn O S R (fun v => D v ∧ ¬ L v) q Wq s4) (h4 : ∀ v, ¬ (D v ∧ ¬ L v) → s4 v = s3 v) :
    SolIn O S R D p Wp s4 ∧ SolIn O S R D q (fun v => Wq v ∨ L v) s4 := by
  have wclo : ∀ v, W v → ¬ O v = q → ∀ u ∈ S v, D u → W u := fun v hv ho u hu hd => by
    have hDA := sub.sub v hv
    have hp : O v = p := (hO v hDA.1).resolve_right ho
    exact sub.opp v hv ho u hu ⟨hd, a.clo v hDA.1 hDA.2 hp u hu⟩
  have lown : ∀ v, L v → O v = q → s4 v ∈ S v ∧ L (s4 v) := fun v hv ho => by
    rw [h4 v (fun h => h.2 hv)]
    by_cases hw : W v
    · rw [b.same v (.inr hw)]
      obtain ⟨q1, q2⟩ := sub.own v hw ho
      exact ⟨q1, b.tgt _ q2⟩
    · obtain ⟨q1, q2, _⟩ := b.own v hv hw ho
      exact ⟨q1, q2⟩
  have lopp : ∀ v, L v → ¬ O v = q → ∀ u ∈ S v, D u → L u := fun v hv ho u hu hd => by
    by_cases hw : W v
    · exact b.tgt _ (wclo v hw ho u hu hd)
    · exact (b.opp v hv hw ho u hu hd).1
  constructor
  · refine ⟨fun v h => (subp.sub v h).1, subp.own, fun v hv ho u hu hd => ?_, subp.cyc⟩
    have hDL := subp.sub v hv
    exact subp.opp v hv ho u hu ⟨hd, b.clo v hDL.1 hDL.2 ((hO v hDL.1).resolve_left ho) u hu⟩
  · have hsub : ∀ v, Wq v ∨ L v → D v := fun v h => h.elim (fun h => (subq.sub v h).1) (b.sub v)
    refine ⟨hsub, fun v hv ho => ?_, fun v hv ho u hu hd => ?_, fun c k hk hper hW hS hs => ?_⟩
    · rcases hv with hv | hv
      · obtain ⟨q1, q2⟩ := subq.own v hv ho
        exact ⟨q1, .inl q2⟩
      · obtain ⟨q1, q2⟩ := lown v hv ho
        exact ⟨q1, .inr q2⟩
    · rcases hv with hv | hv
      · by_cases hl : L u
        · exact .inr hl
        · exact .inl (subq.opp v hv ho u hu ⟨hd, hl⟩)
      · exact .inr (lopp v hv ho u hu hd)
    · by_cases hl : ∃ i, L (c i)
      · obtain ⟨i, hi⟩ := hl
        have hall := per_all hk hper (P := L) (fun i h => by
          by_cases ho : O (c i) = q
          · rw [hs i ho]; exact (lown _ h ho).2
          · exact lopp _ h ho _ (hS i) (hsub _ (hW _))) hi
        by_cases hw : ∃ i, W (c i)
        · obtain ⟨i, hi⟩ := hw
          have s42 : ∀ v, W v → s4 v = s2 v := fun v hv => by rw [h4 v (fun h => h.2 (b.tgt v hv)), b.same v (.inr hv)]
          have hallw := per_all hk hper (P := W) (fun i h => by
            by_cases ho : O (c i) = q
            · rw [hs i ho, s42 _ h]; exact (sub.own _ h ho).2
            · exact wclo _ h ho _ (hS i) (hsub _ (hW _))) hi
          exact sub.cyc c k hk hper hallw hS fun i ho => by rw [hs i ho, s42 _ (hallw i)]
        · exfalso
          have hw : ∀ i, ¬ W (c i) := fun i h => hw ⟨i, h⟩
          refine no_fall (c := c) (r := r2) fun i => ?_
          by_cases ho : O (c i) = q
          · rw [hs i ho, h4 _ (fun h => h.2 (hall i))]
            exact (b.own _ (hall i) (hw i) ho).2.2
          · exact (b.opp _ (hall i) (hw i) ho _ (hS i) (hsub _ (hW _))).2
      · have hl : ∀ i, ¬ L (c i) := fun i h => hl ⟨i, h⟩
        exact subq.cyc c k hk hper (fun i => (hW i).resolve_right (hl i)) hS hs
end
structure IsSol (n : Nat) (O : Nat → Int) (S : Nat → List Nat) (R : Nat → Int) (w : Nat → Int) (s : Nat → Nat) : Prop where
  r01 : ∀ v, v < n → w v = 0 ∨ w v = 1
  p0 : SolIn O S R (fun v => v < n) 0 (fun v => v < n ∧ w v = 0) s
  p1 : SolIn O S R (fun v => v < n) 1 (fun v => v < n ∧ w v = 1) s
theorem IsSol.of {n : Nat} {O : Nat → Int} {S : Nat → List Nat} {R : Nat → Int} {w : Nat → Int} {s : Nat → Nat} (h : IsSol n O S R w s) {p : Int} (hp : p = 0 ∨ p = 1) : SolIn O S R (fun v => v < n) p (fun v => v < n ∧ w v = p) s := by
  rcases hp with rfl | rfl
  · exact h.p0
  · exact h.p1
theorem itr_add (f : Nat → Nat) (v : Nat) : ∀ i j, itr f v (i + j) = itr f (itr f v i) j
  | i, 0 => rfl
  | i, j + 1 => by show f (itr f v (i + j)) = f _; rw [itr_add f v i j]
theorem itr_per {f : Nat → Nat} {v m k : Nat} (hk : k ≤ m) (h : itr f v m = itr f v k) (i : Nat) : itr f v (k + (i + (m - k))) = itr f v (k + i) := by
  rw [show k + (i + (m - k)) = m + i by omega, itr_add, itr_add, h]
theorem orbit {f : Nat → Nat} {n v : Nat} (hf : ∀ v, v < n → f v < n) (hv : v < n) : ∃ m k, k < m ∧ itr f v m = itr f v k := by
  obtain ⟨m, k, h⟩ := play_spec (st := (List.range n).map fun v => ((f v : Nat) : Int)) (f := f) (n := n) (v := v) (fun v hv => by simp [hv]) hf hv
  exact ⟨m, k, h.km, h.back⟩
theorem no_both {O O' : Nat → Int} {S S' : Nat → List Nat} {R R' : Nat → Int} {D D' W W' : Nat → Prop} {p q : Int} {s s' : Nat → Nat} {n : Nat} {ph : Nat → Nat} (a : SolIn O S R D p W s) (b : SolIn O' S' R' D' q W' s') (hpq : p ≠ q)
    (hn : ∀ v, W' v → v < n) (hR : ∀ v, W' v → R' v = R (ph v))
    (hst : ∀ u, W (ph u) → W' u → ∃ u', ph u' ∈ S (ph u) ∧ u' ∈ S' u ∧ D (ph u') ∧ D' u' ∧ (O (ph u) = p → ph u' = s (ph u)) ∧ (O' u = q → u' = s' u)) {v : Nat} (h1 : W (ph v)) (h2 : W' v) : False := by
  classical
  have hst' : ∀ u, ∃ u', W (ph u) → W' u → ph u' ∈ S (ph u) ∧ u' ∈ S' u ∧ D (ph u') ∧ D' u' ∧ (O (ph u) = p → ph u' = s (ph u)) ∧ (O' u = q → u' = s' u) := fun u => by
    by_cases h : W (ph u) ∧ W' u
    · obtain ⟨u', h'⟩ := hst u h.1 h.2
      exact ⟨u', fun _ _ => h'⟩
    · exact ⟨0, fun q1 q2 => absurd ⟨q1, q2⟩ h⟩
  let f : Nat → Nat := fun u => Classical.choose (hst' u)
  have hf : ∀ u, W (ph u) → W' u → ph (f u) ∈ S (ph u) ∧ f u ∈ S' u ∧ D (ph (f u)) ∧ D' (f u) ∧ (O (ph u) = p → ph (f u) = s (ph u)) ∧ (O' u = q → f u = s' u) := fun u => Classical.choose_spec (hst' u)
  have inv : ∀ i, W (ph (itr f v i)) ∧ W' (itr f v i) := by
    intro i
    induction i with
    | zero => exact ⟨h1, h2⟩
    | succ i ih =>
      obtain ⟨q1, q2, q3, q4, q5, q6⟩ := hf _ ih.1 ih.2
      constructor
      · show W (ph (f _))
        by_cases ho : O (ph (itr f v i)) = p
        · rw [q5 ho]; exact (a.own _ ih.1 ho).2
        · exact a.opp _ ih.1 ho _ q1 q3
      · show W' (f _)
        by_cases ho : O' (itr f v i) = q
        · rw [q6 ho]; exact (b.own _ ih.2 ho).2
        · exact b.opp _ ih.2 ho _ q2 q4
  -- the orbit is a cycle in the end
  let f' : Nat → Nat := fun u => if W (ph u) ∧ W' u then f u else u
  have ff : ∀ i, itr f' v i = itr f v i := by
    intro i
    induction i with
    | zero => rfl
    | succ i ih => show f' _ = f _; rw [ih]; show (if _ then _ else _) = _; rw [if_pos (inv i)]
  have hf' : ∀ u, u < n → f' u < n := fun u hu => by
    show (if _ then _ else _) < n
    split
    · rename_i h
      obtain ⟨q1, q2, q3, q4, q5, q6⟩ := hf u h.1 h.2
      have : W' (f u) := by
        by_cases ho : O' u = q
        · rw [q6 ho]; exact (b.own _ h.2 ho).2
        · exact b.opp _ h.2 ho _ q2 q4
      exact hn _ this
    · exact hu
  obtain ⟨m, k, hkm, hback⟩ := orbit hf' (hn v h2)
  rw [ff, ff] at hback
  have hper := itr_per (by omega) hback
  obtain ⟨j, j1, j2⟩ := a.cyc (fun i => ph (itr f v (k + i))) (m - k) (by omega) (fun i => by show ph _ = ph _; rw [hper i]) (fun i => (inv _).1) (fun i => (hf _ (inv (k + i)).1 (inv (k + i)).2).1) (fun i => (hf _ (inv (k + i)).1 (inv (k + i)).2).2.2.2.2.1)
  obtain ⟨j', j3, j4⟩ := b.cyc (fun i => itr f v (k + i)) (m - k) (by omega) hper (fun i => (inv _).2) (fun i => (hf _ (inv (k + i)).1 (inv (k + i)).2).2.1) (fun i => (hf _ (inv (k + i)).1 (inv (k + i)).2).2.2.2.2.2)
  have e1 := j1 j'
  have e2 := j3 j
  rw [hR _ (inv _).2, hR _ (inv _).2] at e2
  rw [hR _ (inv _).2] at j4
  apply hpq
  rw [← j2, ← j4]
  congr 1
  omega
theorem IsSol.unique {n : Nat} {O : Nat → Int} {S : Nat → List Nat} {R : Nat → Int} {w w' : Nat → Int} {s s' : Nat → Nat} (hO : ∀ v, v < n → O v = 0 ∨ O v = 1) (hS : ∀ v, v < n → ∀ u ∈ S v, u < n) (h : IsSol n O S R w s) (h' : IsSol n O S R w' s') : ∀ v, v < n → w v = w' v := by
  have key : ∀ (p q : Int), (p = 0 ∨ p = 1) → (q = 0 ∨ q = 1) → p ≠ q → ∀ v, v < n → w v = p → w' v = q → False := by
    intro p q hp hq hpq v hv h1 h2
    refine no_both (h.of hp) (h'.of hq) hpq (n := n) (ph := id) (fun v h => h.1) (fun v _ => rfl) (fun u hu hu' => ?_) (v := v) ⟨hv, h1⟩ ⟨hv, h2⟩
    simp only [id] at hu ⊢
    by_cases ho : O u = p
    · obtain ⟨q1, q2⟩ := (h.of hp).own u hu ho
      exact ⟨s u, q1, q1, q2.1, q2.1, fun _ => rfl, fun e => absurd (ho.symm.trans e) hpq⟩
    · have hoq : O u = q := by have := hO u hu.1; omega
      obtain ⟨q1, q2⟩ := (h'.of hq).own u hu' hoq
      exact ⟨s' u, q1, q1, q2.1, q2.1, fun e => absurd e ho, fun _ => rfl⟩
  intro v hv
  have h1 := h.r01 v hv
  have h2 := h'.r01 v hv
  rcases h1 with e1 | e1 <;> rcases h2 with e2 | e2
  · rw [e1, e2]
  · exact (key 0 1 (.inl rfl) (.inr rfl) (by omega) v hv e1 e2).elim
  · exact (key 1 0 (.inr rfl) (.inl rfl) (by omega) v hv e1 e2).elim
  · rw [e1, e2]
end Go.Am.Ar
set_option linter.unusedVariables false
namespace Go.Am.Ar
theorem IsSol.into {n n' : Nat} {O O' : Nat → Int} {S S' : Nat → List Nat} {R R' : Nat → Int} {w w' : Nat → Int} {s s' : Nat → Nat} {ph : Nat → Nat} {p q : Int} (h : IsSol n O S R w s) (h' : IsSol n' O' S' R' w' s') (hp : p = 0 ∨ p = 1) (hq : q = 1 - p)
    (hR : ∀ v, v < n' → R' v = R (ph v))
    (hst : ∀ u, (ph u < n ∧ w (ph u) = p) → (u < n' ∧ w' u = q) → ∃ u', ph u' ∈ S (ph u) ∧ u' ∈ S' u ∧ ph u' < n ∧ u' < n' ∧ (O (ph u) = p → ph u' = s (ph u)) ∧ (O' u = q → u' = s' u)) {v : Nat} (h1 : ph v < n) (h2 : v < n') (h3 : w (ph v) = p) : w' v = p := by
  refine Classical.byContradiction fun hn => ?_
  have h4 : w' v = q := by have := h'.r01 v h2; omega
  exact no_both (h.of hp) (h'.of (p := q) (by omega)) (by omega) (n := n') (fun v h => h.1) (fun v h => hR v h.1) hst (v := v) ⟨h1, h3⟩ ⟨h2, h4⟩
theorem IsSol.given {n : Nat} {O O' : Nat → Int} {S : Nat → List Nat} {R : Nat → Int} {w w' : Nat → Int} {s s' : Nat → Nat} {p : Int} {at' : Nat} (hO : ∀ v, v < n → O v = 0 ∨ O v = 1) (hS : ∀ v, v < n → S v ≠ [] ∧ ∀ u ∈ S v, u < n) (h : IsSol n O S R w s) (h' : IsSol n O' S R w' s') (hp : p = 0 ∨ p = 1)
    (ha : O' at' = p) (hO' : ∀ v, v < n → v ≠ at' → O' v = O v) : ∀ v, v < n → w v = p → w' v = p := by
  intro v hv hw
  refine IsSol.into (ph := id) h h' hp rfl (fun _ _ => rfl) (fun u hu hu' => ?_) hv hv hw
  simp only [id] at hu ⊢
  by_cases ho : O u = p
  · obtain ⟨q1, q2⟩ := (h.of hp).own u hu ho
    refine ⟨s u, q1, q1, q2.1, q2.1, fun _ => rfl, fun e => ?_⟩
    by_cases hua : u = at'
    · subst hua; omega
    · rw [hO' u hu.1 hua] at e; omega
  · by_cases hua : u = at'
    · cases hs : S u with
      | nil => exact absurd hs (hS u hu.1).1
      | cons x l =>
        have hx : x ∈ S u := by rw [hs]; simp
        exact ⟨x, by simp, by simp, (hS u hu.1).2 x hx, (hS u hu.1).2 x hx, fun e => absurd e ho, fun e => by subst hua; omega⟩
    · have hoq : O' u = 1 - p := by rw [hO' u hu.1 hua]; have := hO u hu.1; omega
      obtain ⟨q1, q2⟩ := (h'.of (p := 1 - p) (by omega)).own u hu' hoq
      exact ⟨s' u, q1, q1, q2.1, q2.1, fun e => absurd e ho, fun _ => rfl⟩
theorem IsSol.more {n : Nat} {O : Nat → Int} {S S' : Nat → List Nat} {R : Nat → Int} {w w' : Nat → Int} {s s' : Nat → Nat} {p : Int} {at' : Nat} (hO : ∀ v, v < n → O v = 0 ∨ O v = 1) (h : IsSol n O S R w s) (h' : IsSol n O S' R w' s') (hp : p = 0 ∨ p = 1)
    (ha : O at' = p) (hS : ∀ v, v < n → ∀ u ∈ S v, u ∈ S' v) (hS' : ∀ v, v < n → v ≠ at' → S' v = S v) : ∀ v, v < n → w v = p → w' v = p := by
  intro v hv hw
  refine IsSol.into (ph := id) h h' hp rfl (fun _ _ => rfl) (fun u hu hu' => ?_) hv hv hw
  simp only [id] at hu ⊢
  by_cases ho : O u = p
  · obtain ⟨q1, q2⟩ := (h.of hp).own u hu ho
    exact ⟨s u, q1, hS u hu.1 _ q1, q2.1, q2.1, fun _ => rfl, fun e => by omega⟩
  · have hoq : O u = 1 - p := by have := hO u hu.1; omega
    obtain ⟨q1, q2⟩ := (h'.of (p := 1 - p) (by omega)).own u hu' hoq
    have hua : u ≠ at' := by rintro rfl; exact ho ha
    exact ⟨s' u, by rw [hS' u hu.1 hua] at q1; exact q1, q1, q2.1, q2.1, fun e => absurd e ho, fun _ => rfl⟩
theorem par_succ {x p : Int} (hp : p = 0 ∨ p = 1) : (x + 1) % 2 = 1 - p ↔ x % 2 = p := by omega
theorem IsSol.dual {n : Nat} {O O' : Nat → Int} {S : Nat → List Nat} {R R' : Nat → Int} {w : Nat → Int} {s : Nat → Nat} (hS : ∀ v, v < n → ∀ u ∈ S v, u < n) (hO : ∀ v, v < n → O' v = 1 - O v) (hR : ∀ v, v < n → R' v = R v + 1) (h : IsSol n O S R w s) : IsSol n O' S R' (fun v => 1 - w v) s := by
  have key : ∀ p : Int, (p = 0 ∨ p = 1) → SolIn O' S R' (fun v => v < n) (1 - p) (fun v => v < n ∧ 1 - w v = 1 - p) s := fun p hp => by
    have a := h.of hp
    have hw : ∀ v, (v < n ∧ 1 - w v = 1 - p) ↔ (v < n ∧ w v = p) := fun v => ⟨fun h => ⟨h.1, by omega⟩, fun h => ⟨h.1, by omega⟩⟩
    refine ⟨fun v h => h.1, fun v hv ho => ?_, fun v hv ho u hu hd => ?_, fun c k hk hper hW hSc hs => ?_⟩
    · obtain ⟨q1, q2⟩ := a.own v ((hw v).1 hv) (by have := hO v hv.1; omega)
      exact ⟨q1, (hw _).2 q2⟩
    · exact (hw u).2 (a.opp v ((hw v).1 hv) (by have := hO v hv.1; omega) u hu hd)
    · obtain ⟨j, h1, h2⟩ := a.cyc c k hk hper (fun i => (hw _).1 (hW i)) hSc fun i ho => hs i (by have := hO (c i) (hW i).1; omega)
      refine ⟨j, fun i => ?_, ?_⟩
      · rw [hR _ (hW i).1, hR _ (hW j).1]; have := h1 i; omega
      · rw [hR _ (hW j).1]; exact (par_succ hp).2 h2
  exact ⟨fun v hv => by have := h.r01 v hv; omega, key 1 (.inr rfl), key 0 (.inl rfl)⟩
end Go.Am.Ar
set_option linter.unusedVariables false
namespace Go.Am.Ar
theorem SolIn.loop {n : Nat} {O : Nat → Int} {S : Nat → List Nat} {R : Nat → Int} {W : Nat → Prop} {s f : Nat → Nat} {p : Int} {v m k : Nat} (a : SolIn O S R (fun v => v < n) p W s) (hv : W v) (hf : ∀ u, u < n → f u ∈ S u ∧ f u < n) (hs : ∀ u, W u → O u = p → f u = s u) (hkm : k < m) (hback : itr f v m = itr f v k) :
    (∀ i, W (itr f v i)) ∧ ∃ j, (∀ i, R (itr f v (k + i)) ≤ R (itr f v (k + j))) ∧ R (itr f v (k + j)) % 2 = p := by
  have inv : ∀ i, W (itr f v i) := by
    intro i
    induction i with
    | zero => exact hv
    | succ i ih =>
      show W (f _)
      have hn := a.sub _ ih
      by_cases ho : O (itr f v i) = p
      · rw [hs _ ih ho]; exact (a.own _ ih ho).2
      · exact a.opp _ ih ho _ (hf _ hn).1 (hf _ hn).2
  have hper := itr_per (by omega) hback
  exact ⟨inv, a.cyc (fun i => itr f v (k + i)) (m - k) (by omega) hper (fun i => inv _) (fun i => (hf _ (a.sub _ (inv _))).1) (fun i ho => hs _ (inv _) ho)⟩
end Go.Am.Ar
set_option linter.unusedVariables false
namespace Go.Am.Ar
inductive Rch (E : Nat → Nat → Prop) (Q : Nat → Prop) (v : Nat) : Nat → Prop
  | one {u : Nat} : E v u → Q u → Rch E Q v u
  | more {u x : Nat} : Rch E Q v u → E u x → Q x → Rch E Q v x
def Bad (E : Nat → Nat → Prop) (R : Nat → Int) (p : Int) (u : Nat) : Prop := R u % 2 ≠ p ∧ Rch E (fun x => R x ≤ R u) u u
def Lost (E : Nat → Nat → Prop) (R : Nat → Int) (p : Int) (v : Nat) : Prop := Bad E R p v ∨ ∃ u, Bad E R p u ∧ Rch E (fun _ => True) v u
theorem Rch.list {E : Nat → Nat → Prop} {Q : Nat → Prop} {v u : Nat} (h : Rch E Q v u) : ∃ (k : Nat) (c : Nat → Nat), c 0 = v ∧ c (k + 1) = u ∧ ∀ i, i ≤ k → E (c i) (c (i + 1)) ∧ Q (c (i + 1)) := by
  induction h with
  | @one u h1 h2 => exact ⟨0, fun i => if i = 0 then v else u, rfl, rfl, fun i hi => by have : i = 0 := by omega
                                                                                        subst this; exact ⟨h1, h2⟩⟩
  | @more u x _ h1 h2 ih =>
    obtain ⟨k, c, e1, e2, e3⟩ := ih
    refine ⟨k + 1, fun i => if i ≤ k + 1 then c i else x, by simp [e1], by show (if _ then _ else _) = _; rw [if_neg (by omega)], fun i hi => ?_⟩
    by_cases q : i ≤ k
    · simp only [show i ≤ k + 1 by omega, show i + 1 ≤ k + 1 by omega, if_true]
      exact e3 i q
    · have : i = k + 1 := by omega
      subst this
      simp only [Nat.le_refl, if_true, show ¬ k + 1 + 1 ≤ k + 1 by omega, if_false, e2]
      exact ⟨h1, h2⟩
theorem Rch.mono {E E' : Nat → Nat → Prop} {Q Q' : Nat → Prop} {v u : Nat} (h : Rch E Q v u) (hE : ∀ a b, E a b → E' a b) (hQ : ∀ a, Q a → Q' a) : Rch E' Q' v u := by
  induction h with
  | one h1 h2 => exact .one (hE _ _ h1) (hQ _ h2)
  | more _ h1 h2 ih => exact .more ih (hE _ _ h1) (hQ _ h2)
theorem Rch.inv {E : Nat → Nat → Prop} {Q P : Nat → Prop} {v u : Nat} (h : Rch E Q v u) (h0 : P v) (hP : ∀ a b, P a → E a b → P b) : P u := by
  induction h with
  | one h1 _ => exact hP _ _ h0 h1
  | more _ h1 _ ih => exact hP _ _ ih h1
theorem cyc_of {u k : Nat} {c : Nat → Nat} (h1 : c (k + 1) = c 0) (E : Nat → Nat → Prop) (hE : ∀ i, i ≤ k → E (c i) (c (i + 1))) : ∀ i, E (c (i % (k + 1))) (c ((i + 1) % (k + 1))) := by
  intro i
  have hi : i % (k + 1) < k + 1 := Nat.mod_lt _ (by omega)
  by_cases q : i % (k + 1) = k
  · have : (i + 1) % (k + 1) = 0 := by
      rw [Nat.add_mod, q]
      by_cases hk : k = 0
      · subst hk; rfl
      · rw [Nat.mod_eq_of_lt (a := 1) (by omega)]; simp
    rw [this, q, ← h1]; exact hE k (Nat.le_refl _)
  · have : (i + 1) % (k + 1) = i % (k + 1) + 1 := by
      rw [Nat.add_mod]
      by_cases hk : k = 0
      · subst hk; omega
      · rw [Nat.mod_eq_of_lt (a := 1) (by omega), Nat.mod_eq_of_lt (by omega)]
    rw [this]; exact hE _ (by omega)
theorem SolIn.safe {n : Nat} {O : Nat → Int} {S : Nat → List Nat} {R : Nat → Int} {W : Nat → Prop} {s : Nat → Nat} {p : Int} {E : Nat → Nat → Prop} (a : SolIn O S R (fun v => v < n) p W s) (hE : ∀ v u, W v → E v u → u ∈ S v ∧ u < n ∧ (O v = p → u = s v)) {v : Nat} (hv : W v) : ¬ Lost E R p v := by
  have clo : ∀ a b, W a → E a b → W b := fun v u hv he => by
    obtain ⟨h1, h2, h3⟩ := hE v u hv he
    by_cases ho : O v = p
    · rw [h3 ho]; exact (a.own v hv ho).2
    · exact a.opp v hv ho u h1 h2
  have nb : ∀ u, W u → ¬ Bad E R p u := by
    rintro u hu ⟨h1, h2⟩
    obtain ⟨k, c, e1, e2, e3⟩ := h2.list
    have hW : ∀ i, i ≤ k + 1 → W (c i) := by
      intro i
      induction i with
      | zero => intro _; rw [e1]; exact hu
      | succ i ih => intro hi; exact clo _ _ (ih (by omega)) (e3 i (by omega)).1
    have hlt : ∀ i, i % (k + 1) ≤ k := fun i => by have := Nat.mod_lt i (show 0 < k + 1 by omega); omega
    have hall := cyc_of (u := u) (c := c) (k := k) (by rw [e1, e2]) E (fun i hi => (e3 i hi).1)
    obtain ⟨j, j1, j2⟩ := a.cyc (fun i => c (i % (k + 1))) (k + 1) (by omega) (fun i => by show c _ = c _; rw [Nat.add_mod_right]) (fun i => hW _ (by have := hlt i; omega)) (fun i => (hE _ _ (hW _ (by have := hlt i; omega)) (hall i)).1)
      (fun i ho => (hE _ _ (hW _ (by have := hlt i; omega)) (hall i)).2.2 ho)
    have g1 := j1 0
    have g2 : R (c (j % (k + 1))) ≤ R u := by
      rcases Nat.eq_zero_or_pos (j % (k + 1)) with q | q
      · rw [q, e1]; exact Int.le_refl _
      · have := (e3 (j % (k + 1) - 1) (by have := hlt j; omega)).2
        rwa [show j % (k + 1) - 1 + 1 = j % (k + 1) by omega] at this
    simp only [Nat.zero_mod, e1] at g1
    apply h1
    rw [show R u = R (c (j % (k + 1))) by omega]; exact j2
  rintro (h | ⟨u, h1, h2⟩)
  · exact nb v hv h
  · exact nb u (h2.inv hv clo) h1
theorem SolIn.lost {n : Nat} {O : Nat → Int} {S : Nat → List Nat} {R : Nat → Int} {W : Nat → Prop} {s : Nat → Nat} {p q : Int} {E : Nat → Nat → Prop} (a : SolIn O S R (fun v => v < n) q W s) (hpq : p ≠ q) {f : Nat → Nat} (hf : ∀ u, u < n → f u ∈ S u ∧ f u < n) (hs : ∀ u, W u → O u = q → f u = s u) (hE : ∀ u, W u → E u (f u)) {v : Nat} (hv : W v) : Lost E R p v := by
  obtain ⟨m, k, hkm, hback⟩ := orbit (fun v hv => (hf v hv).2) (a.sub v hv)
  obtain ⟨inv, j, j1, j2⟩ := a.loop hv hf hs hkm hback
  have hper := itr_per (by omega) hback
  have path : ∀ (Q : Nat → Prop) (i d : Nat), (∀ e, Q (itr f v (i + e))) → Rch E Q (itr f v i) (itr f v (i + (d + 1))) := by
    intro Q i d hQ
    induction d with
    | zero => exact .one (hE _ (inv _)) (hQ _)
    | succ d ih => exact .more ih (hE _ (inv _)) (hQ _)
  have hb : Bad E R p (itr f v (k + j)) := by
    refine ⟨by rw [j2]; exact fun e => hpq e.symm, ?_⟩
    have h1 := path (fun x => R x ≤ R (itr f v (k + j))) (k + j) (m - k - 1) (fun e => by rw [Nat.add_assoc]; exact j1 _)
    have h2 : itr f v (k + j + (m - k - 1 + 1)) = itr f v (k + j) := by
      rw [show k + j + (m - k - 1 + 1) = k + (j + (m - k)) by omega]; exact hper j
    rw [h2] at h1; exact h1
  by_cases hz : k + j = 0
  · rw [hz] at hb; exact .inl hb
  · refine .inr ⟨_, hb, ?_⟩
    have := path (fun _ => True) 0 (k + j - 1) (fun _ => trivial)
    rw [show 0 + (k + j - 1 + 1) = k + j by omega] at this
    exact this
end Go.Am.Ar
set_option linter.unusedVariables false
namespace Go.Am.Ar
def bm (L : List Bool) (v : Nat) : Prop := L[v]? = some true
instance (L : List Bool) (v : Nat) : Decidable (bm L v) := by unfold bm; infer_instance
def stN (st : List Int) (v : Nat) : Nat := (st.getD v 0).toNat
theorem bm_lt {L : List Bool} {v : Nat} (h : bm L v) : v < L.length := getSome_lt h
theorem bm_of {L : List Bool} {v : Nat} {b : Bool} (h : L[v]? = some b) : bm L v ↔ b = true := by
  unfold bm; rw [h]; simp
theorem bm_set {L : List Bool} {v w : Nat} (hv : v < L.length) : bm (L.set v true) w ↔ w = v ∨ bm L w := by
  unfold bm
  by_cases e : w = v
  · subst e; simp [hv]
  · rw [List.getElem?_set_ne (by omega)]; simp [e]
theorem stN_set {st : List Int} {v w : Nat} {x : Int} (hv : v < st.length) : stN (st.set v x) w = if w = v then x.toNat else stN st w := by
  unfold stN
  rw [List.getD, List.getD]
  by_cases e : w = v
  · subst e; simp [hv]
  · rw [List.getElem?_set_ne (by omega), if_neg e]
theorem count_add {L : List Bool} {v : Nat} (h : L[v]? = some false) : (L.set v true).count true = L.count true + 1 := by
  have hv := getSome_lt h
  rw [List.getElem?_eq_getElem hv] at h
  have h : L[v] = false := by simpa using h
  rw [List.count_set hv, h]
  simp
structure AJ (O : Nat → Int) (S : Nat → List Nat) (D X : Nat → Prop) (p : Int) (s0 : Nat → Nat) (n : Nat) (out : List Bool) (st : List Int) (r : Nat → Nat) (c : Nat) : Prop where
  lo : out.length = n
  ls : st.length = n
  nn : ∀ x ∈ st, 0 ≤ x
  sub : ∀ v, bm out v → D v
  tgt : ∀ v, X v → bm out v
  own : ∀ v, bm out v → ¬ X v → O v = p → stN st v ∈ S v ∧ bm out (stN st v) ∧ r (stN st v) < r v
  opp : ∀ v, bm out v → ¬ X v → ¬ O v = p → ∀ u ∈ S v, D u → bm out u ∧ r u < r v
  same : ∀ v, ¬ bm out v ∨ X v → stN st v = s0 v
  rk : ∀ v, bm out v → r v < c
def Stab (O : Nat → Int) (S : Nat → List Nat) (D : Nat → Prop) (p : Int) (out : List Bool) (v : Nat) : Prop :=
  D v → ¬ bm out v → (O v = p → ∀ u ∈ S v, ¬ bm out u) ∧ (¬ O v = p → ∃ u ∈ S v, D u ∧ ¬ bm out u)
section
variable {O : Nat → Int} {S : Nat → List Nat} {D X : Nat → Prop} {p : Int} {s0 : Nat → Nat} {n : Nat} {out : List Bool} {st : List Int} {r : Nat → Nat} {c : Nat}
theorem AJ.start {tgt : List Bool} {st : List Int} (h1 : tgt.length = n) (h2 : st.length = n) (h3 : ∀ x ∈ st, 0 ≤ x) (h4 : ∀ v, bm tgt v → D v) : AJ O S D (bm tgt) p (stN st) n tgt st (fun _ => 0) 1 :=
  ⟨h1, h2, h3, h4, fun v h => h, fun v h q => absurd h q, fun v h q => absurd h q, fun v _ => rfl, fun v _ => by omega⟩
theorem AJ.addOwn (j : AJ O S D X p s0 n out st r c) {v : Nat} {x : Int} (hv : v < n) (hn : ¬ bm out v) (hd : D v) (ho : O v = p) (hx : 0 ≤ x) (h1 : x.toNat ∈ S v) (h2 : bm out x.toNat) :
    AJ O S D X p s0 n (out.set v true) (st.set v x) (fun w => if w = v then c else r w) (c + 1) := by
  have hvo : v < out.length := by rw [j.lo]; exact hv
  have hvs : v < st.length := by rw [j.ls]; exact hv
  have hxv : x.toNat ≠ v := fun e => hn (e ▸ h2)
  have hXv : ¬ X v := fun h => hn (j.tgt v h)
  refine ⟨by simp [j.lo], by simp [j.ls], fun y hy => ?_, fun w hw => ?_, fun w hw => (bm_set hvo).2 (.inr (j.tgt w hw)), fun w hw hxw how => ?_, fun w hw hxw how u hu hdu => ?_, fun w hw => ?_, fun w hw => ?_⟩
  · rcases List.mem_or_eq_of_mem_set hy with h | h
    · exact j.nn y h
    · subst h; exact hx
  · rcases (bm_set hvo).1 hw with h | h
    · subst h; exact hd
    · exact j.sub w h
  · rw [stN_set hvs]
    by_cases e : w = v
    · subst e
      simp only [if_true]
      exact ⟨h1, (bm_set hvo).2 (.inr h2), by simp only [if_neg hxv]; exact j.rk _ h2⟩
    · have hb := ((bm_set hvo).1 hw).resolve_left e
      obtain ⟨q1, q2, q3⟩ := j.own w hb hxw how
      have e2 : stN st w ≠ v := fun e => hn (e ▸ q2)
      simp only [if_neg e, if_neg e2]
      exact ⟨q1, (bm_set hvo).2 (.inr q2), q3⟩
  · have e : w ≠ v := by rintro rfl; exact how ho
    have hb := ((bm_set hvo).1 hw).resolve_left e
    obtain ⟨q1, q2⟩ := j.opp w hb hxw how u hu hdu
    have e2 : u ≠ v := fun e => hn (e ▸ q1)
    simp only [if_neg e, if_neg e2]
    exact ⟨(bm_set hvo).2 (.inr q1), q2⟩
  · have e : w ≠ v := by
      rintro rfl
      rcases hw with h | h
      · exact h ((bm_set hvo).2 (.inl rfl))
      · exact hXv h
    rw [stN_set hvs, if_neg e]
    exact j.same w (hw.imp (fun h q => h ((bm_set hvo).2 (.inr q))) id)
  · rcases (bm_set hvo).1 hw with h | h
    · subst h; simp
    · have := j.rk w h
      by_cases e : w = v
      · simp [e]
      · simp only [if_neg e]; omega
theorem AJ.addOpp (j : AJ O S D X p s0 n out st r c) {v : Nat} (hv : v < n) (hn : ¬ bm out v) (hd : D v) (ho : ¬ O v = p) (h1 : ∀ u ∈ S v, D u → bm out u) :
    AJ O S D X p s0 n (out.set v true) st (fun w => if w = v then c else r w) (c + 1) := by
  have hvo : v < out.length := by rw [j.lo]; exact hv
  have hXv : ¬ X v := fun h => hn (j.tgt v h)
  refine ⟨by simp [j.lo], j.ls, j.nn, fun w hw => ?_, fun w hw => (bm_set hvo).2 (.inr (j.tgt w hw)), fun w hw hxw how => ?_, fun w hw hxw how u hu hdu => ?_, fun w hw => ?_, fun w hw => ?_⟩
  · rcases (bm_set hvo).1 hw with h | h
    · subst h; exact hd
    · exact j.sub w h
  · have e : w ≠ v := by rintro rfl; exact ho how
    have hb := ((bm_set hvo).1 hw).resolve_left e
    obtain ⟨q1, q2, q3⟩ := j.own w hb hxw how
    have e2 : stN st w ≠ v := fun e => hn (e ▸ q2)
    simp only [if_neg e, if_neg e2]
    exact ⟨q1, (bm_set hvo).2 (.inr q2), q3⟩
  · by_cases e : w = v
    · subst e
      have q1 := h1 u hu hdu
      have e2 : u ≠ w := fun e => hn (e ▸ q1)
      simp only [if_true, if_neg e2]
      exact ⟨(bm_set hvo).2 (.inr q1), j.rk u q1⟩
    · have hb := ((bm_set hvo).1 hw).resolve_left e
      obtain ⟨q1, q2⟩ := j.opp w hb hxw how u hu hdu
      have e2 : u ≠ v := fun e => hn (e ▸ q1)
      simp only [if_neg e, if_neg e2]
      exact ⟨(bm_set hvo).2 (.inr q1), q2⟩
  · exact j.same w (hw.imp (fun h q => h ((bm_set hvo).2 (.inr q))) id)
  · rcases (bm_set hvo).1 hw with h | h
    · subst h; simp
    · have := j.rk w h
      by_cases e : w = v
      · simp [e]
      · simp only [if_neg e]; omega
theorem AJ.fin (j : AJ O S D X p s0 n out st r c) (hD : ∀ v, D v → v < n) (h : ∀ v, v < n → Stab O S D p out v) : AttIn O S D p X (bm out) s0 (stN st) r :=
  ⟨j.sub, j.tgt, j.own, j.opp, j.same, fun v hd hn ho => (h v (hD v hd) hd hn).1 ho, fun v hd hn ho => (h v (hD v hd) hd hn).2 ho⟩
end
end Go.Am.Ar
set_option linter.unusedVariables false
namespace Go.Am.Ar
structure RJ (S : Nat → List Nat) (Q : Nat → Prop) (v n : Nat) (w : List Bool) (q : List Nat) (C : Nat → Prop) : Prop where
  lw : w.length = n
  qn : ∀ x ∈ q, x < n
  snd : ∀ u, bm w u → Rch (fun a b => b ∈ S a) Q v u
  qr : ∀ x ∈ q, x = v ∨ bm w x
  clo : ∀ x, x = v ∨ bm w x → x ∈ q ∨ C x ∨ ∀ y ∈ S x, Q y → bm w y
section
variable {S : Nat → List Nat} {Q : Nat → Prop} {v n : Nat} {w : List Bool} {q : List Nat} {C : Nat → Prop} {u x : Nat}
theorem RJ.start (hv : v < n) : RJ S Q v n (List.replicate n false) [v] fun _ => False := by
  have no : ∀ u, ¬ bm (List.replicate n false) u := fun u h => by
    unfold bm at h
    rw [List.getElem?_replicate] at h
    split at h <;> cases h
  refine ⟨by simp, fun x hx => ?_, fun u h => absurd h (no u), fun x hx => ?_, fun x hx => ?_⟩
  · rw [List.mem_singleton] at hx; subst hx; exact hv
  · exact .inl (List.mem_singleton.1 hx)
  · exact .inl (List.mem_singleton.2 (hx.resolve_right (no x)))
theorem RJ.pop (j : RJ S Q v n w (u :: q) fun _ => False) : RJ S Q v n w q fun x => x = u :=
  ⟨j.lw, fun x hx => j.qn x (List.mem_cons_of_mem _ hx), j.snd, fun x hx => j.qr x (List.mem_cons_of_mem _ hx), fun x hx => by
    rcases j.clo x hx with h | h | h
    · rcases List.mem_cons.1 h with e | h
      · exact .inr (.inl e)
      · exact .inl h
    · exact h.elim
    · exact .inr (.inr h)⟩
theorem RJ.push (j : RJ S Q v n w q C) (hu : u = v ∨ bm w u) (hx : x ∈ S u) (hq : Q x) (hn : x < n) : RJ S Q v n (w.set x true) (q ++ [x]) C := by
  have hl : x < w.length := by rw [j.lw]; exact hn
  have up : ∀ y, bm w y → bm (w.set x true) y := fun y h => (bm_set hl).2 (.inr h)
  refine ⟨by simp [j.lw], fun y hy => ?_, fun y hy => ?_, fun y hy => ?_, fun y hy => ?_⟩
  · rcases List.mem_append.1 hy with h | h
    · exact j.qn y h
    · rw [List.mem_singleton] at h; subst h; exact hn
  · rcases (bm_set hl).1 hy with h | h
    · subst h
      rcases hu with h | h
      · subst h; exact .one hx hq
      · exact .more (j.snd _ h) hx hq
    · exact j.snd y h
  · rcases List.mem_append.1 hy with h | h
    · exact (j.qr y h).imp id (up y)
    · rw [List.mem_singleton] at h; subst h; exact .inr ((bm_set hl).2 (.inl rfl))
  · have key : y = x ∨ y = v ∨ bm w y := by
      rcases hy with h | h
      · exact .inr (.inl h)
      · exact ((bm_set hl).1 h).imp id .inr
    rcases key with h | h
    · exact .inl (List.mem_append.2 (.inr (List.mem_singleton.2 h)))
    · rcases j.clo y h with h | h | h
      · exact .inl (List.mem_append.2 (.inl h))
      · exact .inr (.inl h)
      · exact .inr (.inr fun z hz hqz => up z (h z hz hqz))
theorem RJ.close (j : RJ S Q v n w q fun x => x = u) (h : ∀ y ∈ S u, Q y → bm w y) : RJ S Q v n w q fun _ => False :=
  ⟨j.lw, j.qn, j.snd, j.qr, fun x hx => by
    rcases j.clo x hx with h1 | h1 | h1
    · exact .inl h1
    · subst h1; exact .inr (.inr h)
    · exact .inr (.inr h1)⟩
theorem RJ.fin (j : RJ S Q v n w [] fun _ => False) (u : Nat) : bm w u ↔ Rch (fun a b => b ∈ S a) Q v u := by
  refine ⟨j.snd u, fun h => ?_⟩
  have clo : ∀ x, x = v ∨ bm w x → ∀ y ∈ S x, Q y → bm w y := fun x hx => by
    rcases j.clo x hx with h | h | h
    · cases h
    · exact h.elim
    · exact h
  induction h with
  | one h1 h2 => exact clo v (.inl rfl) _ h1 h2
  | more _ h1 h2 ih => exact clo _ (.inr ih) _ h1 h2
end
end Go.Am.Ar
set_option linter.unusedVariables false
set_option linter.unusedSimpArgs false
namespace Go.Am.Ar
def nx (p : Bool) : Int → Int → List Int → Int
  | least, most, [] => if p = true then (if least < 0 then -1 else least + 1) else most + 1
  | least, most, r :: rs => if r < 0 then (if p = true then nx p least most rs else -1) else nx p (if least < 0 then r else if r < least then r else least) (max most r) rs
theorem ilt_or_ge (a b : Int) : a < b ∨ b ≤ a := by omega
theorem nx_p : ∀ {rs : List Int} {least most : Int}, -1 ≤ least → (∀ r ∈ rs, -1 ≤ r) →
    (nx true least most rs = -1 ∧ least < 0 ∧ ∀ r ∈ rs, r < 0) ∨
    (0 < nx true least most rs ∧ (nx true least most rs = least + 1 ∧ 0 ≤ least ∨ ∃ r ∈ rs, 0 ≤ r ∧ nx true least most rs = r + 1) ∧ (0 ≤ least → nx true least most rs ≤ least + 1) ∧ ∀ r ∈ rs, 0 ≤ r → nx true least most rs ≤ r + 1)
  | [], least, most, h0, _ => by
    unfold nx
    simp only [if_true]
    split
    · exact .inl ⟨rfl, by assumption, fun r hr => by cases hr⟩
    · exact .inr ⟨by omega, .inl ⟨rfl, by omega⟩, fun _ => Int.le_refl _, fun r hr => by cases hr⟩
  | r :: rs, least, most, h0, hr => by
    have hr0 := hr r (by simp)
    have hrs : ∀ x ∈ rs, -1 ≤ x := fun x hx => hr x (by simp [hx])
    unfold nx
    simp only [if_true]
    split
    · rename_i h1
      rcases nx_p (rs := rs) (least := least) (most := most) h0 hrs with ⟨q1, q2, q3⟩ | ⟨q1, q2, q3, q4⟩
      · refine .inl ⟨q1, q2, fun x hx => ?_⟩
        rcases List.mem_cons.1 hx with rfl | hx
        · exact h1
        · exact q3 x hx
      · refine .inr ⟨q1, ?_, q3, fun x hx hx0 => ?_⟩
        · rcases q2 with q2 | ⟨y, hy, h2⟩
          · exact .inl q2
          · exact .inr ⟨y, by simp [hy], h2⟩
        · rcases List.mem_cons.1 hx with rfl | hx
          · omega
          · exact q4 x hx hx0
    · rename_i h1
      have hl : -1 ≤ (if least < 0 then r else if r < least then r else least) := by split; · omega
                                                                                     · split <;> omega
      rcases nx_p (rs := rs) (most := max most r) hl hrs with ⟨q1, q2, q3⟩ | ⟨q1, q2, q3, q4⟩
      · exfalso
        split at q2
        · omega
        · split at q2 <;> omega
      · have hl0 : 0 ≤ (if least < 0 then r else if r < least then r else least) := by split; · omega
                                                                                       · split <;> omega
        have q3 := q3 hl0
        refine .inr ⟨q1, ?_, fun hl => ?_, fun x hx hx0 => ?_⟩
        · rcases q2 with ⟨q2, _⟩ | ⟨y, hy, h2⟩
          · rw [q2]
            split
            · exact .inr ⟨r, by simp, by omega, rfl⟩
            · split
              · exact .inr ⟨r, by simp, by omega, rfl⟩
              · exact .inl ⟨rfl, by omega⟩
          · exact .inr ⟨y, by simp [hy], h2⟩
        · refine Int.le_trans q3 ?_
          split
          · omega
          · split <;> omega
        · rcases List.mem_cons.1 hx with rfl | hx
          · refine Int.le_trans q3 ?_
            split
            · omega
            · split <;> omega
          · exact q4 x hx hx0
theorem nx_o : ∀ {rs : List Int} {least most : Int}, -1 ≤ most → (∀ r ∈ rs, -1 ≤ r) →
    (nx false least most rs = -1 ∧ ∃ r ∈ rs, r < 0) ∨
    ((∀ r ∈ rs, 0 ≤ r ∧ r < nx false least most rs) ∧ most < nx false least most rs ∧ (nx false least most rs = most + 1 ∨ ∃ r ∈ rs, nx false least most rs = r + 1))
  | [], least, most, h0, _ => by
    unfold nx
    simp only [Bool.false_eq_true, if_false]
    exact .inr ⟨(fun r hr => by cases hr), by omega, .inl trivial⟩
  | r :: rs, least, most, h0, hr => by
    have hrs : ∀ x ∈ rs, -1 ≤ x := fun x hx => hr x (by simp [hx])
    unfold nx
    simp only [Bool.false_eq_true, if_false]
    split
    · rename_i h1
      exact .inl ⟨rfl, r, by simp, h1⟩
    · rename_i h1
      rcases nx_o (rs := rs) (least := if least < 0 then r else if r < least then r else least) (most := max most r) (by omega) hrs with ⟨q1, y, hy, h2⟩ | ⟨q1, q2, q3⟩
      · exact .inl ⟨q1, y, by simp [hy], h2⟩
      · refine .inr ⟨fun x hx => ?_, by omega, ?_⟩
        · rcases List.mem_cons.1 hx with rfl | hx
          · exact ⟨by omega, by omega⟩
          · exact q1 x hx
        · rcases q3 with q3 | ⟨y, hy, h2⟩
          · rcases Int.le_total most r with q | q
            · exact .inr ⟨r, by simp, by omega⟩
            · exact .inl (by omega)
          · exact .inr ⟨y, by simp [hy], h2⟩
structure IsRank (n : Nat) (P : Nat → Prop) (S : Nat → List Nat) (Z : Nat → Prop) (R : Nat → Int) : Prop where
  ge : ∀ v, v < n → -1 ≤ R v
  z : ∀ v, v < n → (R v = 0 ↔ Z v)
  p : ∀ v, v < n → P v → 0 < R v → ∃ u ∈ S v, R u = R v - 1
  p' : ∀ v, v < n → P v → ∀ u ∈ S v, 0 ≤ R u → 0 ≤ R v ∧ R v ≤ R u + 1
  o : ∀ v, v < n → ¬ P v → 0 < R v → ∀ u ∈ S v, 0 ≤ R u ∧ R u < R v
  o' : ∀ v, v < n → ¬ P v → ∀ k, 0 ≤ k → (∀ u ∈ S v, 0 ≤ R u ∧ R u ≤ k) → 0 ≤ R v ∧ R v ≤ k + 1
def rkRow (p : Bool) (S : List Nat) (k : Int) (R : Nat → Int) (v : Nat) : Int := if R v < 0 then (if nx p (-1) (-1) (S.map R) = k then k else R v) else R v
def rk (P : Nat → Bool) (S : Nat → List Nat) (Z : Nat → Bool) : Nat → Nat → Int
  | 0, v => if Z v = true then 0 else -1
  | k + 1, v => rkRow (P v) (S v) ((k + 1 : Nat) : Int) (rk P S Z k) v
section
variable {n : Nat} {P : Nat → Bool} {S : Nat → List Nat} {Z : Nat → Bool}
theorem rk_range : ∀ (k v : Nat), -1 ≤ rk P S Z k v ∧ rk P S Z k v ≤ k
  | 0, v => by unfold rk; split <;> omega
  | k + 1, v => by
    have := rk_range k v
    unfold rk rkRow
    split
    · split <;> omega
    · omega
theorem rk_stable {k v : Nat} (h : 0 ≤ rk P S Z k v) : rk P S Z (k + 1) v = rk P S Z k v := by
  show rkRow _ _ _ _ _ = _
  unfold rkRow
  rw [if_neg (by omega)]
theorem rk_mono {k v : Nat} (h : 0 ≤ rk P S Z k v) : ∀ j, k ≤ j → rk P S Z j v = rk P S Z k v := by
  intro j hj
  induction hj with
  | refl => rfl
  | step hj ih => rw [rk_stable (by rw [ih]; exact h), ih]
theorem rk_none {k v : Nat} (h : rk P S Z k v < 0) : ∀ j, j ≤ k → rk P S Z j v < 0 := by
  intro j hj
  rcases ilt_or_ge (rk P S Z j v) 0 with q | q
  · exact q
  · rw [rk_mono q k hj] at h; omega
theorem rk_from : ∀ {k v : Nat}, 0 < rk P S Z k v → ∃ j, j < k ∧ rk P S Z k v = ((j + 1 : Nat) : Int) ∧ rk P S Z j v < 0 ∧ nx (P v) (-1) (-1) ((S v).map (rk P S Z j)) = ((j + 1 : Nat) : Int)
  | 0, v, h => by unfold rk at h; split at h <;> omega
  | k + 1, v, h => by
    have e : rk P S Z (k + 1) v = rkRow (P v) (S v) ((k + 1 : Nat) : Int) (rk P S Z k) v := rfl
    unfold rkRow at e
    split at e
    · rename_i h1
      split at e
      · rename_i h2
        exact ⟨k, by omega, e, h1, h2⟩
      · rw [e] at h; omega
    · rename_i h1
      obtain ⟨j, h2, h3, h4, h5⟩ := rk_from (k := k) (v := v) (by omega)
      exact ⟨j, by omega, by rw [e]; exact h3, h4, h5⟩
theorem rk_all (k : Nat) (l : List Nat) : ∀ r ∈ l.map (rk P S Z k), -1 ≤ r := by
  intro r hr
  obtain ⟨u, _, rfl⟩ := List.mem_map.1 hr
  exact (rk_range k u).1
theorem rk_below {k v : Nat} {j : Nat} (h : rk P S Z k v = ((j + 1 : Nat) : Int)) (hS : S v ≠ []) : ∃ u ∈ S v, rk P S Z k u = (j : Int) := by
  have h0 : 0 < rk P S Z k v := by omega
  obtain ⟨i, h1, h2, h3, h4⟩ := rk_from h0
  have : i = j := by omega
  subst this
  have up : ∀ u, rk P S Z i u = (i : Int) → rk P S Z k u = (i : Int) := fun u hu => by rw [rk_mono (k := i) (by rw [hu]; omega) k (by omega)]; exact hu
  cases hp : P v with
  | true =>
    rw [hp] at h4
    rcases nx_p (least := -1) (most := -1) (by omega) (rk_all (P := P) (S := S) (Z := Z) i (S v)) with ⟨q, _⟩ | ⟨_, q, _⟩
    · omega
    · rcases q with ⟨_, q⟩ | ⟨r, hr, q1, q2⟩
      · omega
      · obtain ⟨u, hu, rfl⟩ := List.mem_map.1 hr
        exact ⟨u, hu, up u (by omega)⟩
  | false =>
    rw [hp] at h4
    rcases nx_o (least := -1) (most := -1) (by omega) (rk_all (P := P) (S := S) (Z := Z) i (S v)) with ⟨q, _⟩ | ⟨q1, _, q⟩
    · omega
    · rcases q with q | ⟨r, hr, q2⟩
      · have : i = 0 ∧ False := by
          cases hs : S v with
          | nil => exact absurd hs hS
          | cons u l =>
            have := (q1 (rk P S Z i u) (by rw [hs]; simp)).2
            have := (q1 (rk P S Z i u) (by rw [hs]; simp)).1
            omega
        exact this.2.elim
      · obtain ⟨u, hu, rfl⟩ := List.mem_map.1 hr
        exact ⟨u, hu, up u (by omega)⟩
theorem rk_zero {v : Nat} (h : rk P S Z 0 v < 0) : ∀ k, rk P S Z k v ≠ 0
  | 0 => by omega
  | k + 1 => by
    have := rk_zero h k
    show rkRow _ _ _ _ _ ≠ 0
    unfold rkRow
    split
    · split <;> omega
    · exact this
theorem rk_at {k u : Nat} (h : 0 ≤ rk P S Z k u) : ∀ j : Nat, rk P S Z k u ≤ j → rk P S Z j u = rk P S Z k u := by
  have key : rk P S Z (rk P S Z k u).toNat u = rk P S Z k u := by
    rcases ilt_or_ge 0 (rk P S Z k u) with q | q
    · obtain ⟨j, h1, h2, h3, h4⟩ := rk_from q
      have e : (rk P S Z k u).toNat = j + 1 := by omega
      rw [e]
      show rkRow _ _ _ _ _ = _
      unfold rkRow
      rw [if_pos h3, if_pos h4]; exact h2.symm
    · have e : rk P S Z k u = 0 := by omega
      rw [e]
      show rk P S Z 0 u = 0
      rcases ilt_or_ge (rk P S Z 0 u) 0 with q2 | q2
      · exact absurd e (rk_zero q2 k)
      · have := rk_range (P := P) (S := S) (Z := Z) 0 u; omega
  intro j hj
  rw [rk_mono (k := (rk P S Z k u).toNat) (by rw [key]; exact h) j (by omega), key]
theorem rk_small (hS : ∀ v, v < n → S v ≠ [] ∧ ∀ u ∈ S v, u < n) {k v : Nat} (hv : v < n) : rk P S Z k v < n := by
  have chain : ∀ (j : Nat) (v : Nat), v < n → rk P S Z k v = (j : Int) → ∃ l : List Nat, l.length = j + 1 ∧ l.Nodup ∧ (∀ x ∈ l, x < n) ∧ ∀ x ∈ l, rk P S Z k x ≤ j := by
    intro j
    induction j with
    | zero => intro v hv h; exact ⟨[v], rfl, by simp, by simpa using hv, by simp [h]⟩
    | succ j ih =>
      intro v hv h
      obtain ⟨u, hu, hj⟩ := rk_below h (hS v hv).1
      obtain ⟨l, h1, h2, h3, h4⟩ := ih u ((hS v hv).2 u hu) hj
      refine ⟨v :: l, by simp [h1], List.nodup_cons.2 ⟨fun hvl => ?_, h2⟩, fun x hx => ?_, fun x hx => ?_⟩
      · have := h4 v hvl; omega
      · rcases List.mem_cons.1 hx with rfl | hx
        · exact hv
        · exact h3 x hx
      · rcases List.mem_cons.1 hx with rfl | hx
        · omega
        · have := h4 x hx; omega
  have h0 := rk_range (P := P) (S := S) (Z := Z) k v
  rcases ilt_or_ge (rk P S Z k v) 0 with q | q
  · omega
  · obtain ⟨l, h1, h2, h3, _⟩ := chain (rk P S Z k v).toNat v hv (by omega)
    have := nodup_lenN n l h2 h3
    omega
theorem rk_isRank (hS : ∀ v, v < n → S v ≠ [] ∧ ∀ u ∈ S v, u < n) : IsRank n (fun v => P v = true) S (fun v => Z v = true) (rk P S Z n) where
  ge := fun v _ => (rk_range n v).1
  z := fun v _ => by
    constructor
    · intro h
      cases hz : Z v with
      | true => rfl
      | false => exact absurd h (rk_zero (by unfold rk; simp [hz]) n)
    · intro h
      have : rk P S Z 0 v = 0 := by unfold rk; rw [if_pos h]
      rw [rk_mono (k := 0) (by omega) n (by omega)]; exact this
  p := fun v hv hp h => by
    obtain ⟨j, h1, h2, h3, h4⟩ := rk_from h
    obtain ⟨u, hu, hj⟩ := rk_below h2 (hS v hv).1
    exact ⟨u, hu, by omega⟩
  p' := fun v hv hp u hu h0 => by
    have hp' : P v = true := hp
    have hsm := rk_small (P := P) (S := S) (Z := Z) (k := n) hS ((hS v hv).2 u hu)
    have hr := rk_range (P := P) (S := S) (Z := Z) n u
    obtain ⟨k, hk⟩ : ∃ k : Nat, rk P S Z n u = (k : Int) := ⟨(rk P S Z n u).toNat, by omega⟩
    have huk := rk_at h0 k (by omega)
    rcases ilt_or_ge (rk P S Z k v) 0 with q | q
    · have e : rk P S Z (k + 1) v = ((k + 1 : Nat) : Int) := by
        show rkRow _ _ _ _ _ = _
        unfold rkRow
        rw [if_pos q, hp']
        rcases nx_p (least := -1) (most := -1) (by omega) (rk_all (P := P) (S := S) (Z := Z) k (S v)) with ⟨_, _, q3⟩ | ⟨q1, q2, _, q4⟩
        · have := q3 (rk P S Z k u) (List.mem_map.2 ⟨u, hu, rfl⟩); omega
        · have hle := q4 (rk P S Z k u) (List.mem_map.2 ⟨u, hu, rfl⟩) (by omega)
          rcases q2 with ⟨_, q2⟩ | ⟨r, hr', r0, q2⟩
          · omega
          · obtain ⟨y, hy, rfl⟩ := List.mem_map.1 hr'
            rcases ilt_or_ge (rk P S Z k y) k with q5 | q5
            · exfalso
              obtain ⟨i, hi⟩ : ∃ i : Nat, rk P S Z k y = (i : Int) := ⟨(rk P S Z k y).toNat, by omega⟩
              have hi2 := rk_at r0 i (by omega)
              have hvi := rk_none (P := P) (S := S) (Z := Z) q (i + 1) (by omega)
              have hvi0 := rk_none (P := P) (S := S) (Z := Z) q i (by omega)
              have this : rk P S Z (i + 1) v = rkRow (P v) (S v) ((i + 1 : Nat) : Int) (rk P S Z i) v := rfl
              unfold rkRow at this
              rw [if_pos hvi0, hp'] at this
              rcases nx_p (least := -1) (most := -1) (by omega) (rk_all (P := P) (S := S) (Z := Z) i (S v)) with ⟨_, _, z3⟩ | ⟨z1, z2, _, z4⟩
              · have := z3 (rk P S Z i y) (List.mem_map.2 ⟨y, hy, rfl⟩); omega
              · have hle2 := z4 (rk P S Z i y) (List.mem_map.2 ⟨y, hy, rfl⟩) (by omega)
                by_cases hne : nx true (-1) (-1) ((S v).map (rk P S Z i)) = ((i + 1 : Nat) : Int)
                · rw [if_pos hne] at this; omega
                · rcases z2 with ⟨_, z2⟩ | ⟨r2, hr2, r20, z2⟩
                  · omega
                  · obtain ⟨y2, hy2, rfl⟩ := List.mem_map.1 hr2
                    have hy2k : rk P S Z k y2 = rk P S Z i y2 := rk_mono r20 k (by omega)
                    have := q4 (rk P S Z k y2) (List.mem_map.2 ⟨y2, hy2, rfl⟩) (by omega)
                    omega
            · have := (rk_range (P := P) (S := S) (Z := Z) k y).2
              rw [if_pos (by omega)]
      rw [rk_mono (k := k + 1) (by omega) n (by omega), e]
      omega
    · rw [rk_mono q n (by omega)]
      have := (rk_range (P := P) (S := S) (Z := Z) k v).2
      omega
  o := fun v hv hp h u hu => by
    obtain ⟨j, h1, h2, h3, h4⟩ := rk_from h
    have hp' : P v = false := by simpa using hp
    rw [hp'] at h4
    rcases nx_o (least := -1) (most := -1) (by omega) (rk_all (P := P) (S := S) (Z := Z) j (S v)) with ⟨q, _⟩ | ⟨q1, _, _⟩
    · omega
    · have := q1 (rk P S Z j u) (List.mem_map.2 ⟨u, hu, rfl⟩)
      rw [rk_mono this.1 n (by omega)]
      omega
  o' := fun v hv hp k hk hall => by
    have hp' : P v = false := by simpa using hp
    obtain ⟨hne, hlt⟩ := hS v hv
    rcases nx_o (least := -1) (most := -1) (by omega) (rk_all (P := P) (S := S) (Z := Z) n (S v)) with ⟨_, r, hr, q⟩ | ⟨q1, _, q3⟩
    · obtain ⟨u, hu, rfl⟩ := List.mem_map.1 hr
      have := hall u hu; omega
    · obtain ⟨y, hy, hM⟩ : ∃ y ∈ S v, nx false (-1) (-1) ((S v).map (rk P S Z n)) = rk P S Z n y + 1 := by
        rcases q3 with q3 | ⟨r, hr, q3⟩
        · exfalso
          cases hs : S v with
          | nil => exact hne hs
          | cons u l =>
            have := q1 (rk P S Z n u) (by rw [hs]; simp)
            omega
        · obtain ⟨u, hu, rfl⟩ := List.mem_map.1 hr
          exact ⟨u, hu, q3⟩
      have hy0 := hall y hy
      have hyn := rk_small (P := P) (S := S) (Z := Z) (k := n) hS (hlt y hy)
      obtain ⟨j, hj⟩ : ∃ j : Nat, rk P S Z n y = (j : Int) := ⟨(rk P S Z n y).toNat, by omega⟩
      have hsame : (S v).map (rk P S Z j) = (S v).map (rk P S Z n) := List.map_congr_left fun u hu => by
        have := q1 (rk P S Z n u) (List.mem_map.2 ⟨u, hu, rfl⟩)
        exact rk_at this.1 j (by omega)
      rcases ilt_or_ge (rk P S Z j v) 0 with q | q
      · have e : rk P S Z (j + 1) v = ((j + 1 : Nat) : Int) := by
          show rkRow _ _ _ _ _ = _
          unfold rkRow
          rw [if_pos q, hp', hsame, hM, if_pos (by omega)]
        rw [rk_mono (k := j + 1) (by omega) n (by omega), e]
        omega
      · rw [rk_mono q n (by omega)]
        have := (rk_range (P := P) (S := S) (Z := Z) j v).2
        omega
end
end Go.Am.Ar
set_option linter.unusedVariables false
set_option linter.unusedSimpArgs false
set_option maxRecDepth 10000
namespace Go.Am.Ar
def Pf (ow : List Int) (side : Int) (v : Nat) : Bool := decide (ow.getD v 0 = side)
def Sf (su : List (List Int)) (v : Nat) : List Nat := (su.getD v []).map Int.toNat
def Zf (keep : List Int) (v : Nat) : Bool := decide ((v : Int) ∈ keep)
theorem row_ok {ow pr : List Int} {su : List (List Int)} (V : Valid ow pr su) {v : Nat} (hv : v < ow.length) : su.getD v [] ≠ [] ∧ (su.getD v []).Pairwise (· < ·) ∧ ∀ u ∈ su.getD v [], 0 ≤ u ∧ u < ow.length := by
  have hs := V.s
  have hi : v < su.length := by omega
  obtain ⟨_, _, _, h1, q⟩ := V.row v hi
  have e : su.getD v [] = su[v] := by simp [List.getD, hi]
  obtain ⟨q1, q2⟩ := posM_rise q
  rw [e]
  exact ⟨fun h => by rw [h] at h1; simp at h1, q1, fun u hu => by have := q2 u hu; omega⟩
theorem Sf_ok {ow pr : List Int} {su : List (List Int)} (V : Valid ow pr su) {v : Nat} (hv : v < ow.length) : Sf su v ≠ [] ∧ (∀ u ∈ Sf su v, u < ow.length) ∧ (Sf su v).Nodup := by
  obtain ⟨h1, h2, h3⟩ := row_ok V hv
  refine ⟨fun h => h1 (List.map_eq_nil_iff.1 h), fun u hu => ?_, ?_⟩
  · obtain ⟨w, hw, rfl⟩ := List.mem_map.1 hu
    have := h3 w hw; omega
  · unfold Sf
    refine List.pairwise_map.2 (List.Pairwise.imp_of_mem ?_ h2)
    intro a b ha hb hab e
    have := h3 a ha; have := h3 b hb; omega
end Go.Am.Ar
set_option linter.unusedVariables false
set_option linter.unusedSimpArgs false
set_option maxRecDepth 10000
namespace Go.Am.Ar
open Go.Am renaming pchk → P1, pold → P2, PKNo → P3, ppack → P4, PObj.under → P5, pput → P6, ptset → P7, ptget → P8, pev → P9, ofAV → P10, ofAV1 → P11, ppad → P12, pfill → P13, prepl → P14, AO.effect → P15
open List renaming replicate → L1
open Nat renaming reduceAdd → N1, reduceSub → N2, reduceMul → N3, reduceLT → N4, reduceLeDiff → N5, reduceEqDiff → N6, reduceBEq → N7
open Int renaming reduceToNat → I1, reduceLT → I2, reduceLE → I3, reduceEq → I4, reduceAdd → I5, reduceSub → I6, reduceNeg → I7
abbrev nI (q : List Nat) : List Int := q.map fun (x : Nat) => (x : Int)
def RowsIn (su : List (List Int)) : Prop := su.length < 1000000000000 ∧ ∀ row ∈ su, row.length < 1000000000000 ∧ ∀ x ∈ row, 0 ≤ x ∧ x < su.length
section
variable {tab : FuncId → Option AF} (T : HasA tab)
include T
theorem reach_p {M : Mem} {K : PV → Mem → Prop} {f1 o1 f2 o2 f3 o3 : Bool} {su : List (List Int)} {bs : List Bool} {v : Nat} (R : RowsIn su) (hb : bs.length = su.length) (hv : v < su.length)
    (hk : ∀ w, w.length = su.length → (∀ u, bm w u ↔ Rch (fun a b => b ∈ Sf su a) (bm bs) v u) → K (slB false true w) M) :
    SemC tab 60 [slR f1 o1 f2 o2 .i64 su, slB f3 o3 bs, p64 v] M K := by
  obtain ⟨hn, hr⟩ := R
  refine SemC_pureS T.h60 (by simp only [PP, P1, P2, P3, P4, P5, P6, P7, P8, P9, P10, P11, P12, P13, P14, L1, P15, N1, N2, N3, N4, N5, N6, N7, I1, I2, I3, I4, I5, I6, I7, reduceIte, reduceCtorEq]) ?_
  simp only [af60]
  have b0 : (0 : Int) ≤ su.length := by omega
  have b1 : (su.length : Int) * 1 ≤ 140737488355328 := by omega
  have b2 : (su.length : Int) ≤ 9223372036854775807 := by omega
  refine SemW_seq (SemW_of ?_)
  simp only [PP, P1, P2, P3, P4, P5, P6, P7, P8, P9, P10, P11, P12, P13, P14, L1, P15, N1, N2, N3, N4, N5, N6, N7, I1, I2, I3, I4, I5, I6, I7, reduceIte, reduceCtorEq]
  refine SemW_seq (SemW_of ?_)
  simp only [PP, P1, P2, P3, P4, P5, P6, P7, P8, P9, P10, P11, P12, P13, P14, L1, P15, N1, N2, N3, N4, N5, N6, N7, I1, I2, I3, I4, I5, I6, I7, reduceIte, reduceCtorEq, b0, b1, b2, Int.le_refl]
  refine SemW_seq (SemW_lit ?_)
  simp only [PP, P1, P2, P3, P4, P5, P6, P7, P8, P9, P10, P11, P12, P13, P14, L1, P15, N1, N2, N3, N4, N5, N6, N7, I1, I2, I3, I4, I5, I6, I7, reduceIte, reduceCtorEq]
  refine ⟨_, rfl, ?_⟩
  have row : ∀ u, u < su.length → ∃ r, su[u]? = some r ∧ Sf su u = r.map Int.toNat ∧ r.length < 1000000000000 ∧ ∀ x ∈ r, 0 ≤ x ∧ x < su.length := fun u hu => by
    obtain ⟨r, g⟩ := some_of hu
    refine ⟨r, g, ?_, hr r (List.mem_of_getElem? g)⟩
    unfold Sf; rw [List.getD, g]; rfl
  refine SemW_seq (SemW_of ?_)
  simp only [PP, P1, P2, P3, P4, P5, P6, P7, P8, P9, P10, P11, P12, P13, P14, L1, P15, N1, N2, N3, N4, N5, N6, N7, I1, I2, I3, I4, I5, I6, I7, reduceIte, reduceCtorEq]
  refine loop6 (fun (g v2 off : Nat) (cs : List Nat) (ver : Nat) (w : List Bool) => off ≤ cs.length ∧ (cs.drop off).length ≤ w.count true + 1 ∧ RJ (Sf su) (bm bs) v su.length w (cs.drop off) fun _ => False)
    (fun g v2 off cs ver w => [slR f1 o1 f2 o2 .i64 su, slB f3 o3 bs, .junk, .junk, .junk, .junk, .junk, .ref 0 0 1 0 su.length, .ref 1 g 1 off (cs.length - off), .junk, .junk, .junk, .junk, .junk, .junk, .junk, .junk, .junk, .junk, .junk, .junk, .junk, .junk, .junk, .junk, .junk, .junk, .junk, .junk, .junk, .junk, .junk, .junk, .junk, .junk, .junk, .junk, .junk, .junk, .junk, .junk, .junk, .junk, .junk, .junk, .junk, .junk, .junk, .junk, .junk, .junk, .junk, .junk, .junk, .junk, .junk, .junk, .junk, .junk, .junk])
    (fun g v2 off cs ver w => [.cells 0 ver (w.map PV.bool), .cells g v2 ((nI cs).map (PV.int .i64))])
    (fun g v2 off cs ver w => (su.length - w.count true) + (cs.length - off)) 0 0 0 [v] 0 (List.replicate su.length false) ⟨by simp, by simp, RJ.start hv⟩ (by simp only [PWeak_nil, PWeak_junk, PWeak_same, Int.cast_ofNat_Int, List.length_append, List.length_cons, List.length_nil, Nat.zero_add]) (by simp only [List.map_replicate]; rfl) ?_
  intro g v2 off cs ver w ⟨hle, hql, j⟩ ih
  refine SemW_go (by kernel_rfl) ?_
  simp only [PP, P1, P2, P3, P4, P5, P6, P7, P8, P9, P10, P11, P12, P13, P14, L1, P15, N1, N2, N3, N4, N5, N6, N7, I1, I2, I3, I4, I5, I6, I7, reduceIte, reduceCtorEq]
  refine QIf.intro (fun c => ?_) (fun c => ?_)
  · have hlt : off < cs.length := by omega
    obtain ⟨u, gu⟩ := some_of (xs := cs) (k := off) hlt
    have hd : cs.drop off = u :: cs.drop (off + 1) := by
      rw [List.drop_eq_getElem_cons hlt]; rw [List.getElem?_eq_getElem hlt] at gu; cases gu; rfl
    rw [hd] at j hql
    have hu : u < su.length := j.qn u (List.mem_cons_self ..)
    have hum := j.qr u (List.mem_cons_self ..)
    obtain ⟨r, gr, er, hrl, hrx⟩ := row u hu
    have u0 : (0 : Int) ≤ u := by omega
    have u1 : (u : Int) < su.length := by omega
    have k1 : (0 : Int) < ((cs.length - off : Nat) : Int) := by omega
    have k2 : (1 : Int) ≤ ((cs.length - off : Nat) : Int) := by omega
    have k3 : (((cs.length - off : Nat) : Int) - 1).toNat = cs.length - (off + 1) := by omega
    simp only [PP, P1, P2, P3, P4, P5, P6, P7, P8, P9, P10, P11, P12, P13, P14, L1, P15, N1, N2, N3, N4, N5, N6, N7, I1, I2, I3, I4, I5, I6, I7, reduceIte, reduceCtorEq, c, gu, k1, k2, k3, Int.le_refl]
    have hj0 : RJ (Sf su) (bm bs) v su.length w (cs.drop (off + 1)) (fun x => x = u) := j.pop
    refine loop7 (fun (g' v2' off' : Nat) (cs' : List Nat) (ver' : Nat) (w' : List Bool) (i : Nat) => off' ≤ cs'.length ∧ (cs'.drop off').length ≤ w'.count true ∧ RJ (Sf su) (bm bs) v su.length w' (cs'.drop off') (fun x => x = u) ∧ (u = v ∨ bm w' u) ∧ i ≤ r.length ∧ (∀ k, k < i → ∀ x, r[k]? = some x → bm bs x.toNat → bm w' x.toNat) ∧ (su.length - w'.count true) + (cs'.length - off') < (su.length - w.count true) + (cs.length - off))
      (fun g' v2' off' cs' ver' w' i => [slR f1 o1 f2 o2 .i64 su, slB f3 o3 bs, .junk, .junk, .junk, .junk, .junk, .ref 0 0 1 0 su.length, .ref 1 g' 1 off' (cs'.length - off'), p64 u, p64 i, .junk, .junk, .junk, .junk, .junk, .junk, .junk, .junk, .junk, .junk, .junk, .junk, .junk, .junk, .junk, .junk, .junk, .junk, .junk, .junk, .junk, .junk, .junk, .junk, .junk, .junk, .junk, .junk, .junk, .junk, .junk, .junk, .junk, .junk, .junk, .junk, .junk, .junk, .junk, .junk, .junk, .junk, .junk, .junk, .junk, .junk, .junk, .junk, .junk])
      (fun g' v2' off' cs' ver' w' i => [.cells 0 ver' (w'.map PV.bool), .cells g' v2' ((nI cs').map (PV.int .i64))])
      (fun g' v2' off' cs' ver' w' i => r.length - i) g v2 (off + 1) cs ver w 0 ⟨by omega, by simpa using hql, hj0, hum, by omega, (fun k hk => by omega), by omega⟩ (by simp only [PWeak_nil, PWeak_junk, PWeak_same, Int.cast_ofNat_Int, List.length_append, List.length_cons, List.length_nil, Nat.zero_add]) rfl ?_
    intro g' v2' off' cs' ver' w' i ⟨hle', hql', j', hum', hi, hdone, hmea⟩ ih2
    refine SemW_go (by kernel_rfl) ?_
    simp only [PP, P1, P2, P3, P4, P5, P6, P7, P8, P9, P10, P11, P12, P13, P14, L1, P15, N1, N2, N3, N4, N5, N6, N7, I1, I2, I3, I4, I5, I6, I7, reduceIte, reduceCtorEq, u0, u1, gr]
    refine QIf.intro (fun d => ?_) (fun d => ?_)
    · have hi' : i < r.length := by omega
      obtain ⟨x, gx⟩ := some_of (xs := r) (k := i) hi'
      have hx := hrx x (List.mem_of_getElem? gx)
      obtain ⟨a, rfl⟩ : ∃ a : Nat, x = a := ⟨x.toNat, by omega⟩
      have ha : a < su.length := by omega
      have a0 : (0 : Int) ≤ a := by omega
      have a1 : (a : Int) < su.length := by omega
      have i0 : (0 : Int) ≤ i := by omega
      have i1 : (i : Int) < r.length := by omega
      have hwk := wrap_succ (k := i) (by show _ < 1000000000000; omega)
      have hS : a ∈ Sf su u := by rw [er]; exact List.mem_map.2 ⟨_, List.mem_of_getElem? gx, by simp⟩
      obtain ⟨y, gy⟩ := some_of (xs := bs) (k := a) (by omega)
      have lw' := j'.lw
      obtain ⟨z, gz⟩ := some_of (xs := w') (k := a) (by omega)
      have stay : (bm bs a → bm w' a) → ∀ k, k < i + 1 → ∀ x, r[k]? = some x → bm bs x.toNat → bm w' x.toNat := fun h k hk x hx hb => by
        by_cases e : k = i
        · subst e; rw [gx] at hx; cases hx; exact h hb
        · exact hdone k (by omega) x hx hb
      cases y with
      | false =>
        simp only [PP, P1, P2, P3, P4, P5, P6, P7, P8, P9, P10, P11, P12, P13, P14, L1, P15, N1, N2, N3, N4, N5, N6, N7, I1, I2, I3, I4, I5, I6, I7, reduceIte, reduceCtorEq, d, u0, u1, gr, gx, i0, i1, a0, a1, hb, gy, hwk]
        exact SemW_weak (ih2 g' v2' off' cs' ver' w' (i + 1) ⟨hle', hql', j', hum', hi', stay (fun h => by rw [bm_of gy] at h; cases h), hmea⟩ (by omega)) (by simp only [PWeak_nil, PWeak_junk, PWeak_same, Int.cast_ofNat_Int, List.length_append, List.length_cons, List.length_nil, Nat.zero_add])
      | true =>
        cases z with
        | true =>
          simp only [PP, P1, P2, P3, P4, P5, P6, P7, P8, P9, P10, P11, P12, P13, P14, L1, P15, N1, N2, N3, N4, N5, N6, N7, I1, I2, I3, I4, I5, I6, I7, reduceIte, reduceCtorEq, d, u0, u1, gr, gx, i0, i1, a0, a1, hb, gy, gz, lw', hwk]
          exact SemW_weak (ih2 g' v2' off' cs' ver' w' (i + 1) ⟨hle', hql', j', hum', hi', stay (fun h => gz), hmea⟩ (by omega)) (by simp only [PWeak_nil, PWeak_junk, PWeak_same, Int.cast_ofNat_Int, List.length_append, List.length_cons, List.length_nil, Nat.zero_add])
        | false =>
          simp only [PP, P1, P2, P3, P4, P5, P6, P7, P8, P9, P10, P11, P12, P13, P14, L1, P15, N1, N2, N3, N4, N5, N6, N7, I1, I2, I3, I4, I5, I6, I7, reduceIte, reduceCtorEq, d, u0, u1, gr, gx, i0, i1, a0, a1, hb, gy, gz, lw', hwk]
          have nb : ¬ bm w' a := fun h => by rw [bm_of gz] at h; cases h
          have hc1 := count_add gz
          have hc2 : w'.count true ≤ w'.length := List.count_le_length
          have hc3 : (w'.set a true).count true ≤ (w'.set a true).length := List.count_le_length
          rw [List.length_set] at hc3
          rw [List.length_drop] at hql'
          have hal : a < w'.length := by omega
          refine ⟨by omega, ⟨by omega, by omega, by omega⟩, ?_⟩
          rw [show cs'.length - off' + 1 = (cs'.drop off' ++ [a]).length - 0 by simp]
          refine SemW_to (ih2 (g' + 1) 0 0 (cs'.drop off' ++ [a]) (ver' + 1) (w'.set a true) (i + 1) ⟨by omega, by simp; omega, j'.push hum' hS ((bm_of gy).2 rfl) ha, hum'.imp id fun h => (bm_set hal).2 (.inr h), hi', fun k hk x hx hb => ?_, by simp; omega⟩ (by omega)) (by simp only [PWeak_nil, PWeak_junk, PWeak_same, Int.cast_ofNat_Int, List.length_append, List.length_cons, List.length_nil, Nat.zero_add]) (by simp [psub, List.map_set, List.map_drop, List.take_of_length_le])
          by_cases e : k = i
          · subst e; rw [gx] at hx; cases hx; exact (bm_set hal).2 (.inl (by simp))
          · exact (bm_set hal).2 (.inr (hdone k (by omega) x hx hb))
    · have hir : i = r.length := by omega
      simp only [PP, P1, P2, P3, P4, P5, P6, P7, P8, P9, P10, P11, P12, P13, P14, L1, P15, N1, N2, N3, N4, N5, N6, N7, I1, I2, I3, I4, I5, I6, I7, reduceIte, reduceCtorEq, d]
      refine SemW_weak (ih g' v2' off' cs' ver' w' ⟨hle', by omega, j'.close fun y hy hq => ?_⟩ hmea) (by simp only [PWeak_nil, PWeak_junk, PWeak_same, Int.cast_ofNat_Int, List.length_append, List.length_cons, List.length_nil, Nat.zero_add])
      rw [er] at hy
      obtain ⟨x, hx, rfl⟩ := List.mem_map.1 hy
      obtain ⟨k, hk, e⟩ := List.mem_iff_getElem.1 hx
      exact hdone k (by omega) x (by rw [List.getElem?_eq_getElem hk, e]) hq
  · have hd : cs.drop off = [] := List.drop_eq_nil_of_le (by omega)
    rw [hd] at j
    have lw := j.lw
    simp only [PP, P1, P2, P3, P4, P5, P6, P7, P8, P9, P10, P11, P12, P13, P14, L1, P15, N1, N2, N3, N4, N5, N6, N7, I1, I2, I3, I4, I5, I6, I7, reduceIte, reduceCtorEq, c]
    refine SemW_of ?_
    simp only [PP, P1, P2, P3, P4, P5, P6, P7, P8, P9, P10, P11, P12, P13, P14, L1, P15, N1, N2, N3, N4, N5, N6, N7, I1, I2, I3, I4, I5, I6, I7, reduceIte, reduceCtorEq, ← lw]
    exact hk w lw j.fin
end
end Go.Am.Ar
set_option linter.unusedVariables false
set_option linter.unusedSimpArgs false
set_option maxRecDepth 10000
namespace Go.Am.Ar
open Go.Am renaming pchk → P1, pold → P2, PKNo → P3, ppack → P4, PObj.under → P5, pput → P6, ptset → P7, ptget → P8, pev → P9, ofAV → P10, ofAV1 → P11, ppad → P12, pfill → P13, prepl → P14, AO.effect → P15
open List renaming replicate → L1
open Nat renaming reduceAdd → N1, reduceSub → N2, reduceMul → N3, reduceLT → N4, reduceLeDiff → N5, reduceEqDiff → N6, reduceBEq → N7
open Int renaming reduceToNat → I1, reduceLT → I2, reduceLE → I3, reduceEq → I4, reduceAdd → I5, reduceSub → I6, reduceNeg → I7
theorem cutOk_cells (n g v : Nat) (cs : List PV) : cutOk n (.cells g v cs) = underL n cs := rfl
def idxB (v : Bool) : Nat → List Bool → Int
  | _, [] => -1
  | k, x :: l => if v = x then (k : Int) else idxB v (k + 1) l
theorem idxB_iff (v : Bool) : ∀ (l : List Bool) (k : Nat), 0 ≤ idxB v k l ↔ v ∈ l
  | [], k => by simp [idxB]
  | x :: l, k => by
    unfold idxB
    by_cases h : v = x
    · rw [if_pos h]; simp [h]
    · rw [if_neg h, idxB_iff v l (k + 1)]; simp [h]
def minusL (a b : List Bool) (n : Nat) : List Bool := (List.range n).map fun v => a.getD v false && !b.getD v false
theorem minusL_len (a b : List Bool) (n : Nat) : (minusL a b n).length = n := by simp [minusL]
theorem minusL_succ (a b : List Bool) (n : Nat) : minusL a b (n + 1) = minusL a b n ++ [a.getD n false && !b.getD n false] := by simp [minusL, List.range_succ]
theorem bm_minus {a b : List Bool} {n : Nat} (ha : a.length = n) {v : Nat} : bm (minusL a b n) v ↔ bm a v ∧ ¬ bm b v := by
  unfold bm minusL
  rw [List.getElem?_map]
  by_cases h : v < n
  · rw [List.getElem?_range h]
    simp only [Option.map_some, Option.some.injEq, Bool.and_eq_true, List.getD]
    rw [List.getElem?_eq_getElem (by omega : v < a.length)]
    simp only [Option.getD_some, Option.some.injEq]
    cases hb : b[v]? with
    | none => simp
    | some x => cases x <;> simp
  · rw [List.getElem?_eq_none (by simp; omega), List.getElem?_eq_none (by omega : a.length ≤ v)]
    simp
theorem filter_lt {l : List Nat} {p q : Nat → Bool} (h : ∀ x ∈ l, p x = true → q x = true) {y : Nat} (hy : y ∈ l) (h1 : q y = true) (h2 : p y = false) : (l.filter p).length < (l.filter q).length := by
  have le : ∀ l : List Nat, (∀ x ∈ l, p x = true → q x = true) → (l.filter p).length ≤ (l.filter q).length := by
    intro l
    induction l with
    | nil => intro _; exact Nat.le_refl _
    | cons x l ih =>
      intro h
      have ih := ih fun z hz => h z (by simp [hz])
      by_cases e : p x = true
      · have := h x (by simp) e
        simp only [List.filter_cons, e, this, if_true, List.length_cons]; omega
      · by_cases e2 : q x = true
        · simp only [List.filter_cons, e, e2, if_true, List.length_cons]; simp only [Bool.false_eq_true, if_false]; omega
        · simp only [List.filter_cons, e, e2]; simpa using ih
  induction l with
  | nil => cases hy
  | cons x l ih =>
    have hl := le l fun z hz => h z (by simp [hz])
    rcases List.mem_cons.1 hy with rfl | hy
    · simp only [List.filter_cons, h1, h2, if_true, List.length_cons]
      simp only [Bool.false_eq_true, if_false]; omega
    · have ih := ih (fun z hz => h z (by simp [hz])) hy
      by_cases e : p x = true
      · have := h x (by simp) e
        simp only [List.filter_cons, e, this, if_true, List.length_cons]; omega
      · by_cases e2 : q x = true
        · simp only [List.filter_cons, e, e2, if_true, List.length_cons]; simp only [Bool.false_eq_true, if_false]; omega
        · simp only [List.filter_cons, e, e2]; simpa using ih
theorem count_eq {L : List Bool} {n : Nat} (h : L.length = n) : L.count true = ((List.range n).filter fun v => decide (bm L v)).length := by
  have e : L = (List.range n).map fun v => L.getD v false := by
    apply List.ext_getElem?
    intro v
    by_cases hv : v < n
    · simp [hv, List.getD, List.getElem?_eq_getElem (h ▸ hv : v < L.length)]
    · rw [List.getElem?_eq_none (by omega), List.getElem?_eq_none (by simp; omega)]
  have h2 : L.count true = ((List.range n).map fun v => L.getD v false).count true := congrArg _ e
  rw [h2, List.count, List.countP_map, List.countP_eq_length_filter]
  congr 1
  refine List.filter_congr fun v hv => ?_
  have hv := List.mem_range.1 hv
  show (L.getD v false == true) = decide (bm L v)
  have hg : L[v]? = some L[v] := List.getElem?_eq_getElem (by omega : v < L.length)
  have hb := bm_of hg
  rw [List.getD, hg]
  cases hL : L[v] with
  | true => simp [hb, hL]
  | false => simp [hb, hL]
theorem count_minus {a b : List Bool} {n : Nat} (ha : a.length = n) {v : Nat} (h1 : bm a v) (h2 : bm b v) : (minusL a b n).count true < a.count true := by
  rw [count_eq (minusL_len a b n), count_eq ha]
  refine filter_lt (fun x _ h => decide_eq_true ((bm_minus ha).1 (of_decide_eq_true h)).1) (y := v) (List.mem_range.2 (by have := bm_lt h1; omega)) (decide_eq_true h1) (decide_eq_false fun h => ((bm_minus ha).1 h).2 h2)
theorem mem_bm {L : List Bool} : true ∈ L ↔ ∃ v, bm L v := by
  constructor
  · intro h; obtain ⟨i, hi⟩ := List.getElem?_of_mem h; exact ⟨i, hi⟩
  · rintro ⟨v, h⟩; exact List.mem_of_getElem? h
theorem not_mem_bm {L : List Bool} (h : ¬ true ∈ L) (v : Nat) : ¬ bm L v := fun q => h (mem_bm.2 ⟨v, q⟩)
def SmI (row : List Int) (inL out : List Bool) (i : Nat) (sm : Int) (al : Bool) : Prop :=
  ((sm < 0 ∧ ∀ u ∈ row.take i, ¬ (bm inL u.toNat ∧ bm out u.toNat)) ∨ (0 ≤ sm ∧ sm ∈ row ∧ bm out sm.toNat)) ∧ (al = true ↔ ∀ u ∈ row.take i, bm inL u.toNat → bm out u.toNat)
theorem SmI.al {row : List Int} {inL out : List Bool} {i : Nat} {sm : Int} {al : Bool} (h : SmI row inL out i sm al) {u : Int} (g : row[i]? = some u) {x y : Bool} (hx : inL[u.toNat]? = some x) (hy : out[u.toNat]? = some y) : (al && (!x || y)) = true ↔ ∀ u ∈ row.take (i + 1), bm inL u.toNat → bm out u.toNat := by
  rw [take_some g]
  have h1 : (!x || y) = true ↔ (bm inL u.toNat → bm out u.toNat) := by
    rw [bm_of hx, bm_of hy]
    cases x <;> cases y <;> simp
  rw [Bool.and_eq_true, h.2, h1]
  constructor
  · rintro ⟨q1, q2⟩ w hw
    rcases List.mem_append.1 hw with q | q
    · exact q1 w q
    · rw [List.mem_singleton] at q; subst q; exact q2
  · intro q
    exact ⟨fun w hw => q w (by simp [hw]), q u (by simp)⟩
theorem SmI.keep {row : List Int} {inL out : List Bool} {i : Nat} {sm : Int} {al : Bool} (h : SmI row inL out i sm al) {u : Int} (g : row[i]? = some u) {x y : Bool} (hx : inL[u.toNat]? = some x) (hy : out[u.toNat]? = some y) (hk : (x && y) = false ∨ ¬ sm < 0) : SmI row inL out (i + 1) sm (al && (!x || y)) := by
  refine ⟨?_, h.al g hx hy⟩
  rcases h.1 with ⟨q1, q2⟩ | q
  · refine .inl ⟨q1, fun w hw => ?_⟩
    rw [take_some g] at hw
    rcases List.mem_append.1 hw with q | q
    · exact q2 w q
    · rw [List.mem_singleton] at q; subst q
      rw [bm_of hx, bm_of hy]
      rcases hk with hk | hk
      · rintro ⟨rfl, rfl⟩; cases hk
      · exact absurd q1 hk
  · exact .inr q
theorem SmI.take {row : List Int} {inL out : List Bool} {i : Nat} {sm : Int} {al : Bool} (h : SmI row inL out i sm al) {u : Int} (g : row[i]? = some u) (hu : 0 ≤ u) (hx : inL[u.toNat]? = some true) (hy : out[u.toNat]? = some true) : SmI row inL out (i + 1) u (al && (!true || true)) :=
  ⟨.inr ⟨hu, List.mem_of_getElem? g, (bm_of hy).2 rfl⟩, h.al g hx hy⟩
section
variable {tab : FuncId → Option AF} (T : HasA tab)
include T
theorem indexB_p {M : Mem} {K : PV → Mem → Prop} {f o : Bool} {xs : List Bool} {v : Bool} (hm : xs.length < big) (hk : K (p64 (idxB v 0 xs)) M) :
    SemC tab 76 [slB f o xs, .bool v] M K := by
  refine SemC_pure T.h76 (by simp only [PP, P1, P2, P3, P4, P5, P6, P7, P8, P9, P10, P11, P12, P13, P14, L1, P15, N1, N2, N3, N4, N5, N6, N7, I1, I2, I3, I4, I5, I6, I7, reduceIte, reduceCtorEq]) ?_
  simp only [af76, PP, P1, P2, P3, P4, P5, P6, P7, P8, P9, P10, P11, P12, P13, P14, L1, P15, N1, N2, N3, N4, N5, N6, N7, I1, I2, I3, I4, I5, I6, I7, reduceIte, reduceCtorEq]
  refine loop1 (fun (k : Nat) => k ≤ xs.length ∧ K (p64 (idxB v k (xs.drop k))) M) (fun k => [slB f o xs, .bool v, .junk, .junk, .junk, .junk, .junk, p64 xs.length, p64 k, .junk, .junk, .junk, .junk, .junk, .junk, .junk, .junk, .junk, .junk]) (fun _ => []) (fun k => xs.length - k) 0 ⟨by omega, hk⟩ (by simp only [PWeak_nil, PWeak_junk, PWeak_same, Int.cast_ofNat_Int, List.length_append, List.length_cons, List.length_nil, Nat.zero_add]) rfl ?_
  intro k ⟨hle, hq⟩ ih
  refine SemW_go (by kernel_rfl) ?_
  simp only [PP, P1, P2, P3, P4, P5, P6, P7, P8, P9, P10, P11, P12, P13, P14, L1, P15, N1, N2, N3, N4, N5, N6, N7, I1, I2, I3, I4, I5, I6, I7, reduceIte, reduceCtorEq]
  refine QIf.intro (fun c => ?_) (fun c => ?_)
  · have hk' : k < xs.length := by omega
    obtain ⟨x, g⟩ := some_of hk'
    rw [drop_some g, idxB] at hq
    have hw := wrap_succ (k := k) (by omega)
    have h0 : (0 : Int) ≤ k := by omega
    by_cases h1 : v = x
    · subst h1
      rw [if_pos rfl] at hq
      simp only [PP, P1, P2, P3, P4, P5, P6, P7, P8, P9, P10, P11, P12, P13, P14, L1, P15, N1, N2, N3, N4, N5, N6, N7, I1, I2, I3, I4, I5, I6, I7, reduceIte, reduceCtorEq, c, g, h0]
      exact hq
    · rw [if_neg h1] at hq
      have hb : (v == x) = false := by simpa using h1
      simp only [PP, P1, P2, P3, P4, P5, P6, P7, P8, P9, P10, P11, P12, P13, P14, L1, P15, N1, N2, N3, N4, N5, N6, N7, I1, I2, I3, I4, I5, I6, I7, reduceIte, reduceCtorEq, c, g, h0, hb, hw]
      exact SemW_weak (ih (k + 1) ⟨by omega, hq⟩ (by omega)) (by simp only [PWeak_nil, PWeak_junk, PWeak_same, Int.cast_ofNat_Int, List.length_append, List.length_cons, List.length_nil, Nat.zero_add])
  · rw [List.drop_eq_nil_of_le (by omega)] at hq
    simp only [PP, P1, P2, P3, P4, P5, P6, P7, P8, P9, P10, P11, P12, P13, P14, L1, P15, N1, N2, N3, N4, N5, N6, N7, I1, I2, I3, I4, I5, I6, I7, reduceIte, reduceCtorEq, c]
    exact hq
theorem containsB_p {M : Mem} {K : PV → Mem → Prop} {f o : Bool} {xs : List Bool} {v : Bool} (hm : xs.length < big) (hk : K (.bool (decide (v ∈ xs))) M) :
    SemC tab 68 [slB f o xs, .bool v] M K := by
  refine SemC_pure T.h68 (by simp only [PP, P1, P2, P3, P4, P5, P6, P7, P8, P9, P10, P11, P12, P13, P14, L1, P15, N1, N2, N3, N4, N5, N6, N7, I1, I2, I3, I4, I5, I6, I7, reduceIte, reduceCtorEq]) ?_
  simp only [af68, PP, P1, P2, P3, P4, P5, P6, P7, P8, P9, P10, P11, P12, P13, P14, L1, P15, N1, N2, N3, N4, N5, N6, N7, I1, I2, I3, I4, I5, I6, I7, reduceIte, reduceCtorEq]
  refine indexB_p T hm ?_
  have e : decide (0 ≤ idxB v 0 xs) = decide (v ∈ xs) := by simp only [idxB_iff]
  simp only [PP, P1, P2, P3, P4, P5, P6, P7, P8, P9, P10, P11, P12, P13, P14, L1, P15, N1, N2, N3, N4, N5, N6, N7, I1, I2, I3, I4, I5, I6, I7, reduceIte, reduceCtorEq, e]
  exact hk
theorem empty_p {M : Mem} {K : PV → Mem → Prop} {f o : Bool} {xs : List Bool} (hm : xs.length < big) (hk : K (.bool (!decide (true ∈ xs))) M) :
    SemC tab 57 [slB f o xs] M K := by
  refine SemC_pure T.h57 (by simp only [PP, P1, P2, P3, P4, P5, P6, P7, P8, P9, P10, P11, P12, P13, P14, L1, P15, N1, N2, N3, N4, N5, N6, N7, I1, I2, I3, I4, I5, I6, I7, reduceIte, reduceCtorEq]) ?_
  simp only [af57, PP, P1, P2, P3, P4, P5, P6, P7, P8, P9, P10, P11, P12, P13, P14, L1, P15, N1, N2, N3, N4, N5, N6, N7, I1, I2, I3, I4, I5, I6, I7, reduceIte, reduceCtorEq]
  refine containsB_p T hm ?_
  simp only [PP, P1, P2, P3, P4, P5, P6, P7, P8, P9, P10, P11, P12, P13, P14, L1, P15, N1, N2, N3, N4, N5, N6, N7, I1, I2, I3, I4, I5, I6, I7, reduceIte, reduceCtorEq]
  exact hk
theorem minus_z {M : Mem} {K : PV → Mem → Prop} {f o f' o' : Bool} {a b : List Bool} {n : Nat} (ha : a.length = n) (hb : b.length = n) (hm : n < 1000000) (hk : K (slB false true (minusL a b n)) M) :
    SemC tab 55 [slB f o a, slB f' o' b] M K := by
  refine SemC_pure T.h55 (by simp only [PP, P1, P2, P3, P4, P5, P6, P7, P8, P9, P10, P11, P12, P13, P14, L1, P15, N1, N2, N3, N4, N5, N6, N7, I1, I2, I3, I4, I5, I6, I7, reduceIte, reduceCtorEq]) ?_
  have b0 : (0 : Int) ≤ n := by omega
  have b1 : (n : Int) * 1 ≤ 140737488355328 := by omega
  have b2 : (n : Int) ≤ 9223372036854775807 := by omega
  simp only [af55, PP, P1, P2, P3, P4, P5, P6, P7, P8, P9, P10, P11, P12, P13, P14, L1, P15, N1, N2, N3, N4, N5, N6, N7, I1, I2, I3, I4, I5, I6, I7, reduceIte, reduceCtorEq, ha, b0, b1, b2, Int.le_refl]
  refine loop3 (fun (k ver : Nat) (w : List Bool) => k ≤ n ∧ w.length = n ∧ ∀ v, v < k → w[v]? = some (a.getD v false && !b.getD v false))
    (fun k ver w => [slB f o a, slB f' o' b, .junk, .junk, .junk, .ref 0 0 1 0 n, .junk, .junk, .junk, .junk, .junk, p64 n, p64 k, .junk, .junk, .junk, .junk, .junk, .junk, .junk, .junk, .junk, .junk, .junk, .junk, .junk, .junk, .junk, .junk, .junk, .junk]) (fun k ver w => [.cells 0 ver (w.map PV.bool)]) (fun k _ _ => n - k) 0 0 (List.replicate n false) ⟨by omega, by simp, by intro v h; omega⟩ (by simp only [PWeak_nil, PWeak_junk, PWeak_same, Int.cast_ofNat_Int, List.length_append, List.length_cons, List.length_nil, Nat.zero_add]) (by simp only [List.map_replicate]) ?_
  intro k ver w ⟨hle, hw, hget⟩ ih
  refine SemW_go (by kernel_rfl) ?_
  simp only [PP, P1, P2, P3, P4, P5, P6, P7, P8, P9, P10, P11, P12, P13, P14, L1, P15, N1, N2, N3, N4, N5, N6, N7, I1, I2, I3, I4, I5, I6, I7, reduceIte, reduceCtorEq]
  refine QIf.intro (fun c => ?_) (fun c => ?_)
  · have hk' : k < n := by omega
    obtain ⟨x, g1⟩ := some_of (xs := a) (k := k) (by omega)
    obtain ⟨y, g2⟩ := some_of (xs := b) (k := k) (by omega)
    have ea : a.getD k false = x := by simp [List.getD, g1]
    have eb : b.getD k false = y := by simp [List.getD, g2]
    have hwk := wrap_succ (k := k) (by show _ < 1000000000000; omega)
    have k0 : (0 : Int) ≤ k := by omega
    have k1 : k + 1 ≤ w.length := by omega
    have up : ∀ z, z = (x && !y) → k + 1 ≤ n ∧ (w.set k z).length = n ∧ ∀ v, v < k + 1 → (w.set k z)[v]? = some (a.getD v false && !b.getD v false) := fun z hz => by
      refine ⟨by omega, by simp [hw], fun v hv => ?_⟩
      by_cases e : v = k
      · subst e; rw [List.getElem?_set_self (by omega), ea, eb, hz]
      · rw [List.getElem?_set_ne (by omega)]; exact hget v (by omega)
    cases x
    · simp only [PP, P1, P2, P3, P4, P5, P6, P7, P8, P9, P10, P11, P12, P13, P14, L1, P15, N1, N2, N3, N4, N5, N6, N7, I1, I2, I3, I4, I5, I6, I7, reduceIte, reduceCtorEq, c, g1, k0, k1, ha, hb, hwk]
      exact SemW_to (ih (k + 1) (ver + 1) (w.set k false) (up _ rfl) (by omega)) (by simp only [PWeak_nil, PWeak_junk, PWeak_same, Int.cast_ofNat_Int, List.length_append, List.length_cons, List.length_nil, Nat.zero_add]) (by simp only [← List.map_set])
    · cases y
      · simp only [PP, P1, P2, P3, P4, P5, P6, P7, P8, P9, P10, P11, P12, P13, P14, L1, P15, N1, N2, N3, N4, N5, N6, N7, I1, I2, I3, I4, I5, I6, I7, reduceIte, reduceCtorEq, c, g1, g2, k0, k1, ha, hb, hwk]
        exact SemW_to (ih (k + 1) (ver + 1) (w.set k true) (up _ rfl) (by omega)) (by simp only [PWeak_nil, PWeak_junk, PWeak_same, Int.cast_ofNat_Int, List.length_append, List.length_cons, List.length_nil, Nat.zero_add]) (by simp only [← List.map_set])
      · simp only [PP, P1, P2, P3, P4, P5, P6, P7, P8, P9, P10, P11, P12, P13, P14, L1, P15, N1, N2, N3, N4, N5, N6, N7, I1, I2, I3, I4, I5, I6, I7, reduceIte, reduceCtorEq, c, g1, g2, k0, k1, ha, hb, hwk]
        exact SemW_to (ih (k + 1) (ver + 1) (w.set k false) (up _ rfl) (by omega)) (by simp only [PWeak_nil, PWeak_junk, PWeak_same, Int.cast_ofNat_Int, List.length_append, List.length_cons, List.length_nil, Nat.zero_add]) (by simp only [← List.map_set])
  · have hkn : k = n := by omega
    subst hkn
    have hwm : w = minusL a b k := by
      apply List.ext_getElem?
      intro v
      by_cases hv : v < k
      · rw [hget v hv]; simp [minusL, hv]
      · rw [List.getElem?_eq_none (by omega), List.getElem?_eq_none (by rw [minusL_len]; omega)]
    subst hwm
    have hfz : frzO (some (PObj.cells 0 ver ((minusL a b k).map PV.bool))) 0 1 0 k = some (slB false true (minusL a b k)) := by
      rw [frzO_cells (by rw [List.length_map, minusL_len]; omega) (underL_map _ _ (fun _ => rfl) _), psub_all _ _ (by rw [List.length_map, minusL_len]; omega)]
      unfold slB
      rw [minusL_len]
    simp only [PP, P1, P2, P3, P4, P5, P6, P7, P8, P9, P10, P11, P12, P13, P14, L1, P15, N1, N2, N3, N4, N5, N6, N7, I1, I2, I3, I4, I5, I6, I7, reduceIte, reduceCtorEq, c, hfz]
    exact hk
end
end Go.Am.Ar
set_option linter.unusedVariables false
set_option linter.unusedSimpArgs false
set_option maxRecDepth 10000
namespace Go.Am.Ar
open Go.Am renaming pchk → P1, pold → P2, PKNo → P3, ppack → P4, PObj.under → P5, pput → P6, ptset → P7, ptget → P8, pev → P9, ofAV → P10, ofAV1 → P11, ppad → P12, pfill → P13, prepl → P14, AO.effect → P15
open List renaming replicate → L1
open Nat renaming reduceAdd → N1, reduceSub → N2, reduceMul → N3, reduceLT → N4, reduceLeDiff → N5, reduceEqDiff → N6, reduceBEq → N7
open Int renaming reduceToNat → I1, reduceLT → I2, reduceLE → I3, reduceEq → I4, reduceAdd → I5, reduceSub → I6, reduceNeg → I7
abbrev zO (ow : List Int) (v : Nat) : Int := ow.getD v 0
abbrev zSol (f1 p1 f2 p2 f3 p3 f4 p4 : Bool) (ow pr : List Int) (su : List (List Int)) : List PV := [slI f1 p1 .u8 ow, slI f2 p2 .i64 pr, slR f3 p3 f4 p4 .i64 su, .ref 2 0 1 0 ow.length]
structure ZSt where
  ver : Nat
  ver2 : Nat
  st : List Int
  out : List Bool
  r : Nat → Nat
  c : Nat
theorem cnt_le (l : List Bool) : l.count true ≤ l.length := List.count_le_length
section
variable {tab : FuncId → Option AF} (T : HasA tab)
include T
theorem attract_z {K : PV → Mem → Prop} {o0 o1 : PObj} {f1 p1 f2 p2 f3 p3 f4 p4 f5 p5 f6 p6 : Bool} {ow pr st0 : List Int} {su : List (List Int)} {inL tgt : List Bool} {p : Int} {ver0 : Nat} (V : Valid ow pr su) (B : Bnd ow pr su)
    (h0 : cutOk 4 o0 = true) (h1 : cutOk 4 o1 = true) (hi : inL.length = ow.length) (ht : tgt.length = ow.length) (hs : st0.length = ow.length) (hs0 : ∀ x ∈ st0, 0 ≤ x) (hti : ∀ v, bm tgt v → bm inL v)
    (hk : ∀ ver out st r, out.length = ow.length → st.length = ow.length → (∀ x ∈ st, 0 ≤ x) → AttIn (zO ow) (Sf su) (bm inL) p (bm tgt) (bm out) (stN st0) (stN st) r →
      K (slB false true out) [o0, o1, .cells 0 ver (st.map (PV.int .i64)), .cells 0 0 (zSol f1 p1 f2 p2 f3 p3 f4 p4 ow pr su)]) :
    SemC tab 56 [.ptr 3 0 0, slB f5 p5 inL, p8 p, slB f6 p6 tgt] [o0, o1, .cells 0 ver0 (st0.map (PV.int .i64)), .cells 0 0 (zSol f1 p1 f2 p2 f3 p3 f4 p4 ow pr su)] K := by
  refine SemC_gh (SemC_fn T.h56 ?_)
  have n0 := V.n0
  have n1 := V.n1
  have hsl := V.s
  have b1 : ow.length ≤ 140737488355328 := by omega
  have b2 : ow.length ≤ 9223372036854775807 := by omega
  have nz : ¬ ow.length = 0 := by omega
  simp only [af56, PP, P1, P2, P3, P4, P5, P6, P7, P8, P9, P10, P11, P12, P13, P14, L1, P15, N1, N2, N3, N4, N5, N6, N7, I1, I2, I3, I4, I5, I6, I7, reduceIte, reduceCtorEq]
  refine SemC_fn T.h59 ?_
  simp only [af59, PP, P1, P2, P3, P4, P5, P6, P7, P8, P9, P10, P11, P12, P13, P14, L1, P15, N1, N2, N3, N4, N5, N6, N7, I1, I2, I3, I4, I5, I6, I7, reduceIte, reduceCtorEq, ht, nz, b1, b2]
  refine loop1 (fun (s : ZSt) => AJ (zO ow) (Sf su) (bm inL) (bm tgt) p (stN st0) ow.length s.out s.st s.r s.c)
    (fun s => [.ptr 3 0 0, slB f5 p5 inL, p8 p, .junk, .junk, .junk, .junk, .junk, .junk, .ref 4 0 1 0 ow.length, .junk, .junk, .junk, .junk, .junk, .junk, .junk, .junk, .junk, .junk, .junk, .junk, .junk, .junk, .junk, .junk, .junk, .junk, .junk, .junk, .junk, .junk, .junk, .junk, .junk, .junk, .junk, .junk, .junk, .junk, .junk, .junk, .junk, .junk, .junk, .junk, .junk, .junk, .junk, .junk, .junk, .junk, .junk, .junk, .junk, .junk, .junk, .junk, .junk, .junk, .junk, .junk, .junk, .junk, .junk, .junk, .junk, .junk, .junk, .junk, .junk, .junk, .junk, .junk, .junk, .junk, .junk, .junk, .junk, .junk, .junk, .junk, .junk, .junk, .junk, .junk, .junk, .junk, .junk, .junk, .junk, .junk, .junk, .junk, .junk, .junk, .junk, .junk, .junk, .junk, .junk, .junk, .junk, .junk, .junk, .junk, .junk, .junk, .junk, .junk, .junk, .junk, .junk, .junk, .junk, .junk, .junk, .junk, .junk]) (fun s => [o0, o1, .cells 0 s.ver (s.st.map (PV.int .i64)), .cells 0 0 (zSol f1 p1 f2 p2 f3 p3 f4 p4 ow pr su), .cells 0 s.ver2 (s.out.map PV.bool)]) (fun s => ow.length - s.out.count true)
    ⟨ver0, 0, st0, tgt, fun _ => 0, 1⟩ (AJ.start ht hs hs0 hti) (by simp only [PWeak_nil, PWeak_junk, PWeak_same, Int.cast_ofNat_Int, List.length_append, List.length_cons, List.length_nil, Nat.zero_add]) rfl ?_
  intro s0 J0 ih
  refine SemW_go (by kernel_rfl) ?_
  simp only [PP, P1, P2, P3, P4, P5, P6, P7, P8, P9, P10, P11, P12, P13, P14, L1, P15, N1, N2, N3, N4, N5, N6, N7, I1, I2, I3, I4, I5, I6, I7, reduceIte, reduceCtorEq]
  refine loop3 (fun (s : ZSt) (v : Nat) (ch : Bool) => v ≤ ow.length ∧ AJ (zO ow) (Sf su) (bm inL) (bm tgt) p (stN st0) ow.length s.out s.st s.r s.c ∧ (ch = true → s0.out.count true < s.out.count true) ∧ s0.out.count true ≤ s.out.count true ∧ (ch = false → ∀ w, w < v → Stab (zO ow) (Sf su) (bm inL) p s.out w))
    (fun s v ch => [.ptr 3 0 0, slB f5 p5 inL, p8 p, .junk, .junk, .junk, .junk, .junk, .junk, .ref 4 0 1 0 ow.length, .bool ch, .junk, .junk, .junk, .junk, .junk, .junk, .junk, .junk, .junk, .junk, .junk, .junk, slR f3 p3 f4 p4 .i64 su, p64 su.length, p64 v, .junk, .junk, .junk, .junk, .junk, .junk, .junk, .junk, .junk, .junk, .junk, .junk, .junk, .junk, .junk, .junk, .junk, .junk, .junk, .junk, .junk, .junk, .junk, .junk, .junk, .junk, .junk, .junk, .junk, .junk, .junk, .junk, .junk, .junk, .junk, .junk, .junk, .junk, .junk, .junk, .junk, .junk, .junk, .junk, .junk, .junk, .junk, .junk, .junk, .junk, .junk, .junk, .junk, .junk, .junk, .junk, .junk, .junk, .junk, .junk, .junk, .junk, .junk, .junk, .junk, .junk, .junk, .junk, .junk, .junk, .junk, .junk, .junk, .junk, .junk, .junk, .junk, .junk, .junk, .junk, .junk, .junk, .junk, .junk, .junk, .junk, .junk, .junk, .junk, .junk, .junk, .junk, .junk]) (fun s _ _ => [o0, o1, .cells 0 s.ver (s.st.map (PV.int .i64)), .cells 0 0 (zSol f1 p1 f2 p2 f3 p3 f4 p4 ow pr su), .cells 0 s.ver2 (s.out.map PV.bool)]) (fun _ v _ => ow.length - v)
    s0 0 false ⟨by omega, J0, fun h => (by cases h), Nat.le_refl _, fun _ w hw => by omega⟩ (by simp only [PWeak_nil, PWeak_junk, PWeak_same, Int.cast_ofNat_Int, List.length_append, List.length_cons, List.length_nil, Nat.zero_add]) rfl ?_
  intro s v ch ⟨hle, J, hch, hcn, hst⟩ ih2
  have jo := J.lo
  have js := J.ls
  refine SemW_go (by kernel_rfl) ?_
  simp only [PP, P1, P2, P3, P4, P5, P6, P7, P8, P9, P10, P11, P12, P13, P14, L1, P15, N1, N2, N3, N4, N5, N6, N7, I1, I2, I3, I4, I5, I6, I7, reduceIte, reduceCtorEq]
  refine QIf.intro (fun c => ?_) (fun c => ?_)
  · have hv : v < ow.length := by omega
    have v0 : (0 : Int) ≤ v := by omega
    have hwv := wrap_succ (k := v) (by show _ < 1000000000000; omega)
    obtain ⟨row, g1⟩ := some_of (xs := su) (k := v) (by omega)
    obtain ⟨o, g2⟩ := some_of (xs := ow) (k := v) hv
    obtain ⟨x, g3⟩ := some_of (xs := inL) (k := v) (by omega)
    obtain ⟨y, g4⟩ := some_of (xs := s.out) (k := v) (by omega)
    have e1 : su.getD v [] = row := by simp [List.getD, g1]
    have eo : zO ow v = o := getD_some g2
    have eS : Sf su v = row.map Int.toNat := by unfold Sf; rw [e1]
    have hrb : row.length < 1000000000000 := B.r _ (List.mem_of_getElem? g1)
    have rr : ∀ u ∈ row, 0 ≤ u ∧ u < ow.length := fun u hu => su_range V hv (by rw [e1]; exact hu)
    have v1 : (v : Int) < inL.length := by omega
    have v2 : (v : Int) < ow.length := by omega
    -- nothing is added
    have skip : Stab (zO ow) (Sf su) (bm inL) p s.out v → (v + 1 ≤ ow.length ∧ AJ (zO ow) (Sf su) (bm inL) (bm tgt) p (stN st0) ow.length s.out s.st s.r s.c ∧ (ch = true → s0.out.count true < s.out.count true) ∧ s0.out.count true ≤ s.out.count true ∧ (ch = false → ∀ w, w < v + 1 → Stab (zO ow) (Sf su) (bm inL) p s.out w)) := fun h =>
      ⟨by omega, J, hch, hcn, fun e w hw => by
        by_cases q : w = v
        · subst q; exact h
        · exact hst e w (by omega)⟩
    simp only [PP, P1, P2, P3, P4, P5, P6, P7, P8, P9, P10, P11, P12, P13, P14, L1, P15, N1, N2, N3, N4, N5, N6, N7, I1, I2, I3, I4, I5, I6, I7, reduceIte, reduceCtorEq, c, g1, g3, v0, v1, hi, v2]
    cases x
    · simp only [PP, P1, P2, P3, P4, P5, P6, P7, P8, P9, P10, P11, P12, P13, P14, L1, P15, N1, N2, N3, N4, N5, N6, N7, I1, I2, I3, I4, I5, I6, I7, reduceIte, reduceCtorEq, hwv]
      exact SemW_weak (ih2 s (v + 1) ch (skip fun h => by rw [bm_of g3] at h; cases h) (by omega)) (by simp only [PWeak_nil, PWeak_junk, PWeak_same, Int.cast_ofNat_Int, List.length_append, List.length_cons, List.length_nil, Nat.zero_add])
    simp only [PP, P1, P2, P3, P4, P5, P6, P7, P8, P9, P10, P11, P12, P13, P14, L1, P15, N1, N2, N3, N4, N5, N6, N7, I1, I2, I3, I4, I5, I6, I7, reduceIte, reduceCtorEq, g4, v0, v2, jo]
    cases y
    rotate_left
    · simp only [PP, P1, P2, P3, P4, P5, P6, P7, P8, P9, P10, P11, P12, P13, P14, L1, P15, N1, N2, N3, N4, N5, N6, N7, I1, I2, I3, I4, I5, I6, I7, reduceIte, reduceCtorEq, hwv]
      exact SemW_weak (ih2 s (v + 1) ch (skip fun _ h => absurd ((bm_of g4).2 rfl) h) (by omega)) (by simp only [PWeak_nil, PWeak_junk, PWeak_same, Int.cast_ofNat_Int, List.length_append, List.length_cons, List.length_nil, Nat.zero_add])
    simp only [PP, P1, P2, P3, P4, P5, P6, P7, P8, P9, P10, P11, P12, P13, P14, L1, P15, N1, N2, N3, N4, N5, N6, N7, I1, I2, I3, I4, I5, I6, I7, reduceIte, reduceCtorEq]
    have hbi : bm inL v := (bm_of g3).2 rfl
    have hbo : ¬ bm s.out v := fun h => by rw [bm_of g4] at h; cases h
    refine loop3 (fun (i : Nat) (sm : Int) (al : Bool) => i ≤ row.length ∧ SmI row inL s.out i sm al)
      (fun i sm al => [.ptr 3 0 0, slB f5 p5 inL, p8 p, .junk, .junk, .junk, .junk, .junk, .junk, .ref 4 0 1 0 ow.length, .bool ch, p64 v, .junk, p64 sm, .bool al, .junk, .junk, .junk, .junk, .junk, .junk, .junk, .junk, slR f3 p3 f4 p4 .i64 su, p64 su.length, p64 v, .junk, .junk, .junk, .junk, .junk, .junk, .junk, .junk, .junk, .junk, .junk, .junk, .junk, .junk, .junk, slI f4 p4 .i64 row, p64 row.length, p64 i, .junk, .junk, .junk, .junk, .junk, .junk, .junk, .junk, .junk, .junk, .junk, .junk, .junk, .junk, .junk, .junk, .junk, .junk, .junk, .junk, .junk, .junk, .junk, .junk, .junk, .junk, .junk, .junk, .junk, .junk, .junk, .junk, .junk, .junk, .junk, .junk, .junk, .junk, .junk, .junk, .junk, .junk, .junk, .junk, .junk, .junk, .junk, .junk, .junk, .junk, .junk, .junk, .junk, .junk, .junk, .junk, .junk, .junk, .junk, .junk, .junk, .junk, .junk, .junk, .junk, .junk, .junk, .junk, .junk, .junk, .junk, .junk, .junk, .junk, .junk]) (fun _ _ _ => [o0, o1, .cells 0 s.ver (s.st.map (PV.int .i64)), .cells 0 0 (zSol f1 p1 f2 p2 f3 p3 f4 p4 ow pr su), .cells 0 s.ver2 (s.out.map PV.bool)]) (fun i _ _ => row.length - i)
      0 (-1) true ⟨by omega, .inl ⟨by omega, by simp⟩, by simp⟩ (by simp only [PWeak_nil, PWeak_junk, PWeak_same, Int.cast_ofNat_Int, List.length_append, List.length_cons, List.length_nil, Nat.zero_add]) rfl ?_
    intro i sm al ⟨hil, hI⟩ ih3
    refine SemW_go (by kernel_rfl) ?_
    simp only [PP, P1, P2, P3, P4, P5, P6, P7, P8, P9, P10, P11, P12, P13, P14, L1, P15, N1, N2, N3, N4, N5, N6, N7, I1, I2, I3, I4, I5, I6, I7, reduceIte, reduceCtorEq]
    refine QIf.intro (fun d => ?_) (fun d => ?_)
    · have hi3 : i < row.length := by omega
      have i0 : (0 : Int) ≤ i := by omega
      have hwi := wrap_succ (k := i) (by show _ < 1000000000000; omega)
      obtain ⟨u, g5⟩ := some_of hi3
      obtain ⟨u0, u1⟩ := rr u (List.mem_of_getElem? g5)
      obtain ⟨x, g6⟩ := some_of (xs := inL) (k := u.toNat) (by omega)
      obtain ⟨y, g7⟩ := some_of (xs := s.out) (k := u.toNat) (by omega)
      simp only [PP, P1, P2, P3, P4, P5, P6, P7, P8, P9, P10, P11, P12, P13, P14, L1, P15, N1, N2, N3, N4, N5, N6, N7, I1, I2, I3, I4, I5, I6, I7, reduceIte, reduceCtorEq, d, g5, i0, g6, u0, u1, hi]
      cases x
      · have hn : SmI row inL s.out (i + 1) sm al := by simpa only [Bool.not_false, Bool.true_or, Bool.and_true] using hI.keep g5 g6 g7 (.inl rfl)
        cases al <;> simp only [PP, P1, P2, P3, P4, P5, P6, P7, P8, P9, P10, P11, P12, P13, P14, L1, P15, N1, N2, N3, N4, N5, N6, N7, I1, I2, I3, I4, I5, I6, I7, reduceIte, reduceCtorEq, g6, g7, u0, u1, hi, jo, hwi] <;> exact SemW_weak (ih3 (i + 1) sm _ ⟨by omega, hn⟩ (by omega)) (by simp only [PWeak_nil, PWeak_junk, PWeak_same, Int.cast_ofNat_Int, List.length_append, List.length_cons, List.length_nil, Nat.zero_add])
      cases y
      · have hn : SmI row inL s.out (i + 1) sm false := by simpa only [Bool.not_true, Bool.or_false, Bool.and_false] using hI.keep g5 g6 g7 (.inl rfl)
        cases al <;> simp only [PP, P1, P2, P3, P4, P5, P6, P7, P8, P9, P10, P11, P12, P13, P14, L1, P15, N1, N2, N3, N4, N5, N6, N7, I1, I2, I3, I4, I5, I6, I7, reduceIte, reduceCtorEq, g6, g7, u0, u1, hi, jo, hwi] <;> exact SemW_weak (ih3 (i + 1) sm _ ⟨by omega, hn⟩ (by omega)) (by simp only [PWeak_nil, PWeak_junk, PWeak_same, Int.cast_ofNat_Int, List.length_append, List.length_cons, List.length_nil, Nat.zero_add])
      simp only [PP, P1, P2, P3, P4, P5, P6, P7, P8, P9, P10, P11, P12, P13, P14, L1, P15, N1, N2, N3, N4, N5, N6, N7, I1, I2, I3, I4, I5, I6, I7, reduceIte, reduceCtorEq, g6, g7, u0, u1, hi, jo]
      refine QIf.intro (fun q => ?_) (fun q => ?_)
      · have hn : SmI row inL s.out (i + 1) u al := by simpa only [Bool.or_true, Bool.and_true] using hI.take g5 u0 g6 g7
        cases al <;> simp only [PP, P1, P2, P3, P4, P5, P6, P7, P8, P9, P10, P11, P12, P13, P14, L1, P15, N1, N2, N3, N4, N5, N6, N7, I1, I2, I3, I4, I5, I6, I7, reduceIte, reduceCtorEq, q, g6, g7, u0, u1, hi, jo, hwi] <;> exact SemW_weak (ih3 (i + 1) u _ ⟨by omega, hn⟩ (by omega)) (by simp only [PWeak_nil, PWeak_junk, PWeak_same, Int.cast_ofNat_Int, List.length_append, List.length_cons, List.length_nil, Nat.zero_add])
      · have hn : SmI row inL s.out (i + 1) sm al := by simpa only [Bool.or_true, Bool.and_true] using hI.keep g5 g6 g7 (.inr q)
        cases al <;> simp only [PP, P1, P2, P3, P4, P5, P6, P7, P8, P9, P10, P11, P12, P13, P14, L1, P15, N1, N2, N3, N4, N5, N6, N7, I1, I2, I3, I4, I5, I6, I7, reduceIte, reduceCtorEq, q, g6, g7, u0, u1, hi, jo, hwi] <;> exact SemW_weak (ih3 (i + 1) sm _ ⟨by omega, hn⟩ (by omega)) (by simp only [PWeak_nil, PWeak_junk, PWeak_same, Int.cast_ofNat_Int, List.length_append, List.length_cons, List.length_nil, Nat.zero_add])
    · unfold SmI at hI
      rw [List.take_of_length_le (by omega)] at hI
      obtain ⟨hsm, hal⟩ := hI
      have st1 : v + 1 ≤ s.st.length := by omega
      have st3 : v + 1 ≤ ow.length := hv
      have st2 : v + 1 ≤ s.out.length := by omega
      have cnt := count_add g4
      have hmem : ∀ u ∈ row, u.toNat ∈ Sf su v := fun u hu => by rw [eS]; exact List.mem_map.2 ⟨u, hu, rfl⟩
      simp only [PP, P1, P2, P3, P4, P5, P6, P7, P8, P9, P10, P11, P12, P13, P14, L1, P15, N1, N2, N3, N4, N5, N6, N7, I1, I2, I3, I4, I5, I6, I7, reduceIte, reduceCtorEq, d, g2, v0, v2]
      refine QIf.intro (fun q => ?_) (fun q => ?_)
      · simp only [PP, P1, P2, P3, P4, P5, P6, P7, P8, P9, P10, P11, P12, P13, P14, L1, P15, N1, N2, N3, N4, N5, N6, N7, I1, I2, I3, I4, I5, I6, I7, reduceIte, reduceCtorEq, q]
        refine QIf.intro (fun q2 => ?_) (fun q2 => ?_)
        · rcases hsm with ⟨q3, _⟩ | ⟨q3, q4, q5⟩
          · omega
          have J2 := J.addOwn hv hbo hbi (by rw [eo]; exact q) q3 (hmem _ q4) q5
          simp only [PP, P1, P2, P3, P4, P5, P6, P7, P8, P9, P10, P11, P12, P13, P14, L1, P15, N1, N2, N3, N4, N5, N6, N7, I1, I2, I3, I4, I5, I6, I7, reduceIte, reduceCtorEq, q, q2, v0, v2, js, jo, st3, hwv]
          refine SemW_to (ih2 ⟨s.ver + 1, s.ver2 + 1, s.st.set v sm, s.out.set v true, _, s.c + 1⟩ (v + 1) true ⟨by omega, J2, fun _ => by show _ < (s.out.set v true).count true; omega, by show _ ≤ (s.out.set v true).count true; omega, fun h => by cases h⟩ (by omega)) (by simp only [PWeak_nil, PWeak_junk, PWeak_same, Int.cast_ofNat_Int, List.length_append, List.length_cons, List.length_nil, Nat.zero_add]) (by simp only [← List.map_set])
        · rcases hsm with ⟨q3, q4⟩ | ⟨q3, _⟩
          rotate_left
          · omega
          simp only [PP, P1, P2, P3, P4, P5, P6, P7, P8, P9, P10, P11, P12, P13, P14, L1, P15, N1, N2, N3, N4, N5, N6, N7, I1, I2, I3, I4, I5, I6, I7, reduceIte, reduceCtorEq, q, q2, g2, v0, v2, hwv]
          refine SemW_weak (ih2 s (v + 1) ch (skip fun _ _ => ⟨fun _ u hu => ?_, fun h => absurd (by rw [eo]; exact q) h⟩) (by omega)) (by simp only [PWeak_nil, PWeak_junk, PWeak_same, Int.cast_ofNat_Int, List.length_append, List.length_cons, List.length_nil, Nat.zero_add])
          rw [eS] at hu
          obtain ⟨y, hy, rfl⟩ := List.mem_map.1 hu
          exact fun h => q4 y hy ⟨J.sub _ h, h⟩
      · simp only [PP, P1, P2, P3, P4, P5, P6, P7, P8, P9, P10, P11, P12, P13, P14, L1, P15, N1, N2, N3, N4, N5, N6, N7, I1, I2, I3, I4, I5, I6, I7, reduceIte, reduceCtorEq, q, g2, v0, v2]
        cases al
        · simp only [PP, P1, P2, P3, P4, P5, P6, P7, P8, P9, P10, P11, P12, P13, P14, L1, P15, N1, N2, N3, N4, N5, N6, N7, I1, I2, I3, I4, I5, I6, I7, reduceIte, reduceCtorEq, hwv]
          refine SemW_weak (ih2 s (v + 1) ch (skip fun _ _ => ⟨fun h => absurd (by rw [← eo]; exact h) q, fun _ => ?_⟩) (by omega)) (by simp only [PWeak_nil, PWeak_junk, PWeak_same, Int.cast_ofNat_Int, List.length_append, List.length_cons, List.length_nil, Nat.zero_add])
          refine Classical.byContradiction fun hn => ?_
          have := hal.2 fun u hu hin => Classical.byContradiction fun ho => hn ⟨u.toNat, hmem u hu, hin, ho⟩
          cases this
        · have J2 := J.addOpp hv hbo hbi (by rw [eo]; exact q) fun u hu hin => by
            rw [eS] at hu
            obtain ⟨y, hy, rfl⟩ := List.mem_map.1 hu
            exact hal.1 rfl y hy hin
          simp only [PP, P1, P2, P3, P4, P5, P6, P7, P8, P9, P10, P11, P12, P13, P14, L1, P15, N1, N2, N3, N4, N5, N6, N7, I1, I2, I3, I4, I5, I6, I7, reduceIte, reduceCtorEq, v0, v2, js, jo, st3, hwv]
          refine SemW_to (ih2 ⟨s.ver, s.ver2 + 1, s.st, s.out.set v true, _, s.c + 1⟩ (v + 1) true ⟨by omega, J2, fun _ => by show _ < (s.out.set v true).count true; omega, by show _ ≤ (s.out.set v true).count true; omega, fun h => by cases h⟩ (by omega)) (by simp only [PWeak_nil, PWeak_junk, PWeak_same, Int.cast_ofNat_Int, List.length_append, List.length_cons, List.length_nil, Nat.zero_add]) (by simp only [← List.map_set])
  · have hvn : v = ow.length := by omega
    simp only [PP, P1, P2, P3, P4, P5, P6, P7, P8, P9, P10, P11, P12, P13, P14, L1, P15, N1, N2, N3, N4, N5, N6, N7, I1, I2, I3, I4, I5, I6, I7, reduceIte, reduceCtorEq, c]
    cases ch
    · have hA := J.fin (fun v h => by rw [← hi]; exact bm_lt h) (fun w hw => hst rfl w (by omega))
      simp only [PP, P1, P2, P3, P4, P5, P6, P7, P8, P9, P10, P11, P12, P13, P14, L1, P15, N1, N2, N3, N4, N5, N6, N7, I1, I2, I3, I4, I5, I6, I7, reduceIte, reduceCtorEq]
      exact Gh_retB (M := [o0, o1, .cells 0 s.ver (s.st.map (PV.int .i64)), .cells 0 0 (zSol f1 p1 f2 p2 f3 p3 f4 p4 ow pr su)]) (by simp only [PP, P1, P2, P3, P4, P5, P6, P7, P8, P9, P10, P11, P12, P13, P14, L1, P15, N1, N2, N3, N4, N5, N6, N7, I1, I2, I3, I4, I5, I6, I7, reduceIte, reduceCtorEq, cutOk_cells, h0, h1, underL_ints]) jo (hk s.ver s.out s.st s.r jo js J.nn hA)
    · have := cnt_le s.out
      have := hch rfl
      simp only [PP, P1, P2, P3, P4, P5, P6, P7, P8, P9, P10, P11, P12, P13, P14, L1, P15, N1, N2, N3, N4, N5, N6, N7, I1, I2, I3, I4, I5, I6, I7, reduceIte, reduceCtorEq]
      exact SemW_weak (ih s J (by omega)) (by simp only [PWeak_nil, PWeak_junk, PWeak_same, Int.cast_ofNat_Int, List.length_append, List.length_cons, List.length_nil, Nat.zero_add])
end
end Go.Am.Ar
set_option linter.unusedVariables false
set_option linter.unusedSimpArgs false
set_option maxRecDepth 10000
namespace Go.Am.Ar
open Go.Am renaming pchk → P1, pold → P2, PKNo → P3, ppack → P4, PObj.under → P5, pput → P6, ptset → P7, ptget → P8, pev → P9, ofAV → P10, ofAV1 → P11, ppad → P12, pfill → P13, prepl → P14, AO.effect → P15
open List renaming replicate → L1
open Nat renaming reduceAdd → N1, reduceSub → N2, reduceMul → N3, reduceLT → N4, reduceLeDiff → N5, reduceEqDiff → N6, reduceBEq → N7
open Int renaming reduceToNat → I1, reduceLT → I2, reduceLE → I3, reduceEq → I4, reduceAdd → I5, reduceSub → I6, reduceNeg → I7
def idxFrom (p : Int → Bool) : Nat → List Int → Int
  | _, [] => -1
  | k, x :: l => if p x = true then k else idxFrom p (k + 1) l
section
variable {tab : FuncId → Option AF} (T : HasA tab)
include T
theorem indexFunc_p {M : Mem} {K : PV → Mem → Prop} {f o : Bool} {row : List Int} {fn : FuncId} {cap : List PV} (p : Int → Bool) (hb : row.length < big)
    (hf : ∀ x ∈ row, ∀ K' : PV → Mem → Prop, K' (.bool (p x)) M → SemC tab fn (p64 x :: cap) M K') (hk : K (p64 (idxFrom p 0 row)) M) :
    SemC tab 50 [slI f o .i64 row, .func (.func fn) [] cap] M K := by
  refine SemC_fn T.h50 ?_
  simp only [af50, PP, P1, P2, P3, P4, P5, P6, P7, P8, P9, P10, P11, P12, P13, P14, L1, P15, N1, N2, N3, N4, N5, N6, N7, I1, I2, I3, I4, I5, I6, I7, reduceIte, reduceCtorEq]
  refine loop1 (fun (k : Nat) => k ≤ row.length ∧ K (p64 (idxFrom p k (row.drop k))) M) (fun k => [slI f o .i64 row, .func (.func fn) [] cap, .junk, .junk, .junk, .junk, .junk, p64 row.length, p64 k, .junk, .junk, .junk, .junk, .junk, .junk, .junk, .junk, .junk, .junk]) (fun k => M) (fun k => row.length - k) 0 ⟨by omega, hk⟩ (by simp only [PWeak_nil, PWeak_junk, PWeak_same, Int.cast_ofNat_Int, List.length_append, List.length_cons, List.length_nil, Nat.zero_add]) rfl ?_
  intro k ⟨hle, hq⟩ ih
  refine SemW_go (by kernel_rfl) ?_
  simp only [PP, P1, P2, P3, P4, P5, P6, P7, P8, P9, P10, P11, P12, P13, P14, L1, P15, N1, N2, N3, N4, N5, N6, N7, I1, I2, I3, I4, I5, I6, I7, reduceIte, reduceCtorEq]
  refine QIf.intro (fun c => ?_) (fun c => ?_)
  · have hk' : k < row.length := by omega
    have h0 : (0 : Int) ≤ k := by omega
    have hw := wrap_succ (k := k) (by show _ < 1000000000000; have : row.length < 1000000000000 := hb; omega)
    obtain ⟨x, e⟩ := some_of hk'
    rw [drop_some e] at hq
    unfold idxFrom at hq
    simp only [PP, P1, P2, P3, P4, P5, P6, P7, P8, P9, P10, P11, P12, P13, P14, L1, P15, N1, N2, N3, N4, N5, N6, N7, I1, I2, I3, I4, I5, I6, I7, reduceIte, reduceCtorEq, c, h0, e]
    refine hf x (List.mem_of_getElem? e) _ ?_
    cases hp : p x with
    | true =>
      rw [if_pos hp] at hq
      simp only [PP, P1, P2, P3, P4, P5, P6, P7, P8, P9, P10, P11, P12, P13, P14, L1, P15, N1, N2, N3, N4, N5, N6, N7, I1, I2, I3, I4, I5, I6, I7, reduceIte, reduceCtorEq]
      exact hq
    | false =>
      rw [if_neg (by rw [hp]; exact Bool.false_ne_true)] at hq
      simp only [PP, P1, P2, P3, P4, P5, P6, P7, P8, P9, P10, P11, P12, P13, P14, L1, P15, N1, N2, N3, N4, N5, N6, N7, I1, I2, I3, I4, I5, I6, I7, reduceIte, reduceCtorEq, hw]
      exact SemW_weak (ih (k + 1) ⟨by omega, hq⟩ (by omega)) (by simp only [PWeak_nil, PWeak_junk, PWeak_same, Int.cast_ofNat_Int, List.length_append, List.length_cons, List.length_nil, Nat.zero_add])
  · rw [List.drop_eq_nil_of_le (by omega)] at hq
    unfold idxFrom at hq
    simp only [PP, P1, P2, P3, P4, P5, P6, P7, P8, P9, P10, P11, P12, P13, P14, L1, P15, N1, N2, N3, N4, N5, N6, N7, I1, I2, I3, I4, I5, I6, I7, reduceIte, reduceCtorEq, c]
    exact hq
end
end Go.Am.Ar
