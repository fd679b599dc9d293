/- Plain: values of plays and their order, and what goes with it. -/
import Derived.Test.YtgapkfaikhlipaaPmR
import Derived.Test.YtgapkfaikhlipaaImproveMatchesG0
import Derived.Test.YtgapkfaikhlipaaPmC
set_option linter.unusedVariables false
set_option linter.unusedSimpArgs false
namespace Go.Am.Ar
def cmp3 (a b : Int) : Int := if a < b then -1 else if b < a then 1 else 0
theorem cmp3_lt {a b : Int} (h : a < b) : cmp3 a b = -1 := if_pos h
theorem cmp3_gt {a b : Int} (h : b < a) : cmp3 a b = 1 := by unfold cmp3; rw [if_neg (by omega), if_pos h]
theorem cmp3_eq {a b : Int} (h : a = b) : cmp3 a b = 0 := by unfold cmp3; rw [if_neg (by omega), if_neg (by omega)]
theorem cmp3_cases (a b : Int) : (a < b ∧ cmp3 a b = -1) ∨ (a = b ∧ cmp3 a b = 0) ∨ (b < a ∧ cmp3 a b = 1) := by
  rcases Int.lt_trichotomy a b with h | h | h
  · exact .inl ⟨h, cmp3_lt h⟩
  · exact .inr (.inl ⟨h, cmp3_eq h⟩)
  · exact .inr (.inr ⟨h, cmp3_gt h⟩)
structure Ord3 {α : Type} (f : α → α → Int) : Prop where
  rng : ∀ a b, f a b = -1 ∨ f a b = 0 ∨ f a b = 1
  anti : ∀ a b, f b a = - f a b
  tr : ∀ a b c, f a b ≤ 0 → f b c ≤ 0 → f a c ≤ 0
theorem Ord3.self {α : Type} {f : α → α → Int} (h : Ord3 f) (a : α) : f a a = 0 := by have := h.anti a a; omega
theorem Ord3.zeroL {α : Type} {f : α → α → Int} (h : Ord3 f) {a b : α} (e : f a b = 0) (c : α) : f a c = f b c := by
  have e' := h.anti a b
  have r1 := h.rng a c; have r2 := h.rng b c
  have t1 := h.tr a b c (by omega); have t2 := h.tr b a c (by omega)
  have a1 := h.anti a c; have a2 := h.anti b c
  have t3 := h.tr c a b; have t4 := h.tr c b a
  omega
theorem Ord3.zeroR {α : Type} {f : α → α → Int} (h : Ord3 f) {a b : α} (e : f a b = 0) (c : α) : f c a = f c b := by
  rw [h.anti a c, h.anti b c, h.zeroL e c]
theorem Ord3.same {α : Type} {f : α → α → Int} (h : Ord3 f) {a b c : α} (e : f a b = f b c) : f a c = f a b := by
  have r1 := h.rng a b; have r2 := h.rng a c
  have t1 := h.tr a b c; have t2 := h.tr c b a
  have a1 := h.anti a b; have a2 := h.anti b c; have a3 := h.anti a c
  have t3 := h.tr c a b; have t4 := h.tr b c a; have t5 := h.tr b a c; have t6 := h.tr a c b
  omega
def lex3 {α : Type} (f g : α → α → Int) (a b : α) : Int := if f a b ≠ 0 then f a b else g a b
theorem Ord3.lex {α : Type} {f g : α → α → Int} (h : Ord3 f) (rng : ∀ a b, g a b = -1 ∨ g a b = 0 ∨ g a b = 1) (anti : ∀ a b, f a b = 0 → g b a = - g a b)
    (tr : ∀ a b c, f a b = 0 → f b c = 0 → g a b ≤ 0 → g b c ≤ 0 → g a c ≤ 0) : Ord3 (lex3 f g) := by
  refine ⟨fun a b => ?_, fun a b => ?_, fun a b c => ?_⟩
  · unfold lex3; split
    · exact h.rng a b
    · exact rng a b
  · have e := h.anti a b
    unfold lex3
    by_cases h0 : f a b = 0
    · rw [if_neg (by omega), if_neg (by omega), anti a b h0]
    · rw [if_pos (by omega), if_pos h0, e]
  · unfold lex3
    intro h1 h2
    by_cases z1 : f a b = 0
    · rw [if_neg (by omega)] at h1
      have e1 := h.zeroL z1 c
      by_cases z2 : f b c = 0
      · rw [if_neg (by omega)] at h2
        rw [if_neg (by omega)]
        exact tr a b c z1 z2 h1 h2
      · rw [if_pos z2] at h2
        rw [if_pos (by omega)]; omega
    · rw [if_pos z1] at h1
      by_cases z2 : f b c = 0
      · rw [if_neg (by omega)] at h2
        have e1 := h.zeroR z2 a
        rw [if_pos (by omega)]; omega
      · rw [if_pos z2] at h2
        have t1 := h.tr a b c h1 h2
        have t2 := h.tr b c a h2
        have a1 := h.anti a c; have a2 := h.anti a b
        rw [if_pos (by intro e; omega)]; exact t1
theorem ord3_cmp : Ord3 cmp3 := by
  refine ⟨fun a b => ?_, fun a b => ?_, fun a b c => ?_⟩
  · rcases cmp3_cases a b with ⟨_, h⟩ | ⟨_, h⟩ | ⟨_, h⟩ <;> omega
  · rcases cmp3_cases a b with ⟨h0, h⟩ | ⟨h0, h⟩ | ⟨h0, h⟩
    · rw [h, cmp3_gt h0]; rfl
    · rw [h, cmp3_eq h0.symm]; rfl
    · rw [h, cmp3_lt h0]
  · rcases cmp3_cases a b with ⟨h0, h⟩ | ⟨h0, h⟩ | ⟨h0, h⟩ <;> rcases cmp3_cases b c with ⟨h2, h3⟩ | ⟨h2, h3⟩ | ⟨h2, h3⟩ <;> rcases cmp3_cases a c with ⟨h4, h5⟩ | ⟨h4, h5⟩ | ⟨h4, h5⟩ <;> omega
theorem Ord3.comap {α β : Type} {f : α → α → Int} (h : Ord3 f) (k : β → α) : Ord3 (fun a b => f (k a) (k b)) := ⟨fun a b => h.rng _ _, fun a b => h.anti _ _, fun a b c => h.tr _ _ _⟩
def prI (pr : List Int) (v : Int) : Int := pr.getD v.toNat 0
def relI (pr : List Int) (u v : Int) : Int := lex3 (fun a b => cmp3 (prI pr a) (prI pr b)) cmp3 u v
theorem ord3_rel (pr : List Int) : Ord3 (relI pr) :=
  (ord3_cmp.comap (prI pr)).lex (ord3_cmp.rng) (fun a b _ => ord3_cmp.anti a b) (fun a b c _ _ => ord3_cmp.tr a b c)
theorem relI_zero {pr : List Int} {u v : Int} : relI pr u v = 0 ↔ u = v := by
  constructor
  · intro h
    unfold relI lex3 at h
    split at h
    · rename_i h1; exact absurd h h1
    · rcases cmp3_cases u v with ⟨_, e⟩ | ⟨e, _⟩ | ⟨_, e⟩ <;> omega
  · rintro rfl; exact (ord3_rel pr).self u
def sgI (pr : List Int) (v : Int) : Int := 1 - (prI pr v).tmod 2 * 2
theorem sgI_cases {pr : List Int} {v : Int} (h : 0 ≤ prI pr v) : (sgI pr v = 1 ∧ (prI pr v) % 2 = 0) ∨ (sgI pr v = -1 ∧ (prI pr v) % 2 = 1) := by
  unfold sgI
  rw [Int.tmod_eq_emod_of_nonneg h]
  omega
structure Vl where
  cy : Int
  se : List Int
  st : Int
def cycI (pr : List Int) (a b : Vl) : Int := if sgI pr a.cy ≠ sgI pr b.cy then sgI pr a.cy else sgI pr a.cy * relI pr a.cy b.cy
def seenF (pr : List Int) (other : List Int) (s : Int) : Int × Int → List Int → Int × Int
  | acc, [] => acc
  | acc, v :: l => seenF pr other s (if v ∉ other ∧ (acc.1 < 0 ∨ 0 < relI pr v acc.1) then (v, s) else acc) l
def seenX (pr : List Int) (a b : List Int) : Int × Int := seenF pr a (-1) (seenF pr b 1 (-1, 0) a) b
def seenI (pr : List Int) (a b : List Int) : Int := if (seenX pr a b).1 < 0 then 0 else (seenX pr a b).2 * sgI pr (seenX pr a b).1
def stepI (pr : List Int) (a b : Vl) : Int := sgI pr a.cy * cmp3 b.st a.st
def ordI (pr : List Int) (a b : Vl) : Int := lex3 (cycI pr) (lex3 (fun a b => seenI pr a.se b.se) (stepI pr)) a b
def SeenS (pr : List Int) (a b : List Int) (r : Int) : Prop :=
  ((∀ v, v ∈ a ↔ v ∈ b) ∧ r = 0) ∨ ∃ x, ((x ∈ a ∧ x ∉ b ∧ r = sgI pr x) ∨ (x ∈ b ∧ x ∉ a ∧ r = - sgI pr x)) ∧ ∀ v, (v ∈ a ∧ v ∉ b) ∨ (v ∈ b ∧ v ∉ a) → relI pr v x ≤ 0
def SeenM (pr : List Int) (A B : Int → Prop) (acc : Int × Int) : Prop :=
  (acc.1 < 0 ∧ (∀ v, ¬ A v) ∧ ∀ v, ¬ B v) ∨ (0 ≤ acc.1 ∧ ((A acc.1 ∧ acc.2 = 1) ∨ (B acc.1 ∧ acc.2 = -1)) ∧ ∀ v, A v ∨ B v → relI pr v acc.1 ≤ 0)
theorem seenM_a {pr other : List Int} {B : Int → Prop} : ∀ (l done : List Int) (acc : Int × Int), (∀ v ∈ l, 0 ≤ v) → SeenM pr (fun v => v ∈ done ∧ v ∉ other) B acc → SeenM pr (fun v => v ∈ done ++ l ∧ v ∉ other) B (seenF pr other 1 acc l)
  | [], done, acc, _, h => by simpa [seenF] using h
  | v :: l, done, acc, hp, h => by
    unfold seenF
    have := seenM_a (pr := pr) (other := other) (B := B) l (done ++ [v]) (if v ∉ other ∧ (acc.1 < 0 ∨ 0 < relI pr v acc.1) then (v, 1) else acc) (fun x hx => hp x (List.mem_cons_of_mem _ hx)) ?_
    · simpa [List.append_assoc] using this
    have hv := hp v (List.mem_cons_self ..)
    split
    · rename_i c
      obtain ⟨c1, c2⟩ := c
      refine .inr ⟨hv, .inl ⟨⟨by simp, c1⟩, rfl⟩, fun u hu => ?_⟩
      rcases h with ⟨h1, h2, h3⟩ | ⟨h1, h2, h3⟩
      · rcases hu with ⟨hu, hn⟩ | hu
        · simp only [List.mem_append, List.mem_singleton] at hu
          rcases hu with hu | rfl
          · exact absurd ⟨hu, hn⟩ (h2 u)
          · rw [(ord3_rel pr).self]; exact Int.le_refl _
        · exact absurd hu (h3 u)
      · have c2 : 0 < relI pr v acc.1 := by rcases c2 with c2 | c2; omega; exact c2
        have hle : ∀ u, relI pr u acc.1 ≤ 0 → relI pr u v ≤ 0 := fun u hu => (ord3_rel pr).tr u acc.1 v hu (by have := (ord3_rel pr).anti v acc.1; omega)
        rcases hu with ⟨hu, hn⟩ | hu
        · simp only [List.mem_append, List.mem_singleton] at hu
          rcases hu with hu | rfl
          · exact hle u (h3 u (.inl ⟨hu, hn⟩))
          · rw [(ord3_rel pr).self]; exact Int.le_refl _
        · exact hle u (h3 u (.inr hu))
    · rename_i c
      rcases h with ⟨h1, h2, h3⟩ | ⟨h1, h2, h3⟩
      · refine .inl ⟨h1, fun u ⟨hu, hn⟩ => ?_, h3⟩
        simp only [List.mem_append, List.mem_singleton] at hu
        rcases hu with hu | rfl
        · exact h2 u ⟨hu, hn⟩
        · exact c ⟨hn, .inl h1⟩
      · refine .inr ⟨h1, ?_, fun u hu => ?_⟩
        · rcases h2 with ⟨⟨g1, g2⟩, g3⟩ | g
          · exact .inl ⟨⟨by simp [g1], g2⟩, g3⟩
          · exact .inr g
        · rcases hu with ⟨hu, hn⟩ | hu
          · simp only [List.mem_append, List.mem_singleton] at hu
            rcases hu with hu | rfl
            · exact h3 u (.inl ⟨hu, hn⟩)
            · exact Int.not_lt.1 fun hh => c ⟨hn, .inr hh⟩
          · exact h3 u (.inr hu)
theorem SeenM.swap {pr : List Int} {A B : Int → Prop} {x s : Int} (h : SeenM pr A B (x, s)) : SeenM pr B A (x, -s) := by
  rcases h with ⟨h1, h2, h3⟩ | ⟨h1, h2, h3⟩
  · exact .inl ⟨h1, h3, h2⟩
  · refine .inr ⟨h1, ?_, fun v hv => h3 v hv.symm⟩
    rcases h2 with ⟨g1, g2⟩ | ⟨g1, g2⟩
    · exact .inr ⟨g1, by simp only at g2 ⊢; omega⟩
    · exact .inl ⟨g1, by simp only at g2 ⊢; omega⟩
theorem seenF_neg {pr other : List Int} {s : Int} : ∀ (l : List Int) (x q : Int), seenF pr other s (x, q) l = ((seenF pr other (-s) (x, -q) l).1, -(seenF pr other (-s) (x, -q) l).2)
  | [], x, q => by simp [seenF]
  | v :: l, x, q => by
    unfold seenF
    simp only
    by_cases c : v ∉ other ∧ (x < 0 ∨ 0 < relI pr v x)
    · rw [if_pos c, if_pos c]; exact seenF_neg l v s
    · rw [if_neg c, if_neg c]; exact seenF_neg l x q
theorem seenI_spec {pr a b : List Int} (ha : ∀ v ∈ a, 0 ≤ v) (hb : ∀ v ∈ b, 0 ≤ v) : SeenS pr a b (seenI pr a b) := by
  have h1 : SeenM pr (fun v => v ∈ a ∧ v ∉ b) (fun _ => False) (seenF pr b 1 (-1, 0) a) := by
    have := seenM_a (pr := pr) (other := b) (B := fun _ => False) a [] (-1, 0) ha (.inl ⟨by decide, fun v h => by simp at h, fun v h => h⟩)
    simpa using this
  have h2 : SeenM pr (fun v => v ∈ a ∧ v ∉ b) (fun v => v ∈ b ∧ v ∉ a) (seenX pr a b) := by
    unfold seenX
    generalize seenF pr b 1 (-1, 0) a = acc at h1 ⊢
    obtain ⟨x, q⟩ := acc
    rw [seenF_neg]
    refine SeenM.swap ?_
    have h0 : SeenM pr (fun v => v ∈ ([] : List Int) ∧ v ∉ a) (fun v => v ∈ a ∧ v ∉ b) (x, -q) := by
      have := h1.swap
      rcases this with ⟨g1, g2, g3⟩ | ⟨g1, g2, g3⟩
      · exact .inl ⟨g1, fun v h => by simp at h, g3⟩
      · refine .inr ⟨g1, ?_, fun v hv => g3 v ?_⟩
        · rcases g2 with ⟨g, _⟩ | g
          · exact g.elim
          · exact .inr g
        · rcases hv with ⟨h, _⟩ | h
          · simp at h
          · exact .inr h
    have := seenM_a b [] (x, -q) hb h0
    simpa using this
  unfold seenI
  rcases h2 with ⟨g1, g2, g3⟩ | ⟨g1, g2, g3⟩
  · rw [if_pos g1]
    refine .inl ⟨fun v => ⟨fun h => ?_, fun h => ?_⟩, rfl⟩
    · exact Classical.byContradiction fun hn => g2 v ⟨h, hn⟩
    · exact Classical.byContradiction fun hn => g3 v ⟨h, hn⟩
  · rw [if_neg (by omega)]
    refine .inr ⟨(seenX pr a b).1, ?_, g3⟩
    rcases g2 with ⟨⟨p1, p2⟩, p3⟩ | ⟨⟨p1, p2⟩, p3⟩
    · exact .inl ⟨p1, p2, by rw [p3]; omega⟩
    · exact .inr ⟨p1, p2, by rw [p3]; omega⟩
theorem SeenS.fun {pr a b : List Int} {r q : Int} (h1 : SeenS pr a b r) (h2 : SeenS pr a b q) : r = q := by
  rcases h1 with ⟨e1, rfl⟩ | ⟨x, hx, mx⟩
  · rcases h2 with ⟨e2, rfl⟩ | ⟨y, hy, my⟩
    · rfl
    · rcases hy with ⟨p, q, _⟩ | ⟨p, q, _⟩
      · exact absurd ((e1 y).1 p) q
      · exact absurd ((e1 y).2 p) q
  · rcases h2 with ⟨e2, rfl⟩ | ⟨y, hy, my⟩
    · rcases hx with ⟨p, q, _⟩ | ⟨p, q, _⟩
      · exact absurd ((e2 x).1 p) q
      · exact absurd ((e2 x).2 p) q
    · have e : x = y := by
        have a1 := my x (by rcases hx with ⟨p, q, _⟩ | ⟨p, q, _⟩; exact .inl ⟨p, q⟩; exact .inr ⟨p, q⟩)
        have a2 := mx y (by rcases hy with ⟨p, q, _⟩ | ⟨p, q, _⟩; exact .inl ⟨p, q⟩; exact .inr ⟨p, q⟩)
        have a3 := (ord3_rel pr).anti x y
        exact (relI_zero (pr := pr)).1 (by omega)
      subst e
      rcases hx with ⟨p, q, e1⟩ | ⟨p, q, e1⟩ <;> rcases hy with ⟨p2, q2, e2⟩ | ⟨p2, q2, e2⟩
      · rw [e1, e2]
      · exact absurd p q2
      · exact absurd p q2
      · rw [e1, e2]
theorem SeenS.swap {pr a b : List Int} {r : Int} (h : SeenS pr a b r) : SeenS pr b a (-r) := by
  rcases h with ⟨e, rfl⟩ | ⟨x, hx, mx⟩
  · exact .inl ⟨fun v => (e v).symm, rfl⟩
  · refine .inr ⟨x, ?_, fun v hv => mx v hv.symm⟩
    rcases hx with ⟨p, q, e⟩ | ⟨p, q, e⟩
    · exact .inr ⟨p, q, by omega⟩
    · exact .inl ⟨p, q, by omega⟩
end Go.Am.Ar
set_option linter.unusedVariables false
set_option linter.unusedSimpArgs false
set_option maxRecDepth 10000
namespace Go.Am.Ar
open Go.Am renaming pchk → P1, pold → P2, PKNo → P3, ppack → P4, PObj.under → P5, pput → P6, ptset → P7, ptget → P8, pev → P9, ofAV → P10, ofAV1 → P11, ppad → P12, pfill → P13, prepl → P14, AO.effect → P15
open List renaming replicate → L1
open Nat renaming reduceAdd → N1, reduceSub → N2, reduceMul → N3, reduceLT → N4, reduceLeDiff → N5, reduceEqDiff → N6, reduceBEq → N7
open Int renaming reduceToNat → I1, reduceLT → I2, reduceLE → I3, reduceEq → I4, reduceAdd → I5, reduceSub → I6, reduceNeg → I7
structure GF where
  (f1 o1 f2 o2 f3 o3 f4 o4 : Bool)
abbrev gmF (F : GF) (ow pr : List Int) (su : List (List Int)) : List PV := [slI F.f1 F.o1 .u8 ow, slI F.f2 F.o2 .i64 pr, slR F.f3 F.o3 F.f4 F.o4 .i64 su]
abbrev vlL (f o : Bool) (x : Vl) : List PV := [p64 x.cy, slI f o .i64 x.se, p64 x.st]
theorem prI_get {pr : List Int} {v : Int} (h0 : 0 ≤ v) (h1 : v < pr.length) : pr[v.toNat]? = some (prI pr v) := by
  have hk : v.toNat < pr.length := by omega
  unfold prI
  simp [List.getD, List.getElem?_eq_getElem hk]
def firstN : List Int → Int
  | [] => 0
  | x :: l => if x ≠ 0 then x else firstN l
def FnRes (tab : FuncId → Option AF) (args : List PV) (fs : List PV) (cs : List Int) : Prop :=
  ∀ (i : Nat) (f : PV) (c : Int), fs[i]? = some f → cs[i]? = some c → ∃ (g : FuncId) (cap : List PV), f = .func (.func g) [] cap ∧ underL 0 cap = true ∧ ∀ (M : Mem) (K : PV → Mem → Prop), K (p64 c) M → SemC tab g (args ++ cap) M K
theorem FnRes.nil (tab : FuncId → Option AF) (args : List PV) : FnRes tab args [] [] := fun i f c h => by simp at h
theorem FnRes.cons {tab : FuncId → Option AF} {args fs : List PV} {f : PV} {c : Int} {cs : List Int} {g : FuncId} {cap : List PV} (hf : f = .func (.func g) [] cap) (hu : underL 0 cap = true) (hs : ∀ (M : Mem) (K : PV → Mem → Prop), K (p64 c) M → SemC tab g (args ++ cap) M K) (h : FnRes tab args fs cs) : FnRes tab args (f :: fs) (c :: cs) := by
  intro i f' c' h1 h2
  cases i with
  | zero => simp only [List.getElem?_cons_zero] at h1 h2; cases h1; cases h2; exact ⟨g, cap, hf, hu, hs⟩
  | succ i => exact h i f' c' (by simpa using h1) (by simpa using h2)
section
variable {tab : FuncId → Option AF} (T : HasA tab)
include T
theorem isNaN32_p {M : Mem} {K : PV → Mem → Prop} {a : Int} (hk : K (.bool false) M) : SemC tab 96 [p64 a] M K := by
  refine SemC_pure T.h96 (by simp only [PP, P1, P2, P3, P4, P5, P6, P7, P8, P9, P10, P11, P12, P13, P14, L1, P15, N1, N2, N3, N4, N5, N6, N7, I1, I2, I3, I4, I5, I6, I7, reduceIte, reduceCtorEq]) ?_
  simp only [af96, PP, P1, P2, P3, P4, P5, P6, P7, P8, P9, P10, P11, P12, P13, P14, L1, P15, N1, N2, N3, N4, N5, N6, N7, I1, I2, I3, I4, I5, I6, I7, reduceIte, reduceCtorEq]
  exact hk
theorem cmp32_p {M : Mem} {K : PV → Mem → Prop} {a b : Int} (hk : K (p64 (cmp3 a b)) M) : SemC tab 75 [p64 a, p64 b] M K := by
  refine SemC_pure T.h75 (by simp only [PP, P1, P2, P3, P4, P5, P6, P7, P8, P9, P10, P11, P12, P13, P14, L1, P15, N1, N2, N3, N4, N5, N6, N7, I1, I2, I3, I4, I5, I6, I7, reduceIte, reduceCtorEq]) ?_
  simp only [af75, PP, P1, P2, P3, P4, P5, P6, P7, P8, P9, P10, P11, P12, P13, P14, L1, P15, N1, N2, N3, N4, N5, N6, N7, I1, I2, I3, I4, I5, I6, I7, reduceIte, reduceCtorEq]
  refine isNaN32_p T ?_
  simp only [PP, P1, P2, P3, P4, P5, P6, P7, P8, P9, P10, P11, P12, P13, P14, L1, P15, N1, N2, N3, N4, N5, N6, N7, I1, I2, I3, I4, I5, I6, I7, reduceIte, reduceCtorEq]
  refine isNaN32_p T ?_
  simp only [PP, P1, P2, P3, P4, P5, P6, P7, P8, P9, P10, P11, P12, P13, P14, L1, P15, N1, N2, N3, N4, N5, N6, N7, I1, I2, I3, I4, I5, I6, I7, reduceIte, reduceCtorEq]
  refine QIf.intro (fun c => ?_) (fun c => ?_)
  · simp only [PP, P1, P2, P3, P4, P5, P6, P7, P8, P9, P10, P11, P12, P13, P14, L1, P15, N1, N2, N3, N4, N5, N6, N7, I1, I2, I3, I4, I5, I6, I7, reduceIte, reduceCtorEq, c]
    rw [cmp3_lt c] at hk; exact hk
  · simp only [PP, P1, P2, P3, P4, P5, P6, P7, P8, P9, P10, P11, P12, P13, P14, L1, P15, N1, N2, N3, N4, N5, N6, N7, I1, I2, I3, I4, I5, I6, I7, reduceIte, reduceCtorEq, c]
    refine QIf.intro (fun d => ?_) (fun d => ?_)
    · simp only [PP, P1, P2, P3, P4, P5, P6, P7, P8, P9, P10, P11, P12, P13, P14, L1, P15, N1, N2, N3, N4, N5, N6, N7, I1, I2, I3, I4, I5, I6, I7, reduceIte, reduceCtorEq, d]
      rw [cmp3_gt d] at hk; exact hk
    · simp only [PP, P1, P2, P3, P4, P5, P6, P7, P8, P9, P10, P11, P12, P13, P14, L1, P15, N1, N2, N3, N4, N5, N6, N7, I1, I2, I3, I4, I5, I6, I7, reduceIte, reduceCtorEq, d]
      rw [cmp3_eq (by omega)] at hk; exact hk
theorem rel2_p {M : Mem} {K : PV → Mem → Prop} {F : GF} {ow pr : List Int} {su : List (List Int)} {u v : Int} (u0 : 0 ≤ u) (u1 : u < pr.length) (v0 : 0 ≤ v) (v1 : v < pr.length)
    (hk : K (p64 (cmp3 (prI pr u) (prI pr v))) M) : SemC tab 82 [p64 u, p64 v, .cp (gmF F ow pr su) 0] M K := by
  refine SemC_pure T.h82 (by simp only [PP, P1, P2, P3, P4, P5, P6, P7, P8, P9, P10, P11, P12, P13, P14, L1, P15, N1, N2, N3, N4, N5, N6, N7, I1, I2, I3, I4, I5, I6, I7, reduceIte, reduceCtorEq, PV.under]) ?_
  have gu := prI_get u0 u1
  have gv := prI_get v0 v1
  simp only [af82, PP, P1, P2, P3, P4, P5, P6, P7, P8, P9, P10, P11, P12, P13, P14, L1, P15, N1, N2, N3, N4, N5, N6, N7, I1, I2, I3, I4, I5, I6, I7, reduceIte, reduceCtorEq, u0, u1, v0, v1, gu, gv]
  refine cmp32_p T ?_
  simp only [PP, P1, P2, P3, P4, P5, P6, P7, P8, P9, P10, P11, P12, P13, P14, L1, P15, N1, N2, N3, N4, N5, N6, N7, I1, I2, I3, I4, I5, I6, I7, reduceIte, reduceCtorEq]
  exact hk
theorem firstI_p {M : Mem} {K : PV → Mem → Prop} {f o : Bool} {u v : Int} {fs : List PV} {cs : List Int} (hb : cs.length < big) (hl : fs.length = cs.length) (hu : underL 0 fs = true) (hf : FnRes tab [p64 u, p64 v] fs cs)
    (hk : K (p64 (firstN cs)) M) : SemC tab 81 [p64 u, p64 v, .sl f o 1 cs.length fs] M K := by
  have hb' : cs.length < 1000000000000 := hb
  refine SemC_pure T.h81 (by simp only [PP, P1, P2, P3, P4, P5, P6, P7, P8, P9, P10, P11, P12, P13, P14, L1, P15, N1, N2, N3, N4, N5, N6, N7, I1, I2, I3, I4, I5, I6, I7, reduceIte, reduceCtorEq, PV.under, hu]) ?_
  simp only [af81, PP, P1, P2, P3, P4, P5, P6, P7, P8, P9, P10, P11, P12, P13, P14, L1, P15, N1, N2, N3, N4, N5, N6, N7, I1, I2, I3, I4, I5, I6, I7, reduceIte, reduceCtorEq]
  refine loop1 (fun (k : Nat) => k ≤ cs.length ∧ K (p64 (firstN (cs.drop k))) M) (fun k => [p64 u, p64 v, .junk, .junk, .junk, .junk, .junk, .junk, .junk, .junk, .sl f o 1 cs.length fs, p64 cs.length, p64 k, .junk, .junk, .junk, .junk, .junk, .junk, .junk, .junk, .junk, .junk, .junk]) (fun _ => []) (fun k => cs.length - k) 0 ⟨by omega, hk⟩ (by simp only [PWeak_nil, PWeak_junk, PWeak_same, Int.cast_ofNat_Int, List.length_append, List.length_cons, List.length_nil, Nat.zero_add]) rfl ?_
  intro k ⟨hle, hq⟩ ih
  refine SemW_go (by kernel_rfl) ?_
  simp only [PP, P1, P2, P3, P4, P5, P6, P7, P8, P9, P10, P11, P12, P13, P14, L1, P15, N1, N2, N3, N4, N5, N6, N7, I1, I2, I3, I4, I5, I6, I7, reduceIte, reduceCtorEq]
  refine QIf.intro (fun c => ?_) (fun c => ?_)
  · have hk' : k < cs.length := by omega
    obtain ⟨x, g⟩ := some_of hk'
    obtain ⟨fv, gf⟩ := some_of (xs := fs) (k := k) (by omega)
    obtain ⟨g0, cap, rfl, hcap, hsem⟩ := hf k fv x gf g
    rw [drop_some g] at hq
    have hw := wrap_succ (k := k) (by omega)
    have h0 : (0 : Int) ≤ k := by omega
    simp only [PP, P1, P2, P3, P4, P5, P6, P7, P8, P9, P10, P11, P12, P13, P14, L1, P15, N1, N2, N3, N4, N5, N6, N7, I1, I2, I3, I4, I5, I6, I7, reduceIte, reduceCtorEq, c, gf, h0, hl]
    refine hsem _ _ ?_
    simp only [PP, P1, P2, P3, P4, P5, P6, P7, P8, P9, P10, P11, P12, P13, P14, L1, P15, N1, N2, N3, N4, N5, N6, N7, I1, I2, I3, I4, I5, I6, I7, reduceIte, reduceCtorEq]
    refine QIf.intro (fun d => ?_) (fun d => ?_)
    · have : firstN (x :: cs.drop (k + 1)) = firstN (cs.drop (k + 1)) := by rw [firstN, if_neg (by simpa using d)]
      rw [this] at hq
      simp only [PP, P1, P2, P3, P4, P5, P6, P7, P8, P9, P10, P11, P12, P13, P14, L1, P15, N1, N2, N3, N4, N5, N6, N7, I1, I2, I3, I4, I5, I6, I7, reduceIte, reduceCtorEq, d, hw]
      exact SemW_weak (ih (k + 1) ⟨by omega, hq⟩ (by omega)) (by simp only [PWeak_nil, PWeak_junk, PWeak_same, Int.cast_ofNat_Int, List.length_append, List.length_cons, List.length_nil, Nat.zero_add])
    · simp only [PP, P1, P2, P3, P4, P5, P6, P7, P8, P9, P10, P11, P12, P13, P14, L1, P15, N1, N2, N3, N4, N5, N6, N7, I1, I2, I3, I4, I5, I6, I7, reduceIte, reduceCtorEq, d]
      have : firstN (x :: cs.drop (k + 1)) = x := by unfold firstN; exact if_pos d
      rw [this] at hq; exact hq
  · rw [List.drop_eq_nil_of_le (by omega)] at hq
    simp only [PP, P1, P2, P3, P4, P5, P6, P7, P8, P9, P10, P11, P12, P13, P14, L1, P15, N1, N2, N3, N4, N5, N6, N7, I1, I2, I3, I4, I5, I6, I7, reduceIte, reduceCtorEq, c]
    exact hq
theorem rel1_p {M : Mem} {K : PV → Mem → Prop} {F : GF} {ow pr : List Int} {su : List (List Int)} {u v : Int} (u0 : 0 ≤ u) (u1 : u < pr.length) (v0 : 0 ≤ v) (v1 : v < pr.length)
    (hk : K (p64 (relI pr u v)) M) : SemC tab 80 [p64 u, p64 v, .cp (gmF F ow pr su) 0] M K := by
  refine SemC_pure T.h80 (by simp only [PP, P1, P2, P3, P4, P5, P6, P7, P8, P9, P10, P11, P12, P13, P14, L1, P15, N1, N2, N3, N4, N5, N6, N7, I1, I2, I3, I4, I5, I6, I7, reduceIte, reduceCtorEq, PV.under]) ?_
  simp only [af80, PP, P1, P2, P3, P4, P5, P6, P7, P8, P9, P10, P11, P12, P13, P14, L1, P15, N1, N2, N3, N4, N5, N6, N7, I1, I2, I3, I4, I5, I6, I7, reduceIte, reduceCtorEq]
  refine firstI_p T (cs := [cmp3 (prI pr u) (prI pr v), cmp3 u v]) (by show 2 < 1000000000000; decide) rfl (by simp only [PP, P1, P2, P3, P4, P5, P6, P7, P8, P9, P10, P11, P12, P13, P14, L1, P15, N1, N2, N3, N4, N5, N6, N7, I1, I2, I3, I4, I5, I6, I7, reduceIte, reduceCtorEq, PV.under]) (.cons rfl (by simp only [PP, P1, P2, P3, P4, P5, P6, P7, P8, P9, P10, P11, P12, P13, P14, L1, P15, N1, N2, N3, N4, N5, N6, N7, I1, I2, I3, I4, I5, I6, I7, reduceIte, reduceCtorEq, PV.under]) (fun M K h => rel2_p T u0 u1 v0 v1 h) (.cons rfl rfl (fun M K h => cmp32_p T h) (.nil _ _))) ?_
  simp only [PP, P1, P2, P3, P4, P5, P6, P7, P8, P9, P10, P11, P12, P13, P14, L1, P15, N1, N2, N3, N4, N5, N6, N7, I1, I2, I3, I4, I5, I6, I7, reduceIte, reduceCtorEq]
  have : firstN [cmp3 (prI pr u) (prI pr v), cmp3 u v] = relI pr u v := by
    simp only [firstN, relI, lex3]
    split
    · rfl
    · split
      · rfl
      · rename_i h; simp only [ne_eq, Decidable.not_not] at h; exact h.symm
  rw [this]
  exact hk
theorem relevance_p {M : Mem} {K : PV → Mem → Prop} {F : GF} {ow pr : List Int} {su : List (List Int)}
    (hk : K (.func (.func 80) [] [.cp (gmF F ow pr su) 0]) M) : SemC tab 53 [.agg (gmF F ow pr su)] M K := by
  refine SemC_imgR (by simp only [PP, P1, P2, P3, P4, P5, P6, P7, P8, P9, P10, P11, P12, P13, P14, L1, P15, N1, N2, N3, N4, N5, N6, N7, I1, I2, I3, I4, I5, I6, I7, reduceIte, reduceCtorEq, PV.under]) ?_
  refine SemC_fn T.h53 ?_
  simp only [af53, PP, P1, P2, P3, P4, P5, P6, P7, P8, P9, P10, P11, P12, P13, P14, L1, P15, N1, N2, N3, N4, N5, N6, N7, I1, I2, I3, I4, I5, I6, I7, reduceIte, reduceCtorEq]
  exact ⟨_, .func (fun l h => by cases h) .nil (.ptr rfl (PImg.sames (by simp only [PP, P1, P2, P3, P4, P5, P6, P7, P8, P9, P10, P11, P12, P13, P14, L1, P15, N1, N2, N3, N4, N5, N6, N7, I1, I2, I3, I4, I5, I6, I7, reduceIte, reduceCtorEq, PV.under])) .nil) .nil, by simp only [PP, P1, P2, P3, P4, P5, P6, P7, P8, P9, P10, P11, P12, P13, P14, L1, P15, N1, N2, N3, N4, N5, N6, N7, I1, I2, I3, I4, I5, I6, I7, reduceIte, reduceCtorEq, PV.under], hk⟩
theorem sign_p {M : Mem} {K : PV → Mem → Prop} {F : GF} {ow pr : List Int} {su : List (List Int)} {v : Int} (v0 : 0 ≤ v) (v1 : v < pr.length) (hp : 0 ≤ prI pr v)
    (hk : K (p64 (sgI pr v)) M) : SemC tab 72 [.agg (gmF F ow pr su), p64 v] M K := by
  refine SemC_pure T.h72 (by simp only [PP, P1, P2, P3, P4, P5, P6, P7, P8, P9, P10, P11, P12, P13, P14, L1, P15, N1, N2, N3, N4, N5, N6, N7, I1, I2, I3, I4, I5, I6, I7, reduceIte, reduceCtorEq, PV.under]) ?_
  have gv := prI_get v0 v1
  have hr : (prI pr v).tmod 2 = 0 ∨ (prI pr v).tmod 2 = 1 := by rw [Int.tmod_eq_emod_of_nonneg hp]; omega
  have w1 : IntKind.i64.wrap ((prI pr v).tmod 2 * 2) = (prI pr v).tmod 2 * 2 := by rcases hr with h | h <;> rw [h] <;> decide
  have w2 : IntKind.i64.wrap (1 - (prI pr v).tmod 2 * 2) = 1 - (prI pr v).tmod 2 * 2 := by rcases hr with h | h <;> rw [h] <;> decide
  simp only [af72, PP, P1, P2, P3, P4, P5, P6, P7, P8, P9, P10, P11, P12, P13, P14, L1, P15, N1, N2, N3, N4, N5, N6, N7, I1, I2, I3, I4, I5, I6, I7, reduceIte, reduceCtorEq, v0, v1, gv, prem (show (2 : Int) ≠ 0 by decide), w1, w2]
  exact hk
end
end Go.Am.Ar
set_option linter.unusedVariables false
set_option linter.unusedSimpArgs false
namespace Go.Am.Ar
theorem sgI_one {pr : List Int} (hp : ∀ v, 0 ≤ prI pr v) (v : Int) : sgI pr v = 1 ∨ sgI pr v = -1 := by
  rcases sgI_cases (hp v) with ⟨h, _⟩ | ⟨h, _⟩
  · exact .inl h
  · exact .inr h
theorem cycI_zero {pr : List Int} (hp : ∀ v, 0 ≤ prI pr v) {a b : Vl} : cycI pr a b = 0 ↔ a.cy = b.cy := by
  constructor
  · intro h
    unfold cycI at h
    apply (relI_zero (pr := pr)).1
    rcases sgI_one hp a.cy with h1 | h1 <;> rcases sgI_one hp b.cy with h2 | h2 <;> rw [h1, h2] at h <;> simp at h <;> omega
  · intro h
    unfold cycI
    rw [h, (ord3_rel pr).self]; simp
abbrev Nn (l : List Int) : Prop := ∀ v ∈ l, (0 : Int) ≤ v
theorem SeenS.congr {pr a b a' b' : List Int} {r : Int} (ha : ∀ v, v ∈ a ↔ v ∈ a') (hb : ∀ v, v ∈ b ↔ v ∈ b') (h : SeenS pr a b r) : SeenS pr a' b' r := by
  unfold SeenS at *
  simpa only [ha, hb] using h
theorem SeenS.rng {pr a b : List Int} {r : Int} (hp : ∀ v, 0 ≤ prI pr v) (h : SeenS pr a b r) : r = -1 ∨ r = 0 ∨ r = 1 := by
  rcases h with ⟨_, rfl⟩ | ⟨x, hx, _⟩
  · exact .inr (.inl rfl)
  · rcases sgI_one hp x with e | e <;> rcases hx with ⟨_, _, h⟩ | ⟨_, _, h⟩ <;> omega
theorem SeenS.tr {pr a b c : List Int} {r q : Int} (hp : ∀ v, 0 ≤ prI pr v) (h1 : SeenS pr a b r) (h2 : SeenS pr b c q) (hr : r ≤ 0) (hq : q ≤ 0) : ∃ s, SeenS pr a c s ∧ s ≤ 0 := by
  by_cases z1 : ∀ v, v ∈ a ↔ v ∈ b
  · exact ⟨q, h2.congr (fun v => (z1 v).symm) (fun _ => Iff.rfl), hq⟩
  by_cases z2 : ∀ v, v ∈ b ↔ v ∈ c
  · exact ⟨r, h1.congr (fun _ => Iff.rfl) z2, hr⟩
  rcases h1 with ⟨e, _⟩ | ⟨x, hx, mx⟩
  · exact absurd e z1
  rcases h2 with ⟨e, _⟩ | ⟨y, hy, my⟩
  · exact absurd e z2
  have hsx := sgI_one hp x
  have hsy := sgI_one hp y
  have split : ∀ v, (v ∈ a ∧ v ∉ c) ∨ (v ∈ c ∧ v ∉ a) → ((v ∈ a ∧ v ∉ b) ∨ (v ∈ b ∧ v ∉ a)) ∨ ((v ∈ b ∧ v ∉ c) ∨ (v ∈ c ∧ v ∉ b)) := fun v hv => by
    by_cases hb : v ∈ b <;> rcases hv with ⟨h1, h2⟩ | ⟨h1, h2⟩ <;> simp [h1, h2, hb]
  have an := (ord3_rel pr).anti x y
  rcases (ord3_rel pr).rng x y with e | e | e
  · -- y is the more relevant
    have hya : y ∈ a ↔ y ∈ b := by
      by_cases h1 : y ∈ a <;> by_cases h2 : y ∈ b <;> simp only [h1, h2]
      · have := mx y (.inl ⟨h1, h2⟩); omega
      · have := mx y (.inr ⟨h2, h1⟩); omega
    refine ⟨q, .inr ⟨y, ?_, fun v hv => ?_⟩, hq⟩
    · rw [hya]; exact hy
    · rcases split v hv with h | h
      · exact (ord3_rel pr).tr v x y (mx v h) (by omega)
      · exact my v h
  · have e := relI_zero.1 e
    subst e
    rcases hx with ⟨p1, p2, p3⟩ | ⟨p1, p2, p3⟩ <;> rcases hy with ⟨q1, q2, q3⟩ | ⟨q1, q2, q3⟩
    · exact absurd q1 p2
    · omega
    · omega
    · exact absurd p1 q2
  · have hxc : x ∈ c ↔ x ∈ b := by
      by_cases h1 : x ∈ c <;> by_cases h2 : x ∈ b <;> simp only [h1, h2]
      · have := my x (.inr ⟨h1, h2⟩); omega
      · have := my x (.inl ⟨h2, h1⟩); omega
    refine ⟨r, .inr ⟨x, ?_, fun v hv => ?_⟩, hr⟩
    · rw [hxc]; exact hx
    · rcases split v hv with h | h
      · exact mx v h
      · exact (ord3_rel pr).tr v y x (my v h) (by omega)
def Rise : Int → List Int → Prop
  | _, [] => True
  | k, v :: l => k < v ∧ Rise v l
theorem Rise.lt : ∀ {l : List Int} {k v : Int}, Rise k l → v ∈ l → k < v
  | x :: l, k, v, h, hv => by
    rcases List.mem_cons.1 hv with rfl | hv
    · exact h.1
    · have := Rise.lt h.2 hv; have := h.1; omega
theorem Rise.ext : ∀ {a b : List Int} {k : Int}, Rise k a → Rise k b → (∀ v, v ∈ a ↔ v ∈ b) → a = b
  | [], [], _, _, _, _ => rfl
  | [], y :: b, _, _, _, h => absurd ((h y).2 (List.mem_cons_self ..)) (by simp)
  | x :: a, [], _, _, _, h => absurd ((h x).1 (List.mem_cons_self ..)) (by simp)
  | x :: a, y :: b, k, ha, hb, h => by
    have h1 := (h x).1 (List.mem_cons_self ..)
    have h2 := (h y).2 (List.mem_cons_self ..)
    have e : x = y := by
      rcases List.mem_cons.1 h1 with e | e
      · exact e
      · rcases List.mem_cons.1 h2 with e' | e'
        · exact e'.symm
        · have := ha.2.lt e'; have := hb.2.lt e; omega
    subst e
    congr 1
    refine Rise.ext ha.2 hb.2 fun v => ?_
    have := h v
    simp only [List.mem_cons] at this
    constructor <;> intro hv
    · rcases this.1 (.inr hv) with rfl | g
      · have := ha.2.lt hv; omega
      · exact g
    · rcases this.2 (.inr hv) with rfl | g
      · have := hb.2.lt hv; omega
      · exact g
end Go.Am.Ar
set_option linter.unusedVariables false
set_option linter.unusedSimpArgs false
set_option maxRecDepth 10000
namespace Go.Am.Ar
open Go.Am renaming pchk → P1, pold → P2, PKNo → P3, ppack → P4, PObj.under → P5, pput → P6, ptset → P7, ptget → P8, pev → P9, ofAV → P10, ofAV1 → P11, ppad → P12, pfill → P13, prepl → P14, AO.effect → P15
open List renaming replicate → L1
open Nat renaming reduceAdd → N1, reduceSub → N2, reduceMul → N3, reduceLT → N4, reduceLeDiff → N5, reduceEqDiff → N6, reduceBEq → N7
open Int renaming reduceToNat → I1, reduceLT → I2, reduceLE → I3, reduceEq → I4, reduceAdd → I5, reduceSub → I6, reduceNeg → I7
structure InV (n : Nat) (x : Vl) : Prop where
  c0 : 0 ≤ x.cy
  c1 : x.cy < n
  se : ∀ v ∈ x.se, 0 ≤ v ∧ v < n
  b : x.se.length < big
abbrev moreV (G : List PV) : PV := .func (.func 80) [] [.cp G 0]
abbrev cycV (G : List PV) : PV := .func (.func 71) [] [.cp G 0, .cp [moreV G] 0]
abbrev seenV (G : List PV) : PV := .func (.func 73) [] [.cp [moreV G] 0, .cp G 0]
abbrev stpV (G : List PV) : PV := .func (.func 74) [] [.cp G 0]
abbrev ordV (G : List PV) : PV := .func (.func 76) [] [.cp [cycV G] 0, .cp [seenV G] 0, .cp [stpV G] 0]
theorem relI_rng (pr : List Int) (u v : Int) : relI pr u v = -1 ∨ relI pr u v = 0 ∨ relI pr u v = 1 := (ord3_rel pr).rng u v
theorem wrap_unit {a b : Int} (ha : a = 1 ∨ a = -1) (hb : b = -1 ∨ b = 0 ∨ b = 1) : IntKind.i64.wrap (a * b) = a * b := by
  rcases ha with h | h <;> rcases hb with g | g | g <;> rw [h, g] <;> decide
section
variable {tab : FuncId → Option AF} (T : HasA tab)
include T
theorem cyc_p {M : Mem} {K : PV → Mem → Prop} {F : GF} {fa oa fb ob : Bool} {ow pr : List Int} {su : List (List Int)} {a b : Vl} (hp : ∀ v, 0 ≤ prI pr v) (ia : InV pr.length a) (ib : InV pr.length b)
    (hk : K (p64 (cycI pr a b)) M) : SemC tab 71 [.agg (vlL fa oa a), .agg (vlL fb ob b), .cp (gmF F ow pr su) 0, .cp [moreV (gmF F ow pr su)] 0] M K := by
  refine SemC_pure T.h71 (by simp only [PP, P1, P2, P3, P4, P5, P6, P7, P8, P9, P10, P11, P12, P13, P14, L1, P15, N1, N2, N3, N4, N5, N6, N7, I1, I2, I3, I4, I5, I6, I7, reduceIte, reduceCtorEq, PV.under]) ?_
  simp only [af71, PP, P1, P2, P3, P4, P5, P6, P7, P8, P9, P10, P11, P12, P13, P14, L1, P15, N1, N2, N3, N4, N5, N6, N7, I1, I2, I3, I4, I5, I6, I7, reduceIte, reduceCtorEq]
  refine sign_p T ia.c0 ia.c1 (hp _) ?_
  simp only [PP, P1, P2, P3, P4, P5, P6, P7, P8, P9, P10, P11, P12, P13, P14, L1, P15, N1, N2, N3, N4, N5, N6, N7, I1, I2, I3, I4, I5, I6, I7, reduceIte, reduceCtorEq]
  refine sign_p T ib.c0 ib.c1 (hp _) ?_
  simp only [PP, P1, P2, P3, P4, P5, P6, P7, P8, P9, P10, P11, P12, P13, P14, L1, P15, N1, N2, N3, N4, N5, N6, N7, I1, I2, I3, I4, I5, I6, I7, reduceIte, reduceCtorEq]
  unfold cycI at hk
  refine QIf.intro (fun c => ?_) (fun c => ?_)
  · rw [if_neg (fun h => h c)] at hk
    have hw := wrap_unit (sgI_one hp a.cy) (relI_rng pr a.cy b.cy)
    rw [c] at hk hw
    simp only [PP, P1, P2, P3, P4, P5, P6, P7, P8, P9, P10, P11, P12, P13, P14, L1, P15, N1, N2, N3, N4, N5, N6, N7, I1, I2, I3, I4, I5, I6, I7, reduceIte, reduceCtorEq, c]
    refine rel1_p T ia.c0 ia.c1 ib.c0 ib.c1 ?_
    simp only [PP, P1, P2, P3, P4, P5, P6, P7, P8, P9, P10, P11, P12, P13, P14, L1, P15, N1, N2, N3, N4, N5, N6, N7, I1, I2, I3, I4, I5, I6, I7, reduceIte, reduceCtorEq, hw]
    exact hk
  · simp only [PP, P1, P2, P3, P4, P5, P6, P7, P8, P9, P10, P11, P12, P13, P14, L1, P15, N1, N2, N3, N4, N5, N6, N7, I1, I2, I3, I4, I5, I6, I7, reduceIte, reduceCtorEq, c]
    rw [if_pos c] at hk
    exact hk
theorem stp_p {M : Mem} {K : PV → Mem → Prop} {F : GF} {fa oa fb ob : Bool} {ow pr : List Int} {su : List (List Int)} {a b : Vl} (hp : ∀ v, 0 ≤ prI pr v) (ia : InV pr.length a) (ib : InV pr.length b)
    (hk : K (p64 (stepI pr a b)) M) : SemC tab 74 [.agg (vlL fa oa a), .agg (vlL fb ob b), .cp (gmF F ow pr su) 0] M K := by
  refine SemC_pure T.h74 (by simp only [PP, P1, P2, P3, P4, P5, P6, P7, P8, P9, P10, P11, P12, P13, P14, L1, P15, N1, N2, N3, N4, N5, N6, N7, I1, I2, I3, I4, I5, I6, I7, reduceIte, reduceCtorEq, PV.under]) ?_
  simp only [af74, PP, P1, P2, P3, P4, P5, P6, P7, P8, P9, P10, P11, P12, P13, P14, L1, P15, N1, N2, N3, N4, N5, N6, N7, I1, I2, I3, I4, I5, I6, I7, reduceIte, reduceCtorEq]
  refine sign_p T ia.c0 ia.c1 (hp _) ?_
  simp only [PP, P1, P2, P3, P4, P5, P6, P7, P8, P9, P10, P11, P12, P13, P14, L1, P15, N1, N2, N3, N4, N5, N6, N7, I1, I2, I3, I4, I5, I6, I7, reduceIte, reduceCtorEq]
  refine cmp32_p T ?_
  simp only [PP, P1, P2, P3, P4, P5, P6, P7, P8, P9, P10, P11, P12, P13, P14, L1, P15, N1, N2, N3, N4, N5, N6, N7, I1, I2, I3, I4, I5, I6, I7, reduceIte, reduceCtorEq, wrap_unit (sgI_one hp a.cy) (ord3_cmp.rng b.st a.st)]
  exact hk
theorem seen_p {M : Mem} {K : PV → Mem → Prop} {F : GF} {fa oa fb ob : Bool} {ow pr : List Int} {su : List (List Int)} {a b : Vl} (hp : ∀ v, 0 ≤ prI pr v) (ia : InV pr.length a) (ib : InV pr.length b)
    (hk : K (p64 (seenI pr a.se b.se)) M) : SemC tab 73 [.agg (vlL fa oa a), .agg (vlL fb ob b), .cp [moreV (gmF F ow pr su)] 0, .cp (gmF F ow pr su) 0] M K := by
  refine SemC_pure T.h73 (by simp only [PP, P1, P2, P3, P4, P5, P6, P7, P8, P9, P10, P11, P12, P13, P14, L1, P15, N1, N2, N3, N4, N5, N6, N7, I1, I2, I3, I4, I5, I6, I7, reduceIte, reduceCtorEq, PV.under]) ?_
  simp only [af73, PP, P1, P2, P3, P4, P5, P6, P7, P8, P9, P10, P11, P12, P13, P14, L1, P15, N1, N2, N3, N4, N5, N6, N7, I1, I2, I3, I4, I5, I6, I7, reduceIte, reduceCtorEq]
  refine loop3 (fun (k : Nat) (x q : Int) => k ≤ 2 ∧ (x < 0 ∨ (0 ≤ x ∧ x < pr.length)) ∧ (q = 0 ∨ q = 1 ∨ q = -1) ∧ (k = 0 → (x, q) = (-1, 0)) ∧ (k = 1 → (x, q) = seenF pr b.se 1 (-1, 0) a.se) ∧ (k = 2 → (x, q) = seenX pr a.se b.se))
    (fun k x q => [.junk, .junk, .cp [moreV (gmF F ow pr su)] 0, .cp (gmF F ow pr su) 0, .ptr 0 0 0, .ptr 1 0 0, .junk, p64 x, p64 q, .junk, .junk, .junk, .junk, .junk, .junk, .junk, .junk, .sl true true 1 2 [slI fa oa .i64 a.se, slI fb ob .i64 b.se], p64 2, p64 k, .junk, .junk, .junk, .junk, .junk, .junk, .junk, .junk, .junk, .junk, .junk, .junk, .junk, .junk, .junk, .junk, .junk, .junk, .junk, .junk, .junk, .junk, .junk, .junk, .junk, .junk, .junk, .junk, .junk, .junk, .junk, .junk, .junk, .junk, .junk, .junk, .junk, .junk, .junk, .junk, .junk, .junk, .junk, .junk, .junk])
    (fun _ _ _ => [.cells 0 0 (vlL fa oa a), .cells 0 0 (vlL fb ob b)]) (fun k _ _ => 2 - k) 0 (-1) 0 ⟨by omega, .inl (by omega), .inl rfl, fun _ => rfl, fun h => by omega, fun h => by omega⟩ (by simp only [PWeak_nil, PWeak_junk, PWeak_same, Int.cast_ofNat_Int, List.length_append, List.length_cons, List.length_nil, Nat.zero_add]) rfl ?_
  intro k x q ⟨hle, hx, hq, e0, e1, e2⟩ ih
  refine SemW_go (by kernel_rfl) ?_
  simp only [PP, P1, P2, P3, P4, P5, P6, P7, P8, P9, P10, P11, P12, P13, P14, L1, P15, N1, N2, N3, N4, N5, N6, N7, I1, I2, I3, I4, I5, I6, I7, reduceIte, reduceCtorEq]
  refine QIf.intro (fun c => ?_) (fun c => ?_)
  · have k0 : (0 : Int) ≤ k := by omega
    have hw := wrap_succ (k := k) (by show _ < 1000000000000; omega)
    obtain ⟨fl, ol, l, fo, oo, other, s, g1, g2, hl, hlb, hob, hs, hs2, hnx⟩ : ∃ (fl ol : Bool) (l : List Int) (fo oo : Bool) (other : List Int) (s : Int), [slI fa oa .i64 a.se, slI fb ob .i64 b.se][k]? = some (slI fl ol .i64 l) ∧ [slI fb ob .i64 b.se, slI fa oa .i64 a.se][k]? = some (slI fo oo .i64 other) ∧ (∀ v ∈ l, 0 ≤ v ∧ v < pr.length) ∧ l.length < big ∧ other.length < big ∧ IntKind.i64.wrap (1 - IntKind.i64.wrap (2 * k)) = s ∧ (s = 1 ∨ s = -1) ∧
        (∀ (x' q' : Int), (x', q') = seenF pr other s (x, q) l → (k + 1 = 0 → (x', q') = (-1, 0)) ∧ (k + 1 = 1 → (x', q') = seenF pr b.se 1 (-1, 0) a.se) ∧ (k + 1 = 2 → (x', q') = seenX pr a.se b.se)) := by
      have hk2 : k = 0 ∨ k = 1 := by omega
      rcases hk2 with rfl | rfl
      · refine ⟨fa, oa, a.se, fb, ob, b.se, 1, rfl, rfl, ia.se, ia.b, ib.b, by decide, .inl rfl, fun x' q' h => ⟨fun h => by omega, fun _ => ?_, fun h => by omega⟩⟩
        rw [e0 rfl] at h; exact h
      · refine ⟨fb, ob, b.se, fa, oa, a.se, -1, rfl, rfl, ib.se, ib.b, ia.b, by decide, .inr rfl, fun x' q' h => ⟨fun h => by omega, fun h => by omega, fun _ => ?_⟩⟩
        rw [e1 rfl] at h; exact h
    simp only [PP, P1, P2, P3, P4, P5, P6, P7, P8, P9, P10, P11, P12, P13, P14, L1, P15, N1, N2, N3, N4, N5, N6, N7, I1, I2, I3, I4, I5, I6, I7, reduceIte, reduceCtorEq, c, g1, k0]
    refine loop3 (fun (j : Nat) (x' q' : Int) => j ≤ l.length ∧ (x' < 0 ∨ (0 ≤ x' ∧ x' < pr.length)) ∧ (q' = 0 ∨ q' = 1 ∨ q' = -1) ∧ seenF pr other s (x', q') (l.drop j) = seenF pr other s (x, q) l)
      (fun j x' q' => [.junk, .junk, .cp [moreV (gmF F ow pr su)] 0, .cp (gmF F ow pr su) 0, .ptr 0 0 0, .ptr 1 0 0, .junk, p64 x', p64 q', p64 k, .junk, .junk, .junk, .junk, .junk, .junk, .junk, .sl true true 1 2 [slI fa oa .i64 a.se, slI fb ob .i64 b.se], p64 2, p64 k, .junk, .junk, .junk, .junk, slI fl ol .i64 l, p64 l.length, p64 j, .junk, .junk, .junk, .junk, .junk, .junk, .junk, .junk, .junk, .junk, .junk, .junk, .junk, .junk, .junk, .junk, .junk, .junk, .junk, .junk, .junk, .junk, .junk, .junk, .junk, .junk, .junk, .junk, .junk, .junk, .junk, .junk, .junk, .junk, .junk, .junk, .junk, .junk])
      (fun _ _ _ => [.cells 0 0 (vlL fa oa a), .cells 0 0 (vlL fb ob b)]) (fun j _ _ => l.length - j) 0 x q ⟨by omega, hx, hq, rfl⟩ (by simp only [PWeak_nil, PWeak_junk, PWeak_same, Int.cast_ofNat_Int, List.length_append, List.length_cons, List.length_nil, Nat.zero_add]) rfl ?_
    intro j x' q' ⟨hj, hx', hq', he⟩ ih2
    refine SemW_go (by kernel_rfl) ?_
    simp only [PP, P1, P2, P3, P4, P5, P6, P7, P8, P9, P10, P11, P12, P13, P14, L1, P15, N1, N2, N3, N4, N5, N6, N7, I1, I2, I3, I4, I5, I6, I7, reduceIte, reduceCtorEq]
    refine QIf.intro (fun d => ?_) (fun d => ?_)
    · have hj' : j < l.length := by omega
      obtain ⟨v, gv⟩ := some_of hj'
      obtain ⟨v0, v1⟩ := hl v (List.mem_of_getElem? gv)
      have j0 : (0 : Int) ≤ j := by omega
      have hwj := wrap_succ (k := j) (by omega)
      rw [drop_some gv, seenF] at he
      simp only [PP, P1, P2, P3, P4, P5, P6, P7, P8, P9, P10, P11, P12, P13, P14, L1, P15, N1, N2, N3, N4, N5, N6, N7, I1, I2, I3, I4, I5, I6, I7, reduceIte, reduceCtorEq, d, gv, j0, c, k0, g2]
      refine contains_p T hob ?_
      simp only [PP, P1, P2, P3, P4, P5, P6, P7, P8, P9, P10, P11, P12, P13, P14, L1, P15, N1, N2, N3, N4, N5, N6, N7, I1, I2, I3, I4, I5, I6, I7, reduceIte, reduceCtorEq]
      by_cases h1 : v ∈ other
      · rw [if_neg (fun h => h.1 h1)] at he
        simp only [PP, P1, P2, P3, P4, P5, P6, P7, P8, P9, P10, P11, P12, P13, P14, L1, P15, N1, N2, N3, N4, N5, N6, N7, I1, I2, I3, I4, I5, I6, I7, reduceIte, reduceCtorEq, h1, hwj]
        exact SemW_weak (ih2 (j + 1) x' q' ⟨by omega, hx', hq', he⟩ (by omega)) (by simp only [PWeak_nil, PWeak_junk, PWeak_same, Int.cast_ofNat_Int, List.length_append, List.length_cons, List.length_nil, Nat.zero_add])
      · simp only [PP, P1, P2, P3, P4, P5, P6, P7, P8, P9, P10, P11, P12, P13, P14, L1, P15, N1, N2, N3, N4, N5, N6, N7, I1, I2, I3, I4, I5, I6, I7, reduceIte, reduceCtorEq, h1]
        refine QIf.intro (fun e => ?_) (fun e => ?_)
        · rw [if_pos ⟨h1, .inl e⟩] at he
          simp only [PP, P1, P2, P3, P4, P5, P6, P7, P8, P9, P10, P11, P12, P13, P14, L1, P15, N1, N2, N3, N4, N5, N6, N7, I1, I2, I3, I4, I5, I6, I7, reduceIte, reduceCtorEq, e, hs, hwj]
          exact SemW_weak (ih2 (j + 1) v s ⟨by omega, .inr ⟨v0, v1⟩, .inr hs2, he⟩ (by omega)) (by simp only [PWeak_nil, PWeak_junk, PWeak_same, Int.cast_ofNat_Int, List.length_append, List.length_cons, List.length_nil, Nat.zero_add])
        · simp only [PP, P1, P2, P3, P4, P5, P6, P7, P8, P9, P10, P11, P12, P13, P14, L1, P15, N1, N2, N3, N4, N5, N6, N7, I1, I2, I3, I4, I5, I6, I7, reduceIte, reduceCtorEq, e]
          refine rel1_p T v0 v1 (by omega) (by omega) ?_
          simp only [PP, P1, P2, P3, P4, P5, P6, P7, P8, P9, P10, P11, P12, P13, P14, L1, P15, N1, N2, N3, N4, N5, N6, N7, I1, I2, I3, I4, I5, I6, I7, reduceIte, reduceCtorEq]
          refine QIf.intro (fun e2 => ?_) (fun e2 => ?_)
          · rw [if_pos ⟨h1, .inr e2⟩] at he
            simp only [PP, P1, P2, P3, P4, P5, P6, P7, P8, P9, P10, P11, P12, P13, P14, L1, P15, N1, N2, N3, N4, N5, N6, N7, I1, I2, I3, I4, I5, I6, I7, reduceIte, reduceCtorEq, e2, hs, hwj]
            exact SemW_weak (ih2 (j + 1) v s ⟨by omega, .inr ⟨v0, v1⟩, .inr hs2, he⟩ (by omega)) (by simp only [PWeak_nil, PWeak_junk, PWeak_same, Int.cast_ofNat_Int, List.length_append, List.length_cons, List.length_nil, Nat.zero_add])
          · rw [if_neg (fun h => h.2.elim e e2)] at he
            simp only [PP, P1, P2, P3, P4, P5, P6, P7, P8, P9, P10, P11, P12, P13, P14, L1, P15, N1, N2, N3, N4, N5, N6, N7, I1, I2, I3, I4, I5, I6, I7, reduceIte, reduceCtorEq, e2, hwj]
            exact SemW_weak (ih2 (j + 1) x' q' ⟨by omega, hx', hq', he⟩ (by omega)) (by simp only [PWeak_nil, PWeak_junk, PWeak_same, Int.cast_ofNat_Int, List.length_append, List.length_cons, List.length_nil, Nat.zero_add])
    · rw [List.drop_eq_nil_of_le (by omega), seenF] at he
      simp only [PP, P1, P2, P3, P4, P5, P6, P7, P8, P9, P10, P11, P12, P13, P14, L1, P15, N1, N2, N3, N4, N5, N6, N7, I1, I2, I3, I4, I5, I6, I7, reduceIte, reduceCtorEq, d, hw]
      obtain ⟨a1, a2, a3⟩ := hnx x' q' he
      exact SemW_weak (ih (k + 1) x' q' ⟨by omega, hx', hq', a1, a2, a3⟩ (by omega)) (by simp only [PWeak_nil, PWeak_junk, PWeak_same, Int.cast_ofNat_Int, List.length_append, List.length_cons, List.length_nil, Nat.zero_add])
  · have hk2 : k = 2 := by omega
    have e := e2 hk2
    unfold seenI at hk
    rw [← e] at hk
    simp only [PP, P1, P2, P3, P4, P5, P6, P7, P8, P9, P10, P11, P12, P13, P14, L1, P15, N1, N2, N3, N4, N5, N6, N7, I1, I2, I3, I4, I5, I6, I7, reduceIte, reduceCtorEq, c]
    refine QIf.intro (fun d => ?_) (fun d => ?_)
    · simp only [PP, P1, P2, P3, P4, P5, P6, P7, P8, P9, P10, P11, P12, P13, P14, L1, P15, N1, N2, N3, N4, N5, N6, N7, I1, I2, I3, I4, I5, I6, I7, reduceIte, reduceCtorEq, d] at hk ⊢
      exact hk
    · simp only [PP, P1, P2, P3, P4, P5, P6, P7, P8, P9, P10, P11, P12, P13, P14, L1, P15, N1, N2, N3, N4, N5, N6, N7, I1, I2, I3, I4, I5, I6, I7, reduceIte, reduceCtorEq, d] at hk ⊢
      refine sign_p T (by omega) (by omega) (hp _) ?_
      have hq2 : q = -1 ∨ q = 0 ∨ q = 1 := by omega
      have hw : IntKind.i64.wrap (q * sgI pr x) = q * sgI pr x := by rw [Int.mul_comm]; exact wrap_unit (sgI_one hp x) hq2
      simp only [PP, P1, P2, P3, P4, P5, P6, P7, P8, P9, P10, P11, P12, P13, P14, L1, P15, N1, N2, N3, N4, N5, N6, N7, I1, I2, I3, I4, I5, I6, I7, reduceIte, reduceCtorEq, hw]
      exact hk
end
end Go.Am.Ar
set_option linter.unusedVariables false
set_option linter.unusedSimpArgs false
set_option maxRecDepth 10000
namespace Go.Am.Ar
open Go.Am renaming pchk → P1, pold → P2, PKNo → P3, ppack → P4, PObj.under → P5, pput → P6, ptset → P7, ptget → P8, pev → P9, ofAV → P10, ofAV1 → P11, ppad → P12, pfill → P13, prepl → P14, AO.effect → P15
open List renaming replicate → L1
open Nat renaming reduceAdd → N1, reduceSub → N2, reduceMul → N3, reduceLT → N4, reduceLeDiff → N5, reduceEqDiff → N6, reduceBEq → N7
open Int renaming reduceToNat → I1, reduceLT → I2, reduceLE → I3, reduceEq → I4, reduceAdd → I5, reduceSub → I6, reduceNeg → I7
theorem firstN_ord (pr : List Int) (a b : Vl) : firstN [cycI pr a b, seenI pr a.se b.se, stepI pr a b] = ordI pr a b := by
  simp only [firstN, ordI, lex3]
  split
  · rfl
  · split
    · rfl
    · split
      · rfl
      · rename_i h; simp only [ne_eq, Decidable.not_not] at h; exact h.symm
def vlE (n : Nat) (x : Vl) : Int :=
  if x.cy < 0 then 8 else if (n : Int) ≤ x.cy then 8 else if posM n (-1) x.se = true then (if x.st < 0 then 1 else 0) else 8
theorem vlE_in {n : Nat} {x : Vl} (h : vlE n x = 0) (hb : x.se.length < big) : InV n x ∧ Rise (-1) x.se ∧ 0 ≤ x.st := by
  unfold vlE at h
  split at h
  · omega
  · split at h
    · omega
    · split at h
      · split at h
        · omega
        · rename_i h1 h2 h3 h4
          have hr := posM_rise h3
          refine ⟨⟨by omega, by omega, fun v hv => ?_, hb⟩, ?_, by omega⟩
          · have := hr.2 v hv; omega
          · have : ∀ (l : List Int) (k : Int), posM n k l = true → Rise k l := by
              intro l
              induction l with
              | nil => intro k h; trivial
              | cons x l ih =>
                intro k h
                unfold posM at h
                split at h
                · simp at h
                · split at h
                  · simp at h
                  · exact ⟨by omega, ih _ h⟩
            exact this _ _ h3
      · omega
section
variable {tab : FuncId → Option AF} (T : HasA tab)
include T
theorem firstV_p {M : Mem} {K : PV → Mem → Prop} {f o fa oa fb ob : Bool} {a b : Vl} {fs : List PV} {cs : List Int} (hb : cs.length < big) (hl : fs.length = cs.length) (hu : underL 0 fs = true) (hf : FnRes tab [.agg (vlL fa oa a), .agg (vlL fb ob b)] fs cs)
    (hk : K (p64 (firstN cs)) M) : SemC tab 77 [.agg (vlL fa oa a), .agg (vlL fb ob b), .sl f o 1 cs.length fs] M K := by
  have hb' : cs.length < 1000000000000 := hb
  refine SemC_pure T.h77 (by simp only [PP, P1, P2, P3, P4, P5, P6, P7, P8, P9, P10, P11, P12, P13, P14, L1, P15, N1, N2, N3, N4, N5, N6, N7, I1, I2, I3, I4, I5, I6, I7, reduceIte, reduceCtorEq, PV.under, hu]) ?_
  simp only [af77, PP, P1, P2, P3, P4, P5, P6, P7, P8, P9, P10, P11, P12, P13, P14, L1, P15, N1, N2, N3, N4, N5, N6, N7, I1, I2, I3, I4, I5, I6, I7, reduceIte, reduceCtorEq]
  refine loop1 (fun (k : Nat) => k ≤ cs.length ∧ K (p64 (firstN (cs.drop k))) M) (fun k => [.junk, .junk, .junk, .ptr 0 0 0, .ptr 1 0 0, .junk, .junk, .junk, .junk, .junk, .sl f o 1 cs.length fs, p64 cs.length, p64 k, .junk, .junk, .junk, .junk, .junk, .junk, .junk, .junk, .junk, .junk, .junk]) (fun _ => [.cells 0 0 (vlL fa oa a), .cells 0 0 (vlL fb ob b)]) (fun k => cs.length - k) 0 ⟨by omega, hk⟩ (by simp only [PWeak_nil, PWeak_junk, PWeak_same, Int.cast_ofNat_Int, List.length_append, List.length_cons, List.length_nil, Nat.zero_add]) rfl ?_
  intro k ⟨hle, hq⟩ ih
  refine SemW_go (by kernel_rfl) ?_
  simp only [PP, P1, P2, P3, P4, P5, P6, P7, P8, P9, P10, P11, P12, P13, P14, L1, P15, N1, N2, N3, N4, N5, N6, N7, I1, I2, I3, I4, I5, I6, I7, reduceIte, reduceCtorEq]
  refine QIf.intro (fun c => ?_) (fun c => ?_)
  · have hk' : k < cs.length := by omega
    obtain ⟨x, g⟩ := some_of hk'
    obtain ⟨fv, gf⟩ := some_of (xs := fs) (k := k) (by omega)
    obtain ⟨g0, cap, rfl, hcap, hsem⟩ := hf k fv x gf g
    rw [drop_some g] at hq
    have hw := wrap_succ (k := k) (by omega)
    have h0 : (0 : Int) ≤ k := by omega
    simp only [PP, P1, P2, P3, P4, P5, P6, P7, P8, P9, P10, P11, P12, P13, P14, L1, P15, N1, N2, N3, N4, N5, N6, N7, I1, I2, I3, I4, I5, I6, I7, reduceIte, reduceCtorEq, c, gf, h0, hl]
    refine hsem _ _ ?_
    simp only [PP, P1, P2, P3, P4, P5, P6, P7, P8, P9, P10, P11, P12, P13, P14, L1, P15, N1, N2, N3, N4, N5, N6, N7, I1, I2, I3, I4, I5, I6, I7, reduceIte, reduceCtorEq]
    refine QIf.intro (fun d => ?_) (fun d => ?_)
    · have : firstN (x :: cs.drop (k + 1)) = firstN (cs.drop (k + 1)) := by rw [firstN, if_neg (by simpa using d)]
      rw [this] at hq
      simp only [PP, P1, P2, P3, P4, P5, P6, P7, P8, P9, P10, P11, P12, P13, P14, L1, P15, N1, N2, N3, N4, N5, N6, N7, I1, I2, I3, I4, I5, I6, I7, reduceIte, reduceCtorEq, d, hw]
      exact SemW_weak (ih (k + 1) ⟨by omega, hq⟩ (by omega)) (by simp only [PWeak_nil, PWeak_junk, PWeak_same, Int.cast_ofNat_Int, List.length_append, List.length_cons, List.length_nil, Nat.zero_add])
    · simp only [PP, P1, P2, P3, P4, P5, P6, P7, P8, P9, P10, P11, P12, P13, P14, L1, P15, N1, N2, N3, N4, N5, N6, N7, I1, I2, I3, I4, I5, I6, I7, reduceIte, reduceCtorEq, d]
      have : firstN (x :: cs.drop (k + 1)) = x := by unfold firstN; exact if_pos d
      rw [this] at hq; exact hq
  · rw [List.drop_eq_nil_of_le (by omega)] at hq
    simp only [PP, P1, P2, P3, P4, P5, P6, P7, P8, P9, P10, P11, P12, P13, P14, L1, P15, N1, N2, N3, N4, N5, N6, N7, I1, I2, I3, I4, I5, I6, I7, reduceIte, reduceCtorEq, c]
    exact hq
theorem ord4_p {M : Mem} {K : PV → Mem → Prop} {F : GF} {fa oa fb ob : Bool} {ow pr : List Int} {su : List (List Int)} {a b : Vl} (hp : ∀ v, 0 ≤ prI pr v) (ia : InV pr.length a) (ib : InV pr.length b)
    (hk : K (p64 (ordI pr a b)) M) : SemC tab 76 [.agg (vlL fa oa a), .agg (vlL fb ob b), .cp [cycV (gmF F ow pr su)] 0, .cp [seenV (gmF F ow pr su)] 0, .cp [stpV (gmF F ow pr su)] 0] M K := by
  refine SemC_pure T.h76 (by simp only [PP, P1, P2, P3, P4, P5, P6, P7, P8, P9, P10, P11, P12, P13, P14, L1, P15, N1, N2, N3, N4, N5, N6, N7, I1, I2, I3, I4, I5, I6, I7, reduceIte, reduceCtorEq, PV.under]) ?_
  simp only [af76, PP, P1, P2, P3, P4, P5, P6, P7, P8, P9, P10, P11, P12, P13, P14, L1, P15, N1, N2, N3, N4, N5, N6, N7, I1, I2, I3, I4, I5, I6, I7, reduceIte, reduceCtorEq]
  refine firstV_p T (cs := [cycI pr a b, seenI pr a.se b.se, stepI pr a b]) (by show 3 < 1000000000000; decide) rfl (by simp only [PP, P1, P2, P3, P4, P5, P6, P7, P8, P9, P10, P11, P12, P13, P14, L1, P15, N1, N2, N3, N4, N5, N6, N7, I1, I2, I3, I4, I5, I6, I7, reduceIte, reduceCtorEq, PV.under]) (.cons rfl (by simp only [PP, P1, P2, P3, P4, P5, P6, P7, P8, P9, P10, P11, P12, P13, P14, L1, P15, N1, N2, N3, N4, N5, N6, N7, I1, I2, I3, I4, I5, I6, I7, reduceIte, reduceCtorEq, PV.under]) (fun M K h => cyc_p T hp ia ib h) (.cons rfl (by simp only [PP, P1, P2, P3, P4, P5, P6, P7, P8, P9, P10, P11, P12, P13, P14, L1, P15, N1, N2, N3, N4, N5, N6, N7, I1, I2, I3, I4, I5, I6, I7, reduceIte, reduceCtorEq, PV.under]) (fun M K h => seen_p T hp ia ib h) (.cons rfl (by simp only [PP, P1, P2, P3, P4, P5, P6, P7, P8, P9, P10, P11, P12, P13, P14, L1, P15, N1, N2, N3, N4, N5, N6, N7, I1, I2, I3, I4, I5, I6, I7, reduceIte, reduceCtorEq, PV.under]) (fun M K h => stp_p T hp ia ib h) (.nil _ _)))) ?_
  simp only [PP, P1, P2, P3, P4, P5, P6, P7, P8, P9, P10, P11, P12, P13, P14, L1, P15, N1, N2, N3, N4, N5, N6, N7, I1, I2, I3, I4, I5, I6, I7, reduceIte, reduceCtorEq]
  rw [firstN_ord]
  exact hk
theorem order_p {M : Mem} {K : PV → Mem → Prop} {F : GF} {ow pr : List Int} {su : List (List Int)}
    (hk : K (ordV (gmF F ow pr su)) M) : SemC tab 45 [.agg (gmF F ow pr su)] M K := by
  refine SemC_imgR (by simp only [PP, P1, P2, P3, P4, P5, P6, P7, P8, P9, P10, P11, P12, P13, P14, L1, P15, N1, N2, N3, N4, N5, N6, N7, I1, I2, I3, I4, I5, I6, I7, reduceIte, reduceCtorEq, PV.under]) ?_
  refine SemC_fn T.h45 ?_
  simp only [af45, PP, P1, P2, P3, P4, P5, P6, P7, P8, P9, P10, P11, P12, P13, P14, L1, P15, N1, N2, N3, N4, N5, N6, N7, I1, I2, I3, I4, I5, I6, I7, reduceIte, reduceCtorEq]
  refine relevance_p T ?_
  simp only [PP, P1, P2, P3, P4, P5, P6, P7, P8, P9, P10, P11, P12, P13, P14, L1, P15, N1, N2, N3, N4, N5, N6, N7, I1, I2, I3, I4, I5, I6, I7, reduceIte, reduceCtorEq]
  have im0 : ∀ {M : Mem} {v : Nat} {b c : List PV}, M[0]? = some (.cells 0 v (gmF F ow pr su)) → PImg M b c → PImg M (.ptr 0 0 0 :: b) (.cp (gmF F ow pr su) 0 :: c) := fun h r => .ptr h (PImg.sames (by simp only [PP, P1, P2, P3, P4, P5, P6, P7, P8, P9, P10, P11, P12, P13, P14, L1, P15, N1, N2, N3, N4, N5, N6, N7, I1, I2, I3, I4, I5, I6, I7, reduceIte, reduceCtorEq, PV.under])) r
  have im1 : ∀ {M : Mem} {v : Nat} {b c : List PV}, M[1]? = some (.cells 0 v [moreV (gmF F ow pr su)]) → PImg M b c → PImg M (.ptr 1 0 0 :: b) (.cp [moreV (gmF F ow pr su)] 0 :: c) := fun h r => .ptr h (PImg.sames (by simp only [PP, P1, P2, P3, P4, P5, P6, P7, P8, P9, P10, P11, P12, P13, P14, L1, P15, N1, N2, N3, N4, N5, N6, N7, I1, I2, I3, I4, I5, I6, I7, reduceIte, reduceCtorEq, PV.under])) r
  refine ⟨_, .func (fun l h => by cases h) .nil (.ptr rfl (.func (fun l h => by cases h) .nil (im0 rfl (im1 rfl .nil)) .nil) (.ptr rfl (.func (fun l h => by cases h) .nil (im1 rfl (im0 rfl .nil)) .nil) (.ptr rfl (.func (fun l h => by cases h) .nil (im0 rfl .nil) .nil) .nil))) .nil, by simp only [PP, P1, P2, P3, P4, P5, P6, P7, P8, P9, P10, P11, P12, P13, P14, L1, P15, N1, N2, N3, N4, N5, N6, N7, I1, I2, I3, I4, I5, I6, I7, reduceIte, reduceCtorEq, PV.under], hk⟩
theorem vcheck_p {M : Mem} {K : PV → Mem → Prop} {F : GF} {fa oa : Bool} {ow pr : List Int} {su : List (List Int)} {a : Vl} (hb : a.se.length < big)
    (hk : K (p64 (vlE ow.length a)) M) : SemC tab 51 [.agg (gmF F ow pr su), .agg (vlL fa oa a)] M K := by
  refine SemC_pure T.h51 (by simp only [PP, P1, P2, P3, P4, P5, P6, P7, P8, P9, P10, P11, P12, P13, P14, L1, P15, N1, N2, N3, N4, N5, N6, N7, I1, I2, I3, I4, I5, I6, I7, reduceIte, reduceCtorEq, PV.under]) ?_
  simp only [af51, PP, P1, P2, P3, P4, P5, P6, P7, P8, P9, P10, P11, P12, P13, P14, L1, P15, N1, N2, N3, N4, N5, N6, N7, I1, I2, I3, I4, I5, I6, I7, reduceIte, reduceCtorEq]
  unfold vlE at hk
  have hb' : a.se.length < 1000000000000 := hb
  refine QIf.intro (fun c1 => ?_) (fun c1 => ?_)
  · simp only [PP, P1, P2, P3, P4, P5, P6, P7, P8, P9, P10, P11, P12, P13, P14, L1, P15, N1, N2, N3, N4, N5, N6, N7, I1, I2, I3, I4, I5, I6, I7, reduceIte, reduceCtorEq, c1] at hk ⊢
    exact hk
  simp only [PP, P1, P2, P3, P4, P5, P6, P7, P8, P9, P10, P11, P12, P13, P14, L1, P15, N1, N2, N3, N4, N5, N6, N7, I1, I2, I3, I4, I5, I6, I7, reduceIte, reduceCtorEq, c1] at hk ⊢
  refine QIf.intro (fun c2 => ?_) (fun c2 => ?_)
  · simp only [PP, P1, P2, P3, P4, P5, P6, P7, P8, P9, P10, P11, P12, P13, P14, L1, P15, N1, N2, N3, N4, N5, N6, N7, I1, I2, I3, I4, I5, I6, I7, reduceIte, reduceCtorEq, c2] at hk ⊢
    exact hk
  simp only [PP, P1, P2, P3, P4, P5, P6, P7, P8, P9, P10, P11, P12, P13, P14, L1, P15, N1, N2, N3, N4, N5, N6, N7, I1, I2, I3, I4, I5, I6, I7, reduceIte, reduceCtorEq, c2] at hk ⊢
  refine loop2 (fun (k : Nat) (last : Int) => k ≤ a.se.length ∧ posM ow.length last (a.se.drop k) = posM ow.length (-1) a.se) (fun k last => [.junk, .junk, .junk, .ptr 1 0 0, .junk, p64 ow.length, p64 last, .junk, .junk, .junk, .junk, .junk, .junk, .junk, .junk, .junk, .junk, .junk, .junk, .junk, .junk, .junk, slI fa oa .i64 a.se, p64 a.se.length, p64 k, .junk, .junk, .junk, .junk, .junk, .junk, .junk, .junk, .junk, .junk, .junk, .junk, .junk, .junk, .junk, .junk]) (fun _ _ => [.cells 0 0 (gmF F ow pr su), .cells 0 0 (vlL fa oa a)]) (fun k _ => a.se.length - k) 0 (-1) ⟨by omega, rfl⟩ (by simp only [PWeak_nil, PWeak_junk, PWeak_same, Int.cast_ofNat_Int, List.length_append, List.length_cons, List.length_nil, Nat.zero_add]) rfl ?_
  intro k last ⟨hle, hq⟩ ih
  refine SemW_go (by kernel_rfl) ?_
  simp only [PP, P1, P2, P3, P4, P5, P6, P7, P8, P9, P10, P11, P12, P13, P14, L1, P15, N1, N2, N3, N4, N5, N6, N7, I1, I2, I3, I4, I5, I6, I7, reduceIte, reduceCtorEq]
  refine QIf.intro (fun d => ?_) (fun d => ?_)
  · have hk' : k < a.se.length := by omega
    have hw := wrap_succ (k := k) (by omega)
    have h0 : (0 : Int) ≤ k := by omega
    obtain ⟨v, g⟩ := some_of hk'
    rw [drop_some g, posM] at hq
    simp only [PP, P1, P2, P3, P4, P5, P6, P7, P8, P9, P10, P11, P12, P13, P14, L1, P15, N1, N2, N3, N4, N5, N6, N7, I1, I2, I3, I4, I5, I6, I7, reduceIte, reduceCtorEq, d, g, h0]
    refine QIf.intro (fun h1 => ?_) (fun h1 => ?_)
    · rw [if_pos h1] at hq
      rw [← hq] at hk
      simp only [PP, P1, P2, P3, P4, P5, P6, P7, P8, P9, P10, P11, P12, P13, P14, L1, P15, N1, N2, N3, N4, N5, N6, N7, I1, I2, I3, I4, I5, I6, I7, reduceIte, reduceCtorEq, h1] at hk ⊢
      exact hk
    · rw [if_neg h1] at hq
      simp only [PP, P1, P2, P3, P4, P5, P6, P7, P8, P9, P10, P11, P12, P13, P14, L1, P15, N1, N2, N3, N4, N5, N6, N7, I1, I2, I3, I4, I5, I6, I7, reduceIte, reduceCtorEq, h1] at hk ⊢
      refine QIf.intro (fun h2 => ?_) (fun h2 => ?_)
      · rw [if_pos h2] at hq
        rw [← hq] at hk
        simp only [PP, P1, P2, P3, P4, P5, P6, P7, P8, P9, P10, P11, P12, P13, P14, L1, P15, N1, N2, N3, N4, N5, N6, N7, I1, I2, I3, I4, I5, I6, I7, reduceIte, reduceCtorEq, h2] at hk ⊢
        exact hk
      · rw [if_neg h2] at hq
        simp only [PP, P1, P2, P3, P4, P5, P6, P7, P8, P9, P10, P11, P12, P13, P14, L1, P15, N1, N2, N3, N4, N5, N6, N7, I1, I2, I3, I4, I5, I6, I7, reduceIte, reduceCtorEq, h2, hw]
        exact SemW_weak (ih (k + 1) v ⟨by omega, hq⟩ (by omega)) (by simp only [PWeak_nil, PWeak_junk, PWeak_same, Int.cast_ofNat_Int, List.length_append, List.length_cons, List.length_nil, Nat.zero_add])
  · rw [List.drop_eq_nil_of_le (by omega), posM] at hq
    rw [← hq] at hk
    simp only [PP, P1, P2, P3, P4, P5, P6, P7, P8, P9, P10, P11, P12, P13, P14, L1, P15, N1, N2, N3, N4, N5, N6, N7, I1, I2, I3, I4, I5, I6, I7, reduceIte, reduceCtorEq, d] at hk ⊢
    refine QIf.intro (fun e => ?_) (fun e => ?_)
    · simp only [PP, P1, P2, P3, P4, P5, P6, P7, P8, P9, P10, P11, P12, P13, P14, L1, P15, N1, N2, N3, N4, N5, N6, N7, I1, I2, I3, I4, I5, I6, I7, reduceIte, reduceCtorEq, e] at hk ⊢; exact hk
    · simp only [PP, P1, P2, P3, P4, P5, P6, P7, P8, P9, P10, P11, P12, P13, P14, L1, P15, N1, N2, N3, N4, N5, N6, N7, I1, I2, I3, I4, I5, I6, I7, reduceIte, reduceCtorEq, e] at hk ⊢; exact hk
end
def cmpE (ow pr : List Int) (su : List (List Int)) (a b : Vl) : Int := if checkM ow pr su = 0 then (if vlE ow.length a = 0 then vlE ow.length b else vlE ow.length a) else checkM ow pr su
def cmpM (ow pr : List Int) (su : List (List Int)) (a b : Vl) : Int := if cmpE ow pr su a b = 0 then ordI pr a b else 0
theorem Valid.prI {ow pr : List Int} {su : List (List Int)} (V : Valid ow pr su) (v : Int) : 0 ≤ prI pr v ∧ prI pr v ≤ 16 := by
  unfold Go.Am.Ar.prI
  by_cases h : v.toNat < pr.length
  · have := V.row v.toNat (by have := V.s; have := V.p; omega)
    exact ⟨this.1, this.2.1⟩
  · simp [List.getD, List.getElem?_eq_none (show pr.length ≤ v.toNat by omega)]
section
variable {tab : FuncId → Option AF} (T : HasA tab)
include T
theorem vcompare_p {M : Mem} {K : PV → Mem → Prop} {F : GF} {fa oa fb ob : Bool} {ow pr : List Int} {su : List (List Int)} {a b : Vl} (B : Bnd ow pr su) (ha : a.se.length < big) (hb : b.se.length < big)
    (hk : K (.tuple [p64 (cmpM ow pr su a b), p64 (cmpE ow pr su a b)]) M) : SemC tab 24 [.agg (gmF F ow pr su), .agg (vlL fa oa a), .agg (vlL fb ob b)] M K := by
  refine SemC_pure T.h24 (by simp only [PP, P1, P2, P3, P4, P5, P6, P7, P8, P9, P10, P11, P12, P13, P14, L1, P15, N1, N2, N3, N4, N5, N6, N7, I1, I2, I3, I4, I5, I6, I7, reduceIte, reduceCtorEq, PV.under]) ?_
  simp only [af24, PP, P1, P2, P3, P4, P5, P6, P7, P8, P9, P10, P11, P12, P13, P14, L1, P15, N1, N2, N3, N4, N5, N6, N7, I1, I2, I3, I4, I5, I6, I7, reduceIte, reduceCtorEq]
  refine check_p T B ?_
  simp only [PP, P1, P2, P3, P4, P5, P6, P7, P8, P9, P10, P11, P12, P13, P14, L1, P15, N1, N2, N3, N4, N5, N6, N7, I1, I2, I3, I4, I5, I6, I7, reduceIte, reduceCtorEq]
  unfold cmpM cmpE at hk
  refine QIf.intro (fun c1 => ?_) (fun c1 => ?_)
  rotate_left
  · rw [if_neg c1, if_neg c1] at hk
    simp only [PP, P1, P2, P3, P4, P5, P6, P7, P8, P9, P10, P11, P12, P13, P14, L1, P15, N1, N2, N3, N4, N5, N6, N7, I1, I2, I3, I4, I5, I6, I7, reduceIte, reduceCtorEq, c1]
    exact hk
  rw [if_pos c1] at hk
  have V := valid_of c1
  have w1 : IntKind.i64.wrap 1 = 1 := by decide
  have w2 : IntKind.i64.wrap 2 = 2 := by decide
  simp only [PP, P1, P2, P3, P4, P5, P6, P7, P8, P9, P10, P11, P12, P13, P14, L1, P15, N1, N2, N3, N4, N5, N6, N7, I1, I2, I3, I4, I5, I6, I7, reduceIte, reduceCtorEq, c1]
  refine loop1 (fun (k : Nat) => k ≤ 2 ∧ (0 < k → vlE ow.length a = 0) ∧ (1 < k → vlE ow.length b = 0)) (fun k => [.junk, .junk, .junk, .ptr 0 0 0, .ptr 1 0 0, .ptr 2 0 0, .junk, .junk, .junk, .junk, .junk, .junk, .junk, .junk, .junk, .junk, .junk, .junk, .junk, .sl true true 3 2 [p64 a.cy, slI fa oa .i64 a.se, p64 a.st, p64 b.cy, slI fb ob .i64 b.se, p64 b.st], p64 2, p64 k, .junk, .junk, .junk, .junk, .junk, .junk, .junk, .junk, .junk, .junk, .junk, .junk, .junk, .junk, .junk]) (fun k => [.cells 0 0 (gmF F ow pr su), .cells 0 0 (vlL fa oa a), .cells 0 0 (vlL fb ob b)] ++ List.take k [.cells 0 1 (vlL fa oa a), .cells 0 1 (vlL fb ob b)]) (fun k => 2 - k) 0 ⟨by omega, fun h => by omega, fun h => by omega⟩ (by simp only [PWeak_nil, PWeak_junk, PWeak_same, Int.cast_ofNat_Int, List.length_append, List.length_cons, List.length_nil, Nat.zero_add]) rfl ?_
  intro k ⟨hle, h0, h1⟩ ih
  refine SemW_go (by kernel_rfl) ?_
  simp only [PP, P1, P2, P3, P4, P5, P6, P7, P8, P9, P10, P11, P12, P13, P14, L1, P15, N1, N2, N3, N4, N5, N6, N7, I1, I2, I3, I4, I5, I6, I7, reduceIte, reduceCtorEq]
  refine QIf.intro (fun d => ?_) (fun d => ?_)
  · have hk2 : k = 0 ∨ k = 1 := by omega
    rcases hk2 with rfl | rfl
    · simp only [PP, P1, P2, P3, P4, P5, P6, P7, P8, P9, P10, P11, P12, P13, P14, L1, P15, N1, N2, N3, N4, N5, N6, N7, I1, I2, I3, I4, I5, I6, I7, reduceIte, reduceCtorEq]
      refine vcheck_p T ha ?_
      simp only [PP, P1, P2, P3, P4, P5, P6, P7, P8, P9, P10, P11, P12, P13, P14, L1, P15, N1, N2, N3, N4, N5, N6, N7, I1, I2, I3, I4, I5, I6, I7, reduceIte, reduceCtorEq]
      refine QIf.intro (fun e => ?_) (fun e => ?_)
      · simp only [PP, P1, P2, P3, P4, P5, P6, P7, P8, P9, P10, P11, P12, P13, P14, L1, P15, N1, N2, N3, N4, N5, N6, N7, I1, I2, I3, I4, I5, I6, I7, reduceIte, reduceCtorEq, e, w1]
        exact SemW_weak (ih 1 ⟨by omega, fun _ => e, fun h => by omega⟩ (by omega)) (by simp only [PWeak_nil, PWeak_junk, PWeak_same, Int.cast_ofNat_Int, List.length_append, List.length_cons, List.length_nil, Nat.zero_add])
      · rw [if_neg e, if_neg e] at hk
        simp only [PP, P1, P2, P3, P4, P5, P6, P7, P8, P9, P10, P11, P12, P13, P14, L1, P15, N1, N2, N3, N4, N5, N6, N7, I1, I2, I3, I4, I5, I6, I7, reduceIte, reduceCtorEq, e]
        exact hk
    · simp only [PP, P1, P2, P3, P4, P5, P6, P7, P8, P9, P10, P11, P12, P13, P14, L1, P15, N1, N2, N3, N4, N5, N6, N7, I1, I2, I3, I4, I5, I6, I7, reduceIte, reduceCtorEq]
      refine vcheck_p T hb ?_
      rw [if_pos (h0 (by omega))] at hk
      simp only [PP, P1, P2, P3, P4, P5, P6, P7, P8, P9, P10, P11, P12, P13, P14, L1, P15, N1, N2, N3, N4, N5, N6, N7, I1, I2, I3, I4, I5, I6, I7, reduceIte, reduceCtorEq]
      refine QIf.intro (fun e => ?_) (fun e => ?_)
      · simp only [PP, P1, P2, P3, P4, P5, P6, P7, P8, P9, P10, P11, P12, P13, P14, L1, P15, N1, N2, N3, N4, N5, N6, N7, I1, I2, I3, I4, I5, I6, I7, reduceIte, reduceCtorEq, e, w2]
        exact SemW_weak (ih 2 ⟨by omega, fun _ => h0 (by omega), fun _ => e⟩ (by omega)) (by simp only [PWeak_nil, PWeak_junk, PWeak_same, Int.cast_ofNat_Int, List.length_append, List.length_cons, List.length_nil, Nat.zero_add])
      · rw [if_neg e] at hk
        simp only [PP, P1, P2, P3, P4, P5, P6, P7, P8, P9, P10, P11, P12, P13, P14, L1, P15, N1, N2, N3, N4, N5, N6, N7, I1, I2, I3, I4, I5, I6, I7, reduceIte, reduceCtorEq, e]
        exact hk
  · have hk2 : k = 2 := by omega
    subst hk2
    have e1 := h0 (by omega); have e2 := h1 (by omega)
    rw [if_pos e1, e2] at hk
    have hp : pr.length = ow.length := V.p
    simp only [PP, P1, P2, P3, P4, P5, P6, P7, P8, P9, P10, P11, P12, P13, P14, L1, P15, N1, N2, N3, N4, N5, N6, N7, I1, I2, I3, I4, I5, I6, I7, reduceIte, reduceCtorEq]
    refine order_p T ?_
    simp only [PP, P1, P2, P3, P4, P5, P6, P7, P8, P9, P10, P11, P12, P13, P14, L1, P15, N1, N2, N3, N4, N5, N6, N7, I1, I2, I3, I4, I5, I6, I7, reduceIte, reduceCtorEq]
    refine ord4_p T (fun v => (V.prI v).1) (hp ▸ (vlE_in e1 ha).1) (hp ▸ (vlE_in e2 hb).1) ?_
    simp only [PP, P1, P2, P3, P4, P5, P6, P7, P8, P9, P10, P11, P12, P13, P14, L1, P15, N1, N2, N3, N4, N5, N6, N7, I1, I2, I3, I4, I5, I6, I7, reduceIte, reduceCtorEq]
    exact hk
end
end Go.Am.Ar
set_option linter.unusedVariables false
set_option linter.unusedSimpArgs false
set_option maxRecDepth 10000
namespace Go.Am.Ar
open Go.Am renaming pchk → P1, pold → P2, PKNo → P3, ppack → P4, PObj.under → P5, pput → P6, ptset → P7, ptget → P8, pev → P9, ofAV → P10, ofAV1 → P11, ppad → P12, pfill → P13, prepl → P14, AO.effect → P15
open List renaming replicate → L1
open Nat renaming reduceAdd → N1, reduceSub → N2, reduceMul → N3, reduceLT → N4, reduceLeDiff → N5, reduceEqDiff → N6, reduceBEq → N7
open Int renaming reduceToNat → I1, reduceLT → I2, reduceLE → I3, reduceEq → I4, reduceAdd → I5, reduceSub → I6, reduceNeg → I7
def maxR (pr : List Int) : Int → List Int → Int
  | m, [] => m
  | m, x :: l => maxR pr (if 0 < relI pr x m then x else m) l
theorem maxR_mem (pr : List Int) : ∀ (l : List Int) (m : Int), maxR pr m l = m ∨ maxR pr m l ∈ l
  | [], m => .inl rfl
  | x :: l, m => by
    unfold maxR
    rcases maxR_mem pr l (if 0 < relI pr x m then x else m) with h | h
    · rw [h]; split
      · exact .inr (by simp)
      · exact .inl rfl
    · exact .inr (by simp [h])
section
variable {tab : FuncId → Option AF} (T : HasA tab)
include T
theorem grow_p {M : Mem} {K : PV → Mem → Prop} {n : Nat} (hn : 0 < n) (hb : n < 1000000000000) (hk : K (.ref M.length 0 1 0 0) (M ++ [.cells 0 0 (List.replicate n (p64 0))])) :
    SemC tab 83 [.nils, p64 n] M K := by
  refine SemC_sem T.h83 ?_
  have n0 : ¬ (n : Int) < 0 := by omega
  have n1 : (0 : Int) < n := by omega
  have w0 : IntKind.i64.wrap 0 = 0 := by decide
  have wn : IntKind.i64.wrap ((n : Int) - 0) = n := by rw [wrap64 (by omega) (by omega)]; omega
  simp only [af83]
  refine SemW_seq (SemW_of ?_)
  simp only [PP, P1, P2, P3, P4, P5, P6, P7, P8, P9, P10, P11, P12, P13, P14, L1, P15, N1, N2, N3, N4, N5, N6, N7, I1, I2, I3, I4, I5, I6, I7, reduceIte, reduceCtorEq]
  refine SemW_seq (SemW_of ?_)
  simp only [PP, P1, P2, P3, P4, P5, P6, P7, P8, P9, P10, P11, P12, P13, P14, L1, P15, N1, N2, N3, N4, N5, N6, N7, I1, I2, I3, I4, I5, I6, I7, reduceIte, reduceCtorEq, n0]
  refine SemW_seq (SemW_seq (SemW_op (os1 := [_, _]) rfl ?_))
  simp only [PP, P1, P2, P3, P4, P5, P6, P7, P8, P9, P10, P11, P12, P13, P14, L1, P15, N1, N2, N3, N4, N5, N6, N7, I1, I2, I3, I4, I5, I6, I7, reduceIte, reduceCtorEq]
  refine OpOk_cap rfl ?_
  simp only [PP, P1, P2, P3, P4, P5, P6, P7, P8, P9, P10, P11, P12, P13, P14, L1, P15, N1, N2, N3, N4, N5, N6, N7, I1, I2, I3, I4, I5, I6, I7, reduceIte, reduceCtorEq, w0, wn]
  refine SemW_seq (SemW_of ?_)
  simp only [PP, P1, P2, P3, P4, P5, P6, P7, P8, P9, P10, P11, P12, P13, P14, L1, P15, N1, N2, N3, N4, N5, N6, N7, I1, I2, I3, I4, I5, I6, I7, reduceIte, reduceCtorEq, n1]
  refine SemW_condT rfl ?_
  refine SemW_op (os1 := [_, _]) rfl ?_
  simp only [PP, P1, P2, P3, P4, P5, P6, P7, P8, P9, P10, P11, P12, P13, P14, L1, P15, N1, N2, N3, N4, N5, N6, N7, I1, I2, I3, I4, I5, I6, I7, reduceIte, reduceCtorEq]
  refine OpOk_cap rfl ?_
  have hz : (n : Int) ≠ 0 := by omega
  have h0 : (0 : Int) ≤ n := by omega
  have pz : prepl n [PV.int .i64 0] = List.replicate n (PV.int .i64 0) := prepl_one n _
  have gM : (M ++ [PObj.cells 0 0 (List.replicate n (PV.int .i64 0))])[List.length M]? = some (PObj.cells 0 0 (List.replicate n (PV.int .i64 0))) := by simp
  simp only [PP, P1, P2, P3, P4, P5, P6, P7, P8, P9, P10, P11, P12, P13, P14, L1, P15, N1, N2, N3, N4, N5, N6, N7, I1, I2, I3, I4, I5, I6, I7, reduceIte, reduceCtorEq, PS_appendMake, hz, h0, pz, gM]
  refine ⟨by omega, SemW_of ?_⟩
  simp only [PP, P1, P2, P3, P4, P5, P6, P7, P8, P9, P10, P11, P12, P13, P14, L1, P15, N1, N2, N3, N4, N5, N6, N7, I1, I2, I3, I4, I5, I6, I7, reduceIte, reduceCtorEq]
  exact hk
set_option maxHeartbeats 1000000 in
theorem concat_p {M : Mem} {K : PV → Mem → Prop} {f o f1 o1 f2 o2 : Bool} {xs ys : List Int} (hb : xs.length + ys.length < 1000000000000) (hy : ys ≠ []) (hk : K (slI false true .i64 (xs ++ ys)) M) :
    SemC tab 55 [.sl f o 1 2 [slI f1 o1 .i64 xs, slI f2 o2 .i64 ys]] M K := by
  refine SemC_pureS T.h55 (by simp only [PP, P1, P2, P3, P4, P5, P6, P7, P8, P9, P10, P11, P12, P13, P14, L1, P15, N1, N2, N3, N4, N5, N6, N7, I1, I2, I3, I4, I5, I6, I7, reduceIte, reduceCtorEq, PV.under]) ?_
  have hy1 : 0 < ys.length := by cases ys with | nil => exact absurd rfl hy | cons _ _ => simp
  have w1 : IntKind.i64.wrap 1 = ((1 : Nat) : Int) := rfl
  have w2 : IntKind.i64.wrap 2 = ((2 : Nat) : Int) := rfl
  simp only [af55]
  refine SemW_seq (SemW_of ?_)
  simp only [PP, P1, P2, P3, P4, P5, P6, P7, P8, P9, P10, P11, P12, P13, P14, L1, P15, N1, N2, N3, N4, N5, N6, N7, I1, I2, I3, I4, I5, I6, I7, reduceIte, reduceCtorEq]
  refine SemW_seq (SemW_of ?_)
  simp only [PP, P1, P2, P3, P4, P5, P6, P7, P8, P9, P10, P11, P12, P13, P14, L1, P15, N1, N2, N3, N4, N5, N6, N7, I1, I2, I3, I4, I5, I6, I7, reduceIte, reduceCtorEq]
  refine SemW_seq (SemW_of ?_)
  simp only [PP, P1, P2, P3, P4, P5, P6, P7, P8, P9, P10, P11, P12, P13, P14, L1, P15, N1, N2, N3, N4, N5, N6, N7, I1, I2, I3, I4, I5, I6, I7, reduceIte, reduceCtorEq]
  refine loop2 (fun (k tot : Nat) => k ≤ 2 ∧ (k = 0 → tot = 0) ∧ (k = 1 → tot = xs.length) ∧ (k = 2 → tot = xs.length + ys.length)) (fun k tot => [.sl f o 1 2 [slI f1 o1 .i64 xs, slI f2 o2 .i64 ys], .junk, .junk, p64 tot, .junk, .junk, .junk, .junk, .junk, .sl f o 1 2 [slI f1 o1 .i64 xs, slI f2 o2 .i64 ys], p64 2, p64 k, .junk, .junk, .junk, .junk, .junk, .junk, .junk, .junk, .junk, .junk, .junk, .junk, .junk, .junk, .junk, .junk, .junk, .junk, .junk, .junk, .junk, .junk, .junk, .junk]) (fun _ _ => []) (fun k _ => 2 - k) 0 0 ⟨by omega, fun _ => rfl, fun h => by omega, fun h => by omega⟩ (by simp only [PWeak_nil, PWeak_junk, PWeak_same, Int.cast_ofNat_Int, List.length_append, List.length_cons, List.length_nil, Nat.zero_add]) rfl ?_
  intro k tot ⟨hle, t0, t1, t2⟩ ih
  refine SemW_go (by kernel_rfl) ?_
  simp only [PP, P1, P2, P3, P4, P5, P6, P7, P8, P9, P10, P11, P12, P13, P14, L1, P15, N1, N2, N3, N4, N5, N6, N7, I1, I2, I3, I4, I5, I6, I7, reduceIte, reduceCtorEq]
  refine QIf.intro (fun c => ?_) (fun c => ?_)
  · have hk2 : k = 0 ∨ k = 1 := by omega
    rcases hk2 with rfl | rfl
    · rw [t0 rfl]
      have wx : IntKind.i64.wrap (0 + (xs.length : Int)) = ((xs.length : Nat) : Int) := by rw [wrap64 (by omega) (by omega)]; omega
      have nx : ¬ (xs.length : Int) < 0 := by omega
      simp only [PP, P1, P2, P3, P4, P5, P6, P7, P8, P9, P10, P11, P12, P13, P14, L1, P15, N1, N2, N3, N4, N5, N6, N7, I1, I2, I3, I4, I5, I6, I7, reduceIte, reduceCtorEq, wx, nx, w1]
      exact SemW_weak (ih 1 xs.length ⟨by omega, fun h => by omega, fun _ => rfl, fun h => by omega⟩ (by omega)) (by simp only [PWeak_nil, PWeak_junk, PWeak_same, Int.cast_ofNat_Int, List.length_append, List.length_cons, List.length_nil, Nat.zero_add])
    · rw [t1 rfl]
      have wx : IntKind.i64.wrap ((xs.length : Int) + (ys.length : Int)) = ((xs.length + ys.length : Nat) : Int) := by rw [wrap64 (by omega) (by omega)]; omega
      have nx : ¬ ((xs.length + ys.length : Nat) : Int) < 0 := by omega
      simp only [PP, P1, P2, P3, P4, P5, P6, P7, P8, P9, P10, P11, P12, P13, P14, L1, P15, N1, N2, N3, N4, N5, N6, N7, I1, I2, I3, I4, I5, I6, I7, reduceIte, reduceCtorEq, wx, nx, w2]
      exact SemW_weak (ih 2 (xs.length + ys.length) ⟨by omega, fun h => by omega, fun h => by omega, fun _ => rfl⟩ (by omega)) (by simp only [PWeak_nil, PWeak_junk, PWeak_same, Int.cast_ofNat_Int, List.length_append, List.length_cons, List.length_nil, Nat.zero_add])
  have hk2 : k = 2 := by omega
  rw [t2 hk2]
  simp only [PP, P1, P2, P3, P4, P5, P6, P7, P8, P9, P10, P11, P12, P13, P14, L1, P15, N1, N2, N3, N4, N5, N6, N7, I1, I2, I3, I4, I5, I6, I7, reduceIte, reduceCtorEq, c]
  refine SemW_seq (SemW_of ?_)
  simp only [PP, P1, P2, P3, P4, P5, P6, P7, P8, P9, P10, P11, P12, P13, P14, L1, P15, N1, N2, N3, N4, N5, N6, N7, I1, I2, I3, I4, I5, I6, I7, reduceIte, reduceCtorEq]
  refine grow_p T (by omega) (by omega) ?_
  simp only [PP, P1, P2, P3, P4, P5, P6, P7, P8, P9, P10, P11, P12, P13, P14, L1, P15, N1, N2, N3, N4, N5, N6, N7, I1, I2, I3, I4, I5, I6, I7, reduceIte, reduceCtorEq]
  refine SemW_seq (SemW_of ?_)
  simp only [PP, P1, P2, P3, P4, P5, P6, P7, P8, P9, P10, P11, P12, P13, P14, L1, P15, N1, N2, N3, N4, N5, N6, N7, I1, I2, I3, I4, I5, I6, I7, reduceIte, reduceCtorEq]
  refine loop4 (fun (k g m : Nat) (cs : List PV) => k ≤ 2 ∧ m ≤ cs.length ∧ (k = 0 → m = 0) ∧ (k = 1 → m = xs.length ∧ psub cs 0 m = xs.map (PV.int .i64)) ∧ (k = 2 → m = xs.length + ys.length ∧ cs = (xs ++ ys).map (PV.int .i64)))
    (fun k g m cs => [.junk, .junk, .junk, .junk, .junk, .junk, .ref 0 g 1 0 m, .junk, .junk, .junk, .junk, .junk, .junk, .junk, .junk, .junk, .junk, .junk, .junk, .junk, .junk, .junk, .junk, .junk, .junk, .sl f o 1 2 [slI f1 o1 .i64 xs, slI f2 o2 .i64 ys], p64 2, p64 k, .junk, .junk, .junk, .junk, .junk, .junk, .junk, .junk]) (fun k g m cs => [.cells g 0 cs]) (fun k _ _ _ => 2 - k) 0 0 0 (List.replicate (xs.length + ys.length) (p64 0)) ⟨by omega, by omega, fun _ => rfl, fun h => by omega, fun h => by omega⟩ (by simp only [PWeak_nil, PWeak_junk, PWeak_same, Int.cast_ofNat_Int, List.length_append, List.length_cons, List.length_nil, Nat.zero_add]) rfl ?_
  intro k g m cs ⟨hle, hm, m0, m1, m2⟩ ih
  have hk3 : k = 0 ∨ k = 1 ∨ k = 2 := by omega
  rcases hk3 with rfl | rfl | rfl
  · have e0 := m0 rfl
    subst e0
    by_cases hx : xs = []
    · subst hx
      refine SemW_loop (by kernel_rfl) ?_
      refine SemW_seq (SemW_of ?_)
      simp only [PP, P1, P2, P3, P4, P5, P6, P7, P8, P9, P10, P11, P12, P13, P14, L1, P15, N1, N2, N3, N4, N5, N6, N7, I1, I2, I3, I4, I5, I6, I7, reduceIte, reduceCtorEq]
      refine SemW_seq (SemW_of ?_)
      simp only [PP, P1, P2, P3, P4, P5, P6, P7, P8, P9, P10, P11, P12, P13, P14, L1, P15, N1, N2, N3, N4, N5, N6, N7, I1, I2, I3, I4, I5, I6, I7, reduceIte, reduceCtorEq]
      refine SemW_seq (SemW_blk (SemW_seq (SemW_of ?_)))
      simp only [PP, P1, P2, P3, P4, P5, P6, P7, P8, P9, P10, P11, P12, P13, P14, L1, P15, N1, N2, N3, N4, N5, N6, N7, I1, I2, I3, I4, I5, I6, I7, reduceIte, reduceCtorEq]
      refine SemW_op (os1 := [_, _]) rfl ?_
      simp only [PP, P1, P2, P3, P4, P5, P6, P7, P8, P9, P10, P11, P12, P13, P14, L1, P15, N1, N2, N3, N4, N5, N6, N7, I1, I2, I3, I4, I5, I6, I7, reduceIte, reduceCtorEq]
      refine OpOk_app0 (ver := 0) (cs := cs) (f := f1) (o := o1) rfl rfl rfl ?_
      refine SemW_of ?_
      simp only [PP, P1, P2, P3, P4, P5, P6, P7, P8, P9, P10, P11, P12, P13, P14, L1, P15, N1, N2, N3, N4, N5, N6, N7, I1, I2, I3, I4, I5, I6, I7, reduceIte, reduceCtorEq, w1]
      exact SemW_weak (ih 1 g 0 cs ⟨by omega, by omega, fun h => by omega, fun _ => ⟨rfl, by simp [psub]⟩, fun h => by omega⟩ (by omega)) (by simp only [PWeak_nil, PWeak_junk, PWeak_same, Int.cast_ofNat_Int, List.length_append, List.length_cons, List.length_nil, Nat.zero_add])
    · have hx1 : 0 < xs.length := by cases xs with | nil => exact absurd rfl hx | cons _ _ => simp
      refine SemW_go (by kernel_rfl) ?_
      simp only [PP, P1, P2, P3, P4, P5, P6, P7, P8, P9, P10, P11, P12, P13, P14, L1, P15, N1, N2, N3, N4, N5, N6, N7, I1, I2, I3, I4, I5, I6, I7, reduceIte, reduceCtorEq, w1, hx1]
      refine ⟨⟨by omega, by omega⟩, SemW_weak (ih 1 (g + 1) xs.length (xs.map (PV.int .i64)) ⟨by omega, by simp, fun h => by omega, fun _ => ⟨rfl, psub_map _ _⟩, fun h => by omega⟩ (by omega)) (by simp only [PWeak_nil, PWeak_junk, PWeak_same, Int.cast_ofNat_Int, List.length_append, List.length_cons, List.length_nil, Nat.zero_add])⟩
  · obtain ⟨e1, e2⟩ := m1 rfl
    subst e1
    refine SemW_go (by kernel_rfl) ?_
    simp only [PP, P1, P2, P3, P4, P5, P6, P7, P8, P9, P10, P11, P12, P13, P14, L1, P15, N1, N2, N3, N4, N5, N6, N7, I1, I2, I3, I4, I5, I6, I7, reduceIte, reduceCtorEq, w2, hy1, e2, hm]
    refine ⟨⟨by omega, by omega⟩, SemW_to (ih 2 (g + 1) (xs.length + ys.length) ((xs ++ ys).map (PV.int .i64)) ⟨by omega, by simp, fun h => by omega, fun h => by omega, fun _ => ⟨rfl, rfl⟩⟩ (by omega)) (by simp only [PWeak_nil, PWeak_junk, PWeak_same, Int.cast_ofNat_Int, List.length_append, List.length_cons, List.length_nil, Nat.zero_add]) (by simp)⟩
  · obtain ⟨e1, e2⟩ := m2 rfl
    subst e1 e2
    refine SemW_go (by kernel_rfl) ?_
    simp only [PP, P1, P2, P3, P4, P5, P6, P7, P8, P9, P10, P11, P12, P13, P14, L1, P15, N1, N2, N3, N4, N5, N6, N7, I1, I2, I3, I4, I5, I6, I7, reduceIte, reduceCtorEq]
    refine SemW_of ?_
    simp only [PP, P1, P2, P3, P4, P5, P6, P7, P8, P9, P10, P11, P12, P13, P14, L1, P15, N1, N2, N3, N4, N5, N6, N7, I1, I2, I3, I4, I5, I6, I7, reduceIte, reduceCtorEq]
    have e3 : psub (xs.map (PV.int .i64) ++ ys.map (PV.int .i64)) 0 (xs.length + ys.length) = (xs ++ ys).map (PV.int .i64) := by rw [← List.map_append]; exact psub_all _ _ (by simp)
    rw [e3]
    simpa [slI] using hk
theorem maxF_p {M : Mem} {K : PV → Mem → Prop} {F : GF} {f o : Bool} {ow pr : List Int} {su : List (List Int)} {x : Int} {xs : List Int} (hb : (x :: xs).length < big) (hr : ∀ v ∈ x :: xs, 0 ≤ v ∧ v < pr.length) (hk : K (p64 (maxR pr x xs)) M) :
    SemC tab 54 [slI f o .i64 (x :: xs), moreV (gmF F ow pr su)] M K := by
  have hb' : (x :: xs).length < 1000000000000 := hb
  obtain ⟨L, hL⟩ : ∃ L, L = x :: xs := ⟨_, rfl⟩
  have hl1 : ¬ (L.length : Int) < 1 := by rw [hL]; simp only [List.length_cons]; omega
  have hl0 : (0 : Int) < L.length := by rw [hL]; simp only [List.length_cons]; omega
  have g0 : L[0]? = some x := by rw [hL]; rfl
  rw [← hL] at hb' hr ⊢
  refine SemC_pure T.h54 (by simp only [PP, P1, P2, P3, P4, P5, P6, P7, P8, P9, P10, P11, P12, P13, P14, L1, P15, N1, N2, N3, N4, N5, N6, N7, I1, I2, I3, I4, I5, I6, I7, reduceIte, reduceCtorEq, PV.under]) ?_
  have w1 : IntKind.i64.wrap 1 = ((1 : Nat) : Int) := rfl
  simp only [af54, PP, P1, P2, P3, P4, P5, P6, P7, P8, P9, P10, P11, P12, P13, P14, L1, P15, N1, N2, N3, N4, N5, N6, N7, I1, I2, I3, I4, I5, I6, I7, reduceIte, reduceCtorEq, hl1, hl0, g0]
  refine loop2 (fun (k : Nat) (m : Int) => 1 ≤ k ∧ k ≤ L.length ∧ (0 ≤ m ∧ m < pr.length) ∧ maxR pr m (L.drop k) = maxR pr x xs) (fun k m => [slI f o .i64 L, moreV (gmF F ow pr su), .junk, .junk, .junk, p64 m, p64 k, .junk, .junk, .junk, .junk, .junk, .junk, .junk, .junk, .junk, .junk, .junk, .junk, .junk, .junk, .junk, .junk, .junk, .junk, .junk, .junk, .junk, .junk, .junk, .junk, .junk, .junk]) (fun _ _ => []) (fun k _ => L.length - k) 1 x ⟨by omega, by omega, hr x (by rw [hL]; simp), by rw [hL]; rfl⟩ (by simp only [PWeak_nil, PWeak_junk, PWeak_same, Int.cast_ofNat_Int, List.length_append, List.length_cons, List.length_nil, Nat.zero_add]) rfl ?_
  intro k m ⟨hk1, hle, hm, hq⟩ ih
  refine SemW_go (by kernel_rfl) ?_
  simp only [PP, P1, P2, P3, P4, P5, P6, P7, P8, P9, P10, P11, P12, P13, P14, L1, P15, N1, N2, N3, N4, N5, N6, N7, I1, I2, I3, I4, I5, I6, I7, reduceIte, reduceCtorEq]
  refine QIf.intro (fun c => ?_) (fun c => ?_)
  · have hk' : k < L.length := by omega
    obtain ⟨v, g⟩ := some_of hk'
    obtain ⟨v0, v1⟩ := hr v (List.mem_of_getElem? g)
    rw [drop_some g, maxR] at hq
    have hw := wrap_succ (k := k) (by show _ < 1000000000000; omega)
    have h0 : (0 : Int) ≤ k := by omega
    simp only [PP, P1, P2, P3, P4, P5, P6, P7, P8, P9, P10, P11, P12, P13, P14, L1, P15, N1, N2, N3, N4, N5, N6, N7, I1, I2, I3, I4, I5, I6, I7, reduceIte, reduceCtorEq, c, g, h0]
    refine rel1_p T v0 v1 hm.1 hm.2 ?_
    simp only [PP, P1, P2, P3, P4, P5, P6, P7, P8, P9, P10, P11, P12, P13, P14, L1, P15, N1, N2, N3, N4, N5, N6, N7, I1, I2, I3, I4, I5, I6, I7, reduceIte, reduceCtorEq]
    refine QIf.intro (fun d => ?_) (fun d => ?_)
    · rw [if_pos d] at hq
      simp only [PP, P1, P2, P3, P4, P5, P6, P7, P8, P9, P10, P11, P12, P13, P14, L1, P15, N1, N2, N3, N4, N5, N6, N7, I1, I2, I3, I4, I5, I6, I7, reduceIte, reduceCtorEq, d, g, c, h0, hw]
      exact SemW_weak (ih (k + 1) v ⟨by omega, by omega, ⟨v0, v1⟩, hq⟩ (by omega)) (by simp only [PWeak_nil, PWeak_junk, PWeak_same, Int.cast_ofNat_Int, List.length_append, List.length_cons, List.length_nil, Nat.zero_add])
    · rw [if_neg d] at hq
      simp only [PP, P1, P2, P3, P4, P5, P6, P7, P8, P9, P10, P11, P12, P13, P14, L1, P15, N1, N2, N3, N4, N5, N6, N7, I1, I2, I3, I4, I5, I6, I7, reduceIte, reduceCtorEq, d, hw]
      exact SemW_weak (ih (k + 1) m ⟨by omega, by omega, hm, hq⟩ (by omega)) (by simp only [PWeak_nil, PWeak_junk, PWeak_same, Int.cast_ofNat_Int, List.length_append, List.length_cons, List.length_nil, Nat.zero_add])
  · rw [List.drop_eq_nil_of_le (by omega), maxR] at hq
    simp only [PP, P1, P2, P3, P4, P5, P6, P7, P8, P9, P10, P11, P12, P13, P14, L1, P15, N1, N2, N3, N4, N5, N6, N7, I1, I2, I3, I4, I5, I6, I7, reduceIte, reduceCtorEq, c]
    rw [← hq] at hk
    exact hk
end
end Go.Am.Ar
set_option linter.unusedVariables false
set_option linter.unusedSimpArgs false
set_option maxRecDepth 10000
namespace Go.Am.Ar
open Go.Am renaming pchk → P1, pold → P2, PKNo → P3, ppack → P4, PObj.under → P5, pput → P6, ptset → P7, ptget → P8, pev → P9, ofAV → P10, ofAV1 → P11, ppad → P12, pfill → P13, prepl → P14, AO.effect → P15
open List renaming replicate → L1
open Nat renaming reduceAdd → N1, reduceSub → N2, reduceMul → N3, reduceLT → N4, reduceLeDiff → N5, reduceEqDiff → N6, reduceBEq → N7
open Int renaming reduceToNat → I1, reduceLT → I2, reduceLE → I3, reduceEq → I4, reduceAdd → I5, reduceSub → I6, reduceNeg → I7
section
variable {tab : FuncId → Option AF} (T : HasA tab)
include T
theorem isNaN13_p {M : Mem} {K : PV → Mem → Prop} {x : Int} (hq : K (.bool false) M) : SemC tab 96 [p64 x] M K := by
  refine SemC_pure T.h96 (by simp only [PP, P1, P2, P3, P4, P5, P6, P7, P8, P9, P10, P11, P12, P13, P14, L1, P15, N1, N2, N3, N4, N5, N6, N7, I1, I2, I3, I4, I5, I6, I7, reduceIte, reduceCtorEq]) ?_
  simp only [af96, PP, P1, P2, P3, P4, P5, P6, P7, P8, P9, P10, P11, P12, P13, P14, L1, P15, N1, N2, N3, N4, N5, N6, N7, I1, I2, I3, I4, I5, I6, I7, reduceIte, reduceCtorEq]
  exact hq
theorem less13_p {M : Mem} {K : PV → Mem → Prop} {x y : Int} (hq : K (.bool (decide (x < y))) M) : SemC tab 103 [p64 x, p64 y] M K := by
  refine SemC_pure T.h103 (by simp only [PP, P1, P2, P3, P4, P5, P6, P7, P8, P9, P10, P11, P12, P13, P14, L1, P15, N1, N2, N3, N4, N5, N6, N7, I1, I2, I3, I4, I5, I6, I7, reduceIte, reduceCtorEq]) ?_
  simp only [af103, PP, P1, P2, P3, P4, P5, P6, P7, P8, P9, P10, P11, P12, P13, P14, L1, P15, N1, N2, N3, N4, N5, N6, N7, I1, I2, I3, I4, I5, I6, I7, reduceIte, reduceCtorEq]
  refine isNaN13_p T ?_
  simp only [PP, P1, P2, P3, P4, P5, P6, P7, P8, P9, P10, P11, P12, P13, P14, L1, P15, N1, N2, N3, N4, N5, N6, N7, I1, I2, I3, I4, I5, I6, I7, reduceIte, reduceCtorEq]
  exact hq
set_option maxHeartbeats 1000000 in
theorem isort_p {K : PV → Mem → Prop} {g v n : Nat} {l : List Int} (hn : l.length = n) (hb : n < 1000000000000) (hk : ∀ (v' : Nat) (l' : List Int), l'.Perm l → l'.Pairwise (· ≤ ·) → K (.tuple []) [.cells g v' (l'.map p64)]) :
    SemC tab 97 [.ref 0 g 1 0 n, p64 0, p64 n] [.cells g v (l.map p64)] K := by
  refine SemC_fn T.h97 ?_
  simp only [af97, PP, P1, P2, P3, P4, P5, P6, P7, P8, P9, P10, P11, P12, P13, P14, L1, P15, N1, N2, N3, N4, N5, N6, N7, I1, I2, I3, I4, I5, I6, I7, reduceIte, reduceCtorEq]
  have w1 : IntKind.i64.wrap 1 = ((1 : Nat) : Int) := rfl
  simp only [w1]
  refine loop3 (fun (i v : Nat) (x : List Int) => 1 ≤ i ∧ x.Perm l ∧ (x.take i).Pairwise (· ≤ ·)) (fun i v x => [.ref 0 g 1 0 n, p64 0, p64 n, .junk, .junk, .junk, p64 i, .junk, .junk, .junk, .junk, .junk, .junk, .junk, .junk, .junk, .junk, .junk, .junk, .junk, .junk, .junk, .junk, .junk, .junk, .junk, .junk, .junk, .junk, .junk, .junk, .junk, .junk, .junk, .junk, .junk, .junk, .junk, .junk, .junk, .junk, .junk, .junk, .junk, .junk, .junk, .junk, .junk, .junk]) (fun i v x => [.cells g v (x.map p64)]) (fun i _ _ => n - i) 1 v l ⟨by omega, .refl _, by match l with | [] => simp | [a] => simp | a :: b :: c => simp⟩ (by simp only [PWeak_nil, PWeak_junk, PWeak_same, Int.cast_ofNat_Int, List.length_append, List.length_cons, List.length_nil, Nat.zero_add]) rfl ?_
  intro i v x ⟨hi, hp, hs⟩ ih
  have hxl : x.length = n := by rw [hp.length_eq, hn]
  refine SemW_go (by kernel_rfl) ?_
  simp only [PP, P1, P2, P3, P4, P5, P6, P7, P8, P9, P10, P11, P12, P13, P14, L1, P15, N1, N2, N3, N4, N5, N6, N7, I1, I2, I3, I4, I5, I6, I7, reduceIte, reduceCtorEq]
  refine QIf.intro (fun c => ?_) (fun c => ?_)
  rotate_left
  · rw [List.take_of_length_le (by omega)] at hs
    simp only [PP, P1, P2, P3, P4, P5, P6, P7, P8, P9, P10, P11, P12, P13, P14, L1, P15, N1, N2, N3, N4, N5, N6, N7, I1, I2, I3, I4, I5, I6, I7, reduceIte, reduceCtorEq, c]
    exact hk v x hp hs
  have hi' : i < n := by omega
  have hwi := wrap_succ (k := i) (by show _ < 1000000000000; omega)
  simp only [PP, P1, P2, P3, P4, P5, P6, P7, P8, P9, P10, P11, P12, P13, P14, L1, P15, N1, N2, N3, N4, N5, N6, N7, I1, I2, I3, I4, I5, I6, I7, reduceIte, reduceCtorEq, c]
  obtain ⟨y0, gy0⟩ := some_of (xs := x) (k := i) (by omega)
  have hx0 : x.take i ++ y0 :: ([] ++ x.drop (i + 1)) = x := by
    have h2 := (List.getElem?_eq_some_iff.1 gy0).2
    have h3 := (List.getElem?_eq_some_iff.1 gy0).1
    conv => rhs; rw [← List.take_append_drop i x, List.drop_eq_getElem_cons h3, h2]
    simp
  have hti : (x.take i).length = i := by simp; omega
  refine loop5 (fun (v : Nat) (a : List Int) (y : Int) (b c : List Int) => (a ++ y :: (b ++ c)).Perm l ∧ a.length + b.length = i ∧ (a ++ b).Pairwise (· ≤ ·) ∧ ∀ z ∈ b, y ≤ z) (fun v a y b c => [.ref 0 g 1 0 n, p64 0, p64 n, .junk, .junk, .junk, p64 i, p64 a.length, .junk, .junk, .junk, .junk, .junk, .junk, .junk, .junk, .junk, .junk, .junk, .junk, .junk, .junk, .junk, .junk, .junk, .junk, .junk, .junk, .junk, .junk, .junk, .junk, .junk, .junk, .junk, .junk, .junk, .junk, .junk, .junk, .junk, .junk, .junk, .junk, .junk, .junk, .junk, .junk, .junk]) (fun v a y b c => [.cells g v ((a ++ y :: (b ++ c)).map p64)]) (fun _ a _ _ _ => a.length) v (x.take i) y0 [] (x.drop (i + 1)) ⟨by rw [hx0]; exact hp, by simp; omega, by simpa using hs, fun z hz => by cases hz⟩ (by rw [hti]; exact by simp only [PWeak_nil, PWeak_junk, PWeak_same, Int.cast_ofNat_Int, List.length_append, List.length_cons, List.length_nil, Nat.zero_add]) (by rw [hx0]) ?_
  intro v a y b c' ⟨hp2, hl2, hs2, hb2⟩ ih2
  have hlen := hp2.length_eq
  simp only [List.length_append, List.length_cons] at hlen
  have out : (∀ z ∈ a, z ≤ y) → ((a ++ y :: (b ++ c')).take (i + 1)).Pairwise (· ≤ ·) := fun h => by
    have e : (a ++ y :: (b ++ c')).take (i + 1) = a ++ y :: b := by
      rw [show a ++ y :: (b ++ c') = (a ++ y :: b) ++ c' by simp, List.take_left' (by simp; omega)]
    rw [e]
    rw [List.pairwise_append] at hs2 ⊢
    refine ⟨hs2.1, List.pairwise_cons.2 ⟨hb2, hs2.2.1⟩, fun p hp q hq => ?_⟩
    rcases List.mem_cons.1 hq with rfl | hq
    · exact h p hp
    · exact hs2.2.2 p hp q hq
  rcases List.eq_nil_or_concat a with rfl | ⟨a, z, rfl⟩
  · refine SemW_go (by kernel_rfl) ?_
    simp only [PP, P1, P2, P3, P4, P5, P6, P7, P8, P9, P10, P11, P12, P13, P14, L1, P15, N1, N2, N3, N4, N5, N6, N7, I1, I2, I3, I4, I5, I6, I7, reduceIte, reduceCtorEq, Int.lt_irrefl, hwi]
    exact SemW_to (ih (i + 1) v (y :: (b ++ c')) ⟨by omega, hp2, out (by simp)⟩ (by omega)) (by simp only [PWeak_nil, PWeak_junk, PWeak_same, Int.cast_ofNat_Int, List.length_append, List.length_cons, List.length_nil, Nat.zero_add]) (by simp)
  · simp only [List.concat_eq_append] at *
    obtain ⟨X, hX⟩ : ∃ X, X = (a ++ [z]) ++ y :: (b ++ c') := ⟨_, rfl⟩
    obtain ⟨j, hj⟩ : ∃ j, j = a.length := ⟨_, rfl⟩
    have hjl : (a ++ [z]).length = j + 1 := by simp [hj]
    have e1 : X[j]? = some z := by simp [hX, hj]
    have e2 : X[j + 1]? = some y := by simp [hX, hj, List.getElem?_append_right]
    have hXl : X.length = n := by rw [hX, hp2.length_eq, hn]
    have hjn : j + 1 < n := by have := getSome_lt e2; omega
    have m1 : (X.map p64)[j]? = some (p64 z) := by rw [List.getElem?_map, e1]; rfl
    have m2 : (X.map p64)[j + 1]? = some (p64 y) := by rw [List.getElem?_map, e2]; rfl
    have q0 : (0 : Int) < ((j + 1 : Nat) : Int) := by omega
    have q1 : (0 : Int) ≤ ((j + 1 : Nat) : Int) := by omega
    have q2 : ((j + 1 : Nat) : Int) < n := by omega
    have q3 : (0 : Int) ≤ (j : Int) := by omega
    have q4 : (j : Int) < n := by omega
    have w2 : IntKind.i64.wrap (((j + 1 : Nat) : Int) - 1) = (j : Int) := by rw [wrap64 (by omega) (by omega)]; omega
    rw [← hX, hjl]
    refine SemW_go (by kernel_rfl) ?_
    simp only [PP, P1, P2, P3, P4, P5, P6, P7, P8, P9, P10, P11, P12, P13, P14, L1, P15, N1, N2, N3, N4, N5, N6, N7, I1, I2, I3, I4, I5, I6, I7, reduceIte, reduceCtorEq, q0, q1, q2, q3, q4, w2, m1, m2, e1, e2]
    refine less13_p T ?_
    simp only [PP, P1, P2, P3, P4, P5, P6, P7, P8, P9, P10, P11, P12, P13, P14, L1, P15, N1, N2, N3, N4, N5, N6, N7, I1, I2, I3, I4, I5, I6, I7, reduceIte, reduceCtorEq]
    refine QIf.intro (fun d => ?_) (fun d => ?_)
    · simp only [PP, P1, P2, P3, P4, P5, P6, P7, P8, P9, P10, P11, P12, P13, P14, L1, P15, N1, N2, N3, N4, N5, N6, N7, I1, I2, I3, I4, I5, I6, I7, reduceIte, reduceCtorEq, d, q0, q1, q2, q3, q4, w2, m1, m2, e1, e2]
      subst hj
      refine ⟨by omega, by omega, SemW_to (ih2 (v + 1 + 1) a y (z :: b) c' ⟨(List.Perm.append_left a (List.Perm.swap z y _)).trans (by simpa using hp2), by simp at hl2 ⊢; omega, by simpa using hs2, fun w hw => ?_⟩ (by simp)) (by simp only [PWeak_nil, PWeak_junk, PWeak_same, Int.cast_ofNat_Int, List.length_append, List.length_cons, List.length_nil, Nat.zero_add]) (by simp [hX, List.getElem?_append_right])⟩
      rcases List.mem_cons.1 hw with rfl | hw
      · omega
      · exact hb2 w hw
    · simp only [PP, P1, P2, P3, P4, P5, P6, P7, P8, P9, P10, P11, P12, P13, P14, L1, P15, N1, N2, N3, N4, N5, N6, N7, I1, I2, I3, I4, I5, I6, I7, reduceIte, reduceCtorEq, d, hwi]
      have hw0 : ∀ w ∈ a ++ [z], w ≤ y := fun w hw => by
        rcases List.mem_append.1 hw with hw | hw
        · have h1 := (List.pairwise_append.1 (List.pairwise_append.1 hs2).1).2.2 w hw z (by simp)
          omega
        · rw [List.mem_singleton] at hw; omega
      exact SemW_to (ih (i + 1) v X ⟨by omega, by rw [hX]; exact hp2, by rw [hX]; exact out hw0⟩ (by omega)) (by simp only [PWeak_nil, PWeak_junk, PWeak_same, Int.cast_ofNat_Int, List.length_append, List.length_cons, List.length_nil, Nat.zero_add]) rfl
end
end Go.Am.Ar

