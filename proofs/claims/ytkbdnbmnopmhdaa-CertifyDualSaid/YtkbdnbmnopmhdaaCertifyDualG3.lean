/- Contract: what a player loses (sentinelref30.Loses), and what goes with it. -/
import Derived.Test.YtkbdnbmnopmhdaaCertifyDualG1
import Derived.Test.YtkbdnbmnopmhdaaCertifyDualG2
import Derived.Test.YtkbdnbmnopmhdaaCertifyDualG0
set_option linter.unusedVariables false
set_option linter.unusedSimpArgs false
set_option maxRecDepth 10000
namespace Go.Am.Ar
open Go.Am renaming pchk → P1, pold → P2, PKNo → P3, ppack → P4, PObj.under → P5, pput → P6, ptset → P7, ptget → P8, pev → P9, ofAV → P10, ofAV1 → P11, ppad → P12, pfill → P13, prepl → P14, AO.effect → P15
open List renaming replicate → L1
open Nat renaming reduceAdd → N1, reduceSub → N2, reduceMul → N3, reduceLT → N4, reduceLeDiff → N5, reduceEqDiff → N6, reduceBEq → N7
open Int renaming reduceToNat → I1, reduceLT → I2, reduceLE → I3, reduceEq → I4, reduceAdd → I5, reduceSub → I6, reduceNeg → I7
theorem Rch.tgt {E : Nat → Nat → Prop} {Q : Nat → Prop} {v u : Nat} (h : Rch E Q v u) : ∃ a, E a u := by
  cases h with
  | one h1 _ => exact ⟨_, h1⟩
  | more _ h1 _ => exact ⟨_, h1⟩
theorem Rch.cond {E : Nat → Nat → Prop} {Q Q' : Nat → Prop} {v u : Nat} (h : Rch E Q v u) (hE : ∀ a b, E a b → Q b → Q' b) : Rch E Q' v u := by
  induction h with
  | one h1 h2 => exact .one h1 (hE _ _ h1 h2)
  | more _ h1 h2 ih => exact .more ih h1 (hE _ _ h1 h2)
theorem no_bm {n : Nat} (v : Nat) : ¬ bm (List.replicate n false) v := fun h => by
  unfold bm at h
  rw [List.getElem?_replicate] at h
  split at h
  · cases h
  · cases h
section
variable {tab : FuncId → Option AF} (T : HasA tab)
include T
end
end Go.Am.Ar
set_option linter.unusedVariables false
set_option linter.unusedSimpArgs false
set_option maxRecDepth 10000
namespace Go.Am.Ar
open Go.Am renaming pchk → P1, pold → P2, PKNo → P3, ppack → P4, PObj.under → P5, pput → P6, ptset → P7, ptget → P8, pev → P9, ofAV → P10, ofAV1 → P11, ppad → P12, pfill → P13, prepl → P14, AO.effect → P15
open List renaming replicate → L1
open Nat renaming reduceAdd → N1, reduceSub → N2, reduceMul → N3, reduceLT → N4, reduceLeDiff → N5, reduceEqDiff → N6, reduceBEq → N7
open Int renaming reduceToNat → I1, reduceLT → I2, reduceLE → I3, reduceEq → I4, reduceAdd → I5, reduceSub → I6, reduceNeg → I7
def RwWk : List PV → List (List Int) → Prop
  | [], [] => True
  | y :: cs, r :: rows => (∃ f o, y = slI f o .i64 r) ∧ RwWk cs rows
  | _, _ => False
theorem RwWk.app : ∀ {cs : List PV} {rows : List (List Int)}, RwWk cs rows → ∀ (f o : Bool) (r : List Int), RwWk (cs ++ [slI f o .i64 r]) (rows ++ [r])
  | [], [], _, f, o, r => ⟨⟨f, o, rfl⟩, trivial⟩
  | y :: cs, x :: rows, ⟨h1, h2⟩, f, o, r => ⟨h1, h2.app f o r⟩
  | [], _ :: _, h, _, _, _ => h.elim
  | _ :: _, [], h, _, _, _ => h.elim
theorem RwWk.len : ∀ {cs : List PV} {rows : List (List Int)}, RwWk cs rows → cs.length = rows.length
  | [], [], _ => rfl
  | y :: cs, x :: rows, ⟨h1, h2⟩ => by simp [h2.len]
  | [], _ :: _, h => h.elim
  | _ :: _, [], h => h.elim
theorem RwWk.one : ∀ {cs : List PV} {rows : List (List Int)}, RwWk cs rows → cs.all PV.one = true
  | [], [], _ => rfl
  | y :: cs, x :: rows, ⟨⟨f, o, e⟩, h2⟩ => by subst e; simp only [List.all_cons, one_sl, h2.one, Bool.and_self]
  | [], _ :: _, h => h.elim
  | _ :: _, [], h => h.elim
theorem RwWk.und (m : Nat) : ∀ {cs : List PV} {rows : List (List Int)}, RwWk cs rows → underL m cs = true
  | [], [], _ => underL_nil _
  | y :: cs, x :: rows, ⟨⟨f, o, e⟩, h2⟩ => by subst e; rw [underL_cons, h2.und m, under_slI]; rfl
  | [], _ :: _, h => h.elim
  | _ :: _, [], h => h.elim
theorem RwWk.get : ∀ {cs : List PV} {rows : List (List Int)}, RwWk cs rows → ∀ (i : Nat) (y z : PV), cs[i]? = some y → (rows.map (slI true false .i64))[i]? = some z → PvWk y z
  | y :: cs, x :: rows, ⟨⟨f, o, e⟩, h2⟩, 0, a, b, ha, hb => by
    cases ha; cases hb; subst e; exact PvWk.sl0 _ _ _ _ _
  | y :: cs, x :: rows, ⟨_, h2⟩, i + 1, a, b, ha, hb => h2.get i a b (by simpa using ha) (by simpa using hb)
  | [], [], _, i, a, b, ha, _ => by simp at ha
  | [], _ :: _, h, _, _, _, _, _ => h.elim
  | _ :: _, [], h, _, _, _, _, _ => h.elim
theorem PvWk.cells {f o : Bool} {sz n : Nat} {cs cs' : List PV} (hl : cs.length = cs'.length) (h : ∀ (i : Nat) (y z : PV), cs[i]? = some y → cs'[i]? = some z → PvWk y z) : PvWk (.sl f o sz n cs) (.sl f o sz n cs') := fun w x hx => by
  cases hx with
  | sl h1 h2 h3 h4 h5 h7 h6 =>
    refine .sl h1 (by rw [← hl]; exact h2) (by rw [← hl]; exact h3) h4 h5 h7 fun i y z hy hz => ?_
    have hi : i < cs.length := by rw [hl]; exact getSome_lt hy
    exact h i _ y (List.getElem?_eq_getElem hi) hy w z (h6 i _ z (List.getElem?_eq_getElem hi) hz)
  | slN =>
    have : cs' = [] := List.length_eq_zero_iff.1 (by rw [← hl]; rfl)
    subst this; exact .slN
def movF (ow : List Int) (su : List (List Int)) (p : Int) (st : List Int) (v : Nat) : List Int := if ow.getD v 0 = p ∧ st.getD v 0 ∈ su.getD v [] then [st.getD v 0] else su.getD v []
def ownF (ow ws ss : List Int) (p : Int) (v : Nat) : Int := if ow.getD v 0 = p ∧ ws.getD v 0 = p then ss.getD v 0 else -1
section
variable {tab : FuncId → Option AF} (T : HasA tab)
include T
end
end Go.Am.Ar
set_option linter.unusedVariables false
set_option linter.unusedSimpArgs false
set_option maxRecDepth 10000
namespace Go.Am.Ar
open Go.Am renaming pchk → P1, pold → P2, PKNo → P3, ppack → P4, PObj.under → P5, pput → P6, ptset → P7, ptget → P8, pev → P9, ofAV → P10, ofAV1 → P11, ppad → P12, pfill → P13, prepl → P14, AO.effect → P15
open List renaming replicate → L1
open Nat renaming reduceAdd → N1, reduceSub → N2, reduceMul → N3, reduceLT → N4, reduceLeDiff → N5, reduceEqDiff → N6, reduceBEq → N7
open Int renaming reduceToNat → I1, reduceLT → I2, reduceLE → I3, reduceEq → I4, reduceAdd → I5, reduceSub → I6, reduceNeg → I7
abbrev solE (ow : List Int) (su : List (List Int)) (ws ss : List Int) (p : Int) (a b : Nat) : Prop := b ∈ Sf (tabA ow.length (movF ow su p (tabA ow.length (ownF ow ws ss p)))) a
structure FormAt (ow : List Int) (su : List (List Int)) (ws ss : List Int) (v : Nat) : Prop where
  k : ¬ 1 < ws.getD v 0
  own : ws.getD v 0 = ow.getD v 0 → ss.getD v 0 ∈ su.getD v []
  opp : ¬ ws.getD v 0 = ow.getD v 0 → ss.getD v 0 = -1
structure CorrP (ow pr : List Int) (su : List (List Int)) (ws ss : List Int) : Prop where
  c : checkM ow pr su = 0
  lw : ws.length = ow.length
  ls : ss.length = ow.length
  form : ∀ v, v < ow.length → FormAt ow su ws ss v
  win : ∀ p : Int, p = 0 ∨ p = 1 → ∀ v, v < ow.length → ws.getD v 0 = p → ¬ Lost (solE ow su ws ss p) (zP pr) p v
theorem mov_in {ow pr st : List Int} {su : List (List Int)} {p : Int} (V : Valid ow pr su) (B : Bnd ow pr su) : RowsIn (tabA ow.length (movF ow su p st)) := by
  have n1 := V.n1
  refine ⟨by rw [tabA_len]; omega, fun row hrow => ?_⟩
  obtain ⟨v, hv, rfl⟩ := tabA_mem hrow
  have hvs : v < su.length := by rw [V.s]; exact hv
  have e : su.getD v [] = su[v] := by simp [List.getD, hvs]
  have hr : ∀ x ∈ su.getD v [], 0 ≤ x ∧ x < ow.length := fun x hx => su_range V hv hx
  rw [tabA_len]
  unfold movF
  split
  · rename_i h
    refine ⟨by simp, fun x hx => ?_⟩
    rw [List.mem_singleton] at hx; subst hx; exact hr _ h.2
  · exact ⟨by rw [e]; exact B.r _ (List.getElem_mem hvs), hr⟩
theorem Valid.pri0 {ow pr : List Int} {su : List (List Int)} (V : Valid ow pr su) : ∀ x ∈ pr, 0 ≤ x ∧ x ≤ 16 := fun x hx => by
  obtain ⟨i, hi⟩ := List.getElem?_of_mem hx
  have hl := getSome_lt hi
  have := V.row i (by rw [V.s, ← V.p]; exact hl)
  rw [getD_some hi] at this
  exact ⟨this.1, this.2.1⟩
section
variable {tab : FuncId → Option AF} (T : HasA tab)
include T
end
end Go.Am.Ar
set_option linter.unusedVariables false
set_option linter.unusedSimpArgs false
set_option maxRecDepth 10000
namespace Go.Am.Ar
open Go.Am renaming pchk → P1, pold → P2, PKNo → P3, ppack → P4, PObj.under → P5, pput → P6, ptset → P7, ptget → P8, pev → P9, ofAV → P10, ofAV1 → P11, ppad → P12, pfill → P13, prepl → P14, AO.effect → P15
open List renaming replicate → L1
open Nat renaming reduceAdd → N1, reduceSub → N2, reduceMul → N3, reduceLT → N4, reduceLeDiff → N5, reduceEqDiff → N6, reduceBEq → N7
open Int renaming reduceToNat → I1, reduceLT → I2, reduceLE → I3, reduceEq → I4, reduceAdd → I5, reduceSub → I6, reduceNeg → I7
theorem SolIn.congr {O : Nat → Int} {S : Nat → List Nat} {R : Nat → Int} {D : Nat → Prop} {p : Int} {W : Nat → Prop} {s s' : Nat → Nat} (h : SolIn O S R D p W s) (hs : ∀ v, W v → O v = p → s' v = s v) : SolIn O S R D p W s' :=
  ⟨h.sub, fun v hv ho => by rw [hs v hv ho]; exact h.own v hv ho, h.opp, fun c k hk hper hW hS hc => h.cyc c k hk hper hW hS fun i ho => by rw [hc i ho, hs _ (hW i) ho]⟩
structure SolL (ow pr : List Int) (su : List (List Int)) (ws ss : List Int) : Prop where
  lw : ws.length = ow.length
  ls : ss.length = ow.length
  sol : IsSol ow.length (zO ow) (Sf su) (zP pr) (fun v => ws.getD v 0) (stN ss)
  own : ∀ v, v < ow.length → ws.getD v 0 = ow.getD v 0 → 0 ≤ ss.getD v 0
  opp : ∀ v, v < ow.length → ¬ ws.getD v 0 = ow.getD v 0 → ss.getD v 0 = -1
section
variable {tab : FuncId → Option AF} (T : HasA tab)
include T
end
end Go.Am.Ar
set_option linter.unusedVariables false
namespace Go.Am.Ar
theorem checkLoop_of {ow pr : List Int} {n : Nat} (hn : ow.length = n) : ∀ {su : List (List Int)} {k : Nat}, (∀ (i : Nat) (row : List Int), su[i]? = some row → 0 ≤ pr.getD (k + i) 0 ∧ pr.getD (k + i) 0 ≤ 16 ∧ ow.getD (k + i) 0 ≤ 1 ∧ 0 < row.length ∧ posM ow.length (-1) row = true) → checkLoop ow pr k su = 0
  | [], k, _ => rfl
  | row :: su, k, h => by
    obtain ⟨h1, h2, h3, h4, h5⟩ := h 0 row rfl
    unfold checkLoop
    rw [Nat.add_zero] at h1 h2 h3
    rw [if_neg (by omega), if_neg (by omega), if_neg (by omega), if_neg (by omega), if_neg (by simp [h5])]
    exact checkLoop_of hn fun i row hr => by rw [show k + 1 + i = k + (i + 1) by omega]; exact h (i + 1) row (by simpa using hr)
theorem check_of {ow pr : List Int} {su : List (List Int)} (V : Valid ow pr su) : checkM ow pr su = 0 := by
  have h1 := V.n0
  have h2 := V.n1
  have h3 := V.p
  have h4 := V.s
  unfold checkM
  rw [if_neg (by omega), if_neg (by omega), if_pos (by omega), if_pos (by omega)]
  refine checkLoop_of rfl fun i row hr => ?_
  have hi := getSome_lt hr
  have := V.row i hi
  rw [List.getElem?_eq_getElem hi] at hr
  cases hr
  rw [Nat.zero_add]
  exact this
structure Dual1 (ow pr : List Int) (su : List (List Int)) (ow' pr' : List Int) : Prop where
  v : Valid ow pr su
  v' : Valid ow' pr' su
  n : ow'.length = ow.length
  p : pr'.length = pr.length
  o : ∀ v, v < ow.length → 0 ≤ ow.getD v 0 ∧ ow.getD v 0 ≤ 1 ∧ ow'.getD v 0 = 1 - ow.getD v 0
  r : ∀ v, v < ow.length → 0 ≤ pr.getD v 0 ∧ pr'.getD v 0 = pr.getD v 0 + 1
theorem maxFrom_ge : ∀ {l : List Int} {m : Int}, m ≤ maxFrom m l ∧ ∀ x ∈ l, x ≤ maxFrom m l
  | [], m => ⟨Int.le_refl _, fun x h => by cases h⟩
  | y :: l, m => by
    obtain ⟨h1, h2⟩ := maxFrom_ge (l := l) (m := max m y)
    unfold maxFrom
    refine ⟨by omega, fun x hx => ?_⟩
    rcases List.mem_cons.1 hx with rfl | hx
    · omega
    · exact h2 x hx
theorem maxFrom_mem : ∀ {l : List Int} {m : Int}, maxFrom m l = m ∨ maxFrom m l ∈ l
  | [], m => .inl rfl
  | y :: l, m => by
    unfold maxFrom
    rcases maxFrom_mem (l := l) (m := max m y) with h | h
    · rcases Int.le_total m y with q | q
      · exact .inr (by rw [h, Int.max_eq_right q]; simp)
      · exact .inl (by rw [h, Int.max_eq_left q])
    · exact .inr (List.mem_cons_of_mem _ h)
theorem maxL_ge {l : List Int} : ∀ x ∈ l, x ≤ maxL l := by
  cases l with
  | nil => intro x h; cases h
  | cons y l =>
    intro x hx
    rcases List.mem_cons.1 hx with rfl | hx
    · exact maxFrom_ge.1
    · exact maxFrom_ge.2 x hx
theorem maxL_mem {l : List Int} (h : l ≠ []) : maxL l ∈ l := by
  cases l with
  | nil => exact absurd rfl h
  | cons y l =>
    show maxFrom y l ∈ _
    rcases maxFrom_mem (l := l) (m := y) with h | h
    · rw [h]; simp
    · exact List.mem_cons_of_mem _ h
theorem dual_of {ow pr : List Int} {su : List (List Int)} (V : Valid ow pr su) (ho : ∀ x ∈ ow, 0 ≤ x) (h16 : ¬ maxL pr = 16) : Dual1 ow pr su (dualO ow) (dualP pr) := by
  have hn : (dualO ow).length = ow.length := by simp [dualO]
  have hp : (dualP pr).length = pr.length := by simp [dualP]
  have hO : ∀ v, v < ow.length → 0 ≤ ow.getD v 0 ∧ ow.getD v 0 ≤ 1 ∧ (dualO ow).getD v 0 = 1 - ow.getD v 0 := by
    intro v hv
    have h1 := (V.row v (by rw [V.s]; exact hv)).2.2.1
    have h2 : 0 ≤ ow.getD v 0 := by
      rw [List.getD, List.getElem?_eq_getElem hv]; exact ho _ (List.getElem_mem hv)
    refine ⟨h2, h1, ?_⟩
    rw [List.getD, List.getD, dualO, List.getElem?_map, List.getElem?_eq_getElem hv]
    rw [List.getD, List.getElem?_eq_getElem hv] at h1 h2
    simp only [Option.map_some, Option.getD_some] at h1 h2 ⊢
    simp only [IntKind.wrap, IntKind.signed, IntKind.bits]
    simp
    omega
  have hR : ∀ v, v < ow.length → 0 ≤ pr.getD v 0 ∧ pr.getD v 0 < 16 ∧ (dualP pr).getD v 0 = pr.getD v 0 + 1 := by
    intro v hv
    have h1 := V.row v (by rw [V.s]; exact hv)
    have hvp : v < pr.length := by rw [V.p]; exact hv
    have h3 : pr.getD v 0 ≤ maxL pr := by
      rw [List.getD, List.getElem?_eq_getElem hvp]; exact maxL_ge _ (List.getElem_mem hvp)
    have h4 : maxL pr ≤ 16 := by
      have hm := maxL_mem (l := pr) (by intro e; rw [e] at hvp; simp at hvp)
      obtain ⟨i, hi⟩ := List.getElem?_of_mem hm
      have hil := getSome_lt hi
      have := (V.row i (by rw [V.s, ← V.p]; exact hil)).2.1
      rw [getD_some hi] at this
      exact this
    refine ⟨h1.1, by omega, ?_⟩
    rw [List.getD, List.getD, dualP, List.getElem?_map, List.getElem?_eq_getElem hvp]
    rw [List.getD, List.getElem?_eq_getElem hvp] at h3 h1
    simp only [Option.map_some, Option.getD_some] at h1 h3 ⊢
    exact wrap64 (by omega) (by omega)
  refine ⟨V, ⟨by rw [hn]; exact V.n0, by rw [hn]; exact V.n1, by rw [hp, hn]; exact V.p, by rw [hn]; exact V.s, fun i hi => ?_⟩, hn, hp, hO, fun v hv => ⟨(hR v hv).1, (hR v hv).2.2⟩⟩
  have hv : i < ow.length := by rw [← V.s]; exact hi
  obtain ⟨h1, h2, h3, h4, h5⟩ := V.row i hi
  have h6 := hO i hv
  have h7 := hR i hv
  exact ⟨by omega, by omega, by omega, h4, by rw [hn]; exact h5⟩
end Go.Am.Ar
set_option linter.unusedVariables false
set_option linter.unusedSimpArgs false
set_option maxRecDepth 10000
namespace Go.Am.Ar
open Go.Am renaming pchk → P1, pold → P2, PKNo → P3, ppack → P4, PObj.under → P5, pput → P6, ptset → P7, ptget → P8, pev → P9, ofAV → P10, ofAV1 → P11, ppad → P12, pfill → P13, prepl → P14, AO.effect → P15
open List renaming replicate → L1
open Nat renaming reduceAdd → N1, reduceSub → N2, reduceMul → N3, reduceLT → N4, reduceLeDiff → N5, reduceEqDiff → N6, reduceBEq → N7
open Int renaming reduceToNat → I1, reduceLT → I2, reduceLE → I3, reduceEq → I4, reduceAdd → I5, reduceSub → I6, reduceNeg → I7
theorem valid_O {ow pr : List Int} {su : List (List Int)} (V : Valid ow pr su) (ho : ∀ x ∈ ow, 0 ≤ x) : ∀ v, v < ow.length → zO ow v = 0 ∨ zO ow v = 1 := fun v hv => by
  have h2 := (V.row v (by rw [V.s]; exact hv)).2.2.1
  have h3 : 0 ≤ ow.getD v 0 := by rw [List.getD, List.getElem?_eq_getElem hv]; exact ho _ (List.getElem_mem hv)
  show ow.getD v 0 = 0 ∨ ow.getD v 0 = 1
  omega
theorem valid_S {ow pr : List Int} {su : List (List Int)} (V : Valid ow pr su) : ∀ v, v < ow.length → Sf su v ≠ [] ∧ ∀ u ∈ Sf su v, u < ow.length := fun v hv => ⟨(Sf_ok V hv).1, (Sf_ok V hv).2.1⟩
theorem SolL.unique {ow pr : List Int} {su : List (List Int)} {ws ss : List Int} {w' : Nat → Int} {s' : Nat → Nat} (V : Valid ow pr su) (ho : ∀ x ∈ ow, 0 ≤ x) (L : SolL ow pr su ws ss) (h : IsSol ow.length (zO ow) (Sf su) (zP pr) w' s') : ∀ v, v < ow.length → ws.getD v 0 = w' v :=
  IsSol.unique (valid_O V ho) (fun v hv => (valid_S V v hv).2) L.sol h
theorem getD_ext {a b : List Int} (hl : a.length = b.length) (h : ∀ v, v < a.length → a.getD v 0 = b.getD v 0) : a = b := by
  apply List.ext_getElem hl
  intro v h1 h2
  have := h v h1
  rw [List.getD, List.getD, List.getElem?_eq_getElem h1, List.getElem?_eq_getElem h2] at this
  exact this
section
variable {tab : FuncId → Option AF} (T : HasA tab)
include T
end
end Go.Am.Ar
set_option linter.unusedVariables false
set_option linter.unusedSimpArgs false
set_option maxRecDepth 10000
namespace Go.Am.Ar
open Go.Am renaming pchk → P1, pold → P2, PKNo → P3, ppack → P4, PObj.under → P5, pput → P6, ptset → P7, ptget → P8, pev → P9, ofAV → P10, ofAV1 → P11, ppad → P12, pfill → P13, prepl → P14, AO.effect → P15
open List renaming replicate → L1
open Nat renaming reduceAdd → N1, reduceSub → N2, reduceMul → N3, reduceLT → N4, reduceLeDiff → N5, reduceEqDiff → N6, reduceBEq → N7
open Int renaming reduceToNat → I1, reduceLT → I2, reduceLE → I3, reduceEq → I4, reduceAdd → I5, reduceSub → I6, reduceNeg → I7
theorem SolL.eq {ow pr : List Int} {su : List (List Int)} {ws ss ws' ss' : List Int} (V : Valid ow pr su) (ho : ∀ x ∈ ow, 0 ≤ x) (L : SolL ow pr su ws ss) (L' : SolL ow pr su ws' ss') : ws = ws' :=
  getD_ext (by rw [L.lw, L'.lw]) fun v hv => L.unique V ho L'.sol v (by rw [← L.lw]; exact hv)
section
variable {ow pr ws ss : List Int} {su : List (List Int)} {p : Int} (V : Valid ow pr su) (L : SolL ow pr su ws ss) (hp : p = 0 ∨ p = 1)
include V L hp
end
section
variable {tab : FuncId → Option AF} (T : HasA tab)
include T
end
end Go.Am.Ar

