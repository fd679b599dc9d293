/- Contract: what a player loses (sentinelref30.Loses), and what goes with it. -/
import Derived.Test.YtkbdnbmnopmhdaaCertifyRejectsG1
import Derived.Test.YtkbdnbmnopmhdaaCertifyRejectsG2
import Derived.Test.YtkbdnbmnopmhdaaCertifyRejectsG0
set_option linter.unusedVariables false
set_option linter.unusedSimpArgs false
set_option maxRecDepth 10000
namespace Go.Am.Ar
open Go.Am renaming pchk → P1, pold → P2, PKNo → P3, ppack → P4, PObj.under → P5, pput → P6, ptset → P7, ptget → P8, pev → P9, ofAV → P10, ofAV1 → P11, ppad → P12, pfill → P13, prepl → P14, AO.effect → P15
open List renaming replicate → L1
open Nat renaming reduceAdd → N1, reduceSub → N2, reduceMul → N3, reduceLT → N4, reduceLeDiff → N5, reduceEqDiff → N6, reduceBEq → N7
open Int renaming reduceToNat → I1, reduceLT → I2, reduceLE → I3, reduceEq → I4, reduceAdd → I5, reduceSub → I6, reduceNeg → I7
theorem Rch.tgt {E : Nat → Nat → Prop} {Q : Nat → Prop} {v u : Nat} (h : Rch E Q v u) : ∃ a, E a u := by
  cases h with
  | one h1 _ => exact ⟨_, h1⟩
  | more _ h1 _ => exact ⟨_, h1⟩
theorem Rch.cond {E : Nat → Nat → Prop} {Q Q' : Nat → Prop} {v u : Nat} (h : Rch E Q v u) (hE : ∀ a b, E a b → Q b → Q' b) : Rch E Q' v u := by
  induction h with
  | one h1 h2 => exact .one h1 (hE _ _ h1 h2)
  | more _ h1 h2 ih => exact .more ih h1 (hE _ _ h1 h2)
theorem no_bm {n : Nat} (v : Nat) : ¬ bm (List.replicate n false) v := fun h => by
  unfold bm at h
  rw [List.getElem?_replicate] at h
  split at h
  · cases h
  · cases h
section
variable {tab : FuncId → Option AF} (T : HasA tab)
include T
end
end Go.Am.Ar
set_option linter.unusedVariables false
set_option linter.unusedSimpArgs false
set_option maxRecDepth 10000
namespace Go.Am.Ar
open Go.Am renaming pchk → P1, pold → P2, PKNo → P3, ppack → P4, PObj.under → P5, pput → P6, ptset → P7, ptget → P8, pev → P9, ofAV → P10, ofAV1 → P11, ppad → P12, pfill → P13, prepl → P14, AO.effect → P15
open List renaming replicate → L1
open Nat renaming reduceAdd → N1, reduceSub → N2, reduceMul → N3, reduceLT → N4, reduceLeDiff → N5, reduceEqDiff → N6, reduceBEq → N7
open Int renaming reduceToNat → I1, reduceLT → I2, reduceLE → I3, reduceEq → I4, reduceAdd → I5, reduceSub → I6, reduceNeg → I7
def RwWk : List PV → List (List Int) → Prop
  | [], [] => True
  | y :: cs, r :: rows => (∃ f o, y = slI f o .i64 r) ∧ RwWk cs rows
  | _, _ => False
theorem RwWk.app : ∀ {cs : List PV} {rows : List (List Int)}, RwWk cs rows → ∀ (f o : Bool) (r : List Int), RwWk (cs ++ [slI f o .i64 r]) (rows ++ [r])
  | [], [], _, f, o, r => ⟨⟨f, o, rfl⟩, trivial⟩
  | y :: cs, x :: rows, ⟨h1, h2⟩, f, o, r => ⟨h1, h2.app f o r⟩
  | [], _ :: _, h, _, _, _ => h.elim
  | _ :: _, [], h, _, _, _ => h.elim
theorem RwWk.len : ∀ {cs : List PV} {rows : List (List Int)}, RwWk cs rows → cs.length = rows.length
  | [], [], _ => rfl
  | y :: cs, x :: rows, ⟨h1, h2⟩ => by simp [h2.len]
  | [], _ :: _, h => h.elim
  | _ :: _, [], h => h.elim
theorem RwWk.one : ∀ {cs : List PV} {rows : List (List Int)}, RwWk cs rows → cs.all PV.one = true
  | [], [], _ => rfl
  | y :: cs, x :: rows, ⟨⟨f, o, e⟩, h2⟩ => by subst e; simp only [List.all_cons, one_sl, h2.one, Bool.and_self]
  | [], _ :: _, h => h.elim
  | _ :: _, [], h => h.elim
theorem RwWk.und (m : Nat) : ∀ {cs : List PV} {rows : List (List Int)}, RwWk cs rows → underL m cs = true
  | [], [], _ => underL_nil _
  | y :: cs, x :: rows, ⟨⟨f, o, e⟩, h2⟩ => by subst e; rw [underL_cons, h2.und m, under_slI]; rfl
  | [], _ :: _, h => h.elim
  | _ :: _, [], h => h.elim
theorem RwWk.get : ∀ {cs : List PV} {rows : List (List Int)}, RwWk cs rows → ∀ (i : Nat) (y z : PV), cs[i]? = some y → (rows.map (slI true false .i64))[i]? = some z → PvWk y z
  | y :: cs, x :: rows, ⟨⟨f, o, e⟩, h2⟩, 0, a, b, ha, hb => by
    cases ha; cases hb; subst e; exact PvWk.sl0 _ _ _ _ _
  | y :: cs, x :: rows, ⟨_, h2⟩, i + 1, a, b, ha, hb => h2.get i a b (by simpa using ha) (by simpa using hb)
  | [], [], _, i, a, b, ha, _ => by simp at ha
  | [], _ :: _, h, _, _, _, _, _ => h.elim
  | _ :: _, [], h, _, _, _, _, _ => h.elim
theorem PvWk.cells {f o : Bool} {sz n : Nat} {cs cs' : List PV} (hl : cs.length = cs'.length) (h : ∀ (i : Nat) (y z : PV), cs[i]? = some y → cs'[i]? = some z → PvWk y z) : PvWk (.sl f o sz n cs) (.sl f o sz n cs') := fun w x hx => by
  cases hx with
  | sl h1 h2 h3 h4 h5 h7 h6 =>
    refine .sl h1 (by rw [← hl]; exact h2) (by rw [← hl]; exact h3) h4 h5 h7 fun i y z hy hz => ?_
    have hi : i < cs.length := by rw [hl]; exact getSome_lt hy
    exact h i _ y (List.getElem?_eq_getElem hi) hy w z (h6 i _ z (List.getElem?_eq_getElem hi) hz)
  | slN =>
    have : cs' = [] := List.length_eq_zero_iff.1 (by rw [← hl]; rfl)
    subst this; exact .slN
def movF (ow : List Int) (su : List (List Int)) (p : Int) (st : List Int) (v : Nat) : List Int := if ow.getD v 0 = p ∧ st.getD v 0 ∈ su.getD v [] then [st.getD v 0] else su.getD v []
def ownF (ow ws ss : List Int) (p : Int) (v : Nat) : Int := if ow.getD v 0 = p ∧ ws.getD v 0 = p then ss.getD v 0 else -1
section
variable {tab : FuncId → Option AF} (T : HasA tab)
include T
end
end Go.Am.Ar
set_option linter.unusedVariables false
set_option linter.unusedSimpArgs false
set_option maxRecDepth 10000
namespace Go.Am.Ar
open Go.Am renaming pchk → P1, pold → P2, PKNo → P3, ppack → P4, PObj.under → P5, pput → P6, ptset → P7, ptget → P8, pev → P9, ofAV → P10, ofAV1 → P11, ppad → P12, pfill → P13, prepl → P14, AO.effect → P15
open List renaming replicate → L1
open Nat renaming reduceAdd → N1, reduceSub → N2, reduceMul → N3, reduceLT → N4, reduceLeDiff → N5, reduceEqDiff → N6, reduceBEq → N7
open Int renaming reduceToNat → I1, reduceLT → I2, reduceLE → I3, reduceEq → I4, reduceAdd → I5, reduceSub → I6, reduceNeg → I7
abbrev solE (ow : List Int) (su : List (List Int)) (ws ss : List Int) (p : Int) (a b : Nat) : Prop := b ∈ Sf (tabA ow.length (movF ow su p (tabA ow.length (ownF ow ws ss p)))) a
structure FormAt (ow : List Int) (su : List (List Int)) (ws ss : List Int) (v : Nat) : Prop where
  k : ¬ 1 < ws.getD v 0
  own : ws.getD v 0 = ow.getD v 0 → ss.getD v 0 ∈ su.getD v []
  opp : ¬ ws.getD v 0 = ow.getD v 0 → ss.getD v 0 = -1
structure CorrP (ow pr : List Int) (su : List (List Int)) (ws ss : List Int) : Prop where
  c : checkM ow pr su = 0
  lw : ws.length = ow.length
  ls : ss.length = ow.length
  form : ∀ v, v < ow.length → FormAt ow su ws ss v
  win : ∀ p : Int, p = 0 ∨ p = 1 → ∀ v, v < ow.length → ws.getD v 0 = p → ¬ Lost (solE ow su ws ss p) (zP pr) p v
theorem mov_in {ow pr st : List Int} {su : List (List Int)} {p : Int} (V : Valid ow pr su) (B : Bnd ow pr su) : RowsIn (tabA ow.length (movF ow su p st)) := by
  have n1 := V.n1
  refine ⟨by rw [tabA_len]; omega, fun row hrow => ?_⟩
  obtain ⟨v, hv, rfl⟩ := tabA_mem hrow
  have hvs : v < su.length := by rw [V.s]; exact hv
  have e : su.getD v [] = su[v] := by simp [List.getD, hvs]
  have hr : ∀ x ∈ su.getD v [], 0 ≤ x ∧ x < ow.length := fun x hx => su_range V hv hx
  rw [tabA_len]
  unfold movF
  split
  · rename_i h
    refine ⟨by simp, fun x hx => ?_⟩
    rw [List.mem_singleton] at hx; subst hx; exact hr _ h.2
  · exact ⟨by rw [e]; exact B.r _ (List.getElem_mem hvs), hr⟩
theorem Valid.pri0 {ow pr : List Int} {su : List (List Int)} (V : Valid ow pr su) : ∀ x ∈ pr, 0 ≤ x ∧ x ≤ 16 := fun x hx => by
  obtain ⟨i, hi⟩ := List.getElem?_of_mem hx
  have hl := getSome_lt hi
  have := V.row i (by rw [V.s, ← V.p]; exact hl)
  rw [getD_some hi] at this
  exact ⟨this.1, this.2.1⟩
section
variable {tab : FuncId → Option AF} (T : HasA tab)
include T
end
end Go.Am.Ar
set_option linter.unusedVariables false
set_option linter.unusedSimpArgs false
set_option maxRecDepth 10000
namespace Go.Am.Ar
open Go.Am renaming pchk → P1, pold → P2, PKNo → P3, ppack → P4, PObj.under → P5, pput → P6, ptset → P7, ptget → P8, pev → P9, ofAV → P10, ofAV1 → P11, ppad → P12, pfill → P13, prepl → P14, AO.effect → P15
open List renaming replicate → L1
open Nat renaming reduceAdd → N1, reduceSub → N2, reduceMul → N3, reduceLT → N4, reduceLeDiff → N5, reduceEqDiff → N6, reduceBEq → N7
open Int renaming reduceToNat → I1, reduceLT → I2, reduceLE → I3, reduceEq → I4, reduceAdd → I5, reduceSub → I6, reduceNeg → I7
theorem SolIn.congr {O : Nat → Int} {S : Nat → List Nat} {R : Nat → Int} {D : Nat → Prop} {p : Int} {W : Nat → Prop} {s s' : Nat → Nat} (h : SolIn O S R D p W s) (hs : ∀ v, W v → O v = p → s' v = s v) : SolIn O S R D p W s' :=
  ⟨h.sub, fun v hv ho => by rw [hs v hv ho]; exact h.own v hv ho, h.opp, fun c k hk hper hW hS hc => h.cyc c k hk hper hW hS fun i ho => by rw [hc i ho, hs _ (hW i) ho]⟩
structure SolL (ow pr : List Int) (su : List (List Int)) (ws ss : List Int) : Prop where
  lw : ws.length = ow.length
  ls : ss.length = ow.length
  sol : IsSol ow.length (zO ow) (Sf su) (zP pr) (fun v => ws.getD v 0) (stN ss)
  own : ∀ v, v < ow.length → ws.getD v 0 = ow.getD v 0 → 0 ≤ ss.getD v 0
  opp : ∀ v, v < ow.length → ¬ ws.getD v 0 = ow.getD v 0 → ss.getD v 0 = -1
section
variable {tab : FuncId → Option AF} (T : HasA tab)
include T
end
end Go.Am.Ar
set_option linter.unusedVariables false
namespace Go.Am.Ar
end Go.Am.Ar
set_option linter.unusedVariables false
set_option linter.unusedSimpArgs false
set_option maxRecDepth 10000
namespace Go.Am.Ar
open Go.Am renaming pchk → P1, pold → P2, PKNo → P3, ppack → P4, PObj.under → P5, pput → P6, ptset → P7, ptget → P8, pev → P9, ofAV → P10, ofAV1 → P11, ppad → P12, pfill → P13, prepl → P14, AO.effect → P15
open List renaming replicate → L1
open Nat renaming reduceAdd → N1, reduceSub → N2, reduceMul → N3, reduceLT → N4, reduceLeDiff → N5, reduceEqDiff → N6, reduceBEq → N7
open Int renaming reduceToNat → I1, reduceLT → I2, reduceLE → I3, reduceEq → I4, reduceAdd → I5, reduceSub → I6, reduceNeg → I7
theorem SemC_args {tab : FuncId → Option AF} {g : FuncId} {args args2 : List PV} {M : Mem} {K : PV → Mem → Prop} (h : ∀ w l, RepL w args l → RepL w args2 l) (hc : SemC tab g args2 M K) : SemC tab g args M K :=
  fun w hh args' h0 s ha => hc w hh args' h0 s (h w args' ha)
theorem valid_O {ow pr : List Int} {su : List (List Int)} (V : Valid ow pr su) (ho : ∀ x ∈ ow, 0 ≤ x) : ∀ v, v < ow.length → zO ow v = 0 ∨ zO ow v = 1 := fun v hv => by
  have h2 := (V.row v (by rw [V.s]; exact hv)).2.2.1
  have h3 : 0 ≤ ow.getD v 0 := by rw [List.getD, List.getElem?_eq_getElem hv]; exact ho _ (List.getElem_mem hv)
  show ow.getD v 0 = 0 ∨ ow.getD v 0 = 1
  omega
theorem valid_S {ow pr : List Int} {su : List (List Int)} (V : Valid ow pr su) : ∀ v, v < ow.length → Sf su v ≠ [] ∧ ∀ u ∈ Sf su v, u < ow.length := fun v hv => ⟨(Sf_ok V hv).1, (Sf_ok V hv).2.1⟩
theorem SolL.unique {ow pr : List Int} {su : List (List Int)} {ws ss : List Int} {w' : Nat → Int} {s' : Nat → Nat} (V : Valid ow pr su) (ho : ∀ x ∈ ow, 0 ≤ x) (L : SolL ow pr su ws ss) (h : IsSol ow.length (zO ow) (Sf su) (zP pr) w' s') : ∀ v, v < ow.length → ws.getD v 0 = w' v :=
  IsSol.unique (valid_O V ho) (fun v hv => (valid_S V v hv).2) L.sol h
theorem getD_ext {a b : List Int} (hl : a.length = b.length) (h : ∀ v, v < a.length → a.getD v 0 = b.getD v 0) : a = b := by
  apply List.ext_getElem hl
  intro v h1 h2
  have := h v h1
  rw [List.getD, List.getD, List.getElem?_eq_getElem h1, List.getElem?_eq_getElem h2] at this
  exact this
section
variable {tab : FuncId → Option AF} (T : HasA tab)
include T
theorem long0_p {M : Mem} {K : PV → Mem → Prop} {f1 o1 f2 o2 f3 o3 f4 o4 : Bool} {ow pr : List Int} {su : List (List Int)} (hq : K (.bool (longM ow pr su [])) M) :
    SemC tab 30 [gmP f1 o1 f2 o2 f3 o3 f4 o4 ow pr su, .nils] M K :=
  SemC_args (args2 := [gmP f1 o1 f2 o2 f3 o3 f4 o4 ow pr su, slR false false false false .i64 []]) (fun w l h => by
    match l, h with
    | [a, b], h => exact .cons h.hd (.cons (PvWk.nils false false 1 w b h.tl.hd) (.nil w))
    | [], h => exact absurd h.len (by simp)
    | [_], h => exact absurd h.len (by simp)
    | _ :: _ :: _ :: _, h => exact absurd h.len (by simp)) (long_p T (ls := []) (by show 0 < 1000000000000; omega) hq)
end
end Go.Am.Ar
set_option linter.unusedVariables false
set_option linter.unusedSimpArgs false
set_option maxRecDepth 10000
namespace Go.Am.Ar
open Go.Am renaming pchk → P1, pold → P2, PKNo → P3, ppack → P4, PObj.under → P5, pput → P6, ptset → P7, ptget → P8, pev → P9, ofAV → P10, ofAV1 → P11, ppad → P12, pfill → P13, prepl → P14, AO.effect → P15
open List renaming replicate → L1
open Nat renaming reduceAdd → N1, reduceSub → N2, reduceMul → N3, reduceLT → N4, reduceLeDiff → N5, reduceEqDiff → N6, reduceBEq → N7
open Int renaming reduceToNat → I1, reduceLT → I2, reduceLE → I3, reduceEq → I4, reduceAdd → I5, reduceSub → I6, reduceNeg → I7
theorem SolL.eq {ow pr : List Int} {su : List (List Int)} {ws ss ws' ss' : List Int} (V : Valid ow pr su) (ho : ∀ x ∈ ow, 0 ≤ x) (L : SolL ow pr su ws ss) (L' : SolL ow pr su ws' ss') : ws = ws' :=
  getD_ext (by rw [L.lw, L'.lw]) fun v hv => L.unique V ho L'.sol v (by rw [← L.lw]; exact hv)
section
variable {ow pr ws ss : List Int} {su : List (List Int)} {p : Int} (V : Valid ow pr su) (L : SolL ow pr su ws ss) (hp : p = 0 ∨ p = 1)
include V L hp
end
section
variable {tab : FuncId → Option AF} (T : HasA tab)
include T
end
end Go.Am.Ar

