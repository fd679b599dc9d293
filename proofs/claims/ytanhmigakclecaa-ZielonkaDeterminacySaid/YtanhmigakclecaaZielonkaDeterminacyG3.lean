/- Plain law: plays in solved games, and what goes with it. -/
import Derived.Test.YtanhmigakclecaaZielonkaDeterminacyG1
import Derived.Test.YtanhmigakclecaaPmR
import Derived.Test.YtanhmigakclecaaZielonkaDeterminacyG0
import Derived.Test.YtanhmigakclecaaPmC
import Derived.Test.YtanhmigakclecaaZielonkaDeterminacyG2
set_option linter.unusedVariables false
namespace Go.Am.Ar
theorem SolIn.loop {n : Nat} {O : Nat → Int} {S : Nat → List Nat} {R : Nat → Int} {W : Nat → Prop} {s f : Nat → Nat} {p : Int} {v m k : Nat} (a : SolIn O S R (fun v => v < n) p W s) (hv : W v) (hf : ∀ u, u < n → f u ∈ S u ∧ f u < n) (hs : ∀ u, W u → O u = p → f u = s u) (hkm : k < m) (hback : itr f v m = itr f v k) :
    (∀ i, W (itr f v i)) ∧ ∃ j, (∀ i, R (itr f v (k + i)) ≤ R (itr f v (k + j))) ∧ R (itr f v (k + j)) % 2 = p := by
  have inv : ∀ i, W (itr f v i) := by
    intro i
    induction i with
    | zero => exact hv
    | succ i ih =>
      show W (f _)
      have hn := a.sub _ ih
      by_cases ho : O (itr f v i) = p
      · rw [hs _ ih ho]; exact (a.own _ ih ho).2
      · exact a.opp _ ih ho _ (hf _ hn).1 (hf _ hn).2
  have hper := itr_per (by omega) hback
  exact ⟨inv, a.cyc (fun i => itr f v (k + i)) (m - k) (by omega) hper (fun i => inv _) (fun i => (hf _ (a.sub _ (inv _))).1) (fun i ho => hs _ (inv _) ho)⟩
end Go.Am.Ar
set_option linter.unusedVariables false
namespace Go.Am.Ar
abbrev Wd := List (BitVec 64)
def wAt (a : Wd) (i : Nat) : BitVec 64 := a.getD i 0#64
theorem wAt_ge {a : Wd} {i : Nat} (h : a.length ≤ i) : wAt a i = 0#64 := by
  unfold wAt; rw [List.getD, List.getElem?_eq_none h]; rfl
theorem wAt_some {a : Wd} {i : Nat} {x : BitVec 64} (h : a[i]? = some x) : wAt a i = x := by
  unfold wAt; rw [List.getD, h]; rfl
def trimN (a : Wd) : Nat → Nat
  | 0 => 0
  | n + 1 => if wAt a n = 0#64 then trimN a n else n + 1
theorem trimN_le (a : Wd) : ∀ n, trimN a n ≤ n
  | 0 => Nat.le_refl _
  | n + 1 => by
    unfold trimN
    split
    · exact Nat.le_succ_of_le (trimN_le a n)
    · exact Nat.le_refl _
theorem trimN_zero (a : Wd) : ∀ n i, trimN a n ≤ i → i < n → wAt a i = 0#64
  | 0, i, _, h => by omega
  | n + 1, i, h1, h2 => by
    unfold trimN at h1
    split at h1
    · rename_i h
      by_cases e : i = n
      · subst e; exact h
      · exact trimN_zero a n i h1 (by omega)
    · omega
theorem trimN_top (a : Wd) : ∀ n, trimN a n = 0 ∨ wAt a (trimN a n - 1) ≠ 0#64
  | 0 => .inl rfl
  | n + 1 => by
    unfold trimN
    split
    · exact trimN_top a n
    · rename_i h; exact .inr h
def trim (a : Wd) : Wd := a.take (trimN a a.length)
theorem trim_len (a : Wd) : (trim a).length ≤ a.length := by unfold trim; rw [List.length_take]; omega
theorem trim_at (a : Wd) (i : Nat) : wAt (trim a) i = wAt a i := by
  have hle := trimN_le a a.length
  rcases Nat.lt_or_ge i (trimN a a.length) with h | h
  · unfold wAt trim
    rw [List.getD, List.getD, List.getElem?_take, if_pos h]
  · rw [wAt_ge (by unfold trim; rw [List.length_take]; omega)]
    rcases Nat.lt_or_ge i a.length with q | q
    · exact (trimN_zero a _ i h q).symm
    · exact (wAt_ge q).symm
def cmbL (op : BitVec 64 → BitVec 64 → BitVec 64) (a b : Wd) (n : Nat) : Wd := (List.range n).map fun i => op (wAt a i) (wAt b i)
def cmb (op : BitVec 64 → BitVec 64 → BitVec 64) (a b : Wd) : Wd := trim (cmbL op a b (min (max a.length b.length) 64))
theorem cmbL_len (op : BitVec 64 → BitVec 64 → BitVec 64) (a b : Wd) (n : Nat) : (cmbL op a b n).length = n := by simp [cmbL]
theorem cmbL_succ (op : BitVec 64 → BitVec 64 → BitVec 64) (a b : Wd) (n : Nat) : cmbL op a b (n + 1) = cmbL op a b n ++ [op (wAt a n) (wAt b n)] := by simp [cmbL, List.range_succ]
theorem cmb_len (op : BitVec 64 → BitVec 64 → BitVec 64) (a b : Wd) : (cmb op a b).length ≤ 64 := by
  have := trim_len (cmbL op a b (min (max a.length b.length) 64))
  rw [cmbL_len] at this
  unfold cmb
  omega
theorem cmb_at {op : BitVec 64 → BitVec 64 → BitVec 64} (h0 : op 0#64 0#64 = 0#64) {a b : Wd} (ha : a.length ≤ 64) (hb : b.length ≤ 64) (i : Nat) : wAt (cmb op a b) i = op (wAt a i) (wAt b i) := by
  unfold cmb
  rw [trim_at]
  rcases Nat.lt_or_ge i (min (max a.length b.length) 64) with h | h
  · refine wAt_some ?_
    simp only [cmbL, List.getElem?_map, List.getElem?_range h, Option.map_some]
  · rw [wAt_ge (by rw [cmbL_len]; exact h), wAt_ge (a := a) (by omega), wAt_ge (a := b) (by omega), h0]
def bit (a : Wd) (k : Nat) : Bool := (wAt a (k / 64)).getLsbD (k % 64)
theorem bit_cmb_or {a b : Wd} (ha : a.length ≤ 64) (hb : b.length ≤ 64) (k : Nat) : bit (cmb (· ||| ·) a b) k = (bit a k || bit b k) := by
  unfold bit; rw [cmb_at (by simp) ha hb]; simp
theorem bit_cmb_and {a b : Wd} (ha : a.length ≤ 64) (hb : b.length ≤ 64) (k : Nat) : bit (cmb (· &&& ·) a b) k = (bit a k && bit b k) := by
  unfold bit; rw [cmb_at (by simp) ha hb]; simp
theorem bit_cmb_not {a b : Wd} (ha : a.length ≤ 64) (hb : b.length ≤ 64) (k : Nat) : bit (cmb (fun x y => x &&& ~~~ y) a b) k = (bit a k && !bit b k) := by
  have hk : k % 64 < 64 := Nat.mod_lt _ (by omega)
  unfold bit; rw [cmb_at (by simp) ha hb]; simp [hk]
theorem cmb_nil {op : BitVec 64 → BitVec 64 → BitVec 64} (a b : Wd) : (cmb op a b).length = 0 ↔ ∀ k, bit (cmb op a b) k = false := by
  constructor
  · intro h k
    unfold bit
    rw [wAt_ge (by omega)]; simp
  · intro h
    have hl : (cmb op a b).length = trimN (cmbL op a b (min (max a.length b.length) 64)) (min (max a.length b.length) 64) := by
      have := trimN_le (cmbL op a b (min (max a.length b.length) 64)) (min (max a.length b.length) 64)
      unfold cmb trim
      rw [List.length_take, cmbL_len]
      omega
    rcases trimN_top (cmbL op a b (min (max a.length b.length) 64)) (min (max a.length b.length) 64) with e | e
    · rw [hl, e]
    · exfalso
      rw [← trim_at] at e
      apply e
      apply BitVec.eq_of_getLsbD_eq
      intro j hj
      have := h (64 * (trimN (cmbL op a b (min (max a.length b.length) 64)) (min (max a.length b.length) 64) - 1) + j)
      unfold bit at this
      rw [show (64 * (trimN (cmbL op a b (min (max a.length b.length) 64)) (min (max a.length b.length) 64) - 1) + j) / 64 = trimN (cmbL op a b (min (max a.length b.length) 64)) (min (max a.length b.length) 64) - 1 by omega, show (64 * (trimN (cmbL op a b (min (max a.length b.length) 64)) (min (max a.length b.length) 64) - 1) + j) % 64 = j by omega] at this
      unfold cmb at this
      rw [this]; simp
def sing (k : Nat) : Wd := List.replicate (k / 64) 0#64 ++ [BitVec.twoPow 64 (k % 64)]
theorem sing_len (k : Nat) : (sing k).length = k / 64 + 1 := by simp [sing]
theorem bit_sing (k j : Nat) : bit (sing k) j = decide (j = k) := by
  have hj : j % 64 < 64 := Nat.mod_lt _ (by omega)
  unfold bit
  rcases Nat.lt_trichotomy (j / 64) (k / 64) with h | h | h
  · rw [wAt_some (x := 0#64) (by unfold sing; rw [List.getElem?_append_left (by simpa using h)]; simp [h])]
    have : j ≠ k := by rintro rfl; omega
    simp [this]
  · rw [wAt_some (x := BitVec.twoPow 64 (k % 64)) (by unfold sing; rw [List.getElem?_append_right (by simp; omega)]; simp [h])]
    rw [BitVec.getLsbD_twoPow]
    by_cases e : j = k
    · subst e; simp [hj]
    · have : k % 64 ≠ j % 64 := by omega
      simp [e, this]
  · rw [wAt_ge (by rw [sing_len]; omega)]
    have : j ≠ k := by rintro rfl; omega
    simp [this]
def withK (a : Wd) (k : Nat) : Wd := cmb (· ||| ·) a (sing k)
def ofL (l : List Nat) : Wd := l.foldl withK []
theorem ofL_go : ∀ (l : List Nat) (a : Wd), a.length ≤ 64 → (∀ x ∈ l, x < 4096) → (l.foldl withK a).length ≤ 64 ∧ ∀ k, bit (l.foldl withK a) k = (bit a k || decide (k ∈ l))
  | [], a, ha, _ => ⟨ha, by simp⟩
  | x :: l, a, ha, h => by
    have hx := h x (by simp)
    have hs : (sing x).length ≤ 64 := by rw [sing_len]; omega
    obtain ⟨h1, h2⟩ := ofL_go l (withK a x) (cmb_len _ _ _) (fun y hy => h y (by simp [hy]))
    refine ⟨h1, fun k => ?_⟩
    rw [List.foldl_cons, h2, withK, bit_cmb_or ha hs, bit_sing]
    simp [Bool.or_assoc]
theorem ofL_len {l : List Nat} (h : ∀ x ∈ l, x < 4096) : (ofL l).length ≤ 64 := (ofL_go l [] (by simp) h).1
theorem bit_ofL {l : List Nat} (h : ∀ x ∈ l, x < 4096) (k : Nat) : bit (ofL l) k = decide (k ∈ l) := by
  have := (ofL_go l [] (by simp) h).2 k
  unfold ofL
  rw [this]
  simp [bit, wAt]
theorem inter_iff {a b : List Nat} (ha : ∀ x ∈ a, x < 4096) (hb : ∀ x ∈ b, x < 4096) : 0 < (cmb (fun x y => x &&& y) (ofL a) (ofL b)).length ↔ ∃ x, x ∈ a ∧ x ∈ b := by
  have h1 := cmb_nil (op := fun x y => x &&& y) (ofL a) (ofL b)
  have h2 : ∀ k, bit (cmb (fun x y => x &&& y) (ofL a) (ofL b)) k = (decide (k ∈ a) && decide (k ∈ b)) := fun k => by
    rw [bit_cmb_and (ofL_len ha) (ofL_len hb), bit_ofL ha, bit_ofL hb]
  constructor
  · intro h
    refine Classical.byContradiction fun hn => ?_
    have : (cmb (fun x y => x &&& y) (ofL a) (ofL b)).length = 0 := h1.2 fun k => by
      rw [h2]
      by_cases q1 : k ∈ a
      · by_cases q2 : k ∈ b
        · exact absurd ⟨k, q1, q2⟩ hn
        · simp [q2]
      · simp [q1]
    omega
  · rintro ⟨x, q1, q2⟩
    refine Nat.pos_of_ne_zero fun h => ?_
    have := h1.1 h x
    rw [h2] at this
    simp [q1, q2] at this
theorem subset_iff {a b : List Nat} (ha : ∀ x ∈ a, x < 4096) (hb : ∀ x ∈ b, x < 4096) : (cmb (fun x y => x &&& ~~~ y) (ofL a) (ofL b)).length = 0 ↔ ∀ x ∈ a, x ∈ b := by
  have h1 := cmb_nil (op := fun x y => x &&& ~~~ y) (ofL a) (ofL b)
  have h2 : ∀ k, bit (cmb (fun x y => x &&& ~~~ y) (ofL a) (ofL b)) k = (decide (k ∈ a) && !decide (k ∈ b)) := fun k => by
    rw [bit_cmb_not (ofL_len ha) (ofL_len hb), bit_ofL ha, bit_ofL hb]
  rw [h1]
  constructor
  · intro h x hx
    have := h x
    rw [h2] at this
    simpa [hx] using this
  · intro h k
    rw [h2]
    by_cases q : k ∈ a
    · simp [q, h k q]
    · simp [q]
abbrev wI (a : Wd) : List Int := a.map fun b => ((b.toNat : Nat) : Int)
theorem u64_small {n : Nat} (h : n < 18446744073709551616) : IntKind.u64.wrap (n : Int) = (n : Int) := by
  simp only [IntKind.wrap, IntKind.signed, IntKind.bits]
  simp
  omega
theorem bv_int (b : BitVec 64) : BitVec.ofInt 64 ((b.toNat : Nat) : Int) = b := by
  rw [BitVec.ofInt_natCast]; simp
theorem pbin_and64 (a b : BitVec 64) : pbin .and (.int .u64 ((a.toNat : Nat) : Int)) (.int .u64 ((b.toNat : Nat) : Int)) = some (.int .u64 (((a &&& b).toNat : Nat) : Int)) := by
  have h := u64_small (a &&& b).isLt
  simp only [pbin, toAV0, abin, isShift, binInt, IntKind.bits, bv_int, Bool.false_eq_true, if_false, if_true]
  show some (PV.int .u64 (IntKind.u64.wrap (((a &&& b).toNat : Nat) : Int))) = _
  rw [h]
theorem pbin_or64 (a b : BitVec 64) : pbin .or (.int .u64 ((a.toNat : Nat) : Int)) (.int .u64 ((b.toNat : Nat) : Int)) = some (.int .u64 (((a ||| b).toNat : Nat) : Int)) := by
  have h := u64_small (a ||| b).isLt
  simp only [pbin, toAV0, abin, isShift, binInt, IntKind.bits, bv_int, Bool.false_eq_true, if_false, if_true]
  show some (PV.int .u64 (IntKind.u64.wrap (((a ||| b).toNat : Nat) : Int))) = _
  rw [h]
theorem pbin_andNot64 (a b : BitVec 64) : pbin .andNot (.int .u64 ((a.toNat : Nat) : Int)) (.int .u64 ((b.toNat : Nat) : Int)) = some (.int .u64 (((a &&& ~~~ b).toNat : Nat) : Int)) := by
  have h := u64_small (a &&& ~~~ b).isLt
  simp only [pbin, toAV0, abin, isShift, binInt, IntKind.bits, bv_int, Bool.false_eq_true, if_false, if_true]
  show some (PV.int .u64 (IntKind.u64.wrap (((a &&& ~~~ b).toNat : Nat) : Int))) = _
  rw [h]
theorem pbin_shl64 {k : Nat} (h : k < 64) : pbin .shl (.int .u64 1) (.int .i64 (k : Int)) = some (.int .u64 (((BitVec.twoPow 64 k).toNat : Nat) : Int)) := by
  have h2 : (BitVec.twoPow 64 k).toNat = 2 ^ k := by
    rw [BitVec.toNat_twoPow, Nat.mod_eq_of_lt (Nat.pow_lt_pow_right (by omega) h)]
  have h3 := u64_small (n := 2 ^ k) (Nat.pow_lt_pow_right (n := 64) (by omega) h)
  have h4 : min ((k : Int).toNat) 64 = k := by omega
  simp only [pbin, toAV0, abin, isShift, binShift, IntKind.bits, h4, h2]
  rw [if_pos trivial, if_neg (by omega), show (1 : Int) * 2 ^ k = ((2 ^ k : Nat) : Int) by simp, h3]
  rfl
end Go.Am.Ar
set_option linter.unusedVariables false
set_option linter.unusedSimpArgs false
set_option maxRecDepth 10000
namespace Go.Am.Ar
open Go.Am renaming pchk → P1, pold → P2, PKNo → P3, ppack → P4, PObj.under → P5, pput → P6, ptset → P7, ptget → P8, pev → P9, ofAV → P10, ofAV1 → P11, ppad → P12, pfill → P13, prepl → P14, AO.effect → P15
open List renaming replicate → L1
open Nat renaming reduceAdd → N1, reduceSub → N2, reduceMul → N3, reduceLT → N4, reduceLeDiff → N5, reduceEqDiff → N6, reduceBEq → N7
open Int renaming reduceToNat → I1, reduceLT → I2, reduceLE → I3, reduceEq → I4, reduceAdd → I5, reduceSub → I6, reduceNeg → I7
abbrev p64u (b : BitVec 64) : PV := .int .u64 ((b.toNat : Nat) : Int)
abbrev slW (f o : Bool) (a : Wd) : PV := .sl f o 1 a.length ((wI a).map (PV.int .u64))
theorem wI_get {a : Wd} {i : Nat} (h : i < a.length) : (wI a)[i]? = some (((wAt a i).toNat : Nat) : Int) := by
  rw [List.getElem?_map, List.getElem?_eq_getElem h, wAt_some (List.getElem?_eq_getElem h)]; rfl
theorem pquo64 {x y : Int} (h : y ≠ 0) : pbin .quo (.int .i64 x) (.int .i64 y) = some (.int .i64 (IntKind.i64.wrap (x.tdiv y))) := by
  simp [pbin, toAV0, abin, ofAV1, h, isShift, binInt]
theorem pmin2 {k : IntKind} {x y : Int} : pminV (.int k x) [.int k y] = some (.int k (min x y)) := by
  simp [pminV, toAV0, toAVs, foldO, amin2, ofAV1]
  split <;> omega
theorem wrap_pred {j : Nat} (h : j < 4000000000000) : IntKind.i64.wrap (((j + 1 : Nat) : Int) - 1) = (j : Int) := by
  rw [wrap64 (by omega) (by omega)]; omega
theorem frzW {g ver m : Nat} {W : Wd} (h : m ≤ W.length) : frzO (some (.cells g ver ((wI W).map (PV.int .u64)))) g 1 0 m = some (slW false true (W.take m)) := by
  rw [frzO_cells (by simp; omega) (underL_ints _ _ _)]
  have h1 : psub ((wI W).map (PV.int .u64)) 0 (m * 1) = (wI (W.take m)).map (PV.int .u64) := by simp [psub, List.map_take]
  have h2 : (W.take m).length = m := by rw [List.length_take]; omega
  rw [h1]
  unfold slW
  rw [h2]
theorem rep_set {α : Type} (z x : α) : ∀ n : Nat, (z :: List.replicate n z).set n x = List.replicate n z ++ [x]
  | 0 => rfl
  | n + 1 => by
    rw [List.set_cons_succ, List.replicate_succ, rep_set z x n]; rfl
section
variable {tab : FuncId → Option AF} (T : HasA tab)
include T
theorem bsAt_p {M : Mem} {K : PV → Mem → Prop} {f o : Bool} {a : Wd} {i : Nat} (hk : K (p64u (wAt a i)) M) :
    SemC tab 78 [slW f o a, p64 i] M K := by
  refine SemC_pure T.h78 (by simp only [PP, P1, P2, P3, P4, P5, P6, P7, P8, P9, P10, P11, P12, P13, P14, L1, P15, N1, N2, N3, N4, N5, N6, N7, I1, I2, I3, I4, I5, I6, I7, reduceIte, reduceCtorEq]) ?_
  simp only [af78, PP, P1, P2, P3, P4, P5, P6, P7, P8, P9, P10, P11, P12, P13, P14, L1, P15, N1, N2, N3, N4, N5, N6, N7, I1, I2, I3, I4, I5, I6, I7, reduceIte, reduceCtorEq]
  refine QIf.intro (fun c => ?_) (fun c => ?_)
  · have hi : i < a.length := by omega
    have i0 : (0 : Int) ≤ i := by omega
    have g := wI_get hi
    rw [List.getElem?_map] at g
    simp only [PP, P1, P2, P3, P4, P5, P6, P7, P8, P9, P10, P11, P12, P13, P14, L1, P15, N1, N2, N3, N4, N5, N6, N7, I1, I2, I3, I4, I5, I6, I7, reduceIte, reduceCtorEq, c, g, i0]
    exact hk
  · rw [wAt_ge (by omega)] at hk
    simp only [PP, P1, P2, P3, P4, P5, P6, P7, P8, P9, P10, P11, P12, P13, P14, L1, P15, N1, N2, N3, N4, N5, N6, N7, I1, I2, I3, I4, I5, I6, I7, reduceIte, reduceCtorEq, c]
    exact hk
theorem clipW_p {M : Mem} {K : PV → Mem → Prop} {id g off n ver : Nat} {cs : List PV} (hM : M[id]? = some (.cells g ver cs)) (hk : K (.ref id g 1 off n) M) :
    SemC tab 79 [.ref id g 1 off n] M K := by
  refine SemC_fn T.h79 ?_
  have e : ((n : Int) - 0).toNat = n := by omega
  have n0 : (0 : Int) ≤ n := by omega
  simp only [af79, PP, P1, P2, P3, P4, P5, P6, P7, P8, P9, P10, P11, P12, P13, P14, L1, P15, N1, N2, N3, N4, N5, N6, N7, I1, I2, I3, I4, I5, I6, I7, reduceIte, reduceCtorEq, hM, e, n0, Int.le_refl]
  exact hk
theorem combine_p {M : Mem} {K : PV → Mem → Prop} {f1 o1 f2 o2 : Bool} {a b : Wd} {g : FuncId} (op : BitVec 64 → BitVec 64 → BitVec 64) (ha : a.length < big) (hb : b.length < big)
    (hop : ∀ (M : Mem) (K : PV → Mem → Prop) (x y : BitVec 64), K (p64u (op x y)) M → SemC tab g [p64u x, p64u y] M K) (hk : K (slW false true (cmb op a b)) M) :
    SemC tab 72 [slW f1 o1 a, slW f2 o2 b, .func (.func g) [] []] M K := by
  refine SemC_pure T.h72 (by simp only [PP, P1, P2, P3, P4, P5, P6, P7, P8, P9, P10, P11, P12, P13, P14, L1, P15, N1, N2, N3, N4, N5, N6, N7, I1, I2, I3, I4, I5, I6, I7, reduceIte, reduceCtorEq]) ?_
  simp only [af72, PP, P1, P2, P3, P4, P5, P6, P7, P8, P9, P10, P11, P12, P13, P14, L1, P15, N1, N2, N3, N4, N5, N6, N7, I1, I2, I3, I4, I5, I6, I7, reduceIte, reduceCtorEq]
  have hn : min (max (a.length : Int) b.length) 64 = ((min (max a.length b.length) 64 : Nat) : Int) := by omega
  have hk' : K (slW false true (trim (cmbL op a b (min (max a.length b.length) 64)))) M := hk
  generalize hnn : min (max a.length b.length) 64 = n at hn hk'
  have hn64 : n ≤ 64 := by omega
  simp only [PP, P1, P2, P3, P4, P5, P6, P7, P8, P9, P10, P11, P12, P13, P14, L1, P15, N1, N2, N3, N4, N5, N6, N7, I1, I2, I3, I4, I5, I6, I7, reduceIte, reduceCtorEq, pmin2, hn]
  refine SemW_re (GStep.nil 8 1 rfl rfl rfl) ?_
  simp only [ptset, List.cons_append, List.nil_append, List.length_cons, List.length_nil, Nat.reduceAdd]
  refine loop2 (fun (i g2 : Nat) => i ≤ n)
    (fun i g2 => [slW f1 o1 a, slW f2 o2 b, .func (.func g) [] [], .junk, .junk, .junk, .junk, .func (.func 78) [] [], .ref 0 g2 1 0 i, .junk, .junk, .junk, .junk, .junk, .junk, p64 n, p64 i, .junk, .junk, .junk, .junk, .junk, .junk, .junk, .junk, .junk, .junk, .junk, .junk, .junk, .junk, .junk, .junk, .junk, .junk, .junk, .junk, .junk, .junk, .junk, .junk, .junk, .junk, .junk, .junk, .junk, .junk, .junk, .junk, .junk, .junk, .junk])
    (fun i g2 => [.cells g2 0 ((wI (cmbL op a b i)).map (PV.int .u64))])
    (fun i _ => n - i) 0 0 (by omega) (by simp only [PWeak_nil, PWeak_junk, PWeak_same, Int.cast_ofNat_Int, List.length_append, List.length_cons, List.length_nil, Nat.zero_add]) rfl ?_
  intro i g2 hi ih
  refine SemW_go (by kernel_rfl) ?_
  simp only [PP, P1, P2, P3, P4, P5, P6, P7, P8, P9, P10, P11, P12, P13, P14, L1, P15, N1, N2, N3, N4, N5, N6, N7, I1, I2, I3, I4, I5, I6, I7, reduceIte, reduceCtorEq]
  refine QIf.intro (fun c => ?_) (fun c => ?_)
  · have hin : i < n := by omega
    have hw := wrap_succ (k := i) (by show _ < 1000000000000; omega)
    have b1 : (i + 1) * 8 ≤ 140737488355328 := by omega
    have b2 : i ≤ 9223372036854775806 := by omega
    have b3 : i ≤ (cmbL op a b i).length := by rw [cmbL_len]; omega
    have hps : psub (List.map (PV.int .u64) (wI (cmbL op a b i))) 0 i = List.map (PV.int .u64) (wI (cmbL op a b i)) := psub_all _ _ (by rw [List.length_map, List.length_map, cmbL_len])
    simp only [PP, P1, P2, P3, P4, P5, P6, P7, P8, P9, P10, P11, P12, P13, P14, L1, P15, N1, N2, N3, N4, N5, N6, N7, I1, I2, I3, I4, I5, I6, I7, reduceIte, reduceCtorEq, c]
    refine bsAt_p T ?_
    simp only [PP, P1, P2, P3, P4, P5, P6, P7, P8, P9, P10, P11, P12, P13, P14, L1, P15, N1, N2, N3, N4, N5, N6, N7, I1, I2, I3, I4, I5, I6, I7, reduceIte, reduceCtorEq]
    refine bsAt_p T ?_
    simp only [PP, P1, P2, P3, P4, P5, P6, P7, P8, P9, P10, P11, P12, P13, P14, L1, P15, N1, N2, N3, N4, N5, N6, N7, I1, I2, I3, I4, I5, I6, I7, reduceIte, reduceCtorEq]
    refine hop _ _ _ _ ?_
    simp only [PP, P1, P2, P3, P4, P5, P6, P7, P8, P9, P10, P11, P12, P13, P14, L1, P15, N1, N2, N3, N4, N5, N6, N7, I1, I2, I3, I4, I5, I6, I7, reduceIte, reduceCtorEq, b1, b2, b3, hps, hw]
    exact SemW_to (ih (i + 1) (g2 + 1) (by omega) (by omega)) (by simp only [PWeak_nil, PWeak_junk, PWeak_same, Int.cast_ofNat_Int, List.length_append, List.length_cons, List.length_nil, Nat.zero_add]) (by rw [cmbL_succ]; simp)
  · have hin : i = n := by omega
    subst hin
    simp only [PP, P1, P2, P3, P4, P5, P6, P7, P8, P9, P10, P11, P12, P13, P14, L1, P15, N1, N2, N3, N4, N5, N6, N7, I1, I2, I3, I4, I5, I6, I7, reduceIte, reduceCtorEq, c]
    have hwl := cmbL_len op a b i
    generalize cmbL op a b i = W at hk' hwl ⊢
    refine loop1 (fun (m : Nat) => m ≤ i ∧ trimN W m = trimN W W.length)
      (fun m => [.junk, .junk, .junk, .junk, .junk, .junk, .junk, .junk, .ref 0 g2 1 0 m, .junk, .junk, .junk, .junk, .junk, .junk, .junk, .junk, .junk, .junk, .junk, .junk, .junk, .junk, .junk, .junk, .junk, .junk, .junk, .junk, .junk, .junk, .junk, .junk, .junk, .junk, .junk, .junk, .junk, .junk, .junk, .junk, .junk, .junk, .junk, .junk, .junk, .junk, .junk, .junk, .junk, .junk, .junk]) (fun m => [.cells g2 0 ((wI W).map (PV.int .u64))]) (fun m => m) i ⟨by omega, by rw [hwl]⟩ (by simp only [PWeak_nil, PWeak_junk, PWeak_same, Int.cast_ofNat_Int, List.length_append, List.length_cons, List.length_nil, Nat.zero_add]) rfl ?_
    intro m ⟨hm, htr⟩ ih2
    have hfin : trimN W m = m → K (slW false true (W.take m)) M := fun e => by
      have hk2 : K (slW false true (W.take (trimN W W.length))) M := hk'
      rw [← htr, e] at hk2; exact hk2
    refine SemW_go (by kernel_rfl) ?_
    simp only [PP, P1, P2, P3, P4, P5, P6, P7, P8, P9, P10, P11, P12, P13, P14, L1, P15, N1, N2, N3, N4, N5, N6, N7, I1, I2, I3, I4, I5, I6, I7, reduceIte, reduceCtorEq]
    refine QIf.intro (fun d => ?_) (fun d => ?_)
    · obtain ⟨j, rfl⟩ : ∃ j, m = j + 1 := ⟨m - 1, by omega⟩
      have hw := wrap_pred (j := j) (by omega)
      have j0 : (0 : Int) ≤ j := by omega
      have j1 : (j : Int) < ((j + 1 : Nat) : Int) := by omega
      have gj := wI_get (a := W) (i := j) (by omega)
      rw [List.getElem?_map] at gj
      have e2 : ((j : Int) - 0).toNat = j := by omega
      have j2 : (j : Int) ≤ ((j + 1 : Nat) : Int) := by omega
      simp only [PP, P1, P2, P3, P4, P5, P6, P7, P8, P9, P10, P11, P12, P13, P14, L1, P15, N1, N2, N3, N4, N5, N6, N7, I1, I2, I3, I4, I5, I6, I7, reduceIte, reduceCtorEq, hw, j0, j1, gj, d]
      have et : trimN W (j + 1) = if wAt W j = 0#64 then trimN W j else j + 1 := rfl
      rw [et] at htr hfin
      refine QIf.intro (fun e => ?_) (fun e => ?_)
      · have hz : wAt W j = 0#64 := BitVec.eq_of_toNat_eq (by simpa using e)
        rw [if_pos hz] at htr
        simp only [PP, P1, P2, P3, P4, P5, P6, P7, P8, P9, P10, P11, P12, P13, P14, L1, P15, N1, N2, N3, N4, N5, N6, N7, I1, I2, I3, I4, I5, I6, I7, reduceIte, reduceCtorEq, e, hw, j0, j2, e2]
        exact SemW_weak (ih2 j ⟨by omega, htr⟩ (by omega)) (by simp only [PWeak_nil, PWeak_junk, PWeak_same, Int.cast_ofNat_Int, List.length_append, List.length_cons, List.length_nil, Nat.zero_add])
      · have hz : ¬ wAt W j = 0#64 := fun h => e (by rw [h]; rfl)
        rw [if_neg hz] at hfin
        have hk3 := hfin rfl
        simp only [PP, P1, P2, P3, P4, P5, P6, P7, P8, P9, P10, P11, P12, P13, P14, L1, P15, N1, N2, N3, N4, N5, N6, N7, I1, I2, I3, I4, I5, I6, I7, reduceIte, reduceCtorEq, e]
        refine clipW_p T rfl ?_
        simp only [PP, P1, P2, P3, P4, P5, P6, P7, P8, P9, P10, P11, P12, P13, P14, L1, P15, N1, N2, N3, N4, N5, N6, N7, I1, I2, I3, I4, I5, I6, I7, reduceIte, reduceCtorEq, frzW (W := W) (m := j + 1) (by omega)]
        exact hk3
    · have : m = 0 := by omega
      subst this
      have hk3 := hfin rfl
      simp only [PP, P1, P2, P3, P4, P5, P6, P7, P8, P9, P10, P11, P12, P13, P14, L1, P15, N1, N2, N3, N4, N5, N6, N7, I1, I2, I3, I4, I5, I6, I7, reduceIte, reduceCtorEq, d]
      refine clipW_p T rfl ?_
      simp only [PP, P1, P2, P3, P4, P5, P6, P7, P8, P9, P10, P11, P12, P13, P14, L1, P15, N1, N2, N3, N4, N5, N6, N7, I1, I2, I3, I4, I5, I6, I7, reduceIte, reduceCtorEq, frzW (W := W) (m := 0) (by omega)]
      exact hk3
theorem orW_p {M : Mem} {K : PV → Mem → Prop} {x y : BitVec 64} (hk : K (p64u (x ||| y)) M) : SemC tab 77 [p64u x, p64u y] M K := by
  refine SemC_pure T.h77 (by simp only [PP, P1, P2, P3, P4, P5, P6, P7, P8, P9, P10, P11, P12, P13, P14, L1, P15, N1, N2, N3, N4, N5, N6, N7, I1, I2, I3, I4, I5, I6, I7, reduceIte, reduceCtorEq]) ?_
  simp only [af77, PP, P1, P2, P3, P4, P5, P6, P7, P8, P9, P10, P11, P12, P13, P14, L1, P15, N1, N2, N3, N4, N5, N6, N7, I1, I2, I3, I4, I5, I6, I7, reduceIte, reduceCtorEq, pbin_or64]
  exact hk
theorem andW_p {M : Mem} {K : PV → Mem → Prop} {x y : BitVec 64} (hk : K (p64u (x &&& y)) M) : SemC tab 73 [p64u x, p64u y] M K := by
  refine SemC_pure T.h73 (by simp only [PP, P1, P2, P3, P4, P5, P6, P7, P8, P9, P10, P11, P12, P13, P14, L1, P15, N1, N2, N3, N4, N5, N6, N7, I1, I2, I3, I4, I5, I6, I7, reduceIte, reduceCtorEq]) ?_
  simp only [af73, PP, P1, P2, P3, P4, P5, P6, P7, P8, P9, P10, P11, P12, P13, P14, L1, P15, N1, N2, N3, N4, N5, N6, N7, I1, I2, I3, I4, I5, I6, I7, reduceIte, reduceCtorEq, pbin_and64]
  exact hk
theorem notW_p {M : Mem} {K : PV → Mem → Prop} {x y : BitVec 64} (hk : K (p64u (x &&& ~~~ y)) M) : SemC tab 74 [p64u x, p64u y] M K := by
  refine SemC_pure T.h74 (by simp only [PP, P1, P2, P3, P4, P5, P6, P7, P8, P9, P10, P11, P12, P13, P14, L1, P15, N1, N2, N3, N4, N5, N6, N7, I1, I2, I3, I4, I5, I6, I7, reduceIte, reduceCtorEq]) ?_
  simp only [af74, PP, P1, P2, P3, P4, P5, P6, P7, P8, P9, P10, P11, P12, P13, P14, L1, P15, N1, N2, N3, N4, N5, N6, N7, I1, I2, I3, I4, I5, I6, I7, reduceIte, reduceCtorEq, pbin_andNot64]
  exact hk
theorem union_p {M : Mem} {K : PV → Mem → Prop} {f1 o1 f2 o2 : Bool} {a b : Wd} (ha : a.length < big) (hb : b.length < big) (hk : K (slW false true (cmb (fun x y => x ||| y) a b)) M) :
    SemC tab 70 [slW f1 o1 a, slW f2 o2 b] M K := by
  refine SemC_pure T.h70 (by simp only [PP, P1, P2, P3, P4, P5, P6, P7, P8, P9, P10, P11, P12, P13, P14, L1, P15, N1, N2, N3, N4, N5, N6, N7, I1, I2, I3, I4, I5, I6, I7, reduceIte, reduceCtorEq]) ?_
  simp only [af70, PP, P1, P2, P3, P4, P5, P6, P7, P8, P9, P10, P11, P12, P13, P14, L1, P15, N1, N2, N3, N4, N5, N6, N7, I1, I2, I3, I4, I5, I6, I7, reduceIte, reduceCtorEq]
  refine combine_p T (fun x y => x ||| y) ha hb (fun M K x y h => orW_p T h) ?_
  simp only [PP, P1, P2, P3, P4, P5, P6, P7, P8, P9, P10, P11, P12, P13, P14, L1, P15, N1, N2, N3, N4, N5, N6, N7, I1, I2, I3, I4, I5, I6, I7, reduceIte, reduceCtorEq]
  exact hk
theorem intersect_p {M : Mem} {K : PV → Mem → Prop} {f1 o1 f2 o2 : Bool} {a b : Wd} (ha : a.length < big) (hb : b.length < big) (hk : K (slW false true (cmb (fun x y => x &&& y) a b)) M) :
    SemC tab 64 [slW f1 o1 a, slW f2 o2 b] M K := by
  refine SemC_pure T.h64 (by simp only [PP, P1, P2, P3, P4, P5, P6, P7, P8, P9, P10, P11, P12, P13, P14, L1, P15, N1, N2, N3, N4, N5, N6, N7, I1, I2, I3, I4, I5, I6, I7, reduceIte, reduceCtorEq]) ?_
  simp only [af64, PP, P1, P2, P3, P4, P5, P6, P7, P8, P9, P10, P11, P12, P13, P14, L1, P15, N1, N2, N3, N4, N5, N6, N7, I1, I2, I3, I4, I5, I6, I7, reduceIte, reduceCtorEq]
  refine combine_p T (fun x y => x &&& y) ha hb (fun M K x y h => andW_p T h) ?_
  simp only [PP, P1, P2, P3, P4, P5, P6, P7, P8, P9, P10, P11, P12, P13, P14, L1, P15, N1, N2, N3, N4, N5, N6, N7, I1, I2, I3, I4, I5, I6, I7, reduceIte, reduceCtorEq]
  exact hk
theorem minus_p {M : Mem} {K : PV → Mem → Prop} {f1 o1 f2 o2 : Bool} {a b : Wd} (ha : a.length < big) (hb : b.length < big) (hk : K (slW false true (cmb (fun x y => x &&& ~~~ y) a b)) M) :
    SemC tab 65 [slW f1 o1 a, slW f2 o2 b] M K := by
  refine SemC_pure T.h65 (by simp only [PP, P1, P2, P3, P4, P5, P6, P7, P8, P9, P10, P11, P12, P13, P14, L1, P15, N1, N2, N3, N4, N5, N6, N7, I1, I2, I3, I4, I5, I6, I7, reduceIte, reduceCtorEq]) ?_
  simp only [af65, PP, P1, P2, P3, P4, P5, P6, P7, P8, P9, P10, P11, P12, P13, P14, L1, P15, N1, N2, N3, N4, N5, N6, N7, I1, I2, I3, I4, I5, I6, I7, reduceIte, reduceCtorEq]
  refine combine_p T (fun x y => x &&& ~~~ y) ha hb (fun M K x y h => notW_p T h) ?_
  simp only [PP, P1, P2, P3, P4, P5, P6, P7, P8, P9, P10, P11, P12, P13, P14, L1, P15, N1, N2, N3, N4, N5, N6, N7, I1, I2, I3, I4, I5, I6, I7, reduceIte, reduceCtorEq]
  exact hk
theorem single_p {M : Mem} {K : PV → Mem → Prop} {k : Nat} (h : k < 4096) (hk : K (slW false true (sing k)) M) : SemC tab 71 [p64 k] M K := by
  refine SemC_pure T.h71 (by simp only [PP, P1, P2, P3, P4, P5, P6, P7, P8, P9, P10, P11, P12, P13, P14, L1, P15, N1, N2, N3, N4, N5, N6, N7, I1, I2, I3, I4, I5, I6, I7, reduceIte, reduceCtorEq]) ?_
  have k0 : ¬ (k : Int) < 0 := by omega
  have k1 : ¬ (4095 : Int) < k := by omega
  have h64 : (64 : Int) ≠ 0 := by omega
  have e1 : IntKind.i64.wrap ((k : Int).tdiv 64) = ((k / 64 : Nat) : Int) := by
    rw [Int.tdiv_eq_ediv_of_nonneg (by omega), wrap64 (by omega) (by omega)]; omega
  have e2 : (k : Int).tmod 64 = ((k % 64 : Nat) : Int) := by rw [Int.tmod_eq_emod_of_nonneg (by omega)]; omega
  have e3 := wrap_succ (k := k / 64) (by show _ < 1000000000000; omega)
  have b0 : (0 : Int) ≤ ((k / 64 + 1 : Nat) : Int) := by omega
  have b1 : ((k / 64 + 1 : Nat) : Int) * 8 ≤ 140737488355328 := by omega
  have b2 : ((k / 64 + 1 : Nat) : Int) ≤ 9223372036854775807 := by omega
  have b3 : (0 : Int) ≤ ((k / 64 : Nat) : Int) := by omega
  have b4 : ((k / 64 : Nat) : Int) < ((k / 64 + 1 : Nat) : Int) := by omega
  have b5 : k / 64 + 1 ≤ k / 64 + 1 := Nat.le_refl _
  have hsh := pbin_shl64 (k := k % 64) (Nat.mod_lt _ (by omega))
  simp only [af71, PP, P1, P2, P3, P4, P5, P6, P7, P8, P9, P10, P11, P12, P13, P14, L1, P15, N1, N2, N3, N4, N5, N6, N7, I1, I2, I3, I4, I5, I6, I7, reduceIte, reduceCtorEq, k0, k1, prem h64, pquo64 h64, e1, e2, e3, b0, b1, b2, b3, b4, hsh, Int.le_refl]
  have hc : List.replicate (k / 64) (PV.int .u64 0) ++ [PV.int .u64 (((BitVec.twoPow 64 (k % 64)).toNat : Nat) : Int)] = (wI (sing k)).map (PV.int .u64) := by
    simp [sing]
  have hl := sing_len k
  rw [rep_set, hc]
  have ht : (sing k).take (k / 64 + 1) = sing k := List.take_of_length_le (by omega)
  simp only [PP, P1, P2, P3, P4, P5, P6, P7, P8, P9, P10, P11, P12, P13, P14, L1, P15, N1, N2, N3, N4, N5, N6, N7, I1, I2, I3, I4, I5, I6, I7, reduceIte, reduceCtorEq, frzW (W := sing k) (m := k / 64 + 1) (by omega), ht]
  exact hk
theorem with_p {M : Mem} {K : PV → Mem → Prop} {f o : Bool} {a : Wd} {k : Nat} (ha : a.length < big) (h : k < 4096) (hk : K (slW false true (withK a k)) M) : SemC tab 63 [slW f o a, p64 k] M K := by
  refine SemC_pure T.h63 (by simp only [PP, P1, P2, P3, P4, P5, P6, P7, P8, P9, P10, P11, P12, P13, P14, L1, P15, N1, N2, N3, N4, N5, N6, N7, I1, I2, I3, I4, I5, I6, I7, reduceIte, reduceCtorEq]) ?_
  simp only [af63, PP, P1, P2, P3, P4, P5, P6, P7, P8, P9, P10, P11, P12, P13, P14, L1, P15, N1, N2, N3, N4, N5, N6, N7, I1, I2, I3, I4, I5, I6, I7, reduceIte, reduceCtorEq]
  refine single_p T h ?_
  simp only [PP, P1, P2, P3, P4, P5, P6, P7, P8, P9, P10, P11, P12, P13, P14, L1, P15, N1, N2, N3, N4, N5, N6, N7, I1, I2, I3, I4, I5, I6, I7, reduceIte, reduceCtorEq]
  refine union_p T ha (by rw [sing_len]; show _ < 1000000000000; omega) ?_
  simp only [PP, P1, P2, P3, P4, P5, P6, P7, P8, P9, P10, P11, P12, P13, P14, L1, P15, N1, N2, N3, N4, N5, N6, N7, I1, I2, I3, I4, I5, I6, I7, reduceIte, reduceCtorEq]
  exact hk
theorem of_p {M : Mem} {K : PV → Mem → Prop} {f o : Bool} {l : List Nat} {xs : List Int} (e : natI l = xs) (hb : l.length < big) (h : ∀ x ∈ l, x < 4096) (hk : K (slW false true (ofL l)) M) : SemC tab 45 [slI f o .i64 xs] M K := by
  subst e
  refine SemC_wk ?_
  refine SemC_pure T.h45 (by simp only [PP, P1, P2, P3, P4, P5, P6, P7, P8, P9, P10, P11, P12, P13, P14, L1, P15, N1, N2, N3, N4, N5, N6, N7, I1, I2, I3, I4, I5, I6, I7, reduceIte, reduceCtorEq]) ?_
  simp only [af45, PP, P1, P2, P3, P4, P5, P6, P7, P8, P9, P10, P11, P12, P13, P14, L1, P15, N1, N2, N3, N4, N5, N6, N7, I1, I2, I3, I4, I5, I6, I7, reduceIte, reduceCtorEq]
  refine SemW_re (GStep.wk 2 (slW false true []) (PvWk.nils _ _ _) rfl) ?_
  simp only [ptset]
  have hb' : l.length < 1000000000000 := hb
  refine loop2 (fun (k : Nat) (a : Wd) => k ≤ l.length ∧ a.length ≤ 64 ∧ (l.drop k).foldl withK a = ofL l)
    (fun k a => [.junk, .junk, slW false true a, .junk, .junk, slI f o .i64 (natI l), p64 l.length, p64 k, .junk, .junk, .junk, .junk, .junk, .junk, .junk, .junk]) (fun _ _ => []) (fun k _ => l.length - k) 0 [] ⟨by omega, by simp, rfl⟩ (by simp only [PWeak_nil, PWeak_junk, PWeak_same, Int.cast_ofNat_Int, List.length_append, List.length_cons, List.length_nil, Nat.zero_add]) rfl ?_
  intro k a ⟨hle, hal, hfo⟩ ih
  refine SemW_go (by kernel_rfl) ?_
  simp only [PP, P1, P2, P3, P4, P5, P6, P7, P8, P9, P10, P11, P12, P13, P14, L1, P15, N1, N2, N3, N4, N5, N6, N7, I1, I2, I3, I4, I5, I6, I7, reduceIte, reduceCtorEq]
  refine QIf.intro (fun c => ?_) (fun c => ?_)
  · have hk' : k < l.length := by omega
    obtain ⟨x, g⟩ := some_of hk'
    have hw := wrap_succ (k := k) (by show _ < 1000000000000; omega)
    have k0 : (0 : Int) ≤ k := by omega
    rw [drop_some g, List.foldl_cons] at hfo
    simp only [PP, P1, P2, P3, P4, P5, P6, P7, P8, P9, P10, P11, P12, P13, P14, L1, P15, N1, N2, N3, N4, N5, N6, N7, I1, I2, I3, I4, I5, I6, I7, reduceIte, reduceCtorEq, c, g, k0]
    refine with_p T (by show _ < 1000000000000; omega) (h x (List.mem_of_getElem? g)) ?_
    simp only [PP, P1, P2, P3, P4, P5, P6, P7, P8, P9, P10, P11, P12, P13, P14, L1, P15, N1, N2, N3, N4, N5, N6, N7, I1, I2, I3, I4, I5, I6, I7, reduceIte, reduceCtorEq, hw]
    exact SemW_weak (ih (k + 1) (withK a x) ⟨by omega, cmb_len _ _ _, hfo⟩ (by omega)) (by simp only [PWeak_nil, PWeak_junk, PWeak_same, Int.cast_ofNat_Int, List.length_append, List.length_cons, List.length_nil, Nat.zero_add])
  · rw [List.drop_eq_nil_of_le (by omega), List.foldl_nil] at hfo
    subst hfo
    simp only [PP, P1, P2, P3, P4, P5, P6, P7, P8, P9, P10, P11, P12, P13, P14, L1, P15, N1, N2, N3, N4, N5, N6, N7, I1, I2, I3, I4, I5, I6, I7, reduceIte, reduceCtorEq, c]
    exact ⟨_, PvWk.refl _, hk⟩
theorem intersects_p {M : Mem} {K : PV → Mem → Prop} {f1 o1 f2 o2 : Bool} {a b : Wd} (ha : a.length < big) (hb : b.length < big) (hk : K (.bool (decide (0 < (cmb (fun x y => x &&& y) a b).length))) M) :
    SemC tab 46 [slW f1 o1 a, slW f2 o2 b] M K := by
  refine SemC_pure T.h46 (by simp only [PP, P1, P2, P3, P4, P5, P6, P7, P8, P9, P10, P11, P12, P13, P14, L1, P15, N1, N2, N3, N4, N5, N6, N7, I1, I2, I3, I4, I5, I6, I7, reduceIte, reduceCtorEq]) ?_
  simp only [af46, PP, P1, P2, P3, P4, P5, P6, P7, P8, P9, P10, P11, P12, P13, P14, L1, P15, N1, N2, N3, N4, N5, N6, N7, I1, I2, I3, I4, I5, I6, I7, reduceIte, reduceCtorEq]
  refine intersect_p T ha hb ?_
  simp only [PP, P1, P2, P3, P4, P5, P6, P7, P8, P9, P10, P11, P12, P13, P14, L1, P15, N1, N2, N3, N4, N5, N6, N7, I1, I2, I3, I4, I5, I6, I7, reduceIte, reduceCtorEq, Int.natCast_pos]
  exact hk
theorem subset_p {M : Mem} {K : PV → Mem → Prop} {f1 o1 f2 o2 : Bool} {a b : Wd} (ha : a.length < big) (hb : b.length < big) (hk : K (.bool (decide ((cmb (fun x y => x &&& ~~~ y) a b).length = 0))) M) :
    SemC tab 47 [slW f1 o1 a, slW f2 o2 b] M K := by
  refine SemC_pure T.h47 (by simp only [PP, P1, P2, P3, P4, P5, P6, P7, P8, P9, P10, P11, P12, P13, P14, L1, P15, N1, N2, N3, N4, N5, N6, N7, I1, I2, I3, I4, I5, I6, I7, reduceIte, reduceCtorEq]) ?_
  simp only [af47, PP, P1, P2, P3, P4, P5, P6, P7, P8, P9, P10, P11, P12, P13, P14, L1, P15, N1, N2, N3, N4, N5, N6, N7, I1, I2, I3, I4, I5, I6, I7, reduceIte, reduceCtorEq]
  refine minus_p T ha hb ?_
  simp only [PP, P1, P2, P3, P4, P5, P6, P7, P8, P9, P10, P11, P12, P13, P14, L1, P15, N1, N2, N3, N4, N5, N6, N7, I1, I2, I3, I4, I5, I6, I7, reduceIte, reduceCtorEq, Int.natCast_eq_zero]
  exact hk
end
end Go.Am.Ar
set_option linter.unusedVariables false
set_option linter.unusedSimpArgs false
set_option maxRecDepth 10000
namespace Go.Am.Ar
open Go.Am renaming pchk → P1, pold → P2, PKNo → P3, ppack → P4, PObj.under → P5, pput → P6, ptset → P7, ptget → P8, pev → P9, ofAV → P10, ofAV1 → P11, ppad → P12, pfill → P13, prepl → P14, AO.effect → P15
open List renaming replicate → L1
open Nat renaming reduceAdd → N1, reduceSub → N2, reduceMul → N3, reduceLT → N4, reduceLeDiff → N5, reduceEqDiff → N6, reduceBEq → N7
open Int renaming reduceToNat → I1, reduceLT → I2, reduceLE → I3, reduceEq → I4, reduceAdd → I5, reduceSub → I6, reduceNeg → I7
def trapAt (ow : List Int) (su : List (List Int)) (side : Int) (keep : List Int) (v : Int) : Prop :=
  (∃ u ∈ su.getD v.toNat [], u ∈ keep) ∧ (ow.getD v.toNat 0 = side → ∀ u ∈ su.getD v.toNat [], u ∈ keep)
instance (ow : List Int) (su : List (List Int)) (side : Int) (keep : List Int) (v : Int) : Decidable (trapAt ow su side keep v) := by unfold trapAt; infer_instance
def trapL (ow : List Int) (su : List (List Int)) (side : Int) (keep : List Int) : List Int → Bool
  | [] => true
  | v :: l => if trapAt ow su side keep v then trapL ow su side keep l else false
theorem trapL_iff {ow : List Int} {su : List (List Int)} {side : Int} {keep : List Int} : ∀ {l : List Int}, trapL ow su side keep l = true ↔ ∀ v ∈ l, trapAt ow su side keep v
  | [] => by simp [trapL]
  | v :: l => by
    unfold trapL
    split
    · rename_i h; rw [trapL_iff]; simp [h]
    · rename_i h; simp [h]
def trapM (ow pr : List Int) (su : List (List Int)) (side : Int) (keep : List Int) : PV :=
  if wrongM ow pr su side keep = 0 then .tuple [.bool (trapL ow su side keep keep), p64 0] else .tuple [.bool false, p64 (wrongM ow pr su side keep)]
theorem trapM_res (ow pr : List Int) (su : List (List Int)) (side : Int) (keep : List Int) : ∃ b e, trapM ow pr su side keep = .tuple [.bool b, p64 e] := by
  unfold trapM
  split
  · exact ⟨_, _, rfl⟩
  · exact ⟨_, _, rfl⟩
theorem natI_of {l : List Int} (h : ∀ x ∈ l, 0 ≤ x) : natI (l.map Int.toNat) = l := by
  induction l with
  | nil => rfl
  | cons x l ih =>
    have := h x (by simp)
    have e := ih fun y hy => h y (by simp [hy])
    show ((x.toNat : Nat) : Int) :: natI (l.map Int.toNat) = x :: l
    rw [e]
    congr 1
    omega
theorem toNat_mem {l : List Int} (h : ∀ x ∈ l, 0 ≤ x) {x : Int} (hx : 0 ≤ x) : x.toNat ∈ l.map Int.toNat ↔ x ∈ l := by
  rw [List.mem_map]
  exact ⟨fun ⟨y, h1, h2⟩ => by have := h y h1; rw [show x = y by omega]; exact h1, fun h => ⟨x, h, rfl⟩⟩
theorem ex_nat {a b : List Int} (ha : ∀ x ∈ a, 0 ≤ x) (hb : ∀ x ∈ b, 0 ≤ x) : (∃ x, x ∈ a.map Int.toNat ∧ x ∈ b.map Int.toNat) ↔ ∃ u ∈ a, u ∈ b := by
  constructor
  · rintro ⟨x, h1, h2⟩
    obtain ⟨y, q1, rfl⟩ := List.mem_map.1 h1
    exact ⟨y, q1, (toNat_mem hb (ha y q1)).1 h2⟩
  · rintro ⟨u, h1, h2⟩
    exact ⟨u.toNat, List.mem_map.2 ⟨u, h1, rfl⟩, List.mem_map.2 ⟨u, h2, rfl⟩⟩
theorem all_nat {a b : List Int} (ha : ∀ x ∈ a, 0 ≤ x) (hb : ∀ x ∈ b, 0 ≤ x) : (∀ x ∈ a.map Int.toNat, x ∈ b.map Int.toNat) ↔ ∀ u ∈ a, u ∈ b := by
  constructor
  · intro h u hu
    exact (toNat_mem hb (ha u hu)).1 (h _ (List.mem_map.2 ⟨u, hu, rfl⟩))
  · intro h x hx
    obtain ⟨y, q1, rfl⟩ := List.mem_map.1 hx
    exact List.mem_map.2 ⟨y, h y q1, rfl⟩
section
variable {tab : FuncId → Option AF} (T : HasA tab)
include T
theorem trap_p {M : Mem} {K : PV → Mem → Prop} {f1 o1 f2 o2 f3 o3 f4 o4 f5 o5 : Bool} {ow pr keep : List Int} {side : Int} {su : List (List Int)} (B : Bnd ow pr su) (hb : keep.length < big) (hq : K (trapM ow pr su side keep) M) :
    SemC tab 25 [gmP f1 o1 f2 o2 f3 o3 f4 o4 ow pr su, p8 side, slI f5 o5 .i64 keep] M K := by
  refine SemC_pure T.h25 (by simp only [PP, P1, P2, P3, P4, P5, P6, P7, P8, P9, P10, P11, P12, P13, P14, L1, P15, N1, N2, N3, N4, N5, N6, N7, I1, I2, I3, I4, I5, I6, I7, reduceIte, reduceCtorEq]) ?_
  simp only [af25, PP, P1, P2, P3, P4, P5, P6, P7, P8, P9, P10, P11, P12, P13, P14, L1, P15, N1, N2, N3, N4, N5, N6, N7, I1, I2, I3, I4, I5, I6, I7, reduceIte, reduceCtorEq, trapM] at hq ⊢
  refine acheck_p T B hb ?_
  simp only [PP, P1, P2, P3, P4, P5, P6, P7, P8, P9, P10, P11, P12, P13, P14, L1, P15, N1, N2, N3, N4, N5, N6, N7, I1, I2, I3, I4, I5, I6, I7, reduceIte, reduceCtorEq]
  refine QIf.intro (fun c1 => ?_) (fun c1 => ?_)
  rotate_left
  · simp only [PP, P1, P2, P3, P4, P5, P6, P7, P8, P9, P10, P11, P12, P13, P14, L1, P15, N1, N2, N3, N4, N5, N6, N7, I1, I2, I3, I4, I5, I6, I7, reduceIte, reduceCtorEq, c1] at hq ⊢
    exact hq
  simp only [PP, P1, P2, P3, P4, P5, P6, P7, P8, P9, P10, P11, P12, P13, P14, L1, P15, N1, N2, N3, N4, N5, N6, N7, I1, I2, I3, I4, I5, I6, I7, reduceIte, reduceCtorEq, c1] at hq ⊢
  obtain ⟨V, hside, hpm⟩ := wrong_zero c1
  have hs := V.s
  have n1 := V.n1
  have kr : ∀ x ∈ keep, 0 ≤ x ∧ x < ow.length := fun x hx => by have := (posM_rise hpm).2 x hx; omega
  have hkn : ∀ x ∈ keep.map Int.toNat, x < 4096 := fun x hx => by
    obtain ⟨y, hy, rfl⟩ := List.mem_map.1 hx
    have := kr y hy; omega
  refine of_p T (natI_of fun x hx => (kr x hx).1) (by rw [List.length_map]; exact hb) hkn ?_
  have hkl := ofL_len hkn
  simp only [PP, P1, P2, P3, P4, P5, P6, P7, P8, P9, P10, P11, P12, P13, P14, L1, P15, N1, N2, N3, N4, N5, N6, N7, I1, I2, I3, I4, I5, I6, I7, reduceIte, reduceCtorEq]
  refine loop1 (fun (k : Nat) => k ≤ keep.length ∧ K (.tuple [.bool (trapL ow su side keep (keep.drop k)), p64 0]) M) (fun k => [.junk, p8 side, .junk, .ptr 0 0 0, .junk, .junk, .junk, .junk, .junk, slW false true (ofL (keep.map Int.toNat)), .junk, .junk, .junk, .junk, .junk, .junk, .junk, .junk, .junk, .junk, .junk, .junk, slI f5 o5 .i64 keep, p64 keep.length, p64 k, .junk, .junk, .junk, .junk, .junk, .junk, .junk, .junk, .junk, .junk, .junk, .junk, .junk, .junk, .junk, .junk, .junk, .junk, .junk, .junk, .junk, .junk, .junk, .junk, .junk, .junk, .junk, .junk, .junk]) (fun _ => [.cells 0 0 [slI f1 o1 .u8 ow, slI f2 o2 .i64 pr, slR f3 o3 f4 o4 .i64 su]]) (fun k => keep.length - k) 0 ⟨by omega, hq⟩ (by simp only [PWeak_nil, PWeak_junk, PWeak_same, Int.cast_ofNat_Int, List.length_append, List.length_cons, List.length_nil, Nat.zero_add]) rfl ?_
  intro k ⟨hle, hq⟩ ih
  refine SemW_go (by kernel_rfl) ?_
  simp only [PP, P1, P2, P3, P4, P5, P6, P7, P8, P9, P10, P11, P12, P13, P14, L1, P15, N1, N2, N3, N4, N5, N6, N7, I1, I2, I3, I4, I5, I6, I7, reduceIte, reduceCtorEq]
  refine QIf.intro (fun c => ?_) (fun c => ?_)
  · have hk : k < keep.length := by omega
    have hkb : keep.length < 1000000000000 := hb
    have hw := wrap_succ (k := k) (by show _ < 1000000000000; omega)
    have k0 : (0 : Int) ≤ k := by omega
    obtain ⟨v, g1⟩ := some_of hk
    obtain ⟨v0, v1⟩ := kr v (List.mem_of_getElem? g1)
    obtain ⟨row, g2⟩ := some_of (xs := su) (k := v.toNat) (by omega)
    obtain ⟨o, g3⟩ := some_of (xs := ow) (k := v.toNat) (by omega)
    have e2 : su.getD v.toNat [] = row := by simp [List.getD, g2]
    have e3 : ow.getD v.toNat 0 = o := by simp [List.getD, g3]
    have vs : v < su.length := by omega
    have rr : ∀ x ∈ row, 0 ≤ x ∧ x < ow.length := fun x hx => su_range V (v := v.toNat) (by omega) (by rw [e2]; exact hx)
    have hrn : ∀ x ∈ row.map Int.toNat, x < 4096 := fun x hx => by
      obtain ⟨y, hy, rfl⟩ := List.mem_map.1 hx
      have := rr y hy; omega
    have hrl := ofL_len hrn
    rw [drop_some g1, trapL] at hq
    have hta : trapAt ow su side keep v ↔ (∃ u ∈ row, u ∈ keep) ∧ (o = side → ∀ u ∈ row, u ∈ keep) := by unfold trapAt; rw [e2, e3]
    simp only [PP, P1, P2, P3, P4, P5, P6, P7, P8, P9, P10, P11, P12, P13, P14, L1, P15, N1, N2, N3, N4, N5, N6, N7, I1, I2, I3, I4, I5, I6, I7, reduceIte, reduceCtorEq, c, g1, k0, g2, v0, vs]
    refine of_p T (natI_of fun x hx => (rr x hx).1) (by rw [List.length_map]; exact B.r _ (List.mem_of_getElem? g2)) hrn ?_
    simp only [PP, P1, P2, P3, P4, P5, P6, P7, P8, P9, P10, P11, P12, P13, P14, L1, P15, N1, N2, N3, N4, N5, N6, N7, I1, I2, I3, I4, I5, I6, I7, reduceIte, reduceCtorEq]
    refine intersects_p T (by show _ < 1000000000000; omega) (by show _ < 1000000000000; omega) ?_
    have i1 := (inter_iff hrn hkn).trans (ex_nat (fun x hx => (rr x hx).1) (fun x hx => (kr x hx).1))
    have i2 := (subset_iff hrn hkn).trans (all_nat (fun x hx => (rr x hx).1) (fun x hx => (kr x hx).1))
    simp only [i1] 
    by_cases h1 : ∃ u ∈ row, u ∈ keep
    · by_cases h2 : o = side
      · simp only [PP, P1, P2, P3, P4, P5, P6, P7, P8, P9, P10, P11, P12, P13, P14, L1, P15, N1, N2, N3, N4, N5, N6, N7, I1, I2, I3, I4, I5, I6, I7, reduceIte, reduceCtorEq, h1, h2, g3, v0, v1]
        refine subset_p T (by show _ < 1000000000000; omega) (by show _ < 1000000000000; omega) ?_
        simp only [i2]
        by_cases h3 : ∀ u ∈ row, u ∈ keep
        · rw [if_pos (hta.2 ⟨h1, fun _ => h3⟩)] at hq
          simp only [PP, P1, P2, P3, P4, P5, P6, P7, P8, P9, P10, P11, P12, P13, P14, L1, P15, N1, N2, N3, N4, N5, N6, N7, I1, I2, I3, I4, I5, I6, I7, reduceIte, reduceCtorEq, eq_true h3, hw]
          exact SemW_weak (ih (k + 1) ⟨by omega, hq⟩ (by omega)) (by simp only [PWeak_nil, PWeak_junk, PWeak_same, Int.cast_ofNat_Int, List.length_append, List.length_cons, List.length_nil, Nat.zero_add])
        · rw [if_neg (fun h => h3 ((hta.1 h).2 h2))] at hq
          simp only [PP, P1, P2, P3, P4, P5, P6, P7, P8, P9, P10, P11, P12, P13, P14, L1, P15, N1, N2, N3, N4, N5, N6, N7, I1, I2, I3, I4, I5, I6, I7, reduceIte, reduceCtorEq, eq_false h3]
          exact hq
      · rw [if_pos (hta.2 ⟨h1, fun h => absurd h h2⟩)] at hq
        simp only [PP, P1, P2, P3, P4, P5, P6, P7, P8, P9, P10, P11, P12, P13, P14, L1, P15, N1, N2, N3, N4, N5, N6, N7, I1, I2, I3, I4, I5, I6, I7, reduceIte, reduceCtorEq, h1, h2, g3, v0, v1, hw]
        exact SemW_weak (ih (k + 1) ⟨by omega, hq⟩ (by omega)) (by simp only [PWeak_nil, PWeak_junk, PWeak_same, Int.cast_ofNat_Int, List.length_append, List.length_cons, List.length_nil, Nat.zero_add])
    · rw [if_neg (fun h => h1 (hta.1 h).1)] at hq
      simp only [PP, P1, P2, P3, P4, P5, P6, P7, P8, P9, P10, P11, P12, P13, P14, L1, P15, N1, N2, N3, N4, N5, N6, N7, I1, I2, I3, I4, I5, I6, I7, reduceIte, reduceCtorEq, h1]
      exact hq
  · rw [List.drop_eq_nil_of_le (by omega)] at hq
    simp only [PP, P1, P2, P3, P4, P5, P6, P7, P8, P9, P10, P11, P12, P13, P14, L1, P15, N1, N2, N3, N4, N5, N6, N7, I1, I2, I3, I4, I5, I6, I7, reduceIte, reduceCtorEq, c]
    exact hq
end
end Go.Am.Ar
set_option linter.unusedVariables false
set_option linter.unusedSimpArgs false
set_option maxRecDepth 10000
namespace Go.Am.Ar
def rkOf (ow : List Int) (su : List (List Int)) (side : Int) (keep : List Int) (v : Nat) : Int := rk (Pf ow side) (Sf su) (Zf keep) ow.length v
def firstS (R : Nat → Int) (k : Int) : List Int → Int
  | [] => -1
  | u :: l => if R u.toNat = k then u else firstS R k l
def stratOf (ow : List Int) (su : List (List Int)) (side : Int) (R : Nat → Int) (v : Nat) : Int := if 0 < R v ∧ ow.getD v 0 = side then firstS R (R v - 1) (su.getD v []) else -1
def tabL (n : Nat) (R : Nat → Int) : List Int := (List.range n).map R
def attrM (ow pr : List Int) (su : List (List Int)) (side : Int) (keep : List Int) : PV :=
  if wrongM ow pr su side keep = 0 then .tuple [slI false true .i64 (tabL ow.length (rkOf ow su side keep)), slI false true .i64 (tabL ow.length (stratOf ow su side (rkOf ow su side keep))), p64 0]
  else .tuple [slI false true .i64 [], slI false true .i64 [], p64 (wrongM ow pr su side keep)]
theorem tabL_len (n : Nat) (R : Nat → Int) : (tabL n R).length = n := by simp [tabL]
theorem tabL_get {n : Nat} {R : Nat → Int} {v : Nat} (h : v < n) : (tabL n R)[v]? = some (R v) := by simp [tabL, h]
theorem tabL_of {n : Nat} {R : Nat → Int} {a : List Int} (hl : a.length = n) (h : ∀ v, v < n → a[v]? = some (R v)) : a = tabL n R := by
  apply List.ext_getElem?
  intro v
  rcases Nat.lt_or_ge v n with q | q
  · rw [h v q, tabL_get q]
  · rw [List.getElem?_eq_none (by omega), List.getElem?_eq_none (by rw [tabL_len]; omega)]
theorem attrM_res (ow pr : List Int) (su : List (List Int)) (side : Int) (keep : List Int) : ∃ a b e, attrM ow pr su side keep = .tuple [slI false true .i64 a, slI false true .i64 b, p64 e] ∧ a.length ≤ ow.length ∧ b.length ≤ ow.length := by
  unfold attrM
  split
  · exact ⟨_, _, _, rfl, by rw [tabL_len]; omega, by rw [tabL_len]; omega⟩
  · exact ⟨[], [], _, rfl, by simp, by simp⟩
theorem firstS_some {R : Nat → Int} {r : Int} : ∀ {row : List Int}, (∀ u ∈ row, 0 ≤ u) → (∃ u ∈ row, R u.toNat = r) → 0 ≤ firstS R r row
  | [], _, ⟨u, h, _⟩ => by cases h
  | x :: l, hn, ⟨u, h1, h2⟩ => by
    unfold firstS
    split
    · exact hn x (by simp)
    · rename_i q
      rcases List.mem_cons.1 h1 with rfl | h1
      · exact absurd h2 q
      · exact firstS_some (fun u hu => hn u (by simp [hu])) ⟨u, h1, h2⟩
theorem psub_tab {n : Nat} {R : Nat → Int} {f : Int → PV} : psub ((tabL n R).map f) 0 n = (tabL n R).map f := psub_all _ _ (by rw [List.length_map, tabL_len])
theorem frz_tab {n v : Nat} {R : Nat → Int} : frzO (some (.cells 0 v ((tabL n R).map (PV.int .i64)))) 0 1 0 n = some (slI false true .i64 (tabL n R)) := by
  rw [frzO_cells (by rw [List.length_map, tabL_len]; omega) (underL_ints _ _ _), Nat.mul_one, psub_tab]
  unfold slI; rw [tabL_len]
theorem set_low {a : List Int} {k v : Nat} {x : Int} (h : v ≠ k) : (a.set k x)[v]? = a[v]? := by
  rw [List.getElem?_set_ne (by omega)]
theorem set_at {a : List Int} {k : Nat} {x : Int} (h : k < a.length) : (a.set k x)[k]? = some x := by
  simp [h]
theorem map_tab {n : Nat} {R : Nat → Int} {row : List Int} (h : ∀ u ∈ row, 0 ≤ u ∧ u < n) : (row.map fun u => (tabL n R).getD u.toNat 0) = (row.map Int.toNat).map R := by
  rw [List.map_map]
  refine List.map_congr_left fun u hu => ?_
  obtain ⟨h1, h2⟩ := h u hu
  simp only [Function.comp]
  rw [getD_some (tabL_get (by omega))]
end Go.Am.Ar
set_option linter.unusedVariables false
namespace Go.Am.Ar
theorem movM_of {su : List (List Int)} : ∀ {l : List Int} {k : Nat}, (∀ (i : Nat) (u : Int), l[i]? = some u → u ∈ su.getD (k + i) []) → movM su k l = true
  | [], k, h => rfl
  | x :: l, k, h => by
    unfold movM
    rw [if_pos (by simpa using h 0 x rfl)]
    exact movM_of fun i u q => by rw [show k + 1 + i = k + (i + 1) by omega]; exact h (i + 1) u (by simpa using q)
theorem playE_full {ow pr : List Int} {su : List (List Int)} {q : Nat} {F : Nat → Int} (c : checkM ow pr su = 0) (hqn : q < ow.length) (hF : ∀ v, v < ow.length → F v ∈ su.getD v []) : playE ow pr su (tabL ow.length F) q = 0 := by
  unfold playE
  rw [if_pos c, if_neg (by omega), if_neg (by omega), if_pos (by rw [tabL_len]), if_pos (movM_of fun i u h => ?_)]
  have hi := getSome_lt h
  rw [tabL_len] at hi
  rw [tabL_get hi] at h
  cases h
  rw [Nat.zero_add]
  exact hF i hi
theorem full_play {ow pr : List Int} {su : List (List Int)} (V : Valid ow pr su) {q : Nat} (hqn : q < ow.length) (F : Nat → Int) (hF : ∀ v, v < ow.length → F v ∈ su.getD v []) :
    (∀ v, v < ow.length → F v = ((F v).toNat : Int)) ∧ (∀ v, v < ow.length → (F v).toNat < ow.length) ∧ ∃ m k, IsPlay (fun v => (F v).toNat) q ow.length (playL (tabL ow.length F) (ow.length + 1) q []).1 (playL (tabL ow.length F) (ow.length + 1) q []).2 m k := by
  have h1 : ∀ v, v < ow.length → F v = ((F v).toNat : Int) := fun v hv => by have := su_range V hv (hF v hv); omega
  have h2 : ∀ v, v < ow.length → (F v).toNat < ow.length := fun v hv => by have := su_range V hv (hF v hv); omega
  exact ⟨h1, h2, play_spec (fun v hv => by rw [tabL_get hv, ← h1 v hv]) h2 hqn⟩
end Go.Am.Ar
set_option linter.unusedVariables false
namespace Go.Am.Ar
def mxP (pr : List Int) : Int → List Int → Int
  | m, [] => m
  | m, v :: l => mxP pr (max m (pr.getD v.toNat 0)) l
theorem winL_of {n : Int} {pr : List Int} : ∀ {l : List Int} {m : Int}, (∀ v ∈ l, 0 ≤ v ∧ v < n) → winL n pr m l = .tuple [p8 (IntKind.u8.wrap ((mxP pr m l).tmod 2)), p64 0]
  | [], m, _ => rfl
  | v :: l, m, h => by
    have := h v (by simp)
    unfold winL mxP
    rw [if_neg (by omega), if_neg (by omega)]
    exact winL_of fun x hx => h x (by simp [hx])
theorem mxP_ge {pr : List Int} : ∀ {l : List Int} {m : Int}, m ≤ mxP pr m l
  | [], m => Int.le_refl _
  | v :: l, m => by
    unfold mxP
    have := mxP_ge (pr := pr) (l := l) (m := max m (pr.getD v.toNat 0))
    omega
theorem mxP_dual {pr pr' : List Int} {n : Nat} (h : ∀ v, v < n → 0 ≤ pr.getD v 0 ∧ pr'.getD v 0 = pr.getD v 0 + 1) : ∀ {l : List Int} {m : Int}, (∀ v ∈ l, 0 ≤ v ∧ v < n) → mxP pr' (m + 1) l = mxP pr m l + 1
  | [], m, _ => rfl
  | v :: l, m, hl => by
    have h1 := hl v (by simp)
    have h2 := h v.toNat (by omega)
    unfold mxP
    rw [h2.2, show max (m + 1) (pr.getD v.toNat 0 + 1) = max m (pr.getD v.toNat 0) + 1 by omega]
    exact mxP_dual h fun x hx => hl x (by simp [hx])
theorem mxP_dual0 {pr pr' : List Int} {n : Nat} (h : ∀ v, v < n → 0 ≤ pr.getD v 0 ∧ pr'.getD v 0 = pr.getD v 0 + 1) {l : List Int} (hl : ∀ v ∈ l, 0 ≤ v ∧ v < n) (hne : l ≠ []) : mxP pr' 0 l = mxP pr 0 l + 1 := by
  cases l with
  | nil => exact absurd rfl hne
  | cons v l =>
    have h1 := hl v (by simp)
    have h2 := h v.toNat (by omega)
    unfold mxP
    rw [h2.2, show max (0 : Int) (pr.getD v.toNat 0 + 1) = max 0 (pr.getD v.toNat 0) + 1 by omega]
    exact mxP_dual h fun x hx => hl x (by simp [hx])
theorem par_u8 {m : Int} (h : 0 ≤ m) : IntKind.u8.wrap (m.tmod 2) = m % 2 := by
  rw [Int.tmod_eq_emod_of_nonneg h]
  simp only [IntKind.wrap, IntKind.signed, IntKind.bits]
  simp
  omega
theorem par_sum {m : Int} (h : 0 ≤ m) : IntKind.u8.wrap (m % 2 + (m + 1) % 2) = 1 := by
  have : m % 2 + (m + 1) % 2 = 1 := by omega
  rw [this]; rfl
theorem mxP_le {pr : List Int} {M : Int} : ∀ {l : List Int} {m : Int}, m ≤ M → (∀ x ∈ l, pr.getD x.toNat 0 ≤ M) → mxP pr m l ≤ M
  | [], m, h, _ => h
  | v :: l, m, h, hl => by
    unfold mxP
    have := hl v (by simp)
    exact mxP_le (by omega) fun x hx => hl x (by simp [hx])
theorem mxP_mem {pr : List Int} : ∀ {l : List Int} {m x : Int}, x ∈ l → pr.getD x.toNat 0 ≤ mxP pr m l
  | v :: l, m, x, h => by
    unfold mxP
    rcases List.mem_cons.1 h with rfl | h
    · have := mxP_ge (pr := pr) (l := l) (m := max m (pr.getD x.toNat 0)); omega
    · exact mxP_mem h
theorem mxP_is {pr : List Int} {M : Int} {l : List Int} {x : Int} (h : ∀ y ∈ l, pr.getD y.toNat 0 ≤ M) (hx : x ∈ l) (e : pr.getD x.toNat 0 = M) (h0 : 0 ≤ M) : mxP pr 0 l = M := by
  have h1 := mxP_le (pr := pr) (m := 0) h0 h
  have h2 := mxP_mem (pr := pr) (m := 0) hx
  omega
end Go.Am.Ar
set_option linter.unusedVariables false
namespace Go.Am.Ar
section
variable {ow pr ws ss : List Int} {su : List (List Int)} {p : Int} (V : Valid ow pr su) (L : SolL ow pr su ws ss) (hp : p = 0 ∨ p = 1)
include V L hp
theorem region_trap : trapL ow su (1 - p) (natI (wL ws p ow.length)) (natI (wL ws p ow.length)) = true := by
  rw [trapL_iff]
  intro x hx
  obtain ⟨v, hv, rfl⟩ := List.mem_map.1 hx
  have hvn := (wL_mem.1 hv).1
  have key : ∀ u ∈ su.getD v [], u.toNat ∈ wL ws p ow.length → u ∈ natI (wL ws p ow.length) := fun u hu h => by
    have := su_range V hvn hu
    have h := mem_natI.2 h
    rwa [Int.toNat_of_nonneg this.1] at h
  refine ⟨?_, fun ho u hu => ?_⟩
  · obtain ⟨u, hu, h⟩ := some_in V L hp hv
    obtain ⟨y, hy, rfl⟩ := List.mem_map.1 hu
    exact ⟨y, hy, key y hy h⟩
  · refine key u hu (opp_in V L hp hv (fun e => ?_) _ (List.mem_map.2 ⟨u, hu, rfl⟩))
    have ho : ow.getD v 0 = 1 - p := ho
    have e : ow.getD v 0 = p := e
    omega
theorem region_attr (ho : ∀ x ∈ ow, 0 ≤ x) : ∀ v, v < ow.length → (0 ≤ rkOf ow su p (natI (wL ws p ow.length)) v ↔ ws.getD v 0 = p) := by
  have hrk : IsRank ow.length (fun v => Pf ow p v = true) (Sf su) (fun v => Zf (natI (wL ws p ow.length)) v = true) (rkOf ow su p (natI (wL ws p ow.length))) := rk_isRank (valid_S V)
  generalize rkOf ow su p (natI (wL ws p ow.length)) = R at hrk
  have key : ∀ (k v : Nat), v < ow.length → R v = k → ws.getD v 0 = p := by
    intro k
    induction k using Nat.strongRecOn with
    | ind k ih =>
      intro v hv hk
      rcases Nat.eq_zero_or_pos k with e | e
      · have := (hrk.z v hv).1 (by omega)
        exact (wL_mem.1 (mem_natI.1 (of_decide_eq_true this))).2
      · refine Classical.byContradiction fun hn => ?_
        have hq : v ∈ wL ws (1 - p) ow.length := wL_mem.2 ⟨hv, by have : ws.getD v 0 = 0 ∨ ws.getD v 0 = 1 := L.sol.r01 v hv; omega⟩
        by_cases hop : zO ow v = p
        · obtain ⟨u, hu, h1⟩ := hrk.p v hv (decide_eq_true hop) (by omega)
          have hun := (valid_S V v hv).2 u hu
          have h2 := ih (k - 1) (by omega) u hun (by omega)
          have h3 := (wL_mem.1 (opp_in V L (p := 1 - p) (by omega) hq (by omega) u hu)).2
          omega
        · obtain ⟨q1, q2⟩ := own_in L (p := 1 - p) (by omega) hq (by have := valid_O V ho v hv; omega)
          have hun := (valid_S V v hv).2 _ q1
          obtain ⟨h1, h2⟩ := hrk.o v hv (fun e => hop (of_decide_eq_true e)) (by omega) _ q1
          have h3 := ih (R (stN ss v)).toNat (by omega) _ hun (by omega)
          have h4 := (wL_mem.1 q2).2
          omega
  intro v hv
  constructor
  · intro h; exact key (R v).toNat v hv (by omega)
  · intro h
    have := (hrk.z v hv).2 (decide_eq_true (mem_natI.2 (wL_mem.2 ⟨hv, h⟩)))
    omega
end
theorem wL_sum {ow pr ws ss : List Int} {su : List (List Int)} (L : SolL ow pr su ws ss) : (wL ws 0 ow.length).length + (wL ws 1 ow.length).length = ow.length := by
  have key : ∀ k, k ≤ ow.length → (wL ws 0 k).length + (wL ws 1 k).length = k := by
    intro k
    induction k with
    | zero => intro _; rfl
    | succ k ih =>
      intro hk
      have h : ws.getD k 0 = 0 ∨ ws.getD k 0 = 1 := L.sol.r01 k (by omega)
      have := ih (by omega)
      rw [wL_succ, wL_succ]
      rcases h with h | h
      · rw [h]; simp; omega
      · rw [h]; simp; omega
  exact key _ (Nat.le_refl _)
def detF (ow ws ss : List Int) (su : List (List Int)) (mvs : List Int) (p : Int) (v : Nat) : Int :=
  if ow.getD v 0 = p ∧ ws.getD v 0 = p then ss.getD v 0 else (su.getD v []).getD ((mvs.getD v 0).tmod ((su.getD v []).length : Int)).toNat 0
section
variable {ow pr ws ss mvs : List Int} {su : List (List Int)} {p : Int} (V : Valid ow pr su) (L : SolL ow pr su ws ss) (hp : p = 0 ∨ p = 1) (hm : ∀ x ∈ mvs, 0 ≤ x)
include V L hp hm
theorem detF_mem {v : Nat} (hv : v < ow.length) : detF ow ws ss su mvs p v ∈ su.getD v [] := by
  unfold detF
  split
  · rename_i h
    have h0 := L.own v hv (by rw [h.1, h.2])
    obtain ⟨q1, _⟩ := (L.sol.of hp).own v ⟨hv, h.2⟩ h.1
    obtain ⟨y, hy, e⟩ := List.mem_map.1 q1
    have hy0 := su_range V hv hy
    have e : y.toNat = (ss.getD v 0).toNat := e
    rw [show ss.getD v 0 = y by omega]; exact hy
  · have hvs : v < su.length := by have := V.s; omega
    obtain ⟨_, _, _, hl, _⟩ := V.row v hvs
    have hm0 : 0 ≤ mvs.getD v 0 := by
      rw [List.getD]
      cases h : mvs[v]? with
      | none => simp
      | some x => exact hm x (List.mem_of_getElem? h)
    rw [List.getD, List.getElem?_eq_getElem hvs, Option.getD_some]
    have h1 := Int.tmod_nonneg (a := mvs.getD v 0) (su[v].length : Int) hm0
    have h2 := Int.tmod_lt_of_pos (mvs.getD v 0) (b := (su[v].length : Int)) (by omega)
    have h3 : ((mvs.getD v 0).tmod (su[v].length : Int)).toNat < su[v].length := by omega
    rw [List.getD, List.getElem?_eq_getElem h3]
    exact List.getElem_mem h3
theorem det_wins {q : Nat} (hqn : q < ow.length) (hw : ws.getD q 0 = p) {P Lp : List Int} {m k : Nat} (hpl : IsPlay (fun v => (detF ow ws ss su mvs p v).toNat) q ow.length P Lp m k) : mxP pr 0 Lp % 2 = p ∧ (∀ x ∈ Lp, 0 ≤ x ∧ x < ow.length) ∧ Lp ≠ [] := by
  have hF := fun v hv => detF_mem V L hp hm (v := v) hv
  have hf : ∀ u, u < ow.length → (detF ow ws ss su mvs p u).toNat ∈ Sf su u ∧ (detF ow ws ss su mvs p u).toNat < ow.length := fun u hu => by
    have := su_range V hu (hF u hu)
    exact ⟨List.mem_map.2 ⟨_, hF u hu, rfl⟩, by omega⟩
  obtain ⟨inv, j, j1, j2⟩ := (L.sol.of hp).loop ⟨hqn, hw⟩ hf (fun u hu ho => by
    show (detF ow ws ss su mvs p u).toNat = (ss.getD u 0).toNat
    unfold detF
    rw [if_pos ⟨ho, hu.2⟩]) hpl.km hpl.back
  have hlt : ∀ i, itr (fun v => (detF ow ws ss su mvs p v).toNat) q i < ow.length := fun i => (inv i).1
  have hkm := hpl.km
  have hper := itr_per (by omega) hpl.back
  have hLp := hpl.l
  have mem : ∀ x ∈ Lp, ∃ i, x = ((itr (fun v => (detF ow ws ss su mvs p v).toNat) q (k + i) : Nat) : Int) := fun x hx => by
    rw [hLp] at hx
    obtain ⟨y, hy, rfl⟩ := List.mem_map.1 hx
    obtain ⟨i, hi⟩ := List.getElem?_of_mem hy
    rw [List.getElem?_drop] at hi
    have := getSome_lt hi
    rw [its_len] at this
    rw [its_get this] at hi
    cases hi
    exact ⟨i, rfl⟩
  have hin : ∀ i, i < m - k → ((itr (fun v => (detF ow ws ss su mvs p v).toNat) q (k + i) : Nat) : Int) ∈ Lp := fun i hi => by
    rw [hLp]
    refine List.mem_map.2 ⟨_, List.mem_of_getElem? (i := i) ?_, rfl⟩
    rw [List.getElem?_drop, its_get (by omega)]
  have hj : ((itr (fun v => (detF ow ws ss su mvs p v).toNat) q (k + j) : Nat) : Int) ∈ Lp := by
    have h1 := per_mul (c := fun i => itr (fun v => (detF ow ws ss su mvs p v).toNat) q (k + i)) hper (j % (m - k)) (j / (m - k))
    have h2 : j % (m - k) + j / (m - k) * (m - k) = j := by rw [Nat.mul_comm]; exact Nat.mod_add_div j (m - k)
    rw [h2] at h1
    have h1 : itr (fun v => (detF ow ws ss su mvs p v).toNat) q (k + j) = itr (fun v => (detF ow ws ss su mvs p v).toNat) q (k + j % (m - k)) := h1
    rw [h1]
    exact hin _ (Nat.mod_lt _ (by omega))
  have hpri : ∀ v, v < ow.length → 0 ≤ pr.getD v 0 := fun v hv => (V.row v (by rw [V.s]; exact hv)).1
  have hmx : mxP pr 0 Lp = zP pr (itr (fun v => (detF ow ws ss su mvs p v).toNat) q (k + j)) := by
    refine mxP_is (fun x hx => ?_) hj (by rw [Int.toNat_natCast]) (hpri _ (hlt _))
    obtain ⟨i, rfl⟩ := mem x hx
    rw [Int.toNat_natCast]
    exact j1 i
  exact ⟨by rw [hmx]; exact j2, fun x hx => by obtain ⟨i, rfl⟩ := mem x hx; have := hlt (k + i); omega, fun e => by rw [e] at hj; cases hj⟩
end
end Go.Am.Ar
set_option linter.unusedVariables false
set_option linter.unusedSimpArgs false
set_option maxRecDepth 10000
namespace Go.Am.Ar
open Go.Am renaming pchk → P1, pold → P2, PKNo → P3, ppack → P4, PObj.under → P5, pput → P6, ptset → P7, ptget → P8, pev → P9, ofAV → P10, ofAV1 → P11, ppad → P12, pfill → P13, prepl → P14, AO.effect → P15
open List renaming replicate → L1
open Nat renaming reduceAdd → N1, reduceSub → N2, reduceMul → N3, reduceLT → N4, reduceLeDiff → N5, reduceEqDiff → N6, reduceBEq → N7
open Int renaming reduceToNat → I1, reduceLT → I2, reduceLE → I3, reduceEq → I4, reduceAdd → I5, reduceSub → I6, reduceNeg → I7
def predN (su : List (List Int)) (k u : Nat) : List Nat := (List.range k).filter fun v => decide ((u : Int) ∈ su.getD v [])
def predI (su : List (List Int)) (k u : Nat) : List Int := (predN su k u).map fun v => ((v : Nat) : Int)
theorem predI_len (su : List (List Int)) (k u : Nat) : (predI su k u).length ≤ k := by
  unfold predI predN
  rw [List.length_map]
  exact Nat.le_trans (List.length_filter_le _ _) (by simp)
theorem predI_succ (su : List (List Int)) (k u : Nat) : predI su (k + 1) u = predI su k u ++ if (u : Int) ∈ su.getD k [] then [(k : Int)] else [] := by
  unfold predI predN
  rw [List.range_succ, List.filter_append, List.map_append]
  congr 1
  by_cases h : (u : Int) ∈ su.getD k []
  · rw [List.filter_cons, if_pos (by simpa using h), if_pos h]; rfl
  · rw [List.filter_cons, if_neg (by simpa using h), if_neg h]; rfl
section
variable {tab : FuncId → Option AF} (T : HasA tab)
include T
theorem predecessors_p {K : PV → Mem → Prop} {o0 o1 o2 o3 o4 o5 o6 o7 o8 : PObj} {f1 p1 f2 p2 f3 p3 f4 p4 : Bool} {ow pr : List Int} {su : List (List Int)} (V : Valid ow pr su) (B : Bnd ow pr su)
    (hu : [o0, o1, o2, o3, o4, o5, o6, o7, o8].all (cutOk 12) = true)
    (hk : ∀ ver, K (.func (.func 66) [] [.ptr 11 0 0]) [o0, o1, o2, o3, o4, o5, o6, o7, o8, .cells 0 0 [slI f1 p1 .u8 ow, slI f2 p2 .i64 pr, slR f3 p3 f4 p4 .i64 su], .cells 0 ver (tabA ow.length fun u => slI false true .i64 (predI su ow.length u)), .cells 0 1 [.ref 10 0 1 0 ow.length]]) :
    SemC tab 49 [gmP f1 p1 f2 p2 f3 p3 f4 p4 ow pr su] [o0, o1, o2, o3, o4, o5, o6, o7, o8] K := by
  refine SemC_gh ?_
  refine SemC_fn T.h49 ?_
  have hs := V.s
  have n1 := V.n1
  have b1 : (ow.length : Int) * 24 ≤ 140737488355328 := by omega
  have b2 : (ow.length : Int) ≤ 9223372036854775807 := by omega
  have b0 : (0 : Int) ≤ ow.length := by omega
  simp only [af49, PP, P1, P2, P3, P4, P5, P6, P7, P8, P9, P10, P11, P12, P13, P14, L1, P15, N1, N2, N3, N4, N5, N6, N7, I1, I2, I3, I4, I5, I6, I7, reduceIte, reduceCtorEq, b0, b1, b2, Int.le_refl]
  rw [tabA_rep]
  refine SemW_re (GStep.nilbox_all 10 1 ow.length rfl) ?_
  simp only [List.set_cons_zero, List.set_cons_succ, List.cons_append, List.nil_append, List.length_cons, List.length_nil, Nat.reduceAdd]
  refine loop4 (fun (v ver : Nat) (gs : Nat → Nat) (rs : Nat → List Int) => v ≤ su.length ∧ ∀ u, u < ow.length → rs u = predI su v u)
    (fun v ver gs rs => [.junk, .junk, .junk, .ptr 11 0 0, .junk, .junk, .junk, .junk, .junk, .junk, .junk, .junk, .junk, slR f3 p3 f4 p4 .i64 su, p64 su.length, p64 v, .junk, .junk, .junk, .junk, .junk, .junk, .junk, .junk, .junk, .junk, .junk, .junk, .junk, .junk, .junk, .junk, .junk, .junk, .junk, .junk, .junk, .junk, .junk])
    (fun v ver gs rs => o0 :: o1 :: o2 :: o3 :: o4 :: o5 :: o6 :: o7 :: o8 :: .cells 0 0 [slI f1 p1 .u8 ow, slI f2 p2 .i64 pr, slR f3 p3 f4 p4 .i64 su] :: .cells 0 ver (tabA ow.length fun u => .ref (u + 12) (gs u) 1 0 (rs u).length) :: .cells 0 1 [.ref 10 0 1 0 ow.length] :: tabA ow.length fun u => .cells (gs u) 0 ((rs u).map (PV.int .i64)))
    (fun v _ _ _ => su.length - v) 0 0 (fun _ => 0) (fun _ => []) ⟨by omega, fun u _ => rfl⟩ (by simp only [PWeak_nil, PWeak_junk, PWeak_same, Int.cast_ofNat_Int, List.length_append, List.length_cons, List.length_nil, Nat.zero_add]) rfl ?_
  intro v ver gs rs ⟨hle, hrs⟩ ih
  refine SemW_go (by kernel_rfl) ?_
  simp only [PP, P1, P2, P3, P4, P5, P6, P7, P8, P9, P10, P11, P12, P13, P14, L1, P15, N1, N2, N3, N4, N5, N6, N7, I1, I2, I3, I4, I5, I6, I7, reduceIte, reduceCtorEq]
  refine QIf.intro (fun c => ?_) (fun c => ?_)
  · have hv : v < su.length := by omega
    have v0 : (0 : Int) ≤ v := by omega
    have hwv := wrap_succ (k := v) (by show _ < 1000000000000; omega)
    obtain ⟨row, g1⟩ := some_of hv
    have e1 : su.getD v [] = row := by simp [List.getD, g1]
    have hrow : row.Pairwise (· < ·) ∧ ∀ u ∈ row, 0 ≤ u ∧ u < ow.length := by
      obtain ⟨_, _, _, _, q⟩ := V.row v hv
      rw [List.getElem?_eq_getElem hv] at g1
      cases g1
      obtain ⟨q1, q2⟩ := posM_rise q
      exact ⟨q1, fun u hu => by have := q2 u hu; omega⟩
    simp only [PP, P1, P2, P3, P4, P5, P6, P7, P8, P9, P10, P11, P12, P13, P14, L1, P15, N1, N2, N3, N4, N5, N6, N7, I1, I2, I3, I4, I5, I6, I7, reduceIte, reduceCtorEq, c, v0, g1]
    refine loop4 (fun (j ver : Nat) (gs : Nat → Nat) (rs : Nat → List Int) => j ≤ row.length ∧ ∀ u, u < ow.length → rs u = predI su v u ++ if (u : Int) ∈ row.take j then [(v : Int)] else [])
      (fun j ver gs rs => [.junk, .junk, .junk, .ptr 11 0 0, p64 v, .junk, .junk, .junk, .junk, .junk, .junk, .junk, .junk, slR f3 p3 f4 p4 .i64 su, p64 su.length, p64 v, .junk, .junk, .junk, .junk, slI f4 p4 .i64 row, p64 row.length, p64 j, .junk, .junk, .junk, .junk, .junk, .junk, .junk, .junk, .junk, .junk, .junk, .junk, .junk, .junk, .junk, .junk])
      (fun j ver gs rs => o0 :: o1 :: o2 :: o3 :: o4 :: o5 :: o6 :: o7 :: o8 :: .cells 0 0 [slI f1 p1 .u8 ow, slI f2 p2 .i64 pr, slR f3 p3 f4 p4 .i64 su] :: .cells 0 ver (tabA ow.length fun u => .ref (u + 12) (gs u) 1 0 (rs u).length) :: .cells 0 1 [.ref 10 0 1 0 ow.length] :: tabA ow.length fun u => .cells (gs u) 0 ((rs u).map (PV.int .i64)))
      (fun j _ _ _ => row.length - j) 0 ver gs rs ⟨by omega, fun u hu => by rw [hrs u hu]; simp⟩ (by simp only [PWeak_nil, PWeak_junk, PWeak_same, Int.cast_ofNat_Int, List.length_append, List.length_cons, List.length_nil, Nat.zero_add]) rfl ?_
    intro j ver gs rs ⟨hjle, hrs⟩ ih2
    refine SemW_go (by kernel_rfl) ?_
    simp only [PP, P1, P2, P3, P4, P5, P6, P7, P8, P9, P10, P11, P12, P13, P14, L1, P15, N1, N2, N3, N4, N5, N6, N7, I1, I2, I3, I4, I5, I6, I7, reduceIte, reduceCtorEq]
    refine QIf.intro (fun d => ?_) (fun d => ?_)
    · have hj : j < row.length := by omega
      have j0 : (0 : Int) ≤ j := by omega
      have hrl : row.length < 1000000000000 := B.r row (List.mem_of_getElem? g1)
      have hwj := wrap_succ (k := j) (by show _ < 1000000000000; omega)
      obtain ⟨u, e3⟩ := some_of hj
      obtain ⟨u0, u1⟩ := hrow.2 u (List.mem_of_getElem? e3)
      have hun : u.toNat < ow.length := by omega
      have g4 := tabA_get (f := fun u => PV.ref (u + 12) (gs u) 1 0 (rs u).length) hun
      have g5 := tabA_get (f := fun u => PObj.cells (gs u) 0 ((rs u).map (PV.int .i64))) hun
      have hlen : (rs u.toNat).length ≤ 5000 := by
        rw [hrs _ hun]
        have := predI_len su v u.toNat
        rw [List.length_append]
        split <;> simp <;> omega
      have b3 : ((rs u.toNat).length + 1) * 8 ≤ 140737488355328 := by omega
      have b4 : (rs u.toNat).length + 1 ≤ 9223372036854775807 := by omega
      have hne : (u.toNat + 12 == 11) = false := beq_eq_false_iff_ne.2 (by omega)
      have un : u.toNat + 1 ≤ ow.length := hun
      simp only [PP, P1, P2, P3, P4, P5, P6, P7, P8, P9, P10, P11, P12, P13, P14, L1, P15, N1, N2, N3, N4, N5, N6, N7, I1, I2, I3, I4, I5, I6, I7, reduceIte, reduceCtorEq, d, e3, j0, u0, u1, g4, g5, b3, b4, tabA_len, un, psub_zero, tabA_set _ hun, hne]
      have h1 : (tabA ow.length fun w => if w = u.toNat then PV.ref (u.toNat + 12) (gs u.toNat + 1) 1 0 ((rs u.toNat).length + 1) else .ref (w + 12) (gs w) 1 0 (rs w).length) = tabA ow.length fun w => .ref (w + 12) (if w = u.toNat then gs u.toNat + 1 else gs w) 1 0 (if w = u.toNat then rs u.toNat ++ [(v : Int)] else rs w).length := tabA_congr fun w _ => by
        by_cases e : w = u.toNat
        · subst e; simp only [if_true, List.length_append, List.length_cons, List.length_nil, Nat.zero_add]
        · simp only [e, if_false]
      have h2 : (tabA ow.length fun w => if w = u.toNat then PObj.cells (gs u.toNat + 1) 0 (List.map (PV.int .i64) (rs u.toNat) ++ [PV.int .i64 (v : Int)]) else .cells (gs w) 0 (List.map (PV.int .i64) (rs w))) = tabA ow.length fun w => .cells (if w = u.toNat then gs u.toNat + 1 else gs w) 0 ((if w = u.toNat then rs u.toNat ++ [(v : Int)] else rs w).map (PV.int .i64)) := tabA_congr fun w _ => by
        by_cases e : w = u.toNat
        · subst e; simp only [if_true, List.map_append, List.map_cons, List.map_nil]
        · simp only [e, if_false]
      rw [h1, h2]
      simp only [hwj]
      refine SemW_to (ih2 (j + 1) (ver + 1) (fun w => if w = u.toNat then gs u.toNat + 1 else gs w) (fun w => if w = u.toNat then rs u.toNat ++ [(v : Int)] else rs w) ⟨by omega, fun w hw => ?_⟩ (by omega)) (by simp only [PWeak_nil, PWeak_junk, PWeak_same, Int.cast_ofNat_Int, List.length_append, List.length_cons, List.length_nil, Nat.zero_add]) rfl
      rw [take_some e3]
      by_cases e : w = u.toNat
      · subst e
        have hnot : ¬ (u.toNat : Int) ∈ row.take j := by
          intro hm
          obtain ⟨i, hi, he⟩ := List.mem_iff_getElem.1 hm
          have hi2 : i < j := by simp at hi; omega
          have := rise_get hrow.1 (i := i) (j := j) (x := (u.toNat : Int)) (y := u) (by rw [← he, List.getElem_take]; exact List.getElem?_eq_getElem _) e3 hi2
          omega
        rw [if_pos rfl, hrs _ hun, if_neg hnot, List.append_nil, if_pos (List.mem_append_right _ (by simp; omega))]
      · rw [if_neg e, hrs w hw]
        have hiff : (w : Int) ∈ row.take j ++ [u] ↔ (w : Int) ∈ row.take j := by
          rw [List.mem_append, List.mem_singleton]
          exact ⟨fun h => h.elim id fun q => absurd (by omega) e, .inl⟩
        simp only [hiff]
    · simp only [PP, P1, P2, P3, P4, P5, P6, P7, P8, P9, P10, P11, P12, P13, P14, L1, P15, N1, N2, N3, N4, N5, N6, N7, I1, I2, I3, I4, I5, I6, I7, reduceIte, reduceCtorEq, d, hwv]
      refine SemW_to (ih (v + 1) ver gs rs ⟨by omega, fun u hu => ?_⟩ (by omega)) (by simp only [PWeak_nil, PWeak_junk, PWeak_same, Int.cast_ofNat_Int, List.length_append, List.length_cons, List.length_nil, Nat.zero_add]) rfl
      rw [hrs u hu, predI_succ, e1, List.take_of_length_le (by omega)]
  · have hvn : v = ow.length := by omega
    subst hvn
    simp only [PP, P1, P2, P3, P4, P5, P6, P7, P8, P9, P10, P11, P12, P13, P14, L1, P15, N1, N2, N3, N4, N5, N6, N7, I1, I2, I3, I4, I5, I6, I7, reduceIte, reduceCtorEq, c]
    refine Gh.step (GStep.cutF (b := [.func (.func 66) [] [.ptr 11 0 0]]) 12 (by omega) (by simp) (PWeak.refl _) rfl ?_) (Gh.same ⟨_, rfl, hk ver⟩)
    simp only [List.take_succ_cons, List.take_zero]
    refine pfrzM_ok (l := [o0, o1, o2, o3, o4, o5, o6, o7, o8]) hu ?_
    refine pfrzM_cons (pfrzO_ok ?_) (pfrzM_cons ?_ (pfrzM_cons (pfrzO_ok ?_) rfl))
    · simp only [cutOk, PP, P1, P2, P3, P4, P5, P6, P7, P8, P9, P10, P11, P12, P13, P14, L1, P15, N1, N2, N3, N4, N5, N6, N7, I1, I2, I3, I4, I5, I6, I7, reduceIte, reduceCtorEq]
    · simp only [pfrzO]
      rw [pfrzL_all (r := tabA ow.length fun u => slI false true .i64 (predI su ow.length u)) (by simp only [tabA_len]) (fun i x y q1 q2 => ?_)]
      · rfl
      · have hi : i < ow.length := by have := getSome_lt q1; rwa [tabA_len] at this
        rw [tabA_get hi] at q1 q2
        cases q1; cases q2
        rw [pfrz1_ref' (by omega) (by
          simp only [List.getElem?_cons_succ]
          exact tabA_get hi) (by rw [List.length_map]; omega) (underL_ints _ _ _), Nat.mul_one, ← hrs i hi, psub_all _ _ (by rw [List.length_map])]
    · simp only [cutOk, PP, P1, P2, P3, P4, P5, P6, P7, P8, P9, P10, P11, P12, P13, P14, L1, P15, N1, N2, N3, N4, N5, N6, N7, I1, I2, I3, I4, I5, I6, I7, reduceIte, reduceCtorEq]
end
end Go.Am.Ar
set_option linter.unusedVariables false
set_option linter.unusedSimpArgs false
set_option maxRecDepth 10000
namespace Go.Am.Ar
open Go.Am renaming pchk → P1, pold → P2, PKNo → P3, ppack → P4, PObj.under → P5, pput → P6, ptset → P7, ptget → P8, pev → P9, ofAV → P10, ofAV1 → P11, ppad → P12, pfill → P13, prepl → P14, AO.effect → P15
open List renaming replicate → L1
open Nat renaming reduceAdd → N1, reduceSub → N2, reduceMul → N3, reduceLT → N4, reduceLeDiff → N5, reduceEqDiff → N6, reduceBEq → N7
open Int renaming reduceToNat → I1, reduceLT → I2, reduceLE → I3, reduceEq → I4, reduceAdd → I5, reduceSub → I6, reduceNeg → I7
theorem QCall_yld {tab : FuncId → Option AF} (id : Nat) (first args : List PV) (M : Mem) (K : PV → Mem → Prop) : QCall tab (.yld id first) args M K = ((∃ ver r, M[id]? = some (.loop ver r)) ∧ SemY tab id (first ++ args) M K) := rfl
theorem idx_first {R : Nat → Int} {r : Int} : ∀ {row : List Int} {j : Nat}, (∃ u ∈ row, R u.toNat = r) → ∃ i u, idxFrom (fun u => decide (R u.toNat = r)) j row = ((j + i : Nat) : Int) ∧ row[i]? = some u ∧ firstS R r row = u
  | [], j, h => by obtain ⟨u, hu, _⟩ := h; cases hu
  | x :: l, j, h => by
    by_cases e : R x.toNat = r
    · exact ⟨0, x, by unfold idxFrom; rw [if_pos (by simpa using e)]; rfl, rfl, by unfold firstS; rw [if_pos e]⟩
    · obtain ⟨u, hu, q⟩ := h
      rcases List.mem_cons.1 hu with rfl | hu
      · exact absurd q e
      · obtain ⟨i, w, h1, h2, h3⟩ := idx_first (row := l) (j := j + 1) ⟨u, hu, q⟩
        exact ⟨i + 1, w, by unfold idxFrom; rw [if_neg (by simpa using e), h1]; congr 1; omega, h2, by unfold firstS; rw [if_neg e]; exact h3⟩
section
variable {tab : FuncId → Option AF} (T : HasA tab)
include T
theorem values_p {M : Mem} {K : PV → Mem → Prop} {L id : Nat} {f o : Bool} {row : List Int} (J : Nat → Mem → Prop) (hb : row.length < big) (h0 : J 0 M)
    (hid : ∀ k N, J k N → N[id]? = some (.cells 0 0 [slI f o .i64 row]) ∧ ∃ ver r, N[L]? = some (.loop ver r))
    (hy : ∀ k N x, J k N → row[k]? = some x → ∀ K' : PV → Mem → Prop, (∀ N', J (k + 1) N' → K' (.bool true) N') → SemY tab L [p64 x] N K')
    (hk : ∀ N, J row.length N → K (.tuple []) N) :
    SemC tab 75 [.yld L [], .ptr id 0 0] M K := by
  refine SemC_fn T.h75 ?_
  obtain ⟨q1, _⟩ := hid 0 M h0
  simp only [af75, PP, P1, P2, P3, P4, P5, P6, P7, P8, P9, P10, P11, P12, P13, P14, L1, P15, N1, N2, N3, N4, N5, N6, N7, I1, I2, I3, I4, I5, I6, I7, reduceIte, reduceCtorEq, q1]
  refine loop2 (fun (k : Nat) (N : Mem) => k ≤ row.length ∧ J k N) (fun k N => [.yld L [], .junk, .junk, .junk, .junk, slI f o .i64 row, p64 row.length, p64 k, .junk, .junk, .junk, .junk, .junk, .junk, .junk, .junk]) (fun k N => N) (fun k N => row.length - k) 0 M ⟨by omega, h0⟩ (by simp only [PWeak_nil, PWeak_junk, PWeak_same, Int.cast_ofNat_Int, List.length_append, List.length_cons, List.length_nil, Nat.zero_add]) rfl ?_
  intro k N ⟨hle, hJ⟩ ih
  refine SemW_go (by kernel_rfl) ?_
  simp only [PP, P1, P2, P3, P4, P5, P6, P7, P8, P9, P10, P11, P12, P13, P14, L1, P15, N1, N2, N3, N4, N5, N6, N7, I1, I2, I3, I4, I5, I6, I7, reduceIte, reduceCtorEq]
  refine QIf.intro (fun c => ?_) (fun c => ?_)
  · have hk' : k < row.length := by omega
    have h0 : (0 : Int) ≤ k := by omega
    have hw := wrap_succ (k := k) (by show _ < 1000000000000; have : row.length < 1000000000000 := hb; omega)
    obtain ⟨x, e⟩ := some_of hk'
    simp only [PP, P1, P2, P3, P4, P5, P6, P7, P8, P9, P10, P11, P12, P13, P14, L1, P15, N1, N2, N3, N4, N5, N6, N7, I1, I2, I3, I4, I5, I6, I7, reduceIte, reduceCtorEq, c, h0, e, QCall_yld]
    refine ⟨(hid k N hJ).2, hy k N x hJ e _ fun N' hN' => ?_⟩
    simp only [PP, P1, P2, P3, P4, P5, P6, P7, P8, P9, P10, P11, P12, P13, P14, L1, P15, N1, N2, N3, N4, N5, N6, N7, I1, I2, I3, I4, I5, I6, I7, reduceIte, reduceCtorEq, hw]
    exact SemW_weak (ih (k + 1) N' ⟨by omega, hN'⟩ (by omega)) (by simp only [PWeak_nil, PWeak_junk, PWeak_same, Int.cast_ofNat_Int, List.length_append, List.length_cons, List.length_nil, Nat.zero_add])
  · have : k = row.length := by omega
    subst this
    simp only [PP, P1, P2, P3, P4, P5, P6, P7, P8, P9, P10, P11, P12, P13, P14, L1, P15, N1, N2, N3, N4, N5, N6, N7, I1, I2, I3, I4, I5, I6, I7, reduceIte, reduceCtorEq, c]
    exact hk N hJ
end
end Go.Am.Ar
set_option linter.unusedVariables false
namespace Go.Am.Ar
structure BSt where
  c : Nat → Int
  op : Nat → Int
  q : List Nat
def upd (f : Nat → Int) (u : Nat) (x : Int) : Nat → Int := fun v => if v = u then x else f v
def stepU (x : Nat) (s : BSt) (u : Nat) : BSt :=
  if 0 ≤ s.c u then s else if s.op u - 1 = 0 then ⟨upd s.c u (s.c x + 1), upd s.op u (s.op u - 1), s.q ++ [u]⟩ else ⟨s.c, upd s.op u (s.op u - 1), s.q⟩
structure BI (n : Nat) (P : Nat → Prop) (S : Nat → List Nat) (R : Nat → Int) (i x : Nat) (done : List Nat) (s : BSt) : Prop where
  a1 : ∀ v ∈ s.q, v < n ∧ s.c v = R v ∧ 0 ≤ R v
  a2 : ∀ v, v < n → v ∉ s.q → s.c v = -1
  nd : s.q.Nodup
  z : ∀ v, v < n → R v = 0 → v ∈ s.q
  b : s.q.Pairwise (fun a b => R a ≤ R b)
  f : ∀ v ∈ s.q, ∀ a, s.q[i]? = some a → R v ≤ R a + 1
  cP : ∀ u, u < n → u ∉ s.q → P u → s.op u = 1 ∧ u ∉ done ∧ ∀ w ∈ S u, w ∉ s.q.take i
  cO : ∀ u, u < n → u ∉ s.q → ¬ P u → s.op u = ((S u).filter fun w => decide (w ∉ s.q.take i ∧ ¬ (w = x ∧ u ∈ done))).length ∧ 0 < s.op u
theorem filt_one : ∀ {l : List Nat}, l.Nodup → ∀ {x : Nat}, x ∈ l → ∀ (p : Nat → Bool), p x = true → (l.filter p).length = (l.filter fun w => p w && decide (w ≠ x)).length + 1
  | [], _, x, h, _, _ => by simp at h
  | y :: l, hd, x, h, p, hp => by
    rw [List.nodup_cons] at hd
    by_cases e : y = x
    · subst e
      have e2 : (l.filter fun w => p w && decide (w ≠ y)) = l.filter p := List.filter_congr fun w hw => by
        have : w ≠ y := fun q => hd.1 (q ▸ hw)
        simp [this]
      rw [List.filter_cons, if_pos hp, List.filter_cons, if_neg (by simp), e2, List.length_cons]
    · have hx : x ∈ l := by
        rcases List.mem_cons.1 h with q | q
        · exact absurd q.symm e
        · exact q
      have ih := filt_one hd.2 hx p hp
      rw [List.filter_cons, List.filter_cons]
      by_cases q : p y = true
      · rw [if_pos q, if_pos (by simp [q, e]), List.length_cons, List.length_cons, ih]
      · rw [if_neg q, if_neg (by simp [q]), ih]
section
variable {n : Nat} {P : Nat → Prop} {S : Nat → List Nat} {Z : Nat → Prop} {R : Nat → Int} (hR : IsRank n P S Z R) (hS : ∀ v, v < n → (∀ u ∈ S v, u < n) ∧ (S v).Nodup)
include hR hS
omit hR hS in
theorem rest_get {q : List Nat} {i w : Nat} (h1 : w ∈ q) (h2 : w ∉ q.take i) : ∃ j, i ≤ j ∧ q[j]? = some w := by
  obtain ⟨j, hj, e⟩ := List.mem_iff_getElem.1 h1
  refine ⟨j, ?_, by rw [List.getElem?_eq_getElem hj, e]⟩
  rcases Nat.lt_or_ge j i with q1 | q1
  · exact absurd (List.mem_iff_getElem.2 ⟨j, by simp; omega, by rw [List.getElem_take]; exact e⟩) h2
  · exact q1
theorem BI.above {i x : Nat} {done : List Nat} {s : BSt} (I : BI n P S R i x done s) : ∀ (k : Nat) (y : Nat), y < n → y ∉ s.q → R y = (k : Int) → ∃ j w, i ≤ j ∧ s.q[j]? = some w ∧ R w < R y := by
  intro k
  induction k using Nat.strongRecOn with
  | ind k ih =>
    intro y hy hq hk
    have h0 : 0 < R y := by
      rcases Nat.eq_zero_or_pos k with e | e
      · subst e; exact absurd (I.z y hy hk) hq
      · omega
    have go : ∀ w ∈ S y, w ∉ s.q.take i → 0 ≤ R w → R w < R y → ∃ j w, i ≤ j ∧ s.q[j]? = some w ∧ R w < R y := by
      intro w hw hwt hw0 hwy
      by_cases e : w ∈ s.q
      · obtain ⟨j, h1, h2⟩ := rest_get e hwt
        exact ⟨j, w, h1, h2, hwy⟩
      · obtain ⟨j, w', h1, h2, h3⟩ := ih (R w).toNat (by omega) w ((hS y hy).1 w hw) e (by omega)
        exact ⟨j, w', h1, h2, by omega⟩
    by_cases hp : P y
    · obtain ⟨w, hw, e⟩ := hR.p y hy hp h0
      exact go w hw ((I.cP y hy hq hp).2.2 w hw) (by omega) (by omega)
    · obtain ⟨e, hpos⟩ := I.cO y hy hq hp
      rw [e] at hpos
      obtain ⟨w, hw⟩ := List.exists_mem_of_length_pos (l := (S y).filter fun w => decide (w ∉ s.q.take i ∧ ¬ (w = x ∧ y ∈ done))) (by omega)
      obtain ⟨h1, h2⟩ := List.mem_filter.1 hw
      have h2 := of_decide_eq_true h2
      obtain ⟨h3, h4⟩ := hR.o y hy hp h0 w h1
      exact go w h1 h2.1 h3 h4
theorem BI.fin {i x : Nat} {done : List Nat} {s : BSt} (I : BI n P S R i x done s) (hi : s.q.length ≤ i) : ∀ v, v < n → s.c v = R v := by
  intro v hv
  by_cases e : v ∈ s.q
  · exact (I.a1 v e).2.1
  · rw [I.a2 v hv e]
    rcases ilt_or_ge (R v) 0 with q | q
    · have := hR.ge v hv; omega
    · obtain ⟨j, w, h1, h2, _⟩ := I.above hR hS (R v).toNat v hv e (by omega)
      have := (List.getElem?_eq_some_iff.1 h2).1
      omega
omit hR hS in
theorem BI.next {i x : Nat} {done : List Nat} {s : BSt} (I : BI n P S R i x done s) (hx : s.q[i]? = some x) (hd : ∀ u, u < n → (u ∈ done ↔ x ∈ S u)) (y : Nat) : BI n P S R (i + 1) y [] s := by
  have ht : s.q.take (i + 1) = s.q.take i ++ [x] := by simp [List.take_add_one, hx]
  have hil := (List.getElem?_eq_some_iff.1 hx).1
  refine ⟨I.a1, I.a2, I.nd, I.z, I.b, ?_, ?_, ?_⟩
  · intro v hv a ha
    have h1 := I.f v hv x hx
    have h2 : R x ≤ R a := by
      obtain ⟨h3, h4⟩ := List.getElem?_eq_some_iff.1 ha
      obtain ⟨h5, h6⟩ := List.getElem?_eq_some_iff.1 hx
      have := List.pairwise_iff_getElem.1 I.b i (i + 1) h5 h3 (by omega)
      rwa [h4, h6] at this
    omega
  · intro u hu hq hp
    obtain ⟨h1, h2, h3⟩ := I.cP u hu hq hp
    refine ⟨h1, by simp, fun w hw => ?_⟩
    rw [ht, List.mem_append, List.mem_singleton]
    rintro (h4 | h4)
    · exact h3 w hw h4
    · subst h4; exact h2 ((hd u hu).2 hw)
  · intro u hu hq hp
    obtain ⟨h1, h2⟩ := I.cO u hu hq hp
    refine ⟨?_, h2⟩
    rw [h1]
    congr 2
    refine List.filter_congr fun w hw => ?_
    refine decide_eq_decide.2 ?_
    rw [ht, List.mem_append, List.mem_singleton]
    constructor
    · rintro ⟨h3, h4⟩
      refine ⟨?_, by simp⟩
      rintro (h5 | h5)
      · exact h3 h5
      · subst h5; exact h4 ⟨rfl, (hd u hu).2 hw⟩
    · rintro ⟨h3, _⟩
      exact ⟨fun h => h3 (.inl h), fun h => h3 (.inr h.1)⟩
theorem BI.step {i x u : Nat} {done : List Nat} {s : BSt} (I : BI n P S R i x done s) (hx : s.q[i]? = some x) (hu : u < n) (hxS : x ∈ S u) (hud : u ∉ done) : BI n P S R i x (done ++ [u]) (stepU x s u) := by
  obtain ⟨hil, hqi⟩ := List.getElem?_eq_some_iff.1 hx
  have hxq : x ∈ s.q := List.mem_of_getElem? hx
  obtain ⟨hxn, hcx, hx0⟩ := I.a1 x hxq
  have hmem : ∀ v, v ≠ u → (v ∈ done ++ [u] ↔ v ∈ done) := fun v hv => by simp [hv]
  have hfil : ∀ v, v ≠ u → ((S v).filter fun w => decide (w ∉ s.q.take i ∧ ¬ (w = x ∧ v ∈ done ++ [u]))) = (S v).filter fun w => decide (w ∉ s.q.take i ∧ ¬ (w = x ∧ v ∈ done)) := fun v hv => List.filter_congr fun w _ => decide_eq_decide.2 (by rw [hmem v hv])
  have hlow : ∀ w ∈ s.q.take i, R w ≤ R x := by
    intro w hw
    obtain ⟨j, hj, e⟩ := List.mem_iff_getElem.1 hw
    have hj2 : j < i := by simp at hj; omega
    have := List.pairwise_iff_getElem.1 I.b j i (by omega) hil hj2
    rw [List.getElem_take] at e
    rwa [e, hqi] at this
  have hxt : x ∉ s.q.take i := by
    intro hm
    obtain ⟨j, hj, e⟩ := List.mem_iff_getElem.1 hm
    have hj2 : j < i := by simp at hj; omega
    rw [List.getElem_take] at e
    exact List.pairwise_iff_getElem.1 I.nd j i (by omega) hil hj2 (by rw [e, hqi])
  unfold stepU
  by_cases c1 : 0 ≤ s.c u
  · rw [if_pos c1]
    have huq : u ∈ s.q := by
      by_cases e : u ∈ s.q
      · exact e
      · have := I.a2 u hu e; omega
    refine ⟨I.a1, I.a2, I.nd, I.z, I.b, I.f, fun v hv hq hp => ?_, fun v hv hq hp => ?_⟩
    · obtain ⟨h1, h2, h3⟩ := I.cP v hv hq hp
      exact ⟨h1, by rw [hmem v (fun e => hq (e ▸ huq))]; exact h2, h3⟩
    · rw [hfil v (fun e => hq (e ▸ huq))]; exact I.cO v hv hq hp
  · rw [if_neg c1]
    have huq : u ∉ s.q := fun e => c1 (by have := I.a1 u e; omega)
    by_cases c2 : s.op u - 1 = 0
    · rw [if_pos c2]
      have hup : 0 ≤ R u ∧ R u ≤ R x + 1 := by
        by_cases hp : P u
        · exact hR.p' u hu hp x hxS hx0
        · refine hR.o' u hu hp (R x) hx0 fun w hw => ?_
          obtain ⟨h1, _⟩ := I.cO u hu huq hp
          by_cases hwt : w ∈ s.q.take i
          · exact ⟨(I.a1 w (List.mem_of_mem_take hwt)).2.2, hlow w hwt⟩
          · by_cases e : w = x
            · subst e; exact ⟨hx0, Int.le_refl _⟩
            · exfalso
              rw [filt_one (hS u hu).2 hxS _ (by simp [hxt, hud])] at h1
              have hwm : w ∈ (S u).filter fun w => (decide (w ∉ s.q.take i ∧ ¬ (w = x ∧ u ∈ done))) && decide (w ≠ x) := List.mem_filter.2 ⟨hw, by simp [hwt, e]⟩
              have := List.length_pos_of_mem hwm
              omega
      have hgt : R x < R u := by
        obtain ⟨j, w, h1, h2, h3⟩ := I.above hR hS (R u).toNat u hu huq (by omega)
        obtain ⟨h4, h5⟩ := List.getElem?_eq_some_iff.1 h2
        rcases Nat.eq_or_lt_of_le h1 with e | e
        · subst e; rw [hqi] at h5; subst h5; exact h3
        · have := List.pairwise_iff_getElem.1 I.b i j hil h4 e
          rw [hqi, h5] at this
          omega
      have hRu : R u = R x + 1 := by omega
      have htk : (s.q ++ [u]).take i = s.q.take i := List.take_append_of_le_length (by omega)
      refine ⟨fun v hv => ?_, fun v hv hq => ?_, ?_, fun v hv h0 => List.mem_append_left _ (I.z v hv h0), ?_, fun v hv a ha => ?_, fun v hv hq hp => ?_, fun v hv hq hp => ?_⟩
      · rcases List.mem_append.1 hv with h | h
        · obtain ⟨h1, h2, h3⟩ := I.a1 v h
          refine ⟨h1, ?_, h3⟩
          show upd s.c u _ v = _
          unfold upd; rw [if_neg (fun e : v = u => huq (e ▸ h))]; exact h2
        · rw [List.mem_singleton] at h
          subst h
          refine ⟨hu, ?_, by omega⟩
          show upd s.c v _ v = _
          unfold upd; rw [if_pos rfl]; omega
      · have h : v ∉ s.q ∧ v ≠ u := by simpa using hq
        show upd s.c u _ v = _
        unfold upd; rw [if_neg h.2]; exact I.a2 v hv h.1
      · refine List.nodup_append.2 ⟨I.nd, by simp, fun a ha b hb e => ?_⟩
        rw [List.mem_singleton] at hb
        subst hb; subst e; exact huq ha
      · refine List.pairwise_append.2 ⟨I.b, by simp, fun a ha b hb => ?_⟩
        rw [List.mem_singleton] at hb
        subst hb
        have := I.f a ha x hx
        omega
      · have ha2 : s.q[i]? = some a := by
          have : (s.q ++ [u])[i]? = some a := ha
          rwa [List.getElem?_append_left hil] at this
        rcases List.mem_append.1 hv with h | h
        · exact I.f v h a ha2
        · rw [List.mem_singleton] at h
          rw [hx] at ha2; cases ha2
          subst h; omega
      · have h : v ∉ s.q ∧ v ≠ u := by simpa using hq
        obtain ⟨h1, h2, h3⟩ := I.cP v hv h.1 hp
        refine ⟨?_, by rw [hmem v h.2]; exact h2, ?_⟩
        · show upd s.op u _ v = _
          unfold upd; rw [if_neg h.2]; exact h1
        · show ∀ w ∈ S v, w ∉ (s.q ++ [u]).take i
          rw [htk]; exact h3
      · have h : v ∉ s.q ∧ v ≠ u := by simpa using hq
        show upd s.op u _ v = ((S v).filter fun w => decide (w ∉ (s.q ++ [u]).take i ∧ ¬ (w = x ∧ v ∈ done ++ [u]))).length ∧ 0 < upd s.op u _ v
        rw [htk]
        unfold upd; rw [if_neg h.2]
        rw [hfil v h.2]; exact I.cO v hv h.1 hp
    · rw [if_neg c2]
      have hnp : ¬ P u := fun hp => c2 (by have := (I.cP u hu huq hp).1; omega)
      refine ⟨I.a1, I.a2, I.nd, I.z, I.b, I.f, fun v hv hq hp => ?_, fun v hv hq hp => ?_⟩
      · have e : v ≠ u := fun e => hnp (e ▸ hp)
        obtain ⟨h1, h2, h3⟩ := I.cP v hv hq hp
        refine ⟨?_, by rw [hmem v e]; exact h2, h3⟩
        show upd s.op u _ v = _
        unfold upd; rw [if_neg e]; exact h1
      · show upd s.op u _ v = ((S v).filter fun w => decide (w ∉ s.q.take i ∧ ¬ (w = x ∧ v ∈ done ++ [u]))).length ∧ 0 < upd s.op u _ v
        unfold upd
        obtain ⟨h1, h2⟩ := I.cO v hv hq hp
        by_cases e : v = u
        · subst e
          rw [if_pos rfl]
          refine ⟨?_, by omega⟩
          rw [filt_one (hS v hv).2 hxS _ (by simp [hxt, hud])] at h1
          rw [h1]
          have e3 : ((S v).filter fun w => decide (w ∉ s.q.take i ∧ ¬ (w = x ∧ v ∈ done)) && decide (w ≠ x)) = (S v).filter fun w => decide (w ∉ s.q.take i ∧ ¬ (w = x ∧ v ∈ done ++ [v])) := List.filter_congr fun w hw => by
            by_cases q1 : w ∈ s.q.take i <;> by_cases q2 : w = x <;> simp [q1, q2, hud]
          rw [e3]
          omega
        · rw [if_neg e, hfil v e]; exact ⟨h1, h2⟩
end
end Go.Am.Ar
