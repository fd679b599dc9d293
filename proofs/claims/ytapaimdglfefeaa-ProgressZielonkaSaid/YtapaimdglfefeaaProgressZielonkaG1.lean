/- Plain law: progress measures as numbers, and the least one, and what goes with it. -/
import Derived.Test.YtapaimdglfefeaaProgressZielonkaG0
import Derived.Test.YtapaimdglfefeaaPmC
set_option linter.unusedVariables false
namespace Go.Am.Ar
def mT : List Nat → Nat
  | [] => 1
  | n :: ns => (n + 1) * mT ns
def mr : List Nat → List Int → Nat
  | n :: ns, c :: cs => c.toNat + (n + 1) * mr ns cs
  | _, _ => 0
def mOk : List Nat → List Int → Prop
  | n :: ns, c :: cs => 0 ≤ c ∧ c ≤ n ∧ mOk ns cs
  | [], [] => True
  | _, _ => False
theorem mT_pos : ∀ ns : List Nat, 0 < mT ns
  | [] => by decide
  | n :: ns => Nat.mul_pos (Nat.succ_pos _) (mT_pos ns)
theorem mOk_len : ∀ {ns : List Nat} {cs : List Int}, mOk ns cs → cs.length = ns.length
  | [], [], _ => rfl
  | n :: ns, c :: cs, h => by simp [mOk_len h.2.2]
  | [], _ :: _, h => h.elim
  | _ :: _, [], h => h.elim
theorem mr_lt : ∀ {ns : List Nat} {cs : List Int}, mOk ns cs → mr ns cs < mT ns
  | [], [], _ => by decide
  | n :: ns, c :: cs, ⟨h0, h1, h2⟩ => by
    have := mr_lt h2
    have h3 : (n + 1) * (mr ns cs + 1) ≤ (n + 1) * mT ns := Nat.mul_le_mul_left _ this
    rw [Nat.mul_add] at h3
    show c.toNat + (n + 1) * mr ns cs < (n + 1) * mT ns
    omega
  | [], _ :: _, h => h.elim
  | _ :: _, [], h => h.elim
theorem mr_inj : ∀ {ns : List Nat} {cs ds : List Int}, mOk ns cs → mOk ns ds → mr ns cs = mr ns ds → cs = ds
  | [], [], [], _, _, _ => rfl
  | n :: ns, c :: cs, d :: ds, ⟨h0, h1, h2⟩, ⟨g0, g1, g2⟩, e => by
    have e : c.toNat + (n + 1) * mr ns cs = d.toNat + (n + 1) * mr ns ds := e
    have e1 := congrArg (· % (n + 1)) e
    simp only [Nat.add_mul_mod_self_left] at e1
    rw [Nat.mod_eq_of_lt (by omega), Nat.mod_eq_of_lt (by omega)] at e1
    have e2 : (n + 1) * mr ns cs = (n + 1) * mr ns ds := by omega
    have e3 := Nat.eq_of_mul_eq_mul_left (Nat.succ_pos n) e2
    rw [mr_inj h2 g2 e3, show c = d by omega]
  | [], _ :: _, _, h, _, _ => h.elim
  | _ :: _, [], _, h, _, _ => h.elim
  | [], [], _ :: _, _, h, _ => h.elim
  | _ :: _, _ :: _, [], _, h, _ => h.elim
theorem mOk_of : ∀ {ns : List Nat} {cs : List Int}, cs.length = ns.length → (∀ (u : Nat) (c : Int) (n : Nat), cs[u]? = some c → ns[u]? = some n → 0 ≤ c ∧ c ≤ n) → mOk ns cs
  | [], [], _, _ => trivial
  | n :: ns, c :: cs, hl, h => ⟨(h 0 c n rfl rfl).1, (h 0 c n rfl rfl).2, mOk_of (by simpa using hl) fun u c n h1 h2 => h (u + 1) c n (by simpa using h1) (by simpa using h2)⟩
  | [], _ :: _, h, _ => by simp at h
  | _ :: _, [], h, _ => by simp at h
def mB (ns : List Nat) (q : Nat) : Nat := mT (ns.take q)
theorem mB_pos (ns : List Nat) (q : Nat) : 0 < mB ns q := mT_pos _
theorem mT_split : ∀ (ns : List Nat) (q : Nat), mT ns = mB ns q * mT (ns.drop q)
  | ns, 0 => by simp [mB, mT]
  | [], q + 1 => by simp [mB, mT]
  | n :: ns, q + 1 => by
    have h := mT_split ns q
    show (n + 1) * mT ns = (n + 1) * mT (ns.take q) * mT (ns.drop q)
    rw [h, Nat.mul_assoc]; rfl
theorem mB_succ {ns : List Nat} {q n : Nat} (h : ns[q]? = some n) : mB ns (q + 1) = mB ns q * (n + 1) := by
  induction ns generalizing q with
  | nil => simp at h
  | cons a ns ih =>
    cases q with
    | zero => simp at h; subst h; simp [mB, mT]
    | succ q =>
      have := ih (q := q) (by simpa using h)
      show (a + 1) * mB ns (q + 1) = (a + 1) * mB ns q * (n + 1)
      rw [this, Nat.mul_assoc]
theorem mB_dvd (ns : List Nat) : ∀ {q k : Nat}, q ≤ k → ∃ D, mB ns k = mB ns q * D ∧ 0 < D
  | q, 0, h => by
    have : q = 0 := by omega
    subst this; exact ⟨1, by simp, by decide⟩
  | q, k + 1, h => by
    by_cases e : q = k + 1
    · subst e; exact ⟨1, by simp, by decide⟩
    · obtain ⟨D, h1, h2⟩ := mB_dvd ns (q := q) (k := k) (by omega)
      cases hk : ns[k]? with
      | none =>
        have hl : ns.length ≤ k := by simpa using hk
        refine ⟨D, ?_, h2⟩
        rw [← h1]; unfold mB; rw [List.take_of_length_le (by omega), List.take_of_length_le (by omega)]
      | some n => exact ⟨D * (n + 1), by rw [mB_succ hk, h1, Nat.mul_assoc], Nat.mul_pos h2 (by omega)⟩
theorem mOk_drop : ∀ {ns : List Nat} {cs : List Int} (q : Nat), mOk ns cs → mOk (ns.drop q) (cs.drop q)
  | ns, cs, 0, h => by simpa using h
  | [], [], q + 1, h => by simpa using h
  | n :: ns, c :: cs, q + 1, h => by simpa using mOk_drop q h.2.2
  | [], _ :: _, _ + 1, h => h.elim
  | _ :: _, [], _ + 1, h => h.elim
theorem mr_div : ∀ {ns : List Nat} {cs : List Int} (q : Nat), mOk ns cs → mr ns cs / mB ns q = mr (ns.drop q) (cs.drop q)
  | ns, cs, 0, h => by simp [mB, mT]
  | [], [], q + 1, h => by simp [mB, mT, mr]
  | n :: ns, c :: cs, q + 1, ⟨h0, h1, h2⟩ => by
    show (c.toNat + (n + 1) * mr ns cs) / ((n + 1) * mB ns q) = mr (ns.drop q) (cs.drop q)
    rw [← Nat.div_div_eq_div_mul, Nat.add_mul_div_left _ _ (Nat.succ_pos n), Nat.div_eq_of_lt (show c.toNat < n.succ by show c.toNat < n + 1; omega), Nat.zero_add, mr_div q h2]
  | [], _ :: _, _ + 1, h => h.elim
  | _ :: _, [], _ + 1, h => h.elim
theorem mr_zeros : ∀ (q : Nat) {ns : List Nat} {ds : List Int}, ds.length + q = ns.length → mr ns (List.replicate q 0 ++ ds) = mB ns q * mr (ns.drop q) ds
  | 0, ns, ds, h => by simp [mB, mT]
  | q + 1, [], ds, h => by simp at h
  | q + 1, n :: ns, ds, h => by
    show (0 : Int).toNat + (n + 1) * mr ns (List.replicate q 0 ++ ds) = (n + 1) * mB ns q * mr (ns.drop q) ds
    rw [mr_zeros q (by simp at h; omega), Nat.mul_assoc]; simp
theorem mOk_zeros : ∀ (q : Nat) {ns : List Nat} {ds : List Int}, q ≤ ns.length → mOk (ns.drop q) ds → mOk ns (List.replicate q 0 ++ ds)
  | 0, ns, ds, _, h => by simpa using h
  | q + 1, [], ds, h, _ => by simp at h
  | q + 1, n :: ns, ds, h, h2 => ⟨by decide, by omega, mOk_zeros q (by simpa using h) (by simpa using h2)⟩
theorem mr_mono : ∀ {ns : List Nat} {cs ds : List Int}, cs.length = ns.length → ds.length = ns.length → (∀ (k : Nat) (c d : Int), cs[k]? = some c → ds[k]? = some d → c ≤ d) → mr ns cs ≤ mr ns ds
  | [], cs, ds, h1, h2, _ => by simp [mr]
  | n :: ns, c :: cs, d :: ds, h1, h2, h => by
    have a := mr_mono (ns := ns) (cs := cs) (ds := ds) (by simpa using h1) (by simpa using h2) (fun k x y hx hy => h (k + 1) x y (by simpa using hx) (by simpa using hy))
    have b := h 0 c d rfl rfl
    have := Nat.mul_le_mul_left (n + 1) a
    show c.toNat + _ ≤ d.toNat + _
    omega
  | _ :: _, [], _, h, _, _ => by simp at h
  | _ :: _, _ :: _, [], _, h, _ => by simp at h
structure Ms where
  top : Bool
  c : List Int
  h : c.length = 8
def Ms.Ok (ns : List Nat) (x : Ms) : Prop := mOk ns x.c ∧ (x.top = true → x.c = List.replicate 8 0)
def Ms.num (ns : List Nat) (x : Ms) : Nat := if x.top = true then mT ns else mr ns x.c
def mz : Ms := ⟨false, List.replicate 8 0, by simp⟩
def mtop : Ms := ⟨true, List.replicate 8 0, by simp⟩
theorem Ms.ext' {x y : Ms} (h1 : x.top = y.top) (h2 : x.c = y.c) : x = y := by
  cases x; cases y; cases h1; cases h2; rfl
theorem mOk_rep : ∀ (ns : List Nat), mOk ns (List.replicate ns.length 0)
  | [] => trivial
  | n :: ns => ⟨by decide, by omega, mOk_rep ns⟩
theorem mr_rep : ∀ (ns : List Nat) (k : Nat), mr ns (List.replicate k 0) = 0
  | [], k => by simp [mr]
  | n :: ns, 0 => by simp [mr]
  | n :: ns, k + 1 => by
    show (0 : Int).toNat + (n + 1) * mr ns (List.replicate k 0) = 0
    rw [mr_rep ns k]; simp
section
variable {ns : List Nat}
theorem Ms.num_le {x : Ms} (h : x.Ok ns) : x.num ns ≤ mT ns := by
  unfold Ms.num
  split
  · exact Nat.le_refl _
  · exact Nat.le_of_lt (mr_lt h.1)
theorem Ms.num_top {x : Ms} (h : x.Ok ns) : x.num ns = mT ns ↔ x.top = true := by
  unfold Ms.num
  split
  · rename_i e; simp [e]
  · rename_i e; have := mr_lt h.1; simp [e]; omega
theorem Ms.inj {x y : Ms} (hx : x.Ok ns) (hy : y.Ok ns) (e : x.num ns = y.num ns) : x = y := by
  have h1 := Ms.num_top hx
  have h2 := Ms.num_top hy
  rw [e] at h1
  have h3 : x.top = true ↔ y.top = true := h1.symm.trans h2
  cases hxt : x.top with
  | true =>
    have hyt := h3.1 hxt
    exact Ms.ext' (by rw [hxt, hyt]) (by rw [hx.2 hxt, hy.2 hyt])
  | false =>
    have hyt : y.top = false := by
      cases q : y.top with
      | true => rw [h3.2 q] at hxt; cases hxt
      | false => rfl
    refine Ms.ext' (by rw [hxt, hyt]) (mr_inj hx.1 hy.1 ?_)
    simpa [Ms.num, hxt, hyt] using e
theorem mz_ok (h : ns.length = 8) : mz.Ok ns := ⟨by show mOk ns (List.replicate 8 0); rw [← h]; exact mOk_rep ns, fun h => by cases h⟩
theorem mtop_ok (h : ns.length = 8) : mtop.Ok ns := ⟨by show mOk ns (List.replicate 8 0); rw [← h]; exact mOk_rep ns, fun _ => rfl⟩
theorem mz_num : mz.num ns = 0 := by
  show (if false = true then _ else mr ns (List.replicate 8 0)) = 0
  rw [if_neg (by decide), mr_rep]
theorem mtop_num : mtop.num ns = mT ns := if_pos rfl
end
def cmpI (a b : Int) : Int := if a < b then -1 else if b < a then 1 else 0
def cmpC : List Int → List Int → Int
  | c :: cs, d :: ds => if cmpC cs ds = 0 then cmpI c d else cmpC cs ds
  | _, _ => 0
def cmpM (x y : Ms) : Int := if x.top = true then (if y.top = true then 0 else 1) else if y.top = true then -1 else cmpC x.c y.c
theorem cmpI_lt {a b : Int} (h : a < b) : cmpI a b = -1 := if_pos h
theorem cmpI_gt {a b : Int} (h : b < a) : cmpI a b = 1 := by unfold cmpI; rw [if_neg (by omega), if_pos h]
theorem cmpI_self (a : Int) : cmpI a a = 0 := by simp [cmpI]
theorem cmpI_zero {a b : Int} : cmpI a b = 0 ↔ a = b := by
  unfold cmpI; split
  · constructor <;> intro h <;> omega
  · split <;> constructor <;> intro h <;> omega
theorem cmpC_drop : ∀ {cs ds : List Int} (k : Nat), cmpC (cs.drop k) (ds.drop k) ≠ 0 → cmpC cs ds = cmpC (cs.drop k) (ds.drop k)
  | cs, ds, 0, _ => by simp
  | [], ds, k + 1, h => by simp [cmpC] at h
  | _ :: _, [], k + 1, h => by simp [cmpC] at h
  | c :: cs, d :: ds, k + 1, h => by
    have h : cmpC (cs.drop k) (ds.drop k) ≠ 0 := h
    have := cmpC_drop k h
    show (if cmpC cs ds = 0 then cmpI c d else cmpC cs ds) = cmpC (cs.drop k) (ds.drop k)
    rw [if_neg (by rw [this]; exact h), this]
theorem cmpC_at {cs ds : List Int} {k : Nat} {c d : Int} (hc : cs[k]? = some c) (hd : ds[k]? = some d) (h : cmpC (cs.drop (k + 1)) (ds.drop (k + 1)) = 0) : cmpC (cs.drop k) (ds.drop k) = cmpI c d := by
  obtain ⟨h1, e1⟩ := List.getElem?_eq_some_iff.1 hc
  obtain ⟨h2, e2⟩ := List.getElem?_eq_some_iff.1 hd
  rw [List.drop_eq_getElem_cons h1, List.drop_eq_getElem_cons h2]
  show (if cmpC _ _ = 0 then _ else _) = _
  rw [if_pos h, e1, e2]
theorem cmp_mr : ∀ {ns : List Nat} {cs ds : List Int}, mOk ns cs → mOk ns ds → cmpC cs ds = cmpI (mr ns cs) (mr ns ds)
  | [], [], [], _, _ => by simp [cmpC, cmpI, mr]
  | n :: ns, c :: cs, d :: ds, ⟨h0, h1, h2⟩, ⟨g0, g1, g2⟩ => by
    have ih := cmp_mr h2 g2
    show (if cmpC cs ds = 0 then cmpI c d else cmpC cs ds) = cmpI ((c.toNat + (n + 1) * mr ns cs : Nat) : Int) ((d.toNat + (n + 1) * mr ns ds : Nat) : Int)
    rw [ih]
    split
    · rename_i e
      rw [cmpI_zero] at e
      have e : mr ns cs = mr ns ds := by omega
      rw [e]
      rcases Int.lt_trichotomy c d with q | q | q
      · rw [cmpI_lt q, cmpI_lt (by omega)]
      · rw [q, cmpI_self, cmpI_self]
      · rw [cmpI_gt q, cmpI_gt (by omega)]
    · rename_i e
      rw [cmpI_zero] at e
      by_cases q1 : mr ns cs < mr ns ds
      · have := Nat.mul_le_mul_left (n + 1) (show mr ns cs + 1 ≤ mr ns ds by omega)
        rw [Nat.mul_add] at this
        rw [cmpI_lt (by omega), cmpI_lt (by omega)]
      · have := Nat.mul_le_mul_left (n + 1) (show mr ns ds + 1 ≤ mr ns cs by omega)
        rw [Nat.mul_add] at this
        rw [cmpI_gt (by omega), cmpI_gt (by omega)]
  | [], _ :: _, _, h, _ => h.elim
  | _ :: _, [], _, h, _ => h.elim
  | [], [], _ :: _, _, h => h.elim
  | _ :: _, _ :: _, [], _, h => h.elim
theorem cmp_num {ns : List Nat} {x y : Ms} (hx : x.Ok ns) (hy : y.Ok ns) : cmpM x y = cmpI (x.num ns) (y.num ns) := by
  have h1 := mr_lt hx.1
  have h2 := mr_lt hy.1
  unfold cmpM Ms.num
  split
  · split
    · rw [cmpI_self]
    · rw [cmpI_gt (by omega)]
  · split
    · rw [cmpI_lt (by omega)]
    · exact cmp_mr hx.1 hy.1
theorem cmpI_pos {a b : Int} : 0 < cmpI a b ↔ b < a := by
  unfold cmpI; split
  · constructor <;> intro h <;> omega
  · split <;> constructor <;> intro h <;> omega
theorem cmpI_neg {a b : Int} : cmpI a b < 0 ↔ a < b := by
  unfold cmpI; split
  · constructor <;> intro h <;> omega
  · split <;> constructor <;> intro h <;> omega
def vN (ns : List Nat) (p x : Nat) : Nat := min (mT ns) ((x / mB ns (p / 2) + p % 2) * mB ns (p / 2))
section
variable {ns : List Nat}
theorem vN_le (p x : Nat) : vN ns p x ≤ mT ns := Nat.min_le_left _ _
theorem vN_mono {p x y : Nat} (h : x ≤ y) : vN ns p x ≤ vN ns p y := by
  unfold vN
  have h1 := Nat.div_le_div_right (c := mB ns (p / 2)) h
  have h2 := Nat.mul_le_mul_right (mB ns (p / 2)) (Nat.add_le_add_right h1 (p % 2))
  omega
theorem vN_top (p : Nat) : vN ns p (mT ns) = mT ns := by
  unfold vN
  have h := mT_split ns (p / 2)
  have e : mT ns / mB ns (p / 2) = mT (ns.drop (p / 2)) := by
    rw [h, Nat.mul_div_cancel_left _ (mB_pos _ _)]
  rw [e, Nat.add_mul, Nat.mul_comm (mT (ns.drop (p / 2)))]
  omega
theorem div_lt_drop {q x : Nat} (h : x < mT ns) : x / mB ns q < mT (ns.drop q) := by
  rw [Nat.div_lt_iff_lt_mul (mB_pos _ _), Nat.mul_comm, ← mT_split]; exact h
theorem vN_of {p x : Nat} (h : x < mT ns) : vN ns p x = (x / mB ns (p / 2) + p % 2) * mB ns (p / 2) := by
  unfold vN
  have h1 := div_lt_drop (q := p / 2) h
  have h2 : (x / mB ns (p / 2) + p % 2) * mB ns (p / 2) ≤ mT (ns.drop (p / 2)) * mB ns (p / 2) := Nat.mul_le_mul_right _ (by have := Nat.mod_lt p (show 0 < 2 by decide); omega)
  rw [Nat.mul_comm (mT _), ← mT_split] at h2
  omega
theorem vN_tr {p x k : Nat} (h : x < mT ns) (hk : p / 2 ≤ k) : x / mB ns k ≤ vN ns p x / mB ns k ∧ (p % 2 = 1 → p / 2 = k → x / mB ns k < vN ns p x / mB ns k) := by
  rw [vN_of h]
  obtain ⟨D, e, hD⟩ := mB_dvd ns hk
  constructor
  · rw [e, ← Nat.div_div_eq_div_mul, ← Nat.div_div_eq_div_mul, Nat.mul_div_cancel _ (mB_pos _ _)]
    exact Nat.div_le_div_right (by omega)
  · intro h1 h2
    rw [← h2, Nat.mul_div_cancel _ (mB_pos _ _)]
    omega
theorem drop_get {α : Type} {l : List α} {q : Nat} {x : α} (h : l[q]? = some x) : l.drop q = x :: l.drop (q + 1) := by
  obtain ⟨h1, e⟩ := List.getElem?_eq_some_iff.1 h
  rw [List.drop_eq_getElem_cons h1, e]
theorem vN_pt {p : Nat} {cs ds : List Int} (h1 : mOk ns cs) (h2 : mOk ns ds) (hp : p / 2 ≤ ns.length) (hp2 : p % 2 = 1 → p / 2 < ns.length) (h : ∀ (k : Nat) (c d : Int), p / 2 ≤ k → cs[k]? = some c → ds[k]? = some d → c ≤ d) (hs : p % 2 = 1 → ∀ (c d : Int), cs[p / 2]? = some c → ds[p / 2]? = some d → c < d) :
    vN ns p (mr ns cs) ≤ mr ns ds := by
  rw [vN_of (mr_lt h1), mr_div _ h1]
  have l1 := mOk_len h1
  have l2 := mOk_len h2
  have e2 := mr_div (p / 2) h2
  have key : mr (ns.drop (p / 2)) (cs.drop (p / 2)) + p % 2 ≤ mr (ns.drop (p / 2)) (ds.drop (p / 2)) := by
    by_cases hq : p / 2 = ns.length
    · have : ¬ p % 2 = 1 := fun e => by have := hp2 e; omega
      rw [hq, List.drop_of_length_le (Nat.le_refl _)]
      simp only [mr]; omega
    have hp : p / 2 < ns.length := by omega
    obtain ⟨n, gn⟩ : ∃ n, ns[p / 2]? = some n := ⟨_, List.getElem?_eq_getElem hp⟩
    obtain ⟨c, gc⟩ : ∃ c, cs[p / 2]? = some c := ⟨_, List.getElem?_eq_getElem (by omega)⟩
    obtain ⟨d, gd⟩ : ∃ d, ds[p / 2]? = some d := ⟨_, List.getElem?_eq_getElem (by omega)⟩
    rw [drop_get gn, drop_get gc, drop_get gd]
    have a := mr_mono (ns := ns.drop (p / 2 + 1)) (cs := cs.drop (p / 2 + 1)) (ds := ds.drop (p / 2 + 1)) (by simp [l1]) (by simp [l2]) (fun k x y hx hy => h (p / 2 + 1 + k) x y (by omega) (by rw [List.getElem?_drop] at hx; exact hx) (by rw [List.getElem?_drop] at hy; exact hy))
    have a2 := Nat.mul_le_mul_left (n + 1) a
    have b := h _ c d (Nat.le_refl _) gc gd
    have c0 : 0 ≤ c := by
      have := mOk_drop (p / 2) h1
      rw [drop_get gn, drop_get gc] at this; exact this.1
    show c.toNat + (n + 1) * mr (ns.drop (p / 2 + 1)) (cs.drop (p / 2 + 1)) + p % 2 ≤ d.toNat + (n + 1) * mr (ns.drop (p / 2 + 1)) (ds.drop (p / 2 + 1))
    rcases Nat.mod_two_eq_zero_or_one p with e | e
    · omega
    · have := hs e c d gc gd
      omega
  have h3 := Nat.mul_le_mul_right (mB ns (p / 2)) key
  have h4 := Nat.div_mul_le_self (mr ns ds) (mB ns (p / 2))
  rw [e2] at h4
  omega
end
def vMin (f : Nat → Nat) : List Nat → Nat
  | [] => 0
  | [a] => f a
  | a :: b :: l => min (f a) (vMin f (b :: l))
def vMax (f : Nat → Nat) : List Nat → Nat
  | [] => 0
  | a :: l => max (f a) (vMax f l)
theorem vMin_mem {f : Nat → Nat} : ∀ {l : List Nat}, l ≠ [] → ∃ u ∈ l, vMin f l = f u
  | [], h => absurd rfl h
  | [a], _ => ⟨a, by simp, rfl⟩
  | a :: b :: l, _ => by
    obtain ⟨u, h1, h2⟩ := vMin_mem (f := f) (l := b :: l) (by simp)
    show ∃ u ∈ a :: b :: l, min (f a) (vMin f (b :: l)) = f u
    rcases Nat.le_total (f a) (vMin f (b :: l)) with h | h
    · exact ⟨a, by simp, Nat.min_eq_left h⟩
    · exact ⟨u, List.mem_cons_of_mem _ h1, by rw [Nat.min_eq_right h, h2]⟩
theorem vMin_le {f : Nat → Nat} : ∀ {l : List Nat} {u : Nat}, u ∈ l → vMin f l ≤ f u
  | [a], u, h => by rw [List.mem_singleton] at h; subst h; exact Nat.le_refl _
  | a :: b :: l, u, h => by
    show min (f a) (vMin f (b :: l)) ≤ f u
    rcases List.mem_cons.1 h with e | h
    · subst e; exact Nat.min_le_left _ _
    · exact Nat.le_trans (Nat.min_le_right _ _) (vMin_le h)
theorem vMax_mem {f : Nat → Nat} : ∀ {l : List Nat}, l ≠ [] → ∃ u ∈ l, vMax f l = f u
  | [], h => absurd rfl h
  | [a], _ => ⟨a, by simp, by simp [vMax]⟩
  | a :: b :: l, _ => by
    obtain ⟨u, h1, h2⟩ := vMax_mem (f := f) (l := b :: l) (by simp)
    show ∃ u ∈ a :: b :: l, max (f a) (vMax f (b :: l)) = f u
    rcases Nat.le_total (f a) (vMax f (b :: l)) with h | h
    · exact ⟨u, List.mem_cons_of_mem _ h1, by rw [Nat.max_eq_right h, h2]⟩
    · exact ⟨a, by simp, Nat.max_eq_left h⟩
theorem vMax_ge {f : Nat → Nat} : ∀ {l : List Nat} {u : Nat}, u ∈ l → f u ≤ vMax f l
  | a :: l, u, h => by
    show f u ≤ max (f a) (vMax f l)
    rcases List.mem_cons.1 h with e | h
    · subst e; exact Nat.le_max_left _ _
    · exact Nat.le_trans (vMax_ge h) (Nat.le_max_right _ _)
theorem vMin_eq {f : Nat → Nat} {l : List Nat} {y : Nat} (h1 : ∃ u ∈ l, y = f u) (h2 : ∀ u ∈ l, y ≤ f u) : y = vMin f l := by
  obtain ⟨u, hu, e⟩ := h1
  obtain ⟨w, hw, e2⟩ := vMin_mem (f := f) (l := l) (fun q => by rw [q] at hu; cases hu)
  have := vMin_le (f := f) hu
  have := h2 w hw
  omega
theorem vMax_eq {f : Nat → Nat} {l : List Nat} {y : Nat} (h1 : ∃ u ∈ l, y = f u) (h2 : ∀ u ∈ l, f u ≤ y) : y = vMax f l := by
  obtain ⟨u, hu, e⟩ := h1
  obtain ⟨w, hw, e2⟩ := vMax_mem (f := f) (l := l) (fun q => by rw [q] at hu; cases hu)
  have := vMax_ge (f := f) hu
  have := h2 w hw
  omega
def lN (ns : List Nat) (O : Nat → Int) (S : Nat → List Nat) (R : Nat → Int) (m : Nat → Nat) (v : Nat) : Nat :=
  if O v = 0 then vMin (fun u => vN ns (R v).toNat (m u)) (S v) else vMax (fun u => vN ns (R v).toNat (m u)) (S v)
def updN (m : Nat → Nat) (v x : Nat) : Nat → Nat := fun u => if u = v then x else m u
structure Lft (n T : Nat) (L : (Nat → Nat) → Nat → Nat) : Prop where
  bnd : ∀ m v, v < n → L m v ≤ T
  mono : ∀ m m' v, v < n → (∀ u, u < n → m u ≤ m' u) → L m v ≤ L m' v
def PreF (n : Nat) (L : (Nat → Nat) → Nat → Nat) (m : Nat → Nat) : Prop := ∀ v, v < n → L m v ≤ m v
structure LI (n T : Nat) (L : (Nat → Nat) → Nat → Nat) (m : Nat → Nat) : Prop where
  bnd : ∀ v, v < n → m v ≤ T
  up : ∀ v, v < n → m v ≤ L m v
  low : ∀ m', PreF n L m' → ∀ v, v < n → m v ≤ m' v
theorem lN_lft {n : Nat} {ns : List Nat} {O : Nat → Int} {S : Nat → List Nat} {R : Nat → Int} (hS : ∀ v, v < n → S v ≠ [] ∧ ∀ u ∈ S v, u < n) : Lft n (mT ns) (lN ns O S R) where
  bnd := fun m v hv => by
    unfold lN
    split
    · obtain ⟨u, _, e⟩ := vMin_mem (f := fun u => vN ns (R v).toNat (m u)) (hS v hv).1
      rw [e]; exact vN_le _ _
    · obtain ⟨u, _, e⟩ := vMax_mem (f := fun u => vN ns (R v).toNat (m u)) (hS v hv).1
      rw [e]; exact vN_le _ _
  mono := fun m m' v hv h => by
    unfold lN
    split
    · obtain ⟨u, hu, e⟩ := vMin_mem (f := fun u => vN ns (R v).toNat (m' u)) (hS v hv).1
      rw [e]
      exact Nat.le_trans (vMin_le hu) (vN_mono (h u ((hS v hv).2 u hu)))
    · obtain ⟨u, hu, e⟩ := vMax_mem (f := fun u => vN ns (R v).toNat (m u)) (hS v hv).1
      rw [e]
      exact Nat.le_trans (vN_mono (h u ((hS v hv).2 u hu))) (vMax_ge (f := fun u => vN ns (R v).toNat (m' u)) hu)
section
variable {n T : Nat} {L : (Nat → Nat) → Nat → Nat} {m : Nat → Nat}
theorem LI.zero (hL : Lft n T L) : LI n T L fun _ => 0 := ⟨fun _ _ => Nat.zero_le _, fun _ _ => Nat.zero_le _, fun _ _ _ _ => Nat.zero_le _⟩
theorem LI.step (hL : Lft n T L) (h : LI n T L m) {v : Nat} (hv : v < n) : LI n T L (updN m v (L m v)) := by
  have le : ∀ u, u < n → m u ≤ updN m v (L m v) u := fun u hu => by
    unfold updN; split
    · rename_i e; subst e; exact h.up u hu
    · exact Nat.le_refl _
  refine ⟨fun u hu => ?_, fun u hu => ?_, fun m' hm u hu => ?_⟩
  · unfold updN; split
    · exact hL.bnd _ _ hv
    · exact h.bnd u hu
  · have := hL.mono m _ u hu le
    show (if u = v then L m v else m u) ≤ _
    split
    · rename_i e; subst e; exact this
    · exact Nat.le_trans (h.up u hu) this
  · unfold updN; split
    · rename_i e; subst e
      exact Nat.le_trans (hL.mono m m' u hu (h.low m' hm)) (hm u hu)
    · exact h.low m' hm u hu
theorem LI.unique {m' : Nat → Nat} (h : LI n T L m) (hp : PreF n L m) (h' : LI n T L m') (hp' : PreF n L m') : ∀ v, v < n → m v = m' v := fun v hv => Nat.le_antisymm (h.low m' hp' v hv) (h'.low m hp v hv)
def sumN : Nat → (Nat → Nat) → Nat
  | 0, _ => 0
  | n + 1, m => sumN n m + m n
theorem sumN_le : ∀ {n : Nat} {m : Nat → Nat}, (∀ v, v < n → m v ≤ T) → sumN n m ≤ n * T
  | 0, _, _ => by simp [sumN]
  | n + 1, m, h => by
    have := sumN_le (n := n) (m := m) (fun v hv => h v (by omega))
    have := h n (by omega)
    show sumN n m + m n ≤ (n + 1) * T
    rw [Nat.add_mul]; omega
theorem sumN_congr : ∀ {n : Nat} {m m' : Nat → Nat}, (∀ v, v < n → m v = m' v) → sumN n m = sumN n m'
  | 0, _, _, _ => rfl
  | n + 1, m, m', h => by
    show sumN n m + m n = sumN n m' + m' n
    rw [sumN_congr (fun v hv => h v (by omega)), h n (by omega)]
theorem sumN_upd : ∀ {n : Nat} {m : Nat → Nat} {v x : Nat}, v < n → m v < x → sumN n m < sumN n (updN m v x)
  | 0, _, _, _, h, _ => by omega
  | n + 1, m, v, x, h, hx => by
    show sumN n m + m n < sumN n (updN m v x) + updN m v x n
    by_cases e : v = n
    · subst e
      rw [sumN_congr (n := v) (m := updN m v x) (m' := m) (fun u hu => by unfold updN; rw [if_neg (by omega)])]
      unfold updN; rw [if_pos rfl]; omega
    · have := sumN_upd (n := n) (m := m) (v := v) (x := x) (by omega) hx
      have e2 : updN m v x n = m n := by unfold updN; rw [if_neg (by omega)]
      omega
end
end Go.Am.Ar
set_option linter.unusedVariables false
namespace Go.Am.Ar
theorem IsSol.into {n n' : Nat} {O O' : Nat → Int} {S S' : Nat → List Nat} {R R' : Nat → Int} {w w' : Nat → Int} {s s' : Nat → Nat} {ph : Nat → Nat} {p q : Int} (h : IsSol n O S R w s) (h' : IsSol n' O' S' R' w' s') (hp : p = 0 ∨ p = 1) (hq : q = 1 - p)
    (hR : ∀ v, v < n' → R' v = R (ph v))
    (hst : ∀ u, (ph u < n ∧ w (ph u) = p) → (u < n' ∧ w' u = q) → ∃ u', ph u' ∈ S (ph u) ∧ u' ∈ S' u ∧ ph u' < n ∧ u' < n' ∧ (O (ph u) = p → ph u' = s (ph u)) ∧ (O' u = q → u' = s' u)) {v : Nat} (h1 : ph v < n) (h2 : v < n') (h3 : w (ph v) = p) : w' v = p := by
  refine Classical.byContradiction fun hn => ?_
  have h4 : w' v = q := by have := h'.r01 v h2; omega
  exact no_both (h.of hp) (h'.of (p := q) (by omega)) (by omega) (n := n') (fun v h => h.1) (fun v h => hR v h.1) hst (v := v) ⟨h1, h3⟩ ⟨h2, h4⟩
theorem IsSol.more {n : Nat} {O : Nat → Int} {S S' : Nat → List Nat} {R : Nat → Int} {w w' : Nat → Int} {s s' : Nat → Nat} {p : Int} {at' : Nat} (hO : ∀ v, v < n → O v = 0 ∨ O v = 1) (h : IsSol n O S R w s) (h' : IsSol n O S' R w' s') (hp : p = 0 ∨ p = 1)
    (ha : O at' = p) (hS : ∀ v, v < n → ∀ u ∈ S v, u ∈ S' v) (hS' : ∀ v, v < n → v ≠ at' → S' v = S v) : ∀ v, v < n → w v = p → w' v = p := by
  intro v hv hw
  refine IsSol.into (ph := id) h h' hp rfl (fun _ _ => rfl) (fun u hu hu' => ?_) hv hv hw
  simp only [id] at hu ⊢
  by_cases ho : O u = p
  · obtain ⟨q1, q2⟩ := (h.of hp).own u hu ho
    exact ⟨s u, q1, hS u hu.1 _ q1, q2.1, q2.1, fun _ => rfl, fun e => by omega⟩
  · have hoq : O u = 1 - p := by have := hO u hu.1; omega
    obtain ⟨q1, q2⟩ := (h'.of (p := 1 - p) (by omega)).own u hu' hoq
    have hua : u ≠ at' := by rintro rfl; exact ho ha
    exact ⟨s' u, by rw [hS' u hu.1 hua] at q1; exact q1, q1, q2.1, q2.1, fun e => absurd e ho, fun _ => rfl⟩
end Go.Am.Ar
set_option linter.unusedVariables false
namespace Go.Am.Ar
theorem SolIn.loop {n : Nat} {O : Nat → Int} {S : Nat → List Nat} {R : Nat → Int} {W : Nat → Prop} {s f : Nat → Nat} {p : Int} {v m k : Nat} (a : SolIn O S R (fun v => v < n) p W s) (hv : W v) (hf : ∀ u, u < n → f u ∈ S u ∧ f u < n) (hs : ∀ u, W u → O u = p → f u = s u) (hkm : k < m) (hback : itr f v m = itr f v k) :
    (∀ i, W (itr f v i)) ∧ ∃ j, (∀ i, R (itr f v (k + i)) ≤ R (itr f v (k + j))) ∧ R (itr f v (k + j)) % 2 = p := by
  have inv : ∀ i, W (itr f v i) := by
    intro i
    induction i with
    | zero => exact hv
    | succ i ih =>
      show W (f _)
      have hn := a.sub _ ih
      by_cases ho : O (itr f v i) = p
      · rw [hs _ ih ho]; exact (a.own _ ih ho).2
      · exact a.opp _ ih ho _ (hf _ hn).1 (hf _ hn).2
  have hper := itr_per (by omega) hback
  exact ⟨inv, a.cyc (fun i => itr f v (k + i)) (m - k) (by omega) hper (fun i => inv _) (fun i => (hf _ (a.sub _ (inv _))).1) (fun i ho => hs _ (inv _) ho)⟩
end Go.Am.Ar
set_option linter.unusedVariables false
namespace Go.Am.Ar
inductive Rch (E : Nat → Nat → Prop) (Q : Nat → Prop) (v : Nat) : Nat → Prop
  | one {u : Nat} : E v u → Q u → Rch E Q v u
  | more {u x : Nat} : Rch E Q v u → E u x → Q x → Rch E Q v x
def Bad (E : Nat → Nat → Prop) (R : Nat → Int) (p : Int) (u : Nat) : Prop := R u % 2 ≠ p ∧ Rch E (fun x => R x ≤ R u) u u
def Lost (E : Nat → Nat → Prop) (R : Nat → Int) (p : Int) (v : Nat) : Prop := Bad E R p v ∨ ∃ u, Bad E R p u ∧ Rch E (fun _ => True) v u
theorem Rch.list {E : Nat → Nat → Prop} {Q : Nat → Prop} {v u : Nat} (h : Rch E Q v u) : ∃ (k : Nat) (c : Nat → Nat), c 0 = v ∧ c (k + 1) = u ∧ ∀ i, i ≤ k → E (c i) (c (i + 1)) ∧ Q (c (i + 1)) := by
  induction h with
  | @one u h1 h2 => exact ⟨0, fun i => if i = 0 then v else u, rfl, rfl, fun i hi => by have : i = 0 := by omega
                                                                                        subst this; exact ⟨h1, h2⟩⟩
  | @more u x _ h1 h2 ih =>
    obtain ⟨k, c, e1, e2, e3⟩ := ih
    refine ⟨k + 1, fun i => if i ≤ k + 1 then c i else x, by simp [e1], by show (if _ then _ else _) = _; rw [if_neg (by omega)], fun i hi => ?_⟩
    by_cases q : i ≤ k
    · simp only [show i ≤ k + 1 by omega, show i + 1 ≤ k + 1 by omega, if_true]
      exact e3 i q
    · have : i = k + 1 := by omega
      subst this
      simp only [Nat.le_refl, if_true, show ¬ k + 1 + 1 ≤ k + 1 by omega, if_false, e2]
      exact ⟨h1, h2⟩
theorem Rch.mono {E E' : Nat → Nat → Prop} {Q Q' : Nat → Prop} {v u : Nat} (h : Rch E Q v u) (hE : ∀ a b, E a b → E' a b) (hQ : ∀ a, Q a → Q' a) : Rch E' Q' v u := by
  induction h with
  | one h1 h2 => exact .one (hE _ _ h1) (hQ _ h2)
  | more _ h1 h2 ih => exact .more ih (hE _ _ h1) (hQ _ h2)
theorem Rch.inv {E : Nat → Nat → Prop} {Q P : Nat → Prop} {v u : Nat} (h : Rch E Q v u) (h0 : P v) (hP : ∀ a b, P a → E a b → P b) : P u := by
  induction h with
  | one h1 _ => exact hP _ _ h0 h1
  | more _ h1 _ ih => exact hP _ _ ih h1
theorem cyc_of {u k : Nat} {c : Nat → Nat} (h1 : c (k + 1) = c 0) (E : Nat → Nat → Prop) (hE : ∀ i, i ≤ k → E (c i) (c (i + 1))) : ∀ i, E (c (i % (k + 1))) (c ((i + 1) % (k + 1))) := by
  intro i
  have hi : i % (k + 1) < k + 1 := Nat.mod_lt _ (by omega)
  by_cases q : i % (k + 1) = k
  · have : (i + 1) % (k + 1) = 0 := by
      rw [Nat.add_mod, q]
      by_cases hk : k = 0
      · subst hk; rfl
      · rw [Nat.mod_eq_of_lt (a := 1) (by omega)]; simp
    rw [this, q, ← h1]; exact hE k (Nat.le_refl _)
  · have : (i + 1) % (k + 1) = i % (k + 1) + 1 := by
      rw [Nat.add_mod]
      by_cases hk : k = 0
      · subst hk; omega
      · rw [Nat.mod_eq_of_lt (a := 1) (by omega), Nat.mod_eq_of_lt (by omega)]
    rw [this]; exact hE _ (by omega)
theorem SolIn.safe {n : Nat} {O : Nat → Int} {S : Nat → List Nat} {R : Nat → Int} {W : Nat → Prop} {s : Nat → Nat} {p : Int} {E : Nat → Nat → Prop} (a : SolIn O S R (fun v => v < n) p W s) (hE : ∀ v u, W v → E v u → u ∈ S v ∧ u < n ∧ (O v = p → u = s v)) {v : Nat} (hv : W v) : ¬ Lost E R p v := by
  have clo : ∀ a b, W a → E a b → W b := fun v u hv he => by
    obtain ⟨h1, h2, h3⟩ := hE v u hv he
    by_cases ho : O v = p
    · rw [h3 ho]; exact (a.own v hv ho).2
    · exact a.opp v hv ho u h1 h2
  have nb : ∀ u, W u → ¬ Bad E R p u := by
    rintro u hu ⟨h1, h2⟩
    obtain ⟨k, c, e1, e2, e3⟩ := h2.list
    have hW : ∀ i, i ≤ k + 1 → W (c i) := by
      intro i
      induction i with
      | zero => intro _; rw [e1]; exact hu
      | succ i ih => intro hi; exact clo _ _ (ih (by omega)) (e3 i (by omega)).1
    have hlt : ∀ i, i % (k + 1) ≤ k := fun i => by have := Nat.mod_lt i (show 0 < k + 1 by omega); omega
    have hall := cyc_of (u := u) (c := c) (k := k) (by rw [e1, e2]) E (fun i hi => (e3 i hi).1)
    obtain ⟨j, j1, j2⟩ := a.cyc (fun i => c (i % (k + 1))) (k + 1) (by omega) (fun i => by show c _ = c _; rw [Nat.add_mod_right]) (fun i => hW _ (by have := hlt i; omega)) (fun i => (hE _ _ (hW _ (by have := hlt i; omega)) (hall i)).1)
      (fun i ho => (hE _ _ (hW _ (by have := hlt i; omega)) (hall i)).2.2 ho)
    have g1 := j1 0
    have g2 : R (c (j % (k + 1))) ≤ R u := by
      rcases Nat.eq_zero_or_pos (j % (k + 1)) with q | q
      · rw [q, e1]; exact Int.le_refl _
      · have := (e3 (j % (k + 1) - 1) (by have := hlt j; omega)).2
        rwa [show j % (k + 1) - 1 + 1 = j % (k + 1) by omega] at this
    simp only [Nat.zero_mod, e1] at g1
    apply h1
    rw [show R u = R (c (j % (k + 1))) by omega]; exact j2
  rintro (h | ⟨u, h1, h2⟩)
  · exact nb v hv h
  · exact nb u (h2.inv hv clo) h1
end Go.Am.Ar
set_option linter.unusedVariables false
namespace Go.Am.Ar
theorem per_top {c : Nat → Nat} {k : Nat} (hk : 0 < k) (h : ∀ i, c (i + k) = c i) (R : Nat → Int) : ∃ j, ∀ i, R (c i) ≤ R (c j) := by
  have fin : ∀ m, 0 < m → ∃ j, ∀ i, i < m → R (c i) ≤ R (c j) := by
    intro m
    induction m with
    | zero => intro h; omega
    | succ m ih =>
      intro _
      by_cases hm : m = 0
      · subst hm
        refine ⟨0, fun i hi => ?_⟩
        have : i = 0 := by omega
        subst this; exact Int.le_refl _
      · obtain ⟨j, hj⟩ := ih (by omega)
        by_cases q : R (c m) ≤ R (c j)
        · refine ⟨j, fun i hi => ?_⟩
          by_cases e : i = m
          · subst e; exact q
          · exact hj i (by omega)
        · refine ⟨m, fun i hi => ?_⟩
          by_cases e : i = m
          · subst e; exact Int.le_refl _
          · have := hj i (by omega); omega
  obtain ⟨j, hj⟩ := fin k hk
  refine ⟨j, fun i => ?_⟩
  have h1 := per_mul h (i % k) (i / k)
  rw [show i % k + i / k * k = i by rw [Nat.mul_comm]; exact Nat.mod_add_div i k] at h1
  rw [h1]; exact hj _ (Nat.mod_lt _ hk)
theorem per_flat {f : Nat → Nat} {k : Nat} (hk : 0 < k) (h : ∀ i, f (i + k) = f i) (hm : ∀ i, f (i + 1) ≤ f i) (i : Nat) : ¬ f (i + 1) < f i := by
  intro q
  have mono : ∀ d, f (i + 1 + d) ≤ f (i + 1) := by
    intro d
    induction d with
    | zero => exact Nat.le_refl _
    | succ d ih => exact Nat.le_trans (hm _) ih
  have h1 := mono (k - 1)
  rw [show i + 1 + (k - 1) = i + k by omega, h i] at h1
  omega
section
variable {n : Nat} {ns : List Nat} {O : Nat → Int} {S : Nat → List Nat} {R : Nat → Int}
theorem prog_sol {m : Nat → Nat} {s : Nat → Nat} (h8 : ns.length = 8) (hR : ∀ v, v < n → 0 ≤ R v ∧ R v ≤ 16) (hS : ∀ v, v < n → S v ≠ [] ∧ ∀ u ∈ S v, u < n) (hb : ∀ v, v < n → m v ≤ mT ns) (hfix : ∀ v, v < n → lN ns O S R m v = m v)
    (hs : ∀ v, v < n → m v < mT ns → O v = 0 → s v ∈ S v ∧ vN ns (R v).toNat (m (s v)) = m v) : SolIn O S R (fun v => v < n) 0 (fun v => v < n ∧ m v < mT ns) s := by
  have lt : ∀ v u, v < n → u < n → m v < mT ns → vN ns (R v).toNat (m u) ≤ m v → m u < mT ns := fun v u hv hu h1 h2 => by
    have := hb u hu
    by_cases e : m u = mT ns
    · rw [e, vN_top] at h2; omega
    · omega
  have opp : ∀ v, v < n → ¬ O v = 0 → ∀ u ∈ S v, vN ns (R v).toNat (m u) ≤ m v := fun v hv ho u hu => by
    rw [← hfix v hv]
    unfold lN
    rw [if_neg ho]
    exact vMax_ge (f := fun u => vN ns (R v).toNat (m u)) hu
  refine ⟨fun v h => h.1, fun v hv ho => ?_, fun v hv ho u hu hun => ⟨hun, lt v u hv.1 hun hv.2 (opp v hv.1 ho u hu)⟩, ?_⟩
  · obtain ⟨h1, h2⟩ := hs v hv.1 hv.2 ho
    have hsn := (hS v hv.1).2 _ h1
    exact ⟨h1, hsn, lt v _ hv.1 hsn hv.2 (by rw [h2]; exact Nat.le_refl _)⟩
  · intro c k hk hper hW hE hc
    obtain ⟨j, hj⟩ := per_top hk hper R
    refine ⟨j, hj, ?_⟩
    apply Classical.byContradiction
    intro hodd
    obtain ⟨hj0, hj1⟩ := hR (c j) (hW j).1
    obtain ⟨p, hp⟩ : ∃ p : Nat, R (c j) = p := ⟨(R (c j)).toNat, by omega⟩
    have hpodd : p % 2 = 1 := by omega
    have step : ∀ i, vN ns (R (c i)).toNat (m (c (i + 1))) ≤ m (c i) := fun i => by
      by_cases ho : O (c i) = 0
      · rw [hc i ho, (hs (c i) (hW i).1 (hW i).2 ho).2]; exact Nat.le_refl _
      · exact opp (c i) (hW i).1 ho _ (hE i)
    have tr : ∀ i, m (c (i + 1)) / mB ns (p / 2) ≤ m (c i) / mB ns (p / 2) := fun i => by
      have h1 := hj i
      obtain ⟨h0, _⟩ := hR (c i) (hW i).1
      exact Nat.le_trans (vN_tr (k := p / 2) (hW (i + 1)).2 (by omega)).1 (Nat.div_le_div_right (step i))
    refine per_flat hk (f := fun i => m (c i) / mB ns (p / 2)) (fun i => by show m (c (i + k)) / _ = _; rw [hper i]) tr j ?_
    have h1 := (vN_tr (ns := ns) (p := (R (c j)).toNat) (x := m (c (j + 1))) (k := p / 2) (hW (j + 1)).2 (by rw [hp]; omega)).2 (by rw [hp]; omega) (by rw [hp]; omega)
    exact Nat.lt_of_lt_of_le h1 (Nat.div_le_div_right (step j))
noncomputable def cntP (n : Nat) (P : Nat → Prop) : Nat := open Classical in ((List.range n).filter fun u => decide (P u)).length
theorem cntP_mono {P Q : Nat → Prop} (h : ∀ u, u < n → P u → Q u) : cntP n P ≤ cntP n Q := by
  unfold cntP
  induction n with
  | zero => simp
  | succ n ih =>
    have := ih (fun u hu => h u (by omega))
    rw [List.range_succ, List.filter_append, List.filter_append, List.length_append, List.length_append]
    by_cases hp : P n
    · have hq := h n (by omega) hp
      simp only [List.filter_cons, hp, hq, decide_true, if_true, List.filter_nil, List.length_cons, List.length_nil]
      omega
    · have : ([n].filter fun u => @decide (P u) (Classical.propDecidable _)).length = 0 := by simp [hp]
      omega
theorem cntP_lt {P Q : Nat → Prop} (h : ∀ u, u < n → P u → Q u) {w : Nat} (hw : w < n) (h1 : Q w) (h2 : ¬ P w) : cntP n P < cntP n Q := by
  unfold cntP
  induction n with
  | zero => omega
  | succ n ih =>
    rw [List.range_succ, List.filter_append, List.filter_append, List.length_append, List.length_append]
    by_cases e : w = n
    · subst e
      have := cntP_mono (n := w) (fun u hu => h u (by omega))
      unfold cntP at this
      have e1 : ([w].filter fun u => @decide (P u) (Classical.propDecidable _)).length = 0 := by simp [h2]
      have e2 : ([w].filter fun u => @decide (Q u) (Classical.propDecidable _)).length = 1 := by simp [h1]
      omega
    · have := ih (fun u hu => h u (by omega)) (by omega)
      by_cases hp : P n
      · have hq := h n (by omega) hp
        have e1 : ([n].filter fun u => @decide (P u) (Classical.propDecidable _)).length = 1 := by simp [hp]
        have e2 : ([n].filter fun u => @decide (Q u) (Classical.propDecidable _)).length = 1 := by simp [hq]
        omega
      · have e1 : ([n].filter fun u => @decide (P u) (Classical.propDecidable _)).length = 0 := by simp [hp]
        omega
theorem Rch.front {E : Nat → Nat → Prop} {Q : Nat → Prop} {v w u : Nat} (h1 : E v w) (h2 : Q w) (h : Rch E Q w u) : Rch E Q v u := by
  induction h with
  | one a b => exact .more (.one h1 h2) a b
  | more _ a b ih => exact .more ih a b
def seen (R : Nat → Int) (E : Nat → Nat → Prop) (v k u : Nat) : Prop := R u = ((2 * k + 1 : Nat) : Int) ∧ R v ≤ ((2 * k + 1 : Nat) : Int) ∧ (u = v ∨ Rch E (fun x => R x ≤ ((2 * k + 1 : Nat) : Int)) v u)
noncomputable def rhoC (n : Nat) (R : Nat → Int) (E : Nat → Nat → Prop) (v : Nat) : List Int := (List.range 8).map fun k => ((cntP n (seen R E v k) : Nat) : Int)
theorem rhoC_at (R : Nat → Int) (E : Nat → Nat → Prop) {v k : Nat} (hk : k < 8) : (rhoC n R E v)[k]? = some ((cntP n (seen R E v k) : Nat) : Int) := by simp [rhoC, hk]
theorem prog_low {m : Nat → Nat} {W : Nat → Prop} {s : Nat → Nat} (h8 : ns.length = 8) (hns : ∀ k c, k < 8 → ns[k]? = some c → cntP n (fun u => R u = ((2 * k + 1 : Nat) : Int)) ≤ c) (hR : ∀ v, v < n → 0 ≤ R v ∧ R v ≤ 16) (hS : ∀ v, v < n → S v ≠ [] ∧ ∀ u ∈ S v, u < n)
    (hm : LI n (mT ns) (lN ns O S R) m) (a : SolIn O S R (fun v => v < n) 0 W s) {v : Nat} (hv : W v) : m v < mT ns := by
  classical
  let E : Nat → Nat → Prop := fun x y => W x ∧ y ∈ S x ∧ (O x = 0 → y = s x)
  have hWE : ∀ x y, E x y → W y := fun x y h => by
    by_cases ho : O x = 0
    · rw [h.2.2 ho]; exact (a.own x h.1 ho).2
    · exact a.opp x h.1 ho y h.2.1 ((hS x (a.sub x h.1)).2 y h.2.1)
  have nobad : ∀ x, W x → ¬ Bad E R 0 x := fun x hx hbad =>
    a.safe (fun v u hv he => ⟨he.2.1, (hS v (a.sub v hv)).2 u he.2.1, he.2.2⟩) hx (.inl hbad)
  have ok : ∀ x, mOk ns (rhoC n R E x) := fun x => mOk_of (by simp [rhoC, h8]) fun u c k h1 h2 => by
    have hu : u < 8 := by have := (List.getElem?_eq_some_iff.1 h1).1; simpa [rhoC] using this
    rw [rhoC_at R E hu] at h1
    cases h1
    have h3 := hns u k hu h2
    have h4 := cntP_mono (n := n) (P := seen R E x u) (Q := fun w => R w = ((2 * u + 1 : Nat) : Int)) (fun w _ h => h.1)
    exact ⟨by omega, by omega⟩
  have edge : ∀ x y, E x y → vN ns (R x).toNat (mr ns (rhoC n R E y)) ≤ mr ns (rhoC n R E x) := fun x y he => by
    have hxn := a.sub x he.1
    obtain ⟨r0, r1⟩ := hR x hxn
    refine vN_pt (ok y) (ok x) (by omega) (fun h => by omega) (fun k c d hk hc hd => ?_) (fun hodd c d hc hd => ?_)
    · have hk8 : k < 8 := by have := (List.getElem?_eq_some_iff.1 hc).1; simpa [rhoC] using this
      rw [rhoC_at R E hk8] at hc hd
      cases hc; cases hd
      have := cntP_mono (n := n) (P := seen R E y k) (Q := seen R E x k) (fun u _ h => ⟨h.1, by omega, .inr (by
        rcases h.2.2 with e | e
        · subst e; exact .one he h.2.1
        · exact e.front he h.2.1)⟩)
      omega
    · have hk8 : (R x).toNat / 2 < 8 := by have := (List.getElem?_eq_some_iff.1 hc).1; simpa [rhoC] using this
      rw [rhoC_at R E hk8] at hc hd
      cases hc; cases hd
      have ex : R x = ((2 * ((R x).toNat / 2) + 1 : Nat) : Int) := by omega
      have := cntP_lt (n := n) (P := seen R E y ((R x).toNat / 2)) (Q := seen R E x ((R x).toNat / 2)) (fun u _ h => ⟨h.1, by omega, .inr (by
        rcases h.2.2 with e | e
        · subst e; exact .one he h.2.1
        · exact e.front he h.2.1)⟩) hxn ⟨ex, by omega, .inl rfl⟩ (fun h => by
          refine nobad x he.1 ⟨by omega, ?_⟩
          have hr : Rch E (fun z => R z ≤ ((2 * ((R x).toNat / 2) + 1 : Nat) : Int)) x x := by
            rcases h.2.2 with e | e
            · exact .one (e ▸ he) (by omega)
            · exact e.front he h.2.1
          exact hr.mono (fun _ _ h => h) fun z hz => by omega)
      omega
  let rho : Nat → Nat := fun x => if W x then mr ns (rhoC n R E x) else mT ns
  have hrW : ∀ x, W x → rho x = mr ns (rhoC n R E x) := fun x h => if_pos h
  have pre : PreF n (lN ns O S R) rho := fun x hx => by
    by_cases hw : W x
    · rw [hrW x hw]
      unfold lN
      by_cases ho : O x = 0
      · rw [if_pos ho]
        obtain ⟨h1, h2⟩ := a.own x hw ho
        refine Nat.le_trans (vMin_le h1) ?_
        rw [hrW _ h2]
        exact edge x (s x) ⟨hw, h1, fun _ => rfl⟩
      · rw [if_neg ho]
        obtain ⟨u, hu, e⟩ := vMax_mem (f := fun u => vN ns (R x).toNat (rho u)) (hS x hx).1
        rw [e]
        have hwu := a.opp x hw ho u hu ((hS x hx).2 u hu)
        show vN ns (R x).toNat (rho u) ≤ _
        rw [hrW u hwu]
        exact edge x u ⟨hw, hu, fun h => absurd h ho⟩
    · have : rho x = mT ns := if_neg hw
      rw [this]
      unfold lN
      split
      · obtain ⟨u, _, e⟩ := vMin_mem (f := fun u => vN ns (R x).toNat (rho u)) (hS x hx).1
        rw [e]; exact vN_le _ _
      · obtain ⟨u, _, e⟩ := vMax_mem (f := fun u => vN ns (R x).toNat (rho u)) (hS x hx).1
        rw [e]; exact vN_le _ _
  have h1 := hm.low rho pre v (a.sub v hv)
  rw [hrW v hv] at h1
  exact Nat.lt_of_le_of_lt h1 (mr_lt (ok v))
theorem sol_dis {W W' : Nat → Prop} {s s' : Nat → Nat} (hO : ∀ v, v < n → O v = 0 ∨ O v = 1) (hS : ∀ v, v < n → S v ≠ [] ∧ ∀ u ∈ S v, u < n) (a : SolIn O S R (fun v => v < n) 0 W s) (b : SolIn O S R (fun v => v < n) 1 W' s') {v : Nat} (h1 : W v) (h2 : W' v) : False := by
  refine no_both (ph := fun x => x) a b (by decide) (n := n) (fun v h => b.sub v h) (fun v _ => rfl) (fun u hu hu' => ?_) h1 h2
  have hun := a.sub u hu
  rcases hO u hun with e | e
  · obtain ⟨q, _⟩ := a.own u hu e
    have := (hS u hun).2 _ q
    exact ⟨s u, q, q, this, this, fun _ => rfl, fun h => by rw [e] at h; exact absurd h (by decide)⟩
  · obtain ⟨q, _⟩ := b.own u hu' e
    have := (hS u hun).2 _ q
    exact ⟨s' u, q, q, this, this, fun h => by rw [e] at h; exact absurd h (by decide), fun _ => rfl⟩
end
end Go.Am.Ar
set_option linter.unusedVariables false
set_option linter.unusedSimpArgs false
set_option maxRecDepth 10000
namespace Go.Am.Ar
def msC (x : Ms) : List PV := PV.bool x.top :: x.c.map (PV.int .i64)
def msL (l : List Ms) : List PV := l.flatMap msC
def limL (pr : List Int) : List Nat := tabA 8 fun k => pr.count ((2 * k + 1 : Nat) : Int)
def limC (l : List Nat) : List PV := l.map fun (n : Nat) => p64 n
def solC (f1 o1 f2 o2 f3 o3 f4 o4 : Bool) (ow pr : List Int) (su : List (List Int)) : List PV := slI f1 o1 .u8 ow :: slI f2 o2 .i64 pr :: slR f3 o3 f4 o4 .i64 su :: limC (limL pr)
abbrev slM (f o : Bool) (l : List Ms) : PV := .sl f o 9 l.length (msL l)
def Ms.put (x : Ms) (k : Nat) (c : Int) : Ms := ⟨x.top, x.c.set k c, by simp [x.h]⟩
theorem msC_len (x : Ms) : (msC x).length = 9 := by simp [msC, x.h]
theorem limL_len (pr : List Int) : (limL pr).length = 8 := tabA_len _ _
theorem limC_len (pr : List Int) : (limC (limL pr)).length = 8 := by simp [limC, limL_len]
theorem msC_one (x : Ms) : (msC x).all PV.one = true := by simp [msC, PV.one]
theorem limC_one (l : List Nat) : (limC l).all PV.one = true := by simp [limC, PV.one]
theorem msC_und (m : Nat) (x : Ms) : underL m (msC x) = true := by
  unfold msC; rw [underL_cons, underL_ints]; simp [PV.under]
theorem limC_und (m : Nat) (l : List Nat) : underL m (limC l) = true := by
  unfold limC; exact underL_map _ _ (fun _ => by simp [PV.under]) _
theorem msC_0 (x : Ms) : (msC x)[0]? = some (.bool x.top) := rfl
theorem msC_at {x : Ms} {k : Nat} {c : Int} (h : x.c[k]? = some c) : (msC x)[1 + k]? = some (p64 c) := by
  rw [Nat.add_comm]; unfold msC; simp [h]
theorem msC_set (x : Ms) (k : Nat) (c : Int) : (msC x).set (1 + k) (p64 c) = msC (x.put k c) := by
  rw [Nat.add_comm]; unfold msC Ms.put; simp [List.map_set]
theorem psub_msC (x : Ms) : psub (msC x) 0 9 = msC x := psub_all _ _ (msC_len x).symm
theorem psub_limC (pr : List Int) : psub (limC (limL pr)) 0 8 = limC (limL pr) := psub_all _ _ (limC_len pr).symm
theorem pover_eq {a b : List PV} (h : a.length = b.length) (h2 : 2 ≤ b.length) : pover a 0 b = b := by
  match b, h2 with
  | x :: y :: l, _ =>
    show a.take 0 ++ (x :: y :: l) ++ a.drop (0 + (x :: y :: l).length) = x :: y :: l
    rw [List.drop_of_length_le (by rw [h]; simp)]; simp
theorem pover_msC (x y : Ms) : pover (msC y) 0 (msC x) = msC x := pover_eq (by rw [msC_len, msC_len]) (by rw [msC_len]; decide)
def lim0 : List Nat := List.replicate 8 0
theorem z8 : [p64 0, p64 0, p64 0, p64 0, p64 0, p64 0, p64 0, p64 0] = limC lim0 := rfl
theorem z9 : PV.bool false :: limC lim0 = msC mz := rfl
theorem z9t : (msC mz).set 0 (.bool true) = msC mtop := rfl
theorem pover_limC (pr : List Int) : pover (limC lim0) 0 (limC (limL pr)) = limC (limL pr) := pover_eq (by rw [limC_len]; rfl) (by rw [limC_len]; decide)
theorem limC_at {l : List Nat} {k n : Nat} (h : l[k]? = some n) : (limC l)[k]? = some (p64 n) := by unfold limC; simp [h]
theorem limC_set (l : List Nat) (k n : Nat) : (limC l).set k (p64 n) = limC (l.set k n) := by unfold limC; simp [List.map_set]
section
variable {f1 o1 f2 o2 f3 o3 f4 o4 : Bool} {ow pr : List Int} {su : List (List Int)}
theorem solC_0 : (solC f1 o1 f2 o2 f3 o3 f4 o4 ow pr su)[0]? = some (slI f1 o1 .u8 ow) := rfl
theorem solC_1 : (solC f1 o1 f2 o2 f3 o3 f4 o4 ow pr su)[1]? = some (slI f2 o2 .i64 pr) := rfl
theorem solC_2 : (solC f1 o1 f2 o2 f3 o3 f4 o4 ow pr su)[2]? = some (slR f3 o3 f4 o4 .i64 su) := rfl
theorem solC_at {k n : Nat} (h : (limL pr)[k]? = some n) : (solC f1 o1 f2 o2 f3 o3 f4 o4 ow pr su)[3 + k]? = some (p64 n) := by
  rw [Nat.add_comm]; exact limC_at h
theorem solC_und (m : Nat) : underL m (solC f1 o1 f2 o2 f3 o3 f4 o4 ow pr su) = true := by
  unfold solC
  simp only [underL_cons, under_slI, under_slR, limC_und, Bool.and_self]
end
theorem pcells_cp (cs : List PV) (o : Nat) : pcells (.cp cs o) = [.cp cs o] := (rfl)
theorem one_cp (cs : List PV) (o : Nat) : PV.one (.cp cs o) = true := (rfl)
theorem limC_len0 : (limC lim0).length = 8 := rfl
theorem pfrzL_msC (n : Nat) (M : Mem) (x : Ms) : pfrzL n M (msC x) = some (msC x) := pfrzL_under (msC_und _ _)
theorem pfrzL_limC (n : Nat) (M : Mem) (l : List Nat) : pfrzL n M (limC l) = some (limC l) := pfrzL_under (limC_und _ _)
theorem msL_len (l : List Ms) : (msL l).length = l.length * 9 := by
  unfold msL
  induction l with
  | nil => rfl
  | cons x l ih => rw [List.flatMap_cons, List.length_append, ih, msC_len, List.length_cons, Nat.add_mul]; omega
theorem msL_one (l : List Ms) : (msL l).all PV.one = true := by
  unfold msL
  induction l with
  | nil => rfl
  | cons x l ih => rw [List.flatMap_cons, List.all_append, ih, msC_one]; rfl
theorem msL_und (m : Nat) (l : List Ms) : underL m (msL l) = true := by
  unfold msL
  induction l with
  | nil => exact underL_nil _
  | cons x l ih => rw [List.flatMap_cons, underL_append, ih, msC_und]; rfl
theorem under_slM (m : Nat) (f o : Bool) (sz n : Nat) (l : List Ms) : PV.under m (.sl f o sz n (msL l)) = true := by
  simp only [PV.under]; exact msL_und m l
theorem msL_app (l : List Ms) (x : Ms) : msL l ++ msC x = msL (l ++ [x]) := by simp [msL]
theorem msL_split {l : List Ms} {k : Nat} {x : Ms} (h : l[k]? = some x) : ∃ a b, msL l = a ++ msC x ++ b ∧ a.length = k * 9 ∧ (∀ y, msL (l.set k y) = a ++ msC y ++ b) := by
  obtain ⟨hk, e⟩ := List.getElem?_eq_some_iff.1 h
  refine ⟨msL (l.take k), msL (l.drop (k + 1)), ?_, ?_, fun y => ?_⟩
  · conv => lhs; rw [← List.take_append_drop k l, List.drop_eq_getElem_cons hk, e]
    simp [msL]
  · rw [msL_len]; simp; omega
  · rw [List.set_eq_take_append_cons_drop, if_pos hk]
    simp [msL]
theorem psub_msL {l : List Ms} {k : Nat} {x : Ms} (h : l[k]? = some x) : psub (msL l) (k * 9) 9 = msC x := by
  obtain ⟨a, b, h1, h2, _⟩ := msL_split h
  unfold psub
  rw [h1, ← h2, List.append_assoc, List.drop_left, List.take_left' (msC_len x)]
theorem msL_at0 {l : List Ms} {k : Nat} {x : Ms} (h : l[k]? = some x) : (msL l)[k * 9]? = some (.bool x.top) := by
  obtain ⟨a, b, h1, h2, _⟩ := msL_split h
  rw [h1, ← h2, List.append_assoc, List.getElem?_append_right (Nat.le_refl _), Nat.sub_self]; rfl
theorem pover_msL {l : List Ms} {k : Nat} (y : Ms) (h : k < l.length) : pover (msL l) (k * 9) (msC y) = msL (l.set k y) := by
  obtain ⟨a, b, h1, h2, h3⟩ := msL_split (List.getElem?_eq_getElem h)
  rw [h3, h1, ← h2]
  have e : msC y = PV.bool y.top :: y.c.map (PV.int .i64) := rfl
  have hl : (msC y).length = 9 := msC_len y
  have hc : ∃ c cs, y.c.map (PV.int .i64) = c :: cs := by
    cases q : y.c.map (PV.int .i64) with
    | nil => rw [e, q] at hl; simp at hl
    | cons c cs => exact ⟨c, cs, rfl⟩
  obtain ⟨c, cs, q⟩ := hc
  have : pover (a ++ msC (l[k]) ++ b) a.length (msC y) = (a ++ msC l[k] ++ b).take a.length ++ msC y ++ (a ++ msC l[k] ++ b).drop (a.length + (msC y).length) := by
    rw [e, q]; rfl
  rw [this, hl, ← msC_len l[k], ← List.length_append, List.drop_left, List.append_assoc a, List.take_left' rfl]
theorem prepl_ms (n : Nat) : prepl n (msC mz) = msL (List.replicate n mz) := by
  induction n with
  | zero => rfl
  | succ n ih => show msC mz ++ prepl n (msC mz) = _; rw [ih, List.replicate_succ]; rfl
theorem ms_lt {l : List Ms} {k : Nat} {x : Ms} (h : l[k]? = some x) : k * 9 + 9 ≤ l.length * 9 := by
  have := getSome_lt h; omega
instance : DecidableEq Ms := fun x y => if h : x.top = y.top ∧ x.c = y.c then isTrue (Ms.ext' h.1 h.2) else isFalse fun e => h (by subst e; exact ⟨rfl, rfl⟩)
def Ms.fit (x : Ms) : Prop := ∀ c ∈ x.c, -9223372036854775808 ≤ c ∧ c ≤ 9223372036854775807
theorem toAVs_ints : ∀ l : List Int, toAVs (l.map (PV.int .i64)) = some (l.map (AV.int .i64))
  | [] => rfl
  | x :: l => by
    show (match toAV0 (PV.int .i64 x), toAVs (l.map (PV.int .i64)) with | some x, some xs => some (x :: xs) | _, _ => none) = _
    rw [toAVs_ints l]; rfl
theorem kHas_i64 {c : Int} (h : -9223372036854775808 ≤ c ∧ c ≤ 9223372036854775807) : kHas .i64 c = true := by
  unfold kHas; simp; exact h
theorem eqC_ints : ∀ {a b : List Int}, a.length = b.length → (∀ c ∈ a, -9223372036854775808 ≤ c ∧ c ≤ 9223372036854775807) → (∀ c ∈ b, -9223372036854775808 ≤ c ∧ c ≤ 9223372036854775807) → aEqCells (List.replicate a.length (some .i64)) (a.map (AV.int .i64)) (b.map (AV.int .i64)) = some (decide (a = b))
  | [], [], _, _, _ => rfl
  | x :: a, y :: b, hl, ha, hb => by
    have ih := eqC_ints (a := a) (b := b) (by simpa using hl) (fun c h => ha c (List.mem_cons_of_mem _ h)) (fun c h => hb c (List.mem_cons_of_mem _ h))
    rw [List.length_cons, List.replicate_succ, List.map_cons, List.map_cons]
    unfold aEqCells
    rw [if_pos ⟨rfl, rfl, kHas_i64 (ha x (by simp)), kHas_i64 (hb y (by simp))⟩, ih]
    simp only [Option.some.injEq, List.cons.injEq]
    by_cases e : x = y <;> by_cases e2 : a = b <;> simp [e, e2]
  | [], _ :: _, h, _, _ => by simp at h
  | _ :: _, [], h, _, _ => by simp at h
theorem peq_msC {x y : Ms} (hx : x.fit) (hy : y.fit) : peqCells [none, some .i64, some .i64, some .i64, some .i64, some .i64, some .i64, some .i64, some .i64] (msC x) (msC y) = some (decide (x = y)) := by
  have h := eqC_ints (a := x.c) (b := y.c) (by rw [x.h, y.h]) hx hy
  rw [x.h] at h
  unfold peqCells msC
  have e1 : ∀ z : Ms, toAVs (PV.bool z.top :: z.c.map (PV.int .i64)) = some (AV.bool z.top :: z.c.map (AV.int .i64)) := fun z => by
    show (match toAV0 (PV.bool z.top), toAVs (z.c.map (PV.int .i64)) with | some x, some xs => some (x :: xs) | _, _ => none) = _
    rw [toAVs_ints]; rfl
  rw [e1 x, e1 y]
  show aEqCells (none :: List.replicate 8 (some .i64)) (AV.bool x.top :: x.c.map (AV.int .i64)) (AV.bool y.top :: y.c.map (AV.int .i64)) = _
  unfold aEqCells
  rw [h]
  simp only [Option.some.injEq]
  by_cases e : x = y
  · subst e; simp
  · rw [decide_eq_false e]
    by_cases e1 : x.top = y.top
    · have : x.c ≠ y.c := fun q => e (Ms.ext' e1 q)
      simp [this]
    · have : (x.top == y.top) = false := by simpa using e1
      rw [this]; rfl
theorem Ms.Ok.fit {ns : List Nat} {x : Ms} (h : x.Ok ns) (hn : ∀ n ∈ ns, n < 1000000000000) : x.fit := fun c hc => by
  obtain ⟨k, hk⟩ := List.getElem?_of_mem hc
  have hl := mOk_len h.1
  have hk2 : k < ns.length := by have := getSome_lt hk; omega
  have key : ∀ {ns : List Nat} {cs : List Int}, mOk ns cs → ∀ {u : Nat} {c : Int} {n : Nat}, cs[u]? = some c → ns[u]? = some n → 0 ≤ c ∧ c ≤ n := by
    intro ns
    induction ns with
    | nil => intro cs h u c n hx hy; simp at hy
    | cons n ns ih =>
      intro cs h u c m hx hy
      cases cs with
      | nil => exact h.elim
      | cons a cs =>
        cases u with
        | zero => simp at hx hy; subst hx; subst hy; exact ⟨h.1, h.2.1⟩
        | succ u => exact ih h.2.2 (by simpa using hx) (by simpa using hy)
  have h1 := key h.1 hk (List.getElem?_eq_getElem hk2)
  have h2 := hn _ (List.getElem_mem hk2)
  omega
theorem limL_lt {pr : List Int} (hb : pr.length < 1000000000000) : ∀ n ∈ limL pr, n < 1000000000000 := fun n hn => by
  obtain ⟨v, _, rfl⟩ := tabA_mem hn
  have : pr.count ((2 * v + 1 : Nat) : Int) ≤ pr.length := List.count_le_length
  omega
end Go.Am.Ar
set_option linter.unusedVariables false
set_option linter.unusedSimpArgs false
set_option maxRecDepth 10000
namespace Go.Am.Ar
open Go.Am renaming pchk → P1, pold → P2, PKNo → P3, ppack → P4, PObj.under → P5, pput → P6, ptset → P7, ptget → P8, pev → P9, ofAV → P10, ofAV1 → P11, ppad → P12, pfill → P13, prepl → P14, AO.effect → P15
open List renaming replicate → L1
open Nat renaming reduceAdd → N1, reduceSub → N2, reduceMul → N3, reduceLT → N4, reduceLeDiff → N5, reduceEqDiff → N6, reduceBEq → N7
open Int renaming reduceToNat → I1, reduceLT → I2, reduceLE → I3, reduceEq → I4, reduceAdd → I5, reduceSub → I6, reduceNeg → I7
theorem Ms.get {x : Ms} {k : Nat} (h : k < 8) : ∃ c, x.c[k]? = some c := some_of (by rw [x.h]; exact h)
theorem wrap_pred {j : Nat} (h : j < 1000000000000) : IntKind.i64.wrap ((j : Int) - 1) = (j : Int) - 1 := wrap64 (by omega) (by omega)
section
variable {tab : FuncId → Option AF} (T : HasA tab)
include T
theorem isNaN_p {M : Mem} {K : PV → Mem → Prop} {a : Int} (hk : K (.bool false) M) : SemC tab 65 [p64 a] M K := by
  refine SemC_pure T.h65 (by simp only [PP, P1, P2, P3, P4, P5, P6, P7, P8, P9, P10, P11, P12, P13, P14, L1, P15, N1, N2, N3, N4, N5, N6, N7, I1, I2, I3, I4, I5, I6, I7, reduceIte, reduceCtorEq]) ?_
  simp only [af65, PP, P1, P2, P3, P4, P5, P6, P7, P8, P9, P10, P11, P12, P13, P14, L1, P15, N1, N2, N3, N4, N5, N6, N7, I1, I2, I3, I4, I5, I6, I7, reduceIte, reduceCtorEq]
  exact hk
theorem cmp_p {M : Mem} {K : PV → Mem → Prop} {a b : Int} (hk : K (p64 (cmpI a b)) M) : SemC tab 41 [p64 a, p64 b] M K := by
  refine SemC_pure T.h41 (by simp only [PP, P1, P2, P3, P4, P5, P6, P7, P8, P9, P10, P11, P12, P13, P14, L1, P15, N1, N2, N3, N4, N5, N6, N7, I1, I2, I3, I4, I5, I6, I7, reduceIte, reduceCtorEq]) ?_
  simp only [af41, PP, P1, P2, P3, P4, P5, P6, P7, P8, P9, P10, P11, P12, P13, P14, L1, P15, N1, N2, N3, N4, N5, N6, N7, I1, I2, I3, I4, I5, I6, I7, reduceIte, reduceCtorEq]
  refine isNaN_p T ?_
  simp only [PP, P1, P2, P3, P4, P5, P6, P7, P8, P9, P10, P11, P12, P13, P14, L1, P15, N1, N2, N3, N4, N5, N6, N7, I1, I2, I3, I4, I5, I6, I7, reduceIte, reduceCtorEq]
  refine isNaN_p T ?_
  simp only [PP, P1, P2, P3, P4, P5, P6, P7, P8, P9, P10, P11, P12, P13, P14, L1, P15, N1, N2, N3, N4, N5, N6, N7, I1, I2, I3, I4, I5, I6, I7, reduceIte, reduceCtorEq]
  refine QIf.intro (fun c => ?_) (fun c => ?_)
  · simp only [PP, P1, P2, P3, P4, P5, P6, P7, P8, P9, P10, P11, P12, P13, P14, L1, P15, N1, N2, N3, N4, N5, N6, N7, I1, I2, I3, I4, I5, I6, I7, reduceIte, reduceCtorEq, c]
    rw [cmpI_lt c] at hk; exact hk
  · simp only [PP, P1, P2, P3, P4, P5, P6, P7, P8, P9, P10, P11, P12, P13, P14, L1, P15, N1, N2, N3, N4, N5, N6, N7, I1, I2, I3, I4, I5, I6, I7, reduceIte, reduceCtorEq, c]
    refine QIf.intro (fun d => ?_) (fun d => ?_)
    · simp only [PP, P1, P2, P3, P4, P5, P6, P7, P8, P9, P10, P11, P12, P13, P14, L1, P15, N1, N2, N3, N4, N5, N6, N7, I1, I2, I3, I4, I5, I6, I7, reduceIte, reduceCtorEq, d]
      rw [cmpI_gt d] at hk; exact hk
    · simp only [PP, P1, P2, P3, P4, P5, P6, P7, P8, P9, P10, P11, P12, P13, P14, L1, P15, N1, N2, N3, N4, N5, N6, N7, I1, I2, I3, I4, I5, I6, I7, reduceIte, reduceCtorEq, d]
      rw [show cmpI a b = 0 from by rw [cmpI_zero]; omega] at hk; exact hk
theorem compare_p {M : Mem} {K : PV → Mem → Prop} {x y : Ms} (hk : K (p64 (cmpM x y)) M) : SemC tab 13 [.agg (msC x), .agg (msC y)] M K := by
  refine SemC_pure T.h13 (by simp only [PP, P1, P2, P3, P4, P5, P6, P7, P8, P9, P10, P11, P12, P13, P14, L1, P15, N1, N2, N3, N4, N5, N6, N7, I1, I2, I3, I4, I5, I6, I7, reduceIte, reduceCtorEq, msC_len, msC_one, msC_und, under_slM, msC_0, psub_msC, pover_msC, z9, z9t, msL_len, msL_und, msL_one, prepl_ms, limC_len, limC_one, limC_und, limC_len0, pfrzL_msC, pfrzL_limC, psub_limC, pover_limC, z8, pcells_cp, one_cp, solC_und, solC_0, solC_1, solC_2]) ?_
  simp only [af13, PP, P1, P2, P3, P4, P5, P6, P7, P8, P9, P10, P11, P12, P13, P14, L1, P15, N1, N2, N3, N4, N5, N6, N7, I1, I2, I3, I4, I5, I6, I7, reduceIte, reduceCtorEq, msC_len, msC_one, msC_und, under_slM, msC_0, psub_msC, pover_msC, z9, z9t, msL_len, msL_und, msL_one, prepl_ms, limC_len, limC_one, limC_und, limC_len0, pfrzL_msC, pfrzL_limC, psub_limC, pover_limC, z8, pcells_cp, one_cp, solC_und, solC_0, solC_1, solC_2]
  unfold cmpM at hk
  cases hx : x.top with
  | true =>
    rw [hx, if_pos rfl] at hk
    cases hy : y.top with
    | true => rw [hy, if_pos rfl] at hk; simp only [PP, P1, P2, P3, P4, P5, P6, P7, P8, P9, P10, P11, P12, P13, P14, L1, P15, N1, N2, N3, N4, N5, N6, N7, I1, I2, I3, I4, I5, I6, I7, reduceIte, reduceCtorEq, msC_len, msC_one, msC_und, under_slM, msC_0, psub_msC, pover_msC, z9, z9t, msL_len, msL_und, msL_one, prepl_ms, limC_len, limC_one, limC_und, limC_len0, pfrzL_msC, pfrzL_limC, psub_limC, pover_limC, z8, pcells_cp, one_cp, solC_und, solC_0, solC_1, solC_2, hx, hy]; exact hk
    | false => rw [hy, if_neg (by decide)] at hk; simp only [PP, P1, P2, P3, P4, P5, P6, P7, P8, P9, P10, P11, P12, P13, P14, L1, P15, N1, N2, N3, N4, N5, N6, N7, I1, I2, I3, I4, I5, I6, I7, reduceIte, reduceCtorEq, msC_len, msC_one, msC_und, under_slM, msC_0, psub_msC, pover_msC, z9, z9t, msL_len, msL_und, msL_one, prepl_ms, limC_len, limC_one, limC_und, limC_len0, pfrzL_msC, pfrzL_limC, psub_limC, pover_limC, z8, pcells_cp, one_cp, solC_und, solC_0, solC_1, solC_2, hx, hy]; exact hk
  | false =>
    rw [hx, if_neg (by decide)] at hk
    cases hy : y.top with
    | true => rw [hy, if_pos rfl] at hk; simp only [PP, P1, P2, P3, P4, P5, P6, P7, P8, P9, P10, P11, P12, P13, P14, L1, P15, N1, N2, N3, N4, N5, N6, N7, I1, I2, I3, I4, I5, I6, I7, reduceIte, reduceCtorEq, msC_len, msC_one, msC_und, under_slM, msC_0, psub_msC, pover_msC, z9, z9t, msL_len, msL_und, msL_one, prepl_ms, limC_len, limC_one, limC_und, limC_len0, pfrzL_msC, pfrzL_limC, psub_limC, pover_limC, z8, pcells_cp, one_cp, solC_und, solC_0, solC_1, solC_2, hx, hy]; exact hk
    | false =>
      rw [hy, if_neg (by decide)] at hk
      simp only [PP, P1, P2, P3, P4, P5, P6, P7, P8, P9, P10, P11, P12, P13, P14, L1, P15, N1, N2, N3, N4, N5, N6, N7, I1, I2, I3, I4, I5, I6, I7, reduceIte, reduceCtorEq, msC_len, msC_one, msC_und, under_slM, msC_0, psub_msC, pover_msC, z9, z9t, msL_len, msL_und, msL_one, prepl_ms, limC_len, limC_one, limC_und, limC_len0, pfrzL_msC, pfrzL_limC, psub_limC, pover_limC, z8, pcells_cp, one_cp, solC_und, solC_0, solC_1, solC_2, hx, hy]
      refine loop1 (fun (k : Int) => -1 ≤ k ∧ k ≤ 7 ∧ cmpC (x.c.drop (k + 1).toNat) (y.c.drop (k + 1).toNat) = 0) (fun k => [.junk, .junk, .ptr 0 0 0, .ptr 1 0 0, .junk, p64 k, .junk, .junk, .junk, .junk, .junk, .junk, .junk, .junk, .junk, .junk, .junk, .junk, .junk, .junk, .junk, .junk, .junk, .junk, .junk, .junk, .junk, .junk, .junk, .junk, .junk, .junk, .junk, .junk, .junk, .junk])
        (fun k => [.cells 0 0 (msC x), .cells 0 0 (msC y)]) (fun k => (k + 1).toNat) 7 ⟨by decide, by decide, by
          rw [List.drop_of_length_le (by rw [x.h]; decide)]; rfl⟩ (by simp only [PWeak_nil, PWeak_junk, PWeak_same, Int.cast_ofNat_Int, List.length_append, List.length_cons, List.length_nil, Nat.zero_add]) rfl ?_
      intro k ⟨h1, h2, h3⟩ ih
      refine SemW_go (by kernel_rfl) ?_
      simp only [PP, P1, P2, P3, P4, P5, P6, P7, P8, P9, P10, P11, P12, P13, P14, L1, P15, N1, N2, N3, N4, N5, N6, N7, I1, I2, I3, I4, I5, I6, I7, reduceIte, reduceCtorEq]
      refine QIf.intro (fun c => ?_) (fun c => ?_)
      · obtain ⟨j, rfl⟩ : ∃ j : Nat, k = j := ⟨k.toNat, by omega⟩
        have j8 : (j : Int) < 8 := by omega
        obtain ⟨a, ga⟩ := Ms.get (x := x) (k := j) (by omega)
        obtain ⟨b, gb⟩ := Ms.get (x := y) (k := j) (by omega)
        have g1 := msC_at ga
        have g2 := msC_at gb
        have hwk := wrap_pred (j := j) (by omega)
        have ej : ((j : Int) + 1).toNat = j + 1 := by omega
        rw [ej] at h3
        have h4 := cmpC_at ga gb h3
        simp only [PP, P1, P2, P3, P4, P5, P6, P7, P8, P9, P10, P11, P12, P13, P14, L1, P15, N1, N2, N3, N4, N5, N6, N7, I1, I2, I3, I4, I5, I6, I7, reduceIte, reduceCtorEq, c, j8, g1, g2]
        refine cmp_p T ?_
        simp only [PP, P1, P2, P3, P4, P5, P6, P7, P8, P9, P10, P11, P12, P13, P14, L1, P15, N1, N2, N3, N4, N5, N6, N7, I1, I2, I3, I4, I5, I6, I7, reduceIte, reduceCtorEq]
        by_cases e : cmpI a b = 0
        · simp only [PP, P1, P2, P3, P4, P5, P6, P7, P8, P9, P10, P11, P12, P13, P14, L1, P15, N1, N2, N3, N4, N5, N6, N7, I1, I2, I3, I4, I5, I6, I7, reduceIte, reduceCtorEq, e, hwk]
          refine SemW_weak (ih ((j : Int) - 1) ⟨by omega, by omega, ?_⟩ (by omega)) (by simp only [PWeak_nil, PWeak_junk, PWeak_same, Int.cast_ofNat_Int, List.length_append, List.length_cons, List.length_nil, Nat.zero_add])
          rw [show ((j : Int) - 1 + 1).toNat = j by omega, h4]; exact e
        · simp only [PP, P1, P2, P3, P4, P5, P6, P7, P8, P9, P10, P11, P12, P13, P14, L1, P15, N1, N2, N3, N4, N5, N6, N7, I1, I2, I3, I4, I5, I6, I7, reduceIte, reduceCtorEq, e]
          rw [cmpC_drop j (by rw [h4]; exact e), h4] at hk; exact hk
      · have : k = -1 := by omega
        subst this
        have h3 : cmpC x.c y.c = 0 := by simpa using h3
        rw [h3] at hk
        simp only [PP, P1, P2, P3, P4, P5, P6, P7, P8, P9, P10, P11, P12, P13, P14, L1, P15, N1, N2, N3, N4, N5, N6, N7, I1, I2, I3, I4, I5, I6, I7, reduceIte, reduceCtorEq]
        exact hk
end
end Go.Am.Ar
set_option linter.unusedVariables false
set_option linter.unusedSimpArgs false
set_option maxRecDepth 10000
namespace Go.Am.Ar
open Go.Am renaming pchk → P1, pold → P2, PKNo → P3, ppack → P4, PObj.under → P5, pput → P6, ptset → P7, ptget → P8, pev → P9, ofAV → P10, ofAV1 → P11, ppad → P12, pfill → P13, prepl → P14, AO.effect → P15
open List renaming replicate → L1
open Nat renaming reduceAdd → N1, reduceSub → N2, reduceMul → N3, reduceLT → N4, reduceLeDiff → N5, reduceEqDiff → N6, reduceBEq → N7
open Int renaming reduceToNat → I1, reduceLT → I2, reduceLE → I3, reduceEq → I4, reduceAdd → I5, reduceSub → I6, reduceNeg → I7
theorem zs_get {l : List Int} {k : Nat} : (List.replicate k (0 : Int) ++ l.drop k)[k]? = l[k]? := by
  rw [List.getElem?_append_right (by simp), List.length_replicate, Nat.sub_self, List.getElem?_drop, Nat.add_zero]
theorem zs_set {l : List Int} {k : Nat} (y : Int) (h : k < l.length) : (List.replicate k (0 : Int) ++ l.drop k).set k y = List.replicate k 0 ++ y :: l.drop (k + 1) := by
  rw [List.set_append_right _ _ (by simp), List.length_replicate, Nat.sub_self, List.drop_eq_getElem_cons h, List.set_cons_zero]
theorem zs_zero {l : List Int} {k : Nat} (h : k < l.length) : (List.replicate k (0 : Int) ++ l.drop k).set k 0 = List.replicate (k + 1) 0 ++ l.drop (k + 1) := by
  rw [zs_set 0 h, List.replicate_succ', List.append_assoc]; rfl
section
variable {ns : List Nat} {x y : Ms} {q k : Nat}
theorem num_ft (ht : x.top = false) : x.num ns = mr ns x.c := by unfold Ms.num; rw [ht, if_neg (by decide)]
theorem via_zero (h : x.Ok ns) (ht : x.top = false) (hl : ns.length = 8) (hq : q ≤ 8) (hy : y.top = false) (hc : y.c = List.replicate q 0 ++ x.c.drop q) : y.Ok ns ∧ y.num ns = (x.num ns / mB ns q) * mB ns q := by
  have h1 := mOk_drop q h.1
  refine ⟨⟨by rw [hc]; exact mOk_zeros q (by omega) h1, fun e => by rw [hy] at e; cases e⟩, ?_⟩
  rw [num_ft hy, num_ft ht, hc, mr_zeros q (by simp [x.h]; omega), mr_div q h.1, Nat.mul_comm]
def FullTo (ns : List Nat) (x : Ms) (q k : Nat) : Prop := ∀ (i : Nat) (c : Int) (n : Nat), q ≤ i → i < k → x.c[i]? = some c → ns[i]? = some n → c = n
theorem up_eq (h : x.Ok ns) (hl : ns.length = 8) : ∀ {k : Nat}, q ≤ k → k ≤ 8 → FullTo ns x q k → (mr (ns.drop k) (x.c.drop k) + 1) * mB ns k = (mr (ns.drop q) (x.c.drop q) + 1) * mB ns q
  | 0, h1, h2, hf => by
    have : q = 0 := by omega
    subst this; rfl
  | k + 1, h1, h2, hf => by
    by_cases e : q = k + 1
    · subst e; rfl
    · rw [← up_eq h hl (k := k) (by omega) (by omega) (fun i c n a b => hf i c n a (by omega))]
      obtain ⟨n, gn⟩ : ∃ n, ns[k]? = some n := ⟨_, List.getElem?_eq_getElem (by omega)⟩
      obtain ⟨c, gc⟩ := Ms.get (x := x) (k := k) (by omega)
      have e1 := hf k c n (by omega) (by omega) gc gn
      rw [mB_succ gn, drop_get gn, drop_get gc]
      show _ = (c.toNat + (n + 1) * mr (ns.drop (k + 1)) (x.c.drop (k + 1)) + 1) * mB ns k
      rw [e1, Int.toNat_natCast, show n + (n + 1) * mr (ns.drop (k + 1)) (x.c.drop (k + 1)) + 1 = (n + 1) * (mr (ns.drop (k + 1)) (x.c.drop (k + 1)) + 1) by rw [Nat.mul_add]; omega]
      rw [Nat.mul_comm (mB ns k), ← Nat.mul_assoc, Nat.mul_comm (n + 1)]
theorem via_inc (h : x.Ok ns) (ht : x.top = false) (hl : ns.length = 8) (hq : q ≤ k) (hk : k < 8) (hf : FullTo ns x q k) {c : Int} {n : Nat} (gc : x.c[k]? = some c) (gn : ns[k]? = some n) (hlt : c < n) (hy : y.top = false)
    (hc : y.c = List.replicate k 0 ++ (c + 1) :: x.c.drop (k + 1)) : y.Ok ns ∧ y.num ns = (x.num ns / mB ns q + 1) * mB ns q := by
  have h1 := mOk_drop k h.1
  rw [drop_get gn, drop_get gc] at h1
  have hd : mOk (ns.drop k) ((c + 1) :: x.c.drop (k + 1)) := by
    rw [drop_get gn]; exact ⟨by have := h1.1; omega, by omega, h1.2.2⟩
  refine ⟨⟨by rw [hc]; exact mOk_zeros k (by omega) hd, fun e => by rw [hy] at e; cases e⟩, ?_⟩
  rw [num_ft hy, num_ft ht, hc, mr_zeros k (by simp [x.h]; omega), mr_div q h.1, ← up_eq h hl hq (by omega) hf, Nat.mul_comm, drop_get gn, drop_get gc]
  congr 1
  show (c + 1).toNat + (n + 1) * _ = c.toNat + (n + 1) * _ + 1
  have := h1.1
  omega
theorem via_full (h : x.Ok ns) (ht : x.top = false) (hl : ns.length = 8) (hq : q ≤ 8) (hf : FullTo ns x q 8) : mT ns = (x.num ns / mB ns q + 1) * mB ns q := by
  rw [num_ft ht, mr_div q h.1, ← up_eq h hl hq (Nat.le_refl _) hf, List.drop_of_length_le (by omega), mT_split ns 8, List.drop_of_length_le (by omega)]
  simp [mr, mT]
theorem Ms.num_lt (h : x.Ok ns) (ht : x.top = false) : x.num ns < mT ns := by rw [num_ft ht]; exact mr_lt h.1
end
def PrOk (pr : List Int) : Prop := pr.length < 1000000000000 ∧ ∀ x ∈ pr, 0 ≤ x ∧ x ≤ 16
theorem limL_at (pr : List Int) {q : Nat} (h : q < 8) : (limL pr)[q]? = some (pr.count ((2 * q + 1 : Nat) : Int)) := tabA_get h
theorem limL_even {pr : List Int} {k : Nat} {x : Int} (g : pr[k]? = some x) (h : x % 2 = 0) : limL (pr.take (k + 1)) = limL (pr.take k) := tabA_congr fun v hv => by
  rw [take_some g, List.count_append, List.count_singleton]
  have : ¬ (x == ((2 * v + 1 : Nat) : Int)) = true := by simp; omega
  rw [if_neg this]; rfl
theorem limL_odd {pr : List Int} {k q : Nat} {x : Int} (g : pr[k]? = some x) (h : x = ((2 * q + 1 : Nat) : Int)) (hq : q < 8) : (limL (pr.take k)).set q ((pr.take k).count ((2 * q + 1 : Nat) : Int) + 1) = limL (pr.take (k + 1)) := by
  unfold limL
  rw [tabA_set _ hq]
  refine tabA_congr fun v hv => ?_
  rw [take_some g, List.count_append, List.count_singleton]
  by_cases e : v = q
  · subst e; rw [if_pos rfl, if_pos (by simp [h])]
  · rw [if_neg e, if_neg (by simp [h]; omega)]; rfl
section
variable {tab : FuncId → Option AF} (T : HasA tab)
include T
theorem newSolver_p {M : Mem} {K : PV → Mem → Prop} {f1 o1 f2 o2 f3 o3 f4 o4 : Bool} {ow pr : List Int} {su : List (List Int)} (P : PrOk pr) (hk : K (.cp (solC f1 o1 f2 o2 f3 o3 f4 o4 ow pr su) 0) M) :
    SemC tab 37 [gmP f1 o1 f2 o2 f3 o3 f4 o4 ow pr su] M K := by
  obtain ⟨hn, hp⟩ := P
  refine SemC_ptr (by simp only [PP, P1, P2, P3, P4, P5, P6, P7, P8, P9, P10, P11, P12, P13, P14, L1, P15, N1, N2, N3, N4, N5, N6, N7, I1, I2, I3, I4, I5, I6, I7, reduceIte, reduceCtorEq]) ?_
  refine SemC_fn T.h37 ?_
  simp only [af37, PP, P1, P2, P3, P4, P5, P6, P7, P8, P9, P10, P11, P12, P13, P14, L1, P15, N1, N2, N3, N4, N5, N6, N7, I1, I2, I3, I4, I5, I6, I7, reduceIte, reduceCtorEq, msC_len, msC_one, msC_und, under_slM, msC_0, psub_msC, pover_msC, z9, z9t, msL_len, msL_und, msL_one, prepl_ms, limC_len, limC_one, limC_und, limC_len0, pfrzL_msC, pfrzL_limC, psub_limC, pover_limC, z8, pcells_cp, one_cp, solC_und, solC_0, solC_1, solC_2]
  refine loop2 (fun (k ver : Nat) => k ≤ pr.length) (fun k ver => [.junk, .junk, .junk, .ptr 1 0 0, .junk, .junk, .junk, .junk, .junk, .junk, slI f2 o2 .i64 pr, p64 pr.length, p64 k, .junk, .junk, .junk, .junk, .junk, .junk, .junk, .junk, .junk, .junk, .junk, .junk, .junk, .junk, .junk, .junk, .junk, .junk, .junk])
    (fun k ver => [.cells 0 0 [slI f1 o1 .u8 ow, slI f2 o2 .i64 pr, slR f3 o3 f4 o4 .i64 su], .cells 0 ver (slI f1 o1 .u8 ow :: slI f2 o2 .i64 pr :: slR f3 o3 f4 o4 .i64 su :: limC (limL (pr.take k)))])
    (fun k _ => pr.length - k) 0 0 (by omega) (by simp only [PWeak_nil, PWeak_junk, PWeak_same, Int.cast_ofNat_Int, List.length_append, List.length_cons, List.length_nil, Nat.zero_add]) rfl ?_
  intro k ver hle ih
  refine SemW_go (by kernel_rfl) ?_
  simp only [PP, P1, P2, P3, P4, P5, P6, P7, P8, P9, P10, P11, P12, P13, P14, L1, P15, N1, N2, N3, N4, N5, N6, N7, I1, I2, I3, I4, I5, I6, I7, reduceIte, reduceCtorEq]
  refine QIf.intro (fun c => ?_) (fun c => ?_)
  · have hk' : k < pr.length := by omega
    have k0 : (0 : Int) ≤ k := by omega
    have kn : (k : Int) < pr.length := by omega
    have hwk := wrap_succ (k := k) (by show _ < 1000000000000; omega)
    obtain ⟨x, g1⟩ := some_of (xs := pr) (k := k) hk'
    obtain ⟨x0, x1⟩ := hp x (List.mem_of_getElem? g1)
    have hrem : x.tmod 2 = x % 2 := Int.tmod_eq_emod_of_nonneg x0
    simp only [PP, P1, P2, P3, P4, P5, P6, P7, P8, P9, P10, P11, P12, P13, P14, L1, P15, N1, N2, N3, N4, N5, N6, N7, I1, I2, I3, I4, I5, I6, I7, reduceIte, reduceCtorEq, c, k0, kn, g1, prem (show (2 : Int) ≠ 0 by decide), hrem]
    refine QIf.intro (fun d => ?_) (fun d => ?_)
    · obtain ⟨q, hq, hq8⟩ : ∃ q : Nat, x = ((2 * q + 1 : Nat) : Int) ∧ q < 8 := ⟨(x / 2).toNat, by omega, by omega⟩
      have hquo : IntKind.i64.wrap (x.tdiv 2) = (q : Int) := by
        rw [Int.tdiv_eq_ediv_of_nonneg x0, wrap64 (by omega) (by omega)]; omega
      have hcl : (pr.take k).count ((2 * q + 1 : Nat) : Int) ≤ (pr.take k).length := List.count_le_length
      have hcl2 : (pr.take k).length ≤ pr.length := by simp; omega
      have gl := limC_at (limL_at (pr.take k) hq8)
      have hw2 := wrap_succ (k := (pr.take k).count ((2 * q + 1 : Nat) : Int)) (by show _ < 1000000000000; omega)
      have g3 : (slI f1 o1 .u8 ow :: slI f2 o2 .i64 pr :: slR f3 o3 f4 o4 .i64 su :: limC (limL (pr.take k)))[3 + q]? = some (p64 ((pr.take k).count ((2 * q + 1 : Nat) : Int))) := by rw [Nat.add_comm]; exact gl
      have g4 : ∀ y : PV, (slI f1 o1 .u8 ow :: slI f2 o2 .i64 pr :: slR f3 o3 f4 o4 .i64 su :: limC (limL (pr.take k))).set (3 + q) y = slI f1 o1 .u8 ow :: slI f2 o2 .i64 pr :: slR f3 o3 f4 o4 .i64 su :: (limC (limL (pr.take k))).set q y := fun y => by rw [Nat.add_comm]; rfl
      have q0 : (0 : Int) ≤ q := by omega
      have q8 : (q : Int) < 8 := by omega
      have q3 : 3 + q + 1 ≤ 11 := by omega
      simp only [PP, P1, P2, P3, P4, P5, P6, P7, P8, P9, P10, P11, P12, P13, P14, L1, P15, N1, N2, N3, N4, N5, N6, N7, I1, I2, I3, I4, I5, I6, I7, reduceIte, reduceCtorEq, msC_len, msC_one, msC_und, under_slM, msC_0, psub_msC, pover_msC, z9, z9t, msL_len, msL_und, msL_one, prepl_ms, limC_len, limC_one, limC_und, limC_len0, pfrzL_msC, pfrzL_limC, psub_limC, pover_limC, z8, pcells_cp, one_cp, solC_und, solC_0, solC_1, solC_2, d, k0, kn, pbin_quo _ _ _ (show (2 : Int) ≠ 0 by decide), hquo, q0, q8, q3, g3, g4, hw2, hwk]
      refine SemW_to (ih (k + 1) (ver + 1) (by omega) (by omega)) (by simp only [PWeak_nil, PWeak_junk, PWeak_same, Int.cast_ofNat_Int, List.length_append, List.length_cons, List.length_nil, Nat.zero_add]) ?_
      rw [limC_set, limL_odd g1 hq hq8]
    · simp only [PP, P1, P2, P3, P4, P5, P6, P7, P8, P9, P10, P11, P12, P13, P14, L1, P15, N1, N2, N3, N4, N5, N6, N7, I1, I2, I3, I4, I5, I6, I7, reduceIte, reduceCtorEq, d, hwk]
      refine SemW_to (ih (k + 1) ver (by omega) (by omega)) (by simp only [PWeak_nil, PWeak_junk, PWeak_same, Int.cast_ofNat_Int, List.length_append, List.length_cons, List.length_nil, Nat.zero_add]) ?_
      rw [limL_even g1 (by omega)]
  · have : k = pr.length := by omega
    subst this
    simp only [PP, P1, P2, P3, P4, P5, P6, P7, P8, P9, P10, P11, P12, P13, P14, L1, P15, N1, N2, N3, N4, N5, N6, N7, I1, I2, I3, I4, I5, I6, I7, reduceIte, reduceCtorEq, c]
    refine ⟨1, 0, ver, solC f1 o1 f2 o2 f3 o3 f4 o4 ow pr su, rfl, ?_, solC_und _, hk⟩
    rw [List.take_of_length_le (Nat.le_refl _)]; rfl
theorem limits_p {M : Mem} {K : PV → Mem → Prop} {f1 o1 f2 o2 f3 o3 f4 o4 : Bool} {ow pr : List Int} {su : List (List Int)} (P : PrOk pr) (hk : K (.agg (limC (limL pr))) M) :
    SemC tab 62 [gmP f1 o1 f2 o2 f3 o3 f4 o4 ow pr su] M K := by
  obtain ⟨hn, hp⟩ := P
  refine SemC_pure T.h62 (by simp only [PP, P1, P2, P3, P4, P5, P6, P7, P8, P9, P10, P11, P12, P13, P14, L1, P15, N1, N2, N3, N4, N5, N6, N7, I1, I2, I3, I4, I5, I6, I7, reduceIte, reduceCtorEq]) ?_
  simp only [af62, PP, P1, P2, P3, P4, P5, P6, P7, P8, P9, P10, P11, P12, P13, P14, L1, P15, N1, N2, N3, N4, N5, N6, N7, I1, I2, I3, I4, I5, I6, I7, reduceIte, reduceCtorEq, msC_len, msC_one, msC_und, under_slM, msC_0, psub_msC, pover_msC, z9, z9t, msL_len, msL_und, msL_one, prepl_ms, limC_len, limC_one, limC_und, limC_len0, pfrzL_msC, pfrzL_limC, psub_limC, pover_limC, z8, pcells_cp, one_cp, solC_und, solC_0, solC_1, solC_2]
  refine loop2 (fun (k ver : Nat) => k ≤ pr.length) (fun k ver => [.junk, .ptr 0 0 0, .ptr 1 0 0, .ptr 2 0 0, p64 k, .junk, .junk, .junk, .junk, .junk, .junk, .junk, .junk, .junk, .junk, .junk, .junk, .junk, .junk, .junk, .junk, .junk, .junk, .junk, .junk, .junk, .junk, .junk, .junk, .junk])
    (fun k ver => [.cells 0 0 [slI f1 o1 .u8 ow, slI f2 o2 .i64 pr, slR f3 o3 f4 o4 .i64 su], .cells 0 0 (limC lim0), .cells 0 ver (limC (limL (pr.take k)))])
    (fun k _ => pr.length - k) 0 0 (by omega) (by simp only [PWeak_nil, PWeak_junk, PWeak_same, Int.cast_ofNat_Int, List.length_append, List.length_cons, List.length_nil, Nat.zero_add]) rfl ?_
  intro k ver hle ih
  refine SemW_go (by kernel_rfl) ?_
  simp only [PP, P1, P2, P3, P4, P5, P6, P7, P8, P9, P10, P11, P12, P13, P14, L1, P15, N1, N2, N3, N4, N5, N6, N7, I1, I2, I3, I4, I5, I6, I7, reduceIte, reduceCtorEq]
  refine QIf.intro (fun c => ?_) (fun c => ?_)
  · have hk' : k < pr.length := by omega
    have k0 : (0 : Int) ≤ k := by omega
    have kn : (k : Int) < pr.length := by omega
    have hwk := wrap_succ (k := k) (by show _ < 1000000000000; omega)
    obtain ⟨x, g1⟩ := some_of (xs := pr) (k := k) hk'
    obtain ⟨x0, x1⟩ := hp x (List.mem_of_getElem? g1)
    have hrem : x.tmod 2 = x % 2 := Int.tmod_eq_emod_of_nonneg x0
    simp only [PP, P1, P2, P3, P4, P5, P6, P7, P8, P9, P10, P11, P12, P13, P14, L1, P15, N1, N2, N3, N4, N5, N6, N7, I1, I2, I3, I4, I5, I6, I7, reduceIte, reduceCtorEq, c, k0, kn, g1, prem (show (2 : Int) ≠ 0 by decide), hrem]
    refine QIf.intro (fun d => ?_) (fun d => ?_)
    · obtain ⟨q, hq, hq8⟩ : ∃ q : Nat, x = ((2 * q + 1 : Nat) : Int) ∧ q < 8 := ⟨(x / 2).toNat, by omega, by omega⟩
      have hquo : IntKind.i64.wrap (x.tdiv 2) = (q : Int) := by
        rw [Int.tdiv_eq_ediv_of_nonneg x0, wrap64 (by omega) (by omega)]; omega
      have hcl : (pr.take k).count ((2 * q + 1 : Nat) : Int) ≤ (pr.take k).length := List.count_le_length
      have hcl2 : (pr.take k).length ≤ pr.length := by simp; omega
      have gl := limC_at (limL_at (pr.take k) hq8)
      have hw2 := wrap_succ (k := (pr.take k).count ((2 * q + 1 : Nat) : Int)) (by show _ < 1000000000000; omega)
      have q0 : (0 : Int) ≤ q := by omega
      have q8 : (q : Int) < 8 := by omega
      have q3 : q + 1 ≤ 8 := by omega
      simp only [PP, P1, P2, P3, P4, P5, P6, P7, P8, P9, P10, P11, P12, P13, P14, L1, P15, N1, N2, N3, N4, N5, N6, N7, I1, I2, I3, I4, I5, I6, I7, reduceIte, reduceCtorEq, msC_len, msC_one, msC_und, under_slM, msC_0, psub_msC, pover_msC, z9, z9t, msL_len, msL_und, msL_one, prepl_ms, limC_len, limC_one, limC_und, limC_len0, pfrzL_msC, pfrzL_limC, psub_limC, pover_limC, z8, pcells_cp, one_cp, solC_und, solC_0, solC_1, solC_2, d, k0, kn, g1, pbin_quo _ _ _ (show (2 : Int) ≠ 0 by decide), hquo, q0, q8, q3, gl, hw2, hwk]
      refine SemW_to (ih (k + 1) (ver + 1) (by omega) (by omega)) (by simp only [PWeak_nil, PWeak_junk, PWeak_same, Int.cast_ofNat_Int, List.length_append, List.length_cons, List.length_nil, Nat.zero_add]) ?_
      rw [limC_set, limL_odd g1 hq hq8]
    · simp only [PP, P1, P2, P3, P4, P5, P6, P7, P8, P9, P10, P11, P12, P13, P14, L1, P15, N1, N2, N3, N4, N5, N6, N7, I1, I2, I3, I4, I5, I6, I7, reduceIte, reduceCtorEq, d, hwk]
      refine SemW_to (ih (k + 1) ver (by omega) (by omega)) (by simp only [PWeak_nil, PWeak_junk, PWeak_same, Int.cast_ofNat_Int, List.length_append, List.length_cons, List.length_nil, Nat.zero_add]) ?_
      rw [limL_even g1 (by omega)]
  · have : k = pr.length := by omega
    subst this
    rw [List.take_of_length_le (Nat.le_refl _)]
    simp only [PP, P1, P2, P3, P4, P5, P6, P7, P8, P9, P10, P11, P12, P13, P14, L1, P15, N1, N2, N3, N4, N5, N6, N7, I1, I2, I3, I4, I5, I6, I7, reduceIte, reduceCtorEq, msC_len, msC_one, msC_und, under_slM, msC_0, psub_msC, pover_msC, z9, z9t, msL_len, msL_und, msL_one, prepl_ms, limC_len, limC_one, limC_und, limC_len0, pfrzL_msC, pfrzL_limC, psub_limC, pover_limC, z8, pcells_cp, one_cp, solC_und, solC_0, solC_1, solC_2, c]
    exact hk
end
end Go.Am.Ar

