/- A second evaluator of the abstract machine, made for the kernel: the temporaries stand in a tree, and nothing is put off. What it answers, the first answers too. -/
import Derived.Test.YtbcdfmecpjbeaaaDoorAmBase
set_option linter.unusedVariables false
set_option linter.unusedSimpArgs false
namespace Go.Am

inductive TT where
  | leaf
  | node (v : AV) (l r : TT)

def TT.get : TT → Nat → AV
  | .leaf, _ => .junk
  | .node v l r, i => bif Nat.beq i 0 then v else bif Nat.beq (Nat.mod i 2) 1 then l.get (Nat.div i 2) else r.get (Nat.sub (Nat.div i 2) 1)

theorem TT.get_node (y : AV) (l r : TT) (j : Nat) : (TT.node y l r).get j = if j = 0 then y else if j % 2 = 1 then l.get (j / 2) else r.get (j / 2 - 1) := by
  show (bif Nat.beq j 0 then y else bif Nat.beq (j % 2) 1 then l.get (j / 2) else r.get (j / 2 - 1)) = _
  by_cases hj : j = 0
  · subst hj; rfl
  · have : Nat.beq j 0 = false := by cases j with
      | zero => exact absurd rfl hj
      | succ j => rfl
    rw [this, cond_false, if_neg hj]
    by_cases hp : j % 2 = 1
    · rw [hp]; rfl
    · have hz : j % 2 = 0 := by omega
      rw [hz]; rfl

/-- The tree with another value, handed on. -/
def TT.setK {β : Type} (v : AV) : Nat → TT → Nat → (TT → Option β) → Option β
  | 0, _, _, _ => none
  | fuel + 1, .leaf, i, k => bif Nat.beq i 0 then k (.node v .leaf .leaf) else bif Nat.beq (Nat.mod i 2) 1 then TT.setK v fuel .leaf (Nat.div i 2) (fun t => k (.node .junk t .leaf)) else TT.setK v fuel .leaf (Nat.sub (Nat.div i 2) 1) (fun t => k (.node .junk .leaf t))
  | fuel + 1, .node x l r, i, k => bif Nat.beq i 0 then k (.node v l r) else bif Nat.beq (Nat.mod i 2) 1 then TT.setK v fuel l (Nat.div i 2) (fun t => k (.node x t r)) else TT.setK v fuel r (Nat.sub (Nat.div i 2) 1) (fun t => k (.node x l t))

theorem TT.setK_ok {β : Type} {v : AV} : ∀ {fuel : Nat} {t : TT} {i : Nat} {k : TT → Option β} {b : β}, TT.setK v fuel t i k = some b →
    ∃ t', k t' = some b ∧ ∀ j, t'.get j = if j = i then v else t.get j := by
  intro fuel
  induction fuel with
  | zero => intro t i k b h; cases h
  | succ fuel ih =>
    intro t i k b h
    have key : ∀ (x : AV) (l r : TT), (∀ j, (TT.node x l r).get j = t.get j) →
        (bif Nat.beq i 0 then k (.node v l r) else bif Nat.beq (Nat.mod i 2) 1 then TT.setK v fuel l (Nat.div i 2) (fun t => k (.node x t r)) else TT.setK v fuel r (Nat.sub (Nat.div i 2) 1) (fun t => k (.node x l t))) = some b →
        ∃ t', k t' = some b ∧ ∀ j, t'.get j = if j = i then v else t.get j := by
      intro x l r ht h
      have e1 : Nat.mod i 2 = i % 2 := rfl
      have e2 : Nat.div i 2 = i / 2 := rfl
      have e3 : Nat.sub (i / 2) 1 = i / 2 - 1 := rfl
      by_cases h0 : i = 0
      · subst h0
        simp only [Nat.beq, cond_true] at h
        refine ⟨_, h, fun j => ?_⟩
        by_cases hj : j = 0
        · subst hj; simp [TT.get]
        · rw [if_neg hj, ← ht j, TT.get_node, TT.get_node, if_neg hj, if_neg hj]
      · have hb0 : Nat.beq i 0 = false := by cases i with
          | zero => exact absurd rfl h0
          | succ i => rfl
        rw [hb0, cond_false] at h
        by_cases h1 : i % 2 = 1
        · rw [e1, h1] at h
          have : Nat.beq 1 1 = true := rfl
          rw [this, cond_true, e2] at h
          obtain ⟨t', h2, h3⟩ := ih h
          refine ⟨_, h2, fun j => ?_⟩
          rw [← ht j, TT.get_node, TT.get_node]
          by_cases hj0 : j = 0
          · rw [if_pos hj0, if_neg (by omega), if_pos hj0]
          · rw [if_neg hj0, if_neg hj0]
            by_cases hj1 : j % 2 = 1
            · rw [if_pos hj1, if_pos hj1, h3]
              by_cases e : j = i
              · subst e; simp
              · rw [if_neg (by omega), if_neg e]
            · rw [if_neg hj1, if_neg (by omega), if_neg hj1]
        · have h1' : i % 2 = 0 := by omega
          rw [e1, h1'] at h
          have : Nat.beq 0 1 = false := rfl
          rw [this, cond_false, e2, e3] at h
          obtain ⟨t', h2, h3⟩ := ih h
          refine ⟨_, h2, fun j => ?_⟩
          rw [← ht j, TT.get_node, TT.get_node]
          by_cases hj0 : j = 0
          · rw [if_pos hj0, if_neg (by omega), if_pos hj0]
          · rw [if_neg hj0, if_neg hj0]
            by_cases hj1 : j % 2 = 1
            · rw [if_pos hj1, if_neg (by omega), if_pos hj1]
            · rw [if_neg hj1, if_neg hj1, h3]
              by_cases e : j = i
              · subst e; simp
              · rw [if_neg (by omega), if_neg e]
    cases t with
    | leaf => exact key .junk .leaf .leaf (fun j => by unfold TT.get; cases Nat.beq j 0 <;> cases Nat.beq (Nat.mod j 2) 1 <;> rfl) h
    | node x l r => exact key x l r (fun _ => rfl) h

/-! ### Nothing is put off -/
def fNat {β : Type} (m : Nat) (k : Nat → Option β) : Option β := Nat.casesOn m (k 0) (fun p => k (Nat.succ p))
def fInt {β : Type} (n : Int) (k : Int → Option β) : Option β := Int.casesOn n (fun m => fNat m fun m => k (.ofNat m)) (fun m => fNat m fun m => k (.negSucc m))
theorem fNat_eq {β : Type} (m : Nat) (k : Nat → Option β) : fNat m k = k m := by cases m <;> rfl
theorem fInt_eq {β : Type} (n : Int) (k : Int → Option β) : fInt n k = k n := by cases n <;> simp [fInt, fNat_eq]

def fBool {β : Type} (b : Bool) (k : Bool → Option β) : Option β := Bool.casesOn b (k false) (k true)
theorem fBool_eq {β : Type} (b : Bool) (k : Bool → Option β) : fBool b k = k b := by cases b <;> rfl

/-- A plain value. -/
def fV1 {β : Type} (v : AV) (k : AV → Option β) : Option β :=
  match v with
  | .bool b => fBool b fun b => k (.bool b)
  | .int kd n => fInt n fun n => k (.int kd n)
  | .ptr b o => fNat b fun b => fNat o fun o => k (.ptr b o)
  | .slice fl sz b o n => fBool fl fun fl => fNat sz fun sz => fNat b fun b => fNat o fun o => fNat n fun n => k (.slice fl sz b o n)
  | .junk => k .junk
  | .str s => k (.str s)
  | .nilptr => k .nilptr
  | .nilslice => k .nilslice
  | .nilmap => k .nilmap
  | .map r => fNat r fun r => k (.map r)
  | .func f a b => k (.func f a b)
  | .nilfunc => k .nilfunc
  | .iface t v => k (.iface t v)
  | .niliface => k .niliface
  | .agg cs => k (.agg cs)
  | .tuple vs => k (.tuple vs)
theorem fV1_eq {β : Type} (v : AV) (k : AV → Option β) : fV1 v k = k v := by cases v <;> simp [fV1, fNat_eq, fInt_eq, fBool_eq]

def fL {β : Type} : List AV → (List AV → Option β) → Option β
  | [], k => k []
  | x :: xs, k => fV1 x fun x => fL xs fun xs => k (x :: xs)
theorem fL_eq {β : Type} : ∀ (l : List AV) (k : List AV → Option β), fL l k = k l
  | [], _ => rfl
  | x :: xs, k => by simp [fL, fV1_eq, fL_eq xs]

def fV {β : Type} (v : AV) (k : AV → Option β) : Option β :=
  match v with
  | .agg cs => fL cs fun cs => k (.agg cs)
  | .tuple vs => fL vs fun vs => k (.tuple vs)
  | .func f a b => fL a fun a => fL b fun b => k (.func f a b)
  | v => fV1 v k
theorem fV_eq {β : Type} (v : AV) (k : AV → Option β) : fV v k = k v := by cases v <;> simp [fV, fL_eq, fV1_eq]

def fObj {β : Type} (o : AObj) (k : AObj → Option β) : Option β :=
  match o with
  | .cells ver rw cs => fNat ver fun ver => fL cs fun cs => k (.cells ver rw cs)
  | .map ver es => k (.map ver es)
  | .loop ver r => fNat ver fun ver => k (.loop ver r)
  | .dead => k .dead
theorem fObj_eq {β : Type} (o : AObj) (k : AObj → Option β) : fObj o k = k o := by cases o <;> simp [fObj, fL_eq, fNat_eq]

/-- The heap's tree, written out along the road to one object. -/
def fHT {β : Type} : Nat → HT → Nat → (HT → Option β) → Option β
  | 0, t, _, k => k t
  | fuel + 1, .leaf, _, k => k .leaf
  | fuel + 1, .node v l r, i, k => bif Nat.beq i 0 then (match v with | some o => fObj o fun o => k (.node (some o) l r) | none => k (.node none l r))
    else bif Nat.beq (Nat.mod i 2) 1 then fHT fuel l (Nat.div i 2) (fun l => k (.node v l r)) else fHT fuel r (Nat.sub (Nat.div i 2) 1) (fun r => k (.node v l r))
theorem fHT_eq {β : Type} : ∀ (fuel : Nat) (t : HT) (i : Nat) (k : HT → Option β), fHT fuel t i k = k t
  | 0, _, _, _ => rfl
  | fuel + 1, .leaf, _, _ => rfl
  | fuel + 1, .node v l r, i, k => by
    unfold fHT
    cases Nat.beq i 0 with
    | true => cases v <;> simp [fObj_eq]
    | false => cases Nat.beq (Nat.mod i 2) 1 <;> simp [fHT_eq fuel]

def fH {β : Type} (h : H) (i : Nat) (k : H → Option β) : Option β := match h with | ⟨n, t⟩ => fNat n fun n => fHT 40 t i fun t => k ⟨n, t⟩
theorem fH_eq {β : Type} (h : H) (i : Nat) (k : H → Option β) : fH h i k = k h := by cases h; simp [fH, fNat_eq, fHT_eq]

end Go.Am
