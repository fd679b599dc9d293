/- Views of the abstract machine's values: slices as lists. -/
import Derived.Test.YtapaimdglfefeaaAmW2
import Derived.Test.YtapaimdglfefeaaAmArgs
import Derived.Test.YtapaimdglfefeaaAmK4
set_option linter.unusedVariables false
set_option linter.unusedSimpArgs false
namespace Go.Am
theorem scrub_scrub (l : List Nat) (a : List AV) : scrub (scrub a l) l = scrub a l := by
  refine tget_extK _ _ (by rw [scrub_length]) fun i _ => ?_
  rw [scrub_get l (scrub a l), scrub_get l a]
  cases l.contains i <;> simp
theorem W_scrub (tab : FuncId → Option AF) (sc : List Nat) (x : AC) (a : List AV) (h : H) (Qn Qr : List AV → H → Prop) (Qe : Nat → List AV → H → Prop) :
    W (lim tab) (.loop sc x) a h Qn Qr Qe = W (lim tab) (.loop sc x) (scrub a sc) h Qn Qr Qe := by
  rw [W_loop _ _ _ _ _ _ _ _ (lim_code tab), W_loop _ _ _ (scrub a sc) _ _ _ _ (lim_code tab), scrub_scrub]
theorem W_round (tab : FuncId → Option AF) (sc : List Nat) (x : AC) (a : List AV) (h : H) (Qn Qr : List AV → H → Prop) (Qe : Nat → List AV → H → Prop) :
    W (lim tab) (.loop sc x) a h Qn Qr Qe = W (lim tab) x (scrub a sc) h (WL (lim tab) sc x Qn Qr Qe) Qr Qe := W_loop _ _ _ _ _ _ _ _ (lim_code tab)
def SlV (v : AV) (vs : List AV) (h : H) : Prop :=
  (v = .nilslice ∧ vs = []) ∨ ∃ fl b o ver rw cs, v = .slice fl 1 b o vs.length ∧ h.get b = some (.cells ver rw cs) ∧ o + vs.length ≤ cs.length ∧ (cs.drop o).take vs.length = vs
def OwV (v : AV) (vs : List AV) (h : H) : Prop := ∃ fl b ver, v = .slice fl 1 b 0 vs.length ∧ h.get b = some (.cells ver true vs)
def AV.blk : AV → Nat
  | .slice _ _ b _ _ => b
  | .ptr b _ => b
  | _ => 0
def AV.off : AV → Nat
  | .slice _ _ _ o _ => o
  | .ptr _ o => o
  | _ => 0
theorem OwV.sl {v : AV} {vs : List AV} {h : H} (hs : OwV v vs h) : SlV v vs h := by
  obtain ⟨fl, b, ver, rfl, hg⟩ := hs
  exact .inr ⟨fl, b, 0, ver, true, vs, rfl, hg, by omega, by simp⟩
theorem SlV.mono {v : AV} {vs : List AV} {h h' : H} (hs : SlV v vs h) (g : Grows h h') : SlV v vs h' := by
  rcases hs with hs | ⟨fl, b, o, ver, rw, cs, h1, h2, h3, h4⟩
  · exact .inl hs
  · exact .inr ⟨fl, b, o, ver, rw, cs, h1, g.get _ _ h2, h3, h4⟩
theorem SlV.nil (h : H) : SlV .nilslice [] h := .inl ⟨rfl, rfl⟩
theorem SlV.plen {v : AV} {vs : List AV} {h : H} (hs : SlV v vs h) (k : AV → Prop) : PLen v k = k (i64 vs.length) := by
  rcases hs with ⟨rfl, rfl⟩ | ⟨fl, b, o, ver, rw, cs, rfl, h2, h3, h4⟩
  · rw [PLen_nil]; rfl
  · rw [PLen_slice]
theorem SlV.pidx {v : AV} {vs : List AV} {h : H} (hs : SlV v vs h) {i : Nat} (hi : i < vs.length) (kd : IntKind) (k : AV → Prop) : PIdx 1 v (.int kd (i : Int)) k = k (.ptr v.blk (v.off + i)) := by
  rcases hs with ⟨rfl, rfl⟩ | ⟨fl, b, o, ver, rw, cs, rfl, h2, h3, h4⟩
  · simp at hi
  · unfold PIdx
    rw [PSlice_slice, PInt_int]
    have : ((i : Int).toNat) = i := by simp
    simp only [this, Nat.mul_one, AV.blk, AV.off]
    simp only [eq_iff_iff, and_iff_right_iff_imp]
    intro _
    exact ⟨trivial, by omega, by omega⟩
theorem SlV.cell {v : AV} {vs : List AV} {h : H} (hs : SlV v vs h) {i : Nat} (hi : i < vs.length) : getCell h v.blk (v.off + i) = some vs[i] := by
  rcases hs with ⟨rfl, rfl⟩ | ⟨fl, b, o, ver, rw, cs, rfl, h2, h3, h4⟩
  · simp at hi
  · show getCell h b (o + i) = _
    unfold getCell
    rw [h2]
    simp only
    have : ((cs.drop o).take vs.length)[i]? = vs[i]? := by rw [h4]
    rw [List.getElem?_take, if_pos hi, List.getElem?_drop, List.getElem?_eq_getElem hi] at this
    exact this
end Go.Am
