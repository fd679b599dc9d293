/- The law on all lists of plain data. -/
import Derived.Test.YtjkmbpaobkhlnaaMzArLong
set_option linter.unusedVariables false
set_option linter.unusedSimpArgs false
namespace Go.Am.Ar

theorem sh_list {E : Ty} (hE : E.size = 1) {cs : List AV} {h : H} (hs : Sh (.slice E) cs h) : ∃ v cells, cs = [v] ∧ SlV v cells h ∧ ∀ c ∈ cells, Sh E [c] h := by
  rcases hs with rfl | ⟨b, n, cells, rfl, h2, h3, h4, h5⟩
  · exact ⟨.nilslice, [], rfl, .nil h, fun c hc => by cases hc⟩
  · rw [hE, Nat.mul_one] at h4
    subst h4
    rw [hE]
    refine ⟨_, cells, rfl, .inr ⟨false, b, 0, 0, false, cells, rfl, h3, by simp, by simp⟩, fun c hc => ?_⟩
    obtain ⟨i, hi, rfl⟩ := List.getElem_of_mem hc
    have := h5 i hi
    rw [hE, Nat.mul_one, List.drop_eq_getElem_cons hi] at this
    exact this

theorem ints_of {k : IntKind} {h : H} : ∀ {cells : List AV}, (∀ c ∈ cells, Sh (.int k) [c] h) → ∃ xs : List Int, cells = xs.map (AV.int k)
  | [], _ => ⟨[], rfl⟩
  | c :: cells, hc => by
    obtain ⟨xs, e⟩ := ints_of (cells := cells) (fun c' h' => hc c' (List.mem_cons_of_mem _ h'))
    obtain ⟨n, e1, _⟩ := hc c (by simp)
    cases e1
    exact ⟨n :: xs, by simp [e]⟩

theorem sh_ints {k : IntKind} {cs : List AV} {h : H} (hs : Sh (.slice (.int k)) cs h) : ∃ v, ∃ xs : List Int, cs = [v] ∧ SlV v (xs.map (AV.int k)) h := by
  obtain ⟨v, cells, e, h1, h2⟩ := sh_list rfl hs
  obtain ⟨xs, rfl⟩ := ints_of h2
  exact ⟨v, xs, e, h1⟩

theorem rows_of {k : IntKind} {h : H} : ∀ {cells : List AV}, (∀ c ∈ cells, Sh (.slice (.int k)) [c] h) → ∃ su : List (List Int), cells.length = su.length ∧ ∀ i (h1 : i < cells.length) (h2 : i < su.length), SlV cells[i] (su[i].map (AV.int k)) h
  | [], _ => ⟨[], rfl, fun i h1 => by simp at h1⟩
  | c :: cells, hc => by
    obtain ⟨su, e1, e2⟩ := rows_of (cells := cells) (fun c' h' => hc c' (List.mem_cons_of_mem _ h'))
    obtain ⟨v, xs, e, h1⟩ := sh_ints (hc c (by simp))
    cases e
    refine ⟨xs :: su, by simp [e1], fun i h1' h2' => ?_⟩
    cases i with
    | zero => exact h1
    | succ i => exact e2 i (by simpa using h1') (by simpa using h2')

/-- The type of games. -/
abbrev gameTy : Ty := .pair (.slice (.int .u8)) (.pair (.slice (.int .i64)) (.pair (.slice (.slice (.int .i64))) .unit))

theorem sh_game {cs : List AV} {h : H} (hs : Sh gameTy cs h) : ∃ vo vp vs rs, ∃ (ow pr : List Int) (su : List (List Int)), cs = [vo, vp, vs] ∧ SlV vo (ow.map u8) h ∧ SlV vp (pr.map i64) h ∧ SlV vs rs h ∧ rs.length = su.length ∧
    ∀ i (h1 : i < rs.length) (h2 : i < su.length), SlV rs[i] (su[i].map i64) h := by
  obtain ⟨c1, c2, rfl, h1, c3, c4, rfl, h2, c5, c6, rfl, h3, h4⟩ := hs
  have h4 : c6 = [] := h4
  subst h4
  obtain ⟨vo, ow, rfl, p1⟩ := sh_ints h1
  obtain ⟨vp, pr, rfl, p2⟩ := sh_ints h2
  obtain ⟨vs, rs, rfl, p3, p4⟩ := sh_list rfl h3
  obtain ⟨su, p5, p6⟩ := rows_of p4
  exact ⟨vo, vp, vs, rs, ow, pr, su, rfl, p1, p2, p3, p5, p6⟩

theorem run_of_C {tab : FuncId → Option AF} {g : FuncId} {args : List AV} {h : H} (hc : C (lim tab) g args h fun v _ => v = .bool true) : ∃ n h', (run tab n).call g args h = some (.bool true, h') := by
  unfold C at hc
  obtain ⟨v, h', he, rfl⟩ := hc
  obtain ⟨n, hn⟩ := (lim_call_iff tab).1 he
  exact ⟨n, h', hn⟩

theorem playsMatch_all {tab : FuncId → Option AF} (T : Has tab) (args : List AV) (h : H) (hs : ShVs [gameTy, .slice (.int .i64), .int .i64, .slice (.int .i64)] args h) :
    ∃ n h', (run tab n).call 14 args h = some (.bool true, h') := by
  cases args with
  | nil => exact hs.elim
  | cons a args =>
    obtain ⟨ha, hs⟩ := hs
    cases args with
    | nil => exact hs.elim
    | cons b args =>
      obtain ⟨hb, hs⟩ := hs
      cases args with
      | nil => exact hs.elim
      | cons c args =>
        obtain ⟨hc, hs⟩ := hs
        cases args with
        | nil => exact hs.elim
        | cons d args =>
          obtain ⟨hd, hs⟩ := hs
          cases args with
          | cons e args => exact hs.elim
          | nil =>
            obtain ⟨as, h1, rfl⟩ := ha
            obtain ⟨bs, h2, rfl⟩ := hb
            obtain ⟨cs, h3, rfl⟩ := hc
            obtain ⟨ds, h4, rfl⟩ := hd
            obtain ⟨vo, vp, vs, rs, ow, pr, su, rfl, p1, p2, p3, p4, p5⟩ := sh_game h1
            obtain ⟨sv, st, rfl, q1⟩ := sh_ints h2
            obtain ⟨start, rfl, _⟩ := h3
            obtain ⟨lv, lo, rfl, q2⟩ := sh_ints h4
            exact run_of_C (playsMatch T p1 p2 p3 p4 p5 q1 q2)
end Go.Am.Ar
